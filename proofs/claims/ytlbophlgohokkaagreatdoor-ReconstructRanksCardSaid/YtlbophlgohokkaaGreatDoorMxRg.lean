/-
  Calls that write some of what was there; a select with a default; rows that are shortened.
-/
import Derived.Test.YtlbophlgohokkaaGreatDoorMxUtf
import Derived.Test.YtlbophlgohokkaaGreatDoorMxWord
import Derived.Test.YtlbophlgohokkaaGreatDoorNaC
set_option linter.all false
namespace Go.Mx
open Go
variable {N i n n1 n2 z:Nat} {h h' h1:T O} {l:List (List V)} {r:T V} {v:V} {w:List Nat}
structure Upd (D:Nat→Prop) (h:T O) (n:Nat) (h':T O) (n':Nat):Prop where
 le:n≤n'
 get:∀i,i<n→¬D i→h'.get i=h.get i
theorem Upd.refl{D:Nat→Prop}:Upd D h n h n:=⟨Yoy _,fun _ _ _=>rfl⟩
theorem Keeps.upd{D:Nat→Prop}{n':Nat}(k:Keeps h n h' n'):Upd D h n h' n':=⟨k.le,fun i hi _=>k.get i hi⟩
theorem Upd.trans{D:Nat→Prop}{h2:T O}(a:Upd D h n h1 n1)(b:Upd D h1 n1 h2 n2):Upd D h n h2 n2:=
 ⟨Yqk a.le b.le,fun i hi hd=>(b.get i (Yo8 hi a.le) hd).trans (a.get i hi hd)⟩
theorem Upd.then{D D2:Nat→Prop}{h2:T O}(a:Upd D h n h1 n1)(b:Upd D2 h1 n1 h2 n2)(hd:∀i,i<n→D2 i→D i):Upd D h n h2 n2:=
 ⟨Yqk a.le b.le,fun i hi hn=>(b.get i (Yo8 hi a.le) fun hc=>hn (hd i hi hc)).trans (a.get i hi hn)⟩
theorem Upd.mono{D D2:Nat→Prop}(a:Upd D h n h1 n1)(hd:∀i,i<n→D i→D2 i):Upd D2 h n h1 n1:=⟨a.le,fun i hi hn=>a.get i hi fun hc=>hn (hd i hi hc)⟩
theorem Upd.set{D:Nat→Prop}{o:O}(a:Upd D h n h1 n1)(hi:D i∨n≤i):Upd D h n (h1.set i o) n1:=
 ⟨a.le,fun j hj hd=>by
  rw[T.get_set,Yo0 ?_]
  ·exact a.get j hj hd
  ·rintro rfl
   rcases hi with hi|hi
   ·exact hd hi
   ·omega⟩
theorem Upd.up{D:Nat→Prop}(a:Upd D h n h1 n1)(hn:n1≤n2):Upd D h n h1 n2:=⟨Yqk a.le hn,a.get⟩
theorem Upd.new{D:Nat→Prop}(a:Upd D h n h1 n1)(o:O):Upd D h n (h1.set n1 o) (n1+1):=(a.set (.inr a.le)).up (Ysg _)
theorem Upd.keeps{D:Nat→Prop}{m:Nat}(a:Upd D h n h1 n1)(hm:m≤n)(hd:∀i,D i→m≤i):Keeps h m h1 n1:=⟨Yqk hm a.le,fun i hi=>a.get i (Yo8 hi hm) fun hc=>by have:=hd i hc;omega⟩
theorem Zh6{N i:Nat}:∀{w:List Nat},i∈Zaa N w→i∈w∧i<N
 |[],h=>by simp[Zaa]at h
 |j::w,h=>by
  simp only[Zaa]at h
  split at h
  ·unfold Ze9 at h
   split at h
   ·have:=Zh6 h;exact⟨Ypo _ this.1,this.2⟩
   ·rcases Ypy.1 h with h|h
    ·subst h;exact⟨Ypw,by assumption⟩
    ·have:=Zh6 h;exact⟨Ypo _ this.1,this.2⟩
  ·have:=Zh6 h;exact⟨Ypo _ this.1,this.2⟩
theorem Zvs:Zaa N []=[]:=rfl
attribute [simp] Zvs
theorem Zj0(h:∀i∈w,N≤i):Zaa N w=[]:=Znk h
def selV2(st:St)(i:Nat)(send:Option V)(zero:V):Option O→Option (V×St)
 |some (.chan cap buf)=>match send with
  |some v=>if buf.length<cap then some (.tup [.int .i64 0,.bool false],st.write i (.chan cap (buf++[v]))) else some (.tup [.int .i64 (-1),.bool false],st)
  |none=>match buf with
   |v::buf=>some (.tup [.int .i64 0,.bool true,v],st.write i (.chan cap buf))
   |[]=>some (.tup [.int .i64 (-1),.bool false,zero],st)
 |_=>none
theorem Yj4{st:St}{send:Option V}{zero:V}:Ylm st i send zero=selV2 st i send zero (st.h.get i):=by
 unfold Ylm selV2
 rcases st.h.get i with _|o
 ·rfl
 ·cases o with
  |chan cap buf=>cases send with
   |some v=>rfl
   |none=>cases buf<;>rfl
  |_=>cases send<;>rfl
def Yln(C:Cx)(K:List Kf)(Q:Rs→Prop)(d:Nat)(ops:List Zbc)(r:T V)(n:Nat)(m:List Nat):Option (V×St)→Prop
 |some (v,st1)=>Run C (.reg::K) (Ybn (mops C.call ops ⟨r.set d v,n,m⟩ st1)) Q
 |none=>False
def Yl2(C:Cx)(K:List Kf)(Q:Rs→Prop)(d:Nat)(ops:List Zbc)(r:T V)(n:Nat)(m:List Nat)(st:St)(zero:V):Option V→Option (Option V)→Prop
 |some (.chan i),some sv=>Yln C K Q d ops r n m (selV2 st i sv zero (st.h.get i))
 |_,_=>False
theorem Yce{C:Cx}{K:List Kf}{Q:Rs→Prop}{ro:Option Nat}{d:Nat}{ch:Src}{send:Option Src}{zero:V}{ops:List Zbc}{m:List Nat}{st:St}(hd:d<n):Run C K (exR (C.code ro (.regS (some d) ch send zero ops) ⟨r,n,m⟩ st)) Q↔Yl2 C K Q d ops r n m st zero (ch.ev r) (evOpt r send):=by
 have e:C.code ro (.regS (some d) ch send zero ops) ⟨r,n,m⟩ st=Zgy (some d) ch send zero ops C.call C.code ro ⟨r,n,m⟩ st:=Cx.code_eq ..
 rw[e]
 unfold Zgy Yl2
 simp only[]
 rcases ch.ev r with _|v
 ·exact Zg8
 ·cases v<;>try exact Zg8
  rename_i i
  rcases evOpt r send with _|sv
  ·exact Zg8
  ·simp only[Yj4]
   rcases selV2 st i sv zero (st.h.get i)with _|⟨v,st1⟩
   ·exact Zg8
   ·simp only[Fr.put,hd,if_true,Yln]
    refine Zat ?_
    show _=unw C K (Zd1 C .reg (Ybn (mops C.call ops ⟨r.set d v,n,m⟩ st1)))
    rcases mops C.call ops ⟨r.set d v,n,m⟩ st1 with _|⟨_,_⟩<;>rfl
theorem Zyf{C K Q d ops r n m st zero i sv}:Yl2 C K Q d ops r n m st zero (some (.chan i)) (some sv)=Yln C K Q d ops r n m (selV2 st i sv zero (st.h.get i)):=rfl
theorem Zye{C K Q d ops r n m v st1}:Yln C K Q d ops r n m (some (v,st1))=Run C (.reg::K) (Ybn (mops C.call ops ⟨r.set d v,n,m⟩ st1)) Q:=rfl
theorem Zve{st:St}{cap:Nat}{buf:List V}{zero:V}:selV2 st i none zero (some (.chan cap (v::buf)))=some (.tup [.int .i64 0,.bool true,v],st.write i (.chan cap buf)):=rfl
theorem Zyd{st:St}{cap:Nat}{zero:V}:selV2 st i none zero (some (.chan cap []))=some (.tup [.int .i64 (-1),.bool false,zero],st):=rfl
attribute [simp] Yce Zyf Zye Zve Zyd
def Ydf(st:St)(bytes:Nat):Option V→Option (V×St)
 |some (.int _ k)=>if k<0∨k > IntKind.i64.max∨bytes*k > 2^48-112 then none else some (.chan st.n,st.alloc (.chan k.toNat []))
 |_=>none
theorem Zr1{bytes:Nat}{x:Src}{call:Zay}{st:St}:Zd4 bytes x call r st=Ydf st bytes (x.ev r):=by unfold Zd4 Ydf;rfl
theorem Zwa{st:St}{kk:IntKind}{k:Int}(h0:0≤k)(h1:k≤100):Ydf st 16 (some (.int kk k))=some (.chan st.n,st.alloc (.chan k.toNat [])):=by
 unfold Ydf
 simp only[]
 rw[Yo0]
 have:IntKind.i64.max=9223372036854775807:=rfl
 omega
attribute [simp] Zr1 Zwa
def Zcl:V→List Nat
 |.slice i _ _ _ _=>[i]
 |_=>[]
theorem Sl.moved{D:Nat→Prop}{N':Nat}{l:List V}(s:Sl h N v l)(k:Upd D h N h' N')(hd:∀i∈Zcl v,¬D i):Sl h' N' v l:=by
 rcases s with s|⟨i,o,cp,c,e,rw,rfl,h2,h3,h4⟩
 ·exact .inl s
 ·exact .inr ⟨i,o,cp,c,e,rw,rfl,Yo8 h2 k.le,(k.get i h2 (hd i (by simp[Zcl]))).trans h3,h4⟩
def Row(z:Nat)(e:TypeId)(h:T O)(v:V)(l:List (List V)):Prop:=(∀x∈l,x.length=z)∧((l=[]∧v=.nilslice)∨∃i x m,v=.slice i 0 l.length none z∧x.length=m*z∧h.get i=some (.cells (l.flatten++x) e true))
theorem Row.len{e:TypeId}(s:Row z e h v l):Zl4 v=some l.length:=by
 obtain⟨_,⟨rfl,rfl⟩|⟨i,x,m,rfl,_⟩⟩:=s<;>rfl
theorem Row.eq{e:TypeId}(s:Row z e h v l)(k:∀i∈Zcl v,h'.get i=h.get i):Row z e h' v l:=by
 obtain⟨h1,⟨rfl,rfl⟩|⟨i,x,m,rfl,hm,h2⟩⟩:=s
 ·exact⟨h1,.inl ⟨rfl,rfl⟩⟩
 ·exact⟨h1,.inr ⟨i,x,m,rfl,hm,(k i (by simp[Zcl])).trans h2⟩⟩
theorem Row.sn{e:TypeId}(s:Row z e h v l)(k:∀i∈Zcl v,i<N):Sn z h N v l:=by
 obtain⟨hl,⟨h1,h2⟩|⟨i,x,m,rfl,_,h4⟩⟩:=s
 ·exact .inl ⟨h1,.inl h2⟩
 ·refine .inr ⟨i,0,none,_,e,true,rfl,k i (by simp[Zcl]),h4,fun j y hj=>?_,by rw[Ypm,Zbz hl];omega,fun k hk=>by cases hk⟩
  have:=Zev hl hj
  obtain⟨q1,q2⟩:=Zoa this
  rw[Yq7]
  unfold slc
  rw[Yo4 (by rw[Ypm];omega),List.drop_append_of_le_length (by omega),List.take_append_of_le_length (by rw[Yqu];omega),←q2]
theorem Zk3(l:List (List V))(x:List V):(l++[x]).flatten=l.flatten++x:=by simp
def Yk7(st:St)(size:Nat)(zero:List V):Option V→Option (V×St)
 |some v=>Zhb size zero (.const v) Zo2 .nil st
 |none=>none
structure Yow (z bytes:Nat) (e:TypeId) (zero:List V) (h:T O) (N:Nat) (v:V) (l:List (List V)) (k:Nat) (v1 v2 v3 v4:V) (h3 h4:T O) (w3:List Nat):Prop where
 a:∀w,∃u,Zck ⟨h,N,w⟩ z (some v) (some (some (.int .i64 k))) (some (some (.int .i64 ((k:Int)+1)))) (some (some (.int .i64 l.length)))=some (u,⟨h,N,w⟩)
 b:∀w,Zck ⟨h,N,w⟩ z (some v) (some none) (some (some (.int .i64 k))) (some none)=some (v1,⟨h,N,w⟩)
 c:∀w,Zck ⟨h,N,w⟩ z (some v) (some (some (.int .i64 ((k:Int)+1)))) (some none) (some none)=some (v2,⟨h,N,w⟩)
 d:∀w,Zb2 ⟨h,N,w⟩ z bytes e v1 v2=some (v3,⟨h3,N,w3++w⟩)
 len:Zl4 v3=some (l.length-1)
 f:∀w,Zck ⟨h3,N,w⟩ z (some v3) (some (some (.int .i64 ((l.length-1:Nat):Int)))) (some (some (.int .i64 l.length))) (some none)=some (v4,⟨h3,N,w⟩)
 g:∀w,∃i,i∈Zcl v∧Yk7 ⟨h3,N,w⟩ z zero (some v4)=some (.tup [],⟨h4,N,i::w⟩)
 w:∀i∈w3,i∈Zcl v
 upd:Upd (fun i=>i∈Zcl v) h N h4 N
 ids:Zcl v3=Zcl v
 row:Row z e h4 v3 (l.take k++l.drop (k+1))
def Yeh(st:St)(size:Nat):Option V→Option V→Option (V×St)
 |some d,some s=>Zfy size (.const d) (.const s) Zo2 .nil st
 |_,_=>none
theorem Zy1{size:Nat}{d s:Src}{call:Zay}{st:St}:Zfy size d s call r st=Yeh st size (d.ev r) (s.ev r):=by
 unfold Zfy Yeh
 rcases d.ev r with _|d
 ·rfl
 ·rcases s.ev r with _|s<;>rfl
theorem Zxd{cp:Option Nat}{c xs:List V}{e:TypeId}{s:V}(hn:0<n)(hs:Zaw ⟨h,N,w⟩ 1 s=some (n,xs))(hx:xs.length=n)(hg:h.get i=some (.cells c e true))(hc:c.length=n):Yeh ⟨h,N,w⟩ 1 (some (.slice i 0 n cp 1)) (some s)=some (.int .i64 n,⟨h.set i (.cells xs e true),N,i::w⟩):=by
 have hn0:¬n=0:=by omega
 have hd:c.drop n=[]:=List.drop_of_length_le (by omega)
 have ht:xs.take n=xs:=Yo7 (by omega)
 simp only[Yeh,Zfy,Src.ev,hs,St.row,hg]
 simp[hn0,hc,splice,St.write,ht,hx,hd]
attribute [simp] Zy1
def Zo7(e:TypeId)(Y:V→Prop)(h:T O)(u:V):Prop:=∀i∈Zcl u,∃z,h.get i=some (.cells z e true)∧z≠[]∧∀y∈z,Y y
theorem Zo7.nil{e:TypeId}{Y:V→Prop}:Zo7 e Y h .nilslice:=fun i hi=>by simp[Zcl]at hi
theorem Zcy{e:TypeId}{N0:Nat}{u:V}{x:List V}{bytes:Nat}{Y:V→Prop}(s:Own z e N0 h N v l)(hn:l=[]→v=.nilslice)(hY:∀c∈l,∀y∈c,Y y)(hN:N0≤N)(hz:0<z)(hx:x.length=z)
  (hu:Zaw ⟨h,N,w⟩ z u=some (1,x)) (hb:(2*(l.length+1)+1000)*bytes≤281474976710656):
  ∃v' h' w',Zb2 ⟨h,N,w⟩ z bytes e v u=some (v',⟨h',N+1,w'⟩)∧Zaa N0 w'=Zaa N0 w∧Keeps h N0 h' (N+1)∧Upd (fun i=>i∈Zcl v) h N h' (N+1)∧Zo7 e Y h v∧Own z e N0 h' (N+1) v' (l++[x]):=by
 obtain⟨v',h',w',f1,f2,f3,f4,f5⟩:=Zbi s hN hz hx hu hb
 refine⟨v',h',w',f1,f2,f3,⟨Ysg _,fun j hj hd=>?_⟩,fun i hi=>?_,f5⟩
 ·rcases f4 j with h1|h1|⟨o,n,c,q,h1⟩
  ·exact h1
  ·omega
  ·exact absurd (by rw[h1];simp[Zcl]) hd
 ·obtain⟨hl,⟨rfl,rfl⟩|⟨j,rfl,h2,h3,h4⟩⟩:=s
  ·simp[Zcl]at hi
  ·simp only[Zcl,Yqp]at hi
   subst hi
   refine⟨_,h4,fun hc=>?_,fun y hy=>?_⟩
   ·have hfl:=Zbz hl
    rw[hc]at hfl
    have:l.length=0:=by
     rcases Nat.mul_eq_zero.1 hfl.symm with h|h
     ·exact h
     ·omega
    have:=hn (Yph this)
    cases this
   ·obtain⟨c,hc,hyc⟩:=List.mem_flatten.1 hy
    exact hY c hc y hyc
variable {n:Nat}
def dch(n:Nat):UInt8:=UInt8.ofNat (48+n%10)
theorem Zj5(n:Nat):(dch n).toNat=48+n%10:=by
 unfold dch
 simp
 omega
def Zkf(n:Nat):Str:=if h:n=0 then [] else Zkf (n/10)++[dch n]
termination_by n
decreasing_by omega
theorem Zbu:Zkf 0=[]:=by unfold Zkf;simp
theorem Zei(h:n≠0):Zkf n=Zkf (n/10)++[dch n]:=by
 conv=>lhs;unfold Zkf
 rw[dif_neg h]
def Za2(n:Nat):Str:=if n=0 then [48] else Zkf n
def Zke(n k:Nat):Str:=List.replicate (k-(Zkf n).length) 48++Zkf n
def decI(z:Int):Str:=if z<0 then 45::Za2 z.natAbs else Za2 z.natAbs
def Zax(q:Rat):Str:=if q.den=1 then decI q.num else decI q.num++47::Za2 q.den
theorem Zp3:∀(n:Nat),numV (Zkf n)=n:=by
 intro n
 induction n using Nat.strongRecOn with
 |_ n ih=>
  by_cases h:n=0
  ·subst h;rw[Zbu];rfl
  ·rw[Zei h,Zgl,ih (n/10) (by omega),Zj5]
   omega
theorem Zeu(n:Nat):numV (Za2 n)=n:=by
 unfold Za2
 split
 ·subst_vars;rfl
 ·exact Zp3 n
theorem Zq9{s:Str}{c:UInt8}:Zb3 (s++[c])=(Zb3 s&&Zjr c):=by simp[Zb3]
theorem Yed(n:Nat):Zjr (dch n)=true:=by
 unfold Zjr
 rw[Zj5]
 simp
 omega
theorem Ybe:∀(n:Nat),Zb3 (Zkf n)=true:=by
 intro n
 induction n using Nat.strongRecOn with
 |_ n ih=>
  by_cases h:n=0
  ·subst h;rw[Zbu];rfl
  ·rw[Zei h,Zq9,ih (n/10) (by omega),Yed];rfl
theorem Zcq(n:Nat):Zb3 (Za2 n)=true:=by
 unfold Za2
 split
 ·rfl
 ·exact Ybe n
theorem Zb0:∀{k n:Nat},n<10^k↔(Zkf n).length≤k
 |0,n=>by
  simp only[Ysk,Nat.lt_one_iff,Nat.le_zero,List.length_eq_zero_iff]
  constructor
  ·rintro rfl;exact Zbu
  ·intro h
   have:=Zp3 n
   rw[h]at this
   exact this.symm
 |k+1,n=>by
  by_cases h:n=0
  ·subst h;rw[Zbu];simp;exact Yr1 (by decide)
  ·rw[Zei h,Ypm,Yqi,Ypn]
   have:=Zb0 (k:=k) (n:=n/10)
   rw[Nat.succ_le_succ_iff,←this]
   exact(Ypu (by decide)).symm
theorem Zq0:∀{n:Nat},n≠0→∃c t,Zkf n=c::t∧c.toNat≠48:=by
 intro n
 induction n using Nat.strongRecOn with
 |_ n ih=>
  intro h
  rw[Zei h]
  by_cases h0:n/10=0
  ·rw[h0,Zbu]
   refine⟨dch n,[],rfl,?_⟩
   rw[Zj5];omega
  ·obtain⟨c,t,e,hc⟩:=ih (n/10) (by omega) h0
   rw[e]
   exact⟨c,t++[dch n],rfl,hc⟩
theorem Zox(n:Nat):Za2 n≠[]:=by
 unfold Za2
 split
 ·simp
 ·rename_i h
  obtain⟨c,t,e,_⟩:=Zq0 h
  rw[e];simp
theorem Yfu{c:UInt8}(h:Zjr c=true){k:Nat}:dch (10*k+(c.toNat-48))=c:=by
 unfold Zjr at h
 simp only[decide_eq_true_eq]at h
 apply UInt8.toNat_inj.1
 rw[Zj5];omega
theorem Yay:∀(t:Str) (c:UInt8),Zb3 (c::t)=true→c.toNat≠48→Zkf (numV (c::t))=c::t:=by
 intro t
 generalize hn:t.length=n
 induction n generalizing t with
 |zero=>
  intro c ha hc
  have:t=[]:=Yph hn
  subst this
  have hd:Zjr c=true:=by simpa[Zb3]using ha
  have:=Yfu hd (k:=0)
  have h2:48≤c.toNat∧c.toNat≤57:=by simpa[Zjr]using hd
  have e:numV [c]=c.toNat-48:=by simp[numV]
  rw[e,Zei (by omega),show (c.toNat-48)/10=0 by omega,Zbu]
  simp only[Nat.mul_zero,Yq7]at this
  rw[this];rfl
 |succ n ih=>
  intro c ha hc
  obtain⟨u,d,rfl⟩:∃u d,t=u++[d]:=⟨t.dropLast,t.getLast (by rintro rfl;simp at hn),(Yst _).symm⟩
  simp at hn
  have ha':Zb3 (c::u)=true∧Zjr d=true:=by
   rw[←Yrn,Zq9,Ypj]at ha
   exact ha
  have ih':=ih u (by omega) c ha'.1 hc
  have h2:48≤d.toNat∧d.toNat≤57:=by simpa[Zjr]using ha'.2
  rw[←Yrn,Zgl]
  have hpos:numV (c::u)≠0:=by
   intro h0
   rw[h0,Zbu]at ih'
   cases ih'
  rw[Zei (by omega),show (10*numV (c::u)+(d.toNat-48))/10=numV (c::u) by omega,ih',Yfu ha'.2]
theorem Zco{s:Str}(h:Zcm s=true):Za2 (numV s)=s:=by
 cases s with
 |nil=>cases h
 |cons c t=>
  have h:(Zb3 (c::t)&&(decide (c.toNat≠48)||decide (t=[])))=true:=h
  rw[Ypj,Ysc,decide_eq_true_eq,decide_eq_true_eq]at h
  obtain⟨ha,hc⟩:=h
  by_cases h48:c.toNat=48
  ·rcases hc with hc|hc
   ·exact absurd h48 hc
   ·subst hc
    have:c=48:=UInt8.toNat_inj.1 h48
    subst this;rfl
  ·have e:=Yay t c ha h48
   have:numV (c::t)≠0:=by
    intro h0
    rw[h0,Zbu]at e
    cases e
   unfold Za2
   rw[Yo0 this,e]
theorem Zur{a b:Nat}(h:Za2 a=Za2 b):a=b:=by rw[←Zeu a,h,Zeu]
theorem Zxc:∀{k a b:Nat},a≠0→b<10^k→Zkf (a*10^k+b)=Zkf a++Zke b k:=by
 intro k
 induction k with
 |zero=>
  intro a b ha hb
  have:b=0:=by simpa using hb
  subst this
  simp[Zke,Zbu]
 |succ k ih=>
  intro a b ha hb
  rw[Ypn]at hb ⊢
  have hb2:b/10<10^k:=(Ypu (by decide)).2 hb
  have hp:0<10^k:=Yr1 (by decide)
  have hpos:a*(10^k*10)+b≠0:=by
   have:=Ysa (Nat.pos_of_ne_zero ha) (Ysa hp (by decide:0<10));omega
  have e1:(a*(10^k*10)+b)/10=a*10^k+b/10:=by
   rw[←Yse,Yps _ 10,Nat.mul_add_div (by decide)]
  have e2:dch (a*(10^k*10)+b)=dch b:=by
   apply UInt8.toNat_inj.1
   rw[Zj5,Zj5,←Yse,Yps _ 10,Nat.mul_add_mod]
  rw[Zei hpos,e1,ih ha hb2,e2,Yqf]
  congr 1
  by_cases hb0:b=0
  ·subst hb0
   unfold Zke
   rw[Nat.zero_div,Zbu]
   simp only[List.length_nil,Nat.sub_zero,Yrb]
   rw[List.replicate_succ']
   rfl
  ·unfold Zke
   rw[Zei hb0,Ypm,Yqi,←Yqf]
   rw[show k+1-((Zkf (b/10)).length+1)=k-(Zkf (b/10)).length by omega]
theorem Zjg(b:Nat):Zke b 1=Za2 b:=by
 unfold Zke Za2
 split
 ·subst_vars;rw[Zbu];rfl
 ·rename_i h
  obtain⟨c,t,e,_⟩:=Zq0 h
  rw[e]
  simp
theorem Zid{k:Nat}(hk:0<k):(Za2 n).length≤k↔n<10^k:=by
 unfold Za2
 split
 ·subst_vars
  simp
  exact⟨fun _=>Yr1 (by decide),fun _=>hk⟩
 ·exact Zb0.symm
theorem Znu{n:Nat}:∃c t,Za2 n=c::t∧48≤c.toNat∧c.toNat≤57:=by
 have h:=Zcq n
 cases hs:Za2 n with
 |nil=>exact absurd hs (Zox n)
 |cons c t=>
  rw[hs]at h
  have:Zjr c=true:=by
   simp[Zb3]at h;exact h.1
  exact⟨c,t,rfl,by simpa[Zjr]using this⟩
variable {s:Str}
theorem Zhx:∀{s t:Str},(∀c∈s,c.toNat≠47)→slashAt (s++47::t)=s.length
 |[],t,_=>rfl
 |c::s,t,h=>by
  have h1:=h c Ypw
  have:=Zhx (s:=s) (t:=t) fun d hd=>h d (Ypo _ hd)
  simp[slashAt,h1,this]
theorem Zgf:∀{s:Str},(∀c∈s,c.toNat≠47)→slashAt s=s.length
 |[],_=>rfl
 |c::s,h=>by
  have h1:=h c Ypw
  have:=Zgf (s:=s) fun d hd=>h d (Ypo _ hd)
  simp[slashAt,h1,this]
theorem Zlj:∀{s:Str},slashAt s<s.length→s.drop (slashAt s)=47::s.drop (slashAt s+1)
 |[],h=>by simp[slashAt]at h
 |c::s,h=>by
  by_cases hc:c.toNat=47
  ·have:c=47:=UInt8.toNat_inj.1 hc
   subst this
   simp[slashAt]
  ·simp only[slashAt,hc,if_false,Yoz]at h ⊢
   have:=Zlj (s:=s) (by omega)
   simpa using this
theorem Zo5(h:Zb3 s=true):∀c∈s,c.toNat≠47:=by
 intro c hc
 unfold Zb3 at h
 rw[Ypv]at h
 have:=h c hc
 unfold Zjr at this
 simp only[decide_eq_true_eq]at this
 omega
theorem Yaw(z:Int):∀c∈decI z,c.toNat≠47:=by
 unfold decI
 split
 ·intro c hc
  rcases Ypy.1 hc with rfl|hc
  ·decide
  ·exact Zo5 (Zcq _) c hc
 ·exact Zo5 (Zcq _)
theorem Zza(n:Nat):negS (Za2 n)=false:=by
 obtain⟨c,t,e,h1,h2⟩:=Znu (n:=n)
 rw[e]
 simp[negS];omega
theorem Zgm(z:Int):negS (decI z)=decide (z<0):=by
 unfold decI
 split
 ·rename_i h;simp[negS,h]
 ·rename_i h;rw[Zza];simp[h]
theorem Zff(z:Int):Zan (decI z)=Za2 z.natAbs:=by
 unfold Zan
 rw[Zgm]
 by_cases h:z<0
 ·simp[h,decI]
 ·simp[h,decI]
theorem Zdr(q:Rat):slashAt (Zax q)=(decI q.num).length:=by
 unfold Zax
 split
 ·exact Zgf (Yaw _)
 ·exact Zhx (Yaw _)
theorem Ziq(q:Rat):(Zax q).take (slashAt (Zax q))=decI q.num:=by
 rw[Zdr]
 unfold Zax
 split
 ·simp
 ·simp
theorem Zis(q:Rat)(h:q.den≠1):(Zax q).drop (slashAt (Zax q)+1)=Za2 q.den:=by
 rw[Zdr]
 unfold Zax
 rw[Yo0 h,←List.drop_drop]
 simp
theorem Zir(q:Rat):slashAt (Zax q)<(Zax q).length↔q.den≠1:=by
 rw[Zdr]
 unfold Zax
 split
 ·rename_i h;simp[h]
 ·rename_i h;simp[h]
theorem Yef{a b:Int}(h:decI a=decI b):a=b:=by
 have h1:=congrArg negS h
 have h2:=congrArg Zan h
 rw[Zgm,Zgm,decide_eq_decide]at h1
 rw[Zff,Zff]at h2
 have h3:=Zur h2
 omega
theorem Ybx{a b:Rat}(h:Zax a=Zax b):a=b:=by
 have h1:=Ziq a
 rw[h,Ziq b]at h1
 have h2:=Yef h1
 have h3:a.den=b.den:=by
  by_cases ha:a.den=1
  ·have:=mt (Zir a).1 (fun hc=>hc ha)
   rw[h]at this
   rw[Zir]at this
   rw[ha];exact(Decidable.not_not.1 this).symm
  ·have:=(Zir a).2 ha
   rw[h]at this
   have hb:=(Zir b).1 this
   have e:=Zis a ha
   rw[h,Zis b hb]at e
   exact(Zur e).symm
 exact Rat.ext h2.symm h3
def Ztn(s:Str):Rat:=mkRat (if negS s then -(numV ((Zan s).take (slashAt (Zan s))):Int) else numV ((Zan s).take (slashAt (Zan s)))) (if slashAt (Zan s)<(Zan s).length then numV ((Zan s).drop (slashAt (Zan s)+1)) else 1)
theorem Yep(h:chkNum s=0):Zb7 (negS s) ((Zan s).take (slashAt (Zan s))) (decide (slashAt (Zan s)<(Zan s).length)) ((Zan s).drop (slashAt (Zan s)+1))=true∧((Zan s).take (slashAt (Zan s))).length≤600∧((Zan s).drop (slashAt (Zan s)+1)).length≤600∧(slashAt (Zan s)<(Zan s).length→Nat.gcd (numV ((Zan s).take (slashAt (Zan s)))) (numV ((Zan s).drop (slashAt (Zan s)+1)))=1):=by
 unfold chkNum Yjr Zjs at h
 split at h
 ·cases h
 ·rename_i h1
  split at h
  ·cases h
  ·rename_i h2
   split at h
   ·cases h
   ·rename_i h3
    refine⟨by simpa using h1,by omega,by omega,fun hs=>?_⟩
    rw[decide_eq_true hs]at h3
    simpa using h3
theorem Zqb{n:Int}{d:Nat}(hd:d≠0)(h:Nat.gcd n.natAbs d=1):(mkRat n d).num=n∧(mkRat n d).den=d:=by
 have:mkRat n d=⟨n,d,hd,h⟩:=by
  rw[Rat.mkRat_def,dif_neg hd]
  exact Rat.normalize_eq_mk' _ _ hd h
 rw[this]
 exact⟨rfl,rfl⟩
theorem Zxl(s:Str):s=(if negS s then [45] else [])++Zan s:=by
 cases s with
 |nil=>rfl
 |cons c t=>
  unfold Zan
  by_cases hc:c.toNat=45
  ·have:c=45:=UInt8.toNat_inj.1 hc
   subst this
   simp[negS]
  ·simp[negS,hc]
theorem Zsz(h:chkNum s=0):Zax (Ztn s)=s∧(Za2 (Ztn s).num.natAbs).length≤600∧(Za2 (Ztn s).den).length≤600:=by
 obtain⟨h1,h2,h3,h4⟩:=Yep h
 have hle:=Zc2 (Zan s)
 unfold Zb7 at h1
 simp only[Ypj,Yr4,Ysc,decide_eq_true_eq]at h1
 obtain⟨⟨hp,hz⟩,hd⟩:=h1
 have hpz:negS s=true→numV ((Zan s).take (slashAt (Zan s)))≠0:=by
  intro hn h0
  rw[hn,Bool.true_and,decide_eq_false_iff_not]at hz
  apply hz
  have:=Zco hp
  rw[h0]at this
  exact this.symm
 have hpl:(Za2 (numV ((Zan s).take (slashAt (Zan s))))).length≤600:=by
  rw[Zco hp];exact h2
 have hb:=Zxl s
 by_cases hs:slashAt (Zan s)<(Zan s).length
 ·have hd:Zcm ((Zan s).drop (slashAt (Zan s)+1))=true∧(Zan s).drop (slashAt (Zan s)+1)≠[48]∧(Zan s).drop (slashAt (Zan s)+1)≠[49]:=by
   rcases hd with hd|⟨⟨a,b⟩,c⟩
   ·exact absurd hs (by simpa using hd)
   ·exact⟨a,b,c⟩
  have hg:=h4 hs
  have hd0:numV ((Zan s).drop (slashAt (Zan s)+1))≠0:=by
   intro h0
   have:=Zco hd.1
   rw[h0]at this
   exact hd.2.1 this.symm
  have hd1:numV ((Zan s).drop (slashAt (Zan s)+1))≠1:=by
   intro h0
   have:=Zco hd.1
   rw[h0]at this
   exact hd.2.2 (this.symm.trans (by decide+kernel))
  have hdl:(Za2 (numV ((Zan s).drop (slashAt (Zan s)+1)))).length≤600:=by
   rw[Zco hd.1];exact h3
  have hv:Ztn s=mkRat (if negS s then -(numV ((Zan s).take (slashAt (Zan s))):Int) else numV ((Zan s).take (slashAt (Zan s)))) (numV ((Zan s).drop (slashAt (Zan s)+1))):=by
   unfold Ztn;rw[Yo4 hs]
  obtain⟨e1,e2⟩:=Zqb (n:=if negS s then -(numV ((Zan s).take (slashAt (Zan s))):Int) else numV ((Zan s).take (slashAt (Zan s)))) hd0 (by split<;>simpa using hg)
  rw[←hv]at e1 e2
  have hbody:Zan s=(Zan s).take (slashAt (Zan s))++47::(Zan s).drop (slashAt (Zan s)+1):=by
   conv=>lhs;rw[←Yq8 (slashAt (Zan s)) (Zan s)]
   rw[Zlj hs]
  refine⟨?_,?_,by rw[e2];exact hdl⟩
  ·unfold Zax
   rw[e2,Yo0 hd1,Zco hd.1,e1]
   conv=>rhs;rw[hb,hbody]
   unfold decI
   cases hn:negS s with
   |false=>
    simp only[Ypa,if_false]
    rw[Yo0 (by omega),Yo6,Zco hp];rfl
   |true=>
    have:=hpz hn
    simp only[if_true]
    rw[Yo4 (by omega),Yra,Yo6,Zco hp];rfl
  ·rw[e1]
   split<;>simpa using hpl
 ·have hv:Ztn s=mkRat (if negS s then -(numV ((Zan s).take (slashAt (Zan s))):Int) else numV ((Zan s).take (slashAt (Zan s)))) 1:=by
   unfold Ztn;rw[Yo0 hs]
  obtain⟨e1,e2⟩:=Zqb (n:=if negS s then -(numV ((Zan s).take (slashAt (Zan s))):Int) else numV ((Zan s).take (slashAt (Zan s)))) (show (1:Nat)≠0 by decide) (Nat.gcd_one_right _)
  rw[←hv]at e1 e2
  have ht:(Zan s).take (slashAt (Zan s))=Zan s:=Yo7 (by omega)
  rw[ht]at e1 hp hpz hpl
  refine⟨?_,?_,by rw[e2];decide+kernel⟩
  ·unfold Zax
   rw[e2,Yo4 rfl,e1]
   conv=>rhs;rw[hb]
   unfold decI
   cases hn:negS s with
   |false=>
    simp only[Ypa,if_false]
    rw[Yo0 (by omega),Yo6,Zco hp];rfl
   |true=>
    have:=hpz hn
    simp only[if_true]
    rw[Yo4 (by omega),Yra,Yo6,Zco hp];rfl
  ·rw[e1]
   split<;>simpa using hpl
theorem Zq5(q:Rat):Zan (Zax q)=if q.den=1 then Za2 q.num.natAbs else Za2 q.num.natAbs++47::Za2 q.den:=by
 have hneg:∀t:Str,negS (decI q.num++t)=decide (q.num<0):=by
  intro t
  rw[←Zgm]
  have:decI q.num≠[]:=by
   unfold decI;split
   ·simp
   ·exact Zox _
  cases h:decI q.num with
  |nil=>exact absurd h this
  |cons c u=>rfl
 have hb:∀t:Str,Zan (decI q.num++t)=Za2 q.num.natAbs++t:=by
  intro t
  unfold Zan
  rw[hneg]
  by_cases h:q.num<0
  ·simp[h,decI]
  ·simp[h,decI]
 unfold Zax
 split
 ·have:=hb [];simpa using this
 ·exact hb _
def Yfz(q:Rat):Bool:=decide (600<(Za2 q.num.natAbs).length∨600<(Za2 q.den).length)
theorem Yav:Za2 1=[49]:=by decide+kernel
variable {i j k n:Nat} {q:Rat}
theorem Zun:∀{i n:Nat},i<(ds n).length→(ds n)[i]?=some ((n/1000000000^i%1000000000:Nat):Int)
 |i,n,h=>by
  by_cases hn:n=0
  ·rw[hn,Zce]at h;simp at h
  ·rw[Zgt hn]at h ⊢
   cases i with
   |zero=>simp
   |succ i=>
    rw[Yqz,Zun (by simpa using h),Yrx,Ypn,Yps]
theorem Yfs(h:i<(ds n).length):n/1000000000^i≠0:=by
 intro hc
 have h1:n<1000000000^i:=(Nat.div_eq_zero_iff_lt (Yr1 (by decide))).1 hc
 have:=Zfc h1
 omega
theorem Yau(h:i+1<(ds n).length):Za2 (n/1000000000^i)=Za2 (n/1000000000^(i+1))++Zke (n/1000000000^i%1000000000) 9:=by
 have h0:=Yfs (i:=i) (n:=n) (by omega)
 have h1:=Yfs (i:=i+1) (n:=n) h
 have e:n/1000000000^(i+1)=n/1000000000^i/1000000000:=by rw[Ypn,Yrx]
 rw[e]at h1 ⊢
 generalize n/1000000000^i=x at*
 unfold Za2
 rw[Yo0 h0,Yo0 h1]
 have:=Zxc (k:=9) (a:=x/1000000000) (b:=x%1000000000) h1 (by omega)
 rw[show (10:Nat)^9=1000000000 by decide]at this
 rw[←this]
 congr 1
 omega
theorem Yee(h:i+1=(ds n).length):Za2 (n/1000000000^i)=Zke (n/1000000000^i%1000000000) 1:=by
 have h1:n<1000000000^(i+1):=by
  have h2:=Zhv (Zb4 n)
  rw[Zbb,←h]at h2
  unfold pI at h2
  have h3:(1000000000:Int)^(i+1)=((1000000000^(i+1):Nat):Int):=by rw[Int.natCast_pow];rfl
  rw[h3]at h2
  exact Int.ofNat_lt.1 h2
 rw[Ypn]at h1
 have h3:n/1000000000^i<1000000000:=Nat.div_lt_of_lt_mul h1
 rw[Yqq h3,Zjg]
def Qb(k:Nat)(q:Rat):Prop:=q.num.natAbs<2^k∧q.den<2^k
theorem Zry(h:j≤k):2^j≤2^k:=Yp3 (by decide) h
theorem Qb.mono(h:Qb j q)(hk:j≤k):Qb k q:=⟨Yo8 h.1 (Zry hk),Yo8 h.2 (Zry hk)⟩
theorem Zkd{a b:Int}(hb:b≠0)(h1:a.natAbs<2^k)(h2:b.natAbs<2^k):Qb k (Rat.divInt a b):=by
 constructor
 ·rw[Rat.num_divInt]
  refine Ypx ?_ h1
  rw[Int.natAbs_ediv_of_dvd]
  ·rw[Yqt]
   have:b.sign.natAbs=1:=by rw[Int.natAbs_sign,Yo0 hb]
   rw[this,Nat.one_mul]
   exact Yqm _ _
  ·exact Int.dvd_trans (Int.gcd_dvd_right ..) (Int.dvd_mul_left ..)
 ·rw[Rat.den_divInt,Yo0 hb]
  exact Ypx (Yqm _ _) h2
theorem Qb.mul{p:Rat}(hp:Qb j p)(hq:Qb k q):Qb (j+k) (p*q):=by
 have hp0:((p.den:Nat):Int)≠0:=by have:=p.den_nz;omega
 have hq0:((q.den:Nat):Int)≠0:=by have:=q.den_nz;omega
 rw[←Yrp p,←Yrp q,Rat.divInt_mul_divInt]
 refine Zkd (Yso hp0 hq0) ?_ ?_
 ·rw[Yqt,Yqc]
  exact Yrq hp.1 hq.1
 ·rw[Yqt,Yqc,Yo6,Yo6]
  exact Yrq hp.2 hq.2
theorem Qb.add{p:Rat}(hp:Qb j p)(hq:Qb k q):Qb (j+k+1) (p+q):=by
 have hp0:((p.den:Nat):Int)≠0:=by have:=p.den_nz;omega
 have hq0:((q.den:Nat):Int)≠0:=by have:=q.den_nz;omega
 rw[←Yrp p,←Yrp q,Rat.divInt_add_divInt _ _ hp0 hq0]
 have e:2^(j+k+1)=2^j*2^k+2^k*2^j:=by rw[Ypn,Yqc,Yps (2^k)];omega
 refine Zkd (Yso hp0 hq0) ?_ ?_
 ·refine Ypx (Int.natAbs_add_le ..) ?_
  rw[Yqt,Yqt,Yo6,Yo6,e]
  exact Nat.add_lt_add (Yrq hp.1 hq.2) (Yrq hq.1 hp.2)
 ·rw[Yqt,Yo6,Yo6,e]
  exact Yo8 (Yrq hp.2 hq.2) (Nat.le_add_right _ _)
theorem Qb.neg(h:Qb k q):Qb k (-q):=by
 refine⟨?_,?_⟩
 ·rw[Rat.neg_num,Yra];exact h.1
 ·rw[Rat.neg_den];exact h.2
theorem Qb.sub{p:Rat}(hp:Qb j p)(hq:Qb k q):Qb (j+k+1) (p-q):=by
 rw[Rat.sub_eq_add_neg];exact hp.add hq.neg
theorem Qb.int{z:Int}(h:z.natAbs<2^k)(hk:0<k):Qb k (z:Rat):=by
 refine⟨by simpa using h,?_⟩
 rw[Rat.den_intCast]
 exact Yo8 (by decide) (Zry (j:=1) hk)
theorem Zhi(h:n<2^k):(ds n).length≤k:=Zfc (Yo8 h (Yr5 (by decide) k))
theorem Yiy(h:n<2^k):(Zkf n).length≤k:=Zb0.1 (Yo8 h (Yr5 (by decide) k))
theorem Zgu(h:n<2^k):(Za2 n).length≤k+1:=by
 have:=Yiy h
 unfold Za2
 split<;>simp<;>omega
theorem Zie{z:Int}(h:z.natAbs<2^k):(decI z).length≤k+2:=by
 have:=Zgu h
 unfold decI
 split<;>simp<;>omega
theorem Yfe(k:Nat):10^k≤2^(4*k):=by
 rw[Nat.pow_mul];exact Yr5 (by decide) k
theorem Yk8{s:Str}(h:chkNum s=0)(hn:s.length≤n):Qb (4*n+4) (Ztn s):=by
 obtain⟨e,_,_⟩:=Zsz h
 have hb:=Zq5 (Ztn s)
 have l1:(Zan (Zax (Ztn s))).length≤n:=by
  rw[e];unfold Zan;split
  ·simp;omega
  ·exact hn
 rw[hb]at l1
 have g:∀m:Nat,(Za2 m).length≤n+1→m<2^(4*n+4):=fun m hm=>by
  have:=(Zid (n:=m) (k:=n+1) (by omega)).1 hm
  exact Yo8 this (by have:=Yfe (n+1);rw[Yq4]at this;exact this)
 split at l1
 ·rename_i h1
  have h2:(Za2 1).length=1:=by rw[Yav];rfl
  exact⟨g _ (by omega),by rw[h1];exact g 1 (by omega)⟩
 ·simp at l1
  exact⟨g _ (by omega),g _ (by omega)⟩
open Go Go.Proofs
set_option maxRecDepth 1000000
def A.b267:Zae:=sr [mc 4 0]
 (.seq (sr [mv 5 1,mv 6 0,ln 7 6,bi 8 .lss 5 7]
 (cd 8
 (sr [mv 9 0,mv 10 1,ia 11 1 9 10,ld 12 11,mv 4 12]
 (.ret))
 (.skip)))
 (sr [mc 4 0]
 (.ret)))
theorem A.c267:A.F 267=some ⟨13,[.tmp 4],A.b267⟩:=by kernel_rfl
def A.k267:=@A.kk 267 _ _ _ A.c267 rfl
def A.lb235_0:Zae:=.seq (sr [mv 9 7,mv 10 0,ln 11 10,bi 12 .lss 9 11,mv 13 12,mh 14 7 13,mh 15 1 13,⟨(some 16),.len 1 (.tmp 15),(some (13,false))⟩,⟨(some 17),.bin .lss (.node []) false (.tmp 14) (.tmp 16),(some (13,false))⟩,pt 18 13 17,mv 19 18,mh 20 6 19,⟨(some 21),.bin .gtr (.node []) false (.tmp 20) (.const (.int .i64 0)),(some (19,false))⟩,pt 22 19 21]
 (cd 22
 (.skip)
 (.exit 0)))
 (.seq (.block 1 (sr [mv 25 0,mv 26 7,c2 27 267 25 26,mv 28 1,mv 29 7,c2 30 267 28 29,bi 31 .add 27 30,mv 32 6,bi 33 .add 31 32,mv 8 33]
 (sr [mv 34 5,mv 35 8,bc 36 .rem 35 1000000000,⟨(some 37),.bslice 3 1 1 [(.int .i64 0)] [(0,1,(.tmp 36))],none⟩,⟨(some 38),.append 1 8 3 [(.int .i64 0)] (.tmp 34) (.tmp 37),none⟩,mv 5 38]
 (.reg [mv 39 8,bc 40 .quo 39 1000000000,mv 6 40]))))
 (.reg [mv 23 7,bc 24 .add 23 1,mv 7 24]))
def A.b235:Zae:=sr [mN 4]
 (sr [mN 5]
 (sr [mc 6 0]
 (.seq (sr [mc 7 0]
 (.block 0 (.loop A.lb235_0)))
 (sr [mv 41 5,mv 4 41]
 (.ret)))))
theorem A.c235:A.F 235=some ⟨42,[.tmp 4],A.b235⟩:=by kernel_rfl
def A.k235:=@A.kk 235 _ _ _ A.c235 rfl
def A.lb237_0:Zae:=.seq (sr [mv 9 7,mv 10 0,ln 11 10,bi 12 .lss 9 11]
 (cd 12
 (.skip)
 (.exit 0)))
 (.seq (.block 1 (.seq (.regD [mv 15 0,mv 16 7,ia 17 1 15 16,ld 18 17,mv 19 1,mv 20 7,c2 21 267 19 20,bi 22 .sub 18 21,mv 23 6,bi 24 .sub 22 23,mv 8 24] [0,0,3,7,0,0,48,127,0,511,1023])
 (sr [mc 6 0]
 (.seq (sr [mv 25 8,bc 26 .lss 25 0]
 (cd 26
 (sr [mv 27 8,bc 28 .add 27 1000000000,mv 8 28]
 (.reg [mc 6 1]))
 (.skip)))
 (.reg [mv 29 5,mv 30 8,⟨(some 31),.bslice 3 1 1 [(.int .i64 0)] [(0,1,(.tmp 30))],none⟩,⟨(some 32),.append 1 8 3 [(.int .i64 0)] (.tmp 29) (.tmp 31),none⟩,mv 5 32])))))
 (.reg [mv 13 7,bc 14 .add 13 1,mv 7 14]))
def A.b237:Zae:=sr [mN 4]
 (sr [mN 5]
 (sr [mc 6 0]
 (.seq (sr [mc 7 0]
 (.block 0 (.loop A.lb237_0)))
 (sr [mv 33 5,c1 34 265 33,mv 4 34]
 (.ret)))))
theorem A.c237:A.F 237=some ⟨35,[.tmp 4],A.b237⟩:=by kernel_rfl
def A.k237:=@A.kk 237 _ _ _ A.c237 rfl
theorem Zow{h:T O}{N:Nat}{v:V}{l:List Int}{i:Nat}{w:List Nat}(hs:Sl h N v (dI l))(hi:i<4611686018427387904)(hl:l.length<4611686018427387904):A.C.call (.func 267 [] []) [v,.int .i64 i] ⟨h,N,w⟩=some (.int .i64 (zI l i),⟨h,N,w⟩):=by
 apply Call.eq
 have hlen:=hs.len
 rw[Zar]at hlen
 rw[Zab,A.k267 (by simp)]
 by_cases hc:i<l.length
 ·have hc1:(i:Int)<(l.length:Int):=by omega
  obtain⟨d,hd⟩:=Zaf hc
  obtain⟨j,o,c,e,rw,q1,q2,q3,q4⟩:=hs.at (Zbf hd)
  simp[A.b267,hlen,hc1,q1,q3,q4,Yf7 hd]
 ·have hc1:¬(i:Int)<(l.length:Int):=by omega
  simp[A.b267,hlen,hc1,Zrd (Yqv hc)]
structure AdI (h:T O) (N:Nat) (la lb:List Int) (m:Nat) (r:T V) (st:St):Prop where
 w:Zaa N st.w=[]
 keep:Keeps h N st.h st.n
 ex:∃k c out D,k+m=max la.length lb.length+1∧r.get 7=some (.int .i64 k)∧r.get 6=some (.int .i64 c)∧r.get 5=some out∧0≤c∧c≤1∧(m=0→c=0)∧Own 1 3 N st.h st.n out (Ze1 D)∧D.length=k∧Di D∧vI D+pI k*c=vI (la.take k)+vI (lb.take k)
theorem Zkv{l:List Int}{k:Nat}(h:l.length≤k):l.take k=l:=Yo7 h
theorem Yg2{h:T O}{N:Nat}{u v:V}{la lb:List Int}(hu:Sl h N u (dI la))(hv:Sl h N v (dI lb))(da:Di la)(db:Di lb)(l1:la.length<1099511627776)(l2:lb.length<1099511627776):Fn A.C 235 [u,v] h N (fun x h' n'=>∃l,Sl h' n' x (dI l)∧Di l∧vI l=vI la+vI lb∧l.length≤max la.length lb.length+1):=by
 intro w
 have lu:=hu.len
 have lv:=hv.len
 rw[Zar]at lu lv
 rw[Zab,A.k235 (by simp)]
 simp[A.b235]
 refine Zaj [(5,40)] (fun e r st=>e=.exit 0∧Zaa N st.w=[]∧Keeps h N st.h st.n∧∃out D,r.get 5=some out∧Own 1 3 N st.h st.n out (Ze1 D)∧Di D∧vI D=vI la+vI lb∧D.length≤max la.length lb.length+1) (AdI h N la lb) (max la.length lb.length+1) ?_ ?_ ?_
 ·exact⟨by simp,Keeps.refl,0,0,.nilslice,[],by omega,by simp,by simp,by simp,by omega,by omega,fun _=>rfl,Own.nil,rfl,Di.nil,by simp[vI]⟩
 ·rintro m r ⟨H,n1,W⟩ hr hf ⟨hW,hK,k,c,out,D,hk,h7,h6,h5,c0,c1,cz,ho,hD,dD,hv0⟩
  simp only at hW hK ho
  rw[Zah]
  by_cases hgo:k<la.length∨k<lb.length∨0<c
  ·obtain⟨m',rfl⟩:∃m',m=m'+1:=⟨m-1,by
    have:m≠0:=fun hm=>by have:=cz hm;omega
    omega⟩
   have dx:=Yf8 da k
   have dy:=Yf8 db k
   have e1:=fun w=>Zow (w:=w) (i:=k) (hu.keep hK) (by omega) (by omega)
   have e2:=fun w=>Zow (w:=w) (i:=k) (hv.keep hK) (by omega) (by omega)
   obtain⟨x,hx⟩:∃x,zI la k=x:=⟨_,rfl⟩
   obtain⟨y,hy⟩:∃y,zI lb k=y:=⟨_,rfl⟩
   rw[hx]at dx e1
   rw[hy]at dy e2
   have t1:(x+y+c).tmod 1000000000=(x+y+c)%1000000000:=Yqr (by omega)
   have t2:(x+y+c).tdiv 1000000000=(x+y+c)/1000000000:=Yp4 (by omega)
   have t3:Zaq .i64 (x+y)=x+y:=Zai (by omega) (by omega)
   have t4:Zaq .i64 (x+y+c)=x+y+c:=Zai (by omega) (by omega)
   have t5:Zaq .i64 ((x+y+c)/1000000000)=(x+y+c)/1000000000:=Zai (by omega) (by omega)
   have hfin:vI (D++[(x+y+c)%1000000000])+pI (k+1)*((x+y+c)/1000000000)=vI (la.take (k+1))+vI (lb.take (k+1)):=by
    rw[Zfm,hD,Zle,Zle,hx,hy,Zcs]
    have hm:=Yq9 (x+y+c) 1000000000
    generalize (x+y+c)/1000000000=Q at*
    generalize (x+y+c)%1000000000=R at*
    have:R=x+y+c-1000000000*Q:=by omega
    subst this
    grind
   have hz:m'=0→(x+y+c)/1000000000=0:=fun hm=>by
    have:x=0:=by rw[←hx];exact Zrd (by omega)
    have:y=0:=by rw[←hy];exact Zrd (by omega)
    omega
   have ho2:=ho.keep (Keeps.refl.new (.cells [.int .i64 ((x+y+c)%1000000000)] 3 true))
   obtain⟨v',h',w',f1,f2,f3,_,f5⟩:=Zbi (x:=[.int .i64 ((x+y+c)%1000000000)]) (u:=.slice n1 0 1 (some 1) 1) (bytes:=8) (w:=W) ho2 (by have:=hK.le;omega) (by decide) rfl (by simp[Zaw,St.row,slc]) (by simp[Ze1];omega)
   rw[←Zc3]at f5
   have f6:Zaa N w'=[]:=by rw[f2];exact hW
   have kz:=(hK.new (.cells [.int .i64 ((x+y+c)%1000000000)] 3 true)).then f3
   have hgo':k<la.length∨(¬k<la.length∧k<lb.length)∨(¬k<la.length∧¬k<lb.length∧0<c):=by omega
   rcases hgo' with g1|⟨g1,g2⟩|⟨g1,g2,g3⟩
   ·have i1:(k:Int)<(la.length:Int):=by omega
    simp[A.lb235_0,hr,h7,h6,h5,lu,i1,e1,e2,t1,t3,t4,splice]
    simp(disch:=first|(simp;done)|omega|rfl) [f1,hf,h7]
    exact⟨m',by omega,⟨f6,kz,k+1,(x+y+c)/1000000000,v',D++[(x+y+c)%1000000000],by omega,by simp,by simp[t2],by simp,by omega,by omega,hz,f5,by simp[hD],dD.app (Di.one (by omega) (by omega)),hfin⟩⟩
   ·have i1:¬(k:Int)<(la.length:Int):=by omega
    have i2:(k:Int)<(lb.length:Int):=by omega
    simp[A.lb235_0,hr,h7,h6,h5,lu,lv,i1,i2,e1,e2,t1,t3,t4,splice]
    simp(disch:=first|(simp;done)|omega|rfl) [f1,hf,h7]
    exact⟨m',by omega,⟨f6,kz,k+1,(x+y+c)/1000000000,v',D++[(x+y+c)%1000000000],by omega,by simp,by simp[t2],by simp,by omega,by omega,hz,f5,by simp[hD],dD.app (Di.one (by omega) (by omega)),hfin⟩⟩
   ·have i1:¬(k:Int)<(la.length:Int):=by omega
    have i2:¬(k:Int)<(lb.length:Int):=by omega
    simp[A.lb235_0,hr,h7,h6,h5,lu,lv,g3,i1,i2,e1,e2,t1,t3,t4,splice]
    simp(disch:=first|(simp;done)|omega|rfl) [f1,hf,h7]
    exact⟨m',by omega,⟨f6,kz,k+1,(x+y+c)/1000000000,v',D++[(x+y+c)%1000000000],by omega,by simp,by simp[t2],by simp,by omega,by omega,hz,f5,by simp[hD],dD.app (Di.one (by omega) (by omega)),hfin⟩⟩
  ·obtain⟨g1,g2,g3⟩:¬k<la.length∧¬k<lb.length∧¬0<c:=by omega
   have i1:¬(k:Int)<(la.length:Int):=by omega
   have i2:¬(k:Int)<(lb.length:Int):=by omega
   obtain rfl:c=0:=by omega
   rw[Zkv (by omega),Zkv (by omega),Int.mul_zero,Int.add_zero]at hv0
   simp[A.lb235_0,hr,hf,h7,h6,lu,lv,i1,i2,hW,hK]
   exact⟨out,h5,D,ho,dD,hv0,by omega⟩
 ·rintro _ r ⟨H,n1,W⟩ hr ⟨rfl,hW,hK,out,D,h5,ho,dD,hv0,hl⟩
  simp only at hW hK ho
  simp[h5,Ret,hW,hK]
  exact⟨D,ho.sl,dD,hv0,hl⟩
end Go.Mx
