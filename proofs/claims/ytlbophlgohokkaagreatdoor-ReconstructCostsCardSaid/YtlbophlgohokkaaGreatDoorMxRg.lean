/-
  Calls that write some of what was there; a select with a default; rows that are shortened.
-/
import Derived.Test.YtlbophlgohokkaaGreatDoorMxDec
import Derived.Test.YtlbophlgohokkaaGreatDoorMxWord
import Derived.Test.YtlbophlgohokkaaGreatDoorRbA
set_option linter.all false
namespace Go.Mx
open Go
variable {N i n n1 n2 z:Nat} {h h' h1:T O} {l:List (List V)} {r:T V} {v:V}
structure Upd (D:Nat→Prop) (h:T O) (n:Nat) (h':T O) (n':Nat):Prop where
 le:n≤n'
 get:∀i,i<n→¬D i→h'.get i=h.get i
theorem Upd.refl{D:Nat→Prop}:Upd D h n h n:=⟨Yrr _,fun _ _ _=>rfl⟩
theorem Keeps.upd{D:Nat→Prop}{n':Nat}(k:Keeps h n h' n'):Upd D h n h' n':=⟨k.le,fun i hi _=>k.get i hi⟩
theorem Upd.trans{D:Nat→Prop}{h2:T O}(a:Upd D h n h1 n1)(b:Upd D h1 n1 h2 n2):Upd D h n h2 n2:=
 ⟨Ytg a.le b.le,fun i hi hd=>(b.get i (Yr3 hi a.le) hd).trans (a.get i hi hd)⟩
theorem Upd.then{D D2:Nat→Prop}{h2:T O}(a:Upd D h n h1 n1)(b:Upd D2 h1 n1 h2 n2)(hd:∀i,i<n→D2 i→D i):Upd D h n h2 n2:=
 ⟨Ytg a.le b.le,fun i hi hn=>(b.get i (Yr3 hi a.le) fun hc=>hn (hd i hi hc)).trans (a.get i hi hn)⟩
theorem Upd.mono{D D2:Nat→Prop}(a:Upd D h n h1 n1)(hd:∀i,i<n→D i→D2 i):Upd D2 h n h1 n1:=⟨a.le,fun i hi hn=>a.get i hi fun hc=>hn (hd i hi hc)⟩
theorem Upd.set{D:Nat→Prop}{o:O}(a:Upd D h n h1 n1)(hi:D i∨n≤i):Upd D h n (h1.set i o) n1:=
 ⟨a.le,fun j hj hd=>by
  rw[T.get_set,Yrq ?_]
  ·exact a.get j hj hd
  ·rintro rfl
   rcases hi with hi|hi
   ·exact hd hi
   ·omega⟩
theorem Upd.up{D:Nat→Prop}(a:Upd D h n h1 n1)(hn:n1≤n2):Upd D h n h1 n2:=⟨Ytg a.le hn,a.get⟩
theorem Upd.new{D:Nat→Prop}(a:Upd D h n h1 n1)(o:O):Upd D h n (h1.set n1 o) (n1+1):=(a.set (.inr a.le)).up (Yui _)
theorem Zks{N i:Nat}:∀{w:List Nat},i∈Zac N w→i∈w∧i<N
 |[],h=>by simp[Zac]at h
 |j::w,h=>by
  simp only[Zac]at h
  split at h
  ·unfold Zfm at h
   split at h
   ·have:=Zks h;exact⟨Ysh _ this.1,this.2⟩
   ·rcases Yss.1 h with h|h
    ·subst h;exact⟨Ysj,by assumption⟩
    ·have:=Zks h;exact⟨Ysh _ this.1,this.2⟩
  ·have:=Zks h;exact⟨Ysh _ this.1,this.2⟩
theorem Zw9:Zac N []=[]:=rfl
attribute [simp] Zw9
theorem Zpq{w:List Nat}(h:∀i∈w,N≤i):Zac N w=[]:=Zon h
def selV2(st:St)(i:Nat)(send:Option V)(zero:V):Option O→Option (V×St)
 |some (.chan cap buf)=>match send with
  |some v=>if buf.length<cap then some (.tup [.int .i64 0,.bool false],st.write i (.chan cap (buf++[v]))) else some (.tup [.int .i64 (-1),.bool false],st)
  |none=>match buf with
   |v::buf=>some (.tup [.int .i64 0,.bool true,v],st.write i (.chan cap buf))
   |[]=>some (.tup [.int .i64 (-1),.bool false,zero],st)
 |_=>none
theorem Ymn{st:St}{send:Option V}{zero:V}:Yoa st i send zero=selV2 st i send zero (st.h.get i):=by
 unfold Yoa selV2
 rcases st.h.get i with _|o
 ·rfl
 ·cases o with
  |chan cap buf=>cases send with
   |some v=>rfl
   |none=>cases buf<;>rfl
  |_=>cases send<;>rfl
def Yob(C:Cx)(K:List Kf)(Q:Rs→Prop)(d:Nat)(ops:List Zbg)(r:T V)(n:Nat)(m:List Nat):Option (V×St)→Prop
 |some (v,st1)=>Run C (.reg::K) (Ydo (mops C.call ops ⟨r.set d v,n,m⟩ st1)) Q
 |none=>False
def Yom(C:Cx)(K:List Kf)(Q:Rs→Prop)(d:Nat)(ops:List Zbg)(r:T V)(n:Nat)(m:List Nat)(st:St)(zero:V):Option V→Option (Option V)→Prop
 |some (.chan i),some sv=>Yob C K Q d ops r n m (selV2 st i sv zero (st.h.get i))
 |_,_=>False
theorem Yeg{C:Cx}{K:List Kf}{Q:Rs→Prop}{ro:Option Nat}{d:Nat}{ch:Src}{send:Option Src}{zero:V}{ops:List Zbg}{m:List Nat}{st:St}(hd:d<n):Run C K (exR (C.code ro (.regS (some d) ch send zero ops) ⟨r,n,m⟩ st)) Q↔Yom C K Q d ops r n m st zero (ch.ev r) (evOpt r send):=by
 have e:C.code ro (.regS (some d) ch send zero ops) ⟨r,n,m⟩ st=Zhi (some d) ch send zero ops C.call C.code ro ⟨r,n,m⟩ st:=Cx.code_eq ..
 rw[e]
 unfold Zhi Yom
 simp only[]
 rcases ch.ev r with _|v
 ·exact Zhs
 ·cases v<;>try exact Zhs
  rename_i i
  rcases evOpt r send with _|sv
  ·exact Zhs
  ·simp only[Ymn]
   rcases selV2 st i sv zero (st.h.get i)with _|⟨v,st1⟩
   ·exact Zhs
   ·simp only[Fr.put,hd,if_true,Yob]
    refine Zax ?_
    show _=unw C K (Zel C .reg (Ydo (mops C.call ops ⟨r.set d v,n,m⟩ st1)))
    rcases mops C.call ops ⟨r.set d v,n,m⟩ st1 with _|⟨_,_⟩<;>rfl
theorem Zzv{C K Q d ops r n m st zero i sv}:Yom C K Q d ops r n m st zero (some (.chan i)) (some sv)=Yob C K Q d ops r n m (selV2 st i sv zero (st.h.get i)):=rfl
theorem Zzu{C K Q d ops r n m v st1}:Yob C K Q d ops r n m (some (v,st1))=Run C (.reg::K) (Ydo (mops C.call ops ⟨r.set d v,n,m⟩ st1)) Q:=rfl
theorem Zwy{st:St}{cap:Nat}{buf:List V}{zero:V}:selV2 st i none zero (some (.chan cap (v::buf)))=some (.tup [.int .i64 0,.bool true,v],st.write i (.chan cap buf)):=rfl
theorem Zzt{st:St}{cap:Nat}{zero:V}:selV2 st i none zero (some (.chan cap []))=some (.tup [.int .i64 (-1),.bool false,zero],st):=rfl
attribute [simp] Yeg Zzv Zzu Zwy Zzt
def Yfe(st:St)(bytes:Nat):Option V→Option (V×St)
 |some (.int _ k)=>if k<0∨k > IntKind.i64.max∨bytes*k > 2^48-112 then none else some (.chan st.n,st.alloc (.chan k.toNat []))
 |_=>none
theorem Zti{bytes:Nat}{x:Src}{call:Za3}{st:St}:Zeb bytes x call r st=Yfe st bytes (x.ev r):=by unfold Zeb Yfe;rfl
theorem Zxq{st:St}{kk:IntKind}{k:Int}(h0:0≤k)(h1:k≤100):Yfe st 16 (some (.int kk k))=some (.chan st.n,st.alloc (.chan k.toNat [])):=by
 unfold Yfe
 simp only[]
 rw[Yrq]
 have:IntKind.i64.max=9223372036854775807:=rfl
 omega
attribute [simp] Zti Zxq
def Zeg:V→List Nat
 |.slice i _ _ _ _=>[i]
 |_=>[]
theorem Sl.moved{D:Nat→Prop}{N':Nat}{l:List V}(s:Sl h N v l)(k:Upd D h N h' N')(hd:∀i∈Zeg v,¬D i):Sl h' N' v l:=by
 rcases s with s|⟨i,o,cp,c,e,rw,rfl,h2,h3,h4⟩
 ·exact .inl s
 ·exact .inr ⟨i,o,cp,c,e,rw,rfl,Yr3 h2 k.le,(k.get i h2 (hd i (by simp[Zeg]))).trans h3,h4⟩
def Row(z:Nat)(e:TypeId)(h:T O)(v:V)(l:List (List V)):Prop:=(∀x∈l,x.length=z)∧((l=[]∧v=.nilslice)∨∃i x m,v=.slice i 0 l.length none z∧x.length=m*z∧h.get i=some (.cells (l.flatten++x) e true))
theorem Row.len{e:TypeId}(s:Row z e h v l):Zlh v=some l.length:=by
 obtain⟨_,⟨rfl,rfl⟩|⟨i,x,m,rfl,_⟩⟩:=s<;>rfl
theorem Row.eq{e:TypeId}(s:Row z e h v l)(k:∀i∈Zeg v,h'.get i=h.get i):Row z e h' v l:=by
 obtain⟨h1,⟨rfl,rfl⟩|⟨i,x,m,rfl,hm,h2⟩⟩:=s
 ·exact⟨h1,.inl ⟨rfl,rfl⟩⟩
 ·exact⟨h1,.inr ⟨i,x,m,rfl,hm,(k i (by simp[Zeg])).trans h2⟩⟩
theorem Row.sn{e:TypeId}(s:Row z e h v l)(k:∀i∈Zeg v,i<N):Sn z h N v l:=by
 obtain⟨hl,⟨h1,h2⟩|⟨i,x,m,rfl,_,h4⟩⟩:=s
 ·exact .inl ⟨h1,.inl h2⟩
 ·refine .inr ⟨i,0,none,_,e,true,rfl,k i (by simp[Zeg]),h4,fun j y hj=>?_,by rw[Yr4,Zb9 hl];omega,fun k hk=>by cases hk⟩
  have:=Ze5 hl hj
  obtain⟨q1,q2⟩:=Zpf this
  rw[Yt3]
  unfold slc
  rw[Yru (by rw[Yr4];omega),List.drop_append_of_le_length (by omega),List.take_append_of_le_length (by rw[Yty];omega),←q2]
theorem Zlv(l:List (List V))(x:List V):(l++[x]).flatten=l.flatten++x:=by simp
def Ynw(st:St)(size:Nat)(zero:List V):Option V→Option (V×St)
 |some v=>Zhw size zero (.const v) Zp8 .nil st
 |none=>none
structure Yrn (z bytes:Nat) (e:TypeId) (zero:List V) (h:T O) (N:Nat) (v:V) (l:List (List V)) (k:Nat) (v1 v2 v3 v4:V) (h3 h4:T O) (w3:List Nat):Prop where
 a:∀w,∃u,Zct ⟨h,N,w⟩ z (some v) (some (some (.int .i64 k))) (some (some (.int .i64 ((k:Int)+1)))) (some (some (.int .i64 l.length)))=some (u,⟨h,N,w⟩)
 b:∀w,Zct ⟨h,N,w⟩ z (some v) (some none) (some (some (.int .i64 k))) (some none)=some (v1,⟨h,N,w⟩)
 c:∀w,Zct ⟨h,N,w⟩ z (some v) (some (some (.int .i64 ((k:Int)+1)))) (some none) (some none)=some (v2,⟨h,N,w⟩)
 d:∀w,Zb2 ⟨h,N,w⟩ z bytes e v1 v2=some (v3,⟨h3,N,w3++w⟩)
 len:Zlh v3=some (l.length-1)
 f:∀w,Zct ⟨h3,N,w⟩ z (some v3) (some (some (.int .i64 ((l.length-1:Nat):Int)))) (some (some (.int .i64 l.length))) (some none)=some (v4,⟨h3,N,w⟩)
 g:∀w,∃i,i∈Zeg v∧Ynw ⟨h3,N,w⟩ z zero (some v4)=some (.tup [],⟨h4,N,i::w⟩)
 w:∀i∈w3,i∈Zeg v
 upd:Upd (fun i=>i∈Zeg v) h N h4 N
 ids:Zeg v3=Zeg v
 row:Row z e h4 v3 (l.take k++l.drop (k+1))
def Ynu(st:St)(size:Nat):Option V→Option V→Option (V×St)
 |some d,some s=>Zg3 size (.const d) (.const s) Zp8 .nil st
 |_,_=>none
theorem Yal{size:Nat}{d s:Src}{call:Za3}{st:St}:Zg3 size d s call r st=Ynu st size (d.ev r) (s.ev r):=by
 unfold Zg3 Ynu
 rcases d.ev r with _|d
 ·rfl
 ·rcases s.ev r with _|s<;>rfl
attribute [simp] Yal
def Zy4(e:TypeId)(Y:V→Prop)(h:T O)(u:V):Prop:=∀i∈Zeg u,∃z,h.get i=some (.cells z e true)∧z≠[]∧∀y∈z,Y y
theorem Zy4.nil{e:TypeId}{Y:V→Prop}:Zy4 e Y h .nilslice:=fun i hi=>by simp[Zeg]at hi
theorem Zgm{e:TypeId}{N0:Nat}{u:V}{x:List V}{bytes:Nat}{w:List Nat}{Y:V→Prop}(s:Own z e N0 h N v l)(hn:l=[]→v=.nilslice)(hY:∀c∈l,∀y∈c,Y y)(hN:N0≤N)(hz:0<z)(hx:x.length=z)
  (hu:Za2 ⟨h,N,w⟩ z u=some (1,x)) (hb:(2*(l.length+1)+1000)*bytes≤281474976710656):
  ∃v' h' w',Zb2 ⟨h,N,w⟩ z bytes e v u=some (v',⟨h',N+1,w'⟩)∧Zac N0 w'=Zac N0 w∧Keeps h N0 h' (N+1)∧Upd (fun i=>i∈Zeg v) h N h' (N+1)∧Zy4 e Y h v∧Own z e N0 h' (N+1) v' (l++[x]):=by
 obtain⟨v',h',w',f1,f2,f3,f4,f5⟩:=Zbj s hN hz hx hu hb
 refine⟨v',h',w',f1,f2,f3,⟨Yui _,fun j hj hd=>?_⟩,fun i hi=>?_,f5⟩
 ·rcases f4 j with h1|h1|⟨o,n,c,q,h1⟩
  ·exact h1
  ·omega
  ·exact absurd (by rw[h1];simp[Zeg]) hd
 ·obtain⟨hl,⟨rfl,rfl⟩|⟨j,rfl,h2,h3,h4⟩⟩:=s
  ·simp[Zeg]at hi
  ·simp only[Zeg,Ytk]at hi
   subst hi
   refine⟨_,h4,fun hc=>?_,fun y hy=>?_⟩
   ·have hfl:=Zb9 hl
    rw[hc]at hfl
    have:l.length=0:=by
     rcases Nat.mul_eq_zero.1 hfl.symm with h|h
     ·exact h
     ·omega
    have:=hn (Yr8 this)
    cases this
   ·obtain⟨c,hc,hyc⟩:=List.mem_flatten.1 hy
    exact hY c hc y hyc
variable {n:Nat}
def dch(n:Nat):UInt8:=UInt8.ofNat (48+n%10)
theorem Ziz(n:Nat):(dch n).toNat=48+n%10:=by
 unfold dch
 simp
 omega
def Zcw(n:Nat):Str:=if h:n=0 then [] else Zcw (n/10)++[dch n]
termination_by n
decreasing_by omega
theorem Zbm:Zcw 0=[]:=by unfold Zcw;simp
theorem Zcg(h:n≠0):Zcw n=Zcw (n/10)++[dch n]:=by
 conv=>lhs;unfold Zcw
 rw[dif_neg h]
def decN(n:Nat):Str:=if n=0 then [48] else Zcw n
def Zhz(n k:Nat):Str:=List.replicate (k-(Zcw n).length) 48++Zcw n
def decI(z:Int):Str:=if z<0 then 45::decN z.natAbs else decN z.natAbs
def Za1(q:Rat):Str:=if q.den=1 then decI q.num else decI q.num++47::decN q.den
theorem Zq8:∀(n:Nat),numV (Zcw n)=n:=by
 intro n
 induction n using Nat.strongRecOn with
 |_ n ih=>
  by_cases h:n=0
  ·subst h;rw[Zbm];rfl
  ·rw[Zcg h,Zg5,ih (n/10) (by omega),Ziz]
   omega
theorem Ze4(n:Nat):numV (decN n)=n:=by
 unfold decN
 split
 ·subst_vars;rfl
 ·exact Zq8 n
theorem Zsk{s:Str}{c:UInt8}:Zcb (s++[c])=(Zcb s&&Zkg c):=by simp[Zcb]
theorem Yge(n:Nat):Zkg (dch n)=true:=by
 unfold Zkg
 rw[Ziz]
 simp
 omega
theorem Ydg:∀(n:Nat),Zcb (Zcw n)=true:=by
 intro n
 induction n using Nat.strongRecOn with
 |_ n ih=>
  by_cases h:n=0
  ·subst h;rw[Zbm];rfl
  ·rw[Zcg h,Zsk,ih (n/10) (by omega),Yge];rfl
theorem Zcy(n:Nat):Zcb (decN n)=true:=by
 unfold decN
 split
 ·rfl
 ·exact Ydg n
theorem Za0:∀{k n:Nat},n<10^k↔(Zcw n).length≤k
 |0,n=>by
  simp only[Yva,Nat.lt_one_iff,Nat.le_zero,List.length_eq_zero_iff]
  constructor
  ·rintro rfl;exact Zbm
  ·intro h
   have:=Zq8 n
   rw[h]at this
   exact this.symm
 |k+1,n=>by
  by_cases h:n=0
  ·subst h;rw[Zbm];simp;exact Yut (by decide)
  ·rw[Zcg h,Yr4,Ytd,Yse]
   have:=Za0 (k:=k) (n:=n/10)
   rw[Nat.succ_le_succ_iff,←this]
   exact(Ysf (by decide)).symm
theorem Znh:∀{n:Nat},n≠0→∃c t,Zcw n=c::t∧c.toNat≠48:=by
 intro n
 induction n using Nat.strongRecOn with
 |_ n ih=>
  intro h
  rw[Zcg h]
  by_cases h0:n/10=0
  ·rw[h0,Zbm]
   refine⟨dch n,[],rfl,?_⟩
   rw[Ziz];omega
  ·obtain⟨c,t,e,hc⟩:=ih (n/10) (by omega) h0
   rw[e]
   exact⟨c,t++[dch n],rfl,hc⟩
theorem Zkv(n:Nat):decN n≠[]:=by
 unfold decN
 split
 ·simp
 ·rename_i h
  obtain⟨c,t,e,_⟩:=Znh h
  rw[e];simp
theorem Yh5{c:UInt8}(h:Zkg c=true){k:Nat}:dch (10*k+(c.toNat-48))=c:=by
 unfold Zkg at h
 simp only[decide_eq_true_eq]at h
 apply UInt8.toNat_inj.1
 rw[Ziz];omega
theorem Ycw:∀(t:Str) (c:UInt8),Zcb (c::t)=true→c.toNat≠48→Zcw (numV (c::t))=c::t:=by
 intro t
 generalize hn:t.length=n
 induction n generalizing t with
 |zero=>
  intro c ha hc
  have:t=[]:=Yr8 hn
  subst this
  have hd:Zkg c=true:=by simpa[Zcb]using ha
  have:=Yh5 hd (k:=0)
  have h2:48≤c.toNat∧c.toNat≤57:=by simpa[Zkg]using hd
  have e:numV [c]=c.toNat-48:=by simp[numV]
  rw[e,Zcg (by omega),show (c.toNat-48)/10=0 by omega,Zbm]
  simp only[Nat.mul_zero,Yt3]at this
  rw[this];rfl
 |succ n ih=>
  intro c ha hc
  obtain⟨u,d,rfl⟩:∃u d,t=u++[d]:=⟨t.dropLast,t.getLast (by rintro rfl;simp at hn),(Yvl _).symm⟩
  simp at hn
  have ha':Zcb (c::u)=true∧Zkg d=true:=by
   rw[←Yud,Zsk,Yr6]at ha
   exact ha
  have ih':=ih u (by omega) c ha'.1 hc
  have h2:48≤d.toNat∧d.toNat≤57:=by simpa[Zkg]using ha'.2
  rw[←Yud,Zg5]
  have hpos:numV (c::u)≠0:=by
   intro h0
   rw[h0,Zbm]at ih'
   cases ih'
  rw[Zcg (by omega),show (10*numV (c::u)+(d.toNat-48))/10=numV (c::u) by omega,ih',Yh5 ha'.2]
theorem Zcv{s:Str}(h:Zcu s=true):decN (numV s)=s:=by
 cases s with
 |nil=>cases h
 |cons c t=>
  have h:(Zcb (c::t)&&(decide (c.toNat≠48)||decide (t=[])))=true:=h
  rw[Yr6,Yu2,decide_eq_true_eq,decide_eq_true_eq]at h
  obtain⟨ha,hc⟩:=h
  by_cases h48:c.toNat=48
  ·rcases hc with hc|hc
   ·exact absurd h48 hc
   ·subst hc
    have:c=48:=UInt8.toNat_inj.1 h48
    subst this;rfl
  ·have e:=Ycw t c ha h48
   have:numV (c::t)≠0:=by
    intro h0
    rw[h0,Zbm]at e
    cases e
   unfold decN
   rw[Yrq this,e]
theorem Zv5{a b:Nat}(h:decN a=decN b):a=b:=by rw[←Ze4 a,h,Ze4]
theorem Zoy:∀{k a b:Nat},a≠0→b<10^k→Zcw (a*10^k+b)=Zcw a++Zhz b k:=by
 intro k
 induction k with
 |zero=>
  intro a b ha hb
  have:b=0:=by simpa using hb
  subst this
  simp[Zhz,Zbm]
 |succ k ih=>
  intro a b ha hb
  rw[Yse]at hb ⊢
  have hb2:b/10<10^k:=(Ysf (by decide)).2 hb
  have hp:0<10^k:=Yut (by decide)
  have hpos:a*(10^k*10)+b≠0:=by
   have:=Yu0 (Nat.pos_of_ne_zero ha) (Yu0 hp (by decide:0<10));omega
  have e1:(a*(10^k*10)+b)/10=a*10^k+b/10:=by
   rw[←Yu4,Ysi _ 10,Nat.mul_add_div (by decide)]
  have e2:dch (a*(10^k*10)+b)=dch b:=by
   apply UInt8.toNat_inj.1
   rw[Ziz,Ziz,←Yu4,Ysi _ 10,Nat.mul_add_mod]
  rw[Zcg hpos,e1,ih ha hb2,e2,Ysz]
  congr 1
  by_cases hb0:b=0
  ·subst hb0
   unfold Zhz
   rw[Nat.zero_div,Zbm]
   simp only[List.length_nil,Nat.sub_zero,Ytm]
   rw[List.replicate_succ']
   rfl
  ·unfold Zhz
   rw[Zcg hb0,Yr4,Ytd,←Ysz]
   rw[show k+1-((Zcw (b/10)).length+1)=k-(Zcw (b/10)).length by omega]
theorem Ygf{b k:Nat}(h:b<10^k):(Zhz b k).length=k:=by
 have:=Za0.1 h
 simp[Zhz];omega
theorem Zj4(b:Nat):Zhz b 1=decN b:=by
 unfold Zhz decN
 split
 ·subst_vars;rw[Zbm];rfl
 ·rename_i h
  obtain⟨c,t,e,_⟩:=Znh h
  rw[e]
  simp
theorem Zsb(h:n≠0):0<(Zcw n).length:=by
 obtain⟨c,t,e,_⟩:=Znh h
 rw[e];simp
theorem Zix{k:Nat}(hk:0<k):(decN n).length≤k↔n<10^k:=by
 unfold decN
 split
 ·subst_vars
  simp
  exact⟨fun _=>Yut (by decide),fun _=>hk⟩
 ·exact Za0.symm
theorem Zox{n:Nat}:∃c t,decN n=c::t∧48≤c.toNat∧c.toNat≤57:=by
 have h:=Zcy n
 cases hs:decN n with
 |nil=>exact absurd hs (Zkv n)
 |cons c t=>
  rw[hs]at h
  have:Zkg c=true:=by
   simp[Zcb]at h;exact h.1
  exact⟨c,t,rfl,by simpa[Zkg]using this⟩
variable {s:Str}
theorem Zii:∀{s t:Str},(∀c∈s,c.toNat≠47)→slashAt (s++47::t)=s.length
 |[],t,_=>rfl
 |c::s,t,h=>by
  have h1:=h c Ysj
  have:=Zii (s:=s) (t:=t) fun d hd=>h d (Ysh _ hd)
  simp[slashAt,h1,this]
theorem Zgx:∀{s:Str},(∀c∈s,c.toNat≠47)→slashAt s=s.length
 |[],_=>rfl
 |c::s,h=>by
  have h1:=h c Ysj
  have:=Zgx (s:=s) fun d hd=>h d (Ysh _ hd)
  simp[slashAt,h1,this]
theorem Zme:∀{s:Str},slashAt s<s.length→s.drop (slashAt s)=47::s.drop (slashAt s+1)
 |[],h=>by simp[slashAt]at h
 |c::s,h=>by
  by_cases hc:c.toNat=47
  ·have:c=47:=UInt8.toNat_inj.1 hc
   subst this
   simp[slashAt]
  ·simp only[slashAt,hc,if_false,Yrp]at h ⊢
   have:=Zme (s:=s) (by omega)
   simpa using this
theorem Zqc(h:Zcb s=true):∀c∈s,c.toNat≠47:=by
 intro c hc
 unfold Zcb at h
 rw[Ysu]at h
 have:=h c hc
 unfold Zkg at this
 simp only[decide_eq_true_eq]at this
 omega
theorem Ycu(z:Int):∀c∈decI z,c.toNat≠47:=by
 unfold decI
 split
 ·intro c hc
  rcases Yss.1 hc with rfl|hc
  ·decide
  ·exact Zqc (Zcy _) c hc
 ·exact Zqc (Zcy _)
theorem Yav(n:Nat):negS (decN n)=false:=by
 obtain⟨c,t,e,h1,h2⟩:=Zox (n:=n)
 rw[e]
 simp[negS];omega
theorem Zg6(z:Int):negS (decI z)=decide (z<0):=by
 unfold decI
 split
 ·rename_i h;simp[negS,h]
 ·rename_i h;rw[Yav];simp[h]
theorem Zex(z:Int):Zat (decI z)=decN z.natAbs:=by
 unfold Zat
 rw[Zg6]
 by_cases h:z<0
 ·simp[h,decI]
 ·simp[h,decI]
theorem Zdu(q:Rat):slashAt (Za1 q)=(decI q.num).length:=by
 unfold Za1
 split
 ·exact Zgx (Ycu _)
 ·exact Zii (Ycu _)
theorem Zja(q:Rat):(Za1 q).take (slashAt (Za1 q))=decI q.num:=by
 rw[Zdu]
 unfold Za1
 split
 ·simp
 ·simp
theorem Zjc(q:Rat)(h:q.den≠1):(Za1 q).drop (slashAt (Za1 q)+1)=decN q.den:=by
 rw[Zdu]
 unfold Za1
 rw[Yrq h,←List.drop_drop]
 simp
theorem Zjb(q:Rat):slashAt (Za1 q)<(Za1 q).length↔q.den≠1:=by
 rw[Zdu]
 unfold Za1
 split
 ·rename_i h;simp[h]
 ·rename_i h;simp[h]
theorem Ygh{a b:Int}(h:decI a=decI b):a=b:=by
 have h1:=congrArg negS h
 have h2:=congrArg Zat h
 rw[Zg6,Zg6,decide_eq_decide]at h1
 rw[Zex,Zex]at h2
 have h3:=Zv5 h2
 omega
theorem Ydy{a b:Rat}(h:Za1 a=Za1 b):a=b:=by
 have h1:=Zja a
 rw[h,Zja b]at h1
 have h2:=Ygh h1
 have h3:a.den=b.den:=by
  by_cases ha:a.den=1
  ·have:=mt (Zjb a).1 (fun hc=>hc ha)
   rw[h]at this
   rw[Zjb]at this
   rw[ha];exact(Decidable.not_not.1 this).symm
  ·have:=(Zjb a).2 ha
   rw[h]at this
   have hb:=(Zjb b).1 this
   have e:=Zjc a ha
   rw[h,Zjc b hb]at e
   exact(Zv5 e).symm
 exact Rat.ext h2.symm h3
def Zqe(s:Str):Rat:=mkRat (if negS s then -(numV ((Zat s).take (slashAt (Zat s))):Int) else numV ((Zat s).take (slashAt (Zat s)))) (if slashAt (Zat s)<(Zat s).length then numV ((Zat s).drop (slashAt (Zat s)+1)) else 1)
theorem Ygt(h:chkNum s=0):Zcf (negS s) ((Zat s).take (slashAt (Zat s))) (decide (slashAt (Zat s)<(Zat s).length)) ((Zat s).drop (slashAt (Zat s)+1))=true∧((Zat s).take (slashAt (Zat s))).length≤600∧((Zat s).drop (slashAt (Zat s)+1)).length≤600∧(slashAt (Zat s)<(Zat s).length→Nat.gcd (numV ((Zat s).take (slashAt (Zat s)))) (numV ((Zat s).drop (slashAt (Zat s)+1)))=1):=by
 unfold chkNum Ymb Zkh at h
 split at h
 ·cases h
 ·rename_i h1
  split at h
  ·cases h
  ·rename_i h2
   split at h
   ·cases h
   ·rename_i h3
    refine⟨by simpa using h1,by omega,by omega,fun hs=>?_⟩
    rw[decide_eq_true hs]at h3
    simpa using h3
theorem Zrg{n:Int}{d:Nat}(hd:d≠0)(h:Nat.gcd n.natAbs d=1):(mkRat n d).num=n∧(mkRat n d).den=d:=by
 have:mkRat n d=⟨n,d,hd,h⟩:=by
  rw[Rat.mkRat_def,dif_neg hd]
  exact Rat.normalize_eq_mk' _ _ hd h
 rw[this]
 exact⟨rfl,rfl⟩
theorem Zyy(s:Str):s=(if negS s then [45] else [])++Zat s:=by
 cases s with
 |nil=>rfl
 |cons c t=>
  unfold Zat
  by_cases hc:c.toNat=45
  ·have:c=45:=UInt8.toNat_inj.1 hc
   subst this
   simp[negS]
  ·simp[negS,hc]
theorem Zkx(h:chkNum s=0):Za1 (Zqe s)=s∧(decN (Zqe s).num.natAbs).length≤600∧(decN (Zqe s).den).length≤600:=by
 obtain⟨h1,h2,h3,h4⟩:=Ygt h
 have hle:=Zc8 (Zat s)
 unfold Zcf at h1
 simp only[Yr6,Yux,Yu2,decide_eq_true_eq]at h1
 obtain⟨⟨hp,hz⟩,hd⟩:=h1
 have hpz:negS s=true→numV ((Zat s).take (slashAt (Zat s)))≠0:=by
  intro hn h0
  rw[hn,Bool.true_and,decide_eq_false_iff_not]at hz
  apply hz
  have:=Zcv hp
  rw[h0]at this
  exact this.symm
 have hpl:(decN (numV ((Zat s).take (slashAt (Zat s))))).length≤600:=by
  rw[Zcv hp];exact h2
 have hb:=Zyy s
 by_cases hs:slashAt (Zat s)<(Zat s).length
 ·have hd:Zcu ((Zat s).drop (slashAt (Zat s)+1))=true∧(Zat s).drop (slashAt (Zat s)+1)≠[48]∧(Zat s).drop (slashAt (Zat s)+1)≠[49]:=by
   rcases hd with hd|⟨⟨a,b⟩,c⟩
   ·exact absurd hs (by simpa using hd)
   ·exact⟨a,b,c⟩
  have hg:=h4 hs
  have hd0:numV ((Zat s).drop (slashAt (Zat s)+1))≠0:=by
   intro h0
   have:=Zcv hd.1
   rw[h0]at this
   exact hd.2.1 this.symm
  have hd1:numV ((Zat s).drop (slashAt (Zat s)+1))≠1:=by
   intro h0
   have:=Zcv hd.1
   rw[h0]at this
   exact hd.2.2 (this.symm.trans (by decide+kernel))
  have hdl:(decN (numV ((Zat s).drop (slashAt (Zat s)+1)))).length≤600:=by
   rw[Zcv hd.1];exact h3
  have hv:Zqe s=mkRat (if negS s then -(numV ((Zat s).take (slashAt (Zat s))):Int) else numV ((Zat s).take (slashAt (Zat s)))) (numV ((Zat s).drop (slashAt (Zat s)+1))):=by
   unfold Zqe;rw[Yru hs]
  obtain⟨e1,e2⟩:=Zrg (n:=if negS s then -(numV ((Zat s).take (slashAt (Zat s))):Int) else numV ((Zat s).take (slashAt (Zat s)))) hd0 (by split<;>simpa using hg)
  rw[←hv]at e1 e2
  have hbody:Zat s=(Zat s).take (slashAt (Zat s))++47::(Zat s).drop (slashAt (Zat s)+1):=by
   conv=>lhs;rw[←Yth (slashAt (Zat s)) (Zat s)]
   rw[Zme hs]
  refine⟨?_,?_,by rw[e2];exact hdl⟩
  ·unfold Za1
   rw[e2,Yrq hd1,Zcv hd.1,e1]
   conv=>rhs;rw[hb,hbody]
   unfold decI
   cases hn:negS s with
   |false=>
    simp only[Yry,if_false]
    rw[Yrq (by omega),Yrw,Zcv hp];rfl
   |true=>
    have:=hpz hn
    simp only[if_true]
    rw[Yru (by omega),Yuk,Yrw,Zcv hp];rfl
  ·rw[e1]
   split<;>simpa using hpl
 ·have hv:Zqe s=mkRat (if negS s then -(numV ((Zat s).take (slashAt (Zat s))):Int) else numV ((Zat s).take (slashAt (Zat s)))) 1:=by
   unfold Zqe;rw[Yrq hs]
  obtain⟨e1,e2⟩:=Zrg (n:=if negS s then -(numV ((Zat s).take (slashAt (Zat s))):Int) else numV ((Zat s).take (slashAt (Zat s)))) (show (1:Nat)≠0 by decide) (Nat.gcd_one_right _)
  rw[←hv]at e1 e2
  have ht:(Zat s).take (slashAt (Zat s))=Zat s:=Yr1 (by omega)
  rw[ht]at e1 hp hpz hpl
  refine⟨?_,?_,by rw[e2];decide+kernel⟩
  ·unfold Za1
   rw[e2,Yru rfl,e1]
   conv=>rhs;rw[hb]
   unfold decI
   cases hn:negS s with
   |false=>
    simp only[Yry,if_false]
    rw[Yrq (by omega),Yrw,Zcv hp];rfl
   |true=>
    have:=hpz hn
    simp only[if_true]
    rw[Yru (by omega),Yuk,Yrw,Zcv hp];rfl
  ·rw[e1]
   split<;>simpa using hpl
theorem Ydd(q:Rat):Zat (Za1 q)=if q.den=1 then decN q.num.natAbs else decN q.num.natAbs++47::decN q.den:=by
 have hneg:∀t:Str,negS (decI q.num++t)=decide (q.num<0):=by
  intro t
  rw[←Zg6]
  have:decI q.num≠[]:=by
   unfold decI;split
   ·simp
   ·exact Zkv _
  cases h:decI q.num with
  |nil=>exact absurd h this
  |cons c u=>rfl
 have hb:∀t:Str,Zat (decI q.num++t)=decN q.num.natAbs++t:=by
  intro t
  unfold Zat
  rw[hneg]
  by_cases h:q.num<0
  ·simp[h,decI]
  ·simp[h,decI]
 unfold Za1
 split
 ·have:=hb [];simpa using this
 ·exact hb _
def Zwg(q:Rat):Bool:=decide (600<(decN q.num.natAbs).length∨600<(decN q.den).length)
theorem Yh4:decN 1=[49]:=by decide+kernel
variable {i j k n:Nat} {q:Rat}
theorem Zv0:∀{i n:Nat},i<(ds n).length→(ds n)[i]?=some ((n/1000000000^i%1000000000:Nat):Int)
 |i,n,h=>by
  by_cases hn:n=0
  ·rw[hn,Zck]at h;simp at h
  ·rw[Zhc hn]at h ⊢
   cases i with
   |zero=>simp
   |succ i=>
    rw[Ytu,Zv0 (by simpa using h),Yt6,Yse,Ysi]
theorem Yh0(h:i<(ds n).length):n/1000000000^i≠0:=by
 intro hc
 have h1:n<1000000000^i:=(Nat.div_eq_zero_iff_lt (Yut (by decide))).1 hc
 have:=Zfq h1
 omega
theorem Ycs(h:i+1<(ds n).length):decN (n/1000000000^i)=decN (n/1000000000^(i+1))++Zhz (n/1000000000^i%1000000000) 9:=by
 have h0:=Yh0 (i:=i) (n:=n) (by omega)
 have h1:=Yh0 (i:=i+1) (n:=n) h
 have e:n/1000000000^(i+1)=n/1000000000^i/1000000000:=by rw[Yse,Yt6]
 rw[e]at h1 ⊢
 generalize n/1000000000^i=x at*
 unfold decN
 rw[Yrq h0,Yrq h1]
 have:=Zoy (k:=9) (a:=x/1000000000) (b:=x%1000000000) h1 (by omega)
 rw[show (10:Nat)^9=1000000000 by decide]at this
 rw[←this]
 congr 1
 omega
theorem Ygg(h:i+1=(ds n).length):decN (n/1000000000^i)=Zhz (n/1000000000^i%1000000000) 1:=by
 have h1:n<1000000000^(i+1):=by
  have h2:=Zig (Zcc n)
  rw[Zbf,←h]at h2
  unfold pI at h2
  have h3:(1000000000:Int)^(i+1)=((1000000000^(i+1):Nat):Int):=by rw[Int.natCast_pow];rfl
  rw[h3]at h2
  exact Int.ofNat_lt.1 h2
 rw[Yse]at h1
 have h3:n/1000000000^i<1000000000:=Nat.div_lt_of_lt_mul h1
 rw[Yti h3,Zj4]
def Qb(k:Nat)(q:Rat):Prop:=q.num.natAbs<2^k∧q.den<2^k
theorem Zmo(h:j≤k):2^j≤2^k:=Ysl (by decide) h
theorem Qb.mono(h:Qb j q)(hk:j≤k):Qb k q:=⟨Yr3 h.1 (Zmo hk),Yr3 h.2 (Zmo hk)⟩
theorem Zlb{a b:Int}(hb:b≠0)(h1:a.natAbs<2^k)(h2:b.natAbs<2^k):Qb k (Rat.divInt a b):=by
 constructor
 ·rw[Rat.num_divInt]
  refine Ysp ?_ h1
  rw[Int.natAbs_ediv_of_dvd]
  ·rw[Ytw]
   have:b.sign.natAbs=1:=by rw[Int.natAbs_sign,Yrq hb]
   rw[this,Nat.one_mul]
   exact Ytf _ _
  ·exact Int.dvd_trans (Int.gcd_dvd_right ..) (Int.dvd_mul_left ..)
 ·rw[Rat.den_divInt,Yrq hb]
  exact Ysp (Ytf _ _) h2
theorem Qb.mul{p:Rat}(hp:Qb j p)(hq:Qb k q):Qb (j+k) (p*q):=by
 have hp0:((p.den:Nat):Int)≠0:=by have:=p.den_nz;omega
 have hq0:((q.den:Nat):Int)≠0:=by have:=q.den_nz;omega
 rw[←Yuf p,←Yuf q,Rat.divInt_mul_divInt]
 refine Zlb (Yvf hp0 hq0) ?_ ?_
 ·rw[Ytw,Ysx]
  exact Yug hp.1 hq.1
 ·rw[Ytw,Ysx,Yrw,Yrw]
  exact Yug hp.2 hq.2
theorem Qb.add{p:Rat}(hp:Qb j p)(hq:Qb k q):Qb (j+k+1) (p+q):=by
 have hp0:((p.den:Nat):Int)≠0:=by have:=p.den_nz;omega
 have hq0:((q.den:Nat):Int)≠0:=by have:=q.den_nz;omega
 rw[←Yuf p,←Yuf q,Rat.divInt_add_divInt _ _ hp0 hq0]
 have e:2^(j+k+1)=2^j*2^k+2^k*2^j:=by rw[Yse,Ysx,Ysi (2^k)];omega
 refine Zlb (Yvf hp0 hq0) ?_ ?_
 ·refine Ysp (Int.natAbs_add_le ..) ?_
  rw[Ytw,Ytw,Yrw,Yrw,e]
  exact Nat.add_lt_add (Yug hp.1 hq.2) (Yug hq.1 hp.2)
 ·rw[Ytw,Yrw,Yrw,e]
  exact Yr3 (Yug hp.2 hq.2) (Nat.le_add_right _ _)
theorem Qb.neg(h:Qb k q):Qb k (-q):=by
 refine⟨?_,?_⟩
 ·rw[Rat.neg_num,Yuk];exact h.1
 ·rw[Rat.neg_den];exact h.2
theorem Qb.sub{p:Rat}(hp:Qb j p)(hq:Qb k q):Qb (j+k+1) (p-q):=by
 rw[Rat.sub_eq_add_neg];exact hp.add hq.neg
theorem Qb.int{z:Int}(h:z.natAbs<2^k)(hk:0<k):Qb k (z:Rat):=by
 refine⟨by simpa using h,?_⟩
 rw[Rat.den_intCast]
 exact Yr3 (by decide) (Zmo (j:=1) hk)
theorem Zj3(h:n<2^k):(ds n).length≤k:=Zfq (Yr3 h (Yuo (by decide) k))
theorem Ziy(h:n<2^k):(Zcw n).length≤k:=Za0.1 (Yr3 h (Yuo (by decide) k))
theorem Ziw(h:n<2^k):(decN n).length≤k+1:=by
 have:=Ziy h
 unfold decN
 split<;>simp<;>omega
theorem Zkw{z:Int}(h:z.natAbs<2^k):(decI z).length≤k+2:=by
 have:=Ziw h
 unfold decI
 split<;>simp<;>omega
theorem Ymv(k:Nat):10^k≤2^(4*k):=by
 rw[Nat.pow_mul];exact Yuo (by decide) k
theorem Ynx{s:Str}(h:chkNum s=0)(hn:s.length≤n):Qb (4*n+4) (Zqe s):=by
 obtain⟨e,_,_⟩:=Zkx h
 have hb:=Ydd (Zqe s)
 have l1:(Zat (Za1 (Zqe s))).length≤n:=by
  rw[e];unfold Zat;split
  ·simp;omega
  ·exact hn
 rw[hb]at l1
 have g:∀m:Nat,(decN m).length≤n+1→m<2^(4*n+4):=fun m hm=>by
  have:=(Zix (n:=m) (k:=n+1) (by omega)).1 hm
  exact Yr3 this (by have:=Ymv (n+1);rw[Yts]at this;exact this)
 split at l1
 ·rename_i h1
  have h2:(decN 1).length=1:=by rw[Yh4];rfl
  exact⟨g _ (by omega),by rw[h1];exact g 1 (by omega)⟩
 ·simp at l1
  exact⟨g _ (by omega),g _ (by omega)⟩
open Go Go.Proofs
set_option maxRecDepth 1000000
def A.b267:Zae:=sr [mc 4 0]
 (.seq (sr [mv 5 1,mv 6 0,ln 7 6,bi 8 .lss 5 7]
 (cd 8
 (sr [mv 9 0,mv 10 1,ia 11 1 9 10,ld 12 11,mv 4 12]
 (.ret))
 (.skip)))
 (sr [mc 4 0]
 (.ret)))
theorem A.c267:A.F 267=some ⟨13,[.tmp 4],A.b267⟩:=by kernel_rfl
def A.k267:=@A.kk 267 _ _ _ A.c267 rfl
def A.lb235_0:Zae:=.seq (sr [mv 9 7,mv 10 0,ln 11 10,bi 12 .lss 9 11,mv 13 12,mh 14 7 13,mh 15 1 13,⟨(some 16),.len 1 (.tmp 15),(some (13,false))⟩,⟨(some 17),.bin .lss (.node []) false (.tmp 14) (.tmp 16),(some (13,false))⟩,pt 18 13 17,mv 19 18,mh 20 6 19,⟨(some 21),.bin .gtr (.node []) false (.tmp 20) (.const (.int .i64 0)),(some (19,false))⟩,pt 22 19 21]
 (cd 22
 (.skip)
 (.exit 0)))
 (.seq (.block 1 (sr [mv 25 0,mv 26 7,c2 27 267 25 26,mv 28 1,mv 29 7,c2 30 267 28 29,bi 31 .add 27 30,mv 32 6,bi 33 .add 31 32,mv 8 33]
 (sr [mv 34 5,mv 35 8,bc 36 .rem 35 1000000000,⟨(some 37),.bslice 3 1 1 [(.int .i64 0)] [(0,1,(.tmp 36))],none⟩,⟨(some 38),.append 1 8 3 [(.int .i64 0)] (.tmp 34) (.tmp 37),none⟩,mv 5 38]
 (.reg [mv 39 8,bc 40 .quo 39 1000000000,mv 6 40]))))
 (.reg [mv 23 7,bc 24 .add 23 1,mv 7 24]))
def A.b235:Zae:=sr [mN 4]
 (sr [mN 5]
 (sr [mc 6 0]
 (.seq (sr [mc 7 0]
 (.block 0 (.loop A.lb235_0)))
 (sr [mv 41 5,mv 4 41]
 (.ret)))))
theorem A.c235:A.F 235=some ⟨42,[.tmp 4],A.b235⟩:=by kernel_rfl
def A.k235:=@A.kk 235 _ _ _ A.c235 rfl
def A.lb237_0:Zae:=.seq (sr [mv 9 7,mv 10 0,ln 11 10,bi 12 .lss 9 11]
 (cd 12
 (.skip)
 (.exit 0)))
 (.seq (.block 1 (.seq (.regD [mv 15 0,mv 16 7,ia 17 1 15 16,ld 18 17,mv 19 1,mv 20 7,c2 21 267 19 20,bi 22 .sub 18 21,mv 23 6,bi 24 .sub 22 23,mv 8 24] [0,0,3,7,0,0,48,127,0,511,1023])
 (sr [mc 6 0]
 (.seq (sr [mv 25 8,bc 26 .lss 25 0]
 (cd 26
 (sr [mv 27 8,bc 28 .add 27 1000000000,mv 8 28]
 (.reg [mc 6 1]))
 (.skip)))
 (.reg [mv 29 5,mv 30 8,⟨(some 31),.bslice 3 1 1 [(.int .i64 0)] [(0,1,(.tmp 30))],none⟩,⟨(some 32),.append 1 8 3 [(.int .i64 0)] (.tmp 29) (.tmp 31),none⟩,mv 5 32])))))
 (.reg [mv 13 7,bc 14 .add 13 1,mv 7 14]))
def A.b237:Zae:=sr [mN 4]
 (sr [mN 5]
 (sr [mc 6 0]
 (.seq (sr [mc 7 0]
 (.block 0 (.loop A.lb237_0)))
 (sr [mv 33 5,c1 34 265 33,mv 4 34]
 (.ret)))))
theorem A.c237:A.F 237=some ⟨35,[.tmp 4],A.b237⟩:=by kernel_rfl
def A.k237:=@A.kk 237 _ _ _ A.c237 rfl
theorem Zp2{h:T O}{N:Nat}{v:V}{l:List Int}{i:Nat}{w:List Nat}(hs:Sl h N v (dI l))(hi:i<4611686018427387904)(hl:l.length<4611686018427387904):A.C.call (.func 267 [] []) [v,.int .i64 i] ⟨h,N,w⟩=some (.int .i64 (zI l i),⟨h,N,w⟩):=by
 apply Call.eq
 have hlen:=hs.len
 rw[Zas]at hlen
 rw[Zaa,A.k267 (by simp)]
 by_cases hc:i<l.length
 ·have hc1:(i:Int)<(l.length:Int):=by omega
  obtain⟨d,hd⟩:=Zag hc
  obtain⟨j,o,c,e,rw,q1,q2,q3,q4⟩:=hs.at (Zba hd)
  simp[A.b267,hlen,hc1,q1,q3,q4,Yih hd]
 ·have hc1:¬(i:Int)<(l.length:Int):=by omega
  simp[A.b267,hlen,hc1,Zsq (Yto hc)]
structure AdI (h:T O) (N:Nat) (la lb:List Int) (m:Nat) (r:T V) (st:St):Prop where
 w:Zac N st.w=[]
 keep:Keeps h N st.h st.n
 ex:∃k c out D,k+m=max la.length lb.length+1∧r.get 7=some (.int .i64 k)∧r.get 6=some (.int .i64 c)∧r.get 5=some out∧0≤c∧c≤1∧(m=0→c=0)∧Own 1 3 N st.h st.n out (Zfc D)∧D.length=k∧Di D∧vI D+pI k*c=vI (la.take k)+vI (lb.take k)
theorem Zlo{l:List Int}{k:Nat}(h:l.length≤k):l.take k=l:=Yr1 h
theorem Yjh{h:T O}{N:Nat}{u v:V}{la lb:List Int}(hu:Sl h N u (dI la))(hv:Sl h N v (dI lb))(da:Di la)(db:Di lb)(l1:la.length<1099511627776)(l2:lb.length<1099511627776):Fn A.C 235 [u,v] h N (fun x h' n'=>∃l,Sl h' n' x (dI l)∧Di l∧vI l=vI la+vI lb∧l.length≤max la.length lb.length+1):=by
 intro w
 have lu:=hu.len
 have lv:=hv.len
 rw[Zas]at lu lv
 rw[Zaa,A.k235 (by simp)]
 simp[A.b235]
 refine Zaj [(5,40)] (fun e r st=>e=.exit 0∧Zac N st.w=[]∧Keeps h N st.h st.n∧∃out D,r.get 5=some out∧Own 1 3 N st.h st.n out (Zfc D)∧Di D∧vI D=vI la+vI lb∧D.length≤max la.length lb.length+1) (AdI h N la lb) (max la.length lb.length+1) ?_ ?_ ?_
 ·exact⟨by simp,Keeps.refl,0,0,.nilslice,[],by omega,by simp,by simp,by simp,by omega,by omega,fun _=>rfl,Own.nil,rfl,Di.nil,by simp[vI]⟩
 ·rintro m r ⟨H,n1,W⟩ hr hf ⟨hW,hK,k,c,out,D,hk,h7,h6,h5,c0,c1,cz,ho,hD,dD,hv0⟩
  simp only at hW hK ho
  rw[Zah]
  by_cases hgo:k<la.length∨k<lb.length∨0<c
  ·obtain⟨m',rfl⟩:∃m',m=m'+1:=⟨m-1,by
    have:m≠0:=fun hm=>by have:=cz hm;omega
    omega⟩
   have dx:=Yii da k
   have dy:=Yii db k
   have e1:=fun w=>Zp2 (w:=w) (i:=k) (hu.keep hK) (by omega) (by omega)
   have e2:=fun w=>Zp2 (w:=w) (i:=k) (hv.keep hK) (by omega) (by omega)
   obtain⟨x,hx⟩:∃x,zI la k=x:=⟨_,rfl⟩
   obtain⟨y,hy⟩:∃y,zI lb k=y:=⟨_,rfl⟩
   rw[hx]at dx e1
   rw[hy]at dy e2
   have t1:(x+y+c).tmod 1000000000=(x+y+c)%1000000000:=Ytj (by omega)
   have t2:(x+y+c).tdiv 1000000000=(x+y+c)/1000000000:=Ys3 (by omega)
   have t3:Zar .i64 (x+y)=x+y:=Zai (by omega) (by omega)
   have t4:Zar .i64 (x+y+c)=x+y+c:=Zai (by omega) (by omega)
   have t5:Zar .i64 ((x+y+c)/1000000000)=(x+y+c)/1000000000:=Zai (by omega) (by omega)
   have hfin:vI (D++[(x+y+c)%1000000000])+pI (k+1)*((x+y+c)/1000000000)=vI (la.take (k+1))+vI (lb.take (k+1)):=by
    rw[Zfy,hD,Zl8,Zl8,hx,hy,Zc0]
    have hm:=Yt4 (x+y+c) 1000000000
    generalize (x+y+c)/1000000000=Q at*
    generalize (x+y+c)%1000000000=R at*
    have:R=x+y+c-1000000000*Q:=by omega
    subst this
    grind
   have hz:m'=0→(x+y+c)/1000000000=0:=fun hm=>by
    have:x=0:=by rw[←hx];exact Zsq (by omega)
    have:y=0:=by rw[←hy];exact Zsq (by omega)
    omega
   have ho2:=ho.keep (Keeps.refl.new (.cells [.int .i64 ((x+y+c)%1000000000)] 3 true))
   obtain⟨v',h',w',f1,f2,f3,_,f5⟩:=Zbj (x:=[.int .i64 ((x+y+c)%1000000000)]) (u:=.slice n1 0 1 (some 1) 1) (bytes:=8) (w:=W) ho2 (by have:=hK.le;omega) (by decide) rfl (by simp[Za2,St.row,slc]) (by simp[Zfc];omega)
   rw[←Zc9]at f5
   have f6:Zac N w'=[]:=by rw[f2];exact hW
   have kz:=(hK.new (.cells [.int .i64 ((x+y+c)%1000000000)] 3 true)).then f3
   have hgo':k<la.length∨(¬k<la.length∧k<lb.length)∨(¬k<la.length∧¬k<lb.length∧0<c):=by omega
   rcases hgo' with g1|⟨g1,g2⟩|⟨g1,g2,g3⟩
   ·have i1:(k:Int)<(la.length:Int):=by omega
    simp[A.lb235_0,hr,h7,h6,h5,lu,i1,e1,e2,t1,t3,t4,splice]
    simp(disch:=first|(simp;done)|omega|rfl) [f1,hf,h7]
    exact⟨m',by omega,⟨f6,kz,k+1,(x+y+c)/1000000000,v',D++[(x+y+c)%1000000000],by omega,by simp,by simp[t2],by simp,by omega,by omega,hz,f5,by simp[hD],dD.app (Di.one (by omega) (by omega)),hfin⟩⟩
   ·have i1:¬(k:Int)<(la.length:Int):=by omega
    have i2:(k:Int)<(lb.length:Int):=by omega
    simp[A.lb235_0,hr,h7,h6,h5,lu,lv,i1,i2,e1,e2,t1,t3,t4,splice]
    simp(disch:=first|(simp;done)|omega|rfl) [f1,hf,h7]
    exact⟨m',by omega,⟨f6,kz,k+1,(x+y+c)/1000000000,v',D++[(x+y+c)%1000000000],by omega,by simp,by simp[t2],by simp,by omega,by omega,hz,f5,by simp[hD],dD.app (Di.one (by omega) (by omega)),hfin⟩⟩
   ·have i1:¬(k:Int)<(la.length:Int):=by omega
    have i2:¬(k:Int)<(lb.length:Int):=by omega
    simp[A.lb235_0,hr,h7,h6,h5,lu,lv,g3,i1,i2,e1,e2,t1,t3,t4,splice]
    simp(disch:=first|(simp;done)|omega|rfl) [f1,hf,h7]
    exact⟨m',by omega,⟨f6,kz,k+1,(x+y+c)/1000000000,v',D++[(x+y+c)%1000000000],by omega,by simp,by simp[t2],by simp,by omega,by omega,hz,f5,by simp[hD],dD.app (Di.one (by omega) (by omega)),hfin⟩⟩
  ·obtain⟨g1,g2,g3⟩:¬k<la.length∧¬k<lb.length∧¬0<c:=by omega
   have i1:¬(k:Int)<(la.length:Int):=by omega
   have i2:¬(k:Int)<(lb.length:Int):=by omega
   obtain rfl:c=0:=by omega
   rw[Zlo (by omega),Zlo (by omega),Int.mul_zero,Int.add_zero]at hv0
   simp[A.lb235_0,hr,hf,h7,h6,lu,lv,i1,i2,hW,hK]
   exact⟨out,h5,D,ho,dD,hv0,by omega⟩
 ·rintro _ r ⟨H,n1,W⟩ hr ⟨rfl,hW,hK,out,D,h5,ho,dD,hv0,hl⟩
  simp only at hW hK ho
  simp[h5,Ret,hW,hK]
  exact⟨D,ho.sl,dD,hv0,hl⟩
end Go.Mx
