/-
  Calls that write some of what was there; a select with a default; rows that are shortened.
-/
import Derived.Test.YtlbophlgohokkaaGreatDoorMxDec
import Derived.Test.YtlbophlgohokkaaGreatDoorMxWord
import Derived.Test.YtlbophlgohokkaaGreatDoorRbA
set_option linter.all false
namespace Go.Mx
open Go
variable {N i n n1 n2 z:Nat} {h h' h1:T O} {l:List (List V)} {r:T V} {v:V} {w:List Nat}
structure dC (D:Nat->Prop) (h:T O) (n:Nat) (h':T O) (n':Nat):Prop where
 le:n<=n'
 get:∀i,i<n->¬D i->h'.get i=h.get i
theorem dC.refl{D:Nat->Prop}:dC D h n h n:=⟨aV _,fun _ _ _=>rfl⟩
theorem ab.upd{D:Nat->Prop}{n':Nat}(k:ab h n h' n'):dC D h n h' n':=⟨k.le,fun i hi _=>k.get i hi⟩
theorem dC.trans{D:Nat->Prop}{h2:T O}(a:dC D h n h1 n1)(b:dC D h1 n1 h2 n2):dC D h n h2 n2:=
 ⟨lS a.le b.le,fun i hi hd=>(b.get i (dZ hi a.le) hd).trans (a.get i hi hd)⟩
theorem dC.then{D D2:Nat->Prop}{h2:T O}(a:dC D h n h1 n1)(b:dC D2 h1 n1 h2 n2)(hd:∀i,i<n->D2 i->D i):dC D h n h2 n2:=
 ⟨lS a.le b.le,fun i hi hn=>(b.get i (dZ hi a.le) fun hc=>hn (hd i hi hc)).trans (a.get i hi hn)⟩
theorem dC.mono{D D2:Nat->Prop}(a:dC D h n h1 n1)(hd:∀i,i<n->D i->D2 i):dC D2 h n h1 n1:=⟨a.le,fun i hi hn=>a.get i hi fun hc=>hn (hd i hi hc)⟩
theorem dC.set{D:Nat->Prop}{o:O}(a:dC D h n h1 n1)(hi:D i\/n<=i):dC D h n (h1.set i o) n1:=
 ⟨a.le,fun j hj hd=>by
  rw[T.ah,ar ?_]
  ·exact a.get j hj hd
  ·rintro rfl
   rcases hi with hi|hi
   ·exact hd hi
   ·omega⟩
theorem dC.up{D:Nat->Prop}(a:dC D h n h1 n1)(hn:n1<=n2):dC D h n h1 n2:=⟨lS a.le hn,a.get⟩
theorem dC.new{D:Nat->Prop}(a:dC D h n h1 n1)(o:O):dC D h n (h1.set n1 o) (n1+1):=(a.set (.inr a.le)).up (sN _)
theorem dC.keeps{D:Nat->Prop}{m:Nat}(a:dC D h n h1 n1)(hm:m<=n)(hd:∀i,D i->m<=i):ab h m h1 n1:=⟨lS hm a.le,fun i hi=>a.get i (dZ hi hm) fun hc=>by have:=hd i hc;omega⟩
theorem Cd{N i:Nat}:∀{w:List Nat},i∈au N w->i∈w/\i<N
 |[],h=>by simp[au]at h
 |j::w,h=>by
  simp only[au]at h
  split at h
  ·unfold qo at h
   split at h
   ·have:=Cd h;exact⟨mr _ this.1,this.2⟩
   ·rcases jN.1 h with h|h
    ·subst h;exact⟨mS,by assumption⟩
    ·have:=Cd h;exact⟨mr _ this.1,this.2⟩
  ·have:=Cd h;exact⟨mr _ this.1,this.2⟩
theorem Zx2:au N []=[]:=rfl
attribute [simp] Zx2
theorem Dr(h:∀i∈w,N<=i):au N w=[]:=UO h
def kP(st:St)(i:Nat)(send:Option V)(zero:V):Option O->Option (V×St)
 |some (.chan cap buf)=>match send with
  |some v=>if buf.length<cap then some (.bb [.int .i64 0,.bool false],st.write i (.chan cap (buf++[v]))) else some (.bb [.int .i64 (-1),.bool false],st)
  |none=>match buf with
   |v::buf=>some (.bb [.int .i64 0,.bool true,v],st.write i (.chan cap buf))
   |[]=>some (.bb [.int .i64 (-1),.bool false,zero],st)
 |_=>none
theorem Yny{st:St}{send:Option V}{zero:V}:JO st i send zero=kP st i send zero (st.h.get i):=by
 unfold JO kP
 rcases st.h.get i with _|o
 ·rfl
 ·cases o with
  |chan cap buf=>cases send with
   |some v=>rfl
   |none=>cases buf<;>rfl
  |_=>cases send<;>rfl
def Kq(C:Cx)(K:List Kf)(Q:Rs->Prop)(d:Nat)(ops:List du)(r:T V)(n:Nat)(m:List Nat):Option (V×St)->Prop
 |some (v,bR)=>bH C (.aL::K) (xg (de C.call ops ⟨r.set d v,n,m⟩ bR)) Q
 |none=>False
def PL(C:Cx)(K:List Kf)(Q:Rs->Prop)(d:Nat)(ops:List du)(r:T V)(n:Nat)(m:List Nat)(st:St)(zero:V):Option V->Option (Option V)->Prop
 |some (.chan i),some sv=>Kq C K Q d ops r n m (kP st i sv zero (st.h.get i))
 |_,_=>False
theorem Yfm{C:Cx}{K:List Kf}{Q:Rs->Prop}{ro:Option Nat}{d:Nat}{ch:Src}{send:Option Src}{zero:V}{ops:List du}{m:List Nat}{st:St}(hd:d<n):bH C K (eE (C.code ro (.sH (some d) ch send zero ops) ⟨r,n,m⟩ st)) Q↔PL C K Q d ops r n m st zero (ch.ev r) (ay r send):=by
 have e:C.code ro (.sH (some d) ch send zero ops) ⟨r,n,m⟩ st=uU (some d) ch send zero ops C.call C.code ro ⟨r,n,m⟩ st:=Cx.df ..
 rw[e]
 unfold uU PL
 simp only[]
 rcases ch.ev r with _|v
 ·exact Eo
 ·cases v<;>try exact Eo
  rename_i i
  rcases ay r send with _|sv
  ·exact Eo
  ·simp only[Yny]
   rcases kP st i sv zero (st.h.get i)with _|⟨v,bR⟩
   ·exact Eo
   ·simp only[Fr.put,hd,if_true,Kq]
    refine h_ ?_
    show _=hC C K (jY C .aL (xg (de C.call ops ⟨r.set d v,n,m⟩ bR)))
    rcases de C.call ops ⟨r.set d v,n,m⟩ bR with _|⟨_,_⟩<;>rfl
theorem Yar{C K Q d ops r n m st zero i sv}:PL C K Q d ops r n m st zero (some (.chan i)) (some sv)=Kq C K Q d ops r n m (kP st i sv zero (st.h.get i)):=rfl
theorem Yaq{C K Q d ops r n m v bR}:Kq C K Q d ops r n m (some (v,bR))=bH C (.aL::K) (xg (de C.call ops ⟨r.set d v,n,m⟩ bR)) Q:=rfl
theorem Zxq{st:St}{cap:Nat}{buf:List V}{zero:V}:kP st i none zero (some (.chan cap (v::buf)))=some (.bb [.int .i64 0,.bool true,v],st.write i (.chan cap buf)):=rfl
theorem Yap{st:St}{cap:Nat}{zero:V}:kP st i none zero (some (.chan cap []))=some (.bb [.int .i64 (-1),.bool false,zero],st):=rfl
attribute [simp] Yfm Yar Yaq Zxq Yap
def Kr(st:St)(bytes:Nat):Option V->Option (V×St)
 |some (.int _ k)=>if k<0\/k > IntKind.i64.max\/bytes*k > 2^48-112 then none else some (.chan st.n,st.alloc (.chan k.toNat []))
 |_=>none
theorem Ztv{bytes:Nat}{x:Src}{call:cA}{st:St}:zP bytes x call r st=Kr st bytes (x.ev r):=by unfold zP Kr;rfl
theorem Zyj{st:St}{kk:IntKind}{k:Int}(h0:0<=k)(h1:k<=100):Kr st 16 (some (.int kk k))=some (.chan st.n,st.alloc (.chan k.toNat [])):=by
 unfold Kr
 simp only[]
 rw[ar]
 have:IntKind.i64.max=9223372036854775807:=rfl
 omega
attribute [simp] Ztv Zyj
def dj:V->List Nat
 |.slice i _ _ _ _=>[i]
 |_=>[]
theorem Sl.cL{D:Nat->Prop}{N':Nat}{l:List V}(s:Sl h N v l)(k:dC D h N h' N')(hd:∀i∈dj v,¬D i):Sl h' N' v l:=by
 rcases s with s|⟨i,o,cp,c,e,rw,rfl,h2,h3,h4⟩
 ·exact .inl s
 ·exact .inr ⟨i,o,cp,c,e,rw,rfl,dZ h2 k.le,(k.get i h2 (hd i (by simp[dj]))).trans h3,h4⟩
def Row(z:Nat)(e:TypeId)(h:T O)(v:V)(l:List (List V)):Prop:=(∀x∈l,x.length=z)/\((l=[]/\v=.aa)\/∃i x m,v=.slice i 0 l.length none z/\x.length=m*z/\h.get i=some (.cells (l.flatten++x) e true))
theorem Row.len{e:TypeId}(s:Row z e h v l):kq v=some l.length:=by
 obtain⟨_,⟨rfl,rfl⟩|⟨i,x,m,rfl,_⟩⟩:=s<;>rfl
theorem Row.eq{e:TypeId}(s:Row z e h v l)(k:∀i∈dj v,h'.get i=h.get i):Row z e h' v l:=by
 obtain⟨h1,⟨rfl,rfl⟩|⟨i,x,m,rfl,hm,h2⟩⟩:=s
 ·exact⟨h1,.inl ⟨rfl,rfl⟩⟩
 ·exact⟨h1,.inr ⟨i,x,m,rfl,hm,(k i (by simp[dj])).trans h2⟩⟩
theorem Row.sn{e:TypeId}(s:Row z e h v l)(k:∀i∈dj v,i<N):Sn z h N v l:=by
 obtain⟨hl,⟨h1,h2⟩|⟨i,x,m,rfl,_,h4⟩⟩:=s
 ·exact .inl ⟨h1,.inl h2⟩
 ·refine .inr ⟨i,0,none,_,e,true,rfl,k i (by simp[dj]),h4,fun j y hj=>?_,by rw[fK,rO hl];omega,fun k hk=>by cases hk⟩
  have:=Ew hl hj
  obtain⟨q1,q2⟩:=PM this
  rw[qm]
  unfold aM
  rw[aF (by rw[fK];omega),List.drop_append_of_le_length (by omega),List.take_append_of_le_length (by rw[tr];omega),<-q2]
theorem Ey(l:List (List V))(x:List V):(l++[x]).flatten=l.flatten++x:=by simp
def Yo8(st:St)(size:Nat)(zero:List V):Option V->Option (V×St)
 |some v=>D3 size zero (.const v) Oj .nil st
 |none=>none
structure Ys9 (z bytes:Nat) (e:TypeId) (zero:List V) (h:T O) (N:Nat) (v:V) (l:List (List V)) (k:Nat) (v1 v2 v3 v4:V) (h3 h4:T O) (w3:List Nat):Prop where
 a:∀w,∃u,lW ⟨h,N,w⟩ z (some v) (some (some (.int .i64 k))) (some (some (.int .i64 ((k:Int)+1)))) (some (some (.int .i64 l.length)))=some (u,⟨h,N,w⟩)
 b:∀w,lW ⟨h,N,w⟩ z (some v) (some none) (some (some (.int .i64 k))) (some none)=some (v1,⟨h,N,w⟩)
 c:∀w,lW ⟨h,N,w⟩ z (some v) (some (some (.int .i64 ((k:Int)+1)))) (some none) (some none)=some (v2,⟨h,N,w⟩)
 d:∀w,jQ ⟨h,N,w⟩ z bytes e v1 v2=some (v3,⟨h3,N,w3++w⟩)
 len:kq v3=some (l.length-1)
 f:∀w,lW ⟨h3,N,w⟩ z (some v3) (some (some (.int .i64 ((l.length-1:Nat):Int)))) (some (some (.int .i64 l.length))) (some none)=some (v4,⟨h3,N,w⟩)
 g:∀w,∃i,i∈dj v/\Yo8 ⟨h3,N,w⟩ z zero (some v4)=some (.bb [],⟨h4,N,i::w⟩)
 w:∀i∈w3,i∈dj v
 upd:dC (fun i=>i∈dj v) h N h4 N
 ids:dj v3=dj v
 row:Row z e h4 v3 (l.take k++l.drop (k+1))
def Ce(st:St)(size:Nat):Option V->Option V->Option (V×St)
 |some d,some s=>wV size (.const d) (.const s) Oj .nil st
 |_,_=>none
theorem Ybn{size:Nat}{d s:Src}{call:cA}{st:St}:wV size d s call r st=Ce st size (d.ev r) (s.ev r):=by
 unfold wV Ce
 rcases d.ev r with _|d
 ·rfl
 ·rcases s.ev r with _|s<;>rfl
theorem Zzn{cp:Option Nat}{c xs:List V}{e:TypeId}{s:V}(hn:0<n)(hs:ft ⟨h,N,w⟩ 1 s=some (n,xs))(hx:xs.length=n)(hg:h.get i=some (.cells c e true))(hc:c.length=n):Ce ⟨h,N,w⟩ 1 (some (.slice i 0 n cp 1)) (some s)=some (.int .i64 n,⟨h.set i (.cells xs e true),N,i::w⟩):=by
 have pN:¬n=0:=by omega
 have hd:c.drop n=[]:=List.drop_of_length_le (by omega)
 have ht:xs.take n=xs:=fN (by omega)
 simp only[Ce,wV,Src.ev,hs,St.row,hg]
 simp[pN,hc,ag,St.write,ht,hx,hd]
theorem Yd3{cp:Option Nat}{xs:List V}{s:V}(hs:ft ⟨h,N,w⟩ 1 s=some (0,xs)):Ce ⟨h,N,w⟩ 1 (some (.slice i 0 0 cp 1)) (some s)=some (.int .i64 0,⟨h,N,w⟩):=by
 simp only[Ce,wV,Src.ev,hs]
 simp
attribute [simp] Ybn
def pV(e:TypeId)(Y:V->Prop)(h:T O)(u:V):Prop:=∀i∈dj u,∃z,h.get i=some (.cells z e true)/\z≠[]/\∀y∈z,Y y
theorem pV.nil{e:TypeId}{Y:V->Prop}:pV e Y h .aa:=fun i hi=>by simp[dj]at hi
theorem Dl{e:TypeId}{N0:Nat}{u:V}{x:List V}{bytes:Nat}{Y:V->Prop}(s:Own z e N0 h N v l)(hn:l=[]->v=.aa)(hY:∀c∈l,∀y∈c,Y y)(hN:N0<=N)(hz:0<z)(hx:x.length=z)
  (hu:ft ⟨h,N,w⟩ z u=some (1,x)) (hb:(2*(l.length+1)+1000)*bytes<=281474976710656):
  ∃v' h' w',jQ ⟨h,N,w⟩ z bytes e v u=some (v',⟨h',N+1,w'⟩)/\au N0 w'=au N0 w/\ab h N0 h' (N+1)/\dC (fun i=>i∈dj v) h N h' (N+1)/\pV e Y h v/\Own z e N0 h' (N+1) v' (l++[x]):=by
 obtain⟨v',h',w',f1,f2,f3,f4,f5⟩:=pY s hN hz hx hu hb
 refine⟨v',h',w',f1,f2,f3,⟨sN _,fun j hj hd=>?_⟩,fun i hi=>?_,f5⟩
 ·rcases f4 j with h1|h1|⟨o,n,c,q,h1⟩
  ·exact h1
  ·omega
  ·exact absurd (by rw[h1];simp[dj]) hd
 ·obtain⟨hl,⟨rfl,rfl⟩|⟨j,rfl,h2,h3,h4⟩⟩:=s
  ·simp[dj]at hi
  ·simp only[dj,uf]at hi
   subst hi
   refine⟨_,h4,fun hc=>?_,fun y hy=>?_⟩
   ·have jv:=rO hl
    rw[hc]at jv
    have:l.length=0:=by
     rcases Nat.mul_eq_zero.1 jv.symm with h|h
     ·exact h
     ·omega
    have:=hn (nU this)
    cases this
   ·obtain⟨c,hc,GS⟩:=List.mem_flatten.1 hy
    exact hY c hc y GS
variable {n:Nat}
def cN(n:Nat):UInt8:=UInt8.ofNat (48+n%10)
theorem Cf(n:Nat):(cN n).toNat=48+n%10:=by
 unfold cN
 simp
 omega
def cO(n:Nat):aX:=if h:n=0 then [] else cO (n/10)++[cN n]
termination_by n
decreasing_by omega
theorem o_:cO 0=[]:=by unfold cO;simp
theorem rP(h:n≠0):cO n=cO (n/10)++[cN n]:=by
 conv=>lhs;unfold cO
 rw[dif_neg h]
def ak(n:Nat):aX:=if n=0 then [48] else cO n
def gj(n k:Nat):aX:=List.replicate (k-(cO n).length) 48++cO n
def aK(z:Int):aX:=if z<0 then 45::ak z.natAbs else ak z.natAbs
def aN(q:Rat):aX:=if q.den=1 then aK q.num else aK q.num++47::ak q.den
theorem Vu:∀(n:Nat),aC (cO n)=n:=by
 intro n
 induction n using Nat.strongRecOn with
 |_ n ih=>
  by_cases h:n=0
  ·subst h;rw[o_];rfl
  ·rw[rP h,FW,ih (n/10) (by omega),Cf]
   omega
theorem yI(n:Nat):aC (ak n)=n:=by
 unfold ak
 split
 ·subst_vars;rfl
 ·exact Vu n
theorem Vv{s:aX}{c:UInt8}:cB (s++[c])=(cB s&&iQ c):=by simp[cB]
theorem Yhr(n:Nat):iQ (cN n)=true:=by
 unfold iQ
 rw[Cf]
 simp
 omega
theorem Yeh:∀(n:Nat),cB (cO n)=true:=by
 intro n
 induction n using Nat.strongRecOn with
 |_ n ih=>
  by_cases h:n=0
  ·subst h;rw[o_];rfl
  ·rw[rP h,Vv,ih (n/10) (by omega),Yhr];rfl
theorem tR(n:Nat):cB (ak n)=true:=by
 unfold ak
 split
 ·rfl
 ·exact Yeh n
theorem lZ:∀{k n:Nat},n<10^k↔(cO n).length<=k
 |0,n=>by
  simp only[zL,Nat.lt_one_iff,Nat.le_zero,List.length_eq_zero_iff]
  constructor
  ·rintro rfl;exact o_
  ·intro h
   have:=Vu n
   rw[h]at this
   exact this.symm
 |k+1,n=>by
  by_cases h:n=0
  ·subst h;rw[o_];simp;exact uL (by decide)
  ·rw[rP h,fK,uJ,fJ]
   have:=lZ (k:=k) (n:=n/10)
   rw[Nat.succ_le_succ_iff,<-this]
   exact(mq (by decide)).symm
theorem PN:∀{n:Nat},n≠0->∃c t,cO n=c::t/\c.toNat≠48:=by
 intro n
 induction n using Nat.strongRecOn with
 |_ n ih=>
  intro h
  rw[rP h]
  by_cases h0:n/10=0
  ·rw[h0,o_]
   refine⟨cN n,[],rfl,?_⟩
   rw[Cf];omega
  ·obtain⟨c,t,e,hc⟩:=ih (n/10) (by omega) h0
   rw[e]
   exact⟨c,t++[cN n],rfl,hc⟩
theorem Cg(n:Nat):ak n≠[]:=by
 unfold ak
 split
 ·simp
 ·rename_i h
  obtain⟨c,t,e,_⟩:=PN h
  rw[e];simp
theorem Vw{c:UInt8}(h:iQ c=true){k:Nat}:cN (10*k+(c.toNat-48))=c:=by
 unfold iQ at h
 simp only[decide_eq_true_eq]at h
 apply UInt8.toNat_inj.1
 rw[Cf];omega
theorem Ydz:∀(t:aX) (c:UInt8),cB (c::t)=true->c.toNat≠48->cO (aC (c::t))=c::t:=by
 intro t
 generalize hn:t.length=n
 induction n generalizing t with
 |zero=>
  intro c ha hc
  have:t=[]:=nU hn
  subst this
  have hd:iQ c=true:=by simpa[cB]using ha
  have:=Vw hd (k:=0)
  have h2:48<=c.toNat/\c.toNat<=57:=by simpa[iQ]using hd
  have e:aC [c]=c.toNat-48:=by simp[aC]
  rw[e,rP (by omega),show (c.toNat-48)/10=0 by omega,o_]
  simp only[Nat.mul_zero,qm]at this
  rw[this];rfl
 |succ n ih=>
  intro c ha hc
  obtain⟨u,d,rfl⟩:∃u d,t=u++[d]:=⟨t.dropLast,t.getLast (by rintro rfl;simp at hn),(Jq _).symm⟩
  simp at hn
  have PO:cB (c::u)=true/\iQ d=true:=by
   rw[<-xZ,Vv,iB]at ha
   exact ha
  have PQ:=ih u (by omega) c PO.1 hc
  have h2:48<=d.toNat/\d.toNat<=57:=by simpa[iQ]using PO.2
  rw[<-xZ,FW]
  have pc:aC (c::u)≠0:=by
   intro h0
   rw[h0,o_]at PQ
   cases PQ
  rw[rP (by omega),show (10*aC (c::u)+(d.toNat-48))/10=aC (c::u) by omega,PQ,Vw PO.2]
theorem xn{s:aX}(h:gO s=true):ak (aC s)=s:=by
 cases s with
 |nil=>cases h
 |cons c t=>
  have h:(cB (c::t)&&(decide (c.toNat≠48)||decide (t=[])))=true:=h
  rw[iB,Bq,decide_eq_true_eq,decide_eq_true_eq]at h
  obtain⟨ha,hc⟩:=h
  by_cases h48:c.toNat=48
  ·rcases hc with hc|hc
   ·exact absurd h48 hc
   ·subst hc
    have:c=48:=UInt8.toNat_inj.1 h48
    subst this;rfl
  ·have e:=Ydz t c ha h48
   have:aC (c::t)≠0:=by
    intro h0
    rw[h0,o_]at e
    cases e
   unfold ak
   rw[ar this,e]
theorem Vx{a b:Nat}(h:ak a=ak b):a=b:=by rw[<-yI a,h,yI]
theorem Vy:∀{k a b:Nat},a≠0->b<10^k->cO (a*10^k+b)=cO a++gj b k:=by
 intro k
 induction k with
 |zero=>
  intro a b ha hb
  have:b=0:=by simpa using hb
  subst this
  simp[gj,o_]
 |succ k ih=>
  intro a b ha hb
  rw[fJ]at hb ⊢
  have nE:b/10<10^k:=(mq (by decide)).2 hb
  have hp:0<10^k:=uL (by decide)
  have pc:a*(10^k*10)+b≠0:=by
   have:=wQ (Nat.pos_of_ne_zero ha) (wQ hp (by decide:0<10));omega
  have e1:(a*(10^k*10)+b)/10=a*10^k+b/10:=by
   rw[<-zK,gX _ 10,Nat.mul_add_div (by decide)]
  have e2:cN (a*(10^k*10)+b)=cN b:=by
   apply UInt8.toNat_inj.1
   rw[Cf,Cf,<-zK,gX _ 10,Nat.mul_add_mod]
  rw[rP pc,e1,ih ha nE,e2,nT]
  congr 1
  by_cases iR:b=0
  ·subst iR
   unfold gj
   rw[Nat.zero_div,o_]
   simp only[List.length_nil,Nat.sub_zero,sJ]
   rw[List.replicate_succ']
   rfl
  ·unfold gj
   rw[rP iR,fK,uJ,<-nT]
   rw[show k+1-((cO (b/10)).length+1)=k-(cO (b/10)).length by omega]
theorem Yhs{b k:Nat}(h:b<10^k):(gj b k).length=k:=by
 have:=lZ.1 h
 simp[gj];omega
theorem GU(b:Nat):gj b 1=ak b:=by
 unfold gj ak
 split
 ·subst_vars;rw[o_];rfl
 ·rename_i h
  obtain⟨c,t,e,_⟩:=PN h
  rw[e]
  simp
theorem Zsn(h:n≠0):0<(cO n).length:=by
 obtain⟨c,t,e,_⟩:=PN h
 rw[e];simp
theorem Jn{k:Nat}(hk:0<k):(ak n).length<=k↔n<10^k:=by
 unfold ak
 split
 ·subst_vars
  simp
  exact⟨fun _=>uL (by decide),fun _=>hk⟩
 ·exact lZ.symm
theorem Vz{n:Nat}:∃c t,ak n=c::t/\48<=c.toNat/\c.toNat<=57:=by
 have h:=tR n
 cases hs:ak n with
 |nil=>exact absurd hs (Cg n)
 |cons c t=>
  rw[hs]at h
  have:iQ c=true:=by
   simp[cB]at h;exact h.1
  exact⟨c,t,rfl,by simpa[iQ]using this⟩
variable {s:aX}
theorem Ks:∀{s t:aX},(∀c∈s,c.toNat≠47)->ae (s++47::t)=s.length
 |[],t,_=>rfl
 |c::s,t,h=>by
  have h1:=h c mS
  have:=Ks (s:=s) (t:=t) fun d hd=>h d (mr _ hd)
  simp[ae,h1,this]
theorem Kt:∀{s:aX},(∀c∈s,c.toNat≠47)->ae s=s.length
 |[],_=>rfl
 |c::s,h=>by
  have h1:=h c mS
  have:=Kt (s:=s) fun d hd=>h d (mr _ hd)
  simp[ae,h1,this]
theorem VA:∀{s:aX},ae s<s.length->s.drop (ae s)=47::s.drop (ae s+1)
 |[],h=>by simp[ae]at h
 |c::s,h=>by
  by_cases hc:c.toNat=47
  ·have:c=47:=UInt8.toNat_inj.1 hc
   subst this
   simp[ae]
  ·simp only[ae,hc,if_false,bq]at h ⊢
   have:=VA (s:=s) (by omega)
   simpa using this
theorem Ez(h:cB s=true):∀c∈s,c.toNat≠47:=by
 intro c hc
 unfold cB at h
 rw[lM]at h
 have:=h c hc
 unfold iQ at this
 simp only[decide_eq_true_eq]at this
 omega
theorem VB(z:Int):∀c∈aK z,c.toNat≠47:=by
 unfold aK
 split
 ·intro c hc
  rcases jN.1 hc with rfl|hc
  ·decide
  ·exact Ez (tR _) c hc
 ·exact Ez (tR _)
theorem Ybw(n:Nat):b_ (ak n)=false:=by
 obtain⟨c,t,e,h1,h2⟩:=Vz (n:=n)
 rw[e]
 simp[b_];omega
theorem EA(z:Int):b_ (aK z)=decide (z<0):=by
 unfold aK
 split
 ·rename_i h;simp[b_,h]
 ·rename_i h;rw[Ybw];simp[h]
theorem EB(z:Int):bl (aK z)=ak z.natAbs:=by
 unfold bl
 rw[EA]
 by_cases h:z<0
 ·simp[h,aK]
 ·simp[h,aK]
theorem EC(q:Rat):ae (aN q)=(aK q.num).length:=by
 unfold aN
 split
 ·exact Kt (VB _)
 ·exact Ks (VB _)
theorem GV(q:Rat):(aN q).take (ae (aN q))=aK q.num:=by
 rw[EC]
 unfold aN
 split
 ·simp
 ·simp
theorem GW(q:Rat)(h:q.den≠1):(aN q).drop (ae (aN q)+1)=ak q.den:=by
 rw[EC]
 unfold aN
 rw[ar h,<-List.drop_drop]
 simp
theorem yJ(q:Rat):ae (aN q)<(aN q).length↔q.den≠1:=by
 rw[EC]
 unfold aN
 split
 ·rename_i h;simp[h]
 ·rename_i h;simp[h]
theorem Yhu{a b:Int}(h:aK a=aK b):a=b:=by
 have h1:=congrArg b_ h
 have h2:=congrArg bl h
 rw[EA,EA,decide_eq_decide]at h1
 rw[EB,EB]at h2
 have h3:=Vx h2
 omega
theorem Ye1{a b:Rat}(h:aN a=aN b):a=b:=by
 have h1:=GV a
 rw[h,GV b]at h1
 have h2:=Yhu h1
 have h3:a.den=b.den:=by
  by_cases ha:a.den=1
  ·have:=mt (yJ a).1 (fun hc=>hc ha)
   rw[h]at this
   rw[yJ]at this
   rw[ha];exact(Decidable.not_not.1 this).symm
  ·have:=(yJ a).2 ha
   rw[h]at this
   have hb:=(yJ b).1 this
   have e:=GW a ha
   rw[h,GW b hb]at e
   exact(Vx e).symm
 exact Rat.ext h2.symm h3
def pD(s:aX):Rat:=mkRat (if b_ s then -(aC ((bl s).take (ae (bl s))):Int) else aC ((bl s).take (ae (bl s)))) (if ae (bl s)<(bl s).length then aC ((bl s).drop (ae (bl s)+1)) else 1)
theorem Yh0(h:bW s=0):fG (b_ s) ((bl s).take (ae (bl s))) (decide (ae (bl s)<(bl s).length)) ((bl s).drop (ae (bl s)+1))=true/\((bl s).take (ae (bl s))).length<=600/\((bl s).drop (ae (bl s)+1)).length<=600/\(ae (bl s)<(bl s).length->Nat.gcd (aC ((bl s).take (ae (bl s)))) (aC ((bl s).drop (ae (bl s)+1)))=1):=by
 unfold bW ED iS at h
 split at h
 ·cases h
 ·rename_i h1
  split at h
  ·cases h
  ·rename_i h2
   split at h
   ·cases h
   ·rename_i h3
    refine⟨by simpa using h1,by omega,by omega,fun hs=>?_⟩
    rw[decide_eq_true hs]at h3
    simpa using h3
theorem VC{n:Int}{d:Nat}(hd:d≠0)(h:Nat.gcd n.natAbs d=1):(mkRat n d).num=n/\(mkRat n d).den=d:=by
 have:mkRat n d=⟨n,d,hd,h⟩:=by
  rw[Rat.mkRat_def,dif_neg hd]
  exact Rat.normalize_eq_mk' _ _ hd h
 rw[this]
 exact⟨rfl,rfl⟩
theorem Zzt(s:aX):s=(if b_ s then [45] else [])++bl s:=by
 cases s with
 |nil=>rfl
 |cons c t=>
  unfold bl
  by_cases hc:c.toNat=45
  ·have:c=45:=UInt8.toNat_inj.1 hc
   subst this
   simp[b_]
  ·simp[b_,hc]
theorem Nv(h:bW s=0):aN (pD s)=s/\(ak (pD s).num.natAbs).length<=600/\(ak (pD s).den).length<=600:=by
 obtain⟨h1,h2,h3,h4⟩:=Yh0 h
 have hle:=Aq (bl s)
 unfold fG at h1
 simp only[iB,Bo,Bq,decide_eq_true_eq]at h1
 obtain⟨⟨hp,hz⟩,hd⟩:=h1
 have Ch:b_ s=true->aC ((bl s).take (ae (bl s)))≠0:=by
  intro hn h0
  rw[hn,Bool.true_and,decide_eq_false_iff_not]at hz
  apply hz
  have:=xn hp
  rw[h0]at this
  exact this.symm
 have jz:(ak (aC ((bl s).take (ae (bl s))))).length<=600:=by
  rw[xn hp];exact h2
 have hb:=Zzt s
 by_cases hs:ae (bl s)<(bl s).length
 ·have hd:gO ((bl s).drop (ae (bl s)+1))=true/\(bl s).drop (ae (bl s)+1)≠[48]/\(bl s).drop (ae (bl s)+1)≠[49]:=by
   rcases hd with hd|⟨⟨a,b⟩,c⟩
   ·exact absurd hs (by simpa using hd)
   ·exact⟨a,b,c⟩
  have hg:=h4 hs
  have nv:aC ((bl s).drop (ae (bl s)+1))≠0:=by
   intro h0
   have:=xn hd.1
   rw[h0]at this
   exact hd.2.1 this.symm
  have oR:aC ((bl s).drop (ae (bl s)+1))≠1:=by
   intro h0
   have:=xn hd.1
   rw[h0]at this
   exact hd.2.2 (this.symm.trans (by decide+kernel))
  have gW:(ak (aC ((bl s).drop (ae (bl s)+1)))).length<=600:=by
   rw[xn hd.1];exact h3
  have hv:pD s=mkRat (if b_ s then -(aC ((bl s).take (ae (bl s))):Int) else aC ((bl s).take (ae (bl s)))) (aC ((bl s).drop (ae (bl s)+1))):=by
   unfold pD;rw[aF hs]
  obtain⟨e1,e2⟩:=VC (n:=if b_ s then -(aC ((bl s).take (ae (bl s))):Int) else aC ((bl s).take (ae (bl s)))) nv (by split<;>simpa using hg)
  rw[<-hv]at e1 e2
  have GX:bl s=(bl s).take (ae (bl s))++47::(bl s).drop (ae (bl s)+1):=by
   conv=>lhs;rw[<-wN (ae (bl s)) (bl s)]
   rw[VA hs]
  refine⟨?_,?_,by rw[e2];exact gW⟩
  ·unfold aN
   rw[e2,ar oR,xn hd.1,e1]
   conv=>rhs;rw[hb,GX]
   unfold aK
   cases hn:b_ s with
   |false=>
    simp only[eL,if_false]
    rw[ar (by omega),dN,xn hp];rfl
   |true=>
    have:=Ch hn
    simp only[if_true]
    rw[aF (by omega),sq,dN,xn hp];rfl
  ·rw[e1]
   split<;>simpa using jz
 ·have hv:pD s=mkRat (if b_ s then -(aC ((bl s).take (ae (bl s))):Int) else aC ((bl s).take (ae (bl s)))) 1:=by
   unfold pD;rw[ar hs]
  obtain⟨e1,e2⟩:=VC (n:=if b_ s then -(aC ((bl s).take (ae (bl s))):Int) else aC ((bl s).take (ae (bl s)))) (show (1:Nat)≠0 by decide) (Nat.gcd_one_right _)
  rw[<-hv]at e1 e2
  have ht:(bl s).take (ae (bl s))=bl s:=fN (by omega)
  rw[ht]at e1 hp Ch jz
  refine⟨?_,?_,by rw[e2];decide+kernel⟩
  ·unfold aN
   rw[e2,aF rfl,e1]
   conv=>rhs;rw[hb]
   unfold aK
   cases hn:b_ s with
   |false=>
    simp only[eL,if_false]
    rw[ar (by omega),dN,xn hp];rfl
   |true=>
    have:=Ch hn
    simp only[if_true]
    rw[aF (by omega),sq,dN,xn hp];rfl
  ·rw[e1]
   split<;>simpa using jz
theorem Nw(q:Rat):bl (aN q)=if q.den=1 then ak q.num.natAbs else ak q.num.natAbs++47::ak q.den:=by
 have dq:∀t:aX,b_ (aK q.num++t)=decide (q.num<0):=by
  intro t
  rw[<-EA]
  have:aK q.num≠[]:=by
   unfold aK;split
   ·simp
   ·exact Cg _
  cases h:aK q.num with
  |nil=>exact absurd h this
  |cons c u=>rfl
 have hb:∀t:aX,bl (aK q.num++t)=ak q.num.natAbs++t:=by
  intro t
  unfold bl
  rw[dq]
  by_cases h:q.num<0
  ·simp[h,aK]
  ·simp[h,aK]
 unfold aN
 split
 ·have:=hb [];simpa using this
 ·exact hb _
theorem Ygh(q:Rat):b_ (aN q)=decide (q.num<0):=by
 have dq:∀t:aX,b_ (aK q.num++t)=decide (q.num<0):=by
  intro t
  rw[<-EA]
  have:aK q.num≠[]:=by
   unfold aK;split
   ·simp
   ·exact Cg _
  cases h:aK q.num with
  |nil=>exact absurd h this
  |cons c u=>rfl
 unfold aN
 split
 ·have:=dq [];simpa using this
 ·exact dq _
theorem Yaa(q:Rat):(bl (aN q)).take (ae (bl (aN q)))=ak q.num.natAbs/\(ae (bl (aN q))<(bl (aN q)).length↔q.den≠1)/\(bl (aN q)).drop (ae (bl (aN q))+1)=if q.den=1 then [] else ak q.den:=by
 rw[Nw]
 by_cases h:q.den=1
 ·simp only[h,if_true]
  rw[Kt (Ez (tR _))]
  simp
 ·simp only[h,if_false]
  rw[Ks (Ez (tR _))]
  simp[h]
def tj(q:Rat):Bool:=decide (600<(ak q.num.natAbs).length\/600<(ak q.den).length)
theorem Jo:ak 1=[49]:=by decide+kernel
theorem Yfw(q:Rat):pD (aN q)=q:=by
 obtain⟨h1,h2,h3⟩:=Yaa q
 unfold pD
 rw[h1,h3,Ygh,yI]
 have hn:(if decide (q.num<0)=true then -(q.num.natAbs:Int) else (q.num.natAbs:Int))=q.num:=by
  by_cases h:q.num<0
  ·rw[aF (by simpa using h)];omega
  ·rw[ar (by simpa using h)];omega
 rw[hn]
 by_cases hd:q.den=1
 ·rw[ar (fun h=>(h2.1 h) hd)]
  have:=Rat.mkRat_self q
  rw[hd]at this
  exact this
 ·rw[aF (h2.2 hd),ar hd,yI]
  exact Rat.mkRat_self q
variable {i j k n:Nat} {q:Rat}
theorem Ku:∀{i n:Nat},i<(ds n).length->(ds n)[i]?=some ((n/1000000000^i%1000000000:Nat):Int)
 |i,n,h=>by
  by_cases hn:n=0
  ·rw[hn,oJ]at h;simp at h
  ·rw[uX hn]at h ⊢
   cases i with
   |zero=>simp
   |succ i=>
    rw[zE,Ku (by simpa using h),Bj,fJ,gX]
theorem VD(h:i<(ds n).length):n/1000000000^i≠0:=by
 intro hc
 have h1:n<1000000000^i:=(Nat.div_eq_zero_iff_lt (uL (by decide))).1 hc
 have:=D8 h1
 omega
theorem Ydv(h:i+1<(ds n).length):ak (n/1000000000^i)=ak (n/1000000000^(i+1))++gj (n/1000000000^i%1000000000) 9:=by
 have h0:=VD (i:=i) (n:=n) (by omega)
 have h1:=VD (i:=i+1) (n:=n) h
 have e:n/1000000000^(i+1)=n/1000000000^i/1000000000:=by rw[fJ,Bj]
 rw[e]at h1 ⊢
 generalize n/1000000000^i=x at*
 unfold ak
 rw[ar h0,ar h1]
 have:=Vy (k:=9) (a:=x/1000000000) (b:=x%1000000000) h1 (by omega)
 rw[show (10:Nat)^9=1000000000 by decide]at this
 rw[<-this]
 congr 1
 omega
theorem Yht(h:i+1=(ds n).length):ak (n/1000000000^i)=gj (n/1000000000^i%1000000000) 1:=by
 have h1:n<1000000000^(i+1):=by
  have h2:=qs (fw n)
  rw[fF,<-h]at h2
  unfold pI at h2
  have h3:(1000000000:Int)^(i+1)=((1000000000^(i+1):Nat):Int):=by rw[Int.natCast_pow];rfl
  rw[h3]at h2
  exact Int.ofNat_lt.1 h2
 rw[fJ]at h1
 have h3:n/1000000000^i<1000000000:=Nat.div_lt_of_lt_mul h1
 rw[sK h3,GU]
def Qb(k:Nat)(q:Rat):Prop:=q.num.natAbs<2^k/\q.den<2^k
theorem GY(h:j<=k):2^j<=2^k:=oE (by decide) h
theorem Qb.mono(h:Qb j q)(hk:j<=k):Qb k q:=⟨dZ h.1 (GY hk),dZ h.2 (GY hk)⟩
theorem VE{a b:Int}(hb:b≠0)(h1:a.natAbs<2^k)(h2:b.natAbs<2^k):Qb k (Rat.divInt a b):=by
 constructor
 ·rw[Rat.num_divInt]
  refine nV ?_ h1
  rw[Int.natAbs_ediv_of_dvd]
  ·rw[q8]
   have:b.sign.natAbs=1:=by rw[Int.natAbs_sign,ar hb]
   rw[this,Nat.one_mul]
   exact qj _ _
  ·exact Int.dvd_trans (Int.gcd_dvd_right ..) (Int.dvd_mul_left ..)
 ·rw[Rat.den_divInt,ar hb]
  exact nV (qj _ _) h2
theorem Qb.mul{p:Rat}(hp:Qb j p)(hq:Qb k q):Qb (j+k) (p*q):=by
 have nQ:((p.den:Nat):Int)≠0:=by have:=p.den_nz;omega
 have nP:((q.den:Nat):Int)≠0:=by have:=q.den_nz;omega
 rw[<-wP p,<-wP q,Rat.divInt_mul_divInt]
 refine VE (DQ nQ nP) ?_ ?_
 ·rw[q8,jr]
  exact x9 hp.1 hq.1
 ·rw[q8,jr,dN,dN]
  exact x9 hp.2 hq.2
theorem Qb.add{p:Rat}(hp:Qb j p)(hq:Qb k q):Qb (j+k+1) (p+q):=by
 have nQ:((p.den:Nat):Int)≠0:=by have:=p.den_nz;omega
 have nP:((q.den:Nat):Int)≠0:=by have:=q.den_nz;omega
 rw[<-wP p,<-wP q,Rat.divInt_add_divInt _ _ nQ nP]
 have e:2^(j+k+1)=2^j*2^k+2^k*2^j:=by rw[fJ,jr,gX (2^k)];omega
 refine VE (DQ nQ nP) ?_ ?_
 ·refine nV (Int.natAbs_add_le ..) ?_
  rw[q8,q8,dN,dN,e]
  exact Nat.add_lt_add (x9 hp.1 hq.2) (x9 hq.1 hp.2)
 ·rw[q8,dN,dN,e]
  exact dZ (x9 hp.2 hq.2) (Nat.le_add_right _ _)
theorem Qb.neg(h:Qb k q):Qb k (-q):=by
 refine⟨?_,?_⟩
 ·rw[Rat.neg_num,sq];exact h.1
 ·rw[Rat.neg_den];exact h.2
theorem Qb.sub{p:Rat}(hp:Qb j p)(hq:Qb k q):Qb (j+k+1) (p-q):=by
 rw[Rat.sub_eq_add_neg];exact hp.add hq.neg
theorem Qb.int{z:Int}(h:z.natAbs<2^k)(hk:0<k):Qb k (z:Rat):=by
 refine⟨by simpa using h,?_⟩
 rw[Rat.den_intCast]
 exact dZ (by decide) (GY (j:=1) hk)
theorem pP(h:n<2^k):(ds n).length<=k:=D8 (dZ h (Bm (by decide) k))
theorem GZ(h:n<2^k):(cO n).length<=k:=lZ.1 (dZ h (Bm (by decide) k))
theorem zp(h:n<2^k):(ak n).length<=k+1:=by
 have:=GZ h
 unfold ak
 split<;>simp<;>omega
theorem A5{z:Int}(h:z.natAbs<2^k):(aK z).length<=k+2:=by
 have:=zp h
 unfold aK
 split<;>simp<;>omega
theorem To(k:Nat):10^k<=2^(4*k):=by
 rw[Nat.pow_mul];exact Bm (by decide) k
theorem Yo9{s:aX}(h:bW s=0)(hn:s.length<=n):Qb (4*n+4) (pD s):=by
 obtain⟨e,_,_⟩:=Nv h
 have hb:=Nw (pD s)
 have l1:(bl (aN (pD s))).length<=n:=by
  rw[e];unfold bl;split
  ·simp;omega
  ·exact hn
 rw[hb]at l1
 have g:∀m:Nat,(ak m).length<=n+1->m<2^(4*n+4):=fun m hm=>by
  have:=(Jn (n:=m) (k:=n+1) (by omega)).1 hm
  exact dZ this (by have:=To (n+1);rw[oH]at this;exact this)
 split at l1
 ·rename_i h1
  have h2:(ak 1).length=1:=by rw[Jo];rfl
  exact⟨g _ (by omega),by rw[h1];exact g 1 (by omega)⟩
 ·simp at l1
  exact⟨g _ (by omega),g _ (by omega)⟩
open Go Go.Proofs
set_option maxRecDepth 1000000
def A.b267:aq:=sr [mc 4 0]
 (.seq (sr [mv 5 1,mv 6 0,ln 7 6,bi 8 .lss 5 7]
 (cd 8
 (sr [mv 9 0,mv 10 1,ia 11 1 9 10,ld 12 11,mv 4 12]
 (.ret))
 (.skip)))
 (sr [mc 4 0]
 (.ret)))
theorem A.c267:A.F 267=some ⟨13,[.tmp 4],A.b267⟩:=by kernel_rfl
def A.k267:=@A.kk 267 _ _ _ A.c267 rfl
def A.zaV:aq:=.seq (sr [mv 9 7,mv 10 0,ln 11 10,bi 12 .lss 9 11,mv 13 12,mh 14 7 13,mh 15 1 13,⟨(some 16),.len 1 (.tmp 15),(some (13,false))⟩,⟨(some 17),.bin .lss (.node []) false (.tmp 14) (.tmp 16),(some (13,false))⟩,pt 18 13 17,mv 19 18,mh 20 6 19,⟨(some 21),.bin .gtr (.node []) false (.tmp 20) (.const (.int .i64 0)),(some (19,false))⟩,pt 22 19 21]
 (cd 22
 (.skip)
 (.exit 0)))
 (.seq (.block 1 (sr [mv 25 0,mv 26 7,c2 27 267 25 26,mv 28 1,mv 29 7,c2 30 267 28 29,bi 31 .add 27 30,mv 32 6,bi 33 .add 31 32,mv 8 33]
 (sr [mv 34 5,mv 35 8,bc 36 .rem 35 1000000000,⟨(some 37),.aY 3 1 1 [(.int .i64 0)] [(0,1,(.tmp 36))],none⟩,⟨(some 38),.append 1 8 3 [(.int .i64 0)] (.tmp 34) (.tmp 37),none⟩,mv 5 38]
 (.aL [mv 39 8,bc 40 .quo 39 1000000000,mv 6 40]))))
 (.aL [mv 23 7,bc 24 .add 23 1,mv 7 24]))
def A.b235:aq:=sr [mN 4]
 (sr [mN 5]
 (sr [mc 6 0]
 (.seq (sr [mc 7 0]
 (.block 0 (.loop A.zaV)))
 (sr [mv 41 5,mv 4 41]
 (.ret)))))
theorem A.c235:A.F 235=some ⟨42,[.tmp 4],A.b235⟩:=by kernel_rfl
def A.k235:=@A.kk 235 _ _ _ A.c235 rfl
def A.za8:aq:=.seq (sr [mv 9 7,mv 10 0,ln 11 10,bi 12 .lss 9 11]
 (cd 12
 (.skip)
 (.exit 0)))
 (.seq (.block 1 (.seq (.aS [mv 15 0,mv 16 7,ia 17 1 15 16,ld 18 17,mv 19 1,mv 20 7,c2 21 267 19 20,bi 22 .sub 18 21,mv 23 6,bi 24 .sub 22 23,mv 8 24] [0,0,3,7,0,0,48,127,0,511,1023])
 (sr [mc 6 0]
 (.seq (sr [mv 25 8,bc 26 .lss 25 0]
 (cd 26
 (sr [mv 27 8,bc 28 .add 27 1000000000,mv 8 28]
 (.aL [mc 6 1]))
 (.skip)))
 (.aL [mv 29 5,mv 30 8,⟨(some 31),.aY 3 1 1 [(.int .i64 0)] [(0,1,(.tmp 30))],none⟩,⟨(some 32),.append 1 8 3 [(.int .i64 0)] (.tmp 29) (.tmp 31),none⟩,mv 5 32])))))
 (.aL [mv 13 7,bc 14 .add 13 1,mv 7 14]))
def A.b237:aq:=sr [mN 4]
 (sr [mN 5]
 (sr [mc 6 0]
 (.seq (sr [mc 7 0]
 (.block 0 (.loop A.za8)))
 (sr [mv 33 5,c1 34 265 33,mv 4 34]
 (.ret)))))
theorem A.c237:A.F 237=some ⟨35,[.tmp 4],A.b237⟩:=by kernel_rfl
def A.k237:=@A.kk 237 _ _ _ A.c237 rfl
theorem PR{h:T O}{N:Nat}{v:V}{l:List Int}{i:Nat}{w:List Nat}(hs:Sl h N v (dI l))(hi:i<4611686018427387904)(hl:l.length<4611686018427387904):A.C.call (.func 267 [] []) [v,.int .i64 i] ⟨h,N,w⟩=some (.int .i64 (zI l i),⟨h,N,w⟩):=by
 apply Call.eq
 have hlen:=hs.len
 rw[fh]at hlen
 rw[aP,A.k267 (by simp)]
 by_cases hc:i<l.length
 ·have GC:(i:Int)<(l.length:Int):=by omega
  obtain⟨d,hd⟩:=bs hc
  obtain⟨j,o,c,e,rw,q1,q2,q3,q4⟩:=hs.at (fb hd)
  simp[A.b267,hlen,GC,q1,q3,q4,Yjo hd]
 ·have GC:¬(i:Int)<(l.length:Int):=by omega
  simp[A.b267,hlen,GC,Om (tA hc)]
structure AdI (h:T O) (N:Nat) (la lb:List Int) (m:Nat) (r:T V) (st:St):Prop where
 w:au N st.w=[]
 ad:ab h N st.h st.n
 ex:∃k c out D,k+m=max la.length lb.length+1/\r.get 7=some (.int .i64 k)/\r.get 6=some (.int .i64 c)/\r.get 5=some out/\0<=c/\c<=1/\(m=0->c=0)/\Own 1 3 N st.h st.n out (lX D)/\D.length=k/\Di D/\vI D+pI k*c=vI (la.take k)+vI (lb.take k)
theorem Kv{l:List Int}{k:Nat}(h:l.length<=k):l.take k=l:=fN h
theorem Ykl{h:T O}{N:Nat}{u v:V}{la lb:List Int}(hu:Sl h N u (dI la))(hv:Sl h N v (dI lb))(da:Di la)(db:Di lb)(l1:la.length<1099511627776)(l2:lb.length<1099511627776):Fn A.C 235 [u,v] h N (fun x h' n'=>∃l,Sl h' n' x (dI l)/\Di l/\vI l=vI la+vI lb/\l.length<=max la.length lb.length+1):=by
 intro w
 have lu:=hu.len
 have lv:=hv.len
 rw[fh]at lu lv
 rw[aP,A.k235 (by simp)]
 simp[A.b235]
 refine bN [(5,40)] (fun e r st=>e=.exit 0/\au N st.w=[]/\ab h N st.h st.n/\∃out D,r.get 5=some out/\Own 1 3 N st.h st.n out (lX D)/\Di D/\vI D=vI la+vI lb/\D.length<=max la.length lb.length+1) (AdI h N la lb) (max la.length lb.length+1) ?_ ?_ ?_
 ·exact⟨by simp,ab.refl,0,0,.aa,[],by omega,by simp,by simp,by simp,by omega,by omega,fun _=>rfl,Own.nil,rfl,Di.nil,by simp[vI]⟩
 ·rintro m r ⟨H,n1,W⟩ hr hf ⟨hW,hK,k,c,out,D,hk,h7,h6,h5,c0,c1,cz,ho,hD,dD,kQ⟩
  simp only at hW hK ho
  rw[bn]
  by_cases o8:k<la.length\/k<lb.length\/0<c
  ·obtain⟨m',rfl⟩:∃m',m=m'+1:=⟨m-1,by
    have:m≠0:=fun hm=>by have:=cz hm;omega
    omega⟩
   have dx:=On da k
   have dy:=On db k
   have e1:=fun w=>PR (w:=w) (i:=k) (hu.ad hK) (by omega) (by omega)
   have e2:=fun w=>PR (w:=w) (i:=k) (hv.ad hK) (by omega) (by omega)
   obtain⟨x,hx⟩:∃x,zI la k=x:=⟨_,rfl⟩
   obtain⟨y,hy⟩:∃y,zI lb k=y:=⟨_,rfl⟩
   rw[hx]at dx e1
   rw[hy]at dy e2
   have t1:(x+y+c).tmod 1000000000=(x+y+c)%1000000000:=zD (by omega)
   have t2:(x+y+c).tdiv 1000000000=(x+y+c)/1000000000:=wO (by omega)
   have t3:bk .i64 (x+y)=x+y:=ct (by omega) (by omega)
   have t4:bk .i64 (x+y+c)=x+y+c:=ct (by omega) (by omega)
   have t5:bk .i64 ((x+y+c)/1000000000)=(x+y+c)/1000000000:=ct (by omega) (by omega)
   have nF:vI (D++[(x+y+c)%1000000000])+pI (k+1)*((x+y+c)/1000000000)=vI (la.take (k+1))+vI (lb.take (k+1)):=by
    rw[ym,hD,Oo,Oo,hx,hy,qp]
    have hm:=zB (x+y+c) 1000000000
    generalize (x+y+c)/1000000000=Q at*
    generalize (x+y+c)%1000000000=R at*
    have:R=x+y+c-1000000000*Q:=by omega
    subst this
    grind
   have hz:m'=0->(x+y+c)/1000000000=0:=fun hm=>by
    have:x=0:=by rw[<-hx];exact Om (by omega)
    have:y=0:=by rw[<-hy];exact Om (by omega)
    omega
   have sI:=ho.ad (ab.refl.new (.cells [.int .i64 ((x+y+c)%1000000000)] 3 true))
   obtain⟨v',h',w',f1,f2,f3,_,f5⟩:=pY (x:=[.int .i64 ((x+y+c)%1000000000)]) (u:=.slice n1 0 1 (some 1) 1) (bytes:=8) (w:=W) sI (by have:=hK.le;omega) (by decide) rfl (by simp[ft,St.row,aM]) (by simp[lX];omega)
   rw[<-zX]at f5
   have f6:au N w'=[]:=by rw[f2];exact hW
   have kz:=(hK.new (.cells [.int .i64 ((x+y+c)%1000000000)] 3 true)).then f3
   have Ci:k<la.length\/(¬k<la.length/\k<lb.length)\/(¬k<la.length/\¬k<lb.length/\0<c):=by omega
   rcases Ci with g1|⟨g1,g2⟩|⟨g1,g2,g3⟩
   ·have i1:(k:Int)<(la.length:Int):=by omega
    simp[A.zaV,hr,h7,h6,h5,lu,i1,e1,e2,t1,t3,t4,ag]
    simp(disch:=first|(simp;done)|omega|rfl) [f1,hf,h7]
    exact⟨m',by omega,⟨f6,kz,k+1,(x+y+c)/1000000000,v',D++[(x+y+c)%1000000000],by omega,by simp,by simp[t2],by simp,by omega,by omega,hz,f5,by simp[hD],dD.app (Di.one (by omega) (by omega)),nF⟩⟩
   ·have i1:¬(k:Int)<(la.length:Int):=by omega
    have i2:(k:Int)<(lb.length:Int):=by omega
    simp[A.zaV,hr,h7,h6,h5,lu,lv,i1,i2,e1,e2,t1,t3,t4,ag]
    simp(disch:=first|(simp;done)|omega|rfl) [f1,hf,h7]
    exact⟨m',by omega,⟨f6,kz,k+1,(x+y+c)/1000000000,v',D++[(x+y+c)%1000000000],by omega,by simp,by simp[t2],by simp,by omega,by omega,hz,f5,by simp[hD],dD.app (Di.one (by omega) (by omega)),nF⟩⟩
   ·have i1:¬(k:Int)<(la.length:Int):=by omega
    have i2:¬(k:Int)<(lb.length:Int):=by omega
    simp[A.zaV,hr,h7,h6,h5,lu,lv,g3,i1,i2,e1,e2,t1,t3,t4,ag]
    simp(disch:=first|(simp;done)|omega|rfl) [f1,hf,h7]
    exact⟨m',by omega,⟨f6,kz,k+1,(x+y+c)/1000000000,v',D++[(x+y+c)%1000000000],by omega,by simp,by simp[t2],by simp,by omega,by omega,hz,f5,by simp[hD],dD.app (Di.one (by omega) (by omega)),nF⟩⟩
  ·obtain⟨g1,g2,g3⟩:¬k<la.length/\¬k<lb.length/\¬0<c:=by omega
   have i1:¬(k:Int)<(la.length:Int):=by omega
   have i2:¬(k:Int)<(lb.length:Int):=by omega
   obtain rfl:c=0:=by omega
   rw[Kv (by omega),Kv (by omega),Int.mul_zero,Int.add_zero]at kQ
   simp[A.zaV,hr,hf,h7,h6,lu,lv,i1,i2,hW,hK]
   exact⟨out,h5,D,ho,dD,kQ,by omega⟩
 ·rintro _ r ⟨H,n1,W⟩ hr ⟨rfl,hW,hK,out,D,h5,ho,dD,kQ,hl⟩
  simp only at hW hK ho
  simp[h5,aA,hW,hK]
  exact⟨D,ho.sl,dD,kQ,hl⟩
end Go.Mx
