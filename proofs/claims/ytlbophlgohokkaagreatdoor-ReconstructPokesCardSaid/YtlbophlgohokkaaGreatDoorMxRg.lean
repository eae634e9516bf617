/-
  Calls that write some of what was there; a select with a default; rows that are shortened.
-/
import Derived.Test.YtlbophlgohokkaaGreatDoorMxDec
import Derived.Test.YtlbophlgohokkaaGreatDoorMxWord
import Derived.Test.YtlbophlgohokkaaGreatDoorRbA
set_option linter.all false
namespace Go.Mx
open Go
variable {N i n n1 n2 z:Nat} {h h' h1:T O} {l:List (List V)} {r:T V} {v:V}
structure ff (D:Nat->Prop) (h:T O) (n:Nat) (h':T O) (n':Nat):Prop where
 le:n<=n'
 get:∀i,i<n->¬D i->h'.get i=h.get i
theorem ff.refl{D:Nat->Prop}:ff D h n h n:=⟨aS _,fun _ _ _=>rfl⟩
theorem ab.upd{D:Nat->Prop}{n':Nat}(k:ab h n h' n'):ff D h n h' n':=⟨k.le,fun i hi _=>k.get i hi⟩
theorem ff.trans{D:Nat->Prop}{h2:T O}(a:ff D h n h1 n1)(b:ff D h1 n1 h2 n2):ff D h n h2 n2:=
 ⟨p9 a.le b.le,fun i hi hd=>(b.get i (eY hi a.le) hd).trans (a.get i hi hd)⟩
theorem ff.then{D D2:Nat->Prop}{h2:T O}(a:ff D h n h1 n1)(b:ff D2 h1 n1 h2 n2)(hd:∀i,i<n->D2 i->D i):ff D h n h2 n2:=
 ⟨p9 a.le b.le,fun i hi hn=>(b.get i (eY hi a.le) fun hc=>hn (hd i hi hc)).trans (a.get i hi hn)⟩
theorem ff.mono{D D2:Nat->Prop}(a:ff D h n h1 n1)(hd:∀i,i<n->D i->D2 i):ff D2 h n h1 n1:=⟨a.le,fun i hi hn=>a.get i hi fun hc=>hn (hd i hi hc)⟩
theorem ff.set{D:Nat->Prop}{o:O}(a:ff D h n h1 n1)(hi:D i\/n<=i):ff D h n (h1.set i o) n1:=
 ⟨a.le,fun j hj hd=>by
  rw[T.ai,au ?_]
  ·exact a.get j hj hd
  ·rintro rfl
   rcases hi with hi|hi
   ·exact hd hi
   ·omega⟩
theorem ff.up{D:Nat->Prop}(a:ff D h n h1 n1)(hn:n1<=n2):ff D h n h1 n2:=⟨p9 a.le hn,a.get⟩
theorem ff.new{D:Nat->Prop}(a:ff D h n h1 n1)(o:O):ff D h n (h1.set n1 o) (n1+1):=(a.set (.inr a.le)).up (uW _)
theorem B0{N i:Nat}:∀{w:List Nat},i∈ad N w->i∈w/\i<N
 |[],h=>by simp[ad]at h
 |j::w,h=>by
  simp only[ad]at h
  split at h
  ·unfold uZ at h
   split at h
   ·have:=B0 h;exact⟨iz _ this.1,this.2⟩
   ·rcases kb.1 h with h|h
    ·subst h;exact⟨jk,by assumption⟩
    ·have:=B0 h;exact⟨iz _ this.1,this.2⟩
  ·have:=B0 h;exact⟨iz _ this.1,this.2⟩
theorem Zxl:ad N []=[]:=rfl
attribute [simp] Zxl
theorem B1{w:List Nat}(h:∀i∈w,N<=i):ad N w=[]:=XP h
def mr(st:St)(i:Nat)(send:Option V)(zero:V):Option O->Option (V×St)
 |some (.chan cap buf)=>match send with
  |some v=>if buf.length<cap then some (.aZ [.int .i64 0,.bool false],st.write i (.chan cap (buf++[v]))) else some (.aZ [.int .i64 (-1),.bool false],st)
  |none=>match buf with
   |v::buf=>some (.aZ [.int .i64 0,.bool true,v],st.write i (.chan cap buf))
   |[]=>some (.aZ [.int .i64 (-1),.bool false,zero],st)
 |_=>none
theorem Ynj{st:St}{send:Option V}{zero:V}:LP st i send zero=mr st i send zero (st.h.get i):=by
 unfold LP mr
 rcases st.h.get i with _|o
 ·rfl
 ·cases o with
  |chan cap buf=>cases send with
   |some v=>rfl
   |none=>cases buf<;>rfl
  |_=>cases send<;>rfl
def MB(C:Cx)(K:List Kf)(Q:Rs->Prop)(d:Nat)(ops:List df)(r:T V)(n:Nat)(m:List Nat):Option (V×St)->Prop
 |some (v,bS)=>bF C (.aM::K) (za (cU C.call ops ⟨r.set d v,n,m⟩ bS)) Q
 |none=>False
def SM(C:Cx)(K:List Kf)(Q:Rs->Prop)(d:Nat)(ops:List df)(r:T V)(n:Nat)(m:List Nat)(st:St)(zero:V):Option V->Option (Option V)->Prop
 |some (.chan i),some sv=>MB C K Q d ops r n m (mr st i sv zero (st.h.get i))
 |_,_=>False
theorem Ye1{C:Cx}{K:List Kf}{Q:Rs->Prop}{ro:Option Nat}{d:Nat}{ch:Src}{send:Option Src}{zero:V}{ops:List df}{m:List Nat}{st:St}(hd:d<n):bF C K (eL (C.code ro (.uP (some d) ch send zero ops) ⟨r,n,m⟩ st)) Q↔SM C K Q d ops r n m st zero (ch.ev r) (ay r send):=by
 have e:C.code ro (.uP (some d) ch send zero ops) ⟨r,n,m⟩ st=xf (some d) ch send zero ops C.call C.code ro ⟨r,n,m⟩ st:=Cx.cW ..
 rw[e]
 unfold xf SM
 simp only[]
 rcases ch.ev r with _|v
 ·exact Gx
 ·cases v<;>try exact Gx
  rename_i i
  rcases ay r send with _|sv
  ·exact Gx
  ·simp only[Ynj]
   rcases mr st i sv zero (st.h.get i)with _|⟨v,bS⟩
   ·exact Gx
   ·simp only[Fr.put,hd,if_true,MB]
    refine ib ?_
    show _=h_ C K (ko C .aM (za (cU C.call ops ⟨r.set d v,n,m⟩ bS)))
    rcases cU C.call ops ⟨r.set d v,n,m⟩ bS with _|⟨_,_⟩<;>rfl
theorem Yac{C K Q d ops r n m st zero i sv}:SM C K Q d ops r n m st zero (some (.chan i)) (some sv)=MB C K Q d ops r n m (mr st i sv zero (st.h.get i)):=rfl
theorem Yab{C K Q d ops r n m v bS}:MB C K Q d ops r n m (some (v,bS))=bF C (.aM::K) (za (cU C.call ops ⟨r.set d v,n,m⟩ bS)) Q:=rfl
theorem Zxb{st:St}{cap:Nat}{buf:List V}{zero:V}:mr st i none zero (some (.chan cap (v::buf)))=some (.aZ [.int .i64 0,.bool true,v],st.write i (.chan cap buf)):=rfl
theorem Yaa{st:St}{cap:Nat}{zero:V}:mr st i none zero (some (.chan cap []))=some (.aZ [.int .i64 (-1),.bool false,zero],st):=rfl
attribute [simp] Ye1 Yac Yab Zxb Yaa
def MC(st:St)(bytes:Nat):Option V->Option (V×St)
 |some (.int _ k)=>if k<0\/k > IntKind.i64.max\/bytes*k > 2^48-112 then none else some (.chan st.n,st.alloc (.chan k.toNat []))
 |_=>none
theorem Ztp{bytes:Nat}{x:Src}{call:cm}{st:St}:Bv bytes x call r st=MC st bytes (x.ev r):=by unfold Bv MC;rfl
theorem Zx2{st:St}{kk:IntKind}{k:Int}(h0:0<=k)(h1:k<=100):MC st 16 (some (.int kk k))=some (.chan st.n,st.alloc (.chan k.toNat [])):=by
 unfold MC
 simp only[]
 rw[au]
 have:IntKind.i64.max=9223372036854775807:=rfl
 omega
attribute [simp] Ztp Zx2
def cA:V->List Nat
 |.slice i _ _ _ _=>[i]
 |_=>[]
theorem Sl.bY{D:Nat->Prop}{N':Nat}{l:List V}(s:Sl h N v l)(k:ff D h N h' N')(hd:∀i∈cA v,¬D i):Sl h' N' v l:=by
 rcases s with s|⟨i,o,cp,c,e,rw,rfl,h2,h3,h4⟩
 ·exact .inl s
 ·exact .inr ⟨i,o,cp,c,e,rw,rfl,eY h2 k.le,(k.get i h2 (hd i (by simp[cA]))).trans h3,h4⟩
def Row(z:Nat)(e:TypeId)(h:T O)(v:V)(l:List (List V)):Prop:=(∀x∈l,x.length=z)/\((l=[]/\v=.aa)\/∃i x m,v=.slice i 0 l.length none z/\x.length=m*z/\h.get i=some (.cells (l.flatten++x) e true))
theorem Row.len{e:TypeId}(s:Row z e h v l):ki v=some l.length:=by
 obtain⟨_,⟨rfl,rfl⟩|⟨i,x,m,rfl,_⟩⟩:=s<;>rfl
theorem Row.eq{e:TypeId}(s:Row z e h v l)(k:∀i∈cA v,h'.get i=h.get i):Row z e h' v l:=by
 obtain⟨h1,⟨rfl,rfl⟩|⟨i,x,m,rfl,hm,h2⟩⟩:=s
 ·exact⟨h1,.inl ⟨rfl,rfl⟩⟩
 ·exact⟨h1,.inr ⟨i,x,m,rfl,hm,(k i (by simp[cA])).trans h2⟩⟩
theorem Row.sn{e:TypeId}(s:Row z e h v l)(k:∀i∈cA v,i<N):Sn z h N v l:=by
 obtain⟨hl,⟨h1,h2⟩|⟨i,x,m,rfl,_,h4⟩⟩:=s
 ·exact .inl ⟨h1,.inl h2⟩
 ·refine .inr ⟨i,0,none,_,e,true,rfl,k i (by simp[cA]),h4,fun j y hj=>?_,by rw[fQ,vk hl];omega,fun k hk=>by cases hk⟩
  have:=I3 hl hj
  obtain⟨q1,q2⟩:=MD this
  rw[rT]
  unfold aJ
  rw[aF (by rw[fQ];omega),List.drop_append_of_le_length (by omega),List.take_append_of_le_length (by rw[wX];omega),<-q2]
theorem ME(l:List (List V))(x:List V):(l++[x]).flatten=l.flatten++x:=by simp
def Yoz(st:St)(size:Nat)(zero:List V):Option V->Option (V×St)
 |some v=>F8 size zero (.const v) Rf .nil st
 |none=>none
structure Ysw (z bytes:Nat) (e:TypeId) (zero:List V) (h:T O) (N:Nat) (v:V) (l:List (List V)) (k:Nat) (v1 v2 v3 v4:V) (h3 h4:T O) (w3:List Nat):Prop where
 a:∀w,∃u,m_ ⟨h,N,w⟩ z (some v) (some (some (.int .i64 k))) (some (some (.int .i64 ((k:Int)+1)))) (some (some (.int .i64 l.length)))=some (u,⟨h,N,w⟩)
 b:∀w,m_ ⟨h,N,w⟩ z (some v) (some none) (some (some (.int .i64 k))) (some none)=some (v1,⟨h,N,w⟩)
 c:∀w,m_ ⟨h,N,w⟩ z (some v) (some (some (.int .i64 ((k:Int)+1)))) (some none) (some none)=some (v2,⟨h,N,w⟩)
 d:∀w,jQ ⟨h,N,w⟩ z bytes e v1 v2=some (v3,⟨h3,N,w3++w⟩)
 len:ki v3=some (l.length-1)
 f:∀w,m_ ⟨h3,N,w⟩ z (some v3) (some (some (.int .i64 ((l.length-1:Nat):Int)))) (some (some (.int .i64 l.length))) (some none)=some (v4,⟨h3,N,w⟩)
 g:∀w,∃i,i∈cA v/\Yoz ⟨h3,N,w⟩ z zero (some v4)=some (.aZ [],⟨h4,N,i::w⟩)
 w:∀i∈w3,i∈cA v
 upd:ff (fun i=>i∈cA v) h N h4 N
 ids:cA v3=cA v
 row:Row z e h4 v3 (l.take k++l.drop (k+1))
def Yv(st:St)(size:Nat):Option V->Option V->Option (V×St)
 |some d,some s=>Bz size (.const d) (.const s) Rf .nil st
 |_,_=>none
theorem Ya2{size:Nat}{d s:Src}{call:cm}{st:St}:Bz size d s call r st=Yv st size (d.ev r) (s.ev r):=by
 unfold Bz Yv
 rcases d.ev r with _|d
 ·rfl
 ·rcases s.ev r with _|s<;>rfl
attribute [simp] Ya2
def nz(e:TypeId)(Y:V->Prop)(h:T O)(u:V):Prop:=∀i∈cA u,∃z,h.get i=some (.cells z e true)/\z≠[]/\∀y∈z,Y y
theorem nz.nil{e:TypeId}{Y:V->Prop}:nz e Y h .aa:=fun i hi=>by simp[cA]at hi
theorem zy{e:TypeId}{N0:Nat}{u:V}{x:List V}{bytes:Nat}{w:List Nat}{Y:V->Prop}(s:Own z e N0 h N v l)(hn:l=[]->v=.aa)(hY:∀c∈l,∀y∈c,Y y)(hN:N0<=N)(hz:0<z)(hx:x.length=z)
  (hu:eC ⟨h,N,w⟩ z u=some (1,x)) (hb:2*(l.length+1)*bytes<=281474976710656):
  ∃v' h' w',jQ ⟨h,N,w⟩ z bytes e v u=some (v',⟨h',N+1,w'⟩)/\ad N0 w'=ad N0 w/\ab h N0 h' (N+1)/\ff (fun i=>i∈cA v) h N h' (N+1)/\nz e Y h v/\Own z e N0 h' (N+1) v' (l++[x]):=by
 obtain⟨v',h',w',f1,f2,f3,f4,f5⟩:=pU s hN hz hx hu hb
 refine⟨v',h',w',f1,f2,f3,⟨uW _,fun j hj hd=>?_⟩,fun i hi=>?_,f5⟩
 ·rcases f4 j with h1|h1|⟨o,n,c,q,h1⟩
  ·exact h1
  ·omega
  ·exact absurd (by rw[h1];simp[cA]) hd
 ·obtain⟨hl,⟨rfl,rfl⟩|⟨j,rfl,h2,h3,h4⟩⟩:=s
  ·simp[cA]at hi
  ·simp only[cA,vM]at hi
   subst hi
   refine⟨_,h4,fun hc=>?_,fun y hy=>?_⟩
   ·have mS:=vk hl
    rw[hc]at mS
    have:l.length=0:=by
     rcases Nat.mul_eq_zero.1 mS.symm with h|h
     ·exact h
     ·omega
    have:=hn (qa this)
    cases this
   ·obtain⟨c,hc,B2⟩:=List.mem_flatten.1 hy
    exact hY c hc y B2
variable {n:Nat}
def cI(n:Nat):UInt8:=UInt8.ofNat (48+n%10)
theorem DV(n:Nat):(cI n).toNat=48+n%10:=by
 unfold cI
 simp
 omega
def cJ(n:Nat):a_:=if h:n=0 then [] else cJ (n/10)++[cI n]
termination_by n
decreasing_by omega
theorem qR:cJ 0=[]:=by unfold cJ;simp
theorem ux(h:n≠0):cJ n=cJ (n/10)++[cI n]:=by
 conv=>lhs;unfold cJ
 rw[dif_neg h]
def ak(n:Nat):a_:=if n=0 then [48] else cJ n
def gl(n k:Nat):a_:=List.replicate (k-(cJ n).length) 48++cJ n
def aK(z:Int):a_:=if z<0 then 45::ak z.natAbs else ak z.natAbs
def aW(q:Rat):a_:=if q.den=1 then aK q.num else aK q.num++47::ak q.den
theorem Yw:∀(n:Nat),aB (cJ n)=n:=by
 intro n
 induction n using Nat.strongRecOn with
 |_ n ih=>
  by_cases h:n=0
  ·subst h;rw[qR];rfl
  ·rw[ux h,HV,ih (n/10) (by omega),DV]
   omega
theorem DW(n:Nat):aB (ak n)=n:=by
 unfold ak
 split
 ·subst_vars;rfl
 ·exact Yw n
theorem Yx{s:a_}{c:UInt8}:ct (s++[c])=(ct s&&jh c):=by simp[ct]
theorem Yg2(n:Nat):jh (cI n)=true:=by
 unfold jh
 rw[DV]
 simp
 omega
theorem Ydx:∀(n:Nat),ct (cJ n)=true:=by
 intro n
 induction n using Nat.strongRecOn with
 |_ n ih=>
  by_cases h:n=0
  ·subst h;rw[qR];rfl
  ·rw[ux h,Yx,ih (n/10) (by omega),Yg2];rfl
theorem zf(n:Nat):ct (ak n)=true:=by
 unfold ak
 split
 ·rfl
 ·exact Ydx n
theorem nd:∀{k n:Nat},n<10^k↔(cJ n).length<=k
 |0,n=>by
  simp only[Br,Nat.lt_one_iff,Nat.le_zero,List.length_eq_zero_iff]
  constructor
  ·rintro rfl;exact qR
  ·intro h
   have:=Yw n
   rw[h]at this
   exact this.symm
 |k+1,n=>by
  by_cases h:n=0
  ·subst h;rw[qR];simp;exact wW (by decide)
  ·rw[ux h,fQ,vO,fL]
   have:=nd (k:=k) (n:=n/10)
   rw[Nat.succ_le_succ_iff,<-this]
   exact(nC (by decide)).symm
theorem SN:∀{n:Nat},n≠0->∃c t,cJ n=c::t/\c.toNat≠48:=by
 intro n
 induction n using Nat.strongRecOn with
 |_ n ih=>
  intro h
  rw[ux h]
  by_cases h0:n/10=0
  ·rw[h0,qR]
   refine⟨cI n,[],rfl,?_⟩
   rw[DV];omega
  ·obtain⟨c,t,e,hc⟩:=ih (n/10) (by omega) h0
   rw[e]
   exact⟨c,t++[cI n],rfl,hc⟩
theorem GF(n:Nat):ak n≠[]:=by
 unfold ak
 split
 ·simp
 ·rename_i h
  obtain⟨c,t,e,_⟩:=SN h
  rw[e];simp
theorem Yy{c:UInt8}(h:jh c=true){k:Nat}:cI (10*k+(c.toNat-48))=c:=by
 unfold jh at h
 simp only[decide_eq_true_eq]at h
 apply UInt8.toNat_inj.1
 rw[DV];omega
theorem Yde:∀(t:a_) (c:UInt8),ct (c::t)=true->c.toNat≠48->cJ (aB (c::t))=c::t:=by
 intro t
 generalize hn:t.length=n
 induction n generalizing t with
 |zero=>
  intro c ha hc
  have:t=[]:=qa hn
  subst this
  have hd:jh c=true:=by simpa[ct]using ha
  have:=Yy hd (k:=0)
  have h2:48<=c.toNat/\c.toNat<=57:=by simpa[jh]using hd
  have e:aB [c]=c.toNat-48:=by simp[aB]
  rw[e,ux (by omega),show (c.toNat-48)/10=0 by omega,qR]
  simp only[Nat.mul_zero,rT]at this
  rw[this];rfl
 |succ n ih=>
  intro c ha hc
  obtain⟨u,d,rfl⟩:∃u d,t=u++[d]:=⟨t.dropLast,t.getLast (by rintro rfl;simp at hn),(Q4 _).symm⟩
  simp at hn
  have SO:ct (c::u)=true/\jh d=true:=by
   rw[<-yE,Yx,gW]at ha
   exact ha
  have SP:=ih u (by omega) c SO.1 hc
  have h2:48<=d.toNat/\d.toNat<=57:=by simpa[jh]using SO.2
  rw[<-yE,HV]
  have qS:aB (c::u)≠0:=by
   intro h0
   rw[h0,qR]at SP
   cases SP
  rw[ux (by omega),show (10*aB (c::u)+(d.toNat-48))/10=aB (c::u) by omega,SP,Yy SO.2]
theorem zg{s:a_}(h:gS s=true):ak (aB s)=s:=by
 cases s with
 |nil=>cases h
 |cons c t=>
  have h:(ct (c::t)&&(decide (c.toNat≠48)||decide (t=[])))=true:=h
  rw[gW,CZ,decide_eq_true_eq,decide_eq_true_eq]at h
  obtain⟨ha,hc⟩:=h
  by_cases h48:c.toNat=48
  ·rcases hc with hc|hc
   ·exact absurd h48 hc
   ·subst hc
    have:c=48:=UInt8.toNat_inj.1 h48
    subst this;rfl
  ·have e:=Yde t c ha h48
   have:aB (c::t)≠0:=by
    intro h0
    rw[h0,qR]at e
    cases e
   unfold ak
   rw[au this,e]
theorem Yz{a b:Nat}(h:ak a=ak b):a=b:=by rw[<-DW a,h,DW]
theorem YA:∀{k a b:Nat},a≠0->b<10^k->cJ (a*10^k+b)=cJ a++gl b k:=by
 intro k
 induction k with
 |zero=>
  intro a b ha hb
  have:b=0:=by simpa using hb
  subst this
  simp[gl,qR]
 |succ k ih=>
  intro a b ha hb
  rw[fL]at hb ⊢
  have oW:b/10<10^k:=(nC (by decide)).2 hb
  have hp:0<10^k:=wW (by decide)
  have qS:a*(10^k*10)+b≠0:=by
   have:=yH (Nat.pos_of_ne_zero ha) (yH hp (by decide:0<10));omega
  have e1:(a*(10^k*10)+b)/10=a*10^k+b/10:=by
   rw[<-Bq,gX _ 10,Nat.mul_add_div (by decide)]
  have e2:cI (a*(10^k*10)+b)=cI b:=by
   apply UInt8.toNat_inj.1
   rw[DV,DV,<-Bq,gX _ 10,Nat.mul_add_mod]
  rw[ux qS,e1,ih ha oW,e2,qw]
  congr 1
  by_cases oV:b=0
  ·subst oV
   unfold gl
   rw[Nat.zero_div,qR]
   simp only[List.length_nil,Nat.sub_zero,uT]
   rw[List.replicate_succ']
   rfl
  ·unfold gl
   rw[ux oV,fQ,vO,<-qw]
   rw[show k+1-((cJ (b/10)).length+1)=k-(cJ (b/10)).length by omega]
theorem Yg3{b k:Nat}(h:b<10^k):(gl b k).length=k:=by
 have:=nd.1 h
 simp[gl];omega
theorem I4(b:Nat):gl b 1=ak b:=by
 unfold gl ak
 split
 ·subst_vars;rw[qR];rfl
 ·rename_i h
  obtain⟨c,t,e,_⟩:=SN h
  rw[e]
  simp
theorem Zsh(h:n≠0):0<(cJ n).length:=by
 obtain⟨c,t,e,_⟩:=SN h
 rw[e];simp
theorem Ly{k:Nat}(hk:0<k):(ak n).length<=k↔n<10^k:=by
 unfold ak
 split
 ·subst_vars
  simp
  exact⟨fun _=>wW (by decide),fun _=>hk⟩
 ·exact nd.symm
theorem YB{n:Nat}:∃c t,ak n=c::t/\48<=c.toNat/\c.toNat<=57:=by
 have h:=zf n
 cases hs:ak n with
 |nil=>exact absurd hs (GF n)
 |cons c t=>
  rw[hs]at h
  have:jh c=true:=by
   simp[ct]at h;exact h.1
  exact⟨c,t,rfl,by simpa[jh]using this⟩
variable {s:a_}
theorem SQ:∀{s t:a_},(∀c∈s,c.toNat≠47)->ah (s++47::t)=s.length
 |[],t,_=>rfl
 |c::s,t,h=>by
  have h1:=h c jk
  have:=SQ (s:=s) (t:=t) fun d hd=>h d (iz _ hd)
  simp[ah,h1,this]
theorem SR:∀{s:a_},(∀c∈s,c.toNat≠47)->ah s=s.length
 |[],_=>rfl
 |c::s,h=>by
  have h1:=h c jk
  have:=SR (s:=s) fun d hd=>h d (iz _ hd)
  simp[ah,h1,this]
theorem YC:∀{s:a_},ah s<s.length->s.drop (ah s)=47::s.drop (ah s+1)
 |[],h=>by simp[ah]at h
 |c::s,h=>by
  by_cases hc:c.toNat=47
  ·have:c=47:=UInt8.toNat_inj.1 hc
   subst this
   simp[ah]
  ·simp only[ah,hc,if_false,bh]at h ⊢
   have:=YC (s:=s) (by omega)
   simpa using this
theorem MF(h:ct s=true):∀c∈s,c.toNat≠47:=by
 intro c hc
 unfold ct at h
 rw[m8]at h
 have:=h c hc
 unfold jh at this
 simp only[decide_eq_true_eq]at this
 omega
theorem YD(z:Int):∀c∈aK z,c.toNat≠47:=by
 unfold aK
 split
 ·intro c hc
  rcases kb.1 hc with rfl|hc
  ·decide
  ·exact MF (zf _) c hc
 ·exact MF (zf _)
theorem Ybc(n:Nat):cv (ak n)=false:=by
 obtain⟨c,t,e,h1,h2⟩:=YB (n:=n)
 rw[e]
 simp[cv];omega
theorem I5(z:Int):cv (aK z)=decide (z<0):=by
 unfold aK
 split
 ·rename_i h;simp[cv,h]
 ·rename_i h;rw[Ybc];simp[h]
theorem GG(z:Int):bp (aK z)=ak z.natAbs:=by
 unfold bp
 rw[I5]
 by_cases h:z<0
 ·simp[h,aK]
 ·simp[h,aK]
theorem GH(q:Rat):ah (aW q)=(aK q.num).length:=by
 unfold aW
 split
 ·exact SR (YD _)
 ·exact SQ (YD _)
theorem I6(q:Rat):(aW q).take (ah (aW q))=aK q.num:=by
 rw[GH]
 unfold aW
 split
 ·simp
 ·simp
theorem I7(q:Rat)(h:q.den≠1):(aW q).drop (ah (aW q)+1)=ak q.den:=by
 rw[GH]
 unfold aW
 rw[au h,<-List.drop_drop]
 simp
theorem Au(q:Rat):ah (aW q)<(aW q).length↔q.den≠1:=by
 rw[GH]
 unfold aW
 split
 ·rename_i h;simp[h]
 ·rename_i h;simp[h]
theorem Yg5{a b:Int}(h:aK a=aK b):a=b:=by
 have h1:=congrArg cv h
 have h2:=congrArg bp h
 rw[I5,I5,decide_eq_decide]at h1
 rw[GG,GG]at h2
 have h3:=Yz h2
 omega
theorem Yeg{a b:Rat}(h:aW a=aW b):a=b:=by
 have h1:=I6 a
 rw[h,I6 b]at h1
 have h2:=Yg5 h1
 have h3:a.den=b.den:=by
  by_cases ha:a.den=1
  ·have:=mt (Au a).1 (fun hc=>hc ha)
   rw[h]at this
   rw[Au]at this
   rw[ha];exact(Decidable.not_not.1 this).symm
  ·have:=(Au a).2 ha
   rw[h]at this
   have hb:=(Au b).1 this
   have e:=I7 a ha
   rw[h,I7 b hb]at e
   exact(Yz e).symm
 exact Rat.ext h2.symm h3
def gg(s:a_):Rat:=mkRat (if cv s then -(aB ((bp s).take (ah (bp s))):Int) else aB ((bp s).take (ah (bp s)))) (if ah (bp s)<(bp s).length then aB ((bp s).drop (ah (bp s)+1)) else 1)
theorem Yhg(h:bk s=0):fJ (cv s) ((bp s).take (ah (bp s))) (decide (ah (bp s)<(bp s).length)) ((bp s).drop (ah (bp s)+1))=true/\((bp s).take (ah (bp s))).length<=600/\((bp s).drop (ah (bp s)+1)).length<=600/\(ah (bp s)<(bp s).length->Nat.gcd (aB ((bp s).take (ah (bp s)))) (aB ((bp s).drop (ah (bp s)+1)))=1):=by
 unfold bk GI ji at h
 split at h
 ·cases h
 ·rename_i h1
  split at h
  ·cases h
  ·rename_i h2
   split at h
   ·cases h
   ·rename_i h3
    refine⟨by simpa using h1,by omega,by omega,fun hs=>?_⟩
    rw[decide_eq_true hs]at h3
    simpa using h3
theorem YE{n:Int}{d:Nat}(hd:d≠0)(h:Nat.gcd n.natAbs d=1):(mkRat n d).num=n/\(mkRat n d).den=d:=by
 have:mkRat n d=⟨n,d,hd,h⟩:=by
  rw[Rat.mkRat_def,dif_neg hd]
  exact Rat.normalize_eq_mk' _ _ hd h
 rw[this]
 exact⟨rfl,rfl⟩
theorem Zzb(s:a_):s=(if cv s then [45] else [])++bp s:=by
 cases s with
 |nil=>rfl
 |cons c t=>
  unfold bp
  by_cases hc:c.toNat=45
  ·have:c=45:=UInt8.toNat_inj.1 hc
   subst this
   simp[cv]
  ·simp[cv,hc]
theorem FF(h:bk s=0):aW (gg s)=s/\(ak (gg s).num.natAbs).length<=600/\(ak (gg s).den).length<=600:=by
 obtain⟨h1,h2,h3,h4⟩:=Yhg h
 have hle:=B3 (bp s)
 unfold fJ at h1
 simp only[gW,CU,CZ,decide_eq_true_eq]at h1
 obtain⟨⟨hp,hz⟩,hd⟩:=h1
 have DX:cv s=true->aB ((bp s).take (ah (bp s)))≠0:=by
  intro hn h0
  rw[hn,Bool.true_and,decide_eq_false_iff_not]at hz
  apply hz
  have:=zg hp
  rw[h0]at this
  exact this.symm
 have vj:(ak (aB ((bp s).take (ah (bp s))))).length<=600:=by
  rw[zg hp];exact h2
 have hb:=Zzb s
 by_cases hs:ah (bp s)<(bp s).length
 ·have hd:gS ((bp s).drop (ah (bp s)+1))=true/\(bp s).drop (ah (bp s)+1)≠[48]/\(bp s).drop (ah (bp s)+1)≠[49]:=by
   rcases hd with hd|⟨⟨a,b⟩,c⟩
   ·exact absurd hs (by simpa using hd)
   ·exact⟨a,b,c⟩
  have hg:=h4 hs
  have oO:aB ((bp s).drop (ah (bp s)+1))≠0:=by
   intro h0
   have:=zg hd.1
   rw[h0]at this
   exact hd.2.1 this.symm
  have qH:aB ((bp s).drop (ah (bp s)+1))≠1:=by
   intro h0
   have:=zg hd.1
   rw[h0]at this
   exact hd.2.2 (this.symm.trans (by decide+kernel))
  have jx:(ak (aB ((bp s).drop (ah (bp s)+1)))).length<=600:=by
   rw[zg hd.1];exact h3
  have hv:gg s=mkRat (if cv s then -(aB ((bp s).take (ah (bp s))):Int) else aB ((bp s).take (ah (bp s)))) (aB ((bp s).drop (ah (bp s)+1))):=by
   unfold gg;rw[aF hs]
  obtain⟨e1,e2⟩:=YE (n:=if cv s then -(aB ((bp s).take (ah (bp s))):Int) else aB ((bp s).take (ah (bp s)))) oO (by split<;>simpa using hg)
  rw[<-hv]at e1 e2
  have I8:bp s=(bp s).take (ah (bp s))++47::(bp s).drop (ah (bp s)+1):=by
   conv=>lhs;rw[<-yD (ah (bp s)) (bp s)]
   rw[YC hs]
  refine⟨?_,?_,by rw[e2];exact jx⟩
  ·unfold aW
   rw[e2,au qH,zg hd.1,e1]
   conv=>rhs;rw[hb,I8]
   unfold aK
   cases hn:cv s with
   |false=>
    simp only[fx,if_false]
    rw[au (by omega),dm,zg hp];rfl
   |true=>
    have:=DX hn
    simp only[if_true]
    rw[aF (by omega),yG,dm,zg hp];rfl
  ·rw[e1]
   split<;>simpa using vj
 ·have hv:gg s=mkRat (if cv s then -(aB ((bp s).take (ah (bp s))):Int) else aB ((bp s).take (ah (bp s)))) 1:=by
   unfold gg;rw[au hs]
  obtain⟨e1,e2⟩:=YE (n:=if cv s then -(aB ((bp s).take (ah (bp s))):Int) else aB ((bp s).take (ah (bp s)))) (show (1:Nat)≠0 by decide) (Nat.gcd_one_right _)
  rw[<-hv]at e1 e2
  have ht:(bp s).take (ah (bp s))=bp s:=eF (by omega)
  rw[ht]at e1 hp DX vj
  refine⟨?_,?_,by rw[e2];decide+kernel⟩
  ·unfold aW
   rw[e2,aF rfl,e1]
   conv=>rhs;rw[hb]
   unfold aK
   cases hn:cv s with
   |false=>
    simp only[fx,if_false]
    rw[au (by omega),dm,zg hp];rfl
   |true=>
    have:=DX hn
    simp only[if_true]
    rw[aF (by omega),yG,dm,zg hp];rfl
  ·rw[e1]
   split<;>simpa using vj
theorem WB(q:Rat):bp (aW q)=if q.den=1 then ak q.num.natAbs else ak q.num.natAbs++47::ak q.den:=by
 have dR:∀t:a_,cv (aK q.num++t)=decide (q.num<0):=by
  intro t
  rw[<-I5]
  have:aK q.num≠[]:=by
   unfold aK;split
   ·simp
   ·exact GF _
  cases h:aK q.num with
  |nil=>exact absurd h this
  |cons c u=>rfl
 have hb:∀t:a_,bp (aK q.num++t)=ak q.num.natAbs++t:=by
  intro t
  unfold bp
  rw[dR]
  by_cases h:q.num<0
  ·simp[h,aK]
  ·simp[h,aK]
 unfold aW
 split
 ·have:=hb [];simpa using this
 ·exact hb _
def vJ(q:Rat):Bool:=decide (600<(ak q.num.natAbs).length\/600<(ak q.den).length)
theorem QY:ak 1=[49]:=by decide+kernel
variable {i j k n:Nat} {q:Rat}
theorem MG:∀{i n:Nat},i<(ds n).length->(ds n)[i]?=some ((n/1000000000^i%1000000000:Nat):Int)
 |i,n,h=>by
  by_cases hn:n=0
  ·rw[hn,qA]at h;simp at h
  ·rw[xg hn]at h ⊢
   cases i with
   |zero=>simp
   |succ i=>
    rw[Bh,MG (by simpa using h),CW,fL,gX]
theorem YF(h:i<(ds n).length):n/1000000000^i≠0:=by
 intro hc
 have h1:n<1000000000^i:=(Nat.div_eq_zero_iff_lt (wW (by decide))).1 hc
 have:=Gd h1
 omega
theorem Yc9(h:i+1<(ds n).length):ak (n/1000000000^i)=ak (n/1000000000^(i+1))++gl (n/1000000000^i%1000000000) 9:=by
 have h0:=YF (i:=i) (n:=n) (by omega)
 have h1:=YF (i:=i+1) (n:=n) h
 have e:n/1000000000^(i+1)=n/1000000000^i/1000000000:=by rw[fL,CW]
 rw[e]at h1 ⊢
 generalize n/1000000000^i=x at*
 unfold ak
 rw[au h0,au h1]
 have:=YA (k:=9) (a:=x/1000000000) (b:=x%1000000000) h1 (by omega)
 rw[show (10:Nat)^9=1000000000 by decide]at this
 rw[<-this]
 congr 1
 omega
theorem Yg4(h:i+1=(ds n).length):ak (n/1000000000^i)=gl (n/1000000000^i%1000000000) 1:=by
 have h1:n<1000000000^(i+1):=by
  have h2:=rW (fA n)
  rw[fH,<-h]at h2
  unfold pI at h2
  have h3:(1000000000:Int)^(i+1)=((1000000000^(i+1):Nat):Int):=by rw[Int.natCast_pow];rfl
  rw[h3]at h2
  exact Int.ofNat_lt.1 h2
 rw[fL]at h1
 have h3:n/1000000000^i<1000000000:=Nat.div_lt_of_lt_mul h1
 rw[uU h3,I4]
def Qb(k:Nat)(q:Rat):Prop:=q.num.natAbs<2^k/\q.den<2^k
theorem I9(h:j<=k):2^j<=2^k:=qx (by decide) h
theorem Qb.mono(h:Qb j q)(hk:j<=k):Qb k q:=⟨eY h.1 (I9 hk),eY h.2 (I9 hk)⟩
theorem YG{a b:Int}(hb:b≠0)(h1:a.natAbs<2^k)(h2:b.natAbs<2^k):Qb k (Rat.divInt a b):=by
 constructor
 ·rw[Rat.num_divInt]
  refine qc ?_ h1
  rw[Int.natAbs_ediv_of_dvd]
  ·rw[tP]
   have:b.sign.natAbs=1:=by rw[Int.natAbs_sign,au hb]
   rw[this,Nat.one_mul]
   exact rS _ _
  ·exact Int.dvd_trans (Int.gcd_dvd_right ..) (Int.dvd_mul_left ..)
 ·rw[Rat.den_divInt,au hb]
  exact qc (rS _ _) h2
theorem Qb.mul{p:Rat}(hp:Qb j p)(hq:Qb k q):Qb (j+k) (p*q):=by
 have qi:((p.den:Nat):Int)≠0:=by have:=p.den_nz;omega
 have vn:((q.den:Nat):Int)≠0:=by have:=q.den_nz;omega
 rw[<-Bp p,<-Bp q,Rat.divInt_mul_divInt]
 refine YG (FY qi vn) ?_ ?_
 ·rw[tP,jH]
  exact zG hp.1 hq.1
 ·rw[tP,jH,dm,dm]
  exact zG hp.2 hq.2
theorem Qb.add{p:Rat}(hp:Qb j p)(hq:Qb k q):Qb (j+k+1) (p+q):=by
 have qi:((p.den:Nat):Int)≠0:=by have:=p.den_nz;omega
 have vn:((q.den:Nat):Int)≠0:=by have:=q.den_nz;omega
 rw[<-Bp p,<-Bp q,Rat.divInt_add_divInt _ _ qi vn]
 have e:2^(j+k+1)=2^j*2^k+2^k*2^j:=by rw[fL,jH,gX (2^k)];omega
 refine YG (FY qi vn) ?_ ?_
 ·refine qc (Int.natAbs_add_le ..) ?_
  rw[tP,tP,dm,dm,e]
  exact Nat.add_lt_add (zG hp.1 hq.2) (zG hq.1 hp.2)
 ·rw[tP,dm,dm,e]
  exact eY (zG hp.2 hq.2) (Nat.le_add_right _ _)
theorem Qb.neg(h:Qb k q):Qb k (-q):=by
 refine⟨?_,?_⟩
 ·rw[Rat.neg_num,yG];exact h.1
 ·rw[Rat.neg_den];exact h.2
theorem Qb.sub{p:Rat}(hp:Qb j p)(hq:Qb k q):Qb (j+k+1) (p-q):=by
 rw[Rat.sub_eq_add_neg];exact hp.add hq.neg
theorem Qb.int{z:Int}(h:z.natAbs<2^k)(hk:0<k):Qb k (z:Rat):=by
 refine⟨by simpa using h,?_⟩
 rw[Rat.den_intCast]
 exact eY (by decide) (I9 (j:=1) hk)
theorem rz(h:n<2^k):(ds n).length<=k:=Gd (eY h (CX (by decide) k))
theorem Ja(h:n<2^k):(cJ n).length<=k:=nd.1 (eY h (CX (by decide) k))
theorem CL(h:n<2^k):(ak n).length<=k+1:=by
 have:=Ja h
 unfold ak
 split<;>simp<;>omega
theorem FD{z:Int}(h:z.natAbs<2^k):(aK z).length<=k+2:=by
 have:=CL h
 unfold aK
 split<;>simp<;>omega
theorem WC(k:Nat):10^k<=2^(4*k):=by
 rw[Nat.pow_mul];exact CX (by decide) k
theorem SS{s:a_}(h:bk s=0)(hn:s.length<=n):Qb (4*n+4) (gg s):=by
 obtain⟨e,_,_⟩:=FF h
 have hb:=WB (gg s)
 have l1:(bp (aW (gg s))).length<=n:=by
  rw[e];unfold bp;split
  ·simp;omega
  ·exact hn
 rw[hb]at l1
 have g:∀m:Nat,(ak m).length<=n+1->m<2^(4*n+4):=fun m hm=>by
  have:=(Ly (n:=m) (k:=n+1) (by omega)).1 hm
  exact eY this (by have:=WC (n+1);rw[qy]at this;exact this)
 split at l1
 ·rename_i h1
  have h2:(ak 1).length=1:=by rw[QY];rfl
  exact⟨g _ (by omega),by rw[h1];exact g 1 (by omega)⟩
 ·simp at l1
  exact⟨g _ (by omega),g _ (by omega)⟩
open Go Go.Proofs
set_option maxRecDepth 1000000
def A.b267:aq:=sr [mc 4 0]
 (.seq (sr [mv 5 1,mv 6 0,ln 7 6,bi 8 .lss 5 7]
 (cd 8
 (sr [mv 9 0,mv 10 1,ia 11 1 9 10,ld 12 11,mv 4 12]
 (.ret))
 (.skip)))
 (sr [mc 4 0]
 (.ret)))
theorem A.c267:A.F 267=some ⟨13,[.tmp 4],A.b267⟩:=by kernel_rfl
def A.k267:=@A.kk 267 _ _ _ A.c267 rfl
def A.iO:aq:=.seq (sr [mv 9 7,mv 10 0,ln 11 10,bi 12 .lss 9 11,mv 13 12,mh 14 7 13,mh 15 1 13,⟨(some 16),.len 1 (.tmp 15),(some (13,false))⟩,⟨(some 17),.bin .lss (.node []) false (.tmp 14) (.tmp 16),(some (13,false))⟩,pt 18 13 17,mv 19 18,mh 20 6 19,⟨(some 21),.bin .gtr (.node []) false (.tmp 20) (.const (.int .i64 0)),(some (19,false))⟩,pt 22 19 21]
 (cd 22
 (.skip)
 (.exit 0)))
 (.seq (.block 1 (sr [mv 25 0,mv 26 7,c2 27 267 25 26,mv 28 1,mv 29 7,c2 30 267 28 29,bi 31 .add 27 30,mv 32 6,bi 33 .add 31 32,mv 8 33]
 (sr [mv 34 5,mv 35 8,bc 36 .rem 35 1000000000,⟨(some 37),.aO 3 1 1 [(.int .i64 0)] [(0,1,(.tmp 36))],none⟩,⟨(some 38),.append 1 8 3 [(.int .i64 0)] (.tmp 34) (.tmp 37),none⟩,mv 5 38]
 (.aM [mv 39 8,bc 40 .quo 39 1000000000,mv 6 40]))))
 (.aM [mv 23 7,bc 24 .add 23 1,mv 7 24]))
def A.b235:aq:=sr [mN 4]
 (sr [mN 5]
 (sr [mc 6 0]
 (.seq (sr [mc 7 0]
 (.block 0 (.loop A.iO)))
 (sr [mv 41 5,mv 4 41]
 (.ret)))))
theorem A.c235:A.F 235=some ⟨42,[.tmp 4],A.b235⟩:=by kernel_rfl
def A.k235:=@A.kk 235 _ _ _ A.c235 rfl
def A.kq:aq:=.seq (sr [mv 9 7,mv 10 0,ln 11 10,bi 12 .lss 9 11]
 (cd 12
 (.skip)
 (.exit 0)))
 (.seq (.block 1 (.seq (.aV [mv 15 0,mv 16 7,ia 17 1 15 16,ld 18 17,mv 19 1,mv 20 7,c2 21 267 19 20,bi 22 .sub 18 21,mv 23 6,bi 24 .sub 22 23,mv 8 24] [0,0,3,7,0,0,48,127,0,511,1023])
 (sr [mc 6 0]
 (.seq (sr [mv 25 8,bc 26 .lss 25 0]
 (cd 26
 (sr [mv 27 8,bc 28 .add 27 1000000000,mv 8 28]
 (.aM [mc 6 1]))
 (.skip)))
 (.aM [mv 29 5,mv 30 8,⟨(some 31),.aO 3 1 1 [(.int .i64 0)] [(0,1,(.tmp 30))],none⟩,⟨(some 32),.append 1 8 3 [(.int .i64 0)] (.tmp 29) (.tmp 31),none⟩,mv 5 32])))))
 (.aM [mv 13 7,bc 14 .add 13 1,mv 7 14]))
def A.b237:aq:=sr [mN 4]
 (sr [mN 5]
 (sr [mc 6 0]
 (.seq (sr [mc 7 0]
 (.block 0 (.loop A.kq)))
 (sr [mv 33 5,c1 34 265 33,mv 4 34]
 (.ret)))))
theorem A.c237:A.F 237=some ⟨35,[.tmp 4],A.b237⟩:=by kernel_rfl
def A.k237:=@A.kk 237 _ _ _ A.c237 rfl
theorem SU{h:T O}{N:Nat}{v:V}{l:List Int}{i:Nat}{w:List Nat}(hs:Sl h N v (dI l))(hi:i<4611686018427387904)(hl:l.length<4611686018427387904):A.C.call (.func 267 [] []) [v,.int .i64 i] ⟨h,N,w⟩=some (.int .i64 (zI l i),⟨h,N,w⟩):=by
 apply Call.eq
 have hlen:=hs.len
 rw[gk]at hlen
 rw[aR,A.k267 (by simp)]
 by_cases hc:i<l.length
 ·have IK:(i:Int)<(l.length:Int):=by omega
  obtain⟨d,hd⟩:=bV hc
  obtain⟨j,o,c,e,rw,q1,q2,q3,q4⟩:=hs.at (fU hd)
  simp[A.b267,hlen,IK,q1,q3,q4,Yi4 hd]
 ·have IK:¬(i:Int)<(l.length:Int):=by omega
  simp[A.b267,hlen,IK,Rj (vN hc)]
structure AdI (h:T O) (N:Nat) (la lb:List Int) (m:Nat) (r:T V) (st:St):Prop where
 w:ad N st.w=[]
 ae:ab h N st.h st.n
 ex:∃k c out D,k+m=max la.length lb.length+1/\r.get 7=some (.int .i64 k)/\r.get 6=some (.int .i64 c)/\r.get 5=some out/\0<=c/\c<=1/\(m=0->c=0)/\Own 1 3 N st.h st.n out (na D)/\D.length=k/\Di D/\vI D+pI k*c=vI (la.take k)+vI (lb.take k)
theorem MH{l:List Int}{k:Nat}(h:l.length<=k):l.take k=l:=eF h
theorem Yj2{h:T O}{N:Nat}{u v:V}{la lb:List Int}(hu:Sl h N u (dI la))(hv:Sl h N v (dI lb))(da:Di la)(db:Di lb)(l1:la.length<1099511627776)(l2:lb.length<1099511627776):Fn A.C 235 [u,v] h N (fun x h' n'=>∃l,Sl h' n' x (dI l)/\Di l/\vI l=vI la+vI lb/\l.length<=max la.length lb.length+1):=by
 intro w
 have lu:=hu.len
 have lv:=hv.len
 rw[gk]at lu lv
 rw[aR,A.k235 (by simp)]
 simp[A.b235]
 refine bQ [(5,40)] (fun e r st=>e=.exit 0/\ad N st.w=[]/\ab h N st.h st.n/\∃out D,r.get 5=some out/\Own 1 3 N st.h st.n out (na D)/\Di D/\vI D=vI la+vI lb/\D.length<=max la.length lb.length+1) (AdI h N la lb) (max la.length lb.length+1) ?_ ?_ ?_
 ·exact⟨by simp,ab.refl,0,0,.aa,[],by omega,by simp,by simp,by simp,by omega,by omega,fun _=>rfl,Own.nil,rfl,Di.nil,by simp[vI]⟩
 ·rintro m r ⟨H,n1,W⟩ hr hf ⟨hW,hK,k,c,out,D,hk,h7,h6,h5,c0,c1,cz,ho,hD,dD,mw⟩
  simp only at hW hK ho
  rw[bA]
  by_cases qP:k<la.length\/k<lb.length\/0<c
  ·obtain⟨m',rfl⟩:∃m',m=m'+1:=⟨m-1,by
    have:m≠0:=fun hm=>by have:=cz hm;omega
    omega⟩
   have dx:=Rk da k
   have dy:=Rk db k
   have e1:=fun w=>SU (w:=w) (i:=k) (hu.ae hK) (by omega) (by omega)
   have e2:=fun w=>SU (w:=w) (i:=k) (hv.ae hK) (by omega) (by omega)
   obtain⟨x,hx⟩:∃x,zI la k=x:=⟨_,rfl⟩
   obtain⟨y,hy⟩:∃y,zI lb k=y:=⟨_,rfl⟩
   rw[hx]at dx e1
   rw[hy]at dy e2
   have t1:(x+y+c).tmod 1000000000=(x+y+c)%1000000000:=Bk (by omega)
   have t2:(x+y+c).tdiv 1000000000=(x+y+c)/1000000000:=yA (by omega)
   have t3:bn .i64 (x+y)=x+y:=cj (by omega) (by omega)
   have t4:bn .i64 (x+y+c)=x+y+c:=cj (by omega) (by omega)
   have t5:bn .i64 ((x+y+c)/1000000000)=(x+y+c)/1000000000:=cj (by omega) (by omega)
   have ic:vI (D++[(x+y+c)%1000000000])+pI (k+1)*((x+y+c)/1000000000)=vI (la.take (k+1))+vI (lb.take (k+1)):=by
    rw[zV,hD,Rl,Rl,hx,hy,rU]
    have hm:=Bn (x+y+c) 1000000000
    generalize (x+y+c)/1000000000=Q at*
    generalize (x+y+c)%1000000000=R at*
    have:R=x+y+c-1000000000*Q:=by omega
    subst this
    grind
   have hz:m'=0->(x+y+c)/1000000000=0:=fun hm=>by
    have:x=0:=by rw[<-hx];exact Rj (by omega)
    have:y=0:=by rw[<-hy];exact Rj (by omega)
    omega
   have uQ:=ho.ae (ab.refl.new (.cells [.int .i64 ((x+y+c)%1000000000)] 3 true))
   obtain⟨v',h',w',f1,f2,f3,_,f5⟩:=pU (x:=[.int .i64 ((x+y+c)%1000000000)]) (u:=.slice n1 0 1 (some 1) 1) (bytes:=8) (w:=W) uQ (by have:=hK.le;omega) (by decide) rfl (by simp[eC,St.row,aJ]) (by simp[na];omega)
   rw[<-BF]at f5
   have f6:ad N w'=[]:=by rw[f2];exact hW
   have kz:=(hK.new (.cells [.int .i64 ((x+y+c)%1000000000)] 3 true)).then f3
   have DY:k<la.length\/(¬k<la.length/\k<lb.length)\/(¬k<la.length/\¬k<lb.length/\0<c):=by omega
   rcases DY with g1|⟨g1,g2⟩|⟨g1,g2,g3⟩
   ·have i1:(k:Int)<(la.length:Int):=by omega
    simp[A.iO,hr,h7,h6,h5,lu,i1,e1,e2,t1,t3,t4,ag]
    simp(disch:=first|(simp;done)|omega|rfl) [f1,hf,h7]
    exact⟨m',by omega,⟨f6,kz,k+1,(x+y+c)/1000000000,v',D++[(x+y+c)%1000000000],by omega,by simp,by simp[t2],by simp,by omega,by omega,hz,f5,by simp[hD],dD.app (Di.one (by omega) (by omega)),ic⟩⟩
   ·have i1:¬(k:Int)<(la.length:Int):=by omega
    have i2:(k:Int)<(lb.length:Int):=by omega
    simp[A.iO,hr,h7,h6,h5,lu,lv,i1,i2,e1,e2,t1,t3,t4,ag]
    simp(disch:=first|(simp;done)|omega|rfl) [f1,hf,h7]
    exact⟨m',by omega,⟨f6,kz,k+1,(x+y+c)/1000000000,v',D++[(x+y+c)%1000000000],by omega,by simp,by simp[t2],by simp,by omega,by omega,hz,f5,by simp[hD],dD.app (Di.one (by omega) (by omega)),ic⟩⟩
   ·have i1:¬(k:Int)<(la.length:Int):=by omega
    have i2:¬(k:Int)<(lb.length:Int):=by omega
    simp[A.iO,hr,h7,h6,h5,lu,lv,g3,i1,i2,e1,e2,t1,t3,t4,ag]
    simp(disch:=first|(simp;done)|omega|rfl) [f1,hf,h7]
    exact⟨m',by omega,⟨f6,kz,k+1,(x+y+c)/1000000000,v',D++[(x+y+c)%1000000000],by omega,by simp,by simp[t2],by simp,by omega,by omega,hz,f5,by simp[hD],dD.app (Di.one (by omega) (by omega)),ic⟩⟩
  ·obtain⟨g1,g2,g3⟩:¬k<la.length/\¬k<lb.length/\¬0<c:=by omega
   have i1:¬(k:Int)<(la.length:Int):=by omega
   have i2:¬(k:Int)<(lb.length:Int):=by omega
   obtain rfl:c=0:=by omega
   rw[MH (by omega),MH (by omega),Int.mul_zero,Int.add_zero]at mw
   simp[A.iO,hr,hf,h7,h6,lu,lv,i1,i2,hW,hK]
   exact⟨out,h5,D,ho,dD,mw,by omega⟩
 ·rintro _ r ⟨H,n1,W⟩ hr ⟨rfl,hW,hK,out,D,h5,ho,dD,mw,hl⟩
  simp only at hW hK ho
  simp[h5,aA,hW,hK]
  exact⟨D,ho.sl,dD,mw,hl⟩
end Go.Mx
