/-Calls that write some of what was there-/
import Derived.Test.YtjjmkflbfpeagaaGreatDoorMxUtf
set_option linter.all false
namespace Go.Mx
open Go
variable {N i n n1:Nat} {h h1:T O} {r:T V} {v:V}
structure np (D:Nat->Prop) (h:T O) (n:Nat) (h':T O) (n':Nat):Prop where
 le:n<=n'
 get:∀i,i<n->¬D i->h'.get i=h.get i
def np.refl{D:Nat->Prop}:np D h n h n:=⟨aR _,fun _ _ _=>rfl⟩
def np.trans{D:Nat->Prop}{h2:T O}{n2:Nat}(a:np D h n h1 n1)(b:np D h1 n1 h2 n2):np D h n h2 n2:=
 ⟨qz a.le b.le,fun i hi hd=>(b.get i (ic hi a.le) hd).trans (a.get i hi hd)⟩
def np.mono{D D2:Nat->Prop}(a:np D h n h1 n1)(hd:∀i,i<n->D i->D2 i):np D2 h n h1 n1:=⟨a.le,fun i hi hn=>a.get i hi fun hc=>hn (hd i hi hc)⟩
def np.set{D:Nat->Prop}{o:O}(a:np D h n h1 n1)(hi:D i\/n<=i):np D h n (h1.set i o) n1:=
 ⟨a.le,fun j hj hd=>by
  rw[T.ai,aq ?_]
  ·exact a.get j hj hd
  ·rintro rfl
   rcases hi with hi|hi
   ·exact hd hi
   ·omega⟩
def xm{N i:Nat}:∀{w:List Nat},i∈aB N w->i∈w/\i<N
 |[],h=>by simp[aB]at h
 |j::w,h=>by
  simp only[aB]at h
  split at h
  ·unfold vD at h
   split at h
   ·have:=xm h;exact⟨nt _ this.1,this.2⟩
   ·rcases jy.1 h with h|h
    ·subst h;exact⟨nT,by assumption⟩
    ·have:=xm h;exact⟨nt _ this.1,this.2⟩
  ·have:=xm h;exact⟨nt _ this.1,this.2⟩
def Zxp:aB N []=[]:=rfl
attribute [simp] Zxp
def Im{w:List Nat}(h:∀i∈w,N<=i):aB N w=[]:=ZW h
def mV(st:St)(i:Nat)(send:Option V)(zero:V):Option O->Option (V×St)
 |some (.chan cap buf)=>match send with
  |some v=>if buf.length<cap then some (.aY [.int .i64 0,.bool false],st.write i (.chan cap (buf++[v]))) else some (.aY [.int .i64 (-1),.bool false],st)
  |none=>match buf with
   |v::buf=>some (.aY [.int .i64 0,.bool true,v],st.write i (.chan cap buf))
   |[]=>some (.aY [.int .i64 (-1),.bool false,zero],st)
 |_=>none
def Ymw{st:St}{send:Option V}{zero:V}:Nj st i send zero=mV st i send zero (st.h.get i):=by
 unfold Nj mV
 rcases st.h.get i with _|o
 ·rfl
 ·cases o with
  |chan cap buf=>cases send with
   |some v=>rfl
   |none=>cases buf<;>rfl
  |_=>cases send<;>rfl
def NM(C:Cx)(K:List Kf)(Q:Rs->Prop)(d:Nat)(ops:List dk)(r:T V)(n:Nat)(m:List Nat):Option (V×St)->Prop
 |some (v,bU)=>bD C (.fL::K) (zG (dm C.call ops ⟨r.set d v,n,m⟩ bU)) Q
 |none=>False
def Tm(C:Cx)(K:List Kf)(Q:Rs->Prop)(d:Nat)(ops:List dk)(r:T V)(n:Nat)(m:List Nat)(st:St)(zero:V):Option V->Option (Option V)->Prop
 |some (.chan i),some sv=>NM C K Q d ops r n m (mV st i sv zero (st.h.get i))
 |_,_=>False
def Ye5{C:Cx}{K:List Kf}{Q:Rs->Prop}{ro:Option Nat}{d:Nat}{ch:Src}{send:Option Src}{zero:V}{ops:List dk}{m:List Nat}{st:St}(hd:d<n):bD C K (eR (C.code ro (.vo (some d) ch send zero ops) ⟨r,n,m⟩ st)) Q↔Tm C K Q d ops r n m st zero (ch.ev r) (az r send):=by
 have e:C.code ro (.vo (some d) ch send zero ops) ⟨r,n,m⟩ st=xq (some d) ch send zero ops C.call C.code ro ⟨r,n,m⟩ st:=Cx.du ..
 rw[e]
 unfold xq Tm
 simp only[]
 rcases ch.ev r with _|v
 ·exact GY
 ·cases v<;>try exact GY
  rename_i i
  rcases az r send with _|sv
  ·exact GY
  ·simp only[Ymw]
   rcases mV st i sv zero (st.h.get i)with _|⟨v,bU⟩
   ·exact GY
   ·simp only[Fr.put,hd,if_true,NM]
    refine iI ?_
    show _=iJ C K (lh C .fL (zG (dm C.call ops ⟨r.set d v,n,m⟩ bU)))
    rcases dm C.call ops ⟨r.set d v,n,m⟩ bU with _|⟨_,_⟩<;>rfl
def Yah{C K Q d ops r n m st zero i sv}:Tm C K Q d ops r n m st zero (some (.chan i)) (some sv)=NM C K Q d ops r n m (mV st i sv zero (st.h.get i)):=rfl
def Yag{C K Q d ops r n m v bU}:NM C K Q d ops r n m (some (v,bU))=bD C (.fL::K) (zG (dm C.call ops ⟨r.set d v,n,m⟩ bU)) Q:=rfl
def Zxc{st:St}{cap:Nat}{buf:List V}{zero:V}:mV st i none zero (some (.chan cap (v::buf)))=some (.aY [.int .i64 0,.bool true,v],st.write i (.chan cap buf)):=rfl
def Yaf{st:St}{cap:Nat}{zero:V}:mV st i none zero (some (.chan cap []))=some (.aY [.int .i64 (-1),.bool false,zero],st):=rfl
attribute [simp] Ye5 Yah Yag Zxc Yaf
def NN(st:St)(bytes:Nat):Option V->Option (V×St)
 |some (.int _ k)=>if k<0\/k > IntKind.i64.max\/bytes*k > 2^48-112 then none else some (.chan st.n,st.alloc (.chan k.toNat []))
 |_=>none
def Zti{bytes:Nat}{x:Src}{call:cH}{st:St}:BU bytes x call r st=NN st bytes (x.ev r):=by unfold BU NN;rfl
def Zx8{st:St}{kk:IntKind}{k:Int}(h0:0<=k)(h1:k<=100):NN st 16 (some (.int kk k))=some (.chan st.n,st.alloc (.chan k.toNat [])):=by
 unfold NN
 simp only[]
 rw[aq]
 have:IntKind.i64.max=9223372036854775807:=rfl
 omega
attribute [simp] Zti Zx8
def eL:V->List Nat
 |.slice i _ _ _ _=>[i]
 |_=>[]
def Sl.dh{D:Nat->Prop}{h':T O}{N':Nat}{l:List V}(s:Sl h N v l)(k:np D h N h' N')(hd:∀i∈eL v,¬D i):Sl h' N' v l:=by
 rcases s with s|⟨i,o,cp,c,e,rw,rfl,h2,h3,h4⟩
 ·exact .inl s
 ·exact .inr ⟨i,o,cp,c,e,rw,rfl,ic h2 k.le,(k.get i h2 (hd i (by simp[eL]))).trans h3,h4⟩
def Row(z:Nat)(e:TypeId)(h:T O)(v:V)(l:List (List V)):Prop:=(∀x∈l,x.length=z)/\((l=[]/\v=.aa)\/∃i x m,v=.slice i 0 l.length none z/\x.length=m*z/\h.get i=some (.cells (l.flatten++x) e true))
def MD(l:List (List V))(x:List V):(l++[x]).flatten=l.flatten++x:=by simp
def Yn8(st:St)(size:Nat)(zero:List V):Option V->Option (V×St)
 |some v=>GL size zero (.const v) Sg .nil st
 |none=>none
structure Ysi (z bytes:Nat) (e:TypeId) (zero:List V) (h:T O) (N:Nat) (v:V) (l:List (List V)) (k:Nat) (v1 v2 v3 v4:V) (h3 h4:T O) (w3:List Nat):Prop where
 a:∀w,∃u,nN ⟨h,N,w⟩ z (some v) (some (some (.int .i64 k))) (some (some (.int .i64 ((k:Int)+1)))) (some (some (.int .i64 l.length)))=some (u,⟨h,N,w⟩)
 b:∀w,nN ⟨h,N,w⟩ z (some v) (some none) (some (some (.int .i64 k))) (some none)=some (v1,⟨h,N,w⟩)
 c:∀w,nN ⟨h,N,w⟩ z (some v) (some (some (.int .i64 ((k:Int)+1)))) (some none) (some none)=some (v2,⟨h,N,w⟩)
 d:∀w,nI ⟨h,N,w⟩ z bytes e v1 v2=some (v3,⟨h3,N,w3++w⟩)
 len:qh v3=some (l.length-1)
 f:∀w,nN ⟨h3,N,w⟩ z (some v3) (some (some (.int .i64 ((l.length-1:Nat):Int)))) (some (some (.int .i64 l.length))) (some none)=some (v4,⟨h3,N,w⟩)
 g:∀w,∃i,i∈eL v/\Yn8 ⟨h3,N,w⟩ z zero (some v4)=some (.aY [],⟨h4,N,i::w⟩)
 w:∀i∈w3,i∈eL v
 upd:np (fun i=>i∈eL v) h N h4 N
 ids:eL v3=eL v
 row:Row z e h4 v3 (l.take k++l.drop (k+1))
def ZX(st:St)(size:Nat):Option V->Option V->Option (V×St)
 |some d,some s=>BY size (.const d) (.const s) Sg .nil st
 |_,_=>none
def Ya5{size:Nat}{d s:Src}{call:cH}{st:St}:BY size d s call r st=ZX st size (d.ev r) (s.ev r):=by
 unfold BY ZX
 rcases d.ev r with _|d
 ·rfl
 ·rcases s.ev r with _|s<;>rfl
attribute [simp] Ya5
def Ih(e:TypeId)(Y:V->Prop)(h:T O)(u:V):Prop:=∀i∈eL u,∃z,h.get i=some (.cells z e true)/\z≠[]/\∀y∈z,Y y
def Ih.nil{e:TypeId}{Y:V->Prop}:Ih e Y h .aa:=fun i hi=>by simp[eL]at hi
def HY{z:Nat}{e:TypeId}{N0:Nat}{u:V}{l:List (List V)}{x:List V}{bytes:Nat}{w:List Nat}{Y:V->Prop}(s:Own z e N0 h N v l)(hn:l=[]->v=.aa)(hY:∀c∈l,∀y∈c,Y y)(hN:N0<=N)(hz:0<z)(hx:x.length=z)
  (hu:iQ ⟨h,N,w⟩ z u=some (1,x)) (hb:2*(l.length+1)*bytes<=281474976710656):
  ∃v' h' w',nI ⟨h,N,w⟩ z bytes e v u=some (v',⟨h',N+1,w'⟩)/\aB N0 w'=aB N0 w/\ad h N0 h' (N+1)/\np (fun i=>i∈eL v) h N h' (N+1)/\Ih e Y h v/\Own z e N0 h' (N+1) v' (l++[x]):=by
 obtain⟨v',h',w',f1,f2,f3,f4,f5⟩:=zH s hN hz hx hu hb
 refine⟨v',h',w',f1,f2,f3,⟨wC _,fun j hj hd=>?_⟩,fun i hi=>?_,f5⟩
 ·rcases f4 j with h1|h1|⟨o,n,c,q,h1⟩
  ·exact h1
  ·omega
  ·exact absurd (by rw[h1];simp[eL]) hd
 ·obtain⟨hl,⟨rfl,rfl⟩|⟨j,rfl,h2,h3,h4⟩⟩:=s
  ·simp[eL]at hi
  ·simp only[eL,tX]at hi
   subst hi
   refine⟨_,h4,fun hc=>?_,fun y hy=>?_⟩
   ·have nW:=u9 hl
    rw[hc]at nW
    have:l.length=0:=by
     rcases Nat.mul_eq_zero.1 nW.symm with h|h
     ·exact h
     ·omega
    have:=hn (pV this)
    cases this
   ·obtain⟨c,hc,JE⟩:=List.mem_flatten.1 hy
    exact hY c hc y JE
def Ye{l:List Nat}:(l.any fun i=>Nat.ble n i&&Nat.blt i n)=false:=by
 rw[List.any_eq_false]
 intro i _ hc
 rw[iS]at hc
 have h1:=sL hc.1
 have h2:i<n:=sL hc.2
 omega
def Yd{l:List Nat}:t_ l (some [])=false:=by
 unfold t_
 rw[List.any_eq_false]
 intro i _ hc
 simp at hc
variable {n:Nat}
def cW(n:Nat):UInt8:=UInt8.ofNat (48+n%10)
def En(n:Nat):(cW n).toNat=48+n%10:=by
 unfold cW
 simp
 omega
def cZ(n:Nat):aU:=if h:n=0 then [] else cZ (n/10)++[cW n]
termination_by n
decreasing_by omega
def qN:cZ 0=[]:=by unfold cZ;simp
def uN(h:n≠0):cZ n=cZ (n/10)++[cW n]:=by
 conv=>lhs;unfold cZ
 rw[dif_neg h]
def aj(n:Nat):aU:=if n=0 then [48] else cZ n
def gS(n k:Nat):aU:=List.replicate (k-(cZ n).length) 48++cZ n
def aK(z:Int):aU:=if z<0 then 45::aj z.natAbs else aj z.natAbs
def av(q:Rat):aU:=if q.den=1 then aK q.num else aK q.num++47::aj q.den
def ZY:∀(n:Nat),aD (cZ n)=n:=by
 intro n
 induction n using Nat.strongRecOn with
 |_ n ih=>
  by_cases h:n=0
  ·subst h;rw[qN];rfl
  ·rw[uN h,JF,ih (n/10) (by omega),En]
   omega
def ye(n:Nat):aD (aj n)=n:=by
 unfold aj
 split
 ·subst_vars;rfl
 ·exact ZY n
def Z0{s:aU}{c:UInt8}:cF (s++[c])=(cF s&&jz c):=by simp[cF]
def Ygw(n:Nat):jz (cW n)=true:=by
 unfold jz
 rw[En]
 simp
 omega
def Yd3:∀(n:Nat),cF (cZ n)=true:=by
 intro n
 induction n using Nat.strongRecOn with
 |_ n ih=>
  by_cases h:n=0
  ·subst h;rw[qN];rfl
  ·rw[uN h,Z0,ih (n/10) (by omega),Ygw];rfl
def vN(n:Nat):cF (aj n)=true:=by
 unfold aj
 split
 ·rfl
 ·exact Yd3 n
def nO:∀{k n:Nat},n<10^k↔(cZ n).length<=k
 |0,n=>by
  simp only[Ag,Nat.lt_one_iff,Nat.le_zero,List.length_eq_zero_iff]
  constructor
  ·rintro rfl;exact qN
  ·intro h
   have:=ZY n
   rw[h]at this
   exact this.symm
 |k+1,n=>by
  by_cases h:n=0
  ·subst h;rw[qN];simp;exact vf (by decide)
  ·rw[uN h,iy,xA,fv]
   have:=nO (k:=k) (n:=n/10)
   rw[Nat.succ_le_succ_iff,<-this]
   exact(oh (by decide)).symm
def NO:∀{n:Nat},n≠0->∃c t,cZ n=c::t/\c.toNat≠48:=by
 intro n
 induction n using Nat.strongRecOn with
 |_ n ih=>
  intro h
  rw[uN h]
  by_cases h0:n/10=0
  ·rw[h0,qN]
   refine⟨cW n,[],rfl,?_⟩
   rw[En];omega
  ·obtain⟨c,t,e,hc⟩:=ih (n/10) (by omega) h0
   rw[e]
   exact⟨c,t++[cW n],rfl,hc⟩
def Eo(n:Nat):aj n≠[]:=by
 unfold aj
 split
 ·simp
 ·rename_i h
  obtain⟨c,t,e,_⟩:=NO h
  rw[e];simp
def Z1(n:Nat):g_ (aj n)=true:=by
 have ha:=vN n
 by_cases h:n=0
 ·subst h;rfl
 ·obtain⟨c,t,e,hc⟩:=NO h
  have e2:aj n=c::t:=by unfold aj;rw[aq h,e]
  rw[e2]at ha ⊢
  show (cF (c::t)&&(decide (c.toNat≠48)||decide (t=[])))=true
  rw[ha,decide_eq_true hc];rfl
def Z2{c:UInt8}(h:jz c=true){k:Nat}:cW (10*k+(c.toNat-48))=c:=by
 unfold jz at h
 simp only[decide_eq_true_eq]at h
 apply UInt8.toNat_inj.1
 rw[En];omega
def Ydk:∀(t:aU) (c:UInt8),cF (c::t)=true->c.toNat≠48->cZ (aD (c::t))=c::t:=by
 intro t
 generalize hn:t.length=n
 induction n generalizing t with
 |zero=>
  intro c ha hc
  have:t=[]:=pV hn
  subst this
  have hd:jz c=true:=by simpa[cF]using ha
  have:=Z2 hd (k:=0)
  have h2:48<=c.toNat/\c.toNat<=57:=by simpa[jz]using hd
  have e:aD [c]=c.toNat-48:=by simp[aD]
  rw[e,uN (by omega),show (c.toNat-48)/10=0 by omega,qN]
  simp only[Nat.mul_zero,vW]at this
  rw[this];rfl
 |succ n ih=>
  intro c ha hc
  obtain⟨u,d,rfl⟩:∃u d,t=u++[d]:=⟨t.dropLast,t.getLast (by rintro rfl;simp at hn),(R6 _).symm⟩
  simp at hn
  have Tn:cF (c::u)=true/\jz d=true:=by
   rw[<-Ao,Z0,iS]at ha
   exact ha
  have To:=ih u (by omega) c Tn.1 hc
  have h2:48<=d.toNat/\d.toNat<=57:=by simpa[jz]using Tn.2
  rw[<-Ao,JF]
  have qO:aD (c::u)≠0:=by
   intro h0
   rw[h0,qN]at To
   cases To
  rw[uN (by omega),show (10*aD (c::u)+(d.toNat-48))/10=aD (c::u) by omega,To,Z2 Tn.2]
def zJ{s:aU}(h:g_ s=true):aj (aD s)=s:=by
 cases s with
 |nil=>cases h
 |cons c t=>
  have h:(cF (c::t)&&(decide (c.toNat≠48)||decide (t=[])))=true:=h
  rw[iS,Du,decide_eq_true_eq,decide_eq_true_eq]at h
  obtain⟨ha,hc⟩:=h
  by_cases h48:c.toNat=48
  ·rcases hc with hc|hc
   ·exact absurd h48 hc
   ·subst hc
    have:c=48:=UInt8.toNat_inj.1 h48
    subst this;rfl
  ·have e:=Ydk t c ha h48
   have:aD (c::t)≠0:=by
    intro h0
    rw[h0,qN]at e
    cases e
   unfold aj
   rw[aq this,e]
def JG{a b:Nat}(h:aj a=aj b):a=b:=by rw[<-ye a,h,ye]
def Z3:∀{k a b:Nat},a≠0->b<10^k->cZ (a*10^k+b)=cZ a++gS b k:=by
 intro k
 induction k with
 |zero=>
  intro a b ha hb
  have:b=0:=by simpa using hb
  subst this
  simp[gS,qN]
 |succ k ih=>
  intro a b ha hb
  rw[fv]at hb ⊢
  have oM:b/10<10^k:=(oh (by decide)).2 hb
  have hp:0<10^k:=vf (by decide)
  have qO:a*(10^k*10)+b≠0:=by
   have:=sh (Nat.pos_of_ne_zero ha) (sh hp (by decide:0<10));omega
  have e1:(a*(10^k*10)+b)/10=a*10^k+b/10:=by
   rw[<-tZ,fR _ 10,Nat.mul_add_div (by decide)]
  have e2:cW (a*(10^k*10)+b)=cW b:=by
   apply UInt8.toNat_inj.1
   rw[En,En,<-tZ,fR _ 10,Nat.mul_add_mod]
  rw[uN qO,e1,ih ha oM,e2,qs]
  congr 1
  by_cases py:b=0
  ·subst py
   unfold gS
   rw[Nat.zero_div,qN]
   simp only[List.length_nil,Nat.sub_zero,yX]
   rw[List.replicate_succ']
   rfl
  ·unfold gS
   rw[uN py,iy,xA,<-qs]
   rw[show k+1-((cZ (b/10)).length+1)=k-(cZ (b/10)).length by omega]
def Ygx{b k:Nat}(h:b<10^k):(gS b k).length=k:=by
 have:=nO.1 h
 simp[gS];omega
def JH(b:Nat):gS b 1=aj b:=by
 unfold gS aj
 split
 ·subst_vars;rw[qN];rfl
 ·rename_i h
  obtain⟨c,t,e,_⟩:=NO h
  rw[e]
  simp
def Zsa(h:n≠0):0<(cZ n).length:=by
 obtain⟨c,t,e,_⟩:=NO h
 rw[e];simp
def yZ{k:Nat}(hk:0<k):(aj n).length<=k↔n<10^k:=by
 unfold aj
 split
 ·subst_vars
  simp
  exact⟨fun _=>vf (by decide),fun _=>hk⟩
 ·exact nO.symm
def Z4{n:Nat}:∃c t,aj n=c::t/\48<=c.toNat/\c.toNat<=57:=by
 have h:=vN n
 cases hs:aj n with
 |nil=>exact absurd hs (Eo n)
 |cons c t=>
  rw[hs]at h
  have:jz c=true:=by
   simp[cF]at h;exact h.1
  exact⟨c,t,rfl,by simpa[jz]using this⟩
variable {s:aU}
def NP:∀{s t:aU},(∀c∈s,c.toNat≠47)->ah (s++47::t)=s.length
 |[],t,_=>rfl
 |c::s,t,h=>by
  have h1:=h c nT
  have:=NP (s:=s) (t:=t) fun d hd=>h d (nt _ hd)
  simp[ah,h1,this]
def NQ:∀{s:aU},(∀c∈s,c.toNat≠47)->ah s=s.length
 |[],_=>rfl
 |c::s,h=>by
  have h1:=h c nT
  have:=NQ (s:=s) fun d hd=>h d (nt _ hd)
  simp[ah,h1,this]
def Z5:∀{s:aU},ah s<s.length->s.drop (ah s)=47::s.drop (ah s+1)
 |[],h=>by simp[ah]at h
 |c::s,h=>by
  by_cases hc:c.toNat=47
  ·have:c=47:=UInt8.toNat_inj.1 hc
   subst this
   simp[ah]
  ·simp only[ah,hc,if_false,bf]at h ⊢
   have:=Z5 (s:=s) (by omega)
   simpa using this
def GZ(h:cF s=true):∀c∈s,c.toNat≠47:=by
 intro c hc
 unfold cF at h
 rw[sJ]at h
 have:=h c hc
 unfold jz at this
 simp only[decide_eq_true_eq]at this
 omega
def Z6(z:Int):∀c∈aK z,c.toNat≠47:=by
 unfold aK
 split
 ·intro c hc
  rcases jy.1 hc with rfl|hc
  ·decide
  ·exact GZ (vN _) c hc
 ·exact GZ (vN _)
def Ybi(n:Nat):bY (aj n)=false:=by
 obtain⟨c,t,e,h1,h2⟩:=Z4 (n:=n)
 rw[e]
 simp[bY];omega
def G0(z:Int):bY (aK z)=decide (z<0):=by
 unfold aK
 split
 ·rename_i h;simp[bY,h]
 ·rename_i h;rw[Ybi];simp[h]
def G3(z:Int):bj (aK z)=aj z.natAbs:=by
 unfold bj
 rw[G0]
 by_cases h:z<0
 ·simp[h,aK]
 ·simp[h,aK]
def G4(q:Rat):ah (av q)=(aK q.num).length:=by
 unfold av
 split
 ·exact NQ (Z6 _)
 ·exact NP (Z6 _)
def JI(q:Rat):(av q).take (ah (av q))=aK q.num:=by
 rw[G4]
 unfold av
 split
 ·simp
 ·simp
def JJ(q:Rat)(h:q.den≠1):(av q).drop (ah (av q)+1)=aj q.den:=by
 rw[G4]
 unfold av
 rw[aq h,<-List.drop_drop]
 simp
def AT(q:Rat):ah (av q)<(av q).length↔q.den≠1:=by
 rw[G4]
 unfold av
 split
 ·rename_i h;simp[h]
 ·rename_i h;simp[h]
def Ygz{a b:Int}(h:aK a=aK b):a=b:=by
 have h1:=congrArg bY h
 have h2:=congrArg bj h
 rw[G0,G0,decide_eq_decide]at h1
 rw[G3,G3]at h2
 have h3:=JG h2
 omega
def Xp{a b:Rat}(h:av a=av b):a=b:=by
 have h1:=JI a
 rw[h,JI b]at h1
 have h2:=Ygz h1
 have h3:a.den=b.den:=by
  by_cases ha:a.den=1
  ·have:=mt (AT a).1 (fun hc=>hc ha)
   rw[h]at this
   rw[AT]at this
   rw[ha];exact(Decidable.not_not.1 this).symm
  ·have:=(AT a).2 ha
   rw[h]at this
   have hb:=(AT b).1 this
   have e:=JJ a ha
   rw[h,JJ b hb]at e
   exact(JG e).symm
 exact Rat.ext h2.symm h3
def bu(s:aU):Rat:=mkRat (if bY s then -(aD ((bj s).take (ah (bj s))):Int) else aD ((bj s).take (ah (bj s)))) (if ah (bj s)<(bj s).length then aD ((bj s).drop (ah (bj s)+1)) else 1)
def Yg6(h:aN s=0):fD (bY s) ((bj s).take (ah (bj s))) (decide (ah (bj s)<(bj s).length)) ((bj s).drop (ah (bj s)+1))=true/\((bj s).take (ah (bj s))).length<=600/\((bj s).drop (ah (bj s)+1)).length<=600/\(ah (bj s)<(bj s).length->Nat.gcd (aD ((bj s).take (ah (bj s)))) (aD ((bj s).drop (ah (bj s)+1)))=1):=by
 unfold aN Ep jh at h
 split at h
 ·cases h
 ·rename_i h1
  split at h
  ·cases h
  ·rename_i h2
   split at h
   ·cases h
   ·rename_i h3
    refine⟨by simpa using h1,by omega,by omega,fun hs=>?_⟩
    rw[decide_eq_true hs]at h3
    simpa using h3
def Z7{n:Int}{d:Nat}(hd:d≠0)(h:Nat.gcd n.natAbs d=1):(mkRat n d).num=n/\(mkRat n d).den=d:=by
 have:mkRat n d=⟨n,d,hd,h⟩:=by
  rw[Rat.mkRat_def,dif_neg hd]
  exact Rat.normalize_eq_mk' _ _ hd h
 rw[this]
 exact⟨rfl,rfl⟩
def Zzm(s:aU):s=(if bY s then [45] else [])++bj s:=by
 cases s with
 |nil=>rfl
 |cons c t=>
  unfold bj
  by_cases hc:c.toNat=45
  ·have:c=45:=UInt8.toNat_inj.1 hc
   subst this
   simp[bY]
  ·simp[bY,hc]
def q8(h:aN s=0):av (bu s)=s/\(aj (bu s).num.natAbs).length<=600/\(aj (bu s).den).length<=600:=by
 obtain⟨h1,h2,h3,h4⟩:=Yg6 h
 have hle:=Ci (bj s)
 unfold fD at h1
 simp only[iS,Dt,Du,decide_eq_true_eq]at h1
 obtain⟨⟨hp,hz⟩,hd⟩:=h1
 have Er:bY s=true->aD ((bj s).take (ah (bj s)))≠0:=by
  intro hn h0
  rw[hn,Bool.true_and,decide_eq_false_iff_not]at hz
  apply hz
  have:=zJ hp
  rw[h0]at this
  exact this.symm
 have AQ:(aj (aD ((bj s).take (ah (bj s))))).length<=600:=by
  rw[zJ hp];exact h2
 have hb:=Zzm s
 by_cases hs:ah (bj s)<(bj s).length
 ·have hd:g_ ((bj s).drop (ah (bj s)+1))=true/\(bj s).drop (ah (bj s)+1)≠[48]/\(bj s).drop (ah (bj s)+1)≠[49]:=by
   rcases hd with hd|⟨⟨a,b⟩,c⟩
   ·exact absurd hs (by simpa using hd)
   ·exact⟨a,b,c⟩
  have hg:=h4 hs
  have kM:aD ((bj s).drop (ah (bj s)+1))≠0:=by
   intro h0
   have:=zJ hd.1
   rw[h0]at this
   exact hd.2.1 this.symm
  have qo:aD ((bj s).drop (ah (bj s)+1))≠1:=by
   intro h0
   have:=zJ hd.1
   rw[h0]at this
   exact hd.2.2 (this.symm.trans (by decide+kernel))
  have lA:(aj (aD ((bj s).drop (ah (bj s)+1)))).length<=600:=by
   rw[zJ hd.1];exact h3
  have hv:bu s=mkRat (if bY s then -(aD ((bj s).take (ah (bj s))):Int) else aD ((bj s).take (ah (bj s)))) (aD ((bj s).drop (ah (bj s)+1))):=by
   unfold bu;rw[aJ hs]
  obtain⟨e1,e2⟩:=Z7 (n:=if bY s then -(aD ((bj s).take (ah (bj s))):Int) else aD ((bj s).take (ah (bj s)))) kM (by split<;>simpa using hg)
  rw[<-hv]at e1 e2
  have JK:bj s=(bj s).take (ah (bj s))++47::(bj s).drop (ah (bj s)+1):=by
   conv=>lhs;rw[<-yW (ah (bj s)) (bj s)]
   rw[Z5 hs]
  refine⟨?_,?_,by rw[e2];exact lA⟩
  ·unfold av
   rw[e2,aq qo,zJ hd.1,e1]
   conv=>rhs;rw[hb,JK]
   unfold aK
   cases hn:bY s with
   |false=>
    simp only[fY,if_false]
    rw[aq (by omega),ed,zJ hp];rfl
   |true=>
    have:=Er hn
    simp only[if_true]
    rw[aJ (by omega),zr,ed,zJ hp];rfl
  ·rw[e1]
   split<;>simpa using AQ
 ·have hv:bu s=mkRat (if bY s then -(aD ((bj s).take (ah (bj s))):Int) else aD ((bj s).take (ah (bj s)))) 1:=by
   unfold bu;rw[aq hs]
  obtain⟨e1,e2⟩:=Z7 (n:=if bY s then -(aD ((bj s).take (ah (bj s))):Int) else aD ((bj s).take (ah (bj s)))) (show (1:Nat)≠0 by decide) (Nat.gcd_one_right _)
  rw[<-hv]at e1 e2
  have ht:(bj s).take (ah (bj s))=bj s:=gI (by omega)
  rw[ht]at e1 hp Er AQ
  refine⟨?_,?_,by rw[e2];decide+kernel⟩
  ·unfold av
   rw[e2,aJ rfl,e1]
   conv=>rhs;rw[hb]
   unfold aK
   cases hn:bY s with
   |false=>
    simp only[fY,if_false]
    rw[aq (by omega),ed,zJ hp];rfl
   |true=>
    have:=Er hn
    simp only[if_true]
    rw[aJ (by omega),zr,ed,zJ hp];rfl
  ·rw[e1]
   split<;>simpa using AQ
def Z8(q:Rat):bj (av q)=if q.den=1 then aj q.num.natAbs else aj q.num.natAbs++47::aj q.den:=by
 have dC:∀t:aU,bY (aK q.num++t)=decide (q.num<0):=by
  intro t
  rw[<-G0]
  have:aK q.num≠[]:=by
   unfold aK;split
   ·simp
   ·exact Eo _
  cases h:aK q.num with
  |nil=>exact absurd h this
  |cons c u=>rfl
 have hb:∀t:aU,bj (aK q.num++t)=aj q.num.natAbs++t:=by
  intro t
  unfold bj
  rw[dC]
  by_cases h:q.num<0
  ·simp[h,aK]
  ·simp[h,aK]
 unfold av
 split
 ·have:=hb [];simpa using this
 ·exact hb _
def Z9(q:Rat):bY (av q)=decide (q.num<0):=by
 have dC:∀t:aU,bY (aK q.num++t)=decide (q.num<0):=by
  intro t
  rw[<-G0]
  have:aK q.num≠[]:=by
   unfold aK;split
   ·simp
   ·exact Eo _
  cases h:aK q.num with
  |nil=>exact absurd h this
  |cons c u=>rfl
 unfold av
 split
 ·have:=dC [];simpa using this
 ·exact dC _
def Zql(q:Rat):(bj (av q)).take (ah (bj (av q)))=aj q.num.natAbs/\(ah (bj (av q))<(bj (av q)).length↔q.den≠1)/\(bj (av q)).drop (ah (bj (av q))+1)=if q.den=1 then [] else aj q.den:=by
 rw[Z8]
 by_cases h:q.den=1
 ·simp only[h,if_true]
  rw[NQ (GZ (vN _))]
  simp
 ·simp only[h,if_false]
  rw[NP (GZ (vN _))]
  simp[h]
def vZ(q:Rat):Bool:=decide (600<(aj q.num.natAbs).length\/600<(aj q.den).length)
def Yie:aj 0=[48]:=rfl
def NR:aj 1=[49]:=by decide+kernel
def Ia(q:Rat):aN (av q)=if vZ q then 4 else 0:=by
 obtain⟨h1,h2,h3⟩:=Zql q
 have hf:fD (bY (av q)) (aj q.num.natAbs) (decide (q.den≠1)) (if q.den=1 then [] else aj q.den)=true:=by
  unfold fD
  rw[Z1,Z9]
  have hz:(decide (q.num<0)&&decide (aj q.num.natAbs=[48]))=false:=by
   by_cases hn:q.num<0
   ·have:aj q.num.natAbs≠[48]:=by
     intro h
     have:=JG (h.trans Yie.symm)
     omega
    simp[this]
   ·simp[hn]
  rw[hz]
  by_cases hd:q.den=1
  ·simp[hd]
  ·have a1:aj q.den≠[48]:=fun h=>q.den_nz (JG (h.trans Yie.symm))
   have a2:aj q.den≠[49]:=fun h=>hd (JG (h.trans NR.symm))
   simp[hd,Z1,a1,a2]
 have hb:(decide (ah (bj (av q))<(bj (av q)).length))=decide (q.den≠1):=decide_eq_decide.2 h2
 unfold aN Ep
 rw[h1,h3,hb]
 unfold jh
 rw[hf]
 have hg:¬(decide (q.den≠1)=true/\Nat.gcd (aD (aj q.num.natAbs)) (aD (if q.den=1 then [] else aj q.den))≠1):=by
  rintro⟨a,b⟩
  have a:q.den≠1:=by simpa using a
  rw[aq a,ye,ye]at b
  exact b q.reduced
 rw[aq (by simp),aq hg]
 unfold vZ
 by_cases hd:q.den=1
 ·rw[hd,NR]
  simp
 ·simp[hd]
def v_(q:Rat):bu (av q)=q:=by
 obtain⟨h1,h2,h3⟩:=Zql q
 unfold bu
 rw[h1,h3,Z9,ye]
 have hn:(if decide (q.num<0)=true then -(q.num.natAbs:Int) else (q.num.natAbs:Int))=q.num:=by
  by_cases h:q.num<0
  ·rw[aJ (by simpa using h)];omega
  ·rw[aq (by simpa using h)];omega
 rw[hn]
 by_cases hd:q.den=1
 ·rw[aq (fun h=>(h2.1 h) hd)]
  have:=Rat.mkRat_self q
  rw[hd]at this
  exact this
 ·rw[aJ (h2.2 hd),aq hd,ye]
  exact Rat.mkRat_self q
variable {i j k n:Nat}
def NS:∀{i n:Nat},i<(ds n).length->(ds n)[i]?=some ((n/1000000000^i%1000000000:Nat):Int)
 |i,n,h=>by
  by_cases hn:n=0
  ·rw[hn,qq]at h;simp at h
  ·rw[wZ hn]at h ⊢
   cases i with
   |zero=>simp
   |succ i=>
    rw[BP,NS (by simpa using h),Dq,fv,fR]
def Yic(h:i<(ds n).length):n/1000000000^i≠0:=by
 intro hc
 have h1:n<1000000000^i:=(Nat.div_eq_zero_iff_lt (vf (by decide))).1 hc
 have:=G5 h1
 omega
def Ydg(h:i+1<(ds n).length):aj (n/1000000000^i)=aj (n/1000000000^(i+1))++gS (n/1000000000^i%1000000000) 9:=by
 have h0:=Yic (i:=i) (n:=n) (by omega)
 have h1:=Yic (i:=i+1) (n:=n) h
 have e:n/1000000000^(i+1)=n/1000000000^i/1000000000:=by rw[fv,Dq]
 rw[e]at h1 ⊢
 generalize n/1000000000^i=x at*
 unfold aj
 rw[aq h0,aq h1]
 have:=Z3 (k:=9) (a:=x/1000000000) (b:=x%1000000000) h1 (by omega)
 rw[show (10:Nat)^9=1000000000 by decide]at this
 rw[<-this]
 congr 1
 omega
def Ygy(h:i+1=(ds n).length):aj (n/1000000000^i)=gS (n/1000000000^i%1000000000) 1:=by
 have h1:n<1000000000^(i+1):=by
  have h2:=rK (fJ n)
  rw[fQ,<-h]at h2
  unfold pI at h2
  have h3:(1000000000:Int)^(i+1)=((1000000000^(i+1):Nat):Int):=by rw[Int.natCast_pow];rfl
  rw[h3]at h2
  exact Int.ofNat_lt.1 h2
 rw[fv]at h1
 have h3:n/1000000000^i<1000000000:=Nat.div_lt_of_lt_mul h1
 rw[vw h3,JH]
def Qb(k:Nat)(q:Rat):Prop:=q.num.natAbs<2^k/\q.den<2^k
def JL(h:j<=k):2^j<=2^k:=nY (by decide) h
def Qb.mono{q:Rat}(h:Qb j q)(hk:j<=k):Qb k q:=⟨ic h.1 (JL hk),ic h.2 (JL hk)⟩
def MQ{a b:Int}(hb:b≠0)(h1:a.natAbs<2^k)(h2:b.natAbs<2^k):Qb k (Rat.divInt a b):=by
 constructor
 ·rw[Rat.num_divInt]
  refine mr ?_ h1
  rw[Int.natAbs_ediv_of_dvd]
  ·rw[sC]
   have:b.sign.natAbs=1:=by rw[Int.natAbs_sign,aq hb]
   rw[this,Nat.one_mul]
   exact sM _ _
  ·exact Int.dvd_trans (Int.gcd_dvd_right ..) (Int.dvd_mul_left ..)
 ·rw[Rat.den_divInt,aq hb]
  exact mr (sM _ _) h2
def Qb.mul{p q:Rat}(hp:Qb j p)(hq:Qb k q):Qb (j+k) (p*q):=by
 have sF:((p.den:Nat):Int)≠0:=by have:=p.den_nz;omega
 have vO:((q.den:Nat):Int)≠0:=by have:=q.den_nz;omega
 rw[<-zd p,<-zd q,Rat.divInt_mul_divInt]
 refine MQ (GB sF vO) ?_ ?_
 ·rw[sC,gL]
  exact Ap hp.1 hq.1
 ·rw[sC,gL,ed,ed]
  exact Ap hp.2 hq.2
def Qb.add{p q:Rat}(hp:Qb j p)(hq:Qb k q):Qb (j+k+1) (p+q):=by
 have sF:((p.den:Nat):Int)≠0:=by have:=p.den_nz;omega
 have vO:((q.den:Nat):Int)≠0:=by have:=q.den_nz;omega
 rw[<-zd p,<-zd q,Rat.divInt_add_divInt _ _ sF vO]
 have e:2^(j+k+1)=2^j*2^k+2^k*2^j:=by rw[fv,gL,fR (2^k)];omega
 refine MQ (GB sF vO) ?_ ?_
 ·refine mr (Int.natAbs_add_le ..) ?_
  rw[sC,sC,ed,ed,e]
  exact Nat.add_lt_add (Ap hp.1 hq.2) (Ap hq.1 hp.2)
 ·rw[sC,ed,ed,e]
  exact ic (Ap hp.2 hq.2) (Nat.le_add_right _ _)
def Qb.neg{q:Rat}(h:Qb k q):Qb k (-q):=by
 refine⟨?_,?_⟩
 ·rw[Rat.neg_num,zr];exact h.1
 ·rw[Rat.neg_den];exact h.2
def Qb.sub{p q:Rat}(hp:Qb j p)(hq:Qb k q):Qb (j+k+1) (p-q):=by
 rw[Rat.sub_eq_add_neg];exact hp.add hq.neg
def Qb.inv{q:Rat}(h:Qb k q)(h0:q≠0):Qb k q⁻¹:=by
 have hn:q.num≠0:=fun hc=>h0 (Rat.num_eq_zero.1 hc)
 rw[<-zd q,Rat.inv_divInt]
 exact MQ hn (by rw[ed];exact h.2) h.1
def Qb.int{z:Int}(h:z.natAbs<2^k)(hk:0<k):Qb k (z:Rat):=by
 refine⟨by simpa using h,?_⟩
 rw[Rat.den_intCast]
 exact ic (by decide) (JL (j:=1) hk)
def uO(h:n<2^k):(ds n).length<=k:=G5 (ic h (BK (by decide) k))
def Es(h:n<2^k):(cZ n).length<=k:=nO.1 (ic h (BK (by decide) k))
def C7(h:n<2^k):(aj n).length<=k+1:=by
 have:=Es h
 unfold aj
 split<;>simp<;>omega
def Ad{z:Int}(h:z.natAbs<2^k):(aK z).length<=k+2:=by
 have:=C7 h
 unfold aK
 split<;>simp<;>omega
def NT{q:Rat}(h:Qb k q):(av q).length<=2*k+4:=by
 have h1:=Ad h.1
 have h2:=C7 h.2
 unfold av
 split<;>simp<;>omega
def Ym6(k:Nat):10^k<=2^(4*k):=by
 rw[Nat.pow_mul];exact BK (by decide) k
def F0{s:aU}(h:aN s=0)(hn:s.length<=n):Qb (4*n+4) (bu s):=by
 obtain⟨e,_,_⟩:=q8 h
 have hb:=Z8 (bu s)
 have l1:(bj (av (bu s))).length<=n:=by
  rw[e];unfold bj;split
  ·simp;omega
  ·exact hn
 rw[hb]at l1
 have g:∀m:Nat,(aj m).length<=n+1->m<2^(4*n+4):=fun m hm=>by
  have:=(yZ (n:=m) (k:=n+1) (by omega)).1 hm
  exact ic this (by have:=Ym6 (n+1);rw[my]at this;exact this)
 split at l1
 ·rename_i h1
  have h2:(aj 1).length=1:=by rw[NR];rfl
  exact⟨g _ (by omega),by rw[h1];exact g 1 (by omega)⟩
 ·simp at l1
  exact⟨g _ (by omega),g _ (by omega)⟩
end Go.Mx
