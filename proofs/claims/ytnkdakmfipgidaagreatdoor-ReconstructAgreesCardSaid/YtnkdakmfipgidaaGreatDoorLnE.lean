/-What is orthogonal to a kernel-/
import Derived.Test.YtnkdakmfipgidaaGreatDoorLnC
set_option linter.all false
set_option maxHeartbeats 4000000
namespace Go.Mx
noncomputable section
open Go Go.Proofs
variable {m:List (List Rat)}
set_option maxRecDepth 1000000
def Zzf{m:List (List Rat)}{c:Nat}{v:Nat->Rat}(hc:aR m c)(hv:ew (gG m c) c v):∀j,j<c->v j=sN (fun a=>al (bb m c) a j*v ((aF m c).2.2[a]?.getD 0)) (aF m c).2.1:=fun j hj=>by
 have hl:=p9 (n:=c) hc
 obtain⟨y,hy⟩:∃y:Nat->Rat,∀a,y a=v ((aF m c).2.2[a]?.getD 0):=⟨_,fun _=>rfl⟩
 have CM:∀l,l∈(aF m c).2.2->v l-sN (fun a=>al (bb m c) a l*y a) (aF m c).2.1=0:=fun l h=>by
  obtain⟨i,hi,ei,_⟩:=KZ hc h
  rw[tU (i:=i) hi fun a ha aW=>by rw[<-ei,KY hc hi ha,ak aW,Rat.zero_mul],<-ei,KY hc hi hi,ar rfl,hy]
  grind
 rw[show (fun a=>al (bb m c) a j*v ((aF m c).2.2[a]?.getD 0))=fun a=>al (bb m c) a j*y a from funext fun a=>by rw[hy]]
 by_cases hm:j∈(aF m c).2.2
 ·have:=CM j hm
  grind
 ·obtain⟨i,hi⟩:=nw (show j∈jJ (aF m c).2.2 c by simp[jJ,hj,hm])
  have h1:=hv i (by simpa[gG]using gZ hi)
  have h2:sN (fun l=>gw m c j l*v l) c=0:=by
   rw[<-h1]
   exact bg fun l hl=>by rw[K4 hi hl]
  have hk:=FX hc hj hm
  rw[<-zY hc]at hk
  have h3:sN (fun l=>gw m c j l*sN (fun a=>al (bb m c) a l*y a) (aF m c).2.1) c=0:=by
   rw[YA (b:=fun _=>0) fun t ht=>hk t (by rw[hl];exact ht)]
   exact pj fun a _=>Rat.zero_mul _
  have h4:sN (fun l=>gw m c j l*(v l-sN (fun a=>al (bb m c) a l*y a) (aF m c).2.1)) c=0:=by
   rw[bg (g:=fun l=>gw m c j l*v l-gw m c j l*sN (fun a=>al (bb m c) a l*y a) (aF m c).2.1) fun l _=>by grind,K6,h2,h3]
   grind
  rw[tU (i:=j) hj]at h4
  ·unfold gw at h4
   rw[ar rfl,Rat.one_mul]at h4
   grind
  ·intro l _ aW
   by_cases Ac:l∈(aF m c).2.2
   ·rw[CM l Ac,Rat.mul_zero]
   ·unfold gw
    rw[ak aW,ak Ac,Rat.zero_mul]
def Yqd{c b:Nat}(hc:aR m c)(hb:b<m.length):ew (gG m c) c fun l=>al m b l:=by
 intro a ha;obtain⟨k,hk⟩:=bj (l:=jJ (aF m c).2.2 c) (k:=a) (by simpa[gG]using ha);have hm:=cF hk;simp only[jJ,List.mem_filter,gm]at hm;have hf:k∉(aF m c).2.2:=by simpa using hm.2
 rw[<-FX hc hm.1 hf b hb];exact bg fun l hl=>by rw[K4 hk hl,Rat.mul_comm]
def Ye3{c b j:Nat}(hc:aR m c)(hb:b<m.length)(hj:j<c):al m b j=sN (fun a=>al (bb m c) a j*al m b ((aF m c).2.2[a]?.getD 0)) (aF m c).2.1:=Zzf hc (Yqd hc hb) j hj
def Ylu{c:Nat}(hc:aR m c):(aF (gG m c) c).2.1=(gG m c).length:=by
 have SA:aR (gG m c) c:=F0;have hle:=(mE SA (n:=c)).le;have tW:=YJ hc;rw[AG]at hle;by_cases he:(aF (gG m c) c).2.1=(gG m c).length
 ·exact he
 exfalso;have I:=mE SA (n:=c);obtain⟨K,hK⟩:∃K,K=gG m c:=⟨_,rfl⟩;have Im:=fun v=>@Zzf m c v hc;rw[<-hK]at SA hle tW he I Im;have kg:=HZ (ps:=(aF K c).2.2) (n:=c) (fun i hi=>I.lt i (by rw[<-I.len];exact hi)) (fun i j h1 h2=>I.uy i j h1 (by rw[<-I.len];exact h2));rw[I.len]at kg;have La:(jJ (aF K c).2.2 c).Nodup:=List.nodup_range.filter _;have hkr:(gG K c).length=(jJ (aF K c).2.2 c).length:=by simp[gG]
 have wz:∀b f j,(jJ (aF K c).2.2 c)[b]?=some f->j<c->al (gG K c) b j=gw K c f j:=fun b f j h1 h2=>K4 h1 h2;have pq:∀b f,(jJ (aF K c).2.2 c)[b]?=some f->f<c/\f∉(aF K c).2.2:=fun b f h=>by have hm:=cF h;simp only[jJ,List.mem_filter,gm]at hm;exact⟨hm.1,by simpa using hm.2⟩
 obtain⟨F,hF⟩:∃F,F=jJ (aF K c).2.2 c:=⟨_,rfl⟩;rw[<-hF]at kg La hkr wz pq;have J:=mE hc (n:=c);obtain⟨r,hr⟩:∃r,r=(aF m c).2.1:=⟨_,rfl⟩;rw[<-hr]at tW Im J;obtain⟨A,hA⟩:∃A,A=(List.range r).map fun a=>F.map fun f=>gw K c f ((aF m c).2.2[a]?.getD 0):=⟨_,rfl⟩;have Yr:A.length=r:=by rw[hA];simp
 have hAc:aR A F.length:=fun x hx=>by rw[hA]at hx;obtain⟨a,_,rfl⟩:=bF.1 hx;simp
 have hAt:∀a b f,a<r->F[b]?=some f->al A a b=gw K c f ((aF m c).2.2[a]?.getD 0):=fun a b f ha hb=>by unfold al;rw[hA,eG,AK ha];simp only[qc,g_,eG,hb]
 have IA:=mE hAc (n:=F.length);have YK:=IA.le;rw[AG,Yr]at YK;have dT:=HZ (ps:=(aF A F.length).2.2) (n:=F.length) (fun i hi=>IA.lt i (by rw[<-IA.len];exact hi)) (fun i j h1 h2=>IA.uy i j h1 (by rw[<-IA.len];exact h2));rw[IA.len]at dT;obtain⟨k,hk⟩:=bj (l:=jJ (aF A F.length).2.2 F.length) (k:=0) (by omega);have hm:=cF hk;simp only[jJ,List.mem_filter,gm]at hm;have Yl:k∉(aF A F.length).2.2:=by simpa using hm.2
 have hw:=FX hAc hm.1 Yl;have hwk:gw A F.length k k=1:=by simp[gw]
 obtain⟨w,YL⟩:∃w,w=gw A F.length k:=⟨_,rfl⟩;rw[<-YL]at hw hwk;have hv:ew K c fun j=>sN (fun b=>al (gG K c) b j*w b) F.length:=by intro i hi;show sN (fun j=>al K i j*sN (fun b=>al (gG K c) b j*w b) F.length) c=0;rw[YA (b:=fun _=>0) fun t ht=>by obtain⟨f,hf⟩:=bj (l:=F) (k:=t) ht;have h1:=FX SA (pq t f hf).1 (pq t f hf).2 i hi;rw[<-h1];exact bg fun l hl=>by rw[wz t f l hf hl,Rat.mul_comm]];exact pj fun a _=>Rat.zero_mul _
 obtain⟨fk,DS⟩:=bj (l:=F) (k:=k) hm.1;have h0:=Im _ hv fk (pq k fk DS).1;rw[pj (n:=r)]at h0
 ·rw[tU (i:=k) hm.1]at h0
  ·rw[wz k fk fk DS (pq k fk DS).1,hwk]at h0;unfold gw at h0;rw[ar rfl,Rat.one_mul]at h0;exact absurd h0 (by decide)
  intro b hb aW;obtain⟨f,hf⟩:=bj (l:=F) (k:=b) hb;rw[wz b f fk hf (pq k fk DS).1];unfold gw;rw[ak,ak (pq k fk DS).2,Rat.zero_mul];intro h;subst h;exact aW ((List.getElem?_inj hb La).1 (hf.trans DS.symm))
 intro a ha;have h1:=hw a (by rw[Yr];exact ha);have h2:sN (fun b=>al (gG K c) b ((aF m c).2.2[a]?.getD 0)*w b) F.length=0:=by rw[<-h1];exact bg fun b hb=>by obtain⟨f,hf⟩:=bj (l:=F) (k:=b) hb;rw[wz b f _ hf (J.lt a ha),hAt a b f ha hf]
 rw[h2,Rat.mul_zero]
def Ylt{c:Nat}(hc:aR m c):(yn m c).length+(bb m c).length=c:=by have h1:=YJ hc;unfold yn;rw[p9 F0,Ylu hc,p9 hc];exact h1
def Zzt{c R:Nat}(h:Ab m c R)(hc:aR m c)(hR:1<=R):Ab (gG m c) c (((aF m c).2.1+1)*(R+(aF m c).2.1+1)):=by
 obtain⟨Bs,s,hC⟩:=Nx h hc (n:=c) (aO _);have I:=mE hc (n:=c);obtain⟨h1,h2⟩:=hC.done I (aO _) hR;have h0:=hC.ne;obtain⟨d,hd⟩:∃d,d=(aF m c).2.1:=⟨_,rfl⟩;intro i hi;obtain⟨k,hk⟩:=bj (l:=jJ (aF m c).2.2 c) (k:=i) (by simpa[gG]using hi);have hB:(aF m c).2.1*(R+(aF m c).2.1+1)+1<=((aF m c).2.1+1)*(R+(aF m c).2.1+1):=by rw[ji];omega
 refine⟨_,h0,h1.mono hB,fun l hl=>?_⟩;rw[K4 hk hl];unfold gw;split
 ·rw[Rat.mul_one];exact h1.mono hB
 split
 ·rename_i hm;obtain⟨a,ha,_,ex⟩:=KZ hc hm;have SB:=cF hk;simp only[jJ,List.mem_filter,gm]at SB;rw[ex,KX ha,Rat.mul_neg];exact(h2 a k ha SB.1).neg
 rw[Rat.mul_zero];exact cJ.zero
def Ygz{c R:Nat}(h:Ab m c R)(hc:aR m c)(hR:1<=R):∃d e,d+e=c/\d=(bb m c).length/\e=(yn m c).length/\bz (bb m c) (qZ R d)/\bz (yn m c) (qZ ((d+1)*(R+d+1)) e):=by
 refine⟨(bb m c).length,(yn m c).length,by have:=Ylt hc;omega,rfl,rfl,fun r hr=>?_,fun r hr=>?_⟩
 ·rw[p9 hc];exact Ny h hc hR c r (wB hr)
 unfold yn at hr ⊢;rw[p9 F0,p9 hc];exact Ny (Zzt h hc hR) F0 (z_ (Nat.succ_pos _) (by omega)) c r (wB hr)
open Go
def SC(r:T V)(n:Nat)(ps:List Nat)(a b:bW)(d:Nat):Nz:={st:=.ready,fu:=none,r:=r,n:=n,ps:=ps,assign:=a,body:=b,defs:=d}
def NA:Option Ex->Ex
 |none=>.normal
 |some e=>e
def Ybf{C:Cx}{K:List Kf}{Q:Rs->Prop}{g:Src}{ps:List Nat}{a b:bW}{r:T V}{n N:Nat}{h:T O}{w:List Nat}{gv:V}{P:V->St->Prop}(hg:g.ev r=some gv)(hy:gv.Io=false)(hc:Call C gv [.yield (N+1)] ⟨(h.set N (.defs true)).set (N+1) (.loop (SC r n ps a b N)),N+1+1,w⟩ P)(k:∀v aA,P v aA->∃R,aA.h.get (N+1)=some (.loop R)/\R.st≠.busy/\bD C K (some (.ex (NA R.fu) ⟨r,n,[N]⟩ (aA.write (N+1) (.loop {R with st:=.exhausted})))) Q):bD C K (ff (C.code none (.jK g ps a b) ⟨r,n,[]⟩ ⟨h,N,w⟩)) Q:=by
 obtain⟨v,aA,e,p⟩:=hc.ex;obtain⟨R,h1,h2,h3⟩:=k v aA p;have e2:C.code none (.jK g ps a b) ⟨r,n,[]⟩ ⟨h,N,w⟩=some (NA R.fu,⟨r,n,[N]⟩,aA.write (N+1) (.loop {R with st:=.exhausted})):=by rw[Cx.dw];show AP g ps a b C.call C.code none ⟨r,n,[]⟩ ⟨h,N,w⟩=_;unfold AP;simp only[hg,hy,SD,St.alloc];unfold SC at e;simp only[iy,if_false,e,h1,h2];unfold NA;rfl
 rw[e2];exact h3
def Ymb{C:Cx}{K:List Kf}{Q:Rs->Prop}{rs:List F5}{st:St}{e:Ex}{r:T V}{n d:Nat}{h1:T O}{n1:Nat}{w1:List Nat}(hd:h1.get d=some (.defs true))(he:∀i,e≠.exit i):bD C (.fin rs st::K) (some (.ex e ⟨r,n,[d]⟩ ⟨h1,n1,w1⟩)) Q↔bD C K (SE (h1.set d (.defs false)) n1 (ay st.n (d::w1)++st.w) (gg r ⟨h1.set d (.defs false),n1,d::w1⟩ rs)) Q:=jC (by
 have:shut ⟨h1,n1,w1⟩ [d]=some ⟨h1.set d (.defs false),n1,d::w1⟩:=by
  unfold shut
  simp only[hd]
  rfl
 cases e with
 |exit i=>exact absurd rfl (he i)
 |normal=>
  simp only[jl,mY,rW,this]
  rcases gg r _ rs with _|_<;>rfl
 |ret=>
  simp only[jl,mY,rW,this]
  rcases gg r _ rs with _|_<;>rfl)
def Ydh{C:Cx}{l:Nat}{args:List V}{st:St}{R:Nz}{r0:T V}{P:V->St->Prop}(hx:C.x (.yield l) args st=none)(hl:st.h.get l=some (.loop R))(hs:R.st=.ready)(hp:DT R.r R.n R.ps args=some r0)(hc:Code C (some l) R.assign ⟨r0,R.n,[]⟩ st (fun e fr bX=>e=.normal/\bX.h.get l=some (.loop R)/\Code C (some l) R.body fr (bX.write l (.loop {R with st:=.busy})) (fun e2 _ fb=>∃R2,fb.h.get l=some (.loop R2)/\P (.bool (rX e2).isNone) (fb.write l (.loop {R2 with st:=Lb (rX e2),fu:=rX e2}))))):Call C (.yield l) args st P:=by obtain⟨e,fr,bX,e1,rfl,g1,hb⟩:=hc.ex;obtain⟨e2,AQ,fb,e3,R2,g2,p⟩:=hb.ex;refine⟨_,_,?_,p⟩;rw[Cx.nX];unfold t_;rw[hx];show DV C.code l args st=_;unfold DV;simp only[hl,hp,e1,g1,hs,if_true,e3,g2]
def gF.wC{h h':T O}{N N' B:Nat}{u v:V}{m:List (List Rat)}{e:TypeId}(s:gF h N u m)(k:er (fun i=>i=B) h N h' N')(g:h.get B=some (.cells [.aa] e true))(he:e≠123)(h0:0<m.length)(hm:∀r∈m,0<r.length):gF h' N' u m:=by
 obtain⟨us,h1,h2,h3⟩:=s;have hd:nQ e NW h (.slice B 0 1 none 1):=fun i hi=>by simp[dk]at hi;subst hi;exact⟨_,g,by simp,fun y hy=>by simp at hy;subst hy;exact fun m=>by simp⟩
 have k':er (fun i=>i∈dk (.slice B 0 1 none 1)) h N h' N':=k.mono fun i _ hi=>by simp[dk];exact hi
 refine⟨us,h1.bY k fun i hi hc=>?_,h2,fun j l hl=>?_⟩
 ·subst hc;obtain⟨l,hl⟩:=bj h0;obtain⟨x,g1,g2⟩:=h3 0 l hl;have cH:=hm l (cF hl);obtain⟨j,o,c,e',rQ,q1,q2,q3,q4⟩:=h1.at g1;have hj:j=i:=by cases u<;>simp[yo,dk]at q1 hi;all_goals omega
  subst hj;rw[g]at q3;simp only[aq,O.cells.injEq]at q3;obtain⟨rfl,_⟩:=q3;have:x=.aa:=by have:=cF q4;simpa using this
  subst this;have hlen:=g2.1.len;simp[qg]at hlen;omega
 obtain⟨x,g1,g2⟩:=h3 j l hl;exact⟨x,g1,g2.bY k' hd he⟩
def A.b120:=A.q Tryz.f120
def A.k120:=@A.kk 120 4 [.tmp 2] A.b120 (by kernel_rfl) rfl
def zX.lens{m:List (List aD)}{n:Nat}(h:zX m n):(bC m).length<1000/\0<(bC m).length/\n<1000/\(∀k,k<(bC m).length->k<n->3*kB 96 k<=400000000)/\(∀l∈bC m,l.length<1000000000/\∀q∈l,Qb 100 q):=by have h1:=h.pos;have h2:=h.le;have h3:=h.n6;rw[vu];refine⟨by omega,h1,by omega,fun k h4 h5=>Yyz (by omega),fun l hl=>?_⟩;obtain⟨a,b⟩:=h.rat l hl;exact⟨by omega,b⟩
def Ym2{h:T O}{N:Nat}{u:V}(h1:V.one u=true)(h2:V.cells u=[u]):Fn A.C 120 [u] h N (fun x h' n'=>∃e,x=.func 182 [] [.ptr N 0]/\N<n'/\h'.get N=some (.cells [u] e true)):=by intro w;have kB:∀e,ab h N (h.set N (.cells [u] e true)) (N+1):=fun e=>ab.refl.new _;rw[aN,A.k120 (by simp)];simp[-V.cells, -V.one,A.b120,h1,h2,ax];exact kB _
def DU(N B i:Nat):Prop:=i=N+1\/i=B\/N+2<=i
structure Pk where
 act:Int
 am:aD
 sl:List aD
def NB(p:Pk)(u:V):List V:=[.int .i64 p.act,.str p.am,u]
def NC(h:T O)(N:Nat)(v:V)(l:List Pk):Prop:=∃cs:List (List V),Sn 3 h N v cs/\cs.length=l.length/\∀(j:Nat) (p:Pk),l[j]?=some p->∃u,cs[j]?=some (NB p u)/\Sl h N u (strs p.sl)
def NC.ad{h h':T O}{N N':Nat}{v:V}{l:List Pk}(s:NC h N v l)(k:ab h N h' N'):NC h' N' v l:=by obtain⟨cs,h1,h2,h3⟩:=s;refine⟨cs,h1.ad k,h2,fun j p hp=>?_⟩;obtain⟨u,g1,g2⟩:=h3 j p hp;exact⟨u,g1,g2.ad k⟩
def YM{x c:List V}{k n j:Nat}(h:aL x k n=some c)(hj:j<n):x[k+j]?=c[j]?:=by obtain⟨h1,rfl⟩:=Np h;rw[jL,ar hj,fF]
def NC.at{h:T O}{N:Nat}{v:V}{l:List Pk}(s:NC h N v l){j:Nat}{p:Pk}(hj:l[j]?=some p):∃i o x e rw u,yo v=some (i,o)/\i<N/\h.get i=some (.cells x e rw)/\aL x (o+j*3) 3=some (NB p u)/\x[o+j*3]?=some (.int .i64 p.act)/\x[o+j*3+1]?=some (.str p.am)/\x[o+j*3+2]?=some u/\Sl h N u (strs p.sl):=by obtain⟨cs,h1,h2,h3⟩:=s;obtain⟨u,g1,g2⟩:=h3 j p hj;obtain⟨i,o,x,e,rw,q1,q2,q3,q4⟩:=h1.at g1;exact⟨i,o,x,e,rw,u,q1,q2,q3,q4,by have:=YM q4 (j:=0) (by decide);simpa[NB]using this,by have:=YM q4 (j:=1) (by decide);simpa[NB]using this,by have:=YM q4 (j:=2) (by decide);simpa[NB]using this,g2⟩
section
variable {h:T O} {N P B:Nat} {p:Pk} {u:V} {e eB:TypeId} {rw rwB:Bool} {z:Int}
end
variable {N i:Nat} {h:T O} {o o0:O} {v:V}
def Ip(o:O):Prop:=∀c e w,o≠.cells c e w
def Sl.qF{l:List V}(s:Sl h N v l)(g:h.get i=some o0)(ho:Ip o0):Sl (h.set i o) N v l:=s.bY (D:=fun j=>j=i) ⟨aO _,fun j _ hj=>by rw[T.ae,ak hj]⟩ fun j hj hc=>by
 subst hc
 rcases s with⟨_,rfl|rfl⟩|⟨j',o',cp,c,e,rw,rfl,_,h3,_⟩
 ·simp[dk]at hj
 ·simp[dk]at hj
 ·simp[dk]at hj
  subst hj
  rw[g]at h3
  exact absurd (mC h3) (ho _ _ _)
def ec.qF{l:List Rat}(s:ec h N v l)(g:h.get i=some o0)(ho:Ip o0):ec (h.set i o) N v l:=by
 obtain⟨⟨cs,h1,h2,h3⟩,h4⟩:=s;have aW:∀j∈dk v,¬j=i:=fun j hj hc=>by obtain⟨z,w,hz⟩:=h4 j hj;rw[hc,g]at hz;exact absurd (mC hz) (ho _ _ _)
 have hI:∀{x:V} {z:Int},In h N x z->In (h.set i o) N x z:=fun s=>by
  rcases s with s|⟨i,o,l,c,s1,s2,s3⟩
  ·exact .inl s
  exact .inr ⟨i,o,l,c,s1,Sl.qF s2 g ho,s3⟩
 refine⟨⟨cs,h1.bY (D:=fun j=>j=i) ⟨aO _,fun j _ hj=>by rw[T.ae,ak hj]⟩ aW,h2,fun j q hq=>?_⟩,fun j hj=>by rw[T.ae,ak (aW j hj)];exact h4 j hj⟩;obtain⟨c,a,n1,u1,n2,u2,e,s1,s2⟩:=h3 j q hq;exact⟨c,a,n1,u1,n2,u2,e,hI s1,hI s2⟩
def iw.qF{N0:Nat}{m:List (List Rat)}(s:iw N0 h N v m)(g:h.get i=some o0)(ho:Ip o0):iw N0 (h.set i o) N v m:=by
 obtain⟨us,⟨hl,h1⟩,h2,h3,h4⟩:=s;refine⟨us,⟨hl,?_⟩,h2,h3,fun j l hl=>?_⟩
 ·rcases h1 with h1|⟨j,a,b,c,d⟩
  ·exact .inl h1
  refine .inr ⟨j,a,b,c,?_⟩;rw[T.ae,ak]
  ·exact d
  rintro rfl;rw[g]at d;exact absurd (mC d) (ho _ _ _)
 obtain⟨u,g1,g2⟩:=h4 j l hl;exact⟨u,g1,g2.qF g ho⟩
variable {N k:Nat} {h:T O} {m:List (List Rat)} {v:V} {w:List Rat}
def A.rY:bW:=.fY [mv 7 11]
def A.rZ:bW:=.block 1 (.fN [ld 12 5,mv 13 7,ld 14 3,ge 15 (.call (fq 92) [tq 13,tq 14,(fq 105)]),ge 16 (.fO 81 1 1 [.aa] [(0,1,(tq 15))]),ge 17 (.append 1 24 81 [.aa] (tq 12) (tq 16)),so 5 17] [0,0,0,6,14,31,63])
def A.b97:bW:=sr [bx 3 81 1,mN 4] (sr [ge 5 (.alloc [.aa] 74)] (.seq (sr [mv 8 0,c1 9 120 8] (.block 0 (.jK (tq 9) [10,11] A.rY A.rZ))) (sr [ld 18 5,mv 4 18] (.ret))))
def A.k97:=@A.kk 97 19 [.tmp 4] A.b97 (by kernel_rfl) rfl
def ec.wC{h':T O}{N' B:Nat}{u:V}{l:List Rat}{e:TypeId}(s:ec h N u l)(k:er (fun i=>i=B) h N h' N')(g:h.get B=some (.cells [.aa] e true))(he:e≠123):ec h' N' u l:=
 s.bY (v:=.slice B 0 1 none 1) (k.mono fun i _ hi=>by simp[dk];exact hi) (fun i hi=>by
  simp[dk]at hi
  subst hi
  exact⟨_,g,by simp,fun y hy=>by simp at hy;subst hy;exact fun m=>by simp⟩) he
def iw.form{N0:Nat}(s:iw N0 h N v m):V.one v=true/\V.cells v=[v]/\∀n,v≠.int .u64 n:=by
 obtain⟨us,h1,_⟩:=s;obtain⟨_,⟨_,rfl⟩|⟨i,rfl,_⟩⟩:=h1
 ·exact⟨rfl,rfl,fun n=>by simp⟩
 exact⟨rfl,rfl,fun n=>by simp⟩
def iw.YN{N0:Nat}{B:Nat}{y z:V}(s:iw N0 h N v m)(hB:B<N0)(g:h.get B=some (.cells [y] 74 true))(hy:∀n,y≠.int .u64 n):iw N0 (h.set B (.cells [z] 74 true)) N v m:=by
 obtain⟨us,h1,h2,h3,h4⟩:=s;refine⟨us,?_,h2,h3,fun j l hl=>?_⟩
 ·obtain⟨a,b⟩:=h1;refine⟨a,?_⟩;rcases b with b|⟨i,b1,b2,b3,b4⟩
  ·exact .inl b
  exact .inr ⟨i,b1,b2,b3,by rw[T.ae,ak (by omega)];exact b4⟩
 obtain⟨u,a,b⟩:=h4 j l hl;exact⟨u,a,b.bm g (by decide) (fun x hx m hc=>by simp at hx;exact hy m (hx▸hc)) rfl⟩
def Ad(m:List (List Rat))(w:List Rat)(k:Nat):List (List Rat):=(List.range k).map fun j=>Lc (p_ m j) w (p_ m j).length
def Yjf{m:List (List Rat)}{w:List Rat}{k:Nat}:Ad m w (k+1)=Ad m w k++[Lc (p_ m k) w (p_ m k).length]:=by unfold Ad;rw[List.range_succ,List.map_append];rfl
def Ypg:(Ad m w k).length=k:=by simp[Ad]
def Yui(h:w.length=m.length):Ad m w k=(cn m k).map fun r=>yk r w:=by unfold Ad cn;rw[List.map_map];apply AE;intro j _;simp only[Function.comp];unfold yk Lc;rw[show (p_ m j).length=w.length by simp[p_,h]]
def wR(r:T V)(d:Nat):Nz:=SC r 19 [10,11] A.rY A.rZ d
def Ypd{H:T O}{n B P d j0 k0:Nat}{r:T V}{x wv:V}{r_:List Rat}{W:List Nat}{e:TypeId}{rw:Bool}(hL:H.get (N+1)=some (.loop (wR r d)))(hB:H.get B=some (.cells [v] 74 true))(hP:H.get P=some (.cells [wv] e rw))(hO:iw (N+2) H n v (Ad m r_ k))(hn:N+2<=n)(YO:B<N)(YP:P<N)(hx:ec H n x (p_ m k))(hw:ec H n wv r_)(hk:k<1000)(kl:(p_ m k).length=r_.length)(hl:r_.length<1000)(qa:∀q∈p_ m k,Qb j0 q)(qb:∀q∈r_,Qb k0 q)(hj:j0<=400000000)(nY:k0<=400000000)(h5:r.get 5=some (.ptr B 0))(h3:r.get 3=some (.ptr P 0))(hW:ay B W=[]):Call A.C (.yield (N+1)) [.int .i64 k,x] ⟨H,n,W⟩ (fun y st=>y=.bool true/\ay B st.w=[]/\er (DU N B) H n st.h st.n/\st.h.get (N+1)=some (.loop (wR r d))/\∃v',st.h.get B=some (.cells [v'] 74 true)/\iw (N+2) st.h st.n v' (Ad m r_ (k+1))):=by
 refine Ydh (R:=wR r d) (r0:=(r.set 10 (.int .i64 k)).set 11 x) rfl hL rfl (by simp[wR,SC,DT]) ?_;rw[bu];show bD A.C [] (ff (A.C.code (some (N+1)) A.rY ⟨_,19,[]⟩ ⟨H,n,W⟩)) _;simp[A.rY];refine⟨hL,?_⟩;rw[bu];show bD A.C [] (ff (A.C.code (some (N+1)) A.rZ ⟨_,19,[]⟩ _)) _;have nc:Ip (.loop (wR r d)):=fun c e w h=>by cases h
 have wD:=hx.qF (o:=.loop {wR r d with st:=.busy}) hL nc;have Ld:=hw.qF (o:=.loop {wR r d with st:=.busy}) hL nc;have hBu:(H.set (N+1) (.loop {wR r d with st:=.busy})).get B=some (.cells [v] 74 true):=by rw[T.ae,ak (by omega)];exact hB
 have hPu:(H.set (N+1) (.loop {wR r d with st:=.busy})).get P=some (.cells [wv] e rw):=by rw[T.ae,ak (by omega)];exact hP
 have hLu:(H.set (N+1) (.loop {wR r d with st:=.busy})).get (N+1)=some (.loop {wR r d with st:=.busy}):=by rw[T.ae,ar rfl]
 have U1:er (DU N B) H n (H.set (N+1) (.loop {wR r d with st:=.busy})) n:=⟨aO _,fun i _ hi=>by rw[T.ae,ak fun hc=>hi (.inl hc)]⟩;have oU:=hO.qF (o:=.loop {wR r d with st:=.busy}) hL nc;generalize H.set (N+1) (.loop {wR r d with st:=.busy})=G at*;have lB:B<n:=by omega
 have lP:P<n:=by omega
 have hLB:¬N+1<B:=by omega
 simp[A.rZ,h5,h3,hBu,hPu,lB,lP];refine av (Ylv wD.1 Ld.1 (by omega) qa qb hj nY (by omega)) ?_;rintro y H2 n2 k2 hy;have me:=k2.le;have ND:=(k2.get B (by omega)).trans hBu;have gL2:=(k2.get (N+1) (by omega)).trans hLu;have o2:=oU.ad k2;have lB2:B<n2:=by omega
 obtain⟨f1,f2,f3⟩:=hy.1.form;have AI:ag [V.aa] 0 [y]=[y]:=rfl;simp[-V.cells, -V.one,f1,f2,AI];have kD:ab H2 n2 (H2.set n2 (.cells [y] 81 true)) (n2+1):=ab.refl.new _;obtain⟨v',h',w',j1,j2,j3,j4⟩:=iw.push (N0:=N+2) (x:=.slice n2 0 1 (some 1) 1) (w:=[]) (o2.ad kD) (hy.ad kD) (by omega) (by simp[gb,St.row,aL]) (by rw[Ypg];omega);have AR:=(j3.get B (by omega)).trans ((kD.get B lB2).trans ND);have NF:=(j3.get (N+1) (by omega)).trans ((kD.get (N+1) (by omega)).trans gL2);have lB3:B<n2+1+1:=by omega
 have ov:=j4.form;have ovv:=hO.form;have U3:er (DU N B) H n h' (n2+1+1):=((U1.trans k2.upd).trans kD.upd).trans ⟨by omega,fun i hi hd=>j3.get i (by unfold DU at hd;omega)⟩;have g4:(h'.set B (.cells [v'] 74 true)).get (N+1)=some (.loop {wR r d with st:=.busy}):=by rw[T.ae,ak (by omega)];exact NF
 have o4:=j4.YN (z:=v') (by omega) AR ovv.2.2;have nc2:Ip (.loop {wR r d with st:=.busy}):=fun c e w h=>by cases h
 have uB:=@Yjf m r_ k;simp[-V.cells, -V.one,j1,h5,AR,lB3,bO,ov.1,ov.2.1,ag];refine⟨{wR r d with st:=.busy},by rw[ak (by omega)];exact NF,rfl,?_,(U3.set (.inl (.inr (.inl rfl)))).set (.inl (.inl rfl)),rfl,v',by rw[ak (by omega)],?_⟩
 ·rw[ak hLB];refine Ng fun i hi=>?_;rcases jB.1 hi with hi|hi
  ·have:=FW (j2.trans rfl) i (Ig hi).1;omega
  rcases iW.1 hi with rfl|hi
  ·omega
  exact FW hW i hi
 rw[uB];exact o4.qF g4 nc2
def A.NG:=A.q Tryz.f182
def A.se:=A.ql A.NG 0 []
def A.b182:=(fun x0=>A.qb A.NG [x0]) A.se
def A.k182:=@A.kk 182 19 [] A.b182 (by kernel_rfl) rfl
def Ys1{h:T O}{N B P Cb c j0 k0:Nat}{r:T V}{u wv:V}{m:List (List Rat)}{r_:List Rat}{e e2:TypeId}{w:List Nat}{SF:Bool}(hu:gF h N u m)(YQ:h.get B=some (.cells [.aa] 74 true))(YO:B<N)(hP:h.get P=some (.cells [wv] e2 SF))(YP:P<N)(hPB:¬P=B)(hC:h.get Cb=some (.cells [u] e true))(hCN:Cb<N)(hCB:¬Cb=B)(jD:0<m.length)(kl:m.length<1000)(hc:aR m c)(im:0<c)(cX:c<1000)(hw:ec h N wv r_)(mI:r_.length=m.length)(qa:bz m j0)(qb:∀q∈r_,Qb k0 q)(tP:1<=j0)(hj:j0<=400000000)(nY:k0<=400000000)(h5:r.get 5=some (.ptr B 0))(h3:r.get 3=some (.ptr P 0))(YL:ay B w=[]):
  Call A.C (.func 182 [] [.ptr Cb 0]) [.yield (N+1)] ⟨(h.set N (.defs true)).set (N+1) (.loop (wR r N)),N+1+1,w⟩ (fun _ st=>ay B st.w=[]/\N+2<=st.n/\(∀i,i<N->¬i=B->st.h.get i=h.get i)/\st.h.get N=some (.defs true)/\∃R v,st.h.get (N+1)=some (.loop R)/\R.st=.ready/\R.fu=none/\st.h.get B=some (.cells [v] 74 true)/\iw (N+2) st.h st.n v (Ad m r_ c)):=by
 have gD:((h.set N (.defs true)).set (N+1) (.loop (wR r N))).get N=some (.defs true):=by rw[T.ae,ak (by omega),T.ae,ar rfl]
 have gL:((h.set N (.defs true)).set (N+1) (.loop (wR r N))).get (N+1)=some (.loop (wR r N)):=by rw[T.ae,ar rfl]
 have kG:ab h N ((h.set N (.defs true)).set (N+1) (.loop (wR r N))) (N+2):=(ab.refl.new _).new _;generalize (h.set N (.defs true)).set (N+1) (.loop (wR r N))=G at*;have gC:=(kG.get Cb hCN).trans hC;have gB:=(kG.get B YO).trans YQ;have zp:=hu.ad kG;obtain⟨us,a1,a2,a3⟩:=zp;obtain⟨l0,cH⟩:=bj jD;obtain⟨x0,b1,b2⟩:=a3 0 l0 cH;obtain⟨i2,o2,SG,e3,rw3,p1,p2,p3,p4⟩:=a1.at b1;rw[gE]at p4;have b3:=b2.1.len;rw[hc l0 (cF cH)]at b3;have lu:=a1.len;rw[a2]at lu;have zbn:(0:Int)<(m.length:Int):=by omega
 have lC:Cb<N+1+1:=by omega
 have lp2:i2<N+1+1:=by omega
 rw[aN,A.k182 (by simp)];simp[A.b182,gC,lu,jD,p1,p3,p4,b3];refine cm [(3,3),(8,18)] (fun e r' st=>e=.exit 0/\ay B st.w=[]/\er (DU N B) G (N+2) st.h st.n/\st.h.get (N+1)=some (.loop (wR r N))/\∃v,st.h.get B=some (.cells [v] 74 true)/\iw (N+2) st.h st.n v (Ad m r_ c)) (fun i r' st=>ay B st.w=[]/\er (DU N B) G (N+2) st.h st.n/\st.h.get (N+1)=some (.loop (wR r N))/\∃k v,k<=c/\i=c-k/\r'.get 8=some (.int .i64 k)/\st.h.get B=some (.cells [v] 74 true)/\iw (N+2) st.h st.n v (Ad m r_ k)) c ?_ ?_ ?_
 ·exact⟨by simp,er.refl,gL,0,_,by omega,by omega,by simp,gB,iw.nil⟩
 ·rintro i r' ⟨H1,n1,W⟩ hr hf ⟨hW,U1,Lf,k,v,hk,rfl,h8,F6,hO⟩;simp only at hW U1 Lf F6 hO;rw[bu];by_cases aC:k<c
  ·have cg:(k:Int)<(c:Int):=by omega
   have yl:=U1.le;have YR:=(U1.get Cb (by omega) (by unfold DU;omega)).trans gC;have gP1:=(U1.get P (by omega) (by unfold DU;omega)).trans ((kG.get P YP).trans hP);have lC1:Cb<n1:=by omega
   have UB:er (fun i=>i=B) h N H1 n1:=⟨by omega,fun i hi hd=>(U1.get i (by omega) (by unfold DU;omega)).trans (kG.get i hi)⟩;have fZ:=hu.wC (v:=u) UB YQ (by decide) jD fun l hl=>by rw[hc l hl];exact im
   have NH:=hw.wC UB YQ (by decide);simp[A.se,hr,h8,cg,YR];refine av (Yad fZ (by omega) hc aC) ?_;rintro x H2 n2 k2 hx;have me:=k2.le;have lcl:(p_ m k).length=m.length:=by simp[p_]
   simp;refine AS (Ypd ((k2.get (N+1) (by omega)).trans Lf) ((k2.get B (by omega)).trans F6) ((k2.get P (by omega)).trans gP1) (hO.ad k2) (by omega) YO YP hx (NH.ad k2) (by omega) (by rw[lcl,mI]) (by omega) (fun q hq=>(CH qa tP _ (by unfold cn;exact List.mem_map_of_mem (gm.2 aC))).2 q hq) qb hj nY h5 h3 hW) ?_;rintro _ ⟨H3,n3,W3⟩ ⟨rfl,CN,U3,NF,v',AR,F7⟩;simp only at CN U3 NF AR F7;simp(disch:=first|(simp;done)|omega|rfl) [hf,h8,CN,NF,AR];exact⟨c-(k+1),by omega,(U1.trans k2.upd).trans U3,k+1,by omega,rfl,by simp,F7⟩
  obtain rfl:k=c:=by omega
  simp[A.se,hr,hf,h8,hW,U1,Lf,F6];exact hO
 rintro _ r' ⟨H1,n1,W⟩ hr ⟨rfl,hW,U1,Lf,v,F6,hO⟩;simp only at hW U1 Lf F6 hO;simp;refine⟨Ng fun i hi=>?_,U1.le,fun i hi hd=>(U1.get i (by omega) (by unfold DU;omega)).trans (kG.get i hi),(U1.get N (by omega) (by unfold DU;omega)).trans gD,wR r N,Lf,rfl,rfl,v,F6,hO⟩;rcases jB.1 hi with hi|hi
 ·exact FW hW i (Ig hi).1
 exact FW YL i hi
def Zvz{h:T O}{N c j0 k0:Nat}{u v:V}{m:List (List Rat)}{r_:List Rat}(hu:gF h N u m)(hv:ec h N v r_)(jD:0<m.length)(kl:m.length<1000)(hc:aR m c)(im:0<c)(cX:c<1000)(mI:r_.length=m.length)(qa:bz m j0)(qb:∀q∈r_,Qb k0 q)(tP:1<=j0)(hj:j0<=400000000)(nY:k0<=400000000):Fn A.C 97 [u,v] h N (fun x h' n'=>gF h' n' x ((cn m c).map fun r=>yk r r_)):=by
 intro w;obtain⟨f1,f2,f3⟩:=hv.1.form;rw[aN,A.k97 (by simp)];simp[-V.cells, -V.one,A.b97,f1,f2];have kP:ab h N (h.set N (.cells [v] 81 true)) (N+1):=ab.refl.new _;have gP:(h.set N (.cells [v] 81 true)).get N=some (.cells [v] 81 true):=by rw[T.ae,ar rfl]
 have kB:ab (h.set N (.cells [v] 81 true)) (N+1) ((h.set N (.cells [v] 81 true)).set (N+1) (.cells [.aa] 74 true)) (N+1+1):=ab.refl.new _;have gB:((h.set N (.cells [v] 81 true)).set (N+1) (.cells [.aa] 74 true)).get (N+1)=some (.cells [.aa] 74 true):=by rw[T.ae,ar rfl]
 have SH:=(kB.get N (by omega)).trans gP;have kk:=kP.trans kB;generalize (h.set N (.cells [v] 81 true)).set (N+1) (.cells [.aa] 74 true)=G at*;have ov:V.one u=true/\V.cells u=[u]:=by obtain⟨us,s,_⟩:=hu;exact⟨Sl.Nh s,Sl.AF s⟩
 refine av (Ym2 ov.1 ov.2) ?_;rintro _ H3 n3 k3 ⟨e,rfl,c1,c2⟩;have wc:=k3.le;have AR:=(k3.get (N+1) (by omega)).trans gB;have gP3:=(k3.get N (by omega)).trans SH;simp[];refine Ybf (gv:=.func 182 [] [.ptr (N+1+1) 0]) (by simp) rfl (Ys1 (B:=N+1) (P:=N) (c:=c) ((hu.ad kk).ad k3) AR (by omega) gP3 (by omega) (by omega) c2 c1 (by omega) jD kl hc im cX ((hv.ad kk).ad k3) mI qa qb tP hj nY (by simp) (by simp) (by simp)) ?_;rintro _ ⟨H4,n4,W4⟩ ⟨CO,CP,U4,SI,R,v',YT,r1,r2,SJ,hO4⟩;simp only at CO CP U4 SI YT SJ hO4;refine⟨R,YT,by rw[r1];simp,?_⟩;have nc:Ip (.loop R):=fun c e w h=>by cases h
 have o5:=hO4.qF (o:=.loop {R with st:=.exhausted}) YT nc;have gD5:(H4.set (n3+1) (.loop {R with st:=.exhausted})).get n3=some (.defs true):=by rw[T.ae,ak (by omega)];exact SI
 have YU:(H4.set (n3+1) (.loop {R with st:=.exhausted})).get (N+1)=some (.cells [v'] 74 true):=by rw[T.ae,ak (by omega)];exact SJ
 have k5:∀i,i<N->(H4.set (n3+1) (.loop {R with st:=.exhausted})).get i=h.get i:=fun i hi=>by rw[T.ae,ak (by omega),U4 i (by omega) (by omega),k3.get i (by omega),kk.get i hi]
 show bD A.C _ (some (.ex (NA R.fu) _ ⟨H4.set (n3+1) (.loop {R with st:=.exhausted}),n4,(n3+1)::W4⟩)) _;generalize H4.set (n3+1) (.loop {R with st:=.exhausted})=F at*;rw[r2];have lB:N+1<n4:=by omega
 have nd:Ip (.defs true):=fun c e w h=>by cases h
 simp[YU,NA];refine(Ymb gD5 fun i=>by simp).2 ?_;simp[ax];rw[<-Yui mI];exact⟨by rw[ak (by omega),ak (by omega)];exact Zzc CO (by omega),⟨by omega,fun i hi=>by rw[T.ae,ak (by omega)];exact k5 i hi⟩,(o5.qF gD5 nd).DP⟩
variable {D M:List (List Rat)} {w:List Rat}
def A.b70:=A.q Tryz.f70
def A.k70:=@A.kk 70 28 [.tmp 6,.tmp 7] A.b70 (by kernel_rfl) rfl
def iz(D M:List (List Rat))(w:List Rat):List (List Rat):=(cn (du D M) M.length).map fun r=>yk r w
def gH(D M:List (List Rat))(w:List Rat):List (List Rat):=du (iz D M w) (cn (du D M) M.length)
def nZ(D M:List (List Rat))(w:List Rat):Option (List (List Rat)):=uA (gH D M w) (iz D M w) M.length D.length
def F8:(iz D M w).length=M.length:=by unfold iz;rw[cG,kh]
def Lg:aR (iz D M w) w.length:=fun r hr=>by
 obtain⟨x,_,rfl⟩:=bF.1 hr
 simp[yk]
def Iq:aR (gH D M w) M.length:=by have:=@So (iz D M w) (cn (du D M) M.length);rw[kh]at this;exact this
def F9:(gH D M w).length=M.length:=by unfold gH;rw[K0,F8]
def YV{n J K:Nat}(hM:aR M n)(qD:bz D K)(qM:bz M J)(hJ:1<=J)(hK:1<=K):bz (du D M) (n*(J+K+1)+1):=Yp qD (fun r hr=>⟨hM r hr,qM r hr⟩) hJ hK
def SK{B L:Nat}(q:bz (du D M) B)(qw:∀x∈w,Qb L x)(hB:1<=B)(hL:1<=L):bz (iz D M w) (B+L):=fun r hr=>by
 obtain⟨x,hx,rfl⟩:=bF.1 hr
 exact Yue (CH q hB x hx).2 qw hB hL
def Yon{B L:Nat}(q:bz (du D M) B)(qw:∀x∈w,Qb L x)(hB:1<=B)(hL:1<=L):bz (gH D M w) (D.length*(B+(B+L)+1)+1):=
 Yp (SK q qw hB hL) (fun r hr=>by
  have:=CH (c:=M.length) q hB r hr
  rw[K0]at this
  exact this) hB (by omega)
def YW{h:T O}{N n J K L:Nat}{u v y:V}(hu:gF h N u D)(hv:ec h N v w)(hy:gF h N y M)(hD:aR D n)(hM:aR M n)(hw:w.length=D.length)(km:0<n)(hn:n<50)(fP:0<D.length)(hs:D.length<50)(nY:0<M.length)(hk:M.length<50)(qD:bz D K)(qM:bz M J)(qw:∀x∈w,Qb L x)(hJ:1<=J)(hK:1<=K)(hL:1<=L)(hS:D.length*(n*(J+K+1)+1+(n*(J+K+1)+1+L)+1)+1+2*(n*(J+K+1)+1+L+1)<=400000000){B:Nat->Nat}(YX:∀i,1<=B i)(NI:∀k,bz (aF (dp (gH D M w) (iz D M w)) k).1 (B (aF (dp (gH D M w) (iz D M w)) k).2.1))(hB3:∀i,i<M.length->3*B i<=400000000):Fn A.C 70 [u,v,y] h N (fun x h' n'=>(nZ D M w=none/\x=.aV [.aa,.bool false])\/∃H z,nZ D M w=some H/\x=.aV [z,.bool true]/\gF h' n' z H):=by
 intro W;have qS:=YV hM qD qM hJ hK;have lS:(du D M).length=D.length:=K0;have tt:=Yd6 hM;obtain⟨b1,Lh⟩:∃b1,b1=n*(J+K+1)+1:=⟨_,rfl⟩;have hb:n*(J+K+1)+1<=b1:=by omega
 have q8:J+K+1<=n*(J+K+1):=Nat.le_mul_of_pos_left _ km;rw[<-Lh]at hS;obtain⟨l0,cH⟩:=bj fP;obtain⟨i2,o2,c2,e2,w2,a,q1,q2,q3,q4,q5⟩:=DO hu cH;rw[gE]at q4;have la:=q5.1.len;rw[hD l0 (cF cH)]at la;have lu:=hu.len;have zbo:(0:Int)<(D.length:Int):=by omega
 have SL:=qS;rw[<-Lh]at SL;rw[aN,A.k70 (by simp)];simp[A.b70,lu,fP,q1,q3,q4,la];refine av (Sp hy (by omega) hM (by omega)) ?_;rintro x1 H1 n1 k1 wD;simp[];refine av (Yq (n:=n) (c:=M.length) (j:=J) (k:=K) (hu.ad k1) wD.DP hD AL (by rw[kh];omega) (by rw[kh];exact km) (by omega) (by rw[kh];omega) (by omega) qD (fun r hr=>(CH qM hJ r hr).2) hJ hK (by rw[kh];omega)) ?_;rw[tt];rintro x2 H2 n2 k2 zn;have k02:=k1.trans k2;simp[];refine av (Zvz (c:=M.length) (j0:=b1) (k0:=L) zn (hv.ad k02) (by omega) (by omega) So nY (by omega) (by rw[lS];exact hw) SL qw (by omega) (by omega) (by omega)) ?_;rintro x3 H3 n3 k3 DW;have k03:=k02.trans k3;have NJ:gF H3 n3 x3 (iz D M w):=DW;have rR:aR (iz D M w) D.length:=by rw[<-hw];exact Lg
 simp[];refine av (Yq (n:=D.length) (c:=M.length) (j:=b1) (k:=b1+L) NJ (zn.ad k3) rR So (by rw[lS];exact aO _) (by rw[lS];exact fP) (by rw[F8];omega) (by rw[lS];omega) (by omega) (SK SL qw (by omega) hL) SL (by omega) (by omega) (by rw[lS];omega)) ?_;rintro x4 H4 n4 k4 AT;have YY:gF H4 n4 x4 (gH D M w):=AT;simp[];refine av (Yek (n:=M.length) (c:=D.length) (B:=B) YY (NJ.ad k4) Iq rR F9 F8 nY (by omega) fP (by omega) YX NI hB3) ?_;rintro x5 H5 n5 k5 DX;have k05:=(k03.trans k4).trans k5;rcases DX with⟨a1,rfl⟩|⟨H,z,a1,rfl,a2⟩
 ·simp[ax];exact⟨k05,a1⟩
 simp[ax];exact⟨k05,H,a1,a2⟩
variable {N:Nat} {h:T O} {v:V}
def A.b69:=A.q Tryz.f69
def A.k69:=@A.kk 69 22 [.tmp 4] A.b69 (by kernel_rfl) rfl
def A.b67:=A.q Tryz.f67
def A.k67:=@A.kk 67 6 [.tmp 2] A.b67 (by kernel_rfl) rfl
def A.b68:=A.q Tryz.f68
def A.k68:=@A.kk 68 9 [.tmp 2] A.b68 (by kernel_rfl) rfl
def Yqr{l:List (List aD)}{n:Nat}(hs:dq h N v l)(hl:l.length<100000)(hx:∀x∈l,x.length<100000/\∀s∈x,s.length<=100000):Fn A.C 69 [v,.int .i64 n] h N (fun u _ _=>u=.int .i64 (q9 l n)):=by
 intro w;have ml:=hs.len;have e1:((l.length:Int)=0)=(l.length=0):=by apply propext;omega
 have e2:(16<(l.length:Int))=(16<l.length):=by apply propext;omega
 rw[aN,A.k69 (by simp)];unfold q9;have kN:∀o,ab h N (h.set N o) (N+1):=fun o=>ab.refl.new o;by_cases c0:l.length=0
 ·simp[A.b69,ml,CQ,ag,Li,c0,bp,ax];exact kN _
 by_cases c1:16<l.length
 ·simp[A.b69,ml,CQ,ag,Li,e2,c0,c1,bp,ax];exact kN _
 simp[A.b69,ml,CQ,ag,Li,e2,c0,c1,bp];refine av (YZ (hs.ad (kN _)) hl hx) ?_;rintro _ H2 n2 k2 rfl;simp[ax];exact(kN _).trans k2
def Ygc{q p:Nat}{u:V}{m:List (List aD)}{l:List aD}{eq ep:TypeId}{wq wp:Bool}(si:h.get q=some (.cells [u] eq wq))(yp:q<N)(mZ:h.get p=some (.cells [v] ep wp))(Lj:p<N)(hs:dq h N u m)(kl:m.length<100000)(dh:∀x∈m,x.length<100000/\∀s∈x,s.length<=100000)(ht:Sl h N v (strs l))(nW:l.length<100000)(DY:∀s∈l,s.length<=100000):ij A.C (.func 67 [] [.ptr q 0,.ptr p 0]) [] h N (fun z _ _=>z=.int .i64 (zr m l)):=by intro w;rw[aN,A.k67 (by simp)];simp[A.b67,si,mZ];refine av (Y0 hs ht kl dh nW DY) ?_;rintro _ H2 n2 k2 rfl;simp[ax];exact k2
def Ygb{p q:Nat}{u:V}{m:List (List aD)}{l:List aD}{ep eq:TypeId}{wp wq:Bool}(mZ:h.get p=some (.cells [v] ep wp))(Lj:p<N)(si:h.get q=some (.cells [u] eq wq))(yp:q<N)(hs:dq h N u m)(kl:m.length<100000)(dh:∀x∈m,x.length<100000/\∀s∈x,s.length<=100000){b:List (List aD)}(hb:dq h N v b)(DZ:b.length<100000)(Y3:∀x∈b,x.length<100000/\∀s∈x,s.length<=100000)(m0:0<m.length):ij A.C (.func 68 [] [.ptr p 0,.ptr q 0]) [] h N (fun z _ _=>z=.int .i64 (q9 b (ba m))):=by
 intro w;have ml:=hs.len;have q_:0<(m.length:Int):=by omega
 obtain⟨l0,cH⟩:=bj m0;obtain⟨i0,o0,Ir,e0,AU,u0,z1,z2,z3,z4,z5⟩:=hs.at cH;have z6:=z5.len;rw[m7]at z6;rw[gE]at z4;obtain⟨n,hn⟩:∃n,n=l0.length:=⟨_,rfl⟩;have en:ba m=n:=by simp[ba,cH,hn]
 rw[en];rw[<-hn]at z6;rw[aN,A.k68 (by simp)];simp[A.b68,si,mZ,ml,m0,z1,z2,z3,z4,z6];refine av (Yqr hb DZ Y3) ?_;rintro _ H2 n2 k2 rfl;have wE:=k2.le;simp[];refine(vE (by simp[-ay,yp,Lj])).2 ?_;simp[ax];exact k2
end
end Go.Mx
