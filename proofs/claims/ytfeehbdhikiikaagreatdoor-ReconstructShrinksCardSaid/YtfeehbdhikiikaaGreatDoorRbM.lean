/-lensletref01-/
import Derived.Test.YtfeehbdhikiikaaGreatDoorMxLong
set_option linter.all false
namespace Go.Mx
variable{a z:Int}{la lb:List Int}{l m:List Nat}{buf x xs:List V}{N' b bytes d n' n2 size:Nat}{D D2:Nat->Prop}{cp ro:Option Nat}{h':T O}{u:V}{Y:V->Prop}
noncomputable section
open Go Go.Proofs
set_option maxRecDepth 1000000
def A.KN:=A.q Tryz.f134
def A.uk:=A.ql A.KN 1 []
def A.uo:=(fun x0=>A.ql A.KN 0 [x0]) A.uk
def A.b134:=(fun x0=>A.qb A.KN [x0]) A.uo
def A.k134:=@A.kk 134 72 [.tmp 4] A.b134 (by kernel_rfl) rfl
structure MuB (h:T O) (N:Nat) (la lb:List Int) (i:Nat) (zaQ:List Int) (a:Int) (m:Nat) (r:T V) (st:St):Prop where
 w:az N st.w=[]
 ad:ab h N st.h (N+1)
 n:st.n=N+1
 ex:∃k out c,k+m=lb.length/\r.get 8=some (.int .i64 k)/\st.h.get N=some (.cells (dI out) 3 true)/\out.length=la.length+lb.length/\r.get 7=some (.int .i64 c)/\0<=c/\c<1000000000/\Di out/\(∀t,i+lb.length<=t->t<out.length->out[t]?=some 0)/\vI out+pI (i+k)*c=vI zaQ+pI i*(a*vI (lb.take k))
structure MuA (h:T O) (N:Nat) (la lb:List Int) (m:Nat) (r:T V) (st:St):Prop where
 w:az N st.w=[]
 ad:ab h N st.h (N+1)
 n:st.n=N+1
 ex:∃i out,i+m=la.length/\r.get 6=some (.int .i64 i)/\st.h.get N=some (.cells (dI out) 3 true)/\out.length=la.length+lb.length/\Di out/\(∀t,i+lb.length<=t->t<out.length->out[t]?=some 0)/\vI out=vI (la.take i)*vI lb
def Zw2{h:T O}{N:Nat}{v:V}{a:Nat}(hu:Sl h N u (dI la))(hv:Sl h N v (dI lb))(da:Di la)(db:Di lb)(ea:vI la=a)(eb:vI lb=b)(hl:la.length+lb.length<1099511627776):Fn A.C 134 [u,v] h N (fun x h' n'=>Dn h' n' x (a*b)):=by
 intro w;have lu:=hu.len;have lv:=hv.len;rw[jo]at lu lv;rw[aP,A.k134 (by simp)];have cs:((la.length:Int)+(lb.length:Int)).toNat=la.length+lb.length:=by omega
 simp(disch:=first|(simp;done)|omega|rfl) [A.b134,lu,lv,cs];refine cB [(6,9),(16,69)] (fun e r st=>e=.exit 0/\MuA h N la lb 0 r st) (MuA h N la lb) la.length ?_ ?_ ?_
 ·refine⟨by simp,ab.refl.new _,rfl,0,List.replicate (la.length+lb.length) 0,by omega,by simp,by simp[Ztn],by simp,Di.GM _,fun t _ ht=>?_,by simp[Zsg,vI]⟩;simp at ht;simp[ht]
 ·rintro m r ⟨H,n1,W⟩ hr hf ⟨hW,hK,hn,i,out,hi,h6,aA,gJ,jL,hz,nW⟩;simp only at hW hK hn aA;subst hn;rw[bG];cases m with
  |zero=>
   have:i=la.length:=by omega
   subst this;simp[A.uo,hr,hf,h6,lu];exact⟨hW,hK,rfl,la.length,out,by omega,by simp[h6],aA,gJ,jL,hz,nW⟩
  |succ m=>
   obtain⟨x,hx⟩:=bs (l:=la) (k:=i) (by omega);obtain⟨b1,b2,b3,b4,b5,z1,z2,z3,z4⟩:=hu.at (jq hx);have z3:=(hK.get _ z2).trans z3;have RC:=da.get hx;have AX:(i:Int)<(la.length:Int):=by omega
   have IY:i<la.length:=by omega
   simp[A.uo,hr,h6,AX,lu];refine cB [(7,9),(22,54)] (fun e r st=>e=.exit 2/\MuB h N la lb i out x 0 r st) (MuB h N la lb i out x) lb.length ?_ ?_ ?_
   ·exact⟨hW,hK,rfl,0,out,0,by omega,by simp,aA,gJ,by simp,by omega,by omega,jL,hz,by simp[vI]⟩
   ·rintro m2 r2 ⟨H2,n2,W2⟩ fL eI ⟨g_,qm,gE,k,qx,c,hk,h8,nF,FJ,h7,c0,c1,nA,er,l8⟩;simp only at g_ qm gE nF;subst gE;rw[bG];cases m2 with
    |zero=>
     have:k=lb.length:=by omega
     subst this;simp[A.uk,hr,fL,eI,h8,lv];exact⟨g_,qm,rfl,lb.length,qx,c,by omega,by simp[h8],nF,FJ,by simp[h7],c0,c1,nA,er,l8⟩
    |succ m2=>
     obtain⟨y,hy⟩:=bs (l:=lb) (k:=k) (by omega);obtain⟨g1,g2,g3,g4,g5,y1,y2,y3,y4⟩:=hv.at (jq hy);have y3:=(qm.get _ y2).trans y3;have z3:=(qm.get _ z2).trans ((hK.get _ z2).symm.trans z3);have Nh:=db.get hy;obtain⟨o,ho⟩:=bs (l:=qx) (k:=i+k) (by omega);have hod:=nA.get ho;have dj:(k:Int)<(lb.length:Int):=by omega
     have jV:k<lb.length:=by omega
     have p0:0<=x*y:=yX RC.1 Nh.1;have p1:x*y<=999999999*999999999:=Int.mul_le_mul (by omega) (by omega) Nh.1 (by omega);have q1:(i:Int)+(k:Int)<(la.length:Int)+(lb.length:Int):=by omega
     have q2:i+k<la.length+lb.length:=by omega
     have q3:(0:Int)<=(i:Int)+(k:Int):=by omega
     have t1:(o+x*y+c).tmod 1000000000=(o+x*y+c)%1000000000:=Gq (by omega);have t2:(o+x*y+c).tdiv 1000000000=(o+x*y+c)/1000000000:=Dd (by omega);have w8:=jo qx;have w7:=Dw (l:=qx) (k:=i+k) (v:=(o+x*y+c)%1000000000) (by omega);have e1:vI (qx.set (i+k) ((o+x*y+c)%1000000000))+pI (i+(k+1))*((o+x*y+c)/1000000000)=vI out+pI i*(x*vI (lb.take (k+1))):=by
      have hm:=Gy (o+x*y+c) 1000000000;rw[EM ho,AS hy,show i+(k+1)=(i+k)+1 by omega,xC];have hp:=T3 i k;generalize (o+x*y+c)/1000000000=Q at*;generalize (o+x*y+c)%1000000000=R at*;have:R=o+x*y+c-1000000000*Q:=by omega
      rw[this];have h3:vI qx=vI out+pI i*(x*vI (lb.take k))-pI (i+k)*c:=by omega
      rw[h3,hp];grind
     generalize hP:x*y=P at*;have b1':bn .i64 P=P:=cN (by omega) (by omega);have b2':bn .i64 (o+P)=o+P:=cN (by omega) (by omega);have b3':bn .i64 (o+P+c)=o+P+c:=cN (by omega) (by omega);have b4':bn .i64 ((o+P+c)/1000000000)=(o+P+c)/1000000000:=cN (by omega) (by omega);have f1:b1<N+1:=by omega
     have f2:g1<N+1:=by omega
     have r0:=Gu (o+P+c) (b:=1000000000) (by decide);have r1:=Gz (o+P+c) (b:=1000000000) (by decide);have d0:0<=(o+P+c)/1000000000:=Int.ediv_nonneg (by omega) (by decide);have d1:(o+P+c)/1000000000<1000000000:=Int.ediv_lt_of_lt_mul (by decide) (by omega);simp(disch:=first|(simp;done)|omega|rfl) [-getElem?_pos,A.uk,hr,fL,eI,h6,h7,h8,lu,lv,dj,nF,jq ho,z1,z3,z4,y1,y3,y4,hP,b1',b2',b3',b4',t1,t2,w7,f1,f2];refine⟨m2,by omega,⟨by simp[az,g_],qm.set (aN N),rfl,k+1,_,_,by omega,by simp,by simp,by simp[FJ],by simp,d0,d1,nA.set r0 r1,fun t ht1 zp=>?_,e1⟩⟩;rw[fk (by omega)];exact er t ht1 (by simpa using zp)
   rintro _ r2 ⟨H2,n2,W2⟩ fL ⟨rfl,g_,qm,gE,k,qx,c,hk,h8,nF,FJ,h7,c0,c1,nA,er,l8⟩;simp only at g_ qm gE nF;subst gE;have:k=lb.length:=by omega
   subst this;have ho:=er (i+lb.length) (by omega) (by omega);have VI:=hf.inner (D':=[(7,9),(22,54)]) rfl (by simp) fL;have q1:(i:Int)+(lb.length:Int)<(la.length:Int)+(lb.length:Int):=by omega
   have q2:i+lb.length<la.length+lb.length:=by omega
   have q3:(0:Int)<=(i:Int)+(lb.length:Int):=by omega
   have w8:=jo qx;have w7:=Dw (l:=qx) (k:=i+lb.length) (v:=c) (by omega);rw[Ay]at l8;have e1:vI (qx.set (i+lb.length) c)=vI (la.take (i+1))*vI lb:=by
    rw[EM ho,AS hx];have:vI qx+pI (i+lb.length)*(c-0)=vI out+pI i*(x*vI lb):=by rw[Int.sub_zero];exact l8
    rw[this,nW];grind
   simp(disch:=first|(simp;done)|omega|rfl) [-getElem?_pos,hr,fL,h6,h7,lv,nF,jq ho,w7,VI];refine⟨m,by omega,⟨by simp[az,g_],qm.set (aN N),rfl,i+1,_,by omega,by simp,by simp,by simp[FJ],nA.set c0 c1,fun t ht1 zp=>?_,e1⟩⟩;rw[fk (by omega)];exact er t (by omega) (by simpa using zp)
 rintro _ r ⟨H,n1,W⟩ hr ⟨rfl,hW,hK,hn,i,out,hi,h6,aA,gJ,jL,hz,nW⟩;simp only at hW hK hn aA;subst hn;have:i=la.length:=by omega
 subst this;rw[Ay,ea,eb]at nW;have p_:Sl H (N+1) (.slice N 0 (la.length+lb.length) (some (la.length+lb.length)) 1) (dI out):=Sl.row (by omega) aA (by simp[gJ]) (fun k hk=>by simp at hk;omega);simp[hr];refine au (J4 p_ (by omega)) ?_;rintro y h2 n2 k2 hy;rw[JD jL (n:=a*b) (by rw[nW];simp)]at hy;simp[ay,hW];exact⟨hK.trans k2,hy⟩
open Go
variable {N i n n1:Nat} {h h1:T O} {r:T V} {v:V} {w:List Nat}
structure ec (D:Nat->Prop) (h:T O) (n:Nat) (h':T O) (n':Nat):Prop where
 le:n<=n'
 get:∀i,i<n->¬D i->h'.get i=h.get i
def ec.refl:ec D h n h n:=⟨aN _,fun _ _ _=>rfl⟩
def ab.upd(k:ab h n h' n'):ec D h n h' n':=⟨k.le,fun i hi _=>k.get i hi⟩
def ec.trans{D:Nat->Prop}{h2:T O}{n2:Nat}(a:ec D h n h1 n1)(b:ec D h1 n1 h2 n2):ec D h n h2 n2:=
 ⟨nI a.le b.le,fun i hi hd=>(b.get i (fH hi a.le) hd).trans (a.get i hi hd)⟩
def ec.mono(a:ec D h n h1 n1)(hd:∀i,i<n->D i->D2 i):ec D2 h n h1 n1:=⟨a.le,fun i hi hn=>a.get i hi fun hc=>hn (hd i hi hc)⟩
def ec.set{D:Nat->Prop}{o:O}(a:ec D h n h1 n1)(hi:D i\/n<=i):ec D h n (h1.set i o) n1:=
 ⟨a.le,fun j hj hd=>by
  rw[T.ag,ak ?_]
  ·exact a.get j hj hd
  ·rintro rfl
   rcases hi with hi|hi
   ·exact hd hi
   ·omega⟩
def ec.up(a:ec D h n h1 n1)(hn:n1<=n2):ec D h n h1 n2:=⟨nI a.le hn,a.get⟩
def ec.new(a:ec D h n h1 n1)(o:O):ec D h n (h1.set n1 o) (n1+1):=(a.set (.inr a.le)).up (vY _)
def Ir{N i:Nat}:∀{w:List Nat},i∈az N w->i∈w/\i<N
 |[],h=>by simp[az]at h
 |j::w,h=>by
  simp only[az]at h
  split at h
  ·unfold xh at h
   split at h
   ·have:=Ir h;exact⟨pA _ this.1,this.2⟩
   ·rcases iP.1 h with h|h
    ·subst h;exact⟨oa,by assumption⟩
    ·have:=Ir h;exact⟨pA _ this.1,this.2⟩
  ·have:=Ir h;exact⟨pA _ this.1,this.2⟩
def Yco:az N []=[]:=rfl
attribute [simp] Yco
def Iq(h:∀i∈w,N<=i):az N w=[]:=Zrk h
def qy(st:St)(i:Nat)(send:Option V)(zero:V):Option O->Option (V×St)
 |some (.chan cap buf)=>match send with
  |some v=>if buf.length<cap then some (.aU [.int .i64 0,.bool false],st.write i (.chan cap (buf++[v]))) else some (.aU [.int .i64 (-1),.bool false],st)
  |none=>match buf with
   |v::buf=>some (.aU [.int .i64 0,.bool true,v],st.write i (.chan cap buf))
   |[]=>some (.aU [.int .i64 (-1),.bool false,zero],st)
 |_=>none
def Yvx{st:St}{send:Option V}{zero:V}:Yyx st i send zero=qy st i send zero (st.h.get i):=by
 unfold Yyx qy;rcases st.h.get i with _|o
 ·rfl
 cases o with
 |chan cap buf=>cases send with
  |some v=>rfl
  |none=>cases buf<;>rfl
 |_=>cases send<;>rfl
def VJ(C:Cx)(K:List Kf)(Q:Rs->Prop)(d:Nat)(ops:List dS)(r:T V)(n:Nat)(m:List Nat):Option (V×St)->Prop
 |some (v,cg)=>bD C (.fV::K) (DG (dZ C.call ops ⟨r.set d v,n,m⟩ cg)) Q
 |none=>False
def Yyy(C:Cx)(K:List Kf)(Q:Rs->Prop)(d:Nat)(ops:List dS)(r:T V)(n:Nat)(m:List Nat)(st:St)(zero:V):Option V->Option (Option V)->Prop
 |some (.chan i),some sv=>VJ C K Q d ops r n m (qy st i sv zero (st.h.get i))
 |_,_=>False
def Ykq{C:Cx}{K:List Kf}{Q:Rs->Prop}{ch:Src}{send:Option Src}{zero:V}{ops:List dS}{st:St}(hd:d<n):bD C K (fy (C.code ro (.Aa (some d) ch send zero ops) ⟨r,n,m⟩ st)) Q↔Yyy C K Q d ops r n m st zero (ch.ev r) (aC r send):=by
 have e:C.code ro (.Aa (some d) ch send zero ops) ⟨r,n,m⟩ st=Dr (some d) ch send zero ops C.call C.code ro ⟨r,n,m⟩ st:=Cx.dE ..;rw[e];unfold Dr Yyy;simp only[];rcases ch.ev r with _|v
 ·exact MN
 cases v<;>try exact MN
 rename_i i;rcases aC r send with _|sv
 ·exact MN
 simp only[Yvx];rcases qy st i sv zero (st.h.get i)with _|⟨v,cg⟩
 ·exact MN
 simp only[Fr.put,hd,if_true,VJ];refine jQ ?_;show _=jB C K (nE C .fV (DG (dZ C.call ops ⟨r.set d v,n,m⟩ cg)));rcases dZ C.call ops ⟨r.set d v,n,m⟩ cg with _|⟨_,_⟩<;>rfl
def Yfm{C K Q d ops r n m st zero i sv}:Yyy C K Q d ops r n m st zero (some (.chan i)) (some sv)=VJ C K Q d ops r n m (qy st i sv zero (st.h.get i)):=rfl
def Yfl{C K Q d ops r n m v cg}:VJ C K Q d ops r n m (some (v,cg))=bD C (.fV::K) (DG (dZ C.call ops ⟨r.set d v,n,m⟩ cg)) Q:=rfl
def Yb9{st:St}{cap:Nat}{zero:V}:qy st i none zero (some (.chan cap (v::buf)))=some (.aU [.int .i64 0,.bool true,v],st.write i (.chan cap buf)):=rfl
def Yfk{st:St}{cap:Nat}{zero:V}:qy st i none zero (some (.chan cap []))=some (.aU [.int .i64 (-1),.bool false,zero],st):=rfl
attribute [simp] Ykq Yfm Yfl Yb9 Yfk
def VK(st:St)(bytes:Nat):Option V->Option (V×St)
 |some (.int _ k)=>if k<0\/k > IntKind.i64.max\/bytes*k > 2^48-112 then none else some (.chan st.n,st.alloc (.chan k.toNat []))
 |_=>none
def Zxd{x:Src}{call:cQ}{st:St}:GG bytes x call r st=VK st bytes (x.ev r):=by unfold GG VK;rfl
def Yc6{st:St}{kk:IntKind}{k:Int}(h0:0<=k)(h1:k<=100):VK st 16 (some (.int kk k))=some (.chan st.n,st.alloc (.chan k.toNat [])):=by unfold VK;simp only[];rw[ak];have:IntKind.i64.max=9223372036854775807:=rfl;omega
attribute [simp] Zxd Yc6
def bI:V->List Nat
 |.slice i _ _ _ _=>[i]
 |_=>[]
def Sl.bE{l:List V}(s:Sl h N v l)(k:ec D h N h' N')(hd:∀i∈bI v,¬D i):Sl h' N' v l:=by
 rcases s with s|⟨i,o,cp,c,e,rw,rfl,h2,h3,h4⟩
 ·exact .inl s
 exact .inr ⟨i,o,cp,c,e,rw,rfl,fH h2 k.le,(k.get i h2 (hd i (by simp[bI]))).trans h3,h4⟩
def Row(z:Nat)(e:TypeId)(h:T O)(v:V)(l:List (List V)):Prop:=(∀x∈l,x.length=z)/\((l=[]/\v=.aa)\/∃i x m,v=.slice i 0 l.length none z/\x.length=m*z/\h.get i=some (.cells (l.flatten++x) e true))
def LN(l:List (List V))(x:List V):(l++[x]).flatten=l.flatten++x:=by simp
def Yxy(st:St)(size:Nat)(zero:List V):Option V->Option (V×St)
 |some v=>Mt size zero (.const v) Zts .nil st
 |none=>none
structure Xcs (z bytes:Nat) (e:TypeId) (zero:List V) (h:T O) (N:Nat) (v:V) (l:List (List V)) (k:Nat) (v1 v2 v3 v4:V) (h3 h4:T O) (w3:List Nat):Prop where
 a:∀w,∃u,oF ⟨h,N,w⟩ z (some v) (some (some (.int .i64 k))) (some (some (.int .i64 ((k:Int)+1)))) (some (some (.int .i64 l.length)))=some (u,⟨h,N,w⟩)
 b:∀w,oF ⟨h,N,w⟩ z (some v) (some none) (some (some (.int .i64 k))) (some none)=some (v1,⟨h,N,w⟩)
 c:∀w,oF ⟨h,N,w⟩ z (some v) (some (some (.int .i64 ((k:Int)+1)))) (some none) (some none)=some (v2,⟨h,N,w⟩)
 d:∀w,mR ⟨h,N,w⟩ z bytes e v1 v2=some (v3,⟨h3,N,w3++w⟩)
 len:oe v3=some (l.length-1)
 f:∀w,oF ⟨h3,N,w⟩ z (some v3) (some (some (.int .i64 ((l.length-1:Nat):Int)))) (some (some (.int .i64 l.length))) (some none)=some (v4,⟨h3,N,w⟩)
 g:∀w,∃i,i∈bI v/\Yxy ⟨h3,N,w⟩ z zero (some v4)=some (.aU [],⟨h4,N,i::w⟩)
 w:∀i∈w3,i∈bI v
 upd:ec (fun i=>i∈bI v) h N h4 N
 ids:bI v3=bI v
 row:Row z e h4 v3 (l.take k++l.drop (k+1))
def VL(st:St)(size:Nat):Option V->Option V->Option (V×St)
 |some d,some s=>EG size (.const d) (.const s) Zts .nil st
 |_,_=>none
def Yge{d s:Src}{call:cQ}{st:St}:EG size d s call r st=VL st size (d.ev r) (s.ev r):=by
 unfold EG VL;rcases d.ev r with _|d
 ·rfl
 rcases s.ev r with _|s<;>rfl
def Yea{c:List V}{e:TypeId}{s:V}(hn:0<n)(hs:fO ⟨h,N,w⟩ 1 s=some (n,xs))(hx:xs.length=n)(hg:h.get i=some (.cells c e true))(hc:c.length=n):VL ⟨h,N,w⟩ 1 (some (.slice i 0 n cp 1)) (some s)=some (.int .i64 n,⟨h.set i (.cells xs e true),N,i::w⟩):=by
 have fP:¬n=0:=by omega
 have hd:c.drop n=[]:=List.drop_of_length_le (by omega);have ht:xs.take n=xs:=gm (by omega);simp only[VL,EG,Src.ev,hs,St.row,hg];simp[fP,hc,ae,St.write,ht,hx,hd]
attribute [simp] Yge
def mP(e:TypeId)(Y:V->Prop)(h:T O)(u:V):Prop:=∀i∈bI u,∃z,h.get i=some (.cells z e true)/\z≠[]/\∀y∈z,Y y
def mP.nil{e:TypeId}:mP e Y h .aa:=fun i hi=>by simp[bI]at hi
def D9{z:Nat}{e:TypeId}{N0:Nat}{l:List (List V)}(s:Own z e N0 h N v l)(hn:l=[]->v=.aa)(hY:∀c∈l,∀y∈c,Y y)(hN:N0<=N)(hz:0<z)(hx:x.length=z)
  (hu:fO ⟨h,N,w⟩ z u=some (1,x)) (hb:2*(l.length+1)*bytes<=281474976710656):
  ∃v' h' w',mR ⟨h,N,w⟩ z bytes e v u=some (v',⟨h',N+1,w'⟩)/\az N0 w'=az N0 w/\ab h N0 h' (N+1)/\ec (fun i=>i∈bI v) h N h' (N+1)/\mP e Y h v/\Own z e N0 h' (N+1) v' (l++[x]):=by
 obtain⟨v',h',w',f1,f2,f3,f4,f5⟩:=Az s hN hz hx hu hb;refine⟨v',h',w',f1,f2,f3,⟨vY _,fun j hj hd=>?_⟩,fun i hi=>?_,f5⟩
 ·rcases f4 j with h1|h1|⟨o,n,c,q,h1⟩
  ·exact h1
  ·omega
  exact absurd (by rw[h1];simp[bI]) hd
 obtain⟨hl,⟨rfl,rfl⟩|⟨j,rfl,h2,h3,h4⟩⟩:=s
 ·simp[bI]at hi
 simp only[bI,og]at hi;subst hi;refine⟨_,h4,fun hc=>?_,fun y hy=>?_⟩
 ·have lG:=wQ hl;rw[hc]at lG;have:l.length=0:=by
   rcases Nat.mul_eq_zero.1 lG.symm with h|h
   ·exact h
   omega
  have:=hn (tC this);cases this
 obtain⟨c,hc,Eo⟩:=List.mem_flatten.1 hy;exact hY c hc y Eo
def Ybr:(l.any fun i=>Nat.ble n i&&Nat.blt i n)=false:=by rw[List.any_eq_false];intro i _ hc;rw[gV]at hc;have h1:=xw hc.1;have h2:i<n:=xw hc.2;omega
def Zu3:EH l (some [])=false:=by unfold EH;rw[List.any_eq_false];intro i _ hc;simp at hc
variable {n:Nat}
def dv(n:Nat):UInt8:=UInt8.ofNat (48+n%10)
def Kz(n:Nat):(dv n).toNat=48+n%10:=by unfold dv;simp;omega
def dC(n:Nat):aH:=if h:n=0 then [] else dC (n/10)++[dv n]
termination_by n
decreasing_by omega
def vK:dC 0=[]:=by unfold dC;simp
def zv(h:n≠0):dC n=dC (n/10)++[dv n]:=by
 conv=>lhs;unfold dC
 rw[dif_neg h]
def aq(n:Nat):aH:=if n=0 then [48] else dC n
def js(n k:Nat):aH:=List.replicate (k-(dC n).length) 48++dC n
def aM(z:Int):aH:=if z<0 then 45::aq z.natAbs else aq z.natAbs
def aI(q:Rat):aH:=if q.den=1 then aM q.num else aM q.num++47::aq q.den
def Zuu:∀(n:Nat),aE (dC n)=n:=by
 intro n;induction n using Nat.strongRecOn with
 |_ n ih=>
  by_cases h:n=0
  ·subst h;rw[vK];rfl
  rw[zv h,O5,ih (n/10) (by omega),Kz];omega
def Cs(n:Nat):aE (aq n)=n:=by
 unfold aq;split
 ·subst_vars;rfl
 exact Zuu n
def Zv3{s:aH}{c:UInt8}:cO (s++[c])=(cO s&&mU c):=by simp[cO]
def Ym2(n:Nat):mU (dv n)=true:=by unfold mU;rw[Kz];simp;omega
def Yjh:∀(n:Nat),cO (dC n)=true:=by
 intro n;induction n using Nat.strongRecOn with
 |_ n ih=>
  by_cases h:n=0
  ·subst h;rw[vK];rfl
  rw[zv h,Zv3,ih (n/10) (by omega),Ym2];rfl
def Am(n:Nat):cO (aq n)=true:=by
 unfold aq;split
 ·rfl
 exact Yjh n
def rI:∀{k n:Nat},n<10^k↔(dC n).length<=k
 |0,n=>by
  simp only[GB,Nat.lt_one_iff,Nat.le_zero,List.length_eq_zero_iff]
  constructor
  ·rintro rfl;exact vK
  ·intro h
   have:=Zuu n
   rw[h]at this
   exact this.symm
 |k+1,n=>by
  by_cases h:n=0
  ·subst h;rw[vK];simp;exact BM (by decide)
  ·rw[zv h,iU,AH,iD]
   have:=rI (k:=k) (n:=n/10)
   rw[Nat.succ_le_succ_iff,<-this]
   exact(rV (by decide)).symm
def VM:∀{n:Nat},n≠0->∃c t,dC n=c::t/\c.toNat≠48:=by
 intro n;induction n using Nat.strongRecOn with
 |_ n ih=>
  intro h;rw[zv h];by_cases h0:n/10=0
  ·rw[h0,vK];refine⟨dv n,[],rfl,?_⟩;rw[Kz];omega
  obtain⟨c,t,e,hc⟩:=ih (n/10) (by omega) h0;rw[e];exact⟨c,t++[dv n],rfl,hc⟩
def J1(n:Nat):aq n≠[]:=by
 unfold aq;split
 ·simp
 rename_i h;obtain⟨c,t,e,_⟩:=VM h;rw[e];simp
def Zru(n:Nat):jK (aq n)=true:=by
 have ha:=Am n;by_cases h:n=0
 ·subst h;rfl
 obtain⟨c,t,e,hc⟩:=VM h;have e2:aq n=c::t:=by unfold aq;rw[ak h,e]
 rw[e2]at ha ⊢;show (cO (c::t)&&(decide (c.toNat≠48)||decide (t=[])))=true;rw[ha,decide_eq_true hc];rfl
def Ypb{c:UInt8}(h:mU c=true){k:Nat}:dv (10*k+(c.toNat-48))=c:=by unfold mU at h;simp only[decide_eq_true_eq]at h;apply UInt8.toNat_inj.1;rw[Kz];omega
def Yiu:∀(t:aH) (c:UInt8),cO (c::t)=true->c.toNat≠48->dC (aE (c::t))=c::t:=by
 intro t;generalize hn:t.length=n;induction n generalizing t with
 |zero=>
  intro c ha hc;have:t=[]:=tC hn;subst this;have hd:mU c=true:=by simpa[cO]using ha
  have:=Ypb hd (k:=0);have h2:48<=c.toNat/\c.toNat<=57:=by simpa[mU]using hd
  have e:aE [c]=c.toNat-48:=by simp[aE]
  rw[e,zv (by omega),show (c.toNat-48)/10=0 by omega,vK];simp only[Nat.mul_zero,xd]at this;rw[this];rfl
 |succ n ih=>
  intro c ha hc;obtain⟨u,d,rfl⟩:∃u d,t=u++[d]:=⟨t.dropLast,t.getLast (by rintro rfl;simp at hn),(Tq _).symm⟩;simp at hn;have ha':cO (c::u)=true/\mU d=true:=by rw[<-Ew,Zv3,gV]at ha;exact ha
  have ih':=ih u (by omega) c ha'.1 hc;have h2:48<=d.toNat/\d.toNat<=57:=by simpa[mU]using ha'.2
  rw[<-Ew,O5];have qz:aE (c::u)≠0:=by intro h0;rw[h0,vK]at ih';cases ih'
  rw[zv (by omega),show (10*aE (c::u)+(d.toNat-48))/10=aE (c::u) by omega,ih',Ypb ha'.2]
def DJ{s:aH}(h:jK s=true):aq (aE s)=s:=by
 cases s with
 |nil=>cases h
 |cons c t=>
  have h:(cO (c::t)&&(decide (c.toNat≠48)||decide (t=[])))=true:=h;rw[gV,Jh,decide_eq_true_eq,decide_eq_true_eq]at h;obtain⟨ha,hc⟩:=h;by_cases h48:c.toNat=48
  ·rcases hc with hc|hc
   ·exact absurd h48 hc
   subst hc;have:c=48:=UInt8.toNat_inj.1 h48;subst this;rfl
  have e:=Yiu t c ha h48;have:aE (c::t)≠0:=by intro h0;rw[h0,vK]at e;cases e
  unfold aq;rw[ak this,e]
def Qg{a:Nat}(h:aq a=aq b):a=b:=by rw[<-Cs a,h,Cs]
def Zr2:∀{k a b:Nat},a≠0->b<10^k->dC (a*10^k+b)=dC a++js b k:=by
 intro k;induction k with
 |zero=>
  intro a b ha hb;have:b=0:=by simpa using hb
  subst this;simp[js,vK]
 |succ k ih=>
  intro a b ha hb;rw[iD]at hb ⊢;have rZ:b/10<10^k:=(rV (by decide)).2 hb;have hp:0<10^k:=BM (by decide);have qz:a*(10^k*10)+b≠0:=by have:=Au (Nat.pos_of_ne_zero ha) (Au hp (by decide:0<10));omega
  have e1:(a*(10^k*10)+b)/10=a*10^k+b/10:=by rw[<-GA,ki _ 10,Nat.mul_add_div (by decide)]
  have e2:dv (a*(10^k*10)+b)=dv b:=by apply UInt8.toNat_inj.1;rw[Kz,Kz,<-GA,ki _ 10,Nat.mul_add_mod]
  rw[zv qz,e1,ih ha rZ,e2,uJ];congr 1;by_cases nT:b=0
  ·subst nT;unfold js;rw[Nat.zero_div,vK];simp only[List.length_nil,Nat.sub_zero,zO];rw[List.replicate_succ'];rfl
  unfold js;rw[zv nT,iU,AH,<-uJ];rw[show k+1-((dC (b/10)).length+1)=k-(dC (b/10)).length by omega]
def Ym6{k:Nat}(h:b<10^k):(js b k).length=k:=by have:=rI.1 h;simp[js];omega
def Qi(b:Nat):js b 1=aq b:=by
 unfold js aq;split
 ·subst_vars;rw[vK];rfl
 rename_i h;obtain⟨c,t,e,_⟩:=VM h;rw[e];simp
def Zvt(h:n≠0):0<(dC n).length:=by obtain⟨c,t,e,_⟩:=VM h;rw[e];simp
def C5{k:Nat}(hk:0<k):(aq n).length<=k↔n<10^k:=by
 unfold aq;split
 ·subst_vars
  simp;exact⟨fun _=>BM (by decide),fun _=>hk⟩
 exact rI.symm
def Zr1:∃c t,aq n=c::t/\48<=c.toNat/\c.toNat<=57:=by
 have h:=Am n;cases hs:aq n with
 |nil=>exact absurd hs (J1 n)
 |cons c t=>
  rw[hs]at h;have:mU c=true:=by simp[cO]at h;exact h.1
  exact⟨c,t,rfl,by simpa[mU]using this⟩
variable {s:aH}
def UK:∀{s t:aH},(∀c∈s,c.toNat≠47)->ah (s++47::t)=s.length
 |[],t,_=>rfl
 |c::s,t,h=>by
  have h1:=h c oa
  have:=UK (s:=s) (t:=t) fun d hd=>h d (pA _ hd)
  simp[ah,h1,this]
def UL:∀{s:aH},(∀c∈s,c.toNat≠47)->ah s=s.length
 |[],_=>rfl
 |c::s,h=>by
  have h1:=h c oa
  have:=UL (s:=s) fun d hd=>h d (pA _ hd)
  simp[ah,h1,this]
def Zoq:∀{s:aH},ah s<s.length->s.drop (ah s)=47::s.drop (ah s+1)
 |[],h=>by simp[ah]at h
 |c::s,h=>by
  by_cases hc:c.toNat=47
  ·have:c=47:=UInt8.toNat_inj.1 hc
   subst this
   simp[ah]
  ·simp only[ah,hc,if_false,bl]at h ⊢
   have:=Zoq (s:=s) (by omega)
   simpa using this
def MU(h:cO s=true):∀c∈s,c.toNat≠47:=by intro c hc;unfold cO at h;rw[kJ]at h;have:=h c hc;unfold mU at this;simp only[decide_eq_true_eq]at this;omega
def Yis(z:Int):∀c∈aM z,c.toNat≠47:=by
 unfold aM;split
 ·intro c hc;rcases iP.1 hc with rfl|hc
  ·decide
  exact MU (Am _) c hc
 exact MU (Am _)
def Ygn(n:Nat):cE (aq n)=false:=by obtain⟨c,t,e,h1,h2⟩:=Zr1 (n:=n);rw[e];simp[cE];omega
def MV(z:Int):cE (aM z)=decide (z<0):=by
 unfold aM;split
 ·rename_i h;simp[cE,h]
 rename_i h;rw[Ygn];simp[h]
def MW(z:Int):bm (aM z)=aq z.natAbs:=by
 unfold bm;rw[MV];by_cases h:z<0
 ·simp[h,aM]
 simp[h,aM]
def MY(q:Rat):ah (aI q)=(aM q.num).length:=by
 unfold aI;split
 ·exact UL (Yis _)
 exact UK (Yis _)
def Qe(q:Rat):(aI q).take (ah (aI q))=aM q.num:=by
 rw[MY];unfold aI;split
 ·simp
 simp
def Qf(q:Rat)(h:q.den≠1):(aI q).drop (ah (aI q)+1)=aq q.den:=by rw[MY];unfold aI;rw[ak h,<-List.drop_drop];simp
def Fi(q:Rat):ah (aI q)<(aI q).length↔q.den≠1:=by
 rw[MY];unfold aI;split
 ·rename_i h;simp[h]
 rename_i h;simp[h]
def Ym8{b:Int}(h:aM a=aM b):a=b:=by have h1:=congrArg cE h;have h2:=congrArg bm h;rw[MV,MV,decide_eq_decide]at h1;rw[MW,MW]at h2;have h3:=Qg h2;omega
def Yj5{a b:Rat}(h:aI a=aI b):a=b:=by
 have h1:=Qe a;rw[h,Qe b]at h1;have h2:=Ym8 h1;have h3:a.den=b.den:=by
  by_cases ha:a.den=1
  ·have:=mt (Fi a).1 (fun hc=>hc ha);rw[h]at this;rw[Fi]at this;rw[ha];exact(Decidable.not_not.1 this).symm
  have:=(Fi a).2 ha;rw[h]at this;have hb:=(Fi b).1 this;have e:=Qf a ha;rw[h,Qf b hb]at e;exact(Qg e).symm
 exact Rat.ext h2.symm h3
def e_(s:aH):Rat:=mkRat (if cE s then -(aE ((bm s).take (ah (bm s))):Int) else aE ((bm s).take (ah (bm s)))) (if ah (bm s)<(bm s).length then aE ((bm s).drop (ah (bm s)+1)) else 1)
def Ynk(h:aR s=0):ij (cE s) ((bm s).take (ah (bm s))) (decide (ah (bm s)<(bm s).length)) ((bm s).drop (ah (bm s)+1))=true/\((bm s).take (ah (bm s))).length<=600/\((bm s).drop (ah (bm s)+1)).length<=600/\(ah (bm s)<(bm s).length->Nat.gcd (aE ((bm s).take (ah (bm s)))) (aE ((bm s).drop (ah (bm s)+1)))=1):=by
 unfold aR J0 mr at h;split at h
 ·cases h
 rename_i h1;split at h
 ·cases h
 rename_i h2;split at h
 ·cases h
 rename_i h3;refine⟨by simpa using h1,by omega,by omega,fun hs=>?_⟩;rw[decide_eq_true hs]at h3;simpa using h3
def Zu2{n:Int}(hd:d≠0)(h:Nat.gcd n.natAbs d=1):(mkRat n d).num=n/\(mkRat n d).den=d:=by
 have:mkRat n d=⟨n,d,hd,h⟩:=by rw[Rat.mkRat_def,dif_neg hd];exact Rat.normalize_eq_mk' _ _ hd h
 rw[this];exact⟨rfl,rfl⟩
def Yeg(s:aH):s=(if cE s then [45] else [])++bm s:=by
 cases s with
 |nil=>rfl
 |cons c t=>
  unfold bm;by_cases hc:c.toNat=45
  ·have:c=45:=UInt8.toNat_inj.1 hc;subst this;simp[cE]
  simp[cE,hc]
def Gd(h:aR s=0):aI (e_ s)=s/\(aq (e_ s).num.natAbs).length<=600/\(aq (e_ s).den).length<=600:=by
 obtain⟨h1,h2,h3,h4⟩:=Ynk h;have hle:=Ht (bm s);unfold ij at h1;simp only[gV,Jd,Jh,decide_eq_true_eq]at h1;obtain⟨⟨hp,hz⟩,hd⟩:=h1;have CT:cE s=true->aE ((bm s).take (ah (bm s)))≠0:=by intro hn h0;rw[hn,Bool.true_and,decide_eq_false_iff_not]at hz;apply hz;have:=DJ hp;rw[h0]at this;exact this.symm
 have jA:(aq (aE ((bm s).take (ah (bm s))))).length<=600:=by rw[DJ hp];exact h2
 have hb:=Yeg s;by_cases hs:ah (bm s)<(bm s).length
 ·have hd:jK ((bm s).drop (ah (bm s)+1))=true/\(bm s).drop (ah (bm s)+1)≠[48]/\(bm s).drop (ah (bm s)+1)≠[49]:=by
   rcases hd with hd|⟨⟨a,b⟩,c⟩
   ·exact absurd hs (by simpa using hd)
   exact⟨a,b,c⟩
  have hg:=h4 hs;have qG:aE ((bm s).drop (ah (bm s)+1))≠0:=by intro h0;have:=DJ hd.1;rw[h0]at this;exact hd.2.1 this.symm
  have vf:aE ((bm s).drop (ah (bm s)+1))≠1:=by intro h0;have:=DJ hd.1;rw[h0]at this;exact hd.2.2 (this.symm.trans (by decide+kernel))
  have kM:(aq (aE ((bm s).drop (ah (bm s)+1)))).length<=600:=by rw[DJ hd.1];exact h3
  have hv:e_ s=mkRat (if cE s then -(aE ((bm s).take (ah (bm s))):Int) else aE ((bm s).take (ah (bm s)))) (aE ((bm s).drop (ah (bm s)+1))):=by unfold e_;rw[av hs]
  obtain⟨e1,e2⟩:=Zu2 (n:=if cE s then -(aE ((bm s).take (ah (bm s))):Int) else aE ((bm s).take (ah (bm s)))) qG (by split<;>simpa using hg);rw[<-hv]at e1 e2;have Qh:bm s=(bm s).take (ah (bm s))++47::(bm s).drop (ah (bm s)+1):=by
   conv=>lhs;rw[<-Et (ah (bm s)) (bm s)]
   rw[Zoq hs]
  refine⟨?_,?_,by rw[e2];exact kM⟩
  ·unfold aI;rw[e2,ak vf,DJ hd.1,e1];conv=>rhs;rw[hb,Qh]
   unfold aM;cases hn:cE s with
   |false=> simp only[iE,if_false];rw[ak (by omega),dT,DJ hp];rfl
   |true=> have:=CT hn;simp only[if_true];rw[av (by omega),zY,dT,DJ hp];rfl
  rw[e1];split<;>simpa using jA
 have hv:e_ s=mkRat (if cE s then -(aE ((bm s).take (ah (bm s))):Int) else aE ((bm s).take (ah (bm s)))) 1:=by unfold e_;rw[ak hs]
 obtain⟨e1,e2⟩:=Zu2 (n:=if cE s then -(aE ((bm s).take (ah (bm s))):Int) else aE ((bm s).take (ah (bm s)))) (show (1:Nat)≠0 by decide) (Nat.gcd_one_right _);rw[<-hv]at e1 e2;have ht:(bm s).take (ah (bm s))=bm s:=gm (by omega);rw[ht]at e1 hp CT jA;refine⟨?_,?_,by rw[e2];decide+kernel⟩
 ·unfold aI;rw[e2,av rfl,e1];conv=>rhs;rw[hb]
  unfold aM;cases hn:cE s with
  |false=> simp only[iE,if_false];rw[ak (by omega),dT,DJ hp];rfl
  |true=> have:=CT hn;simp only[if_true];rw[av (by omega),zY,dT,DJ hp];rfl
 rw[e1];split<;>simpa using jA
def ZJ(q:Rat):bm (aI q)=if q.den=1 then aq q.num.natAbs else aq q.num.natAbs++47::aq q.den:=by
 have eD:∀t:aH,cE (aM q.num++t)=decide (q.num<0):=by
  intro t;rw[<-MV];have:aM q.num≠[]:=by
   unfold aM;split
   ·simp
   exact J1 _
  cases h:aM q.num with
  |nil=>exact absurd h this
  |cons c u=>rfl
 have hb:∀t:aH,bm (aM q.num++t)=aq q.num.natAbs++t:=by
  intro t;unfold bm;rw[eD];by_cases h:q.num<0
  ·simp[h,aM]
  simp[h,aM]
 unfold aI;split
 ·have:=hb [];simpa using this
 exact hb _
def Zz8(q:Rat):cE (aI q)=decide (q.num<0):=by
 have eD:∀t:aH,cE (aM q.num++t)=decide (q.num<0):=by
  intro t;rw[<-MV];have:aM q.num≠[]:=by
   unfold aM;split
   ·simp
   exact J1 _
  cases h:aM q.num with
  |nil=>exact absurd h this
  |cons c u=>rfl
 unfold aI;split
 ·have:=eD [];simpa using this
 exact eD _
def Zt3(q:Rat):(bm (aI q)).take (ah (bm (aI q)))=aq q.num.natAbs/\(ah (bm (aI q))<(bm (aI q)).length↔q.den≠1)/\(bm (aI q)).drop (ah (bm (aI q))+1)=if q.den=1 then [] else aq q.den:=by
 rw[ZJ];by_cases h:q.den=1
 ·simp only[h,if_true];rw[UL (MU (Am _))];simp
 simp only[h,if_false];rw[UK (MU (Am _))];simp[h]
def vV(q:Rat):Bool:=decide (600<(aq q.num.natAbs).length\/600<(aq q.den).length)
def Ypa:aq 0=[48]:=rfl
def On:aq 1=[49]:=by decide+kernel
def NU(q:Rat):aR (aI q)=if vV q then 4 else 0:=by
 obtain⟨h1,h2,h3⟩:=Zt3 q;have hf:ij (cE (aI q)) (aq q.num.natAbs) (decide (q.den≠1)) (if q.den=1 then [] else aq q.den)=true:=by
  unfold ij;rw[Zru,Zz8];have hz:(decide (q.num<0)&&decide (aq q.num.natAbs=[48]))=false:=by
   by_cases hn:q.num<0
   ·have:aq q.num.natAbs≠[48]:=by intro h;have:=Qg (h.trans Ypa.symm);omega
    simp[this]
   simp[hn]
  rw[hz];by_cases hd:q.den=1
  ·simp[hd]
  have a1:aq q.den≠[48]:=fun h=>q.den_nz (Qg (h.trans Ypa.symm));have a2:aq q.den≠[49]:=fun h=>hd (Qg (h.trans On.symm));simp[hd,Zru,a1,a2]
 have hb:(decide (ah (bm (aI q))<(bm (aI q)).length))=decide (q.den≠1):=decide_eq_decide.2 h2;unfold aR J0;rw[h1,h3,hb];unfold mr;rw[hf];have hg:¬(decide (q.den≠1)=true/\Nat.gcd (aE (aq q.num.natAbs)) (aE (if q.den=1 then [] else aq q.den))≠1):=by
  rintro⟨a,b⟩;have a:q.den≠1:=by simpa using a
  rw[ak a,Cs,Cs]at b;exact b q.reduced
 rw[ak (by simp),ak hg];unfold vV;by_cases hd:q.den=1
 ·rw[hd,On];simp
 simp[hd]
def S9(q:Rat):e_ (aI q)=q:=by
 obtain⟨h1,h2,h3⟩:=Zt3 q;unfold e_;rw[h1,h3,Zz8,Cs];have hn:(if decide (q.num<0)=true then -(q.num.natAbs:Int) else (q.num.natAbs:Int))=q.num:=by
  by_cases h:q.num<0
  ·rw[av (by simpa using h)];omega
  rw[ak (by simpa using h)];omega
 rw[hn];by_cases hd:q.den=1
 ·rw[ak (fun h=>(h2.1 h) hd)];have:=Rat.mkRat_self q;rw[hd]at this;exact this
 rw[av (h2.2 hd),ak hd,Cs];exact Rat.mkRat_self q
variable {i j k n:Nat}
def UM:∀{i n:Nat},i<(ds n).length->(ds n)[i]?=some ((n/1000000000^i%1000000000:Nat):Int)
 |i,n,h=>by
  by_cases hn:n=0
  ·rw[hn,ve]at h;simp at h
  ·rw[BT hn]at h ⊢
   cases i with
   |zero=>simp
   |succ i=>
    rw[Gw,UM (by simpa using h),Jf,iD,ki]
def Yo6(h:i<(ds n).length):n/1000000000^i≠0:=by intro hc;have h1:n<1000000000^i:=(Nat.div_eq_zero_iff_lt (BM (by decide))).1 hc;have:=Mz h1;omega
def Yiq(h:i+1<(ds n).length):aq (n/1000000000^i)=aq (n/1000000000^(i+1))++js (n/1000000000^i%1000000000) 9:=by
 have h0:=Yo6 (i:=i) (n:=n) (by omega);have h1:=Yo6 (i:=i+1) (n:=n) h;have e:n/1000000000^(i+1)=n/1000000000^i/1000000000:=by rw[iD,Jf]
 rw[e]at h1 ⊢;generalize n/1000000000^i=x at*;unfold aq;rw[ak h0,ak h1];have:=Zr2 (k:=9) (a:=x/1000000000) (b:=x%1000000000) h1 (by omega);rw[show (10:Nat)^9=1000000000 by decide]at this;rw[<-this];congr 1;omega
def Ym7(h:i+1=(ds n).length):aq (n/1000000000^i)=js (n/1000000000^i%1000000000) 1:=by
 have h1:n<1000000000^(i+1):=by
  have h2:=xE (iB n);rw[iJ,<-h]at h2;unfold pI at h2;have h3:(1000000000:Int)^(i+1)=((1000000000^(i+1):Nat):Int):=by rw[Int.natCast_pow];rfl
  rw[h3]at h2;exact Int.ofNat_lt.1 h2
 rw[iD]at h1;have h3:n/1000000000^i<1000000000:=Nat.div_lt_of_lt_mul h1;rw[Ad h3,Qi]
def Qb(k:Nat)(q:Rat):Prop:=q.num.natAbs<2^k/\q.den<2^k
def Qj(h:j<=k):2^j<=2^k:=rL (by decide) h
def Qb.mono{q:Rat}(h:Qb j q)(hk:j<=k):Qb k q:=⟨fH h.1 (Qj hk),fH h.2 (Qj hk)⟩
def Nu{b:Int}(hb:b≠0)(h1:a.natAbs<2^k)(h2:b.natAbs<2^k):Qb k (Rat.divInt a b):=by
 constructor
 ·rw[Rat.num_divInt];refine pT ?_ h1;rw[Int.natAbs_ediv_of_dvd]
  ·rw[wg];have:b.sign.natAbs=1:=by rw[Int.natAbs_sign,ak hb]
   rw[this,Nat.one_mul];exact xy _ _
  exact Int.dvd_trans (Int.gcd_dvd_right ..) (Int.dvd_mul_left ..)
 rw[Rat.den_divInt,ak hb];exact pT (xy _ _) h2
def Qb.mul{p q:Rat}(hp:Qb j p)(hq:Qb k q):Qb (j+k) (p*q):=by
 have uZ:((p.den:Nat):Int)≠0:=by have:=p.den_nz;omega
 have w_:((q.den:Nat):Int)≠0:=by have:=q.den_nz;omega
 rw[<-A9 p,<-A9 q,Rat.divInt_mul_divInt];refine Nu (Mm uZ w_) ?_ ?_
 ·rw[wg,mT];exact Dh hp.1 hq.1
 rw[wg,mT,dT,dT];exact Dh hp.2 hq.2
def Qb.add{p q:Rat}(hp:Qb j p)(hq:Qb k q):Qb (j+k+1) (p+q):=by
 have uZ:((p.den:Nat):Int)≠0:=by have:=p.den_nz;omega
 have w_:((q.den:Nat):Int)≠0:=by have:=q.den_nz;omega
 rw[<-A9 p,<-A9 q,Rat.divInt_add_divInt _ _ uZ w_];have e:2^(j+k+1)=2^j*2^k+2^k*2^j:=by rw[iD,mT,ki (2^k)];omega
 refine Nu (Mm uZ w_) ?_ ?_
 ·refine pT (Int.natAbs_add_le ..) ?_;rw[wg,wg,dT,dT,e];exact Nat.add_lt_add (Dh hp.1 hq.2) (Dh hq.1 hp.2)
 rw[wg,dT,dT,e];exact fH (Dh hp.2 hq.2) (Nat.le_add_right _ _)
def Qb.neg{q:Rat}(h:Qb k q):Qb k (-q):=by
 refine⟨?_,?_⟩
 ·rw[Rat.neg_num,zY];exact h.1
 rw[Rat.neg_den];exact h.2
def Qb.inv{q:Rat}(h:Qb k q)(h0:q≠0):Qb k q⁻¹:=by have hn:q.num≠0:=fun hc=>h0 (Rat.num_eq_zero.1 hc);rw[<-A9 q,Rat.inv_divInt];exact Nu hn (by rw[dT];exact h.2) h.1
def Qb.int(h:z.natAbs<2^k)(hk:0<k):Qb k (z:Rat):=by refine⟨by simpa using h,?_⟩;rw[Rat.den_intCast];exact fH (by decide) (Qj (j:=1) hk)
def zm(h:n<2^k):(ds n).length<=k:=Mz (fH h (Jg (by decide) k))
def D5(h:n<2^k):(dC n).length<=k:=rI.1 (fH h (Jg (by decide) k))
def IK(h:n<2^k):(aq n).length<=k+1:=by have:=D5 h;unfold aq;split<;>simp<;>omega
def LF(h:z.natAbs<2^k):(aM z).length<=k+2:=by have:=IK h;unfold aM;split<;>simp<;>omega
def Yok(k:Nat):10^k<=2^(4*k):=by rw[Nat.pow_mul];exact Jg (by decide) k
def Ypf(h:aR s=0)(hn:s.length<=n):Qb (4*n+4) (e_ s):=by
 obtain⟨e,_,_⟩:=Gd h;have hb:=ZJ (e_ s);have l1:(bm (aI (e_ s))).length<=n:=by
  rw[e];unfold bm;split
  ·simp;omega
  exact hn
 rw[hb]at l1;have g:∀m:Nat,(aq m).length<=n+1->m<2^(4*n+4):=fun m hm=>by have:=(C5 (n:=m) (k:=n+1) (by omega)).1 hm;exact fH this (by have:=Yok (n+1);rw[vc]at this;exact this)
 split at l1
 ·rename_i h1;have h2:(aq 1).length=1:=by rw[On];rfl
  exact⟨g _ (by omega),by rw[h1];exact g 1 (by omega)⟩
 simp at l1;exact⟨g _ (by omega),g _ (by omega)⟩
def A.b221:=A.q Tryz.f221
def A.k221:=@A.kk 221 13 [.tmp 4] A.b221 (by kernel_rfl) rfl
def A.Qk:=A.q Tryz.f158
def A.mw:=A.ql A.Qk 0 []
def A.b158:=(fun x0=>A.qb A.Qk [x0]) A.mw
def A.k158:=@A.kk 158 42 [.tmp 4] A.b158 (by kernel_rfl) rfl
def A.Ql:=A.q Tryz.f160
def A.oL:=A.ql A.Ql 0 []
def A.b160:=(fun x0=>A.qb A.Ql [x0]) A.oL
def A.k160:=@A.kk 160 35 [.tmp 4] A.b160 (by kernel_rfl) rfl
def Zth{l:List Int}(hs:Sl h N v (dI l))(hi:i<4611686018427387904)(hl:l.length<4611686018427387904):A.C.call (.func 221 [] []) [v,.int .i64 i] ⟨h,N,w⟩=some (.int .i64 (zI l i),⟨h,N,w⟩):=by
 apply Call.eq;have hlen:=hs.len;rw[jo]at hlen;rw[aP,A.k221 (by simp)];by_cases hc:i<l.length
 ·have PW:(i:Int)<(l.length:Int):=by omega
  obtain⟨d,hd⟩:=bs hc;obtain⟨j,o,c,e,rw,q1,q2,q3,q4⟩:=hs.at (jq hd);simp[A.b221,hlen,PW,q1,q3,q4,Ypr hd]
 have PW:¬(i:Int)<(l.length:Int):=by omega
 simp[A.b221,hlen,PW,Zwd (AK hc)]
structure AdI (h:T O) (N:Nat) (la lb:List Int) (m:Nat) (r:T V) (st:St):Prop where
 w:az N st.w=[]
 ad:ab h N st.h st.n
 ex:∃k c out D,k+m=max la.length lb.length+1/\r.get 7=some (.int .i64 k)/\r.get 6=some (.int .i64 c)/\r.get 5=some out/\0<=c/\c<=1/\(m=0->c=0)/\Own 1 3 N st.h st.n out (rF D)/\D.length=k/\Di D/\vI D+pI k*c=vI (la.take k)+vI (lb.take k)
def UN{l:List Int}(h:l.length<=k):l.take k=l:=gm h
def Yq9(hu:Sl h N u (dI la))(hv:Sl h N v (dI lb))(da:Di la)(db:Di lb)(l1:la.length<1099511627776)(l2:lb.length<1099511627776):Fn A.C 158 [u,v] h N (fun x h' n'=>∃l,Sl h' n' x (dI l)/\Di l/\vI l=vI la+vI lb/\l.length<=max la.length lb.length+1):=by
 intro w;have lu:=hu.len;have lv:=hv.len;rw[jo]at lu lv;rw[aP,A.k158 (by simp)];simp[A.b158];refine cB [(5,40)] (fun e r st=>e=.exit 0/\az N st.w=[]/\ab h N st.h st.n/\∃out D,r.get 5=some out/\Own 1 3 N st.h st.n out (rF D)/\Di D/\vI D=vI la+vI lb/\D.length<=max la.length lb.length+1) (AdI h N la lb) (max la.length lb.length+1) ?_ ?_ ?_
 ·exact⟨by simp,ab.refl,0,0,.aa,[],by omega,by simp,by simp,by simp,by omega,by omega,fun _=>rfl,Own.nil,rfl,Di.nil,by simp[vI]⟩
 ·rintro m r ⟨H,n1,W⟩ hr hf ⟨hW,hK,k,c,out,D,hk,h7,h6,h5,c0,c1,cz,ho,hD,dD,nW⟩;simp only at hW hK ho;rw[bG];by_cases vE:k<la.length\/k<lb.length\/0<c
  ·obtain⟨m',rfl⟩:∃m',m=m'+1:=⟨m-1,by
    have:m≠0:=fun hm=>by have:=cz hm;omega
    omega⟩;have dx:=Yps da k;have dy:=Yps db k;have e1:=fun w=>Zth (w:=w) (i:=k) (hu.ad hK) (by omega) (by omega);have e2:=fun w=>Zth (w:=w) (i:=k) (hv.ad hK) (by omega) (by omega);obtain⟨x,hx⟩:∃x,zI la k=x:=⟨_,rfl⟩;obtain⟨y,hy⟩:∃y,zI lb k=y:=⟨_,rfl⟩;rw[hx]at dx e1;rw[hy]at dy e2;have t1:(x+y+c).tmod 1000000000=(x+y+c)%1000000000:=Gq (by omega);have t2:(x+y+c).tdiv 1000000000=(x+y+c)/1000000000:=Dd (by omega);have t3:bn .i64 (x+y)=x+y:=cN (by omega) (by omega);have t4:bn .i64 (x+y+c)=x+y+c:=cN (by omega) (by omega);have t5:bn .i64 ((x+y+c)/1000000000)=(x+y+c)/1000000000:=cN (by omega) (by omega);have nv:vI (D++[(x+y+c)%1000000000])+pI (k+1)*((x+y+c)/1000000000)=vI (la.take (k+1))+vI (lb.take (k+1)):=by
    rw[EL,hD,Zol,Zol,hx,hy,xC];have hm:=Gy (x+y+c) 1000000000;generalize (x+y+c)/1000000000=Q at*;generalize (x+y+c)%1000000000=R at*;have:R=x+y+c-1000000000*Q:=by omega
    subst this;grind
   have hz:m'=0->(x+y+c)/1000000000=0:=fun hm=>by
    have:x=0:=by rw[<-hx];exact Zwd (by omega)
    have:y=0:=by rw[<-hy];exact Zwd (by omega)
    omega
   have Ab:=ho.ad (ab.refl.new (.cells [.int .i64 ((x+y+c)%1000000000)] 3 true));obtain⟨v',h',w',f1,f2,f3,_,f5⟩:=Az (x:=[.int .i64 ((x+y+c)%1000000000)]) (u:=.slice n1 0 1 (some 1) 1) (bytes:=8) (w:=W) Ab (by have:=hK.le;omega) (by decide) rfl (by simp[fO,St.row,aO]) (by simp[rF];omega);rw[<-GN]at f5;have f6:az N w'=[]:=by rw[f2];exact hW
   have kz:=(hK.new (.cells [.int .i64 ((x+y+c)%1000000000)] 3 true)).then f3;have J3:k<la.length\/(¬k<la.length/\k<lb.length)\/(¬k<la.length/\¬k<lb.length/\0<c):=by omega
   rcases J3 with g1|⟨g1,g2⟩|⟨g1,g2,g3⟩
   ·have i1:(k:Int)<(la.length:Int):=by omega
    simp[A.mw,hr,h7,h6,h5,lu,i1,e1,e2,t1,t3,t4,ae];simp(disch:=first|(simp;done)|omega|rfl) [f1,hf,h7];exact⟨m',by omega,⟨f6,kz,k+1,(x+y+c)/1000000000,v',D++[(x+y+c)%1000000000],by omega,by simp,by simp[t2],by simp,by omega,by omega,hz,f5,by simp[hD],dD.app (Di.one (by omega) (by omega)),nv⟩⟩
   ·have i1:¬(k:Int)<(la.length:Int):=by omega
    have i2:(k:Int)<(lb.length:Int):=by omega
    simp[A.mw,hr,h7,h6,h5,lu,lv,i1,i2,e1,e2,t1,t3,t4,ae];simp(disch:=first|(simp;done)|omega|rfl) [f1,hf,h7];exact⟨m',by omega,⟨f6,kz,k+1,(x+y+c)/1000000000,v',D++[(x+y+c)%1000000000],by omega,by simp,by simp[t2],by simp,by omega,by omega,hz,f5,by simp[hD],dD.app (Di.one (by omega) (by omega)),nv⟩⟩
   have i1:¬(k:Int)<(la.length:Int):=by omega
   have i2:¬(k:Int)<(lb.length:Int):=by omega
   simp[A.mw,hr,h7,h6,h5,lu,lv,g3,i1,i2,e1,e2,t1,t3,t4,ae];simp(disch:=first|(simp;done)|omega|rfl) [f1,hf,h7];exact⟨m',by omega,⟨f6,kz,k+1,(x+y+c)/1000000000,v',D++[(x+y+c)%1000000000],by omega,by simp,by simp[t2],by simp,by omega,by omega,hz,f5,by simp[hD],dD.app (Di.one (by omega) (by omega)),nv⟩⟩
  obtain⟨g1,g2,g3⟩:¬k<la.length/\¬k<lb.length/\¬0<c:=by omega
  have i1:¬(k:Int)<(la.length:Int):=by omega
  have i2:¬(k:Int)<(lb.length:Int):=by omega
  obtain rfl:c=0:=by omega
  rw[UN (by omega),UN (by omega),Int.mul_zero,Int.add_zero]at nW;simp[A.mw,hr,hf,h7,h6,lu,lv,i1,i2,hW,hK];exact⟨out,h5,D,ho,dD,nW,by omega⟩
 rintro _ r ⟨H,n1,W⟩ hr ⟨rfl,hW,hK,out,D,h5,ho,dD,nW,hl⟩;simp only at hW hK ho;simp[h5,ay,hW,hK];exact⟨D,ho.sl,dD,nW,hl⟩
variable {N:Nat} {h:T O}
def A.b92:=A.q Tryz.f92
def A.k92:=@A.kk 92 40 [.cell 4 (some 2)] A.b92 (by kernel_rfl) rfl
def A.b130:=A.q Tryz.f130
def A.k130:=@A.kk 130 9 [.cell 2 (some 2)] A.b130 (by kernel_rfl) rfl
def A.b52:=A.q Tryz.f52
def A.k52:=@A.kk 52 16 [.cell 4 (some 2)] A.b52 (by kernel_rfl) rfl
def UO(k:Nat):pI k=((1000000000^k:Nat):Int):=by unfold pI;simp
def Rg.ad{h':T O}{N':Nat}{v:V}{z:Int}(s:Rg h N v z)(k:ab h N h' N'):Rg h' N' v z:=by obtain⟨u,h1,h2⟩:=s;exact⟨u,h1,h2.ad k⟩
def kr:∀x∈[V.bool false,V.aa],∀k m,x≠.int k m:=by intro x hx k m;simp at hx;rcases hx with rfl|rfl<;>simp
def Ywk{b:Bool}(hu:JE u):∀x∈[V.bool b,u],∀k m,x≠.int k m:=by
 intro x hx k m;simp at hx;rcases hx with rfl|rfl
 ·simp
 rcases hu with rfl|rfl|⟨_,_,_,_,_,rfl⟩<;>simp
def Yd5(a b:Nat):(ds (a*b)).length<=(ds a).length+(ds b).length:=by refine Mz ?_;have h1:=xE (iB a);have h2:=xE (iB b);rw[iJ]at h1 h2;rw[UO]at h1 h2;rw[mT];exact Dh (Int.ofNat_lt.1 h1) (Int.ofNat_lt.1 h2)
def Yad(hs:Rg h N v z)(hl:(ds z.natAbs).length<1099511627776):Fn A.C 130 [v] h N (fun u h' n'=>Rg h' n' u (-z)):=by
 intro w;obtain⟨u,rfl,hu⟩:=hs;have o1:=Sl.form hu |>.one;have o2:=Sl.form hu |>.cells;unfold V.one at o1;unfold V.cells at o2;have kB:=(((ab.refl (h:=h) (n:=N)).new (.cells [.bool (decide (z<0)),u] 80 true)).new (.cells [.bool false,.aa] 80 true));rw[aP,A.k130 (by simp)];simp[A.b130,o1,aS];refine au (zn (b:=!decide (z<0)) (n:=z.natAbs) (Sl.ad hu kB) (iB _) (iJ _) (by omega)) ?_;rintro v2 h2 n2 k2 hv;have xS:=k2.le;have g1:=(k2.get (N+1) (by omega));rw[T.ag,av rfl]at g1;have kk:=kB.trans k2;have ez:(if (!decide (z<0))=true then -((z.natAbs:Nat):Int) else ((z.natAbs:Nat):Int))= -z:=by by_cases h0:z<0<;>simp[h0]<;>omega
 rw[ez]at hv;obtain⟨u2,rfl,gp⟩:=hv;have p1:=Sl.form gp |>.one;have p2:=Sl.form gp |>.cells;unfold V.one at p1;unfold V.cells at p2;simp[g1,p1,ae,bM,aS,aO,ay];exact⟨kk.set (by omega),u2,by simp,Sl.setInt gp g1 kr rfl⟩
def Yqo(a b:Int):(if (!(decide (a<0)==decide (b<0)))=true then -((a.natAbs*b.natAbs:Nat):Int) else ((a.natAbs*b.natAbs:Nat):Int))=a*b:=by
 have h0:((a.natAbs*b.natAbs:Nat):Int)=(a.natAbs:Int)*(b.natAbs:Int):=by simp
 rw[h0];by_cases h1:a<0<;>by_cases h2:b<0
 ·have ha:(a.natAbs:Int)= -a:=by omega
  have hb:(b.natAbs:Int)= -b:=by omega
  rw[ha,hb];simp[h1,h2,Int.neg_mul,Int.mul_neg]
 ·have ha:(a.natAbs:Int)= -a:=by omega
  have hb:(b.natAbs:Int)=b:=by omega
  rw[ha,hb];simp[h1,h2,Int.neg_mul]
 ·have ha:(a.natAbs:Int)=a:=by omega
  have hb:(b.natAbs:Int)= -b:=by omega
  rw[ha,hb];simp[h1,h2,Int.mul_neg]
 have ha:(a.natAbs:Int)=a:=by omega
 have hb:(b.natAbs:Int)=b:=by omega
 rw[ha,hb];simp[h1,h2]
def Qm{x y:V}{b:Int}(hx:Rg h N x a)(hy:Rg h N y b)(l1:(ds a.natAbs).length<500000000000)(l2:(ds b.natAbs).length<500000000000):Fn A.C 52 [x,y] h N (fun u h' n'=>Rg h' n' u (a*b)):=by
 intro w;obtain⟨u,rfl,hu⟩:=hx;obtain⟨v,rfl,hv⟩:=hy;have o1:=Sl.form hu |>.one;have o2:=Sl.form hu |>.cells;have o3:=Sl.form hv |>.one;have o4:=Sl.form hv |>.cells;unfold V.one at o1 o3;unfold V.cells at o2 o4;have kB:=((((ab.refl (h:=h) (n:=N)).new (.cells [.bool (decide (a<0)),u] 80 true)).new (.cells [.bool (decide (b<0)),v] 80 true)).new (.cells [.bool false,.aa] 80 true));rw[aP,A.k52 (by simp)];simp[A.b52,o1,o3,aS,bz];generalize hB:((h.set N (.cells [.bool (decide (a<0)),u] 80 true)).set (N+1) (.cells [.bool (decide (b<0)),v] 80 true)).set (N+1+1) (.cells [.bool false,.aa] 80 true)=HB at*;have gr:HB.get (N+1+1)=some (.cells [.bool false,.aa] 80 true):=by rw[<-hB];simp
 refine au (Zw2 (Sl.ad hu kB) (Sl.ad hv kB) (iB _) (iB _) (iJ _) (iJ _) (by omega)) ?_;rintro v1 h1 n1 k1 q1;have Av:(ds (a.natAbs*b.natAbs)).length<1152921504606846976:=by have:=Yd5 a.natAbs b.natAbs;omega
 simp[];refine au (zn (n:=a.natAbs*b.natAbs) q1 (iB _) (iJ _) Av) ?_;rintro v2 h2 n2 k2 fL;have yJ:=k1.le;have lf:=k2.le;have g1:=(k2.get (N+1+1) (by omega)).trans ((k1.get (N+1+1) (by omega)).trans gr);have ez:(if (!(decide (a<0)==decide (b<0)))=true then -((a.natAbs*b.natAbs:Nat):Int) else ((a.natAbs*b.natAbs:Nat):Int))=a*b:=Yqo a b;rw[ez]at fL;obtain⟨u2,rfl,gp⟩:=fL;have p1:=Sl.form gp |>.one;have p2:=Sl.form gp |>.cells;unfold V.one at p1;unfold V.cells at p2;simp[g1,p1,ae,bM,aS,aO,ay,c9.c_];exact⟨by split<;>simp[az],((kB.trans k1).trans k2).set (by omega),u2,rfl,Sl.setInt gp g1 kr rfl⟩
end
end Go.Mx
