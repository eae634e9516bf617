/-lensletref01-/
import Derived.Test.YteoackkadadmdaaGreatDoorMxLong
set_option linter.all false
namespace Go.Mx
open Go Go.Proofs
set_option maxRecDepth 1000000
def A.q9:av:=.seq (sr [mv 22 8,mv 23 1,ln 24 23,bi 25 .lss 22 24]
 (cd 25
 (.skip)
 (.exit 2)))
 (.seq (.block 3 (.seq (.aX [mv 28 5,mv 29 6,mv 30 8,bi 31 .add 29 30,ia 32 1 28 31,ld 33 32,mv 34 0,mv 35 6,ia 36 1 34 35,ld 37 36,mv 38 1,mv 39 8,ia 40 1 38 39,ld 41 40,bi 42 .mul 37 41,bi 43 .add 33 42,mv 44 7,bi 45 .add 43 44,mv 9 45] [0,0,0,6,15,31,0,0,192,448,0,0,3072,7168,16320,32767,0,131071,262143])
 (sr [mv 46 5,mv 47 6,mv 48 8,bi 49 .add 47 48,mv 50 9,bc 51 .rem 50 1000000000,ia 52 1 46 49,so 52 51]
 (.aR [mv 53 9,bc 54 .quo 53 1000000000,mv 7 54]))))
 (.aR [mv 26 8,bc 27 .add 26 1,mv 8 27]))
def A.q_:av:=.seq (sr [mv 16 6,mv 17 0,ln 18 17,bi 19 .lss 16 18]
 (cd 19
 (.skip)
 (.exit 0)))
 (.seq (.block 1 (sr [mc 7 0]
 (.seq (sr [mc 8 0]
 (.block 2 (.loop A.q9)))
 (.aR [mv 55 5,mv 56 6,mv 57 1,ln 58 57,bi 59 .add 56 58,mv 60 5,mv 61 6,mv 62 1,ln 63 62,bi 64 .add 61 63,ia 65 1 60 64,ld 66 65,mv 67 7,bi 68 .add 66 67,ia 69 1 55 59,so 69 68]))))
 (.aR [mv 20 6,bc 21 .add 20 1,mv 6 21]))
def A.b224:av:=sr [mN 4]
 (sr [mv 10 0,ln 11 10,mv 12 1,ln 13 12,bi 14 .add 11 13,ge 15 (.bY 3 1 8 [.int .i64 0] (tq 14) (tq 14)),mv 5 15]
 (.seq (sr [mc 6 0]
 (.block 0 (.loop A.q_)))
 (sr [mv 70 5,c1 71 223 70,mv 4 71]
 (.ret))))
def A.c224:A.F 224=some ⟨72,[.tmp 4],A.b224⟩:=by kernel_rfl
def A.k224:=@A.kk 224 _ _ _ A.c224 rfl
structure MuB (h:T O) (N:Nat) (la lb:List Int) (i:Nat) (Xw:List Int) (a:Int) (m:Nat) (r:T V) (st:St):Prop where
 w:ax N st.w=[]
 ae:ab h N st.h (N+1)
 n:st.n=N+1
 ex:∃k out c,k+m=lb.length/\r.get 8=some (.int .i64 k)/\st.h.get N=some (.cells (dI out) 3 true)/\out.length=la.length+lb.length/\r.get 7=some (.int .i64 c)/\0<=c/\c<1000000000/\Di out/\(∀t,i+lb.length<=t->t<out.length->out[t]?=some 0)/\vI out+pI (i+k)*c=vI Xw+pI i*(a*vI (lb.take k))
structure MuA (h:T O) (N:Nat) (la lb:List Int) (m:Nat) (r:T V) (st:St):Prop where
 w:ax N st.w=[]
 ae:ab h N st.h (N+1)
 n:st.n=N+1
 ex:∃i out,i+m=la.length/\r.get 6=some (.int .i64 i)/\st.h.get N=some (.cells (dI out) 3 true)/\out.length=la.length+lb.length/\Di out/\(∀t,i+lb.length<=t->t<out.length->out[t]?=some 0)/\vI out=vI (la.take i)*vI lb
def Xx{h:T O}{N:Nat}{u v:V}{la lb:List Int}{a b:Nat}(hu:Sl h N u (dI la))(hv:Sl h N v (dI lb))(da:Di la)(db:Di lb)(ea:vI la=a)(eb:vI lb=b)(hl:la.length+lb.length<1099511627776):Fn A.C 224 [u,v] h N (fun x h' n'=>Dn h' n' x (a*b)):=by
 intro w
 have lu:=hu.len
 have lv:=hv.len
 rw[gk]at lu lv
 rw[aO,A.k224 (by simp)]
 have cs:((la.length:Int)+(lb.length:Int)).toNat=la.length+lb.length:=by omega
 simp(disch:=first|(simp;done)|omega|rfl) [A.b224,lu,lv,cs]
 refine bP [(6,9),(16,69)] (fun e r st=>e=.exit 0/\MuA h N la lb 0 r st) (MuA h N la lb) la.length ?_ ?_ ?_
 ·refine⟨by simp,ab.refl.new _,rfl,0,List.replicate (la.length+lb.length) 0,by omega,by simp,by simp[Ue],by simp,Di.DL _,fun t _ ht=>?_,by simp[Ua,vI]⟩
  simp at ht
  simp[ht]
 ·rintro m r ⟨H,n1,W⟩ hr hf ⟨hW,hK,hn,i,out,hi,h6,ak,gV,iE,hz,l7⟩
  simp only at hW hK hn ak
  subst hn
  rw[bq]
  cases m with
  |zero=>
   have:i=la.length:=by omega
   subst this
   simp[A.q_,hr,hf,h6,lu]
   exact⟨hW,hK,rfl,la.length,out,by omega,by simp[h6],ak,gV,iE,hz,l7⟩
  |succ m=>
   obtain⟨x,hx⟩:=bp (l:=la) (k:=i) (by omega)
   obtain⟨b1,b2,b3,b4,b5,z1,z2,z3,z4⟩:=hu.at (gl hx)
   have z3:=(hK.get _ z2).trans z3
   have MG:=da.get hx
   have yF:(i:Int)<(la.length:Int):=by omega
   have CD:i<la.length:=by omega
   simp[A.q_,hr,h6,yF,lu]
   refine bP [(7,9),(22,54)] (fun e r st=>e=.exit 2/\MuB h N la lb i out x 0 r st) (MuB h N la lb i out x) lb.length ?_ ?_ ?_
   ·exact⟨hW,hK,rfl,0,out,0,by omega,by simp,ak,gV,by simp,by omega,by omega,iE,hz,by simp[vI]⟩
   ·rintro m2 r2 ⟨H2,n2,W2⟩ dK c_ ⟨dX,eN,ff,k,od,c,hk,h8,pS,CU,h7,c0,c1,kp,ed,jt⟩
    simp only at dX eN ff pS
    subst ff
    rw[bq]
    cases m2 with
    |zero=>
     have:k=lb.length:=by omega
     subst this
     simp[A.q9,hr,dK,c_,h8,lv]
     exact⟨dX,eN,rfl,lb.length,od,c,by omega,by simp[h8],pS,CU,by simp[h7],c0,c1,kp,ed,jt⟩
    |succ m2=>
     obtain⟨y,hy⟩:=bp (l:=lb) (k:=k) (by omega)
     obtain⟨g1,g2,g3,g4,g5,y1,y2,y3,y4⟩:=hv.at (gl hy)
     have y3:=(eN.get _ y2).trans y3
     have z3:=(eN.get _ z2).trans ((hK.get _ z2).symm.trans z3)
     have Jq:=db.get hy
     obtain⟨o,ho⟩:=bp (l:=od) (k:=i+k) (by omega)
     have hod:=kp.get ho
     have bR:(k:Int)<(lb.length:Int):=by omega
     have hk2:k<lb.length:=by omega
     have p0:0<=x*y:=wL MG.1 Jq.1
     have p1:x*y<=999999999*999999999:=Int.mul_le_mul (by omega) (by omega) Jq.1 (by omega)
     have q1:(i:Int)+(k:Int)<(la.length:Int)+(lb.length:Int):=by omega
     have q2:i+k<la.length+lb.length:=by omega
     have q3:(0:Int)<=(i:Int)+(k:Int):=by omega
     have t1:(o+x*y+c).tmod 1000000000=(o+x*y+c)%1000000000:=Ds (by omega)
     have t2:(o+x*y+c).tdiv 1000000000=(o+x*y+c)/1000000000:=AK (by omega)
     have w8:=gk od
     have w7:=AX (l:=od) (k:=i+k) (v:=(o+x*y+c)%1000000000) (by omega)
     have e1:vI (od.set (i+k) ((o+x*y+c)%1000000000))+pI (i+(k+1))*((o+x*y+c)/1000000000)=vI out+pI i*(x*vI (lb.take (k+1))):=by
      have hm:=Dv (o+x*y+c) 1000000000
      rw[B6 ho,yx hy,show i+(k+1)=(i+k)+1 by omega,uO]
      have hp:=OE i k
      generalize (o+x*y+c)/1000000000=Q at*
      generalize (o+x*y+c)%1000000000=R at*
      have:R=o+x*y+c-1000000000*Q:=by omega
      rw[this]
      have h3:vI od=vI out+pI i*(x*vI (lb.take k))-pI (i+k)*c:=by omega
      rw[h3,hp]
      grind
     generalize hP:x*y=P at*
     have b1':bu .i64 P=P:=cF (by omega) (by omega)
     have b2':bu .i64 (o+P)=o+P:=cF (by omega) (by omega)
     have b3':bu .i64 (o+P+c)=o+P+c:=cF (by omega) (by omega)
     have b4':bu .i64 ((o+P+c)/1000000000)=(o+P+c)/1000000000:=cF (by omega) (by omega)
     have f1:b1<N+1:=by omega
     have f2:g1<N+1:=by omega
     have r0:=Dy (o+P+c) (b:=1000000000) (by decide)
     have r1:=Dw (o+P+c) (b:=1000000000) (by decide)
     have d0:0<=(o+P+c)/1000000000:=Int.ediv_nonneg (by omega) (by decide)
     have d1:(o+P+c)/1000000000<1000000000:=Int.ediv_lt_of_lt_mul (by decide) (by omega)
     simp(disch:=first|(simp;done)|omega|rfl) [-getElem?_pos,A.q9,hr,dK,c_,h6,h7,h8,lu,lv,bR,pS,gl ho,z1,z3,z4,y1,y3,y4,hP,b1',b2',b3',b4',t1,t2,w7,f1,f2]
     refine⟨m2,by omega,⟨by simp[ax,dX],eN.set (aW N),rfl,k+1,_,_,by omega,by simp,by simp,by simp[CU],by simp,d0,d1,kp.set r0 r1,fun t Jd xe=>?_,e1⟩⟩
     rw[ec (by omega)]
     exact ed t Jd (by simpa using xe)
   ·rintro _ r2 ⟨H2,n2,W2⟩ dK ⟨rfl,dX,eN,ff,k,od,c,hk,h8,pS,CU,h7,c0,c1,kp,ed,jt⟩
    simp only at dX eN ff pS
    subst ff
    have:k=lb.length:=by omega
    subst this
    have ho:=ed (i+lb.length) (by omega) (by omega)
    have CV:=hf.inner (D':=[(7,9),(22,54)]) rfl (by simp) dK
    have q1:(i:Int)+(lb.length:Int)<(la.length:Int)+(lb.length:Int):=by omega
    have q2:i+lb.length<la.length+lb.length:=by omega
    have q3:(0:Int)<=(i:Int)+(lb.length:Int):=by omega
    have w8:=gk od
    have w7:=AX (l:=od) (k:=i+lb.length) (v:=c) (by omega)
    rw[wo]at jt
    have e1:vI (od.set (i+lb.length) c)=vI (la.take (i+1))*vI lb:=by
     rw[B6 ho,yx hx]
     have:vI od+pI (i+lb.length)*(c-0)=vI out+pI i*(x*vI lb):=by rw[Int.sub_zero];exact jt
     rw[this,l7]
     grind
    simp(disch:=first|(simp;done)|omega|rfl) [-getElem?_pos,hr,dK,h6,h7,lv,pS,gl ho,w7,CV]
    refine⟨m,by omega,⟨by simp[ax,dX],eN.set (aW N),rfl,i+1,_,by omega,by simp,by simp,by simp[CU],kp.set c0 c1,fun t Jd xe=>?_,e1⟩⟩
    rw[ec (by omega)]
    exact ed t (by omega) (by simpa using xe)
 ·rintro _ r ⟨H,n1,W⟩ hr ⟨rfl,hW,hK,hn,i,out,hi,h6,ak,gV,iE,hz,l7⟩
  simp only at hW hK hn ak
  subst hn
  have:i=la.length:=by omega
  subst this
  rw[wo,ea,eb]at l7
  have nO:Sl H (N+1) (.slice N 0 (la.length+lb.length) (some (la.length+lb.length)) 1) (dI out):=Sl.row (by omega) ak (by simp[gV]) (fun k hk=>by simp at hk;omega)
  simp[hr]
  refine aA (Hp nO (by omega)) ?_
  rintro y h2 n2 k2 hy
  rw[Gc iE (n:=a*b) (by rw[l7];simp)]at hy
  simp[az,hW]
  exact⟨hK.trans k2,hy⟩
open Go
variable {N i n n1:Nat} {h h1:T O} {r:T V} {v:V} {w:List Nat}
structure dP (D:Nat->Prop) (h:T O) (n:Nat) (h':T O) (n':Nat):Prop where
 le:n<=n'
 get:∀i,i<n->¬D i->h'.get i=h.get i
def dP.refl{D:Nat->Prop}:dP D h n h n:=⟨aW _,fun _ _ _=>rfl⟩
def ab.upd{D:Nat->Prop}{h':T O}{n':Nat}(k:ab h n h' n'):dP D h n h' n':=⟨k.le,fun i hi _=>k.get i hi⟩
def dP.trans{D:Nat->Prop}{h2:T O}{n2:Nat}(a:dP D h n h1 n1)(b:dP D h1 n1 h2 n2):dP D h n h2 n2:=
 ⟨sJ a.le b.le,fun i hi hd=>(b.get i (fE hi a.le) hd).trans (a.get i hi hd)⟩
def dP.mono{D D2:Nat->Prop}(a:dP D h n h1 n1)(hd:∀i,i<n->D i->D2 i):dP D2 h n h1 n1:=⟨a.le,fun i hi hn=>a.get i hi fun hc=>hn (hd i hi hc)⟩
def dP.set{D:Nat->Prop}{o:O}(a:dP D h n h1 n1)(hi:D i\/n<=i):dP D h n (h1.set i o) n1:=
 ⟨a.le,fun j hj hd=>by
  rw[T.ag,ar ?_]
  ·exact a.get j hj hd
  ·rintro rfl
   rcases hi with hi|hi
   ·exact hd hi
   ·omega⟩
def dP.up{D:Nat->Prop}{n2:Nat}(a:dP D h n h1 n1)(hn:n1<=n2):dP D h n h1 n2:=⟨sJ a.le hn,a.get⟩
def dP.new{D:Nat->Prop}(a:dP D h n h1 n1)(o:O):dP D h n (h1.set n1 o) (n1+1):=(a.set (.inr a.le)).up (uz _)
def yC{N i:Nat}:∀{w:List Nat},i∈ax N w->i∈w/\i<N
 |[],h=>by simp[ax]at h
 |j::w,h=>by
  simp only[ax]at h
  split at h
  ·unfold uN at h
   split at h
   ·have:=yC h;exact⟨o9 _ this.1,this.2⟩
   ·rcases kv.1 h with h|h
    ·subst h;exact⟨pn,by assumption⟩
    ·have:=yC h;exact⟨o9 _ this.1,this.2⟩
  ·have:=yC h;exact⟨o9 _ this.1,this.2⟩
def Zyx:ax N []=[]:=rfl
attribute [simp] Zyx
def xy(h:∀i∈w,N<=i):ax N w=[]:=Zpt h
def nS(st:St)(i:Nat)(send:Option V)(zero:V):Option O->Option (V×St)
 |some (.chan cap buf)=>match send with
  |some v=>if buf.length<cap then some (.bg [.int .i64 0,.bool false],st.write i (.chan cap (buf++[v]))) else some (.bg [.int .i64 (-1),.bool false],st)
  |none=>match buf with
   |v::buf=>some (.bg [.int .i64 0,.bool true,v],st.write i (.chan cap buf))
   |[]=>some (.bg [.int .i64 (-1),.bool false,zero],st)
 |_=>none
def Yp8{st:St}{send:Option V}{zero:V}:T5 st i send zero=nS st i send zero (st.h.get i):=by
 unfold T5 nS
 rcases st.h.get i with _|o
 ·rfl
 ·cases o with
  |chan cap buf=>cases send with
   |some v=>rfl
   |none=>cases buf<;>rfl
  |_=>cases send<;>rfl
def Pb(C:Cx)(K:List Kf)(Q:Rs->Prop)(d:Nat)(ops:List dt)(r:T V)(n:Nat)(m:List Nat):Option (V×St)->Prop
 |some (v,cf)=>bH C (.aR::K) (A4 (dC C.call ops ⟨r.set d v,n,m⟩ cf)) Q
 |none=>False
def Vn(C:Cx)(K:List Kf)(Q:Rs->Prop)(d:Nat)(ops:List dt)(r:T V)(n:Nat)(m:List Nat)(st:St)(zero:V):Option V->Option (Option V)->Prop
 |some (.chan i),some sv=>Pb C K Q d ops r n m (nS st i sv zero (st.h.get i))
 |_,_=>False
def Ygv{C:Cx}{K:List Kf}{Q:Rs->Prop}{ro:Option Nat}{d:Nat}{ch:Src}{send:Option Src}{zero:V}{ops:List dt}{m:List Nat}{st:St}(hd:d<n):bH C K (eH (C.code ro (.xF (some d) ch send zero ops) ⟨r,n,m⟩ st)) Q↔Vn C K Q d ops r n m st zero (ch.ev r) (aC r send):=by
 have e:C.code ro (.xF (some d) ch send zero ops) ⟨r,n,m⟩ st=AS (some d) ch send zero ops C.call C.code ro ⟨r,n,m⟩ st:=Cx.dj ..
 rw[e]
 unfold AS Vn
 simp only[]
 rcases ch.ev r with _|v
 ·exact IQ
 ·cases v<;>try exact IQ
  rename_i i
  rcases aC r send with _|sv
  ·exact IQ
  ·simp only[Yp8]
   rcases nS st i sv zero (st.h.get i)with _|⟨v,cf⟩
   ·exact IQ
   ·simp only[Fr.put,hd,if_true,Pb]
    refine iL ?_
    show _=iA C K (kL C .aR (A4 (dC C.call ops ⟨r.set d v,n,m⟩ cf)))
    rcases dC C.call ops ⟨r.set d v,n,m⟩ cf with _|⟨_,_⟩<;>rfl
def Ybs{C K Q d ops r n m st zero i sv}:Vn C K Q d ops r n m st zero (some (.chan i)) (some sv)=Pb C K Q d ops r n m (nS st i sv zero (st.h.get i)):=rfl
def Ybr{C K Q d ops r n m v cf}:Pb C K Q d ops r n m (some (v,cf))=bH C (.aR::K) (A4 (dC C.call ops ⟨r.set d v,n,m⟩ cf)) Q:=rfl
def Zyi{st:St}{cap:Nat}{buf:List V}{zero:V}:nS st i none zero (some (.chan cap (v::buf)))=some (.bg [.int .i64 0,.bool true,v],st.write i (.chan cap buf)):=rfl
def Ybq{st:St}{cap:Nat}{zero:V}:nS st i none zero (some (.chan cap []))=some (.bg [.int .i64 (-1),.bool false,zero],st):=rfl
attribute [simp] Ygv Ybs Ybr Zyi Ybq
def Pc(st:St)(bytes:Nat):Option V->Option (V×St)
 |some (.int _ k)=>if k<0\/k > IntKind.i64.max\/bytes*k > 2^48-112 then none else some (.chan st.n,st.alloc (.chan k.toNat []))
 |_=>none
def Zur{bytes:Nat}{x:Src}{call:cG}{st:St}:DG bytes x call r st=Pc st bytes (x.ev r):=by unfold DG Pc;rfl
def Zze{st:St}{kk:IntKind}{k:Int}(h0:0<=k)(h1:k<=100):Pc st 16 (some (.int kk k))=some (.chan st.n,st.alloc (.chan k.toNat [])):=by
 unfold Pc
 simp only[]
 rw[ar]
 have:IntKind.i64.max=9223372036854775807:=rfl
 omega
attribute [simp] Zur Zze
def cR:V->List Nat
 |.slice i _ _ _ _=>[i]
 |_=>[]
def Sl.bV{D:Nat->Prop}{h':T O}{N':Nat}{l:List V}(s:Sl h N v l)(k:dP D h N h' N')(hd:∀i∈cR v,¬D i):Sl h' N' v l:=by
 rcases s with s|⟨i,o,cp,c,e,rw,rfl,h2,h3,h4⟩
 ·exact .inl s
 ·exact .inr ⟨i,o,cp,c,e,rw,rfl,fE h2 k.le,(k.get i h2 (hd i (by simp[cR]))).trans h3,h4⟩
def Row(z:Nat)(e:TypeId)(h:T O)(v:V)(l:List (List V)):Prop:=(∀x∈l,x.length=z)/\((l=[]/\v=.aa)\/∃i x m,v=.slice i 0 l.length none z/\x.length=m*z/\h.get i=some (.cells (l.flatten++x) e true))
def Pd(l:List (List V))(x:List V):(l++[x]).flatten=l.flatten++x:=by simp
def Yrs(st:St)(size:Nat)(zero:List V):Option V->Option (V×St)
 |some v=>Iz size zero (.const v) T8 .nil st
 |none=>none
structure Yvv (z bytes:Nat) (e:TypeId) (zero:List V) (h:T O) (N:Nat) (v:V) (l:List (List V)) (k:Nat) (v1 v2 v3 v4:V) (h3 h4:T O) (w3:List Nat):Prop where
 a:∀w,∃u,mB ⟨h,N,w⟩ z (some v) (some (some (.int .i64 k))) (some (some (.int .i64 ((k:Int)+1)))) (some (some (.int .i64 l.length)))=some (u,⟨h,N,w⟩)
 b:∀w,mB ⟨h,N,w⟩ z (some v) (some none) (some (some (.int .i64 k))) (some none)=some (v1,⟨h,N,w⟩)
 c:∀w,mB ⟨h,N,w⟩ z (some v) (some (some (.int .i64 ((k:Int)+1)))) (some none) (some none)=some (v2,⟨h,N,w⟩)
 d:∀w,gj ⟨h,N,w⟩ z bytes e v1 v2=some (v3,⟨h3,N,w3++w⟩)
 len:oD v3=some (l.length-1)
 f:∀w,mB ⟨h3,N,w⟩ z (some v3) (some (some (.int .i64 ((l.length-1:Nat):Int)))) (some (some (.int .i64 l.length))) (some none)=some (v4,⟨h3,N,w⟩)
 g:∀w,∃i,i∈cR v/\Yrs ⟨h3,N,w⟩ z zero (some v4)=some (.bg [],⟨h4,N,i::w⟩)
 w:∀i∈w3,i∈cR v
 upd:dP (fun i=>i∈cR v) h N h4 N
 ids:cR v3=cR v
 row:Row z e h4 v3 (l.take k++l.drop (k+1))
def Pe(st:St)(size:Nat):Option V->Option V->Option (V×St)
 |some d,some s=>BZ size (.const d) (.const s) T8 .nil st
 |_,_=>none
def Ycl{size:Nat}{d s:Src}{call:cG}{st:St}:BZ size d s call r st=Pe st size (d.ev r) (s.ev r):=by
 unfold BZ Pe
 rcases d.ev r with _|d
 ·rfl
 ·rcases s.ev r with _|s<;>rfl
def Yaj{cp:Option Nat}{c xs:List V}{e:TypeId}{s:V}(hn:0<n)(hs:eD ⟨h,N,w⟩ 1 s=some (n,xs))(hx:xs.length=n)(hg:h.get i=some (.cells c e true))(hc:c.length=n):Pe ⟨h,N,w⟩ 1 (some (.slice i 0 n cp 1)) (some s)=some (.int .i64 n,⟨h.set i (.cells xs e true),N,i::w⟩):=by
 have oK:¬n=0:=by omega
 have hd:c.drop n=[]:=List.drop_of_length_le (by omega)
 have ht:xs.take n=xs:=eZ (by omega)
 simp only[Pe,BZ,Src.ev,hs,St.row,hg]
 simp[oK,hc,ad,St.write,ht,hx,hd]
attribute [simp] Ycl
def mr(e:TypeId)(Y:V->Prop)(h:T O)(u:V):Prop:=∀i∈cR u,∃z,h.get i=some (.cells z e true)/\z≠[]/\∀y∈z,Y y
def mr.nil{e:TypeId}{Y:V->Prop}:mr e Y h .aa:=fun i hi=>by simp[cR]at hi
def De{z:Nat}{e:TypeId}{N0:Nat}{u:V}{l:List (List V)}{x:List V}{bytes:Nat}{Y:V->Prop}(s:Own z e N0 h N v l)(hn:l=[]->v=.aa)(hY:∀c∈l,∀y∈c,Y y)(hN:N0<=N)(hz:0<z)(hx:x.length=z)
  (hu:eD ⟨h,N,w⟩ z u=some (1,x)) (hb:2*(l.length+1)*bytes<=281474976710656):
  ∃v' h' w',gj ⟨h,N,w⟩ z bytes e v u=some (v',⟨h',N+1,w'⟩)/\ax N0 w'=ax N0 w/\ab h N0 h' (N+1)/\dP (fun i=>i∈cR v) h N h' (N+1)/\mr e Y h v/\Own z e N0 h' (N+1) v' (l++[x]):=by
 obtain⟨v',h',w',f1,f2,f3,f4,f5⟩:=sE s hN hz hx hu hb
 refine⟨v',h',w',f1,f2,f3,⟨uz _,fun j hj hd=>?_⟩,fun i hi=>?_,f5⟩
 ·rcases f4 j with h1|h1|⟨o,n,c,q,h1⟩
  ·exact h1
  ·omega
  ·exact absurd (by rw[h1];simp[cR]) hd
 ·obtain⟨hl,⟨rfl,rfl⟩|⟨j,rfl,h2,h3,h4⟩⟩:=s
  ·simp[cR]at hi
  ·simp only[cR,wC]at hi
   subst hi
   refine⟨_,h4,fun hc=>?_,fun y hy=>?_⟩
   ·have nI:=BF hl
    rw[hc]at nI
    have:l.length=0:=by
     rcases Nat.mul_eq_zero.1 nI.symm with h|h
     ·exact h
     ·omega
    have:=hn (qj this)
    cases this
   ·obtain⟨c,hc,uA⟩:=List.mem_flatten.1 hy
    exact hY c hc y uA
variable {n:Nat}
def dc(n:Nat):UInt8:=UInt8.ofNat (48+n%10)
def Gz(n:Nat):(dc n).toNat=48+n%10:=by
 unfold dc
 simp
 omega
def di(n:Nat):aQ:=if h:n=0 then [] else di (n/10)++[dc n]
termination_by n
decreasing_by omega
def tf:di 0=[]:=by unfold di;simp
def xc(h:n≠0):di n=di (n/10)++[dc n]:=by
 conv=>lhs;unfold di
 rw[dif_neg h]
def aq(n:Nat):aQ:=if n=0 then [48] else di n
def ic(n k:Nat):aQ:=List.replicate (k-(di n).length) 48++di n
def aN(z:Int):aQ:=if z<0 then 45::aq z.natAbs else aq z.natAbs
def a_(q:Rat):aQ:=if q.den=1 then aN q.num else aN q.num++47::aq q.den
def Zsm:∀(n:Nat),aH (di n)=n:=by
 intro n
 induction n using Nat.strongRecOn with
 |_ n ih=>
  by_cases h:n=0
  ·subst h;rw[tf];rfl
  ·rw[xc h,Km,ih (n/10) (by omega),Gz]
   omega
def GA(n:Nat):aH (aq n)=n:=by
 unfold aq
 split
 ·subst_vars;rfl
 ·exact Zsm n
def Ztu{s:aQ}{c:UInt8}:cH (s++[c])=(cH s&&jU c):=by simp[cH]
def Yi5(n:Nat):jU (dc n)=true:=by
 unfold jU
 rw[Gz]
 simp
 omega
def Yfm:∀(n:Nat),cH (di n)=true:=by
 intro n
 induction n using Nat.strongRecOn with
 |_ n ih=>
  by_cases h:n=0
  ·subst h;rw[tf];rfl
  ·rw[xc h,Ztu,ih (n/10) (by omega),Yi5];rfl
def A8(n:Nat):cH (aq n)=true:=by
 unfold aq
 split
 ·rfl
 ·exact Yfm n
def pd:∀{k n:Nat},n<10^k↔(di n).length<=k
 |0,n=>by
  simp only[DC,Nat.lt_one_iff,Nat.le_zero,List.length_eq_zero_iff]
  constructor
  ·rintro rfl;exact tf
  ·intro h
   have:=Zsm n
   rw[h]at this
   exact this.symm
 |k+1,n=>by
  by_cases h:n=0
  ·subst h;rw[tf];simp;exact zm (by decide)
  ·rw[xc h,iN,zk,gE]
   have:=pd (k:=k) (n:=n/10)
   rw[Nat.succ_le_succ_iff,<-this]
   exact(pz (by decide)).symm
def Vo:∀{n:Nat},n≠0->∃c t,di n=c::t/\c.toNat≠48:=by
 intro n
 induction n using Nat.strongRecOn with
 |_ n ih=>
  intro h
  rw[xc h]
  by_cases h0:n/10=0
  ·rw[h0,tf]
   refine⟨dc n,[],rfl,?_⟩
   rw[Gz];omega
  ·obtain⟨c,t,e,hc⟩:=ih (n/10) (by omega) h0
   rw[e]
   exact⟨c,t++[dc n],rfl,hc⟩
def IY(n:Nat):aq n≠[]:=by
 unfold aq
 split
 ·simp
 ·rename_i h
  obtain⟨c,t,e,_⟩:=Vo h
  rw[e];simp
def Ykz{c:UInt8}(h:jU c=true){k:Nat}:dc (10*k+(c.toNat-48))=c:=by
 unfold jU at h
 simp only[decide_eq_true_eq]at h
 apply UInt8.toNat_inj.1
 rw[Gz];omega
def Ye5:∀(t:aQ) (c:UInt8),cH (c::t)=true->c.toNat≠48->di (aH (c::t))=c::t:=by
 intro t
 generalize hn:t.length=n
 induction n generalizing t with
 |zero=>
  intro c ha hc
  have:t=[]:=qj hn
  subst this
  have hd:jU c=true:=by simpa[cH]using ha
  have:=Ykz hd (k:=0)
  have h2:48<=c.toNat/\c.toNat<=57:=by simpa[jU]using hd
  have e:aH [c]=c.toNat-48:=by simp[aH]
  rw[e,xc (by omega),show (c.toNat-48)/10=0 by omega,tf]
  simp only[Nat.mul_zero,xJ]at this
  rw[this];rfl
 |succ n ih=>
  intro c ha hc
  obtain⟨u,d,rfl⟩:∃u d,t=u++[d]:=⟨t.dropLast,t.getLast (by rintro rfl;simp at hn),(TY _).symm⟩
  simp at hn
  have Vp:cH (c::u)=true/\jU d=true:=by
   rw[<-BP,Ztu,ib]at ha
   exact ha
  have Vq:=ih u (by omega) c Vp.1 hc
  have h2:48<=d.toNat/\d.toNat<=57:=by simpa[jU]using Vp.2
  rw[<-BP,Km]
  have qi:aH (c::u)≠0:=by
   intro h0
   rw[h0,tf]at Vq
   cases Vq
  rw[xc (by omega),show (10*aH (c::u)+(d.toNat-48))/10=aH (c::u) by omega,Vq,Ykz Vp.2]
def A9{s:aQ}(h:iP s=true):aq (aH s)=s:=by
 cases s with
 |nil=>cases h
 |cons c t=>
  have h:(cH (c::t)&&(decide (c.toNat≠48)||decide (t=[])))=true:=h
  rw[ib,FM,decide_eq_true_eq,decide_eq_true_eq]at h
  obtain⟨ha,hc⟩:=h
  by_cases h48:c.toNat=48
  ·rcases hc with hc|hc
   ·exact absurd h48 hc
   ·subst hc
    have:c=48:=UInt8.toNat_inj.1 h48
    subst this;rfl
  ·have e:=Ye5 t c ha h48
   have:aH (c::t)≠0:=by
    intro h0
    rw[h0,tf]at e
    cases e
   unfold aq
   rw[ar this,e]
def Zxk{a b:Nat}(h:aq a=aq b):a=b:=by rw[<-GA a,h,GA]
def Zp6:∀{k a b:Nat},a≠0->b<10^k->di (a*10^k+b)=di a++ic b k:=by
 intro k
 induction k with
 |zero=>
  intro a b ha hb
  have:b=0:=by simpa using hb
  subst this
  simp[ic,tf]
 |succ k ih=>
  intro a b ha hb
  rw[gE]at hb ⊢
  have pe:b/10<10^k:=(pz (by decide)).2 hb
  have hp:0<10^k:=zm (by decide)
  have qi:a*(10^k*10)+b≠0:=by
   have:=zc (Nat.pos_of_ne_zero ha) (zc hp (by decide:0<10));omega
  have e1:(a*(10^k*10)+b)/10=a*10^k+b/10:=by
   rw[<-Dz,iX _ 10,Nat.mul_add_div (by decide)]
  have e2:dc (a*(10^k*10)+b)=dc b:=by
   apply UInt8.toNat_inj.1
   rw[Gz,Gz,<-Dz,iX _ 10,Nat.mul_add_mod]
  rw[xc qi,e1,ih ha pe,e2,tL]
  congr 1
  by_cases kW:b=0
  ·subst kW
   unfold ic
   rw[Nat.zero_div,tf]
   simp only[List.length_nil,Nat.sub_zero,zn]
   rw[List.replicate_succ']
   rfl
  ·unfold ic
   rw[xc kW,iN,zk,<-tL]
   rw[show k+1-((di (b/10)).length+1)=k-(di (b/10)).length by omega]
def Yi6{b k:Nat}(h:b<10^k):(ic b k).length=k:=by
 have:=pd.1 h
 simp[ic];omega
def Lg(b:Nat):ic b 1=aq b:=by
 unfold ic aq
 split
 ·subst_vars;rw[tf];rfl
 ·rename_i h
  obtain⟨c,t,e,_⟩:=Vo h
  rw[e]
  simp
def Ztk(h:n≠0):0<(di n).length:=by
 obtain⟨c,t,e,_⟩:=Vo h
 rw[e];simp
def NY{k:Nat}(hk:0<k):(aq n).length<=k↔n<10^k:=by
 unfold aq
 split
 ·subst_vars
  simp
  exact⟨fun _=>zm (by decide),fun _=>hk⟩
 ·exact pd.symm
def Zp5{n:Nat}:∃c t,aq n=c::t/\48<=c.toNat/\c.toNat<=57:=by
 have h:=A8 n
 cases hs:aq n with
 |nil=>exact absurd hs (IY n)
 |cons c t=>
  rw[hs]at h
  have:jU c=true:=by
   simp[cH]at h;exact h.1
  exact⟨c,t,rfl,by simpa[jU]using this⟩
variable {s:aQ}
def Vr:∀{s t:aQ},(∀c∈s,c.toNat≠47)->ah (s++47::t)=s.length
 |[],t,_=>rfl
 |c::s,t,h=>by
  have h1:=h c pn
  have:=Vr (s:=s) (t:=t) fun d hd=>h d (o9 _ hd)
  simp[ah,h1,this]
def Vs:∀{s:aQ},(∀c∈s,c.toNat≠47)->ah s=s.length
 |[],_=>rfl
 |c::s,h=>by
  have h1:=h c pn
  have:=Vs (s:=s) fun d hd=>h d (o9 _ hd)
  simp[ah,h1,this]
def Znf:∀{s:aQ},ah s<s.length->s.drop (ah s)=47::s.drop (ah s+1)
 |[],h=>by simp[ah]at h
 |c::s,h=>by
  by_cases hc:c.toNat=47
  ·have:c=47:=UInt8.toNat_inj.1 hc
   subst this
   simp[ah]
  ·simp only[ah,hc,if_false,bD]at h ⊢
   have:=Znf (s:=s) (by omega)
   simpa using this
def Ph(h:cH s=true):∀c∈s,c.toNat≠47:=by
 intro c hc
 unfold cH at h
 rw[lA]at h
 have:=h c hc
 unfold jU at this
 simp only[decide_eq_true_eq]at this
 omega
def Ye3(z:Int):∀c∈aN z,c.toNat≠47:=by
 unfold aN
 split
 ·intro c hc
  rcases kv.1 hc with rfl|hc
  ·decide
  ·exact Ph (A8 _) c hc
 ·exact Ph (A8 _)
def Ycv(n:Nat):cI (aq n)=false:=by
 obtain⟨c,t,e,h1,h2⟩:=Zp5 (n:=n)
 rw[e]
 simp[cI];omega
def Lh(z:Int):cI (aN z)=decide (z<0):=by
 unfold aN
 split
 ·rename_i h;simp[cI,h]
 ·rename_i h;rw[Ycv];simp[h]
def IZ(z:Int):bC (aN z)=aq z.natAbs:=by
 unfold bC
 rw[Lh]
 by_cases h:z<0
 ·simp[h,aN]
 ·simp[h,aN]
def I1(q:Rat):ah (a_ q)=(aN q.num).length:=by
 unfold a_
 split
 ·exact Vs (Ye3 _)
 ·exact Vr (Ye3 _)
def Li(q:Rat):(a_ q).take (ah (a_ q))=aN q.num:=by
 rw[I1]
 unfold a_
 split
 ·simp
 ·simp
def Lj(q:Rat)(h:q.den≠1):(a_ q).drop (ah (a_ q)+1)=aq q.den:=by
 rw[I1]
 unfold a_
 rw[ar h,<-List.drop_drop]
 simp
def Cs(q:Rat):ah (a_ q)<(a_ q).length↔q.den≠1:=by
 rw[I1]
 unfold a_
 split
 ·rename_i h;simp[h]
 ·rename_i h;simp[h]
def Yi8{a b:Int}(h:aN a=aN b):a=b:=by
 have h1:=congrArg cI h
 have h2:=congrArg bC h
 rw[Lh,Lh,decide_eq_decide]at h1
 rw[IZ,IZ]at h2
 have h3:=Zxk h2
 omega
def Ygb{a b:Rat}(h:a_ a=a_ b):a=b:=by
 have h1:=Li a
 rw[h,Li b]at h1
 have h2:=Yi8 h1
 have h3:a.den=b.den:=by
  by_cases ha:a.den=1
  ·have:=mt (Cs a).1 (fun hc=>hc ha)
   rw[h]at this
   rw[Cs]at this
   rw[ha];exact(Decidable.not_not.1 this).symm
  ·have:=(Cs a).2 ha
   rw[h]at this
   have hb:=(Cs b).1 this
   have e:=Lj a ha
   rw[h,Lj b hb]at e
   exact(Zxk e).symm
 exact Rat.ext h2.symm h3
def oY(s:aQ):Rat:=mkRat (if cI s then -(aH ((bC s).take (ah (bC s))):Int) else aH ((bC s).take (ah (bC s)))) (if ah (bC s)<(bC s).length then aH ((bC s).drop (ah (bC s)+1)) else 1)
def Yjg(h:bz s=0):gb (cI s) ((bC s).take (ah (bC s))) (decide (ah (bC s)<(bC s).length)) ((bC s).drop (ah (bC s)+1))=true/\((bC s).take (ah (bC s))).length<=600/\((bC s).drop (ah (bC s)+1)).length<=600/\(ah (bC s)<(bC s).length->Nat.gcd (aH ((bC s).take (ah (bC s)))) (aH ((bC s).drop (ah (bC s)+1)))=1):=by
 unfold bz I3 jX at h
 split at h
 ·cases h
 ·rename_i h1
  split at h
  ·cases h
  ·rename_i h2
   split at h
   ·cases h
   ·rename_i h3
    refine⟨by simpa using h1,by omega,by omega,fun hs=>?_⟩
    rw[decide_eq_true hs]at h3
    simpa using h3
def Zsu{n:Int}{d:Nat}(hd:d≠0)(h:Nat.gcd n.natAbs d=1):(mkRat n d).num=n/\(mkRat n d).den=d:=by
 have:mkRat n d=⟨n,d,hd,h⟩:=by
  rw[Rat.mkRat_def,dif_neg hd]
  exact Rat.normalize_eq_mk' _ _ hd h
 rw[this]
 exact⟨rfl,rfl⟩
def Yap(s:aQ):s=(if cI s then [45] else [])++bC s:=by
 cases s with
 |nil=>rfl
 |cons c t=>
  unfold bC
  by_cases hc:c.toNat=45
  ·have:c=45:=UInt8.toNat_inj.1 hc
   subst this
   simp[cI]
  ·simp[cI,hc]
def JV(h:bz s=0):a_ (oY s)=s/\(aq (oY s).num.natAbs).length<=600/\(aq (oY s).den).length<=600:=by
 obtain⟨h1,h2,h3,h4⟩:=Yjg h
 have hle:=Ee (bC s)
 unfold gb at h1
 simp only[ib,FL,FM,decide_eq_true_eq]at h1
 obtain⟨⟨hp,hz⟩,hd⟩:=h1
 have Ct:cI s=true->aH ((bC s).take (ah (bC s)))≠0:=by
  intro hn h0
  rw[hn,Bool.true_and,decide_eq_false_iff_not]at hz
  apply hz
  have:=A9 hp
  rw[h0]at this
  exact this.symm
 have kK:(aq (aH ((bC s).take (ah (bC s))))).length<=600:=by
  rw[A9 hp];exact h2
 have hb:=Yap s
 by_cases hs:ah (bC s)<(bC s).length
 ·have hd:iP ((bC s).drop (ah (bC s)+1))=true/\(bC s).drop (ah (bC s)+1)≠[48]/\(bC s).drop (ah (bC s)+1)≠[49]:=by
   rcases hd with hd|⟨⟨a,b⟩,c⟩
   ·exact absurd hs (by simpa using hd)
   ·exact⟨a,b,c⟩
  have hg:=h4 hs
  have pE:aH ((bC s).drop (ah (bC s)+1))≠0:=by
   intro h0
   have:=A9 hd.1
   rw[h0]at this
   exact hd.2.1 this.symm
  have sX:aH ((bC s).drop (ah (bC s)+1))≠1:=by
   intro h0
   have:=A9 hd.1
   rw[h0]at this
   exact hd.2.2 (this.symm.trans (by decide+kernel))
  have iz:(aq (aH ((bC s).drop (ah (bC s)+1)))).length<=600:=by
   rw[A9 hd.1];exact h3
  have hv:oY s=mkRat (if cI s then -(aH ((bC s).take (ah (bC s))):Int) else aH ((bC s).take (ah (bC s)))) (aH ((bC s).drop (ah (bC s)+1))):=by
   unfold oY;rw[aF hs]
  obtain⟨e1,e2⟩:=Zsu (n:=if cI s then -(aH ((bC s).take (ah (bC s))):Int) else aH ((bC s).take (ah (bC s)))) pE (by split<;>simpa using hg)
  rw[<-hv]at e1 e2
  have Lk:bC s=(bC s).take (ah (bC s))++47::(bC s).drop (ah (bC s)+1):=by
   conv=>lhs;rw[<-BL (ah (bC s)) (bC s)]
   rw[Znf hs]
  refine⟨?_,?_,by rw[e2];exact iz⟩
  ·unfold a_
   rw[e2,ar sX,A9 hd.1,e1]
   conv=>rhs;rw[hb,Lk]
   unfold aN
   cases hn:cI s with
   |false=>
    simp only[fF,if_false]
    rw[ar (by omega),dJ,A9 hp];rfl
   |true=>
    have:=Ct hn
    simp only[if_true]
    rw[aF (by omega),yS,dJ,A9 hp];rfl
  ·rw[e1]
   split<;>simpa using kK
 ·have hv:oY s=mkRat (if cI s then -(aH ((bC s).take (ah (bC s))):Int) else aH ((bC s).take (ah (bC s)))) 1:=by
   unfold oY;rw[ar hs]
  obtain⟨e1,e2⟩:=Zsu (n:=if cI s then -(aH ((bC s).take (ah (bC s))):Int) else aH ((bC s).take (ah (bC s)))) (show (1:Nat)≠0 by decide) (Nat.gcd_one_right _)
  rw[<-hv]at e1 e2
  have ht:(bC s).take (ah (bC s))=bC s:=eZ (by omega)
  rw[ht]at e1 hp Ct kK
  refine⟨?_,?_,by rw[e2];decide+kernel⟩
  ·unfold a_
   rw[e2,aF rfl,e1]
   conv=>rhs;rw[hb]
   unfold aN
   cases hn:cI s with
   |false=>
    simp only[fF,if_false]
    rw[ar (by omega),dJ,A9 hp];rfl
   |true=>
    have:=Ct hn
    simp only[if_true]
    rw[aF (by omega),yS,dJ,A9 hp];rfl
  ·rw[e1]
   split<;>simpa using kK
def Zv(q:Rat):bC (a_ q)=if q.den=1 then aq q.num.natAbs else aq q.num.natAbs++47::aq q.den:=by
 have eh:∀t:aQ,cI (aN q.num++t)=decide (q.num<0):=by
  intro t
  rw[<-Lh]
  have:aN q.num≠[]:=by
   unfold aN;split
   ·simp
   ·exact IY _
  cases h:aN q.num with
  |nil=>exact absurd h this
  |cons c u=>rfl
 have hb:∀t:aQ,bC (aN q.num++t)=aq q.num.natAbs++t:=by
  intro t
  unfold bC
  rw[eh]
  by_cases h:q.num<0
  ·simp[h,aN]
  ·simp[h,aN]
 unfold a_
 split
 ·have:=hb [];simpa using this
 ·exact hb _
def Az(q:Rat):Bool:=decide (600<(aq q.num.natAbs).length\/600<(aq q.den).length)
def NZ:aq 1=[49]:=by decide+kernel
variable {i j k n:Nat} {q:Rat}
def Pj:∀{i n:Nat},i<(ds n).length->(ds n)[i]?=some ((n/1000000000^i%1000000000:Nat):Int)
 |i,n,h=>by
  by_cases hn:n=0
  ·rw[hn,sO]at h;simp at h
  ·rw[zv hn]at h ⊢
   cases i with
   |zero=>simp
   |succ i=>
    rw[Dq,Pj (by simpa using h),FK,gE,iX]
def Ykx(h:i<(ds n).length):n/1000000000^i≠0:=by
 intro hc
 have h1:n<1000000000^i:=(Nat.div_eq_zero_iff_lt (zm (by decide))).1 hc
 have:=ID h1
 omega
def Ye1(h:i+1<(ds n).length):aq (n/1000000000^i)=aq (n/1000000000^(i+1))++ic (n/1000000000^i%1000000000) 9:=by
 have h0:=Ykx (i:=i) (n:=n) (by omega)
 have h1:=Ykx (i:=i+1) (n:=n) h
 have e:n/1000000000^(i+1)=n/1000000000^i/1000000000:=by rw[gE,FK]
 rw[e]at h1 ⊢
 generalize n/1000000000^i=x at*
 unfold aq
 rw[ar h0,ar h1]
 have:=Zp6 (k:=9) (a:=x/1000000000) (b:=x%1000000000) h1 (by omega)
 rw[show (10:Nat)^9=1000000000 by decide]at this
 rw[<-this]
 congr 1
 omega
def Yi7(h:i+1=(ds n).length):aq (n/1000000000^i)=ic (n/1000000000^i%1000000000) 1:=by
 have h1:n<1000000000^(i+1):=by
  have h2:=uQ (fT n)
  rw[fZ,<-h]at h2
  unfold pI at h2
  have h3:(1000000000:Int)^(i+1)=((1000000000^(i+1):Nat):Int):=by rw[Int.natCast_pow];rfl
  rw[h3]at h2
  exact Int.ofNat_lt.1 h2
 rw[gE]at h1
 have h3:n/1000000000^i<1000000000:=Nat.div_lt_of_lt_mul h1
 rw[xI h3,Lg]
def Qb(k:Nat)(q:Rat):Prop:=q.num.natAbs<2^k/\q.den<2^k
def Ll(h:j<=k):2^j<=2^k:=sK (by decide) h
def Qb.mono(h:Qb j q)(hk:j<=k):Qb k q:=⟨fE h.1 (Ll hk),fE h.2 (Ll hk)⟩
def Zl0{a b:Int}(hb:b≠0)(h1:a.natAbs<2^k)(h2:b.natAbs<2^k):Qb k (Rat.divInt a b):=by
 constructor
 ·rw[Rat.num_divInt]
  refine rW ?_ h1
  rw[Int.natAbs_ediv_of_dvd]
  ·rw[wK]
   have:b.sign.natAbs=1:=by rw[Int.natAbs_sign,ar hb]
   rw[this,Nat.one_mul]
   exact uH _ _
  ·exact Int.dvd_trans (Int.gcd_dvd_right ..) (Int.dvd_mul_left ..)
 ·rw[Rat.den_divInt,ar hb]
  exact rW (uH _ _) h2
def Qb.mul{p:Rat}(hp:Qb j p)(hq:Qb k q):Qb (j+k) (p*q):=by
 have sI:((p.den:Nat):Int)≠0:=by have:=p.den_nz;omega
 have rO:((q.den:Nat):Int)≠0:=by have:=q.den_nz;omega
 rw[<-Dx p,<-Dx q,Rat.divInt_mul_divInt]
 refine Zl0 (Is sI rO) ?_ ?_
 ·rw[wK,kQ]
  exact BQ hp.1 hq.1
 ·rw[wK,kQ,dJ,dJ]
  exact BQ hp.2 hq.2
def Qb.add{p:Rat}(hp:Qb j p)(hq:Qb k q):Qb (j+k+1) (p+q):=by
 have sI:((p.den:Nat):Int)≠0:=by have:=p.den_nz;omega
 have rO:((q.den:Nat):Int)≠0:=by have:=q.den_nz;omega
 rw[<-Dx p,<-Dx q,Rat.divInt_add_divInt _ _ sI rO]
 have e:2^(j+k+1)=2^j*2^k+2^k*2^j:=by rw[gE,kQ,iX (2^k)];omega
 refine Zl0 (Is sI rO) ?_ ?_
 ·refine rW (Int.natAbs_add_le ..) ?_
  rw[wK,wK,dJ,dJ,e]
  exact Nat.add_lt_add (BQ hp.1 hq.2) (BQ hq.1 hp.2)
 ·rw[wK,dJ,dJ,e]
  exact fE (BQ hp.2 hq.2) (Nat.le_add_right _ _)
def Qb.int{z:Int}(h:z.natAbs<2^k)(hk:0<k):Qb k (z:Rat):=by
 refine⟨by simpa using h,?_⟩
 rw[Rat.den_intCast]
 exact fE (by decide) (Ll (j:=1) hk)
def tR(h:n<2^k):(ds n).length<=k:=ID (fE h (FH (by decide) k))
def Lm(h:n<2^k):(di n).length<=k:=pd.1 (fE h (FH (by decide) k))
def C9(h:n<2^k):(aq n).length<=k+1:=by
 have:=Lm h
 unfold aq
 split<;>simp<;>omega
def Fi{z:Int}(h:z.natAbs<2^k):(aN z).length<=k+2:=by
 have:=C9 h
 unfold aN
 split<;>simp<;>omega
def Zw(k:Nat):10^k<=2^(4*k):=by
 rw[Nat.pow_mul];exact FH (by decide) k
def Yrt{s:aQ}(h:bz s=0)(hn:s.length<=n):Qb (4*n+4) (oY s):=by
 obtain⟨e,_,_⟩:=JV h
 have hb:=Zv (oY s)
 have l1:(bC (a_ (oY s))).length<=n:=by
  rw[e];unfold bC;split
  ·simp;omega
  ·exact hn
 rw[hb]at l1
 have g:∀m:Nat,(aq m).length<=n+1->m<2^(4*n+4):=fun m hm=>by
  have:=(NY (n:=m) (k:=n+1) (by omega)).1 hm
  exact fE this (by have:=Zw (n+1);rw[sL]at this;exact this)
 split at l1
 ·rename_i h1
  have h2:(aq 1).length=1:=by rw[NZ];rfl
  exact⟨g _ (by omega),by rw[h1];exact g 1 (by omega)⟩
 ·simp at l1
  exact⟨g _ (by omega),g _ (by omega)⟩
def A.b299:av:=sr [mc 4 0]
 (.seq (sr [mv 5 1,mv 6 0,ln 7 6,bi 8 .lss 5 7]
 (cd 8
 (sr [mv 9 0,mv 10 1,ia 11 1 9 10,ld 12 11,mv 4 12]
 (.ret))
 (.skip)))
 (sr [mc 4 0]
 (.ret)))
def A.c299:A.F 299=some ⟨13,[.tmp 4],A.b299⟩:=by kernel_rfl
def A.k299:=@A.kk 299 _ _ _ A.c299 rfl
def A.jz:av:=.seq (sr [mv 9 7,mv 10 0,ln 11 10,bi 12 .lss 9 11,mv 13 12,mh 14 7 13,mh 15 1 13,gz 16 13 (.len 1 (tq 15)),gz 17 13 (.bin .lss (.node []) false (tq 14) (tq 16)),pt 18 13 17,mv 19 18,mh 20 6 19,gz 21 19 (.bin .gtr (.node []) false (tq 20) (kq 0)),pt 22 19 21]
 (cd 22
 (.skip)
 (.exit 0)))
 (.seq (.block 1 (sr [mv 25 0,mv 26 7,c2 27 299 25 26,mv 28 1,mv 29 7,c2 30 299 28 29,bi 31 .add 27 30,mv 32 6,bi 33 .add 31 32,mv 8 33]
 (sr [mv 34 5,mv 35 8,bc 36 .rem 35 1000000000,ge 37 (.aV 3 1 1 [.int .i64 0] [(0,1,(tq 36))]),ge 38 (.append 1 8 3 [.int .i64 0] (tq 34) (tq 37)),mv 5 38]
 (.aR [mv 39 8,bc 40 .quo 39 1000000000,mv 6 40]))))
 (.aR [mv 23 7,bc 24 .add 23 1,mv 7 24]))
def A.b283:av:=sr [mN 4]
 (sr [mN 5]
 (sr [mc 6 0]
 (.seq (sr [mc 7 0]
 (.block 0 (.loop A.jz)))
 (sr [mv 41 5,mv 4 41]
 (.ret)))))
def A.c283:A.F 283=some ⟨42,[.tmp 4],A.b283⟩:=by kernel_rfl
def A.k283:=@A.kk 283 _ _ _ A.c283 rfl
def A.mF:av:=.seq (sr [mv 9 7,mv 10 0,ln 11 10,bi 12 .lss 9 11]
 (cd 12
 (.skip)
 (.exit 0)))
 (.seq (.block 1 (.seq (.aX [mv 15 0,mv 16 7,ia 17 1 15 16,ld 18 17,mv 19 1,mv 20 7,c2 21 299 19 20,bi 22 .sub 18 21,mv 23 6,bi 24 .sub 22 23,mv 8 24] [0,0,3,7,0,0,48,127,0,511,1023])
 (sr [mc 6 0]
 (.seq (sr [mv 25 8,bc 26 .lss 25 0]
 (cd 26
 (sr [mv 27 8,bc 28 .add 27 1000000000,mv 8 28]
 (.aR [mc 6 1]))
 (.skip)))
 (.aR [mv 29 5,mv 30 8,ge 31 (.aV 3 1 1 [.int .i64 0] [(0,1,(tq 30))]),ge 32 (.append 1 8 3 [.int .i64 0] (tq 29) (tq 31)),mv 5 32])))))
 (.aR [mv 13 7,bc 14 .add 13 1,mv 7 14]))
def A.b284:av:=sr [mN 4]
 (sr [mN 5]
 (sr [mc 6 0]
 (.seq (sr [mc 7 0]
 (.block 0 (.loop A.mF)))
 (sr [mv 33 5,c1 34 223 33,mv 4 34]
 (.ret)))))
def A.c284:A.F 284=some ⟨35,[.tmp 4],A.b284⟩:=by kernel_rfl
def A.k284:=@A.kk 284 _ _ _ A.c284 rfl
def Vt{h:T O}{N:Nat}{v:V}{l:List Int}{i:Nat}{w:List Nat}(hs:Sl h N v (dI l))(hi:i<4611686018427387904)(hl:l.length<4611686018427387904):A.C.call (.func 299 [] []) [v,.int .i64 i] ⟨h,N,w⟩=some (.int .i64 (zI l i),⟨h,N,w⟩):=by
 apply Call.eq
 have hlen:=hs.len
 rw[gk]at hlen
 rw[aO,A.k299 (by simp)]
 by_cases hc:i<l.length
 ·have KU:(i:Int)<(l.length:Int):=by omega
  obtain⟨d,hd⟩:=bp hc
  obtain⟨j,o,c,e,rw,q1,q2,q3,q4⟩:=hs.at (gl hd)
  simp[A.b299,hlen,KU,q1,q3,q4,Ylb hd]
 ·have KU:¬(i:Int)<(l.length:Int):=by omega
  simp[A.b299,hlen,KU,Ub (yp hc)]
structure AdI (h:T O) (N:Nat) (la lb:List Int) (m:Nat) (r:T V) (st:St):Prop where
 w:ax N st.w=[]
 ae:ab h N st.h st.n
 ex:∃k c out D,k+m=max la.length lb.length+1/\r.get 7=some (.int .i64 k)/\r.get 6=some (.int .i64 c)/\r.get 5=some out/\0<=c/\c<=1/\(m=0->c=0)/\Own 1 3 N st.h st.n out (o_ D)/\D.length=k/\Di D/\vI D+pI k*c=vI (la.take k)+vI (lb.take k)
def Pm{l:List Int}{k:Nat}(h:l.length<=k):l.take k=l:=eZ h
def Ymi{h:T O}{N:Nat}{u v:V}{la lb:List Int}(hu:Sl h N u (dI la))(hv:Sl h N v (dI lb))(da:Di la)(db:Di lb)(l1:la.length<1099511627776)(l2:lb.length<1099511627776):Fn A.C 283 [u,v] h N (fun x h' n'=>∃l,Sl h' n' x (dI l)/\Di l/\vI l=vI la+vI lb/\l.length<=max la.length lb.length+1):=by
 intro w
 have lu:=hu.len
 have lv:=hv.len
 rw[gk]at lu lv
 rw[aO,A.k283 (by simp)]
 simp[A.b283]
 refine bP [(5,40)] (fun e r st=>e=.exit 0/\ax N st.w=[]/\ab h N st.h st.n/\∃out D,r.get 5=some out/\Own 1 3 N st.h st.n out (o_ D)/\Di D/\vI D=vI la+vI lb/\D.length<=max la.length lb.length+1) (AdI h N la lb) (max la.length lb.length+1) ?_ ?_ ?_
 ·exact⟨by simp,ab.refl,0,0,.aa,[],by omega,by simp,by simp,by simp,by omega,by omega,fun _=>rfl,Own.nil,rfl,Di.nil,by simp[vI]⟩
 ·rintro m r ⟨H,n1,W⟩ hr hf ⟨hW,hK,k,c,out,D,hk,h7,h6,h5,c0,c1,cz,ho,hD,dD,l7⟩
  simp only at hW hK ho
  rw[bq]
  by_cases tc:k<la.length\/k<lb.length\/0<c
  ·obtain⟨m',rfl⟩:∃m',m=m'+1:=⟨m-1,by
    have:m≠0:=fun hm=>by have:=cz hm;omega
    omega⟩
   have dx:=Uc da k
   have dy:=Uc db k
   have e1:=fun w=>Vt (w:=w) (i:=k) (hu.ae hK) (by omega) (by omega)
   have e2:=fun w=>Vt (w:=w) (i:=k) (hv.ae hK) (by omega) (by omega)
   obtain⟨x,hx⟩:∃x,zI la k=x:=⟨_,rfl⟩
   obtain⟨y,hy⟩:∃y,zI lb k=y:=⟨_,rfl⟩
   rw[hx]at dx e1
   rw[hy]at dy e2
   have t1:(x+y+c).tmod 1000000000=(x+y+c)%1000000000:=Ds (by omega)
   have t2:(x+y+c).tdiv 1000000000=(x+y+c)/1000000000:=AK (by omega)
   have t3:bu .i64 (x+y)=x+y:=cF (by omega) (by omega)
   have t4:bu .i64 (x+y+c)=x+y+c:=cF (by omega) (by omega)
   have t5:bu .i64 ((x+y+c)/1000000000)=(x+y+c)/1000000000:=cF (by omega) (by omega)
   have nT:vI (D++[(x+y+c)%1000000000])+pI (k+1)*((x+y+c)/1000000000)=vI (la.take (k+1))+vI (lb.take (k+1)):=by
    rw[B5,hD,Ud,Ud,hx,hy,uO]
    have hm:=Dv (x+y+c) 1000000000
    generalize (x+y+c)/1000000000=Q at*
    generalize (x+y+c)%1000000000=R at*
    have:R=x+y+c-1000000000*Q:=by omega
    subst this
    grind
   have hz:m'=0->(x+y+c)/1000000000=0:=fun hm=>by
    have:x=0:=by rw[<-hx];exact Ub (by omega)
    have:y=0:=by rw[<-hy];exact Ub (by omega)
    omega
   have xG:=ho.ae (ab.refl.new (.cells [.int .i64 ((x+y+c)%1000000000)] 3 true))
   obtain⟨v',h',w',f1,f2,f3,_,f5⟩:=sE (x:=[.int .i64 ((x+y+c)%1000000000)]) (u:=.slice n1 0 1 (some 1) 1) (bytes:=8) (w:=W) xG (by have:=hK.le;omega) (by decide) rfl (by simp[eD,St.row,aE]) (by simp[o_];omega)
   rw[<-DN]at f5
   have f6:ax N w'=[]:=by rw[f2];exact hW
   have kz:=(hK.new (.cells [.int .i64 ((x+y+c)%1000000000)] 3 true)).then f3
   have GB:k<la.length\/(¬k<la.length/\k<lb.length)\/(¬k<la.length/\¬k<lb.length/\0<c):=by omega
   rcases GB with g1|⟨g1,g2⟩|⟨g1,g2,g3⟩
   ·have i1:(k:Int)<(la.length:Int):=by omega
    simp[A.jz,hr,h7,h6,h5,lu,i1,e1,e2,t1,t3,t4,ad]
    simp(disch:=first|(simp;done)|omega|rfl) [f1,hf,h7]
    exact⟨m',by omega,⟨f6,kz,k+1,(x+y+c)/1000000000,v',D++[(x+y+c)%1000000000],by omega,by simp,by simp[t2],by simp,by omega,by omega,hz,f5,by simp[hD],dD.app (Di.one (by omega) (by omega)),nT⟩⟩
   ·have i1:¬(k:Int)<(la.length:Int):=by omega
    have i2:(k:Int)<(lb.length:Int):=by omega
    simp[A.jz,hr,h7,h6,h5,lu,lv,i1,i2,e1,e2,t1,t3,t4,ad]
    simp(disch:=first|(simp;done)|omega|rfl) [f1,hf,h7]
    exact⟨m',by omega,⟨f6,kz,k+1,(x+y+c)/1000000000,v',D++[(x+y+c)%1000000000],by omega,by simp,by simp[t2],by simp,by omega,by omega,hz,f5,by simp[hD],dD.app (Di.one (by omega) (by omega)),nT⟩⟩
   ·have i1:¬(k:Int)<(la.length:Int):=by omega
    have i2:¬(k:Int)<(lb.length:Int):=by omega
    simp[A.jz,hr,h7,h6,h5,lu,lv,g3,i1,i2,e1,e2,t1,t3,t4,ad]
    simp(disch:=first|(simp;done)|omega|rfl) [f1,hf,h7]
    exact⟨m',by omega,⟨f6,kz,k+1,(x+y+c)/1000000000,v',D++[(x+y+c)%1000000000],by omega,by simp,by simp[t2],by simp,by omega,by omega,hz,f5,by simp[hD],dD.app (Di.one (by omega) (by omega)),nT⟩⟩
  ·obtain⟨g1,g2,g3⟩:¬k<la.length/\¬k<lb.length/\¬0<c:=by omega
   have i1:¬(k:Int)<(la.length:Int):=by omega
   have i2:¬(k:Int)<(lb.length:Int):=by omega
   obtain rfl:c=0:=by omega
   rw[Pm (by omega),Pm (by omega),Int.mul_zero,Int.add_zero]at l7
   simp[A.jz,hr,hf,h7,h6,lu,lv,i1,i2,hW,hK]
   exact⟨out,h5,D,ho,dD,l7,by omega⟩
 ·rintro _ r ⟨H,n1,W⟩ hr ⟨rfl,hW,hK,out,D,h5,ho,dD,l7,hl⟩
  simp only at hW hK ho
  simp[h5,az,hW,hK]
  exact⟨D,ho.sl,dD,l7,hl⟩
end Go.Mx
