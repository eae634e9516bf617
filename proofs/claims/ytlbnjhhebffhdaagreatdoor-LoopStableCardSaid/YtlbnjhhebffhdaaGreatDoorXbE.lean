/-lensletref01-/
import Derived.Test.YtlbnjhhebffhdaaGreatDoorXbB
set_option linter.all false
set_option maxHeartbeats 8000000
namespace Go.Mx
noncomputable section
open Go Go.Proofs
variable {N j k n:Nat} {h:T O} {m:List (List Rat)} {u v:V}
set_option maxRecDepth 1000000
def A.zhN:=A.q Tryz.f162
def A.zgJ:=A.ql A.zhN 0 []
def A.b162:=(fun x0=>A.qb A.zhN [x0]) A.zgJ
def A.k162:=@A.kk 162 23 [.tmp 4] A.b162 (by kernel_rfl) rfl
def A.b214:=A.q Tryz.f214
def A.k214:=@A.kk 214 10 [.tmp 2] A.b214 (by kernel_rfl) rfl
def A.zhB:=A.q Tryz.f161
def A.zgK:=A.ql A.zhB 1 []
def A.zgL:=(fun x0=>A.ql A.zhB 0 [x0]) A.zgK
def A.b161:=(fun x0=>A.qb A.zhB [x0]) A.zgL
def A.k161:=@A.kk 161 34 [.tmp 2] A.b161 (by kernel_rfl) rfl
def A.w90:=A.q Tryz.f90
def A.zgY:=A.ql A.w90 0 []
def A.b90:=(fun x0=>A.qb A.w90 [x0]) A.zgY
def A.k90:=@A.kk 90 26 [.tmp 4] A.b90 (by kernel_rfl) rfl
def Xc4{a b:List Rat}(hu:Tx h N u a)(hv:Tx h N v b)(jb:a.length<=b.length)(ha:∀q∈a,Qb j q)(hb:∀q∈b,Qb k q)(hj:1<=j)(hk:1<=k)(hl:a.length*(j+k+1)+j+k+1<=400000000):Fn A.C 215 [u,v] h N (fun x _ _=>x=.str (Zao (Xaw a b))):=by
 intro w;have l1:=hu.len;have l2:=hv.len;have hal:a.length<=400000000:=by have:=Nat.le_mul_of_pos_right a.length (show 0<j+k+1 by omega);omega
 rw[aZ,A.k215 (by simp)];simp(disch:=first|(simp;done)|omega|rfl) [-getElem?_pos,A.b215];refine Zal [(5,23)] (fun e r st=>e=.exit 0/\aL N st.w=[]/\ah h N st.h st.n/\r.get 5=some (.str (Zao (Xaw a b)))) (fun m r st=>aL N st.w=[]/\ah h N st.h st.n/\∃t,t+m=a.length/\r.get 6=some (.int .i64 t)/\r.get 5=some (.str (Zao (Xbl a b t)))) a.length ?_ ?_ ?_
 ·exact⟨by simp,ah.refl,0,by omega,by simp,by simp[Xbl,xI]⟩
 ·rintro m r ⟨H,n1,W⟩ hr hf ⟨hW,hK,t,ht,h6,h5⟩;simp only at hW hK;rw[cn];cases m with
  |zero=>
   obtain rfl:t=a.length:=by omega
   simp(disch:=first|(simp;done)|omega|rfl) [-getElem?_pos,A.zgD,hr,hf,h6,h5,l1,hW,hK];rfl
  |succ m=>
   have aW:t<a.length:=by omega
   have zij:(t:Int)<(a.length:Int):=by omega
   have oR:t<b.length:=by omega
   have zh8:(t:Int)<(b.length:Int):=by omega
   obtain⟨p,hp⟩:=eQ aW;obtain⟨q,hq⟩:=eQ oR;have hpb:=ha p (eI hp);have Ic:=hb q (eI hq);have JF:=Xb5 ha hb hj hk t;have hmul:t*(j+k+1)<=a.length*(j+k+1):=ot _ (by omega);have e1:Xbl a b (t+1)=Xbl a b t+p*q:=by simp[Xbl,hp,hq]
   obtain⟨i,o,cc,e,rw,q1,q2,q3,q4⟩:=(Sl.ai hu hK).at (Ykf hp);obtain⟨i',o',cc',e',yL,p1,p2,p3,p4⟩:=(Sl.ai hv hK).at (Ykf hq);simp(disch:=first|(simp;done)|omega|rfl) [-getElem?_pos,A.zgD,hr,hf,h6,h5,l1,l2,aW,zij,oR,zh8,q1,q2,q3,q4,p1,p2,p3,p4];refine av (SP hpb Ic (by omega) (by omega)) ?_;rintro _ H2 n2 k2 rfl;simp(disch:=first|(simp;done)|omega|rfl) [-getElem?_pos,];refine av (Zwc JF (hpb.mul Ic) (by omega) (by omega)) ?_;rintro _ H3 n3 k3 rfl;rw[<-e1];simp(disch:=first|(simp;done)|omega|rfl) [-getElem?_pos,hr,hf,h6,b_.chk,hW];exact⟨m,by omega,(hK.trans k2).trans k3,t+1,by omega,by simp,by simp⟩
 rintro _ r ⟨H,n1,W⟩ hr ⟨rfl,hW,hK,h5⟩;simp only at hW hK;simp(disch:=first|(simp;done)|omega|rfl) [-getElem?_pos,hr,h5,Ret,hW,hK]
def Xc9{b:List Rat}(hu:TxM h N u m)(hv:Tx h N v b)(hm:∀r∈m,r.length=n/\∀q∈r,Qb j q)(hn:n<=b.length)(hb:∀q∈b,Qb k q)(hj:1<=j)(hk:1<=k)(hl:n*(j+k+1)+j+k+1<=400000000)(hml:m.length<100000):Fn A.C 162 [u,v] h N (fun x h' n'=>Own 1 30 N h' n' x ((tx (m.map fun r=>Xaw r b)).map fun y=>[y])):=by
 intro w;have l1:=hu.len;rw[aZ,A.k162 (by simp)];simp(disch:=first|(simp;done)|omega|rfl) [-getElem?_pos,A.b162];refine Zal [(5,21)] (fun e r st=>e=.exit 0/\aL N st.w=[]/\ah h N st.h st.n/\∃x,r.get 5=some x/\Own 1 30 N st.h st.n x ((tx (m.map fun r=>Xaw r b)).map fun y=>[y])) (fun i r st=>aL N st.w=[]/\ah h N st.h st.n/\∃t x,t+i=m.length/\r.get 6=some (.int .i64 t)/\r.get 5=some x/\Own 1 30 N st.h st.n x ((tx ((m.take t).map fun r=>Xaw r b)).map fun y=>[y])) m.length ?_ ?_ ?_
 ·exact⟨by simp,ah.refl,0,.ziA,by omega,by simp,by simp,by simpa[tx,strs]using Own.nil⟩
 ·rintro i r ⟨H,n1,W⟩ hr hf ⟨hW,hK,t,x,ht,h6,h5,ho⟩;simp only at hW hK ho;rw[cn];cases i with
  |zero=>
   obtain rfl:t=m.length:=by omega
   rw[At]at ho;simp(disch:=first|(simp;done)|omega|rfl) [-getElem?_pos,A.zgJ,hr,hf,h6,h5,l1,hW,hK];exact ho
  |succ i=>
   have aW:t<m.length:=by omega
   have zij:(t:Int)<(m.length:Int):=by omega
   obtain⟨row,zgc⟩:=eQ aW;obtain⟨a1,a2⟩:=hm row (eI zgc);obtain⟨i',o,cc,e,rw,ru,q1,q2,q3,q4,q5⟩:=(hu.ai hK).at zgc;simp(disch:=first|(simp;done)|omega|rfl) [-getElem?_pos,A.zgJ,hr,hf,h6,h5,l1,aW,zij,q1,q2,q3,q4];refine av (Xc4 q5 (hv.ai hK) (by omega) a2 hb hj hk (by rw[a1];exact hl)) ?_;rintro _ H2 n2 k2 rfl;have oH:=k2.le;have gW:=hK.le;have vF:(((tx ((m.take t).map fun r=>Xaw r b)).map fun y=>[y])).length<=100000:=by simp[Sb];omega
   obtain⟨v',h',w',f1,f2,f3,_,f5⟩:=Bj (x:=[.str (Zao (Xaw row b))]) (u:=.slice n2 0 1 (some 1) 1) (bytes:=16) (w:=W) ((ho.ai k2).ai (ah.refl.new (.cells [.str (Zao (Xaw row b))] 30 true))) (by omega) (by decide) rfl (by simp[oL,St.row,aK]) (by omega);have e7:((tx ((m.take t).map fun r=>Xaw r b)).map fun y=>[y])++[[.str (Zao (Xaw row b))]]=(tx ((m.take (t+1)).map fun r=>Xaw r b)).map fun y=>[y]:=by rw[HQ,zgc];simp[tx,strs]
   rw[e7]at f5;simp(disch:=first|(simp;done)|omega|rfl) [-getElem?_pos,hr,hf,h6,h5,aj,f1];exact⟨i,by omega,by rw[f2];exact hW,((hK.trans k2).trans (ah.refl.new (.cells [.str (Zao (Xaw row b))] 30 true))).then f3,t+1,by omega,by simp,by rw[<-List.map_take];exact f5⟩
 rintro _ r ⟨H,n1,W⟩ hr ⟨rfl,hW,hK,x,h5,ho⟩;simp only at hW hK ho;simp(disch:=first|(simp;done)|omega|rfl) [-getElem?_pos,hr,h5,Ret,hW,hK];exact ho
def Xce{w:List Nat}{r0:List Rat}(hu:TxM h N u m)(hr:m[0]?=some r0)(hn:r0.length=n):A.C.call (.func 214 [] []) [u] ⟨h,N,w⟩=some (.int .i64 n,⟨h,N,w⟩):=by
 have l1:=hu.len;have h0:=yz hr;have rQ:¬(m.length:Int)=0:=by omega
 have h1:¬m.length=0:=by omega
 have h2:(0:Int)<(m.length:Int):=by omega
 obtain⟨i,o,c,e,rw,v,q1,q2,q3,q4,q5⟩:=hu.at hr;have q6:=q5.len;rw[hn]at q6;rw[mY]at q4;apply Call.eq;rw[aZ,A.k214 (by simp)];simp(disch:=first|(simp;done)|omega|rfl) [-getElem?_pos,A.b214,l1,h0,rQ,h1,h2,q1,q2,q3,q4,q6,a_]
def Xc2(hu:TxM h N u m)(hm:∀r∈m,r.length=n)(hml:m.length<1000)(hn:n<1000)(h0:0<m.length):Fn A.C 161 [u] h N (fun x h' n'=>MtO N h' n' x (Yz6 m n)):=by
 intro w;have l1:=hu.len;obtain⟨r0,kh⟩:=eQ h0;have zhO:=hm r0 (eI kh);have rQ:(0:Int)<(m.length:Int):=by omega
 rw[aZ,A.k161 (by simp)];simp(disch:=first|(simp;done)|omega|rfl) [-getElem?_pos,A.b161];refine Zal [(3,32)] (fun e r st=>e=.exit 0/\aL N st.w=[]/\ah h N st.h st.n/\∃x,r.get 3=some x/\MtO N st.h st.n x (Yz6 m n)) (fun i r st=>aL N st.w=[]/\ah h N st.h st.n/\∃k x,k+i=n/\r.get 4=some (.int .i64 k)/\r.get 3=some x/\MtO N st.h st.n x (Yz6 m k)) n ?_ ?_ ?_
 ·exact⟨by simp,ah.refl,0,.ziA,by omega,by simp,by simp,MtO.nil⟩
 ·rintro i r ⟨H,n1,W⟩ hr hf ⟨hW,hK,k,x,hk,h4,h3,ho⟩;simp only at hW hK ho;obtain⟨i0,o0,c0,e0,rw0,u0,z1,z2,z3,z4,z5⟩:=(hu.ai hK).at kh;have z6:=z5.len;rw[zhO]at z6;rw[mY]at z4;have wq:=Xce (w:=W) (hu.ai hK) kh zhO;rw[cn];cases i with
  |zero=>
   obtain rfl:k=n:=by omega
   simp(disch:=first|(simp;done)|omega|rfl) [-getElem?_pos,A.zgL,hr,hf,h4,h3,wq,hW,hK];exact ho
  |succ i=>
   have aW:k<n:=by omega
   have zij:(k:Int)<(n:Int):=by omega
   simp(disch:=first|(simp;done)|omega|rfl) [-getElem?_pos,A.zgL,hr,hf,h4,h3,wq,aW,zij];refine Zal [(5,6),(13,28)] (fun e r1 st=>e=.exit 2/\aL N st.w=[]/\ah H n1 st.h st.n/\∃y,r1.get 5=some y/\TxT st.h st.n y (Xar m k)) (fun j r1 st=>aL N st.w=[]/\ah H n1 st.h st.n/\∃t y,t+j=m.length/\r1.get 6=some (.int .i64 t)/\r1.get 5=some y/\Own 1 30 n1 st.h st.n y ((tx (Xar (m.take t) k)).map fun y=>[y])) m.length ?_ ?_ ?_
   ·exact⟨hW,ah.refl,0,.ziA,by omega,by simp,by simp,by simpa[Xar,tx,strs]using Own.nil⟩
   ·rintro j r1 ⟨H2,n2,W2⟩ Es hf1 ⟨dX,hK2,t,y,ht,h6,h5,hy⟩;simp only at dX hK2 hy;rw[cn];cases j with
    |zero=>
     obtain rfl:t=m.length:=by omega
     rw[At]at hy;simp(disch:=first|(simp;done)|omega|rfl) [-getElem?_pos,A.zgK,hr,Es,hf,hf1,h6,h5,l1,dX,hK2];exact Xa9 hy
    |succ j=>
     have zik:t<m.length:=by omega
     have zhP:(t:Int)<(m.length:Int):=by omega
     obtain⟨row,zgc⟩:=eQ zik;have hrn:=hm row (eI zgc);obtain⟨q,hq⟩:=eQ (l:=row) (k:=k) (by omega);obtain⟨i1,o1,c1,e1,rw1,u1,q1,q2,q3,q4,q5⟩:=((hu.ai hK).ai hK2).at zgc;have q6:=q5.len;rw[hrn]at q6;obtain⟨i3,o3,c3,e3,rw3,p1,p2,p3,p4⟩:=Sl.at q5 (Ykf hq);have gW:=hK.le;have zh9:=hK2.le;obtain⟨v',h',w',f1,f2,f3,_,f5⟩:=Bj (x:=[.str (Zao q)]) (u:=.slice n2 0 1 (some 1) 1) (bytes:=16) (w:=W2) (hy.ai (ah.refl.new (.cells [.str (Zao q)] 30 true))) (by omega) (by decide) rfl (by simp[oL,St.row,aK]) (by simp[Sb,Xar];omega);have e7:((tx (Xar (m.take t) k)).map fun y=>[y])++[[.str (Zao q)]]=(tx (Xar (m.take (t+1)) k)).map fun y=>[y]:=by rw[Xcr zgc hq];simp[tx,strs]
     rw[e7]at f5;simp(disch:=first|(simp;done)|omega|rfl) [-getElem?_pos,A.zgK,hr,Es,hf,hf1,h4,h6,h5,l1,zik,zhP,aW,zij,q1,q2,q3,q4,q6,p1,p2,p3,p4,aj,f1];have ow:aL N w'=[]:=Zqo f2 (by omega) dX;exact⟨j,by omega,ow,(hK2.trans (ah.refl.new (.cells [.str (Zao q)] 30 true))).then f3,t+1,by omega,by simp,f5⟩
   rintro _ r1 ⟨H2,n2,W2⟩ Es ⟨rfl,dX,hK2,y,h5,hy⟩;simp only at dX hK2 hy;have gW:=hK.le;have zh9:=hK2.le;have wH:=(Sl.form hy.1).one;have QV:=(Sl.form hy.1).cells;unfold V.one at wH;unfold V.cells at QV;obtain⟨v',h',w',f1,f2,f3,f4⟩:=((ho.ai hK2).ai (ah.refl.new (.cells [y] 22 true))).push (w:=W2) (x:=.slice n2 0 1 (some 1) 1) (hy.ai (ah.refl.new (.cells [y] 22 true))) (by omega) (by simp[oL,St.row,aK]) (by simp[Yz6];omega);have e8:Yz6 m k++[Xar m k]=Yz6 m (k+1):=by simp[Yz6,List.range_succ]
   rw[e8]at f4;have Dm:=hf.inner (D':=[(5,6),(13,28)]) rfl (by simp) Es;simp(disch:=first|(simp;done)|omega|rfl) [-getElem?_pos,hr,Es,hf,Dm,h4,h3,h5,wH,QV,aj,f1];exact⟨i,by omega,by rw[f2];exact dX,(((hK.trans hK2).trans (ah.refl.new (.cells [y] 22 true)))).then f3,k+1,by omega,by simp,f4⟩
 rintro _ r ⟨H,n1,W⟩ hr ⟨rfl,hW,hK,x,h3,ho⟩;simp only at hW hK ho;simp(disch:=first|(simp;done)|omega|rfl) [-getElem?_pos,hr,h3,Ret,hW,hK];exact ho
def tmQ(a C:List (List Rat)):List (List Rat):=a.map fun r=>C.map fun c=>Xaw c r
def Xcz{A C:List (List Rat)}{t:Nat}{r:List Rat}(h:A[t]?=some r):tmQ (A.take (t+1)) C=tmQ (A.take t) C++[C.map fun c=>Xaw c r]:=by unfold tmQ;rw[HQ,h];simp
def Xdv{A C:List (List Rat)}:(tmQ A C).length=A.length:=by simp[tmQ]
def Xcy{B:List (List Rat)}{c:Nat}:(Yz6 B c).length=c:=by simp[Yz6]
def Xcg{B:List (List Rat)}{c:Nat}(hB:∀r∈B,∀q∈r,Qb k q)(hk:1<=k):∀r∈Yz6 B c,r.length=B.length/\∀q∈r,Qb k q:=fun r hr=>by
 obtain⟨i,_,rfl⟩:=vo.1 hr
 refine⟨by simp[Xar],fun q hq=>?_⟩
 obtain⟨x,hx,rfl⟩:=vo.1 hq
 exact Xa1 (hB x hx) hk i
def Xc5{c:Nat}{A' B:List (List Rat)}(hu:TxM h N u A')(hv:TxM h N v B)(hA:∀r∈A',B.length<=r.length)(hB:∀r∈B,r.length=c)(qN:0<B.length)(hAl:A'.length<1000)(hBl:B.length<1000)(hc:c<1000)(qA:∀r∈A',∀q∈r,Qb k q)(qB:∀r∈B,∀q∈r,Qb j q)(hj:1<=j)(hk:1<=k)(hl:B.length*(j+k+1)+j+k+1<=400000000):Fn A.C 90 [u,v] h N (fun x h' n'=>∃b,N<=b/\MtO b h' n' x (tmQ A' (Yz6 B c))):=by
 intro w;have lu:=hu.len;rw[aZ,A.k90 (by simp)];simp(disch:=first|(simp;done)|omega|rfl) [-getElem?_pos,A.b90];refine av (Xc2 hv hB hBl hc qN) ?_;rintro y H1 n1 k1 hy;have xF:=k1.le;have hy:=hy.txm;simp(disch:=first|(simp;done)|omega|rfl) [-getElem?_pos,];refine Zal [(6,7),(10,24)] (fun e r st=>e=.exit 0/\aL n1 st.w=[]/\ah H1 n1 st.h st.n/\∃x,r.get 6=some x/\MtO n1 st.h st.n x (tmQ A' (Yz6 B c))) (fun i r st=>aL n1 st.w=[]/\ah H1 n1 st.h st.n/\∃t x,t+i=A'.length/\r.get 7=some (.int .i64 t)/\r.get 6=some x/\MtO n1 st.h st.n x (tmQ (A'.take t) (Yz6 B c))) A'.length ?_ ?_ ?_
 ·exact⟨by simp[KY],ah.refl,0,.ziA,by omega,by simp,by simp,MtO.nil⟩
 ·rintro i r ⟨H,m,W⟩ hr hf ⟨hW,hK,t,x,ht,h7,h5,hO⟩;simp only at hW hK hO;rw[cn];have le:=hK.le;cases i with
  |zero=>
   obtain rfl:t=A'.length:=by omega
   rw[jP (Yv5 _)]at hO;simp(disch:=first|(simp;done)|omega|rfl) [-getElem?_pos,A.zgY,hr,hf,h7,h5,lu,hW,hK];exact hO
  |succ i=>
   have aW:t<A'.length:=by omega
   have zij:(t:Int)<(A'.length:Int):=by omega
   obtain⟨row,zgc⟩:=eQ aW;have Cn:=eI zgc;obtain⟨i',o,cc,e,rw,ru,q1,q2,q3,q4,q5⟩:=(hu.ai (k1.trans hK)).at zgc;simp(disch:=first|(simp;done)|omega|rfl) [-getElem?_pos,A.zgY,hr,hf,h7,h5,lu,aW,zij,q1,q2,q3,q4];refine av (Xc9 (n:=B.length) (hy.ai hK) q5 (Xcg qB hj) (hA row Cn) (qA row Cn) hj hk hl (by rw[Xcy];omega)) ?_;rintro z H2 n2 k2 hz;have fr:=Xa9 hz;have oH:=k2.le;obtain⟨f1,f2⟩:V.one z=true/\V.cells z=[z]:=⟨(Sl.form fr.1).one,(Sl.form fr.1).cells⟩;have sp1:aj [V.ziA] 0 [z]=[z]:=rfl;have kD:ah H2 n2 (H2.set n2 (.cells [z] 22 true)) (n2+1):=ah.refl.new _;obtain⟨v',h',w',j1,j2,j3,j4⟩:=MtO.push (N0:=n1) (x:=.slice n2 0 1 (some 1) 1) (w:=W) ((hO.ai k2).ai kD) (fr.ai kD) (by omega) (by simp[oL,St.row,aK]) (by rw[Xdv,j9];omega);simp(disch:=first|(simp;done)|omega|rfl) [-getElem?_pos, -V.cells, -V.one,hr,hf,h7,h5,sp1,f1,f2,Zto,j1,j2,hW];exact⟨i,by omega,((hK.trans k2).trans kD).then j3,t+1,by omega,by simp,by rw[Xcz zgc];exact j4⟩
 rintro _ r ⟨H,m,W⟩ hr ⟨rfl,hW,hK,x,h5,hO⟩;simp only at hW hK hO;simp(disch:=first|(simp;done)|omega|rfl) [-getElem?_pos,hr,h5,Ret];exact⟨Xba hW xF,k1.trans hK,n1,xF,hO⟩
def A.w88:=A.q Tryz.f88
def A.zgZ:=A.ql A.w88 1 []
def A.zg0:=(fun x0=>A.ql A.w88 0 [x0]) A.zgZ
def A.b88:=(fun x0=>A.qb A.w88 [x0]) A.zg0
def A.k88:=@A.kk 88 49 [.tmp 2] A.b88 (by kernel_rfl) rfl
def Xbi(p:List Rat)(t:Nat):List Rat:=(List.range (p.length-1)).map fun k=>if k<t then -(pg p k/pg p (p.length-1)) else 0
def Xas(p:List Rat)(i:Nat):List Rat:=if i+1<p.length-1 then ((List.range (p.length-1)).map fun _=>(0:Rat)).set (i+1) 1 else Xbi p (p.length-1)
def Xaz(p:List Rat):List (List Rat):=(List.range (p.length-1)).map (Xas p)
def Xaq{p:List Rat}{t k:Nat}(h:k<p.length-1):(Xbi p t)[k]?=some (if k<t then -(pg p k/pg p (p.length-1)) else 0):=by unfold Xbi;rw[jT,NX h];rfl
def Xaa{p:List Rat}{t:Nat}:(Xbi p t).length=p.length-1:=by simp[Xbi]
def Xdm{p:List Rat}{t:Nat}(h:t<p.length-1):(Xbi p t).set t (-(pg p t/pg p (p.length-1)))=Xbi p (t+1):=by
 apply o8;intro k;by_cases hk:k<p.length-1
 ·by_cases e:t=k
  ·subst e;rw[lM (by rw[Xaa];exact h),Xaq h,aR (by omega)]
  rw[eJ e,Xaq hk,Xaq hk];by_cases aW:k<t
  ·rw[aR aW,aR (by omega)]
  rw[aA aW,aA (by omega)]
 rw[kc (by rw[xL,Xaa];omega),kc (by rw[Xaa];omega)]
def Xd6{p:List Rat}:Xbi p 0=(List.range (p.length-1)).map fun _=>(0:Rat):=by unfold Xbi;exact Nj fun k _=>aA (by omega)
def Xc8{h:T O}{N j:Nat}{u:V}{p:List Rat}(hu:Tx h N u p)(l1:2<=p.length)(l2:p.length<=13)(hz:pg p (p.length-1)≠0)(hq:∀y∈p,Qb j y)(hj:j<=100000):Fn A.C 88 [u] h N (fun x h' n'=>MtO N h' n' x (Xaz p)):=by
 intro w;have lu:=hu.len;obtain⟨d,hd⟩:∃d,p.length-1=d:=⟨_,rfl⟩;have pl:p.length=d+1:=by omega
 rw[pl]at lu;have e1:((d+1:Nat):Int)-1=(d:Int):=by omega
 have t1:Zao 1=[49]:=by decide+kernel
 have pz':pg p d≠0:=by rw[<-hd];exact hz
 rw[aZ,A.k88 (by simp)];simp(disch:=first|(simp;done)|omega|rfl) [-getElem?_pos,A.b88,lu,e1];refine Zal [(4,7),(11,47)] (fun e r st=>e=.exit 0/\aL N st.w=[]/\ah h N st.h st.n/\∃x,r.get 4=some x/\MtO N st.h st.n x (Xaz p)) (fun m r st=>aL N st.w=[]/\ah h N st.h st.n/\∃i x,i+m=d/\r.get 5=some (.int .i64 i)/\r.get 4=some x/\MtO N st.h st.n x ((List.range i).map (Xas p))) d ?_ ?_ ?_
 ·exact⟨by simp,ah.refl,0,.ziA,by omega,by simp,by simp,MtO.nil⟩
 ·rintro m r ⟨H,n1,W⟩ hr hf ⟨hW,hK,i,x,him,r5,r4,ho⟩;simp only at hW hK ho;rw[cn];have Nx:=hK.le;cases m with
  |zero=>
   obtain rfl:i=d:=by omega
   simp(disch:=first|(simp;done)|omega|rfl) [-getElem?_pos,A.zg0,hr,hf,r5,r4,hW,hK];unfold Xaz;rw[hd];exact ho
  |succ m=>
   have aW:i<d:=by omega
   have zij:(i:Int)<(d:Int):=by omega
   simp(disch:=first|(simp;done)|omega|rfl) [-getElem?_pos,A.zg0,hr,hf,r5,r4,aW,zij];refine av (Xau (n:=d) (by omega) (by omega)) ?_;rintro _ h2 n2 k2 ⟨R,rfl,hR,s2⟩;have oH:=k2.le;have wX:=ho.ai k2;have K2:=hK.trans k2;have lR:=s2.lt;have gR:=s2.get;by_cases hc:i+1<d
   ·have Jp:(i:Int)<(d:Int)-1:=by omega
    have c1:(0:Int)<=(i:Int)+1:=by omega
    have c2:(i:Int)+1<(d:Int):=by omega
    have c3:((i:Int)+1).toNat=i+1:=by omega
    have er:((List.range d).map fun _=>(0:Rat)).set (i+1) 1=Xas p i:=by rw[Xas,hd,aR hc]
    obtain⟨x1,x2⟩:=s2.put (j:=i+1) (q:=1) (by simp;omega);rw[er]at x1 x2;rw[t1]at x1;have c4:i+1+1<=d:=by omega
    have nR:¬R<N:=by omega
    have kS:=k2.set (i:=R) (o:=.cells (tx (Xas p i)) 30 true) hR;simp(disch:=first|(simp;done)|omega|rfl) [-getElem?_pos,hr,hf,r5,Jp,c1,c2,c3,c4,gR,lR,x1,bM,Sb];generalize h2.set R (.cells (tx (Xas p i)) 30 true)=HS at*;have hoS:=ho.ai kS;have frS:=x2.txt;have lc:(Xas p i).length=d:=by rw[<-er];simp
    rw[lc]at frS;have kD:ah HS n2 (HS.set n2 (.cells [.slice R 0 d none 1] 22 true)) (n2+1):=ah.refl.new _;obtain⟨v',h',w',j1,j2,j3,j4⟩:=MtO.push (N0:=N) (x:=.slice n2 0 1 (some 1) 1) (w:=(R::W)) (hoS.ai kD) (frS.ai kD) (by omega) (by simp[oL,St.row,aK]) (by simp;omega);have e8:(List.range i).map (Xas p)++[Xas p i]=(List.range (i+1)).map (Xas p):=by simp[List.range_succ]
    rw[e8]at j4;simp(disch:=first|(simp;done)|omega|rfl) [-getElem?_pos, -V.cells, -V.one,hr,hf,r4,r5,V.cells,V.one,aj,Zto,j1,j2];exact⟨m,by omega,by rw[aA nR];exact hW,((hK.trans kS).trans kD).then j3,i+1,by omega,by simp,j4⟩
   have Jp:¬(i:Int)<(d:Int)-1:=by omega
   simp(disch:=first|(simp;done)|omega|rfl) [-getElem?_pos,hr,hf,r5,Jp];refine Zal [(7,7),(26,43)] (fun e r1 st=>e=.exit 2/\aL N st.w=[]/\ah H n1 st.h st.n/\RwS st.h st.n R (Xbi p d)) (fun m1 r1 st=>aL N st.w=[]/\ah H n1 st.h st.n/\∃t:Nat,t+m1=d/\r1.get 7=some (.int .i64 t)/\RwS st.h st.n R (Xbi p t)) d ?_ ?_ ?_
   ·exact⟨hW,k2,0,by omega,by simp,by rw[Xd6,hd];exact s2⟩
   ·rintro m1 r1 ⟨H3,n3,W3⟩ Es hf1 ⟨JZ,hK3,t,htm,r7,s3⟩;simp only at JZ hK3 s3;rw[cn];cases m1 with
    |zero=>
     obtain rfl:t=d:=by omega
     simp(disch:=first|(simp;done)|omega|rfl) [-getElem?_pos,A.zgZ,Es,hf1,hr,hf,r7];exact⟨JZ,hK3,s3⟩
    |succ m1=>
     have ltt:t<d:=by omega
     have zha:(t:Int)<(d:Int):=by omega
     have ML:=hu.ai (hK.trans hK3);obtain⟨i0,o0,c0,e0,w0,a1,a2,a3,a4⟩:=Sl.at ML (Ykf (iy (p:=p) (i:=t) (by omega)));obtain⟨i1,o1,c1,e1',w1,b1,b2,b3,b4⟩:=Sl.at ML (Ykf (iy (p:=p) (i:=d) (by omega)));rw[a1]at b1;obtain⟨rfl,rfl⟩:i0=i1/\o0=o1:=by simpa using b1
     rw[a3]at b3;obtain⟨rfl,rfl,rfl⟩:c0=c1/\e0=e1'/\w0=w1:=by simpa using b3
     have q0:(0:Int)<=(t:Int):=by omega
     have q1:(t:Int).toNat=t:=by omega
     have q2:(0:Int)<=(d:Int):=by omega
     have q3:(d:Int).toNat=d:=by omega
     have q4:(t:Int)<(d:Int)+1:=by omega
     have q5:(d:Int)<(d:Int)+1:=by omega
     have bt:=hq _ (eI (iy (p:=p) (i:=t) (by omega)));have bd:=hq _ (eI (iy (p:=p) (i:=d) (by omega)));have qd:Qb (j+j) (pg p t/pg p d):=by rw[Rat.div_def];exact bt.mul (bd.inv pz')
     have td:=SN qd;have ng:=fun st=>Ym1 (q:=pg p t/pg p d) (st:=st) (by omega);simp(disch:=first|(simp;done)|omega|rfl) [-getElem?_pos,A.zgZ,Es,hf1,hr,hf,r7,ltt,zha,lu,q0,q1,q2,q3,q4,q5,a1,a2,a3,a4,b4];refine av (Yz8 bt bd pz' (by omega) (by omega)) ?_;rintro _ h4 n4 k4 rfl;have s4:=s3.ai k4;have lR4:=s4.lt;have gR4:=s4.get;obtain⟨x1,x2⟩:=s4.put (j:=t) (q:= -(pg p t/pg p d)) (by rw[Xaa];omega);have ls:=Xdm (p:=p) (t:=t) (by omega);rw[hd]at ls;rw[ls]at x1 x2;have KU:=hK3.le;have nR:¬R<N:=by omega
     have c44:t+1<=d:=by omega
     simp(disch:=first|(simp;done)|omega|rfl) [-getElem?_pos,ng,Es,hf1,hr,hf,r7,q0,q1,zha,gR4,lR4,x1,bM,Sb,Xaa,hd,c44,aL,nR];exact⟨m1,by omega,JZ,(hK3.trans k4).set hR,t+1,by omega,by simp,x2⟩
   rintro _ r1 ⟨H3,n3,W3⟩ Es ⟨rfl,JZ,hK3,s3⟩;simp only at JZ hK3 s3;have KU:=hK3.le;have Eu:=ho.ai hK3;have frS:=s3.txt;rw[show (Xbi p d).length=d by rw[Xaa,hd]]at frS;have er:Xbi p d=Xas p i:=by rw[Xas,aA (by omega),hd]
   rw[er]at frS;have Dm:=hf.inner (D':=[(7,7),(26,43)]) rfl (fun hh=>by simpa using hh) Es;have kD:ah H3 n3 (H3.set n3 (.cells [.slice R 0 d none 1] 22 true)) (n3+1):=ah.refl.new _;obtain⟨v',h',w',j1,j2,j3,j4⟩:=MtO.push (N0:=N) (x:=.slice n3 0 1 (some 1) 1) (w:=W3) (Eu.ai kD) (frS.ai kD) (by omega) (by simp[oL,St.row,aK]) (by simp;omega);have e8:(List.range i).map (Xas p)++[Xas p i]=(List.range (i+1)).map (Xas p):=by simp[List.range_succ]
   rw[e8]at j4;simp(disch:=first|(simp;done)|omega|rfl) [-getElem?_pos, -V.cells, -V.one,Es,hr,hf,r4,r5,V.cells,V.one,aj,Zto,j1,j2];exact⟨by simpa using Dm,m,by omega,JZ,((hK.trans hK3).trans kD).then j3,i+1,by omega,by simp,j4⟩
 rintro _ r ⟨H,n1,W⟩ hr ⟨rfl,hW,hK,x,r4,ho⟩;simp only at hW hK ho;simp(disch:=first|(simp;done)|omega|rfl) [-getElem?_pos,hr,r4,Ret,hW,hK];exact ho
variable {j k:Nat}
def A.w20:=A.q Tryz.f20
def A.zg1:=A.ql A.w20 3 []
def A.zg2:=(fun x0=>A.ql A.w20 2 [x0]) A.zg1
def A.zg3:=A.ql A.w20 1 []
def A.zg4:=A.ql A.w20 0 []
def A.b20:=(fun x0 x1 x2=>A.qb A.w20 [x0,x1,x2]) A.zg4 A.zg3 A.zg2
def A.k20:=@A.kk 20 65 [.tmp 4] A.b20 (by kernel_rfl) rfl
def idM(d:Nat)(i:Nat):List Rat:=((List.range d).map fun _=>(0:Rat)).set i 1
def Xa7(p:List Rat):Nat->List (List Rat)
 |0=>(List.range (p.length-1)).map (idM (p.length-1))
 |n+1=>tmQ (Xa7 p n) (Yz6 (Xaz p) (p.length-1))
def Xbc{p:List Rat}{t:Nat}(hk:k<p.length-1):(Xas p t)[k]?.getD 0=if t+1<p.length-1 then (if k=t+1 then 1 else 0) else -(pg p k/pg p (p.length-1)):=by
 unfold Xas;split
 ·rename_i ht;by_cases e:t+1=k
  ·subst e;rw[lM (by simp;omega),aR rfl];rfl
  rw[eJ e,aA (Ne.symm e),jT,NX hk];rfl
 rw[Xaq hk,aR hk];rfl
def Xb6{p:List Rat}{t:Nat}(ht:t<p.length-1)(hk:k<p.length-1):(Xar (Xaz p) k)[t]?.getD 0=if t+1<p.length-1 then (if k=t+1 then 1 else 0) else -(pg p k/pg p (p.length-1)):=by unfold Xar Xaz;rw[List.map_map,jT,NX ht];exact Xbc hk
def Xb4{p r:List Rat}{k:Nat}(hk:k<p.length-1):∀{t:Nat},t+1<=p.length-1->Xbl (Xar (Xaz p) k) r t=if 1<=k/\k<=t then pg r (k-1) else 0
 |0,_=>by rw[aA (by omega)];rfl
 |t+1,ht=>by
  have hc:=Xb6 (p:=p) (t:=t) (k:=k) (by omega) hk
  rw[aR (show t+1<p.length-1 by omega)]at hc
  rw[Xbl,Xb4 hk (t:=t) (by omega),hc]
  have e:r[t]?.getD 0=pg r t:=rfl
  rw[e]
  by_cases c:k=t+1
  ·rw[aA (by omega),aR c,aR (by omega),c,Nat.add_sub_cancel]
   grind
  ·rw[aA c]
   by_cases c2:1<=k/\k<=t
   ·rw[aR c2,aR (by omega)]
    grind
   ·rw[aA c2,aA (by omega)]
    grind
def Xd2{p r r':List Rat}(l1:2<=p.length)(hk:k<p.length-1)(he:∀i,i<p.length-1->pg r' i=pg r i):Xaw (Xar (Xaz p) k) r'=nxQ p r k:=by
 have hl:(Xar (Xaz p) k).length=p.length-1:=by simp[Xar,Xaz]
 obtain⟨d,hd⟩:∃d,p.length-1=d+1:=⟨p.length-2,by omega⟩;unfold Xaw;have hc:=Xb6 (p:=p) (t:=d) (k:=k) (by omega) hk;rw[aA (show ¬d+1<p.length-1 by omega)]at hc;rw[hl,hd,Xbl,Xb4 hk (by omega),hc,nxQ,aR hk,hd,show p.length-2=d by omega];have e:r'[d]?.getD 0=pg r' d:=rfl;rw[e,he d (by omega)];by_cases c:k=0
 ·rw[aA (by omega),aR c,Rat.div_def,Rat.div_def];grind
 rw[aR (by omega),aA c,he (k-1) (by omega),Rat.div_def,Rat.div_def];grind
def Xap{p:List Rat}(l1:2<=p.length)(l2:p.length<=13):∀{n:Nat},Xa7 p n=(List.range (p.length-1)).map fun i=>(Ytx p i n).take (p.length-1)
 |0=>by
  unfold Xa7
  refine Nj fun i hi=>?_
  have hi:=Dh.1 hi
  apply o8
  intro k
  by_cases hk:k<p.length-1
  ·rw[List.getElem?_take_of_lt hk]
   have e2:(Ytx p i 0)[k]?=some (if k=i then 1 else 0):=by
    show (unR i)[k]?=_
    unfold unR
    rw[jT,NX (by omega)]
    rfl
   rw[e2]
   unfold idM
   by_cases e:i=k
   ·subst e
    rw[lM (by simp;omega),aR rfl]
   ·rw[eJ e,aA (Ne.symm e),jT,NX hk]
    rfl
  ·rw[kc (by simp[idM];omega),kc (by simp;omega)]
 |n+1=>by
  rw[Xa7,Xap l1 l2 (n:=n),tmQ,List.map_map]
  refine Nj fun i hi=>?_
  simp only[Function.comp]
  apply o8
  intro k
  by_cases hk:k<p.length-1
  ·rw[List.getElem?_take_of_lt hk]
   have e2:(Ytx p i (n+1))[k]?=some (nxQ p (Ytx p i n) k):=by
    show (nxR p (Ytx p i n))[k]?=_
    unfold nxR
    rw[jT,NX (by omega)]
    rfl
   rw[e2]
   unfold Yz6
   rw[List.map_map,jT,NX hk]
   show some (Xaw (Xar (Xaz p) k) _)=_
   rw[Xd2 (r:=Ytx p i n) l1 hk fun i' gZ=>by unfold pg;rw[List.getElem?_take_of_lt gZ]]
  ·rw[kc (by simp[Yz6];omega),kc (by simp;omega)]
def Xdc{p:List Rat}(l1:2<=p.length)(l2:p.length<=13){n:Nat}:(Xa7 p n).length=p.length-1:=by rw[Xap l1 l2];simp
def Xdb{p:List Rat}{n:Nat}(l1:2<=p.length)(l2:p.length<=13)(hz:pg p (p.length-1)≠0)(hq:∀y∈p,Qb j y):∀r∈Xa7 p n,r.length=p.length-1/\∀q∈r,Qb (Yz4 j n) q:=fun r hr=>by
 rw[Xap l1 l2]at hr
 obtain⟨i,_,rfl⟩:=vo.1 hr
 exact⟨by rw[j9,Yz2];omega,fun q hqq=>Yz9 hq l1 l2 hz q (BR hqq)⟩
def Xdq{p:List Rat}(hj:1<=j)(l1:2<=p.length)(hz:pg p (p.length-1)≠0)(hq:∀y∈p,Qb j y):∀r∈Xaz p,r.length=p.length-1/\∀q∈r,Qb (j+j) q:=fun r hr=>by
 obtain⟨t,_,rfl⟩:=vo.1 hr
 have hlen:(Xas p t).length=p.length-1:=by
  unfold Xas
  split
  ·simp
  ·exact Xaa
 refine⟨hlen,fun q hqq=>?_⟩
 obtain⟨k,hk⟩:=Nd hqq
 have hl:=yz hk
 have e:=Xbc (p:=p) (t:=t) (k:=k) (by omega)
 rw[hk]at e
 have e':q=if t+1<p.length-1 then (if k=t+1 then 1 else 0) else -(pg p k/pg p (p.length-1)):=e
 have bk:=hq _ (eI (iy (p:=p) (i:=k) (by omega)))
 have bd:=hq _ (eI (iy (p:=p) (i:=p.length-1) (by omega)))
 rw[e']
 split
 ·split
  ·exact(Qb.int (z:=1) (k:=1) (by decide) (by decide)).mono (by omega)
  ·exact(Qb.int (z:=0) (k:=1) (by decide) (by decide)).mono (by omega)
 ·have qd:Qb (j+j) (pg p k/pg p (p.length-1)):=by rw[Rat.div_def];exact bk.mul (bd.inv hz)
  unfold Qb
  rw[Rat.neg_num,AR,Rat.neg_den]
  exact qd
def Xc7{h:T O}{N n:Nat}{u:V}{p:List Rat}(hu:Tx h N u p)(l1:2<=p.length)(l2:p.length<=13)(hz:pg p (p.length-1)≠0)(hq:∀y∈p,Qb j y)(D4:1<=j)(hj:j<=100)(hn:n<=8):Fn A.C 20 [u,.int .i64 (n:Nat)] h N (fun x _ _=>x=.str (Zao (Xab p n (p.length-1)))):=by
 intro w;have bb:∀m,m<=8->Yz4 j m<=100000:=fun m hm=>by
  have h1:=Xbd (j:=j) (n:=m);have h2:(2*j+2)*2^m<=202*2^8:=tU (by omega) (Ywo (by decide) hm);have h3:202*2^8=51712:=by decide
  omega
 have t1:Zao 1=[49]:=by decide+kernel
 have tz:Zao 0=[48]:=xI;obtain⟨d,hd⟩:∃d,p.length-1=d:=⟨_,rfl⟩;have cm:=Xdq D4 l1 hz hq;have pm:=fun n=>Xdb (n:=n) l1 l2 hz hq;have pln:=fun n=>Xdc (n:=n) l1 l2;rw[aZ,A.k20 (by simp)];simp(disch:=first|(simp;done)|omega|rfl) [-getElem?_pos,A.b20];refine av (Xc8 hu l1 l2 hz hq (by omega)) ?_;rintro vc h1 n1 k1 hc;have lc:=hc.txm.len;rw[show (Xaz p).length=d by simp[Xaz,hd]]at lc;have xF:=k1.le;rw[hd]at cm pm pln ⊢;simp(disch:=first|(simp;done)|omega|rfl) [-getElem?_pos,lc];refine Zal [(7,9),(19,32)] (fun e r st=>e=.exit 0/\aL n1 st.w=[]/\ah h1 n1 st.h st.n/\∃x,r.get 7=some x/\MtO n1 st.h st.n x (Xa7 p 0)) (fun m r st=>aL n1 st.w=[]/\ah h1 n1 st.h st.n/\∃i x,i+m=d/\r.get 8=some (.int .i64 i)/\r.get 7=some x/\MtO n1 st.h st.n x ((List.range i).map (idM d))) d ?_ ?_ ?_
 ·exact⟨by simp[KY],ah.refl,0,.ziA,by omega,by simp,by simp,MtO.nil⟩
 ·rintro m r ⟨H,n2,W⟩ hr hf ⟨hW,hK,i,x,him,r8,r7,ho⟩;simp only at hW hK ho;rw[cn];have Nx:=hK.le;cases m with
  |zero=>
   obtain rfl:i=d:=by omega
   simp(disch:=first|(simp;done)|omega|rfl) [-getElem?_pos,A.zg4,hr,hf,r8,r7,hW,hK];unfold Xa7;rw[hd];exact ho
  |succ m=>
   have aW:i<d:=by omega
   have zij:(i:Int)<(d:Int):=by omega
   simp(disch:=first|(simp;done)|omega|rfl) [-getElem?_pos,A.zg4,hr,hf,r8,r7,aW,zij];refine av (Xau (n:=d) (by omega) (by omega)) ?_;rintro _ h3 n3 k3 ⟨R,rfl,hR,s3⟩;have KU:=k3.le;have lR:=s3.lt;have gR:=s3.get;have c1:(0:Int)<=(i:Int):=by omega
   have c3:(i:Int).toNat=i:=by omega
   have c4:i+1<=d:=by omega
   have nR:¬R<n1:=by omega
   obtain⟨x1,x2⟩:=s3.put (j:=i) (q:=1) (by simp;omega);rw[show ((List.range d).map fun _=>(0:Rat)).set i 1=idM d i from rfl]at x1 x2;rw[t1]at x1;have kS:=k3.set (i:=R) (o:=.cells (tx (idM d i)) 30 true) hR;simp(disch:=first|(simp;done)|omega|rfl) [-getElem?_pos,hr,hf,r8,c1,c3,c4,zij,gR,lR,x1,bM,Sb];generalize h3.set R (.cells (tx (idM d i)) 30 true)=HS at*;have hoS:=ho.ai kS;have frS:=x2.txt;have li:(idM d i).length=d:=by simp[idM]
   rw[li]at frS;have kD:ah HS n3 (HS.set n3 (.cells [.slice R 0 d none 1] 22 true)) (n3+1):=ah.refl.new _;obtain⟨v',h',w',j1,j2,j3,j4⟩:=MtO.push (N0:=n1) (x:=.slice n3 0 1 (some 1) 1) (w:=(R::W)) (hoS.ai kD) (frS.ai kD) (by omega) (by simp[oL,St.row,aK]) (by simp;omega);have e8:(List.range i).map (idM d)++[idM d i]=(List.range (i+1)).map (idM d):=by simp[List.range_succ]
   rw[e8]at j4;simp(disch:=first|(simp;done)|omega|rfl) [-getElem?_pos, -V.cells, -V.one,hr,hf,r7,r8,V.cells,V.one,aj,Zto,j1,j2];exact⟨m,by omega,by rw[aA nR];exact hW,((hK.trans kS).trans kD).then j3,i+1,by omega,by simp,j4⟩
 rintro _ r ⟨H,n2,W⟩ hr ⟨rfl,hW,hK,x,r7,ho⟩;simp only at hW hK ho;have yX:=(hc.ai hK).txm;have oH:=hK.le;simp(disch:=first|(simp;done)|omega|rfl) [-getElem?_pos,hr];refine Zal [(7,7),(10,10),(33,40)] (fun e r' st=>e=.exit 2/\aL n1 st.w=[]/\ah H n2 st.h st.n/\∃x,r'.get 7=some x/\TxM st.h st.n x (Xa7 p n)) (fun m r' st=>aL n1 st.w=[]/\ah H n2 st.h st.n/\∃t x,t+m=n/\r'.get 10=some (.int .i64 t)/\r'.get 7=some x/\TxM st.h st.n x (Xa7 p t)) n ?_ ?_ ?_
 ·exact⟨hW,ah.refl,0,x,by omega,by simp,by simp[r7],ho.txm⟩
 ·rintro m r' ⟨H2,n3,W2⟩ lV rF ⟨dX,hK2,t,x',htm,oh,r7',hx⟩;simp only at dX hK2 hx;rw[cn];cases m with
  |zero=>
   obtain rfl:t=n:=by omega
   simp(disch:=first|(simp;done)|omega|rfl) [-getElem?_pos,A.zg3,lV,rF,oh,r7',hr,dX,hK2];exact hx
  |succ m=>
   have ltt:t<n:=by omega
   have zha:(t:Int)<(n:Int):=by omega
   have bt:=bb t (by omega);have dl:d*(j+j+Yz4 j t+1)<=12*100301:=tU (by omega) (by omega);have b1:1<=Yz4 j t:=by cases t<;>simp[Yz4]
   have lcm:(Xaz p).length=d:=by simp[Xaz,hd]
   simp(disch:=first|(simp;done)|omega|rfl) [-getElem?_pos,A.zg3,lV,rF,oh,r7',hr,ltt,zha];refine av (Xc5 (c:=d) (j:=j+j) (k:=Yz4 j t) hx (yX.ai hK2) (fun r hr=>by rw[lcm,(pm t r hr).1];exact Yv5 _) (fun r hr=>(cm r hr).1) (by omega) (by rw[pln];omega) (by omega) (by omega) (fun r hr=>(pm t r hr).2) (fun r hr=>(cm r hr).2) (by omega) b1 (by rw[lcm];omega)) ?_;rintro y h3 n4 k3 ⟨b,hb,hy⟩;have e9:tmQ (Xa7 p t) (Yz6 (Xaz p) d)=Xa7 p (t+1):=by rw[Xa7,hd]
   rw[e9]at hy;simp(disch:=first|(simp;done)|omega|rfl) [-getElem?_pos,lV,rF,oh];exact⟨m,by omega,dX,hK2.trans k3,t+1,by omega,by simp,hy.txm⟩
 rintro _ r' ⟨H2,n3,W2⟩ lV ⟨rfl,dX,hK2,x',r7',hx⟩;simp only at dX hK2 hx;have KU:=hK2.le;simp(disch:=first|(simp;done)|omega|rfl) [-getElem?_pos,lV,hr];rw[<-tz];refine Zal [(11,14),(41,63)] (fun e r2 st=>e=.exit 4/\aL n1 st.w=[]/\ah H2 n3 st.h st.n/\r2.get 11=some (.str (Zao (Xab p n d)))) (fun m r2 st=>aL n1 st.w=[]/\ah H2 n3 st.h st.n/\∃i:Nat,i+m=d/\r2.get 12=some (.int .i64 i)/\r2.get 11=some (.str (Zao (Xab p n i)))) d ?_ ?_ ?_
 ·exact⟨dX,ah.refl,0,by omega,by simp,by simp[Xab]⟩
 ·rintro m r2 ⟨H3,n5,W3⟩ dw ik ⟨JZ,hK3,i,him,Qv,r11⟩;simp only at JZ hK3;rw[cn];cases m with
  |zero=>
   obtain rfl:i=d:=by omega
   simp(disch:=first|(simp;done)|omega|rfl) [-getElem?_pos,A.zg2,dw,ik,lV,hr,Qv,r11,JZ,hK3]
  |succ m=>
   have aW:i<d:=by omega
   have zij:(i:Int)<(d:Int):=by omega
   simp(disch:=first|(simp;done)|omega|rfl) [-getElem?_pos,A.zg2,dw,ik,lV,hr,Qv,r11,aW,zij];have zgc:(Xa7 p n)[i]?=some ((Ytx p i n).take d):=by rw[Xap l1 l2,hd,jT,NX aW];rfl
   have hx3:=hx.ai hK3;have rq:=Yz9 (i:=i) (n:=n) hq l1 l2 hz;have bn:=bb n hn;have hKD:1+d*(Yz4 j n+Yz4 j n+1)<=10000000:=by have:=tU (show d<=12 by omega) (show Yz4 j n+Yz4 j n+1<=200001 by omega);omega
   have bN:∀k,k<=d->Qb (1+d*(Yz4 j n+Yz4 j n+1)) (abN (Ytx p i n) k):=fun k hk=>(Xaf rq (by rw[Yz2];omega)).mono (by have:=ot (Yz4 j n+Yz4 j n+1) hk;omega);have bD:Qb (1+d*(Yz4 j n+Yz4 j n+1)) (Xab p n i):=Xax (by omega) fun i'=>by unfold Xcl;rw[hd];exact(Xaf (Yz9 hq l1 l2 hz) (by rw[Yz2];omega))
   have lx3:=hx3.len;rw[pln]at lx3;refine Zal [(13,14),(46,60)] (fun e r3 st=>e=.exit 6/\aL n1 st.w=[]/\ah H3 n5 st.h st.n/\r3.get 13=some (.str (Zao (abN (Ytx p i n) d)))) (fun m' r3 st=>aL n1 st.w=[]/\ah H3 n5 st.h st.n/\∃k:Nat,k+m'=d/\r3.get 14=some (.int .i64 k)/\r3.get 13=some (.str (Zao (abN (Ytx p i n) k)))) d ?_ ?_ ?_
   ·exact⟨JZ,ah.refl,0,by omega,by simp,by simp[abN,tz]⟩
   ·rintro m' r3 ⟨H4,n6,W4⟩ PO hf3 ⟨J0,MP,k,hkm,ME,tL⟩;simp only at J0 MP;rw[cn];cases m' with
    |zero=>
     obtain rfl:k=d:=by omega
     simp(disch:=first|(simp;done)|omega|rfl) [-getElem?_pos,A.zg1,PO,hf3,dw,lV,hr,ME,tL,J0,MP]
    |succ m'=>
     have hkt:k<d:=by omega
     have zh_:(k:Int)<(d:Int):=by omega
     obtain⟨i1,o1,c1,e1,w1,u1,q1,q2,q3,q4,q5⟩:=(hx3.ai MP).at zgc;have gk:((Ytx p i n).take d)[k]?=some (pg (Ytx p i n) k):=by rw[List.getElem?_take_of_lt hkt];exact iy (by rw[Yz2];omega)
     obtain⟨i2,o2,c2,e2,w2,p1,p2,p3,p4⟩:=Sl.at q5 (Ykf gk);have lu1:=q5.len;rw[j9,Yz2,show min d 12=d by omega]at lu1;have bq:=rq _ (eI (iy (p:=Ytx p i n) (i:=k) (by rw[Yz2];omega)));have tq':=SN bq;have ab:=fun st=>Zuo (q:=pg (Ytx p i n) k) (st:=st) (by omega);have z1:(0:Int)<=(i:Int):=by omega
     have z2:(i:Int).toNat=i:=by omega
     have z3:(0:Int)<=(k:Int):=by omega
     have z4:(k:Int).toNat=k:=by omega
     simp(disch:=first|(simp;done)|omega|rfl) [-getElem?_pos,A.zg1,PO,hf3,dw,ik,lV,hr,r7',Qv,ME,tL,aW,zij,hkt,zh_,lx3,lu1,q1,q2,q3,q4,p1,p2,p3,p4,z1,z2,z3,z4,ab];refine av (Zwc (bN k (by omega)) (yH bq) (by omega) (by omega)) ?_;rintro _ h8 n8 k8 rfl;simp(disch:=first|(simp;done)|omega|rfl) [-getElem?_pos,PO,hf3,ME];exact⟨m',by omega,J0,MP.trans k8,k+1,by omega,by simp,rfl⟩
   rintro _ r3 ⟨H4,n6,W4⟩ PO ⟨rfl,J0,MP,tL⟩;simp only at J0 MP;have Dm:=ik.inner (D':=[(13,14),(46,60)]) rfl (fun hh=>by simpa using hh) PO;have bNd:=bN d (Yv5 _);have tb:=SN bNd;simp(disch:=first|(simp;done)|omega|rfl) [-getElem?_pos,PO,tL,r11,Qv,dw];refine av (Xci bD bNd (by omega)) ?_;rintro _ h8 n8 k8 rfl;have er:(if Xab p n i<abN (Ytx p i n) d then abN (Ytx p i n) d else Xab p n i)=Xab p n (i+1):=by rw[Xab,Xcl,hd]
   rw[er];simp(disch:=first|(simp;done)|omega|rfl) [-getElem?_pos,PO,ik,dw,Qv];exact⟨by simpa using Dm,m,by omega,J0,(hK3.trans MP).trans k8,i+1,by omega,by simp,rfl⟩
 rintro _ r2 ⟨H3,n5,W3⟩ dw ⟨rfl,JZ,hK3,r11⟩;simp only at JZ hK3;simp(disch:=first|(simp;done)|omega|rfl) [-getElem?_pos,dw,r11,Ret];exact⟨Xba JZ xF,((k1.trans hK).trans hK2).trans hK3⟩
end
end Go.Mx
