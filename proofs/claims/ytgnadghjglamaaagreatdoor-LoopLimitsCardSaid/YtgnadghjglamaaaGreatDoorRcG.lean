/-lensletref01-/
import Derived.Test.YtgnadghjglamaaaGreatDoorRbK
set_option linter.all false
namespace Go.Mx
noncomputable section
open Go Go.Proofs
set_option maxRecDepth 1000000
def A.b43:=A.q Tryz.f43
def A.k43:=@A.kk 43 61 [.tmp 4] A.b43 (by kernel_rfl) rfl
def EI{z:Int}:Ba [.int .i64 z,.int .i64 (-z)]=some (.int .i64 (z.natAbs:Nat)):=by
 have h:Ba [.int .i64 z,.int .i64 (-z)]=some (.int .i64 (if z< -z then -z else z)):=rfl
 rw[h]
 congr 2
 split<;>omega
def Yhx{a:Int}{m:Nat}(hm:0<m):(Rat.divInt a m).num=a.tdiv (Nat.gcd a.natAbs m:Nat)/\(Rat.divInt a m).num.natAbs<=a.natAbs/\(Rat.divInt a m).den=m/Nat.gcd a.natAbs m:=by
 have hb:(0:Int)<(m:Int):=by omega
 have h1:=NR (a:=a) hb
 have h2:=Rc (a:=a) hb
 rw[eG]at h1 h2
 have hd:((Nat.gcd a.natAbs m:Nat):Int)∣a:=Int.gcd_dvd_left (a:=a) (b:=(m:Int))
 refine⟨?_,?_,h2.symm⟩
 ·rw[Int.tdiv_eq_ediv_of_dvd hd,Rat.num_divInt,Int.sign_eq_one_of_pos hb,Int.one_mul,Int.gcd_comm]
  rfl
 ·rw[<-h1]
  have:=uZ a.natAbs (Nat.gcd a.natAbs m)
  generalize a.natAbs/Nat.gcd a.natAbs m=k at*
  split
  ·rw[A7,eG];exact this
  ·rw[eG];exact this
def Ymk{a:Int}{m:Nat}{st:St}(hm:0<m)(h1: -4000000000000000000<=a)(h2:a<=4000000000000000000)(h3:m<=4000000000000000000):A.C.call (.func 43 [] []) [.int .i64 a,.int .i64 m] st=some (.str (ax (Rat.divInt a m)),st):=by
 apply Call.eq
 rw[aV,A.k43 (by simp)]
 have c1:¬a< -4000000000000000000:=by omega
 have c2:¬4000000000000000000<a:=by omega
 have c3:¬(m:Int)< -4000000000000000000:=by omega
 have c4:¬4000000000000000000<(m:Int):=by omega
 have c5:¬(m:Int)<0:=by omega
 have w1:bn .i64 (-a)= -a:=cL (by omega) (by omega)
 have w2:bn .i64 (0-a)= -a:=by rw[Int.zero_sub];exact w1
 have hg:=fun st=>Ych (a:=a.natAbs) (b:=m) (st:=st) (by omega) (by omega)
 obtain⟨e1,e2,e3⟩:=Yhx (a:=a) hm
 have yC:0<(Rat.divInt a m).den:=Rat.den_pos _
 have lP:ax (Rat.divInt a m)=if (Rat.divInt a m).den=1 then aR (Rat.divInt a m).num else aR (Rat.divInt a m).num++47::av (Rat.divInt a m).den:=rfl
 rw[lP]
 clear lP
 have EE:0<Nat.gcd a.natAbs m:=SJ _ hm
 generalize (Rat.divInt a m).num=P at*
 generalize (Rat.divInt a m).den=D at*
 generalize Nat.gcd a.natAbs m=g at*
 have hDm:D<=m:=by rw[e3];exact uZ _ _
 have e4:(m:Int).tdiv (g:Int)=(D:Int):=by rw[A2 (by omega),e3];rfl
 have g0:¬(g:Int)=0:=by omega
 have g1:¬g=0:=by omega
 have v1:bn .i64 P=P:=cL (by omega) (by omega)
 have v2:bn .i64 (-P)= -P:=cL (by omega) (by omega)
 have v3:bn .i64 (D:Int)=(D:Int):=cL (by omega) (by omega)
 have d1:∀st,A.C.call (.func 112 [] []) [.int .i64 (P.natAbs:Nat),.int .i64 1] st=some (.str (av P.natAbs),st):=fun st=>(ML (n:=P.natAbs) (m:=1) (st:=st) (by omega) (by omega)).trans (by rw[Pe])
 have d2:∀st,A.C.call (.func 112 [] []) [.int .i64 D,.int .i64 1] st=some (.str (av D),st):=fun st=>(ML (n:=D) (m:=1) (st:=st) (by omega) (by omega)).trans (by rw[Pe])
 have x1:(av P.natAbs).length<30:=by
  have:(dq P.natAbs).length<=19:=pn.1 (by omega)
  unfold av;split<;>simp;omega
 have x2:(av D).length<30:=by
  have:(dq D).length<=19:=pn.1 (by omega)
  unfold av;split<;>simp;omega
 have dP:IntKind.max .i64=9223372036854775807:=rfl
 have y1:¬(9223372036854775807:Int)<((av P.natAbs).length:Int):=by omega
 have y2:¬(9223372036854775807:Int)<1+((av P.natAbs).length:Int):=by omega
 have z1:D=1\/(¬D=1/\1<D):=by omega
 rcases z1 with rfl|⟨z1,z2⟩<;>by_cases hP:P<0
 ·simp(disch:=first|(simp;done)|omega|rfl) [-getElem?_pos,A.b43,c1,c2,c3,c4,c5,w1,w2,qV,EI,hg,<-e1,e4,g0,g1,v1,v2,v3,hP,d1,d2,iX,dP,y1,y2,aR,bU.bZ]
 ·simp(disch:=first|(simp;done)|omega|rfl) [-getElem?_pos,A.b43,c1,c2,c3,c4,c5,w1,w2,qV,EI,hg,<-e1,e4,g0,g1,v1,v2,v3,hP,d1,d2,iX,dP,y1,y2,aR,bU.bZ]
 ·have z3:(1:Int)<(D:Int):=by omega
  have y3:¬(9223372036854775807:Int)<((av P.natAbs).length:Int)+1+1:=by omega
  have y4:¬(9223372036854775807:Int)<((av P.natAbs).length:Int)+1+1+((av D).length:Int):=by omega
  simp(disch:=first|(simp;done)|omega|rfl) [-getElem?_pos,A.b43,c1,c2,c3,c4,c5,w1,w2,qV,EI,hg,<-e1,e4,g0,g1,v1,v2,v3,hP,d1,d2,iX,dP,y1,y2,aR,bU.bZ,z1,z2,z3,y3,y4]
 ·have z3:(1:Int)<(D:Int):=by omega
  have y3:¬(9223372036854775807:Int)<((av P.natAbs).length:Int)+1:=by omega
  have y4:¬(9223372036854775807:Int)<((av P.natAbs).length:Int)+1+((av D).length:Int):=by omega
  simp(disch:=first|(simp;done)|omega|rfl) [-getElem?_pos,A.b43,c1,c2,c3,c4,c5,w1,w2,qV,EI,hg,<-e1,e4,g0,g1,v1,v2,v3,hP,d1,d2,iX,dP,y1,y2,aR,bU.bZ,z1,z2,z3,y3,y4]
def Yml{p q:Int}{st:St}(hq:q<0)(h1: -4000000000000000000<=p)(h2:p<=4000000000000000000)(h3: -4000000000000000000<=q):A.C.call (.func 43 [] []) [.int .i64 p,.int .i64 q] st=some (.str (ax (Rat.divInt p q)),st):=by
 apply Call.eq
 rw[aV,A.k43 (by simp)]
 have c1:¬p< -4000000000000000000:=by omega
 have c2:¬4000000000000000000<p:=by omega
 have c3:¬q< -4000000000000000000:=by omega
 have c4:¬4000000000000000000<q:=by omega
 obtain⟨a,ha⟩:∃a,a= -p:=⟨_,rfl⟩
 obtain⟨m,pj⟩:∃m:Nat,(m:Int)= -q:=⟨(-q).toNat,by omega⟩
 have hm:0<m:=by omega
 have c5:bn .i64 (-p)=a:=by rw[<-ha];exact cL (by omega) (by omega)
 have c6:bn .i64 (-q)=(m:Int):=by rw[<-pj];exact cL (by omega) (by omega)
 have ml:Rat.divInt p q=Rat.divInt a m:=by rw[ha,pj];exact(Rat.neg_divInt_neg p q).symm
 rw[ml]
 clear ml
 have w1:bn .i64 (-a)= -a:=cL (by omega) (by omega)
 have w2:bn .i64 (0-a)= -a:=by rw[Int.zero_sub];exact w1
 have hg:=fun st=>Ych (a:=a.natAbs) (b:=m) (st:=st) (by omega) (by omega)
 obtain⟨e1,e2,e3⟩:=Yhx (a:=a) hm
 have yC:0<(Rat.divInt a m).den:=Rat.den_pos _
 have lP:ax (Rat.divInt a m)=if (Rat.divInt a m).den=1 then aR (Rat.divInt a m).num else aR (Rat.divInt a m).num++47::av (Rat.divInt a m).den:=rfl
 rw[lP]
 clear lP
 have EE:0<Nat.gcd a.natAbs m:=SJ _ hm
 generalize (Rat.divInt a m).num=P at*
 generalize (Rat.divInt a m).den=D at*
 generalize Nat.gcd a.natAbs m=g at*
 have hDm:D<=m:=by rw[e3];exact uZ _ _
 have e4:(m:Int).tdiv (g:Int)=(D:Int):=by rw[A2 (by omega),e3];rfl
 have g0:¬(g:Int)=0:=by omega
 have g1:¬g=0:=by omega
 have v1:bn .i64 P=P:=cL (by omega) (by omega)
 have v2:bn .i64 (-P)= -P:=cL (by omega) (by omega)
 have v3:bn .i64 (D:Int)=(D:Int):=cL (by omega) (by omega)
 have d1:∀st,A.C.call (.func 112 [] []) [.int .i64 (P.natAbs:Nat),.int .i64 1] st=some (.str (av P.natAbs),st):=fun st=>(ML (n:=P.natAbs) (m:=1) (st:=st) (by omega) (by omega)).trans (by rw[Pe])
 have d2:∀st,A.C.call (.func 112 [] []) [.int .i64 D,.int .i64 1] st=some (.str (av D),st):=fun st=>(ML (n:=D) (m:=1) (st:=st) (by omega) (by omega)).trans (by rw[Pe])
 have x1:(av P.natAbs).length<30:=by
  have:(dq P.natAbs).length<=19:=pn.1 (by omega)
  unfold av;split<;>simp;omega
 have x2:(av D).length<30:=by
  have:(dq D).length<=19:=pn.1 (by omega)
  unfold av;split<;>simp;omega
 have dP:IntKind.max .i64=9223372036854775807:=rfl
 have y1:¬(9223372036854775807:Int)<((av P.natAbs).length:Int):=by omega
 have y2:¬(9223372036854775807:Int)<1+((av P.natAbs).length:Int):=by omega
 have z1:D=1\/(¬D=1/\1<D):=by omega
 rcases z1 with rfl|⟨z1,z2⟩<;>by_cases hP:P<0
 ·simp(disch:=first|(simp;done)|omega|rfl) [-getElem?_pos,A.b43,c1,c2,c3,c4,c5,c6,hq,w1,w2,qV,EI,hg,<-e1,e4,g0,g1,v1,v2,v3,hP,d1,d2,iX,dP,y1,y2,aR,bU.bZ]
 ·simp(disch:=first|(simp;done)|omega|rfl) [-getElem?_pos,A.b43,c1,c2,c3,c4,c5,c6,hq,w1,w2,qV,EI,hg,<-e1,e4,g0,g1,v1,v2,v3,hP,d1,d2,iX,dP,y1,y2,aR,bU.bZ]
 ·have z3:(1:Int)<(D:Int):=by omega
  have y3:¬(9223372036854775807:Int)<((av P.natAbs).length:Int)+1+1:=by omega
  have y4:¬(9223372036854775807:Int)<((av P.natAbs).length:Int)+1+1+((av D).length:Int):=by omega
  simp(disch:=first|(simp;done)|omega|rfl) [-getElem?_pos,A.b43,c1,c2,c3,c4,c5,c6,hq,w1,w2,qV,EI,hg,<-e1,e4,g0,g1,v1,v2,v3,hP,d1,d2,iX,dP,y1,y2,aR,bU.bZ,z1,z2,z3,y3,y4]
 ·have z3:(1:Int)<(D:Int):=by omega
  have y3:¬(9223372036854775807:Int)<((av P.natAbs).length:Int)+1:=by omega
  have y4:¬(9223372036854775807:Int)<((av P.natAbs).length:Int)+1+((av D).length:Int):=by omega
  simp(disch:=first|(simp;done)|omega|rfl) [-getElem?_pos,A.b43,c1,c2,c3,c4,c5,c6,hq,w1,w2,qV,EI,hg,<-e1,e4,g0,g1,v1,v2,v3,hP,d1,d2,iX,dP,y1,y2,aR,bU.bZ,z1,z2,z3,y3,y4]
def Ymm{p q:Int}{st:St}(hq:q≠0)(h1: -4000000000000000000<=p)(h2:p<=4000000000000000000)(h3: -4000000000000000000<=q)(h4:q<=4000000000000000000):A.C.call (.func 43 [] []) [.int .i64 p,.int .i64 q] st=some (.str (ax (Rat.divInt p q)),st):=by
 rcases Int.lt_or_gt_of_ne hq with hq|hq
 ·exact Yml hq h1 h2 h3
 ·obtain⟨m,rfl⟩:∃m:Nat,q=(m:Int):=⟨q.toNat,by omega⟩
  exact Ymk (by omega) h1 h2 (by omega)
def A.Rl:=A.q Tryz.f110
def A.nD:=A.ql A.Rl 0 []
def A.b110:=(fun x0=>A.qb A.Rl [x0]) A.nD
def A.k110:=@A.kk 110 25 [.cell 2 (some 2)] A.b110 (by kernel_rfl) rfl
def Yaq{s:aU}(hd:cN s=true)(h1:1<=s.length)(h2:s.length<=3000000000){h:T O}{N:Nat}:Fn A.C 118 [.str (45::s)] h N (fun v h' n'=>Rg h' n' v (-((aK s:Nat):Int))):=by
 intro w
 have a1:cR 45=45:=rfl
 have a2:(1:Int)<=(s.length:Int)+1:=by omega
 have a3:∀st:St,Zcg st (some (.str (45::s))) (some (some (.int .i64 1))) (some none)=some (.str s,st):=fun st=>by rw[BK (by omega) (by simp only[ak];omega)];rfl
 rw[aV,A.k118 (by simp)]
 simp(disch:=first|(simp;done)|omega|rfl) [-getElem?_pos,A.b118,a1,a2,a3,aL,aC]
 refine c_ [(0,0),(4,4),(16,32)] (fun e r st=>e=.exit 0/\∃m,m<=9/\Ut (h.set N (.cells [.bool false,.aa] 92 true)) (N+1) s m r st) (Ut (h.set N (.cells [.bool false,.aa] 92 true)) (N+1) s) s.length ?_ ?_ ?_
 ·exact⟨by simp,ae.refl,s,.aa,[],by simp,rfl,h1,aZ _,hd,by simp,Own.nil,Di.nil,by simp,by simp[vI,pI]⟩
 ·rintro m r ⟨H,n1,W⟩ hr hf ⟨hW,hK,cur,u,l,g0,dW,m1,m2,oZ,g4,ho,iY,Jz,hv⟩
  simp only at hW hK ho
  subst dW
  rw[dk]
  by_cases h9:9<cur.length
  ·have Dt:(9:Int)<(cur.length:Int):=by omega
   have iT:=hK.le
   have KG:=M0 (s:=cur.drop (cur.length-9)) (st:=⟨H,n1,W⟩) (Us oZ _) (by simp;omega)
   have Cs:((cur.length:Int)-9).toNat=cur.length-9:=by omega
   have EH:=Bt (Us oZ (cur.length-9))
   have lK:(cur.drop (cur.length-9)).length=9:=by simp;omega
   rw[lK]at EH
   have lh:=Zvk (cur.take (cur.length-9)) (cur.drop (cur.length-9))
   rw[A6,lK,show (10:Nat)^9=1000000000 by decide]at lh
   generalize hD:aK (cur.drop (cur.length-9))=D at*
   obtain⟨v',h',w',e1,e2,e3,e4,e5⟩:=xh (x:=[.int .i64 (D:Int)]) (u:=.slice n1 0 1 (some 1) 1) (bytes:=8) (w:=W) (ho.ah (ae.refl.new (.cells [.int .i64 (D:Int)] 3 true))) (by omega) (by decide) rfl (by simp[gp,St.row,aE]) (by rw[CL];omega)
   rw[<-Ec]at e5
   simp(disch:=first|(simp;done)|omega|rfl) [-getElem?_pos,A.kb,hr,hf,g0,g4,h9,Dt,Cs,aC,KG,ag,e1]
   refine⟨cur.length-9,by omega,⟨by rw[e2];exact hW,(hK.new _).then e3,cur.take (cur.length-9),v',l++[(D:Int)],by simp,by simp,by omega,by omega,Zsb oZ _,by simp,e5,iY.app (Di.one (by omega) (by omega)),by simp;omega,?_⟩⟩
   rw[CC,jb,zy,qD,<-hv]
   have KH:((aK cur:Nat):Int)=(aK (cur.take (cur.length-9)):Nat)*1000000000+D:=by omega
   rw[KH]
   generalize ((aK (cur.take (cur.length-9)):Nat):Int)=X
   generalize pI l.length=P
   grind
  ·have Dt:¬(9:Int)<(cur.length:Int):=by omega
   simp(disch:=first|(simp;done)|omega|rfl) [-getElem?_pos,A.kb,hr,hf,g0,h9,Dt]
   exact⟨cur.length,by omega,hW,hK,cur,u,l,by simp[g0],rfl,m1,m2,oZ,by simp[g4],ho,iY,Jz,hv⟩
 ·rintro _ r ⟨H,n1,W⟩ hr ⟨rfl,m,m9,hW,hK,cur,u,l,g0,dW,m1,m2,oZ,g4,ho,iY,Jz,hv⟩
  simp only at hW hK ho
  subst dW
  have iT:=hK.le
  have KG:=M0 (s:=cur) (st:=⟨H,n1,W⟩) oZ (by omega)
  have EH:=Bt oZ
  have NN:=RQ m9
  generalize hD:aK cur=D at*
  obtain⟨v',h',w',e1,e2,e3,e4,e5⟩:=xh (x:=[.int .i64 (D:Int)]) (u:=.slice n1 0 1 (some 1) 1) (bytes:=8) (w:=W) (ho.ah (ae.refl.new (.cells [.int .i64 (D:Int)] 3 true))) (by omega) (by decide) rfl (by simp[gp,St.row,aE]) (by rw[CL];omega)
  rw[<-Ec]at e5
  simp(disch:=first|(simp;done)|omega|rfl) [-getElem?_pos,hr,g0,g4,KG,ag,e1]
  have zgq:Di (l++[(D:Int)]):=iY.app (Di.one (by omega) (by omega))
  refine az (vS (b:=true) (n:=aK s) e5.sl zgq (by rw[CC];exact hv) (by simp;omega)) ?_
  rintro y h5 n5 k5 hy
  have kk:=((hK.new (.cells [.int .i64 (D:Int)] 3 true)).then e3).trans k5
  have vT:=kk.le
  have oL:=kk.get N (by omega)
  simp at oL
  obtain⟨u5,rfl,Aq⟩:=hy
  have Kn:=fun c1 (hc:c1.length=2)=>Sl.setInt (i:=N) (c1:=c1) (e1:=92) (w1:=true) Aq oL (by intro x hx k m;simp at hx;rcases hx with rfl|rfl<;>simp) hc
  have AB:=Sl.form Aq |>.one
  unfold V.one at AB
  have ow:aD N w'=[]:=QZ (Ar N) (by rw[e2];exact hW)
  have k0:=(ae.refl (h:=h) (n:=N)).new (.cells [.bool false,.aa] 92 true)
  simp(disch:=first|(simp;done)|omega|rfl) [-getElem?_pos,hr,oL,ag,bE,AB,aJ,aE,aF,ow]
  exact⟨(k0.trans kk).set (aZ N),u5,by simp,by simpa[Dn]using Kn _ rfl⟩
structure WhI (h:T O) (N a:Nat) (neg:Bool) (m:Nat) (r:T V) (st:St):Prop where
 w:aD N st.w=[]
 ah:ae h N st.h st.n
 ex:∃z u l,z.natAbs=m/\m<=a/\(z<0->neg=true)/\(0<z->neg=false)/\r.get 0=some (.int .i64 z)/\r.get 3=some u/\Own 1 3 N st.h st.n u (po l)/\Di l/\vI l+pI l.length*m=a/\l.length<=100/\(m≠0->pI l.length<=a)
def Zz5{z:Int}{h:T O}{N:Nat}(h1: -9223372036854775808<=z)(h2:z<9223372036854775808):Fn A.C 110 [.int .i64 z] h N (fun v h' n'=>Rg h' n' v z):=by
 intro w
 rw[aV,A.k110 (by simp)]
 have kB:=(ae.refl (h:=h) (n:=N)).new (.cells [.bool false,.aa] 92 true)
 simp(disch:=first|(simp;done)|omega|rfl) [-getElem?_pos,A.b110]
 refine c_ [(0,0),(3,3),(5,5),(8,21)] (fun e r st=>e=.exit 0/\WhI (h.set N (.cells [.bool false,.aa] 92 true)) (N+1) z.natAbs (decide (z<0)) 0 r st) (WhI (h.set N (.cells [.bool false,.aa] 92 true)) (N+1) z.natAbs (decide (z<0))) z.natAbs ?_ ?_ ?_
 ·exact⟨by simp,ae.refl,z,.aa,[],rfl,aZ _,fun h=>by simp[h],fun h=>by simp;omega,by simp,by simp,Own.nil,Di.nil,by simp[vI,pI],by simp,fun h=>by simp[pI];omega⟩
 ·rintro m r ⟨H,n1,W⟩ hr hf ⟨hW,hK,y,u,l,rfl,hm,mF,fw,g0,g3,ho,hd,hv,hl,hp⟩
  simp only at hW hK ho
  rw[dk]
  by_cases hy:y=0
  ·subst hy
   simp(disch:=first|(simp;done)|omega|rfl) [-getElem?_pos,A.nD,hr,hf,g0,aL]
   exact⟨hW,hK,0,u,l,rfl,by omega,mF,fw,by simp[g0],by simp[g3],ho,hd,hv,hl,hp⟩
  ·have iT:=hK.le
   obtain⟨d,kv⟩:∃d:Nat,d=y.natAbs%1000000000:=⟨_,rfl⟩
   obtain⟨q,xN⟩:∃q:Nat,q=y.natAbs/1000000000:=⟨_,rfl⟩
   have lK:d<1000000000:=by omega
   have Ew:(y.tdiv 1000000000).natAbs=q:=by rw[Int.natAbs_tdiv];exact xN.symm
   have hml:(y.tmod 1000000000).natAbs=d:=by rw[Int.natAbs_tmod];exact kv.symm
   have hqs:(y<0->y.tdiv 1000000000<=0)/\(0<y->0<=y.tdiv 1000000000):=by
    constructor
    ·intro h
     have:(-y).tdiv 1000000000= -(y.tdiv 1000000000):=Int.neg_tdiv _ _
     have h3:0<=(-y).tdiv 1000000000:=Int.tdiv_nonneg (by omega) (by omega)
     omega
    ·intro h
     exact Int.tdiv_nonneg (by omega) (by omega)
   have hms:(y<0->y.tmod 1000000000<=0)/\(0<y->0<=y.tmod 1000000000):=by
    constructor
    ·intro h
     have:(-y).tmod 1000000000= -(y.tmod 1000000000):=Int.neg_tmod _ _
     have h3:0<=(-y).tmod 1000000000:=Int.tmod_nonneg _ (by omega)
     omega
    ·intro h
     exact Int.tmod_nonneg _ (by omega)
   generalize hyq:y.tdiv 1000000000=Y at*
   generalize hym:y.tmod 1000000000=D at*
   have w1:bn .i64 Y=Y:=cL (by omega) (by omega)
   have w2:bn .i64 (0-D)= -D:=by rw[Int.zero_sub];exact cL (by omega) (by omega)
   have w3:bn .i64 (-D)= -D:=cL (by omega) (by omega)
   have hlen:l.length+1<=100:=by
    apply Classical.byContradiction
    intro hc
    have h5:l.length=100:=by omega
    have h6:=hp (by omega)
    rw[h5,Tp]at h6
    have h7:(1000000000^100:Nat)<=z.natAbs:=by exact_mod_cast h6
    have h8:(9223372036854775808:Nat)<1000000000^100:=by decide
    omega
   obtain⟨v',h',w',e1,e2,e3,e4,e5⟩:=xh (x:=[.int .i64 (d:Int)]) (u:=.slice n1 0 1 (some 1) 1) (bytes:=8) (w:=W) (ho.ah (ae.refl.new (.cells [.int .i64 (d:Int)] 3 true))) (by omega) (by decide) rfl (by simp[gp,St.row,aE]) (by rw[CL];omega)
   rw[<-Ec]at e5
   have iB:vI (l++[(d:Int)])+pI (l++[(d:Int)]).length*(q:Int)=z.natAbs:=by
    rw[CC,jb,zy,qD,<-hv]
    have:(y.natAbs:Int)=1000000000*(q:Int)+d:=by omega
    rw[this]
    generalize pI l.length=P
    grind
   have hqa:q<y.natAbs:=by omega
   have hpp:q≠0->pI (l++[(d:Int)]).length<=z.natAbs:=fun hq=>by
    have h3:0<=vI (l++[(d:Int)]):=vD (hd.app (Di.one (by omega) (by omega)))
    have h4:0<pI (l++[(d:Int)]).length:=CH _
    have h5:pI (l++[(d:Int)]).length*1<=pI (l++[(d:Int)]).length*(q:Int):=qR (by omega) (by omega)
    omega
   have fin:WhI (h.set N (.cells [.bool false,.aa] 92 true)) (N+1) z.natAbs (decide (z<0)) q ((r.set 3 v').set 0 (.int .i64 Y)) ⟨h',n1+1+1,w'⟩:=⟨by rw[e2];exact hW,(hK.new _).then e3,Y,v',l++[(d:Int)],Ew,by omega,fun h=>mF (by have:=hqs.2;omega),fun h=>fw (by have:=hqs.1;omega),by simp,by simp,e5,hd.app (Di.one (by omega) (by omega)),iB,by simp;omega,hpp⟩
   obtain⟨f1,f2,f3⟩:=fin
   by_cases hD:D<0
   ·have UE: -D=(d:Int):=by omega
    rw[UE]at w2 w3
    simp(disch:=first|(simp;done)|omega|rfl) [-getElem?_pos,A.nD,hr,hf,g0,g3,hy,aL,hyq,hym,hD,w1,w2,w3,UE,ag,e1]
    exact⟨q,by omega,f1,f2,by simpa using f3⟩
   ·have UE:D=(d:Int):=by omega
    have hD':¬(d:Int)<0:=by omega
    simp(disch:=first|(simp;done)|omega|rfl) [-getElem?_pos,A.nD,hr,hf,g0,g3,hy,aL,hyq,hym,hD',w1,UE,ag,e1]
    exact⟨q,by omega,f1,f2,by simpa using f3⟩
 ·rintro _ r ⟨H,n1,W⟩ hr ⟨rfl,hW,hK,y,u,l,hy,hm,mF,fw,g0,g3,ho,hd,hv,hl,hp⟩
  simp only at hW hK ho
  have h0:y=0:=by omega
  subst h0
  have jQ:vI l=(z.natAbs:Nat):=by simpa using hv
  simp(disch:=first|(simp;done)|omega|rfl) [-getElem?_pos,hr,g3]
  refine az (vS (n:=z.natAbs) ho.sl hd jQ (by omega)) ?_
  rintro v5 h5 n5 k5 Uq
  have ez:(if decide (z<0)=true then -((z.natAbs:Nat):Int) else ((z.natAbs:Nat):Int))=z:=by
   by_cases h0:z<0<;>simp[h0]<;>omega
  rw[ez]at Uq
  have vT:=hK.le
  have Ku:=k5.le
  have oL:=(k5.get N (by omega)).trans (hK.get N (by omega))
  rw[T.aj,aQ rfl]at oL
  obtain⟨u5,rfl,Aq⟩:=Uq
  have p1:=Sl.form Aq |>.one
  have p2:=Sl.form Aq |>.cells
  unfold V.one at p1
  unfold V.cells at p2
  have ow:aD N W=[]:=QZ (Ar N) hW
  simp(disch:=first|(simp;done)|omega|rfl) [-getElem?_pos,hr,oL,ag,bE,p1,p2,aJ,aE,aF,ow]
  exact⟨((kB.trans hK).trans k5).set (aZ N),u5,by simp,Sl.setInt Aq oL jo rfl⟩
def Zqu{z:Int}{h:T O}{N:Nat}(hl:(aR z).length<=2000000000):Fn A.C 118 [.str (aR z)] h N (fun v h' n'=>Rg h' n' v z):=by
 have h1:1<=(av z.natAbs).length:=List.length_pos_iff.2 (Mj _)
 unfold aR at hl ⊢
 by_cases hz:z<0
 ·rw[aQ hz]at hl ⊢
  simp only[ak]at hl
  have e: -((aK (av z.natAbs):Nat):Int)=z:=by rw[Kv];omega
  have:=Yaq (Bm z.natAbs) h1 (by omega) (h:=h) (N:=N)
  rw[e]at this
  exact this
 ·rw[aA hz]at hl ⊢
  have e:((aK (av z.natAbs):Nat):Int)=z:=by rw[Kv];omega
  have:=Uu (Bm z.natAbs) h1 (by omega) (h:=h) (N:=N)
  rw[e]at this
  exact this
def Zqt{h h2:T O}{N n2:Nat}{a b:Int}{x y:V}(hx:Sl h2 n2 x (dI (ds a.natAbs)))(hy:Sl h2 n2 y (dI (ds b.natAbs)))(r0:h2.get N=some (.cells [.bool false,.aa] 92 true))(r1:h2.get (N+1)=some (.cells [.bool false,.aa] 92 true)):Rg ((h2.set N (.cells [.bool (decide (a<0)),x] 92 true)).set (N+1) (.cells [.bool (decide (b<0)),y] 92 true)) n2 (.agg [.bool (decide (a<0)),x]) a/\Rg ((h2.set N (.cells [.bool (decide (a<0)),x] 92 true)).set (N+1) (.cells [.bool (decide (b<0)),y] 92 true)) n2 (.agg [.bool (decide (b<0)),y]) b:=by
 have KI:(h2.set N (.cells [.bool (decide (a<0)),x] 92 true)).get (N+1)=some (.cells [.bool false,.aa] 92 true):=by rw[T.aj,aA (by omega)];exact r1
 exact⟨⟨x,rfl,Sl.setInt (Sl.setInt hx r0 jo rfl) KI jo rfl⟩,⟨y,rfl,Sl.setInt (Sl.setInt hy r0 jo rfl) KI jo rfl⟩⟩
def Rm{q:Rat}{h:T O}{N:Nat}(l1:(aR q.num).length<=1000000000)(l2:(av q.den).length<=1000000000):Fn A.C 64 [.str (ax q)] h N (fun v h' n'=>∃x y,v=.aS [x,y]/\Rg h' n' x q.num/\Rg h' n' y (q.den:Int)):=by
 intro w
 have aP:(ax q).length<=3000000000:=by
  unfold ax
  split
  ·omega
  ·simp only[jb,ak];omega
 have cZ:=fun st=>De (s:=ax q) (st:=st) (by omega)
 have hsa:=Mh q
 have htk:=Pb q
 have Bj:=(ae.refl (h:=h) (n:=N)).new (.cells [.bool false,.aa] 92 true)
 have k0:=Bj.new (.cells [.bool false,.aa] 92 true)
 have d4':¬N+1=N:=by omega
 have d5':¬N=N+1:=by omega
 rw[aV,A.k64 (by simp)]
 by_cases hd:q.den=1
 ·have he:ai (ax q)=(ax q).length:=by
   have:=CA q
   have h2:ai (ax q)<=(ax q).length:=by
    rw[hsa]
    unfold ax
    rw[aQ hd]
    exact aZ _
   omega
  have lP:ax q=aR q.num:=by unfold ax;rw[aQ hd]
  have c1:((ai (ax q):Int)=((ax q).length:Int)):=by omega
  rw[hd]
  simp(disch:=first|(simp;done)|omega|rfl) [-getElem?_pos,A.b64,cZ,he,aL]
  rw[lP]
  refine az (Zqu (z:=q.num) (by omega)) ?_
  rintro v1 h1 n1 k1 ⟨x,rfl,hx⟩
  simp(disch:=first|(simp;done)|omega|rfl) [-getElem?_pos,]
  refine az (Zz5 (z:=1) (by omega) (by omega)) ?_
  rintro v2 h2 n2 k2 ⟨y,rfl,hy⟩
  have ft:=k1.le
  have gJ:=k2.le
  have hx:=Sl.ah hx k2
  have r0:=(k2.get N (by omega)).trans (k1.get N (by omega))
  have r1:=(k2.get (N+1) (by omega)).trans (k1.get (N+1) (by omega))
  simp at r0 r1
  have vM:=(Sl.form hx).one
  have xc:=(Sl.form hy).one
  have C3:=(Sl.form hx).cells
  have Kz:=(Sl.form hy).cells
  unfold V.one at vM xc
  unfold V.cells at C3 Kz
  obtain⟨e1,e2⟩:=Zqt (h:=h) (b:=1) hx hy r0 r1
  have Q7:N<n1:=by omega
  have Q8:N<n2:=by omega
  have Q9:N+1<n2:=by omega
  simp(disch:=first|(simp;done)|omega|rfl) [-getElem?_pos,r0,r1,ag,bE,vM,xc,C3,Kz,Q7,Q8,Q9,d4',d5',aJ,aE,bU.bZ,aF]
  simp only[show decide ((1:Int)<0)=false from rfl]at e1 e2
  exact⟨(((k0.trans k1).trans k2).set (by omega)).set (by omega),_,_,⟨rfl,rfl⟩,e1,e2⟩
 ·have fm:=(CA q).2 hd
  have y_:=Pc q hd
  have c1:¬((ai (ax q):Int)=((ax q).length:Int)):=by omega
  have c2:¬(ai (ax q)=(ax q).length):=by omega
  have c3:(ai (ax q):Int)<=((ax q).length:Int):=by omega
  have c4:(ai (ax q):Int)+1<=((ax q).length:Int):=by omega
  have c5:((ai (ax q):Int)+1).toNat=ai (ax q)+1:=by omega
  have Bl:aK (av q.den)=q.den:=Kv _
  simp(disch:=first|(simp;done)|omega|rfl) [-getElem?_pos,A.b64,cZ,c1,c2,c3,c4,c5,aL,aC,htk]
  refine az (Zqu (z:=q.num) (by omega)) ?_
  rintro v1 h1 n1 k1 ⟨x,rfl,hx⟩
  simp(disch:=first|(simp;done)|omega|rfl) [-getElem?_pos,cZ,c1,c2,c3,c4,c5,aL,aC,y_]
  refine az (Uu (Bm q.den) (List.length_pos_iff.2 (Mj _)) (by omega)) ?_
  rintro v2 h2 n2 k2 hy
  rw[Bl]at hy
  obtain⟨y,rfl,hy⟩:=hy
  have ft:=k1.le
  have gJ:=k2.le
  have hx:=Sl.ah hx k2
  have r0:=(k2.get N (by omega)).trans (k1.get N (by omega))
  have r1:=(k2.get (N+1) (by omega)).trans (k1.get (N+1) (by omega))
  simp at r0 r1
  have vM:=(Sl.form hx).one
  have xc:=(Sl.form hy).one
  have C3:=(Sl.form hx).cells
  have Kz:=(Sl.form hy).cells
  unfold V.one at vM xc
  unfold V.cells at C3 Kz
  obtain⟨e1,e2⟩:=Zqt (h:=h) (b:=(q.den:Int)) hx hy r0 r1
  have Q7:N<n1:=by omega
  have Q8:N<n2:=by omega
  have Q9:N+1<n2:=by omega
  have xF:¬(q.den:Int)<0:=by omega
  simp only[show decide ((q.den:Int)<0)=false by simp[xF]]at e1 e2
  simp(disch:=first|(simp;done)|omega|rfl) [-getElem?_pos,r0,r1,ag,bE,vM,xc,C3,Kz,Q7,Q8,Q9,d4',d5',aJ,aE,bU.bZ,aF,xF]
  exact⟨(((k0.trans k1).trans k2).set (by omega)).set (by omega),_,_,⟨rfl,rfl⟩,e1,e2⟩
def Rn{n:Nat}:(av n).length<=9↔n<1000000000:=Sx (k:=9) (by omega)
def Yhn{n:Nat}(h:n<1000000000)(st:St):A.C.call (.func 148 [] []) [.str (av n)] st=some (.int .i64 n,st):=by
 have:=M0 (s:=av n) (st:=st) (Bm n) (by have:=Rn.2 h;omega)
 rwa [Kv]at this
def A.b63:=A.q Tryz.f63
def A.k63:=@A.kk 63 54 [.tmp 2,.tmp 3,.tmp 4] A.b63 (by kernel_rfl) rfl
def QB(q:Rat):aU:=if q.den=1 then av q.num.natAbs else av q.num.natAbs++47::av q.den
def x_(q:Rat):ax q=if q.num<0 then 45::QB q else QB q:=by
 unfold ax QB aR
 by_cases h1:q.den=1<;>by_cases h2:q.num<0<;>simp[h1,h2]
def Yg8(q:Rat):ai (QB q)=(av q.num.natAbs).length:=by
 unfold QB
 split
 ·exact Ze9 (Tm (Bm _))
 ·exact Zf2 (Tm (Bm _))
def Ylp(q:Rat):(QB q).take (av q.num.natAbs).length=av q.num.natAbs:=by
 unfold QB
 split
 ·exact iP (aZ _)
 ·exact List.take_left
def Ylq{q:Rat}(h:q.den≠1):(QB q).drop ((av q.num.natAbs).length+1)=av q.den:=by
 unfold QB
 rw[aA h,<-List.drop_drop,List.drop_left];rfl
def Yid(q:Rat):(QB q).length=(av q.num.natAbs).length+(if q.den=1 then 0 else (av q.den).length+1):=by
 unfold QB
 split<;>simp
def Zut(q:Rat):∃c t,QB q=c::t/\48<=c.toNat:=by
 obtain⟨c,t,h,h1,_⟩:=Zoy (n:=q.num.natAbs)
 unfold QB
 split
 ·exact⟨c,t,h,h1⟩
 ·exact⟨c,t++47::av q.den,by rw[h];rfl,h1⟩
def Yam{q:Rat}{st:St}(hl:(ax q).length<=20):A.C.call (.func 63 [] []) [.str (ax q)] st=some (if q.num.natAbs<1000000000/\q.den<1000000000 then .aS [.int .i64 q.num,.int .i64 q.den,.bool true] else .aS [.int .i64 0,.int .i64 0,.bool false],st):=by
 obtain⟨c,t,hB,hc⟩:=Zut q
 have hs:=Yg8 q
 have ht:=Ylp q
 have yb:=Yid q
 have h9:=Rn (n:=q.num.natAbs)
 have h9d:=Rn (n:=q.den)
 have hn:=fun h st=>Yhn (n:=q.num.natAbs) h st
 have hd:=fun h st=>Yhn (n:=q.den) h st
 have y_:=Ylq (q:=q)
 have C7:¬cR c=45:=by unfold cR;omega
 have lP:=x_ q
 have hBl:(QB q).length<=20:=by
  rw[lP]at hl
  split at hl
  ·simp only[ak]at hl;omega
  ·exact hl
 have cZ:=fun st=>De (s:=QB q) (st:=st) (by omega)
 rw[hs]at cZ
 have gw:(QB q)[0]?=some c:=by rw[hB];rfl
 have hh:(QB q).head?=some c:=by rw[hB];rfl
 have bF:QB q≠[]:=by rw[hB];simp
 have uz:0<(QB q).length:=by rw[hB];simp
 have C8:(0:Int)<((QB q).length:Int):=by omega
 have tA:¬(20:Int)<((QB q).length:Int):=by omega
 have xM:(av q.num.natAbs).length<=(QB q).length:=by omega
 have zft:((av q.num.natAbs).length:Int)<=((QB q).length:Int):=by omega
 have k0:0<=(av q.num.natAbs).length:=xW _
 have w1:bn .i64 (((QB q).length:Int)-((av q.num.natAbs).length:Int))=((QB q).length:Int)-((av q.num.natAbs).length:Int):=cL (by omega) (by omega)
 have w2:bn .i64 (((av q.num.natAbs).length:Int)+1)=((av q.num.natAbs).length:Int)+1:=cL (by omega) (by omega)
 have a3:∀st:St,Zcg st (some (.str (45::QB q))) (some (some (.int .i64 1))) (some none)=some (.str (QB q),st):=fun st=>by rw[BK (by omega) (by simp only[ak];omega)];rfl
 have a4:∀st:St,Zcg st (some (.str (QB q))) (some none) (some (some (.int .i64 (av q.num.natAbs).length)))=some (.str (av q.num.natAbs),st):=fun st=>by rw[Zks (by omega) (by omega),Int.toNat_natCast,ht]
 apply Call.eq
 rw[aV,A.k63 (by simp),lP]
 by_cases e9:q.num.natAbs<1000000000
 ·have g9:¬(9:Int)<((av q.num.natAbs).length:Int):=by have:=h9.2 e9;omega
  have hn:=hn e9
  by_cases e1:q.den=1
  ·rw[aQ e1]at yb
   have EJ:¬(10:Int)<((QB q).length:Int)-((av q.num.natAbs).length:Int):=by omega
   have Ro:¬((av q.num.natAbs).length:Int)<((QB q).length:Int):=by omega
   have Rp:¬(av q.num.natAbs).length<(QB q).length:=by omega
   rw[e1]
   by_cases hz:q.num<0
   ·have ez:(q.num.natAbs:Int)= -q.num:=by omega
    have w3:bn .i64 (0-(q.num.natAbs:Int))=q.num:=by rw[ez];rw[cL (by omega) (by omega)];omega
    have a5:cR 45=45:=rfl
    have fS:(QB q).length+1<=20:=by rw[lP,aQ hz]at hl;simpa using hl
    have CX:¬(20:Int)<((QB q).length:Int)+1:=by omega
    have vZ:(0:Int)<((QB q).length:Int)+1:=by omega
    simp(disch:=first|(simp;done)|omega|rfl) [-getElem?_pos,A.b63,hz,tA,CX,vZ,a3,a5,cZ,aL,aC,g9,EJ,Ro,Rp,w1,w3,a4,hn,e9]
    omega
   ·have ez:(q.num.natAbs:Int)=q.num:=by omega
    simp(disch:=first|(simp;done)|omega|rfl) [-getElem?_pos,A.b63,hz,gw,hh,bF,uz,C8,tA,C7,cZ,aL,aC,g9,EJ,Ro,Rp,w1,a4,hn,ez,e9]
  ·rw[aA e1]at yb
   have y_:=y_ e1
   have Ro:((av q.num.natAbs).length:Int)<((QB q).length:Int):=by omega
   have Rp:(av q.num.natAbs).length<(QB q).length:=by omega
   have a6:∀st:St,Zcg st (some (.str (QB q))) (some (some (.int .i64 (((av q.num.natAbs).length:Int)+1)))) (some none)=some (.str (av q.den),st):=fun st=>by
    rw[BK (by omega) (by omega)]
    have:(((av q.num.natAbs).length:Int)+1).toNat=(av q.num.natAbs).length+1:=by omega
    rw[this,y_]
   by_cases Nw:q.den<1000000000
   ·have EJ:¬(10:Int)<((QB q).length:Int)-((av q.num.natAbs).length:Int):=by have:=h9d.2 Nw;omega
    have hd:=hd Nw
    by_cases hz:q.num<0
    ·have ez:(q.num.natAbs:Int)= -q.num:=by omega
     have w3:bn .i64 (0-(q.num.natAbs:Int))=q.num:=by rw[ez];rw[cL (by omega) (by omega)];omega
     have a5:cR 45=45:=rfl
     have fS:(QB q).length+1<=20:=by rw[lP,aQ hz]at hl;simpa using hl
     have CX:¬(20:Int)<((QB q).length:Int)+1:=by omega
     have vZ:(0:Int)<((QB q).length:Int)+1:=by omega
     simp(disch:=first|(simp;done)|omega|rfl) [-getElem?_pos,A.b63,hz,tA,CX,vZ,a3,a5,a6,cZ,aL,aC,g9,EJ,Ro,Rp,w1,w2,w3,a4,hn,hd,e9,Nw]
     omega
    ·have ez:(q.num.natAbs:Int)=q.num:=by omega
     simp(disch:=first|(simp;done)|omega|rfl) [-getElem?_pos,A.b63,hz,gw,hh,bF,uz,C8,tA,C7,a6,cZ,aL,aC,g9,EJ,Ro,Rp,w1,w2,a4,hn,hd,ez,e9,Nw]
   ·have EJ:(10:Int)<((QB q).length:Int)-((av q.num.natAbs).length:Int):=by
     have:¬(av q.den).length<=9:=fun hc=>Nw (h9d.1 hc)
     omega
    by_cases hz:q.num<0
    ·have a5:cR 45=45:=rfl
     have fS:(QB q).length+1<=20:=by rw[lP,aQ hz]at hl;simpa using hl
     have CX:¬(20:Int)<((QB q).length:Int)+1:=by omega
     have vZ:(0:Int)<((QB q).length:Int)+1:=by omega
     simp(disch:=first|(simp;done)|omega|rfl) [-getElem?_pos,A.b63,hz,tA,CX,vZ,a3,a5,cZ,aL,aC,g9,EJ,w1,e9,Nw]
    ·simp(disch:=first|(simp;done)|omega|rfl) [-getElem?_pos,A.b63,hz,gw,hh,bF,uz,C8,tA,C7,cZ,aL,aC,g9,EJ,w1,e9,Nw]
 ·have g9:(9:Int)<((av q.num.natAbs).length:Int):=by
   have:¬(av q.num.natAbs).length<=9:=fun hc=>e9 (h9.1 hc)
   omega
  by_cases hz:q.num<0
  ·have a5:cR 45=45:=rfl
   have fS:(QB q).length+1<=20:=by rw[lP,aQ hz]at hl;simpa using hl
   have CX:¬(20:Int)<((QB q).length:Int)+1:=by omega
   have vZ:(0:Int)<((QB q).length:Int)+1:=by omega
   simp(disch:=first|(simp;done)|omega|rfl) [-getElem?_pos,A.b63,hz,tA,CX,vZ,a3,a5,cZ,aL,aC,g9,e9]
  ·simp(disch:=first|(simp;done)|omega|rfl) [-getElem?_pos,A.b63,hz,gw,hh,bF,uz,C8,tA,C7,cZ,aL,aC,g9,e9]
def Zxa{q:Rat}{st:St}(h1:20<(ax q).length):A.C.call (.func 63 [] []) [.str (ax q)] st=some (.aS [.int .i64 0,.int .i64 0,.bool false],st):=by
 have h2:(20:Int)<((ax q).length:Int):=by omega
 apply Call.eq
 rw[aV,A.k63 (by simp)]
 simp(disch:=first|(simp;done)|omega|rfl) [-getElem?_pos,A.b63,h2]
def Ycp{q:Rat}(h:q.num.natAbs<1000000000/\q.den<1000000000):(ax q).length<=20:=by
 have h1:=Rn.2 h.1
 have h2:=Rn.2 h.2
 have h3:=Yid q
 rw[x_]
 split
 ·simp only[ak];split at h3<;>omega
 ·split at h3<;>omega
def Zu8{q:Rat}{st:St}:A.C.call (.func 63 [] []) [.str (ax q)] st=some (if q.num.natAbs<1000000000/\q.den<1000000000 then .aS [.int .i64 q.num,.int .i64 q.den,.bool true] else .aS [.int .i64 0,.int .i64 0,.bool false],st):=by
 by_cases h:(ax q).length<=20
 ·exact Yam h
 ·rw[aA fun hc=>h (Ycp hc)]
  exact Zxa (by omega)
variable {j:Nat}
set_option maxHeartbeats 2000000
def A.b16:=A.q Tryz.f16
def A.k16:=@A.kk 16 55 [.tmp 4] A.b16 (by kernel_rfl) rfl
def Zos(a b:Rat):a*b=Rat.divInt (a.num*b.num) ((a.den:Int)*(b.den:Int)):=by
 rw[Rat.mul_def,Rat.normalize_eq_mkRat,<-Rat.divInt_ofNat]
 simp
def Zo5(a b:Rat):a+b=Rat.divInt (a.num*(b.den:Int)+b.num*(a.den:Int)) ((a.den:Int)*(b.den:Int)):=by
 rw[Rat.add_def,Rat.normalize_eq_mkRat,<-Rat.divInt_ofNat]
 simp
def Rq{a b:Nat}(h1:a<1000000000)(h2:b<1000000000):a*b<=1000000000000000000:=by
 have:=jf (Nat.le_of_lt h1) (Nat.le_of_lt h2)
 omega
def UF(q:Rat):∃(n d:Int) (o:Bool),(∀st,A.C.call (.func 63 [] []) [.str (ax q)] st=some (.aS [.int .i64 n,.int .i64 d,.bool o],st))/\(o=true->n=q.num/\d=(q.den:Int)/\q.num.natAbs<1000000000/\q.den<1000000000):=by
 by_cases f:q.num.natAbs<1000000000/\q.den<1000000000
 ·exact⟨q.num,q.den,true,fun st=>by rw[Zu8,aQ f],fun _=>⟨rfl,rfl,f⟩⟩
 ·exact⟨0,0,false,fun st=>by rw[Zu8,aA f],fun h=>by cases h⟩
def Rg.py{h:T O}{N:Nat}{v:V}{z:Int}(s:Rg h N v z):∃u,v=.agg [.bool (decide (z<0)),u]/\V.one u=true/\V.cells u=[u]/\JB u:=by
 obtain⟨u,rfl,hu⟩:=s
 exact⟨u,rfl,(Sl.form hu).one,(Sl.form hu).cells,Sl.form hu⟩
def Rr{a b:Int}{k:Nat}(h1:a.natAbs<2^j)(h2:b.natAbs<2^k):(a*b).natAbs<2^(j+k):=by
 rw[uI,iF]
 exact B4 h1 h2
def Zpt{a b:Int}(h1:a.natAbs<2^j)(h2:b.natAbs<2^j):(a+b).natAbs<2^(j+1):=by
 have:=Int.natAbs_add_le a b
 rw[fO];omega
def uM{a b:Rat}{k:Nat}{h:T O}{N:Nat}(ha:Qb j a)(hb:Qb k b)(hj:j<=400000000)(hk:k<=400000000):Fn A.C 16 [.str (ax a),.str (ax b)] h N (fun u _ _=>u=.str (ax (a*b))):=by
 intro w
 obtain⟨n1,d1,o1,sh,f1⟩:=UF a
 obtain⟨n2,d2,o2,lI,f2⟩:=UF b
 have pa:=Rat.den_pos a
 have pb:=Rat.den_pos b
 rw[aV,A.k16 (by simp)]
 have key:(o1=true/\o2=true)\/(o1=false\/(o1=true/\o2=false)):=by cases o1<;>cases o2<;>simp
 rcases key with⟨rfl,rfl⟩|key
 ·obtain⟨rfl,rfl,g1⟩:=f1 rfl
  obtain⟨rfl,rfl,g2⟩:=f2 rfl
  have m1:(a.num*b.num).natAbs<=1000000000000000000:=by rw[uI];exact Rq g1.1 g2.1
  have m2:a.den*b.den<=1000000000000000000:=Rq g1.2 g2.2
  have m3:0<a.den*b.den:=tH pa pb
  have e2:(a.den:Int)*(b.den:Int)=((a.den*b.den:Nat):Int):=by simp
  have w1:bn .i64 (a.num*b.num)=a.num*b.num:=cL (by omega) (by omega)
  have w2:bn .i64 ((a.den:Int)*(b.den:Int))=(a.den:Int)*(b.den:Int):=by rw[e2];exact cL (by omega) (by omega)
  have ho:=fun st=>Ymm (p:=a.num*b.num) (q:=(a.den:Int)*(b.den:Int)) (st:=st) (by omega) (by omega) (by omega) (by omega) (by omega)
  rw[<-Zos]at ho
  simp(disch:=first|(simp;done)|omega|rfl) [-getElem?_pos,A.b16,sh,lI,w1,w2,ho,aF]
  exact ae.refl
 ·have la:=Bo ha.1
  have QD:=Io ha.2
  have lb:=Bo hb.1
  have lb2:=Io hb.2
  have z1:=uc ha.1
  have z2:=uc hb.1
  have z3:=uc ha.2
  have z4:=uc hb.2
  rcases key with rfl|⟨rfl,rfl⟩
  all_goals simp(disch:=first|(simp;done)|omega|rfl) [-getElem?_pos,A.b16,sh,lI]
  all_goals
   refine az (Rm (q:=a) (by omega) (by omega)) ?_
   rintro _ h1 t1 k1 ⟨x1,y1,rfl,X1,Y1⟩
   obtain⟨u1,rfl,p1,p2,F1⟩:=X1.py
   obtain⟨v1,rfl,p3,p4,G1⟩:=Y1.py
   unfold V.one at p1 p3
   unfold V.cells at p2 p4
   have KA:=((((ae.refl (h:=h1) (n:=t1)).new (.cells [.bool false,.aa] 92 true)).new (.cells [.bool false,.aa] 92 true)).set (i:=t1) (o:=.cells [.bool (decide (a.num<0)),u1] 92 true) (aZ _)).set (i:=t1+1) (o:=.cells [.bool (decide ((a.den:Int)<0)),v1] 92 true) (by omega)
   have c0:¬t1+1=t1:=by omega
   have c00:¬t1=t1+1:=by omega
   simp(disch:=first|(simp;done)|omega|rfl) [-getElem?_pos,p1,p2,p3,p4,bE,ag,c0]
   generalize Aw:(((h1.set t1 (.cells [.bool false,.aa] 92 true)).set (t1+1) (.cells [.bool false,.aa] 92 true)).set t1 (.cells [.bool (decide (a.num<0)),u1] 92 true)).set (t1+1) (.cells [.bool (decide ((a.den:Int)<0)),v1] 92 true)=HA at*
   have Ds:HA.get t1=some (.cells [.bool (decide (a.num<0)),u1] 92 true):=by rw[<-Aw];simp[c0,c00]
   have It:HA.get (t1+1)=some (.cells [.bool (decide ((a.den:Int)<0)),v1] 92 true):=by rw[<-Aw];simp
   have X1:=X1.ah KA
   have Y1:=Y1.ah KA
   clear Aw
   refine az (Rm (q:=b) (by omega) (by omega)) ?_
   rintro _ h2 t2 k2 ⟨x2,y2,rfl,X2,Y2⟩
   obtain⟨u2,rfl,p5,p6,F2⟩:=X2.py
   obtain⟨v2,rfl,p7,p8,G2⟩:=Y2.py
   unfold V.one at p5 p7
   unfold V.cells at p6 p8
   have KB:=((((ae.refl (h:=h2) (n:=t2)).new (.cells [.bool false,.aa] 92 true)).new (.cells [.bool false,.aa] 92 true)).set (i:=t2) (o:=.cells [.bool (decide (b.num<0)),u2] 92 true) (aZ _)).set (i:=t2+1) (o:=.cells [.bool (decide ((b.den:Int)<0)),v2] 92 true) (by omega)
   have c1:¬t2+1=t2:=by omega
   have c11:¬t2=t2+1:=by omega
   have i2:=k2.le
   generalize KP:(((h2.set t2 (.cells [.bool false,.aa] 92 true)).set (t2+1) (.cells [.bool false,.aa] 92 true)).set t2 (.cells [.bool (decide (b.num<0)),u2] 92 true)).set (t2+1) (.cells [.bool (decide ((b.den:Int)<0)),v2] 92 true)=HB at*
   have Ip:HB.get t2=some (.cells [.bool (decide (b.num<0)),u2] 92 true):=by rw[<-KP];simp[c1,c11]
   have Rt:HB.get (t2+1)=some (.cells [.bool (decide ((b.den:Int)<0)),v2] 92 true):=by rw[<-KP];simp
   have gB3:=(KB.get t1 (by omega)).trans ((k2.get t1 (by omega)).trans Ds)
   have Ru:=(KB.get (t1+1) (by omega)).trans ((k2.get (t1+1) (by omega)).trans It)
   have X1:=(X1.ah k2).ah KB
   have Y1:=(Y1.ah k2).ah KB
   have X2:=X2.ah KB
   have Y2:=Y2.ah KB
   have K2:ae h N HB (t2+1+1):=((k1.trans KA).trans k2).trans KB
   have j1:t1<t2+1+1:=by omega
   have j2:t1+1<t2+1+1:=by omega
   have j3:t2<t2+1+1:=by omega
   simp(disch:=first|(simp;done)|omega|rfl) [-getElem?_pos,p5,p6,p7,p8,bE,ag,c1,KP,Ip,Rt,gB3,Ru,aJ,aE]
   refine az (Pj X1 X2 (by omega) (by omega)) ?_
   rintro _ h3 t3 k3 X3
   have i3:=k3.le
   have gC2:=(k3.get (t2+1) (by omega)).trans Rt
   have UG:=(k3.get (t1+1) (by omega)).trans Ru
   simp(disch:=first|(simp;done)|omega|rfl) [-getElem?_pos,gC2,UG,aJ,aE]
   refine az (Pj (Y1.ah k3) (Y2.ah k3) (by rw[eG];omega) (by rw[eG];omega)) ?_
   rintro _ h4 t4 k4 X4
   have m1:=uc (Rr ha.1 hb.1)
   have m2:=uc (Rr (a:=(a.den:Int)) (b:=(b.den:Int)) (j:=j) (k:=k) (by rw[eG];exact ha.2) (by rw[eG];exact hb.2))
   simp(disch:=first|(simp;done)|omega|rfl) [-getElem?_pos,]
   refine az (Zm9 (X3.ah k4) X4 (LL (by omega) (by omega)) (by omega) (by omega)) ?_
   rintro _ h5 t5 k5 rfl
   have j4:t2+1<t3:=by omega
   have j5:t1+1<t3:=by omega
   rw[<-Zos]
   have i1:=k1.le
   simp(disch:=first|(simp;done)|omega|rfl) [-getElem?_pos, -aD,bU.bZ,j1,j2,j3,j4,j5,aF]
   exact⟨Dr (by simp;omega),((K2.trans k3).trans k4).trans k5⟩
end
end Go.Mx
