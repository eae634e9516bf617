/-lensletref01-/
import Derived.Test.YtlfdeoomaccciaaGreatDoorRbK
set_option linter.all false
namespace Go.Mx
noncomputable section
open Go Go.Proofs
set_option maxRecDepth 1000000
def A.b135:=A.q Tryz.f135
def A.k135:=@A.kk 135 61 [.tmp 4] A.b135 (by kernel_rfl) rfl
def Fo{z:Int}:Bp [.int .i64 z,.int .i64 (-z)]=some (.int .i64 (z.natAbs:Nat)):=by
 have h:Bp [.int .i64 z,.int .i64 (-z)]=some (.int .i64 (if z< -z then -z else z)):=rfl
 rw[h]
 congr 2
 split<;>omega
def Yk4{a:Int}{m:Nat}(hm:0<m):(Rat.divInt a m).num=a.tdiv (Nat.gcd a.natAbs m:Nat)/\(Rat.divInt a m).num.natAbs<=a.natAbs/\(Rat.divInt a m).den=m/Nat.gcd a.natAbs m:=by
 have hb:(0:Int)<(m:Int):=by omega
 have h1:=Io (a:=a) hb
 have h2:=Oz (a:=a) hb
 rw[dC]at h1 h2
 have hd:((Nat.gcd a.natAbs m:Nat):Int)∣a:=Int.gcd_dvd_left (a:=a) (b:=(m:Int))
 refine⟨?_,?_,h2.symm⟩
 ·rw[Int.tdiv_eq_ediv_of_dvd hd,Rat.num_divInt,Int.sign_eq_one_of_pos hb,Int.one_mul,Int.gcd_comm]
  rfl
 ·rw[<-h1]
  have:=vu a.natAbs (Nat.gcd a.natAbs m)
  generalize a.natAbs/Nat.gcd a.natAbs m=k at*
  split
  ·rw[Bc,dC];exact this
  ·rw[dC];exact this
def Yra{a:Int}{m:Nat}{st:St}(hm:0<m)(h1: -4000000000000000000<=a)(h2:a<=4000000000000000000)(h3:m<=4000000000000000000):A.C.call (.func 135 [] []) [.int .i64 a,.int .i64 m] st=some (.str (aR (Rat.divInt a m)),st):=by
 apply Call.eq
 rw[aN,A.k135 (by simp)]
 have c1:¬a< -4000000000000000000:=by omega
 have c2:¬4000000000000000000<a:=by omega
 have c3:¬(m:Int)< -4000000000000000000:=by omega
 have c4:¬4000000000000000000<(m:Int):=by omega
 have c5:¬(m:Int)<0:=by omega
 have w1:bl .i64 (-a)= -a:=cA (by omega) (by omega)
 have w2:bl .i64 (0-a)= -a:=by rw[Int.zero_sub];exact w1
 have hg:=fun st=>Yed (a:=a.natAbs) (b:=m) (st:=st) (by omega) (by omega)
 obtain⟨e1,e2,e3⟩:=Yk4 (a:=a) hm
 have zm:0<(Rat.divInt a m).den:=Rat.den_pos _
 have ki:aR (Rat.divInt a m)=if (Rat.divInt a m).den=1 then aK (Rat.divInt a m).num else aK (Rat.divInt a m).num++47::ar (Rat.divInt a m).den:=rfl
 rw[ki]
 clear ki
 have nX:0<Nat.gcd a.natAbs m:=P5 _ hm
 generalize (Rat.divInt a m).num=P at*
 generalize (Rat.divInt a m).den=D at*
 generalize Nat.gcd a.natAbs m=g at*
 have hDm:D<=m:=by rw[e3];exact vu _ _
 have e4:(m:Int).tdiv (g:Int)=(D:Int):=by rw[Bl (by omega),e3];rfl
 have g0:¬(g:Int)=0:=by omega
 have g1:¬g=0:=by omega
 have v1:bl .i64 P=P:=cA (by omega) (by omega)
 have v2:bl .i64 (-P)= -P:=cA (by omega) (by omega)
 have v3:bl .i64 (D:Int)=(D:Int):=cA (by omega) (by omega)
 have d1:∀st,A.C.call (.func 204 [] []) [.int .i64 (P.natAbs:Nat),.int .i64 1] st=some (.str (ar P.natAbs),st):=fun st=>(Kh (n:=P.natAbs) (m:=1) (st:=st) (by omega) (by omega)).trans (by rw[Mc])
 have d2:∀st,A.C.call (.func 204 [] []) [.int .i64 D,.int .i64 1] st=some (.str (ar D),st):=fun st=>(Kh (n:=D) (m:=1) (st:=st) (by omega) (by omega)).trans (by rw[Mc])
 have x1:(ar P.natAbs).length<30:=by
  have:(de P.natAbs).length<=19:=pK.1 (by omega)
  unfold ar;split<;>simp;omega
 have x2:(ar D).length<30:=by
  have:(de D).length<=19:=pK.1 (by omega)
  unfold ar;split<;>simp;omega
 have df:IntKind.max .i64=9223372036854775807:=rfl
 have y1:¬(9223372036854775807:Int)<((ar P.natAbs).length:Int):=by omega
 have y2:¬(9223372036854775807:Int)<1+((ar P.natAbs).length:Int):=by omega
 have z1:D=1\/(¬D=1/\1<D):=by omega
 rcases z1 with rfl|⟨z1,z2⟩<;>by_cases hP:P<0
 ·simp[A.b135,c1,c2,c3,c4,c5,w1,w2,rb,Fo,hg,<-e1,e4,g0,g1,v1,v2,v3,hP,d1,d2,g_,df,y1,y2,aK,ct.cv]
 ·simp[A.b135,c1,c2,c3,c4,c5,w1,w2,rb,Fo,hg,<-e1,e4,g0,g1,v1,v2,v3,hP,d1,d2,g_,df,y1,y2,aK,ct.cv]
 ·have z3:(1:Int)<(D:Int):=by omega
  have y3:¬(9223372036854775807:Int)<((ar P.natAbs).length:Int)+1+1:=by omega
  have y4:¬(9223372036854775807:Int)<((ar P.natAbs).length:Int)+1+1+((ar D).length:Int):=by omega
  simp[A.b135,c1,c2,c3,c4,c5,w1,w2,rb,Fo,hg,<-e1,e4,g0,g1,v1,v2,v3,hP,d1,d2,g_,df,y1,y2,aK,ct.cv,z1,z2,z3,y3,y4]
 ·have z3:(1:Int)<(D:Int):=by omega
  have y3:¬(9223372036854775807:Int)<((ar P.natAbs).length:Int)+1:=by omega
  have y4:¬(9223372036854775807:Int)<((ar P.natAbs).length:Int)+1+((ar D).length:Int):=by omega
  simp[A.b135,c1,c2,c3,c4,c5,w1,w2,rb,Fo,hg,<-e1,e4,g0,g1,v1,v2,v3,hP,d1,d2,g_,df,y1,y2,aK,ct.cv,z1,z2,z3,y3,y4]
def Yrb{p q:Int}{st:St}(hq:q<0)(h1: -4000000000000000000<=p)(h2:p<=4000000000000000000)(h3: -4000000000000000000<=q):A.C.call (.func 135 [] []) [.int .i64 p,.int .i64 q] st=some (.str (aR (Rat.divInt p q)),st):=by
 apply Call.eq
 rw[aN,A.k135 (by simp)]
 have c1:¬p< -4000000000000000000:=by omega
 have c2:¬4000000000000000000<p:=by omega
 have c3:¬q< -4000000000000000000:=by omega
 have c4:¬4000000000000000000<q:=by omega
 obtain⟨a,ha⟩:∃a,a= -p:=⟨_,rfl⟩
 obtain⟨m,mO⟩:∃m:Nat,(m:Int)= -q:=⟨(-q).toNat,by omega⟩
 have hm:0<m:=by omega
 have c5:bl .i64 (-p)=a:=by rw[<-ha];exact cA (by omega) (by omega)
 have c6:bl .i64 (-q)=(m:Int):=by rw[<-mO];exact cA (by omega) (by omega)
 have fU:Rat.divInt p q=Rat.divInt a m:=by rw[ha,mO];exact(Rat.neg_divInt_neg p q).symm
 rw[fU]
 clear fU
 have w1:bl .i64 (-a)= -a:=cA (by omega) (by omega)
 have w2:bl .i64 (0-a)= -a:=by rw[Int.zero_sub];exact w1
 have hg:=fun st=>Yed (a:=a.natAbs) (b:=m) (st:=st) (by omega) (by omega)
 obtain⟨e1,e2,e3⟩:=Yk4 (a:=a) hm
 have zm:0<(Rat.divInt a m).den:=Rat.den_pos _
 have ki:aR (Rat.divInt a m)=if (Rat.divInt a m).den=1 then aK (Rat.divInt a m).num else aK (Rat.divInt a m).num++47::ar (Rat.divInt a m).den:=rfl
 rw[ki]
 clear ki
 have nX:0<Nat.gcd a.natAbs m:=P5 _ hm
 generalize (Rat.divInt a m).num=P at*
 generalize (Rat.divInt a m).den=D at*
 generalize Nat.gcd a.natAbs m=g at*
 have hDm:D<=m:=by rw[e3];exact vu _ _
 have e4:(m:Int).tdiv (g:Int)=(D:Int):=by rw[Bl (by omega),e3];rfl
 have g0:¬(g:Int)=0:=by omega
 have g1:¬g=0:=by omega
 have v1:bl .i64 P=P:=cA (by omega) (by omega)
 have v2:bl .i64 (-P)= -P:=cA (by omega) (by omega)
 have v3:bl .i64 (D:Int)=(D:Int):=cA (by omega) (by omega)
 have d1:∀st,A.C.call (.func 204 [] []) [.int .i64 (P.natAbs:Nat),.int .i64 1] st=some (.str (ar P.natAbs),st):=fun st=>(Kh (n:=P.natAbs) (m:=1) (st:=st) (by omega) (by omega)).trans (by rw[Mc])
 have d2:∀st,A.C.call (.func 204 [] []) [.int .i64 D,.int .i64 1] st=some (.str (ar D),st):=fun st=>(Kh (n:=D) (m:=1) (st:=st) (by omega) (by omega)).trans (by rw[Mc])
 have x1:(ar P.natAbs).length<30:=by
  have:(de P.natAbs).length<=19:=pK.1 (by omega)
  unfold ar;split<;>simp;omega
 have x2:(ar D).length<30:=by
  have:(de D).length<=19:=pK.1 (by omega)
  unfold ar;split<;>simp;omega
 have df:IntKind.max .i64=9223372036854775807:=rfl
 have y1:¬(9223372036854775807:Int)<((ar P.natAbs).length:Int):=by omega
 have y2:¬(9223372036854775807:Int)<1+((ar P.natAbs).length:Int):=by omega
 have z1:D=1\/(¬D=1/\1<D):=by omega
 rcases z1 with rfl|⟨z1,z2⟩<;>by_cases hP:P<0
 ·simp[A.b135,c1,c2,c3,c4,c5,c6,hq,w1,w2,rb,Fo,hg,<-e1,e4,g0,g1,v1,v2,v3,hP,d1,d2,g_,df,y1,y2,aK,ct.cv]
 ·simp[A.b135,c1,c2,c3,c4,c5,c6,hq,w1,w2,rb,Fo,hg,<-e1,e4,g0,g1,v1,v2,v3,hP,d1,d2,g_,df,y1,y2,aK,ct.cv]
 ·have z3:(1:Int)<(D:Int):=by omega
  have y3:¬(9223372036854775807:Int)<((ar P.natAbs).length:Int)+1+1:=by omega
  have y4:¬(9223372036854775807:Int)<((ar P.natAbs).length:Int)+1+1+((ar D).length:Int):=by omega
  simp[A.b135,c1,c2,c3,c4,c5,c6,hq,w1,w2,rb,Fo,hg,<-e1,e4,g0,g1,v1,v2,v3,hP,d1,d2,g_,df,y1,y2,aK,ct.cv,z1,z2,z3,y3,y4]
 ·have z3:(1:Int)<(D:Int):=by omega
  have y3:¬(9223372036854775807:Int)<((ar P.natAbs).length:Int)+1:=by omega
  have y4:¬(9223372036854775807:Int)<((ar P.natAbs).length:Int)+1+((ar D).length:Int):=by omega
  simp[A.b135,c1,c2,c3,c4,c5,c6,hq,w1,w2,rb,Fo,hg,<-e1,e4,g0,g1,v1,v2,v3,hP,d1,d2,g_,df,y1,y2,aK,ct.cv,z1,z2,z3,y3,y4]
def Yrc{p q:Int}{st:St}(hq:q≠0)(h1: -4000000000000000000<=p)(h2:p<=4000000000000000000)(h3: -4000000000000000000<=q)(h4:q<=4000000000000000000):A.C.call (.func 135 [] []) [.int .i64 p,.int .i64 q] st=some (.str (aR (Rat.divInt p q)),st):=by
 rcases Int.lt_or_gt_of_ne hq with hq|hq
 ·exact Yrb hq h1 h2 h3
 ·obtain⟨m,rfl⟩:∃m:Nat,q=(m:Int):=⟨q.toNat,by omega⟩
  exact Yra (by omega) h1 h2 (by omega)
def A.OG:=A.q Tryz.f199
def A.nL:=A.ql A.OG 0 []
def A.b199:=(fun x0=>A.qb A.OG [x0]) A.nL
def A.k199:=@A.kk 199 25 [.cell 2 (some 2)] A.b199 (by kernel_rfl) rfl
def Ycr{s:aM}(hd:cE s=true)(h1:1<=s.length)(h2:s.length<=3000000000){h:T O}{N:Nat}:Fn A.C 198 [.str (45::s)] h N (fun v h' n'=>Rg h' n' v (-((aG s:Nat):Int))):=by
 intro w
 have a1:cI 45=45:=rfl
 have a2:(1:Int)<=(s.length:Int)+1:=by omega
 have a3:∀st:St,tV st (some (.str (45::s))) (some (some (.int .i64 1))) (some none)=some (.str s,st):=fun st=>by rw[Ht (by omega) (by simp only[bp];omega)];rfl
 rw[aN,A.k198 (by simp)]
 simp[A.b198,a1,a2,a3,aE,aC]
 refine bG [(0,0),(4,4),(16,32)] (fun e r st=>e=.exit 0/\∃m,m<=9/\R9 (h.set N (.cells [.bool false,.aa] 146 true)) (N+1) s m r st) (R9 (h.set N (.cells [.bool false,.aa] 146 true)) (N+1) s) s.length ?_ ?_ ?_
 ·exact⟨by simp,ab.refl,s,.aa,[],by simp,rfl,h1,aQ _,hd,by simp,Own.nil,Di.nil,by simp,by simp[vI,pI]⟩
 ·rintro m r ⟨H,n1,W⟩ hr hf ⟨hW,hK,cur,u,l,g0,cO,m1,m2,pA,g4,ho,iQ,sP,hv⟩
  simp only at hW hK ho
  subst cO
  rw[bk]
  by_cases h9:9<cur.length
  ·have zC:(9:Int)<(cur.length:Int):=by omega
   have fh:=hK.le
   have Il:=NR (s:=cur.drop (cur.length-9)) (st:=⟨H,n1,W⟩) (R8 pA _) (by simp;omega)
   have CT:((cur.length:Int)-9).toNat=cur.length-9:=by omega
   have Fk:=BB (R8 pA (cur.length-9))
   have iw:(cur.drop (cur.length-9)).length=9:=by simp;omega
   rw[iw]at Fk
   have ix:=Zxa (cur.take (cur.length-9)) (cur.drop (cur.length-9))
   rw[Cl,iw,show (10:Nat)^9=1000000000 by decide]at ix
   generalize hD:aG (cur.drop (cur.length-9))=D at*
   obtain⟨v',h',w',e1,e2,e3,e4,e5⟩:=tP (x:=[.int .i64 (D:Int)]) (u:=.slice n1 0 1 (some 1) 1) (bytes:=8) (w:=W) (ho.ae (ab.refl.new (.cells [.int .i64 (D:Int)] 3 true))) (by omega) (by decide) rfl (by simp[eA,St.row,aD]) (by rw[CK];omega)
   rw[<-Ek]at e5
   simp(disch:=first|(simp;done)|omega|rfl) [A.j_,hr,hf,g0,g4,h9,zC,CT,aC,Il,ad,e1]
   refine⟨cur.length-9,by omega,⟨by rw[e2];exact hW,(hK.new _).then e3,cur.take (cur.length-9),v',l++[(D:Int)],by simp,by simp,by omega,by omega,Zt5 pA _,by simp,e5,iQ.app (Di.one (by omega) (by omega)),by simp;omega,?_⟩⟩
   rw[CF,i_,zW,vE,<-hv]
   have Im:((aG cur:Nat):Int)=(aG (cur.take (cur.length-9)):Nat)*1000000000+D:=by omega
   rw[Im]
   generalize ((aG (cur.take (cur.length-9)):Nat):Int)=X
   generalize pI l.length=P
   grind
  ·have zC:¬(9:Int)<(cur.length:Int):=by omega
   simp[A.j_,hr,hf,g0,h9,zC]
   exact⟨cur.length,by omega,hW,hK,cur,u,l,by simp[g0],rfl,m1,m2,pA,by simp[g4],ho,iQ,sP,hv⟩
 ·rintro _ r ⟨H,n1,W⟩ hr ⟨rfl,m,m9,hW,hK,cur,u,l,g0,cO,m1,m2,pA,g4,ho,iQ,sP,hv⟩
  simp only at hW hK ho
  subst cO
  have fh:=hK.le
  have Il:=NR (s:=cur) (st:=⟨H,n1,W⟩) pA (by omega)
  have Fk:=BB pA
  have hp9:=Qk m9
  generalize hD:aG cur=D at*
  obtain⟨v',h',w',e1,e2,e3,e4,e5⟩:=tP (x:=[.int .i64 (D:Int)]) (u:=.slice n1 0 1 (some 1) 1) (bytes:=8) (w:=W) (ho.ae (ab.refl.new (.cells [.int .i64 (D:Int)] 3 true))) (by omega) (by decide) rfl (by simp[eA,St.row,aD]) (by rw[CK];omega)
  rw[<-Ek]at e5
  simp[hr,g0,g4,Il,ad,e1]
  have lE:Di (l++[(D:Int)]):=iQ.app (Di.one (by omega) (by omega))
  refine aB (xC (b:=true) (n:=aG s) e5.sl lE (by rw[CF];exact hv) (by simp;omega)) ?_
  rintro y h5 n5 k5 hy
  have kk:=((hK.new (.cells [.int .i64 (D:Int)] 3 true)).then e3).trans k5
  have xD:=kk.le
  have oY:=kk.get N (by omega)
  simp at oY
  obtain⟨u5,rfl,AM⟩:=hy
  have HX:=fun c1 (hc:c1.length=2)=>Sl.setInt (i:=N) (c1:=c1) (e1:=146) (w1:=true) AM oY (by intro x hx k m;simp at hx;rcases hx with rfl|rfl<;>simp) hc
  have BV:=Sl.form AM |>.one
  unfold V.one at BV
  have ow:av N w'=[]:=Ok (vw N) (by rw[e2];exact hW)
  have k0:=(ab.refl (h:=h) (n:=N)).new (.cells [.bool false,.aa] 146 true)
  simp[hr,oY,ad,bD,BV,aO,aD,aA,ow]
  exact⟨(k0.trans kk).set (aQ N),u5,by simp,by simpa[Dn]using HX _ rfl⟩
structure WhI (h:T O) (N a:Nat) (neg:Bool) (m:Nat) (r:T V) (st:St):Prop where
 w:av N st.w=[]
 ae:ab h N st.h st.n
 ex:∃z u l,z.natAbs=m/\m<=a/\(z<0->neg=true)/\(0<z->neg=false)/\r.get 0=some (.int .i64 z)/\r.get 3=some u/\Own 1 3 N st.h st.n u (pH l)/\Di l/\vI l+pI l.length*m=a/\l.length<=100/\(m≠0->pI l.length<=a)
def Yb9{z:Int}{h:T O}{N:Nat}(h1: -9223372036854775808<=z)(h2:z<9223372036854775808):Fn A.C 199 [.int .i64 z] h N (fun v h' n'=>Rg h' n' v z):=by
 intro w
 rw[aN,A.k199 (by simp)]
 have kB:=(ab.refl (h:=h) (n:=N)).new (.cells [.bool false,.aa] 146 true)
 simp[A.b199]
 refine bG [(0,0),(3,3),(5,5),(8,21)] (fun e r st=>e=.exit 0/\WhI (h.set N (.cells [.bool false,.aa] 146 true)) (N+1) z.natAbs (decide (z<0)) 0 r st) (WhI (h.set N (.cells [.bool false,.aa] 146 true)) (N+1) z.natAbs (decide (z<0))) z.natAbs ?_ ?_ ?_
 ·exact⟨by simp,ab.refl,z,.aa,[],rfl,aQ _,fun h=>by simp[h],fun h=>by simp;omega,by simp,by simp,Own.nil,Di.nil,by simp[vI,pI],by simp,fun h=>by simp[pI];omega⟩
 ·rintro m r ⟨H,n1,W⟩ hr hf ⟨hW,hK,y,u,l,rfl,hm,xy,ff,g0,g3,ho,hd,hv,hl,hp⟩
  simp only at hW hK ho
  rw[bk]
  by_cases hy:y=0
  ·subst hy
   simp[A.nL,hr,hf,g0,aE]
   exact⟨hW,hK,0,u,l,rfl,by omega,xy,ff,by simp[g0],by simp[g3],ho,hd,hv,hl,hp⟩
  ·have fh:=hK.le
   obtain⟨d,nT⟩:∃d:Nat,d=y.natAbs%1000000000:=⟨_,rfl⟩
   obtain⟨q,pj⟩:∃q:Nat,q=y.natAbs/1000000000:=⟨_,rfl⟩
   have iw:d<1000000000:=by omega
   have ux:(y.tdiv 1000000000).natAbs=q:=by rw[Int.natAbs_tdiv];exact pj.symm
   have kg:(y.tmod 1000000000).natAbs=d:=by rw[Int.natAbs_tmod];exact nT.symm
   have VD:(y<0->y.tdiv 1000000000<=0)/\(0<y->0<=y.tdiv 1000000000):=by
    constructor
    ·intro h
     have:(-y).tdiv 1000000000= -(y.tdiv 1000000000):=Int.neg_tdiv _ _
     have h3:0<=(-y).tdiv 1000000000:=Int.tdiv_nonneg (by omega) (by omega)
     omega
    ·intro h
     exact Int.tdiv_nonneg (by omega) (by omega)
   have hms:(y<0->y.tmod 1000000000<=0)/\(0<y->0<=y.tmod 1000000000):=by
    constructor
    ·intro h
     have:(-y).tmod 1000000000= -(y.tmod 1000000000):=Int.neg_tmod _ _
     have h3:0<=(-y).tmod 1000000000:=Int.tmod_nonneg _ (by omega)
     omega
    ·intro h
     exact Int.tmod_nonneg _ (by omega)
   generalize hyq:y.tdiv 1000000000=Y at*
   generalize hym:y.tmod 1000000000=D at*
   have w1:bl .i64 Y=Y:=cA (by omega) (by omega)
   have w2:bl .i64 (0-D)= -D:=by rw[Int.zero_sub];exact cA (by omega) (by omega)
   have w3:bl .i64 (-D)= -D:=cA (by omega) (by omega)
   have hlen:l.length+1<=100:=by
    apply Classical.byContradiction
    intro hc
    have h5:l.length=100:=by omega
    have h6:=hp (by omega)
    rw[h5,QS]at h6
    have h7:(1000000000^100:Nat)<=z.natAbs:=by exact_mod_cast h6
    have h8:(9223372036854775808:Nat)<1000000000^100:=by decide
    omega
   obtain⟨v',h',w',e1,e2,e3,e4,e5⟩:=tP (x:=[.int .i64 (d:Int)]) (u:=.slice n1 0 1 (some 1) 1) (bytes:=8) (w:=W) (ho.ae (ab.refl.new (.cells [.int .i64 (d:Int)] 3 true))) (by omega) (by decide) rfl (by simp[eA,St.row,aD]) (by rw[CK];omega)
   rw[<-Ek]at e5
   have im:vI (l++[(d:Int)])+pI (l++[(d:Int)]).length*(q:Int)=z.natAbs:=by
    rw[CF,i_,zW,vE,<-hv]
    have:(y.natAbs:Int)=1000000000*(q:Int)+d:=by omega
    rw[this]
    generalize pI l.length=P
    grind
   have hqa:q<y.natAbs:=by omega
   have hpp:q≠0->pI (l++[(d:Int)]).length<=z.natAbs:=fun hq=>by
    have h3:0<=vI (l++[(d:Int)]):=vF (hd.app (Di.one (by omega) (by omega)))
    have h4:0<pI (l++[(d:Int)]).length:=CE _
    have h5:pI (l++[(d:Int)]).length*1<=pI (l++[(d:Int)]).length*(q:Int):=q9 (by omega) (by omega)
    omega
   have fin:WhI (h.set N (.cells [.bool false,.aa] 146 true)) (N+1) z.natAbs (decide (z<0)) q ((r.set 3 v').set 0 (.int .i64 Y)) ⟨h',n1+1+1,w'⟩:=⟨by rw[e2];exact hW,(hK.new _).then e3,Y,v',l++[(d:Int)],ux,by omega,fun h=>xy (by have:=VD.2;omega),fun h=>ff (by have:=VD.1;omega),by simp,by simp,e5,hd.app (Di.one (by omega) (by omega)),im,by simp;omega,hpp⟩
   obtain⟨f1,f2,f3⟩:=fin
   by_cases hD:D<0
   ·have Sj: -D=(d:Int):=by omega
    rw[Sj]at w2 w3
    simp[A.nL,hr,hf,g0,g3,hy,aE,hyq,hym,hD,w1,w2,w3,Sj,ad,e1]
    exact⟨q,by omega,f1,f2,by simpa using f3⟩
   ·have Sj:D=(d:Int):=by omega
    have hD':¬(d:Int)<0:=by omega
    simp[A.nL,hr,hf,g0,g3,hy,aE,hyq,hym,hD',w1,Sj,ad,e1]
    exact⟨q,by omega,f1,f2,by simpa using f3⟩
 ·rintro _ r ⟨H,n1,W⟩ hr ⟨rfl,hW,hK,y,u,l,hy,hm,xy,ff,g0,g3,ho,hd,hv,hl,hp⟩
  simp only at hW hK ho
  have h0:y=0:=by omega
  subst h0
  have jL:vI l=(z.natAbs:Nat):=by simpa using hv
  simp[hr,g3]
  refine aB (xC (n:=z.natAbs) ho.sl hd jL (by omega)) ?_
  rintro v5 h5 n5 k5 R6
  have ez:(if decide (z<0)=true then -((z.natAbs:Nat):Int) else ((z.natAbs:Nat):Int))=z:=by
   by_cases h0:z<0<;>simp[h0]<;>omega
  rw[ez]at R6
  have xD:=hK.le
  have Ic:=k5.le
  have oY:=(k5.get N (by omega)).trans (hK.get N (by omega))
  rw[T.ag,ay rfl]at oY
  obtain⟨u5,rfl,AM⟩:=R6
  have p1:=Sl.form AM |>.one
  have p2:=Sl.form AM |>.cells
  unfold V.one at p1
  unfold V.cells at p2
  have ow:av N W=[]:=Ok (vw N) hW
  simp[hr,oY,ad,bD,p1,p2,aO,aD,aA,ow]
  exact⟨((kB.trans hK).trans k5).set (aQ N),u5,by simp,Sl.setInt AM oY jo rfl⟩
def Zsr{z:Int}{h:T O}{N:Nat}(hl:(aK z).length<=2000000000):Fn A.C 198 [.str (aK z)] h N (fun v h' n'=>Rg h' n' v z):=by
 have h1:1<=(ar z.natAbs).length:=List.length_pos_iff.2 (JO _)
 unfold aK at hl ⊢
 by_cases hz:z<0
 ·rw[ay hz]at hl ⊢
  simp only[bp]at hl
  have e: -((aG (ar z.natAbs):Nat):Int)=z:=by rw[Hh];omega
  have:=Ycr (BH z.natAbs) h1 (by omega) (h:=h) (N:=N)
  rw[e]at this
  exact this
 ·rw[ak hz]at hl ⊢
  have e:((aG (ar z.natAbs):Nat):Int)=z:=by rw[Hh];omega
  have:=Sa (BH z.natAbs) h1 (by omega) (h:=h) (N:=N)
  rw[e]at this
  exact this
def Zsq{h h2:T O}{N n2:Nat}{a b:Int}{x y:V}(hx:Sl h2 n2 x (dI (ds a.natAbs)))(hy:Sl h2 n2 y (dI (ds b.natAbs)))(r0:h2.get N=some (.cells [.bool false,.aa] 146 true))(r1:h2.get (N+1)=some (.cells [.bool false,.aa] 146 true)):Rg ((h2.set N (.cells [.bool (decide (a<0)),x] 146 true)).set (N+1) (.cells [.bool (decide (b<0)),y] 146 true)) n2 (.agg [.bool (decide (a<0)),x]) a/\Rg ((h2.set N (.cells [.bool (decide (a<0)),x] 146 true)).set (N+1) (.cells [.bool (decide (b<0)),y] 146 true)) n2 (.agg [.bool (decide (b<0)),y]) b:=by
 have Fj:(h2.set N (.cells [.bool (decide (a<0)),x] 146 true)).get (N+1)=some (.cells [.bool false,.aa] 146 true):=by rw[T.ag,ak (by omega)];exact r1
 exact⟨⟨x,rfl,Sl.setInt (Sl.setInt hx r0 jo rfl) Fj jo rfl⟩,⟨y,rfl,Sl.setInt (Sl.setInt hy r0 jo rfl) Fj jo rfl⟩⟩
def OH{q:Rat}{h:T O}{N:Nat}(l1:(aK q.num).length<=1000000000)(l2:(ar q.den).length<=1000000000):Fn A.C 130 [.str (aR q)] h N (fun v h' n'=>∃x y,v=.aV [x,y]/\Rg h' n' x q.num/\Rg h' n' y (q.den:Int)):=by
 intro w
 have ax:(aR q).length<=3000000000:=by
  unfold aR
  split
  ·omega
  ·simp only[i_,bp];omega
 have cy:=fun st=>Fl (s:=aR q) (st:=st) (by omega)
 have hsa:=JQ q
 have htk:=Me q
 have qH:=(ab.refl (h:=h) (n:=N)).new (.cells [.bool false,.aa] 146 true)
 have k0:=qH.new (.cells [.bool false,.aa] 146 true)
 have Z6:¬N+1=N:=by omega
 have d5':¬N=N+1:=by omega
 rw[aN,A.k130 (by simp)]
 by_cases hd:q.den=1
 ·have he:ah (aR q)=(aR q).length:=by
   have:=CZ q
   have h2:ah (aR q)<=(aR q).length:=by
    rw[hsa]
    unfold aR
    rw[ay hd]
    exact aQ _
   omega
  have ki:aR q=aK q.num:=by unfold aR;rw[ay hd]
  have c1:((ah (aR q):Int)=((aR q).length:Int)):=by omega
  rw[hd]
  simp[A.b130,cy,he,aE]
  rw[ki]
  refine aB (Zsr (z:=q.num) (by omega)) ?_
  rintro v1 h1 n1 k1 ⟨x,rfl,hx⟩
  simp[]
  refine aB (Yb9 (z:=1) (by omega) (by omega)) ?_
  rintro v2 h2 n2 k2 ⟨y,rfl,hy⟩
  have fk:=k1.le
  have il:=k2.le
  have hx:=Sl.ae hx k2
  have r0:=(k2.get N (by omega)).trans (k1.get N (by omega))
  have r1:=(k2.get (N+1) (by omega)).trans (k1.get (N+1) (by omega))
  simp at r0 r1
  have xN:=(Sl.form hx).one
  have qu:=(Sl.form hy).one
  have Dp:=(Sl.form hx).cells
  have tR:=(Sl.form hy).cells
  unfold V.one at xN qu
  unfold V.cells at Dp tR
  obtain⟨e1,e2⟩:=Zsq (h:=h) (b:=1) hx hy r0 r1
  have Ov:N<n1:=by omega
  have Ow:N<n2:=by omega
  have Ox:N+1<n2:=by omega
  simp[r0,r1,ad,bD,xN,qu,Dp,tR,Ov,Ow,Ox,Z6,d5',aO,aD,ct.cv,aA]
  simp only[show decide ((1:Int)<0)=false from rfl]at e1 e2
  exact⟨(((k0.trans k1).trans k2).set (by omega)).set (by omega),_,_,⟨rfl,rfl⟩,e1,e2⟩
 ·have cX:=(CZ q).2 hd
  have xM:=Mf q hd
  have c1:¬((ah (aR q):Int)=((aR q).length:Int)):=by omega
  have c2:¬(ah (aR q)=(aR q).length):=by omega
  have c3:(ah (aR q):Int)<=((aR q).length:Int):=by omega
  have c4:(ah (aR q):Int)+1<=((aR q).length:Int):=by omega
  have c5:((ah (aR q):Int)+1).toNat=ah (aR q)+1:=by omega
  have Xu:aG (ar q.den)=q.den:=Hh _
  simp[A.b130,cy,c1,c2,c3,c4,c5,aE,aC,htk]
  refine aB (Zsr (z:=q.num) (by omega)) ?_
  rintro v1 h1 n1 k1 ⟨x,rfl,hx⟩
  simp(disch:=omega) [cy,c1,c2,c3,c4,c5,aE,aC,xM]
  refine aB (Sa (BH q.den) (List.length_pos_iff.2 (JO _)) (by omega)) ?_
  rintro v2 h2 n2 k2 hy
  rw[Xu]at hy
  obtain⟨y,rfl,hy⟩:=hy
  have fk:=k1.le
  have il:=k2.le
  have hx:=Sl.ae hx k2
  have r0:=(k2.get N (by omega)).trans (k1.get N (by omega))
  have r1:=(k2.get (N+1) (by omega)).trans (k1.get (N+1) (by omega))
  simp at r0 r1
  have xN:=(Sl.form hx).one
  have qu:=(Sl.form hy).one
  have Dp:=(Sl.form hx).cells
  have tR:=(Sl.form hy).cells
  unfold V.one at xN qu
  unfold V.cells at Dp tR
  obtain⟨e1,e2⟩:=Zsq (h:=h) (b:=(q.den:Int)) hx hy r0 r1
  have Ov:N<n1:=by omega
  have Ow:N<n2:=by omega
  have Ox:N+1<n2:=by omega
  have yq:¬(q.den:Int)<0:=by omega
  simp only[show decide ((q.den:Int)<0)=false by simp[yq]]at e1 e2
  simp[r0,r1,ad,bD,xN,qu,Dp,tR,Ov,Ow,Ox,Z6,d5',aO,aD,ct.cv,aA,yq]
  exact⟨(((k0.trans k1).trans k2).set (by omega)).set (by omega),_,_,⟨rfl,rfl⟩,e1,e2⟩
def OI{n:Nat}:(ar n).length<=9↔n<1000000000:=PQ (k:=9) (by omega)
def Yku{n:Nat}(h:n<1000000000)(st:St):A.C.call (.func 202 [] []) [.str (ar n)] st=some (.int .i64 n,st):=by
 have:=NR (s:=ar n) (st:=st) (BH n) (by have:=OI.2 h;omega)
 rwa [Hh]at this
def A.b134:=A.q Tryz.f134
def A.k134:=@A.kk 134 54 [.tmp 2,.tmp 3,.tmp 4] A.b134 (by kernel_rfl) rfl
def QB(q:Rat):aM:=if q.den=1 then ar q.num.natAbs else ar q.num.natAbs++47::ar q.den
def BX(q:Rat):aR q=if q.num<0 then 45::QB q else QB q:=by
 unfold aR QB aK
 by_cases h1:q.den=1<;>by_cases h2:q.num<0<;>simp[h1,h2]
def Ykb(q:Rat):ah (QB q)=(ar q.num.natAbs).length:=by
 unfold QB
 split
 ·exact XA (QP (BH _))
 ·exact Xz (QP (BH _))
def Yp4(q:Rat):(QB q).take (ar q.num.natAbs).length=ar q.num.natAbs:=by
 unfold QB
 split
 ·exact eZ (aQ _)
 ·exact List.take_left
def Yp5{q:Rat}(h:q.den≠1):(QB q).drop ((ar q.num.natAbs).length+1)=ar q.den:=by
 unfold QB
 rw[ak h,<-List.drop_drop,List.drop_left];rfl
def Yln(q:Rat):(QB q).length=(ar q.num.natAbs).length+(if q.den=1 then 0 else (ar q.den).length+1):=by
 unfold QB
 split<;>simp
def Zwk(q:Rat):∃c t,QB q=c::t/\48<=c.toNat:=by
 obtain⟨c,t,h,h1,_⟩:=Zqa (n:=q.num.natAbs)
 unfold QB
 split
 ·exact⟨c,t,h,h1⟩
 ·exact⟨c,t++47::ar q.den,by rw[h];rfl,h1⟩
def Ycp{q:Rat}{st:St}(hl:(aR q).length<=20):A.C.call (.func 134 [] []) [.str (aR q)] st=some (if q.num.natAbs<1000000000/\q.den<1000000000 then .aV [.int .i64 q.num,.int .i64 q.den,.bool true] else .aV [.int .i64 0,.int .i64 0,.bool false],st):=by
 obtain⟨c,t,hB,hc⟩:=Zwk q
 have hs:=Ykb q
 have ht:=Yp4 q
 have J9:=Yln q
 have h9:=OI (n:=q.num.natAbs)
 have h9d:=OI (n:=q.den)
 have hn:=fun h st=>Yku (n:=q.num.natAbs) h st
 have hd:=fun h st=>Yku (n:=q.den) h st
 have xM:=Yp5 (q:=q)
 have Dv:¬cI c=45:=by unfold cI;omega
 have ki:=BX q
 have Mw:(QB q).length<=20:=by
  rw[ki]at hl
  split at hl
  ·simp only[bp]at hl;omega
  ·exact hl
 have cy:=fun st=>Fl (s:=QB q) (st:=st) (by omega)
 rw[hs]at cy
 have fQ:(QB q)[0]?=some c:=by rw[hB];rfl
 have hh:(QB q).head?=some c:=by rw[hB];rfl
 have aW:QB q≠[]:=by rw[hB];simp
 have Dk:0<(QB q).length:=by rw[hB];simp
 have Dw:(0:Int)<((QB q).length:Int):=by omega
 have t_:¬(20:Int)<((QB q).length:Int):=by omega
 have yv:(ar q.num.natAbs).length<=(QB q).length:=by omega
 have zaS:((ar q.num.natAbs).length:Int)<=((QB q).length:Int):=by omega
 have k0:0<=(ar q.num.natAbs).length:=uw _
 have w1:bl .i64 (((QB q).length:Int)-((ar q.num.natAbs).length:Int))=((QB q).length:Int)-((ar q.num.natAbs).length:Int):=cA (by omega) (by omega)
 have w2:bl .i64 (((ar q.num.natAbs).length:Int)+1)=((ar q.num.natAbs).length:Int)+1:=cA (by omega) (by omega)
 have a3:∀st:St,tV st (some (.str (45::QB q))) (some (some (.int .i64 1))) (some none)=some (.str (QB q),st):=fun st=>by rw[Ht (by omega) (by simp only[bp];omega)];rfl
 have a4:∀st:St,tV st (some (.str (QB q))) (some none) (some (some (.int .i64 (ar q.num.natAbs).length)))=some (.str (ar q.num.natAbs),st):=fun st=>by rw[Yd (by omega) (by omega),Int.toNat_natCast,ht]
 apply Call.eq
 rw[aN,A.k134 (by simp),ki]
 by_cases e9:q.num.natAbs<1000000000
 ·have g9:¬(9:Int)<((ar q.num.natAbs).length:Int):=by have:=h9.2 e9;omega
  have hn:=hn e9
  by_cases e1:q.den=1
  ·rw[ay e1]at J9
   have Fp:¬(10:Int)<((QB q).length:Int)-((ar q.num.natAbs).length:Int):=by omega
   have OJ:¬((ar q.num.natAbs).length:Int)<((QB q).length:Int):=by omega
   have OK:¬(ar q.num.natAbs).length<(QB q).length:=by omega
   rw[e1]
   by_cases hz:q.num<0
   ·have ez:(q.num.natAbs:Int)= -q.num:=by omega
    have w3:bl .i64 (0-(q.num.natAbs:Int))=q.num:=by rw[ez];rw[cA (by omega) (by omega)];omega
    have a5:cI 45=45:=rfl
    have dL:(QB q).length+1<=20:=by rw[ki,ay hz]at hl;simpa using hl
    have Dh:¬(20:Int)<((QB q).length:Int)+1:=by omega
    have zn:(0:Int)<((QB q).length:Int)+1:=by omega
    simp(disch:=first|(simp;done)|omega|rfl) [-getElem?_pos,A.b134,hz,t_,Dh,zn,a3,a5,cy,aE,aC,g9,Fp,OJ,OK,w1,w3,a4,hn,e9]
    omega
   ·have ez:(q.num.natAbs:Int)=q.num:=by omega
    simp(disch:=first|(simp;done)|omega|rfl) [-getElem?_pos,A.b134,hz,fQ,hh,aW,Dk,Dw,t_,Dv,cy,aE,aC,g9,Fp,OJ,OK,w1,a4,hn,ez,e9]
  ·rw[ak e1]at J9
   have xM:=xM e1
   have OJ:((ar q.num.natAbs).length:Int)<((QB q).length:Int):=by omega
   have OK:(ar q.num.natAbs).length<(QB q).length:=by omega
   have a6:∀st:St,tV st (some (.str (QB q))) (some (some (.int .i64 (((ar q.num.natAbs).length:Int)+1)))) (some none)=some (.str (ar q.den),st):=fun st=>by
    rw[Ht (by omega) (by omega)]
    have:(((ar q.num.natAbs).length:Int)+1).toNat=(ar q.num.natAbs).length+1:=by omega
    rw[this,xM]
   by_cases e10:q.den<1000000000
   ·have Fp:¬(10:Int)<((QB q).length:Int)-((ar q.num.natAbs).length:Int):=by have:=h9d.2 e10;omega
    have hd:=hd e10
    by_cases hz:q.num<0
    ·have ez:(q.num.natAbs:Int)= -q.num:=by omega
     have w3:bl .i64 (0-(q.num.natAbs:Int))=q.num:=by rw[ez];rw[cA (by omega) (by omega)];omega
     have a5:cI 45=45:=rfl
     have dL:(QB q).length+1<=20:=by rw[ki,ay hz]at hl;simpa using hl
     have Dh:¬(20:Int)<((QB q).length:Int)+1:=by omega
     have zn:(0:Int)<((QB q).length:Int)+1:=by omega
     simp(disch:=first|(simp;done)|omega|rfl) [-getElem?_pos,A.b134,hz,t_,Dh,zn,a3,a5,a6,cy,aE,aC,g9,Fp,OJ,OK,w1,w2,w3,a4,hn,hd,e9,e10]
     omega
    ·have ez:(q.num.natAbs:Int)=q.num:=by omega
     simp(disch:=first|(simp;done)|omega|rfl) [-getElem?_pos,A.b134,hz,fQ,hh,aW,Dk,Dw,t_,Dv,a6,cy,aE,aC,g9,Fp,OJ,OK,w1,w2,a4,hn,hd,ez,e9,e10]
   ·have Fp:(10:Int)<((QB q).length:Int)-((ar q.num.natAbs).length:Int):=by
     have:¬(ar q.den).length<=9:=fun hc=>e10 (h9d.1 hc)
     omega
    by_cases hz:q.num<0
    ·have a5:cI 45=45:=rfl
     have dL:(QB q).length+1<=20:=by rw[ki,ay hz]at hl;simpa using hl
     have Dh:¬(20:Int)<((QB q).length:Int)+1:=by omega
     have zn:(0:Int)<((QB q).length:Int)+1:=by omega
     simp(disch:=first|(simp;done)|omega|rfl) [-getElem?_pos,A.b134,hz,t_,Dh,zn,a3,a5,cy,aE,aC,g9,Fp,w1,e9,e10]
    ·simp(disch:=first|(simp;done)|omega|rfl) [-getElem?_pos,A.b134,hz,fQ,hh,aW,Dk,Dw,t_,Dv,cy,aE,aC,g9,Fp,w1,e9,e10]
 ·have g9:(9:Int)<((ar q.num.natAbs).length:Int):=by
   have:¬(ar q.num.natAbs).length<=9:=fun hc=>e9 (h9.1 hc)
   omega
  by_cases hz:q.num<0
  ·have a5:cI 45=45:=rfl
   have dL:(QB q).length+1<=20:=by rw[ki,ay hz]at hl;simpa using hl
   have Dh:¬(20:Int)<((QB q).length:Int)+1:=by omega
   have zn:(0:Int)<((QB q).length:Int)+1:=by omega
   simp(disch:=first|(simp;done)|omega|rfl) [-getElem?_pos,A.b134,hz,t_,Dh,zn,a3,a5,cy,aE,aC,g9,e9]
  ·simp(disch:=first|(simp;done)|omega|rfl) [-getElem?_pos,A.b134,hz,fQ,hh,aW,Dk,Dw,t_,Dv,cy,aE,aC,g9,e9]
def Zy3{q:Rat}{st:St}(h1:20<(aR q).length):A.C.call (.func 134 [] []) [.str (aR q)] st=some (.aV [.int .i64 0,.int .i64 0,.bool false],st):=by
 have h2:(20:Int)<((aR q).length:Int):=by omega
 apply Call.eq
 rw[aN,A.k134 (by simp)]
 simp[A.b134,h2]
def Yeh{q:Rat}(h:q.num.natAbs<1000000000/\q.den<1000000000):(aR q).length<=20:=by
 have h1:=OI.2 h.1
 have h2:=OI.2 h.2
 have h3:=Yln q
 rw[BX]
 split
 ·simp only[bp];split at h3<;>omega
 ·split at h3<;>omega
def Zwy{q:Rat}{st:St}:A.C.call (.func 134 [] []) [.str (aR q)] st=some (if q.num.natAbs<1000000000/\q.den<1000000000 then .aV [.int .i64 q.num,.int .i64 q.den,.bool true] else .aV [.int .i64 0,.int .i64 0,.bool false],st):=by
 by_cases h:(aR q).length<=20
 ·exact Ycp h
 ·rw[ak fun hc=>h (Yeh hc)]
  exact Zy3 (by omega)
variable {j:Nat}
set_option maxHeartbeats 2000000
def A.b132:=A.q Tryz.f132
def A.k132:=@A.kk 132 55 [.tmp 4] A.b132 (by kernel_rfl) rfl
def Zp0(a b:Rat):a*b=Rat.divInt (a.num*b.num) ((a.den:Int)*(b.den:Int)):=by
 rw[Rat.mul_def,Rat.normalize_eq_mkRat,<-Rat.divInt_ofNat]
 simp
def Zqg(a b:Rat):a+b=Rat.divInt (a.num*(b.den:Int)+b.num*(a.den:Int)) ((a.den:Int)*(b.den:Int)):=by
 rw[Rat.add_def,Rat.normalize_eq_mkRat,<-Rat.divInt_ofNat]
 simp
def OL{a b:Nat}(h1:a<1000000000)(h2:b<1000000000):a*b<=1000000000000000000:=by
 have:=wS (Nat.le_of_lt h1) (Nat.le_of_lt h2)
 omega
def Sk(q:Rat):∃(n d:Int) (o:Bool),(∀st,A.C.call (.func 134 [] []) [.str (aR q)] st=some (.aV [.int .i64 n,.int .i64 d,.bool o],st))/\(o=true->n=q.num/\d=(q.den:Int)/\q.num.natAbs<1000000000/\q.den<1000000000):=by
 by_cases f:q.num.natAbs<1000000000/\q.den<1000000000
 ·exact⟨q.num,q.den,true,fun st=>by rw[Zwy,ay f],fun _=>⟨rfl,rfl,f⟩⟩
 ·exact⟨0,0,false,fun st=>by rw[Zwy,ak f],fun h=>by cases h⟩
def Rg.pN{h:T O}{N:Nat}{v:V}{z:Int}(s:Rg h N v z):∃u,v=.agg [.bool (decide (z<0)),u]/\V.one u=true/\V.cells u=[u]/\GN u:=by
 obtain⟨u,rfl,hu⟩:=s
 exact⟨u,rfl,(Sl.form hu).one,(Sl.form hu).cells,Sl.form hu⟩
def ON{a b:Int}{k:Nat}(h1:a.natAbs<2^j)(h2:b.natAbs<2^k):(a*b).natAbs<2^(j+k):=by
 rw[uO,kf]
 exact A3 h1 h2
def Zq8{a b:Int}(h1:a.natAbs<2^j)(h2:b.natAbs<2^j):(a+b).natAbs<2^(j+1):=by
 have:=Int.natAbs_add_le a b
 rw[fZ];omega
def Zw{a b:Rat}{k:Nat}{h:T O}{N:Nat}(ha:Qb j a)(hb:Qb k b)(hj:j<=400000000)(hk:k<=400000000):Fn A.C 132 [.str (aR a),.str (aR b)] h N (fun u _ _=>u=.str (aR (a*b))):=by
 intro w
 obtain⟨n1,d1,o1,pY,f1⟩:=Sk a
 obtain⟨n2,d2,o2,kp,f2⟩:=Sk b
 have pa:=Rat.den_pos a
 have pb:=Rat.den_pos b
 rw[aN,A.k132 (by simp)]
 have key:(o1=true/\o2=true)\/(o1=false\/(o1=true/\o2=false)):=by cases o1<;>cases o2<;>simp
 rcases key with⟨rfl,rfl⟩|key
 ·obtain⟨rfl,rfl,g1⟩:=f1 rfl
  obtain⟨rfl,rfl,g2⟩:=f2 rfl
  have m1:(a.num*b.num).natAbs<=1000000000000000000:=by rw[uO];exact OL g1.1 g2.1
  have m2:a.den*b.den<=1000000000000000000:=OL g1.2 g2.2
  have m3:0<a.den*b.den:=yF pa pb
  have e2:(a.den:Int)*(b.den:Int)=((a.den*b.den:Nat):Int):=by simp
  have w1:bl .i64 (a.num*b.num)=a.num*b.num:=cA (by omega) (by omega)
  have w2:bl .i64 ((a.den:Int)*(b.den:Int))=(a.den:Int)*(b.den:Int):=by rw[e2];exact cA (by omega) (by omega)
  have ho:=fun st=>Yrc (p:=a.num*b.num) (q:=(a.den:Int)*(b.den:Int)) (st:=st) (by omega) (by omega) (by omega) (by omega) (by omega)
  rw[<-Zp0]at ho
  simp[A.b132,pY,kp,w1,w2,ho,aA]
  exact ab.refl
 ·have la:=Hi ha.1
  have RM:=EL ha.2
  have lb:=Hi hb.1
  have lb2:=EL hb.2
  have z1:=uH ha.1
  have z2:=uH hb.1
  have z3:=uH ha.2
  have z4:=uH hb.2
  rcases key with rfl|⟨rfl,rfl⟩
  all_goals simp[A.b132,pY,kp]
  all_goals
   refine aB (OH (q:=a) (by omega) (by omega)) ?_
   rintro _ h1 t1 k1 ⟨x1,y1,rfl,X1,Y1⟩
   obtain⟨u1,rfl,p1,p2,F1⟩:=X1.pN
   obtain⟨v1,rfl,p3,p4,G1⟩:=Y1.pN
   unfold V.one at p1 p3
   unfold V.cells at p2 p4
   have KA:=((((ab.refl (h:=h1) (n:=t1)).new (.cells [.bool false,.aa] 146 true)).new (.cells [.bool false,.aa] 146 true)).set (i:=t1) (o:=.cells [.bool (decide (a.num<0)),u1] 146 true) (aQ _)).set (i:=t1+1) (o:=.cells [.bool (decide ((a.den:Int)<0)),v1] 146 true) (by omega)
   have c0:¬t1+1=t1:=by omega
   have c00:¬t1=t1+1:=by omega
   simp[p1,p2,p3,p4,bD,ad,c0]
   generalize AT:(((h1.set t1 (.cells [.bool false,.aa] 146 true)).set (t1+1) (.cells [.bool false,.aa] 146 true)).set t1 (.cells [.bool (decide (a.num<0)),u1] 146 true)).set (t1+1) (.cells [.bool (decide ((a.den:Int)<0)),v1] 146 true)=HA at*
   have F9:HA.get t1=some (.cells [.bool (decide (a.num<0)),u1] 146 true):=by rw[<-AT];simp[c0,c00]
   have OO:HA.get (t1+1)=some (.cells [.bool (decide ((a.den:Int)<0)),v1] 146 true):=by rw[<-AT];simp
   have X1:=X1.ae KA
   have Y1:=Y1.ae KA
   clear AT
   refine aB (OH (q:=b) (by omega) (by omega)) ?_
   rintro _ h2 t2 k2 ⟨x2,y2,rfl,X2,Y2⟩
   obtain⟨u2,rfl,p5,p6,F2⟩:=X2.pN
   obtain⟨v2,rfl,p7,p8,G2⟩:=Y2.pN
   unfold V.one at p5 p7
   unfold V.cells at p6 p8
   have KB:=((((ab.refl (h:=h2) (n:=t2)).new (.cells [.bool false,.aa] 146 true)).new (.cells [.bool false,.aa] 146 true)).set (i:=t2) (o:=.cells [.bool (decide (b.num<0)),u2] 146 true) (aQ _)).set (i:=t2+1) (o:=.cells [.bool (decide ((b.den:Int)<0)),v2] 146 true) (by omega)
   have c1:¬t2+1=t2:=by omega
   have c11:¬t2=t2+1:=by omega
   have i2:=k2.le
   generalize It:(((h2.set t2 (.cells [.bool false,.aa] 146 true)).set (t2+1) (.cells [.bool false,.aa] 146 true)).set t2 (.cells [.bool (decide (b.num<0)),u2] 146 true)).set (t2+1) (.cells [.bool (decide ((b.den:Int)<0)),v2] 146 true)=HB at*
   have AU:HB.get t2=some (.cells [.bool (decide (b.num<0)),u2] 146 true):=by rw[<-It];simp[c1,c11]
   have FK:HB.get (t2+1)=some (.cells [.bool (decide ((b.den:Int)<0)),v2] 146 true):=by rw[<-It];simp
   have zu:=(KB.get t1 (by omega)).trans ((k2.get t1 (by omega)).trans F9)
   have Fq:=(KB.get (t1+1) (by omega)).trans ((k2.get (t1+1) (by omega)).trans OO)
   have X1:=(X1.ae k2).ae KB
   have Y1:=(Y1.ae k2).ae KB
   have X2:=X2.ae KB
   have Y2:=Y2.ae KB
   have K2:ab h N HB (t2+1+1):=((k1.trans KA).trans k2).trans KB
   have j1:t1<t2+1+1:=by omega
   have j2:t1+1<t2+1+1:=by omega
   have j3:t2<t2+1+1:=by omega
   simp[p5,p6,p7,p8,bD,ad,c1,It,AU,FK,zu,Fq,aO,aD]
   refine aB (Ml X1 X2 (by omega) (by omega)) ?_
   rintro _ h3 t3 k3 X3
   have i3:=k3.le
   have gC2:=(k3.get (t2+1) (by omega)).trans FK
   have Sm:=(k3.get (t1+1) (by omega)).trans Fq
   simp[gC2,Sm,aO,aD]
   refine aB (Ml (Y1.ae k3) (Y2.ae k3) (by rw[dC];omega) (by rw[dC];omega)) ?_
   rintro _ h4 t4 k4 X4
   have m1:=uH (ON ha.1 hb.1)
   have m2:=uH (ON (a:=(a.den:Int)) (b:=(b.den:Int)) (j:=j) (k:=k) (by rw[dC];exact ha.2) (by rw[dC];exact hb.2))
   simp[]
   refine aB (Zji (X3.ae k4) X4 (Jg (by omega) (by omega)) (by omega) (by omega)) ?_
   rintro _ h5 t5 k5 rfl
   have j4:t2+1<t3:=by omega
   have j5:t1+1<t3:=by omega
   rw[<-Zp0]
   have i1:=k1.le
   simp[-av,ct.cv,j1,j2,j3,j4,j5,aA]
   exact⟨ui (by simp;omega),((K2.trans k3).trans k4).trans k5⟩
end
end Go.Mx
