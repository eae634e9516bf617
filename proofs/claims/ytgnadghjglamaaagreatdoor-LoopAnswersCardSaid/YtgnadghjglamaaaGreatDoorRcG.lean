/-lensletref01-/
import Derived.Test.YtgnadghjglamaaaGreatDoorRbK
set_option linter.all false
namespace Go.Mx
noncomputable section
open Go Go.Proofs
set_option maxRecDepth 1000000
def A.b43:=A.q Tryz.f43
def A.k43:=@A.kk 43 61 [.tmp 4] A.b43 (by kernel_rfl) rfl
def Zld{z:Int}:Yd1 [.int .i64 z,.int .i64 (-z)]=some (.int .i64 (z.natAbs:Nat)):=by
 have h:Yd1 [.int .i64 z,.int .i64 (-z)]=some (.int .i64 (if z< -z then -z else z)):=rfl
 rw[h]
 congr 2
 split<;>omega
def Yhx{a:Int}{m:Nat}(hm:0<m):(Rat.divInt a m).num=a.tdiv (Nat.gcd a.natAbs m:Nat)∧(Rat.divInt a m).num.natAbs≤a.natAbs∧(Rat.divInt a m).den=m/Nat.gcd a.natAbs m:=by
 have hb:(0:Int)<(m:Int):=by omega
 have h1:=Zna (a:=a) hb
 have h2:=Zrs (a:=a) hb
 rw[Yrz]at h1 h2
 have hd:((Nat.gcd a.natAbs m:Nat):Int)∣a:=Int.gcd_dvd_left (a:=a) (b:=(m:Int))
 refine⟨?_,?_,h2.symm⟩
 ·rw[Int.tdiv_eq_ediv_of_dvd hd,Rat.num_divInt,Int.sign_eq_one_of_pos hb,Int.one_mul,Int.gcd_comm]
  rfl
 ·rw[←h1]
  have:=Yti a.natAbs (Nat.gcd a.natAbs m)
  generalize a.natAbs/Nat.gcd a.natAbs m=k at*
  split
  ·rw[Yuo,Yrz];exact this
  ·rw[Yrz];exact this
def Ymk{a:Int}{m:Nat}{st:St}(hm:0<m)(h1: -4000000000000000000≤a)(h2:a≤4000000000000000000)(h3:m≤4000000000000000000):A.C.call (.func 43 [] []) [.int .i64 a,.int .i64 m] st=some (.str (Zas (Rat.divInt a m)),st):=by
 apply Call.eq
 rw[Zaf,A.k43 (by simp)]
 have c1:¬a< -4000000000000000000:=by omega
 have c2:¬4000000000000000000<a:=by omega
 have c3:¬(m:Int)< -4000000000000000000:=by omega
 have c4:¬4000000000000000000<(m:Int):=by omega
 have c5:¬(m:Int)<0:=by omega
 have w1:Zap .i64 (-a)= -a:=Zah (by omega) (by omega)
 have w2:Zap .i64 (0-a)= -a:=by rw[Int.zero_sub];exact w1
 have hg:=fun st=>Ych (a:=a.natAbs) (b:=m) (st:=st) (by omega) (by omega)
 obtain⟨e1,e2,e3⟩:=Yhx (a:=a) hm
 have hD0:0<(Rat.divInt a m).den:=Rat.den_pos _
 have htx:Zas (Rat.divInt a m)=if (Rat.divInt a m).den=1 then decI (Rat.divInt a m).num else decI (Rat.divInt a m).num++47::decN (Rat.divInt a m).den:=rfl
 rw[htx]
 clear htx
 have hgp:0<Nat.gcd a.natAbs m:=Yvd _ hm
 generalize (Rat.divInt a m).num=P at*
 generalize (Rat.divInt a m).den=D at*
 generalize Nat.gcd a.natAbs m=g at*
 have hDm:D≤m:=by rw[e3];exact Yti _ _
 have e4:(m:Int).tdiv (g:Int)=(D:Int):=by rw[Ys3 (by omega),e3];rfl
 have g0:¬(g:Int)=0:=by omega
 have g1:¬g=0:=by omega
 have v1:Zap .i64 P=P:=Zah (by omega) (by omega)
 have v2:Zap .i64 (-P)= -P:=Zah (by omega) (by omega)
 have v3:Zap .i64 (D:Int)=(D:Int):=Zah (by omega) (by omega)
 have d1:∀st,A.C.call (.func 112 [] []) [.int .i64 (P.natAbs:Nat),.int .i64 1] st=some (.str (decN P.natAbs),st):=fun st=>(Zd2 (n:=P.natAbs) (m:=1) (st:=st) (by omega) (by omega)).trans (by rw[Zka])
 have d2:∀st,A.C.call (.func 112 [] []) [.int .i64 D,.int .i64 1] st=some (.str (decN D),st):=fun st=>(Zd2 (n:=D) (m:=1) (st:=st) (by omega) (by omega)).trans (by rw[Zka])
 have x1:(decN P.natAbs).length<30:=by
  have:(Zcz P.natAbs).length≤19:=Zay.1 (by omega)
  unfold decN;split<;>simp;omega
 have x2:(decN D).length<30:=by
  have:(Zcz D).length≤19:=Zay.1 (by omega)
  unfold decN;split<;>simp;omega
 have hmx:IntKind.max .i64=9223372036854775807:=rfl
 have y1:¬(9223372036854775807:Int)<((decN P.natAbs).length:Int):=by omega
 have y2:¬(9223372036854775807:Int)<1+((decN P.natAbs).length:Int):=by omega
 have z1:D=1∨(¬D=1∧1<D):=by omega
 rcases z1 with rfl|⟨z1,z2⟩<;>by_cases hP:P<0
 ·simp(disch:=first|(simp;done)|omega|rfl) [-getElem?_pos,A.b43,c1,c2,c3,c4,c5,w1,w2,Zf9,Zld,hg,←e1,e4,g0,g1,v1,v2,v3,hP,d1,d2,Zbo,hmx,y1,y2,decI,Zal.chk]
 ·simp(disch:=first|(simp;done)|omega|rfl) [-getElem?_pos,A.b43,c1,c2,c3,c4,c5,w1,w2,Zf9,Zld,hg,←e1,e4,g0,g1,v1,v2,v3,hP,d1,d2,Zbo,hmx,y1,y2,decI,Zal.chk]
 ·have z3:(1:Int)<(D:Int):=by omega
  have y3:¬(9223372036854775807:Int)<((decN P.natAbs).length:Int)+1+1:=by omega
  have y4:¬(9223372036854775807:Int)<((decN P.natAbs).length:Int)+1+1+((decN D).length:Int):=by omega
  simp(disch:=first|(simp;done)|omega|rfl) [-getElem?_pos,A.b43,c1,c2,c3,c4,c5,w1,w2,Zf9,Zld,hg,←e1,e4,g0,g1,v1,v2,v3,hP,d1,d2,Zbo,hmx,y1,y2,decI,Zal.chk,z1,z2,z3,y3,y4]
 ·have z3:(1:Int)<(D:Int):=by omega
  have y3:¬(9223372036854775807:Int)<((decN P.natAbs).length:Int)+1:=by omega
  have y4:¬(9223372036854775807:Int)<((decN P.natAbs).length:Int)+1+((decN D).length:Int):=by omega
  simp(disch:=first|(simp;done)|omega|rfl) [-getElem?_pos,A.b43,c1,c2,c3,c4,c5,w1,w2,Zf9,Zld,hg,←e1,e4,g0,g1,v1,v2,v3,hP,d1,d2,Zbo,hmx,y1,y2,decI,Zal.chk,z1,z2,z3,y3,y4]
def Yml{p q:Int}{st:St}(hq:q<0)(h1: -4000000000000000000≤p)(h2:p≤4000000000000000000)(h3: -4000000000000000000≤q):A.C.call (.func 43 [] []) [.int .i64 p,.int .i64 q] st=some (.str (Zas (Rat.divInt p q)),st):=by
 apply Call.eq
 rw[Zaf,A.k43 (by simp)]
 have c1:¬p< -4000000000000000000:=by omega
 have c2:¬4000000000000000000<p:=by omega
 have c3:¬q< -4000000000000000000:=by omega
 have c4:¬4000000000000000000<q:=by omega
 obtain⟨a,ha⟩:∃a,a= -p:=⟨_,rfl⟩
 obtain⟨m,hm1⟩:∃m:Nat,(m:Int)= -q:=⟨(-q).toNat,by omega⟩
 have hm:0<m:=by omega
 have c5:Zap .i64 (-p)=a:=by rw[←ha];exact Zah (by omega) (by omega)
 have c6:Zap .i64 (-q)=(m:Int):=by rw[←hm1];exact Zah (by omega) (by omega)
 have hab:Rat.divInt p q=Rat.divInt a m:=by rw[ha,hm1];exact(Rat.neg_divInt_neg p q).symm
 rw[hab]
 clear hab
 have w1:Zap .i64 (-a)= -a:=Zah (by omega) (by omega)
 have w2:Zap .i64 (0-a)= -a:=by rw[Int.zero_sub];exact w1
 have hg:=fun st=>Ych (a:=a.natAbs) (b:=m) (st:=st) (by omega) (by omega)
 obtain⟨e1,e2,e3⟩:=Yhx (a:=a) hm
 have hD0:0<(Rat.divInt a m).den:=Rat.den_pos _
 have htx:Zas (Rat.divInt a m)=if (Rat.divInt a m).den=1 then decI (Rat.divInt a m).num else decI (Rat.divInt a m).num++47::decN (Rat.divInt a m).den:=rfl
 rw[htx]
 clear htx
 have hgp:0<Nat.gcd a.natAbs m:=Yvd _ hm
 generalize (Rat.divInt a m).num=P at*
 generalize (Rat.divInt a m).den=D at*
 generalize Nat.gcd a.natAbs m=g at*
 have hDm:D≤m:=by rw[e3];exact Yti _ _
 have e4:(m:Int).tdiv (g:Int)=(D:Int):=by rw[Ys3 (by omega),e3];rfl
 have g0:¬(g:Int)=0:=by omega
 have g1:¬g=0:=by omega
 have v1:Zap .i64 P=P:=Zah (by omega) (by omega)
 have v2:Zap .i64 (-P)= -P:=Zah (by omega) (by omega)
 have v3:Zap .i64 (D:Int)=(D:Int):=Zah (by omega) (by omega)
 have d1:∀st,A.C.call (.func 112 [] []) [.int .i64 (P.natAbs:Nat),.int .i64 1] st=some (.str (decN P.natAbs),st):=fun st=>(Zd2 (n:=P.natAbs) (m:=1) (st:=st) (by omega) (by omega)).trans (by rw[Zka])
 have d2:∀st,A.C.call (.func 112 [] []) [.int .i64 D,.int .i64 1] st=some (.str (decN D),st):=fun st=>(Zd2 (n:=D) (m:=1) (st:=st) (by omega) (by omega)).trans (by rw[Zka])
 have x1:(decN P.natAbs).length<30:=by
  have:(Zcz P.natAbs).length≤19:=Zay.1 (by omega)
  unfold decN;split<;>simp;omega
 have x2:(decN D).length<30:=by
  have:(Zcz D).length≤19:=Zay.1 (by omega)
  unfold decN;split<;>simp;omega
 have hmx:IntKind.max .i64=9223372036854775807:=rfl
 have y1:¬(9223372036854775807:Int)<((decN P.natAbs).length:Int):=by omega
 have y2:¬(9223372036854775807:Int)<1+((decN P.natAbs).length:Int):=by omega
 have z1:D=1∨(¬D=1∧1<D):=by omega
 rcases z1 with rfl|⟨z1,z2⟩<;>by_cases hP:P<0
 ·simp(disch:=first|(simp;done)|omega|rfl) [-getElem?_pos,A.b43,c1,c2,c3,c4,c5,c6,hq,w1,w2,Zf9,Zld,hg,←e1,e4,g0,g1,v1,v2,v3,hP,d1,d2,Zbo,hmx,y1,y2,decI,Zal.chk]
 ·simp(disch:=first|(simp;done)|omega|rfl) [-getElem?_pos,A.b43,c1,c2,c3,c4,c5,c6,hq,w1,w2,Zf9,Zld,hg,←e1,e4,g0,g1,v1,v2,v3,hP,d1,d2,Zbo,hmx,y1,y2,decI,Zal.chk]
 ·have z3:(1:Int)<(D:Int):=by omega
  have y3:¬(9223372036854775807:Int)<((decN P.natAbs).length:Int)+1+1:=by omega
  have y4:¬(9223372036854775807:Int)<((decN P.natAbs).length:Int)+1+1+((decN D).length:Int):=by omega
  simp(disch:=first|(simp;done)|omega|rfl) [-getElem?_pos,A.b43,c1,c2,c3,c4,c5,c6,hq,w1,w2,Zf9,Zld,hg,←e1,e4,g0,g1,v1,v2,v3,hP,d1,d2,Zbo,hmx,y1,y2,decI,Zal.chk,z1,z2,z3,y3,y4]
 ·have z3:(1:Int)<(D:Int):=by omega
  have y3:¬(9223372036854775807:Int)<((decN P.natAbs).length:Int)+1:=by omega
  have y4:¬(9223372036854775807:Int)<((decN P.natAbs).length:Int)+1+((decN D).length:Int):=by omega
  simp(disch:=first|(simp;done)|omega|rfl) [-getElem?_pos,A.b43,c1,c2,c3,c4,c5,c6,hq,w1,w2,Zf9,Zld,hg,←e1,e4,g0,g1,v1,v2,v3,hP,d1,d2,Zbo,hmx,y1,y2,decI,Zal.chk,z1,z2,z3,y3,y4]
def Ymm{p q:Int}{st:St}(hq:q≠0)(h1: -4000000000000000000≤p)(h2:p≤4000000000000000000)(h3: -4000000000000000000≤q)(h4:q≤4000000000000000000):A.C.call (.func 43 [] []) [.int .i64 p,.int .i64 q] st=some (.str (Zas (Rat.divInt p q)),st):=by
 rcases Int.lt_or_gt_of_ne hq with hq|hq
 ·exact Yml hq h1 h2 h3
 ·obtain⟨m,rfl⟩:∃m:Nat,q=(m:Int):=⟨q.toNat,by omega⟩
  exact Ymk (by omega) h1 h2 (by omega)
def A.w110:=A.q Tryz.f110
def A.lb110_0:=A.ql A.w110 0 []
def A.b110:=(fun x0=>A.qb A.w110 [x0]) A.lb110_0
def A.k110:=@A.kk 110 25 [.cell 2 (some 2)] A.b110 (by kernel_rfl) rfl
def Yaq{s:Str}(hd:Zb7 s=true)(h1:1≤s.length)(h2:s.length≤3000000000){h:T O}{N:Nat}:Fn A.C 118 [.str (45::s)] h N (fun v h' n'=>Rg h' n' v (-((numV s:Nat):Int))):=by
 intro w
 have a1:u8I 45=45:=rfl
 have a2:(1:Int)≤(s.length:Int)+1:=by omega
 have a3:∀st:St,Zcg st (some (.str (45::s))) (some (some (.int .i64 1))) (some none)=some (.str s,st):=fun st=>by rw[Zdb (by omega) (by simp only[Yrr];omega)];rfl
 rw[Zaf,A.k118 (by simp)]
 simp(disch:=first|(simp;done)|omega|rfl) [-getElem?_pos,A.b118,a1,a2,a3,Zag,evOpt]
 refine Zak [(0,0),(4,4),(16,32)] (fun e r st=>e=.exit 0∧∃m,m≤9∧PsI (h.set N (.cells [.bool false,.nilslice] 92 true)) (N+1) s m r st) (PsI (h.set N (.cells [.bool false,.nilslice] 92 true)) (N+1) s) s.length ?_ ?_ ?_
 ·exact⟨by simp,Keeps.refl,s,.nilslice,[],by simp,rfl,h1,Yru _,hd,by simp,Own.nil,Di.nil,by simp,by simp[vI,pI]⟩
 ·rintro m r ⟨H,n1,W⟩ hr hf ⟨hW,hK,cur,u,l,g0,hcl,m1,m2,hcd,g4,ho,hdi,hll,hv⟩
  simp only at hW hK ho
  subst hcl
  rw[Zai]
  by_cases h9:9<cur.length
  ·have h9':(9:Int)<(cur.length:Int):=by omega
   have nle:=hK.le
   have hvd:=Zi9 (s:=cur.drop (cur.length-9)) (st:=⟨H,n1,W⟩) (Zkl hcd _) (by simp;omega)
   have hcn:((cur.length:Int)-9).toNat=cur.length-9:=by omega
   have hnv:=Zea (Zkl hcd (cur.length-9))
   have hdl:(cur.drop (cur.length-9)).length=9:=by simp;omega
   rw[hdl]at hnv
   have hsp:=Zvk (cur.take (cur.length-9)) (cur.drop (cur.length-9))
   rw[Ytj,hdl,show (10:Nat)^9=1000000000 by decide]at hsp
   generalize hD:numV (cur.drop (cur.length-9))=D at*
   obtain⟨v',h',w',e1,e2,e3,e4,e5⟩:=Zb5 (x:=[.int .i64 (D:Int)]) (u:=.slice n1 0 1 (some 1) 1) (bytes:=8) (w:=W) (ho.keep (Keeps.refl.new (.cells [.int .i64 (D:Int)] 3 true))) (by omega) (by decide) rfl (by simp[Za0,St.row,slc]) (by rw[Zdl];omega)
   rw[←Zdd]at e5
   simp(disch:=first|(simp;done)|omega|rfl) [-getElem?_pos,A.lb118_0,hr,hf,g0,g4,h9,h9',hcn,evOpt,hvd,splice,e1]
   refine⟨cur.length-9,by omega,⟨by rw[e2];exact hW,(hK.new _).then e3,cur.take (cur.length-9),v',l++[(D:Int)],by simp,by simp,by omega,by omega,Zsb hcd _,by simp,e5,hdi.app (Di.one (by omega) (by omega)),by simp;omega,?_⟩⟩
   rw[Zfx,Yr8,Ytg,Zc2,←hv]
   have hsp':((numV cur:Nat):Int)=(numV (cur.take (cur.length-9)):Nat)*1000000000+D:=by omega
   rw[hsp']
   generalize ((numV (cur.take (cur.length-9)):Nat):Int)=X
   generalize pI l.length=P
   grind
  ·have h9':¬(9:Int)<(cur.length:Int):=by omega
   simp(disch:=first|(simp;done)|omega|rfl) [-getElem?_pos,A.lb118_0,hr,hf,g0,h9,h9']
   exact⟨cur.length,by omega,hW,hK,cur,u,l,by simp[g0],rfl,m1,m2,hcd,by simp[g4],ho,hdi,hll,hv⟩
 ·rintro _ r ⟨H,n1,W⟩ hr ⟨rfl,m,m9,hW,hK,cur,u,l,g0,hcl,m1,m2,hcd,g4,ho,hdi,hll,hv⟩
  simp only at hW hK ho
  subst hcl
  have nle:=hK.le
  have hvd:=Zi9 (s:=cur) (st:=⟨H,n1,W⟩) hcd (by omega)
  have hnv:=Zea hcd
  have hp9:=Zvf m9
  generalize hD:numV cur=D at*
  obtain⟨v',h',w',e1,e2,e3,e4,e5⟩:=Zb5 (x:=[.int .i64 (D:Int)]) (u:=.slice n1 0 1 (some 1) 1) (bytes:=8) (w:=W) (ho.keep (Keeps.refl.new (.cells [.int .i64 (D:Int)] 3 true))) (by omega) (by decide) rfl (by simp[Za0,St.row,slc]) (by rw[Zdl];omega)
  rw[←Zdd]at e5
  simp(disch:=first|(simp;done)|omega|rfl) [-getElem?_pos,hr,g0,g4,hvd,splice,e1]
  have hdi2:Di (l++[(D:Int)]):=hdi.app (Di.one (by omega) (by omega))
  refine Zac (Zbz (b:=true) (n:=numV s) e5.sl hdi2 (by rw[Zfx];exact hv) (by simp;omega)) ?_
  rintro y h5 n5 k5 hy
  have kk:=((hK.new (.cells [.int .i64 (D:Int)] 3 true)).then e3).trans k5
  have kle:=kk.le
  have nrow:=kk.get N (by omega)
  simp at nrow
  obtain⟨u5,rfl,hu5⟩:=hy
  have hu6:=fun c1 (hc:c1.length=2)=>Sl.setInt (i:=N) (c1:=c1) (e1:=92) (w1:=true) hu5 nrow (by intro x hx k m;simp at hx;rcases hx with rfl|rfl<;>simp) hc
  have huo:=Sl.form hu5 |>.one
  unfold V.one at huo
  have ow:Zae N w'=[]:=Zg2 (Yuu N) (by rw[e2];exact hW)
  have k0:=(Keeps.refl (h:=h) (n:=N)).new (.cells [.bool false,.nilslice] 92 true)
  simp(disch:=first|(simp;done)|omega|rfl) [-getElem?_pos,hr,nrow,splice,Zam,huo,Zaj,slc,Ret,ow]
  exact⟨(k0.trans kk).set (Yru N),u5,by simp,by simpa[Dn]using hu6 _ rfl⟩
structure WhI (h:T O) (N a:Nat) (neg:Bool) (m:Nat) (r:T V) (st:St):Prop where
 w:Zae N st.w=[]
 keep:Keeps h N st.h st.n
 ex:∃z u l,z.natAbs=m∧m≤a∧(z<0→neg=true)∧(0<z→neg=false)∧r.get 0=some (.int .i64 z)∧r.get 3=some u∧Own 1 3 N st.h st.n u (Zfc l)∧Di l∧vI l+pI l.length*m=a∧l.length≤100∧(m≠0→pI l.length≤a)
def Zz5{z:Int}{h:T O}{N:Nat}(h1: -9223372036854775808≤z)(h2:z<9223372036854775808):Fn A.C 110 [.int .i64 z] h N (fun v h' n'=>Rg h' n' v z):=by
 intro w
 rw[Zaf,A.k110 (by simp)]
 have kB:=(Keeps.refl (h:=h) (n:=N)).new (.cells [.bool false,.nilslice] 92 true)
 simp(disch:=first|(simp;done)|omega|rfl) [-getElem?_pos,A.b110]
 refine Zak [(0,0),(3,3),(5,5),(8,21)] (fun e r st=>e=.exit 0∧WhI (h.set N (.cells [.bool false,.nilslice] 92 true)) (N+1) z.natAbs (decide (z<0)) 0 r st) (WhI (h.set N (.cells [.bool false,.nilslice] 92 true)) (N+1) z.natAbs (decide (z<0))) z.natAbs ?_ ?_ ?_
 ·exact⟨by simp,Keeps.refl,z,.nilslice,[],rfl,Yru _,fun h=>by simp[h],fun h=>by simp;omega,by simp,by simp,Own.nil,Di.nil,by simp[vI,pI],by simp,fun h=>by simp[pI];omega⟩
 ·rintro m r ⟨H,n1,W⟩ hr hf ⟨hW,hK,y,u,l,rfl,hm,hn1,hn2,g0,g3,ho,hd,hv,hl,hp⟩
  simp only at hW hK ho
  rw[Zai]
  by_cases hy:y=0
  ·subst hy
   simp(disch:=first|(simp;done)|omega|rfl) [-getElem?_pos,A.lb110_0,hr,hf,g0,Zag]
   exact⟨hW,hK,0,u,l,rfl,by omega,hn1,hn2,by simp[g0],by simp[g3],ho,hd,hv,hl,hp⟩
  ·have nle:=hK.le
   obtain⟨d,hd0⟩:∃d:Nat,d=y.natAbs%1000000000:=⟨_,rfl⟩
   obtain⟨q,hq0⟩:∃q:Nat,q=y.natAbs/1000000000:=⟨_,rfl⟩
   have hdl:d<1000000000:=by omega
   have hdv:(y.tdiv 1000000000).natAbs=q:=by rw[Int.natAbs_tdiv];exact hq0.symm
   have hml:(y.tmod 1000000000).natAbs=d:=by rw[Int.natAbs_tmod];exact hd0.symm
   have hqs:(y<0→y.tdiv 1000000000≤0)∧(0<y→0≤y.tdiv 1000000000):=by
    constructor
    ·intro h
     have:(-y).tdiv 1000000000= -(y.tdiv 1000000000):=Int.neg_tdiv _ _
     have h3:0≤(-y).tdiv 1000000000:=Int.tdiv_nonneg (by omega) (by omega)
     omega
    ·intro h
     exact Int.tdiv_nonneg (by omega) (by omega)
   have hms:(y<0→y.tmod 1000000000≤0)∧(0<y→0≤y.tmod 1000000000):=by
    constructor
    ·intro h
     have:(-y).tmod 1000000000= -(y.tmod 1000000000):=Int.neg_tmod _ _
     have h3:0≤(-y).tmod 1000000000:=Int.tmod_nonneg _ (by omega)
     omega
    ·intro h
     exact Int.tmod_nonneg _ (by omega)
   generalize hyq:y.tdiv 1000000000=Y at*
   generalize hym:y.tmod 1000000000=D at*
   have w1:Zap .i64 Y=Y:=Zah (by omega) (by omega)
   have w2:Zap .i64 (0-D)= -D:=by rw[Int.zero_sub];exact Zah (by omega) (by omega)
   have w3:Zap .i64 (-D)= -D:=Zah (by omega) (by omega)
   have hlen:l.length+1≤100:=by
    apply Classical.byContradiction
    intro hc
    have h5:l.length=100:=by omega
    have h6:=hp (by omega)
    rw[h5,Zpn]at h6
    have h7:(1000000000^100:Nat)≤z.natAbs:=by exact_mod_cast h6
    have h8:(9223372036854775808:Nat)<1000000000^100:=by decide
    omega
   obtain⟨v',h',w',e1,e2,e3,e4,e5⟩:=Zb5 (x:=[.int .i64 (d:Int)]) (u:=.slice n1 0 1 (some 1) 1) (bytes:=8) (w:=W) (ho.keep (Keeps.refl.new (.cells [.int .i64 (d:Int)] 3 true))) (by omega) (by decide) rfl (by simp[Za0,St.row,slc]) (by rw[Zdl];omega)
   rw[←Zdd]at e5
   have hval:vI (l++[(d:Int)])+pI (l++[(d:Int)]).length*(q:Int)=z.natAbs:=by
    rw[Zfx,Yr8,Ytg,Zc2,←hv]
    have:(y.natAbs:Int)=1000000000*(q:Int)+d:=by omega
    rw[this]
    generalize pI l.length=P
    grind
   have hqa:q<y.natAbs:=by omega
   have hpp:q≠0→pI (l++[(d:Int)]).length≤z.natAbs:=fun hq=>by
    have h3:0≤vI (l++[(d:Int)]):=Zih (hd.app (Di.one (by omega) (by omega)))
    have h4:0<pI (l++[(d:Int)]).length:=Zjt _
    have h5:pI (l++[(d:Int)]).length*1≤pI (l++[(d:Int)]).length*(q:Int):=Ysa (by omega) (by omega)
    omega
   have fin:WhI (h.set N (.cells [.bool false,.nilslice] 92 true)) (N+1) z.natAbs (decide (z<0)) q ((r.set 3 v').set 0 (.int .i64 Y)) ⟨h',n1+1+1,w'⟩:=⟨by rw[e2];exact hW,(hK.new _).then e3,Y,v',l++[(d:Int)],hdv,by omega,fun h=>hn1 (by have:=hqs.2;omega),fun h=>hn2 (by have:=hqs.1;omega),by simp,by simp,e5,hd.app (Di.one (by omega) (by omega)),hval,by simp;omega,hpp⟩
   obtain⟨f1,f2,f3⟩:=fin
   by_cases hD:D<0
   ·have hDd: -D=(d:Int):=by omega
    rw[hDd]at w2 w3
    simp(disch:=first|(simp;done)|omega|rfl) [-getElem?_pos,A.lb110_0,hr,hf,g0,g3,hy,Zag,hyq,hym,hD,w1,w2,w3,hDd,splice,e1]
    exact⟨q,by omega,f1,f2,by simpa using f3⟩
   ·have hDd:D=(d:Int):=by omega
    have hD':¬(d:Int)<0:=by omega
    simp(disch:=first|(simp;done)|omega|rfl) [-getElem?_pos,A.lb110_0,hr,hf,g0,g3,hy,Zag,hyq,hym,hD',w1,hDd,splice,e1]
    exact⟨q,by omega,f1,f2,by simpa using f3⟩
 ·rintro _ r ⟨H,n1,W⟩ hr ⟨rfl,hW,hK,y,u,l,hy,hm,hn1,hn2,g0,g3,ho,hd,hv,hl,hp⟩
  simp only at hW hK ho
  have h0:y=0:=by omega
  subst h0
  have hv2:vI l=(z.natAbs:Nat):=by simpa using hv
  simp(disch:=first|(simp;done)|omega|rfl) [-getElem?_pos,hr,g3]
  refine Zac (Zbz (n:=z.natAbs) ho.sl hd hv2 (by omega)) ?_
  rintro v5 h5 n5 k5 hy5
  have ez:(if decide (z<0)=true then -((z.natAbs:Nat):Int) else ((z.natAbs:Nat):Int))=z:=by
   by_cases h0:z<0<;>simp[h0]<;>omega
  rw[ez]at hy5
  have kle:=hK.le
  have kle5:=k5.le
  have nrow:=(k5.get N (by omega)).trans (hK.get N (by omega))
  rw[T.get_set,Yrw rfl]at nrow
  obtain⟨u5,rfl,hu5⟩:=hy5
  have p1:=Sl.form hu5 |>.one
  have p2:=Sl.form hu5 |>.cells
  unfold V.one at p1
  unfold V.cells at p2
  have ow:Zae N W=[]:=Zg2 (Yuu N) hW
  simp(disch:=first|(simp;done)|omega|rfl) [-getElem?_pos,hr,nrow,splice,Zam,p1,p2,Zaj,slc,Ret,ow]
  exact⟨((kB.trans hK).trans k5).set (Yru N),u5,by simp,Sl.setInt hu5 nrow nint rfl⟩
def Zqu{z:Int}{h:T O}{N:Nat}(hl:(decI z).length≤2000000000):Fn A.C 118 [.str (decI z)] h N (fun v h' n'=>Rg h' n' v z):=by
 have h1:1≤(decN z.natAbs).length:=List.length_pos_iff.2 (Ziy _)
 unfold decI at hl ⊢
 by_cases hz:z<0
 ·rw[Yrw hz]at hl ⊢
  simp only[Yrr]at hl
  have e: -((numV (decN z.natAbs):Nat):Int)=z:=by rw[Zck];omega
  have:=Yaq (Zb6 z.natAbs) h1 (by omega) (h:=h) (N:=N)
  rw[e]at this
  exact this
 ·rw[Yrt hz]at hl ⊢
  have e:((numV (decN z.natAbs):Nat):Int)=z:=by rw[Zck];omega
  have:=Zlx (Zb6 z.natAbs) h1 (by omega) (h:=h) (N:=N)
  rw[e]at this
  exact this
def Zqt{h h2:T O}{N n2:Nat}{a b:Int}{x y:V}(hx:Sl h2 n2 x (dI (ds a.natAbs)))(hy:Sl h2 n2 y (dI (ds b.natAbs)))(r0:h2.get N=some (.cells [.bool false,.nilslice] 92 true))(r1:h2.get (N+1)=some (.cells [.bool false,.nilslice] 92 true)):Rg ((h2.set N (.cells [.bool (decide (a<0)),x] 92 true)).set (N+1) (.cells [.bool (decide (b<0)),y] 92 true)) n2 (.agg [.bool (decide (a<0)),x]) a∧Rg ((h2.set N (.cells [.bool (decide (a<0)),x] 92 true)).set (N+1) (.cells [.bool (decide (b<0)),y] 92 true)) n2 (.agg [.bool (decide (b<0)),y]) b:=by
 have r1':(h2.set N (.cells [.bool (decide (a<0)),x] 92 true)).get (N+1)=some (.cells [.bool false,.nilslice] 92 true):=by rw[T.get_set,Yrt (by omega)];exact r1
 exact⟨⟨x,rfl,Sl.setInt (Sl.setInt hx r0 nint rfl) r1' nint rfl⟩,⟨y,rfl,Sl.setInt (Sl.setInt hy r0 nint rfl) r1' nint rfl⟩⟩
def Zjs{q:Rat}{h:T O}{N:Nat}(l1:(decI q.num).length≤1000000000)(l2:(decN q.den).length≤1000000000):Fn A.C 64 [.str (Zas q)] h N (fun v h' n'=>∃x y,v=.tup [x,y]∧Rg h' n' x q.num∧Rg h' n' y (q.den:Int)):=by
 intro w
 have hlt:(Zas q).length≤3000000000:=by
  unfold Zas
  split
  ·omega
  ·simp only[Yr8,Yrr];omega
 have hsl:=fun st=>Ze8 (s:=Zas q) (st:=st) (by omega)
 have hsa:=Zdx q
 have htk:=Zjd q
 have hk0:=(Keeps.refl (h:=h) (n:=N)).new (.cells [.bool false,.nilslice] 92 true)
 have k0:=hk0.new (.cells [.bool false,.nilslice] 92 true)
 have d4':¬N+1=N:=by omega
 have d5':¬N=N+1:=by omega
 rw[Zaf,A.k64 (by simp)]
 by_cases hd:q.den=1
 ·have he:slashAt (Zas q)=(Zas q).length:=by
   have:=Zje q
   have h2:slashAt (Zas q)≤(Zas q).length:=by
    rw[hsa]
    unfold Zas
    rw[Yrw hd]
    exact Yru _
   omega
  have htx:Zas q=decI q.num:=by unfold Zas;rw[Yrw hd]
  have c1:((slashAt (Zas q):Int)=((Zas q).length:Int)):=by omega
  rw[hd]
  simp(disch:=first|(simp;done)|omega|rfl) [-getElem?_pos,A.b64,hsl,he,Zag]
  rw[htx]
  refine Zac (Zqu (z:=q.num) (by omega)) ?_
  rintro v1 h1 n1 k1 ⟨x,rfl,hx⟩
  simp(disch:=first|(simp;done)|omega|rfl) [-getElem?_pos,]
  refine Zac (Zz5 (z:=1) (by omega) (by omega)) ?_
  rintro v2 h2 n2 k2 ⟨y,rfl,hy⟩
  have kle1:=k1.le
  have kle2:=k2.le
  have hx:=Sl.keep hx k2
  have r0:=(k2.get N (by omega)).trans (k1.get N (by omega))
  have r1:=(k2.get (N+1) (by omega)).trans (k1.get (N+1) (by omega))
  simp at r0 r1
  have hxo:=(Sl.form hx).one
  have hyo:=(Sl.form hy).one
  have hxc:=(Sl.form hx).cells
  have hyc:=(Sl.form hy).cells
  unfold V.one at hxo hyo
  unfold V.cells at hxc hyc
  obtain⟨e1,e2⟩:=Zqt (h:=h) (b:=1) hx hy r0 r1
  have d1':N<n1:=by omega
  have d2':N<n2:=by omega
  have d3':N+1<n2:=by omega
  simp(disch:=first|(simp;done)|omega|rfl) [-getElem?_pos,r0,r1,splice,Zam,hxo,hyo,hxc,hyc,d1',d2',d3',d4',d5',Zaj,slc,Zal.chk,Ret]
  simp only[show decide ((1:Int)<0)=false from rfl]at e1 e2
  exact⟨(((k0.trans k1).trans k2).set (by omega)).set (by omega),_,_,⟨rfl,rfl⟩,e1,e2⟩
 ·have hlt2:=(Zje q).2 hd
  have hdr:=Zjf q hd
  have c1:¬((slashAt (Zas q):Int)=((Zas q).length:Int)):=by omega
  have c2:¬(slashAt (Zas q)=(Zas q).length):=by omega
  have c3:(slashAt (Zas q):Int)≤((Zas q).length:Int):=by omega
  have c4:(slashAt (Zas q):Int)+1≤((Zas q).length:Int):=by omega
  have c5:((slashAt (Zas q):Int)+1).toNat=slashAt (Zas q)+1:=by omega
  have hnd:numV (decN q.den)=q.den:=Zck _
  simp(disch:=first|(simp;done)|omega|rfl) [-getElem?_pos,A.b64,hsl,c1,c2,c3,c4,c5,Zag,evOpt,htk]
  refine Zac (Zqu (z:=q.num) (by omega)) ?_
  rintro v1 h1 n1 k1 ⟨x,rfl,hx⟩
  simp(disch:=first|(simp;done)|omega|rfl) [-getElem?_pos,hsl,c1,c2,c3,c4,c5,Zag,evOpt,hdr]
  refine Zac (Zlx (Zb6 q.den) (List.length_pos_iff.2 (Ziy _)) (by omega)) ?_
  rintro v2 h2 n2 k2 hy
  rw[hnd]at hy
  obtain⟨y,rfl,hy⟩:=hy
  have kle1:=k1.le
  have kle2:=k2.le
  have hx:=Sl.keep hx k2
  have r0:=(k2.get N (by omega)).trans (k1.get N (by omega))
  have r1:=(k2.get (N+1) (by omega)).trans (k1.get (N+1) (by omega))
  simp at r0 r1
  have hxo:=(Sl.form hx).one
  have hyo:=(Sl.form hy).one
  have hxc:=(Sl.form hx).cells
  have hyc:=(Sl.form hy).cells
  unfold V.one at hxo hyo
  unfold V.cells at hxc hyc
  obtain⟨e1,e2⟩:=Zqt (h:=h) (b:=(q.den:Int)) hx hy r0 r1
  have d1':N<n1:=by omega
  have d2':N<n2:=by omega
  have d3':N+1<n2:=by omega
  have hdn:¬(q.den:Int)<0:=by omega
  simp only[show decide ((q.den:Int)<0)=false by simp[hdn]]at e1 e2
  simp(disch:=first|(simp;done)|omega|rfl) [-getElem?_pos,r0,r1,splice,Zam,hxo,hyo,hxc,hyc,d1',d2',d3',d4',d5',Zaj,slc,Zal.chk,Ret,hdn]
  exact⟨(((k0.trans k1).trans k2).set (by omega)).set (by omega),_,_,⟨rfl,rfl⟩,e1,e2⟩
def Zry{n:Nat}:(decN n).length≤9↔n<1000000000:=Zcn (k:=9) (by omega)
def Yhn{n:Nat}(h:n<1000000000)(st:St):A.C.call (.func 148 [] []) [.str (decN n)] st=some (.int .i64 n,st):=by
 have:=Zi9 (s:=decN n) (st:=st) (Zb6 n) (by have:=Zry.2 h;omega)
 rwa [Zck]at this
def A.b63:=A.q Tryz.f63
def A.k63:=@A.kk 63 54 [.tmp 2,.tmp 3,.tmp 4] A.b63 (by kernel_rfl) rfl
def QB(q:Rat):Str:=if q.den=1 then decN q.num.natAbs else decN q.num.natAbs++47::decN q.den
def Zia(q:Rat):Zas q=if q.num<0 then 45::QB q else QB q:=by
 unfold Zas QB decI
 by_cases h1:q.den=1<;>by_cases h2:q.num<0<;>simp[h1,h2]
def Yg8(q:Rat):slashAt (QB q)=(decN q.num.natAbs).length:=by
 unfold QB
 split
 ·exact Ze9 (Zk2 (Zb6 _))
 ·exact Zf2 (Zk2 (Zb6 _))
def Ylp(q:Rat):(QB q).take (decN q.num.natAbs).length=decN q.num.natAbs:=by
 unfold QB
 split
 ·exact Yr2 (Yru _)
 ·exact List.take_left
def Ylq{q:Rat}(h:q.den≠1):(QB q).drop ((decN q.num.natAbs).length+1)=decN q.den:=by
 unfold QB
 rw[Yrt h,←List.drop_drop,List.drop_left];rfl
def Yid(q:Rat):(QB q).length=(decN q.num.natAbs).length+(if q.den=1 then 0 else (decN q.den).length+1):=by
 unfold QB
 split<;>simp
def Zut(q:Rat):∃c t,QB q=c::t∧48≤c.toNat:=by
 obtain⟨c,t,h,h1,_⟩:=Zoy (n:=q.num.natAbs)
 unfold QB
 split
 ·exact⟨c,t,h,h1⟩
 ·exact⟨c,t++47::decN q.den,by rw[h];rfl,h1⟩
def Yam{q:Rat}{st:St}(hl:(Zas q).length≤20):A.C.call (.func 63 [] []) [.str (Zas q)] st=some (if q.num.natAbs<1000000000∧q.den<1000000000 then .tup [.int .i64 q.num,.int .i64 q.den,.bool true] else .tup [.int .i64 0,.int .i64 0,.bool false],st):=by
 obtain⟨c,t,hB,hc⟩:=Zut q
 have hs:=Yg8 q
 have ht:=Ylp q
 have hln:=Yid q
 have h9:=Zry (n:=q.num.natAbs)
 have h9d:=Zry (n:=q.den)
 have hn:=fun h st=>Yhn (n:=q.num.natAbs) h st
 have hd:=fun h st=>Yhn (n:=q.den) h st
 have hdr:=Ylq (q:=q)
 have hc45:¬u8I c=45:=by unfold u8I;omega
 have htx:=Zia q
 have hBl:(QB q).length≤20:=by
  rw[htx]at hl
  split at hl
  ·simp only[Yrr]at hl;omega
  ·exact hl
 have hsl:=fun st=>Ze8 (s:=QB q) (st:=st) (by omega)
 rw[hs]at hsl
 have hc0:(QB q)[0]?=some c:=by rw[hB];rfl
 have hh:(QB q).head?=some c:=by rw[hB];rfl
 have hne:QB q≠[]:=by rw[hB];simp
 have hB0:0<(QB q).length:=by rw[hB];simp
 have hB0':(0:Int)<((QB q).length:Int):=by omega
 have hB20:¬(20:Int)<((QB q).length:Int):=by omega
 have hkl:(decN q.num.natAbs).length≤(QB q).length:=by omega
 have hkl':((decN q.num.natAbs).length:Int)≤((QB q).length:Int):=by omega
 have k0:0≤(decN q.num.natAbs).length:=Yum _
 have w1:Zap .i64 (((QB q).length:Int)-((decN q.num.natAbs).length:Int))=((QB q).length:Int)-((decN q.num.natAbs).length:Int):=Zah (by omega) (by omega)
 have w2:Zap .i64 (((decN q.num.natAbs).length:Int)+1)=((decN q.num.natAbs).length:Int)+1:=Zah (by omega) (by omega)
 have a3:∀st:St,Zcg st (some (.str (45::QB q))) (some (some (.int .i64 1))) (some none)=some (.str (QB q),st):=fun st=>by rw[Zdb (by omega) (by simp only[Yrr];omega)];rfl
 have a4:∀st:St,Zcg st (some (.str (QB q))) (some none) (some (some (.int .i64 (decN q.num.natAbs).length)))=some (.str (decN q.num.natAbs),st):=fun st=>by rw[Zks (by omega) (by omega),Int.toNat_natCast,ht]
 apply Call.eq
 rw[Zaf,A.k63 (by simp),htx]
 by_cases e9:q.num.natAbs<1000000000
 ·have g9:¬(9:Int)<((decN q.num.natAbs).length:Int):=by have:=h9.2 e9;omega
  have hn:=hn e9
  by_cases e1:q.den=1
  ·rw[Yrw e1]at hln
   have g10:¬(10:Int)<((QB q).length:Int)-((decN q.num.natAbs).length:Int):=by omega
   have g11:¬((decN q.num.natAbs).length:Int)<((QB q).length:Int):=by omega
   have g12:¬(decN q.num.natAbs).length<(QB q).length:=by omega
   rw[e1]
   by_cases hz:q.num<0
   ·have ez:(q.num.natAbs:Int)= -q.num:=by omega
    have w3:Zap .i64 (0-(q.num.natAbs:Int))=q.num:=by rw[ez];rw[Zah (by omega) (by omega)];omega
    have a5:u8I 45=45:=rfl
    have hz2:(QB q).length+1≤20:=by rw[htx,Yrw hz]at hl;simpa using hl
    have hz3:¬(20:Int)<((QB q).length:Int)+1:=by omega
    have hz4:(0:Int)<((QB q).length:Int)+1:=by omega
    simp(disch:=first|(simp;done)|omega|rfl) [-getElem?_pos,A.b63,hz,hB20,hz3,hz4,a3,a5,hsl,Zag,evOpt,g9,g10,g11,g12,w1,w3,a4,hn,e9]
    omega
   ·have ez:(q.num.natAbs:Int)=q.num:=by omega
    simp(disch:=first|(simp;done)|omega|rfl) [-getElem?_pos,A.b63,hz,hc0,hh,hne,hB0,hB0',hB20,hc45,hsl,Zag,evOpt,g9,g10,g11,g12,w1,a4,hn,ez,e9]
  ·rw[Yrt e1]at hln
   have hdr:=hdr e1
   have g11:((decN q.num.natAbs).length:Int)<((QB q).length:Int):=by omega
   have g12:(decN q.num.natAbs).length<(QB q).length:=by omega
   have a6:∀st:St,Zcg st (some (.str (QB q))) (some (some (.int .i64 (((decN q.num.natAbs).length:Int)+1)))) (some none)=some (.str (decN q.den),st):=fun st=>by
    rw[Zdb (by omega) (by omega)]
    have:(((decN q.num.natAbs).length:Int)+1).toNat=(decN q.num.natAbs).length+1:=by omega
    rw[this,hdr]
   by_cases e10:q.den<1000000000
   ·have g10:¬(10:Int)<((QB q).length:Int)-((decN q.num.natAbs).length:Int):=by have:=h9d.2 e10;omega
    have hd:=hd e10
    by_cases hz:q.num<0
    ·have ez:(q.num.natAbs:Int)= -q.num:=by omega
     have w3:Zap .i64 (0-(q.num.natAbs:Int))=q.num:=by rw[ez];rw[Zah (by omega) (by omega)];omega
     have a5:u8I 45=45:=rfl
     have hz2:(QB q).length+1≤20:=by rw[htx,Yrw hz]at hl;simpa using hl
     have hz3:¬(20:Int)<((QB q).length:Int)+1:=by omega
     have hz4:(0:Int)<((QB q).length:Int)+1:=by omega
     simp(disch:=first|(simp;done)|omega|rfl) [-getElem?_pos,A.b63,hz,hB20,hz3,hz4,a3,a5,a6,hsl,Zag,evOpt,g9,g10,g11,g12,w1,w2,w3,a4,hn,hd,e9,e10]
     omega
    ·have ez:(q.num.natAbs:Int)=q.num:=by omega
     simp(disch:=first|(simp;done)|omega|rfl) [-getElem?_pos,A.b63,hz,hc0,hh,hne,hB0,hB0',hB20,hc45,a6,hsl,Zag,evOpt,g9,g10,g11,g12,w1,w2,a4,hn,hd,ez,e9,e10]
   ·have g10:(10:Int)<((QB q).length:Int)-((decN q.num.natAbs).length:Int):=by
     have:¬(decN q.den).length≤9:=fun hc=>e10 (h9d.1 hc)
     omega
    by_cases hz:q.num<0
    ·have a5:u8I 45=45:=rfl
     have hz2:(QB q).length+1≤20:=by rw[htx,Yrw hz]at hl;simpa using hl
     have hz3:¬(20:Int)<((QB q).length:Int)+1:=by omega
     have hz4:(0:Int)<((QB q).length:Int)+1:=by omega
     simp(disch:=first|(simp;done)|omega|rfl) [-getElem?_pos,A.b63,hz,hB20,hz3,hz4,a3,a5,hsl,Zag,evOpt,g9,g10,w1,e9,e10]
    ·simp(disch:=first|(simp;done)|omega|rfl) [-getElem?_pos,A.b63,hz,hc0,hh,hne,hB0,hB0',hB20,hc45,hsl,Zag,evOpt,g9,g10,w1,e9,e10]
 ·have g9:(9:Int)<((decN q.num.natAbs).length:Int):=by
   have:¬(decN q.num.natAbs).length≤9:=fun hc=>e9 (h9.1 hc)
   omega
  by_cases hz:q.num<0
  ·have a5:u8I 45=45:=rfl
   have hz2:(QB q).length+1≤20:=by rw[htx,Yrw hz]at hl;simpa using hl
   have hz3:¬(20:Int)<((QB q).length:Int)+1:=by omega
   have hz4:(0:Int)<((QB q).length:Int)+1:=by omega
   simp(disch:=first|(simp;done)|omega|rfl) [-getElem?_pos,A.b63,hz,hB20,hz3,hz4,a3,a5,hsl,Zag,evOpt,g9,e9]
  ·simp(disch:=first|(simp;done)|omega|rfl) [-getElem?_pos,A.b63,hz,hc0,hh,hne,hB0,hB0',hB20,hc45,hsl,Zag,evOpt,g9,e9]
def Zxa{q:Rat}{st:St}(h1:20<(Zas q).length):A.C.call (.func 63 [] []) [.str (Zas q)] st=some (.tup [.int .i64 0,.int .i64 0,.bool false],st):=by
 have h2:(20:Int)<((Zas q).length:Int):=by omega
 apply Call.eq
 rw[Zaf,A.k63 (by simp)]
 simp(disch:=first|(simp;done)|omega|rfl) [-getElem?_pos,A.b63,h2]
def Ycp{q:Rat}(h:q.num.natAbs<1000000000∧q.den<1000000000):(Zas q).length≤20:=by
 have h1:=Zry.2 h.1
 have h2:=Zry.2 h.2
 have h3:=Yid q
 rw[Zia]
 split
 ·simp only[Yrr];split at h3<;>omega
 ·split at h3<;>omega
def Zu8{q:Rat}{st:St}:A.C.call (.func 63 [] []) [.str (Zas q)] st=some (if q.num.natAbs<1000000000∧q.den<1000000000 then .tup [.int .i64 q.num,.int .i64 q.den,.bool true] else .tup [.int .i64 0,.int .i64 0,.bool false],st):=by
 by_cases h:(Zas q).length≤20
 ·exact Yam h
 ·rw[Yrt fun hc=>h (Ycp hc)]
  exact Zxa (by omega)
end
end Go.Mx
