/-lensletref01-/
import Derived.Test.YthekjfgljafnaaaGreatDoorRbK
set_option linter.all false
namespace Go.Mx
open Go Go.Proofs
set_option maxRecDepth 1000000
noncomputable def A.b60:=A.q Tryz.f60
def A.k60:=@A.kk 60 61 [.tmp 4] A.b60 (by kernel_rfl) rfl
def Zly{z:Int}:Yfz [.int .i64 z,.int .i64 (-z)]=some (.int .i64 (z.natAbs:Nat)):=by
 have h:Yfz [.int .i64 z,.int .i64 (-z)]=some (.int .i64 (if z< -z then -z else z)):=rfl
 rw[h]
 congr 2
 split<;>omega
def Yko{a:Int}{m:Nat}(hm:0<m):(Rat.divInt a m).num=a.tdiv (Nat.gcd a.natAbs m:Nat)∧(Rat.divInt a m).num.natAbs≤a.natAbs∧(Rat.divInt a m).den=m/Nat.gcd a.natAbs m:=by
 have hb:(0:Int)<(m:Int):=by omega
 have h1:=Zn2 (a:=a) hb
 have h2:=Zs4 (a:=a) hb
 rw[Ywc]at h1 h2
 have hd:((Nat.gcd a.natAbs m:Nat):Int)∣a:=Int.gcd_dvd_left (a:=a) (b:=(m:Int))
 refine⟨?_,?_,h2.symm⟩
 ·rw[Int.tdiv_eq_ediv_of_dvd hd,Rat.num_divInt,Int.sign_eq_one_of_pos hb,Int.one_mul,Int.gcd_comm]
  rfl
 ·rw[←h1]
  have:=Yxz a.natAbs (Nat.gcd a.natAbs m)
  generalize a.natAbs/Nat.gcd a.natAbs m=k at*
  split
  ·rw[Yyz,Ywc];exact this
  ·rw[Ywc];exact this
def Yqo{a:Int}{m:Nat}{st:St}(hm:0<m)(h1: -4000000000000000000≤a)(h2:a≤4000000000000000000)(h3:m≤4000000000000000000):A.C.call (.func 60 [] []) [.int .i64 a,.int .i64 m] st=some (.str (Zax (Rat.divInt a m)),st):=by
 apply Call.eq
 rw[Zab,A.k60 (by simp)]
 have c1:¬a< -4000000000000000000:=by omega
 have c2:¬4000000000000000000<a:=by omega
 have c3:¬(m:Int)< -4000000000000000000:=by omega
 have c4:¬4000000000000000000<(m:Int):=by omega
 have c5:¬(m:Int)<0:=by omega
 have w1:Zar .i64 (-a)= -a:=Zaj (by omega) (by omega)
 have w2:Zar .i64 (0-a)= -a:=by rw[Int.zero_sub];exact w1
 have hg:=fun st=>Yeb (a:=a.natAbs) (b:=m) (st:=st) (by omega) (by omega)
 obtain⟨e1,e2,e3⟩:=Yko (a:=a) hm
 have hD0:0<(Rat.divInt a m).den:=Rat.den_pos _
 have htx:Zax (Rat.divInt a m)=if (Rat.divInt a m).den=1 then decI (Rat.divInt a m).num else decI (Rat.divInt a m).num++47::decN (Rat.divInt a m).den:=rfl
 rw[htx]
 clear htx
 have hgp:0<Nat.gcd a.natAbs m:=Yzt _ hm
 generalize (Rat.divInt a m).num=P at*
 generalize (Rat.divInt a m).den=D at*
 generalize Nat.gcd a.natAbs m=g at*
 have hDm:D≤m:=by rw[e3];exact Yxz _ _
 have e4:(m:Int).tdiv (g:Int)=(D:Int):=by rw[Yxr (by omega),e3];rfl
 have g0:¬(g:Int)=0:=by omega
 have g1:¬g=0:=by omega
 have v1:Zar .i64 P=P:=Zaj (by omega) (by omega)
 have v2:Zar .i64 (-P)= -P:=Zaj (by omega) (by omega)
 have v3:Zar .i64 (D:Int)=(D:Int):=Zaj (by omega) (by omega)
 have d1:∀st,A.C.call (.func 138 [] []) [.int .i64 (P.natAbs:Nat),.int .i64 1] st=some (.str (decN P.natAbs),st):=fun st=>(Zef (n:=P.natAbs) (m:=1) (st:=st) (by omega) (by omega)).trans (by rw[Zks])
 have d2:∀st,A.C.call (.func 138 [] []) [.int .i64 D,.int .i64 1] st=some (.str (decN D),st):=fun st=>(Zef (n:=D) (m:=1) (st:=st) (by omega) (by omega)).trans (by rw[Zks])
 have x1:(decN P.natAbs).length<30:=by
  have:(Zc9 P.natAbs).length≤19:=Za3.1 (by omega)
  unfold decN;split<;>simp;omega
 have x2:(decN D).length<30:=by
  have:(Zc9 D).length≤19:=Za3.1 (by omega)
  unfold decN;split<;>simp;omega
 have hmx:IntKind.max .i64=9223372036854775807:=rfl
 have y1:¬(9223372036854775807:Int)<((decN P.natAbs).length:Int):=by omega
 have y2:¬(9223372036854775807:Int)<1+((decN P.natAbs).length:Int):=by omega
 have z1:D=1∨(¬D=1∧1<D):=by omega
 rcases z1 with rfl|⟨z1,z2⟩<;>by_cases hP:P<0
 ·simp[A.b60,c1,c2,c3,c4,c5,w1,w2,Zgv,Zly,hg,←e1,e4,g0,g1,v1,v2,v3,hP,d1,d2,Zbm,hmx,y1,y2,decI,Zao.chk]
 ·simp[A.b60,c1,c2,c3,c4,c5,w1,w2,Zgv,Zly,hg,←e1,e4,g0,g1,v1,v2,v3,hP,d1,d2,Zbm,hmx,y1,y2,decI,Zao.chk]
 ·have z3:(1:Int)<(D:Int):=by omega
  have y3:¬(9223372036854775807:Int)<((decN P.natAbs).length:Int)+1+1:=by omega
  have y4:¬(9223372036854775807:Int)<((decN P.natAbs).length:Int)+1+1+((decN D).length:Int):=by omega
  simp[A.b60,c1,c2,c3,c4,c5,w1,w2,Zgv,Zly,hg,←e1,e4,g0,g1,v1,v2,v3,hP,d1,d2,Zbm,hmx,y1,y2,decI,Zao.chk,z1,z2,z3,y3,y4]
 ·have z3:(1:Int)<(D:Int):=by omega
  have y3:¬(9223372036854775807:Int)<((decN P.natAbs).length:Int)+1:=by omega
  have y4:¬(9223372036854775807:Int)<((decN P.natAbs).length:Int)+1+((decN D).length:Int):=by omega
  simp[A.b60,c1,c2,c3,c4,c5,w1,w2,Zgv,Zly,hg,←e1,e4,g0,g1,v1,v2,v3,hP,d1,d2,Zbm,hmx,y1,y2,decI,Zao.chk,z1,z2,z3,y3,y4]
def Yqp{p q:Int}{st:St}(hq:q<0)(h1: -4000000000000000000≤p)(h2:p≤4000000000000000000)(h3: -4000000000000000000≤q):A.C.call (.func 60 [] []) [.int .i64 p,.int .i64 q] st=some (.str (Zax (Rat.divInt p q)),st):=by
 apply Call.eq
 rw[Zab,A.k60 (by simp)]
 have c1:¬p< -4000000000000000000:=by omega
 have c2:¬4000000000000000000<p:=by omega
 have c3:¬q< -4000000000000000000:=by omega
 have c4:¬4000000000000000000<q:=by omega
 obtain⟨a,ha⟩:∃a,a= -p:=⟨_,rfl⟩
 obtain⟨m,hm1⟩:∃m:Nat,(m:Int)= -q:=⟨(-q).toNat,by omega⟩
 have hm:0<m:=by omega
 have c5:Zar .i64 (-p)=a:=by rw[←ha];exact Zaj (by omega) (by omega)
 have c6:Zar .i64 (-q)=(m:Int):=by rw[←hm1];exact Zaj (by omega) (by omega)
 have hab:Rat.divInt p q=Rat.divInt a m:=by rw[ha,hm1];exact(Rat.neg_divInt_neg p q).symm
 rw[hab]
 clear hab
 have w1:Zar .i64 (-a)= -a:=Zaj (by omega) (by omega)
 have w2:Zar .i64 (0-a)= -a:=by rw[Int.zero_sub];exact w1
 have hg:=fun st=>Yeb (a:=a.natAbs) (b:=m) (st:=st) (by omega) (by omega)
 obtain⟨e1,e2,e3⟩:=Yko (a:=a) hm
 have hD0:0<(Rat.divInt a m).den:=Rat.den_pos _
 have htx:Zax (Rat.divInt a m)=if (Rat.divInt a m).den=1 then decI (Rat.divInt a m).num else decI (Rat.divInt a m).num++47::decN (Rat.divInt a m).den:=rfl
 rw[htx]
 clear htx
 have hgp:0<Nat.gcd a.natAbs m:=Yzt _ hm
 generalize (Rat.divInt a m).num=P at*
 generalize (Rat.divInt a m).den=D at*
 generalize Nat.gcd a.natAbs m=g at*
 have hDm:D≤m:=by rw[e3];exact Yxz _ _
 have e4:(m:Int).tdiv (g:Int)=(D:Int):=by rw[Yxr (by omega),e3];rfl
 have g0:¬(g:Int)=0:=by omega
 have g1:¬g=0:=by omega
 have v1:Zar .i64 P=P:=Zaj (by omega) (by omega)
 have v2:Zar .i64 (-P)= -P:=Zaj (by omega) (by omega)
 have v3:Zar .i64 (D:Int)=(D:Int):=Zaj (by omega) (by omega)
 have d1:∀st,A.C.call (.func 138 [] []) [.int .i64 (P.natAbs:Nat),.int .i64 1] st=some (.str (decN P.natAbs),st):=fun st=>(Zef (n:=P.natAbs) (m:=1) (st:=st) (by omega) (by omega)).trans (by rw[Zks])
 have d2:∀st,A.C.call (.func 138 [] []) [.int .i64 D,.int .i64 1] st=some (.str (decN D),st):=fun st=>(Zef (n:=D) (m:=1) (st:=st) (by omega) (by omega)).trans (by rw[Zks])
 have x1:(decN P.natAbs).length<30:=by
  have:(Zc9 P.natAbs).length≤19:=Za3.1 (by omega)
  unfold decN;split<;>simp;omega
 have x2:(decN D).length<30:=by
  have:(Zc9 D).length≤19:=Za3.1 (by omega)
  unfold decN;split<;>simp;omega
 have hmx:IntKind.max .i64=9223372036854775807:=rfl
 have y1:¬(9223372036854775807:Int)<((decN P.natAbs).length:Int):=by omega
 have y2:¬(9223372036854775807:Int)<1+((decN P.natAbs).length:Int):=by omega
 have z1:D=1∨(¬D=1∧1<D):=by omega
 rcases z1 with rfl|⟨z1,z2⟩<;>by_cases hP:P<0
 ·simp[A.b60,c1,c2,c3,c4,c5,c6,hq,w1,w2,Zgv,Zly,hg,←e1,e4,g0,g1,v1,v2,v3,hP,d1,d2,Zbm,hmx,y1,y2,decI,Zao.chk]
 ·simp[A.b60,c1,c2,c3,c4,c5,c6,hq,w1,w2,Zgv,Zly,hg,←e1,e4,g0,g1,v1,v2,v3,hP,d1,d2,Zbm,hmx,y1,y2,decI,Zao.chk]
 ·have z3:(1:Int)<(D:Int):=by omega
  have y3:¬(9223372036854775807:Int)<((decN P.natAbs).length:Int)+1+1:=by omega
  have y4:¬(9223372036854775807:Int)<((decN P.natAbs).length:Int)+1+1+((decN D).length:Int):=by omega
  simp[A.b60,c1,c2,c3,c4,c5,c6,hq,w1,w2,Zgv,Zly,hg,←e1,e4,g0,g1,v1,v2,v3,hP,d1,d2,Zbm,hmx,y1,y2,decI,Zao.chk,z1,z2,z3,y3,y4]
 ·have z3:(1:Int)<(D:Int):=by omega
  have y3:¬(9223372036854775807:Int)<((decN P.natAbs).length:Int)+1:=by omega
  have y4:¬(9223372036854775807:Int)<((decN P.natAbs).length:Int)+1+((decN D).length:Int):=by omega
  simp[A.b60,c1,c2,c3,c4,c5,c6,hq,w1,w2,Zgv,Zly,hg,←e1,e4,g0,g1,v1,v2,v3,hP,d1,d2,Zbm,hmx,y1,y2,decI,Zao.chk,z1,z2,z3,y3,y4]
def Yqq{p q:Int}{st:St}(hq:q≠0)(h1: -4000000000000000000≤p)(h2:p≤4000000000000000000)(h3: -4000000000000000000≤q)(h4:q≤4000000000000000000):A.C.call (.func 60 [] []) [.int .i64 p,.int .i64 q] st=some (.str (Zax (Rat.divInt p q)),st):=by
 rcases Int.lt_or_gt_of_ne hq with hq|hq
 ·exact Yqp hq h1 h2 h3
 ·obtain⟨m,rfl⟩:∃m:Nat,q=(m:Int):=⟨q.toNat,by omega⟩
  exact Yqo (by omega) h1 h2 (by omega)
noncomputable def A.w136:=A.q Tryz.f136
noncomputable def A.lb136_0:=A.ql A.w136 0 []
noncomputable def A.b136:=(fun x0=>A.qb A.w136 [x0]) A.lb136_0
def A.k136:=@A.kk 136 25 [.cell 2 (some 2)] A.b136 (by kernel_rfl) rfl
def Yck{s:Str}(hd:Zcd s=true)(h1:1≤s.length)(h2:s.length≤3000000000){h:T O}{N:Nat}:Fn A.C 139 [.str (45::s)] h N (fun v h' n'=>Rg h' n' v (-((numV s:Nat):Int))):=by
 intro w
 have a1:u8I 45=45:=rfl
 have a2:(1:Int)≤(s.length:Int)+1:=by omega
 have a3:∀st:St,Zc2 st (some (.str (45::s))) (some (some (.int .i64 1))) (some none)=some (.str s,st):=fun st=>by rw[Ze8 (by omega) (by simp only[Yv8];omega)];rfl
 rw[Zab,A.k139 (by simp)]
 simp[A.b139,a1,a2,a3,Zad,evOpt]
 refine Zai [(0,0),(4,4),(16,32)] (fun e r st=>e=.exit 0∧∃m,m≤9∧PsI (h.set N (.cells [.bool false,.nilslice] 92 true)) (N+1) s m r st) (PsI (h.set N (.cells [.bool false,.nilslice] 92 true)) (N+1) s) s.length ?_ ?_ ?_
 ·exact⟨by simp,Keeps.refl,s,.nilslice,[],by simp,rfl,h1,Yv5 _,hd,by simp,Own.nil,Di.nil,by simp,by simp[vI,pI]⟩
 ·rintro m r ⟨H,n1,W⟩ hr hf ⟨hW,hK,cur,u,l,g0,hcl,m1,m2,hcd,g4,ho,hdi,hll,hv⟩
  simp only at hW hK ho
  subst hcl
  rw[Zah]
  by_cases h9:9<cur.length
  ·have h9':(9:Int)<(cur.length:Int):=by omega
   have nle:=hK.le
   have hvd:=Zjt (s:=cur.drop (cur.length-9)) (st:=⟨H,n1,W⟩) (Zk5 hcd _) (by simp;omega)
   have hcn:((cur.length:Int)-9).toNat=cur.length-9:=by omega
   have hnv:=Zen (Zk5 hcd (cur.length-9))
   have hdl:(cur.drop (cur.length-9)).length=9:=by simp;omega
   rw[hdl]at hnv
   have hsp:=Zww (cur.take (cur.length-9)) (cur.drop (cur.length-9))
   rw[Yx2,hdl,show (10:Nat)^9=1000000000 by decide]at hsp
   generalize hD:numV (cur.drop (cur.length-9))=D at*
   obtain⟨v',h',w',e1,e2,e3,e4,e5⟩:=Zbs (x:=[.int .i64 (D:Int)]) (u:=.slice n1 0 1 (some 1) 1) (bytes:=8) (w:=W) (ho.keep (Keeps.refl.new (.cells [.int .i64 (D:Int)] 3 true))) (by omega) (by decide) rfl (by simp[Zaz,St.row,slc]) (by rw[Zdw];omega)
   rw[←Zdn]at e5
   simp(disch:=first|(simp;done)|omega|rfl) [A.lb139_0,hr,hf,g0,g4,h9,h9',hcn,evOpt,hvd,splice,e1]
   refine⟨cur.length-9,by omega,⟨by rw[e2];exact hW,(hK.new _).then e3,cur.take (cur.length-9),v',l++[(D:Int)],by simp,by simp,by omega,by omega,Ztk hcd _,by simp,e5,hdi.app (Di.one (by omega) (by omega)),by simp;omega,?_⟩⟩
   rw[Zgk,Ywl,Yxx,Zdc,←hv]
   have hsp':((numV cur:Nat):Int)=(numV (cur.take (cur.length-9)):Nat)*1000000000+D:=by omega
   rw[hsp']
   generalize ((numV (cur.take (cur.length-9)):Nat):Int)=X
   generalize pI l.length=P
   grind
  ·have h9':¬(9:Int)<(cur.length:Int):=by omega
   simp[A.lb139_0,hr,hf,g0,h9,h9']
   exact⟨cur.length,by omega,hW,hK,cur,u,l,by simp[g0],rfl,m1,m2,hcd,by simp[g4],ho,hdi,hll,hv⟩
 ·rintro _ r ⟨H,n1,W⟩ hr ⟨rfl,m,m9,hW,hK,cur,u,l,g0,hcl,m1,m2,hcd,g4,ho,hdi,hll,hv⟩
  simp only at hW hK ho
  subst hcl
  have nle:=hK.le
  have hvd:=Zjt (s:=cur) (st:=⟨H,n1,W⟩) hcd (by omega)
  have hnv:=Zen hcd
  have hp9:=Zwr m9
  generalize hD:numV cur=D at*
  obtain⟨v',h',w',e1,e2,e3,e4,e5⟩:=Zbs (x:=[.int .i64 (D:Int)]) (u:=.slice n1 0 1 (some 1) 1) (bytes:=8) (w:=W) (ho.keep (Keeps.refl.new (.cells [.int .i64 (D:Int)] 3 true))) (by omega) (by decide) rfl (by simp[Zaz,St.row,slc]) (by rw[Zdw];omega)
  rw[←Zdn]at e5
  simp[hr,g0,g4,hvd,splice,e1]
  have hdi2:Di (l++[(D:Int)]):=hdi.app (Di.one (by omega) (by omega))
  refine Zac (Zb2 (b:=true) (n:=numV s) e5.sl hdi2 (by rw[Zgk];exact hv) (by simp;omega)) ?_
  rintro y h5 n5 k5 hy
  have kk:=((hK.new (.cells [.int .i64 (D:Int)] 3 true)).then e3).trans k5
  have kle:=kk.le
  have nrow:=kk.get N (by omega)
  simp at nrow
  obtain⟨u5,rfl,hu5⟩:=hy
  have hu6:=fun c1 (hc:c1.length=2)=>Sl.setInt (i:=N) (c1:=c1) (e1:=92) (w1:=true) hu5 nrow (by intro x hx k m;simp at hx;rcases hx with rfl|rfl<;>simp) hc
  have huo:=Sl.form hu5 |>.one
  unfold V.one at huo
  have ow:Zaa N w'=[]:=Zhr (Yy6 N) (by rw[e2];exact hW)
  have k0:=(Keeps.refl (h:=h) (n:=N)).new (.cells [.bool false,.nilslice] 92 true)
  simp[hr,nrow,splice,Zal,huo,Zak,slc,Ret,ow]
  exact⟨(k0.trans kk).set (Yv5 N),u5,by simp,by simpa[Dn]using hu6 _ rfl⟩
structure WhI (h:T O) (N a:Nat) (neg:Bool) (m:Nat) (r:T V) (st:St):Prop where
 w:Zaa N st.w=[]
 keep:Keeps h N st.h st.n
 ex:∃z u l,z.natAbs=m∧m≤a∧(z<0→neg=true)∧(0<z→neg=false)∧r.get 0=some (.int .i64 z)∧r.get 3=some u∧Own 1 3 N st.h st.n u (Zfs l)∧Di l∧vI l+pI l.length*m=a∧l.length≤100∧(m≠0→pI l.length≤a)
def Ybw{z:Int}{h:T O}{N:Nat}(h1: -9223372036854775808≤z)(h2:z<9223372036854775808):Fn A.C 136 [.int .i64 z] h N (fun v h' n'=>Rg h' n' v z):=by
 intro w
 rw[Zab,A.k136 (by simp)]
 have kB:=(Keeps.refl (h:=h) (n:=N)).new (.cells [.bool false,.nilslice] 92 true)
 simp[A.b136]
 refine Zai [(0,0),(3,3),(5,5),(8,21)] (fun e r st=>e=.exit 0∧WhI (h.set N (.cells [.bool false,.nilslice] 92 true)) (N+1) z.natAbs (decide (z<0)) 0 r st) (WhI (h.set N (.cells [.bool false,.nilslice] 92 true)) (N+1) z.natAbs (decide (z<0))) z.natAbs ?_ ?_ ?_
 ·exact⟨by simp,Keeps.refl,z,.nilslice,[],rfl,Yv5 _,fun h=>by simp[h],fun h=>by simp;omega,by simp,by simp,Own.nil,Di.nil,by simp[vI,pI],by simp,fun h=>by simp[pI];omega⟩
 ·rintro m r ⟨H,n1,W⟩ hr hf ⟨hW,hK,y,u,l,rfl,hm,hn1,hn2,g0,g3,ho,hd,hv,hl,hp⟩
  simp only at hW hK ho
  rw[Zah]
  by_cases hy:y=0
  ·subst hy
   simp[A.lb136_0,hr,hf,g0,Zad]
   exact⟨hW,hK,0,u,l,rfl,by omega,hn1,hn2,by simp[g0],by simp[g3],ho,hd,hv,hl,hp⟩
  ·have nle:=hK.le
   obtain⟨d,hd0⟩:∃d:Nat,d=y.natAbs%1000000000:=⟨_,rfl⟩
   obtain⟨q,hq0⟩:∃q:Nat,q=y.natAbs/1000000000:=⟨_,rfl⟩
   have hdl:d<1000000000:=by omega
   have hdv:(y.tdiv 1000000000).natAbs=q:=by rw[Int.natAbs_tdiv];exact hq0.symm
   have hml:(y.tmod 1000000000).natAbs=d:=by rw[Int.natAbs_tmod];exact hd0.symm
   have hqs:(y<0→y.tdiv 1000000000≤0)∧(0<y→0≤y.tdiv 1000000000):=by
    constructor
    ·intro h
     have:(-y).tdiv 1000000000= -(y.tdiv 1000000000):=Int.neg_tdiv _ _
     have h3:0≤(-y).tdiv 1000000000:=Int.tdiv_nonneg (by omega) (by omega)
     omega
    ·intro h
     exact Int.tdiv_nonneg (by omega) (by omega)
   have hms:(y<0→y.tmod 1000000000≤0)∧(0<y→0≤y.tmod 1000000000):=by
    constructor
    ·intro h
     have:(-y).tmod 1000000000= -(y.tmod 1000000000):=Int.neg_tmod _ _
     have h3:0≤(-y).tmod 1000000000:=Int.tmod_nonneg _ (by omega)
     omega
    ·intro h
     exact Int.tmod_nonneg _ (by omega)
   generalize hyq:y.tdiv 1000000000=Y at*
   generalize hym:y.tmod 1000000000=D at*
   have w1:Zar .i64 Y=Y:=Zaj (by omega) (by omega)
   have w2:Zar .i64 (0-D)= -D:=by rw[Int.zero_sub];exact Zaj (by omega) (by omega)
   have w3:Zar .i64 (-D)= -D:=Zaj (by omega) (by omega)
   have hlen:l.length+1≤100:=by
    apply Classical.byContradiction
    intro hc
    have h5:l.length=100:=by omega
    have h6:=hp (by omega)
    rw[h5,Zqs]at h6
    have h7:(1000000000^100:Nat)≤z.natAbs:=by exact_mod_cast h6
    have h8:(9223372036854775808:Nat)<1000000000^100:=by decide
    omega
   obtain⟨v',h',w',e1,e2,e3,e4,e5⟩:=Zbs (x:=[.int .i64 (d:Int)]) (u:=.slice n1 0 1 (some 1) 1) (bytes:=8) (w:=W) (ho.keep (Keeps.refl.new (.cells [.int .i64 (d:Int)] 3 true))) (by omega) (by decide) rfl (by simp[Zaz,St.row,slc]) (by rw[Zdw];omega)
   rw[←Zdn]at e5
   have hval:vI (l++[(d:Int)])+pI (l++[(d:Int)]).length*(q:Int)=z.natAbs:=by
    rw[Zgk,Ywl,Yxx,Zdc,←hv]
    have:(y.natAbs:Int)=1000000000*(q:Int)+d:=by omega
    rw[this]
    generalize pI l.length=P
    grind
   have hqa:q<y.natAbs:=by omega
   have hpp:q≠0→pI (l++[(d:Int)]).length≤z.natAbs:=fun hq=>by
    have h3:0≤vI (l++[(d:Int)]):=Ziz (hd.app (Di.one (by omega) (by omega)))
    have h4:0<pI (l++[(d:Int)]).length:=Zka _
    have h5:pI (l++[(d:Int)]).length*1≤pI (l++[(d:Int)]).length*(q:Int):=Ywq (by omega) (by omega)
    omega
   have fin:WhI (h.set N (.cells [.bool false,.nilslice] 92 true)) (N+1) z.natAbs (decide (z<0)) q ((r.set 3 v').set 0 (.int .i64 Y)) ⟨h',n1+1+1,w'⟩:=⟨by rw[e2];exact hW,(hK.new _).then e3,Y,v',l++[(d:Int)],hdv,by omega,fun h=>hn1 (by have:=hqs.2;omega),fun h=>hn2 (by have:=hqs.1;omega),by simp,by simp,e5,hd.app (Di.one (by omega) (by omega)),hval,by simp;omega,hpp⟩
   obtain⟨f1,f2,f3⟩:=fin
   by_cases hD:D<0
   ·have hDd: -D=(d:Int):=by omega
    rw[hDd]at w2 w3
    simp[A.lb136_0,hr,hf,g0,g3,hy,Zad,hyq,hym,hD,w1,w2,w3,hDd,splice,e1]
    exact⟨q,by omega,f1,f2,by simpa using f3⟩
   ·have hDd:D=(d:Int):=by omega
    have hD':¬(d:Int)<0:=by omega
    simp[A.lb136_0,hr,hf,g0,g3,hy,Zad,hyq,hym,hD',w1,hDd,splice,e1]
    exact⟨q,by omega,f1,f2,by simpa using f3⟩
 ·rintro _ r ⟨H,n1,W⟩ hr ⟨rfl,hW,hK,y,u,l,hy,hm,hn1,hn2,g0,g3,ho,hd,hv,hl,hp⟩
  simp only at hW hK ho
  have h0:y=0:=by omega
  subst h0
  have hv2:vI l=(z.natAbs:Nat):=by simpa using hv
  simp[hr,g3]
  refine Zac (Zb2 (n:=z.natAbs) ho.sl hd hv2 (by omega)) ?_
  rintro v5 h5 n5 k5 hy5
  have ez:(if decide (z<0)=true then -((z.natAbs:Nat):Int) else ((z.natAbs:Nat):Int))=z:=by
   by_cases h0:z<0<;>simp[h0]<;>omega
  rw[ez]at hy5
  have kle:=hK.le
  have kle5:=k5.le
  have nrow:=(k5.get N (by omega)).trans (hK.get N (by omega))
  rw[T.get_set,Yv6 rfl]at nrow
  obtain⟨u5,rfl,hu5⟩:=hy5
  have p1:=Sl.form hu5 |>.one
  have p2:=Sl.form hu5 |>.cells
  unfold V.one at p1
  unfold V.cells at p2
  have ow:Zaa N W=[]:=Zhr (Yy6 N) hW
  simp[hr,nrow,splice,Zal,p1,p2,Zak,slc,Ret,ow]
  exact⟨((kB.trans hK).trans k5).set (Yv5 N),u5,by simp,Sl.setInt hu5 nrow nint rfl⟩
def Zr7{z:Int}{h:T O}{N:Nat}(hl:(decI z).length≤2000000000):Fn A.C 139 [.str (decI z)] h N (fun v h' n'=>Rg h' n' v z):=by
 have h1:1≤(decN z.natAbs).length:=List.length_pos_iff.2 (Zjh _)
 unfold decI at hl ⊢
 by_cases hz:z<0
 ·rw[Yv6 hz]at hl ⊢
  simp only[Yv8]at hl
  have e: -((numV (decN z.natAbs):Nat):Int)=z:=by rw[Zcs];omega
  have:=Yck (Zca z.natAbs) h1 (by omega) (h:=h) (N:=N)
  rw[e]at this
  exact this
 ·rw[Yv4 hz]at hl ⊢
  have e:((numV (decN z.natAbs):Nat):Int)=z:=by rw[Zcs];omega
  have:=Zmk (Zca z.natAbs) h1 (by omega) (h:=h) (N:=N)
  rw[e]at this
  exact this
def Zr6{h h2:T O}{N n2:Nat}{a b:Int}{x y:V}(hx:Sl h2 n2 x (dI (ds a.natAbs)))(hy:Sl h2 n2 y (dI (ds b.natAbs)))(r0:h2.get N=some (.cells [.bool false,.nilslice] 92 true))(r1:h2.get (N+1)=some (.cells [.bool false,.nilslice] 92 true)):Rg ((h2.set N (.cells [.bool (decide (a<0)),x] 92 true)).set (N+1) (.cells [.bool (decide (b<0)),y] 92 true)) n2 (.agg [.bool (decide (a<0)),x]) a∧Rg ((h2.set N (.cells [.bool (decide (a<0)),x] 92 true)).set (N+1) (.cells [.bool (decide (b<0)),y] 92 true)) n2 (.agg [.bool (decide (b<0)),y]) b:=by
 have r1':(h2.set N (.cells [.bool (decide (a<0)),x] 92 true)).get (N+1)=some (.cells [.bool false,.nilslice] 92 true):=by rw[T.get_set,Yv4 (by omega)];exact r1
 exact⟨⟨x,rfl,Sl.setInt (Sl.setInt hx r0 nint rfl) r1' nint rfl⟩,⟨y,rfl,Sl.setInt (Sl.setInt hy r0 nint rfl) r1' nint rfl⟩⟩
def Zj9{q:Rat}{h:T O}{N:Nat}(l1:(decI q.num).length≤1000000000)(l2:(decN q.den).length≤1000000000):Fn A.C 61 [.str (Zax q)] h N (fun v h' n'=>∃x y,v=.tup [x,y]∧Rg h' n' x q.num∧Rg h' n' y (q.den:Int)):=by
 intro w
 have hlt:(Zax q).length≤3000000000:=by
  unfold Zax
  split
  ·omega
  ·simp only[Ywl,Yv8];omega
 have hsl:=fun st=>Zfo (s:=Zax q) (st:=st) (by omega)
 have hsa:=Zd9 q
 have htk:=Zjx q
 have hk0:=(Keeps.refl (h:=h) (n:=N)).new (.cells [.bool false,.nilslice] 92 true)
 have k0:=hk0.new (.cells [.bool false,.nilslice] 92 true)
 have d4':¬N+1=N:=by omega
 have d5':¬N=N+1:=by omega
 rw[Zab,A.k61 (by simp)]
 by_cases hd:q.den=1
 ·have he:slashAt (Zax q)=(Zax q).length:=by
   have:=Zjy q
   have h2:slashAt (Zax q)≤(Zax q).length:=by
    rw[hsa]
    unfold Zax
    rw[Yv6 hd]
    exact Yv5 _
   omega
  have htx:Zax q=decI q.num:=by unfold Zax;rw[Yv6 hd]
  have c1:((slashAt (Zax q):Int)=((Zax q).length:Int)):=by omega
  rw[hd]
  simp[A.b61,hsl,he,Zad]
  rw[htx]
  refine Zac (Zr7 (z:=q.num) (by omega)) ?_
  rintro v1 h1 n1 k1 ⟨x,rfl,hx⟩
  simp[]
  refine Zac (Ybw (z:=1) (by omega) (by omega)) ?_
  rintro v2 h2 n2 k2 ⟨y,rfl,hy⟩
  have kle1:=k1.le
  have kle2:=k2.le
  have hx:=Sl.keep hx k2
  have r0:=(k2.get N (by omega)).trans (k1.get N (by omega))
  have r1:=(k2.get (N+1) (by omega)).trans (k1.get (N+1) (by omega))
  simp at r0 r1
  have hxo:=(Sl.form hx).one
  have hyo:=(Sl.form hy).one
  have hxc:=(Sl.form hx).cells
  have hyc:=(Sl.form hy).cells
  unfold V.one at hxo hyo
  unfold V.cells at hxc hyc
  obtain⟨e1,e2⟩:=Zr6 (h:=h) (b:=1) hx hy r0 r1
  have d1':N<n1:=by omega
  have d2':N<n2:=by omega
  have d3':N+1<n2:=by omega
  simp[r0,r1,splice,Zal,hxo,hyo,hxc,hyc,d1',d2',d3',d4',d5',Zak,slc,Zao.chk,Ret]
  simp only[show decide ((1:Int)<0)=false from rfl]at e1 e2
  exact⟨(((k0.trans k1).trans k2).set (by omega)).set (by omega),_,_,⟨rfl,rfl⟩,e1,e2⟩
 ·have hlt2:=(Zjy q).2 hd
  have hdr:=Zjz q hd
  have c1:¬((slashAt (Zax q):Int)=((Zax q).length:Int)):=by omega
  have c2:¬(slashAt (Zax q)=(Zax q).length):=by omega
  have c3:(slashAt (Zax q):Int)≤((Zax q).length:Int):=by omega
  have c4:(slashAt (Zax q):Int)+1≤((Zax q).length:Int):=by omega
  have c5:((slashAt (Zax q):Int)+1).toNat=slashAt (Zax q)+1:=by omega
  have hnd:numV (decN q.den)=q.den:=Zcs _
  simp[A.b61,hsl,c1,c2,c3,c4,c5,Zad,evOpt,htk]
  refine Zac (Zr7 (z:=q.num) (by omega)) ?_
  rintro v1 h1 n1 k1 ⟨x,rfl,hx⟩
  simp(disch:=omega) [hsl,c1,c2,c3,c4,c5,Zad,evOpt,hdr]
  refine Zac (Zmk (Zca q.den) (List.length_pos_iff.2 (Zjh _)) (by omega)) ?_
  rintro v2 h2 n2 k2 hy
  rw[hnd]at hy
  obtain⟨y,rfl,hy⟩:=hy
  have kle1:=k1.le
  have kle2:=k2.le
  have hx:=Sl.keep hx k2
  have r0:=(k2.get N (by omega)).trans (k1.get N (by omega))
  have r1:=(k2.get (N+1) (by omega)).trans (k1.get (N+1) (by omega))
  simp at r0 r1
  have hxo:=(Sl.form hx).one
  have hyo:=(Sl.form hy).one
  have hxc:=(Sl.form hx).cells
  have hyc:=(Sl.form hy).cells
  unfold V.one at hxo hyo
  unfold V.cells at hxc hyc
  obtain⟨e1,e2⟩:=Zr6 (h:=h) (b:=(q.den:Int)) hx hy r0 r1
  have d1':N<n1:=by omega
  have d2':N<n2:=by omega
  have d3':N+1<n2:=by omega
  have hdn:¬(q.den:Int)<0:=by omega
  simp only[show decide ((q.den:Int)<0)=false by simp[hdn]]at e1 e2
  simp[r0,r1,splice,Zal,hxo,hyo,hxc,hyc,d1',d2',d3',d4',d5',Zak,slc,Zao.chk,Ret,hdn]
  exact⟨(((k0.trans k1).trans k2).set (by omega)).set (by omega),_,_,⟨rfl,rfl⟩,e1,e2⟩
def Zta{n:Nat}:(decN n).length≤9↔n<1000000000:=Zb4 (k:=9) (by omega)
def Yka{n:Nat}(h:n<1000000000)(st:St):A.C.call (.func 135 [] []) [.str (decN n)] st=some (.int .i64 n,st):=by
 have:=Zjt (s:=decN n) (st:=st) (Zca n) (by have:=Zta.2 h;omega)
 rwa [Zcs]at this
noncomputable def A.b59:=A.q Tryz.f59
def A.k59:=@A.kk 59 54 [.tmp 2,.tmp 3,.tmp 4] A.b59 (by kernel_rfl) rfl
def QB(q:Rat):Str:=if q.den=1 then decN q.num.natAbs else decN q.num.natAbs++47::decN q.den
def Zm1(q:Rat):Zax q=if q.num<0 then 45::QB q else QB q:=by
 unfold Zax QB decI
 by_cases h1:q.den=1<;>by_cases h2:q.num<0<;>simp[h1,h2]
def Yjs(q:Rat):slashAt (QB q)=(decN q.num.natAbs).length:=by
 unfold QB
 split
 ·exact Zfp (Zlp (Zca _))
 ·exact Zgp (Zlp (Zca _))
def Ypj(q:Rat):(QB q).take (decN q.num.natAbs).length=decN q.num.natAbs:=by
 unfold QB
 split
 ·exact Ywe (Yv5 _)
 ·exact List.take_left
def Ypk{q:Rat}(h:q.den≠1):(QB q).drop ((decN q.num.natAbs).length+1)=decN q.den:=by
 unfold QB
 rw[Yv4 h,←List.drop_drop,List.drop_left];rfl
def Yk5(q:Rat):(QB q).length=(decN q.num.natAbs).length+(if q.den=1 then 0 else (decN q.den).length+1):=by
 unfold QB
 split<;>simp
def Zv3(q:Rat):∃c t,QB q=c::t∧48≤c.toNat:=by
 obtain⟨c,t,h,h1,_⟩:=Zp2 (n:=q.num.natAbs)
 unfold QB
 split
 ·exact⟨c,t,h,h1⟩
 ·exact⟨c,t++47::decN q.den,by rw[h];rfl,h1⟩
def Yci{q:Rat}{st:St}(hl:(Zax q).length≤20):A.C.call (.func 59 [] []) [.str (Zax q)] st=some (if q.num.natAbs<1000000000∧q.den<1000000000 then .tup [.int .i64 q.num,.int .i64 q.den,.bool true] else .tup [.int .i64 0,.int .i64 0,.bool false],st):=by
 obtain⟨c,t,hB,hc⟩:=Zv3 q
 have hs:=Yjs q
 have ht:=Ypj q
 have hln:=Yk5 q
 have h9:=Zta (n:=q.num.natAbs)
 have h9d:=Zta (n:=q.den)
 have hn:=fun h st=>Yka (n:=q.num.natAbs) h st
 have hd:=fun h st=>Yka (n:=q.den) h st
 have hdr:=Ypk (q:=q)
 have hc45:¬u8I c=45:=by unfold u8I;omega
 have htx:=Zm1 q
 have hBl:(QB q).length≤20:=by
  rw[htx]at hl
  split at hl
  ·simp only[Yv8]at hl;omega
  ·exact hl
 have hsl:=fun st=>Zfo (s:=QB q) (st:=st) (by omega)
 rw[hs]at hsl
 have hc0:(QB q)[0]?=some c:=by rw[hB];rfl
 have hh:(QB q).head?=some c:=by rw[hB];rfl
 have hne:QB q≠[]:=by rw[hB];simp
 have hB0:0<(QB q).length:=by rw[hB];simp
 have hB0':(0:Int)<((QB q).length:Int):=by omega
 have hB20:¬(20:Int)<((QB q).length:Int):=by omega
 have hkl:(decN q.num.natAbs).length≤(QB q).length:=by omega
 have hkl':((decN q.num.natAbs).length:Int)≤((QB q).length:Int):=by omega
 have k0:0≤(decN q.num.natAbs).length:=Yyj _
 have w1:Zar .i64 (((QB q).length:Int)-((decN q.num.natAbs).length:Int))=((QB q).length:Int)-((decN q.num.natAbs).length:Int):=Zaj (by omega) (by omega)
 have w2:Zar .i64 (((decN q.num.natAbs).length:Int)+1)=((decN q.num.natAbs).length:Int)+1:=Zaj (by omega) (by omega)
 have a3:∀st:St,Zc2 st (some (.str (45::QB q))) (some (some (.int .i64 1))) (some none)=some (.str (QB q),st):=fun st=>by rw[Ze8 (by omega) (by simp only[Yv8];omega)];rfl
 have a4:∀st:St,Zc2 st (some (.str (QB q))) (some none) (some (some (.int .i64 (decN q.num.natAbs).length)))=some (.str (decN q.num.natAbs),st):=fun st=>by rw[Zlc (by omega) (by omega),Int.toNat_natCast,ht]
 apply Call.eq
 rw[Zab,A.k59 (by simp),htx]
 by_cases e9:q.num.natAbs<1000000000
 ·have g9:¬(9:Int)<((decN q.num.natAbs).length:Int):=by have:=h9.2 e9;omega
  have hn:=hn e9
  by_cases e1:q.den=1
  ·rw[Yv6 e1]at hln
   have g10:¬(10:Int)<((QB q).length:Int)-((decN q.num.natAbs).length:Int):=by omega
   have g11:¬((decN q.num.natAbs).length:Int)<((QB q).length:Int):=by omega
   have g12:¬(decN q.num.natAbs).length<(QB q).length:=by omega
   rw[e1]
   by_cases hz:q.num<0
   ·have ez:(q.num.natAbs:Int)= -q.num:=by omega
    have w3:Zar .i64 (0-(q.num.natAbs:Int))=q.num:=by rw[ez];rw[Zaj (by omega) (by omega)];omega
    have a5:u8I 45=45:=rfl
    have hz2:(QB q).length+1≤20:=by rw[htx,Yv6 hz]at hl;simpa using hl
    have hz3:¬(20:Int)<((QB q).length:Int)+1:=by omega
    have hz4:(0:Int)<((QB q).length:Int)+1:=by omega
    simp(disch:=first|(simp;done)|omega|rfl) [-getElem?_pos,A.b59,hz,hB20,hz3,hz4,a3,a5,hsl,Zad,evOpt,g9,g10,g11,g12,w1,w3,a4,hn,e9]
    omega
   ·have ez:(q.num.natAbs:Int)=q.num:=by omega
    simp(disch:=first|(simp;done)|omega|rfl) [-getElem?_pos,A.b59,hz,hc0,hh,hne,hB0,hB0',hB20,hc45,hsl,Zad,evOpt,g9,g10,g11,g12,w1,a4,hn,ez,e9]
  ·rw[Yv4 e1]at hln
   have hdr:=hdr e1
   have g11:((decN q.num.natAbs).length:Int)<((QB q).length:Int):=by omega
   have g12:(decN q.num.natAbs).length<(QB q).length:=by omega
   have a6:∀st:St,Zc2 st (some (.str (QB q))) (some (some (.int .i64 (((decN q.num.natAbs).length:Int)+1)))) (some none)=some (.str (decN q.den),st):=fun st=>by
    rw[Ze8 (by omega) (by omega)]
    have:(((decN q.num.natAbs).length:Int)+1).toNat=(decN q.num.natAbs).length+1:=by omega
    rw[this,hdr]
   by_cases e10:q.den<1000000000
   ·have g10:¬(10:Int)<((QB q).length:Int)-((decN q.num.natAbs).length:Int):=by have:=h9d.2 e10;omega
    have hd:=hd e10
    by_cases hz:q.num<0
    ·have ez:(q.num.natAbs:Int)= -q.num:=by omega
     have w3:Zar .i64 (0-(q.num.natAbs:Int))=q.num:=by rw[ez];rw[Zaj (by omega) (by omega)];omega
     have a5:u8I 45=45:=rfl
     have hz2:(QB q).length+1≤20:=by rw[htx,Yv6 hz]at hl;simpa using hl
     have hz3:¬(20:Int)<((QB q).length:Int)+1:=by omega
     have hz4:(0:Int)<((QB q).length:Int)+1:=by omega
     simp(disch:=first|(simp;done)|omega|rfl) [-getElem?_pos,A.b59,hz,hB20,hz3,hz4,a3,a5,a6,hsl,Zad,evOpt,g9,g10,g11,g12,w1,w2,w3,a4,hn,hd,e9,e10]
     omega
    ·have ez:(q.num.natAbs:Int)=q.num:=by omega
     simp(disch:=first|(simp;done)|omega|rfl) [-getElem?_pos,A.b59,hz,hc0,hh,hne,hB0,hB0',hB20,hc45,a6,hsl,Zad,evOpt,g9,g10,g11,g12,w1,w2,a4,hn,hd,ez,e9,e10]
   ·have g10:(10:Int)<((QB q).length:Int)-((decN q.num.natAbs).length:Int):=by
     have:¬(decN q.den).length≤9:=fun hc=>e10 (h9d.1 hc)
     omega
    by_cases hz:q.num<0
    ·have a5:u8I 45=45:=rfl
     have hz2:(QB q).length+1≤20:=by rw[htx,Yv6 hz]at hl;simpa using hl
     have hz3:¬(20:Int)<((QB q).length:Int)+1:=by omega
     have hz4:(0:Int)<((QB q).length:Int)+1:=by omega
     simp(disch:=first|(simp;done)|omega|rfl) [-getElem?_pos,A.b59,hz,hB20,hz3,hz4,a3,a5,hsl,Zad,evOpt,g9,g10,w1,e9,e10]
    ·simp(disch:=first|(simp;done)|omega|rfl) [-getElem?_pos,A.b59,hz,hc0,hh,hne,hB0,hB0',hB20,hc45,hsl,Zad,evOpt,g9,g10,w1,e9,e10]
 ·have g9:(9:Int)<((decN q.num.natAbs).length:Int):=by
   have:¬(decN q.num.natAbs).length≤9:=fun hc=>e9 (h9.1 hc)
   omega
  by_cases hz:q.num<0
  ·have a5:u8I 45=45:=rfl
   have hz2:(QB q).length+1≤20:=by rw[htx,Yv6 hz]at hl;simpa using hl
   have hz3:¬(20:Int)<((QB q).length:Int)+1:=by omega
   have hz4:(0:Int)<((QB q).length:Int)+1:=by omega
   simp(disch:=first|(simp;done)|omega|rfl) [-getElem?_pos,A.b59,hz,hB20,hz3,hz4,a3,a5,hsl,Zad,evOpt,g9,e9]
  ·simp(disch:=first|(simp;done)|omega|rfl) [-getElem?_pos,A.b59,hz,hc0,hh,hne,hB0,hB0',hB20,hc45,hsl,Zad,evOpt,g9,e9]
def Zyq{q:Rat}{st:St}(h1:20<(Zax q).length):A.C.call (.func 59 [] []) [.str (Zax q)] st=some (.tup [.int .i64 0,.int .i64 0,.bool false],st):=by
 have h2:(20:Int)<((Zax q).length:Int):=by omega
 apply Call.eq
 rw[Zab,A.k59 (by simp)]
 simp[A.b59,h2]
def Yeh{q:Rat}(h:q.num.natAbs<1000000000∧q.den<1000000000):(Zax q).length≤20:=by
 have h1:=Zta.2 h.1
 have h2:=Zta.2 h.2
 have h3:=Yk5 q
 rw[Zm1]
 split
 ·simp only[Yv8];split at h3<;>omega
 ·split at h3<;>omega
def Zwi{q:Rat}{st:St}:A.C.call (.func 59 [] []) [.str (Zax q)] st=some (if q.num.natAbs<1000000000∧q.den<1000000000 then .tup [.int .i64 q.num,.int .i64 q.den,.bool true] else .tup [.int .i64 0,.int .i64 0,.bool false],st):=by
 by_cases h:(Zax q).length≤20
 ·exact Yci h
 ·rw[Yv4 fun hc=>h (Yeh hc)]
  exact Zyq (by omega)
variable {j:Nat}
set_option maxHeartbeats 2000000
noncomputable def A.b53:=A.q Tryz.f53
def A.k53:=@A.kk 53 55 [.tmp 4] A.b53 (by kernel_rfl) rfl
def Zpr(a b:Rat):a*b=Rat.divInt (a.num*b.num) ((a.den:Int)*(b.den:Int)):=by
 rw[Rat.mul_def,Rat.normalize_eq_mkRat,←Rat.divInt_ofNat]
 simp
def Zp8(a b:Rat):a+b=Rat.divInt (a.num*(b.den:Int)+b.num*(a.den:Int)) ((a.den:Int)*(b.den:Int)):=by
 rw[Rat.add_def,Rat.normalize_eq_mkRat,←Rat.divInt_ofNat]
 simp
def Zn3{a b:Nat}(h1:a<1000000000)(h2:b<1000000000):a*b≤1000000000000000000:=by
 have:=Yx9 (Nat.le_of_lt h1) (Nat.le_of_lt h2)
 omega
def Zmh(q:Rat):∃(n d:Int) (o:Bool),(∀st,A.C.call (.func 59 [] []) [.str (Zax q)] st=some (.tup [.int .i64 n,.int .i64 d,.bool o],st))∧(o=true→n=q.num∧d=(q.den:Int)∧q.num.natAbs<1000000000∧q.den<1000000000):=by
 by_cases f:q.num.natAbs<1000000000∧q.den<1000000000
 ·exact⟨q.num,q.den,true,fun st=>by rw[Zwi,Yv6 f],fun _=>⟨rfl,rfl,f⟩⟩
 ·exact⟨0,0,false,fun st=>by rw[Zwi,Yv4 f],fun h=>by cases h⟩
def Rg.ones{h:T O}{N:Nat}{v:V}{z:Int}(s:Rg h N v z):∃u,v=.agg [.bool (decide (z<0)),u]∧V.one u=true∧V.cells u=[u]∧SlF u:=by
 obtain⟨u,rfl,hu⟩:=s
 exact⟨u,rfl,(Sl.form hu).one,(Sl.form hu).cells,Sl.form hu⟩
def Zdz{a b:Int}{k:Nat}(h1:a.natAbs<2^j)(h2:b.natAbs<2^k):(a*b).natAbs<2^(j+k):=by
 rw[Yx3,Yxe]
 exact Yyx h1 h2
def Zqw{a b:Int}(h1:a.natAbs<2^j)(h2:b.natAbs<2^j):(a+b).natAbs<2^(j+1):=by
 have:=Int.natAbs_add_le a b
 rw[Ywx];omega
def Yc0{a b:Rat}{k:Nat}{h:T O}{N:Nat}(ha:Qb j a)(hb:Qb k b)(hj:j≤400000000)(hk:k≤400000000):Fn A.C 53 [.str (Zax a),.str (Zax b)] h N (fun u _ _=>u=.str (Zax (a*b))):=by
 intro w
 obtain⟨n1,d1,o1,hq1,f1⟩:=Zmh a
 obtain⟨n2,d2,o2,hq2,f2⟩:=Zmh b
 have pa:=Rat.den_pos a
 have pb:=Rat.den_pos b
 rw[Zab,A.k53 (by simp)]
 have key:(o1=true∧o2=true)∨(o1=false∨(o1=true∧o2=false)):=by cases o1<;>cases o2<;>simp
 rcases key with⟨rfl,rfl⟩|key
 ·obtain⟨rfl,rfl,g1⟩:=f1 rfl
  obtain⟨rfl,rfl,g2⟩:=f2 rfl
  have m1:(a.num*b.num).natAbs≤1000000000000000000:=by rw[Yx3];exact Zn3 g1.1 g2.1
  have m2:a.den*b.den≤1000000000000000000:=Zn3 g1.2 g2.2
  have m3:0<a.den*b.den:=Yzg pa pb
  have e2:(a.den:Int)*(b.den:Int)=((a.den*b.den:Nat):Int):=by simp
  have w1:Zar .i64 (a.num*b.num)=a.num*b.num:=Zaj (by omega) (by omega)
  have w2:Zar .i64 ((a.den:Int)*(b.den:Int))=(a.den:Int)*(b.den:Int):=by rw[e2];exact Zaj (by omega) (by omega)
  have ho:=fun st=>Yqq (p:=a.num*b.num) (q:=(a.den:Int)*(b.den:Int)) (st:=st) (by omega) (by omega) (by omega) (by omega) (by omega)
  rw[←Zpr]at ho
  simp[A.b53,hq1,hq2,w1,w2,ho,Ret]
  exact Keeps.refl
 ·have la:=Zod ha.1
  have la2:=Zln ha.2
  have lb:=Zod hb.1
  have lb2:=Zln hb.2
  have z1:=Zkr ha.1
  have z2:=Zkr hb.1
  have z3:=Zkr ha.2
  have z4:=Zkr hb.2
  rcases key with rfl|⟨rfl,rfl⟩
  all_goals simp[A.b53,hq1,hq2]
  all_goals
   refine Zac (Zj9 (q:=a) (by omega) (by omega)) ?_
   rintro _ h1 t1 k1 ⟨x1,y1,rfl,X1,Y1⟩
   obtain⟨u1,rfl,p1,p2,F1⟩:=X1.ones
   obtain⟨v1,rfl,p3,p4,G1⟩:=Y1.ones
   unfold V.one at p1 p3
   unfold V.cells at p2 p4
   have KA:=((((Keeps.refl (h:=h1) (n:=t1)).new (.cells [.bool false,.nilslice] 92 true)).new (.cells [.bool false,.nilslice] 92 true)).set (i:=t1) (o:=.cells [.bool (decide (a.num<0)),u1] 92 true) (Yv5 _)).set (i:=t1+1) (o:=.cells [.bool (decide ((a.den:Int)<0)),v1] 92 true) (by omega)
   have c0:¬t1+1=t1:=by omega
   have c00:¬t1=t1+1:=by omega
   simp[p1,p2,p3,p4,Zal,splice,c0]
   generalize hHA:(((h1.set t1 (.cells [.bool false,.nilslice] 92 true)).set (t1+1) (.cells [.bool false,.nilslice] 92 true)).set t1 (.cells [.bool (decide (a.num<0)),u1] 92 true)).set (t1+1) (.cells [.bool (decide ((a.den:Int)<0)),v1] 92 true)=HA at*
   have gA1:HA.get t1=some (.cells [.bool (decide (a.num<0)),u1] 92 true):=by rw[←hHA];simp[c0,c00]
   have gA2:HA.get (t1+1)=some (.cells [.bool (decide ((a.den:Int)<0)),v1] 92 true):=by rw[←hHA];simp
   have X1:=X1.keep KA
   have Y1:=Y1.keep KA
   clear hHA
   refine Zac (Zj9 (q:=b) (by omega) (by omega)) ?_
   rintro _ h2 t2 k2 ⟨x2,y2,rfl,X2,Y2⟩
   obtain⟨u2,rfl,p5,p6,F2⟩:=X2.ones
   obtain⟨v2,rfl,p7,p8,G2⟩:=Y2.ones
   unfold V.one at p5 p7
   unfold V.cells at p6 p8
   have KB:=((((Keeps.refl (h:=h2) (n:=t2)).new (.cells [.bool false,.nilslice] 92 true)).new (.cells [.bool false,.nilslice] 92 true)).set (i:=t2) (o:=.cells [.bool (decide (b.num<0)),u2] 92 true) (Yv5 _)).set (i:=t2+1) (o:=.cells [.bool (decide ((b.den:Int)<0)),v2] 92 true) (by omega)
   have c1:¬t2+1=t2:=by omega
   have c11:¬t2=t2+1:=by omega
   have i2:=k2.le
   generalize hHB:(((h2.set t2 (.cells [.bool false,.nilslice] 92 true)).set (t2+1) (.cells [.bool false,.nilslice] 92 true)).set t2 (.cells [.bool (decide (b.num<0)),u2] 92 true)).set (t2+1) (.cells [.bool (decide ((b.den:Int)<0)),v2] 92 true)=HB at*
   have gB1:HB.get t2=some (.cells [.bool (decide (b.num<0)),u2] 92 true):=by rw[←hHB];simp[c1,c11]
   have gB2:HB.get (t2+1)=some (.cells [.bool (decide ((b.den:Int)<0)),v2] 92 true):=by rw[←hHB];simp
   have gB3:=(KB.get t1 (by omega)).trans ((k2.get t1 (by omega)).trans gA1)
   have gB4:=(KB.get (t1+1) (by omega)).trans ((k2.get (t1+1) (by omega)).trans gA2)
   have X1:=(X1.keep k2).keep KB
   have Y1:=(Y1.keep k2).keep KB
   have X2:=X2.keep KB
   have Y2:=Y2.keep KB
   have K2:Keeps h N HB (t2+1+1):=((k1.trans KA).trans k2).trans KB
   have j1:t1<t2+1+1:=by omega
   have j2:t1+1<t2+1+1:=by omega
   have j3:t2<t2+1+1:=by omega
   simp[p5,p6,p7,p8,Zal,splice,c1,hHB,gB1,gB2,gB3,gB4,Zak,slc]
   refine Zac (Zj2 X1 X2 (by omega) (by omega)) ?_
   rintro _ h3 t3 k3 X3
   have i3:=k3.le
   have gC2:=(k3.get (t2+1) (by omega)).trans gB2
   have gC4:=(k3.get (t1+1) (by omega)).trans gB4
   simp[gC2,gC4,Zak,slc]
   refine Zac (Zj2 (Y1.keep k3) (Y2.keep k3) (by rw[Ywc];omega) (by rw[Ywc];omega)) ?_
   rintro _ h4 t4 k4 X4
   have m1:=Zkr (Zdz ha.1 hb.1)
   have m2:=Zkr (Zdz (a:=(a.den:Int)) (b:=(b.den:Int)) (j:=j) (k:=k) (by rw[Ywc];exact ha.2) (by rw[Ywc];exact hb.2))
   simp[]
   refine Zac (Zn1 (X3.keep k4) X4 (Yzv (by omega) (by omega)) (by omega) (by omega)) ?_
   rintro _ h5 t5 k5 rfl
   have j4:t2+1<t3:=by omega
   have j5:t1+1<t3:=by omega
   rw[←Zpr]
   have i1:=k1.le
   simp[-Zaa,Zao.chk,j1,j2,j3,j4,j5,Ret]
   exact⟨Zlh (by simp;omega),((K2.trans k3).trans k4).trans k5⟩
end Go.Mx
