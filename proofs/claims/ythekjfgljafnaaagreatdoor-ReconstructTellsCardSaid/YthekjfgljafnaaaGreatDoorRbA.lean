/-lensletref01-/
import Derived.Test.YthekjfgljafnaaaGreatDoorMxDec
set_option linter.all false
namespace Go.Mx
open Go Go.Proofs
variable {s:Str}
set_option maxRecDepth 1000000
noncomputable def A.w134:=A.q Tryz.f134
noncomputable def A.lb134_0:=A.ql A.w134 0 []
noncomputable def A.b134:=(fun x0=>A.qb A.w134 [x0]) A.lb134_0
def A.k134:=@A.kk 134 17 [.tmp 2] A.b134 (by kernel_rfl) rfl
noncomputable def A.w229:=A.q Tryz.f229
noncomputable def A.lb229_0:=A.ql A.w229 0 []
noncomputable def A.b229:=(fun x0=>A.qb A.w229 [x0]) A.lb229_0
def A.k229:=@A.kk 229 20 [.tmp 2] A.b229 (by kernel_rfl) rfl
noncomputable def A.b200:=A.q Tryz.f200
def A.k200:=@A.kk 200 18 [.tmp 2] A.b200 (by kernel_rfl) rfl
noncomputable def A.w135:=A.q Tryz.f135
noncomputable def A.lb135_0:=A.ql A.w135 0 []
noncomputable def A.b135:=(fun x0=>A.qb A.w135 [x0]) A.lb135_0
def A.k135:=@A.kk 135 20 [.tmp 2] A.b135 (by kernel_rfl) rfl
def Zfo{st:St}(hl:s.length<4611686018427387904):A.C.call (.func 134 [] []) [.str s] st=some (.int .i64 (slashAt s:Nat),st):=by
 apply Call.eq
 rw[Zab,A.k134 (by simp)]
 simp(disch:=first|(simp;done)|omega|rfl) [-getElem?_pos,A.b134]
 refine Zai [(2,14)] (fun e r s1=>s1=⟨st.h,st.n,[]⟩∧((e=.exit 0∧slashAt s=s.length)∨(e=.ret∧r.get 2=some (.int .i64 (slashAt s:Nat))))) (fun m r s1=>s1=⟨st.h,st.n,[]⟩∧∃k,k+m=s.length∧r.get 3=some (.int .i64 k)∧slashAt s=k+slashAt (s.drop k)) s.length ?_ ?_ ?_
 ·exact⟨rfl,0,by omega,by simp,by simp⟩
 ·rintro m r _ hr hf ⟨rfl,k,hk,h3,hz⟩
  rw[Zah]
  cases m with
  |zero=>
   have:k=s.length:=by omega
   subst this
   rw[Yw5,slashAt]at hz
   simp(disch:=first|(simp;done)|omega|rfl) [-getElem?_pos,A.lb134_0,hr,hf,h3]
   omega
  |succ m=>
   obtain⟨c,hc⟩:=Zae (l:=s) (k:=k) (by omega)
   have hk1:(k:Int)<(s.length:Int):=by omega
   have hk2:k<s.length:=by omega
   rw[Zan hc,slashAt]at hz
   by_cases h47:u8I c=47
   ·rw[Yv6 (by unfold u8I at h47;omega)]at hz
    simp(disch:=first|(simp;done)|omega|rfl) [-getElem?_pos,A.lb134_0,hr,hf,h3,hk1,hk2,hc,h47,Zad]
    rw[hz];simp
   ·rw[Yv4 (by unfold u8I at h47;omega)]at hz
    simp(disch:=first|(simp;done)|omega|rfl) [-getElem?_pos,A.lb134_0,hr,hf,h3,hk1,hk2,hc,h47,Zad]
    exact⟨m,by omega,k+1,by omega,by simp,by omega⟩
 ·rintro e r _ hr ⟨rfl,⟨rfl,hz⟩|⟨rfl,h2⟩⟩
  ·simp(disch:=first|(simp;done)|omega|rfl) [-getElem?_pos,hr,hz]
  ·simp(disch:=first|(simp;done)|omega|rfl) [-getElem?_pos,hr,h2]
def Yer{st:St}(hl:s.length<4611686018427387904):A.C.call (.func 229 [] []) [.str s] st=some (.bool (Zcd s),st):=by
 apply Call.eq
 rw[Zab,A.k229 (by simp)]
 simp(disch:=first|(simp;done)|omega|rfl) [-getElem?_pos,A.b229]
 refine Zai [(2,19)] (fun e r s1=>s1=⟨st.h,st.n,[]⟩∧((e=.exit 0∧Zcd s=true)∨(e=.ret∧Zcd s=false∧r.get 2=some (.bool false)))) (fun m r s1=>s1=⟨st.h,st.n,[]⟩∧∃k,k+m=s.length∧r.get 3=some (.int .i64 k)∧Zcd s=Zcd (s.drop k)) s.length ?_ ?_ ?_
 ·exact⟨rfl,0,by omega,by simp,by simp⟩
 ·rintro m r _ hr hf ⟨rfl,k,hk,h3,hz⟩
  rw[Zah]
  cases m with
  |zero=>
   have:k=s.length:=by omega
   subst this
   rw[Yw5]at hz
   have hz:Zcd s=true:=hz
   simp(disch:=first|(simp;done)|omega|rfl) [A.lb229_0,hr,hf,h3,hz]
  |succ m=>
   obtain⟨c,hc⟩:=Zae (l:=s) (k:=k) (by omega)
   have hk1:(k:Int)<(s.length:Int):=by omega
   have hk2:k<s.length:=by omega
   have hz2:Zcd s=(Zk8 c&&Zcd (s.drop (k+1))):=by rw[hz,Zan hc];rfl
   rw[Yet]at hz2
   by_cases h1:u8I c<48
   ·have:¬(48≤u8I c∧u8I c≤57):=by omega
    rw[decide_eq_false this,Yzd]at hz2
    simp(disch:=first|(simp;done)|omega|rfl) [-getElem?_pos,A.lb229_0,hr,hf,h3,hk1,hk2,hc,h1,hz2]
   ·by_cases h2:57<u8I c
    ·have:¬(48≤u8I c∧u8I c≤57):=by omega
     rw[decide_eq_false this,Yzd]at hz2
     simp(disch:=first|(simp;done)|omega|rfl) [-getElem?_pos,A.lb229_0,hr,hf,h3,hk1,hk2,hc,h1,h2,hz2]
    ·have:(48≤u8I c∧u8I c≤57):=by omega
     rw[decide_eq_true this,Bool.true_and]at hz2
     simp(disch:=first|(simp;done)|omega|rfl) [-getElem?_pos,A.lb229_0,hr,hf,h3,hk1,hk2,hc,h1,h2]
     exact⟨m,by omega,k+1,by omega,by simp,hz2⟩
 ·rintro e r _ hr ⟨rfl,⟨rfl,hz⟩|⟨rfl,hz,h2⟩⟩
  ·simp(disch:=first|(simp;done)|omega|rfl) [-getElem?_pos,hr,hz]
  ·simp(disch:=first|(simp;done)|omega|rfl) [-getElem?_pos,hr,h2,hz]
def Zgc{s:Str}{st:St}(hl:s.length<4611686018427387904):A.C.call (.func 200 [] []) [.str s] st=some (.bool (Zc3 s),st):=by
 apply Call.eq
 rw[Zab,A.k200 (by simp)]
 cases s with
 |nil=>simp[A.b200,Zad,Zc3]
 |cons c s=>
  have hd:Zc3 (c::s)=(Zcd (c::s)&&(decide (u8I c≠48)||decide (s=[]))):=by
   have:decide (c.toNat≠48)=decide (u8I c≠48):=by unfold u8I;rw[decide_eq_decide];omega
   simp only[Zc3,this];rfl
  have hdg:=fun st=>Yer (s:=c::s) (st:=st) hl
  by_cases h0:s=[]
  ·subst h0
   simp[A.b200,Zad,hd,hdg]
  ·have h1:0<s.length:=by
    cases s with
    |nil=>exact absurd rfl h0
    |cons=>simp
   have a1:¬((s.length:Int)+1=0):=by omega
   have a2:(1:Int)<(s.length:Int)+1:=by omega
   have a3:(0:Int)<(s.length:Int):=by omega
   by_cases h48:u8I c=48
   ·simp[A.b200,Zad,hd,hdg,h0,a1,a2,a3,h1,h48]
   ·simp[A.b200,Zad,hd,hdg,h0,a1,a2,a3,h1,h48]
def Zjt{st:St}(hd:Zcd s=true)(hl:s.length≤18):A.C.call (.func 135 [] []) [.str s] st=some (.int .i64 (numV s:Nat),st):=by
 apply Call.eq
 rw[Zab,A.k135 (by simp)]
 simp[A.b135]
 refine Zai [(3,18)] (fun e r s1=>s1=⟨st.h,st.n,[]⟩∧e=.exit 0∧r.get 3=some (.int .i64 (numV s:Nat))) (fun m r s1=>s1=⟨st.h,st.n,[]⟩∧∃k,k+m=s.length∧r.get 4=some (.int .i64 k)∧r.get 3=some (.int .i64 (numV (s.take k):Nat))) s.length ?_ ?_ ?_
 ·exact⟨rfl,0,by omega,by simp,by simp[numV]⟩
 ·rintro m r _ hr hf ⟨rfl,k,hk,h4,h3⟩
  rw[Zah]
  cases m with
  |zero=>
   have:k=s.length:=by omega
   subst this
   rw[Yym]at h3
   simp[A.lb135_0,hr,hf,h4,h3]
  |succ m=>
   obtain⟨c,hc⟩:=Zae (l:=s) (k:=k) (by omega)
   have hk1:(k:Int)<(s.length:Int):=by omega
   have hk2:k<s.length:=by omega
   have hd1:=Zk4 hd hc
   have hv:=Znt hc
   have hb1:=Zqv hd k (by omega)
   have hb2:=Zwr (a:=k) (b:=17) (by omega)
   have b3:((numV (s.take (k+1)):Nat):Int)=10*(numV (s.take k):Nat)+u8I c-48:=by
    rw[hv];unfold u8I at*;omega
   have b4:((numV (s.take k):Nat):Int)<100000000000000000:=by
    have:(10:Nat)^17=100000000000000000:=by decide
    omega
   generalize hy:numV (s.take (k+1))=y at*
   generalize numV (s.take k)=x at*
   simp(disch:=first|(simp;done)|omega|rfl) [-getElem?_pos,A.lb135_0,hr,hf,h4,h3,hk1,hk2,hc]
   exact⟨m,by omega,k+1,by omega,by simp,by rw[hy,b3]⟩
 ·rintro e r _ hr ⟨rfl,rfl,h3⟩
  simp[hr,h3]
noncomputable def A.w197:=A.q Tryz.f197
noncomputable def A.lb197_0:=A.ql A.w197 0 []
noncomputable def A.b197:=(fun x0=>A.qb A.w197 [x0]) A.lb197_0
def A.k197:=@A.kk 197 21 [.tmp 2] A.b197 (by kernel_rfl) rfl
noncomputable def A.b144:=A.q Tryz.f144
def A.k144:=@A.kk 144 15 [.cell 4 (some 2)] A.b144 (by kernel_rfl) rfl
noncomputable def A.w146:=A.q Tryz.f146
noncomputable def A.lb146_0:=A.ql A.w146 0 []
noncomputable def A.b146:=(fun x0=>A.qb A.w146 [x0]) A.lb146_0
def A.k146:=@A.kk 146 41 [.tmp 4] A.b146 (by kernel_rfl) rfl
noncomputable def A.w196:=A.q Tryz.f196
noncomputable def A.lb196_0:=A.ql A.w196 0 []
noncomputable def A.b196:=(fun x0=>A.qb A.w196 [x0]) A.lb196_0
def A.k196:=@A.kk 196 39 [.tmp 4,.tmp 5] A.b196 (by kernel_rfl) rfl
def Zgs{h:T O}{N:Nat}{v:V}{l:List Int}(hs:Sl h N v (dI l))(hl:l.length<1152921504606846976):Fn A.C 197 [v] h N (fun v' h' N'=>Sl h' N' v' (dI (Zgn l))):=by
 intro w
 rw[Zab,A.k197 (by simp)]
 simp[A.b197]
 refine Zai [(0,0),(3,19)] (fun e r st=>e=.exit 0∧st=⟨h,N,[]⟩∧∃u,r.get 0=some u∧Sl h N u (dI (Zgn l))) (fun m r st=>st=⟨h,N,[]⟩∧m≤l.length∧∃u,r.get 0=some u∧Sl h N u (dI (l.take m))∧Zgn (l.take m)=Zgn l) l.length ?_ ?_ ?_
 ·exact⟨rfl,Yv5 _,v,rfl,by rw[Yym];exact hs,by rw[Yym]⟩
 ·rintro m r _ hr hf ⟨rfl,hm,u,h0,hu,ht⟩
  rw[Zah]
  have lu:=hu.len
  rw[Zat,Ywm,Yxh hm]at lu
  cases m with
  |zero=>
   simp[A.lb197_0,hr,hf,h0,lu]
   rw[←ht];exact hu
  |succ k=>
   obtain⟨d,hd⟩:=Zae (l:=l) (k:=k) (by omega)
   have hd':(l.take (k+1))[k]?=some d:=by rw[Ywn,Yv6 (by omega)];exact hd
   obtain⟨i,o,c,e,rw,q1,q2,q3,q4⟩:=hu.at (Zbg hd')
   have e1:l.take (k+1)=l.take k++[d]:=by rw[Yyq,hd];rfl
   have k1:(0:Int)<(k:Int)+1:=by omega
   have k2:(k:Int)<(k:Int)+1:=by omega
   have k3:(k:Int)+1-1=(k:Int):=by omega
   by_cases hz:d=0
   ·subst hz
    rw[e1,Zlb]at ht
    obtain⟨v',x1,x2⟩:=Zfe (w:=[]) hu (lo:=0) (hi:=k) (Yyj _) (by rw[Zat,Ywm];omega) none (some (.int .i64 k)) (.inr ⟨rfl,rfl⟩) (.inl rfl)
    have x3:((dI (l.take (k+1))).take k).drop 0=dI (l.take k):=by
     rw[Yyv,dI,←List.map_take,List.take_take,Yxh (by omega)];rfl
    rw[x3]at x2
    simp(disch:=first|(simp;done)|omega|rfl) [A.lb197_0,hr,hf,h0,lu,k1,k2,k3,q1,q3,q4,Zad,Zcb,evOpt,x1]
    exact⟨k,by omega,by omega,x2,ht⟩
   ·rw[e1,Zpd hz,←e1]at ht
    simp(disch:=first|(simp;done)|omega|rfl) [A.lb197_0,hr,hf,h0,lu,k1,k2,k3,q1,q3,q4,Zad,hz]
    rw[←ht];exact hu
 ·rintro _ r _ hr ⟨rfl,rfl,u,h0,hu⟩
  simp[hr,h0,Ret]
  exact⟨Keeps.refl,hu⟩
def Rg(h:T O)(N:Nat)(v:V)(z:Int):Prop:=∃u,v=.agg [.bool (decide (z<0)),u]∧Dn h N u z.natAbs
def Zb2{h:T O}{N:Nat}{v:V}{l:List Int}{b:Bool}{n:Nat}(hs:Sl h N v (dI l))(hd:Di l)(hn:vI l=n)(hl:l.length<1152921504606846976):Fn A.C 144 [.bool b,v] h N (fun v' h' N'=>Rg h' N' v' (if b=true then -(n:Int) else n)):=by
 intro w
 rw[Zab,A.k144 (by simp)]
 simp[A.b144]
 refine Zac (Zgs (hs.keep (Keeps.refl.new _)) hl) ?_
 rintro u h1 n1 k1 hu
 rw[Zgm hd hn]at hu
 have lu:=hu.len
 rw[Zat]at lu
 have kle:=k1.le
 have hrow:=k1.get N (by omega)
 simp at hrow
 have huo:=hu.form.one
 have huc:=hu.form.cells
 unfold V.one at huo
 unfold V.cells at huc
 have k0:=(Keeps.refl (h:=h) (n:=N)).new (.cells [.bool false,.nilslice] 92 true)
 have kx:=fun o=>((k0.trans k1).set (i:=N) (o:=o) (Yv5 N))
 have hu2:=fun c1 (hc:c1.length=2)=>hu.setInt (i:=N) (c1:=c1) (e1:=92) (w1:=true) hrow (by intro x hx k m;simp at hx;rcases hx with rfl|rfl<;>simp) hc
 cases b with
 |false=>
  simp[lu,splice,hrow,huo,huc,Zal,Zak,slc,Ret]
  refine⟨kx _,u,?_,?_⟩
  ·have:¬(n:Int)<0:=by omega
   simp
  ·exact hu2 _ rfl
 |true=>
  by_cases hz:n=0
  ·have hl0:(ds n).length=0:=by rw[hz,Zcv];rfl
   simp[lu,hl0,splice,hrow,huo,huc,Zal,Zak,slc,Ret]
   refine⟨kx _,u,?_,?_⟩
   ·simp[hz]
   ·simpa[hz,Dn]using hu2 _ rfl
  ·have hl0:¬(ds n).length=0:=fun hc=>hz (Zd2.1 (Yws hc))
   have hl1:(0:Int)<((ds n).length:Int):=by omega
   have hl2:0<(ds n).length:=by omega
   have hl3:ds n≠[]:=fun hc=>hz (Zd2.1 hc)
   simp[lu,hl1,hl2,hl3,splice,hrow,huo,huc,Zal,Zak,slc,Ret]
   refine⟨kx _,u,?_,?_⟩
   ·have: -(n:Int)<0:=by omega
    simp[this];try omega
   ·simpa[Dn]using hu2 _ rfl
def Zc4:∀{b a:Nat},a≤b→(ds a).length≤(ds b).length:=by
 intro b
 induction b using Nat.strongRecOn with
 |_ b ih=>
  intro a h
  by_cases h0:a=0
  ·rw[h0,Zcv];simp
  ·rw[Zh0 h0,Zh0 (n:=b) (by omega)]
   have:=ih (b/1000000000) (Yy8 (by omega) (by decide)) (a:=a/1000000000) (Nat.div_le_div_right h)
   simp only[Yv8];omega
def Ya3{A:List Int}{k:Nat}{x:Int}(hx:A[k]?=some x):vI A=vI (A.take k)+pI k*(x+1000000000*vI (A.drop (k+1))):=by
 have hk:=Zau hx
 rw[Zjv A k (by omega),Zan hx,vI]
def Ykz{A B:List Int}{k:Nat}{x y:Int}(hA:Di A)(hB:Di B)(hx:A[k]?=some x)(hy:B[k]?=some y)(he:A.drop (k+1)=B.drop (k+1))(hxy:x<y):vI A<vI B:=by
 have hk:=Zau hx
 rw[Ya3 hx,Ya3 hy,he]
 have h1:=Zi0 (hA.take k)
 have h2:=Ziz (hB.take k)
 rw[Ywm,Yxh (by omega)]at h1
 have h3:pI k*(x+1000000000*vI (B.drop (k+1))+1)≤pI k*(y+1000000000*vI (B.drop (k+1))):=Ywq (by omega) (Yyd (Zka k))
 have h4:pI k*(x+1000000000*vI (B.drop (k+1))+1)=pI k*(x+1000000000*vI (B.drop (k+1)))+pI k:=by grind
 omega
def Yf1(a b:Nat):Int:=if a<b then -1 else if b<a then 1 else 0
def Zvr{h:T O}{N:Nat}{u v:V}{a b:Nat}{w:List Nat}(hu:Dn h N u a)(hv:Dn h N v b)(hl:(ds a).length<1152921504606846976)(hl2:(ds b).length<1152921504606846976):A.C.call (.func 146 [] []) [u,v] ⟨h,N,w⟩=some (.int .i64 (Yf1 a b),⟨h,N,w⟩):=by
 apply Call.eq
 have lu:=hu.len
 have lv:=hv.len
 rw[Zat]at lu lv
 have va:=Zbf a
 have vb:=Zbf b
 have da:=Zcm a
 have db:=Zcm b
 rw[Zab,A.k146 (by simp)]
 unfold Yf1
 by_cases h1:(ds a).length=(ds b).length
 ·have h1':((ds a).length:Int)=((ds b).length:Int):=by omega
  simp(disch:=omega) [A.b146,lu,lv,Zad,h1]
  generalize hA:ds a=X at*
  generalize hB:ds b=Y at*
  refine Zai [(4,5),(19,40)] (fun e r st=>st=⟨h,N,[]⟩∧((e=.exit 0∧a=b)∨(e=.ret∧a<b∧r.get 4=some (.int .i64 (-1)))∨(e=.ret∧b<a∧r.get 4=some (.int .i64 1)))) (fun m r st=>st=⟨h,N,[]⟩∧m≤X.length∧r.get 5=some (.int .i64 ((m:Int)-1))∧X.drop m=Y.drop m) X.length ?_ ?_ ?_
  ·exact⟨rfl,Yv5 _,by simp[h1],by rw[Yw5,h1,Yw5]⟩
  ·rintro m r _ hr hf ⟨rfl,hm,h5,he⟩
   rw[Zah]
   cases m with
   |zero=>
    have:a=b:=by
     simp at he;rw[he]at va;omega
    simp[A.lb146_0,hr,hf,h5,this]
   |succ k=>
    obtain⟨x,hx⟩:=Zae (l:=X) (k:=k) (by omega)
    obtain⟨y,hy⟩:=Zae (l:=Y) (k:=k) (by omega)
    obtain⟨b1,b2,b3,b4,b5,z1,z2,z3,z4⟩:=Sl.at (show Sl h N u (dI (ds a)) from hu) (by rw[hA];exact Zbg hx)
    obtain⟨c1,c2,c3,c4,c5,y1,y2,y3,y4⟩:=Sl.at (show Sl h N v (dI (ds b)) from hv) (by rw[hB];exact Zbg hy)
    have hq1:(((k+1:Nat):Int)-1)=(k:Int):=by omega
    rw[hq1]at h5
    have hk1:(k:Int)<(X.length:Int):=by omega
    have hk2:(k:Int)<(Y.length:Int):=by omega
    have hk3:(0:Int)≤(k:Int):=by omega
    have hk4:k<Y.length:=by omega
    by_cases hlt:x<y
    ·have:=Ykz da db hx hy he hlt
     have hab:a<b:=by omega
     simp[A.lb146_0,hr,hf,h5,lu,lv,hk1,hk2,hk3,hk4,z1,z2,z3,z4,y1,y2,y3,y4,hlt,hab]
    ·by_cases hgt:y<x
     ·have:=Ykz db da hy hx he.symm hgt
      have hab:b<a:=by omega
      have hab2:¬a<b:=by omega
      simp[A.lb146_0,hr,hf,h5,lu,lv,hk1,hk2,hk3,hk4,z1,z2,z3,z4,y1,y2,y3,y4,hlt,hgt,hab,hab2]
     ·have hxy:x=y:=by omega
      simp(disch:=first|(simp;done)|omega|rfl) [A.lb146_0,hr,hf,h5,lu,lv,hk1,hk2,hk3,hk4,z1,z2,z3,z4,y1,y2,y3,y4,hlt,hgt]
      exact⟨k,by omega,by omega,rfl,by rw[Zan hx,Zan hy,he,hxy]⟩
  ·rintro e r _ hr ⟨rfl,⟨rfl,hz⟩|⟨rfl,hz,h4⟩|⟨rfl,hz,h4⟩⟩
   ·simp[hr,hz]
   ·simp[hr,h4,hz]
   ·have:¬a<b:=by omega
    simp[hr,h4,hz,this]
 ·have h1':¬((ds a).length:Int)=((ds b).length:Int):=by omega
  by_cases h2:(ds a).length<(ds b).length
  ·have hab:a<b:=by
    apply Yxn;intro hc;have:=Zc4 hc;omega
   simp[A.b146,lu,lv,Zad,h1,h2,hab]
  ·have hab:b<a:=by
    apply Yxn;intro hc;have:=Zc4 hc;omega
   have hab2:¬a<b:=by omega
   simp[A.b146,lu,lv,Zad,h1,h2,hab,hab2]
structure DdA (h:T O) (N:Nat) (l:List Int) (d:Int) (m:Nat) (r:T V) (st:St):Prop where
 w:Zaa N st.w=[]
 keep:Keeps h N st.h (N+1)
 n:st.n=N+1
 r8:r.get 8=some (.int .i64 ((m:Int)-1))
 hm:m≤l.length
 ex:∃out rest,st.h.get N=some (.cells (dI out) 3 true)∧out.length=l.length∧r.get 7=some (.int .i64 rest)∧0≤rest∧rest<d∧Di (out.drop m)∧vI (out.drop m)*d+rest=vI (l.drop m)
def Zoa{h:T O}{N:Nat}{v:V}{l:List Int}{d:Int}(hs:Sl h N v (dI l))(hd:Di l)(hl:l.length<1099511627776)(h0:0<d)(h1:d<1000000000):Fn A.C 196 [v,.int .i64 d] h N (fun u h' n'=>∃q,u=.tup [q,.int .i64 ((vI l).toNat%d.toNat:Nat)]∧Dn h' n' q ((vI l).toNat/d.toNat)):=by
 intro w
 have lv:=hs.len
 rw[Zat]at lv
 rw[Zab,A.k196 (by simp)]
 simp(disch:=first|(simp;done)|omega|rfl) [A.b196,lv]
 refine Zai [(7,9),(16,35)] (fun e r st=>e=.exit 0∧DdA h N l d 0 r st) (DdA h N l d) l.length ?_ ?_ ?_
 ·refine⟨by simp,Keeps.refl.new _,rfl,by simp,Yv5 _,List.replicate l.length 0,0,by simp[Zrc],by simp,by simp,by omega,h0,?_,?_⟩
  ·rw[Yw8 (by simp)];exact Di.nil
  ·rw[Yw8 (by simp),Yw5];simp[vI]
 ·rintro m r ⟨H,n1,W⟩ hr hf ⟨hW,hK,hn,h8,hm,out,rest,hrow,hol,h7,hr0,hrd,hdi,hv⟩
  simp only at hW hK hn hrow
  subst hn
  rw[Zah]
  cases m with
  |zero=>
   simp[A.lb196_0,hr,hf,h8]
   exact⟨hW,hK,rfl,by simpa using h8,hm,out,rest,hrow,hol,by simp[h7],hr0,hrd,hdi,hv⟩
  |succ k=>
   obtain⟨x,hx⟩:=Zae (l:=l) (k:=k) (by omega)
   obtain⟨b1,b2,b3,b4,b5,z1,z2,z3,z4⟩:=hs.at (Zbg hx)
   have z3:=(hK.get _ z2).trans z3
   have hxd:=hd.get hx
   have hq1:(((k+1:Nat):Int)-1)=(k:Int):=by omega
   rw[hq1]at h8
   have hk1:(k:Int)<(l.length:Int):=by omega
   have hk2:k<l.length:=by omega
   have hk3:(0:Int)≤(k:Int):=by omega
   have w1:Zar .i64 (rest*1000000000)=rest*1000000000:=Zaj (by omega) (by omega)
   have w2:Zar .i64 (rest*1000000000+x)=rest*1000000000+x:=Zaj (by omega) (by omega)
   have s0:0≤rest*1000000000+x:=by omega
   have hd0:¬d=0:=by omega
   have t1:(rest*1000000000+x).tdiv d=(rest*1000000000+x)/d:=Yxr s0
   have t2:(rest*1000000000+x).tmod d=(rest*1000000000+x)%d:=Yx6 s0
   have t3:=Yyu (rest*1000000000+x) d
   have t4:0≤(rest*1000000000+x)/d:=Int.ediv_nonneg s0 (by omega)
   have t5:(rest*1000000000+x)/d<1000000000:=by
    apply Int.ediv_lt_of_lt_mul h0
    omega
   have t6:=Yzh (rest*1000000000+x) hd0
   have t7:=Yy5 (rest*1000000000+x) h0
   have w3:Zar .i64 ((rest*1000000000+x)/d)=(rest*1000000000+x)/d:=Zaj (by omega) (by omega)
   have w8:=Zat out
   have w7:=Ziv (l:=out) (k:=k) (v:=(rest*1000000000+x)/d) (by omega)
   simp(disch:=first|(simp;done)|omega|rfl) [A.lb196_0,hr,hf,h8,h7,hk1,hk2,hk3,lv,z1,z3,z4,w1,w2,w3,hd0,t1,t2,hrow,w7]
   have e1:(out.set k ((rest*1000000000+x)/d)).drop k=((rest*1000000000+x)/d)::out.drop (k+1):=by
    rw[Zan (d:=(rest*1000000000+x)/d) (by rw[Ywh (by omega)])]
    rw[List.drop_set_of_lt (by omega)]
   generalize (rest*1000000000+x)/d=q at*
   generalize (rest*1000000000+x)%d=r' at*
   refine⟨k,by omega,⟨by simp[Zaa,hW],hK.set (Yv5 N),rfl,by simp,by omega,out.set k q,r',by simp,by simp[hol],by simp,t6,t7,?_,?_⟩⟩
   ·rw[e1];exact Di.app (Di.one t4 t5) hdi
   ·rw[e1,Zan hx,vI,vI,←hv]
    grind
 ·rintro _ r ⟨H,n1,W⟩ hr ⟨rfl,hW,hK,hn,h8,hm,out,rest,hrow,hol,h7,hr0,hrd,hdi,hv⟩
  simp only at hW hK hn hrow
  subst hn
  rw[Yyv,Yyv]at*
  have hs2:Sl H (N+1) (.slice N 0 l.length (some l.length) 1) (dI out):=Sl.row (by omega) hrow (by simp[hol]) (fun k hk=>by simp at hk;omega)
  simp[hr,h7]
  refine Zac (Zgs hs2 (by omega)) ?_
  rintro u h2 n2 k2 hu
  have hvo:=Ziz hdi
  have hvl:=Ziz hd
  have m1:(vI l).toNat/d.toNat=(vI out).toNat:=by
   have:(vI l)/d=vI out:=by
    rw[←hv,Int.mul_comm,Int.add_comm,Int.add_mul_ediv_left _ _ (by omega),Int.ediv_eq_zero_of_lt hr0 hrd];omega
   rw[←this]
   obtain⟨a,ha⟩:=Yyi hvl
   obtain⟨b,hb⟩:=Yyi (Yyd h0)
   rw[ha,hb];rfl
  have m2:(((vI l).toNat%d.toNat:Nat):Int)=rest:=by
   have:(vI l)%d=rest:=by
    rw[←hv,Int.mul_comm,Int.add_comm,Int.add_mul_emod_self_left,Int.emod_eq_of_lt hr0 hrd]
   rw[←this]
   obtain⟨a,ha⟩:=Yyi hvl
   obtain⟨b,hb⟩:=Yyi (Yyd h0)
   rw[ha,hb];rfl
  rw[Zqg hdi]at hu
  have m2':rest=max (vI l) 0%max d 0:=by rw[←m2];simp
  simp[hr,h7,Ret,hW]
  refine⟨hK.trans k2,u,⟨rfl,m2'⟩,?_⟩
  rw[m1]
  exact hu
noncomputable def A.w148:=A.q Tryz.f148
noncomputable def A.lb148_0:=A.ql A.w148 1 []
noncomputable def A.lb148_1:=(fun x0=>A.ql A.w148 0 [x0]) A.lb148_0
noncomputable def A.b148:=(fun x0=>A.qb A.w148 [x0]) A.lb148_1
def A.k148:=@A.kk 148 72 [.tmp 4] A.b148 (by kernel_rfl) rfl
structure MuB (h:T O) (N:Nat) (la lb:List Int) (i:Nat) (out0:List Int) (a:Int) (m:Nat) (r:T V) (st:St):Prop where
 w:Zaa N st.w=[]
 keep:Keeps h N st.h (N+1)
 n:st.n=N+1
 ex:∃k out c,k+m=lb.length∧r.get 8=some (.int .i64 k)∧st.h.get N=some (.cells (dI out) 3 true)∧out.length=la.length+lb.length∧r.get 7=some (.int .i64 c)∧0≤c∧c<1000000000∧Di out∧(∀t,i+lb.length≤t→t<out.length→out[t]?=some 0)∧vI out+pI (i+k)*c=vI out0+pI i*(a*vI (lb.take k))
structure MuA (h:T O) (N:Nat) (la lb:List Int) (m:Nat) (r:T V) (st:St):Prop where
 w:Zaa N st.w=[]
 keep:Keeps h N st.h (N+1)
 n:st.n=N+1
 ex:∃i out,i+m=la.length∧r.get 6=some (.int .i64 i)∧st.h.get N=some (.cells (dI out) 3 true)∧out.length=la.length+lb.length∧Di out∧(∀t,i+lb.length≤t→t<out.length→out[t]?=some 0)∧vI out=vI (la.take i)*vI lb
def Zud{h:T O}{N:Nat}{u v:V}{la lb:List Int}{a b:Nat}(hu:Sl h N u (dI la))(hv:Sl h N v (dI lb))(da:Di la)(db:Di lb)(ea:vI la=a)(eb:vI lb=b)(hl:la.length+lb.length<1099511627776):Fn A.C 148 [u,v] h N (fun x h' n'=>Dn h' n' x (a*b)):=by
 intro w
 have lu:=hu.len
 have lv:=hv.len
 rw[Zat]at lu lv
 rw[Zab,A.k148 (by simp)]
 have cs:((la.length:Int)+(lb.length:Int)).toNat=la.length+lb.length:=by omega
 simp(disch:=first|(simp;done)|omega|rfl) [A.b148,lu,lv,cs]
 refine Zai [(6,9),(16,69)] (fun e r st=>e=.exit 0∧MuA h N la lb 0 r st) (MuA h N la lb) la.length ?_ ?_ ?_
 ·refine⟨by simp,Keeps.refl.new _,rfl,0,List.replicate (la.length+lb.length) 0,by omega,by simp,by simp[Zrc],by simp,Di.zeros _,fun t _ ht=>?_,by simp[Zqf,vI]⟩
  simp at ht
  simp[ht]
 ·rintro m r ⟨H,n1,W⟩ hr hf ⟨hW,hK,hn,i,out,hi,h6,hrow,hol,hdi,hz,hv0⟩
  simp only at hW hK hn hrow
  subst hn
  rw[Zah]
  cases m with
  |zero=>
   have:i=la.length:=by omega
   subst this
   simp[A.lb148_1,hr,hf,h6,lu]
   exact⟨hW,hK,rfl,la.length,out,by omega,by simp[h6],hrow,hol,hdi,hz,hv0⟩
  |succ m=>
   obtain⟨x,hx⟩:=Zae (l:=la) (k:=i) (by omega)
   obtain⟨b1,b2,b3,b4,b5,z1,z2,z3,z4⟩:=hu.at (Zbg hx)
   have z3:=(hK.get _ z2).trans z3
   have hxd:=da.get hx
   have hi1:(i:Int)<(la.length:Int):=by omega
   have hi2:i<la.length:=by omega
   simp[A.lb148_1,hr,hf,h6,hi1,hi2,lu]
   refine Zai [(7,9),(22,54)] (fun e r st=>e=.exit 2∧MuB h N la lb i out x 0 r st) (MuB h N la lb i out x) lb.length ?_ ?_ ?_
   ·exact⟨hW,hK,rfl,0,out,0,by omega,by simp,hrow,hol,by simp,by omega,by omega,hdi,hz,by simp[vI]⟩
   ·rintro m2 r2 ⟨H2,n2,W2⟩ hr2 hf2 ⟨hW2,hK2,hn2,k,out2,c,hk,h8,hrow2,hol2,h7,c0,c1,hdi2,hz2,hv2⟩
    simp only at hW2 hK2 hn2 hrow2
    subst hn2
    rw[Zah]
    cases m2 with
    |zero=>
     have:k=lb.length:=by omega
     subst this
     simp[A.lb148_0,hr,hr2,hf2,h8,lv]
     exact⟨hW2,hK2,rfl,lb.length,out2,c,by omega,by simp[h8],hrow2,hol2,by simp[h7],c0,c1,hdi2,hz2,hv2⟩
    |succ m2=>
     obtain⟨y,hy⟩:=Zae (l:=lb) (k:=k) (by omega)
     obtain⟨g1,g2,g3,g4,g5,y1,y2,y3,y4⟩:=hv.at (Zbg hy)
     have y3:=(hK2.get _ y2).trans y3
     have z3:=(hK2.get _ z2).trans ((hK.get _ z2).symm.trans z3)
     have hyd:=db.get hy
     obtain⟨o,ho⟩:=Zae (l:=out2) (k:=i+k) (by omega)
     have hod:=hdi2.get ho
     have hk1:(k:Int)<(lb.length:Int):=by omega
     have hk2:k<lb.length:=by omega
     have p0:0≤x*y:=Yx8 hxd.1 hyd.1
     have p1:x*y≤999999999*999999999:=Int.mul_le_mul (by omega) (by omega) hyd.1 (by omega)
     have q1:(i:Int)+(k:Int)<(la.length:Int)+(lb.length:Int):=by omega
     have q2:i+k<la.length+lb.length:=by omega
     have q3:(0:Int)≤(i:Int)+(k:Int):=by omega
     have t1:(o+x*y+c).tmod 1000000000=(o+x*y+c)%1000000000:=Yx6 (by omega)
     have t2:(o+x*y+c).tdiv 1000000000=(o+x*y+c)/1000000000:=Yxr (by omega)
     have w8:=Zat out2
     have w7:=Ziv (l:=out2) (k:=i+k) (v:=(o+x*y+c)%1000000000) (by omega)
     have e1:vI (out2.set (i+k) ((o+x*y+c)%1000000000))+pI (i+(k+1))*((o+x*y+c)/1000000000)=vI out+pI i*(x*vI (lb.take (k+1))):=by
      have hm:=Yyu (o+x*y+c) 1000000000
      rw[Zjw ho,Zbe hy,show i+(k+1)=(i+k)+1 by omega,Zdc]
      have hp:=Zwp i k
      generalize (o+x*y+c)/1000000000=Q at*
      generalize (o+x*y+c)%1000000000=R at*
      have:R=o+x*y+c-1000000000*Q:=by omega
      rw[this]
      have h3:vI out2=vI out+pI i*(x*vI (lb.take k))-pI (i+k)*c:=by omega
      rw[h3,hp]
      grind
     generalize hP:x*y=P at*
     have b1':Zar .i64 P=P:=Zaj (by omega) (by omega)
     have b2':Zar .i64 (o+P)=o+P:=Zaj (by omega) (by omega)
     have b3':Zar .i64 (o+P+c)=o+P+c:=Zaj (by omega) (by omega)
     have b4':Zar .i64 ((o+P+c)/1000000000)=(o+P+c)/1000000000:=Zaj (by omega) (by omega)
     have f1:b1<N+1:=by omega
     have f2:g1<N+1:=by omega
     have r0:=Yzh (o+P+c) (b:=1000000000) (by decide)
     have r1:=Yy5 (o+P+c) (b:=1000000000) (by decide)
     have d0:0≤(o+P+c)/1000000000:=Int.ediv_nonneg (by omega) (by decide)
     have d1:(o+P+c)/1000000000<1000000000:=Int.ediv_lt_of_lt_mul (by decide) (by omega)
     simp(disch:=first|(simp;done)|omega|rfl) [-getElem?_pos,A.lb148_0,hr,hr2,hf2,h6,h7,h8,lu,lv,hk1,hk2,hi1,hi2,q1,q2,q3,hrow2,Zbg ho,z1,z2,z3,z4,y1,y2,y3,y4,hP,b1',b2',b3',b4',t1,t2,w7,cs,f1,f2]
     refine⟨m2,by omega,⟨by simp[Zaa,hW2],hK2.set (Yv5 N),rfl,k+1,_,_,by omega,by simp,by simp,by simp[hol2],by simp,d0,d1,hdi2.set r0 r1,fun t ht1 ht2=>?_,e1⟩⟩
     rw[Ywb (by omega)]
     exact hz2 t ht1 (by simpa using ht2)
   ·rintro _ r2 ⟨H2,n2,W2⟩ hr2 ⟨rfl,hW2,hK2,hn2,k,out2,c,hk,h8,hrow2,hol2,h7,c0,c1,hdi2,hz2,hv2⟩
    simp only at hW2 hK2 hn2 hrow2
    subst hn2
    have:k=lb.length:=by omega
    subst this
    have ho:=hz2 (i+lb.length) (by omega) (by omega)
    have hfi:=hf.inner (D':=[(7,9),(22,54)]) rfl (by simp) hr2
    have q1:(i:Int)+(lb.length:Int)<(la.length:Int)+(lb.length:Int):=by omega
    have q2:i+lb.length<la.length+lb.length:=by omega
    have q3:(0:Int)≤(i:Int)+(lb.length:Int):=by omega
    have w8:=Zat out2
    have w7:=Ziv (l:=out2) (k:=i+lb.length) (v:=c) (by omega)
    rw[Yym]at hv2
    have e1:vI (out2.set (i+lb.length) c)=vI (la.take (i+1))*vI lb:=by
     rw[Zjw ho,Zbe hx]
     have:vI out2+pI (i+lb.length)*(c-0)=vI out+pI i*(x*vI lb):=by rw[Int.sub_zero];exact hv2
     rw[this,hv0]
     grind
    simp(disch:=first|(simp;done)|omega|rfl) [-getElem?_pos,hr,hr2,h6,h7,lv,hrow2,Zbg ho,q1,q2,q3,w7,hfi,cs]
    refine⟨m,by omega,⟨by simp[Zaa,hW2],hK2.set (Yv5 N),rfl,i+1,_,by omega,by simp,by simp,by simp[hol2],hdi2.set c0 c1,fun t ht1 ht2=>?_,e1⟩⟩
    rw[Ywb (by omega)]
    exact hz2 t (by omega) (by simpa using ht2)
 ·rintro _ r ⟨H,n1,W⟩ hr ⟨rfl,hW,hK,hn,i,out,hi,h6,hrow,hol,hdi,hz,hv0⟩
  simp only at hW hK hn hrow
  subst hn
  have:i=la.length:=by omega
  subst this
  rw[Yym,ea,eb]at hv0
  have hs2:Sl H (N+1) (.slice N 0 (la.length+lb.length) (some (la.length+lb.length)) 1) (dI out):=Sl.row (by omega) hrow (by simp[hol]) (fun k hk=>by simp at hk;omega)
  simp[hr]
  refine Zac (Zgs hs2 (by omega)) ?_
  rintro y h2 n2 k2 hy
  rw[Zgm hdi (n:=a*b) (by rw[hv0];simp)]at hy
  simp[hr,Ret,hW]
  exact⟨hK.trans k2,hy⟩
open Go
variable {N i n n1:Nat} {h h1:T O} {r:T V} {v:V} {w:List Nat}
structure Upd (D:Nat→Prop) (h:T O) (n:Nat) (h':T O) (n':Nat):Prop where
 le:n≤n'
 get:∀i,i<n→¬D i→h'.get i=h.get i
def Upd.refl{D:Nat→Prop}:Upd D h n h n:=⟨Yv5 _,fun _ _ _=>rfl⟩
def Keeps.upd{D:Nat→Prop}{h':T O}{n':Nat}(k:Keeps h n h' n'):Upd D h n h' n':=⟨k.le,fun i hi _=>k.get i hi⟩
def Upd.trans{D:Nat→Prop}{h2:T O}{n2:Nat}(a:Upd D h n h1 n1)(b:Upd D h1 n1 h2 n2):Upd D h n h2 n2:=
 ⟨Yxt a.le b.le,fun i hi hd=>(b.get i (Ywf hi a.le) hd).trans (a.get i hi hd)⟩
def Upd.mono{D D2:Nat→Prop}(a:Upd D h n h1 n1)(hd:∀i,i<n→D i→D2 i):Upd D2 h n h1 n1:=⟨a.le,fun i hi hn=>a.get i hi fun hc=>hn (hd i hi hc)⟩
def Upd.set{D:Nat→Prop}{o:O}(a:Upd D h n h1 n1)(hi:D i∨n≤i):Upd D h n (h1.set i o) n1:=
 ⟨a.le,fun j hj hd=>by
  rw[T.get_set,Yv4 ?_]
  ·exact a.get j hj hd
  ·rintro rfl
   rcases hi with hi|hi
   ·exact hd hi
   ·omega⟩
def Upd.up{D:Nat→Prop}{n2:Nat}(a:Upd D h n h1 n1)(hn:n1≤n2):Upd D h n h1 n2:=⟨Yxt a.le hn,a.get⟩
def Upd.new{D:Nat→Prop}(a:Upd D h n h1 n1)(o:O):Upd D h n (h1.set n1 o) (n1+1):=(a.set (.inr a.le)).up (Yy6 _)
def Upd.keeps{D:Nat→Prop}{m:Nat}(a:Upd D h n h1 n1)(hm:m≤n)(hd:∀i,D i→m≤i):Keeps h m h1 n1:=⟨Yxt hm a.le,fun i hi=>a.get i (Ywf hi hm) fun hc=>by have:=hd i hc;omega⟩
def Zlj{N i:Nat}:∀{w:List Nat},i∈Zaa N w→i∈w∧i<N
 |[],h=>by simp[Zaa]at h
 |j::w,h=>by
  simp only[Zaa]at h
  split at h
  ·unfold Zf7 at h
   split at h
   ·have:=Zlj h;exact⟨Yw2 _ this.1,this.2⟩
   ·rcases Yxa.1 h with h|h
    ·subst h;exact⟨Yw6,by assumption⟩
    ·have:=Zlj h;exact⟨Yw2 _ this.1,this.2⟩
  ·have:=Zlj h;exact⟨Yw2 _ this.1,this.2⟩
def Zyx:Zaa N []=[]:=rfl
attribute [simp] Zyx
def Zlh(h:∀i∈w,N≤i):Zaa N w=[]:=Zpn h
def selV2(st:St)(i:Nat)(send:Option V)(zero:V):Option O→Option (V×St)
 |some (.chan cap buf)=>match send with
  |some v=>if buf.length<cap then some (.tup [.int .i64 0,.bool false],st.write i (.chan cap (buf++[v]))) else some (.tup [.int .i64 (-1),.bool false],st)
  |none=>match buf with
   |v::buf=>some (.tup [.int .i64 0,.bool true,v],st.write i (.chan cap buf))
   |[]=>some (.tup [.int .i64 (-1),.bool false,zero],st)
 |_=>none
def Yqb{st:St}{send:Option V}{zero:V}:Ysq st i send zero=selV2 st i send zero (st.h.get i):=by
 unfold Ysq selV2
 rcases st.h.get i with _|o
 ·rfl
 ·cases o with
  |chan cap buf=>cases send with
   |some v=>rfl
   |none=>cases buf<;>rfl
  |_=>cases send<;>rfl
def Yr9(C:Cx)(K:List Kf)(Q:Rs→Prop)(d:Nat)(ops:List Zbc)(r:T V)(n:Nat)(m:List Nat):Option (V×St)→Prop
 |some (v,st1)=>Run C (.reg::K) (Yfy (mops C.call ops ⟨r.set d v,n,m⟩ st1)) Q
 |none=>False
def Ysr(C:Cx)(K:List Kf)(Q:Rs→Prop)(d:Nat)(ops:List Zbc)(r:T V)(n:Nat)(m:List Nat)(st:St)(zero:V):Option V→Option (Option V)→Prop
 |some (.chan i),some sv=>Yr9 C K Q d ops r n m (selV2 st i sv zero (st.h.get i))
 |_,_=>False
def Ygw{C:Cx}{K:List Kf}{Q:Rs→Prop}{ro:Option Nat}{d:Nat}{ch:Src}{send:Option Src}{zero:V}{ops:List Zbc}{m:List Nat}{st:St}(hd:d<n):Run C K (exR (C.code ro (.regS (some d) ch send zero ops) ⟨r,n,m⟩ st)) Q↔Ysr C K Q d ops r n m st zero (ch.ev r) (evOpt r send):=by
 have e:C.code ro (.regS (some d) ch send zero ops) ⟨r,n,m⟩ st=Ziw (some d) ch send zero ops C.call C.code ro ⟨r,n,m⟩ st:=Cx.code_eq ..
 rw[e]
 unfold Ziw Ysr
 simp only[]
 rcases ch.ev r with _|v
 ·exact Zic
 ·cases v<;>try exact Zic
  rename_i i
  rcases evOpt r send with _|sv
  ·exact Zic
  ·simp only[Yqb]
   rcases selV2 st i sv zero (st.h.get i)with _|⟨v,st1⟩
   ·exact Zic
   ·simp only[Fr.put,hd,if_true,Yr9]
    refine Zay ?_
    show _=unw C K (Ze0 C .reg (Yfy (mops C.call ops ⟨r.set d v,n,m⟩ st1)))
    rcases mops C.call ops ⟨r.set d v,n,m⟩ st1 with _|⟨_,_⟩<;>rfl
def Ybs{C K Q d ops r n m st zero i sv}:Ysr C K Q d ops r n m st zero (some (.chan i)) (some sv)=Yr9 C K Q d ops r n m (selV2 st i sv zero (st.h.get i)):=rfl
def Ybr{C K Q d ops r n m v st1}:Yr9 C K Q d ops r n m (some (v,st1))=Run C (.reg::K) (Yfy (mops C.call ops ⟨r.set d v,n,m⟩ st1)) Q:=rfl
def Zym{st:St}{cap:Nat}{buf:List V}{zero:V}:selV2 st i none zero (some (.chan cap (v::buf)))=some (.tup [.int .i64 0,.bool true,v],st.write i (.chan cap buf)):=rfl
def Ybq{st:St}{cap:Nat}{zero:V}:selV2 st i none zero (some (.chan cap []))=some (.tup [.int .i64 (-1),.bool false,zero],st):=rfl
attribute [simp] Ygw Ybs Ybr Zym Ybq
def Yhw(st:St)(bytes:Nat):Option V→Option (V×St)
 |some (.int _ k)=>if k<0∨k > IntKind.i64.max∨bytes*k > 2^48-112 then none else some (.chan st.n,st.alloc (.chan k.toNat []))
 |_=>none
def Zul{bytes:Nat}{x:Src}{call:Za4}{st:St}:Zes bytes x call r st=Yhw st bytes (x.ev r):=by unfold Zes Yhw;rfl
def Zze{st:St}{kk:IntKind}{k:Int}(h0:0≤k)(h1:k≤100):Yhw st 16 (some (.int kk k))=some (.chan st.n,st.alloc (.chan k.toNat [])):=by
 unfold Yhw
 simp only[]
 rw[Yv4]
 have:IntKind.i64.max=9223372036854775807:=rfl
 omega
attribute [simp] Zul Zze
def Zel:V→List Nat
 |.slice i _ _ _ _=>[i]
 |_=>[]
def Sl.moved{D:Nat→Prop}{h':T O}{N':Nat}{l:List V}(s:Sl h N v l)(k:Upd D h N h' N')(hd:∀i∈Zel v,¬D i):Sl h' N' v l:=by
 rcases s with s|⟨i,o,cp,c,e,rw,rfl,h2,h3,h4⟩
 ·exact .inl s
 ·exact .inr ⟨i,o,cp,c,e,rw,rfl,Ywf h2 k.le,(k.get i h2 (hd i (by simp[Zel]))).trans h3,h4⟩
def Row(z:Nat)(e:TypeId)(h:T O)(v:V)(l:List (List V)):Prop:=(∀x∈l,x.length=z)∧((l=[]∧v=.nilslice)∨∃i x m,v=.slice i 0 l.length none z∧x.length=m*z∧h.get i=some (.cells (l.flatten++x) e true))
def Zik(l:List (List V))(x:List V):(l++[x]).flatten=l.flatten++x:=by simp
def Yrs(st:St)(size:Nat)(zero:List V):Option V→Option (V×St)
 |some v=>Zih size zero (.const v) Zrg .nil st
 |none=>none
structure Yv2 (z bytes:Nat) (e:TypeId) (zero:List V) (h:T O) (N:Nat) (v:V) (l:List (List V)) (k:Nat) (v1 v2 v3 v4:V) (h3 h4:T O) (w3:List Nat):Prop where
 a:∀w,∃u,Zc0 ⟨h,N,w⟩ z (some v) (some (some (.int .i64 k))) (some (some (.int .i64 ((k:Int)+1)))) (some (some (.int .i64 l.length)))=some (u,⟨h,N,w⟩)
 b:∀w,Zc0 ⟨h,N,w⟩ z (some v) (some none) (some (some (.int .i64 k))) (some none)=some (v1,⟨h,N,w⟩)
 c:∀w,Zc0 ⟨h,N,w⟩ z (some v) (some (some (.int .i64 ((k:Int)+1)))) (some none) (some none)=some (v2,⟨h,N,w⟩)
 d:∀w,Zb0 ⟨h,N,w⟩ z bytes e v1 v2=some (v3,⟨h3,N,w3++w⟩)
 len:Zo1 v3=some (l.length-1)
 f:∀w,Zc0 ⟨h3,N,w⟩ z (some v3) (some (some (.int .i64 ((l.length-1:Nat):Int)))) (some (some (.int .i64 l.length))) (some none)=some (v4,⟨h3,N,w⟩)
 g:∀w,∃i,i∈Zel v∧Yrs ⟨h3,N,w⟩ z zero (some v4)=some (.tup [],⟨h4,N,i::w⟩)
 w:∀i∈w3,i∈Zel v
 upd:Upd (fun i=>i∈Zel v) h N h4 N
 ids:Zel v3=Zel v
 row:Row z e h4 v3 (l.take k++l.drop (k+1))
def Zvp(st:St)(size:Nat):Option V→Option V→Option (V×St)
 |some d,some s=>Zft size (.const d) (.const s) Zrg .nil st
 |_,_=>none
def Ycp{size:Nat}{d s:Src}{call:Za4}{st:St}:Zft size d s call r st=Zvp st size (d.ev r) (s.ev r):=by
 unfold Zft Zvp
 rcases d.ev r with _|d
 ·rfl
 ·rcases s.ev r with _|s<;>rfl
def Yah{cp:Option Nat}{c xs:List V}{e:TypeId}{s:V}(hn:0<n)(hs:Zaz ⟨h,N,w⟩ 1 s=some (n,xs))(hx:xs.length=n)(hg:h.get i=some (.cells c e true))(hc:c.length=n):Zvp ⟨h,N,w⟩ 1 (some (.slice i 0 n cp 1)) (some s)=some (.int .i64 n,⟨h.set i (.cells xs e true),N,i::w⟩):=by
 have hn0:¬n=0:=by omega
 have hd:c.drop n=[]:=List.drop_of_length_le (by omega)
 have ht:xs.take n=xs:=Ywe (by omega)
 simp only[Zvp,Zft,Src.ev,hs,St.row,hg]
 simp[hn0,hc,splice,St.write,ht,hx,hd]
def Ye7{cp:Option Nat}{xs:List V}{s:V}(hs:Zaz ⟨h,N,w⟩ 1 s=some (0,xs)):Zvp ⟨h,N,w⟩ 1 (some (.slice i 0 0 cp 1)) (some s)=some (.int .i64 0,⟨h,N,w⟩):=by
 simp only[Zvp,Zft,Src.ev,hs]
 simp
attribute [simp] Ycp
def Zrl(e:TypeId)(Y:V→Prop)(h:T O)(u:V):Prop:=∀i∈Zel u,∃z,h.get i=some (.cells z e true)∧z≠[]∧∀y∈z,Y y
def Zrl.nil{e:TypeId}{Y:V→Prop}:Zrl e Y h .nilslice:=fun i hi=>by simp[Zel]at hi
def Zdj{z:Nat}{e:TypeId}{N0:Nat}{u:V}{l:List (List V)}{x:List V}{bytes:Nat}{Y:V→Prop}(s:Own z e N0 h N v l)(hn:l=[]→v=.nilslice)(hY:∀c∈l,∀y∈c,Y y)(hN:N0≤N)(hz:0<z)(hx:x.length=z)
  (hu:Zaz ⟨h,N,w⟩ z u=some (1,x)) (hb:2*(l.length+1)*bytes≤281474976710656):
  ∃v' h' w',Zb0 ⟨h,N,w⟩ z bytes e v u=some (v',⟨h',N+1,w'⟩)∧Zaa N0 w'=Zaa N0 w∧Keeps h N0 h' (N+1)∧Upd (fun i=>i∈Zel v) h N h' (N+1)∧Zrl e Y h v∧Own z e N0 h' (N+1) v' (l++[x]):=by
 obtain⟨v',h',w',f1,f2,f3,f4,f5⟩:=Zbs s hN hz hx hu hb
 refine⟨v',h',w',f1,f2,f3,⟨Yy6 _,fun j hj hd=>?_⟩,fun i hi=>?_,f5⟩
 ·rcases f4 j with h1|h1|⟨o,n,c,q,h1⟩
  ·exact h1
  ·omega
  ·exact absurd (by rw[h1];simp[Zel]) hd
 ·obtain⟨hl,⟨rfl,rfl⟩|⟨j,rfl,h2,h3,h4⟩⟩:=s
  ·simp[Zel]at hi
  ·simp only[Zel,Yx0]at hi
   subst hi
   refine⟨_,h4,fun hc=>?_,fun y hy=>?_⟩
   ·have hfl:=Zbi hl
    rw[hc]at hfl
    have:l.length=0:=by
     rcases Nat.mul_eq_zero.1 hfl.symm with h|h
     ·exact h
     ·omega
    have:=hn (Yws this)
    cases this
   ·obtain⟨c,hc,hyc⟩:=List.mem_flatten.1 hy
    exact hY c hc y hyc
def Zmq{l:List Nat}:(l.any fun i=>Nat.ble n i&&Nat.blt i n)=false:=by
 rw[List.any_eq_false]
 intro i _ hc
 rw[Ywo]at hc
 have h1:=Yxb hc.1
 have h2:i<n:=Yxb hc.2
 omega
def Zkh{l:List Nat}:Zqy l (some [])=false:=by
 unfold Zqy
 rw[List.any_eq_false]
 intro i _ hc
 simp at hc
end Go.Mx
