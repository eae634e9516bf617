/-lensletref01-/
import Derived.Test.YtokjleejipaidaaGreatDoorMxDec
set_option linter.all false
namespace Go.Mx
noncomputable section
open Go Go.Proofs
variable {s:aQ}
set_option maxRecDepth 1000000
def A.OA:=A.q Tryz.f121
def A.nI:=A.ql A.OA 0 []
def A.b121:=(fun x0=>A.qb A.OA [x0]) A.nI
def A.k121:=@A.kk 121 17 [.tmp 2] A.b121 (by kernel_rfl) rfl
def A.OB:=A.q Tryz.f177
def A.jZ:=A.ql A.OB 0 []
def A.b177:=(fun x0=>A.qb A.OB [x0]) A.jZ
def A.k177:=@A.kk 177 20 [.tmp 2] A.b177 (by kernel_rfl) rfl
def A.b122:=A.q Tryz.f122
def A.k122:=@A.kk 122 18 [.tmp 2] A.b122 (by kernel_rfl) rfl
def A.OC:=A.q Tryz.f218
def A.sI:=A.ql A.OC 0 []
def A.b218:=(fun x0=>A.qb A.OC [x0]) A.sI
def A.k218:=@A.kk 218 20 [.tmp 2] A.b218 (by kernel_rfl) rfl
def F7{st:St}(hl:s.length<4611686018427387904):A.C.call (.func 121 [] []) [.str s] st=some (.int .i64 (ah s:Nat),st):=by
 apply Call.eq
 rw[aM,A.k121 (by simp)]
 simp(disch:=first|(simp;done)|omega|rfl) [-getElem?_pos,A.b121]
 refine bA [(2,14)] (fun e r s1=>s1=⟨st.h,st.n,[]⟩/\((e=.exit 0/\ah s=s.length)\/(e=.ret/\r.get 2=some (.int .i64 (ah s:Nat))))) (fun m r s1=>s1=⟨st.h,st.n,[]⟩/\∃k,k+m=s.length/\r.get 3=some (.int .i64 k)/\ah s=k+ah (s.drop k)) s.length ?_ ?_ ?_
 ·exact⟨rfl,0,by omega,by simp,by simp⟩
 ·rintro m r _ hr hf ⟨rfl,k,hk,h3,hz⟩
  rw[bb]
  cases m with
  |zero=>
   have:k=s.length:=by omega
   subst this
   rw[mK,ah]at hz
   simp(disch:=first|(simp;done)|omega|rfl) [-getElem?_pos,A.nI,hr,hf,h3]
   omega
  |succ m=>
   obtain⟨c,hc⟩:=a_ (l:=s) (k:=k) (by omega)
   have bG:(k:Int)<(s.length:Int):=by omega
   have eF:k<s.length:=by omega
   rw[f_ hc,ah]at hz
   by_cases h47:cK c=47
   ·rw[ax (by unfold cK at h47;omega)]at hz
    simp(disch:=first|(simp;done)|omega|rfl) [-getElem?_pos,A.nI,hr,hf,h3,bG,eF,hc,h47,aJ]
    rw[hz];simp
   ·rw[ak (by unfold cK at h47;omega)]at hz
    simp(disch:=first|(simp;done)|omega|rfl) [-getElem?_pos,A.nI,hr,hf,h3,bG,eF,hc,h47,aJ]
    exact⟨m,by omega,k+1,by omega,by simp,by omega⟩
 ·rintro e r _ hr ⟨rfl,⟨rfl,hz⟩|⟨rfl,h2⟩⟩
  ·simp(disch:=first|(simp;done)|omega|rfl) [-getElem?_pos,hr,hz]
  ·simp(disch:=first|(simp;done)|omega|rfl) [-getElem?_pos,hr,h2]
def Yga{st:St}(hl:s.length<4611686018427387904):A.C.call (.func 177 [] []) [.str s] st=some (.bool (cI s),st):=by
 apply Call.eq
 rw[aM,A.k177 (by simp)]
 simp(disch:=first|(simp;done)|omega|rfl) [-getElem?_pos,A.b177]
 refine bA [(2,19)] (fun e r s1=>s1=⟨st.h,st.n,[]⟩/\((e=.exit 0/\cI s=true)\/(e=.ret/\cI s=false/\r.get 2=some (.bool false)))) (fun m r s1=>s1=⟨st.h,st.n,[]⟩/\∃k,k+m=s.length/\r.get 3=some (.int .i64 k)/\cI s=cI (s.drop k)) s.length ?_ ?_ ?_
 ·exact⟨rfl,0,by omega,by simp,by simp⟩
 ·rintro m r _ hr hf ⟨rfl,k,hk,h3,hz⟩
  rw[bb]
  cases m with
  |zero=>
   have:k=s.length:=by omega
   subst this
   rw[mK]at hz
   have hz:cI s=true:=hz
   simp(disch:=first|(simp;done)|omega|rfl) [A.jZ,hr,hf,h3,hz]
  |succ m=>
   obtain⟨c,hc⟩:=a_ (l:=s) (k:=k) (by omega)
   have bG:(k:Int)<(s.length:Int):=by omega
   have eF:k<s.length:=by omega
   have eg:cI s=(kl c&&cI (s.drop (k+1))):=by rw[hz,f_ hc];rfl
   rw[Xa]at eg
   by_cases h1:cK c<48
   ·have:¬(48<=cK c/\cK c<=57):=by omega
    rw[decide_eq_false this,CW]at eg
    simp(disch:=first|(simp;done)|omega|rfl) [-getElem?_pos,A.jZ,hr,hf,h3,bG,eF,hc,h1,eg]
   ·by_cases h2:57<cK c
    ·have:¬(48<=cK c/\cK c<=57):=by omega
     rw[decide_eq_false this,CW]at eg
     simp(disch:=first|(simp;done)|omega|rfl) [-getElem?_pos,A.jZ,hr,hf,h3,bG,eF,hc,h1,h2,eg]
    ·have:(48<=cK c/\cK c<=57):=by omega
     rw[decide_eq_true this,Bool.true_and]at eg
     simp(disch:=first|(simp;done)|omega|rfl) [-getElem?_pos,A.jZ,hr,hf,h3,bG,eF,hc,h1,h2]
     exact⟨m,by omega,k+1,by omega,by simp,eg⟩
 ·rintro e r _ hr ⟨rfl,⟨rfl,hz⟩|⟨rfl,hz,h2⟩⟩
  ·simp(disch:=first|(simp;done)|omega|rfl) [-getElem?_pos,hr,hz]
  ·simp(disch:=first|(simp;done)|omega|rfl) [-getElem?_pos,hr,h2,hz]
def OD{s:aQ}{st:St}(hl:s.length<4611686018427387904):A.C.call (.func 122 [] []) [.str s] st=some (.bool (ja s),st):=by
 apply Call.eq
 rw[aM,A.k122 (by simp)]
 cases s with
 |nil=>simp[A.b122,aJ,ja]
 |cons c s=>
  have hd:ja (c::s)=(cI (c::s)&&(decide (cK c≠48)||decide (s=[]))):=by
   have:decide (c.toNat≠48)=decide (cK c≠48):=by unfold cK;rw[decide_eq_decide];omega
   simp only[ja,this];rfl
  have hdg:=fun st=>Yga (s:=c::s) (st:=st) hl
  by_cases h0:s=[]
  ·subst h0
   simp[A.b122,aJ,hd,hdg]
  ·have h1:0<s.length:=by
    cases s with
    |nil=>exact absurd rfl h0
    |cons=>simp
   have a1:¬((s.length:Int)+1=0):=by omega
   have a2:(1:Int)<(s.length:Int)+1:=by omega
   have a3:(0:Int)<(s.length:Int):=by omega
   by_cases h48:cK c=48
   ·simp[A.b122,aJ,hd,hdg,h0,a1,a2,a3,h1,h48]
   ·simp[A.b122,aJ,hd,hdg,h0,a1,a2,a3,h1,h48]
def OE{st:St}(hd:cI s=true)(hl:s.length<=18):A.C.call (.func 218 [] []) [.str s] st=some (.int .i64 (aF s:Nat),st):=by
 apply Call.eq
 rw[aM,A.k218 (by simp)]
 simp[A.b218]
 refine bA [(3,18)] (fun e r s1=>s1=⟨st.h,st.n,[]⟩/\e=.exit 0/\r.get 3=some (.int .i64 (aF s:Nat))) (fun m r s1=>s1=⟨st.h,st.n,[]⟩/\∃k,k+m=s.length/\r.get 4=some (.int .i64 k)/\r.get 3=some (.int .i64 (aF (s.take k):Nat))) s.length ?_ ?_ ?_
 ·exact⟨rfl,0,by omega,by simp,by simp[aF]⟩
 ·rintro m r _ hr hf ⟨rfl,k,hk,h4,h3⟩
  rw[bb]
  cases m with
  |zero=>
   have:k=s.length:=by omega
   subst this
   rw[xE]at h3
   simp[A.sI,hr,hf,h4,h3]
  |succ m=>
   obtain⟨c,hc⟩:=a_ (l:=s) (k:=k) (by omega)
   have bG:(k:Int)<(s.length:Int):=by omega
   have eF:k<s.length:=by omega
   have uf:=LY hd hc
   have hv:=Xc hc
   have EE:=Q6 hd k (by omega)
   have pY:=Q7 (a:=k) (b:=17) (by omega)
   have b3:((aF (s.take (k+1)):Nat):Int)=10*(aF (s.take k):Nat)+cK c-48:=by
    rw[hv];unfold cK at*;omega
   have b4:((aF (s.take k):Nat):Int)<100000000000000000:=by
    have:(10:Nat)^17=100000000000000000:=by decide
    omega
   generalize hy:aF (s.take (k+1))=y at*
   generalize aF (s.take k)=x at*
   simp(disch:=first|(simp;done)|omega|rfl) [-getElem?_pos,A.sI,hr,hf,h4,h3,bG,eF,hc]
   exact⟨m,by omega,k+1,by omega,by simp,by rw[hy,b3]⟩
 ·rintro e r _ hr ⟨rfl,rfl,h3⟩
  simp[hr,h3]
def A.OF:=A.q Tryz.f222
def A.nJ:=A.ql A.OF 0 []
def A.b222:=(fun x0=>A.qb A.OF [x0]) A.nJ
def A.k222:=@A.kk 222 21 [.tmp 2] A.b222 (by kernel_rfl) rfl
def A.b219:=A.q Tryz.f219
def A.k219:=@A.kk 219 15 [.cell 4 (some 2)] A.b219 (by kernel_rfl) rfl
def A.OG:=A.q Tryz.f220
def A.j9:=A.ql A.OG 0 []
def A.b220:=(fun x0=>A.qb A.OG [x0]) A.j9
def A.k220:=@A.kk 220 41 [.tmp 4] A.b220 (by kernel_rfl) rfl
def A.OH:=A.q Tryz.f221
def A.sJ:=A.ql A.OH 0 []
def A.b221:=(fun x0=>A.qb A.OH [x0]) A.sJ
def A.k221:=@A.kk 221 39 [.tmp 4,.tmp 5] A.b221 (by kernel_rfl) rfl
def HV{h:T O}{N:Nat}{v:V}{l:List Int}(hs:Sl h N v (dI l))(hl:l.length<1152921504606846976):Fn A.C 222 [v] h N (fun v' h' N'=>Sl h' N' v' (dI (rP l))):=by
 intro w
 rw[aM,A.k222 (by simp)]
 simp[A.b222]
 refine bA [(0,0),(3,19)] (fun e r st=>e=.exit 0/\st=⟨h,N,[]⟩/\∃u,r.get 0=some u/\Sl h N u (dI (rP l))) (fun m r st=>st=⟨h,N,[]⟩/\m<=l.length/\∃u,r.get 0=some u/\Sl h N u (dI (l.take m))/\rP (l.take m)=rP l) l.length ?_ ?_ ?_
 ·exact⟨rfl,aO _,v,rfl,by rw[xE];exact hs,by rw[xE]⟩
 ·rintro m r _ hr hf ⟨rfl,hm,u,h0,hu,ht⟩
  rw[bb]
  have lu:=hu.len
  rw[gJ,gO,qt hm]at lu
  cases m with
  |zero=>
   simp[A.nJ,hr,hf,h0,lu]
   rw[<-ht];exact hu
  |succ k=>
   obtain⟨d,hd⟩:=a_ (l:=l) (k:=k) (by omega)
   have zk:(l.take (k+1))[k]?=some d:=by rw[iI,ax (by omega)];exact hd
   obtain⟨i,o,c,e,rw,q1,q2,q3,q4⟩:=hu.at (gK zk)
   have e1:l.take (k+1)=l.take k++[d]:=by rw[uQ,hd];rfl
   have k1:(0:Int)<(k:Int)+1:=by omega
   have k2:(k:Int)<(k:Int)+1:=by omega
   have k3:(k:Int)+1-1=(k:Int):=by omega
   by_cases hz:d=0
   ·subst hz
    rw[e1,WZ]at ht
    obtain⟨v',x1,x2⟩:=Es (w:=[]) hu (lo:=0) (hi:=k) (uN _) (by rw[gJ,gO];omega) none (some (.int .i64 k)) (.inr ⟨rfl,rfl⟩) (.inl rfl)
    have x3:((dI (l.take (k+1))).take k).drop 0=dI (l.take k):=by
     rw[zq,dI,<-List.map_take,List.take_take,qt (by omega)];rfl
    rw[x3]at x2
    simp(disch:=first|(simp;done)|omega|rfl) [A.nJ,hr,hf,h0,lu,k1,k2,k3,q1,q3,q4,aJ,BH,aB,x1]
    exact⟨k,by omega,by omega,x2,ht⟩
   ·rw[e1,Zp5 hz,<-e1]at ht
    simp(disch:=first|(simp;done)|omega|rfl) [A.nJ,hr,hf,h0,lu,k1,k2,k3,q1,q3,q4,aJ,hz]
    rw[<-ht];exact hu
 ·rintro _ r _ hr ⟨rfl,rfl,u,h0,hu⟩
  simp[hr,h0,az]
  exact⟨ab.refl,hu⟩
def Rg(h:T O)(N:Nat)(v:V)(z:Int):Prop:=∃u,v=.agg [.bool (decide (z<0)),u]/\Dn h N u z.natAbs
def yd{h:T O}{N:Nat}{v:V}{l:List Int}{b:Bool}{n:Nat}(hs:Sl h N v (dI l))(hd:Di l)(hn:vI l=n)(hl:l.length<1152921504606846976):Fn A.C 219 [.bool b,v] h N (fun v' h' N'=>Rg h' N' v' (if b=true then -(n:Int) else n)):=by
 intro w
 rw[aM,A.k219 (by simp)]
 simp[A.b219]
 refine ay (HV (hs.ad (ab.refl.new _)) hl) ?_
 rintro u h1 n1 k1 hu
 rw[Hv hd hn]at hu
 have lu:=hu.len
 rw[gJ]at lu
 have ye:=k1.le
 have al:=k1.get N (by omega)
 simp at al
 have Co:=hu.form.one
 have SJ:=hu.form.cells
 unfold V.one at Co
 unfold V.cells at SJ
 have k0:=(ab.refl (h:=h) (n:=N)).new (.cells [.bool false,.aa] 143 true)
 have kx:=fun o=>((k0.trans k1).set (i:=N) (o:=o) (aO N))
 have fy:=fun c1 (hc:c1.length=2)=>hu.setInt (i:=N) (c1:=c1) (e1:=143) (w1:=true) al (by intro x hx k m;simp at hx;rcases hx with rfl|rfl<;>simp) hc
 cases b with
 |false=>
  simp[lu,ae,al,Co,SJ,bD,aR,aC,az]
  refine⟨kx _,u,?_,?_⟩
  ·have:¬(n:Int)<0:=by omega
   simp
  ·exact fy _ rfl
 |true=>
  by_cases hz:n=0
  ·have eG:(ds n).length=0:=by rw[hz,tX];rfl
   simp[lu,eG,ae,al,Co,SJ,bD,aR,aC,az]
   refine⟨kx _,u,?_,?_⟩
   ·simp[hz]
   ·simpa[hz,Dn]using fy _ rfl
  ·have eG:¬(ds n).length=0:=fun hc=>hz (Da.1 (rm hc))
   have Fu:(0:Int)<((ds n).length:Int):=by omega
   have gj:0<(ds n).length:=by omega
   have hl3:ds n≠[]:=fun hc=>hz (Da.1 hc)
   simp[lu,Fu,gj,hl3,ae,al,Co,SJ,bD,aR,aC,az]
   refine⟨kx _,u,?_,?_⟩
   ·have: -(n:Int)<0:=by omega
    simp[this];try omega
   ·simpa[Dn]using fy _ rfl
def vc:∀{b a:Nat},a<=b->(ds a).length<=(ds b).length:=by
 intro b
 induction b using Nat.strongRecOn with
 |_ b ih=>
  intro a h
  by_cases h0:a=0
  ·rw[h0,tX];simp
  ·rw[AG h0,AG (n:=b) (by omega)]
   have:=ih (b/1000000000) (CV (by omega) (by decide)) (a:=a/1000000000) (Nat.div_le_div_right h)
   simp only[bo];omega
def OI{A:List Int}{k:Nat}{x:Int}(hx:A[k]?=some x):vI A=vI (A.take k)+pI k*(x+1000000000*vI (A.drop (k+1))):=by
 have hk:=jt hx
 rw[LV A k (by omega),f_ hx,vI]
def Ymw{A B:List Int}{k:Nat}{x y:Int}(hA:Di A)(hB:Di B)(hx:A[k]?=some x)(hy:B[k]?=some y)(he:A.drop (k+1)=B.drop (k+1))(SK:x<y):vI A<vI B:=by
 have hk:=jt hx
 rw[OI hx,OI hy,he]
 have h1:=we (hA.take k)
 have h2:=wc (hB.take k)
 rw[gO,qt (by omega)]at h1
 have h3:pI k*(x+1000000000*vI (B.drop (k+1))+1)<=pI k*(y+1000000000*vI (B.drop (k+1))):=rI (by omega) (uY (C7 k))
 have h4:pI k*(x+1000000000*vI (B.drop (k+1))+1)=pI k*(x+1000000000*vI (B.drop (k+1)))+pI k:=by grind
 omega
def Cf(a b:Nat):Int:=if a<b then -1 else if b<a then 1 else 0
def Yj{h:T O}{N:Nat}{u v:V}{a b:Nat}{w:List Nat}(hu:Dn h N u a)(hv:Dn h N v b)(hl:(ds a).length<1152921504606846976)(gj:(ds b).length<1152921504606846976):A.C.call (.func 220 [] []) [u,v] ⟨h,N,w⟩=some (.int .i64 (Cf a b),⟨h,N,w⟩):=by
 apply Call.eq
 have lu:=hu.len
 have lv:=hv.len
 rw[gJ]at lu lv
 have va:=gF a
 have vb:=gF b
 have da:=fY a
 have db:=fY b
 rw[aM,A.k220 (by simp)]
 unfold Cf
 by_cases h1:(ds a).length=(ds b).length
 ·have fO:((ds a).length:Int)=((ds b).length:Int):=by omega
  simp(disch:=omega) [A.b220,lu,lv,aJ,h1]
  generalize hA:ds a=X at*
  generalize hB:ds b=Y at*
  refine bA [(4,5),(19,40)] (fun e r st=>st=⟨h,N,[]⟩/\((e=.exit 0/\a=b)\/(e=.ret/\a<b/\r.get 4=some (.int .i64 (-1)))\/(e=.ret/\b<a/\r.get 4=some (.int .i64 1)))) (fun m r st=>st=⟨h,N,[]⟩/\m<=X.length/\r.get 5=some (.int .i64 ((m:Int)-1))/\X.drop m=Y.drop m) X.length ?_ ?_ ?_
  ·exact⟨rfl,aO _,by simp[h1],by rw[mK,h1,mK]⟩
  ·rintro m r _ hr hf ⟨rfl,hm,h5,he⟩
   rw[bb]
   cases m with
   |zero=>
    have:a=b:=by
     simp at he;rw[he]at va;omega
    simp[A.j9,hr,hf,h5,this]
   |succ k=>
    obtain⟨x,hx⟩:=a_ (l:=X) (k:=k) (by omega)
    obtain⟨y,hy⟩:=a_ (l:=Y) (k:=k) (by omega)
    obtain⟨b1,b2,b3,b4,b5,z1,z2,z3,z4⟩:=Sl.at (show Sl h N u (dI (ds a)) from hu) (by rw[hA];exact gK hx)
    obtain⟨c1,c2,c3,c4,c5,y1,y2,y3,y4⟩:=Sl.at (show Sl h N v (dI (ds b)) from hv) (by rw[hB];exact gK hy)
    have qo:(((k+1:Nat):Int)-1)=(k:Int):=by omega
    rw[qo]at h5
    have bG:(k:Int)<(X.length:Int):=by omega
    have eF:(k:Int)<(Y.length:Int):=by omega
    have Ci:(0:Int)<=(k:Int):=by omega
    have hk4:k<Y.length:=by omega
    by_cases au:x<y
    ·have:=Ymw da db hx hy he au
     have ec:a<b:=by omega
     simp[A.j9,hr,hf,h5,lu,lv,bG,eF,Ci,hk4,z1,z2,z3,z4,y1,y2,y3,y4,au,ec]
    ·by_cases Kk:y<x
     ·have:=Ymw db da hy hx he.symm Kk
      have ec:b<a:=by omega
      have IS:¬a<b:=by omega
      simp[A.j9,hr,hf,h5,lu,lv,bG,eF,Ci,hk4,z1,z2,z3,z4,y1,y2,y3,y4,au,Kk,ec,IS]
     ·have SK:x=y:=by omega
      simp(disch:=first|(simp;done)|omega|rfl) [A.j9,hr,hf,h5,lu,lv,bG,eF,Ci,hk4,z1,z2,z3,z4,y1,y2,y3,y4,au,Kk]
      exact⟨k,by omega,by omega,rfl,by rw[f_ hx,f_ hy,he,SK]⟩
  ·rintro e r _ hr ⟨rfl,⟨rfl,hz⟩|⟨rfl,hz,h4⟩|⟨rfl,hz,h4⟩⟩
   ·simp[hr,hz]
   ·simp[hr,h4,hz]
   ·have:¬a<b:=by omega
    simp[hr,h4,hz,this]
 ·have fO:¬((ds a).length:Int)=((ds b).length:Int):=by omega
  by_cases h2:(ds a).length<(ds b).length
  ·have ec:a<b:=by
    apply tW;intro hc;have:=vc hc;omega
   simp[A.b220,lu,lv,aJ,h1,h2,ec]
  ·have ec:b<a:=by
    apply tW;intro hc;have:=vc hc;omega
   have IS:¬a<b:=by omega
   simp[A.b220,lu,lv,aJ,h1,h2,ec,IS]
structure DdA (h:T O) (N:Nat) (l:List Int) (d:Int) (m:Nat) (r:T V) (st:St):Prop where
 w:ar N st.w=[]
 ad:ab h N st.h (N+1)
 n:st.n=N+1
 r8:r.get 8=some (.int .i64 ((m:Int)-1))
 hm:m<=l.length
 ex:∃out rest,st.h.get N=some (.cells (dI out) 3 true)/\out.length=l.length/\r.get 7=some (.int .i64 rest)/\0<=rest/\rest<d/\Di (out.drop m)/\vI (out.drop m)*d+rest=vI (l.drop m)
def Zo3{h:T O}{N:Nat}{v:V}{l:List Int}{d:Int}(hs:Sl h N v (dI l))(hd:Di l)(hl:l.length<1099511627776)(h0:0<d)(h1:d<1000000000):Fn A.C 221 [v,.int .i64 d] h N (fun u h' n'=>∃q,u=.aV [q,.int .i64 ((vI l).toNat%d.toNat:Nat)]/\Dn h' n' q ((vI l).toNat/d.toNat)):=by
 intro w
 have lv:=hs.len
 rw[gJ]at lv
 rw[aM,A.k221 (by simp)]
 simp(disch:=first|(simp;done)|omega|rfl) [A.b221,lv]
 refine bA [(7,9),(16,35)] (fun e r st=>e=.exit 0/\DdA h N l d 0 r st) (DdA h N l d) l.length ?_ ?_ ?_
 ·refine⟨by simp,ab.refl.new _,rfl,by simp,aO _,List.replicate l.length 0,0,by simp[WY],by simp,by simp,by omega,h0,?_,?_⟩
  ·rw[qh (by simp)];exact Di.nil
  ·rw[qh (by simp),mK];simp[vI]
 ·rintro m r ⟨H,n1,W⟩ hr hf ⟨hW,hK,hn,h8,hm,out,rest,al,gZ,h7,d_,yF,iO,hv⟩
  simp only at hW hK hn al
  subst hn
  rw[bb]
  cases m with
  |zero=>
   simp[A.sJ,hr,hf,h8]
   exact⟨hW,hK,rfl,by simpa using h8,hm,out,rest,al,gZ,by simp[h7],d_,yF,iO,hv⟩
  |succ k=>
   obtain⟨x,hx⟩:=a_ (l:=l) (k:=k) (by omega)
   obtain⟨b1,b2,b3,b4,b5,z1,z2,z3,z4⟩:=hs.at (gK hx)
   have z3:=(hK.get _ z2).trans z3
   have OJ:=hd.get hx
   have qo:(((k+1:Nat):Int)-1)=(k:Int):=by omega
   rw[qo]at h8
   have bG:(k:Int)<(l.length:Int):=by omega
   have eF:k<l.length:=by omega
   have Ci:(0:Int)<=(k:Int):=by omega
   have w1:bh .i64 (rest*1000000000)=rest*1000000000:=cE (by omega) (by omega)
   have w2:bh .i64 (rest*1000000000+x)=rest*1000000000+x:=cE (by omega) (by omega)
   have s0:0<=rest*1000000000+x:=by omega
   have oO:¬d=0:=by omega
   have t1:(rest*1000000000+x).tdiv d=(rest*1000000000+x)/d:=BT s0
   have t2:(rest*1000000000+x).tmod d=(rest*1000000000+x)%d:=EI s0
   have t3:=EL (rest*1000000000+x) d
   have t4:0<=(rest*1000000000+x)/d:=Int.ediv_nonneg s0 (by omega)
   have t5:(rest*1000000000+x)/d<1000000000:=by
    apply Int.ediv_lt_of_lt_mul h0
    omega
   have t6:=EN (rest*1000000000+x) oO
   have t7:=EH (rest*1000000000+x) h0
   have w3:bh .i64 ((rest*1000000000+x)/d)=(rest*1000000000+x)/d:=cE (by omega) (by omega)
   have w8:=gJ out
   have w7:=B5 (l:=out) (k:=k) (v:=(rest*1000000000+x)/d) (by omega)
   simp(disch:=first|(simp;done)|omega|rfl) [A.sJ,hr,hf,h8,h7,bG,eF,Ci,lv,z1,z3,z4,w1,w2,w3,oO,t1,t2,al,w7]
   have e1:(out.set k ((rest*1000000000+x)/d)).drop k=((rest*1000000000+x)/d)::out.drop (k+1):=by
    rw[f_ (d:=(rest*1000000000+x)/d) (by rw[jB (by omega)])]
    rw[List.drop_set_of_lt (by omega)]
   generalize (rest*1000000000+x)/d=q at*
   generalize (rest*1000000000+x)%d=r' at*
   refine⟨k,by omega,⟨by simp[ar,hW],hK.set (aO N),rfl,by simp,by omega,out.set k q,r',by simp,by simp[gZ],by simp,t6,t7,?_,?_⟩⟩
   ·rw[e1];exact Di.app (Di.one t4 t5) iO
   ·rw[e1,f_ hx,vI,vI,<-hv]
    grind
 ·rintro _ r ⟨H,n1,W⟩ hr ⟨rfl,hW,hK,hn,h8,hm,out,rest,al,gZ,h7,d_,yF,iO,hv⟩
  simp only at hW hK hn al
  subst hn
  rw[zq,zq]at*
  have oV:Sl H (N+1) (.slice N 0 l.length (some l.length) 1) (dI out):=Sl.row (by omega) al (by simp[gZ]) (fun k hk=>by simp at hk;omega)
  simp[hr,h7]
  refine ay (HV oV (by omega)) ?_
  rintro u h2 n2 k2 hu
  have hvo:=wc iO
  have hvl:=wc hd
  have m1:(vI l).toNat/d.toNat=(vI out).toNat:=by
   have:(vI l)/d=vI out:=by
    rw[<-hv,Int.mul_comm,Int.add_comm,Int.add_mul_ediv_left _ _ (by omega),Int.ediv_eq_zero_of_lt d_ yF];omega
   rw[<-this]
   obtain⟨a,ha⟩:=EK hvl
   obtain⟨b,hb⟩:=EK (uY h0)
   rw[ha,hb];rfl
  have m2:(((vI l).toNat%d.toNat:Nat):Int)=rest:=by
   have:(vI l)%d=rest:=by
    rw[<-hv,Int.mul_comm,Int.add_comm,Int.add_mul_emod_self_left,Int.emod_eq_of_lt d_ yF]
   rw[<-this]
   obtain⟨a,ha⟩:=EK hvl
   obtain⟨b,hb⟩:=EK (uY h0)
   rw[ha,hb];rfl
  rw[W7 iO]at hu
  have m2':rest=max (vI l) 0%max d 0:=by rw[<-m2];simp
  simp[hr,h7,az,hW]
  refine⟨hK.trans k2,u,⟨rfl,m2'⟩,?_⟩
  rw[m1]
  exact hu
def A.IT:=A.q Tryz.f223
def A.sK:=A.ql A.IT 1 []
def A.sL:=(fun x0=>A.ql A.IT 0 [x0]) A.sK
def A.b223:=(fun x0=>A.qb A.IT [x0]) A.sL
def A.k223:=@A.kk 223 72 [.tmp 4] A.b223 (by kernel_rfl) rfl
structure MuB (h:T O) (N:Nat) (la lb:List Int) (i:Nat) (zaa:List Int) (a:Int) (m:Nat) (r:T V) (st:St):Prop where
 w:ar N st.w=[]
 ad:ab h N st.h (N+1)
 n:st.n=N+1
 ex:∃k out c,k+m=lb.length/\r.get 8=some (.int .i64 k)/\st.h.get N=some (.cells (dI out) 3 true)/\out.length=la.length+lb.length/\r.get 7=some (.int .i64 c)/\0<=c/\c<1000000000/\Di out/\(∀t,i+lb.length<=t->t<out.length->out[t]?=some 0)/\vI out+pI (i+k)*c=vI zaa+pI i*(a*vI (lb.take k))
structure MuA (h:T O) (N:Nat) (la lb:List Int) (m:Nat) (r:T V) (st:St):Prop where
 w:ar N st.w=[]
 ad:ab h N st.h (N+1)
 n:st.n=N+1
 ex:∃i out,i+m=la.length/\r.get 6=some (.int .i64 i)/\st.h.get N=some (.cells (dI out) 3 true)/\out.length=la.length+lb.length/\Di out/\(∀t,i+lb.length<=t->t<out.length->out[t]?=some 0)/\vI out=vI (la.take i)*vI lb
def Yi{h:T O}{N:Nat}{u v:V}{la lb:List Int}{a b:Nat}(hu:Sl h N u (dI la))(hv:Sl h N v (dI lb))(da:Di la)(db:Di lb)(ea:vI la=a)(eb:vI lb=b)(hl:la.length+lb.length<1099511627776):Fn A.C 223 [u,v] h N (fun x h' n'=>Dn h' n' x (a*b)):=by
 intro w
 have lu:=hu.len
 have lv:=hv.len
 rw[gJ]at lu lv
 rw[aM,A.k223 (by simp)]
 have cs:((la.length:Int)+(lb.length:Int)).toNat=la.length+lb.length:=by omega
 simp(disch:=first|(simp;done)|omega|rfl) [A.b223,lu,lv,cs]
 refine bA [(6,9),(16,69)] (fun e r st=>e=.exit 0/\MuA h N la lb 0 r st) (MuA h N la lb) la.length ?_ ?_ ?_
 ·refine⟨by simp,ab.refl.new _,rfl,0,List.replicate (la.length+lb.length) 0,by omega,by simp,by simp[WY],by simp,Di.Fb _,fun t _ ht=>?_,by simp[WU,vI]⟩
  simp at ht
  simp[ht]
 ·rintro m r ⟨H,n1,W⟩ hr hf ⟨hW,hK,hn,i,out,hi,h6,al,gZ,iO,hz,mA⟩
  simp only at hW hK hn al
  subst hn
  rw[bb]
  cases m with
  |zero=>
   have:i=la.length:=by omega
   subst this
   simp[A.sL,hr,hf,h6,lu]
   exact⟨hW,hK,rfl,la.length,out,by omega,by simp[h6],al,gZ,iO,hz,mA⟩
  |succ m=>
   obtain⟨x,hx⟩:=a_ (l:=la) (k:=i) (by omega)
   obtain⟨b1,b2,b3,b4,b5,z1,z2,z3,z4⟩:=hu.at (gK hx)
   have z3:=(hK.get _ z2).trans z3
   have OJ:=da.get hx
   have y_:(i:Int)<(la.length:Int):=by omega
   have DI:i<la.length:=by omega
   simp[A.sL,hr,hf,h6,y_,DI,lu]
   refine bA [(7,9),(22,54)] (fun e r st=>e=.exit 2/\MuB h N la lb i out x 0 r st) (MuB h N la lb i out x) lb.length ?_ ?_ ?_
   ·exact⟨hW,hK,rfl,0,out,0,by omega,by simp,al,gZ,by simp,by omega,by omega,iO,hz,by simp[vI]⟩
   ·rintro m2 r2 ⟨H2,n2,W2⟩ dt cG ⟨dZ,eQ,fg,k,pn,c,hk,h8,qN,D3,h7,c0,c1,kZ,eg,jL⟩
    simp only at dZ eQ fg qN
    subst fg
    rw[bb]
    cases m2 with
    |zero=>
     have:k=lb.length:=by omega
     subst this
     simp[A.sK,hr,dt,cG,h8,lv]
     exact⟨dZ,eQ,rfl,lb.length,pn,c,by omega,by simp[h8],qN,D3,by simp[h7],c0,c1,kZ,eg,jL⟩
    |succ m2=>
     obtain⟨y,hy⟩:=a_ (l:=lb) (k:=k) (by omega)
     obtain⟨g1,g2,g3,g4,g5,y1,y2,y3,y4⟩:=hv.at (gK hy)
     have y3:=(eQ.get _ y2).trans y3
     have z3:=(eQ.get _ z2).trans ((hK.get _ z2).symm.trans z3)
     have KP:=db.get hy
     obtain⟨o,ho⟩:=a_ (l:=pn) (k:=i+k) (by omega)
     have hod:=kZ.get ho
     have bG:(k:Int)<(lb.length:Int):=by omega
     have eF:k<lb.length:=by omega
     have p0:0<=x*y:=xO OJ.1 KP.1
     have p1:x*y<=999999999*999999999:=Int.mul_le_mul (by omega) (by omega) KP.1 (by omega)
     have q1:(i:Int)+(k:Int)<(la.length:Int)+(lb.length:Int):=by omega
     have q2:i+k<la.length+lb.length:=by omega
     have q3:(0:Int)<=(i:Int)+(k:Int):=by omega
     have t1:(o+x*y+c).tmod 1000000000=(o+x*y+c)%1000000000:=EI (by omega)
     have t2:(o+x*y+c).tdiv 1000000000=(o+x*y+c)/1000000000:=BT (by omega)
     have w8:=gJ pn
     have w7:=B5 (l:=pn) (k:=i+k) (v:=(o+x*y+c)%1000000000) (by omega)
     have e1:vI (pn.set (i+k) ((o+x*y+c)%1000000000))+pI (i+(k+1))*((o+x*y+c)/1000000000)=vI out+pI i*(x*vI (lb.take (k+1))):=by
      have hm:=EL (o+x*y+c) 1000000000
      rw[C9 ho,zK hy,show i+(k+1)=(i+k)+1 by omega,v_]
      have hp:=Q5 i k
      generalize (o+x*y+c)/1000000000=Q at*
      generalize (o+x*y+c)%1000000000=R at*
      have:R=o+x*y+c-1000000000*Q:=by omega
      rw[this]
      have h3:vI pn=vI out+pI i*(x*vI (lb.take k))-pI (i+k)*c:=by omega
      rw[h3,hp]
      grind
     generalize hP:x*y=P at*
     have b1':bh .i64 P=P:=cE (by omega) (by omega)
     have b2':bh .i64 (o+P)=o+P:=cE (by omega) (by omega)
     have b3':bh .i64 (o+P+c)=o+P+c:=cE (by omega) (by omega)
     have b4':bh .i64 ((o+P+c)/1000000000)=(o+P+c)/1000000000:=cE (by omega) (by omega)
     have f1:b1<N+1:=by omega
     have f2:g1<N+1:=by omega
     have r0:=EN (o+P+c) (b:=1000000000) (by decide)
     have r1:=EH (o+P+c) (b:=1000000000) (by decide)
     have d0:0<=(o+P+c)/1000000000:=Int.ediv_nonneg (by omega) (by decide)
     have d1:(o+P+c)/1000000000<1000000000:=Int.ediv_lt_of_lt_mul (by decide) (by omega)
     simp(disch:=first|(simp;done)|omega|rfl) [-getElem?_pos,A.sK,hr,dt,cG,h6,h7,h8,lu,lv,bG,eF,y_,DI,q1,q2,q3,qN,gK ho,z1,z2,z3,z4,y1,y2,y3,y4,hP,b1',b2',b3',b4',t1,t2,w7,cs,f1,f2]
     refine⟨m2,by omega,⟨by simp[ar,dZ],eQ.set (aO N),rfl,k+1,_,_,by omega,by simp,by simp,by simp[D3],by simp,d0,d1,kZ.set r0 r1,fun t Kz yg=>?_,e1⟩⟩
     rw[eH (by omega)]
     exact eg t Kz (by simpa using yg)
   ·rintro _ r2 ⟨H2,n2,W2⟩ dt ⟨rfl,dZ,eQ,fg,k,pn,c,hk,h8,qN,D3,h7,c0,c1,kZ,eg,jL⟩
    simp only at dZ eQ fg qN
    subst fg
    have:k=lb.length:=by omega
    subst this
    have ho:=eg (i+lb.length) (by omega) (by omega)
    have D4:=hf.inner (D':=[(7,9),(22,54)]) rfl (by simp) dt
    have q1:(i:Int)+(lb.length:Int)<(la.length:Int)+(lb.length:Int):=by omega
    have q2:i+lb.length<la.length+lb.length:=by omega
    have q3:(0:Int)<=(i:Int)+(lb.length:Int):=by omega
    have w8:=gJ pn
    have w7:=B5 (l:=pn) (k:=i+lb.length) (v:=c) (by omega)
    rw[xE]at jL
    have e1:vI (pn.set (i+lb.length) c)=vI (la.take (i+1))*vI lb:=by
     rw[C9 ho,zK hx]
     have:vI pn+pI (i+lb.length)*(c-0)=vI out+pI i*(x*vI lb):=by rw[Int.sub_zero];exact jL
     rw[this,mA]
     grind
    simp(disch:=first|(simp;done)|omega|rfl) [-getElem?_pos,hr,dt,h6,h7,lv,qN,gK ho,q1,q2,q3,w7,D4,cs]
    refine⟨m,by omega,⟨by simp[ar,dZ],eQ.set (aO N),rfl,i+1,_,by omega,by simp,by simp,by simp[D3],kZ.set c0 c1,fun t Kz yg=>?_,e1⟩⟩
    rw[eH (by omega)]
    exact eg t (by omega) (by simpa using yg)
 ·rintro _ r ⟨H,n1,W⟩ hr ⟨rfl,hW,hK,hn,i,out,hi,h6,al,gZ,iO,hz,mA⟩
  simp only at hW hK hn al
  subst hn
  have:i=la.length:=by omega
  subst this
  rw[xE,ea,eb]at mA
  have oV:Sl H (N+1) (.slice N 0 (la.length+lb.length) (some (la.length+lb.length)) 1) (dI out):=Sl.row (by omega) al (by simp[gZ]) (fun k hk=>by simp at hk;omega)
  simp[hr]
  refine ay (HV oV (by omega)) ?_
  rintro y h2 n2 k2 hy
  rw[Hv iO (n:=a*b) (by rw[mA];simp)]at hy
  simp[hr,az,hW]
  exact⟨hK.trans k2,hy⟩
open Go
variable {N i n n1:Nat} {h h1:T O} {r:T V} {v:V} {w:List Nat}
structure dS (D:Nat->Prop) (h:T O) (n:Nat) (h':T O) (n':Nat):Prop where
 le:n<=n'
 get:∀i,i<n->¬D i->h'.get i=h.get i
def dS.refl{D:Nat->Prop}:dS D h n h n:=⟨aO _,fun _ _ _=>rfl⟩
def ab.upd{D:Nat->Prop}{h':T O}{n':Nat}(k:ab h n h' n'):dS D h n h' n':=⟨k.le,fun i hi _=>k.get i hi⟩
def dS.trans{D:Nat->Prop}{h2:T O}{n2:Nat}(a:dS D h n h1 n1)(b:dS D h1 n1 h2 n2):dS D h n h2 n2:=
 ⟨p9 a.le b.le,fun i hi hd=>(b.get i (e_ hi a.le) hd).trans (a.get i hi hd)⟩
def dS.mono{D D2:Nat->Prop}(a:dS D h n h1 n1)(hd:∀i,i<n->D i->D2 i):dS D2 h n h1 n1:=⟨a.le,fun i hi hn=>a.get i hi fun hc=>hn (hd i hi hc)⟩
def dS.set{D:Nat->Prop}{o:O}(a:dS D h n h1 n1)(hi:D i\/n<=i):dS D h n (h1.set i o) n1:=
 ⟨a.le,fun j hj hd=>by
  rw[T.ag,ak ?_]
  ·exact a.get j hj hd
  ·rintro rfl
   rcases hi with hi|hi
   ·exact hd hi
   ·omega⟩
def dS.up{D:Nat->Prop}{n2:Nat}(a:dS D h n h1 n1)(hn:n1<=n2):dS D h n h1 n2:=⟨p9 a.le hn,a.get⟩
def dS.new{D:Nat->Prop}(a:dS D h n h1 n1)(o:O):dS D h n (h1.set n1 o) (n1+1):=(a.set (.inr a.le)).up (vF _)
def zz{N i:Nat}:∀{w:List Nat},i∈ar N w->i∈w/\i<N
 |[],h=>by simp[ar]at h
 |j::w,h=>by
  simp only[ar]at h
  split at h
  ·unfold vZ at h
   split at h
   ·have:=zz h;exact⟨pG _ this.1,this.2⟩
   ·rcases ku.1 h with h|h
    ·subst h;exact⟨pR,by assumption⟩
    ·have:=zz h;exact⟨pG _ this.1,this.2⟩
  ·have:=zz h;exact⟨pG _ this.1,this.2⟩
def Yaa:ar N []=[]:=rfl
attribute [simp] Yaa
def uK(h:∀i∈w,N<=i):ar N w=[]:=Zqj h
def po(st:St)(i:Nat)(send:Option V)(zero:V):Option O->Option (V×St)
 |some (.chan cap buf)=>match send with
  |some v=>if buf.length<cap then some (.aV [.int .i64 0,.bool false],st.write i (.chan cap (buf++[v]))) else some (.aV [.int .i64 (-1),.bool false],st)
  |none=>match buf with
   |v::buf=>some (.aV [.int .i64 0,.bool true,v],st.write i (.chan cap buf))
   |[]=>some (.aV [.int .i64 (-1),.bool false,zero],st)
 |_=>none
def Ysj{st:St}{send:Option V}{zero:V}:WO st i send zero=po st i send zero (st.h.get i):=by
 unfold WO po
 rcases st.h.get i with _|o
 ·rfl
 ·cases o with
  |chan cap buf=>cases send with
   |some v=>rfl
   |none=>cases buf<;>rfl
  |_=>cases send<;>rfl
def SL(C:Cx)(K:List Kf)(Q:Rs->Prop)(d:Nat)(ops:List dr)(r:T V)(n:Nat)(m:List Nat):Option (V×St)->Prop
 |some (v,bV)=>bz C (.dN::K) (Ca (dC C.call ops ⟨r.set d v,n,m⟩ bV)) Q
 |none=>False
def Yu2(C:Cx)(K:List Kf)(Q:Rs->Prop)(d:Nat)(ops:List dr)(r:T V)(n:Nat)(m:List Nat)(st:St)(zero:V):Option V->Option (Option V)->Prop
 |some (.chan i),some sv=>SL C K Q d ops r n m (po st i sv zero (st.h.get i))
 |_,_=>False
def Yih{C:Cx}{K:List Kf}{Q:Rs->Prop}{ro:Option Nat}{d:Nat}{ch:Src}{send:Option Src}{zero:V}{ops:List dr}{m:List Nat}{st:St}(hd:d<n):bz C K (eK (C.code ro (.yN (some d) ch send zero ops) ⟨r,n,m⟩ st)) Q↔Yu2 C K Q d ops r n m st zero (ch.ev r) (aB r send):=by
 have e:C.code ro (.yN (some d) ch send zero ops) ⟨r,n,m⟩ st=B0 (some d) ch send zero ops C.call C.code ro ⟨r,n,m⟩ st:=Cx.df ..
 rw[e]
 unfold B0 Yu2
 simp only[]
 rcases ch.ev r with _|v
 ·exact Ki
 ·cases v<;>try exact Ki
  rename_i i
  rcases aB r send with _|sv
  ·exact Ki
  ·simp only[Ysj]
   rcases po st i sv zero (st.h.get i)with _|⟨v,bV⟩
   ·exact Ki
   ·simp only[Fr.put,hd,if_true,SL]
    refine iW ?_
    show _=iH C K (lH C .dN (Ca (dC C.call ops ⟨r.set d v,n,m⟩ bV)))
    rcases dC C.call ops ⟨r.set d v,n,m⟩ bV with _|⟨_,_⟩<;>rfl
def Yc8{C K Q d ops r n m st zero i sv}:Yu2 C K Q d ops r n m st zero (some (.chan i)) (some sv)=SL C K Q d ops r n m (po st i sv zero (st.h.get i)):=rfl
def Yc7{C K Q d ops r n m v bV}:SL C K Q d ops r n m (some (v,bV))=bz C (.dN::K) (Ca (dC C.call ops ⟨r.set d v,n,m⟩ bV)) Q:=rfl
def Zzv{st:St}{cap:Nat}{buf:List V}{zero:V}:po st i none zero (some (.chan cap (v::buf)))=some (.aV [.int .i64 0,.bool true,v],st.write i (.chan cap buf)):=rfl
def Yc6{st:St}{cap:Nat}{zero:V}:po st i none zero (some (.chan cap []))=some (.aV [.int .i64 (-1),.bool false,zero],st):=rfl
attribute [simp] Yih Yc8 Yc7 Zzv Yc6
def SM(st:St)(bytes:Nat):Option V->Option (V×St)
 |some (.int _ k)=>if k<0\/k > IntKind.i64.max\/bytes*k > 2^48-112 then none else some (.chan st.n,st.alloc (.chan k.toNat []))
 |_=>none
def Zvy{bytes:Nat}{x:Src}{call:cH}{st:St}:EV bytes x call r st=SM st bytes (x.ev r):=by unfold EV SM;rfl
def Yar{st:St}{kk:IntKind}{k:Int}(h0:0<=k)(h1:k<=100):SM st 16 (some (.int kk k))=some (.chan st.n,st.alloc (.chan k.toNat [])):=by
 unfold SM
 simp only[]
 rw[ak]
 have:IntKind.i64.max=9223372036854775807:=rfl
 omega
attribute [simp] Zvy Yar
def cQ:V->List Nat
 |.slice i _ _ _ _=>[i]
 |_=>[]
def Sl.bO{D:Nat->Prop}{h':T O}{N':Nat}{l:List V}(s:Sl h N v l)(k:dS D h N h' N')(hd:∀i∈cQ v,¬D i):Sl h' N' v l:=by
 rcases s with s|⟨i,o,cp,c,e,rw,rfl,h2,h3,h4⟩
 ·exact .inl s
 ·exact .inr ⟨i,o,cp,c,e,rw,rfl,e_ h2 k.le,(k.get i h2 (hd i (by simp[cQ]))).trans h3,h4⟩
def Row(z:Nat)(e:TypeId)(h:T O)(v:V)(l:List (List V)):Prop:=(∀x∈l,x.length=z)/\((l=[]/\v=.aa)\/∃i x m,v=.slice i 0 l.length none z/\x.length=m*z/\h.get i=some (.cells (l.flatten++x) e true))
def KN(l:List (List V))(x:List V):(l++[x]).flatten=l.flatten++x:=by simp
def Yt4(st:St)(size:Nat)(zero:List V):Option V->Option (V×St)
 |some v=>J0 size zero (.const v) WS .nil st
 |none=>none
structure Yx6 (z bytes:Nat) (e:TypeId) (zero:List V) (h:T O) (N:Nat) (v:V) (l:List (List V)) (k:Nat) (v1 v2 v3 v4:V) (h3 h4:T O) (w3:List Nat):Prop where
 a:∀w,∃u,mR ⟨h,N,w⟩ z (some v) (some (some (.int .i64 k))) (some (some (.int .i64 ((k:Int)+1)))) (some (some (.int .i64 l.length)))=some (u,⟨h,N,w⟩)
 b:∀w,mR ⟨h,N,w⟩ z (some v) (some none) (some (some (.int .i64 k))) (some none)=some (v1,⟨h,N,w⟩)
 c:∀w,mR ⟨h,N,w⟩ z (some v) (some (some (.int .i64 ((k:Int)+1)))) (some none) (some none)=some (v2,⟨h,N,w⟩)
 d:∀w,gX ⟨h,N,w⟩ z bytes e v1 v2=some (v3,⟨h3,N,w3++w⟩)
 len:pA v3=some (l.length-1)
 f:∀w,mR ⟨h3,N,w⟩ z (some v3) (some (some (.int .i64 ((l.length-1:Nat):Int)))) (some (some (.int .i64 l.length))) (some none)=some (v4,⟨h3,N,w⟩)
 g:∀w,∃i,i∈cQ v/\Yt4 ⟨h3,N,w⟩ z zero (some v4)=some (.aV [],⟨h4,N,i::w⟩)
 w:∀i∈w3,i∈cQ v
 upd:dS (fun i=>i∈cQ v) h N h4 N
 ids:cQ v3=cQ v
 row:Row z e h4 v3 (l.take k++l.drop (k+1))
def SN(st:St)(size:Nat):Option V->Option V->Option (V×St)
 |some d,some s=>C3 size (.const d) (.const s) WS .nil st
 |_,_=>none
def Yd5{size:Nat}{d s:Src}{call:cH}{st:St}:C3 size d s call r st=SN st size (d.ev r) (s.ev r):=by
 unfold C3 SN
 rcases d.ev r with _|d
 ·rfl
 ·rcases s.ev r with _|s<;>rfl
def Ybv{cp:Option Nat}{c xs:List V}{e:TypeId}{s:V}(hn:0<n)(hs:ef ⟨h,N,w⟩ 1 s=some (n,xs))(hx:xs.length=n)(hg:h.get i=some (.cells c e true))(hc:c.length=n):SN ⟨h,N,w⟩ 1 (some (.slice i 0 n cp 1)) (some s)=some (.int .i64 n,⟨h.set i (.cells xs e true),N,i::w⟩):=by
 have jE:¬n=0:=by omega
 have hd:c.drop n=[]:=List.drop_of_length_le (by omega)
 have ht:xs.take n=xs:=fb (by omega)
 simp only[SN,C3,Src.ev,hs,St.row,hg]
 simp[jE,hc,ae,St.write,ht,hx,hd]
attribute [simp] Yd5
def mM(e:TypeId)(Y:V->Prop)(h:T O)(u:V):Prop:=∀i∈cQ u,∃z,h.get i=some (.cells z e true)/\z≠[]/\∀y∈z,Y y
def mM.nil{e:TypeId}{Y:V->Prop}:mM e Y h .aa:=fun i hi=>by simp[cQ]at hi
def En{z:Nat}{e:TypeId}{N0:Nat}{u:V}{l:List (List V)}{x:List V}{bytes:Nat}{Y:V->Prop}(s:Own z e N0 h N v l)(hn:l=[]->v=.aa)(hY:∀c∈l,∀y∈c,Y y)(hN:N0<=N)(hz:0<z)(hx:x.length=z)
  (hu:ef ⟨h,N,w⟩ z u=some (1,x)) (hb:2*(l.length+1)*bytes<=281474976710656):
  ∃v' h' w',gX ⟨h,N,w⟩ z bytes e v u=some (v',⟨h',N+1,w'⟩)/\ar N0 w'=ar N0 w/\ab h N0 h' (N+1)/\dS (fun i=>i∈cQ v) h N h' (N+1)/\mM e Y h v/\Own z e N0 h' (N+1) v' (l++[x]):=by
 obtain⟨v',h',w',f1,f2,f3,f4,f5⟩:=tJ s hN hz hx hu hb
 refine⟨v',h',w',f1,f2,f3,⟨vF _,fun j hj hd=>?_⟩,fun i hi=>?_,f5⟩
 ·rcases f4 j with h1|h1|⟨o,n,c,q,h1⟩
  ·exact h1
  ·omega
  ·exact absurd (by rw[h1];simp[cQ]) hd
 ·obtain⟨hl,⟨rfl,rfl⟩|⟨j,rfl,h2,h3,h4⟩⟩:=s
  ·simp[cQ]at hi
  ·simp only[cQ,xC]at hi
   subst hi
   refine⟨_,h4,fun hc=>?_,fun y hy=>?_⟩
   ·have lJ:=Aj hl
    rw[hc]at lJ
    have:l.length=0:=by
     rcases Nat.mul_eq_zero.1 lJ.symm with h|h
     ·exact h
     ·omega
    have:=hn (rm this)
    cases this
   ·obtain⟨c,hc,vG⟩:=List.mem_flatten.1 hy
    exact hY c hc y vG
def Zsq{l:List Nat}:(l.any fun i=>Nat.ble n i&&Nat.blt i n)=false:=by
 rw[List.any_eq_false]
 intro i _ hc
 rw[iz]at hc
 have h1:=vU hc.1
 have h2:i<n:=vU hc.2
 omega
def Zop{l:List Nat}:C4 l (some [])=false:=by
 unfold C4
 rw[List.any_eq_false]
 intro i _ hc
 simp at hc
end
end Go.Mx
