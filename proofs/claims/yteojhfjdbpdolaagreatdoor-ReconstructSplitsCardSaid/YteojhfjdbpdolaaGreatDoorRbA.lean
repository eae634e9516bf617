/-lensletref01-/
import Derived.Test.YteojhfjdbpdolaaGreatDoorMxDec
set_option linter.all false
namespace Go.Mx
noncomputable section
open Go Go.Proofs
variable {s:aQ}
set_option maxRecDepth 1000000
def A.NN:=A.q Tryz.f180
def A.nC:=A.ql A.NN 0 []
def A.b180:=(fun x0=>A.qb A.NN [x0]) A.nC
def A.k180:=@A.kk 180 17 [.tmp 2] A.b180 (by kernel_rfl) rfl
def A.NO:=A.q Tryz.f220
def A.jV:=A.ql A.NO 0 []
def A.b220:=(fun x0=>A.qb A.NO [x0]) A.jV
def A.k220:=@A.kk 220 20 [.tmp 2] A.b220 (by kernel_rfl) rfl
def A.b181:=A.q Tryz.f181
def A.k181:=@A.kk 181 18 [.tmp 2] A.b181 (by kernel_rfl) rfl
def A.NP:=A.q Tryz.f224
def A.rW:=A.ql A.NP 0 []
def A.b224:=(fun x0=>A.qb A.NP [x0]) A.rW
def A.k224:=@A.kk 224 20 [.tmp 2] A.b224 (by kernel_rfl) rfl
def Fk{st:St}(hl:s.length<4611686018427387904):A.C.call (.func 180 [] []) [.str s] st=some (.int .i64 (ah s:Nat),st):=by
 apply Call.eq
 rw[aR,A.k180 (by simp)]
 simp(disch:=first|(simp;done)|omega|rfl) [-getElem?_pos,A.b180]
 refine bL [(2,14)] (fun e r s1=>s1=⟨st.h,st.n,[]⟩/\((e=.exit 0/\ah s=s.length)\/(e=.ret/\r.get 2=some (.int .i64 (ah s:Nat))))) (fun m r s1=>s1=⟨st.h,st.n,[]⟩/\∃k,k+m=s.length/\r.get 3=some (.int .i64 k)/\ah s=k+ah (s.drop k)) s.length ?_ ?_ ?_
 ·exact⟨rfl,0,by omega,by simp,by simp⟩
 ·rintro m r _ hr hf ⟨rfl,k,hk,h3,hz⟩
  rw[bl]
  cases m with
  |zero=>
   have:k=s.length:=by omega
   subst this
   rw[qW,ah]at hz
   simp(disch:=first|(simp;done)|omega|rfl) [-getElem?_pos,A.nC,hr,hf,h3]
   omega
  |succ m=>
   obtain⟨c,hc⟩:=bk (l:=s) (k:=k) (by omega)
   have bM:(k:Int)<(s.length:Int):=by omega
   have er:k<s.length:=by omega
   rw[my hc,ah]at hz
   by_cases h47:cM c=47
   ·rw[av (by unfold cM at h47;omega)]at hz
    simp(disch:=first|(simp;done)|omega|rfl) [-getElem?_pos,A.nC,hr,hf,h3,bM,er,hc,h47,aG]
    rw[hz];simp
   ·rw[ak (by unfold cM at h47;omega)]at hz
    simp(disch:=first|(simp;done)|omega|rfl) [-getElem?_pos,A.nC,hr,hf,h3,bM,er,hc,h47,aG]
    exact⟨m,by omega,k+1,by omega,by simp,by omega⟩
 ·rintro e r _ hr ⟨rfl,⟨rfl,hz⟩|⟨rfl,h2⟩⟩
  ·simp(disch:=first|(simp;done)|omega|rfl) [-getElem?_pos,hr,hz]
  ·simp(disch:=first|(simp;done)|omega|rfl) [-getElem?_pos,hr,h2]
def Ygh{st:St}(hl:s.length<4611686018427387904):A.C.call (.func 220 [] []) [.str s] st=some (.bool (cJ s),st):=by
 apply Call.eq
 rw[aR,A.k220 (by simp)]
 simp(disch:=first|(simp;done)|omega|rfl) [-getElem?_pos,A.b220]
 refine bL [(2,19)] (fun e r s1=>s1=⟨st.h,st.n,[]⟩/\((e=.exit 0/\cJ s=true)\/(e=.ret/\cJ s=false/\r.get 2=some (.bool false)))) (fun m r s1=>s1=⟨st.h,st.n,[]⟩/\∃k,k+m=s.length/\r.get 3=some (.int .i64 k)/\cJ s=cJ (s.drop k)) s.length ?_ ?_ ?_
 ·exact⟨rfl,0,by omega,by simp,by simp⟩
 ·rintro m r _ hr hf ⟨rfl,k,hk,h3,hz⟩
  rw[bl]
  cases m with
  |zero=>
   have:k=s.length:=by omega
   subst this
   rw[qW]at hz
   have hz:cJ s=true:=hz
   simp(disch:=first|(simp;done)|omega|rfl) [A.jV,hr,hf,h3,hz]
  |succ m=>
   obtain⟨c,hc⟩:=bk (l:=s) (k:=k) (by omega)
   have bM:(k:Int)<(s.length:Int):=by omega
   have er:k<s.length:=by omega
   have dT:cJ s=(kj c&&cJ (s.drop (k+1))):=by rw[hz,my hc];rfl
   rw[Wz]at dT
   by_cases h1:cM c<48
   ·have:¬(48<=cM c/\cM c<=57):=by omega
    rw[decide_eq_false this,Cf]at dT
    simp(disch:=first|(simp;done)|omega|rfl) [-getElem?_pos,A.jV,hr,hf,h3,bM,er,hc,h1,dT]
   ·by_cases h2:57<cM c
    ·have:¬(48<=cM c/\cM c<=57):=by omega
     rw[decide_eq_false this,Cf]at dT
     simp(disch:=first|(simp;done)|omega|rfl) [-getElem?_pos,A.jV,hr,hf,h3,bM,er,hc,h1,h2,dT]
    ·have:(48<=cM c/\cM c<=57):=by omega
     rw[decide_eq_true this,Bool.true_and]at dT
     simp(disch:=first|(simp;done)|omega|rfl) [-getElem?_pos,A.jV,hr,hf,h3,bM,er,hc,h1,h2]
     exact⟨m,by omega,k+1,by omega,by simp,dT⟩
 ·rintro e r _ hr ⟨rfl,⟨rfl,hz⟩|⟨rfl,hz,h2⟩⟩
  ·simp(disch:=first|(simp;done)|omega|rfl) [-getElem?_pos,hr,hz]
  ·simp(disch:=first|(simp;done)|omega|rfl) [-getElem?_pos,hr,h2,hz]
def NQ{s:aQ}{st:St}(hl:s.length<4611686018427387904):A.C.call (.func 181 [] []) [.str s] st=some (.bool (iT s),st):=by
 apply Call.eq
 rw[aR,A.k181 (by simp)]
 cases s with
 |nil=>simp[A.b181,aG,iT]
 |cons c s=>
  have hd:iT (c::s)=(cJ (c::s)&&(decide (cM c≠48)||decide (s=[]))):=by
   have:decide (c.toNat≠48)=decide (cM c≠48):=by unfold cM;rw[decide_eq_decide];omega
   simp only[iT,this];rfl
  have ZS:=fun st=>Ygh (s:=c::s) (st:=st) hl
  by_cases h0:s=[]
  ·subst h0
   simp[A.b181,aG,hd,ZS]
  ·have h1:0<s.length:=by
    cases s with
    |nil=>exact absurd rfl h0
    |cons=>simp
   have a1:¬((s.length:Int)+1=0):=by omega
   have a2:(1:Int)<(s.length:Int)+1:=by omega
   have a3:(0:Int)<(s.length:Int):=by omega
   by_cases h48:cM c=48
   ·simp[A.b181,aG,hd,ZS,h0,a1,a2,a3,h1,h48]
   ·simp[A.b181,aG,hd,ZS,h0,a1,a2,a3,h1,h48]
def NR{st:St}(hd:cJ s=true)(hl:s.length<=18):A.C.call (.func 224 [] []) [.str s] st=some (.int .i64 (aH s:Nat),st):=by
 apply Call.eq
 rw[aR,A.k224 (by simp)]
 simp[A.b224]
 refine bL [(3,18)] (fun e r s1=>s1=⟨st.h,st.n,[]⟩/\e=.exit 0/\r.get 3=some (.int .i64 (aH s:Nat))) (fun m r s1=>s1=⟨st.h,st.n,[]⟩/\∃k,k+m=s.length/\r.get 4=some (.int .i64 k)/\r.get 3=some (.int .i64 (aH (s.take k):Nat))) s.length ?_ ?_ ?_
 ·exact⟨rfl,0,by omega,by simp,by simp[aH]⟩
 ·rintro m r _ hr hf ⟨rfl,k,hk,h4,h3⟩
  rw[bl]
  cases m with
  |zero=>
   have:k=s.length:=by omega
   subst this
   rw[xU]at h3
   simp[A.rW,hr,hf,h4,h3]
  |succ m=>
   obtain⟨c,hc⟩:=bk (l:=s) (k:=k) (by omega)
   have bM:(k:Int)<(s.length:Int):=by omega
   have er:k<s.length:=by omega
   have tr:=Lg hd hc
   have hv:=WB hc
   have ZM:=Qv hd k (by omega)
   have rC:=Qw (a:=k) (b:=17) (by omega)
   have b3:((aH (s.take (k+1)):Nat):Int)=10*(aH (s.take k):Nat)+cM c-48:=by
    rw[hv];unfold cM at*;omega
   have b4:((aH (s.take k):Nat):Int)<100000000000000000:=by
    have:(10:Nat)^17=100000000000000000:=by decide
    omega
   generalize hy:aH (s.take (k+1))=y at*
   generalize aH (s.take k)=x at*
   simp(disch:=first|(simp;done)|omega|rfl) [-getElem?_pos,A.rW,hr,hf,h4,h3,bM,er,hc]
   exact⟨m,by omega,k+1,by omega,by simp,by rw[hy,b3]⟩
 ·rintro e r _ hr ⟨rfl,rfl,h3⟩
  simp[hr,h3]
def A.NS:=A.q Tryz.f261
def A.nD:=A.ql A.NS 0 []
def A.b261:=(fun x0=>A.qb A.NS [x0]) A.nD
def A.k261:=@A.kk 261 21 [.tmp 2] A.b261 (by kernel_rfl) rfl
def A.b229:=A.q Tryz.f229
def A.k229:=@A.kk 229 15 [.cell 4 (some 2)] A.b229 (by kernel_rfl) rfl
def A.NT:=A.q Tryz.f231
def A.jW:=A.ql A.NT 0 []
def A.b231:=(fun x0=>A.qb A.NT [x0]) A.jW
def A.k231:=@A.kk 231 41 [.tmp 4] A.b231 (by kernel_rfl) rfl
def A.NU:=A.q Tryz.f260
def A.rX:=A.ql A.NU 0 []
def A.b260:=(fun x0=>A.qb A.NU [x0]) A.rX
def A.k260:=@A.kk 260 39 [.tmp 4,.tmp 5] A.b260 (by kernel_rfl) rfl
def Hj{h:T O}{N:Nat}{v:V}{l:List Int}(hs:Sl h N v (dI l))(hl:l.length<1152921504606846976):Fn A.C 261 [v] h N (fun v' h' N'=>Sl h' N' v' (dI (rj l))):=by
 intro w
 rw[aR,A.k261 (by simp)]
 simp[A.b261]
 refine bL [(0,0),(3,19)] (fun e r st=>e=.exit 0/\st=⟨h,N,[]⟩/\∃u,r.get 0=some u/\Sl h N u (dI (rj l))) (fun m r st=>st=⟨h,N,[]⟩/\m<=l.length/\∃u,r.get 0=some u/\Sl h N u (dI (l.take m))/\rj (l.take m)=rj l) l.length ?_ ?_ ?_
 ·exact⟨rfl,aM _,v,rfl,by rw[xU];exact hs,by rw[xU]⟩
 ·rintro m r _ hr hf ⟨rfl,hm,u,h0,hu,ht⟩
  rw[bl]
  have lu:=hu.len
  rw[fZ,gD,pV hm]at lu
  cases m with
  |zero=>
   simp[A.nD,hr,hf,h0,lu]
   rw[<-ht];exact hu
  |succ k=>
   obtain⟨d,hd⟩:=bk (l:=l) (k:=k) (by omega)
   have yE:(l.take (k+1))[k]?=some d:=by rw[iz,av (by omega)];exact hd
   obtain⟨i,o,c,e,rw,q1,q2,q3,q4⟩:=hu.at (fS yE)
   have e1:l.take (k+1)=l.take k++[d]:=by rw[uJ,hd];rfl
   have k1:(0:Int)<(k:Int)+1:=by omega
   have k2:(k:Int)<(k:Int)+1:=by omega
   have k3:(k:Int)+1-1=(k:Int):=by omega
   by_cases hz:d=0
   ·subst hz
    rw[e1,Wv]at ht
    obtain⟨v',x1,x2⟩:=DO (w:=[]) hu (lo:=0) (hi:=k) (tX _) (by rw[fZ,gD];omega) none (some (.int .i64 k)) (.inr ⟨rfl,rfl⟩) (.inl rfl)
    have x3:((dI (l.take (k+1))).take k).drop 0=dI (l.take k):=by
     rw[yJ,dI,<-List.map_take,List.take_take,pV (by omega)];rfl
    rw[x3]at x2
    simp(disch:=first|(simp;done)|omega|rfl) [A.nD,hr,hf,h0,lu,k1,k2,k3,q1,q3,q4,aG,zJ,aB,x1]
    exact⟨k,by omega,by omega,x2,ht⟩
   ·rw[e1,Zp9 hz,<-e1]at ht
    simp(disch:=first|(simp;done)|omega|rfl) [A.nD,hr,hf,h0,lu,k1,k2,k3,q1,q3,q4,aG,hz]
    rw[<-ht];exact hu
 ·rintro _ r _ hr ⟨rfl,rfl,u,h0,hu⟩
  simp[hr,h0,aE]
  exact⟨ab.refl,hu⟩
def Rg(h:T O)(N:Nat)(v:V)(z:Int):Prop:=∃u,v=.agg [.bool (decide (z<0)),u]/\Dn h N u z.natAbs
def xD{h:T O}{N:Nat}{v:V}{l:List Int}{b:Bool}{n:Nat}(hs:Sl h N v (dI l))(hd:Di l)(hn:vI l=n)(hl:l.length<1152921504606846976):Fn A.C 229 [.bool b,v] h N (fun v' h' N'=>Rg h' N' v' (if b=true then -(n:Int) else n)):=by
 intro w
 rw[aR,A.k229 (by simp)]
 simp[A.b229]
 refine aA (Hj (hs.ae (ab.refl.new _)) hl) ?_
 rintro u h1 n1 k1 hu
 rw[GI hd hn]at hu
 have lu:=hu.len
 rw[fZ]at lu
 have ve:=k1.le
 have aq:=k1.get N (by omega)
 simp at aq
 have BV:=hu.form.one
 have R9:=hu.form.cells
 unfold V.one at BV
 unfold V.cells at R9
 have k0:=(ab.refl (h:=h) (n:=N)).new (.cells [.bool false,.aa] 180 true)
 have kx:=fun o=>((k0.trans k1).set (i:=N) (o:=o) (aM N))
 have fG:=fun c1 (hc:c1.length=2)=>hu.setInt (i:=N) (c1:=c1) (e1:=180) (w1:=true) aq (by intro x hx k m;simp at hx;rcases hx with rfl|rfl<;>simp) hc
 cases b with
 |false=>
  simp[lu,ad,aq,BV,R9,bC,aO,aF,aE]
  refine⟨kx _,u,?_,?_⟩
  ·have:¬(n:Int)<0:=by omega
   simp
  ·exact fG _ rfl
 |true=>
  by_cases hz:n=0
  ·have gb:(ds n).length=0:=by rw[hz,th];rfl
   simp[lu,gb,ad,aq,BV,R9,bC,aO,aF,aE]
   refine⟨kx _,u,?_,?_⟩
   ·simp[hz]
   ·simpa[hz,Dn]using fG _ rfl
  ·have gb:¬(ds n).length=0:=fun hc=>hz (CI.1 (qE hc))
   have EA:(0:Int)<((ds n).length:Int):=by omega
   have iD:0<(ds n).length:=by omega
   have hl3:ds n≠[]:=fun hc=>hz (CI.1 hc)
   simp[lu,EA,iD,hl3,ad,aq,BV,R9,bC,aO,aF,aE]
   refine⟨kx _,u,?_,?_⟩
   ·have: -(n:Int)<0:=by omega
    simp[this];try omega
   ·simpa[Dn]using fG _ rfl
def uC:∀{b a:Nat},a<=b->(ds a).length<=(ds b).length:=by
 intro b
 induction b using Nat.strongRecOn with
 |_ b ih=>
  intro a h
  by_cases h0:a=0
  ·rw[h0,th];simp
  ·rw[Ag h0,Ag (n:=b) (by omega)]
   have:=ih (b/1000000000) (Cr (by omega) (by decide)) (a:=a/1000000000) (Nat.div_le_div_right h)
   simp only[bo];omega
def NV{A:List Int}{k:Nat}{x:Int}(hx:A[k]?=some x):vI A=vI (A.take k)+pI k*(x+1000000000*vI (A.drop (k+1))):=by
 have hk:=iY hx
 rw[Lc A k (by omega),my hx,vI]
def Ym3{A B:List Int}{k:Nat}{x y:Int}(hA:Di A)(hB:Di B)(hx:A[k]?=some x)(hy:B[k]?=some y)(he:A.drop (k+1)=B.drop (k+1))(Sa:x<y):vI A<vI B:=by
 have hk:=iY hx
 rw[NV hx,NV hy,he]
 have h1:=vC (hA.take k)
 have h2:=vA (hB.take k)
 rw[gD,pV (by omega)]at h1
 have h3:pI k*(x+1000000000*vI (B.drop (k+1))+1)<=pI k*(y+1000000000*vI (B.drop (k+1))):=rb (by omega) (uv (CF k))
 have h4:pI k*(x+1000000000*vI (B.drop (k+1))+1)=pI k*(x+1000000000*vI (B.drop (k+1)))+pI k:=by grind
 omega
def BL(a b:Nat):Int:=if a<b then -1 else if b<a then 1 else 0
def XV{h:T O}{N:Nat}{u v:V}{a b:Nat}{w:List Nat}(hu:Dn h N u a)(hv:Dn h N v b)(hl:(ds a).length<1152921504606846976)(iD:(ds b).length<1152921504606846976):A.C.call (.func 231 [] []) [u,v] ⟨h,N,w⟩=some (.int .i64 (BL a b),⟨h,N,w⟩):=by
 apply Call.eq
 have lu:=hu.len
 have lv:=hv.len
 rw[fZ]at lu lv
 have va:=gk a
 have vb:=gk b
 have da:=fV a
 have db:=fV b
 rw[aR,A.k231 (by simp)]
 unfold BL
 by_cases h1:(ds a).length=(ds b).length
 ·have fI:((ds a).length:Int)=((ds b).length:Int):=by omega
  simp(disch:=omega) [A.b231,lu,lv,aG,h1]
  generalize hA:ds a=X at*
  generalize hB:ds b=Y at*
  refine bL [(4,5),(19,40)] (fun e r st=>st=⟨h,N,[]⟩/\((e=.exit 0/\a=b)\/(e=.ret/\a<b/\r.get 4=some (.int .i64 (-1)))\/(e=.ret/\b<a/\r.get 4=some (.int .i64 1)))) (fun m r st=>st=⟨h,N,[]⟩/\m<=X.length/\r.get 5=some (.int .i64 ((m:Int)-1))/\X.drop m=Y.drop m) X.length ?_ ?_ ?_
  ·exact⟨rfl,aM _,by simp[h1],by rw[qW,h1,qW]⟩
  ·rintro m r _ hr hf ⟨rfl,hm,h5,he⟩
   rw[bl]
   cases m with
   |zero=>
    have:a=b:=by
     simp at he;rw[he]at va;omega
    simp[A.jW,hr,hf,h5,this]
   |succ k=>
    obtain⟨x,hx⟩:=bk (l:=X) (k:=k) (by omega)
    obtain⟨y,hy⟩:=bk (l:=Y) (k:=k) (by omega)
    obtain⟨b1,b2,b3,b4,b5,z1,z2,z3,z4⟩:=Sl.at (show Sl h N u (dI (ds a)) from hu) (by rw[hA];exact fS hx)
    obtain⟨c1,c2,c3,c4,c5,y1,y2,y3,y4⟩:=Sl.at (show Sl h N v (dI (ds b)) from hv) (by rw[hB];exact fS hy)
    have qk:(((k+1:Nat):Int)-1)=(k:Int):=by omega
    rw[qk]at h5
    have bM:(k:Int)<(X.length:Int):=by omega
    have er:(k:Int)<(Y.length:Int):=by omega
    have BP:(0:Int)<=(k:Int):=by omega
    have ZT:k<Y.length:=by omega
    by_cases ay:x<y
    ·have:=Ym3 da db hx hy he ay
     have gp:a<b:=by omega
     simp[A.jW,hr,hf,h5,lu,lv,bM,er,BP,ZT,z1,z2,z3,z4,y1,y2,y3,y4,ay,gp]
    ·by_cases Bb:y<x
     ·have:=Ym3 db da hy hx he.symm Bb
      have gp:b<a:=by omega
      have Ih:¬a<b:=by omega
      simp[A.jW,hr,hf,h5,lu,lv,bM,er,BP,ZT,z1,z2,z3,z4,y1,y2,y3,y4,ay,Bb,gp,Ih]
     ·have Sa:x=y:=by omega
      simp(disch:=first|(simp;done)|omega|rfl) [A.jW,hr,hf,h5,lu,lv,bM,er,BP,ZT,z1,z2,z3,z4,y1,y2,y3,y4,ay,Bb]
      exact⟨k,by omega,by omega,rfl,by rw[my hx,my hy,he,Sa]⟩
  ·rintro e r _ hr ⟨rfl,⟨rfl,hz⟩|⟨rfl,hz,h4⟩|⟨rfl,hz,h4⟩⟩
   ·simp[hr,hz]
   ·simp[hr,h4,hz]
   ·have:¬a<b:=by omega
    simp[hr,h4,hz,this]
 ·have fI:¬((ds a).length:Int)=((ds b).length:Int):=by omega
  by_cases h2:(ds a).length<(ds b).length
  ·have gp:a<b:=by
    apply tg;intro hc;have:=uC hc;omega
   simp[A.b231,lu,lv,aG,h1,h2,gp]
  ·have gp:b<a:=by
    apply tg;intro hc;have:=uC hc;omega
   have Ih:¬a<b:=by omega
   simp[A.b231,lu,lv,aG,h1,h2,gp,Ih]
structure DdA (h:T O) (N:Nat) (l:List Int) (d:Int) (m:Nat) (r:T V) (st:St):Prop where
 w:ax N st.w=[]
 ae:ab h N st.h (N+1)
 n:st.n=N+1
 r8:r.get 8=some (.int .i64 ((m:Int)-1))
 hm:m<=l.length
 ex:∃out rest,st.h.get N=some (.cells (dI out) 3 true)/\out.length=l.length/\r.get 7=some (.int .i64 rest)/\0<=rest/\rest<d/\Di (out.drop m)/\vI (out.drop m)*d+rest=vI (l.drop m)
def Zo7{h:T O}{N:Nat}{v:V}{l:List Int}{d:Int}(hs:Sl h N v (dI l))(hd:Di l)(hl:l.length<1099511627776)(h0:0<d)(h1:d<1000000000):Fn A.C 260 [v,.int .i64 d] h N (fun u h' n'=>∃q,u=.aX [q,.int .i64 ((vI l).toNat%d.toNat:Nat)]/\Dn h' n' q ((vI l).toNat/d.toNat)):=by
 intro w
 have lv:=hs.len
 rw[fZ]at lv
 rw[aR,A.k260 (by simp)]
 simp(disch:=first|(simp;done)|omega|rfl) [A.b260,lv]
 refine bL [(7,9),(16,35)] (fun e r st=>e=.exit 0/\DdA h N l d 0 r st) (DdA h N l d) l.length ?_ ?_ ?_
 ·refine⟨by simp,ab.refl.new _,rfl,by simp,aM _,List.replicate l.length 0,0,by simp[Wu],by simp,by simp,by omega,h0,?_,?_⟩
  ·rw[yC (by simp)];exact Di.nil
  ·rw[yC (by simp),qW];simp[vI]
 ·rintro m r ⟨H,n1,W⟩ hr hf ⟨hW,hK,hn,h8,hm,out,rest,aq,gV,h7,iS,yH,iJ,hv⟩
  simp only at hW hK hn aq
  subst hn
  rw[bl]
  cases m with
  |zero=>
   simp[A.rX,hr,hf,h8]
   exact⟨hW,hK,rfl,by simpa using h8,hm,out,rest,aq,gV,by simp[h7],iS,yH,iJ,hv⟩
  |succ k=>
   obtain⟨x,hx⟩:=bk (l:=l) (k:=k) (by omega)
   obtain⟨b1,b2,b3,b4,b5,z1,z2,z3,z4⟩:=hs.at (fS hx)
   have z3:=(hK.get _ z2).trans z3
   have NX:=hd.get hx
   have qk:(((k+1:Nat):Int)-1)=(k:Int):=by omega
   rw[qk]at h8
   have bM:(k:Int)<(l.length:Int):=by omega
   have er:k<l.length:=by omega
   have BP:(0:Int)<=(k:Int):=by omega
   have w1:bj .i64 (rest*1000000000)=rest*1000000000:=cD (by omega) (by omega)
   have w2:bj .i64 (rest*1000000000+x)=rest*1000000000+x:=cD (by omega) (by omega)
   have s0:0<=rest*1000000000+x:=by omega
   have nY:¬d=0:=by omega
   have t1:(rest*1000000000+x).tdiv d=(rest*1000000000+x)/d:=Bm s0
   have t2:(rest*1000000000+x).tmod d=(rest*1000000000+x)%d:=D4 s0
   have t3:=DZ (rest*1000000000+x) d
   have t4:0<=(rest*1000000000+x)/d:=Int.ediv_nonneg s0 (by omega)
   have t5:(rest*1000000000+x)/d<1000000000:=by
    apply Int.ediv_lt_of_lt_mul h0
    omega
   have t6:=Eb (rest*1000000000+x) nY
   have t7:=D9 (rest*1000000000+x) h0
   have w3:bj .i64 ((rest*1000000000+x)/d)=(rest*1000000000+x)/d:=cD (by omega) (by omega)
   have w8:=fZ out
   have w7:=zL (l:=out) (k:=k) (v:=(rest*1000000000+x)/d) (by omega)
   simp(disch:=first|(simp;done)|omega|rfl) [A.rX,hr,hf,h8,h7,bM,er,BP,lv,z1,z3,z4,w1,w2,w3,nY,t1,t2,aq,w7]
   have e1:(out.set k ((rest*1000000000+x)/d)).drop k=((rest*1000000000+x)/d)::out.drop (k+1):=by
    rw[my (d:=(rest*1000000000+x)/d) (by rw[gG (by omega)])]
    rw[List.drop_set_of_lt (by omega)]
   generalize (rest*1000000000+x)/d=q at*
   generalize (rest*1000000000+x)%d=r' at*
   refine⟨k,by omega,⟨by simp[ax,hW],hK.set (aM N),rfl,by simp,by omega,out.set k q,r',by simp,by simp[gV],by simp,t6,t7,?_,?_⟩⟩
   ·rw[e1];exact Di.app (Di.one t4 t5) iJ
   ·rw[e1,my hx,vI,vI,<-hv]
    grind
 ·rintro _ r ⟨H,n1,W⟩ hr ⟨rfl,hW,hK,hn,h8,hm,out,rest,aq,gV,h7,iS,yH,iJ,hv⟩
  simp only at hW hK hn aq
  subst hn
  rw[yJ,yJ]at*
  have kg:Sl H (N+1) (.slice N 0 l.length (some l.length) 1) (dI out):=Sl.row (by omega) aq (by simp[gV]) (fun k hk=>by simp at hk;omega)
  simp[hr,h7]
  refine aA (Hj kg (by omega)) ?_
  rintro u h2 n2 k2 hu
  have hvo:=vA iJ
  have PN:=vA hd
  have m1:(vI l).toNat/d.toNat=(vI out).toNat:=by
   have:(vI l)/d=vI out:=by
    rw[<-hv,Int.mul_comm,Int.add_comm,Int.add_mul_ediv_left _ _ (by omega),Int.ediv_eq_zero_of_lt iS yH];omega
   rw[<-this]
   obtain⟨a,ha⟩:=D6 PN
   obtain⟨b,hb⟩:=D6 (uv h0)
   rw[ha,hb];rfl
  have m2:(((vI l).toNat%d.toNat:Nat):Int)=rest:=by
   have:(vI l)%d=rest:=by
    rw[<-hv,Int.mul_comm,Int.add_comm,Int.add_mul_emod_self_left,Int.emod_eq_of_lt iS yH]
   rw[<-this]
   obtain⟨a,ha⟩:=D6 PN
   obtain⟨b,hb⟩:=D6 (uv h0)
   rw[ha,hb];rfl
  rw[Ww iJ]at hu
  have m2':rest=max (vI l) 0%max d 0:=by rw[<-m2];simp
  simp[hr,h7,aE,hW]
  refine⟨hK.trans k2,u,⟨rfl,m2'⟩,?_⟩
  rw[m1]
  exact hu
def A.Ii:=A.q Tryz.f233
def A.rY:=A.ql A.Ii 1 []
def A.rZ:=(fun x0=>A.ql A.Ii 0 [x0]) A.rY
def A.b233:=(fun x0=>A.qb A.Ii [x0]) A.rZ
def A.k233:=@A.kk 233 72 [.tmp 4] A.b233 (by kernel_rfl) rfl
structure MuB (h:T O) (N:Nat) (la lb:List Int) (i:Nat) (ZU:List Int) (a:Int) (m:Nat) (r:T V) (st:St):Prop where
 w:ax N st.w=[]
 ae:ab h N st.h (N+1)
 n:st.n=N+1
 ex:∃k out c,k+m=lb.length/\r.get 8=some (.int .i64 k)/\st.h.get N=some (.cells (dI out) 3 true)/\out.length=la.length+lb.length/\r.get 7=some (.int .i64 c)/\0<=c/\c<1000000000/\Di out/\(∀t,i+lb.length<=t->t<out.length->out[t]?=some 0)/\vI out+pI (i+k)*c=vI ZU+pI i*(a*vI (lb.take k))
structure MuA (h:T O) (N:Nat) (la lb:List Int) (m:Nat) (r:T V) (st:St):Prop where
 w:ax N st.w=[]
 ae:ab h N st.h (N+1)
 n:st.n=N+1
 ex:∃i out,i+m=la.length/\r.get 6=some (.int .i64 i)/\st.h.get N=some (.cells (dI out) 3 true)/\out.length=la.length+lb.length/\Di out/\(∀t,i+lb.length<=t->t<out.length->out[t]?=some 0)/\vI out=vI (la.take i)*vI lb
def XU{h:T O}{N:Nat}{u v:V}{la lb:List Int}{a b:Nat}(hu:Sl h N u (dI la))(hv:Sl h N v (dI lb))(da:Di la)(db:Di lb)(ea:vI la=a)(eb:vI lb=b)(hl:la.length+lb.length<1099511627776):Fn A.C 233 [u,v] h N (fun x h' n'=>Dn h' n' x (a*b)):=by
 intro w
 have lu:=hu.len
 have lv:=hv.len
 rw[fZ]at lu lv
 rw[aR,A.k233 (by simp)]
 have cs:((la.length:Int)+(lb.length:Int)).toNat=la.length+lb.length:=by omega
 simp(disch:=first|(simp;done)|omega|rfl) [A.b233,lu,lv,cs]
 refine bL [(6,9),(16,69)] (fun e r st=>e=.exit 0/\MuA h N la lb 0 r st) (MuA h N la lb) la.length ?_ ?_ ?_
 ·refine⟨by simp,ab.refl.new _,rfl,0,List.replicate (la.length+lb.length) 0,by omega,by simp,by simp[Wu],by simp,Di.Ek _,fun t _ ht=>?_,by simp[Wp,vI]⟩
  simp at ht
  simp[ht]
 ·rintro m r ⟨H,n1,W⟩ hr hf ⟨hW,hK,hn,i,out,hi,h6,aq,gV,iJ,hz,mj⟩
  simp only at hW hK hn aq
  subst hn
  rw[bl]
  cases m with
  |zero=>
   have:i=la.length:=by omega
   subst this
   simp[A.rZ,hr,hf,h6,lu]
   exact⟨hW,hK,rfl,la.length,out,by omega,by simp[h6],aq,gV,iJ,hz,mj⟩
  |succ m=>
   obtain⟨x,hx⟩:=bk (l:=la) (k:=i) (by omega)
   obtain⟨b1,b2,b3,b4,b5,z1,z2,z3,z4⟩:=hu.at (fS hx)
   have z3:=(hK.get _ z2).trans z3
   have NX:=da.get hx
   have xF:(i:Int)<(la.length:Int):=by omega
   have BO:i<la.length:=by omega
   simp[A.rZ,hr,hf,h6,xF,BO,lu]
   refine bL [(7,9),(22,54)] (fun e r st=>e=.exit 2/\MuB h N la lb i out x 0 r st) (MuB h N la lb i out x) lb.length ?_ ?_ ?_
   ·exact⟨hW,hK,rfl,0,out,0,by omega,by simp,aq,gV,by simp,by omega,by omega,iJ,hz,by simp[vI]⟩
   ·rintro m2 r2 ⟨H2,n2,W2⟩ cZ c9 ⟨eH,ib,eM,k,oM,c,hk,h8,qo,Ds,h7,c0,c1,kV,dT,iR⟩
    simp only at eH ib eM qo
    subst eM
    rw[bl]
    cases m2 with
    |zero=>
     have:k=lb.length:=by omega
     subst this
     simp[A.rY,hr,cZ,c9,h8,lv]
     exact⟨eH,ib,rfl,lb.length,oM,c,by omega,by simp[h8],qo,Ds,by simp[h7],c0,c1,kV,dT,iR⟩
    |succ m2=>
     obtain⟨y,hy⟩:=bk (l:=lb) (k:=k) (by omega)
     obtain⟨g1,g2,g3,g4,g5,y1,y2,y3,y4⟩:=hv.at (fS hy)
     have y3:=(ib.get _ y2).trans y3
     have z3:=(ib.get _ z2).trans ((hK.get _ z2).symm.trans z3)
     have J8:=db.get hy
     obtain⟨o,ho⟩:=bk (l:=oM) (k:=i+k) (by omega)
     have hod:=kV.get ho
     have bM:(k:Int)<(lb.length:Int):=by omega
     have er:k<lb.length:=by omega
     have p0:0<=x*y:=xh NX.1 J8.1
     have p1:x*y<=999999999*999999999:=Int.mul_le_mul (by omega) (by omega) J8.1 (by omega)
     have q1:(i:Int)+(k:Int)<(la.length:Int)+(lb.length:Int):=by omega
     have q2:i+k<la.length+lb.length:=by omega
     have q3:(0:Int)<=(i:Int)+(k:Int):=by omega
     have t1:(o+x*y+c).tmod 1000000000=(o+x*y+c)%1000000000:=D4 (by omega)
     have t2:(o+x*y+c).tdiv 1000000000=(o+x*y+c)/1000000000:=Bm (by omega)
     have w8:=fZ oM
     have w7:=zL (l:=oM) (k:=i+k) (v:=(o+x*y+c)%1000000000) (by omega)
     have e1:vI (oM.set (i+k) ((o+x*y+c)%1000000000))+pI (i+(k+1))*((o+x*y+c)/1000000000)=vI out+pI i*(x*vI (lb.take (k+1))):=by
      have hm:=DZ (o+x*y+c) 1000000000
      rw[CH ho,zf hy,show i+(k+1)=(i+k)+1 by omega,vz]
      have hp:=Qu i k
      generalize (o+x*y+c)/1000000000=Q at*
      generalize (o+x*y+c)%1000000000=R at*
      have:R=o+x*y+c-1000000000*Q:=by omega
      rw[this]
      have h3:vI oM=vI out+pI i*(x*vI (lb.take k))-pI (i+k)*c:=by omega
      rw[h3,hp]
      grind
     generalize hP:x*y=P at*
     have b1':bj .i64 P=P:=cD (by omega) (by omega)
     have b2':bj .i64 (o+P)=o+P:=cD (by omega) (by omega)
     have b3':bj .i64 (o+P+c)=o+P+c:=cD (by omega) (by omega)
     have b4':bj .i64 ((o+P+c)/1000000000)=(o+P+c)/1000000000:=cD (by omega) (by omega)
     have f1:b1<N+1:=by omega
     have f2:g1<N+1:=by omega
     have r0:=Eb (o+P+c) (b:=1000000000) (by decide)
     have r1:=D9 (o+P+c) (b:=1000000000) (by decide)
     have d0:0<=(o+P+c)/1000000000:=Int.ediv_nonneg (by omega) (by decide)
     have d1:(o+P+c)/1000000000<1000000000:=Int.ediv_lt_of_lt_mul (by decide) (by omega)
     simp(disch:=first|(simp;done)|omega|rfl) [-getElem?_pos,A.rY,hr,cZ,c9,h6,h7,h8,lu,lv,bM,er,xF,BO,q1,q2,q3,qo,fS ho,z1,z2,z3,z4,y1,y2,y3,y4,hP,b1',b2',b3',b4',t1,t2,w7,cs,f1,f2]
     refine⟨m2,by omega,⟨by simp[ax,eH],ib.set (aM N),rfl,k+1,_,_,by omega,by simp,by simp,by simp[Ds],by simp,d0,d1,kV.set r0 r1,fun t IW xG=>?_,e1⟩⟩
     rw[d_ (by omega)]
     exact dT t IW (by simpa using xG)
   ·rintro _ r2 ⟨H2,n2,W2⟩ cZ ⟨rfl,eH,ib,eM,k,oM,c,hk,h8,qo,Ds,h7,c0,c1,kV,dT,iR⟩
    simp only at eH ib eM qo
    subst eM
    have:k=lb.length:=by omega
    subst this
    have ho:=dT (i+lb.length) (by omega) (by omega)
    have Ig:=hf.inner (D':=[(7,9),(22,54)]) rfl (by simp) cZ
    have q1:(i:Int)+(lb.length:Int)<(la.length:Int)+(lb.length:Int):=by omega
    have q2:i+lb.length<la.length+lb.length:=by omega
    have q3:(0:Int)<=(i:Int)+(lb.length:Int):=by omega
    have w8:=fZ oM
    have w7:=zL (l:=oM) (k:=i+lb.length) (v:=c) (by omega)
    rw[xU]at iR
    have e1:vI (oM.set (i+lb.length) c)=vI (la.take (i+1))*vI lb:=by
     rw[CH ho,zf hx]
     have:vI oM+pI (i+lb.length)*(c-0)=vI out+pI i*(x*vI lb):=by rw[Int.sub_zero];exact iR
     rw[this,mj]
     grind
    simp(disch:=first|(simp;done)|omega|rfl) [-getElem?_pos,hr,cZ,h6,h7,lv,qo,fS ho,q1,q2,q3,w7,Ig,cs]
    refine⟨m,by omega,⟨by simp[ax,eH],ib.set (aM N),rfl,i+1,_,by omega,by simp,by simp,by simp[Ds],kV.set c0 c1,fun t IW xG=>?_,e1⟩⟩
    rw[d_ (by omega)]
    exact dT t (by omega) (by simpa using xG)
 ·rintro _ r ⟨H,n1,W⟩ hr ⟨rfl,hW,hK,hn,i,out,hi,h6,aq,gV,iJ,hz,mj⟩
  simp only at hW hK hn aq
  subst hn
  have:i=la.length:=by omega
  subst this
  rw[xU,ea,eb]at mj
  have kg:Sl H (N+1) (.slice N 0 (la.length+lb.length) (some (la.length+lb.length)) 1) (dI out):=Sl.row (by omega) aq (by simp[gV]) (fun k hk=>by simp at hk;omega)
  simp[hr]
  refine aA (Hj kg (by omega)) ?_
  rintro y h2 n2 k2 hy
  rw[GI iJ (n:=a*b) (by rw[mj];simp)]at hy
  simp[hr,aE,hW]
  exact⟨hK.trans k2,hy⟩
open Go
variable {N i n n1:Nat} {h h1:T O} {r:T V} {v:V} {w:List Nat}
structure eE (D:Nat->Prop) (h:T O) (n:Nat) (h':T O) (n':Nat):Prop where
 le:n<=n'
 get:∀i,i<n->¬D i->h'.get i=h.get i
def eE.refl{D:Nat->Prop}:eE D h n h n:=⟨aM _,fun _ _ _=>rfl⟩
def ab.upd{D:Nat->Prop}{h':T O}{n':Nat}(k:ab h n h' n'):eE D h n h' n':=⟨k.le,fun i hi _=>k.get i hi⟩
def eE.trans{D:Nat->Prop}{h2:T O}{n2:Nat}(a:eE D h n h1 n1)(b:eE D h1 n1 h2 n2):eE D h n h2 n2:=
 ⟨k_ a.le b.le,fun i hi hd=>(b.get i (eX hi a.le) hd).trans (a.get i hi hd)⟩
def eE.mono{D D2:Nat->Prop}(a:eE D h n h1 n1)(hd:∀i,i<n->D i->D2 i):eE D2 h n h1 n1:=⟨a.le,fun i hi hn=>a.get i hi fun hc=>hn (hd i hi hc)⟩
def eE.set{D:Nat->Prop}{o:O}(a:eE D h n h1 n1)(hi:D i\/n<=i):eE D h n (h1.set i o) n1:=
 ⟨a.le,fun j hj hd=>by
  rw[T.ag,ak ?_]
  ·exact a.get j hj hd
  ·rintro rfl
   rcases hi with hi|hi
   ·exact hd hi
   ·omega⟩
def eE.up{D:Nat->Prop}{n2:Nat}(a:eE D h n h1 n1)(hn:n1<=n2):eE D h n h1 n2:=⟨k_ a.le hn,a.get⟩
def eE.new{D:Nat->Prop}(a:eE D h n h1 n1)(o:O):eE D h n (h1.set n1 o) (n1+1):=(a.set (.inr a.le)).up (uR _)
def eE.keeps{D:Nat->Prop}{m:Nat}(a:eE D h n h1 n1)(hm:m<=n)(hd:∀i,D i->m<=i):ab h m h1 n1:=⟨k_ hm a.le,fun i hi=>a.get i (eX hi hm) fun hc=>by have:=hd i hc;omega⟩
def Bc{N i:Nat}:∀{w:List Nat},i∈ax N w->i∈w/\i<N
 |[],h=>by simp[ax]at h
 |j::w,h=>by
  simp only[ax]at h
  split at h
  ·unfold uW at h
   split at h
   ·have:=Bc h;exact⟨oU _ this.1,this.2⟩
   ·rcases kW.1 h with h|h
    ·subst h;exact⟨ph,by assumption⟩
    ·have:=Bc h;exact⟨oU _ this.1,this.2⟩
  ·have:=Bc h;exact⟨oU _ this.1,this.2⟩
def Yaf:ax N []=[]:=rfl
attribute [simp] Yaf
def yD(h:∀i∈w,N<=i):ax N w=[]:=Zqo h
def oO(st:St)(i:Nat)(send:Option V)(zero:V):Option O->Option (V×St)
 |some (.chan cap buf)=>match send with
  |some v=>if buf.length<cap then some (.aX [.int .i64 0,.bool false],st.write i (.chan cap (buf++[v]))) else some (.aX [.int .i64 (-1),.bool false],st)
  |none=>match buf with
   |v::buf=>some (.aX [.int .i64 0,.bool true,v],st.write i (.chan cap buf))
   |[]=>some (.aX [.int .i64 (-1),.bool false,zero],st)
 |_=>none
def Ysi{st:St}{send:Option V}{zero:V}:Wh st i send zero=oO st i send zero (st.h.get i):=by
 unfold Wh oO
 rcases st.h.get i with _|o
 ·rfl
 ·cases o with
  |chan cap buf=>cases send with
   |some v=>rfl
   |none=>cases buf<;>rfl
  |_=>cases send<;>rfl
def Sb(C:Cx)(K:List Kf)(Q:Rs->Prop)(d:Nat)(ops:List dw)(r:T V)(n:Nat)(m:List Nat):Option (V×St)->Prop
 |some (v,bY)=>bG C (.dN::K) (BE (dE C.call ops ⟨r.set d v,n,m⟩ bY)) Q
 |none=>False
def ZV(C:Cx)(K:List Kf)(Q:Rs->Prop)(d:Nat)(ops:List dw)(r:T V)(n:Nat)(m:List Nat)(st:St)(zero:V):Option V->Option (Option V)->Prop
 |some (.chan i),some sv=>Sb C K Q d ops r n m (oO st i sv zero (st.h.get i))
 |_,_=>False
def Yio{C:Cx}{K:List Kf}{Q:Rs->Prop}{ro:Option Nat}{d:Nat}{ch:Src}{send:Option Src}{zero:V}{ops:List dw}{m:List Nat}{st:St}(hd:d<n):bG C K (fj (C.code ro (.yl (some d) ch send zero ops) ⟨r,n,m⟩ st)) Q↔ZV C K Q d ops r n m st zero (ch.ev r) (aB r send):=by
 have e:C.code ro (.yl (some d) ch send zero ops) ⟨r,n,m⟩ st=Bu (some d) ch send zero ops C.call C.code ro ⟨r,n,m⟩ st:=Cx.dG ..
 rw[e]
 unfold Bu ZV
 simp only[]
 rcases ch.ev r with _|v
 ·exact JF
 ·cases v<;>try exact JF
  rename_i i
  rcases aB r send with _|sv
  ·exact JF
  ·simp only[Ysi]
   rcases oO st i sv zero (st.h.get i)with _|⟨v,bY⟩
   ·exact JF
   ·simp only[Fr.put,hd,if_true,Sb]
    refine je ?_
    show _=jd C K (mP C .dN (BE (dE C.call ops ⟨r.set d v,n,m⟩ bY)))
    rcases dE C.call ops ⟨r.set d v,n,m⟩ bY with _|⟨_,_⟩<;>rfl
def Ydc{C K Q d ops r n m st zero i sv}:ZV C K Q d ops r n m st zero (some (.chan i)) (some sv)=Sb C K Q d ops r n m (oO st i sv zero (st.h.get i)):=rfl
def Ydb{C K Q d ops r n m v bY}:Sb C K Q d ops r n m (some (v,bY))=bG C (.dN::K) (BE (dE C.call ops ⟨r.set d v,n,m⟩ bY)) Q:=rfl
def Zz2{st:St}{cap:Nat}{buf:List V}{zero:V}:oO st i none zero (some (.chan cap (v::buf)))=some (.aX [.int .i64 0,.bool true,v],st.write i (.chan cap buf)):=rfl
def Yda{st:St}{cap:Nat}{zero:V}:oO st i none zero (some (.chan cap []))=some (.aX [.int .i64 (-1),.bool false,zero],st):=rfl
attribute [simp] Yio Ydc Ydb Zz2 Yda
def Sd(st:St)(bytes:Nat):Option V->Option (V×St)
 |some (.int _ k)=>if k<0\/k > IntKind.i64.max\/bytes*k > 2^48-112 then none else some (.chan st.n,st.alloc (.chan k.toNat []))
 |_=>none
def Zvs{bytes:Nat}{x:Src}{call:cI}{st:St}:Ef bytes x call r st=Sd st bytes (x.ev r):=by unfold Ef Sd;rfl
def Yaw{st:St}{kk:IntKind}{k:Int}(h0:0<=k)(h1:k<=100):Sd st 16 (some (.int kk k))=some (.chan st.n,st.alloc (.chan k.toNat [])):=by
 unfold Sd
 simp only[]
 rw[ak]
 have:IntKind.i64.max=9223372036854775807:=rfl
 omega
attribute [simp] Zvs Yaw
def dh:V->List Nat
 |.slice i _ _ _ _=>[i]
 |_=>[]
def Sl.cE{D:Nat->Prop}{h':T O}{N':Nat}{l:List V}(s:Sl h N v l)(k:eE D h N h' N')(hd:∀i∈dh v,¬D i):Sl h' N' v l:=by
 rcases s with s|⟨i,o,cp,c,e,rw,rfl,h2,h3,h4⟩
 ·exact .inl s
 ·exact .inr ⟨i,o,cp,c,e,rw,rfl,eX h2 k.le,(k.get i h2 (hd i (by simp[dh]))).trans h3,h4⟩
def Row(z:Nat)(e:TypeId)(h:T O)(v:V)(l:List (List V)):Prop:=(∀x∈l,x.length=z)/\((l=[]/\v=.aa)\/∃i x m,v=.slice i 0 l.length none z/\x.length=m*z/\h.get i=some (.cells (l.flatten++x) e true))
def J6(l:List (List V))(x:List V):(l++[x]).flatten=l.flatten++x:=by simp
def Yt9(st:St)(size:Nat)(zero:List V):Option V->Option (V×St)
 |some v=>Jo size zero (.const v) Wm .nil st
 |none=>none
structure Yye (z bytes:Nat) (e:TypeId) (zero:List V) (h:T O) (N:Nat) (v:V) (l:List (List V)) (k:Nat) (v1 v2 v3 v4:V) (h3 h4:T O) (w3:List Nat):Prop where
 a:∀w,∃u,l8 ⟨h,N,w⟩ z (some v) (some (some (.int .i64 k))) (some (some (.int .i64 ((k:Int)+1)))) (some (some (.int .i64 l.length)))=some (u,⟨h,N,w⟩)
 b:∀w,l8 ⟨h,N,w⟩ z (some v) (some none) (some (some (.int .i64 k))) (some none)=some (v1,⟨h,N,w⟩)
 c:∀w,l8 ⟨h,N,w⟩ z (some v) (some (some (.int .i64 ((k:Int)+1)))) (some none) (some none)=some (v2,⟨h,N,w⟩)
 d:∀w,fY ⟨h,N,w⟩ z bytes e v1 v2=some (v3,⟨h3,N,w3++w⟩)
 len:pD v3=some (l.length-1)
 f:∀w,l8 ⟨h3,N,w⟩ z (some v3) (some (some (.int .i64 ((l.length-1:Nat):Int)))) (some (some (.int .i64 l.length))) (some none)=some (v4,⟨h3,N,w⟩)
 g:∀w,∃i,i∈dh v/\Yt9 ⟨h3,N,w⟩ z zero (some v4)=some (.aX [],⟨h4,N,i::w⟩)
 w:∀i∈w3,i∈dh v
 upd:eE (fun i=>i∈dh v) h N h4 N
 ids:dh v3=dh v
 row:Row z e h4 v3 (l.take k++l.drop (k+1))
def Se(st:St)(size:Nat):Option V->Option V->Option (V×St)
 |some d,some s=>Cz size (.const d) (.const s) Wm .nil st
 |_,_=>none
def Yd9{size:Nat}{d s:Src}{call:cI}{st:St}:Cz size d s call r st=Se st size (d.ev r) (s.ev r):=by
 unfold Cz Se
 rcases d.ev r with _|d
 ·rfl
 ·rcases s.ev r with _|s<;>rfl
def Yb0{cp:Option Nat}{c xs:List V}{e:TypeId}{s:V}(hn:0<n)(hs:eL ⟨h,N,w⟩ 1 s=some (n,xs))(hx:xs.length=n)(hg:h.get i=some (.cells c e true))(hc:c.length=n):Se ⟨h,N,w⟩ 1 (some (.slice i 0 n cp 1)) (some s)=some (.int .i64 n,⟨h.set i (.cells xs e true),N,i::w⟩):=by
 have uz:¬n=0:=by omega
 have hd:c.drop n=[]:=List.drop_of_length_le (by omega)
 have ht:xs.take n=xs:=fe (by omega)
 simp only[Se,Cz,Src.ev,hs,St.row,hg]
 simp[uz,hc,ad,St.write,ht,hx,hd]
attribute [simp] Yd9
def nP(e:TypeId)(Y:V->Prop)(h:T O)(u:V):Prop:=∀i∈dh u,∃z,h.get i=some (.cells z e true)/\z≠[]/\∀y∈z,Y y
def nP.nil{e:TypeId}{Y:V->Prop}:nP e Y h .aa:=fun i hi=>by simp[dh]at hi
def DN{z:Nat}{e:TypeId}{N0:Nat}{u:V}{l:List (List V)}{x:List V}{bytes:Nat}{Y:V->Prop}(s:Own z e N0 h N v l)(hn:l=[]->v=.aa)(hY:∀c∈l,∀y∈c,Y y)(hN:N0<=N)(hz:0<z)(hx:x.length=z)
  (hu:eL ⟨h,N,w⟩ z u=some (1,x)) (hb:2*(l.length+1)*bytes<=281474976710656):
  ∃v' h' w',fY ⟨h,N,w⟩ z bytes e v u=some (v',⟨h',N+1,w'⟩)/\ax N0 w'=ax N0 w/\ab h N0 h' (N+1)/\eE (fun i=>i∈dh v) h N h' (N+1)/\nP e Y h v/\Own z e N0 h' (N+1) v' (l++[x]):=by
 obtain⟨v',h',w',f1,f2,f3,f4,f5⟩:=tU s hN hz hx hu hb
 refine⟨v',h',w',f1,f2,f3,⟨uR _,fun j hj hd=>?_⟩,fun i hi=>?_,f5⟩
 ·rcases f4 j with h1|h1|⟨o,n,c,q,h1⟩
  ·exact h1
  ·omega
  ·exact absurd (by rw[h1];simp[dh]) hd
 ·obtain⟨hl,⟨rfl,rfl⟩|⟨j,rfl,h2,h3,h4⟩⟩:=s
  ·simp[dh]at hi
  ·simp only[dh,wR]at hi
   subst hi
   refine⟨_,h4,fun hc=>?_,fun y hy=>?_⟩
   ·have ky:=zK hl
    rw[hc]at ky
    have:l.length=0:=by
     rcases Nat.mul_eq_zero.1 ky.symm with h|h
     ·exact h
     ·omega
    have:=hn (qE this)
    cases this
   ·obtain⟨c,hc,yL⟩:=List.mem_flatten.1 hy
    exact hY c hc y yL
def Zzn{l:List Nat}:(l.any fun i=>Nat.ble n i&&Nat.blt i n)=false:=by
 rw[List.any_eq_false]
 intro i _ hc
 rw[iE]at hc
 have h1:=vo hc.1
 have h2:i<n:=vo hc.2
 omega
def Ztt{l:List Nat}:CB l (some [])=false:=by
 unfold CB
 rw[List.any_eq_false]
 intro i _ hc
 simp at hc
end
end Go.Mx
