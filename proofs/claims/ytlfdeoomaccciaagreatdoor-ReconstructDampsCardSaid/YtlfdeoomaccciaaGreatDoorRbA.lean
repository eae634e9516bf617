/-lensletref01-/
import Derived.Test.YtlfdeoomaccciaaGreatDoorMxDec
set_option linter.all false
namespace Go.Mx
noncomputable section
open Go Go.Proofs
variable {s:aM}
set_option maxRecDepth 1000000
def A.NN:=A.q Tryz.f128
def A.nF:=A.ql A.NN 0 []
def A.b128:=(fun x0=>A.qb A.NN [x0]) A.nF
def A.k128:=@A.kk 128 17 [.tmp 2] A.b128 (by kernel_rfl) rfl
def A.NO:=A.q Tryz.f197
def A.jY:=A.ql A.NO 0 []
def A.b197:=(fun x0=>A.qb A.NO [x0]) A.jY
def A.k197:=@A.kk 197 20 [.tmp 2] A.b197 (by kernel_rfl) rfl
def A.b129:=A.q Tryz.f129
def A.k129:=@A.kk 129 18 [.tmp 2] A.b129 (by kernel_rfl) rfl
def A.NP:=A.q Tryz.f202
def A.rU:=A.ql A.NP 0 []
def A.b202:=(fun x0=>A.qb A.NP [x0]) A.rU
def A.k202:=@A.kk 202 20 [.tmp 2] A.b202 (by kernel_rfl) rfl
def Fl{st:St}(hl:s.length<4611686018427387904):A.C.call (.func 128 [] []) [.str s] st=some (.int .i64 (ah s:Nat),st):=by
 apply Call.eq
 rw[aN,A.k128 (by simp)]
 simp(disch:=first|(simp;done)|omega|rfl) [-getElem?_pos,A.b128]
 refine bG [(2,14)] (fun e r s1=>s1=⟨st.h,st.n,[]⟩/\((e=.exit 0/\ah s=s.length)\/(e=.ret/\r.get 2=some (.int .i64 (ah s:Nat))))) (fun m r s1=>s1=⟨st.h,st.n,[]⟩/\∃k,k+m=s.length/\r.get 3=some (.int .i64 k)/\ah s=k+ah (s.drop k)) s.length ?_ ?_ ?_
 ·exact⟨rfl,0,by omega,by simp,by simp⟩
 ·rintro m r _ hr hf ⟨rfl,k,hk,h3,hz⟩
  rw[bk]
  cases m with
  |zero=>
   have:k=s.length:=by omega
   subst this
   rw[pg,ah]at hz
   simp(disch:=first|(simp;done)|omega|rfl) [-getElem?_pos,A.nF,hr,hf,h3]
   omega
  |succ m=>
   obtain⟨c,hc⟩:=bh (l:=s) (k:=k) (by omega)
   have bL:(k:Int)<(s.length:Int):=by omega
   have eF:k<s.length:=by omega
   rw[lH hc,ah]at hz
   by_cases h47:cI c=47
   ·rw[ay (by unfold cI at h47;omega)]at hz
    simp(disch:=first|(simp;done)|omega|rfl) [-getElem?_pos,A.nF,hr,hf,h3,bL,eF,hc,h47,aE]
    rw[hz];simp
   ·rw[ak (by unfold cI at h47;omega)]at hz
    simp(disch:=first|(simp;done)|omega|rfl) [-getElem?_pos,A.nF,hr,hf,h3,bL,eF,hc,h47,aE]
    exact⟨m,by omega,k+1,by omega,by simp,by omega⟩
 ·rintro e r _ hr ⟨rfl,⟨rfl,hz⟩|⟨rfl,h2⟩⟩
  ·simp(disch:=first|(simp;done)|omega|rfl) [-getElem?_pos,hr,hz]
  ·simp(disch:=first|(simp;done)|omega|rfl) [-getElem?_pos,hr,h2]
def Yev{st:St}(hl:s.length<4611686018427387904):A.C.call (.func 197 [] []) [.str s] st=some (.bool (cE s),st):=by
 apply Call.eq
 rw[aN,A.k197 (by simp)]
 simp(disch:=first|(simp;done)|omega|rfl) [-getElem?_pos,A.b197]
 refine bG [(2,19)] (fun e r s1=>s1=⟨st.h,st.n,[]⟩/\((e=.exit 0/\cE s=true)\/(e=.ret/\cE s=false/\r.get 2=some (.bool false)))) (fun m r s1=>s1=⟨st.h,st.n,[]⟩/\∃k,k+m=s.length/\r.get 3=some (.int .i64 k)/\cE s=cE (s.drop k)) s.length ?_ ?_ ?_
 ·exact⟨rfl,0,by omega,by simp,by simp⟩
 ·rintro m r _ hr hf ⟨rfl,k,hk,h3,hz⟩
  rw[bk]
  cases m with
  |zero=>
   have:k=s.length:=by omega
   subst this
   rw[pg]at hz
   have hz:cE s=true:=hz
   simp(disch:=first|(simp;done)|omega|rfl) [A.jY,hr,hf,h3,hz]
  |succ m=>
   obtain⟨c,hc⟩:=bh (l:=s) (k:=k) (by omega)
   have bL:(k:Int)<(s.length:Int):=by omega
   have eF:k<s.length:=by omega
   have dL:cE s=(ko c&&cE (s.drop (k+1))):=by rw[hz,lH hc];rfl
   rw[Wk]at dL
   by_cases h1:cI c<48
   ·have:¬(48<=cI c/\cI c<=57):=by omega
    rw[decide_eq_false this,B4]at dL
    simp(disch:=first|(simp;done)|omega|rfl) [-getElem?_pos,A.jY,hr,hf,h3,bL,eF,hc,h1,dL]
   ·by_cases h2:57<cI c
    ·have:¬(48<=cI c/\cI c<=57):=by omega
     rw[decide_eq_false this,B4]at dL
     simp(disch:=first|(simp;done)|omega|rfl) [-getElem?_pos,A.jY,hr,hf,h3,bL,eF,hc,h1,h2,dL]
    ·have:(48<=cI c/\cI c<=57):=by omega
     rw[decide_eq_true this,Bool.true_and]at dL
     simp(disch:=first|(simp;done)|omega|rfl) [-getElem?_pos,A.jY,hr,hf,h3,bL,eF,hc,h1,h2]
     exact⟨m,by omega,k+1,by omega,by simp,dL⟩
 ·rintro e r _ hr ⟨rfl,⟨rfl,hz⟩|⟨rfl,hz,h2⟩⟩
  ·simp(disch:=first|(simp;done)|omega|rfl) [-getElem?_pos,hr,hz]
  ·simp(disch:=first|(simp;done)|omega|rfl) [-getElem?_pos,hr,h2,hz]
def NQ{s:aM}{st:St}(hl:s.length<4611686018427387904):A.C.call (.func 129 [] []) [.str s] st=some (.bool (jc s),st):=by
 apply Call.eq
 rw[aN,A.k129 (by simp)]
 cases s with
 |nil=>simp[A.b129,aE,jc]
 |cons c s=>
  have hd:jc (c::s)=(cE (c::s)&&(decide (cI c≠48)||decide (s=[]))):=by
   have:decide (c.toNat≠48)=decide (cI c≠48):=by unfold cI;rw[decide_eq_decide];omega
   simp only[jc,this];rfl
  have ZI:=fun st=>Yev (s:=c::s) (st:=st) hl
  by_cases h0:s=[]
  ·subst h0
   simp[A.b129,aE,hd,ZI]
  ·have h1:0<s.length:=by
    cases s with
    |nil=>exact absurd rfl h0
    |cons=>simp
   have a1:¬((s.length:Int)+1=0):=by omega
   have a2:(1:Int)<(s.length:Int)+1:=by omega
   have a3:(0:Int)<(s.length:Int):=by omega
   by_cases h48:cI c=48
   ·simp[A.b129,aE,hd,ZI,h0,a1,a2,a3,h1,h48]
   ·simp[A.b129,aE,hd,ZI,h0,a1,a2,a3,h1,h48]
def NR{st:St}(hd:cE s=true)(hl:s.length<=18):A.C.call (.func 202 [] []) [.str s] st=some (.int .i64 (aG s:Nat),st):=by
 apply Call.eq
 rw[aN,A.k202 (by simp)]
 simp[A.b202]
 refine bG [(3,18)] (fun e r s1=>s1=⟨st.h,st.n,[]⟩/\e=.exit 0/\r.get 3=some (.int .i64 (aG s:Nat))) (fun m r s1=>s1=⟨st.h,st.n,[]⟩/\∃k,k+m=s.length/\r.get 4=some (.int .i64 k)/\r.get 3=some (.int .i64 (aG (s.take k):Nat))) s.length ?_ ?_ ?_
 ·exact⟨rfl,0,by omega,by simp,by simp[aG]⟩
 ·rintro m r _ hr hf ⟨rfl,k,hk,h4,h3⟩
  rw[bk]
  cases m with
  |zero=>
   have:k=s.length:=by omega
   subst this
   rw[xg]at h3
   simp[A.rU,hr,hf,h4,h3]
  |succ m=>
   obtain⟨c,hc⟩:=bh (l:=s) (k:=k) (by omega)
   have bL:(k:Int)<(s.length:Int):=by omega
   have eF:k<s.length:=by omega
   have tG:=Lb hd hc
   have hv:=Wm hc
   have ZC:=Qj hd k (by omega)
   have rz:=Qk (a:=k) (b:=17) (by omega)
   have b3:((aG (s.take (k+1)):Nat):Int)=10*(aG (s.take k):Nat)+cI c-48:=by
    rw[hv];unfold cI at*;omega
   have b4:((aG (s.take k):Nat):Int)<100000000000000000:=by
    have:(10:Nat)^17=100000000000000000:=by decide
    omega
   generalize hy:aG (s.take (k+1))=y at*
   generalize aG (s.take k)=x at*
   simp(disch:=first|(simp;done)|omega|rfl) [-getElem?_pos,A.rU,hr,hf,h4,h3,bL,eF,hc]
   exact⟨m,by omega,k+1,by omega,by simp,by rw[hy,b3]⟩
 ·rintro e r _ hr ⟨rfl,rfl,h3⟩
  simp[hr,h3]
def A.NS:=A.q Tryz.f243
def A.nG:=A.ql A.NS 0 []
def A.b243:=(fun x0=>A.qb A.NS [x0]) A.nG
def A.k243:=@A.kk 243 21 [.tmp 2] A.b243 (by kernel_rfl) rfl
def A.b207:=A.q Tryz.f207
def A.k207:=@A.kk 207 15 [.cell 4 (some 2)] A.b207 (by kernel_rfl) rfl
def A.NT:=A.q Tryz.f209
def A.jZ:=A.ql A.NT 0 []
def A.b209:=(fun x0=>A.qb A.NT [x0]) A.jZ
def A.k209:=@A.kk 209 41 [.tmp 4] A.b209 (by kernel_rfl) rfl
def A.NU:=A.q Tryz.f242
def A.rV:=A.ql A.NU 0 []
def A.b242:=(fun x0=>A.qb A.NU [x0]) A.rV
def A.k242:=@A.kk 242 39 [.tmp 4,.tmp 5] A.b242 (by kernel_rfl) rfl
def Hk{h:T O}{N:Nat}{v:V}{l:List Int}(hs:Sl h N v (dI l))(hl:l.length<1152921504606846976):Fn A.C 243 [v] h N (fun v' h' N'=>Sl h' N' v' (dI (rf l))):=by
 intro w
 rw[aN,A.k243 (by simp)]
 simp[A.b243]
 refine bG [(0,0),(3,19)] (fun e r st=>e=.exit 0/\st=⟨h,N,[]⟩/\∃u,r.get 0=some u/\Sl h N u (dI (rf l))) (fun m r st=>st=⟨h,N,[]⟩/\m<=l.length/\∃u,r.get 0=some u/\Sl h N u (dI (l.take m))/\rf (l.take m)=rf l) l.length ?_ ?_ ?_
 ·exact⟨rfl,aQ _,v,rfl,by rw[xg];exact hs,by rw[xg]⟩
 ·rintro m r _ hr hf ⟨rfl,hm,u,h0,hu,ht⟩
  rw[bk]
  have lu:=hu.len
  rw[ib,gG,pZ hm]at lu
  cases m with
  |zero=>
   simp[A.nG,hr,hf,h0,lu]
   rw[<-ht];exact hu
  |succ k=>
   obtain⟨d,hd⟩:=bh (l:=l) (k:=k) (by omega)
   have yR:(l.take (k+1))[k]?=some d:=by rw[iM,ay (by omega)];exact hd
   obtain⟨i,o,c,e,rw,q1,q2,q3,q4⟩:=hu.at (ic yR)
   have e1:l.take (k+1)=l.take k++[d]:=by rw[uC,hd];rfl
   have k1:(0:Int)<(k:Int)+1:=by omega
   have k2:(k:Int)<(k:Int)+1:=by omega
   have k3:(k:Int)+1-1=(k:Int):=by omega
   by_cases hz:d=0
   ·subst hz
    rw[e1,Wf]at ht
    obtain⟨v',x1,x2⟩:=DS (w:=[]) hu (lo:=0) (hi:=k) (uw _) (by rw[ib,gG];omega) none (some (.int .i64 k)) (.inr ⟨rfl,rfl⟩) (.inl rfl)
    have x3:((dI (l.take (k+1))).take k).drop 0=dI (l.take k):=by
     rw[yU,dI,<-List.map_take,List.take_take,pZ (by omega)];rfl
    rw[x3]at x2
    simp(disch:=first|(simp;done)|omega|rfl) [A.nG,hr,hf,h0,lu,k1,k2,k3,q1,q3,q4,aE,Bh,aC,x1]
    exact⟨k,by omega,by omega,x2,ht⟩
   ·rw[e1,Zpe hz,<-e1]at ht
    simp(disch:=first|(simp;done)|omega|rfl) [A.nG,hr,hf,h0,lu,k1,k2,k3,q1,q3,q4,aE,hz]
    rw[<-ht];exact hu
 ·rintro _ r _ hr ⟨rfl,rfl,u,h0,hu⟩
  simp[hr,h0,aA]
  exact⟨ab.refl,hu⟩
def Rg(h:T O)(N:Nat)(v:V)(z:Int):Prop:=∃u,v=.agg [.bool (decide (z<0)),u]/\Dn h N u z.natAbs
def xC{h:T O}{N:Nat}{v:V}{l:List Int}{b:Bool}{n:Nat}(hs:Sl h N v (dI l))(hd:Di l)(hn:vI l=n)(hl:l.length<1152921504606846976):Fn A.C 207 [.bool b,v] h N (fun v' h' N'=>Rg h' N' v' (if b=true then -(n:Int) else n)):=by
 intro w
 rw[aN,A.k207 (by simp)]
 simp[A.b207]
 refine aB (Hk (hs.ae (ab.refl.new _)) hl) ?_
 rintro u h1 n1 k1 hu
 rw[GM hd hn]at hu
 have lu:=hu.len
 rw[ib]at lu
 have xD:=k1.le
 have al:=k1.get N (by omega)
 simp at al
 have BV:=hu.form.one
 have RU:=hu.form.cells
 unfold V.one at BV
 unfold V.cells at RU
 have k0:=(ab.refl (h:=h) (n:=N)).new (.cells [.bool false,.aa] 146 true)
 have kx:=fun o=>((k0.trans k1).set (i:=N) (o:=o) (aQ N))
 have fm:=fun c1 (hc:c1.length=2)=>hu.setInt (i:=N) (c1:=c1) (e1:=146) (w1:=true) al (by intro x hx k m;simp at hx;rcases hx with rfl|rfl<;>simp) hc
 cases b with
 |false=>
  simp[lu,ad,al,BV,RU,bD,aO,aD,aA]
  refine⟨kx _,u,?_,?_⟩
  ·have:¬(n:Int)<0:=by omega
   simp
  ·exact fm _ rfl
 |true=>
  by_cases hz:n=0
  ·have gX:(ds n).length=0:=by rw[hz,tB];rfl
   simp[lu,gX,ad,al,BV,RU,bD,aO,aD,aA]
   refine⟨kx _,u,?_,?_⟩
   ·simp[hz]
   ·simpa[hz,Dn]using fm _ rfl
  ·have gX:¬(ds n).length=0:=fun hc=>hz (CH.1 (q8 hc))
   have EB:(0:Int)<((ds n).length:Int):=by omega
   have iV:0<(ds n).length:=by omega
   have hl3:ds n≠[]:=fun hc=>hz (CH.1 hc)
   simp[lu,EB,iV,hl3,ad,al,BV,RU,bD,aO,aD,aA]
   refine⟨kx _,u,?_,?_⟩
   ·have: -(n:Int)<0:=by omega
    simp[this];try omega
   ·simpa[Dn]using fm _ rfl
def uI:∀{b a:Nat},a<=b->(ds a).length<=(ds b).length:=by
 intro b
 induction b using Nat.strongRecOn with
 |_ b ih=>
  intro a h
  by_cases h0:a=0
  ·rw[h0,tB];simp
  ·rw[Ae h0,Ae (n:=b) (by omega)]
   have:=ih (b/1000000000) (Cr (by omega) (by decide)) (a:=a/1000000000) (Nat.div_le_div_right h)
   simp only[bp];omega
def NV{A:List Int}{k:Nat}{x:Int}(hx:A[k]?=some x):vI A=vI (A.take k)+pI k*(x+1000000000*vI (A.drop (k+1))):=by
 have hk:=f_ hx
 rw[K8 A k (by omega),lH hx,vI]
def Ylg{A B:List Int}{k:Nat}{x y:Int}(hA:Di A)(hB:Di B)(hx:A[k]?=some x)(hy:B[k]?=some y)(he:A.drop (k+1)=B.drop (k+1))(RV:x<y):vI A<vI B:=by
 have hk:=f_ hx
 rw[NV hx,NV hy,he]
 have h1:=vG (hA.take k)
 have h2:=vF (hB.take k)
 rw[gG,pZ (by omega)]at h1
 have h3:pI k*(x+1000000000*vI (B.drop (k+1))+1)<=pI k*(y+1000000000*vI (B.drop (k+1))):=q9 (by omega) (uE (CE k))
 have h4:pI k*(x+1000000000*vI (B.drop (k+1))+1)=pI k*(x+1000000000*vI (B.drop (k+1)))+pI k:=by grind
 omega
def BK(a b:Nat):Int:=if a<b then -1 else if b<a then 1 else 0
def XD{h:T O}{N:Nat}{u v:V}{a b:Nat}{w:List Nat}(hu:Dn h N u a)(hv:Dn h N v b)(hl:(ds a).length<1152921504606846976)(iV:(ds b).length<1152921504606846976):A.C.call (.func 209 [] []) [u,v] ⟨h,N,w⟩=some (.int .i64 (BK a b),⟨h,N,w⟩):=by
 apply Call.eq
 have lu:=hu.len
 have lv:=hv.len
 rw[ib]at lu lv
 have va:=gm a
 have vb:=gm b
 have da:=fY a
 have db:=fY b
 rw[aN,A.k209 (by simp)]
 unfold BK
 by_cases h1:(ds a).length=(ds b).length
 ·have fL:((ds a).length:Int)=((ds b).length:Int):=by omega
  simp(disch:=omega) [A.b209,lu,lv,aE,h1]
  generalize hA:ds a=X at*
  generalize hB:ds b=Y at*
  refine bG [(4,5),(19,40)] (fun e r st=>st=⟨h,N,[]⟩/\((e=.exit 0/\a=b)\/(e=.ret/\a<b/\r.get 4=some (.int .i64 (-1)))\/(e=.ret/\b<a/\r.get 4=some (.int .i64 1)))) (fun m r st=>st=⟨h,N,[]⟩/\m<=X.length/\r.get 5=some (.int .i64 ((m:Int)-1))/\X.drop m=Y.drop m) X.length ?_ ?_ ?_
  ·exact⟨rfl,aQ _,by simp[h1],by rw[pg,h1,pg]⟩
  ·rintro m r _ hr hf ⟨rfl,hm,h5,he⟩
   rw[bk]
   cases m with
   |zero=>
    have:a=b:=by
     simp at he;rw[he]at va;omega
    simp[A.jZ,hr,hf,h5,this]
   |succ k=>
    obtain⟨x,hx⟩:=bh (l:=X) (k:=k) (by omega)
    obtain⟨y,hy⟩:=bh (l:=Y) (k:=k) (by omega)
    obtain⟨b1,b2,b3,b4,b5,z1,z2,z3,z4⟩:=Sl.at (show Sl h N u (dI (ds a)) from hu) (by rw[hA];exact ic hx)
    obtain⟨c1,c2,c3,c4,c5,y1,y2,y3,y4⟩:=Sl.at (show Sl h N v (dI (ds b)) from hv) (by rw[hB];exact ic hy)
    have pY:(((k+1:Nat):Int)-1)=(k:Int):=by omega
    rw[pY]at h5
    have bL:(k:Int)<(X.length:Int):=by omega
    have eF:(k:Int)<(Y.length:Int):=by omega
    have BM:(0:Int)<=(k:Int):=by omega
    have ZJ:k<Y.length:=by omega
    by_cases ax:x<y
    ·have:=Ylg da db hx hy he ax
     have fU:a<b:=by omega
     simp[A.jZ,hr,hf,h5,lu,lv,bL,eF,BM,ZJ,z1,z2,z3,z4,y1,y2,y3,y4,ax,fU]
    ·by_cases JJ:y<x
     ·have:=Ylg db da hy hx he.symm JJ
      have fU:b<a:=by omega
      have Ij:¬a<b:=by omega
      simp[A.jZ,hr,hf,h5,lu,lv,bL,eF,BM,ZJ,z1,z2,z3,z4,y1,y2,y3,y4,ax,JJ,fU,Ij]
     ·have RV:x=y:=by omega
      simp(disch:=first|(simp;done)|omega|rfl) [A.jZ,hr,hf,h5,lu,lv,bL,eF,BM,ZJ,z1,z2,z3,z4,y1,y2,y3,y4,ax,JJ]
      exact⟨k,by omega,by omega,rfl,by rw[lH hx,lH hy,he,RV]⟩
  ·rintro e r _ hr ⟨rfl,⟨rfl,hz⟩|⟨rfl,hz,h4⟩|⟨rfl,hz,h4⟩⟩
   ·simp[hr,hz]
   ·simp[hr,h4,hz]
   ·have:¬a<b:=by omega
    simp[hr,h4,hz,this]
 ·have fL:¬((ds a).length:Int)=((ds b).length:Int):=by omega
  by_cases h2:(ds a).length<(ds b).length
  ·have fU:a<b:=by
    apply tn;intro hc;have:=uI hc;omega
   simp[A.b209,lu,lv,aE,h1,h2,fU]
  ·have fU:b<a:=by
    apply tn;intro hc;have:=uI hc;omega
   have Ij:¬a<b:=by omega
   simp[A.b209,lu,lv,aE,h1,h2,fU,Ij]
structure DdA (h:T O) (N:Nat) (l:List Int) (d:Int) (m:Nat) (r:T V) (st:St):Prop where
 w:av N st.w=[]
 ae:ab h N st.h (N+1)
 n:st.n=N+1
 r8:r.get 8=some (.int .i64 ((m:Int)-1))
 hm:m<=l.length
 ex:∃out rest,st.h.get N=some (.cells (dI out) 3 true)/\out.length=l.length/\r.get 7=some (.int .i64 rest)/\0<=rest/\rest<d/\Di (out.drop m)/\vI (out.drop m)*d+rest=vI (l.drop m)
def Zoh{h:T O}{N:Nat}{v:V}{l:List Int}{d:Int}(hs:Sl h N v (dI l))(hd:Di l)(hl:l.length<1099511627776)(h0:0<d)(h1:d<1000000000):Fn A.C 242 [v,.int .i64 d] h N (fun u h' n'=>∃q,u=.aV [q,.int .i64 ((vI l).toNat%d.toNat:Nat)]/\Dn h' n' q ((vI l).toNat/d.toNat)):=by
 intro w
 have lv:=hs.len
 rw[ib]at lv
 rw[aN,A.k242 (by simp)]
 simp(disch:=first|(simp;done)|omega|rfl) [A.b242,lv]
 refine bG [(7,9),(16,35)] (fun e r st=>e=.exit 0/\DdA h N l d 0 r st) (DdA h N l d) l.length ?_ ?_ ?_
 ·refine⟨by simp,ab.refl.new _,rfl,by simp,aQ _,List.replicate l.length 0,0,by simp[We],by simp,by simp,by omega,h0,?_,?_⟩
  ·rw[zV (by simp)];exact Di.nil
  ·rw[zV (by simp),pg];simp[vI]
 ·rintro m r ⟨H,n1,W⟩ hr hf ⟨hW,hK,hn,h8,hm,out,rest,al,fy,h7,ef,yS,iQ,hv⟩
  simp only at hW hK hn al
  subst hn
  rw[bk]
  cases m with
  |zero=>
   simp[A.rV,hr,hf,h8]
   exact⟨hW,hK,rfl,by simpa using h8,hm,out,rest,al,fy,by simp[h7],ef,yS,iQ,hv⟩
  |succ k=>
   obtain⟨x,hx⟩:=bh (l:=l) (k:=k) (by omega)
   obtain⟨b1,b2,b3,b4,b5,z1,z2,z3,z4⟩:=hs.at (ic hx)
   have z3:=(hK.get _ z2).trans z3
   have NX:=hd.get hx
   have pY:(((k+1:Nat):Int)-1)=(k:Int):=by omega
   rw[pY]at h8
   have bL:(k:Int)<(l.length:Int):=by omega
   have eF:k<l.length:=by omega
   have BM:(0:Int)<=(k:Int):=by omega
   have w1:bl .i64 (rest*1000000000)=rest*1000000000:=cA (by omega) (by omega)
   have w2:bl .i64 (rest*1000000000+x)=rest*1000000000+x:=cA (by omega) (by omega)
   have s0:0<=rest*1000000000+x:=by omega
   have nT:¬d=0:=by omega
   have t1:(rest*1000000000+x).tdiv d=(rest*1000000000+x)/d:=Bl s0
   have t2:(rest*1000000000+x).tmod d=(rest*1000000000+x)%d:=D5 s0
   have t3:=D8 (rest*1000000000+x) d
   have t4:0<=(rest*1000000000+x)/d:=Int.ediv_nonneg s0 (by omega)
   have t5:(rest*1000000000+x)/d<1000000000:=by
    apply Int.ediv_lt_of_lt_mul h0
    omega
   have t6:=D6 (rest*1000000000+x) nT
   have t7:=D9 (rest*1000000000+x) h0
   have w3:bl .i64 ((rest*1000000000+x)/d)=(rest*1000000000+x)/d:=cA (by omega) (by omega)
   have w8:=ib out
   have w7:=Bz (l:=out) (k:=k) (v:=(rest*1000000000+x)/d) (by omega)
   simp(disch:=first|(simp;done)|omega|rfl) [A.rV,hr,hf,h8,h7,bL,eF,BM,lv,z1,z3,z4,w1,w2,w3,nT,t1,t2,al,w7]
   have e1:(out.set k ((rest*1000000000+x)/d)).drop k=((rest*1000000000+x)/d)::out.drop (k+1):=by
    rw[lH (d:=(rest*1000000000+x)/d) (by rw[gK (by omega)])]
    rw[List.drop_set_of_lt (by omega)]
   generalize (rest*1000000000+x)/d=q at*
   generalize (rest*1000000000+x)%d=r' at*
   refine⟨k,by omega,⟨by simp[av,hW],hK.set (aQ N),rfl,by simp,by omega,out.set k q,r',by simp,by simp[fy],by simp,t6,t7,?_,?_⟩⟩
   ·rw[e1];exact Di.app (Di.one t4 t5) iQ
   ·rw[e1,lH hx,vI,vI,<-hv]
    grind
 ·rintro _ r ⟨H,n1,W⟩ hr ⟨rfl,hW,hK,hn,h8,hm,out,rest,al,fy,h7,ef,yS,iQ,hv⟩
  simp only at hW hK hn al
  subst hn
  rw[yU,yU]at*
  have oG:Sl H (N+1) (.slice N 0 l.length (some l.length) 1) (dI out):=Sl.row (by omega) al (by simp[fy]) (fun k hk=>by simp at hk;omega)
  simp[hr,h7]
  refine aB (Hk oG (by omega)) ?_
  rintro u h2 n2 k2 hu
  have hvo:=vF iQ
  have hvl:=vF hd
  have m1:(vI l).toNat/d.toNat=(vI out).toNat:=by
   have:(vI l)/d=vI out:=by
    rw[<-hv,Int.mul_comm,Int.add_comm,Int.add_mul_ediv_left _ _ (by omega),Int.ediv_eq_zero_of_lt ef yS];omega
   rw[<-this]
   obtain⟨a,ha⟩:=D3 hvl
   obtain⟨b,hb⟩:=D3 (uE h0)
   rw[ha,hb];rfl
  have m2:(((vI l).toNat%d.toNat:Nat):Int)=rest:=by
   have:(vI l)%d=rest:=by
    rw[<-hv,Int.mul_comm,Int.add_comm,Int.add_mul_emod_self_left,Int.emod_eq_of_lt ef yS]
   rw[<-this]
   obtain⟨a,ha⟩:=D3 hvl
   obtain⟨b,hb⟩:=D3 (uE h0)
   rw[ha,hb];rfl
  rw[Wg iQ]at hu
  have m2':rest=max (vI l) 0%max d 0:=by rw[<-m2];simp
  simp[hr,h7,aA,hW]
  refine⟨hK.trans k2,u,⟨rfl,m2'⟩,?_⟩
  rw[m1]
  exact hu
def A.Ik:=A.q Tryz.f211
def A.rW:=A.ql A.Ik 1 []
def A.rX:=(fun x0=>A.ql A.Ik 0 [x0]) A.rW
def A.b211:=(fun x0=>A.qb A.Ik [x0]) A.rX
def A.k211:=@A.kk 211 72 [.tmp 4] A.b211 (by kernel_rfl) rfl
structure MuB (h:T O) (N:Nat) (la lb:List Int) (i:Nat) (ZK:List Int) (a:Int) (m:Nat) (r:T V) (st:St):Prop where
 w:av N st.w=[]
 ae:ab h N st.h (N+1)
 n:st.n=N+1
 ex:∃k out c,k+m=lb.length/\r.get 8=some (.int .i64 k)/\st.h.get N=some (.cells (dI out) 3 true)/\out.length=la.length+lb.length/\r.get 7=some (.int .i64 c)/\0<=c/\c<1000000000/\Di out/\(∀t,i+lb.length<=t->t<out.length->out[t]?=some 0)/\vI out+pI (i+k)*c=vI ZK+pI i*(a*vI (lb.take k))
structure MuA (h:T O) (N:Nat) (la lb:List Int) (m:Nat) (r:T V) (st:St):Prop where
 w:av N st.w=[]
 ae:ab h N st.h (N+1)
 n:st.n=N+1
 ex:∃i out,i+m=la.length/\r.get 6=some (.int .i64 i)/\st.h.get N=some (.cells (dI out) 3 true)/\out.length=la.length+lb.length/\Di out/\(∀t,i+lb.length<=t->t<out.length->out[t]?=some 0)/\vI out=vI (la.take i)*vI lb
def XC{h:T O}{N:Nat}{u v:V}{la lb:List Int}{a b:Nat}(hu:Sl h N u (dI la))(hv:Sl h N v (dI lb))(da:Di la)(db:Di lb)(ea:vI la=a)(eb:vI lb=b)(hl:la.length+lb.length<1099511627776):Fn A.C 211 [u,v] h N (fun x h' n'=>Dn h' n' x (a*b)):=by
 intro w
 have lu:=hu.len
 have lv:=hv.len
 rw[ib]at lu lv
 rw[aN,A.k211 (by simp)]
 have cs:((la.length:Int)+(lb.length:Int)).toNat=la.length+lb.length:=by omega
 simp(disch:=first|(simp;done)|omega|rfl) [A.b211,lu,lv,cs]
 refine bG [(6,9),(16,69)] (fun e r st=>e=.exit 0/\MuA h N la lb 0 r st) (MuA h N la lb) la.length ?_ ?_ ?_
 ·refine⟨by simp,ab.refl.new _,rfl,0,List.replicate (la.length+lb.length) 0,by omega,by simp,by simp[We],by simp,Di.Ej _,fun t _ ht=>?_,by simp[Wa,vI]⟩
  simp at ht
  simp[ht]
 ·rintro m r ⟨H,n1,W⟩ hr hf ⟨hW,hK,hn,i,out,hi,h6,al,fy,iQ,hz,my⟩
  simp only at hW hK hn al
  subst hn
  rw[bk]
  cases m with
  |zero=>
   have:i=la.length:=by omega
   subst this
   simp[A.rX,hr,hf,h6,lu]
   exact⟨hW,hK,rfl,la.length,out,by omega,by simp[h6],al,fy,iQ,hz,my⟩
  |succ m=>
   obtain⟨x,hx⟩:=bh (l:=la) (k:=i) (by omega)
   obtain⟨b1,b2,b3,b4,b5,z1,z2,z3,z4⟩:=hu.at (ic hx)
   have z3:=(hK.get _ z2).trans z3
   have NX:=da.get hx
   have xF:(i:Int)<(la.length:Int):=by omega
   have zi:i<la.length:=by omega
   simp[A.rX,hr,hf,h6,xF,zi,lu]
   refine bG [(7,9),(22,54)] (fun e r st=>e=.exit 2/\MuB h N la lb i out x 0 r st) (MuB h N la lb i out x) lb.length ?_ ?_ ?_
   ·exact⟨hW,hK,rfl,0,out,0,by omega,by simp,al,fy,by simp,by omega,by omega,iQ,hz,by simp[vI]⟩
   ·rintro m2 r2 ⟨H2,n2,W2⟩ dt cU ⟨dZ,eN,ff,k,oW,c,hk,h8,iX,Dr,h7,c0,c1,lE,dL,jL⟩
    simp only at dZ eN ff iX
    subst ff
    rw[bk]
    cases m2 with
    |zero=>
     have:k=lb.length:=by omega
     subst this
     simp[A.rW,hr,dt,cU,h8,lv]
     exact⟨dZ,eN,rfl,lb.length,oW,c,by omega,by simp[h8],iX,Dr,by simp[h7],c0,c1,lE,dL,jL⟩
    |succ m2=>
     obtain⟨y,hy⟩:=bh (l:=lb) (k:=k) (by omega)
     obtain⟨g1,g2,g3,g4,g5,y1,y2,y3,y4⟩:=hv.at (ic hy)
     have y3:=(eN.get _ y2).trans y3
     have z3:=(eN.get _ z2).trans ((hK.get _ z2).symm.trans z3)
     have Kd:=db.get hy
     obtain⟨o,ho⟩:=bh (l:=oW) (k:=i+k) (by omega)
     have hod:=lE.get ho
     have bL:(k:Int)<(lb.length:Int):=by omega
     have eF:k<lb.length:=by omega
     have p0:0<=x*y:=xh NX.1 Kd.1
     have p1:x*y<=999999999*999999999:=Int.mul_le_mul (by omega) (by omega) Kd.1 (by omega)
     have q1:(i:Int)+(k:Int)<(la.length:Int)+(lb.length:Int):=by omega
     have q2:i+k<la.length+lb.length:=by omega
     have q3:(0:Int)<=(i:Int)+(k:Int):=by omega
     have t1:(o+x*y+c).tmod 1000000000=(o+x*y+c)%1000000000:=D5 (by omega)
     have t2:(o+x*y+c).tdiv 1000000000=(o+x*y+c)/1000000000:=Bl (by omega)
     have w8:=ib oW
     have w7:=Bz (l:=oW) (k:=i+k) (v:=(o+x*y+c)%1000000000) (by omega)
     have e1:vI (oW.set (i+k) ((o+x*y+c)%1000000000))+pI (i+(k+1))*((o+x*y+c)/1000000000)=vI out+pI i*(x*vI (lb.take (k+1))):=by
      have hm:=D8 (o+x*y+c) 1000000000
      rw[CG ho,ze hy,show i+(k+1)=(i+k)+1 by omega,vE]
      have hp:=Qi i k
      generalize (o+x*y+c)/1000000000=Q at*
      generalize (o+x*y+c)%1000000000=R at*
      have:R=o+x*y+c-1000000000*Q:=by omega
      rw[this]
      have h3:vI oW=vI out+pI i*(x*vI (lb.take k))-pI (i+k)*c:=by omega
      rw[h3,hp]
      grind
     generalize hP:x*y=P at*
     have b1':bl .i64 P=P:=cA (by omega) (by omega)
     have b2':bl .i64 (o+P)=o+P:=cA (by omega) (by omega)
     have b3':bl .i64 (o+P+c)=o+P+c:=cA (by omega) (by omega)
     have b4':bl .i64 ((o+P+c)/1000000000)=(o+P+c)/1000000000:=cA (by omega) (by omega)
     have f1:b1<N+1:=by omega
     have f2:g1<N+1:=by omega
     have r0:=D6 (o+P+c) (b:=1000000000) (by decide)
     have r1:=D9 (o+P+c) (b:=1000000000) (by decide)
     have d0:0<=(o+P+c)/1000000000:=Int.ediv_nonneg (by omega) (by decide)
     have d1:(o+P+c)/1000000000<1000000000:=Int.ediv_lt_of_lt_mul (by decide) (by omega)
     simp(disch:=first|(simp;done)|omega|rfl) [-getElem?_pos,A.rW,hr,dt,cU,h6,h7,h8,lu,lv,bL,eF,xF,zi,q1,q2,q3,iX,ic ho,z1,z2,z3,z4,y1,y2,y3,y4,hP,b1',b2',b3',b4',t1,t2,w7,cs,f1,f2]
     refine⟨m2,by omega,⟨by simp[av,dZ],eN.set (aQ N),rfl,k+1,_,_,by omega,by simp,by simp,by simp[Dr],by simp,d0,d1,lE.set r0 r1,fun t IN xb=>?_,e1⟩⟩
     rw[dW (by omega)]
     exact dL t IN (by simpa using xb)
   ·rintro _ r2 ⟨H2,n2,W2⟩ dt ⟨rfl,dZ,eN,ff,k,oW,c,hk,h8,iX,Dr,h7,c0,c1,lE,dL,jL⟩
    simp only at dZ eN ff iX
    subst ff
    have:k=lb.length:=by omega
    subst this
    have ho:=dL (i+lb.length) (by omega) (by omega)
    have Dq:=hf.inner (D':=[(7,9),(22,54)]) rfl (by simp) dt
    have q1:(i:Int)+(lb.length:Int)<(la.length:Int)+(lb.length:Int):=by omega
    have q2:i+lb.length<la.length+lb.length:=by omega
    have q3:(0:Int)<=(i:Int)+(lb.length:Int):=by omega
    have w8:=ib oW
    have w7:=Bz (l:=oW) (k:=i+lb.length) (v:=c) (by omega)
    rw[xg]at jL
    have e1:vI (oW.set (i+lb.length) c)=vI (la.take (i+1))*vI lb:=by
     rw[CG ho,ze hx]
     have:vI oW+pI (i+lb.length)*(c-0)=vI out+pI i*(x*vI lb):=by rw[Int.sub_zero];exact jL
     rw[this,my]
     grind
    simp(disch:=first|(simp;done)|omega|rfl) [-getElem?_pos,hr,dt,h6,h7,lv,iX,ic ho,q1,q2,q3,w7,Dq,cs]
    refine⟨m,by omega,⟨by simp[av,dZ],eN.set (aQ N),rfl,i+1,_,by omega,by simp,by simp,by simp[Dr],lE.set c0 c1,fun t IN xb=>?_,e1⟩⟩
    rw[dW (by omega)]
    exact dL t (by omega) (by simpa using xb)
 ·rintro _ r ⟨H,n1,W⟩ hr ⟨rfl,hW,hK,hn,i,out,hi,h6,al,fy,iQ,hz,my⟩
  simp only at hW hK hn al
  subst hn
  have:i=la.length:=by omega
  subst this
  rw[xg,ea,eb]at my
  have oG:Sl H (N+1) (.slice N 0 (la.length+lb.length) (some (la.length+lb.length)) 1) (dI out):=Sl.row (by omega) al (by simp[fy]) (fun k hk=>by simp at hk;omega)
  simp[hr]
  refine aB (Hk oG (by omega)) ?_
  rintro y h2 n2 k2 hy
  rw[GM iQ (n:=a*b) (by rw[my];simp)]at hy
  simp[hr,aA,hW]
  exact⟨hK.trans k2,hy⟩
open Go
variable {N i n n1:Nat} {h h1:T O} {r:T V} {v:V} {w:List Nat}
structure dG (D:Nat->Prop) (h:T O) (n:Nat) (h':T O) (n':Nat):Prop where
 le:n<=n'
 get:∀i,i<n->¬D i->h'.get i=h.get i
def dG.refl{D:Nat->Prop}:dG D h n h n:=⟨aQ _,fun _ _ _=>rfl⟩
def ab.upd{D:Nat->Prop}{h':T O}{n':Nat}(k:ab h n h' n'):dG D h n h' n':=⟨k.le,fun i hi _=>k.get i hi⟩
def dG.trans{D:Nat->Prop}{h2:T O}{n2:Nat}(a:dG D h n h1 n1)(b:dG D h1 n1 h2 n2):dG D h n h2 n2:=
 ⟨tk a.le b.le,fun i hi hd=>(b.get i (eY hi a.le) hd).trans (a.get i hi hd)⟩
def dG.mono{D D2:Nat->Prop}(a:dG D h n h1 n1)(hd:∀i,i<n->D i->D2 i):dG D2 h n h1 n1:=⟨a.le,fun i hi hn=>a.get i hi fun hc=>hn (hd i hi hc)⟩
def dG.set{D:Nat->Prop}{o:O}(a:dG D h n h1 n1)(hi:D i\/n<=i):dG D h n (h1.set i o) n1:=
 ⟨a.le,fun j hj hd=>by
  rw[T.ag,ak ?_]
  ·exact a.get j hj hd
  ·rintro rfl
   rcases hi with hi|hi
   ·exact hd hi
   ·omega⟩
def dG.up{D:Nat->Prop}{n2:Nat}(a:dG D h n h1 n1)(hn:n1<=n2):dG D h n h1 n2:=⟨tk a.le hn,a.get⟩
def dG.new{D:Nat->Prop}(a:dG D h n h1 n1)(o:O):dG D h n (h1.set n1 o) (n1+1):=(a.set (.inr a.le)).up (vw _)
def yJ{N i:Nat}:∀{w:List Nat},i∈av N w->i∈w/\i<N
 |[],h=>by simp[av]at h
 |j::w,h=>by
  simp only[av]at h
  split at h
  ·unfold vD at h
   split at h
   ·have:=yJ h;exact⟨nS _ this.1,this.2⟩
   ·rcases kv.1 h with h|h
    ·subst h;exact⟨nR,by assumption⟩
    ·have:=yJ h;exact⟨nS _ this.1,this.2⟩
  ·have:=yJ h;exact⟨nS _ this.1,this.2⟩
def Zzb:av N []=[]:=rfl
attribute [simp] Zzb
def ui(h:∀i∈w,N<=i):av N w=[]:=Zpw h
def oX(st:St)(i:Nat)(send:Option V)(zero:V):Option O->Option (V×St)
 |some (.chan cap buf)=>match send with
  |some v=>if buf.length<cap then some (.aV [.int .i64 0,.bool false],st.write i (.chan cap (buf++[v]))) else some (.aV [.int .i64 (-1),.bool false],st)
  |none=>match buf with
   |v::buf=>some (.aV [.int .i64 0,.bool true,v],st.write i (.chan cap buf))
   |[]=>some (.aV [.int .i64 (-1),.bool false,zero],st)
 |_=>none
def Yqy{st:St}{send:Option V}{zero:V}:V5 st i send zero=oX st i send zero (st.h.get i):=by
 unfold V5 oX
 rcases st.h.get i with _|o
 ·rfl
 ·cases o with
  |chan cap buf=>cases send with
   |some v=>rfl
   |none=>cases buf<;>rfl
  |_=>cases send<;>rfl
def RW(C:Cx)(K:List Kf)(Q:Rs->Prop)(d:Nat)(ops:List dq)(r:T V)(n:Nat)(m:List Nat):Option (V×St)->Prop
 |some (v,bS)=>bA C (.dP::K) (BD (dw C.call ops ⟨r.set d v,n,m⟩ bS)) Q
 |none=>False
def ZL(C:Cx)(K:List Kf)(Q:Rs->Prop)(d:Nat)(ops:List dq)(r:T V)(n:Nat)(m:List Nat)(st:St)(zero:V):Option V->Option (Option V)->Prop
 |some (.chan i),some sv=>RW C K Q d ops r n m (oX st i sv zero (st.h.get i))
 |_,_=>False
def Yg2{C:Cx}{K:List Kf}{Q:Rs->Prop}{ro:Option Nat}{d:Nat}{ch:Src}{send:Option Src}{zero:V}{ops:List dq}{m:List Nat}{st:St}(hd:d<n):bA C K (eJ (C.code ro (.yh (some d) ch send zero ops) ⟨r,n,m⟩ st)) Q↔ZL C K Q d ops r n m st zero (ch.ev r) (aC r send):=by
 have e:C.code ro (.yh (some d) ch send zero ops) ⟨r,n,m⟩ st=Bu (some d) ch send zero ops C.call C.code ro ⟨r,n,m⟩ st:=Cx.dh ..
 rw[e]
 unfold Bu ZL
 simp only[]
 rcases ch.ev r with _|v
 ·exact JH
 ·cases v<;>try exact JH
  rename_i i
  rcases aC r send with _|sv
  ·exact JH
  ·simp only[Yqy]
   rcases oX st i sv zero (st.h.get i)with _|⟨v,bS⟩
   ·exact JH
   ·simp only[Fr.put,hd,if_true,RW]
    refine jb ?_
    show _=iR C K (lK C .dP (BD (dw C.call ops ⟨r.set d v,n,m⟩ bS)))
    rcases dw C.call ops ⟨r.set d v,n,m⟩ bS with _|⟨_,_⟩<;>rfl
def Yb6{C K Q d ops r n m st zero i sv}:ZL C K Q d ops r n m st zero (some (.chan i)) (some sv)=RW C K Q d ops r n m (oX st i sv zero (st.h.get i)):=rfl
def Yb5{C K Q d ops r n m v bS}:RW C K Q d ops r n m (some (v,bS))=bA C (.dP::K) (BD (dw C.call ops ⟨r.set d v,n,m⟩ bS)) Q:=rfl
def Zyv{st:St}{cap:Nat}{buf:List V}{zero:V}:oX st i none zero (some (.chan cap (v::buf)))=some (.aV [.int .i64 0,.bool true,v],st.write i (.chan cap buf)):=rfl
def Yb4{st:St}{cap:Nat}{zero:V}:oX st i none zero (some (.chan cap []))=some (.aV [.int .i64 (-1),.bool false,zero],st):=rfl
attribute [simp] Yg2 Yb6 Yb5 Zyv Yb4
def RX(st:St)(bytes:Nat):Option V->Option (V×St)
 |some (.int _ k)=>if k<0\/k > IntKind.i64.max\/bytes*k > 2^48-112 then none else some (.chan st.n,st.alloc (.chan k.toNat []))
 |_=>none
def Zu2{bytes:Nat}{x:Src}{call:cD}{st:St}:Ee bytes x call r st=RX st bytes (x.ev r):=by unfold Ee RX;rfl
def Zzs{st:St}{kk:IntKind}{k:Int}(h0:0<=k)(h1:k<=100):RX st 16 (some (.int kk k))=some (.chan st.n,st.alloc (.chan k.toNat [])):=by
 unfold RX
 simp only[]
 rw[ak]
 have:IntKind.i64.max=9223372036854775807:=rfl
 omega
attribute [simp] Zu2 Zzs
def bZ:V->List Nat
 |.slice i _ _ _ _=>[i]
 |_=>[]
def Sl.bz{D:Nat->Prop}{h':T O}{N':Nat}{l:List V}(s:Sl h N v l)(k:dG D h N h' N')(hd:∀i∈bZ v,¬D i):Sl h' N' v l:=by
 rcases s with s|⟨i,o,cp,c,e,rw,rfl,h2,h3,h4⟩
 ·exact .inl s
 ·exact .inr ⟨i,o,cp,c,e,rw,rfl,eY h2 k.le,(k.get i h2 (hd i (by simp[bZ]))).trans h3,h4⟩
def Row(z:Nat)(e:TypeId)(h:T O)(v:V)(l:List (List V)):Prop:=(∀x∈l,x.length=z)/\((l=[]/\v=.aa)\/∃i x m,v=.slice i 0 l.length none z/\x.length=m*z/\h.get i=some (.cells (l.flatten++x) e true))
def RN(l:List (List V))(x:List V):(l++[x]).flatten=l.flatten++x:=by simp
def Ysj(st:St)(size:Nat)(zero:List V):Option V->Option (V×St)
 |some v=>Jq size zero (.const v) V8 .nil st
 |none=>none
structure Ywo (z bytes:Nat) (e:TypeId) (zero:List V) (h:T O) (N:Nat) (v:V) (l:List (List V)) (k:Nat) (v1 v2 v3 v4:V) (h3 h4:T O) (w3:List Nat):Prop where
 a:∀w,∃u,mS ⟨h,N,w⟩ z (some v) (some (some (.int .i64 k))) (some (some (.int .i64 ((k:Int)+1)))) (some (some (.int .i64 l.length)))=some (u,⟨h,N,w⟩)
 b:∀w,mS ⟨h,N,w⟩ z (some v) (some none) (some (some (.int .i64 k))) (some none)=some (v1,⟨h,N,w⟩)
 c:∀w,mS ⟨h,N,w⟩ z (some v) (some (some (.int .i64 ((k:Int)+1)))) (some none) (some none)=some (v2,⟨h,N,w⟩)
 d:∀w,gJ ⟨h,N,w⟩ z bytes e v1 v2=some (v3,⟨h3,N,w3++w⟩)
 len:pw v3=some (l.length-1)
 f:∀w,mS ⟨h3,N,w⟩ z (some v3) (some (some (.int .i64 ((l.length-1:Nat):Int)))) (some (some (.int .i64 l.length))) (some none)=some (v4,⟨h3,N,w⟩)
 g:∀w,∃i,i∈bZ v/\Ysj ⟨h3,N,w⟩ z zero (some v4)=some (.aV [],⟨h4,N,i::w⟩)
 w:∀i∈w3,i∈bZ v
 upd:dG (fun i=>i∈bZ v) h N h4 N
 ids:bZ v3=bZ v
 row:Row z e h4 v3 (l.take k++l.drop (k+1))
def RY(st:St)(size:Nat):Option V->Option V->Option (V×St)
 |some d,some s=>Cz size (.const d) (.const s) V8 .nil st
 |_,_=>none
def Ycw{size:Nat}{d s:Src}{call:cD}{st:St}:Cz size d s call r st=RY st size (d.ev r) (s.ev r):=by
 unfold Cz RY
 rcases d.ev r with _|d
 ·rfl
 ·rcases s.ev r with _|s<;>rfl
def Yax{cp:Option Nat}{c xs:List V}{e:TypeId}{s:V}(hn:0<n)(hs:eA ⟨h,N,w⟩ 1 s=some (n,xs))(hx:xs.length=n)(hg:h.get i=some (.cells c e true))(hc:c.length=n):RY ⟨h,N,w⟩ 1 (some (.slice i 0 n cp 1)) (some s)=some (.int .i64 n,⟨h.set i (.cells xs e true),N,i::w⟩):=by
 have pS:¬n=0:=by omega
 have hd:c.drop n=[]:=List.drop_of_length_le (by omega)
 have ht:xs.take n=xs:=eZ (by omega)
 simp only[RY,Cz,Src.ev,hs,St.row,hg]
 simp[pS,hc,ad,St.write,ht,hx,hd]
attribute [simp] Ycw
def kl(e:TypeId)(Y:V->Prop)(h:T O)(u:V):Prop:=∀i∈bZ u,∃z,h.get i=some (.cells z e true)/\z≠[]/\∀y∈z,Y y
def kl.nil{e:TypeId}{Y:V->Prop}:kl e Y h .aa:=fun i hi=>by simp[bZ]at hi
def Cf{z:Nat}{e:TypeId}{N0:Nat}{u:V}{l:List (List V)}{x:List V}{bytes:Nat}{Y:V->Prop}(s:Own z e N0 h N v l)(hn:l=[]->v=.aa)(hY:∀c∈l,∀y∈c,Y y)(hN:N0<=N)(hz:0<z)(hx:x.length=z)
  (hu:eA ⟨h,N,w⟩ z u=some (1,x)) (hb:2*(l.length+1)*bytes<=281474976710656):
  ∃v' h' w',gJ ⟨h,N,w⟩ z bytes e v u=some (v',⟨h',N+1,w'⟩)/\av N0 w'=av N0 w/\ab h N0 h' (N+1)/\dG (fun i=>i∈bZ v) h N h' (N+1)/\kl e Y h v/\Own z e N0 h' (N+1) v' (l++[x]):=by
 obtain⟨v',h',w',f1,f2,f3,f4,f5⟩:=tP s hN hz hx hu hb
 refine⟨v',h',w',f1,f2,f3,⟨vw _,fun j hj hd=>?_⟩,fun i hi=>?_,f5⟩
 ·rcases f4 j with h1|h1|⟨o,n,c,q,h1⟩
  ·exact h1
  ·omega
  ·exact absurd (by rw[h1];simp[bZ]) hd
 ·obtain⟨hl,⟨rfl,rfl⟩|⟨j,rfl,h2,h3,h4⟩⟩:=s
  ·simp[bZ]at hi
  ·simp only[bZ,uz]at hi
   subst hi
   refine⟨_,h4,fun hc=>?_,fun y hy=>?_⟩
   ·have mA:=zj hl
    rw[hc]at mA
    have:l.length=0:=by
     rcases Nat.mul_eq_zero.1 mA.symm with h|h
     ·exact h
     ·omega
    have:=hn (q8 this)
    cases this
   ·obtain⟨c,hc,tR⟩:=List.mem_flatten.1 hy
    exact hY c hc y tR
def ZM{l:List Nat}:(l.any fun i=>Nat.ble n i&&Nat.blt i n)=false:=by
 rw[List.any_eq_false]
 intro i _ hc
 rw[iy]at hc
 have h1:=vo hc.1
 have h2:i<n:=vo hc.2
 omega
def ZN{l:List Nat}:CB l (some [])=false:=by
 unfold CB
 rw[List.any_eq_false]
 intro i _ hc
 simp at hc
end
end Go.Mx
