/-lensletref01-/
import Derived.Test.YtlbnjhhebffhdaaGreatDoorAwOk
set_option linter.all false
namespace Go.Mx
noncomputable section
open Go Go.Proofs
set_option maxRecDepth 1000000
def A.M8:=A.q Tryz.f217
def A.lJ:=A.ql A.M8 0 []
def A.b217:=(fun x0=>A.qb A.M8 [x0]) A.lJ
def A.k217:=@A.kk 217 21 [.tmp 2] A.b217 (by kernel_rfl) rfl
def A.b168:=A.q Tryz.f168
def A.k168:=@A.kk 168 15 [.cell 4 (some 2)] A.b168 (by kernel_rfl) rfl
def A.M9:=A.q Tryz.f170
def A.jf:=A.ql A.M9 0 []
def A.b170:=(fun x0=>A.qb A.M9 [x0]) A.jf
def A.k170:=@A.kk 170 41 [.tmp 4] A.b170 (by kernel_rfl) rfl
def A.Na:=A.q Tryz.f216
def A.pO:=A.ql A.Na 0 []
def A.b216:=(fun x0=>A.qb A.Na [x0]) A.pO
def A.k216:=@A.kk 216 39 [.tmp 4,.tmp 5] A.b216 (by kernel_rfl) rfl
def HP{h:T O}{N:Nat}{v:V}{l:List Int}(hs:Sl h N v (dI l))(hl:l.length<1152921504606846976):Fn A.C 217 [v] h N (fun v' h' N'=>Sl h' N' v' (dI (pP l))):=by
 intro w
 rw[aZ,A.k217 (by simp)]
 simp[A.b217]
 refine Zal [(0,0),(3,19)] (fun e r st=>e=.exit 0/\st=⟨h,N,[]⟩/\∃u,r.get 0=some u/\Sl h N u (dI (pP l))) (fun m r st=>st=⟨h,N,[]⟩/\m<=l.length/\∃u,r.get 0=some u/\Sl h N u (dI (l.take m))/\pP (l.take m)=pP l) l.length ?_ ?_ ?_
 ·exact⟨rfl,Yv5 _,v,rfl,by rw[At];exact hs,by rw[At]⟩
 ·rintro m r _ hr hf ⟨rfl,hm,u,h0,hu,ht⟩
  rw[cn]
  have lu:=hu.len
  rw[gp,j9,oW hm]at lu
  cases m with
  |zero=>
   simp[A.lJ,hf,h0,lu]
   rw[<-ht];exact hu
  |succ k=>
   obtain⟨d,hd⟩:=eQ (l:=l) (k:=k) (by omega)
   have R5:(l.take (k+1))[k]?=some d:=by rw[kW,aR (by omega)];exact hd
   obtain⟨i,o,c,e,rw,q1,q2,q3,q4⟩:=hu.at (fY R5)
   have e1:l.take (k+1)=l.take k++[d]:=by rw[HQ,hd];rfl
   have k1:(0:Int)<(k:Int)+1:=by omega
   have k2:(k:Int)<(k:Int)+1:=by omega
   have k3:(k:Int)+1-1=(k:Int):=by omega
   by_cases hz:d=0
   ·subst hz
    rw[e1,Zlm]at ht
    obtain⟨v',x1,x2⟩:=R6 (w:=[]) hu (lo:=0) (hi:=k) (tR _) (by rw[gp,j9];omega) none (some (.int .i64 k)) (.inr ⟨rfl,rfl⟩) (.inl rfl)
    have x3:((dI (l.take (k+1))).take k).drop 0=dI (l.take k):=by
     rw[Au,dI,<-List.map_take,List.take_take,oW (by omega)];rfl
    rw[x3]at x2
    simp(disch:=first|(simp;done)|omega|rfl) [A.lJ,hf,h0,lu,k1,k3,q1,q3,q4,Nb,aH,x1]
    exact⟨k,by omega,by omega,x2,ht⟩
   ·rw[e1,Zpb hz,<-e1]at ht
    simp(disch:=first|(simp;done)|omega|rfl) [A.lJ,hf,h0,lu,k1,k3,q1,q3,q4,hz]
    rw[<-ht];exact hu
 ·rintro _ r _ hr ⟨rfl,rfl,u,h0,hu⟩
  simp[h0,Ret]
  exact⟨ah.refl,hu⟩
def Rg(h:T O)(N:Nat)(v:V)(z:Int):Prop:=∃u,v=.agg [.bool (decide (z<0)),u]/\Dn h N u z.natAbs
def vj{h:T O}{N:Nat}{v:V}{l:List Int}{b:Bool}{n:Nat}(hs:Sl h N v (dI l))(hd:Di l)(hn:vI l=n)(hl:l.length<1152921504606846976):Fn A.C 168 [.bool b,v] h N (fun v' h' N'=>Rg h' N' v' (if b=true then -(n:Int) else n)):=by
 intro w
 rw[aZ,A.k168 (by simp)]
 simp[A.b168]
 refine av (HP (hs.ai (ah.refl.new _)) hl) ?_
 rintro u h1 n1 k1 hu
 rw[HR hd hn]at hu
 have lu:=hu.len
 rw[gp]at lu
 have xE:=k1.le
 have zgc:=k1.get N (by omega)
 simp at zgc
 have Av:=hu.form.one
 have R7:=hu.form.cells
 unfold V.one at Av
 unfold V.cells at R7
 have k0:=(ah.refl (h:=h) (n:=N)).new (.cells [.bool false,.ziA] 129 true)
 have kx:=fun o=>((k0.trans k1).set (i:=N) (o:=o) (Yv5 N))
 have fi:=fun c1 (hc:c1.length=2)=>hu.setInt (i:=N) (c1:=c1) (e1:=129) (w1:=true) zgc (by intro x hx k m;simp at hx;rcases hx with rfl|rfl<;>simp) hc
 cases b with
 |false=>
  simp[aj,zgc,Av,R7,bM,aI,aK,Ret]
  refine⟨kx _,u,?_,?_⟩
  ·have:¬(n:Int)<0:=by omega
   simp
  ·exact fi _ rfl
 |true=>
  by_cases hz:n=0
  ·have tS:(ds n).length=0:=by rw[hz,ry];rfl
   simp[lu,tS,aj,zgc,Av,R7,bM,aI,aK,Ret]
   refine⟨kx _,u,?_,?_⟩
   ·simp[hz]
   ·simpa[hz,Dn]using fi _ rfl
  ·have tS:¬(ds n).length=0:=fun hc=>hz (Bz.1 (rz hc))
   have BA:(0:Int)<((ds n).length:Int):=by omega
   have oG:0<(ds n).length:=by omega
   have hl3:ds n≠[]:=fun hc=>hz (Bz.1 hc)
   simp[lu,oG,aj,zgc,Av,R7,bM,aI,aK,Ret]
   refine⟨kx _,u,?_,?_⟩
   ·have: -(n:Int)<0:=by omega
    simp;try omega
   ·simpa[Dn]using fi _ rfl
def tJ:∀{b a:Nat},a<=b->(ds a).length<=(ds b).length:=by
 intro b
 induction b using Nat.strongRecOn with
 |_ b ih=>
  intro a h
  by_cases h0:a=0
  ·rw[h0,ry];simp
  ·rw[xN h0,xN (n:=b) (by omega)]
   have:=ih (b/1000000000) (BQ (by omega) (by decide)) (a:=a/1000000000) (Nat.div_le_div_right h)
   simp only[bC];omega
def QT{A:List Int}{k:Nat}{x:Int}(hx:A[k]?=some x):vI A=vI (A.take k)+pI k*(x+1000000000*vI (A.drop (k+1))):=by
 have hk:=yz hx
 rw[Of A k (by omega),rV hx,vI]
def Ylh{A B:List Int}{k:Nat}{x y:Int}(hA:Di A)(hB:Di B)(hx:A[k]?=some x)(hy:B[k]?=some y)(he:A.drop (k+1)=B.drop (k+1))(UU:x<y):vI A<vI B:=by
 have hk:=yz hx
 rw[QT hx,QT hy,he]
 have h1:=uy (hA.take k)
 have h2:=ux (hB.take k)
 rw[j9,oW (by omega)]at h1
 have h3:pI k*(x+1000000000*vI (B.drop (k+1))+1)<=pI k*(y+1000000000*vI (B.drop (k+1))):=qE (by omega) (tr (B8 k))
 have h4:pI k*(x+1000000000*vI (B.drop (k+1))+1)=pI k*(x+1000000000*vI (B.drop (k+1)))+pI k:=by grind
 omega
def Bk(a b:Nat):Int:=if a<b then -1 else if b<a then 1 else 0
def Zvy{h:T O}{N:Nat}{u v:V}{a b:Nat}{w:List Nat}(hu:Dn h N u a)(hv:Dn h N v b)(hl:(ds a).length<1152921504606846976)(oG:(ds b).length<1152921504606846976):A.C.call (.func 170 [] []) [u,v] ⟨h,N,w⟩=some (.int .i64 (Bk a b),⟨h,N,w⟩):=by
 apply Call.eq
 have lu:=hu.len
 have lv:=hv.len
 rw[gp]at lu lv
 have va:=ga a
 have vb:=ga b
 have da:=fW a
 have db:=fW b
 rw[aZ,A.k170 (by simp)]
 unfold Bk
 by_cases h1:(ds a).length=(ds b).length
 ·have iE:((ds a).length:Int)=((ds b).length:Int):=by omega
  simp(disch:=omega) [A.b170,lu,lv,h1]
  generalize hA:ds a=X at*
  generalize hB:ds b=Y at*
  refine Zal [(4,5),(19,40)] (fun e r st=>st=⟨h,N,[]⟩/\((e=.exit 0/\a=b)\/(e=.ret/\a<b/\r.get 4=some (.int .i64 (-1)))\/(e=.ret/\b<a/\r.get 4=some (.int .i64 1)))) (fun m r st=>st=⟨h,N,[]⟩/\m<=X.length/\r.get 5=some (.int .i64 ((m:Int)-1))/\X.drop m=Y.drop m) X.length ?_ ?_ ?_
  ·exact⟨rfl,Yv5 _,by simp[h1],by rw[xD,h1,xD]⟩
  ·rintro m r _ hr hf ⟨rfl,hm,h5,he⟩
   rw[cn]
   cases m with
   |zero=>
    have:a=b:=by
     simp at he;rw[he]at va;omega
    simp[A.jf,hf,h5,this]
   |succ k=>
    obtain⟨x,hx⟩:=eQ (l:=X) (k:=k) (by omega)
    obtain⟨y,hy⟩:=eQ (l:=Y) (k:=k) (by omega)
    obtain⟨b1,b2,b3,b4,b5,z1,z2,z3,z4⟩:=Sl.at (show Sl h N u (dI (ds a)) from hu) (by rw[hA];exact fY hx)
    obtain⟨c1,c2,c3,c4,c5,y1,y2,y3,y4⟩:=Sl.at (show Sl h N v (dI (ds b)) from hv) (by rw[hB];exact fY hy)
    have rR:(((k+1:Nat):Int)-1)=(k:Int):=by omega
    rw[rR]at h5
    have hk1:(k:Int)<(X.length:Int):=by omega
    have jZ:(k:Int)<(Y.length:Int):=by omega
    have CL:(0:Int)<=(k:Int):=by omega
    have hk4:k<Y.length:=by omega
    by_cases aW:x<y
    ·have:=Ylh da db hx hy he aW
     have jb:a<b:=by omega
     simp[A.jf,hr,hf,h5,lu,lv,hk1,jZ,CL,z1,z2,z3,z4,y1,y2,y3,y4,aW,jb]
    ·by_cases Ml:y<x
     ·have:=Ylh db da hy hx he.symm Ml
      have jb:b<a:=by omega
      have Kq:¬a<b:=by omega
      simp[A.jf,hr,hf,h5,lu,lv,hk1,jZ,CL,z1,z2,z3,z4,y1,y2,y3,y4,aW,Ml,jb,Kq]
     ·have UU:x=y:=by omega
      simp(disch:=first|(simp;done)|omega|rfl) [A.jf,hr,hf,h5,lu,lv,CL,z1,z2,z3,z4,y1,y2,y3,y4,aW,Ml]
      exact⟨k,by omega,by omega,rfl,by rw[rV hx,rV hy,he,UU]⟩
  ·rintro e r _ hr ⟨rfl,⟨rfl,hz⟩|⟨rfl,hz,h4⟩|⟨rfl,hz,h4⟩⟩
   ·simp[hz]
   ·simp[h4,hz]
   ·have:¬a<b:=by omega
    simp[h4,hz,this]
 ·have iE:¬((ds a).length:Int)=((ds b).length:Int):=by omega
  by_cases h2:(ds a).length<(ds b).length
  ·have jb:a<b:=by
    apply Yxf;intro hc;have:=tJ hc;omega
   simp[A.b170,lu,lv,h1,h2,jb]
  ·have jb:b<a:=by
    apply Yxf;intro hc;have:=tJ hc;omega
   have Kq:¬a<b:=by omega
   simp[A.b170,lu,lv,h1,h2,jb,Kq]
structure DdA (h:T O) (N:Nat) (l:List Int) (d:Int) (m:Nat) (r:T V) (st:St):Prop where
 w:aL N st.w=[]
 ai:ah h N st.h (N+1)
 n:st.n=N+1
 r8:r.get 8=some (.int .i64 ((m:Int)-1))
 hm:m<=l.length
 ex:∃out rest,st.h.get N=some (.cells (dI out) 3 true)/\out.length=l.length/\r.get 7=some (.int .i64 rest)/\0<=rest/\rest<d/\Di (out.drop m)/\vI (out.drop m)*d+rest=vI (l.drop m)
def Zof{h:T O}{N:Nat}{v:V}{l:List Int}{d:Int}(hs:Sl h N v (dI l))(hd:Di l)(hl:l.length<1099511627776)(h0:0<d)(h1:d<1000000000):Fn A.C 216 [v,.int .i64 d] h N (fun u h' n'=>∃q,u=.aX [q,.int .i64 ((vI l).toNat%d.toNat:Nat)]/\Dn h' n' q ((vI l).toNat/d.toNat)):=by
 intro w
 have lv:=hs.len
 rw[gp]at lv
 rw[aZ,A.k216 (by simp)]
 simp(disch:=first|(simp;done)|omega|rfl) [A.b216,lv]
 refine Zal [(7,9),(16,35)] (fun e r st=>e=.exit 0/\DdA h N l d 0 r st) (DdA h N l d) l.length ?_ ?_ ?_
 ·refine⟨by simp,ah.refl.new _,rfl,by simp,Yv5 _,List.replicate l.length 0,0,by simp[Zq9],by simp,by simp,by omega,h0,?_,?_⟩
  ·rw[zd (by simp)];exact Di.nil
  ·rw[zd (by simp),xD];simp[vI]
 ·rintro m r ⟨H,n1,W⟩ hr hf ⟨hW,hK,hn,h8,hm,out,rest,zgc,uQ,h7,kh,UW,iG,hv⟩
  simp only at hW hK hn zgc
  subst hn
  rw[cn]
  cases m with
  |zero=>
   simp[A.pO,hf,h8]
   exact⟨hW,hK,rfl,by simpa using h8,hm,out,rest,zgc,uQ,by simp[h7],kh,UW,iG,hv⟩
  |succ k=>
   obtain⟨x,hx⟩:=eQ (l:=l) (k:=k) (by omega)
   obtain⟨b1,b2,b3,b4,b5,z1,z2,z3,z4⟩:=hs.at (fY hx)
   have z3:=(hK.get _ z2).trans z3
   have QU:=hd.get hx
   have rR:(((k+1:Nat):Int)-1)=(k:Int):=by omega
   rw[rR]at h8
   have hk1:(k:Int)<(l.length:Int):=by omega
   have jZ:k<l.length:=by omega
   have CL:(0:Int)<=(k:Int):=by omega
   have w1:bA .i64 (rest*1000000000)=rest*1000000000:=cH (by omega) (by omega)
   have w2:bA .i64 (rest*1000000000+x)=rest*1000000000+x:=cH (by omega) (by omega)
   have s0:0<=rest*1000000000+x:=by omega
   have lK:¬d=0:=by omega
   have t1:(rest*1000000000+x).tdiv d=(rest*1000000000+x)/d:=AL s0
   have t2:(rest*1000000000+x).tmod d=(rest*1000000000+x)%d:=DE s0
   have t3:=DG (rest*1000000000+x) d
   have t4:0<=(rest*1000000000+x)/d:=Int.ediv_nonneg s0 (by omega)
   have t5:(rest*1000000000+x)/d<1000000000:=by
    apply Int.ediv_lt_of_lt_mul h0
    omega
   have t6:=DI (rest*1000000000+x) lK
   have t7:=DH (rest*1000000000+x) h0
   have w3:bA .i64 ((rest*1000000000+x)/d)=(rest*1000000000+x)/d:=cH (by omega) (by omega)
   have w8:=gp out
   have w7:=Zi2 (l:=out) (k:=k) (v:=(rest*1000000000+x)/d) (by omega)
   simp(disch:=first|(simp;done)|omega|rfl) [A.pO,hr,hf,h8,h7,CL,lv,z1,z3,z4,w1,w2,w3,t1,t2,zgc,w7]
   have e1:(out.set k ((rest*1000000000+x)/d)).drop k=((rest*1000000000+x)/d)::out.drop (k+1):=by
    rw[rV (d:=(rest*1000000000+x)/d) (by rw[lM (by omega)])]
    rw[List.drop_set_of_lt (by omega)]
   generalize (rest*1000000000+x)/d=q at*
   generalize (rest*1000000000+x)%d=r' at*
   refine⟨k,by omega,⟨by simp[aL,hW],hK.set (Yv5 N),rfl,by simp,by omega,out.set k q,r',by simp,by simp[uQ],by simp,t6,t7,?_,?_⟩⟩
   ·rw[e1];exact Di.app (Di.one t4 t5) iG
   ·rw[e1,rV hx,vI,vI,<-hv]
    grind
 ·rintro _ r ⟨H,n1,W⟩ hr ⟨rfl,hW,hK,hn,h8,hm,out,rest,zgc,uQ,h7,kh,UW,iG,hv⟩
  simp only at hW hK hn zgc
  subst hn
  rw[Au,Au]at*
  have hs2:Sl H (N+1) (.slice N 0 l.length (some l.length) 1) (dI out):=Sl.row (by omega) zgc (by simp[uQ]) (fun k hk=>by simp at hk;omega)
  simp[hr]
  refine av (HP hs2 (by omega)) ?_
  rintro u h2 n2 k2 hu
  have hvo:=ux iG
  have hvl:=ux hd
  have m1:(vI l).toNat/d.toNat=(vI out).toNat:=by
   have:(vI l)/d=vI out:=by
    rw[<-hv,Int.mul_comm,Int.add_comm,Int.add_mul_ediv_left _ _ (by omega),Int.ediv_eq_zero_of_lt kh UW];omega
   rw[<-this]
   obtain⟨a,ha⟩:=DC hvl
   obtain⟨b,hb⟩:=DC (tr h0)
   rw[ha,hb];rfl
  have m2:(((vI l).toNat%d.toNat:Nat):Int)=rest:=by
   have:(vI l)%d=rest:=by
    rw[<-hv,Int.mul_comm,Int.add_comm,Int.add_mul_emod_self_left,Int.emod_eq_of_lt kh UW]
   rw[<-this]
   obtain⟨a,ha⟩:=DC hvl
   obtain⟨b,hb⟩:=DC (tr h0)
   rw[ha,hb];rfl
  rw[Zqa iG]at hu
  have m2':rest=max (vI l) 0%max d 0:=by rw[<-m2];simp
  simp[h7,Ret,hW]
  refine⟨hK.trans k2,u,⟨rfl,m2'⟩,?_⟩
  rw[m1]
  exact hu
def A.Kr:=A.q Tryz.f172
def A.zgH:=A.ql A.Kr 1 []
def A.rb:=(fun x0=>A.ql A.Kr 0 [x0]) A.zgH
def A.b172:=(fun x0=>A.qb A.Kr [x0]) A.rb
def A.k172:=@A.kk 172 72 [.tmp 4] A.b172 (by kernel_rfl) rfl
structure MuB (h:T O) (N:Nat) (la lb:List Int) (i:Nat) (zeH:List Int) (a:Int) (m:Nat) (r:T V) (st:St):Prop where
 w:aL N st.w=[]
 ai:ah h N st.h (N+1)
 n:st.n=N+1
 ex:∃k out c,k+m=lb.length/\r.get 8=some (.int .i64 k)/\st.h.get N=some (.cells (dI out) 3 true)/\out.length=la.length+lb.length/\r.get 7=some (.int .i64 c)/\0<=c/\c<1000000000/\Di out/\(∀t,i+lb.length<=t->t<out.length->out[t]?=some 0)/\vI out+pI (i+k)*c=vI zeH+pI i*(a*vI (lb.take k))
structure MuA (h:T O) (N:Nat) (la lb:List Int) (m:Nat) (r:T V) (st:St):Prop where
 w:aL N st.w=[]
 ai:ah h N st.h (N+1)
 n:st.n=N+1
 ex:∃i out,i+m=la.length/\r.get 6=some (.int .i64 i)/\st.h.get N=some (.cells (dI out) 3 true)/\out.length=la.length+lb.length/\Di out/\(∀t,i+lb.length<=t->t<out.length->out[t]?=some 0)/\vI out=vI (la.take i)*vI lb
def Zuj{h:T O}{N:Nat}{u v:V}{la lb:List Int}{a b:Nat}(hu:Sl h N u (dI la))(hv:Sl h N v (dI lb))(da:Di la)(db:Di lb)(ea:vI la=a)(eb:vI lb=b)(hl:la.length+lb.length<1099511627776):Fn A.C 172 [u,v] h N (fun x h' n'=>Dn h' n' x (a*b)):=by
 intro w
 have lu:=hu.len
 have lv:=hv.len
 rw[gp]at lu lv
 rw[aZ,A.k172 (by simp)]
 have cs:((la.length:Int)+(lb.length:Int)).toNat=la.length+lb.length:=by omega
 simp(disch:=first|(simp;done)|omega|rfl) [A.b172,lu,lv,cs]
 refine Zal [(6,9),(16,69)] (fun e r st=>e=.exit 0/\MuA h N la lb 0 r st) (MuA h N la lb) la.length ?_ ?_ ?_
 ·refine⟨by simp,ah.refl.new _,rfl,0,List.replicate (la.length+lb.length) 0,by omega,by simp,by simp[Zq9],by simp,Di.DT _,fun t _ ht=>?_,by simp[Zp9,vI]⟩
  simp at ht
  simp[ht]
 ·rintro m r ⟨H,n1,W⟩ hr hf ⟨hW,hK,hn,i,out,hi,h6,zgc,uQ,iG,hz,nP⟩
  simp only at hW hK hn zgc
  subst hn
  rw[cn]
  cases m with
  |zero=>
   have:i=la.length:=by omega
   subst this
   simp[A.rb,hr,hf,h6,lu]
   exact⟨hW,hK,rfl,la.length,out,by omega,by simp[h6],zgc,uQ,iG,hz,nP⟩
  |succ m=>
   obtain⟨x,hx⟩:=eQ (l:=la) (k:=i) (by omega)
   obtain⟨b1,b2,b3,b4,b5,z1,z2,z3,z4⟩:=hu.at (fY hx)
   have z3:=(hK.get _ z2).trans z3
   have QU:=da.get hx
   have yg:(i:Int)<(la.length:Int):=by omega
   have BL:i<la.length:=by omega
   simp[A.rb,hr,h6,yg,lu]
   refine Zal [(7,9),(22,54)] (fun e r st=>e=.exit 2/\MuB h N la lb i out x 0 r st) (MuB h N la lb i out x) lb.length ?_ ?_ ?_
   ·exact⟨hW,hK,rfl,0,out,0,by omega,by simp,zgc,uQ,by simp,by omega,by omega,iG,hz,by simp[vI]⟩
   ·rintro m2 r2 ⟨H2,n2,W2⟩ dw ik ⟨dX,hK2,eP,k,lf,c,hk,h8,pE,CX,h7,c0,c1,km,fK,ix⟩
    simp only at dX hK2 eP pE
    subst eP
    rw[cn]
    cases m2 with
    |zero=>
     have:k=lb.length:=by omega
     subst this
     simp[A.zgH,hr,dw,ik,h8,lv]
     exact⟨dX,hK2,rfl,lb.length,lf,c,by omega,by simp[h8],pE,CX,by simp[h7],c0,c1,km,fK,ix⟩
    |succ m2=>
     obtain⟨y,hy⟩:=eQ (l:=lb) (k:=k) (by omega)
     obtain⟨g1,g2,g3,g4,g5,y1,y2,y3,y4⟩:=hv.at (fY hy)
     have y3:=(hK2.get _ y2).trans y3
     have z3:=(hK2.get _ z2).trans ((hK.get _ z2).symm.trans z3)
     have MN:=db.get hy
     obtain⟨o,ho⟩:=eQ (l:=lf) (k:=i+k) (by omega)
     have hod:=km.get ho
     have hk1:(k:Int)<(lb.length:Int):=by omega
     have jZ:k<lb.length:=by omega
     have p0:0<=x*y:=vO QU.1 MN.1
     have p1:x*y<=999999999*999999999:=Int.mul_le_mul (by omega) (by omega) MN.1 (by omega)
     have q1:(i:Int)+(k:Int)<(la.length:Int)+(lb.length:Int):=by omega
     have q2:i+k<la.length+lb.length:=by omega
     have q3:(0:Int)<=(i:Int)+(k:Int):=by omega
     have t1:(o+x*y+c).tmod 1000000000=(o+x*y+c)%1000000000:=DE (by omega)
     have t2:(o+x*y+c).tdiv 1000000000=(o+x*y+c)/1000000000:=AL (by omega)
     have w8:=gp lf
     have w7:=Zi2 (l:=lf) (k:=i+k) (v:=(o+x*y+c)%1000000000) (by omega)
     have e1:vI (lf.set (i+k) ((o+x*y+c)%1000000000))+pI (i+(k+1))*((o+x*y+c)/1000000000)=vI out+pI i*(x*vI (lb.take (k+1))):=by
      have hm:=DG (o+x*y+c) 1000000000
      rw[Ca ho,xZ hy,show i+(k+1)=(i+k)+1 by omega,uw]
      have hp:=Tm i k
      generalize (o+x*y+c)/1000000000=Q at*
      generalize (o+x*y+c)%1000000000=R at*
      have:R=o+x*y+c-1000000000*Q:=by omega
      rw[this]
      have h3:vI lf=vI out+pI i*(x*vI (lb.take k))-pI (i+k)*c:=by omega
      rw[h3,hp]
      grind
     generalize hP:x*y=P at*
     have b1':bA .i64 P=P:=cH (by omega) (by omega)
     have b2':bA .i64 (o+P)=o+P:=cH (by omega) (by omega)
     have b3':bA .i64 (o+P+c)=o+P+c:=cH (by omega) (by omega)
     have b4':bA .i64 ((o+P+c)/1000000000)=(o+P+c)/1000000000:=cH (by omega) (by omega)
     have f1:b1<N+1:=by omega
     have f2:g1<N+1:=by omega
     have r0:=DI (o+P+c) (b:=1000000000) (by decide)
     have r1:=DH (o+P+c) (b:=1000000000) (by decide)
     have d0:0<=(o+P+c)/1000000000:=Int.ediv_nonneg (by omega) (by decide)
     have d1:(o+P+c)/1000000000<1000000000:=Int.ediv_lt_of_lt_mul (by decide) (by omega)
     simp(disch:=first|(simp;done)|omega|rfl) [-getElem?_pos,A.zgH,hr,dw,ik,h6,h7,h8,lu,lv,hk1,pE,fY ho,z1,z3,z4,y1,y3,y4,hP,b1',b2',b3',b4',t1,t2,w7,f1,f2]
     refine⟨m2,by omega,⟨by simp[aL,dX],hK2.set (Yv5 N),rfl,k+1,_,_,by omega,by simp,by simp,by simp[CX],by simp,d0,d1,km.set r0 r1,fun t BG yh=>?_,e1⟩⟩
     rw[eJ (by omega)]
     exact fK t BG (by simpa using yh)
   ·rintro _ r2 ⟨H2,n2,W2⟩ dw ⟨rfl,dX,hK2,eP,k,lf,c,hk,h8,pE,CX,h7,c0,c1,km,fK,ix⟩
    simp only at dX hK2 eP pE
    subst eP
    have:k=lb.length:=by omega
    subst this
    have ho:=fK (i+lb.length) (by omega) (by omega)
    have Dm:=hf.inner (D':=[(7,9),(22,54)]) rfl (by simp) dw
    have q1:(i:Int)+(lb.length:Int)<(la.length:Int)+(lb.length:Int):=by omega
    have q2:i+lb.length<la.length+lb.length:=by omega
    have q3:(0:Int)<=(i:Int)+(lb.length:Int):=by omega
    have w8:=gp lf
    have w7:=Zi2 (l:=lf) (k:=i+lb.length) (v:=c) (by omega)
    rw[At]at ix
    have e1:vI (lf.set (i+lb.length) c)=vI (la.take (i+1))*vI lb:=by
     rw[Ca ho,xZ hx]
     have:vI lf+pI (i+lb.length)*(c-0)=vI out+pI i*(x*vI lb):=by rw[Int.sub_zero];exact ix
     rw[this,nP]
     grind
    simp(disch:=first|(simp;done)|omega|rfl) [-getElem?_pos,hr,dw,h6,h7,lv,pE,fY ho,w7,Dm]
    refine⟨m,by omega,⟨by simp[aL,dX],hK2.set (Yv5 N),rfl,i+1,_,by omega,by simp,by simp,by simp[CX],km.set c0 c1,fun t BG yh=>?_,e1⟩⟩
    rw[eJ (by omega)]
    exact fK t (by omega) (by simpa using yh)
 ·rintro _ r ⟨H,n1,W⟩ hr ⟨rfl,hW,hK,hn,i,out,hi,h6,zgc,uQ,iG,hz,nP⟩
  simp only at hW hK hn zgc
  subst hn
  have:i=la.length:=by omega
  subst this
  rw[At,ea,eb]at nP
  have hs2:Sl H (N+1) (.slice N 0 (la.length+lb.length) (some (la.length+lb.length)) 1) (dI out):=Sl.row (by omega) zgc (by simp[uQ]) (fun k hk=>by simp at hk;omega)
  simp[hr]
  refine av (HP hs2 (by omega)) ?_
  rintro y h2 n2 k2 hy
  rw[HR iG (n:=a*b) (by rw[nP];simp)]at hy
  simp[Ret,hW]
  exact⟨hK.trans k2,hy⟩
open Go
variable {N i n n1:Nat} {h h1:T O} {r:T V} {v:V}
structure wS (D:Nat->Prop) (h:T O) (n:Nat) (h':T O) (n':Nat):Prop where
 le:n<=n'
 get:∀i,i<n->¬D i->h'.get i=h.get i
def wS.refl{D:Nat->Prop}:wS D h n h n:=⟨Yv5 _,fun _ _ _=>rfl⟩
def ah.upd{D:Nat->Prop}{h':T O}{n':Nat}(k:ah h n h' n'):wS D h n h' n':=⟨k.le,fun i hi _=>k.get i hi⟩
def wS.trans{D:Nat->Prop}{h2:T O}{n2:Nat}(a:wS D h n h1 n1)(b:wS D h1 n1 h2 n2):wS D h n h2 n2:=
 ⟨p9 a.le b.le,fun i hi hd=>(b.get i (iL hi a.le) hd).trans (a.get i hi hd)⟩
def wS.mono{D D2:Nat->Prop}(a:wS D h n h1 n1)(hd:∀i,i<n->D i->D2 i):wS D2 h n h1 n1:=⟨a.le,fun i hi hn=>a.get i hi fun hc=>hn (hd i hi hc)⟩
def wS.set{D:Nat->Prop}{o:O}(a:wS D h n h1 n1)(hi:D i\/n<=i):wS D h n (h1.set i o) n1:=
 ⟨a.le,fun j hj hd=>by
  rw[T.al,aA ?_]
  ·exact a.get j hj hd
  ·rintro rfl
   rcases hi with hi|hi
   ·exact hd hi
   ·omega⟩
def MM{N i:Nat}:∀{w:List Nat},i∈aL N w->i∈w/\i<N
 |[],h=>by simp[aL]at h
 |j::w,h=>by
  simp only[aL]at h
  split at h
  ·unfold xe at h
   split at h
   ·have:=MM h;exact⟨oY _ this.1,this.2⟩
   ·rcases kV.1 h with h|h
    ·subst h;exact⟨oV,by assumption⟩
    ·have:=MM h;exact⟨oY _ this.1,this.2⟩
  ·have:=MM h;exact⟨oY _ this.1,this.2⟩
def Zzg:aL N []=[]:=rfl
attribute [simp] Zzg
def KY{w:List Nat}(h:∀i∈w,N<=i):aL N w=[]:=Zpl h
def nV(st:St)(i:Nat)(send:Option V)(zero:V):Option O->Option (V×St)
 |some (.chan cap buf)=>match send with
  |some v=>if buf.length<cap then some (.aX [.int .i64 0,.bool false],st.write i (.chan cap (buf++[v]))) else some (.aX [.int .i64 (-1),.bool false],st)
  |none=>match buf with
   |v::buf=>some (.aX [.int .i64 0,.bool true,v],st.write i (.chan cap buf))
   |[]=>some (.aX [.int .i64 (-1),.bool false,zero],st)
 |_=>none
def Yp2{st:St}{send:Option V}{zero:V}:Tk st i send zero=nV st i send zero (st.h.get i):=by
 unfold Tk nV
 rcases st.h.get i with _|o
 ·rfl
 ·cases o with
  |chan cap buf=>cases send with
   |some v=>rfl
   |none=>cases buf<;>rfl
  |_=>cases send<;>rfl
def UX(C:Cx)(K:List Kf)(Q:Rs->Prop)(d:Nat)(ops:List du)(r:T V)(n:Nat)(m:List Nat):Option (V×St)->Prop
 |some (v,cj)=>Run C (.fk::K) (Bf (dH C.call ops ⟨r.set d v,n,m⟩ cj)) Q
 |none=>False
def Yr8(C:Cx)(K:List Kf)(Q:Rs->Prop)(d:Nat)(ops:List du)(r:T V)(n:Nat)(m:List Nat)(st:St)(zero:V):Option V->Option (Option V)->Prop
 |some (.chan i),some sv=>UX C K Q d ops r n m (nV st i sv zero (st.h.get i))
 |_,_=>False
def Yhl{C:Cx}{K:List Kf}{Q:Rs->Prop}{ro:Option Nat}{d:Nat}{ch:Src}{send:Option Src}{zero:V}{ops:List du}{m:List Nat}{st:St}(hd:d<n):Run C K (fx (C.code ro (.wW (some d) ch send zero ops) ⟨r,n,m⟩ st)) Q↔Yr8 C K Q d ops r n m st zero (ch.ev r) (aH r send):=by
 have e:C.code ro (.wW (some d) ch send zero ops) ⟨r,n,m⟩ st=zo (some d) ch send zero ops C.call C.code ro ⟨r,n,m⟩ st:=Cx.dJ ..
 rw[e]
 unfold zo Yr8
 simp only[]
 rcases ch.ev r with _|v
 ·exact Mk
 ·cases v<;>try exact Mk
  rename_i i
  rcases aH r send with _|sv
  ·exact Mk
  ·simp only[Yp2]
   rcases nV st i sv zero (st.h.get i)with _|⟨v,cj⟩
   ·exact Mk
   ·simp only[Fr.put,hd,if_true,UX]
    refine iW ?_
    show _=iV C K (l9 C .fk (Bf (dH C.call ops ⟨r.set d v,n,m⟩ cj)))
    rcases dH C.call ops ⟨r.set d v,n,m⟩ cj with _|⟨_,_⟩<;>rfl
def Yce{C K Q d ops r n m st zero i sv}:Yr8 C K Q d ops r n m st zero (some (.chan i)) (some sv)=UX C K Q d ops r n m (nV st i sv zero (st.h.get i)):=rfl
def Ycd{C K Q d ops r n m v cj}:UX C K Q d ops r n m (some (v,cj))=Run C (.fk::K) (Bf (dH C.call ops ⟨r.set d v,n,m⟩ cj)) Q:=rfl
def Zy1{st:St}{cap:Nat}{buf:List V}{zero:V}:nV st i none zero (some (.chan cap (v::buf)))=some (.aX [.int .i64 0,.bool true,v],st.write i (.chan cap buf)):=rfl
def Ycc{st:St}{cap:Nat}{zero:V}:nV st i none zero (some (.chan cap []))=some (.aX [.int .i64 (-1),.bool false,zero],st):=rfl
attribute [simp] Yhl Yce Ycd Zy1 Ycc
def UY(st:St)(bytes:Nat):Option V->Option (V×St)
 |some (.int _ k)=>if k<0\/k > IntKind.i64.max\/bytes*k > 2^48-112 then none else some (.chan st.n,st.alloc (.chan k.toNat []))
 |_=>none
def Zus{bytes:Nat}{x:Src}{call:cP}{st:St}:DM bytes x call r st=UY st bytes (x.ev r):=by unfold DM UY;rfl
def Zzx{st:St}{kk:IntKind}{k:Int}(h0:0<=k)(h1:k<=100):UY st 16 (some (.int kk k))=some (.chan st.n,st.alloc (.chan k.toNat [])):=by
 unfold UY
 simp only[]
 rw[aA]
 have:IntKind.i64.max=9223372036854775807:=rfl
 omega
attribute [simp] Zus Zzx
def jU:V->List Nat
 |.slice i _ _ _ _=>[i]
 |_=>[]
def Sl.fv{D:Nat->Prop}{h':T O}{N':Nat}{l:List V}(s:Sl h N v l)(k:wS D h N h' N')(hd:∀i∈jU v,¬D i):Sl h' N' v l:=by
 rcases s with s|⟨i,o,cp,c,e,rw,rfl,h2,h3,h4⟩
 ·exact .inl s
 ·exact .inr ⟨i,o,cp,c,e,rw,rfl,iL h2 k.le,(k.get i h2 (hd i (by simp[jU]))).trans h3,h4⟩
def Row(z:Nat)(e:TypeId)(h:T O)(v:V)(l:List (List V)):Prop:=(∀x∈l,x.length=z)/\((l=[]/\v=.ziA)\/∃i x m,v=.slice i 0 l.length none z/\x.length=m*z/\h.get i=some (.cells (l.flatten++x) e true))
def Se(l:List (List V))(x:List V):(l++[x]).flatten=l.flatten++x:=by simp
def Yre(st:St)(size:Nat)(zero:List V):Option V->Option (V×St)
 |some v=>LM size zero (.const v) Zrd .nil st
 |none=>none
structure Yv1 (z bytes:Nat) (e:TypeId) (zero:List V) (h:T O) (N:Nat) (v:V) (l:List (List V)) (k:Nat) (v1 v2 v3 v4:V) (h3 h4:T O) (w3:List Nat):Prop where
 a:∀w,∃u,oM ⟨h,N,w⟩ z (some v) (some (some (.int .i64 k))) (some (some (.int .i64 ((k:Int)+1)))) (some (some (.int .i64 l.length)))=some (u,⟨h,N,w⟩)
 b:∀w,oM ⟨h,N,w⟩ z (some v) (some none) (some (some (.int .i64 k))) (some none)=some (v1,⟨h,N,w⟩)
 c:∀w,oM ⟨h,N,w⟩ z (some v) (some (some (.int .i64 ((k:Int)+1)))) (some none) (some none)=some (v2,⟨h,N,w⟩)
 d:∀w,tf ⟨h,N,w⟩ z bytes e v1 v2=some (v3,⟨h3,N,w3++w⟩)
 len:rH v3=some (l.length-1)
 f:∀w,oM ⟨h3,N,w⟩ z (some v3) (some (some (.int .i64 ((l.length-1:Nat):Int)))) (some (some (.int .i64 l.length))) (some none)=some (v4,⟨h3,N,w⟩)
 g:∀w,∃i,i∈jU v/\Yre ⟨h3,N,w⟩ z zero (some v4)=some (.aX [],⟨h4,N,i::w⟩)
 w:∀i∈w3,i∈jU v
 upd:wS (fun i=>i∈jU v) h N h4 N
 ids:jU v3=jU v
 row:Row z e h4 v3 (l.take k++l.drop (k+1))
def Yrd(st:St)(size:Nat):Option V->Option V->Option (V×St)
 |some d,some s=>DQ size (.const d) (.const s) Zrd .nil st
 |_,_=>none
def Yc9{size:Nat}{d s:Src}{call:cP}{st:St}:DQ size d s call r st=Yrd st size (d.ev r) (s.ev r):=by
 unfold DQ Yrd
 rcases d.ev r with _|d
 ·rfl
 ·rcases s.ev r with _|s<;>rfl
attribute [simp] Yc9
def Lm(e:TypeId)(Y:V->Prop)(h:T O)(u:V):Prop:=∀i∈jU u,∃z,h.get i=some (.cells z e true)/\z≠[]/\∀y∈z,Y y
def Lm.nil{e:TypeId}{Y:V->Prop}:Lm e Y h .ziA:=fun i hi=>by simp[jU]at hi
def Zou{z:Nat}{e:TypeId}{N0:Nat}{u:V}{l:List (List V)}{x:List V}{bytes:Nat}{w:List Nat}{Y:V->Prop}(s:Own z e N0 h N v l)(hn:l=[]->v=.ziA)(hY:∀c∈l,∀y∈c,Y y)(hN:N0<=N)(hz:0<z)(hx:x.length=z)
  (hu:oL ⟨h,N,w⟩ z u=some (1,x)) (hb:2*(l.length+1)*bytes<=281474976710656):
  ∃v' h' w',tf ⟨h,N,w⟩ z bytes e v u=some (v',⟨h',N+1,w'⟩)/\aL N0 w'=aL N0 w/\ah h N0 h' (N+1)/\wS (fun i=>i∈jU v) h N h' (N+1)/\Lm e Y h v/\Own z e N0 h' (N+1) v' (l++[x]):=by
 obtain⟨v',h',w',f1,f2,f3,f4,f5⟩:=Bj s hN hz hx hu hb
 refine⟨v',h',w',f1,f2,f3,⟨xS _,fun j hj hd=>?_⟩,fun i hi=>?_,f5⟩
 ·rcases f4 j with h1|h1|⟨o,n,c,q,h1⟩
  ·exact h1
  ·omega
  ·exact absurd (by rw[h1];simp[jU]) hd
 ·obtain⟨hl,⟨rfl,rfl⟩|⟨j,rfl,h2,h3,h4⟩⟩:=s
  ·simp[jU]at hi
  ·simp only[jU,yW]at hi
   subst hi
   refine⟨_,h4,fun hc=>?_,fun y hy=>?_⟩
   ·have oX:=Zbj hl
    rw[hc]at oX
    have:l.length=0:=by
     rcases Nat.mul_eq_zero.1 oX.symm with h|h
     ·exact h
     ·omega
    have:=hn (rz this)
    cases this
   ·obtain⟨c,hc,QV⟩:=List.mem_flatten.1 hy
    exact hY c hc y QV
variable {n:Nat}
def di(n:Nat):UInt8:=UInt8.ofNat (48+n%10)
def Ke(n:Nat):(di n).toNat=48+n%10:=by
 unfold di
 simp
 omega
def dk(n:Nat):bj:=if h:n=0 then [] else dk (n/10)++[di n]
termination_by n
decreasing_by omega
def sO:dk 0=[]:=by unfold dk;simp
def wE(h:n≠0):dk n=dk (n/10)++[di n]:=by
 conv=>lhs;unfold dk
 rw[dif_neg h]
def aq(n:Nat):bj:=if n=0 then [48] else dk n
def Zip(n k:Nat):bj:=List.replicate (k-(dk n).length) 48++dk n
def aU(z:Int):bj:=if z<0 then 45::aq z.natAbs else aq z.natAbs
def Zao(q:Rat):bj:=if q.den=1 then aU q.num else aU q.num++47::aq q.den
def Zsc:∀(n:Nat),aN (dk n)=n:=by
 intro n
 induction n using Nat.strongRecOn with
 |_ n ih=>
  by_cases h:n=0
  ·subst h;rw[sO];rfl
  ·rw[wE h,Oh,ih (n/10) (by omega),Ke]
   omega
def zU(n:Nat):aN (aq n)=n:=by
 unfold aq
 split
 ·subst_vars;rfl
 ·exact Zsc n
def Ztq{s:bj}{c:UInt8}:cO (s++[c])=(cO s&&jN c):=by simp[cO]
def Yji(n:Nat):jN (di n)=true:=by
 unfold jN
 rw[Ke]
 simp
 omega
def Ygg:∀(n:Nat),cO (dk n)=true:=by
 intro n
 induction n using Nat.strongRecOn with
 |_ n ih=>
  by_cases h:n=0
  ·subst h;rw[sO];rfl
  ·rw[wE h,Ztq,ih (n/10) (by omega),Yji];rfl
def Zb9(n:Nat):cO (aq n)=true:=by
 unfold aq
 split
 ·rfl
 ·exact Ygg n
def oS:∀{k n:Nat},n<10^k↔(dk n).length<=k
 |0,n=>by
  simp only[AF,Nat.lt_one_iff,Nat.le_zero,List.length_eq_zero_iff]
  constructor
  ·rintro rfl;exact sO
  ·intro h
   have:=Zsc n
   rw[h]at this
   exact this.symm
 |k+1,n=>by
  by_cases h:n=0
  ·subst h;rw[sO];simp;exact vu (by decide)
  ·rw[wE h,iJ,zf,fV]
   have:=oS (k:=k) (n:=n/10)
   rw[Nat.succ_le_succ_iff,<-this]
   exact(pd (by decide)).symm
def UZ:∀{n:Nat},n≠0->∃c t,dk n=c::t/\c.toNat≠48:=by
 intro n
 induction n using Nat.strongRecOn with
 |_ n ih=>
  intro h
  rw[wE h]
  by_cases h0:n/10=0
  ·rw[h0,sO]
   refine⟨di n,[],rfl,?_⟩
   rw[Ke];omega
  ·obtain⟨c,t,e,hc⟩:=ih (n/10) (by omega) h0
   rw[e]
   exact⟨c,t++[di n],rfl,hc⟩
def JD(n:Nat):aq n≠[]:=by
 unfold aq
 split
 ·simp
 ·rename_i h
  obtain⟨c,t,e,_⟩:=UZ h
  rw[e];simp
def Zpu(n:Nat):ij (aq n)=true:=by
 have ha:=Zb9 n
 by_cases h:n=0
 ·subst h;rfl
 ·obtain⟨c,t,e,hc⟩:=UZ h
  have e2:aq n=c::t:=by unfold aq;rw[aA h,e]
  rw[e2]at ha ⊢
  show (cO (c::t)&&(decide (c.toNat≠48)||decide (t=[])))=true
  rw[ha,decide_eq_true hc];rfl
def Yle{c:UInt8}(h:jN c=true){k:Nat}:di (10*k+(c.toNat-48))=c:=by
 unfold jN at h
 simp only[decide_eq_true_eq]at h
 apply UInt8.toNat_inj.1
 rw[Ke];omega
def Yfv:∀(t:bj) (c:UInt8),cO (c::t)=true->c.toNat≠48->dk (aN (c::t))=c::t:=by
 intro t
 generalize hn:t.length=n
 induction n generalizing t with
 |zero=>
  intro c ha hc
  have:t=[]:=rz hn
  subst this
  have hd:jN c=true:=by simpa[cO]using ha
  have:=Yle hd (k:=0)
  have h2:48<=c.toNat/\c.toNat<=57:=by simpa[jN]using hd
  have e:aN [c]=c.toNat-48:=by simp[aN]
  rw[e,wE (by omega),show (c.toNat-48)/10=0 by omega,sO]
  simp only[Nat.mul_zero,oJ]at this
  rw[this];rfl
 |succ n ih=>
  intro c ha hc
  obtain⟨u,d,rfl⟩:∃u d,t=u++[d]:=⟨t.dropLast,t.getLast (by rintro rfl;simp at hn),(Yzy _).symm⟩
  simp at hn
  have ha':cO (c::u)=true/\jN d=true:=by
   rw[<-BV,Ztq,jc]at ha
   exact ha
  have ih':=ih u (by omega) c ha'.1 hc
  have h2:48<=d.toNat/\d.toNat<=57:=by simpa[jN]using ha'.2
  rw[<-BV,Oh]
  have sP:aN (c::u)≠0:=by
   intro h0
   rw[h0,sO]at ih'
   cases ih'
  rw[wE (by omega),show (10*aN (c::u)+(d.toNat-48))/10=aN (c::u) by omega,ih',Yle ha'.2]
def Bi{s:bj}(h:ij s=true):aq (aN s)=s:=by
 cases s with
 |nil=>cases h
 |cons c t=>
  have h:(cO (c::t)&&(decide (c.toNat≠48)||decide (t=[])))=true:=h
  rw[jc,IF,decide_eq_true_eq,decide_eq_true_eq]at h
  obtain⟨ha,hc⟩:=h
  by_cases h48:c.toNat=48
  ·rcases hc with hc|hc
   ·exact absurd h48 hc
   ·subst hc
    have:c=48:=UInt8.toNat_inj.1 h48
    subst this;rfl
  ·have e:=Yfv t c ha h48
   have:aN (c::t)≠0:=by
    intro h0
    rw[h0,sO]at e
    cases e
   unfold aq
   rw[aA this,e]
def Pj{a b:Nat}(h:aq a=aq b):a=b:=by rw[<-zU a,h,zU]
def Zpx:∀{k a b:Nat},a≠0->b<10^k->dk (a*10^k+b)=dk a++Zip b k:=by
 intro k
 induction k with
 |zero=>
  intro a b ha hb
  have:b=0:=by simpa using hb
  subst this
  simp[Zip,sO]
 |succ k ih=>
  intro a b ha hb
  rw[fV]at hb ⊢
  have pN:b/10<10^k:=(pd (by decide)).2 hb
  have hp:0<10^k:=vu (by decide)
  have sP:a*(10^k*10)+b≠0:=by
   have:=xM (Nat.pos_of_ne_zero ha) (xM hp (by decide:0<10));omega
  have e1:(a*(10^k*10)+b)/10=a*10^k+b/10:=by
   rw[<-AG,iz _ 10,Nat.mul_add_div (by decide)]
  have e2:di (a*(10^k*10)+b)=di b:=by
   apply UInt8.toNat_inj.1
   rw[Ke,Ke,<-AG,iz _ 10,Nat.mul_add_mod]
  rw[wE sP,e1,ih ha pN,e2,rB]
  congr 1
  by_cases qN:b=0
  ·subst qN
   unfold Zip
   rw[Nat.zero_div,sO]
   simp only[List.length_nil,Nat.sub_zero,AP]
   rw[List.replicate_succ']
   rfl
  ·unfold Zip
   rw[wE qN,iJ,zf,<-rB]
   rw[show k+1-((dk (b/10)).length+1)=k-(dk (b/10)).length by omega]
def Yjj{b k:Nat}(h:b<10^k):(Zip b k).length=k:=by
 have:=oS.1 h
 simp[Zip];omega
def Zk2(b:Nat):Zip b 1=aq b:=by
 unfold Zip aq
 split
 ·subst_vars;rw[sO];rfl
 ·rename_i h
  obtain⟨c,t,e,_⟩:=UZ h
  rw[e]
  simp
def Zte(h:n≠0):0<(dk n).length:=by
 obtain⟨c,t,e,_⟩:=UZ h
 rw[e];simp
def yK{k:Nat}(hk:0<k):(aq n).length<=k↔n<10^k:=by
 unfold aq
 split
 ·subst_vars
  simp
  exact⟨fun _=>vu (by decide),fun _=>hk⟩
 ·exact oS.symm
def Zpw{n:Nat}:∃c t,aq n=c::t/\48<=c.toNat/\c.toNat<=57:=by
 have h:=Zb9 n
 cases hs:aq n with
 |nil=>exact absurd hs (JD n)
 |cons c t=>
  rw[hs]at h
  have:jN c=true:=by
   simp[cO]at h;exact h.1
  exact⟨c,t,rfl,by simpa[jN]using this⟩
end
end Go.Mx
