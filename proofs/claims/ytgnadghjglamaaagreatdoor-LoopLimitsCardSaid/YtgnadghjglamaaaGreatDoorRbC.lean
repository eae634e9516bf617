/-lensletref01-/
import Derived.Test.YtgnadghjglamaaaGreatDoorAwOk
set_option linter.all false
namespace Go.Mx
noncomputable section
open Go Go.Proofs
set_option maxRecDepth 1000000
def ud:∀{b a:Nat},a<=b->(ds a).length<=(ds b).length:=by
 intro b
 induction b using Nat.strongRecOn with
 |_ b ih=>
  intro a h
  by_cases h0:a=0
  ·rw[h0,sC];simp
  ·rw[Aa h0,Aa (n:=b) (by omega)]
   have:=ih (b/1000000000) (B7 (by omega) (by decide)) (a:=a/1000000000) (Nat.div_le_div_right h)
   simp only[ak];omega
def QL{A:List Int}{k:Nat}{x:Int}(hx:A[k]?=some x):vI A=vI (A.take k)+pI k*(x+1000000000*vI (A.drop (k+1))):=by
 have hk:=yS hx
 rw[Py A k (by omega),qk hx,vI]
def Yh7{A B:List Int}{k:Nat}{x y:Int}(hA:Di A)(hB:Di B)(hx:A[k]?=some x)(hy:B[k]?=some y)(he:A.drop (k+1)=B.drop (k+1))(Uk:x<y):vI A<vI B:=by
 have hk:=yS hx
 rw[QL hx,QL hy,he]
 have h1:=vz (hA.take k)
 have h2:=vD (hB.take k)
 rw[lW,pA (by omega)]at h1
 have h3:pI k*(x+1000000000*vI (B.drop (k+1))+1)<=pI k*(y+1000000000*vI (B.drop (k+1))):=qR (by omega) (tX (CH k))
 have h4:pI k*(x+1000000000*vI (B.drop (k+1))+1)=pI k*(x+1000000000*vI (B.drop (k+1)))+pI k:=by grind
 omega
def Bp(a b:Nat):Int:=if a<b then -1 else if b<a then 1 else 0
def Zui{h:T O}{N:Nat}{u v:V}{a b:Nat}{w:List Nat}(hu:Dn h N u a)(hv:Dn h N v b)(hl:(ds a).length<1152921504606846976)(oO:(ds b).length<1152921504606846976):A.C.call (.func 154 [] []) [u,v] ⟨h,N,w⟩=some (.int .i64 (Bp a b),⟨h,N,w⟩):=by
 apply Call.eq
 have lu:=hu.len
 have lv:=hv.len
 rw[g_]at lu lv
 have va:=gI a
 have vb:=gI b
 have da:=gm a
 have db:=gm b
 rw[aV,A.k154 (by simp)]
 unfold Bp
 by_cases h1:(ds a).length=(ds b).length
 ·have iW:((ds a).length:Int)=((ds b).length:Int):=by omega
  simp(disch:=first|(simp;done)|omega|rfl) [-getElem?_pos,A.b154,lu,lv,aL,h1]
  generalize hA:ds a=X at*
  generalize hB:ds b=Y at*
  refine c_ [(4,5),(19,40)] (fun e r st=>st=⟨h,N,[]⟩/\((e=.exit 0/\a=b)\/(e=.ret/\a<b/\r.get 4=some (.int .i64 (-1)))\/(e=.ret/\b<a/\r.get 4=some (.int .i64 1)))) (fun m r st=>st=⟨h,N,[]⟩/\m<=X.length/\r.get 5=some (.int .i64 ((m:Int)-1))/\X.drop m=Y.drop m) X.length ?_ ?_ ?_
  ·exact⟨rfl,aZ _,by simp[h1],by rw[vR,h1,vR]⟩
  ·rintro m r _ hr hf ⟨rfl,hm,h5,he⟩
   rw[dk]
   cases m with
   |zero=>
    have:a=b:=by
     simp at he;rw[he]at va;omega
    simp(disch:=first|(simp;done)|omega|rfl) [-getElem?_pos,A.jA,hr,hf,h5,this]
   |succ k=>
    obtain⟨x,hx⟩:=fz (l:=X) (k:=k) (by omega)
    obtain⟨y,hy⟩:=fz (l:=Y) (k:=k) (by omega)
    obtain⟨b1,b2,b3,b4,b5,z1,z2,z3,z4⟩:=Sl.at (show Sl h N u (dI (ds a)) from hu) (by rw[hA];exact gQ hx)
    obtain⟨c1,c2,c3,c4,c5,y1,y2,y3,y4⟩:=Sl.at (show Sl h N v (dI (ds b)) from hv) (by rw[hB];exact gQ hy)
    have sh:(((k+1:Nat):Int)-1)=(k:Int):=by omega
    rw[sh]at h5
    have ew:(k:Int)<(X.length:Int):=by omega
    have gO:(k:Int)<(Y.length:Int):=by omega
    have Bv:(0:Int)<=(k:Int):=by omega
    have hk4:k<Y.length:=by omega
    by_cases aP:x<y
    ·have:=Yh7 da db hx hy he aP
     have ml:a<b:=by omega
     simp(disch:=first|(simp;done)|omega|rfl) [-getElem?_pos,A.jA,hr,hf,h5,lu,lv,ew,gO,Bv,hk4,z1,z2,z3,z4,y1,y2,y3,y4,aP,ml]
    ·by_cases Md:y<x
     ·have:=Yh7 db da hy hx he.symm Md
      have ml:b<a:=by omega
      have Kx:¬a<b:=by omega
      simp(disch:=first|(simp;done)|omega|rfl) [-getElem?_pos,A.jA,hr,hf,h5,lu,lv,ew,gO,Bv,hk4,z1,z2,z3,z4,y1,y2,y3,y4,aP,Md,ml,Kx]
     ·have Uk:x=y:=by omega
      simp(disch:=first|(simp;done)|omega|rfl) [-getElem?_pos,A.jA,hr,hf,h5,lu,lv,ew,gO,Bv,hk4,z1,z2,z3,z4,y1,y2,y3,y4,aP,Md]
      exact⟨k,by omega,by omega,rfl,by rw[qk hx,qk hy,he,Uk]⟩
  ·rintro e r _ hr ⟨rfl,⟨rfl,hz⟩|⟨rfl,hz,h4⟩|⟨rfl,hz,h4⟩⟩
   ·simp(disch:=first|(simp;done)|omega|rfl) [-getElem?_pos,hr,hz]
   ·simp(disch:=first|(simp;done)|omega|rfl) [-getElem?_pos,hr,h4,hz]
   ·have:¬a<b:=by omega
    simp(disch:=first|(simp;done)|omega|rfl) [-getElem?_pos,hr,h4,hz,this]
 ·have iW:¬((ds a).length:Int)=((ds b).length:Int):=by omega
  by_cases h2:(ds a).length<(ds b).length
  ·have ml:a<b:=by
    apply tV;intro hc;have:=ud hc;omega
   simp(disch:=first|(simp;done)|omega|rfl) [-getElem?_pos,A.b154,lu,lv,aL,h1,h2,ml]
  ·have ml:b<a:=by
    apply tV;intro hc;have:=ud hc;omega
   have Kx:¬a<b:=by omega
   simp(disch:=first|(simp;done)|omega|rfl) [-getElem?_pos,A.b154,lu,lv,aL,h1,h2,ml,Kx]
structure DdA (h:T O) (N:Nat) (l:List Int) (d:Int) (m:Nat) (r:T V) (st:St):Prop where
 w:aD N st.w=[]
 ah:ae h N st.h (N+1)
 n:st.n=N+1
 r8:r.get 8=some (.int .i64 ((m:Int)-1))
 hm:m<=l.length
 ex:∃out rest,st.h.get N=some (.cells (dI out) 3 true)/\out.length=l.length/\r.get 7=some (.int .i64 rest)/\0<=rest/\rest<d/\Di (out.drop m)/\vI (out.drop m)*d+rest=vI (l.drop m)
def Zng{h:T O}{N:Nat}{v:V}{l:List Int}{d:Int}(hs:Sl h N v (dI l))(hd:Di l)(hl:l.length<1099511627776)(h0:0<d)(h1:d<1000000000):Fn A.C 204 [v,.int .i64 d] h N (fun u h' n'=>∃q,u=.aS [q,.int .i64 ((vI l).toNat%d.toNat:Nat)]/\Dn h' n' q ((vI l).toNat/d.toNat)):=by
 intro w
 have lv:=hs.len
 rw[g_]at lv
 rw[aV,A.k204 (by simp)]
 simp(disch:=first|(simp;done)|omega|rfl) [-getElem?_pos,A.b204,lv]
 refine c_ [(7,9),(16,35)] (fun e r st=>e=.exit 0/\DdA h N l d 0 r st) (DdA h N l d) l.length ?_ ?_ ?_
 ·refine⟨by simp,ae.refl.new _,rfl,by simp,aZ _,List.replicate l.length 0,0,by simp[Zp2],by simp,by simp,by omega,h0,?_,?_⟩
  ·rw[zv (by simp)];exact Di.nil
  ·rw[zv (by simp),vR];simp[vI]
 ·rintro m r ⟨H,n1,W⟩ hr hf ⟨hW,hK,hn,h8,hm,out,rest,aM,uC,h7,kR,Ul,iY,hv⟩
  simp only at hW hK hn aM
  subst hn
  rw[dk]
  cases m with
  |zero=>
   simp(disch:=first|(simp;done)|omega|rfl) [-getElem?_pos,A.qo,hr,hf,h8]
   exact⟨hW,hK,rfl,by simpa using h8,hm,out,rest,aM,uC,by simp[h7],kR,Ul,iY,hv⟩
  |succ k=>
   obtain⟨x,hx⟩:=fz (l:=l) (k:=k) (by omega)
   obtain⟨b1,b2,b3,b4,b5,z1,z2,z3,z4⟩:=hs.at (gQ hx)
   have z3:=(hK.get _ z2).trans z3
   have QM:=hd.get hx
   have sh:(((k+1:Nat):Int)-1)=(k:Int):=by omega
   rw[sh]at h8
   have ew:(k:Int)<(l.length:Int):=by omega
   have gO:k<l.length:=by omega
   have Bv:(0:Int)<=(k:Int):=by omega
   have w1:bn .i64 (rest*1000000000)=rest*1000000000:=cL (by omega) (by omega)
   have w2:bn .i64 (rest*1000000000+x)=rest*1000000000+x:=cL (by omega) (by omega)
   have s0:0<=rest*1000000000+x:=by omega
   have kv:¬d=0:=by omega
   have t1:(rest*1000000000+x).tdiv d=(rest*1000000000+x)/d:=A2 s0
   have t2:(rest*1000000000+x).tmod d=(rest*1000000000+x)%d:=DH s0
   have t3:=DF (rest*1000000000+x) d
   have t4:0<=(rest*1000000000+x)/d:=Int.ediv_nonneg s0 (by omega)
   have t5:(rest*1000000000+x)/d<1000000000:=by
    apply Int.ediv_lt_of_lt_mul h0
    omega
   have t6:=DK (rest*1000000000+x) kv
   have t7:=DL (rest*1000000000+x) h0
   have w3:bn .i64 ((rest*1000000000+x)/d)=(rest*1000000000+x)/d:=cL (by omega) (by omega)
   have w8:=g_ out
   have w7:=Br (l:=out) (k:=k) (v:=(rest*1000000000+x)/d) (by omega)
   simp(disch:=first|(simp;done)|omega|rfl) [-getElem?_pos,A.qo,hr,hf,h8,h7,ew,gO,Bv,lv,z1,z3,z4,w1,w2,w3,kv,t1,t2,aM,w7]
   have e1:(out.set k ((rest*1000000000+x)/d)).drop k=((rest*1000000000+x)/d)::out.drop (k+1):=by
    rw[qk (d:=(rest*1000000000+x)/d) (by rw[sI (by omega)])]
    rw[List.drop_set_of_lt (by omega)]
   generalize (rest*1000000000+x)/d=q at*
   generalize (rest*1000000000+x)%d=r' at*
   refine⟨k,by omega,⟨by simp[aD,hW],hK.set (aZ N),rfl,by simp,by omega,out.set k q,r',by simp,by simp[uC],by simp,t6,t7,?_,?_⟩⟩
   ·rw[e1];exact Di.app (Di.one t4 t5) iY
   ·rw[e1,qk hx,vI,vI,<-hv]
    grind
 ·rintro _ r ⟨H,n1,W⟩ hr ⟨rfl,hW,hK,hn,h8,hm,out,rest,aM,uC,h7,kR,Ul,iY,hv⟩
  simp only at hW hK hn aM
  subst hn
  rw[AA,AA]at*
  have nP:Sl H (N+1) (.slice N 0 l.length (some l.length) 1) (dI out):=Sl.row (by omega) aM (by simp[uC]) (fun k hk=>by simp at hk;omega)
  simp(disch:=first|(simp;done)|omega|rfl) [-getElem?_pos,hr,h7]
  refine az (HW nP (by omega)) ?_
  rintro u h2 n2 k2 hu
  have hvo:=vD iY
  have hvl:=vD hd
  have m1:(vI l).toNat/d.toNat=(vI out).toNat:=by
   have:(vI l)/d=vI out:=by
    rw[<-hv,Int.mul_comm,Int.add_comm,Int.add_mul_ediv_left _ _ (by omega),Int.ediv_eq_zero_of_lt kR Ul];omega
   rw[<-this]
   obtain⟨a,ha⟩:=DJ hvl
   obtain⟨b,hb⟩:=DJ (tX h0)
   rw[ha,hb];rfl
  have m2:(((vI l).toNat%d.toNat:Nat):Int)=rest:=by
   have:(vI l)%d=rest:=by
    rw[<-hv,Int.mul_comm,Int.add_comm,Int.add_mul_emod_self_left,Int.emod_eq_of_lt kR Ul]
   rw[<-this]
   obtain⟨a,ha⟩:=DJ hvl
   obtain⟨b,hb⟩:=DJ (tX h0)
   rw[ha,hb];rfl
  rw[Zpb iY]at hu
  have m2':rest=max (vI l) 0%max d 0:=by rw[<-m2];simp
  simp(disch:=first|(simp;done)|omega|rfl) [-getElem?_pos,hr,h7,aF,hW]
  refine⟨hK.trans k2,u,⟨rfl,m2'⟩,?_⟩
  rw[m1]
  exact hu
def A.Ky:=A.q Tryz.f156
def A.rG:=A.ql A.Ky 1 []
def A.rH:=(fun x0=>A.ql A.Ky 0 [x0]) A.rG
def A.b156:=(fun x0=>A.qb A.Ky [x0]) A.rH
def A.k156:=@A.kk 156 72 [.tmp 4] A.b156 (by kernel_rfl) rfl
structure MuB (h:T O) (N:Nat) (la lb:List Int) (i:Nat) (zep:List Int) (a:Int) (m:Nat) (r:T V) (st:St):Prop where
 w:aD N st.w=[]
 ah:ae h N st.h (N+1)
 n:st.n=N+1
 ex:∃k out c,k+m=lb.length/\r.get 8=some (.int .i64 k)/\st.h.get N=some (.cells (dI out) 3 true)/\out.length=la.length+lb.length/\r.get 7=some (.int .i64 c)/\0<=c/\c<1000000000/\Di out/\(∀t,i+lb.length<=t->t<out.length->out[t]?=some 0)/\vI out+pI (i+k)*c=vI zep+pI i*(a*vI (lb.take k))
structure MuA (h:T O) (N:Nat) (la lb:List Int) (m:Nat) (r:T V) (st:St):Prop where
 w:aD N st.w=[]
 ah:ae h N st.h (N+1)
 n:st.n=N+1
 ex:∃i out,i+m=la.length/\r.get 6=some (.int .i64 i)/\st.h.get N=some (.cells (dI out) 3 true)/\out.length=la.length+lb.length/\Di out/\(∀t,i+lb.length<=t->t<out.length->out[t]?=some 0)/\vI out=vI (la.take i)*vI lb
def Zs4{h:T O}{N:Nat}{u v:V}{la lb:List Int}{a b:Nat}(hu:Sl h N u (dI la))(hv:Sl h N v (dI lb))(da:Di la)(db:Di lb)(ea:vI la=a)(eb:vI lb=b)(hl:la.length+lb.length<1099511627776):Fn A.C 156 [u,v] h N (fun x h' n'=>Dn h' n' x (a*b)):=by
 intro w
 have lu:=hu.len
 have lv:=hv.len
 rw[g_]at lu lv
 rw[aV,A.k156 (by simp)]
 have cs:((la.length:Int)+(lb.length:Int)).toNat=la.length+lb.length:=by omega
 simp(disch:=first|(simp;done)|omega|rfl) [-getElem?_pos,A.b156,lu,lv,cs]
 refine c_ [(6,9),(16,69)] (fun e r st=>e=.exit 0/\MuA h N la lb 0 r st) (MuA h N la lb) la.length ?_ ?_ ?_
 ·refine⟨by simp,ae.refl.new _,rfl,0,List.replicate (la.length+lb.length) 0,by omega,by simp,by simp[Zp2],by simp,Di.Ej _,fun t _ ht=>?_,by simp[Zpa,vI]⟩
  simp at ht
  simp[ht]
 ·rintro m r ⟨H,n1,W⟩ hr hf ⟨hW,hK,hn,i,out,hi,h6,aM,uC,iY,hz,oz⟩
  simp only at hW hK hn aM
  subst hn
  rw[dk]
  cases m with
  |zero=>
   have:i=la.length:=by omega
   subst this
   simp(disch:=first|(simp;done)|omega|rfl) [-getElem?_pos,A.rH,hr,hf,h6,lu]
   exact⟨hW,hK,rfl,la.length,out,by omega,by simp[h6],aM,uC,iY,hz,oz⟩
  |succ m=>
   obtain⟨x,hx⟩:=fz (l:=la) (k:=i) (by omega)
   obtain⟨b1,b2,b3,b4,b5,z1,z2,z3,z4⟩:=hu.at (gQ hx)
   have z3:=(hK.get _ z2).trans z3
   have QM:=da.get hx
   have wS:(i:Int)<(la.length:Int):=by omega
   have Bu:i<la.length:=by omega
   simp(disch:=first|(simp;done)|omega|rfl) [-getElem?_pos,A.rH,hr,hf,h6,wS,Bu,lu]
   refine c_ [(7,9),(22,54)] (fun e r st=>e=.exit 2/\MuB h N la lb i out x 0 r st) (MuB h N la lb i out x) lb.length ?_ ?_ ?_
   ·exact⟨hW,hK,rfl,0,out,0,by omega,by simp,aM,uC,by simp,by omega,by omega,iY,hz,by simp[vI]⟩
   ·rintro m2 r2 ⟨H2,n2,W2⟩ bK jv ⟨f_,jC,fw,k,oJ,c,hk,h8,pY,C4,h7,c0,c1,zgq,fS,jQ⟩
    simp only at f_ jC fw pY
    subst fw
    rw[dk]
    cases m2 with
    |zero=>
     have:k=lb.length:=by omega
     subst this
     simp(disch:=first|(simp;done)|omega|rfl) [-getElem?_pos,A.rG,hr,bK,jv,h8,lv]
     exact⟨f_,jC,rfl,lb.length,oJ,c,by omega,by simp[h8],pY,C4,by simp[h7],c0,c1,zgq,fS,jQ⟩
    |succ m2=>
     obtain⟨y,hy⟩:=fz (l:=lb) (k:=k) (by omega)
     obtain⟨g1,g2,g3,g4,g5,y1,y2,y3,y4⟩:=hv.at (gQ hy)
     have y3:=(jC.get _ y2).trans y3
     have z3:=(jC.get _ z2).trans ((hK.get _ z2).symm.trans z3)
     have MI:=db.get hy
     obtain⟨o,ho⟩:=fz (l:=oJ) (k:=i+k) (by omega)
     have hod:=zgq.get ho
     have ew:(k:Int)<(lb.length:Int):=by omega
     have gO:k<lb.length:=by omega
     have p0:0<=x*y:=wC QM.1 MI.1
     have p1:x*y<=999999999*999999999:=Int.mul_le_mul (by omega) (by omega) MI.1 (by omega)
     have q1:(i:Int)+(k:Int)<(la.length:Int)+(lb.length:Int):=by omega
     have q2:i+k<la.length+lb.length:=by omega
     have q3:(0:Int)<=(i:Int)+(k:Int):=by omega
     have t1:(o+x*y+c).tmod 1000000000=(o+x*y+c)%1000000000:=DH (by omega)
     have t2:(o+x*y+c).tdiv 1000000000=(o+x*y+c)/1000000000:=A2 (by omega)
     have w8:=g_ oJ
     have w7:=Br (l:=oJ) (k:=i+k) (v:=(o+x*y+c)%1000000000) (by omega)
     have e1:vI (oJ.set (i+k) ((o+x*y+c)%1000000000))+pI (i+(k+1))*((o+x*y+c)/1000000000)=vI out+pI i*(x*vI (lb.take (k+1))):=by
      have hm:=DF (o+x*y+c) 1000000000
      rw[CI ho,yy hy,show i+(k+1)=(i+k)+1 by omega,qD]
      have hp:=Ty i k
      generalize (o+x*y+c)/1000000000=Q at*
      generalize (o+x*y+c)%1000000000=R at*
      have:R=o+x*y+c-1000000000*Q:=by omega
      rw[this]
      have h3:vI oJ=vI out+pI i*(x*vI (lb.take k))-pI (i+k)*c:=by omega
      rw[h3,hp]
      grind
     generalize hP:x*y=P at*
     have b1':bn .i64 P=P:=cL (by omega) (by omega)
     have b2':bn .i64 (o+P)=o+P:=cL (by omega) (by omega)
     have b3':bn .i64 (o+P+c)=o+P+c:=cL (by omega) (by omega)
     have b4':bn .i64 ((o+P+c)/1000000000)=(o+P+c)/1000000000:=cL (by omega) (by omega)
     have f1:b1<N+1:=by omega
     have f2:g1<N+1:=by omega
     have r0:=DK (o+P+c) (b:=1000000000) (by decide)
     have r1:=DL (o+P+c) (b:=1000000000) (by decide)
     have d0:0<=(o+P+c)/1000000000:=Int.ediv_nonneg (by omega) (by decide)
     have d1:(o+P+c)/1000000000<1000000000:=Int.ediv_lt_of_lt_mul (by decide) (by omega)
     simp(disch:=first|(simp;done)|omega|rfl) [-getElem?_pos,A.rG,hr,bK,jv,h6,h7,h8,lu,lv,ew,gO,wS,Bu,q1,q2,q3,pY,gQ ho,z1,z2,z3,z4,y1,y2,y3,y4,hP,b1',b2',b3',b4',t1,t2,w7,cs,f1,f2]
     refine⟨m2,by omega,⟨by simp[aD,f_],jC.set (aZ N),rfl,k+1,_,_,by omega,by simp,by simp,by simp[C4],by simp,d0,d1,zgq.set r0 r1,fun t NO yz=>?_,e1⟩⟩
     rw[eR (by omega)]
     exact fS t NO (by simpa using yz)
   ·rintro _ r2 ⟨H2,n2,W2⟩ bK ⟨rfl,f_,jC,fw,k,oJ,c,hk,h8,pY,C4,h7,c0,c1,zgq,fS,jQ⟩
    simp only at f_ jC fw pY
    subst fw
    have:k=lb.length:=by omega
    subst this
    have ho:=fS (i+lb.length) (by omega) (by omega)
    have BI:=hf.inner (D':=[(7,9),(22,54)]) rfl (by simp) bK
    have q1:(i:Int)+(lb.length:Int)<(la.length:Int)+(lb.length:Int):=by omega
    have q2:i+lb.length<la.length+lb.length:=by omega
    have q3:(0:Int)<=(i:Int)+(lb.length:Int):=by omega
    have w8:=g_ oJ
    have w7:=Br (l:=oJ) (k:=i+lb.length) (v:=c) (by omega)
    rw[BF]at jQ
    have e1:vI (oJ.set (i+lb.length) c)=vI (la.take (i+1))*vI lb:=by
     rw[CI ho,yy hx]
     have:vI oJ+pI (i+lb.length)*(c-0)=vI out+pI i*(x*vI lb):=by rw[Int.sub_zero];exact jQ
     rw[this,oz]
     grind
    simp(disch:=first|(simp;done)|omega|rfl) [-getElem?_pos,hr,bK,h6,h7,lv,pY,gQ ho,q1,q2,q3,w7,BI,cs]
    refine⟨m,by omega,⟨by simp[aD,f_],jC.set (aZ N),rfl,i+1,_,by omega,by simp,by simp,by simp[C4],zgq.set c0 c1,fun t NO yz=>?_,e1⟩⟩
    rw[eR (by omega)]
    exact fS t (by omega) (by simpa using yz)
 ·rintro _ r ⟨H,n1,W⟩ hr ⟨rfl,hW,hK,hn,i,out,hi,h6,aM,uC,iY,hz,oz⟩
  simp only at hW hK hn aM
  subst hn
  have:i=la.length:=by omega
  subst this
  rw[BF,ea,eb]at oz
  have nP:Sl H (N+1) (.slice N 0 (la.length+lb.length) (some (la.length+lb.length)) 1) (dI out):=Sl.row (by omega) aM (by simp[uC]) (fun k hk=>by simp at hk;omega)
  simp(disch:=first|(simp;done)|omega|rfl) [-getElem?_pos,hr]
  refine az (HW nP (by omega)) ?_
  rintro y h2 n2 k2 hy
  rw[HZ iY (n:=a*b) (by rw[oz];simp)]at hy
  simp(disch:=first|(simp;done)|omega|rfl) [-getElem?_pos,hr,aF,hW]
  exact⟨hK.trans k2,hy⟩
open Go
variable {N i n:Nat} {h:T O} {r:T V} {v:V}
structure sE (D:Nat->Prop) (h:T O) (n:Nat) (h':T O) (n':Nat):Prop where
 le:n<=n'
 get:∀i,i<n->¬D i->h'.get i=h.get i
def sE.trans{D:Nat->Prop}{h1 h2:T O}{n1 n2:Nat}(a:sE D h n h1 n1)(b:sE D h1 n1 h2 n2):sE D h n h2 n2:=
 ⟨sF a.le b.le,fun i hi hd=>(b.get i (h_ hi a.le) hd).trans (a.get i hi hd)⟩
def sE.mono{D D2:Nat->Prop}{h1:T O}{n1:Nat}(a:sE D h n h1 n1)(hd:∀i,i<n->D i->D2 i):sE D2 h n h1 n1:=⟨a.le,fun i hi hn=>a.get i hi fun hc=>hn (hd i hi hc)⟩
def za{N i:Nat}:∀{w:List Nat},i∈aD N w->i∈w/\i<N
 |[],h=>by simp[aD]at h
 |j::w,h=>by
  simp only[aD]at h
  split at h
  ·unfold xr at h
   split at h
   ·have:=za h;exact⟨mD _ this.1,this.2⟩
   ·rcases ku.1 h with h|h
    ·subst h;exact⟨oM,by assumption⟩
    ·have:=za h;exact⟨mD _ this.1,this.2⟩
  ·have:=za h;exact⟨mD _ this.1,this.2⟩
def Zxg:aD N []=[]:=rfl
attribute [simp] Zxg
def Dr{w:List Nat}(h:∀i∈w,N<=i):aD N w=[]:=Zoo h
def oK(st:St)(i:Nat)(send:Option V)(zero:V):Option O->Option (V×St)
 |some (.chan cap buf)=>match send with
  |some v=>if buf.length<cap then some (.aS [.int .i64 0,.bool false],st.write i (.chan cap (buf++[v]))) else some (.aS [.int .i64 (-1),.bool false],st)
  |none=>match buf with
   |v::buf=>some (.aS [.int .i64 0,.bool true,v],st.write i (.chan cap buf))
   |[]=>some (.aS [.int .i64 (-1),.bool false,zero],st)
 |_=>none
def Yl6{st:St}{send:Option V}{zero:V}:SQ st i send zero=oK st i send zero (st.h.get i):=by
 unfold SQ oK
 rcases st.h.get i with _|o
 ·rfl
 ·cases o with
  |chan cap buf=>cases send with
   |some v=>rfl
   |none=>cases buf<;>rfl
  |_=>cases send<;>rfl
def Um(C:Cx)(K:List Kf)(Q:Rs->Prop)(d:Nat)(ops:List dC)(r:T V)(n:Nat)(m:List Nat):Option (V×St)->Prop
 |some (v,cr)=>bH C (.reg::K) (Bh (dG C.call ops ⟨r.set d v,n,m⟩ cr)) Q
 |none=>False
def Yoc(C:Cx)(K:List Kf)(Q:Rs->Prop)(d:Nat)(ops:List dC)(r:T V)(n:Nat)(m:List Nat)(st:St)(zero:V):Option V->Option (Option V)->Prop
 |some (.chan i),some sv=>Um C K Q d ops r n m (oK st i sv zero (st.h.get i))
 |_,_=>False
def Yev{C:Cx}{K:List Kf}{Q:Rs->Prop}{ro:Option Nat}{d:Nat}{ch:Src}{send:Option Src}{zero:V}{ops:List dC}{m:List Nat}{st:St}(hd:d<n):bH C K (fx (C.code ro (.xy (some d) ch send zero ops) ⟨r,n,m⟩ st)) Q↔Yoc C K Q d ops r n m st zero (ch.ev r) (aC r send):=by
 have e:C.code ro (.xy (some d) ch send zero ops) ⟨r,n,m⟩ st=zk (some d) ch send zero ops C.call C.code ro ⟨r,n,m⟩ st:=Cx.dL ..
 rw[e]
 unfold zk Yoc
 simp only[]
 rcases ch.ev r with _|v
 ·exact Mb
 ·cases v<;>try exact Mb
  rename_i i
  rcases aC r send with _|sv
  ·exact Mb
  ·simp only[Yl6]
   rcases oK st i sv zero (st.h.get i)with _|⟨v,cr⟩
   ·exact Mb
   ·simp only[Fr.put,hd,if_true,Um]
    refine jn ?_
    show _=jm C K (mT C .reg (Bh (dG C.call ops ⟨r.set d v,n,m⟩ cr)))
    rcases dG C.call ops ⟨r.set d v,n,m⟩ cr with _|⟨_,_⟩<;>rfl
def Zz3{C K Q d ops r n m st zero i sv}:Yoc C K Q d ops r n m st zero (some (.chan i)) (some sv)=Um C K Q d ops r n m (oK st i sv zero (st.h.get i)):=rfl
def Zz2{C K Q d ops r n m v cr}:Um C K Q d ops r n m (some (v,cr))=bH C (.reg::K) (Bh (dG C.call ops ⟨r.set d v,n,m⟩ cr)) Q:=rfl
def Zw3{st:St}{cap:Nat}{buf:List V}{zero:V}:oK st i none zero (some (.chan cap (v::buf)))=some (.aS [.int .i64 0,.bool true,v],st.write i (.chan cap buf)):=rfl
def Zz1{st:St}{cap:Nat}{zero:V}:oK st i none zero (some (.chan cap []))=some (.aS [.int .i64 (-1),.bool false,zero],st):=rfl
attribute [simp] Yev Zz3 Zz2 Zw3 Zz1
def Un(st:St)(bytes:Nat):Option V->Option (V×St)
 |some (.int _ k)=>if k<0\/k > IntKind.i64.max\/bytes*k > 2^48-112 then none else some (.chan st.n,st.alloc (.chan k.toNat []))
 |_=>none
def Ztc{bytes:Nat}{x:Src}{call:cM}{st:St}:DQ bytes x call r st=Un st bytes (x.ev r):=by unfold DQ Un;rfl
def Zxx{st:St}{kk:IntKind}{k:Int}(h0:0<=k)(h1:k<=100):Un st 16 (some (.int kk k))=some (.chan st.n,st.alloc (.chan k.toNat [])):=by
 unfold Un
 simp only[]
 rw[aA]
 have:IntKind.i64.max=9223372036854775807:=rfl
 omega
attribute [simp] Ztc Zxx
def dR:V->List Nat
 |.slice i _ _ _ _=>[i]
 |_=>[]
def Sl.eY{D:Nat->Prop}{h':T O}{N':Nat}{l:List V}(s:Sl h N v l)(k:sE D h N h' N')(hd:∀i∈dR v,¬D i):Sl h' N' v l:=by
 rcases s with s|⟨i,o,cp,c,e,rw,rfl,h2,h3,h4⟩
 ·exact .inl s
 ·exact .inr ⟨i,o,cp,c,e,rw,rfl,h_ h2 k.le,(k.get i h2 (hd i (by simp[dR]))).trans h3,h4⟩
def Row(z:Nat)(e:TypeId)(h:T O)(v:V)(l:List (List V)):Prop:=(∀x∈l,x.length=z)/\((l=[]/\v=.aa)\/∃i x m,v=.slice i 0 l.length none z/\x.length=m*z/\h.get i=some (.cells (l.flatten++x) e true))
def Ug(l:List (List V))(x:List V):(l++[x]).flatten=l.flatten++x:=by simp
def Yng(st:St)(size:Nat)(zero:List V):Option V->Option (V×St)
 |some v=>LU size zero (.const v) Zp5 .nil st
 |none=>none
structure Yrq (z bytes:Nat) (e:TypeId) (zero:List V) (h:T O) (N:Nat) (v:V) (l:List (List V)) (k:Nat) (v1 v2 v3 v4:V) (h3 h4:T O) (w3:List Nat):Prop where
 a:∀w,∃u,pr ⟨h,N,w⟩ z (some v) (some (some (.int .i64 k))) (some (some (.int .i64 ((k:Int)+1)))) (some (some (.int .i64 l.length)))=some (u,⟨h,N,w⟩)
 b:∀w,pr ⟨h,N,w⟩ z (some v) (some none) (some (some (.int .i64 k))) (some none)=some (v1,⟨h,N,w⟩)
 c:∀w,pr ⟨h,N,w⟩ z (some v) (some (some (.int .i64 ((k:Int)+1)))) (some none) (some none)=some (v2,⟨h,N,w⟩)
 d:∀w,l8 ⟨h,N,w⟩ z bytes e v1 v2=some (v3,⟨h3,N,w3++w⟩)
 len:r_ v3=some (l.length-1)
 f:∀w,pr ⟨h3,N,w⟩ z (some v3) (some (some (.int .i64 ((l.length-1:Nat):Int)))) (some (some (.int .i64 l.length))) (some none)=some (v4,⟨h3,N,w⟩)
 g:∀w,∃i,i∈dR v/\Yng ⟨h3,N,w⟩ z zero (some v4)=some (.aS [],⟨h4,N,i::w⟩)
 w:∀i∈w3,i∈dR v
 upd:sE (fun i=>i∈dR v) h N h4 N
 ids:dR v3=dR v
 row:Row z e h4 v3 (l.take k++l.drop (k+1))
def Ynf(st:St)(size:Nat):Option V->Option V->Option (V×St)
 |some d,some s=>DU size (.const d) (.const s) Zp5 .nil st
 |_,_=>none
def Yav{size:Nat}{d s:Src}{call:cM}{st:St}:DU size d s call r st=Ynf st size (d.ev r) (s.ev r):=by
 unfold DU Ynf
 rcases d.ev r with _|d
 ·rfl
 ·rcases s.ev r with _|s<;>rfl
attribute [simp] Yav
def Nh(e:TypeId)(Y:V->Prop)(h:T O)(u:V):Prop:=∀i∈dR u,∃z,h.get i=some (.cells z e true)/\z≠[]/\∀y∈z,Y y
def Nh.nil{e:TypeId}{Y:V->Prop}:Nh e Y h .aa:=fun i hi=>by simp[dR]at hi
def Zgo{z:Nat}{e:TypeId}{N0:Nat}{u:V}{l:List (List V)}{x:List V}{bytes:Nat}{w:List Nat}{Y:V->Prop}(s:Own z e N0 h N v l)(hn:l=[]->v=.aa)(hY:∀c∈l,∀y∈c,Y y)(hN:N0<=N)(hz:0<z)(hx:x.length=z)
  (hu:gp ⟨h,N,w⟩ z u=some (1,x)) (hb:2*(l.length+1)*bytes<=281474976710656):
  ∃v' h' w',l8 ⟨h,N,w⟩ z bytes e v u=some (v',⟨h',N+1,w'⟩)/\aD N0 w'=aD N0 w/\ae h N0 h' (N+1)/\sE (fun i=>i∈dR v) h N h' (N+1)/\Nh e Y h v/\Own z e N0 h' (N+1) v' (l++[x]):=by
 obtain⟨v',h',w',f1,f2,f3,f4,f5⟩:=xh s hN hz hx hu hb
 refine⟨v',h',w',f1,f2,f3,⟨Ar _,fun j hj hd=>?_⟩,fun i hi=>?_,f5⟩
 ·rcases f4 j with h1|h1|⟨o,n,c,q,h1⟩
  ·exact h1
  ·omega
  ·exact absurd (by rw[h1];simp[dR]) hd
 ·obtain⟨hl,⟨rfl,rfl⟩|⟨j,rfl,h2,h3,h4⟩⟩:=s
  ·simp[dR]at hi
  ·simp only[dR,xZ]at hi
   subst hi
   refine⟨_,h4,fun hc=>?_,fun y hy=>?_⟩
   ·have pX:=vX hl
    rw[hc]at pX
    have:l.length=0:=by
     rcases Nat.mul_eq_zero.1 pX.symm with h|h
     ·exact h
     ·omega
    have:=hn (kJ this)
    cases this
   ·obtain⟨c,hc,Kz⟩:=List.mem_flatten.1 hy
    exact hY c hc y Kz
def Ywp{l:List Nat}:(l.any fun i=>Nat.ble n i&&Nat.blt i n)=false:=by
 rw[List.any_eq_false]
 intro i _ hc
 rw[ji]at hc
 have h1:=uY hc.1
 have h2:i<n:=uY hc.2
 omega
def Ypn{l:List Nat}:vY l (some [])=false:=by
 unfold vY
 rw[List.any_eq_false]
 intro i _ hc
 simp at hc
variable {n:Nat}
def dh(n:Nat):UInt8:=UInt8.ofNat (48+n%10)
def Km(n:Nat):(dh n).toNat=48+n%10:=by
 unfold dh
 simp
 omega
def dq(n:Nat):aU:=if h:n=0 then [] else dq (n/10)++[dh n]
termination_by n
decreasing_by omega
def tu:dq 0=[]:=by unfold dq;simp
def wZ(h:n≠0):dq n=dq (n/10)++[dh n]:=by
 conv=>lhs;unfold dq
 rw[dif_neg h]
def av(n:Nat):aU:=if n=0 then [48] else dq n
def iJ(n k:Nat):aU:=List.replicate (k-(dq n).length) 48++dq n
def aR(z:Int):aU:=if z<0 then 45::av z.natAbs else av z.natAbs
def ax(q:Rat):aU:=if q.den=1 then aR q.num else aR q.num++47::av q.den
def Zq1:∀(n:Nat),aK (dq n)=n:=by
 intro n
 induction n using Nat.strongRecOn with
 |_ n ih=>
  by_cases h:n=0
  ·subst h;rw[tu];rfl
  ·rw[wZ h,PA,ih (n/10) (by omega),Km]
   omega
def Kv(n:Nat):aK (av n)=n:=by
 unfold av
 split
 ·subst_vars;rfl
 ·exact Zq1 n
def Zsc{s:aU}{c:UInt8}:cN (s++[c])=(cN s&&kh c):=by simp[cN]
def Ygl(n:Nat):kh (dh n)=true:=by
 unfold kh
 rw[Km]
 simp
 omega
def Ydr:∀(n:Nat),cN (dq n)=true:=by
 intro n
 induction n using Nat.strongRecOn with
 |_ n ih=>
  by_cases h:n=0
  ·subst h;rw[tu];rfl
  ·rw[wZ h,Zsc,ih (n/10) (by omega),Ygl];rfl
def Bm(n:Nat):cN (av n)=true:=by
 unfold av
 split
 ·rfl
 ·exact Ydr n
def pn:∀{k n:Nat},n<10^k↔(dq n).length<=k
 |0,n=>by
  simp only[AH,Nat.lt_one_iff,Nat.le_zero,List.length_eq_zero_iff]
  constructor
  ·rintro rfl;exact tu
  ·intro h
   have:=Zq1 n
   rw[h]at this
   exact this.symm
 |k+1,n=>by
  by_cases h:n=0
  ·subst h;rw[tu];simp;exact vU (by decide)
  ·rw[wZ h,jb,zy,fO]
   have:=pn (k:=k) (n:=n/10)
   rw[Nat.succ_le_succ_iff,<-this]
   exact(pK (by decide)).symm
def Zkc:∀{n:Nat},n≠0->∃c t,dq n=c::t/\c.toNat≠48:=by
 intro n
 induction n using Nat.strongRecOn with
 |_ n ih=>
  intro h
  rw[wZ h]
  by_cases h0:n/10=0
  ·rw[h0,tu]
   refine⟨dh n,[],rfl,?_⟩
   rw[Km];omega
  ·obtain⟨c,t,e,hc⟩:=ih (n/10) (by omega) h0
   rw[e]
   exact⟨c,t++[dh n],rfl,hc⟩
def Mj(n:Nat):av n≠[]:=by
 unfold av
 split
 ·simp
 ·rename_i h
  obtain⟨c,t,e,_⟩:=Zkc h
  rw[e];simp
def Ye7(n:Nat):ja (av n)=true:=by
 have ha:=Bm n
 by_cases h:n=0
 ·subst h;rfl
 ·obtain⟨c,t,e,hc⟩:=Zkc h
  have e2:av n=c::t:=by unfold av;rw[aA h,e]
  rw[e2]at ha ⊢
  show (cN (c::t)&&(decide (c.toNat≠48)||decide (t=[])))=true
  rw[ha,decide_eq_true hc];rfl
def Yh3{c:UInt8}(h:kh c=true){k:Nat}:dh (10*k+(c.toNat-48))=c:=by
 unfold kh at h
 simp only[decide_eq_true_eq]at h
 apply UInt8.toNat_inj.1
 rw[Km];omega
def Yc6:∀(t:aU) (c:UInt8),cN (c::t)=true->c.toNat≠48->dq (aK (c::t))=c::t:=by
 intro t
 generalize hn:t.length=n
 induction n generalizing t with
 |zero=>
  intro c ha hc
  have:t=[]:=kJ hn
  subst this
  have hd:kh c=true:=by simpa[cN]using ha
  have:=Yh3 hd (k:=0)
  have h2:48<=c.toNat/\c.toNat<=57:=by simpa[kh]using hd
  have e:aK [c]=c.toNat-48:=by simp[aK]
  rw[e,wZ (by omega),show (c.toNat-48)/10=0 by omega,tu]
  simp only[Nat.mul_zero,vW]at this
  rw[this];rfl
 |succ n ih=>
  intro c ha hc
  obtain⟨u,d,rfl⟩:∃u d,t=u++[d]:=⟨t.dropLast,t.getLast (by rintro rfl;simp at hn),(Yvl _).symm⟩
  simp at hn
  have ha':cN (c::u)=true/\kh d=true:=by
   rw[<-zf,Zsc,ji]at ha
   exact ha
  have ih':=ih u (by omega) c ha'.1 hc
  have h2:48<=d.toNat/\d.toNat<=57:=by simpa[kh]using ha'.2
  rw[<-zf,PA]
  have tv:aK (c::u)≠0:=by
   intro h0
   rw[h0,tu]at ih'
   cases ih'
  rw[wZ (by omega),show (10*aK (c::u)+(d.toNat-48))/10=aK (c::u) by omega,ih',Yh3 ha'.2]
def Bn{s:aU}(h:ja s=true):av (aK s)=s:=by
 cases s with
 |nil=>cases h
 |cons c t=>
  have h:(cN (c::t)&&(decide (c.toNat≠48)||decide (t=[])))=true:=h
  rw[ji,IV,decide_eq_true_eq,decide_eq_true_eq]at h
  obtain⟨ha,hc⟩:=h
  by_cases h48:c.toNat=48
  ·rcases hc with hc|hc
   ·exact absurd h48 hc
   ·subst hc
    have:c=48:=UInt8.toNat_inj.1 h48
    subst this;rfl
  ·have e:=Yc6 t c ha h48
   have:aK (c::t)≠0:=by
    intro h0
    rw[h0,tu]at e
    cases e
   unfold av
   rw[aA this,e]
def Zkb{a b:Nat}(h:av a=av b):a=b:=by rw[<-Kv a,h,Kv]
def Zoz:∀{k a b:Nat},a≠0->b<10^k->dq (a*10^k+b)=dq a++iJ b k:=by
 intro k
 induction k with
 |zero=>
  intro a b ha hb
  have:b=0:=by simpa using hb
  subst this
  simp[iJ,tu]
 |succ k ih=>
  intro a b ha hb
  rw[fO]at hb ⊢
  have hb2:b/10<10^k:=(pK (by decide)).2 hb
  have hp:0<10^k:=vU (by decide)
  have tv:a*(10^k*10)+b≠0:=by
   have:=tH (Nat.pos_of_ne_zero ha) (tH hp (by decide:0<10));omega
  have e1:(a*(10^k*10)+b)/10=a*10^k+b/10:=by
   rw[<-uA,gk _ 10,Nat.mul_add_div (by decide)]
  have e2:dh (a*(10^k*10)+b)=dh b:=by
   apply UInt8.toNat_inj.1
   rw[Km,Km,<-uA,gk _ 10,Nat.mul_add_mod]
  rw[wZ tv,e1,ih ha hb2,e2,sQ]
  congr 1
  by_cases nO:b=0
  ·subst nO
   unfold iJ
   rw[Nat.zero_div,tu]
   simp only[List.length_nil,Nat.sub_zero,AD]
   rw[List.replicate_succ']
   rfl
  ·unfold iJ
   rw[wZ nO,jb,zy,<-sQ]
   rw[show k+1-((dq (b/10)).length+1)=k-(dq (b/10)).length by omega]
def Ygm{b k:Nat}(h:b<10^k):(iJ b k).length=k:=by
 have:=pn.1 h
 simp[iJ];omega
def Pe(b:Nat):iJ b 1=av b:=by
 unfold iJ av
 split
 ·subst_vars;rw[tu];rfl
 ·rename_i h
  obtain⟨c,t,e,_⟩:=Zkc h
  rw[e]
  simp
def Zr0(h:n≠0):0<(dq n).length:=by
 obtain⟨c,t,e,_⟩:=Zkc h
 rw[e];simp
def Sx{k:Nat}(hk:0<k):(av n).length<=k↔n<10^k:=by
 unfold av
 split
 ·subst_vars
  simp
  exact⟨fun _=>vU (by decide),fun _=>hk⟩
 ·exact pn.symm
def Zoy{n:Nat}:∃c t,av n=c::t/\48<=c.toNat/\c.toNat<=57:=by
 have h:=Bm n
 cases hs:av n with
 |nil=>exact absurd hs (Mj n)
 |cons c t=>
  rw[hs]at h
  have:kh c=true:=by
   simp[cN]at h;exact h.1
  exact⟨c,t,rfl,by simpa[kh]using this⟩
end
end Go.Mx
