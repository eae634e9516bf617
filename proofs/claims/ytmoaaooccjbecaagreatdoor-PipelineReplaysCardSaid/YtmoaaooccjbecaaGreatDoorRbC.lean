/-lensletref01-/
import Derived.Test.YtmoaaooccjbecaaGreatDoorOuK
set_option linter.all false
namespace Go.Mx
open Go Go.Proofs
set_option maxRecDepth 1000000
def Zcw:∀{b a:Nat},a≤b→(ds a).length≤(ds b).length:=by
 intro b
 induction b using Nat.strongRecOn with
 |_ b ih=>
  intro a h
  by_cases h0:a=0
  ·rw[h0,Zcq];simp
  ·rw[Zhk h0,Zhk (n:=b) (by omega)]
   have:=ih (b/1000000000) (Ywc (by omega) (by decide)) (a:=a/1000000000) (Nat.div_le_div_right h)
   simp only[Ytd];omega
def Yae{A:List Int}{k:Nat}{x:Int}(hx:A[k]?=some x):vI A=vI (A.take k)+pI k*(x+1000000000*vI (A.drop (k+1))):=by
 have hk:=Zar hx
 rw[Zjf A k (by omega),Zao hx,vI]
def Yjo{A B:List Int}{k:Nat}{x y:Int}(hA:Di A)(hB:Di B)(hx:A[k]?=some x)(hy:B[k]?=some y)(he:A.drop (k+1)=B.drop (k+1))(hxy:x<y):vI A<vI B:=by
 have hk:=Zar hx
 rw[Yae hx,Yae hy,he]
 have h1:=Zil (hA.take k)
 have h2:=Zik (hB.take k)
 rw[Ytu,Yuv (by omega)]at h1
 have h3:pI k*(x+1000000000*vI (B.drop (k+1))+1)≤pI k*(y+1000000000*vI (B.drop (k+1))):=Ytv (by omega) (Yvh (Zj0 k))
 have h4:pI k*(x+1000000000*vI (B.drop (k+1))+1)=pI k*(x+1000000000*vI (B.drop (k+1)))+pI k:=by grind
 omega
def Yez(a b:Nat):Int:=if a<b then -1 else if b<a then 1 else 0
def Zuz{h:T O}{N:Nat}{u v:V}{a b:Nat}{w:List Nat}(hu:Dn h N u a)(hv:Dn h N v b)(hl:(ds a).length<1152921504606846976)(hl2:(ds b).length<1152921504606846976):A.C.call (.func 197 [] []) [u,v] ⟨h,N,w⟩=some (.int .i64 (Yez a b),⟨h,N,w⟩):=by
 apply Call.eq
 have lu:=hu.len
 have lv:=hv.len
 rw[Zat]at lu lv
 have va:=Zbi a
 have vb:=Zbi b
 have da:=Zcf a
 have db:=Zcf b
 rw[Zad,A.k197 (by simp)]
 unfold Yez
 by_cases h1:(ds a).length=(ds b).length
 ·have h1':((ds a).length:Int)=((ds b).length:Int):=by omega
  simp(disch:=omega) [A.b197,lu,lv,Zae,h1]
  generalize hA:ds a=X at*
  generalize hB:ds b=Y at*
  refine Zah [(4,5),(19,40)] (fun e r st=>st=⟨h,N,[]⟩∧((e=.exit 0∧a=b)∨(e=.ret∧a<b∧r.get 4=some (.int .i64 (-1)))∨(e=.ret∧b<a∧r.get 4=some (.int .i64 1)))) (fun m r st=>st=⟨h,N,[]⟩∧m≤X.length∧r.get 5=some (.int .i64 ((m:Int)-1))∧X.drop m=Y.drop m) X.length ?_ ?_ ?_
  ·exact⟨rfl,Ytf _,by simp[h1],by rw[Yug,h1,Yug]⟩
  ·rintro m r _ hr hf ⟨rfl,hm,h5,he⟩
   rw[Zai]
   cases m with
   |zero=>
    have:a=b:=by
     simp at he;rw[he]at va;omega
    simp[A.lb197_0,hr,hf,h5,this]
   |succ k=>
    obtain⟨x,hx⟩:=Zag (l:=X) (k:=k) (by omega)
    obtain⟨y,hy⟩:=Zag (l:=Y) (k:=k) (by omega)
    obtain⟨b1,b2,b3,b4,b5,z1,z2,z3,z4⟩:=Sl.at (show Sl h N u (dI (ds a)) from hu) (by rw[hA];exact Zbl hx)
    obtain⟨c1,c2,c3,c4,c5,y1,y2,y3,y4⟩:=Sl.at (show Sl h N v (dI (ds b)) from hv) (by rw[hB];exact Zbl hy)
    have hq1:(((k+1:Nat):Int)-1)=(k:Int):=by omega
    rw[hq1]at h5
    have hk1:(k:Int)<(X.length:Int):=by omega
    have hk2:(k:Int)<(Y.length:Int):=by omega
    have hk3:(0:Int)≤(k:Int):=by omega
    have hk4:k<Y.length:=by omega
    by_cases hlt:x<y
    ·have:=Yjo da db hx hy he hlt
     have hab:a<b:=by omega
     simp[A.lb197_0,hr,hf,h5,lu,lv,hk1,hk2,hk3,hk4,z1,z2,z3,z4,y1,y2,y3,y4,hlt,hab]
    ·by_cases hgt:y<x
     ·have:=Yjo db da hy hx he.symm hgt
      have hab:b<a:=by omega
      have hab2:¬a<b:=by omega
      simp[A.lb197_0,hr,hf,h5,lu,lv,hk1,hk2,hk3,hk4,z1,z2,z3,z4,y1,y2,y3,y4,hlt,hgt,hab,hab2]
     ·have hxy:x=y:=by omega
      simp(disch:=first|(simp;done)|omega|rfl) [A.lb197_0,hr,hf,h5,lu,lv,hk1,hk2,hk3,hk4,z1,z2,z3,z4,y1,y2,y3,y4,hlt,hgt]
      exact⟨k,by omega,by omega,rfl,by rw[Zao hx,Zao hy,he,hxy]⟩
  ·rintro e r _ hr ⟨rfl,⟨rfl,hz⟩|⟨rfl,hz,h4⟩|⟨rfl,hz,h4⟩⟩
   ·simp[hr,hz]
   ·simp[hr,h4,hz]
   ·have:¬a<b:=by omega
    simp[hr,h4,hz,this]
 ·have h1':¬((ds a).length:Int)=((ds b).length:Int):=by omega
  by_cases h2:(ds a).length<(ds b).length
  ·have hab:a<b:=by
    apply Yun;intro hc;have:=Zcw hc;omega
   simp[A.b197,lu,lv,Zae,h1,h2,hab]
  ·have hab:b<a:=by
    apply Yun;intro hc;have:=Zcw hc;omega
   have hab2:¬a<b:=by omega
   simp[A.b197,lu,lv,Zae,h1,h2,hab,hab2]
structure DdA (h:T O) (N:Nat) (l:List Int) (d:Int) (m:Nat) (r:T V) (st:St):Prop where
 w:Zaa N st.w=[]
 keep:Keeps h N st.h (N+1)
 n:st.n=N+1
 r8:r.get 8=some (.int .i64 ((m:Int)-1))
 hm:m≤l.length
 ex:∃out rest,st.h.get N=some (.cells (dI out) 3 true)∧out.length=l.length∧r.get 7=some (.int .i64 rest)∧0≤rest∧rest<d∧Di (out.drop m)∧vI (out.drop m)*d+rest=vI (l.drop m)
def Znn{h:T O}{N:Nat}{v:V}{l:List Int}{d:Int}(hs:Sl h N v (dI l))(hd:Di l)(hl:l.length<1099511627776)(h0:0<d)(h1:d<1000000000):Fn A.C 198 [v,.int .i64 d] h N (fun u h' n'=>∃q,u=.tup [q,.int .i64 ((vI l).toNat%d.toNat:Nat)]∧Dn h' n' q ((vI l).toNat/d.toNat)):=by
 intro w
 have lv:=hs.len
 rw[Zat]at lv
 rw[Zad,A.k198 (by simp)]
 simp(disch:=first|(simp;done)|omega|rfl) [A.b198,lv]
 refine Zah [(7,9),(16,35)] (fun e r st=>e=.exit 0∧DdA h N l d 0 r st) (DdA h N l d) l.length ?_ ?_ ?_
 ·refine⟨by simp,Keeps.refl.new _,rfl,by simp,Ytf _,List.replicate l.length 0,0,by simp[Zqg],by simp,by simp,by omega,h0,?_,?_⟩
  ·rw[Yut (by simp)];exact Di.nil
  ·rw[Yut (by simp),Yug];simp[vI]
 ·rintro m r ⟨H,n1,W⟩ hr hf ⟨hW,hK,hn,h8,hm,out,rest,hrow,hol,h7,hr0,hrd,hdi,hv⟩
  simp only at hW hK hn hrow
  subst hn
  rw[Zai]
  cases m with
  |zero=>
   simp[A.lb198_0,hr,hf,h8]
   exact⟨hW,hK,rfl,by simpa using h8,hm,out,rest,hrow,hol,by simp[h7],hr0,hrd,hdi,hv⟩
  |succ k=>
   obtain⟨x,hx⟩:=Zag (l:=l) (k:=k) (by omega)
   obtain⟨b1,b2,b3,b4,b5,z1,z2,z3,z4⟩:=hs.at (Zbl hx)
   have z3:=(hK.get _ z2).trans z3
   have hxd:=hd.get hx
   have hq1:(((k+1:Nat):Int)-1)=(k:Int):=by omega
   rw[hq1]at h8
   have hk1:(k:Int)<(l.length:Int):=by omega
   have hk2:k<l.length:=by omega
   have hk3:(0:Int)≤(k:Int):=by omega
   have w1:Zap .i64 (rest*1000000000)=rest*1000000000:=Zaj (by omega) (by omega)
   have w2:Zap .i64 (rest*1000000000+x)=rest*1000000000+x:=Zaj (by omega) (by omega)
   have s0:0≤rest*1000000000+x:=by omega
   have hd0:¬d=0:=by omega
   have t1:(rest*1000000000+x).tdiv d=(rest*1000000000+x)/d:=Yuz s0
   have t2:(rest*1000000000+x).tmod d=(rest*1000000000+x)%d:=Yvc s0
   have t3:=Yvw (rest*1000000000+x) d
   have t4:0≤(rest*1000000000+x)/d:=Int.ediv_nonneg s0 (by omega)
   have t5:(rest*1000000000+x)/d<1000000000:=by
    apply Int.ediv_lt_of_lt_mul h0
    omega
   have t6:=Ywm (rest*1000000000+x) hd0
   have t7:=Yv6 (rest*1000000000+x) h0
   have w3:Zap .i64 ((rest*1000000000+x)/d)=(rest*1000000000+x)/d:=Zaj (by omega) (by omega)
   have w8:=Zat out
   have w7:=Zif (l:=out) (k:=k) (v:=(rest*1000000000+x)/d) (by omega)
   simp(disch:=first|(simp;done)|omega|rfl) [A.lb198_0,hr,hf,h8,h7,hk1,hk2,hk3,lv,z1,z3,z4,w1,w2,w3,hd0,t1,t2,hrow,w7]
   have e1:(out.set k ((rest*1000000000+x)/d)).drop k=((rest*1000000000+x)/d)::out.drop (k+1):=by
    rw[Zao (d:=(rest*1000000000+x)/d) (by rw[Yum (by omega)])]
    rw[List.drop_set_of_lt (by omega)]
   generalize (rest*1000000000+x)/d=q at*
   generalize (rest*1000000000+x)%d=r' at*
   refine⟨k,by omega,⟨by simp[Zaa,hW],hK.set (Ytf N),rfl,by simp,by omega,out.set k q,r',by simp,by simp[hol],by simp,t6,t7,?_,?_⟩⟩
   ·rw[e1];exact Di.app (Di.one t4 t5) hdi
   ·rw[e1,Zao hx,vI,vI,←hv]
    grind
 ·rintro _ r ⟨H,n1,W⟩ hr ⟨rfl,hW,hK,hn,h8,hm,out,rest,hrow,hol,h7,hr0,hrd,hdi,hv⟩
  simp only at hW hK hn hrow
  subst hn
  rw[Yvx,Yvx]at*
  have hs2:Sl H (N+1) (.slice N 0 l.length (some l.length) 1) (dI out):=Sl.row (by omega) hrow (by simp[hol]) (fun k hk=>by simp at hk;omega)
  simp[hr,h7]
  refine Zaf (Zgb hs2 (by omega)) ?_
  rintro u h2 n2 k2 hu
  have hvo:=Zik hdi
  have hvl:=Zik hd
  have m1:(vI l).toNat/d.toNat=(vI out).toNat:=by
   have:(vI l)/d=vI out:=by
    rw[←hv,Int.mul_comm,Int.add_comm,Int.add_mul_ediv_left _ _ (by omega),Int.ediv_eq_zero_of_lt hr0 hrd];omega
   rw[←this]
   obtain⟨a,ha⟩:=Yvn hvl
   obtain⟨b,hb⟩:=Yvn (Yvh h0)
   rw[ha,hb];rfl
  have m2:(((vI l).toNat%d.toNat:Nat):Int)=rest:=by
   have:(vI l)%d=rest:=by
    rw[←hv,Int.mul_comm,Int.add_comm,Int.add_mul_emod_self_left,Int.emod_eq_of_lt hr0 hrd]
   rw[←this]
   obtain⟨a,ha⟩:=Yvn hvl
   obtain⟨b,hb⟩:=Yvn (Yvh h0)
   rw[ha,hb];rfl
  rw[Zpn hdi]at hu
  have m2':rest=max (vI l) 0%max d 0:=by rw[←m2];simp
  simp[hr,h7,Ret,hW]
  refine⟨hK.trans k2,u,⟨rfl,m2'⟩,?_⟩
  rw[m1]
  exact hu
noncomputable def A.w200:=A.q Tryz.f200
noncomputable def A.lb200_0:=A.ql A.w200 1 []
noncomputable def A.lb200_1:=(fun x0=>A.ql A.w200 0 [x0]) A.lb200_0
noncomputable def A.b200:=(fun x0=>A.qb A.w200 [x0]) A.lb200_1
def A.k200:=@A.kk 200 72 [.tmp 4] A.b200 (by kernel_rfl) rfl
structure MuB (h:T O) (N:Nat) (la lb:List Int) (i:Nat) (out0:List Int) (a:Int) (m:Nat) (r:T V) (st:St):Prop where
 w:Zaa N st.w=[]
 keep:Keeps h N st.h (N+1)
 n:st.n=N+1
 ex:∃k out c,k+m=lb.length∧r.get 8=some (.int .i64 k)∧st.h.get N=some (.cells (dI out) 3 true)∧out.length=la.length+lb.length∧r.get 7=some (.int .i64 c)∧0≤c∧c<1000000000∧Di out∧(∀t,i+lb.length≤t→t<out.length→out[t]?=some 0)∧vI out+pI (i+k)*c=vI out0+pI i*(a*vI (lb.take k))
structure MuA (h:T O) (N:Nat) (la lb:List Int) (m:Nat) (r:T V) (st:St):Prop where
 w:Zaa N st.w=[]
 keep:Keeps h N st.h (N+1)
 n:st.n=N+1
 ex:∃i out,i+m=la.length∧r.get 6=some (.int .i64 i)∧st.h.get N=some (.cells (dI out) 3 true)∧out.length=la.length+lb.length∧Di out∧(∀t,i+lb.length≤t→t<out.length→out[t]?=some 0)∧vI out=vI (la.take i)*vI lb
def Ztn{h:T O}{N:Nat}{u v:V}{la lb:List Int}{a b:Nat}(hu:Sl h N u (dI la))(hv:Sl h N v (dI lb))(da:Di la)(db:Di lb)(ea:vI la=a)(eb:vI lb=b)(hl:la.length+lb.length<1099511627776):Fn A.C 200 [u,v] h N (fun x h' n'=>Dn h' n' x (a*b)):=by
 intro w
 have lu:=hu.len
 have lv:=hv.len
 rw[Zat]at lu lv
 rw[Zad,A.k200 (by simp)]
 have cs:((la.length:Int)+(lb.length:Int)).toNat=la.length+lb.length:=by omega
 simp(disch:=first|(simp;done)|omega|rfl) [A.b200,lu,lv,cs]
 refine Zah [(6,9),(16,69)] (fun e r st=>e=.exit 0∧MuA h N la lb 0 r st) (MuA h N la lb) la.length ?_ ?_ ?_
 ·refine⟨by simp,Keeps.refl.new _,rfl,0,List.replicate (la.length+lb.length) 0,by omega,by simp,by simp[Zqg],by simp,Di.zeros _,fun t _ ht=>?_,by simp[Zpm,vI]⟩
  simp at ht
  simp[ht]
 ·rintro m r ⟨H,n1,W⟩ hr hf ⟨hW,hK,hn,i,out,hi,h6,hrow,hol,hdi,hz,hv0⟩
  simp only at hW hK hn hrow
  subst hn
  rw[Zai]
  cases m with
  |zero=>
   have:i=la.length:=by omega
   subst this
   simp[A.lb200_1,hr,hf,h6,lu]
   exact⟨hW,hK,rfl,la.length,out,by omega,by simp[h6],hrow,hol,hdi,hz,hv0⟩
  |succ m=>
   obtain⟨x,hx⟩:=Zag (l:=la) (k:=i) (by omega)
   obtain⟨b1,b2,b3,b4,b5,z1,z2,z3,z4⟩:=hu.at (Zbl hx)
   have z3:=(hK.get _ z2).trans z3
   have hxd:=da.get hx
   have hi1:(i:Int)<(la.length:Int):=by omega
   have hi2:i<la.length:=by omega
   simp[A.lb200_1,hr,hf,h6,hi1,hi2,lu]
   refine Zah [(7,9),(22,54)] (fun e r st=>e=.exit 2∧MuB h N la lb i out x 0 r st) (MuB h N la lb i out x) lb.length ?_ ?_ ?_
   ·exact⟨hW,hK,rfl,0,out,0,by omega,by simp,hrow,hol,by simp,by omega,by omega,hdi,hz,by simp[vI]⟩
   ·rintro m2 r2 ⟨H2,n2,W2⟩ hr2 hf2 ⟨hW2,hK2,hn2,k,out2,c,hk,h8,hrow2,hol2,h7,c0,c1,hdi2,hz2,hv2⟩
    simp only at hW2 hK2 hn2 hrow2
    subst hn2
    rw[Zai]
    cases m2 with
    |zero=>
     have:k=lb.length:=by omega
     subst this
     simp[A.lb200_0,hr,hr2,hf2,h8,lv]
     exact⟨hW2,hK2,rfl,lb.length,out2,c,by omega,by simp[h8],hrow2,hol2,by simp[h7],c0,c1,hdi2,hz2,hv2⟩
    |succ m2=>
     obtain⟨y,hy⟩:=Zag (l:=lb) (k:=k) (by omega)
     obtain⟨g1,g2,g3,g4,g5,y1,y2,y3,y4⟩:=hv.at (Zbl hy)
     have y3:=(hK2.get _ y2).trans y3
     have z3:=(hK2.get _ z2).trans ((hK.get _ z2).symm.trans z3)
     have hyd:=db.get hy
     obtain⟨o,ho⟩:=Zag (l:=out2) (k:=i+k) (by omega)
     have hod:=hdi2.get ho
     have hk1:(k:Int)<(lb.length:Int):=by omega
     have hk2:k<lb.length:=by omega
     have p0:0≤x*y:=Yvd hxd.1 hyd.1
     have p1:x*y≤999999999*999999999:=Int.mul_le_mul (by omega) (by omega) hyd.1 (by omega)
     have q1:(i:Int)+(k:Int)<(la.length:Int)+(lb.length:Int):=by omega
     have q2:i+k<la.length+lb.length:=by omega
     have q3:(0:Int)≤(i:Int)+(k:Int):=by omega
     have t1:(o+x*y+c).tmod 1000000000=(o+x*y+c)%1000000000:=Yvc (by omega)
     have t2:(o+x*y+c).tdiv 1000000000=(o+x*y+c)/1000000000:=Yuz (by omega)
     have w8:=Zat out2
     have w7:=Zif (l:=out2) (k:=i+k) (v:=(o+x*y+c)%1000000000) (by omega)
     have e1:vI (out2.set (i+k) ((o+x*y+c)%1000000000))+pI (i+(k+1))*((o+x*y+c)/1000000000)=vI out+pI i*(x*vI (lb.take (k+1))):=by
      have hm:=Yvw (o+x*y+c) 1000000000
      rw[Zjg ho,Zbe hy,show i+(k+1)=(i+k)+1 by omega,Zc9]
      have hp:=Zv8 i k
      generalize (o+x*y+c)/1000000000=Q at*
      generalize (o+x*y+c)%1000000000=R at*
      have:R=o+x*y+c-1000000000*Q:=by omega
      rw[this]
      have h3:vI out2=vI out+pI i*(x*vI (lb.take k))-pI (i+k)*c:=by omega
      rw[h3,hp]
      grind
     generalize hP:x*y=P at*
     have b1':Zap .i64 P=P:=Zaj (by omega) (by omega)
     have b2':Zap .i64 (o+P)=o+P:=Zaj (by omega) (by omega)
     have b3':Zap .i64 (o+P+c)=o+P+c:=Zaj (by omega) (by omega)
     have b4':Zap .i64 ((o+P+c)/1000000000)=(o+P+c)/1000000000:=Zaj (by omega) (by omega)
     have f1:b1<N+1:=by omega
     have f2:g1<N+1:=by omega
     have r0:=Ywm (o+P+c) (b:=1000000000) (by decide)
     have r1:=Yv6 (o+P+c) (b:=1000000000) (by decide)
     have d0:0≤(o+P+c)/1000000000:=Int.ediv_nonneg (by omega) (by decide)
     have d1:(o+P+c)/1000000000<1000000000:=Int.ediv_lt_of_lt_mul (by decide) (by omega)
     simp(disch:=first|(simp;done)|omega|rfl) [-getElem?_pos,A.lb200_0,hr,hr2,hf2,h6,h7,h8,lu,lv,hk1,hk2,hi1,hi2,q1,q2,q3,hrow2,Zbl ho,z1,z2,z3,z4,y1,y2,y3,y4,hP,b1',b2',b3',b4',t1,t2,w7,cs,f1,f2]
     refine⟨m2,by omega,⟨by simp[Zaa,hW2],hK2.set (Ytf N),rfl,k+1,_,_,by omega,by simp,by simp,by simp[hol2],by simp,d0,d1,hdi2.set r0 r1,fun t ht1 ht2=>?_,e1⟩⟩
     rw[Ytm (by omega)]
     exact hz2 t ht1 (by simpa using ht2)
   ·rintro _ r2 ⟨H2,n2,W2⟩ hr2 ⟨rfl,hW2,hK2,hn2,k,out2,c,hk,h8,hrow2,hol2,h7,c0,c1,hdi2,hz2,hv2⟩
    simp only at hW2 hK2 hn2 hrow2
    subst hn2
    have:k=lb.length:=by omega
    subst this
    have ho:=hz2 (i+lb.length) (by omega) (by omega)
    have hfi:=hf.inner (D':=[(7,9),(22,54)]) rfl (by simp) hr2
    have q1:(i:Int)+(lb.length:Int)<(la.length:Int)+(lb.length:Int):=by omega
    have q2:i+lb.length<la.length+lb.length:=by omega
    have q3:(0:Int)≤(i:Int)+(lb.length:Int):=by omega
    have w8:=Zat out2
    have w7:=Zif (l:=out2) (k:=i+lb.length) (v:=c) (by omega)
    rw[Yuf]at hv2
    have e1:vI (out2.set (i+lb.length) c)=vI (la.take (i+1))*vI lb:=by
     rw[Zjg ho,Zbe hx]
     have:vI out2+pI (i+lb.length)*(c-0)=vI out+pI i*(x*vI lb):=by rw[Int.sub_zero];exact hv2
     rw[this,hv0]
     grind
    simp(disch:=first|(simp;done)|omega|rfl) [-getElem?_pos,hr,hr2,h6,h7,lv,hrow2,Zbl ho,q1,q2,q3,w7,hfi,cs]
    refine⟨m,by omega,⟨by simp[Zaa,hW2],hK2.set (Ytf N),rfl,i+1,_,by omega,by simp,by simp,by simp[hol2],hdi2.set c0 c1,fun t ht1 ht2=>?_,e1⟩⟩
    rw[Ytm (by omega)]
    exact hz2 t (by omega) (by simpa using ht2)
 ·rintro _ r ⟨H,n1,W⟩ hr ⟨rfl,hW,hK,hn,i,out,hi,h6,hrow,hol,hdi,hz,hv0⟩
  simp only at hW hK hn hrow
  subst hn
  have:i=la.length:=by omega
  subst this
  rw[Yuf,ea,eb]at hv0
  have hs2:Sl H (N+1) (.slice N 0 (la.length+lb.length) (some (la.length+lb.length)) 1) (dI out):=Sl.row (by omega) hrow (by simp[hol]) (fun k hk=>by simp at hk;omega)
  simp[hr]
  refine Zaf (Zgb hs2 (by omega)) ?_
  rintro y h2 n2 k2 hy
  rw[Zf7 hdi (n:=a*b) (by rw[hv0];simp)]at hy
  simp[hr,Ret,hW]
  exact⟨hK.trans k2,hy⟩
noncomputable def A.b280:=A.q Tryz.f280
def A.k280:=@A.kk 280 13 [.tmp 4] A.b280 (by kernel_rfl) rfl
noncomputable def A.w249:=A.q Tryz.f249
noncomputable def A.lb249_0:=A.ql A.w249 0 []
noncomputable def A.b249:=(fun x0=>A.qb A.w249 [x0]) A.lb249_0
def A.k249:=@A.kk 249 42 [.tmp 4] A.b249 (by kernel_rfl) rfl
noncomputable def A.w250:=A.q Tryz.f250
noncomputable def A.lb250_0:=A.ql A.w250 0 []
noncomputable def A.b250:=(fun x0=>A.qb A.w250 [x0]) A.lb250_0
def A.k250:=@A.kk 250 35 [.tmp 4] A.b250 (by kernel_rfl) rfl
def Zqe{h:T O}{N:Nat}{v:V}{l:List Int}{i:Nat}{w:List Nat}(hs:Sl h N v (dI l))(hi:i<4611686018427387904)(hl:l.length<4611686018427387904):A.C.call (.func 280 [] []) [v,.int .i64 i] ⟨h,N,w⟩=some (.int .i64 (zI l i),⟨h,N,w⟩):=by
 apply Call.eq
 have hlen:=hs.len
 rw[Zat]at hlen
 rw[Zad,A.k280 (by simp)]
 by_cases hc:i<l.length
 ·have hc1:(i:Int)<(l.length:Int):=by omega
  obtain⟨d,hd⟩:=Zag hc
  obtain⟨j,o,c,e,rw,q1,q2,q3,q4⟩:=hs.at (Zbl hd)
  simp[A.b280,hlen,hc,hc1,q1,q3,q4,Yjy hd]
 ·have hc1:¬(i:Int)<(l.length:Int):=by omega
  simp[A.b280,hlen,hc,hc1,Zs3 (Yu0 hc)]
structure AdI (h:T O) (N:Nat) (la lb:List Int) (m:Nat) (r:T V) (st:St):Prop where
 w:Zaa N st.w=[]
 keep:Keeps h N st.h st.n
 ex:∃k c out D,k+m=max la.length lb.length+1∧r.get 7=some (.int .i64 k)∧r.get 6=some (.int .i64 c)∧r.get 5=some out∧0≤c∧c≤1∧(m=0→c=0)∧Own 1 3 N st.h st.n out (Zc7 D)∧D.length=k∧Di D∧vI D+pI k*c=vI (la.take k)+vI (lb.take k)
def Zl0{l:List Int}{k:Nat}(h:l.length≤k):l.take k=l:=Yto h
def Ykv{h:T O}{N:Nat}{u v:V}{la lb:List Int}(hu:Sl h N u (dI la))(hv:Sl h N v (dI lb))(da:Di la)(db:Di lb)(l1:la.length<1099511627776)(l2:lb.length<1099511627776):Fn A.C 249 [u,v] h N (fun x h' n'=>∃l,Sl h' n' x (dI l)∧Di l∧vI l=vI la+vI lb∧l.length≤max la.length lb.length+1):=by
 intro w
 have lu:=hu.len
 have lv:=hv.len
 rw[Zat]at lu lv
 rw[Zad,A.k249 (by simp)]
 simp[A.b249]
 refine Zah [(5,40)] (fun e r st=>e=.exit 0∧Zaa N st.w=[]∧Keeps h N st.h st.n∧∃out D,r.get 5=some out∧Own 1 3 N st.h st.n out (Zc7 D)∧Di D∧vI D=vI la+vI lb∧D.length≤max la.length lb.length+1) (AdI h N la lb) (max la.length lb.length+1) ?_ ?_ ?_
 ·exact⟨by simp,Keeps.refl,0,0,.nilslice,[],by omega,by simp,by simp,by simp,by omega,by omega,fun _=>rfl,Own.nil,rfl,Di.nil,by simp[vI]⟩
 ·rintro m r ⟨H,n1,W⟩ hr hf ⟨hW,hK,k,c,out,D,hk,h7,h6,h5,c0,c1,cz,ho,hD,dD,hv0⟩
  simp only at hW hK ho
  rw[Zai]
  by_cases hgo:k<la.length∨k<lb.length∨0<c
  ·obtain⟨m',rfl⟩:∃m',m=m'+1:=⟨m-1,by
    have:m≠0:=fun hm=>by have:=cz hm;omega
    omega⟩
   have dx:=Yjz da k
   have dy:=Yjz db k
   have e1:=fun w=>Zqe (w:=w) (i:=k) (hu.keep hK) (by omega) (by omega)
   have e2:=fun w=>Zqe (w:=w) (i:=k) (hv.keep hK) (by omega) (by omega)
   obtain⟨x,hx⟩:∃x,zI la k=x:=⟨_,rfl⟩
   obtain⟨y,hy⟩:∃y,zI lb k=y:=⟨_,rfl⟩
   rw[hx]at dx e1
   rw[hy]at dy e2
   have t1:(x+y+c).tmod 1000000000=(x+y+c)%1000000000:=Yvc (by omega)
   have t2:(x+y+c).tdiv 1000000000=(x+y+c)/1000000000:=Yuz (by omega)
   have t3:Zap .i64 (x+y)=x+y:=Zaj (by omega) (by omega)
   have t4:Zap .i64 (x+y+c)=x+y+c:=Zaj (by omega) (by omega)
   have t5:Zap .i64 ((x+y+c)/1000000000)=(x+y+c)/1000000000:=Zaj (by omega) (by omega)
   have hfin:vI (D++[(x+y+c)%1000000000])+pI (k+1)*((x+y+c)/1000000000)=vI (la.take (k+1))+vI (lb.take (k+1)):=by
    rw[Zf5,hD,Zmg,Zmg,hx,hy,Zc9]
    have hm:=Yvw (x+y+c) 1000000000
    generalize (x+y+c)/1000000000=Q at*
    generalize (x+y+c)%1000000000=R at*
    have:R=x+y+c-1000000000*Q:=by omega
    subst this
    grind
   have hz:m'=0→(x+y+c)/1000000000=0:=fun hm=>by
    have:x=0:=by rw[←hx];exact Zs3 (by omega)
    have:y=0:=by rw[←hy];exact Zs3 (by omega)
    omega
   have ho2:=ho.keep (Keeps.refl.new (.cells [.int .i64 ((x+y+c)%1000000000)] 3 true))
   obtain⟨v',h',w',f1,f2,f3,_,f5⟩:=Za9 (x:=[.int .i64 ((x+y+c)%1000000000)]) (u:=.slice n1 0 1 (some 1) 1) (bytes:=8) (w:=W) ho2 (by have:=hK.le;omega) (by decide) rfl (by simp[Zau,St.row,slc]) (by simp[Zc7];omega)
   rw[←Zdj]at f5
   have f6:Zaa N w'=[]:=by rw[f2];exact hW
   have kz:=(hK.new (.cells [.int .i64 ((x+y+c)%1000000000)] 3 true)).then f3
   have hgo':k<la.length∨(¬k<la.length∧k<lb.length)∨(¬k<la.length∧¬k<lb.length∧0<c):=by omega
   rcases hgo' with g1|⟨g1,g2⟩|⟨g1,g2,g3⟩
   ·have i1:(k:Int)<(la.length:Int):=by omega
    simp[A.lb249_0,hr,hf,h7,h6,h5,lu,lv,g1,i1,e1,e2,t1,t2,t3,t4,t5,splice]
    simp(disch:=first|(simp;done)|omega|rfl) [f1,f6,hr,hf,h7]
    exact⟨m',by omega,⟨f6,kz,k+1,(x+y+c)/1000000000,v',D++[(x+y+c)%1000000000],by omega,by simp,by simp[t2],by simp,by omega,by omega,hz,f5,by simp[hD],dD.app (Di.one (by omega) (by omega)),hfin⟩⟩
   ·have i1:¬(k:Int)<(la.length:Int):=by omega
    have i2:(k:Int)<(lb.length:Int):=by omega
    simp[A.lb249_0,hr,hf,h7,h6,h5,lu,lv,g1,g2,i1,i2,e1,e2,t1,t2,t3,t4,t5,splice]
    simp(disch:=first|(simp;done)|omega|rfl) [f1,f6,hr,hf,h7]
    exact⟨m',by omega,⟨f6,kz,k+1,(x+y+c)/1000000000,v',D++[(x+y+c)%1000000000],by omega,by simp,by simp[t2],by simp,by omega,by omega,hz,f5,by simp[hD],dD.app (Di.one (by omega) (by omega)),hfin⟩⟩
   ·have i1:¬(k:Int)<(la.length:Int):=by omega
    have i2:¬(k:Int)<(lb.length:Int):=by omega
    simp[A.lb249_0,hr,hf,h7,h6,h5,lu,lv,g1,g2,g3,i1,i2,e1,e2,t1,t2,t3,t4,t5,splice]
    simp(disch:=first|(simp;done)|omega|rfl) [f1,f6,hr,hf,h7]
    exact⟨m',by omega,⟨f6,kz,k+1,(x+y+c)/1000000000,v',D++[(x+y+c)%1000000000],by omega,by simp,by simp[t2],by simp,by omega,by omega,hz,f5,by simp[hD],dD.app (Di.one (by omega) (by omega)),hfin⟩⟩
  ·obtain⟨g1,g2,g3⟩:¬k<la.length∧¬k<lb.length∧¬0<c:=by omega
   have i1:¬(k:Int)<(la.length:Int):=by omega
   have i2:¬(k:Int)<(lb.length:Int):=by omega
   obtain rfl:c=0:=by omega
   rw[Zl0 (by omega),Zl0 (by omega),Int.mul_zero,Int.add_zero]at hv0
   simp[A.lb249_0,hr,hf,h7,h6,lu,lv,g1,g2,i1,i2,hW,hK]
   exact⟨out,h5,D,ho,dD,hv0,by omega⟩
 ·rintro _ r ⟨H,n1,W⟩ hr ⟨rfl,hW,hK,out,D,h5,ho,dD,hv0,hl⟩
  simp only at hW hK ho
  simp[hr,h5,Ret,hW,hK]
  exact⟨D,ho.sl,dD,hv0,hl⟩
variable {N:Nat} {h:T O}
noncomputable def A.b206:=A.q Tryz.f206
def A.k206:=@A.kk 206 40 [.cell 4 (some 2)] A.b206 (by kernel_rfl) rfl
noncomputable def A.b247:=A.q Tryz.f247
def A.k247:=@A.kk 247 9 [.cell 2 (some 2)] A.b247 (by kernel_rfl) rfl
noncomputable def A.b205:=A.q Tryz.f205
def A.k205:=@A.kk 205 16 [.cell 4 (some 2)] A.b205 (by kernel_rfl) rfl
def Zpz(k:Nat):pI k=((1000000000^k:Nat):Int):=by unfold pI;simp
def Rg.keep{h':T O}{N':Nat}{v:V}{z:Int}(s:Rg h N v z)(k:Keeps h N h' N'):Rg h' N' v z:=by
 obtain⟨u,h1,h2⟩:=s
 exact⟨u,h1,h2.keep k⟩
def nint:∀x∈[V.bool false,V.nilslice],∀k m,x≠.int k m:=by intro x hx k m;simp at hx;rcases hx with rfl|rfl<;>simp
def Yog{b:Bool}{u:V}(hu:SlF u):∀x∈[V.bool b,u],∀k m,x≠.int k m:=by
 intro x hx k m
 simp at hx
 rcases hx with rfl|rfl
 ·simp
 ·rcases hu with rfl|rfl|⟨_,_,_,_,_,rfl⟩<;>simp
def Zzr(a b:Nat):(ds (a*b)).length≤(ds a).length+(ds b).length:=by
 refine Zfy ?_
 have h1:=Zil (Zcf a)
 have h2:=Zil (Zcf b)
 rw[Zbi]at h1 h2
 rw[Zpz]at h1 h2
 rw[Yuu]
 exact Yv8 (Int.ofNat_lt.1 h1) (Int.ofNat_lt.1 h2)
def Zwh{v:V}{z:Int}(hs:Rg h N v z)(hl:(ds z.natAbs).length<1099511627776):Fn A.C 247 [v] h N (fun u h' n'=>Rg h' n' u (-z)):=by
 intro w
 obtain⟨u,rfl,hu⟩:=hs
 have o1:=Sl.form hu |>.one
 have o2:=Sl.form hu |>.cells
 unfold V.one at o1
 unfold V.cells at o2
 have kB:=(((Keeps.refl (h:=h) (n:=N)).new (.cells [.bool (decide (z<0)),u] 182 true)).new (.cells [.bool false,.nilslice] 182 true))
 rw[Zad,A.k247 (by simp)]
 simp[A.b247,o1,o2,splice,Zam,slc]
 refine Zaf (Zb4 (b:=!decide (z<0)) (n:=z.natAbs) (Sl.keep hu kB) (Zcf _) (Zbi _) (by omega)) ?_
 rintro v2 h2 n2 k2 hv
 have kle:=k2.le
 have g1:=(k2.get (N+1) (by omega))
 rw[T.get_set,Ytg rfl]at g1
 have kk:=kB.trans k2
 have ez:(if (!decide (z<0))=true then -((z.natAbs:Nat):Int) else ((z.natAbs:Nat):Int))= -z:=by
  by_cases h0:z<0<;>simp[h0]<;>omega
 rw[ez]at hv
 obtain⟨u2,rfl,hu2⟩:=hv
 have p1:=Sl.form hu2 |>.one
 have p2:=Sl.form hu2 |>.cells
 unfold V.one at p1
 unfold V.cells at p2
 simp[g1,p1,p2,splice,Zal,Zam,slc,Ret]
 exact⟨kk.set (by omega),u2,by simp,Sl.setInt hu2 g1 nint rfl⟩
def Yke(a b:Int):(if (!(decide (a<0)==decide (b<0)))=true then -((a.natAbs*b.natAbs:Nat):Int) else ((a.natAbs*b.natAbs:Nat):Int))=a*b:=by
 have h0:((a.natAbs*b.natAbs:Nat):Int)=(a.natAbs:Int)*(b.natAbs:Int):=by simp
 rw[h0]
 by_cases h1:a<0<;>by_cases h2:b<0
 ·have ha:(a.natAbs:Int)= -a:=by omega
  have hb:(b.natAbs:Int)= -b:=by omega
  rw[ha,hb];simp[h1,h2,Int.neg_mul,Int.mul_neg]
 ·have ha:(a.natAbs:Int)= -a:=by omega
  have hb:(b.natAbs:Int)=b:=by omega
  rw[ha,hb];simp[h1,h2,Int.neg_mul]
 ·have ha:(a.natAbs:Int)=a:=by omega
  have hb:(b.natAbs:Int)= -b:=by omega
  rw[ha,hb];simp[h1,h2,Int.mul_neg]
 ·have ha:(a.natAbs:Int)=a:=by omega
  have hb:(b.natAbs:Int)=b:=by omega
  rw[ha,hb];simp[h1,h2]
def Zjn{x y:V}{a b:Int}(hx:Rg h N x a)(hy:Rg h N y b)(l1:(ds a.natAbs).length<500000000000)(l2:(ds b.natAbs).length<500000000000):Fn A.C 205 [x,y] h N (fun u h' n'=>Rg h' n' u (a*b)):=by
 intro w
 obtain⟨u,rfl,hu⟩:=hx
 obtain⟨v,rfl,hv⟩:=hy
 have o1:=Sl.form hu |>.one
 have o2:=Sl.form hu |>.cells
 have o3:=Sl.form hv |>.one
 have o4:=Sl.form hv |>.cells
 unfold V.one at o1 o3
 unfold V.cells at o2 o4
 have kB:=((((Keeps.refl (h:=h) (n:=N)).new (.cells [.bool (decide (a<0)),u] 182 true)).new (.cells [.bool (decide (b<0)),v] 182 true)).new (.cells [.bool false,.nilslice] 182 true))
 rw[Zad,A.k205 (by simp)]
 simp[A.b205,o1,o2,o3,o4,splice,Zam,slc,Zae]
 generalize hB:((h.set N (.cells [.bool (decide (a<0)),u] 182 true)).set (N+1) (.cells [.bool (decide (b<0)),v] 182 true)).set (N+1+1) (.cells [.bool false,.nilslice] 182 true)=HB at*
 have gr:HB.get (N+1+1)=some (.cells [.bool false,.nilslice] 182 true):=by rw[←hB];simp
 refine Zaf (Ztn (Sl.keep hu kB) (Sl.keep hv kB) (Zcf _) (Zcf _) (Zbi _) (Zbi _) (by omega)) ?_
 rintro v1 h1 n1 k1 q1
 have hlm:(ds (a.natAbs*b.natAbs)).length<1152921504606846976:=by
  have:=Zzr a.natAbs b.natAbs;omega
 simp[]
 refine Zaf (Zb4 (n:=a.natAbs*b.natAbs) q1 (Zcf _) (Zbi _) hlm) ?_
 rintro v2 h2 n2 k2 hr2
 have le1:=k1.le
 have le2:=k2.le
 have g1:=(k2.get (N+1+1) (by omega)).trans ((k1.get (N+1+1) (by omega)).trans gr)
 have ez:(if (!(decide (a<0)==decide (b<0)))=true then -((a.natAbs*b.natAbs:Nat):Int) else ((a.natAbs*b.natAbs:Nat):Int))=a*b:=Yke a b
 rw[ez]at hr2
 obtain⟨u2,rfl,hu2⟩:=hr2
 have p1:=Sl.form hu2 |>.one
 have p2:=Sl.form hu2 |>.cells
 unfold V.one at p1
 unfold V.cells at p2
 simp[g1,p1,p2,splice,Zal,Zam,slc,Ret,Zan.chk]
 exact⟨by split<;>simp[Zaa],((kB.trans k1).trans k2).set (by omega),u2,rfl,Sl.setInt hu2 g1 nint rfl⟩
set_option maxHeartbeats 4000000
structure SuI (h:T O) (N:Nat) (la lb:List Int) (m:Nat) (r:T V) (st:St):Prop where
 w:Zaa N st.w=[]
 keep:Keeps h N st.h st.n
 ex:∃k c out D,k+m=la.length∧r.get 7=some (.int .i64 k)∧r.get 6=some (.int .i64 c)∧r.get 5=some out∧0≤c∧c≤1∧Own 1 3 N st.h st.n out (Zc7 D)∧D.length=k∧Di D∧vI D-pI k*c=vI (la.take k)-vI (lb.take k)
def Ya6{h:T O}{N:Nat}{u v:V}{a b:Nat}(hu:Dn h N u a)(hv:Dn h N v b)(hab:b≤a)(l1:(ds a).length<1099511627776):Fn A.C 250 [u,v] h N (fun x h' n'=>Dn h' n' x (a-b)):=by
 intro w
 have l2:=Zcw hab
 have da:=Zcf a
 have db:=Zcf b
 have va:=Zbi a
 have vb:=Zbi b
 have lu:=Sl.len hu
 have lv:=Sl.len hv
 rw[Zat]at lu lv
 have hu:Sl h N u (dI (ds a)):=hu
 have hv:Sl h N v (dI (ds b)):=hv
 generalize hA:ds a=la at*
 generalize hB:ds b=lb at*
 rw[Zad,A.k250 (by simp)]
 simp[A.b250]
 refine Zah [(5,32)] (fun e r st=>e=.exit 0∧SuI h N la lb 0 r st) (SuI h N la lb) la.length ?_ ?_ ?_
 ·exact⟨by simp,Keeps.refl,0,0,.nilslice,[],by omega,by simp,by simp,by simp,by omega,by omega,Own.nil,rfl,Di.nil,by simp[vI]⟩
 ·rintro m r ⟨H,n1,W⟩ hr hf ⟨hW,hK,k,c,out,D,hk,h7,h6,h5,c0,c1,ho,hD,dD,hv0⟩
  simp only at hW hK ho
  rw[Zai]
  cases m with
  |zero=>
   obtain rfl:k=la.length:=by omega
   simp[A.lb250_0,hr,hf,h7,lu]
   exact⟨hW,hK,la.length,c,out,D,by omega,by simp[h7],by simp[h6],by simp[h5],c0,c1,ho,hD,dD,hv0⟩
  |succ m=>
   have hlt:k<la.length:=by omega
   have hk1:(k:Int)<(la.length:Int):=by omega
   obtain⟨x,hx⟩:=Zag hlt
   have dx:=da.get hx
   have dy:=Yjz db k
   obtain⟨i,o,cc,e,rw,q1,q2,q3,q4⟩:=(hu.keep hK).at (Zbl hx)
   have e2:=fun w=>Zqe (w:=w) (i:=k) (hv.keep hK) (by omega) (by omega)
   obtain⟨y,hy⟩:∃y,zI lb k=y:=⟨_,rfl⟩
   rw[hy]at dy e2
   have t3:Zap .i64 (x-y)=x-y:=Zaj (by omega) (by omega)
   have t4:Zap .i64 (x-y-c)=x-y-c:=Zaj (by omega) (by omega)
   have t5:Zap .i64 (x-y-c+1000000000)=x-y-c+1000000000:=Zaj (by omega) (by omega)
   have hs:∀d c':Int,d-1000000000*c'=x-y-c→vI (D++[d])-pI (k+1)*c'=vI (la.take (k+1))-vI (lb.take (k+1)):=fun d c' he=>by
    rw[Zf5,hD,Zbe hx,Zmg,hy,Zc9]
    have:d=x-y-c+1000000000*c':=by omega
    subst this
    grind
   have ap:∀d:Int,∃v' h' w',Zbg ⟨H.set n1 (.cells [.int .i64 d] 3 true),n1+1,W⟩ 1 8 3 out (.slice n1 0 1 (some 1) 1)=some (v',⟨h',n1+1+1,w'⟩)∧Zaa N w'=[]∧Keeps h N h' (n1+1+1)∧Own 1 3 N h' (n1+1+1) v' (Zc7 (D++[d])):=fun d=>by
    have ho2:=ho.keep (Keeps.refl.new (.cells [.int .i64 d] 3 true))
    obtain⟨v',h',w',f1,f2,f3,_,f5⟩:=Za9 (x:=[.int .i64 d]) (u:=.slice n1 0 1 (some 1) 1) (bytes:=8) (w:=W) ho2 (by have:=hK.le;omega) (by decide) rfl (by simp[Zau,St.row,slc]) (by simp[Zc7];omega)
    rw[←Zdj]at f5
    exact⟨v',h',w',f1,by rw[f2];exact hW,(hK.new (.cells [.int .i64 d] 3 true)).then f3,f5⟩
   by_cases hneg:x-y-c<0
   ·obtain⟨v',h',w',f1,f2,f3,f5⟩:=ap (x-y-c+1000000000)
    simp[A.lb250_0,hr,hf,h7,h6,h5,lu,hk1,hlt,q1,q2,q3,q4,e2,t3,t4,t5,hneg,splice,Zan.chk]
    simp(disch:=first|(simp;done)|omega|rfl) [f1,hr,hf,h7]
    exact⟨m,by omega,⟨f2,f3,k+1,1,v',D++[x-y-c+1000000000],by omega,by simp,by simp,by simp,by omega,by omega,f5,by simp[hD],dD.app (Di.one (by omega) (by omega)),hs _ _ (by omega)⟩⟩
   ·obtain⟨v',h',w',f1,f2,f3,f5⟩:=ap (x-y-c)
    simp[A.lb250_0,hr,hf,h7,h6,h5,lu,hk1,hlt,q1,q2,q3,q4,e2,t3,t4,hneg,splice,Zan.chk]
    simp(disch:=first|(simp;done)|omega|rfl) [f1,hr,hf,h7]
    exact⟨m,by omega,⟨f2,f3,k+1,0,v',D++[x-y-c],by omega,by simp,by simp,by simp,by omega,by omega,f5,by simp[hD],dD.app (Di.one (by omega) (by omega)),hs _ _ (by omega)⟩⟩
 ·rintro _ r ⟨H,n1,W⟩ hr ⟨rfl,hW,hK,k,c,out,D,hk,h7,h6,h5,c0,c1,ho,hD,dD,hv0⟩
  simp only at hW hK ho
  obtain rfl:k=la.length:=by omega
  rw[Zl0 (Ytf _),Zl0 (by omega),va,vb]at hv0
  have hlt:=Zil dD
  rw[hD]at hlt
  have c2:c=0:=by
   apply Int.le_antisymm _ c0
   apply Ywh
   intro hc
   have:c=1:=by omega
   subst this
   omega
  subst c2
  have hvD:vI D=((a-b:Nat):Int):=by omega
  simp[hr,h5]
  refine Zaf (Zgb ho.sl (by omega)) ?_
  rintro v2 h2 n2 k2 q2
  rw[Zf7 dD hvD]at q2
  simp[Ret,hW]
  exact⟨hK.trans k2,q2⟩
def Yeb{a b:Nat}:(0≤Yez a b)↔b≤a:=by unfold Yez;split<;>(try split)<;>omega
def Ykz{h:T O}{N:Nat}{x y:V}{a b:Int}(hx:Rg h N x a)(hy:Rg h N y b)(l1:(ds a.natAbs).length<500000000000)(l2:(ds b.natAbs).length<500000000000):Fn A.C 206 [x,y] h N (fun u h' n'=>Rg h' n' u (a+b)):=by
 intro w
 obtain⟨u,rfl,hu⟩:=hx
 obtain⟨v,rfl,hv⟩:=hy
 have o1:=Sl.form hu |>.one
 have o2:=Sl.form hu |>.cells
 have o3:=Sl.form hv |>.one
 have o4:=Sl.form hv |>.cells
 unfold V.one at o1 o3
 unfold V.cells at o2 o4
 have kB:=((((Keeps.refl (h:=h) (n:=N)).new (.cells [.bool (decide (a<0)),u] 182 true)).new (.cells [.bool (decide (b<0)),v] 182 true)).new (.cells [.bool false,.nilslice] 182 true))
 rw[Zad,A.k206 (by simp)]
 generalize hB:((h.set N (.cells [.bool (decide (a<0)),u] 182 true)).set (N+1) (.cells [.bool (decide (b<0)),v] 182 true)).set (N+1+1) (.cells [.bool false,.nilslice] 182 true)=HB at kB
 have gr:HB.get (N+1+1)=some (.cells [.bool false,.nilslice] 182 true):=by rw[←hB];simp
 have gx:HB.get N=some (.cells [.bool (decide (a<0)),u] 182 true):=by rw[←hB];simp
 have gy:HB.get (N+1)=some (.cells [.bool (decide (b<0)),v] 182 true):=by rw[←hB];simp
 by_cases hsg:decide (a<0)=decide (b<0)
 ·have hsb:(decide (a<0)==decide (b<0))=true:=by rw[hsg];simp
  simp[A.b206,o1,o2,o3,o4,splice,Zam,slc,Zae,hsb]
  simp only[hB]
  refine Zaf (Ykv (Sl.keep hu kB) (Sl.keep hv kB) (Zcf _) (Zcf _) (by omega) (by omega)) ?_
  rintro v1 h1 n1 k1 ⟨l,q1,q2,q3,q4⟩
  rw[Zbi,Zbi]at q3
  have ez:(if decide (a<0)=true then -((a.natAbs+b.natAbs:Nat):Int) else ((a.natAbs+b.natAbs:Nat):Int))=a+b:=by
   by_cases h1:a<0<;>by_cases h2:b<0<;>simp[h1,h2]at hsg ⊢<;>omega
  simp[]
  refine Zaf (Zb4 (b:=decide (a<0)) (n:=a.natAbs+b.natAbs) q1 q2 (by rw[q3];try simp) (by omega)) ?_
  rintro v2 h2 n2 k2 hr2
  rw[ez]at hr2
  have le1:=k1.le
  have le2:=k2.le
  have g1:=(k2.get (N+1+1) (by omega)).trans ((k1.get (N+1+1) (by omega)).trans gr)
  obtain⟨u2,rfl,hu2⟩:=hr2
  have p1:=Sl.form hu2 |>.one
  have p2:=Sl.form hu2 |>.cells
  unfold V.one at p1
  unfold V.cells at p2
  simp[g1,p1,p2,splice,Zal,Zam,slc,Ret,Zan.chk]
  exact⟨by split<;>simp[Zaa],((kB.trans k1).trans k2).set (by omega),u2,rfl,Sl.setInt hu2 g1 nint rfl⟩
 ·have hsb:(decide (a<0)==decide (b<0))=false:=by simpa using hsg
  have hcm:=fun w=>Zuz (w:=w) (Sl.keep hu kB) (Sl.keep hv kB) (by omega) (by omega)
  by_cases hge:b.natAbs≤a.natAbs
  ·have hge':0≤Yez a.natAbs b.natAbs:=Yeb.2 hge
   simp[A.b206,o1,o2,o3,o4,splice,Zam,slc,Zae,hsb]
   simp only[hB]
   simp[hcm,hge',gx,gy,Zam,splice,slc]
   refine Zaf (Ya6 (Sl.keep hu kB) (Sl.keep hv kB) hge (by omega)) ?_
   rintro v1 h1 n1 k1 q1
   have q2:=Zcf (a.natAbs-b.natAbs)
   have q3:=Zbi (a.natAbs-b.natAbs)
   have q4:=Zcw (Nat.sub_le a.natAbs b.natAbs)
   have ez:(if decide (a<0)=true then -((a.natAbs-b.natAbs:Nat):Int) else ((a.natAbs-b.natAbs:Nat):Int))=a+b:=by
    by_cases h1:a<0<;>by_cases h2:b<0<;>simp[h1,h2]at hsg ⊢<;>omega
   simp[]
   refine Zaf (Zb4 (b:=decide (a<0)) (n:=a.natAbs-b.natAbs) q1 q2 (by rw[q3];try simp) (by omega)) ?_
   rintro v2 h2 n2 k2 hr2
   rw[ez]at hr2
   have le1:=k1.le
   have le2:=k2.le
   have g1:=(k2.get (N+1+1) (by omega)).trans ((k1.get (N+1+1) (by omega)).trans gr)
   obtain⟨u2,rfl,hu2⟩:=hr2
   have p1:=Sl.form hu2 |>.one
   have p2:=Sl.form hu2 |>.cells
   unfold V.one at p1
   unfold V.cells at p2
   simp[g1,p1,p2,splice,Zal,Zam,slc,Ret,Zan.chk]
   exact⟨by split<;>simp[Zaa],((kB.trans k1).trans k2).set (by omega),u2,rfl,Sl.setInt hu2 g1 nint rfl⟩
  ·have hge':¬0≤Yez a.natAbs b.natAbs:=fun hc=>hge (Yeb.1 hc)
   simp[A.b206,o1,o2,o3,o4,splice,Zam,slc,Zae,hsb]
   simp only[hB]
   simp[hcm,hge',gx,gy,Zam,splice,slc]
   refine Zaf (Ya6 (Sl.keep hv kB) (Sl.keep hu kB) (by omega) (by omega)) ?_
   rintro v1 h1 n1 k1 q1
   have q2:=Zcf (b.natAbs-a.natAbs)
   have q3:=Zbi (b.natAbs-a.natAbs)
   have q4:=Zcw (Nat.sub_le b.natAbs a.natAbs)
   have ez:(if decide (b<0)=true then -((b.natAbs-a.natAbs:Nat):Int) else ((b.natAbs-a.natAbs:Nat):Int))=a+b:=by
    by_cases h1:a<0<;>by_cases h2:b<0<;>simp[h1,h2]at hsg ⊢<;>omega
   simp[]
   refine Zaf (Zb4 (b:=decide (b<0)) (n:=b.natAbs-a.natAbs) q1 q2 (by rw[q3];try simp) (by omega)) ?_
   rintro v2 h2 n2 k2 hr2
   rw[ez]at hr2
   have le1:=k1.le
   have le2:=k2.le
   have g1:=(k2.get (N+1+1) (by omega)).trans ((k1.get (N+1+1) (by omega)).trans gr)
   obtain⟨u2,rfl,hu2⟩:=hr2
   have p1:=Sl.form hu2 |>.one
   have p2:=Sl.form hu2 |>.cells
   unfold V.one at p1
   unfold V.cells at p2
   simp[g1,p1,p2,splice,Zal,Zam,slc,Ret,Zan.chk]
   exact⟨by split<;>simp[Zaa],((kB.trans k1).trans k2).set (by omega),u2,rfl,Sl.setInt hu2 g1 nint rfl⟩
end Go.Mx
