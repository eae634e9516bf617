/-lensletref01-/
import Derived.Test.YtgnadghjglamaaaGreatDoorAwOk
set_option linter.all false
namespace Go.Mx
noncomputable section
open Go Go.Proofs
set_option maxRecDepth 1000000
def Zct:∀{b a:Nat},a≤b→(ds a).length≤(ds b).length:=by
 intro b
 induction b using Nat.strongRecOn with
 |_ b ih=>
  intro a h
  by_cases h0:a=0
  ·rw[h0,Zcm];simp
  ·rw[Zhe h0,Zhe (n:=b) (by omega)]
   have:=ih (b/1000000000) (Yus (by omega) (by decide)) (a:=a/1000000000) (Nat.div_le_div_right h)
   simp only[Yrr];omega
def Zzm{A:List Int}{k:Nat}{x:Int}(hx:A[k]?=some x):vI A=vI (A.take k)+pI k*(x+1000000000*vI (A.drop (k+1))):=by
 have hk:=Zb4 hx
 rw[Zjb A k (by omega),Zaz hx,vI]
def Yh7{A B:List Int}{k:Nat}{x y:Int}(hA:Di A)(hB:Di B)(hx:A[k]?=some x)(hy:B[k]?=some y)(he:A.drop (k+1)=B.drop (k+1))(hxy:x<y):vI A<vI B:=by
 have hk:=Zb4 hx
 rw[Zzm hx,Zzm hy,he]
 have h1:=Zii (hA.take k)
 have h2:=Zih (hB.take k)
 rw[Ysi,Ysz (by omega)]at h1
 have h3:pI k*(x+1000000000*vI (B.drop (k+1))+1)≤pI k*(y+1000000000*vI (B.drop (k+1))):=Ysa (by omega) (Yts (Zjt k))
 have h4:pI k*(x+1000000000*vI (B.drop (k+1))+1)=pI k*(x+1000000000*vI (B.drop (k+1)))+pI k:=by grind
 omega
def Yd3(a b:Nat):Int:=if a<b then -1 else if b<a then 1 else 0
def Zui{h:T O}{N:Nat}{u v:V}{a b:Nat}{w:List Nat}(hu:Dn h N u a)(hv:Dn h N v b)(hl:(ds a).length<1152921504606846976)(hl2:(ds b).length<1152921504606846976):A.C.call (.func 154 [] []) [u,v] ⟨h,N,w⟩=some (.int .i64 (Yd3 a b),⟨h,N,w⟩):=by
 apply Call.eq
 have lu:=hu.len
 have lv:=hv.len
 rw[Zat]at lu lv
 have va:=Zbg a
 have vb:=Zbg b
 have da:=Zce a
 have db:=Zce b
 rw[Zaf,A.k154 (by simp)]
 unfold Yd3
 by_cases h1:(ds a).length=(ds b).length
 ·have h1':((ds a).length:Int)=((ds b).length:Int):=by omega
  simp(disch:=first|(simp;done)|omega|rfl) [-getElem?_pos,A.b154,lu,lv,Zag,h1]
  generalize hA:ds a=X at*
  generalize hB:ds b=Y at*
  refine Zak [(4,5),(19,40)] (fun e r st=>st=⟨h,N,[]⟩∧((e=.exit 0∧a=b)∨(e=.ret∧a<b∧r.get 4=some (.int .i64 (-1)))∨(e=.ret∧b<a∧r.get 4=some (.int .i64 1)))) (fun m r st=>st=⟨h,N,[]⟩∧m≤X.length∧r.get 5=some (.int .i64 ((m:Int)-1))∧X.drop m=Y.drop m) X.length ?_ ?_ ?_
  ·exact⟨rfl,Yru _,by simp[h1],by rw[Yt1,h1,Yt1]⟩
  ·rintro m r _ hr hf ⟨rfl,hm,h5,he⟩
   rw[Zai]
   cases m with
   |zero=>
    have:a=b:=by
     simp at he;rw[he]at va;omega
    simp(disch:=first|(simp;done)|omega|rfl) [-getElem?_pos,A.lb154_0,hr,hf,h5,this]
   |succ k=>
    obtain⟨x,hx⟩:=Zao (l:=X) (k:=k) (by omega)
    obtain⟨y,hy⟩:=Zao (l:=Y) (k:=k) (by omega)
    obtain⟨b1,b2,b3,b4,b5,z1,z2,z3,z4⟩:=Sl.at (show Sl h N u (dI (ds a)) from hu) (by rw[hA];exact Zbj hx)
    obtain⟨c1,c2,c3,c4,c5,y1,y2,y3,y4⟩:=Sl.at (show Sl h N v (dI (ds b)) from hv) (by rw[hB];exact Zbj hy)
    have hq1:(((k+1:Nat):Int)-1)=(k:Int):=by omega
    rw[hq1]at h5
    have hk1:(k:Int)<(X.length:Int):=by omega
    have hk2:(k:Int)<(Y.length:Int):=by omega
    have hk3:(0:Int)≤(k:Int):=by omega
    have hk4:k<Y.length:=by omega
    by_cases hlt:x<y
    ·have:=Yh7 da db hx hy he hlt
     have hab:a<b:=by omega
     simp(disch:=first|(simp;done)|omega|rfl) [-getElem?_pos,A.lb154_0,hr,hf,h5,lu,lv,hk1,hk2,hk3,hk4,z1,z2,z3,z4,y1,y2,y3,y4,hlt,hab]
    ·by_cases hgt:y<x
     ·have:=Yh7 db da hy hx he.symm hgt
      have hab:b<a:=by omega
      have hab2:¬a<b:=by omega
      simp(disch:=first|(simp;done)|omega|rfl) [-getElem?_pos,A.lb154_0,hr,hf,h5,lu,lv,hk1,hk2,hk3,hk4,z1,z2,z3,z4,y1,y2,y3,y4,hlt,hgt,hab,hab2]
     ·have hxy:x=y:=by omega
      simp(disch:=first|(simp;done)|omega|rfl) [-getElem?_pos,A.lb154_0,hr,hf,h5,lu,lv,hk1,hk2,hk3,hk4,z1,z2,z3,z4,y1,y2,y3,y4,hlt,hgt]
      exact⟨k,by omega,by omega,rfl,by rw[Zaz hx,Zaz hy,he,hxy]⟩
  ·rintro e r _ hr ⟨rfl,⟨rfl,hz⟩|⟨rfl,hz,h4⟩|⟨rfl,hz,h4⟩⟩
   ·simp(disch:=first|(simp;done)|omega|rfl) [-getElem?_pos,hr,hz]
   ·simp(disch:=first|(simp;done)|omega|rfl) [-getElem?_pos,hr,h4,hz]
   ·have:¬a<b:=by omega
    simp(disch:=first|(simp;done)|omega|rfl) [-getElem?_pos,hr,h4,hz,this]
 ·have h1':¬((ds a).length:Int)=((ds b).length:Int):=by omega
  by_cases h2:(ds a).length<(ds b).length
  ·have hab:a<b:=by
    apply Ys6;intro hc;have:=Zct hc;omega
   simp(disch:=first|(simp;done)|omega|rfl) [-getElem?_pos,A.b154,lu,lv,Zag,h1,h2,hab]
  ·have hab:b<a:=by
    apply Ys6;intro hc;have:=Zct hc;omega
   have hab2:¬a<b:=by omega
   simp(disch:=first|(simp;done)|omega|rfl) [-getElem?_pos,A.b154,lu,lv,Zag,h1,h2,hab,hab2]
structure DdA (h:T O) (N:Nat) (l:List Int) (d:Int) (m:Nat) (r:T V) (st:St):Prop where
 w:Zae N st.w=[]
 keep:Keeps h N st.h (N+1)
 n:st.n=N+1
 r8:r.get 8=some (.int .i64 ((m:Int)-1))
 hm:m≤l.length
 ex:∃out rest,st.h.get N=some (.cells (dI out) 3 true)∧out.length=l.length∧r.get 7=some (.int .i64 rest)∧0≤rest∧rest<d∧Di (out.drop m)∧vI (out.drop m)*d+rest=vI (l.drop m)
def Zng{h:T O}{N:Nat}{v:V}{l:List Int}{d:Int}(hs:Sl h N v (dI l))(hd:Di l)(hl:l.length<1099511627776)(h0:0<d)(h1:d<1000000000):Fn A.C 204 [v,.int .i64 d] h N (fun u h' n'=>∃q,u=.tup [q,.int .i64 ((vI l).toNat%d.toNat:Nat)]∧Dn h' n' q ((vI l).toNat/d.toNat)):=by
 intro w
 have lv:=hs.len
 rw[Zat]at lv
 rw[Zaf,A.k204 (by simp)]
 simp(disch:=first|(simp;done)|omega|rfl) [-getElem?_pos,A.b204,lv]
 refine Zak [(7,9),(16,35)] (fun e r st=>e=.exit 0∧DdA h N l d 0 r st) (DdA h N l d) l.length ?_ ?_ ?_
 ·refine⟨by simp,Keeps.refl.new _,rfl,by simp,Yru _,List.replicate l.length 0,0,by simp[Zp2],by simp,by simp,by omega,h0,?_,?_⟩
  ·rw[Ytb (by simp)];exact Di.nil
  ·rw[Ytb (by simp),Yt1];simp[vI]
 ·rintro m r ⟨H,n1,W⟩ hr hf ⟨hW,hK,hn,h8,hm,out,rest,hrow,hol,h7,hr0,hrd,hdi,hv⟩
  simp only at hW hK hn hrow
  subst hn
  rw[Zai]
  cases m with
  |zero=>
   simp(disch:=first|(simp;done)|omega|rfl) [-getElem?_pos,A.lb204_0,hr,hf,h8]
   exact⟨hW,hK,rfl,by simpa using h8,hm,out,rest,hrow,hol,by simp[h7],hr0,hrd,hdi,hv⟩
  |succ k=>
   obtain⟨x,hx⟩:=Zao (l:=l) (k:=k) (by omega)
   obtain⟨b1,b2,b3,b4,b5,z1,z2,z3,z4⟩:=hs.at (Zbj hx)
   have z3:=(hK.get _ z2).trans z3
   have hxd:=hd.get hx
   have hq1:(((k+1:Nat):Int)-1)=(k:Int):=by omega
   rw[hq1]at h8
   have hk1:(k:Int)<(l.length:Int):=by omega
   have hk2:k<l.length:=by omega
   have hk3:(0:Int)≤(k:Int):=by omega
   have w1:Zap .i64 (rest*1000000000)=rest*1000000000:=Zah (by omega) (by omega)
   have w2:Zap .i64 (rest*1000000000+x)=rest*1000000000+x:=Zah (by omega) (by omega)
   have s0:0≤rest*1000000000+x:=by omega
   have hd0:¬d=0:=by omega
   have t1:(rest*1000000000+x).tdiv d=(rest*1000000000+x)/d:=Ys3 s0
   have t2:(rest*1000000000+x).tmod d=(rest*1000000000+x)%d:=Ytm s0
   have t3:=Yt6 (rest*1000000000+x) d
   have t4:0≤(rest*1000000000+x)/d:=Int.ediv_nonneg s0 (by omega)
   have t5:(rest*1000000000+x)/d<1000000000:=by
    apply Int.ediv_lt_of_lt_mul h0
    omega
   have t6:=Yu1 (rest*1000000000+x) hd0
   have t7:=Yuk (rest*1000000000+x) h0
   have w3:Zap .i64 ((rest*1000000000+x)/d)=(rest*1000000000+x)/d:=Zah (by omega) (by omega)
   have w8:=Zat out
   have w7:=Zid (l:=out) (k:=k) (v:=(rest*1000000000+x)/d) (by omega)
   simp(disch:=first|(simp;done)|omega|rfl) [-getElem?_pos,A.lb204_0,hr,hf,h8,h7,hk1,hk2,hk3,lv,z1,z3,z4,w1,w2,w3,hd0,t1,t2,hrow,w7]
   have e1:(out.set k ((rest*1000000000+x)/d)).drop k=((rest*1000000000+x)/d)::out.drop (k+1):=by
    rw[Zaz (d:=(rest*1000000000+x)/d) (by rw[Ysf (by omega)])]
    rw[List.drop_set_of_lt (by omega)]
   generalize (rest*1000000000+x)/d=q at*
   generalize (rest*1000000000+x)%d=r' at*
   refine⟨k,by omega,⟨by simp[Zae,hW],hK.set (Yru N),rfl,by simp,by omega,out.set k q,r',by simp,by simp[hol],by simp,t6,t7,?_,?_⟩⟩
   ·rw[e1];exact Di.app (Di.one t4 t5) hdi
   ·rw[e1,Zaz hx,vI,vI,←hv]
    grind
 ·rintro _ r ⟨H,n1,W⟩ hr ⟨rfl,hW,hK,hn,h8,hm,out,rest,hrow,hol,h7,hr0,hrd,hdi,hv⟩
  simp only at hW hK hn hrow
  subst hn
  rw[Yun,Yun]at*
  have hs2:Sl H (N+1) (.slice N 0 l.length (some l.length) 1) (dI out):=Sl.row (by omega) hrow (by simp[hol]) (fun k hk=>by simp at hk;omega)
  simp(disch:=first|(simp;done)|omega|rfl) [-getElem?_pos,hr,h7]
  refine Zac (Zf5 hs2 (by omega)) ?_
  rintro u h2 n2 k2 hu
  have hvo:=Zih hdi
  have hvl:=Zih hd
  have m1:(vI l).toNat/d.toNat=(vI out).toNat:=by
   have:(vI l)/d=vI out:=by
    rw[←hv,Int.mul_comm,Int.add_comm,Int.add_mul_ediv_left _ _ (by omega),Int.ediv_eq_zero_of_lt hr0 hrd];omega
   rw[←this]
   obtain⟨a,ha⟩:=Ytw hvl
   obtain⟨b,hb⟩:=Ytw (Yts h0)
   rw[ha,hb];rfl
  have m2:(((vI l).toNat%d.toNat:Nat):Int)=rest:=by
   have:(vI l)%d=rest:=by
    rw[←hv,Int.mul_comm,Int.add_comm,Int.add_mul_emod_self_left,Int.emod_eq_of_lt hr0 hrd]
   rw[←this]
   obtain⟨a,ha⟩:=Ytw hvl
   obtain⟨b,hb⟩:=Ytw (Yts h0)
   rw[ha,hb];rfl
  rw[Zpb hdi]at hu
  have m2':rest=max (vI l) 0%max d 0:=by rw[←m2];simp
  simp(disch:=first|(simp;done)|omega|rfl) [-getElem?_pos,hr,h7,Ret,hW]
  refine⟨hK.trans k2,u,⟨rfl,m2'⟩,?_⟩
  rw[m1]
  exact hu
def A.w156:=A.q Tryz.f156
def A.lb156_0:=A.ql A.w156 1 []
def A.lb156_1:=(fun x0=>A.ql A.w156 0 [x0]) A.lb156_0
def A.b156:=(fun x0=>A.qb A.w156 [x0]) A.lb156_1
def A.k156:=@A.kk 156 72 [.tmp 4] A.b156 (by kernel_rfl) rfl
structure MuB (h:T O) (N:Nat) (la lb:List Int) (i:Nat) (out0:List Int) (a:Int) (m:Nat) (r:T V) (st:St):Prop where
 w:Zae N st.w=[]
 keep:Keeps h N st.h (N+1)
 n:st.n=N+1
 ex:∃k out c,k+m=lb.length∧r.get 8=some (.int .i64 k)∧st.h.get N=some (.cells (dI out) 3 true)∧out.length=la.length+lb.length∧r.get 7=some (.int .i64 c)∧0≤c∧c<1000000000∧Di out∧(∀t,i+lb.length≤t→t<out.length→out[t]?=some 0)∧vI out+pI (i+k)*c=vI out0+pI i*(a*vI (lb.take k))
structure MuA (h:T O) (N:Nat) (la lb:List Int) (m:Nat) (r:T V) (st:St):Prop where
 w:Zae N st.w=[]
 keep:Keeps h N st.h (N+1)
 n:st.n=N+1
 ex:∃i out,i+m=la.length∧r.get 6=some (.int .i64 i)∧st.h.get N=some (.cells (dI out) 3 true)∧out.length=la.length+lb.length∧Di out∧(∀t,i+lb.length≤t→t<out.length→out[t]?=some 0)∧vI out=vI (la.take i)*vI lb
def Zs4{h:T O}{N:Nat}{u v:V}{la lb:List Int}{a b:Nat}(hu:Sl h N u (dI la))(hv:Sl h N v (dI lb))(da:Di la)(db:Di lb)(ea:vI la=a)(eb:vI lb=b)(hl:la.length+lb.length<1099511627776):Fn A.C 156 [u,v] h N (fun x h' n'=>Dn h' n' x (a*b)):=by
 intro w
 have lu:=hu.len
 have lv:=hv.len
 rw[Zat]at lu lv
 rw[Zaf,A.k156 (by simp)]
 have cs:((la.length:Int)+(lb.length:Int)).toNat=la.length+lb.length:=by omega
 simp(disch:=first|(simp;done)|omega|rfl) [-getElem?_pos,A.b156,lu,lv,cs]
 refine Zak [(6,9),(16,69)] (fun e r st=>e=.exit 0∧MuA h N la lb 0 r st) (MuA h N la lb) la.length ?_ ?_ ?_
 ·refine⟨by simp,Keeps.refl.new _,rfl,0,List.replicate (la.length+lb.length) 0,by omega,by simp,by simp[Zp2],by simp,Di.zeros _,fun t _ ht=>?_,by simp[Zpa,vI]⟩
  simp at ht
  simp[ht]
 ·rintro m r ⟨H,n1,W⟩ hr hf ⟨hW,hK,hn,i,out,hi,h6,hrow,hol,hdi,hz,hv0⟩
  simp only at hW hK hn hrow
  subst hn
  rw[Zai]
  cases m with
  |zero=>
   have:i=la.length:=by omega
   subst this
   simp(disch:=first|(simp;done)|omega|rfl) [-getElem?_pos,A.lb156_1,hr,hf,h6,lu]
   exact⟨hW,hK,rfl,la.length,out,by omega,by simp[h6],hrow,hol,hdi,hz,hv0⟩
  |succ m=>
   obtain⟨x,hx⟩:=Zao (l:=la) (k:=i) (by omega)
   obtain⟨b1,b2,b3,b4,b5,z1,z2,z3,z4⟩:=hu.at (Zbj hx)
   have z3:=(hK.get _ z2).trans z3
   have hxd:=da.get hx
   have hi1:(i:Int)<(la.length:Int):=by omega
   have hi2:i<la.length:=by omega
   simp(disch:=first|(simp;done)|omega|rfl) [-getElem?_pos,A.lb156_1,hr,hf,h6,hi1,hi2,lu]
   refine Zak [(7,9),(22,54)] (fun e r st=>e=.exit 2∧MuB h N la lb i out x 0 r st) (MuB h N la lb i out x) lb.length ?_ ?_ ?_
   ·exact⟨hW,hK,rfl,0,out,0,by omega,by simp,hrow,hol,by simp,by omega,by omega,hdi,hz,by simp[vI]⟩
   ·rintro m2 r2 ⟨H2,n2,W2⟩ hr2 hf2 ⟨hW2,hK2,hn2,k,out2,c,hk,h8,hrow2,hol2,h7,c0,c1,hdi2,hz2,hv2⟩
    simp only at hW2 hK2 hn2 hrow2
    subst hn2
    rw[Zai]
    cases m2 with
    |zero=>
     have:k=lb.length:=by omega
     subst this
     simp(disch:=first|(simp;done)|omega|rfl) [-getElem?_pos,A.lb156_0,hr,hr2,hf2,h8,lv]
     exact⟨hW2,hK2,rfl,lb.length,out2,c,by omega,by simp[h8],hrow2,hol2,by simp[h7],c0,c1,hdi2,hz2,hv2⟩
    |succ m2=>
     obtain⟨y,hy⟩:=Zao (l:=lb) (k:=k) (by omega)
     obtain⟨g1,g2,g3,g4,g5,y1,y2,y3,y4⟩:=hv.at (Zbj hy)
     have y3:=(hK2.get _ y2).trans y3
     have z3:=(hK2.get _ z2).trans ((hK.get _ z2).symm.trans z3)
     have hyd:=db.get hy
     obtain⟨o,ho⟩:=Zao (l:=out2) (k:=i+k) (by omega)
     have hod:=hdi2.get ho
     have hk1:(k:Int)<(lb.length:Int):=by omega
     have hk2:k<lb.length:=by omega
     have p0:0≤x*y:=Yto hxd.1 hyd.1
     have p1:x*y≤999999999*999999999:=Int.mul_le_mul (by omega) (by omega) hyd.1 (by omega)
     have q1:(i:Int)+(k:Int)<(la.length:Int)+(lb.length:Int):=by omega
     have q2:i+k<la.length+lb.length:=by omega
     have q3:(0:Int)≤(i:Int)+(k:Int):=by omega
     have t1:(o+x*y+c).tmod 1000000000=(o+x*y+c)%1000000000:=Ytm (by omega)
     have t2:(o+x*y+c).tdiv 1000000000=(o+x*y+c)/1000000000:=Ys3 (by omega)
     have w8:=Zat out2
     have w7:=Zid (l:=out2) (k:=i+k) (v:=(o+x*y+c)%1000000000) (by omega)
     have e1:vI (out2.set (i+k) ((o+x*y+c)%1000000000))+pI (i+(k+1))*((o+x*y+c)/1000000000)=vI out+pI i*(x*vI (lb.take (k+1))):=by
      have hm:=Yt6 (o+x*y+c) 1000000000
      rw[Zjc ho,Zbf hy,show i+(k+1)=(i+k)+1 by omega,Zc2]
      have hp:=Zvd i k
      generalize (o+x*y+c)/1000000000=Q at*
      generalize (o+x*y+c)%1000000000=R at*
      have:R=o+x*y+c-1000000000*Q:=by omega
      rw[this]
      have h3:vI out2=vI out+pI i*(x*vI (lb.take k))-pI (i+k)*c:=by omega
      rw[h3,hp]
      grind
     generalize hP:x*y=P at*
     have b1':Zap .i64 P=P:=Zah (by omega) (by omega)
     have b2':Zap .i64 (o+P)=o+P:=Zah (by omega) (by omega)
     have b3':Zap .i64 (o+P+c)=o+P+c:=Zah (by omega) (by omega)
     have b4':Zap .i64 ((o+P+c)/1000000000)=(o+P+c)/1000000000:=Zah (by omega) (by omega)
     have f1:b1<N+1:=by omega
     have f2:g1<N+1:=by omega
     have r0:=Yu1 (o+P+c) (b:=1000000000) (by decide)
     have r1:=Yuk (o+P+c) (b:=1000000000) (by decide)
     have d0:0≤(o+P+c)/1000000000:=Int.ediv_nonneg (by omega) (by decide)
     have d1:(o+P+c)/1000000000<1000000000:=Int.ediv_lt_of_lt_mul (by decide) (by omega)
     simp(disch:=first|(simp;done)|omega|rfl) [-getElem?_pos,A.lb156_0,hr,hr2,hf2,h6,h7,h8,lu,lv,hk1,hk2,hi1,hi2,q1,q2,q3,hrow2,Zbj ho,z1,z2,z3,z4,y1,y2,y3,y4,hP,b1',b2',b3',b4',t1,t2,w7,cs,f1,f2]
     refine⟨m2,by omega,⟨by simp[Zae,hW2],hK2.set (Yru N),rfl,k+1,_,_,by omega,by simp,by simp,by simp[hol2],by simp,d0,d1,hdi2.set r0 r1,fun t ht1 ht2=>?_,e1⟩⟩
     rw[Yry (by omega)]
     exact hz2 t ht1 (by simpa using ht2)
   ·rintro _ r2 ⟨H2,n2,W2⟩ hr2 ⟨rfl,hW2,hK2,hn2,k,out2,c,hk,h8,hrow2,hol2,h7,c0,c1,hdi2,hz2,hv2⟩
    simp only at hW2 hK2 hn2 hrow2
    subst hn2
    have:k=lb.length:=by omega
    subst this
    have ho:=hz2 (i+lb.length) (by omega) (by omega)
    have hfi:=hf.inner (D':=[(7,9),(22,54)]) rfl (by simp) hr2
    have q1:(i:Int)+(lb.length:Int)<(la.length:Int)+(lb.length:Int):=by omega
    have q2:i+lb.length<la.length+lb.length:=by omega
    have q3:(0:Int)≤(i:Int)+(lb.length:Int):=by omega
    have w8:=Zat out2
    have w7:=Zid (l:=out2) (k:=i+lb.length) (v:=c) (by omega)
    rw[Yt9]at hv2
    have e1:vI (out2.set (i+lb.length) c)=vI (la.take (i+1))*vI lb:=by
     rw[Zjc ho,Zbf hx]
     have:vI out2+pI (i+lb.length)*(c-0)=vI out+pI i*(x*vI lb):=by rw[Int.sub_zero];exact hv2
     rw[this,hv0]
     grind
    simp(disch:=first|(simp;done)|omega|rfl) [-getElem?_pos,hr,hr2,h6,h7,lv,hrow2,Zbj ho,q1,q2,q3,w7,hfi,cs]
    refine⟨m,by omega,⟨by simp[Zae,hW2],hK2.set (Yru N),rfl,i+1,_,by omega,by simp,by simp,by simp[hol2],hdi2.set c0 c1,fun t ht1 ht2=>?_,e1⟩⟩
    rw[Yry (by omega)]
    exact hz2 t (by omega) (by simpa using ht2)
 ·rintro _ r ⟨H,n1,W⟩ hr ⟨rfl,hW,hK,hn,i,out,hi,h6,hrow,hol,hdi,hz,hv0⟩
  simp only at hW hK hn hrow
  subst hn
  have:i=la.length:=by omega
  subst this
  rw[Yt9,ea,eb]at hv0
  have hs2:Sl H (N+1) (.slice N 0 (la.length+lb.length) (some (la.length+lb.length)) 1) (dI out):=Sl.row (by omega) hrow (by simp[hol]) (fun k hk=>by simp at hk;omega)
  simp(disch:=first|(simp;done)|omega|rfl) [-getElem?_pos,hr]
  refine Zac (Zf5 hs2 (by omega)) ?_
  rintro y h2 n2 k2 hy
  rw[Zfz hdi (n:=a*b) (by rw[hv0];simp)]at hy
  simp(disch:=first|(simp;done)|omega|rfl) [-getElem?_pos,hr,Ret,hW]
  exact⟨hK.trans k2,hy⟩
open Go
variable {N i n:Nat} {h:T O} {r:T V} {v:V}
structure Upd (D:Nat→Prop) (h:T O) (n:Nat) (h':T O) (n':Nat):Prop where
 le:n≤n'
 get:∀i,i<n→¬D i→h'.get i=h.get i
def Upd.trans{D:Nat→Prop}{h1 h2:T O}{n1 n2:Nat}(a:Upd D h n h1 n1)(b:Upd D h1 n1 h2 n2):Upd D h n h2 n2:=
 ⟨Ytp a.le b.le,fun i hi hd=>(b.get i (Yr5 hi a.le) hd).trans (a.get i hi hd)⟩
def Upd.mono{D D2:Nat→Prop}{h1:T O}{n1:Nat}(a:Upd D h n h1 n1)(hd:∀i,i<n→D i→D2 i):Upd D2 h n h1 n1:=⟨a.le,fun i hi hn=>a.get i hi fun hc=>hn (hd i hi hc)⟩
def Ze2{N i:Nat}:∀{w:List Nat},i∈Zae N w→i∈w∧i<N
 |[],h=>by simp[Zae]at h
 |j::w,h=>by
  simp only[Zae]at h
  split at h
  ·unfold Zfm at h
   split at h
   ·have:=Ze2 h;exact⟨Ysj _ this.1,this.2⟩
   ·rcases Yss.1 h with h|h
    ·subst h;exact⟨Yst,by assumption⟩
    ·have:=Ze2 h;exact⟨Ysj _ this.1,this.2⟩
  ·have:=Ze2 h;exact⟨Ysj _ this.1,this.2⟩
def Zxg:Zae N []=[]:=rfl
attribute [simp] Zxg
def Zm0{w:List Nat}(h:∀i∈w,N≤i):Zae N w=[]:=Zoo h
def selV2(st:St)(i:Nat)(send:Option V)(zero:V):Option O→Option (V×St)
 |some (.chan cap buf)=>match send with
  |some v=>if buf.length<cap then some (.tup [.int .i64 0,.bool false],st.write i (.chan cap (buf++[v]))) else some (.tup [.int .i64 (-1),.bool false],st)
  |none=>match buf with
   |v::buf=>some (.tup [.int .i64 0,.bool true,v],st.write i (.chan cap buf))
   |[]=>some (.tup [.int .i64 (-1),.bool false,zero],st)
 |_=>none
def Yl6{st:St}{send:Option V}{zero:V}:Ynw st i send zero=selV2 st i send zero (st.h.get i):=by
 unfold Ynw selV2
 rcases st.h.get i with _|o
 ·rfl
 ·cases o with
  |chan cap buf=>cases send with
   |some v=>rfl
   |none=>cases buf<;>rfl
  |_=>cases send<;>rfl
def Ynx(C:Cx)(K:List Kf)(Q:Rs→Prop)(d:Nat)(ops:List Zbc)(r:T V)(n:Nat)(m:List Nat):Option (V×St)→Prop
 |some (v,st1)=>Run C (.reg::K) (Ydz (mops C.call ops ⟨r.set d v,n,m⟩ st1)) Q
 |none=>False
def Yoc(C:Cx)(K:List Kf)(Q:Rs→Prop)(d:Nat)(ops:List Zbc)(r:T V)(n:Nat)(m:List Nat)(st:St)(zero:V):Option V→Option (Option V)→Prop
 |some (.chan i),some sv=>Ynx C K Q d ops r n m (selV2 st i sv zero (st.h.get i))
 |_,_=>False
def Yev{C:Cx}{K:List Kf}{Q:Rs→Prop}{ro:Option Nat}{d:Nat}{ch:Src}{send:Option Src}{zero:V}{ops:List Zbc}{m:List Nat}{st:St}(hd:d<n):Run C K (exR (C.code ro (.regS (some d) ch send zero ops) ⟨r,n,m⟩ st)) Q↔Yoc C K Q d ops r n m st zero (ch.ev r) (evOpt r send):=by
 have e:C.code ro (.regS (some d) ch send zero ops) ⟨r,n,m⟩ st=Zhj (some d) ch send zero ops C.call C.code ro ⟨r,n,m⟩ st:=Cx.code_eq ..
 rw[e]
 unfold Zhj Yoc
 simp only[]
 rcases ch.ev r with _|v
 ·exact Zhu
 ·cases v<;>try exact Zhu
  rename_i i
  rcases evOpt r send with _|sv
  ·exact Zhu
  ·simp only[Yl6]
   rcases selV2 st i sv zero (st.h.get i)with _|⟨v,st1⟩
   ·exact Zhu
   ·simp only[Fr.put,hd,if_true,Ynx]
    refine Zav ?_
    show _=unw C K (Zep C .reg (Ydz (mops C.call ops ⟨r.set d v,n,m⟩ st1)))
    rcases mops C.call ops ⟨r.set d v,n,m⟩ st1 with _|⟨_,_⟩<;>rfl
def Zz3{C K Q d ops r n m st zero i sv}:Yoc C K Q d ops r n m st zero (some (.chan i)) (some sv)=Ynx C K Q d ops r n m (selV2 st i sv zero (st.h.get i)):=rfl
def Zz2{C K Q d ops r n m v st1}:Ynx C K Q d ops r n m (some (v,st1))=Run C (.reg::K) (Ydz (mops C.call ops ⟨r.set d v,n,m⟩ st1)) Q:=rfl
def Zw3{st:St}{cap:Nat}{buf:List V}{zero:V}:selV2 st i none zero (some (.chan cap (v::buf)))=some (.tup [.int .i64 0,.bool true,v],st.write i (.chan cap buf)):=rfl
def Zz1{st:St}{cap:Nat}{zero:V}:selV2 st i none zero (some (.chan cap []))=some (.tup [.int .i64 (-1),.bool false,zero],st):=rfl
attribute [simp] Yev Zz3 Zz2 Zw3 Zz1
def Yft(st:St)(bytes:Nat):Option V→Option (V×St)
 |some (.int _ k)=>if k<0∨k > IntKind.i64.max∨bytes*k > 2^48-112 then none else some (.chan st.n,st.alloc (.chan k.toNat []))
 |_=>none
def Ztc{bytes:Nat}{x:Src}{call:Za1}{st:St}:Zeg bytes x call r st=Yft st bytes (x.ev r):=by unfold Zeg Yft;rfl
def Zxx{st:St}{kk:IntKind}{k:Int}(h0:0≤k)(h1:k≤100):Yft st 16 (some (.int kk k))=some (.chan st.n,st.alloc (.chan k.toNat [])):=by
 unfold Yft
 simp only[]
 rw[Yrt]
 have:IntKind.i64.max=9223372036854775807:=rfl
 omega
attribute [simp] Ztc Zxx
def Zel:V→List Nat
 |.slice i _ _ _ _=>[i]
 |_=>[]
def Sl.moved{D:Nat→Prop}{h':T O}{N':Nat}{l:List V}(s:Sl h N v l)(k:Upd D h N h' N')(hd:∀i∈Zel v,¬D i):Sl h' N' v l:=by
 rcases s with s|⟨i,o,cp,c,e,rw,rfl,h2,h3,h4⟩
 ·exact .inl s
 ·exact .inr ⟨i,o,cp,c,e,rw,rfl,Yr5 h2 k.le,(k.get i h2 (hd i (by simp[Zel]))).trans h3,h4⟩
def Row(z:Nat)(e:TypeId)(h:T O)(v:V)(l:List (List V)):Prop:=(∀x∈l,x.length=z)∧((l=[]∧v=.nilslice)∨∃i x m,v=.slice i 0 l.length none z∧x.length=m*z∧h.get i=some (.cells (l.flatten++x) e true))
def Zl0(l:List (List V))(x:List V):(l++[x]).flatten=l.flatten++x:=by simp
def Yng(st:St)(size:Nat)(zero:List V):Option V→Option (V×St)
 |some v=>Zhy size zero (.const v) Zp5 .nil st
 |none=>none
structure Yrq (z bytes:Nat) (e:TypeId) (zero:List V) (h:T O) (N:Nat) (v:V) (l:List (List V)) (k:Nat) (v1 v2 v3 v4:V) (h3 h4:T O) (w3:List Nat):Prop where
 a:∀w,∃u,Zcw ⟨h,N,w⟩ z (some v) (some (some (.int .i64 k))) (some (some (.int .i64 ((k:Int)+1)))) (some (some (.int .i64 l.length)))=some (u,⟨h,N,w⟩)
 b:∀w,Zcw ⟨h,N,w⟩ z (some v) (some none) (some (some (.int .i64 k))) (some none)=some (v1,⟨h,N,w⟩)
 c:∀w,Zcw ⟨h,N,w⟩ z (some v) (some (some (.int .i64 ((k:Int)+1)))) (some none) (some none)=some (v2,⟨h,N,w⟩)
 d:∀w,Zbi ⟨h,N,w⟩ z bytes e v1 v2=some (v3,⟨h3,N,w3++w⟩)
 len:Zqa v3=some (l.length-1)
 f:∀w,Zcw ⟨h3,N,w⟩ z (some v3) (some (some (.int .i64 ((l.length-1:Nat):Int)))) (some (some (.int .i64 l.length))) (some none)=some (v4,⟨h3,N,w⟩)
 g:∀w,∃i,i∈Zel v∧Yng ⟨h3,N,w⟩ z zero (some v4)=some (.tup [],⟨h4,N,i::w⟩)
 w:∀i∈w3,i∈Zel v
 upd:Upd (fun i=>i∈Zel v) h N h4 N
 ids:Zel v3=Zel v
 row:Row z e h4 v3 (l.take k++l.drop (k+1))
def Ynf(st:St)(size:Nat):Option V→Option V→Option (V×St)
 |some d,some s=>Zg1 size (.const d) (.const s) Zp5 .nil st
 |_,_=>none
def Yav{size:Nat}{d s:Src}{call:Za1}{st:St}:Zg1 size d s call r st=Ynf st size (d.ev r) (s.ev r):=by
 unfold Zg1 Ynf
 rcases d.ev r with _|d
 ·rfl
 ·rcases s.ev r with _|s<;>rfl
attribute [simp] Yav
def Ynt(e:TypeId)(Y:V→Prop)(h:T O)(u:V):Prop:=∀i∈Zel u,∃z,h.get i=some (.cells z e true)∧z≠[]∧∀y∈z,Y y
def Ynt.nil{e:TypeId}{Y:V→Prop}:Ynt e Y h .nilslice:=fun i hi=>by simp[Zel]at hi
def Zgo{z:Nat}{e:TypeId}{N0:Nat}{u:V}{l:List (List V)}{x:List V}{bytes:Nat}{w:List Nat}{Y:V→Prop}(s:Own z e N0 h N v l)(hn:l=[]→v=.nilslice)(hY:∀c∈l,∀y∈c,Y y)(hN:N0≤N)(hz:0<z)(hx:x.length=z)
  (hu:Za0 ⟨h,N,w⟩ z u=some (1,x)) (hb:2*(l.length+1)*bytes≤281474976710656):
  ∃v' h' w',Zbi ⟨h,N,w⟩ z bytes e v u=some (v',⟨h',N+1,w'⟩)∧Zae N0 w'=Zae N0 w∧Keeps h N0 h' (N+1)∧Upd (fun i=>i∈Zel v) h N h' (N+1)∧Ynt e Y h v∧Own z e N0 h' (N+1) v' (l++[x]):=by
 obtain⟨v',h',w',f1,f2,f3,f4,f5⟩:=Zb5 s hN hz hx hu hb
 refine⟨v',h',w',f1,f2,f3,⟨Yuu _,fun j hj hd=>?_⟩,fun i hi=>?_,f5⟩
 ·rcases f4 j with h1|h1|⟨o,n,c,q,h1⟩
  ·exact h1
  ·omega
  ·exact absurd (by rw[h1];simp[Zel]) hd
 ·obtain⟨hl,⟨rfl,rfl⟩|⟨j,rfl,h2,h3,h4⟩⟩:=s
  ·simp[Zel]at hi
  ·simp only[Zel,Yte]at hi
   subst hi
   refine⟨_,h4,fun hc=>?_,fun y hy=>?_⟩
   ·have hfl:=Zbd hl
    rw[hc]at hfl
    have:l.length=0:=by
     rcases Nat.mul_eq_zero.1 hfl.symm with h|h
     ·exact h
     ·omega
    have:=hn (Yr7 this)
    cases this
   ·obtain⟨c,hc,hyc⟩:=List.mem_flatten.1 hy
    exact hY c hc y hyc
def Zwn{l:List Nat}:(l.any fun i=>Nat.ble n i&&Nat.blt i n)=false:=by
 rw[List.any_eq_false]
 intro i _ hc
 rw[Ysd]at hc
 have h1:=Ysx hc.1
 have h2:i<n:=Ysx hc.2
 omega
def Zra{l:List Nat}:Zj2 l (some [])=false:=by
 unfold Zj2
 rw[List.any_eq_false]
 intro i _ hc
 simp at hc
variable {n:Nat}
def dch(n:Nat):UInt8:=UInt8.ofNat (48+n%10)
def Ziz(n:Nat):(dch n).toNat=48+n%10:=by
 unfold dch
 simp
 omega
def Zcz(n:Nat):Str:=if h:n=0 then [] else Zcz (n/10)++[dch n]
termination_by n
decreasing_by omega
def Zbm:Zcz 0=[]:=by unfold Zcz;simp
def Zch(h:n≠0):Zcz n=Zcz (n/10)++[dch n]:=by
 conv=>lhs;unfold Zcz
 rw[dif_neg h]
def decN(n:Nat):Str:=if n=0 then [48] else Zcz n
def Zh1(n k:Nat):Str:=List.replicate (k-(Zcz n).length) 48++Zcz n
def decI(z:Int):Str:=if z<0 then 45::decN z.natAbs else decN z.natAbs
def Zas(q:Rat):Str:=if q.den=1 then decI q.num else decI q.num++47::decN q.den
def Zq1:∀(n:Nat),numV (Zcz n)=n:=by
 intro n
 induction n using Nat.strongRecOn with
 |_ n ih=>
  by_cases h:n=0
  ·subst h;rw[Zbm];rfl
  ·rw[Zch h,Zg3,ih (n/10) (by omega),Ziz]
   omega
def Zck(n:Nat):numV (decN n)=n:=by
 unfold decN
 split
 ·subst_vars;rfl
 ·exact Zq1 n
def Zsc{s:Str}{c:UInt8}:Zb7 (s++[c])=(Zb7 s&&Zko c):=by simp[Zb7]
def Ygl(n:Nat):Zko (dch n)=true:=by
 unfold Zko
 rw[Ziz]
 simp
 omega
def Ydr:∀(n:Nat),Zb7 (Zcz n)=true:=by
 intro n
 induction n using Nat.strongRecOn with
 |_ n ih=>
  by_cases h:n=0
  ·subst h;rw[Zbm];rfl
  ·rw[Zch h,Zsc,ih (n/10) (by omega),Ygl];rfl
def Zb6(n:Nat):Zb7 (decN n)=true:=by
 unfold decN
 split
 ·rfl
 ·exact Ydr n
def Zay:∀{k n:Nat},n<10^k↔(Zcz n).length≤k
 |0,n=>by
  simp only[Yvc,Nat.lt_one_iff,Nat.le_zero,List.length_eq_zero_iff]
  constructor
  ·rintro rfl;exact Zbm
  ·intro h
   have:=Zq1 n
   rw[h]at this
   exact this.symm
 |k+1,n=>by
  by_cases h:n=0
  ·subst h;rw[Zbm];simp;exact Yuv (by decide)
  ·rw[Zch h,Yr8,Ytg,Ysg]
   have:=Zay (k:=k) (n:=n/10)
   rw[Nat.succ_le_succ_iff,←this]
   exact(Ysm (by decide)).symm
def Zkc:∀{n:Nat},n≠0→∃c t,Zcz n=c::t∧c.toNat≠48:=by
 intro n
 induction n using Nat.strongRecOn with
 |_ n ih=>
  intro h
  rw[Zch h]
  by_cases h0:n/10=0
  ·rw[h0,Zbm]
   refine⟨dch n,[],rfl,?_⟩
   rw[Ziz];omega
  ·obtain⟨c,t,e,hc⟩:=ih (n/10) (by omega) h0
   rw[e]
   exact⟨c,t++[dch n],rfl,hc⟩
def Ziy(n:Nat):decN n≠[]:=by
 unfold decN
 split
 ·simp
 ·rename_i h
  obtain⟨c,t,e,_⟩:=Zkc h
  rw[e];simp
def Zow(n:Nat):Zcs (decN n)=true:=by
 have ha:=Zb6 n
 by_cases h:n=0
 ·subst h;rfl
 ·obtain⟨c,t,e,hc⟩:=Zkc h
  have e2:decN n=c::t:=by unfold decN;rw[Yrt h,e]
  rw[e2]at ha ⊢
  show (Zb7 (c::t)&&(decide (c.toNat≠48)||decide (t=[])))=true
  rw[ha,decide_eq_true hc];rfl
def Yh3{c:UInt8}(h:Zko c=true){k:Nat}:dch (10*k+(c.toNat-48))=c:=by
 unfold Zko at h
 simp only[decide_eq_true_eq]at h
 apply UInt8.toNat_inj.1
 rw[Ziz];omega
def Yc6:∀(t:Str) (c:UInt8),Zb7 (c::t)=true→c.toNat≠48→Zcz (numV (c::t))=c::t:=by
 intro t
 generalize hn:t.length=n
 induction n generalizing t with
 |zero=>
  intro c ha hc
  have:t=[]:=Yr7 hn
  subst this
  have hd:Zko c=true:=by simpa[Zb7]using ha
  have:=Yh3 hd (k:=0)
  have h2:48≤c.toNat∧c.toNat≤57:=by simpa[Zko]using hd
  have e:numV [c]=c.toNat-48:=by simp[numV]
  rw[e,Zch (by omega),show (c.toNat-48)/10=0 by omega,Zbm]
  simp only[Nat.mul_zero,Yt5]at this
  rw[this];rfl
 |succ n ih=>
  intro c ha hc
  obtain⟨u,d,rfl⟩:∃u d,t=u++[d]:=⟨t.dropLast,t.getLast (by rintro rfl;simp at hn),(Yvl _).symm⟩
  simp at hn
  have ha':Zb7 (c::u)=true∧Zko d=true:=by
   rw[←Yuj,Zsc,Ysd]at ha
   exact ha
  have ih':=ih u (by omega) c ha'.1 hc
  have h2:48≤d.toNat∧d.toNat≤57:=by simpa[Zko]using ha'.2
  rw[←Yuj,Zg3]
  have hpos:numV (c::u)≠0:=by
   intro h0
   rw[h0,Zbm]at ih'
   cases ih'
  rw[Zch (by omega),show (10*numV (c::u)+(d.toNat-48))/10=numV (c::u) by omega,ih',Yh3 ha'.2]
def Zcy{s:Str}(h:Zcs s=true):decN (numV s)=s:=by
 cases s with
 |nil=>cases h
 |cons c t=>
  have h:(Zb7 (c::t)&&(decide (c.toNat≠48)||decide (t=[])))=true:=h
  rw[Ysd,Yu6,decide_eq_true_eq,decide_eq_true_eq]at h
  obtain⟨ha,hc⟩:=h
  by_cases h48:c.toNat=48
  ·rcases hc with hc|hc
   ·exact absurd h48 hc
   ·subst hc
    have:c=48:=UInt8.toNat_inj.1 h48
    subst this;rfl
  ·have e:=Yc6 t c ha h48
   have:numV (c::t)≠0:=by
    intro h0
    rw[h0,Zbm]at e
    cases e
   unfold decN
   rw[Yrt this,e]
def Zkb{a b:Nat}(h:decN a=decN b):a=b:=by rw[←Zck a,h,Zck]
def Zoz:∀{k a b:Nat},a≠0→b<10^k→Zcz (a*10^k+b)=Zcz a++Zh1 b k:=by
 intro k
 induction k with
 |zero=>
  intro a b ha hb
  have:b=0:=by simpa using hb
  subst this
  simp[Zh1,Zbm]
 |succ k ih=>
  intro a b ha hb
  rw[Ysg]at hb ⊢
  have hb2:b/10<10^k:=(Ysm (by decide)).2 hb
  have hp:0<10^k:=Yuv (by decide)
  have hpos:a*(10^k*10)+b≠0:=by
   have:=Yuc (Nat.pos_of_ne_zero ha) (Yuc hp (by decide:0<10));omega
  have e1:(a*(10^k*10)+b)/10=a*10^k+b/10:=by
   rw[←Yt3,Ysk _ 10,Nat.mul_add_div (by decide)]
  have e2:dch (a*(10^k*10)+b)=dch b:=by
   apply UInt8.toNat_inj.1
   rw[Ziz,Ziz,←Yt3,Ysk _ 10,Nat.mul_add_mod]
  rw[Zch hpos,e1,ih ha hb2,e2,Ysy]
  congr 1
  by_cases hb0:b=0
  ·subst hb0
   unfold Zh1
   rw[Nat.zero_div,Zbm]
   simp only[List.length_nil,Nat.sub_zero,Ytz]
   rw[List.replicate_succ']
   rfl
  ·unfold Zh1
   rw[Zch hb0,Yr8,Ytg,←Ysy]
   rw[show k+1-((Zcz (b/10)).length+1)=k-(Zcz (b/10)).length by omega]
def Ygm{b k:Nat}(h:b<10^k):(Zh1 b k).length=k:=by
 have:=Zay.1 h
 simp[Zh1];omega
def Zka(b:Nat):Zh1 b 1=decN b:=by
 unfold Zh1 decN
 split
 ·subst_vars;rw[Zbm];rfl
 ·rename_i h
  obtain⟨c,t,e,_⟩:=Zkc h
  rw[e]
  simp
def Zr0(h:n≠0):0<(Zcz n).length:=by
 obtain⟨c,t,e,_⟩:=Zkc h
 rw[e];simp
def Zcn{k:Nat}(hk:0<k):(decN n).length≤k↔n<10^k:=by
 unfold decN
 split
 ·subst_vars
  simp
  exact⟨fun _=>Yuv (by decide),fun _=>hk⟩
 ·exact Zay.symm
def Zoy{n:Nat}:∃c t,decN n=c::t∧48≤c.toNat∧c.toNat≤57:=by
 have h:=Zb6 n
 cases hs:decN n with
 |nil=>exact absurd hs (Ziy n)
 |cons c t=>
  rw[hs]at h
  have:Zko c=true:=by
   simp[Zb7]at h;exact h.1
  exact⟨c,t,rfl,by simpa[Zko]using this⟩
end
end Go.Mx
