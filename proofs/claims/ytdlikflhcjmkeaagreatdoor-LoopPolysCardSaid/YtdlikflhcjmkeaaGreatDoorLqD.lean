/-loop-/
import Derived.Test.YtdlikflhcjmkeaaGreatDoorLqC
set_option linter.all false
set_option maxHeartbeats 4000000
namespace Go.Mx
noncomputable section
open Go Go.Proofs
variable {l:List Str}
set_option maxRecDepth 1000000
def A.b61:=A.q Tryz.f61
def A.k61:=@A.kk 61 5 [.tmp 2] A.b61 (by kernel_rfl) rfl
def Yu2{h:T O}{N:Nat}{v:V}{l:List Rat}{k0:Nat}(hs:Sl h N v (tx l))(hl:l.length<1000000000)(hq:∀q∈l,Qb k0 q)(hk0:k0≤4000):Fn A.C 107 [v] h N (fun u h' n'=>u=.slice N 0 l.length (some l.length) 4∧RwQ h' n' N l 0):=by
 intro w
 have hlen:=hs.len
 rw[Zfc]at hlen
 have c1:(64:Int)*(l.length:Int)≤140737488355328:=by omega
 have c2:(l.length:Int)<4611686018427387904:=by omega
 have kB:Keeps h N (h.set N (.cells (Zeh zF l.length) 102 true)) (N+1):=Keeps.refl.new _
 rw[Zab,A.k107 (by simp)]
 simp(disch:=first|(simp;done)|omega|rfl) [-getElem?_pos,A.b107,hlen,c1,c2]
 refine Zaj [(4,5),(11,21)] (fun e r st=>e=.exit 0∧FaI h N l 0 r st) (FaI h N l) l.length ?_ ?_ ?_
 ·exact⟨by simp,kB,0,[],by omega,by simp,by simp,by show N<N+1;omega,by rw[T.get_set,Yqi rfl];rfl,rfl,fun j q hj=>by omega⟩
 ·rintro m r ⟨H,n1,W⟩ hr hf ⟨hW,hK,k,cs,hk,h11,h3,hN1,hM,hcl,hcs⟩
  simp only at hW hK hM hN1 hcs
  rw[Zai]
  cases m with
  |zero=>
   obtain rfl:k=l.length:=by omega
   simp(disch:=first|(simp;done)|omega|rfl) [-getElem?_pos,A.lb107_0,hr,hf,h11]
   exact⟨hW,hK,l.length,cs,by omega,by simp[h11],by simp[h3],hN1,hM,hcl,hcs⟩
  |succ m=>
   have hlt:k<l.length:=by omega
   have hlt':(k:Int)<(l.length:Int):=by omega
   obtain⟨q,hqk⟩:=Zan hlt
   have hqb:=hq q (Yqn hqk)
   obtain⟨i,o,cc,e,rw,q1,q2,q3,q4⟩:=(hs.keep hK).at (Zks hqk)
   have la:=Zgf hqb.1
   have la2:=Zir hqb.2
   simp(disch:=first|(simp;done)|omega|rfl) [-getElem?_pos,A.lb107_0,hr,hf,h11,h3,hlt,hlt',hlen,q1,q3,q4]
   refine Zaa (Yjj (q:=q) (by omega) (by omega)) ?_
   rintro _ H2 n2 k2 hf2
   obtain⟨c,rfl,hc⟩:=hf2.c
   have le2:=k2.le
   have nle:=hK.le
   have hM2:=(k2.get N hN1).trans hM
   have hcs2:∀(j:Nat) (q:Rat),j<cs.length→l[j]?=some q→∃c,cs[j]?=some c∧FcC H2 n2 c q:=fun j q hj hq=>by
    obtain⟨c,g1,g2⟩:=hcs j q (by omega) hq
    exact⟨c,g1,g2.keep k2⟩
   obtain⟨f1,f2,f3⟩:=Yjl (l:=l) (by omega) hcs2
   have hfl:=Zb6 f1
   obtain⟨e1,e2⟩:=hc.len
   have hsp:splice (cs.flatten++Zeh zF (m+1)) (k*4) c=(cs++[c]).flatten++Zeh zF m:=by
    rw[Zlc,Zkd (n:=4) (by rw[hfl,hcl]) rfl e1,Zu9,Yrh]
   have hb:k*4+4≤(cs.flatten++Zeh zF (m+1)).length:=by
    rw[Yqr,hfl,Ykx];omega
   have hcc:(V.agg c).cells=c:=rfl
   have hnu:NoU (cs.flatten++Zeh zF (m+1)):=f2.app Zlb
   have hlen4:((cs++[c]).flatten++Zeh zF m).length=(cs.flatten++Zeh zF (m+1)).length:=by
    rw[Zlc,Zu9];simp[e1,zF];omega
   generalize cs.flatten++Zeh zF (m+1)=X at*
   obtain⟨Y,hY⟩:∃Y,(cs++[c]).flatten++Zeh zF m=Y:=⟨_,rfl⟩
   rw[hY]at hsp hlen4
   simp(disch:=first|(simp;done)|omega|rfl) [-getElem?_pos, -V.cells, -V.one,hr,hf,h11,h3,hlt,hlt',hM2,Zal,hcc,e1,e2,hb,hsp]
   have wok:¬N<N:=by omega
   refine⟨m,by omega,⟨by simp[Zac,hW],(hK.trans k2).set (Yqg N),k+1,cs++[c],by omega,by simp,by simp[h3],by show N<n2;omega,by show T.get _ N=_;rw[T.get_set,Yqi rfl,hY],by simp[hcl],fun j q' hj hq'=>?_⟩⟩
   by_cases hjk:j<k
   ·obtain⟨c',g1,g2⟩:=hcs j q' hjk hq'
    exact⟨c',by rw[Yrp (by omega)];exact g1,(g2.keep k2).setNU hM2 hnu hlen4⟩
   ·obtain rfl:j=k:=by omega
    rw[hqk]at hq'
    simp only[Yqc]at hq'
    subst hq'
    exact⟨c,by rw[Ytd (by omega),hcl];simp,hc.setNU hM2 hnu hlen4⟩
 ·rintro _ r ⟨H,n1,W⟩ hr ⟨rfl,hW,hK,k,cs,hk,h11,h3,hN1,hM,hcl,hcs⟩
  simp only at hW hK hM hN1 hcs
  obtain rfl:k=l.length:=by omega
  simp(disch:=first|(simp;done)|omega|rfl) [-getElem?_pos,hr,h3,Ret,hW,hK]
  have hz:Zeh zF 0=[]:=by simp[Zeh]
  obtain⟨f1,_,_⟩:=Yjl (l:=l) (by omega) (fun j q hj hq=>hcs j q (by omega) hq)
  have hfl:=Zb6 f1
  exact⟨hN1,cs,hM,hcl,fun j q hq=>hcs j q (Zct hq) hq⟩
def Yuj{h:T O}{N:Nat}{v:V}{l:List Rat}{k0:Nat}(hs:Sl h N v (tx l))(hl:l.length<1000000000)(hq:∀q∈l,Qb k0 q)(hk0:k0≤4000):Fn A.C 61 [v] h N (fun u h' n'=>u=.slice N 0 l.length (some l.length) 4∧RwQ h' n' N l 0):=by
 intro w
 rw[Zab,A.k61 (by simp)]
 simp(disch:=first|(simp;done)|omega|rfl) [-getElem?_pos,A.b61]
 refine Zaa (Yu2 hs hl hq hk0) ?_
 rintro _ h1 n1 k1 ⟨rfl,hu⟩
 simp(disch:=first|(simp;done)|omega|rfl) [-getElem?_pos,Ret]
 exact⟨k1,hu⟩
def rats(l:List Str):List Rat:=l.map ratS
def Yuc(h:Yu3 l=0):strs l=tx (rats l):=by
 unfold tx rats
 congr 1
 rw[List.map_map]
 conv=>lhs;rw[←List.map_id l]
 apply List.map_congr_left
 intro s hs
 exact((Zco (Yu8 h s hs)).1).symm
def Yt9{n:Nat}(h:Yu3 l=0)(hl:∀s∈l,s.length≤n):∀q∈rats l,Qb (4*n+4) q:=fun q hq=>by
 obtain⟨s,hs,rfl⟩:=Yts.1 hq
 exact Ze6 (Yu8 h s hs) (hl s hs)
def Yt6{l:List Str}:(rats l).length=l.length:=by simp[rats]
def Yui(h:Znj l=0):0<l.length∧l.length≤13∧Yu3 l=0∧pg (rats l) (l.length-1)≠0:=by
 unfold Znj at h
 split at h
 ·omega
 rename_i h0
 split at h
 ·omega
 rename_i h1
 split at h
 ·rename_i ha
  split at h
  ·omega
  rename_i hz
  refine⟨by omega,by omega,ha,fun hc=>hz ?_⟩
  obtain⟨s,hs⟩:=Zan (l:=l) (k:=l.length-1) (by omega)
  have e:pg (rats l) (l.length-1)=ratS s:=by simp[pg,rats,hs]
  rw[e]at hc
  rw[hs,←(Zco (Yu8 ha s (Yqn hs))).1,hc,Yhh]
 ·omega
def Yu1(out:List Rat)(a:Rat)(q:List Rat)(i:Nat):Nat→List Rat
 |0=>out
 |k+1=>(Yu1 out a q i k).set (i+k) (pg (Yu1 out a q i k) (i+k)+a*pg q k)
def Yun(p q:List Rat):Nat→List Rat
 |0=>List.replicate (p.length+q.length-1) 0
 |i+1=>Yu1 (Yun p q i) (pg p i) q i q.length
def Yvv(p q:List Rat):List Rat:=Yun p q p.length
def Yue{out:List Rat}{a:Rat}{q:List Rat}{i:Nat}:∀{k:Nat},(Yu1 out a q i k).length=out.length
 |0=>rfl
 |k+1=>by rw[Yu1,Ytk,Yue]
def Yt7{p q:List Rat}:∀{i:Nat},(Yun p q i).length=p.length+q.length-1
 |0=>by simp[Yun]
 |i+1=>by rw[Yun,Yue,Yt7]
def Yus{out:List Rat}{a:Rat}{q:List Rat}{i B A K:Nat}(ho:∀y∈out,Qb B y)(ha:Qb A a)(hq:∀y∈q,Qb K y):∀{k:Nat},k≤q.length→i+k≤out.length→∀(j:Nat) (y:Rat),(Yu1 out a q i k)[j]?=some y→Qb (if j<i+k then B+(A+K)+1 else B) y
 |0,_,_,j,y,hy=>(ho y (Yqn hy)).mono (by split<;>omega)
 |k+1,hk,hi,j,y,hy=>by
  have ih:=Yus ho ha hq (i:=i) (k:=k) (by omega) (by omega)
  rw[Yu1]at hy
  by_cases hj:j=i+k
  ·subst hj
   rw[Yq7 (by rw[Yue];omega)]at hy
   simp only[Yqc]at hy
   have h1:=ih (i+k) _ (Zce (p:=Yu1 out a q i k) (i:=i+k) (by rw[Yue];omega))
   rw[Yqe (by omega)]at h1
   rw[Yqi (by omega),←hy]
   exact(h1.add (ha.mul (hq _ (Yqn (Zce (p:=q) (i:=k) (by omega)))))).mono (by omega)
  ·rw[Yqj (Ne.symm hj)]at hy
   have h1:=ih j y hy
   by_cases hc:j<i+k
   ·rw[Yqi hc]at h1;rw[Yqi (by omega)];exact h1
   ·rw[Yqe hc]at h1;rw[Yqe (by omega)];exact h1
def Yum{p q:List Rat}{A K:Nat}(hp:∀y∈p,Qb A y)(hq:∀y∈q,Qb K y)(h0:0<q.length):∀{i:Nat},i≤p.length→∀y∈Yun p q i,Qb (1+i*(A+K+1)) y
 |0,_,y,hy=>by
  have:=List.eq_of_mem_replicate hy
  subst this
  exact(Qb.int (z:=0) (k:=1) (by decide) (by decide)).mono (by omega)
 |i+1,hi,y,hy=>by
  have ih:=Yum hp hq h0 (i:=i) (by omega)
  obtain⟨j,hj⟩:=Ytr hy
  rw[Yun]at hj
  have:=Yus ih (hp _ (Yqn (Zce (p:=p) (i:=i) (by omega)))) hq (k:=q.length) (Yqg _) (by rw[Yt7];omega) j y hj
  refine this.mono ?_
  rw[Yrf]
  split<;>omega
def A.w43:=A.q Tryz.f43
def A.lb43_0:=A.ql A.w43 1 []
def A.lb43_1:=(fun x0=>A.ql A.w43 0 [x0]) A.lb43_0
def A.b43:=(fun x0=>A.qb A.w43 [x0]) A.lb43_1
def A.k43:=@A.kk 43 74 [.tmp 4,.tmp 5] A.b43 (by kernel_rfl) rfl
def Yvk(a b:List Str):Int:=Zau [Znj a,Znj b,if 14<a.length+b.length then 5 else 0]
def Ywc(h:T O)(N:Nat)(x:V)(bad:Int)(l:List Rat):Prop:=(bad≠0∧x=.tup [.nilslice,.int .i64 bad])∨(bad=0∧((Zcy l=true∧x=.tup [.nilslice,.int .i64 4])∨(Zcy l=false∧∃v,x=.tup [v,.int .i64 0]∧TxT h N v l)))
def Yut{a b c:Int}:Zau [a,b,c]=if Zau [a,b]=0 then c else Zau [a,b]:=by
 unfold Zau
 by_cases ha:a=0
 ·rw[Yqi ha,Yqi ha]
  unfold Zau
  by_cases hb:b=0
  ·rw[Yqi hb,Yqi hb]
   by_cases hc:c=0<;>simp[Zau,hc]
  ·rw[Yqe hb,Yqe hb,Yqe hb]
 ·rw[Yqe ha,Yqe ha,Yqe ha]
def Yvz{h:T O}{N:Nat}{u v:V}{a b:List Str}(hu:Sl h N u (strs a))(hv:Sl h N v (strs b))(hP:P10 h N)(la:a.length<100000)(lb:b.length<100000)(fa:∀s∈a,s.length≤40)(fb:∀s∈b,s.length≤40):Fn A.C 43 [u,v] h N (fun x h' n'=>Ywc h' n' x (Yvk a b) (Yvv (rats a) (rats b))):=by
 intro w
 have hlu:=hu.len
 rw[Zt1]at hlu
 have hlv:=hv.len
 rw[Zt1]at hlv
 rw[Zab,A.k43 (by simp)]
 simp(disch:=first|(simp;done)|omega|rfl) [-getElem?_pos,A.b43]
 refine Zaa (Yuy hu la fun s hs=>by have:=fa s hs;omega) ?_
 rintro _ h1 n1 k1 rfl
 simp(disch:=first|(simp;done)|omega|rfl) [-getElem?_pos,]
 refine Zaa (Yuy (hv.keep k1) lb fun s hs=>by have:=fb s hs;omega) ?_
 rintro _ h2 n2 k2 rfl
 have hi:n2<n2+1:=by omega
 have kD:Keeps h N (h2.set n2 (.cells [.int .i64 (Znj a),.int .i64 (Znj b)] 26 true)) (n2+1):=(k1.trans k2).trans (kset Keeps.refl _)
 have eM:Yvk a b=if Zau [Znj a,Znj b]=0 then (if 14<a.length+b.length then 5 else 0) else Zau [Znj a,Znj b]:=Yut
 rw[eM]
 by_cases c:Zau [Znj a,Znj b]=0
 ·obtain⟨ca,cb⟩:=Zio c
  obtain⟨a0,a1,a2,a3⟩:=Yui ca
  obtain⟨b0,b1,b2,b3⟩:=Yui cb
  rw[Yqi c]
  by_cases c3:14<a.length+b.length
  ·have c3':12<(a.length:Int)+(b.length:Int)-2:=by omega
   simp(disch:=first|(simp;done)|omega|rfl) [-getElem?_pos,splice,Zam.chk,Zzo hi,c,Zak,hlu,hlv,c3',c3,Ret]
   exact⟨kD,.inl ⟨by decide,rfl⟩⟩
  ·have c3':¬12<(a.length:Int)+(b.length:Int)-2:=by omega
   rw[Yqe c3]
   rw[ca,cb]at kD
   simp(disch:=first|(simp;done)|omega|rfl) [-getElem?_pos,splice,Zam.chk,ca,cb,Zzo hi,Zau,Zak,hlu,hlv,c3']
   generalize h2.set n2 (.cells [.int .i64 0,.int .i64 0] 26 true)=H2 at*
   refine Zaa (Ybl (z:=0) (by decide) (by decide)) ?_
   rintro _ h3 n3 k3 hz
   obtain⟨c3v,rfl,hc3⟩:=hz.c
   obtain⟨e31,e32⟩:=hc3.len
   have hcc:∀c:List V,(V.agg c).cells=c:=fun _=>rfl
   have e4:=Yuq (d:=zF) e31 rfl
   unfold zF at e4
   have kE:Keeps h3 n3 (h3.set n3 (.cells c3v 102 true)) (n3+1):=Keeps.refl.new _
   have gE:(h3.set n3 (.cells c3v 102 true)).get n3=some (.cells c3v 102 true):=by rw[T.get_set,Yqi rfl]
   have en:(a.length:Int)+(b.length:Int)-1=((a.length+b.length-1:Nat):Int):=by omega
   simp(disch:=first|(simp;done)|omega|rfl) [-getElem?_pos, -V.cells, -V.one,hcc,e31,e32,e4,Zam.chk,hlu,hlv]
   rw[en]
   generalize h3.set n3 (.cells c3v 102 true)=H3 at*
   refine Zaa (Yv9 (by omega) gE (hc3.keep kE) (by omega) (by omega)) ?_
   rintro _ h4 n4 k4 ⟨rfl,hQ⟩
   have KA:=((kD.trans k3).trans kE).trans k4
   have ta:=Yuc a2
   have tb:=Yuc b2
   have qa:=Yt9 a2 fa
   have qb:=Yt9 b2 fb
   have hua:Sl h N u (tx (rats a)):=by rw[←ta];exact hu
   have hvb:Sl h N v (tx (rats b)):=by rw[←tb];exact hv
   have lra:=@Yt6 a
   have lrb:=@Yt6 b
   rw[←lra,←lrb]at hQ
   rw[←lra]at a0 a1
   rw[←lrb]at b0 b1
   rw[←lra,←lrb]
   generalize rats a=p at*
   generalize rats b=q at*
   simp(disch:=first|(simp;done)|omega|rfl) [-getElem?_pos,]
   refine Zaa (Yuj (k0:=164) (hua.keep KA) (by omega) qa (by decide)) ?_
   rintro _ h5 n5 k5 ⟨rfl,hF5⟩
   have KB:=KA.trans k5
   obtain⟨R,hR⟩:∃R,R=n3+1:=⟨_,rfl⟩
   rw[←hR]at hQ ⊢
   have leA:=((kD.trans k3).trans kE).le
   have le5:=k5.le
   have ltR:=hQ.lt
   have ltP:=hF5.lt
   have hQ5:=hQ.keep k5
   obtain⟨Rp,hRp⟩:∃Rp,Rp=n4:=⟨_,rfl⟩
   rw[←hRp]at hF5 ⊢
   have hzz:Zeh zF 0=[]:=by simp[Zeh]
   have nR:¬R=Rp:=by omega
   simp(disch:=first|(simp;done)|omega|rfl) [-getElem?_pos,]
   refine Zaj [(8,11),(40,69)] (fun e r st=>e=.exit 0∧Zac N st.w=[]∧Keeps h N st.h st.n∧RwQ st.h st.n R (Yun p q p.length) 0) (fun m r st=>Zac N st.w=[]∧Keeps h N st.h st.n∧n5≤st.n∧RwQ st.h st.n Rp p 0∧∃t,t+m=p.length∧r.get 40=some (.int .i64 t)∧RwQ st.h st.n R (Yun p q t) 0) p.length ?_ ?_ ?_
   ·exact⟨by simp,KB,Yqg _,hF5,0,by omega,by simp,hQ5⟩
   ·rintro m r ⟨H,n6,W⟩ hr hf ⟨hW,hK,hn6,hF,t,ht,h40,hQ6⟩
    simp only at hW hK hn6 hF hQ6
    rw[Zai]
    cases m with
    |zero=>
     obtain rfl:t=p.length:=by omega
     simp(disch:=first|(simp;done)|omega|rfl) [-getElem?_pos,A.lb43_1,hr,hf,h40,hW,hK]
     exact hQ6
    |succ m=>
     have hlt:t<p.length:=by omega
     have hlt':(t:Int)<(p.length:Int):=by omega
     obtain⟨csp,y1,_,_⟩:=hF.ex
     obtain⟨ct,s1,fct⟩:=hF.at (Zce (p:=p) (i:=t) hlt) y1
     obtain⟨f1,f2⟩:=fct.len
     have e6:=Yuq (d:=zF) f1 rfl
     unfold zF at e6
     have lRp:=hF.lt
     have k7:Keeps H n6 ((H.set n6 (.cells [.int .i64 0,.nilslice,.int .i64 0,.nilslice] 102 true)).set n6 (.cells ct 102 true)) (n6+1):=(Keeps.refl.new _).set (Yqg _)
     have g7:((H.set n6 (.cells [.int .i64 0,.nilslice,.int .i64 0,.nilslice] 102 true)).set n6 (.cells ct 102 true)).get n6=some (.cells ct 102 true):=by simp
     generalize csp.flatten++Zeh zF 0=Xp at*
     simp(disch:=first|(simp;done)|omega|rfl) [-getElem?_pos, -V.cells, -V.one,A.lb43_1,hr,hf,h40,hlt,hlt',y1,lRp,s1,Zah,hcc,f1,f2,Zal,e6]
     generalize (H.set n6 (.cells [.int .i64 0,.nilslice,.int .i64 0,.nilslice] 102 true)).set n6 (.cells ct 102 true)=H7 at*
     have K7:=hK.trans k7
     refine Zaa (Yuj (k0:=164) (hvb.keep K7) (by omega) qb (by decide)) ?_
     rintro _ h8 n8 k8 ⟨rfl,hG⟩
     have g8:=(k8.get n6 (by omega)).trans g7
     have leK:=hK.le
     have le8:=k8.le
     have ltG:=hG.lt
     obtain⟨Rq,hRq⟩:∃Rq,Rq=n6+1:=⟨_,rfl⟩
     rw[←hRq]at hG ⊢
     have K8:=K7.trans k8
     have nRq:¬R=Rq:=by omega
     have nRB:¬n6=R:=by omega
     have hF8:=(hF.keep k7).keep k8
     have hQ8:=(hQ6.keep k7).keep k8
     have fct8:=(fct.keep k7).keep k8
     have ml6:∀k,(Yu1 (Yun p q t) (pg p t) q t k).length=p.length+q.length-1:=fun k=>by rw[Yue,Yt7]
     have mq:=@Yus (Yun p q t) (pg p t) q t (1+t*(164+164+1)) 164 164 (Yum qa qb b0 (by omega)) (qa _ (Yqn (Zce hlt))) qb
     have wa:=(qa _ (Yqn (Zce hlt))).wls
     simp(disch:=first|(simp;done)|omega|rfl) [-getElem?_pos,]
     refine Zaj [(10,11),(48,68)] (fun e r st=>e=.exit 2∧Zac N st.w=[]∧Keeps h N st.h st.n∧n5≤st.n∧RwQ st.h st.n Rp p 0∧RwQ st.h st.n R (Yun p q (t+1)) 0) (fun m r st=>Zac N st.w=[]∧Keeps h N st.h st.n∧n8≤st.n∧RwQ st.h st.n Rp p 0∧RwQ st.h st.n Rq q 0∧st.h.get n6=some (.cells ct 102 true)∧FcC st.h st.n ct (pg p t)∧∃k,k+m=q.length∧r.get 48=some (.int .i64 k)∧RwQ st.h st.n R (Yu1 (Yun p q t) (pg p t) q t k) 0) q.length ?_ ?_ ?_
     ·exact⟨by simp[hW];omega,K8,Yqg _,hF8,hG,g8,fct8,0,by omega,by simp,hQ8⟩
     ·rintro m' r' ⟨H1,n1',W1⟩ hr' hf' ⟨hW1,hK1,hn1,hF1,hG1,g1,fc1,k,hk,h48,hQ1⟩
      simp only at hW1 hK1 hn1 hF1 hG1 g1 fc1 hQ1
      rw[Zai]
      cases m' with
      |zero=>
       obtain rfl:k=q.length:=by omega
       simp(disch:=first|(simp;done)|omega|rfl) [-getElem?_pos,A.lb43_0,hr',hf',hr,hf,h48,hW1,hK1]
       exact⟨by omega,hF1,hQ1⟩
      |succ m'=>
       have hkt:k<q.length:=by omega
       have hkt':(k:Int)<(q.length:Int):=by omega
       obtain⟨csq,z1,_,_⟩:=hG1.ex
       obtain⟨cb,s2,fcb⟩:=hG1.at (Zce (p:=q) (i:=k) hkt) z1
       obtain⟨f3,f4⟩:=fcb.len
       have e8:=Yuq (d:=zF) f3 rfl
       unfold zF at e8
       have lRq:=hG1.lt
       have kA:Keeps H1 n1' ((H1.set n1' (.cells [.int .i64 0,.nilslice,.int .i64 0,.nilslice] 102 true)).set n1' (.cells cb 102 true)) (n1'+1):=(Keeps.refl.new _).set (Yqg _)
       have gA:((H1.set n1' (.cells [.int .i64 0,.nilslice,.int .i64 0,.nilslice] 102 true)).set n1' (.cells cb 102 true)).get n1'=some (.cells cb 102 true):=by simp
       have hij:t+k<(Yu1 (Yun p q t) (pg p t) q t k).length:=by rw[ml6];omega
       obtain⟨cso,o1,_,_⟩:=hQ1.ex
       obtain⟨co,s3,fco⟩:=hQ1.at (Zce hij) o1
       obtain⟨f5,f6⟩:=fco.len
       have lR:=hQ1.lt
       have sa:=Yuu f1
       have sb:=Yuu f3
       have i1:(0:Int)≤(t:Int)+k:=by omega
       have i2:(t:Int)+k<((p.length+q.length-1:Nat):Int):=by omega
       have i3:((t:Int)+k).toNat=t+k:=by omega
       have lB:n6<n1':=by omega
       have lB':n6<n1'+1:=by omega
       have lR':R<n1'+1:=by omega
       have nRn:¬R=n1':=by omega
       have nBn:¬n6=n1':=by omega
       have bo:=mq (k:=k) (by omega) (by rw[Yt7];omega) (t+k) _ (Zce hij)
       rw[Yqe (by omega)]at bo
       have bb:=qb _ (Yqn (Zce (p:=q) (i:=k) hkt))
       have ba:=qa _ (Yqn (Zce (p:=p) (i:=t) hlt))
       have wb:=bb.wls
       have wo:=bo.wls
       have wm:=(ba.mul bb).wls
       have ht13:t*(164+164+1)≤13*(164+164+1):=Yqz _ (by omega)
       have foA:=fco.keep kA
       have fbA:=fcb.keep kA
       have faA:=fc1.keep kA
       generalize csq.flatten++Zeh zF 0=Xq at*
       generalize cso.flatten++Zeh zF 0=Xo at*
       simp(disch:=first|(simp;done)|omega|rfl) [-getElem?_pos, -V.cells, -V.one,A.lb43_0,hr',hf',hr,hf,h48,hkt,hkt',z1,lRq,s2,Zah,hcc,f3,f4,Zal,e8,i1,i2,i3,o1,s3,g1,sa,sb,lB,lB',lR',nRn,nBn]
       generalize (H1.set n1' (.cells [.int .i64 0,.nilslice,.int .i64 0,.nilslice] 102 true)).set n1' (.cells cb 102 true)=HA at*
       refine Zaa (Ybh faA.up fbA.up (by omega) (by omega) (by omega) (by omega)) ?_
       rintro v9 h9 n9 k9 hm9
       simp(disch:=first|(simp;done)|omega|rfl) [-getElem?_pos,]
       refine Zaa (Zpf (foA.keep k9).up hm9 (by omega) (by omega) (by omega) (by omega)) ?_
       rintro _ hB nB kB' hmB
       obtain⟨cB,rfl,hcB⟩:=hmB.c
       obtain⟨eB1,eB2⟩:=hcB.len
       have K9:=kA.trans (k9.trans kB')
       have le9:=K9.le
       obtain⟨Y,p1,p2,p3⟩:=(hQ1.keep K9).put hcB (j:=t+k) hij
       have lRB:R<nB:=by omega
       have nuY:=RwQ.nou (hQ1.keep K9) p1
       have slY:(splice Y ((t+k)*4) cB).length=Y.length:=Zb3 (by omega)
       have gB9:=(K9.get n6 (by omega)).trans g1
       simp(disch:=first|(simp;done)|omega|rfl) [-getElem?_pos, -V.cells, -V.one,hr',hf',hr,hf,h48,hkt,hcc,eB1,eB2,Zal,p1,p2,lRB,i1,i2,i3,Zam.chk]
       have nRN:¬R<N:=by omega
       have n1N:¬n1'<N:=by omega
       exact⟨m',by omega,by rw[Yqe nRN,Yqe n1N];exact hW1,(hK1.trans K9).set (by omega),by omega,(hF1.keep K9).setB p1 nuY slY nR,(hG1.keep K9).setB p1 nuY slY nRq,by rw[Yqe nRB];exact gB9,(fc1.keep K9).setNU p1 nuY slY,k+1,by omega,by simp,p3⟩
     ·rintro _ r' ⟨H1,n1',W1⟩ hr' ⟨rfl,hW1,hK1,hn1,hF1,hQ1⟩
      simp only at hW1 hK1 hn1 hF1 hQ1
      simp(disch:=first|(simp;done)|omega|rfl) [-getElem?_pos,hr',hr,hf,h40,hW1]
      have hfi:=hf.inner (D':=[(10,11),(48,68)]) rfl (fun hh=>by simpa using hh) hr'
      exact⟨by simpa using hfi,m,by omega,hK1,hn1,hF1,t+1,by omega,by simp,hQ1⟩
   ·rintro _ r ⟨H,n6,W⟩ hr ⟨rfl,hW,hK,hQ6⟩
    simp only at hW hK hQ6
    have hT:=hQ6.frt
    rw[Yt7]at hT
    have hbq:=Yum qa qb b0 (Yqg p.length)
    have ht13:p.length*(164+164+1)≤13*(164+164+1):=Yqz _ (by omega)
    have hlm:=@Yt7 p q p.length
    simp(disch:=first|(simp;done)|omega|rfl) [-getElem?_pos,hr]
    refine Zaa (Yda (k:=5000) hT.1 (hP.keep hK) (by rw[hlm];omega) (fun y hy=>(hbq y hy).mono (by omega)) (by decide)) ?_
    rintro x h9 n9 k9 hx
    rcases hx with⟨hb,rfl⟩|⟨hb,y,rfl,hy⟩
    ·simp(disch:=first|(simp;done)|omega|rfl) [-getElem?_pos,hW,Ret]
     exact⟨hK.trans k9,.inr ⟨rfl,.inl ⟨hb,rfl⟩⟩⟩
    ·simp(disch:=first|(simp;done)|omega|rfl) [-getElem?_pos,hW,Ret]
     exact⟨hK.trans k9,.inr ⟨rfl,.inr ⟨hb,y,rfl,hy⟩⟩⟩
 ·rw[Yqe c]
  simp(disch:=first|(simp;done)|omega|rfl) [-getElem?_pos,splice,Zam.chk,Zzo hi,c,Zak,Ret]
  exact⟨kD,.inl ⟨c,rfl⟩⟩
variable {N:Nat} {h:T O} {u:V} {x:Rat}
def A.w47:=A.q Tryz.f47
def A.lb47_0:=A.ql A.w47 1 []
def A.lb47_1:=(fun x0=>A.ql A.w47 0 [x0]) A.lb47_0
def A.b47:=(fun x0=>A.qb A.w47 [x0]) A.lb47_1
def A.k47:=@A.kk 47 49 [.tmp 4] A.b47 (by kernel_rfl) rfl
def A.w48:=A.q Tryz.f48
def A.lb48_0:=A.ql A.w48 0 []
def A.b48:=(fun x0=>A.qb A.w48 [x0]) A.lb48_0
def A.k48:=@A.kk 48 23 [.tmp 4] A.b48 (by kernel_rfl) rfl
def A.w50:=A.q Tryz.f50
def A.lb50_0:=A.ql A.w50 0 []
def A.b50:=(fun x0=>A.qb A.w50 [x0]) A.lb50_0
def A.k50:=@A.kk 50 27 [.tmp 4] A.b50 (by kernel_rfl) rfl
def Yvs(p:List Rat)(x:Rat):Nat→Rat
 |0=>0
 |k+1=>Yvs p x k*x+pg p (p.length-1-k)
def Yuz(p:List Rat)(x:Rat):Rat:=Yvs p x p.length
def Yuk{p:List Rat}{x:Rat}{A K:Nat}(hp:∀y∈p,Qb A y)(hx:Qb K x):∀{k:Nat},k≤p.length→Qb (1+k*(A+K+1)) (Yvs p x k)
 |0,_=>(Qb.int (z:=0) (k:=1) (by decide) (by decide)).mono (by omega)
 |k+1,h=>by
  have ih:=Yuk hp hx (k:=k) (by omega)
  rw[Yvs,Yrf]
  exact((ih.mul hx).add (hp _ (Yqn (Zce (p:=p) (i:=p.length-1-k) (by omega))))).mono (by omega)
def Yvl{v:V}{p q:List Rat}(hu:Tx h N u p)(hv:Tx h N v q)(qa:∀y∈p,Qb 164 y)(qb:∀y∈q,Qb 164 y)(a0:0<p.length)(a1:p.length≤13)(b0:0<q.length)(b1:q.length≤13):Fn A.C 47 [u,v] h N (fun x h' n'=>TxT h' n' x (Yvv p q)):=by
 intro w
 have lu:=hu.len
 try rw[Zfc]at lu
 have lv:=hv.len
 try rw[Zfc]at lv
 rw[Zab,A.k47 (by simp)]
 have en:(p.length:Int)+(q.length:Int)-1=((p.length+q.length-1:Nat):Int):=by omega
 simp(disch:=first|(simp;done)|omega|rfl) [-getElem?_pos,A.b47,lu,lv]
 rw[en]
 refine Zaa (Zy8 (by omega) (by omega)) ?_
 rintro _ h1 n1 k1 ⟨R,rfl,hR,s1⟩
 have mn0:((List.range (p.length+q.length-1)).map fun _=>(0:Rat))=Yun p q 0:=by
  rw[List.map_const',List.length_range];rfl
 rw[mn0]at s1
 simp(disch:=first|(simp;done)|omega|rfl) [-getElem?_pos,]
 refine Zaj [(6,7),(15,47)] (fun e r st=>e=.exit 0∧Zac N st.w=[]∧Keeps h N st.h st.n∧RwS st.h st.n R (Yun p q p.length)) (fun m r st=>Zac N st.w=[]∧Keeps h N st.h st.n∧∃t,t+m=p.length∧r.get 6=some (.int .i64 t)∧RwS st.h st.n R (Yun p q t)) p.length ?_ ?_ ?_
 ·exact⟨by simp,k1,0,by omega,by simp,s1⟩
 ·rintro m r ⟨H,n6,W⟩ hr hf ⟨hW,hK,t,ht,h6,hQ⟩
  simp only at hW hK hQ
  rw[Zai]
  cases m with
  |zero=>
   obtain rfl:t=p.length:=by omega
   simp(disch:=first|(simp;done)|omega|rfl) [-getElem?_pos,A.lb47_1,hr,hf,h6,lu,hW,hK]
   exact hQ
  |succ m=>
   have hlt:t<p.length:=by omega
   have hlt':(t:Int)<(p.length:Int):=by omega
   have mq:=@Yus (Yun p q t) (pg p t) q t (1+t*(164+164+1)) 164 164 (Yum qa qb b0 (by omega)) (qa _ (Yqn (Zce hlt))) qb
   have ml6:∀k,(Yu1 (Yun p q t) (pg p t) q t k).length=p.length+q.length-1:=fun k=>by rw[Yue,Yt7]
   simp(disch:=first|(simp;done)|omega|rfl) [-getElem?_pos,A.lb47_1,hr,hf,h6,lu,hlt,hlt']
   refine Zaj [(7,7),(21,47)] (fun e r st=>e=.exit 2∧Zac N st.w=[]∧Keeps h N st.h st.n∧RwS st.h st.n R (Yun p q (t+1))) (fun m r st=>Zac N st.w=[]∧Keeps h N st.h st.n∧∃k,k+m=q.length∧r.get 7=some (.int .i64 k)∧RwS st.h st.n R (Yu1 (Yun p q t) (pg p t) q t k)) q.length ?_ ?_ ?_
   ·exact⟨by simp[hW],hK,0,by omega,by simp,hQ⟩
   ·rintro m' r' ⟨H1,n1',W1⟩ hr' hf' ⟨hW1,hK1,k,hk,h7,hQ1⟩
    simp only at hW1 hK1 hQ1
    rw[Zai]
    cases m' with
    |zero=>
     obtain rfl:k=q.length:=by omega
     simp(disch:=first|(simp;done)|omega|rfl) [-getElem?_pos,A.lb47_0,hr',hf',hr,hf,h7,lv,hW1,hK1]
     exact hQ1
    |succ m'=>
     have hkt:k<q.length:=by omega
     have hkt':(k:Int)<(q.length:Int):=by omega
     have hij:t+k<(Yu1 (Yun p q t) (pg p t) q t k).length:=by rw[ml6];omega
     obtain⟨i,o,cc,e,rw,q1,q2,q3,q4⟩:=(hu.keep hK1).at (Zks (Zce hlt))
     obtain⟨i',o',cc',e',rw',p1,p2,p3,p4⟩:=(hv.keep hK1).at (Zks (Zce hkt))
     have t1:=Zks (Zce hij)
     have r1:=hQ1.get
     have lR:=hQ1.lt
     have i1:(0:Int)≤(t:Int)+k:=by omega
     have i2:(t:Int)+k<((p.length+q.length-1:Nat):Int):=by omega
     have i3:((t:Int)+k).toNat=t+k:=by omega
     have i4:t+k+1≤p.length+q.length-1:=by omega
     have bo:=mq (k:=k) (by omega) (by rw[Yt7];omega) (t+k) _ (Zce hij)
     have ba:=qa _ (Yqn (Zce hlt))
     have bb:=qb _ (Yqn (Zce hkt))
     rw[Yqe (by omega)]at bo
     have ht13:t*(164+164+1)≤13*(164+164+1):=Yqz _ (by omega)
     simp(disch:=first|(simp;done)|omega|rfl) [-getElem?_pos,A.lb47_0,hr',hf',hr,hf,h6,h7,lu,lv,hlt,hlt',hkt,hkt',q1,q2,q3,q4,p1,p2,p3,p4,r1,lR,t1,i1,i2,i3,Zfc,ml6]
     refine Zaa (Zz8 ba bb (by decide) (by decide)) ?_
     rintro _ h3 n3 k3 rfl
     simp(disch:=first|(simp;done)|omega|rfl) [-getElem?_pos,]
     refine Zaa (Zpq bo (ba.mul bb) (by omega) (by omega)) ?_
     rintro _ h4 n4 k4 rfl
     have kk:=k3.trans k4
     have y3:=hQ1.keep kk
     obtain⟨z1,z2⟩:=y3.put (j:=t+k) (q:=pg (Yu1 (Yun p q t) (pg p t) q t k) (t+k)+pg p t*pg q k) hij
     have r4:=y3.get
     have lR4:=y3.lt
     have nRN:¬R<N:=by omega
     simp(disch:=first|(simp;done)|omega|rfl) [-getElem?_pos,hr',hf',hr,hf,h7,r4,lR4,Zal,z1,Zfc,ml6,i1,i2,i3,i4,Zam.chk,nRN]
     exact⟨m',by omega,by simpa[Zac,nRN]using hW1,(hK1.trans kk).set (by omega),k+1,by omega,by simp,z2⟩
   ·rintro _ r' ⟨H1,n1',W1⟩ hr' ⟨rfl,hW1,hK1,hQ1⟩
    simp only at hW1 hK1 hQ1
    simp(disch:=first|(simp;done)|omega|rfl) [-getElem?_pos,hr',hr,hf,h6,hW1]
    have hfi:=hf.inner (D':=[(7,7),(21,47)]) rfl (fun hh=>by simpa using hh) hr'
    exact⟨by simpa using hfi,m,by omega,hK1,t+1,by omega,by simp,hQ1⟩
 ·rintro _ r ⟨H,n6,W⟩ hr ⟨rfl,hW,hK,hQ⟩
  simp only at hW hK hQ
  simp(disch:=first|(simp;done)|omega|rfl) [-getElem?_pos,hr,hW,hK,Ret]
  have fin:=hQ.txt
  rw[Yt7]at fin
  exact fin
def Yvh{p:List Rat}(hu:Tx h N u p)(qa:∀y∈p,Qb 164 y)(qx:Qb 164 x)(a1:p.length≤13):Fn A.C 48 [u,.str (Zaq x)] h N (fun y _ _=>y=.str (Zaq (Yuz p x))):=by
 intro w
 have lu:=hu.len
 try rw[Zfc]at lu
 rw[Zab,A.k48 (by simp)]
 simp(disch:=first|(simp;done)|omega|rfl) [-getElem?_pos,A.b48,lu]
 refine Zaj [(5,6),(10,21)] (fun e r st=>e=.exit 0∧Zac N st.w=[]∧Keeps h N st.h st.n∧r.get 5=some (.str (Zaq (Yvs p x p.length)))) (fun m r st=>Zac N st.w=[]∧Keeps h N st.h st.n∧∃t,t+m=p.length∧r.get 6=some (.int .i64 ((p.length:Int)-1-t))∧r.get 5=some (.str (Zaq (Yvs p x t)))) p.length ?_ ?_ ?_
 ·exact⟨by simp,Keeps.refl,0,by omega,by simp,by simp[Yvs,Yhh]⟩
 ·rintro m r ⟨H,n6,W⟩ hr hf ⟨hW,hK,t,ht,h6,h5⟩
  simp only at hW hK
  rw[Zai]
  cases m with
  |zero=>
   obtain rfl:t=p.length:=by omega
   have c1:¬(p.length:Int)≤(p.length:Int)-1:=by omega
   simp(disch:=first|(simp;done)|omega|rfl) [-getElem?_pos,A.lb48_0,hr,hf,h6,h5,c1,hW,hK]
  |succ m=>
   have c1:(t:Int)≤(p.length:Int)-1:=by omega
   have c2:(p.length:Int)-1-(t:Int)<(p.length:Int):=by omega
   have c3:((p.length:Int)-1-(t:Int)).toNat=p.length-1-t:=by omega
   have hj:p.length-1-t<p.length:=by omega
   obtain⟨i,o,cc,e,rw,q1,q2,q3,q4⟩:=(hu.keep hK).at (Zks (Zce hj))
   have bv:=Yuk qa qx (k:=t) (by omega)
   have ht13:t*(164+164+1)≤13*(164+164+1):=Yqz _ (by omega)
   simp(disch:=first|(simp;done)|omega|rfl) [-getElem?_pos,A.lb48_0,hr,hf,h6,h5,c1]
   refine Zaa (Zz8 bv qx (by omega) (by decide)) ?_
   rintro _ h3 n3 k3 rfl
   have q3':=(k3.get i q2).trans q3
   have q2':i<n3:=Yqq q2 k3.le
   simp(disch:=first|(simp;done)|omega|rfl) [-getElem?_pos,hr,hf,h6,lu,c1,c2,c3,q1,q2',q3',q4]
   refine Zaa (Zpq (bv.mul qx) (qa _ (Yqn (Zce hj))) (by omega) (by decide)) ?_
   rintro _ h4 n4 k4 rfl
   simp(disch:=first|(simp;done)|omega|rfl) [-getElem?_pos,hr,hf,h6]
   exact⟨m,by omega,by simpa using hW,(hK.trans k3).trans k4,t+1,by omega,by simp;omega,rfl⟩
 ·rintro _ r ⟨H,n6,W⟩ hr ⟨rfl,hW,hK,h5⟩
  simp only at hW hK
  simp(disch:=first|(simp;done)|omega|rfl) [-getElem?_pos,hr,h5,hW,hK,Ret]
  rfl
def Yvi{p:List Rat}{ja jk:Nat}(hu:Tx h N u p)(qa:∀y∈p,Qb ja y)(qx:Qb jk x)(a1:p.length≤13)(hA:ja≤100000)(hKK:jk≤100000):Fn A.C 50 [u,.str (Zaq x)] h N (fun y h' n'=>TxT h' n' y (Yuw p x)):=by
 intro w
 have lu:=hu.len
 try rw[Zfc]at lu
 rw[Zab,A.k50 (by simp)]
 simp(disch:=first|(simp;done)|omega|rfl) [-getElem?_pos,A.b50]
 refine Zaj [(5,25)] (fun e r st=>e=.exit 0∧Zac N st.w=[]∧Keeps h N st.h st.n∧∃y,r.get 5=some y∧TxT st.h st.n y (Yuw p x)) (fun m r st=>Zac N st.w=[]∧Keeps h N st.h st.n∧∃t,t+m=p.length∧r.get 7=some (.int .i64 t)∧r.get 6=some (.str (Zaq (pwR x t)))∧∃y,r.get 5=some y∧Own 1 30 N st.h st.n y ((tx ((Yuw p x).take t)).map fun y=>[y])) p.length ?_ ?_ ?_
 ·exact⟨by simp,Keeps.refl,0,by omega,by simp,by simp[pwR,Ykr],.nilslice,by simp,by simpa[tx,strs]using Own.nil⟩
 ·rintro m r ⟨H,n6,W⟩ hr hf ⟨hW,hK,t,ht,h7,h6,y,h5,hy⟩
  simp only at hW hK hy
  rw[Zai]
  cases m with
  |zero=>
   obtain rfl:t=p.length:=by omega
   rw[Yqp (by rw[Yua];omega)]at hy
   simp(disch:=first|(simp;done)|omega|rfl) [-getElem?_pos,A.lb50_0,hr,hf,h7,h6,h5,lu,hW,hK]
   exact Ylf hy
  |succ m=>
   have hlt:t<p.length:=by omega
   have hlt':(t:Int)<(p.length:Int):=by omega
   obtain⟨q,hq⟩:=Zan hlt
   obtain⟨i,o,cc,e,rw,q1,q2,q3,q4⟩:=(hu.keep hK).at (Zks hq)
   have bq:=qa q (Yqn hq)
   have bw:=Yu5 qx t
   have htk:t*jk≤13*100000:=Yr1 (by omega) hKK
   simp(disch:=first|(simp;done)|omega|rfl) [-getElem?_pos,A.lb50_0,hr,hf,h7,h6,h5,lu,hlt,hlt',q1,q2,q3,q4]
   refine Zaa (Zz8 bq bw (by omega) (by omega)) ?_
   rintro _ h3 n3 k3 rfl
   have leK:=hK.le
   have le3:=k3.le
   obtain⟨v',h',w',f1,f2,f3,_,f5⟩:=Zbw (x:=[.str (Zaq (q*pwR x t))]) (u:=.slice n3 0 1 (some 1) 1) (bytes:=16) (w:=W) ((hy.keep k3).keep (Keeps.refl.new (.cells [.str (Zaq (q*pwR x t))] 30 true))) (by omega) (by decide) rfl (by simp[Zbc,St.row,slc]) (by simp[Zfc];omega)
   have e7:((tx ((Yuw p x).take t)).map fun y=>[y])++[[.str (Zaq (q*pwR x t))]]=(tx ((Yuw p x).take (t+1))).map fun y=>[y]:=by
    rw[Ys4,Yu0 hq];simp[tx,strs]
   rw[e7]at f5
   simp(disch:=first|(simp;done)|omega|rfl) [-getElem?_pos,hr,hf,splice,f1,h6]
   refine Zaa (Zz8 bw qx (by omega) (by omega)) ?_
   rintro _ h8 n8 k8 rfl
   have ow:Zac N w'=[]:=Zum f2 (by omega) hW
   simp(disch:=first|(simp;done)|omega|rfl) [-getElem?_pos,hr,hf,h7]
   exact⟨m,by omega,ow,((hK.trans (k3.trans (Keeps.refl.new (.cells [.str (Zaq (q*pwR x t))] 30 true)))).then f3).trans k8,t+1,by omega,by simp,rfl,f5.keep k8⟩
 ·rintro _ r ⟨H,n6,W⟩ hr ⟨rfl,hW,hK,y,h5,hy⟩
  simp only at hW hK hy
  simp(disch:=first|(simp;done)|omega|rfl) [-getElem?_pos,hr,h5,hW,hK,Ret]
  exact hy
def A.b45:=A.q Tryz.f45
def A.k45:=@A.kk 45 26 [.tmp 4,.tmp 5] A.b45 (by kernel_rfl) rfl
def scE(a:List Str)(s:Str):Int:=Zau [Znj a,((chkNum s:Nat):Int),if s=[48] then 6 else 0]
def Yvt{p:List Rat}{x:Rat}{ja jk:Nat}(hp:∀y∈p,Qb ja y)(hx:Qb jk x):∀y∈Yuw p x,Qb (ja+(p.length*jk+1)) y:=fun y hy=>by
 obtain⟨j,hj⟩:=Ytr hy
 have hl:=Zct hj
 rw[Yua]at hl
 obtain⟨q,hq⟩:=Zan hl
 rw[Yu0 hq]at hj
 simp only[Yqc]at hj
 rw[←hj]
 have:=Yqz jk (show j≤p.length by omega)
 exact((hp q (Yqn hq)).mul (Yu5 hx j)).mono (by omega)
def Ywa{h:T O}{N:Nat}{u:V}{a:List Str}{s:Str}(hu:Sl h N u (strs a))(hP:P10 h N)(la:a.length<100000)(fa:∀s∈a,s.length≤40)(fs:s.length≤40):Fn A.C 45 [u,.str s] h N (fun x h' n'=>Ywc h' n' x (scE a s) (Yuw (rats a) (ratS s))):=by
 intro w
 have hlu:=hu.len
 rw[Zt1]at hlu
 rw[Zab,A.k45 (by simp)]
 simp(disch:=first|(simp;done)|omega|rfl) [-getElem?_pos,A.b45]
 refine Zaa (Yuy hu la fun s hs=>by have:=fa s hs;omega) ?_
 rintro _ h1 n1 k1 rfl
 simp(disch:=first|(simp;done)|omega|rfl) [-getElem?_pos,]
 refine Zaa (Yfn (by omega)) ?_
 rintro _ h2 n2 k2 rfl
 have hi:n2<n2+1:=by omega
 have kD:Keeps h N (h2.set n2 (.cells [.int .i64 (Znj a),.int .i64 ((chkNum s:Nat):Int)] 26 true)) (n2+1):=(k1.trans k2).trans (kset Keeps.refl _)
 have eM:scE a s=if Zau [Znj a,((chkNum s:Nat):Int)]=0 then (if s=[48] then 6 else 0) else Zau [Znj a,((chkNum s:Nat):Int)]:=Yut
 rw[eM]
 by_cases c:Zau [Znj a,((chkNum s:Nat):Int)]=0
 ·obtain⟨ca,cs⟩:=Zio c
  have cs':chkNum s=0:=by omega
  obtain⟨a0,a1,a2,a3⟩:=Yui ca
  rw[Yqi c]
  by_cases c3:s=[48]
  ·have c4:(s==[48])=true:=by simpa using c3
   rw[Yqi c3]
   simp(disch:=first|(simp;done)|omega|rfl) [-getElem?_pos,splice,Zam.chk,Zzo hi,c,Zak,c4,Ret]
   exact⟨kD,.inl ⟨by decide,rfl⟩⟩
  ·have c4:(s==[48])=false:=by simpa using c3
   rw[Yqe c3]
   rw[ca,cs]at kD
   have qs:=Ze6 cs' fs
   have es:=(Zco cs').1
   simp(disch:=first|(simp;done)|omega|rfl) [-getElem?_pos,splice,Zam.chk,ca,cs',Zzo hi,Zau,Zak,c4]
   generalize h2.set n2 (.cells [.int .i64 0,.int .i64 0] 26 true)=H2 at*
   have ta:=Yuc a2
   have qa:=Yt9 a2 fa
   have hua:Sl h N u (tx (rats a)):=by rw[←ta];exact hu
   have lra:=@Yt6 a
   rw[←lra]at a0 a1
   generalize rats a=p at*
   clear eM c c3 c4 cs cs'
   generalize ratS s=q at*
   subst es
   refine Zaa (Yuj (k0:=164) (hua.keep kD) (by omega) qa (by decide)) ?_
   rintro _ h5 n5 k5 ⟨rfl,hF5⟩
   simp(disch:=first|(simp;done)|omega|rfl) [-getElem?_pos,]
   refine Zaa (Zim qs (by omega)) ?_
   rintro v6 h6 n6 k6 hv6
   simp(disch:=first|(simp;done)|omega|rfl) [-getElem?_pos,]
   refine Zaa (Yvg (hF5.keep k6).frt hv6 qa qs (by omega) a0 (by decide) (by decide)) ?_
   rintro v7 h7 n7 k7 hT
   have hbq:=Yvt qa qs
   have ht13:p.length*(4*40+4)≤13*(4*40+4):=Yqz _ (by omega)
   have K:=((kD.trans k5).trans k6).trans k7
   simp(disch:=first|(simp;done)|omega|rfl) [-getElem?_pos,]
   refine Zaa (Yda (k:=5000) hT.1 (hP.keep K) (by rw[Yua];omega) (fun y hy=>(hbq y hy).mono (by omega)) (by decide)) ?_
   rintro x h9 n9 k9 hx
   rcases hx with⟨hb,rfl⟩|⟨hb,y,rfl,hy⟩
   ·simp(disch:=first|(simp;done)|omega|rfl) [-getElem?_pos,Ret]
    exact⟨K.trans k9,.inr ⟨rfl,.inl ⟨hb,rfl⟩⟩⟩
   ·simp(disch:=first|(simp;done)|omega|rfl) [-getElem?_pos,Ret]
    exact⟨K.trans k9,.inr ⟨rfl,.inr ⟨hb,y,rfl,hy⟩⟩⟩
 ·rw[Yqe c]
  simp(disch:=first|(simp;done)|omega|rfl) [-getElem?_pos,splice,Zam.chk,Zzo hi,c,Zak,Ret]
  exact⟨kD,.inl ⟨c,rfl⟩⟩
open Go
def Yvp(r:T V)(n:Nat)(ps:List Nat)(a b:Zaz)(d:Nat):Ymk:={st:=.ready,pend:=none,r:=r,n:=n,ps:=ps,assign:=a,body:=b,defs:=d}
def Yux:Option Ex→Ex
 |none=>.normal
 |some e=>e
def Yu9{C:Cx}{K:List Kf}{Q:Rs→Prop}{g:Src}{ps:List Nat}{a b:Zaz}{r:T V}{n N:Nat}{h:T O}{w:List Nat}{gv:V}{P:V→St→Prop}(hg:g.ev r=some gv)(hy:gv.isY=false)(hc:Call C gv [.yield (N+1)] ⟨(h.set N (.defs true)).set (N+1) (.loop (Yvp r n ps a b N)),N+1+1,w⟩ P)(k:∀v st',P v st'→∃R,st'.h.get (N+1)=some (.loop R)∧R.st≠.busy∧Run C K (some (.ex (Yux R.pend) ⟨r,n,[N]⟩ (st'.write (N+1) (.loop {R with st:=.exhausted})))) Q):Run C K (exR (C.code none (.rangef g ps a b) ⟨r,n,[]⟩ ⟨h,N,w⟩)) Q:=by
 obtain⟨v,st',e,p⟩:=hc.ex
 obtain⟨R,h1,h2,h3⟩:=k v st' p
 have e2:C.code none (.rangef g ps a b) ⟨r,n,[]⟩ ⟨h,N,w⟩=some (Yux R.pend,⟨r,n,[N]⟩,st'.write (N+1) (.loop {R with st:=.exhausted})):=by
  rw[Cx.code_eq]
  show Zep g ps a b C.call C.code none ⟨r,n,[]⟩ ⟨h,N,w⟩=_
  unfold Zep
  simp only[hg,hy,Zsg,St.alloc]
  unfold Yvp at e
  simp only[Yqm,if_false,e,h1,h2]
  unfold Yux
  rfl
 rw[e2]
 exact h3
def Yu7{C:Cx}{K:List Kf}{Q:Rs→Prop}{rs:List Ykp}{st:St}{e:Ex}{r:T V}{n d:Nat}{h1:T O}{n1:Nat}{w1:List Nat}(hd:h1.get d=some (.defs true))(he:∀i,e≠.exit i):Run C (.fin rs st::K) (some (.ex e ⟨r,n,[d]⟩ ⟨h1,n1,w1⟩)) Q↔Run C K (Yn4 (h1.set d (.defs false)) n1 (Zac st.n (d::w1)++st.w) (resV r ⟨h1.set d (.defs false),n1,d::w1⟩ rs)) Q:=Zav (by
 have:shut ⟨h1,n1,w1⟩ [d]=some ⟨h1.set d (.defs false),n1,d::w1⟩:=by
  unfold shut
  simp only[hd]
  rfl
 cases e with
 |exit i=>exact absurd rfl (he i)
 |normal=>
  simp only[unw,Zek,Zgq,this]
  rcases resV r _ rs with _|_<;>rfl
 |ret=>
  simp only[unw,Zek,Zgq,this]
  rcases resV r _ rs with _|_<;>rfl)
def Yvc{C:Cx}{l:Nat}{args:List V}{st:St}{R:Ymk}{r0:T V}{P:V→St→Prop}(hx:C.x (.yield l) args st=none)(hl:st.h.get l=some (.loop R))(hs:R.st=.ready)(hp:Zl8 R.r R.n R.ps args=some r0)(hc:Code C (some l) R.assign ⟨r0,R.n,[]⟩ st (fun e fr st1=>e=.normal∧st1.h.get l=some (.loop R)∧Code C (some l) R.body fr (st1.write l (.loop {R with st:=.busy})) (fun e2 _ st2=>∃R2,st2.h.get l=some (.loop R2)∧P (.bool (Zei e2).isNone) (st2.write l (.loop {R2 with st:=Zg2 (Zei e2),pend:=Zei e2}))))):Call C (.yield l) args st P:=by
 obtain⟨e,fr,st1,e1,rfl,g1,hb⟩:=hc.ex
 obtain⟨e2,fr2,st2,e3,R2,g2,p⟩:=hb.ex
 refine⟨_,_,?_,p⟩
 rw[Cx.call_eq]
 unfold Zd9
 rw[hx]
 show Zf0 C.code l args st=_
 unfold Zf0
 simp only[hl,hp,e1,g1,hs,if_true,e3,g2]
end
end Go.Mx
