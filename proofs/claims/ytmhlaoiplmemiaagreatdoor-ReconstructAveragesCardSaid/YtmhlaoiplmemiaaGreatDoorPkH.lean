/-Results of valid pokes-/
import Derived.Test.YtmhlaoiplmemiaaGreatDoorPkD
set_option linter.all false
namespace Go.Mx
open Go Go.Proofs
variable {S Z:Nat}
set_option maxHeartbeats 1000000
set_option maxRecDepth 1000000
noncomputable def A.w11:=A.q Tryz.f11
noncomputable def A.lb11_0:=A.ql A.w11 0 []
noncomputable def A.b11:=(fun x0=>A.qb A.w11 [x0]) A.lb11_0
def A.k11:=@A.kk 11 39 [.tmp 6,.tmp 7] A.b11 (by kernel_rfl) rfl
def Zj5{P:Prop}[Decidable P]{a:Int}(ha:a≠0)(h:(if P then a else 0)=0):¬P:=fun hp=>by
 rw[Yuu hp]at h
 exact ha h
def ShP(l:List Pk):Prop:=(l.length≤14∨256<l.length∧l.length≤258)∧∀p∈l,Yqy p=true
def Ztx{l:List Pk}(h:ShP l):l.length<1000∧∀p∈l,p.am.length≤24∧Zbb 6 p.sl=true:=by
 refine⟨by have:=h.1;omega,fun p hp=>?_⟩
 have:=h.2 p hp
 simp[Yqy]at this
 exact this
structure Yq9 (l:List Pk) (s z:Nat):Prop where
 s1:0<s
 s6:s≤6
 z1:0<z
 z16:z≤16
 l12:l.length≤14
 ok:∀p∈l,OkP p s z
 ne:∀k:Nat,k<z→0<(Zb3 l k).length
def Ykc{l:List Pk}{S Z:Int}(hsh:ShP l)(h:Zhr l S Z=0):S=(S.toNat:Int)∧Z=(Z.toNat:Int)∧Yq9 l S.toNat Z.toNat:=by
 obtain⟨b1,b2⟩:=Ztx hsh
 have hsh:=And.intro hsh.1 hsh.2
 unfold Zhr at h
 split at h
 ·rename_i h0
  split at h
  ·rename_i h1
   split at h
   ·rename_i h2
    unfold szE at h0
    have z0:=Za9 h0
    have a1:=Zj5 (by decide) (z0 _ Yvg)
    have a2:=Zj5 (by decide) (z0 _ (Yu1 _ Yvg))
    have a3:=Zj5 (by decide) (z0 _ (Yu1 _ (Yu1 _ Yvg)))
    have s1:S=(S.toNat:Int):=by omega
    have s2:Z=(Z.toNat:Int):=by omega
    have s3:S.toNat≤64:=by omega
    have hok:∀p∈l,OkP p S.toNat Z.toNat:=fun p hp=>by
     have c0:=Za9 h1 _ (List.mem_map_of_mem hp)
     unfold pkE at c0
     have z0:=Za9 c0
     have a1:=Zj5 (by decide) (z0 _ Yvg)
     have a2:=z0 _ (Yu1 _ Yvg)
     have a3:=Zj5 (by decide) (z0 _ (Yu1 _ (Yu1 _ Yvg)))
     have a4:=z0 _ (Yu1 _ (Yu1 _ (Yu1 _ Yvg)))
     have a2':chkNum p.am=0:=by simpa using a2
     split at a4
     ·rename_i a5
      have e1:=Za9 a4
      have e2:=(b2 p hp).2
      unfold Zbb at e2
      rw[Yu4,Yvk]at e2
      refine⟨by omega,by omega,a2',(b2 p hp).1,fun hc=>a3 ?_,by omega,fun s hs=>⟨?_,?_⟩⟩
      ·rw[←(Zhq a2').1,hc]
       rfl
      ·have:=e1 _ (List.mem_map_of_mem hs)
       simpa using this
      ·have:=e2.2 s hs
       simpa[Zl4]using this
     ·exact absurd a4 (by decide)
    have hne:∀k:Nat,k<Z.toNat→0<(Zb3 l k).length:=fun k hk=>by
     rw[Yvk]at h2
     have:=h2 k (Yws.2 hk)
     unfold Yfa at this
     rw[List.any_eq_true]at this
     obtain⟨p,hp,hq⟩:=this
     unfold Zb3
     rw[Yvn]
     exact List.length_pos_of_mem (List.mem_filter.2 ⟨hp,hq⟩)
    refine⟨s1,s2,by omega,?_,by omega,by omega,by omega,hok,hne⟩
    have hp0:=hne 0 (by omega)
    have hl0:0<l.length:=by have:=Zfp (l:=l) (k:=((0:Nat):Int));omega
    obtain⟨p,hp⟩:=Zaf hl0
    have hm:=Yux hp
    have e2:=(b2 p hm).2
    unfold Zbb at e2
    rw[Yu4]at e2
    have e3:=e2.1
    have e4:=(hok p hm).sl
    simp[Zev]at e3
    omega
   ·exact absurd h (by decide)
  ·rename_i hc
   exact absurd h hc
 ·rename_i hc
  exact absurd h hc
def Yac(l:List Pk)(S Z:Nat):List (List Rat):=(List.range Z).map fun k:Nat=>Zgq (Zb3 l (k:Int)) S
def Ydc(l:List Pk)(S Z:Nat):List (List Rat):=Ze5 (Yac l S Z) S
def Yej{l:List Pk}{k:Nat}:Yac l S (k+1)=Yac l S k++[Zgq (Zb3 l (k:Int)) S]:=by simp[Yac,List.range_succ]
def Zqu{l:List Pk}:(Yac l S Z).length=Z:=by simp[Yac]
def Ynp{l:List Pk}:∀r∈Yac l S Z,r.length=S:=fun r hr=>by
 obtain⟨k,_,rfl⟩:=Yvb.1 hr
 exact Zfy
def Zut{l:List Pk}{s z k:Nat}(h:Yq9 l s z)(hk:k<z):∀q∈Zgq (Zb3 l (k:Int)) s,Qb 2800 q:=fun q hq=>by
 have hl:=Zfp (l:=l) (k:=(k:Int))
 have:=h.l12
 exact(Yhe (Zl6 h.ok).2 (by decide) (h.ne k hk) (by omega) q hq).mono (by omega)
def Ymq{l:List Pk}{s z:Nat}(h:Yq9 l s z):QbM (Ydc l s z) 2800:=fun r hr q hq=>by
 have hc:QbM (Yac l s z) 2800:=fun r hr=>by
  obtain⟨k,hk,rfl⟩:=Yvb.1 hr
  exact Zut h (Yws.1 hk)
 unfold Ydc Ze5 at hr
 obtain⟨k,hk,rfl⟩:=Yvb.1 hr
 obtain⟨r,hr,rfl⟩:=Yvb.1 hq
 exact Zi0 (hc r hr) (by decide) k
def Yhr{l:List Pk}:(Ydc l S Z).length=S:=by simp[Ydc,Ze5]
def Ymp{l:List Pk}:∀r∈Ydc l S Z,r.length≤Z:=fun r hr=>by
 unfold Ydc Ze5 at hr
 obtain⟨k,hk,rfl⟩:=Yvb.1 hr
 rw[Zib,Yvn,Zqu]
 exact Yus _
def Zwq{h:T O}{N:Nat}{v:V}{l:List Pk}{S Z:Int}(hs:PkS h N v l)(hP:P10 h N)(hsh:ShP l):Fn A.C 11 [v,.int .i64 S,.int .i64 Z] h N (fun x h' n'=>∃v c,x=.tup [v,.int .i64 c]∧TPM (Zhr l S Z) (Ydc l S.toNat Z.toNat) v c h' n'):=by
 intro w
 obtain⟨b1,b2⟩:=Ztx hsh
 rw[Zaa,A.k11 (by simp)]
 simp(disch:=first|(simp;done)|omega|(simp only[Zac,Zad,Yuq];omega)|rfl) [-getElem?_pos,A.b11]
 refine Zab (Zkk hs (by omega) fun p hp=>⟨by have:=(b2 p hp).1;omega,(Zez (b2 p hp).2).1,(Zez (b2 p hp).2).2⟩) ?_
 rintro _ H1 n1 k1 rfl
 by_cases hE:Zhr l S Z=0
 ·obtain⟨e1,e2,hO⟩:=Ykc hsh hE
  rw[hE]
  generalize S.toNat=s at*
  generalize Z.toNat=z at*
  subst e1 e2
  have hz16:=hO.z16
  simp(disch:=first|(simp;done)|omega|(simp only[Zac,Zad,Yuq];omega)|rfl) [-getElem?_pos,Zae]
  refine Zab (Zlh (hs.keep k1) b1 hO.ok (by have:=hO.s6;omega)) ?_
  rintro _ H2 n2 k2 ⟨ks,rfl,hM⟩
  simp(disch:=first|(simp;done)|omega|(simp only[Zac,Zad,Yuq];omega)|rfl) [-getElem?_pos,]
  refine Zag [(10,11),(22,32)] (fun e r st=>e=.exit 0∧oldIds n2 st.w=[]∧Keeps H2 n2 st.h st.n∧∃v,r.get 10=some v∧MfO n2 st.h st.n v (Yac l s z)) (fun i r st=>oldIds n2 st.w=[]∧Keeps H2 n2 st.h st.n∧∃k v,k+i=z∧r.get 22=some (.int .i64 (k:Nat))∧r.get 10=some v∧MfO n2 st.h st.n v (Yac l s k)) z ?_ ?_ ?_
  ·exact⟨by simp,Keeps.refl,0,_,by omega,by simp,by simp,MfO.nil⟩
  ·rintro i r ⟨H,n,W⟩ hr hf ⟨hW,hK,k,v,hk,h22,h10,hQ⟩
   simp only at hW hK hQ
   rw[Zah]
   have ln:=hK.le
   cases i with
   |zero=>
    obtain rfl:k=z:=by omega
    simp(disch:=first|(simp;done)|omega|(simp only[Zac,Zad,Yuq];omega)|rfl) [-getElem?_pos,A.lb11_0,hr,hf,h22,h10,hW,hK]
    exact hQ
   |succ i=>
    have hlt:k<z:=by omega
    have hlt':(k:Int)<(z:Int):=by omega
    have hM3:=hM.keep hK
    have hlk:=fun w=>Yhm (n:=n) (w:=w) (a:=(k:Int)) hM3.map
    have hrl:=Zfp (l:=l) (k:=(k:Int))
    have hl12:=hO.l12
    obtain⟨rc,rq⟩:=Zl6 (l:=l) (S:=s) (Z:=z) (k:=(k:Int)) hO.ok
    simp(disch:=first|(simp;done)|omega|(simp only[Zac,Zad,Yuq];omega)|rfl) [-getElem?_pos,A.lb11_0,hr,hf,h22,h10,hlt,hlt',hlk]
    refine Zab (Yct (hM3.mat (k:Int)).mfs (hO.ne k hlt) (by omega) rc (by have:=hO.s6;omega) (by decide) rq (by omega)) ?_
    rintro y H3 n3 k3 hy
    have le3:=k3.le
    obtain⟨f1,f2,f3⟩:=hy.1.form
    have kD:Keeps H3 n3 (H3.set n3 (.cells [y] 79 true)) (n3+1):=Keeps.refl.new _
    have sp1:splice [V.nilslice] 0 [y]=[y]:=rfl
    obtain⟨v',h',w',j1,j2,j3,j4⟩:=MfO.push (N0:=n2) (x:=.slice n3 0 1 (some 1) 1) (w:=W) ((hQ.keep k3).keep kD) (hy.keep kD) (by omega) (by simp[Zat,St.row,slc]) (by rw[Zqu];omega)
    simp(disch:=first|(simp;done)|omega|(simp only[Zac,Zad,Yuq];omega)|rfl) [-getElem?_pos, -V.cells, -V.one,hr,hf,h22,h10,sp1,f1,f2,Zbs,j1]
    refine⟨i,by omega,by rw[j2];exact hW,((hK.trans k3).trans kD).then j3,k+1,by omega,by simp,by rw[Yej];exact j4⟩
  ·rintro _ r ⟨H,n,W⟩ hr ⟨rfl,hW,hK,v,h10,hQ⟩
   simp only at hW hK hQ
   have hKK:=(k1.trans k2).trans hK
   simp(disch:=first|(simp;done)|omega|(simp only[Zac,Zad,Yuq];omega)|rfl) [-getElem?_pos,hr,h10]
   refine Zab (Ygk hQ.mfs (by rw[Zqu];omega) Ynp (by have:=hO.s6;omega)) ?_
   rintro y H4 n4 k4 hy
   simp(disch:=first|(simp;done)|omega|(simp only[Zac,Zad,Yuq];omega)|rfl) [-getElem?_pos,hr]
   refine Zab (Ygl hy.mfs ((hP.keep hKK).keep k4) (by show (Ydc l s z).length<_;rw[Yhr];have:=hO.s6;omega) (fun r hr=>by have:=Ymp r hr;omega) (Ymq hO) (by decide)) ?_
   rintro x H5 n5 k5 hx
   have hfin:=(hKK.trans k4).trans k5
   have le2:=(k1.trans k2).le
   have hw:oldIds N W=[]:=Znf fun j hj=>by have:=Yb5 hW j hj;omega
   rcases hx with⟨a,rfl⟩|⟨a,v',rfl,t⟩
   ·simp(disch:=first|(simp;done)|omega|(simp only[Zac,Zad,Yuq];omega)|rfl) [-getElem?_pos,hr,Ret,hfin]
    exact⟨hw,.nilslice,4,⟨rfl,rfl⟩,.inr ⟨rfl,.inl ⟨a,rfl,rfl⟩⟩⟩
   ·simp(disch:=first|(simp;done)|omega|(simp only[Zac,Zad,Yuq];omega)|rfl) [-getElem?_pos,hr,Ret,hfin]
    exact⟨hw,v',0,⟨rfl,rfl⟩,.inr ⟨rfl,.inr ⟨a,rfl,t⟩⟩⟩
 ·simp(disch:=first|(simp;done)|omega|(simp only[Zac,Zad,Yuq];omega)|rfl) [-getElem?_pos,hE,Zae,Ret,k1]
  exact⟨.nilslice,_,⟨rfl,rfl⟩,.inl ⟨hE,rfl,rfl⟩⟩
variable {N:Nat} {d l r:List Rat} {h:T O} {v:V}
set_option maxHeartbeats 4000000
noncomputable def A.w12:=A.q Tryz.f12
noncomputable def A.lb12_0:=A.ql A.w12 1 []
noncomputable def A.lb12_1:=(fun x0=>A.ql A.w12 0 [x0]) A.lb12_0
noncomputable def A.b12:=(fun x0=>A.qb A.w12 [x0]) A.lb12_1
def A.k12:=@A.kk 12 61 [.tmp 6,.tmp 7] A.b12 (by kernel_rfl) rfl
def FrO(N0:Nat)(h:T O)(N:Nat)(v:V)(l:List Rat):Prop:=∃cs:List (List V),Own 4 95 N0 h N v cs∧(cs=[]→v=.nilslice)∧cs.length=l.length∧∀(j:Nat) (q:Rat),l[j]?=some q→∃c,cs[j]?=some c∧FcC h N c q
def FrO.nil{N0:Nat}:FrO N0 h N .nilslice []:=⟨[],Own.nil,fun _=>rfl,rfl,fun j l hl=>by simp at hl⟩
def FrO.keep{N0:Nat}{h':T O}{N':Nat}(s:FrO N0 h N v l)(k:Keeps h N h' N'):FrO N0 h' N' v l:=by
 obtain⟨cs,h1,h2,h3,h4⟩:=s
 refine⟨cs,h1.keep k,h2,h3,fun j q hq=>?_⟩
 obtain⟨c,g1,g2⟩:=h4 j q hq
 exact⟨c,g1,g2.keep k⟩
def FrO.frs{N0:Nat}(s:FrO N0 h N v l):FrS h N v l:=by
 obtain⟨cs,h1,h2,h3,h4⟩:=s
 exact⟨cs,h1.sn,h3,h4⟩
def FrO.push{N0:Nat}{x:V}{c:List V}{q:Rat}{w:List Nat}(s:FrO N0 h N v l)(hc:FcC h N c q)(hN:N0≤N)(hx:Zat ⟨h,N,w⟩ 4 x=some (1,c))(hl:l.length<100000):
  ∃v' h' w',Za6 ⟨h,N,w⟩ 4 64 95 v x=some (v',⟨h',N+1,w'⟩)∧oldIds N0 w'=oldIds N0 w∧Keeps h N0 h' (N+1)∧FrO N0 h' (N+1) v' (l++[q]):=by
 obtain⟨cs,h1,h2,h3,h4⟩:=s
 obtain⟨v',h',w',f1,f2,f3,f4,fD,f5⟩:=Zco (Y:=NW) (x:=c) (u:=x) (bytes:=64) (w:=w) h1 h2 (fun c hc y hy=>by
  obtain⟨j,hj⟩:=Ywg hc
  obtain⟨r,hr⟩:=Zaf (l:=l) (k:=j) (by have:=Zaz hj;omega)
  obtain⟨c',g1,g2⟩:=h4 j r hr
  rw[hj]at g1
  obtain rfl:c=c':=by simpa using g1
  exact g2.noU y hy) hN (by decide) hc.len.1 hx (by omega)
 refine⟨v',h',w',f1,f2,f3,cs++[c],f5,by simp,by simp[h3],fun j r hr=>?_⟩
 by_cases hj:j<l.length
 ·rw[Yu7 hj]at hr
  obtain⟨c',g1,g2⟩:=h4 j r hr
  exact⟨c',by rw[Yu7 (by omega)];exact g1,g2.moved f4 fD⟩
 ·rw[Yvj (by omega)]at hr
  cases hd:j-l.length with
  |zero=>
   rw[hd]at hr
   simp at hr
   subst hr
   exact⟨c,by rw[Yvj (by omega),h3,hd];rfl,hc.moved f4 fD⟩
  |succ d=>rw[hd]at hr;simp at hr
def Zmc(r d:List Rat):List Rat:=Zta (fun x y=>x-y) r d r.length
def Zz8(m:List (List Rat))(d:List Rat):Rat:=m.foldl (fun a r=>a+Zsq (Zmc r d) (Zmc r d)) 0
def Zvz(l:List Pk)(S Z:Nat):List Rat:=(List.range Z).map fun k:Nat=>Zz8 (Zb3 l (k:Int)) (Zgq (Zb3 l (k:Int)) S)
def Ybe{l:List Pk}{S k:Nat}:Zvz l S (k+1)=Zvz l S k++[Zz8 (Zb3 l (k:Int)) (Zgq (Zb3 l (k:Int)) S)]:=by simp[Zvz,List.range_succ]
def Zvy{l:List Pk}{S Z:Nat}:(Zvz l S Z).length=Z:=by simp[Zvz]
def Zp8{m:List (List Rat)}:Zz8 (m++[r]) d=Zz8 m d+Zsq (Zmc r d) (Zmc r d):=by simp[Zz8]
def Zkb:(Zmc r d).length=r.length:=Zf5
def Zu4{j k:Nat}(hr:∀q∈r,Qb j q)(hd:∀q∈d,Qb k q)(hj:1≤j)(hk:1≤k):∀q∈Zmc r d,Qb (j+k+1) q:=fun q hq=>by
 unfold Zmc Zta at hq
 obtain⟨i,_,rfl⟩:=Yvb.1 hq
 exact(Zi0 hr hj i).sub (Zi0 hd hk i)
def Zwy{d:List Rat}:∀{m:List (List Rat)} {a:Rat} {j K:Nat},Qb j a→(∀r∈m,Qb K (Zsq (Zmc r d) (Zmc r d)))→1≤j→1≤K→Qb (j+m.length*(K+1)) (m.foldl (fun a r=>a+Zsq (Zmc r d) (Zmc r d)) a)
 |[],a,j,K,ha,_,_,_=>by simpa using ha
 |r::t,a,j,K,ha,hm,hj,hK=>by
  rw[List.foldl_cons]
  have:=Zwy (ha.add (hm r Yvg)) (fun x hx=>hm x (Yu1 _ hx)) (by omega) hK
  have e:j+K+1+t.length*(K+1)=j+(r::t).length*(K+1):=by rw[Yuq,Yvv,Nat.one_mul];omega
  rw[←e]
  exact this
def Ybb{m:List (List Rat)}{s:Nat}(hc:RcN m s)(hs:s≤6)(hm:QbM m 192)(hd:∀q∈d,Qb 2800 q):Qb (1+m.length*35924) (Zz8 m d):=Zwy (j:=1) (K:=35923) Qb.zero (fun r hr=>(Zu6 (j:=2993) (k:=2993) (n:=6) (Zu4 (hm r hr) hd (by decide) (by decide)) (Zu4 (hm r hr) hd (by decide) (by decide)) (by decide) (by decide) (by rw[Zkb,hc r hr];exact hs)).mono (by decide)) (by decide) (by decide)
def Yk5{l:List Pk}{s z:Nat}(h:Yq9 l s z):∀q∈Zvz l s z,Qb 400000000 q:=fun q hq=>by
 unfold Zvz at hq
 obtain⟨k,hk,rfl⟩:=Yvb.1 hq
 obtain⟨rc,rq⟩:=Zl6 (l:=l) (S:=s) (Z:=z) (k:=(k:Int)) h.ok
 have hl:=Zfp (l:=l) (k:=(k:Int))
 have:=h.l12
 exact(Ybb rc h.s6 rq (Zut h (Yws.1 hk))).mono (by omega)
def Yta{H:T O}{n:Nat}{c:List V}{e:TypeId}{rw:Bool}{w:List Nat}(h:c.length=4):Zat ⟨H.set n (.cells c e rw),n+1,w⟩ 4 (.slice n 0 1 (some 1) 4)=some (1,c):=by
 simp only[Zat,St.row,T.get_set,if_true]
 unfold slc
 simp[h]
 exact Yuy (by omega)
def Ybc{l:List Pk}{S Z:Int}(hs:PkS h N v l)(hP:P10 h N)(hsh:ShP l):Fn A.C 12 [v,.int .i64 S,.int .i64 Z] h N (fun x h' n'=>∃v c,x=.tup [v,.int .i64 c]∧TP (Zhr l S Z) (Zvz l S.toNat Z.toNat) v c h' n'):=by
 intro w
 obtain⟨b1,b2⟩:=Ztx hsh
 rw[Zaa,A.k12 (by simp)]
 simp(disch:=first|(simp;done)|omega|(simp only[Zac,Zad,Yuq];omega)|rfl) [-getElem?_pos,A.b12]
 refine Zab (Zkk hs (by omega) fun p hp=>⟨by have:=(b2 p hp).1;omega,(Zez (b2 p hp).2).1,(Zez (b2 p hp).2).2⟩) ?_
 rintro _ H1 n1 k1 rfl
 by_cases hE:Zhr l S Z=0
 ·obtain⟨e1,e2,hO⟩:=Ykc hsh hE
  rw[hE]
  generalize S.toNat=s at*
  generalize Z.toNat=z at*
  subst e1 e2
  have hz16:=hO.z16
  have hs6:=hO.s6
  simp(disch:=first|(simp;done)|omega|(simp only[Zac,Zad,Yuq];omega)|rfl) [-getElem?_pos,Zae]
  refine Zab (Zlh (hs.keep k1) b1 hO.ok (by omega)) ?_
  rintro _ H2 n2 k2 ⟨ks,rfl,hM⟩
  simp(disch:=first|(simp;done)|omega|(simp only[Zac,Zad,Yuq];omega)|rfl) [-getElem?_pos,]
  refine Zag [(10,13),(15,16),(27,56)] (fun e r st=>e=.exit 0∧oldIds n2 st.w=[]∧Keeps H2 n2 st.h st.n∧∃v,r.get 10=some v∧FrO n2 st.h st.n v (Zvz l s z)) (fun i r st=>oldIds n2 st.w=[]∧Keeps H2 n2 st.h st.n∧∃k v,k+i=z∧r.get 27=some (.int .i64 (k:Nat))∧r.get 10=some v∧FrO n2 st.h st.n v (Zvz l s k)) z ?_ ?_ ?_
  ·exact⟨by simp,Keeps.refl,0,_,by omega,by simp,by simp,FrO.nil⟩
  ·rintro i r ⟨H,n,W⟩ hr hf ⟨hW,hK,k,v,hk,h27,h10,hQ⟩
   simp only at hW hK hQ
   rw[Zah]
   have ln:=hK.le
   cases i with
   |zero=>
    obtain rfl:k=z:=by omega
    simp(disch:=first|(simp;done)|omega|(simp only[Zac,Zad,Yuq];omega)|rfl) [-getElem?_pos,A.lb12_1,hr,hf,h27,h10,hW,hK]
    exact hQ
   |succ i=>
    have hlt:k<z:=by omega
    have hlt':(k:Int)<(z:Int):=by omega
    have hM3:=hM.keep hK
    have hlk:=fun w=>Yhm (n:=n) (w:=w) (a:=(k:Int)) hM3.map
    have hrl:=Zfp (l:=l) (k:=(k:Int))
    have hl12:=hO.l12
    obtain⟨rc,rq⟩:=Zl6 (l:=l) (S:=s) (Z:=z) (k:=(k:Int)) hO.ok
    simp(disch:=first|(simp;done)|omega|(simp only[Zac,Zad,Yuq];omega)|rfl) [-getElem?_pos,A.lb12_1,hr,hf,h27,h10,hlt,hlt',hlk]
    refine Zab (Yct (hM3.mat (k:Int)).mfs (hO.ne k hlt) (by omega) rc (by omega) (by decide) rq (by omega)) ?_
    rintro y H3 n3 k3 hy
    have le3:=k3.le
    simp(disch:=first|(simp;done)|omega|(simp only[Zac,Zad,Yuq];omega)|rfl) [-getElem?_pos,]
    refine Zab (Yh2 (by decide) (by decide)) ?_
    rintro _ H4 n4 k4 hz
    have le4:=k4.le
    obtain⟨c,rfl,hc⟩:=hz.c
    obtain⟨c1,c2⟩:=hc.len
    have hcc:∀c:List V,(V.agg c).cells=c:=fun _=>rfl
    have e4:=Ya1 c1
    simp(disch:=first|(simp;done)|omega|(simp only[Zac,Zad,Yuq];omega)|rfl) [-getElem?_pos, -V.cells, -V.one,hr,hf,hcc,c1,c2,e4,Zak]
    generalize hG:(H4.set n4 (.cells [.int .i64 0,.nilslice,.int .i64 0,.nilslice] 95 true)).set n4 (.cells c 95 true)=G
    have kA:Keeps H4 n4 G (n4+1):=by rw[←hG];exact(Keeps.refl.new _).set (Yus _)
    have gA:G.get n4=some (.cells c 95 true):=by rw[←hG,T.get_set,Yuu rfl]
    clear hG
    have hM4:=(hM3.keep k3).keep k4
    have hM5:=hM4.keep kA
    have hlk2:=fun w=>Yhm (n:=n4+1) (w:=w) (a:=(k:Int)) hM5.map
    have hml:=(hM5.mat (k:Int)).mfs.len
    have hy4:=hy.keep k4
    simp(disch:=first|(simp;done)|omega|(simp only[Zac,Zad,Yuq];omega)|rfl) [-getElem?_pos, -V.cells, -V.one,hr,hf,hlk2,hml]
    refine Zag [(15,16),(39,51)] (fun e r1 st=>e=.exit 2∧oldIds n2 st.w=[]∧Keeps H4 n4 st.h st.n∧n4<st.n∧∃c,st.h.get n4=some (.cells c 95 true)∧FcC st.h st.n c (Zz8 (Zb3 l (k:Int)) (Zgq (Zb3 l (k:Int)) s))) (fun i r1 st=>oldIds n2 st.w=[]∧Keeps H4 n4 st.h st.n∧n4<st.n∧∃t c,t+i=(Zb3 l (k:Int)).length∧r1.get 39=some (.int .i64 (t:Nat))∧st.h.get n4=some (.cells c 95 true)∧FcC st.h st.n c (Zz8 ((Zb3 l (k:Int)).take t) (Zgq (Zb3 l (k:Int)) s))) (Zb3 l (k:Int)).length ?_ ?_ ?_
    ·refine⟨?_,kA,by show n4<n4+1;omega,0,c,by omega,by simp,gA,hc.keep kA⟩
     have d4:¬n4<n2:=by omega
     show oldIds n2 (n4::W)=[]
     simp[oldIds,hW,d4]
    ·rintro i1 r1 ⟨H5,n5,W5⟩ hr1 hf1 ⟨hW5,hK5,hn5,t,c5,ht,h39,g5,hc5⟩
     simp only at hW5 hK5 hn5 g5 hc5
     rw[Zah]
     cases i1 with
     |zero=>
      obtain rfl:t=(Zb3 l (k:Int)).length:=by omega
      rw[Yuy (Yus _)]at hc5
      simp(disch:=first|(simp;done)|omega|(simp only[Zac,Zad,Yuq];omega)|rfl) [-getElem?_pos,A.lb12_0,hr1,hf1,hr,hf,h39,hW5,hK5,hn5]
      exact⟨c5,g5,hc5⟩
     |succ i1=>
      have hlt1:t<(Zb3 l (k:Int)).length:=by omega
      have hlt1':(t:Int)<((Zb3 l (k:Int)).length:Int):=by omega
      obtain⟨row,hrow⟩:=Zaf hlt1
      have hrm:=Yux hrow
      obtain⟨i3,o3,cc,e3,w3,x,p1,p2,p3,p4,p5⟩:=Zqa ((hM4.mat (k:Int)).mfs.keep hK5) hrow
      have md:=Zut hO hlt
      have rlen:=rc row hrm
      have rqb:=rq row hrm
      simp(disch:=first|(simp;done)|omega|(simp only[Zac,Zad,Yuq];omega)|rfl) [-getElem?_pos,A.lb12_0,hr1,hf1,hr,hf,h39,hlt1,hlt1',hml,p1,p2,p3,p4]
      refine Zab (Yda (fun x y=>x-y) p5.1 (hy4.keep hK5).1 (by rw[Zfy,rlen];exact Yus _) (fun x hx y hy h' n' ca cb k' ha hb=>?_) (by omega)) ?_
      ·have w1:=(rqb x hx).wls
       have w2:=(md y hy).wls
       exact Ymy ha.fc hb.fc (by omega) (by omega) (by omega) (by omega)
      rintro u H6 n6 k6 hu
      have hu:FrT H6 n6 u (Zmc row (Zgq (Zb3 l (k:Int)) s)):=hu
      have le6:=k6.le
      have g6:=(k6.get n4 hn5).trans g5
      have s0:=Yfz hc5.len.1
      have fq:=Zu4 rqb md (by decide) (by decide)
      simp(disch:=first|(simp;done)|omega|(simp only[Zac,Zad,Yuq];omega)|rfl) [-getElem?_pos, -V.cells, -V.one,hr1,hf1,hr,hf,g6,s0]
      refine Zab (Yj5 hu.1 hu.1 (Yus _) fq fq (by decide) (by decide) (by rw[Zkb,rlen];omega)) ?_
      rintro dv H7 n7 k7 hdv
      have le7:=k7.le
      have hsq:=Ybb (m:=(Zb3 l (k:Int)).take t) (fun r hr=>rc r (Ywq hr)) hs6 (fun r hr=>rq r (Ywq hr)) md
      have hdq:=Zu6 (n:=6) fq fq (by decide) (by decide) (by rw[Zkb,rlen];exact hs6)
      have w1:=hsq.wls
      have w2:=hdq.wls
      have htl:((Zb3 l (k:Int)).take t).length≤14:=by rw[Yvh];omega
      simp(disch:=first|(simp;done)|omega|(simp only[Zac,Zad,Yuq];omega)|rfl) [-getElem?_pos,]
      refine Zab (Zqo (((hc5.keep k6).keep k7).fc) hdv (by omega) (by omega) (by omega) (by omega)) ?_
      rintro _ H8 n8 k8 hs8
      obtain⟨c8,rfl,hc8⟩:=hs8.c
      obtain⟨f1,f2⟩:=hc8.len
      have le8:=k8.le
      have g8:=(k8.get n4 (by omega)).trans ((k7.get n4 (by omega)).trans g6)
      have f3:=hc5.len.1
      have e5:splice c5 0 c8=c8:=by unfold splice;rw[f1];simp[f3]
      have d2:n4<n8:=by omega
      have d3:n4<n6:=by omega
      simp(disch:=first|(simp;done)|omega|(simp only[Zac,Zad,Yuq];omega)|rfl) [-getElem?_pos, -V.cells, -V.one,hr1,hf1,hr,hf,h39,hcc,f1,f2,f3,e5,g8,Zak]
      refine(Zij (by simp[-oldIds,d3,d2,Zid,Zfx])).2 ?_
      simp(disch:=first|(simp;done)|omega|(simp only[Zac,Zad,Yuq];omega)|rfl) [-getElem?_pos,hr1,hf1,hr,hf,h39,d2]
      have d4:¬n4<n2:=by omega
      refine⟨i1,by omega,by simp[oldIds,hW5,d4],(((hK5.trans k6).trans k7).trans k8).set (Yus _),t+1,by omega,by simp,?_⟩
      rw[Yw0,hrow]
      show FcC _ _ _ (Zz8 ((Zb3 l (k:Int)).take t++[row]) _)
      rw[Zp8]
      exact hc8.setNU g8 hc5.noU (by rw[f1,f3])
    ·rintro _ r1 ⟨H5,n5,W5⟩ hr1 ⟨rfl,hW5,hK5,hn5,c5,g5,hc5⟩
     simp only at hW5 hK5 hn5 g5 hc5
     have s0:=Yfz hc5.len.1
     obtain⟨f1,f2⟩:=hc5.len
     have e5:=Ya1 f1
     have kD:Keeps H5 n5 (H5.set n5 (.cells c5 95 true)) (n5+1):=Keeps.refl.new _
     have kF:=(hK.trans k3).trans (k4.trans hK5)
     have le5:=hK5.le
     obtain⟨v',h',w',j1,j2,j3,j4⟩:=FrO.push (N0:=n2) (x:=.slice n5 0 1 (some 1) 4) (w:=W5) ((hQ.keep (k3.trans (k4.trans hK5))).keep kD) (hc5.keep kD) (by omega) (Yta f1) (by rw[Zvy];omega)
     have hfi:=hf.inner (D':=[(15,16),(39,51)]) rfl (by simp) hr1
     simp(disch:=first|(simp;done)|omega|(simp only[Zac,Zad,Yuq];omega)|rfl) [-getElem?_pos, -V.cells, -V.one,hr1,hfi,hr,hf,h27,h10,hcc,g5,s0,f1,f2,e5,Zbs,j1]
     refine⟨i,by omega,by rw[j2];exact hW5,(kF.trans kD).then j3,k+1,by omega,by simp,by rw[Ybe];exact j4⟩
  ·rintro _ r ⟨H,n,W⟩ hr ⟨rfl,hW,hK,v,h10,hQ⟩
   simp only at hW hK hQ
   have hKK:=(k1.trans k2).trans hK
   simp(disch:=first|(simp;done)|omega|(simp only[Zac,Zad,Yuq];omega)|rfl) [-getElem?_pos,hr,h10]
   refine Zab (Yas hQ.frs (hP.keep hKK) (by rw[Zvy];omega) (Yk5 hO) (Yus _)) ?_
   rintro x H5 n5 k5 hx
   have hfin:=hKK.trans k5
   have le2:=(k1.trans k2).le
   have hw:oldIds N W=[]:=Znf fun j hj=>by have:=Yb5 hW j hj;omega
   rcases hx with⟨a,rfl⟩|⟨a,v',rfl,t⟩
   ·simp(disch:=first|(simp;done)|omega|(simp only[Zac,Zad,Yuq];omega)|rfl) [-getElem?_pos,hr,Ret,hfin]
    exact⟨hw,.nilslice,4,⟨rfl,rfl⟩,.inr ⟨rfl,.inl ⟨a,rfl,rfl⟩⟩⟩
   ·simp(disch:=first|(simp;done)|omega|(simp only[Zac,Zad,Yuq];omega)|rfl) [-getElem?_pos,hr,Ret,hfin]
    exact⟨hw,v',0,⟨rfl,rfl⟩,.inr ⟨rfl,.inr ⟨a,rfl,t⟩⟩⟩
 ·simp(disch:=first|(simp;done)|omega|(simp only[Zac,Zad,Yuq];omega)|rfl) [-getElem?_pos,hE,Zae,Ret,k1]
  exact⟨.nilslice,_,⟨rfl,rfl⟩,.inl ⟨hE,rfl,rfl⟩⟩
variable {D:Nat}
def Zsu{a b:Int}(hb:b≠0):(Rat.divInt a b).num.natAbs≤a.natAbs∧(Rat.divInt a b).den≤b.natAbs:=by
 constructor
 ·rw[Rat.num_divInt,Int.natAbs_ediv_of_dvd]
  ·rw[Yv6]
   have:b.sign.natAbs=1:=by rw[Int.natAbs_sign,Yur hb]
   rw[this,Nat.one_mul]
   exact Yv9 _ _
  ·exact Int.dvd_trans (Int.gcd_dvd_right ..) (Int.dvd_mul_left ..)
 ·rw[Rat.den_divInt,Yur hb]
  exact Yv9 _ _
structure Bnd (A B:Nat) (q:Rat):Prop where
 num:q.num.natAbs≤A
 den:q.den≤B
def Bnd.mul{A B C:Nat}{p q:Rat}(hp:Bnd A B p)(hq:Bnd C D q):Bnd (A*C) (B*D) (p*q):=by
 have hp0:((p.den:Nat):Int)≠0:=by have:=p.den_nz;omega
 have hq0:((q.den:Nat):Int)≠0:=by have:=q.den_nz;omega
 rw[←Ywr p,←Ywr q,Rat.divInt_mul_divInt]
 obtain⟨h1,h2⟩:=Zsu (a:=p.num*q.num) (Yx2 hp0 hq0)
 rw[Yv6]at h1 h2
 exact⟨Yv4 h1 (Ywb hp.num hq.num),Yv4 h2 (by rw[Yuw,Yuw];exact Ywb hp.den hq.den)⟩
def Bnd.add{A B C:Nat}{p q:Rat}(hp:Bnd A B p)(hq:Bnd C D q):Bnd (A*D+C*B) (B*D) (p+q):=by
 have hp0:((p.den:Nat):Int)≠0:=by have:=p.den_nz;omega
 have hq0:((q.den:Nat):Int)≠0:=by have:=q.den_nz;omega
 rw[←Ywr p,←Ywr q,Rat.divInt_add_divInt _ _ hp0 hq0]
 obtain⟨h1,h2⟩:=Zsu (a:=p.num*(q.den:Int)+q.num*(p.den:Int)) (Yx2 hp0 hq0)
 refine⟨Yv4 h1 (Yv4 (Int.natAbs_add_le ..) ?_),Yv4 h2 ?_⟩
 ·rw[Yv6,Yv6,Yuw,Yuw]
  exact Nat.add_le_add (Ywb hp.num hq.den) (Ywb hq.num hp.den)
 ·rw[Yv6,Yuw,Yuw]
  exact Ywb hp.den hq.den
def Bnd.neg{A B:Nat}{q:Rat}(h:Bnd A B q):Bnd A B (-q):=⟨by rw[Rat.neg_num,Yxf];exact h.num,by rw[Rat.neg_den];exact h.den⟩
def Bnd.int{z:Int}:Bnd z.natAbs 1 (z:Rat):=⟨by simp,by simp⟩
def Bnd.mono{A B C:Nat}{q:Rat}(h:Bnd A B q)(h1:A≤C)(h2:B≤D):Bnd C D q:=⟨Yv4 h.num h1,Yv4 h.den h2⟩
def Bnd.txt{A B a b:Nat}{q:Rat}(h:Bnd A B q)(hA:A<10^a)(hB:B<10^b)(ha:0<a)(hb:0<b):(Zas q).length≤a+b+2:=by
 have h1:=(Zb2 (n:=q.num.natAbs) ha).2 (Yvl h.num hA)
 have h2:=(Zb2 (n:=q.den) hb).2 (Yvl h.den hB)
 have h3:(decI q.num).length≤(decN q.num.natAbs).length+1:=by
  unfold decI
  split<;>simp
 unfold Zas
 split
 ·omega
 ·simp
  omega
def Bnd.big{A B:Nat}{q:Rat}(h:Bnd A B q)(hA:A<10^600)(hB:B<10^600):Zxf q=false:=by
 have h1:=(Zb2 (n:=q.num.natAbs) (k:=600) (by decide)).2 (Yvl h.num hA)
 have h2:=(Zb2 (n:=q.den) (k:=600) (by decide)).2 (Yvl h.den hB)
 unfold Zxf
 simp
 omega
def pmo{A a b:Nat}(h:A<10^a)(hab:a≤b):A<10^b:=Yu0 h (Yvs (by decide) hab)
def Yyn{A:Nat}(h:A<10^20):A<10^600:=pmo (a:=20) (b:=600) h (by decide)
def Yj0{s:Str}(h:Zsp s 4=true):chkNum s=0∧s.length≤10∧Bnd 9999 9999 (Zfb s):=by
 unfold Zsp Yp1 at h
 simp only[Yu4,decide_eq_true_eq]at h
 obtain⟨h1,h2,h3,h4⟩:=h
 have h3:=(Zb2 (n:=(Zfb s).num.natAbs) (k:=4) (by decide)).1 h3
 have h4:=(Zb2 (n:=(Zfb s).den) (k:=4) (by decide)).1 h4
 exact⟨h2,by omega,by omega,by omega⟩
variable {S i n:Nat} {a b:List Rat} {m:List (List Rat)} {x:Rat}
def Ynd(h:a.length=n):Zsq a b=sN (fun l=>a[l]?.getD 0*b[l]?.getD 0) n:=by
 unfold Zsq
 rw[h,Yj4]
def Zww(hl:a.length=b.length)(h:∀i,i<a.length→a[i]?.getD 0=b[i]?.getD 0):a=b:=by
 apply List.ext_getElem hl
 intro i h1 h2
 have:=h i h1
 rwa [Yut h1,Yut h2]at this
def Yad{F:Rat→Rat→Rat}(hi:i<n):(Zta F a b n)[i]?.getD 0=F (a[i]?.getD 0) (b[i]?.getD 0):=by
 simp[Zta,hi]
def Yn7{r:List Rat}(hi:i<a.length):(Ye2 a r)[i]?.getD 0=a[i]?.getD 0+r[i]?.getD 0:=Yad hi
def Ydo{i:Nat}:∀{m:List (List Rat)} {a:List Rat},i<a.length→(m.foldl Ye2 a)[i]?.getD 0=m.foldl (fun s r=>s+r[i]?.getD 0) (a[i]?.getD 0)
 |[],_,_=>rfl
 |r::m,a,hi=>by
  show (m.foldl Ye2 (Ye2 a r))[i]?.getD 0=m.foldl (fun s r=>s+r[i]?.getD 0) (a[i]?.getD 0+r[i]?.getD 0)
  rw[Ydo (by unfold Ye2;rw[Zf5];exact hi),Yn7 hi]
def Zk6{x:Rat}{i:Nat}:∀{m:List (List Rat)} {s:Rat},(∀r∈m,r[i]?.getD 0=x)→m.foldl (fun s r=>s+r[i]?.getD 0) s=s+((m.length:Int):Rat)*x
 |[],s,_=>by simp[Rat.add_zero]
 |r::m,s,h=>by
  show m.foldl (fun s r=>s+r[i]?.getD 0) (s+r[i]?.getD 0)=_
  rw[Zk6 fun r hr=>h r (Yu1 _ hr),h r (by simp)]
  simp only[Yuq,Int.natCast_add,Rat.intCast_add]
  grind
def Yi7(hi:i<S):(Zto m S)[i]?.getD 0=m.foldl (fun s r=>s+r[i]?.getD 0) 0:=by
 unfold Zto
 rw[Ydo (by simpa using hi)]
 simp[hi]
def Yjq(h:0<n):((n:Int):Rat)≠0:=by
 intro hc
 have:(n:Int)=0:=by exact_mod_cast hc
 omega
def Zk5{c:List Rat}(h0:0<m.length)(hc:c.length=S)(h:∀r∈m,r=c):Zgq m S=c:=by
 refine Zww (by rw[Zfy,hc]) fun i hi=>?_
 rw[Zfy]at hi
 unfold Zgq
 have hs:i<(Zto m S).length:=by rw[Zhx];exact hi
 rw[Yvd,Yut hs]
 have e:=Yi7 (m:=m) hi
 rw[Yut hs]at e
 simp only[Yxj,Yw4]at e ⊢
 rw[e,Zk6 (x:=c[i]?.getD 0) fun r hr=>by rw[h r hr],Rat.zero_add,Rat.mul_comm,Rat.div_def,Rat.mul_assoc,Rat.mul_inv_cancel _ (Yjq h0),Rat.mul_one]
def Yh3{c:List Rat}:Zsq (Zmc c c) (Zmc c c)=0:=by
 rw[Ynd Zkb]
 refine Yri fun i hi=>?_
 have:(Zmc c c)[i]?.getD 0=0:=by
  unfold Zmc
  rw[Yad hi]
  exact Rat.sub_self
 rw[this,Rat.mul_zero]
def Zmw{c:List Rat}(h:∀r∈m,r=c):Zz8 m c=0:=by
 unfold Zz8
 have key:∀(m:List (List Rat)) (a:Rat),(∀r∈m,r=c)→m.foldl (fun a r=>a+Zsq (Zmc r c) (Zmc r c)) a=a:=by
  intro m
  induction m with
  |nil=>intro a _;rfl
  |cons r m ih=>
   intro a h
   show m.foldl _ (a+Zsq (Zmc r c) (Zmc r c))=a
   rw[h r (by simp),Yh3,Rat.add_zero]
   exact ih a fun r hr=>h r (Yu1 _ hr)
 exact key m 0 h
def Zhb(c:List Rat)(x:Rat):List Rat:=c.set 0 (c[0]?.getD 0+x)
def Zjv{c:List Rat}:(Zhb c x).length=c.length:=by simp[Zhb]
def Zt6{c:List Rat}(hi:i<c.length):(Zhb c x)[i]?.getD 0=c[i]?.getD 0+if i=0 then x else 0:=by
 unfold Zhb
 rw[List.getElem?_set]
 by_cases h:i=0
 ·subst h;simp[hi]
 ·rw[Yur (fun hc=>h hc.symm),Yur h,Rat.add_zero]
def Ydu{c:List Rat}(h0:0<c.length):Zsq (Zmc (Zhb c x) c) (Zmc (Zhb c x) c)=x*x:=by
 rw[Ynd (by rw[Zkb,Zjv])]
 have hat:∀i,i<c.length→(Zmc (Zhb c x) c)[i]?.getD 0=if i=0 then x else 0:=fun i hi=>by
  unfold Zmc
  rw[Zjv,Yad hi,Zt6 hi]
  grind
 rw[Ybg (i:=0) h0 fun j hj h=>by rw[hat j hj,Yur h,Rat.mul_zero],hat 0 h0,Yuu rfl]
def Yhd{c:List Rat}(hc:c.length=S)(h:∀r∈m,r=c):Zgq (m++[Zhb c (-x),Zhb c x]) S=c:=by
 refine Zww (by rw[Zfy,hc]) fun i hi=>?_
 rw[Zfy]at hi
 unfold Zgq
 have hs:i<(Zto (m++[Zhb c (-x),Zhb c x]) S).length:=by rw[Zhx];exact hi
 rw[Yvd,Yut hs]
 have e:=Yi7 (m:=m++[Zhb c (-x),Zhb c x]) hi
 rw[Yut hs]at e
 simp only[Yxj,Yw4]at e ⊢
 rw[e,List.foldl_append,Zk6 (m:=m) (x:=c[i]?.getD 0) fun r hr=>by rw[h r hr]]
 simp only[List.foldl_cons,List.foldl_nil]
 rw[Zt6 (by omega),Zt6 (by omega)]
 have hn:(((m++[Zhb c (-x),Zhb c x]).length:Int):Rat)=((m.length:Int):Rat)+2:=by
  simp only[Yu8,Yuq,List.length_nil,Int.natCast_add,Rat.intCast_add]
  norm_cast
 have hz:((m.length:Int):Rat)+2≠0:=by
  rw[←hn]
  exact Yjq (by simp)
 rw[hn,Rat.div_def]
 have e2:0+((m.length:Int):Rat)*c[i]?.getD 0+(c[i]?.getD 0+if i=0 then -x else 0)+(c[i]?.getD 0+if i=0 then x else 0)=c[i]?.getD 0*(((m.length:Int):Rat)+2):=by
  split<;>grind
 rw[e2,Rat.mul_assoc,Rat.mul_inv_cancel _ hz,Rat.mul_one]
def Yk4{c:List Rat}(h0:0<c.length)(h:∀r∈m,r=c):Zz8 (m++[Zhb c (-x),Zhb c x]) c=2*(x*x):=by
 rw[show m++[Zhb c (-x),Zhb c x]=(m++[Zhb c (-x)])++[Zhb c x] by simp,Zp8,Zp8,Zmw h,Ydu h0,Ydu h0]
 grind
variable {D:List (List Rat)} {K S j k n:Nat} {a:Int} {am:List Int} {s:List Rat}
def pkR(j:Nat)(a:Int)(s:List Rat):Pk:=⟨(j:Int),Zas (a:Rat),s.map Zas⟩
structure OkR (S n j:Nat) (a:Int) (s:List Rat):Prop where
 j:j<n
 a0:a≠0
 a9:a.natAbs≤9
 len:s.length=S
 q:∀q∈s,(Zas q).length≤24∧Zxf q=false
def Zv3:Zk1 (s.map Zas)=s:=by
 unfold Zk1
 rw[List.map_map]
 have:(Zfb∘Zas)=id:=funext fun q=>Zv2 q
 rw[this,List.map_id]
def Zqz(h:a.natAbs≤9):Bnd 9 1 (a:Rat):=Bnd.int.mono h (Yus 1)
def Yjt(h:a≠0):(a:Rat)≠0:=fun hc=>h (by exact_mod_cast hc)
def OkR.pkE(h:OkR S n j a s):Zal (pkE (pkR j a s) S n)=0:=by
 have h1:¬((j:Int)<0∨(n:Int)≤(j:Int)):=by have:=h.j;omega
 have h2:chkNum (Zas (a:Rat))=0:=by
  rw[Zk9,(Zqz h.a9).big (Yyn (by decide)) (Yyn (by decide))]
  rfl
 have h3:¬Zas (a:Rat)=[48]:=fun hc=>Yjt h.a0 (Yao.1 hc)
 have h4:Zal ((s.map Zas).map fun s=>((chkNum s:Nat):Int))=0:=by
  have:∀l:List Rat,(∀q∈l,Zxf q=false)→Zal ((l.map Zas).map fun s=>((chkNum s:Nat):Int))=0:=by
   intro l
   induction l with
   |nil=>intro _;rfl
   |cons q l ih=>
    intro hl
    have e:chkNum (Zas q)=0:=by rw[Zk9,hl q (by simp)];rfl
    simp only[Yvq,Zal,e]
    exact ih fun x hx=>hl x (Yu1 _ hx)
  exact this s fun q hq=>(h.q q hq).2
 have hl:(((s.map Zas).length:Nat):Int)=(S:Int):=by rw[Yvn,h.len]
 unfold Go.Mx.pkE pkR
 simp only
 rw[Yur h1,h2,Yur h3,Yuu hl,h4]
 rfl
def OkR.sh(h:OkR S n j a s)(hS:S≤6):Yqy (pkR j a s)=true:=by
 have h1:=(Zqz h.a9).txt (a:=1) (b:=1) (by decide) (by decide) (by decide) (by decide)
 have h2:(pkR j a s).am.length≤24:=by show (Zas (a:Rat)).length≤24;omega
 have h3:Zbb 6 (pkR j a s).sl=true:=by
  unfold Zbb pkR
  rw[Yu4,Yvk]
  refine⟨?_,fun x hx=>?_⟩
  ·have:=h.len
   simp[Zev]
   omega
  ·obtain⟨q,hq,rfl⟩:=Yvb.1 hx
   simpa[Zl4]using(h.q q hq).1
 simp[Yqy,h2,h3]
def Yjc:((Zk1 (pkR j a s).sl).map fun x=>x/Zfb (pkR j a s).am)=s.map fun x=>x/(a:Rat):=by
 show (Zk1 (s.map Zas)).map (fun x=>x/Zfb (Zas (a:Rat)))=_
 rw[Zv3,Zv2]
def Ynf{a x:Rat}(h:a≠0):a*x/a=x:=by
 rw[Rat.mul_comm,Rat.div_def,Rat.mul_assoc,Rat.mul_inv_cancel _ h,Rat.mul_one]
def Ykg(n:Nat)(am:List Int)(k:Nat):Int:=if n≤k then (am[k-n]?.getD 0).tmod 10 else 1
def amt(n:Nat)(am:List Int)(k:Nat):Int:=if Ykg n am k=0 then 7 else Ykg n am k
def Yn4:(Ykg n am k).natAbs≤9:=by
 unfold Ykg
 split
 ·rw[Int.natAbs_tmod]
  have:=Yvx (am[k-n]?.getD 0).natAbs (show 0<(10:Int).natAbs by decide)
  simp only[show (10:Int).natAbs=10 from rfl]at this ⊢
  omega
 ·decide
def Zlp:amt n am k≠0∧(amt n am k).natAbs≤9:=by
 unfold amt
 split
 ·exact⟨by decide,by decide⟩
 ·rename_i h
  exact⟨h,Yn4⟩
def slA(D:List (List Rat))(n:Nat)(am:List Int)(k:Nat):List Rat:=(Zib D (k%n)).map fun x=>(amt n am k:Rat)*x
def pkA(D:List (List Rat))(n:Nat)(am:List Int)(k:Nat):Pk:=pkR (k%n) (amt n am k) (slA D n am k)
def pkL(D:List (List Rat))(n:Nat)(am:List Int)(K:Nat):List Pk:=((List.range K).map (pkA D n am)).reverse
def Ygn:pkL D n am (K+1)=pkA D n am K::pkL D n am K:=by simp[pkL,List.range_succ]
def Zm2:(pkL D n am K).length=K:=by simp[pkL]
structure FwD (D:List (List Rat)) (n:Nat):Prop where
 n1:0<n
 n4:n≤4
 s1:0<D.length
 s5:D.length≤5
 rc:RcN D n
 bd:∀r∈D,∀q∈r,Bnd 9999 9999 q
def FwD.col{D:List (List Rat)}{n:Nat}(h:FwD D n)(k:Nat):∀q∈Zib D k,Bnd 9999 9999 q:=fun q hq=>by
 obtain⟨r,hr,rfl⟩:=Yvb.1 hq
 cases e:r[k]? with
 |none=>exact⟨by decide,by decide⟩
 |some x=>exact h.bd r hr x (Yux e)
def Ya4(h:FwD D n)(k:Nat):∀q∈slA D n am k,Bnd 89991 9999 q:=fun q hq=>by
 obtain⟨x,hx,rfl⟩:=Yvb.1 hq
 exact((Zqz Zlp.2).mul (h.col _ x hx)).mono (by decide) (by decide)
def Zod{A B:Nat}{q:Rat}(h:Bnd A B q)(hA:A<10^10)(hB:B<10^10):(Zas q).length≤24∧Zxf q=false:=⟨by have:=h.txt (a:=10) (b:=10) hA hB (by decide) (by decide);omega,h.big (Yyn (Nat.lt_trans hA (by decide))) (Yyn (Nat.lt_trans hB (by decide)))⟩
def Ybv(h:FwD D n)(k:Nat):OkR D.length n (k%n) (amt n am k) (slA D n am k):=⟨Yvx _ h.n1,Zlp.1,Zlp.2,by simp[slA,Zib],fun q hq=>Zod (Ya4 h k q hq) (by decide) (by decide)⟩
def Ygo:((Zk1 (pkA D n am k).sl).map fun x=>x/Zfb (pkA D n am k).am)=Zib D (k%n):=by
 unfold pkA
 rw[Yjc]
 unfold slA
 rw[List.map_map]
 have:((fun x=>x/(amt n am k:Rat))∘fun x=>(amt n am k:Rat)*x)=id:=funext fun x=>Ynf (Yjt Zlp.1)
 rw[this,List.map_id]
def Ze6:∀r∈Zb3 (pkL D n am K) (j:Int),r=Zib D j:=fun r hr=>by
 unfold Zb3 at hr
 obtain⟨p,hp,rfl⟩:=Yvb.1 hr
 rw[List.mem_filter,decide_eq_true_eq]at hp
 obtain⟨hp,hj⟩:=hp
 unfold pkL at hp
 rw[List.mem_reverse]at hp
 obtain⟨k,_,rfl⟩:=Yvb.1 hp
 rw[Ygo]
 have:k%n=j:=by
  have:((k%n:Nat):Int)=(j:Int):=hj
  omega
 rw[this]
def Zm3(hj:j<n)(hK:n≤K):∃p∈pkL D n am K,p.act=(j:Int):=by
 refine⟨pkA D n am j,?_,?_⟩
 ·unfold pkL
  rw[List.mem_reverse]
  exact Yvb.2 ⟨j,Yws.2 (by omega),rfl⟩
 ·show ((j%n:Nat):Int)=(j:Int)
  rw[Ywp hj]
def Zqc{l:List Pk}{k:Int}(h:∃p∈l,p.act=k):0<(Zb3 l k).length:=by
 obtain⟨p,hp,hk⟩:=h
 unfold Zb3
 rw[Yvn]
 exact List.length_pos_of_mem (List.mem_filter.2 ⟨hp,decide_eq_true hk⟩)
def Zw5{l:List Pk}(hl:l.length≤256)(s1:0<S)(s2:S≤64)(n1:0<n)(n2:n≤16)(hp:∀p∈l,Zal (pkE p S n)=0)(hh:∀j,j<n→∃p∈l,p.act=(j:Int)):Zhr l S n=0:=by
 have h1:szE l S n=0:=by
  unfold szE
  rw[Yur (by omega),Yur (by omega),Yur (by omega)]
  rfl
 have h2:Zal (l.map fun p=>Zal (pkE p S n))=0:=by
  have:∀m:List Pk,(∀p∈m,Zal (pkE p S n)=0)→Zal (m.map fun p=>Zal (pkE p S n))=0:=by
   intro m
   induction m with
   |nil=>intro _;rfl
   |cons p m ih=>
    intro hm
    rw[Yvq,Zal,Yuu (hm p (by simp))]
    exact ih fun x hx=>hm x (Yu1 _ hx)
  exact this l hp
 have h3:(List.range (n:Int).toNat).all (Yfa l)=true:=by
  rw[Yvk]
  intro j hj
  rw[Yws]at hj
  obtain⟨p,hp1,hp2⟩:=hh j (by omega)
  unfold Yfa
  rw[List.any_eq_true]
  exact⟨p,hp1,decide_eq_true hp2⟩
 unfold Zhr
 rw[Yuu h1,Yuu h2,Yuu h3]
end Go.Mx
