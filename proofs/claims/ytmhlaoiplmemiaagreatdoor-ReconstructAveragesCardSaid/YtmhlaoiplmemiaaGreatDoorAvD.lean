/-Averages-/
import Derived.Test.YtmhlaoiplmemiaaGreatDoorPkH
set_option linter.all false
namespace Go.Mx
open Go Go.Proofs
variable {M N:Nat} {h:T O} {v:V}
set_option maxRecDepth 1000000
noncomputable def A.b8:=A.q Tryz.f8
def A.k8:=@A.kk 8 6 [.tmp 2] A.b8 (by kernel_rfl) rfl
def Yfk{z:Int}:Zas (z:Rat)=decI z:=by
 unfold Zas
 simp
def Zwx{z:Int}(hz:z.natAbs≤9):Fn A.C 8 [.int .i64 z] h N (fun u _ _=>u=.str (Zas (z:Rat))):=by
 intro w
 rw[Zaa,A.k8 (by simp)]
 simp(disch:=first|(simp;done)|omega|rfl) [-getElem?_pos,A.b8]
 refine Zab (Zrj (z:=z) (by omega) (by omega)) ?_
 rintro x h1 n1 k1 hx
 simp(disch:=first|(simp;done)|omega|rfl) [-getElem?_pos,]
 refine Zab (Zge hx (by
  have:=Zi2 (n:=z.natAbs) (k:=4) (by omega)
  omega)) ?_
 rintro _ h2 n2 k2 rfl
 simp(disch:=first|(simp;done)|omega|rfl) [-getElem?_pos,Ret,Yfk]
 exact k1.trans k2
def Yo0:Fn A.C 7 [.int .i64 0] h N (fun x _ _=>x=.nilslice):=by
 intro w
 rw[Zaa,A.k7 (by simp)]
 simp(disch:=first|(simp;done)|omega|rfl) [-getElem?_pos,A.b7]
 refine Zag [(3,12)] (fun e r st=>e=.exit 0∧oldIds N st.w=[]∧Keeps h N st.h st.n∧r.get 3=some .nilslice) (fun m r st=>m=0∧oldIds N st.w=[]∧Keeps h N st.h st.n∧r.get 4=some (.int .i64 0)∧r.get 3=some .nilslice) 0 ?_ ?_ ?_
 ·exact⟨rfl,by simp,Keeps.refl,by simp,by simp⟩
 ·rintro m r ⟨H,n1,W⟩ hr hf ⟨rfl,hW,hK,h4,h3⟩
  simp only at hW hK
  rw[Zah]
  simp(disch:=first|(simp;done)|omega|rfl) [-getElem?_pos,A.lb7_0,hr,hf,h3,h4,hW,hK]
 ·rintro _ r ⟨H,n1,W⟩ hr ⟨rfl,hW,hK,h3⟩
  simp only at hW hK
  simp(disch:=first|(simp;done)|omega|rfl) [-getElem?_pos,hr,h3,Ret,hW,hK]
def Yjb{n:Nat}(hn:n<1000):Fn A.C 7 [.int .i64 n] h N (fun x h' n'=>Tx h' n' x ((List.range n).map fun _=>0)):=by
 by_cases h0:0<n
 ·intro w
  refine(Zri h0 hn w).mono fun v st ⟨q1,q2,q3⟩=>⟨q1,q2,?_⟩
  obtain⟨R,rfl,_,hR⟩:=q3
  have:=hR.txt.1
  simpa using this
 ·obtain rfl:n=0:=by omega
  intro w
  refine(Yo0 w).mono fun v st ⟨q1,q2,q3⟩=>⟨q1,q2,?_⟩
  subst q3
  exact .inl ⟨rfl,.inl rfl⟩
def PkF(N0 M:Nat)(h:T O)(v:V)(l:List Pk):Prop:=(l=[]∧v=.nilslice)∨∃i c cs,v=.slice i 0 l.length c 3∧(c=none∨c=some l.length)∧N0≤i∧i<M∧h.get i=some (.cells (List.flatten cs) 38 true)∧cs.length=l.length∧∀(j:Nat) (p:Pk),l[j]?=some p→∃u,cs[j]?=some (pkC p u)∧Sl h i u (strs p.sl)
def Sl.up{l:List V}(s:Sl h N v l)(h1:N≤M):Sl h M v l:=by
 rcases s with s|⟨i,o,cp,c,e,rw,rfl,h2,h3⟩
 ·exact .inl s
 ·exact .inr ⟨i,o,cp,c,e,rw,rfl,Yu0 h2 h1,h3⟩
def PkF.keep{N0 M':Nat}{h':T O}{l:List Pk}(s:PkF N0 M h v l)(k:Keeps h M h' M'):PkF N0 M' h' v l:=by
 rcases s with s|⟨i,c,cs,h1,h2,h3,h4,h5,h6,h7⟩
 ·exact .inl s
 ·refine .inr ⟨i,c,cs,h1,h2,h3,Yu0 h4 k.le,(k.get i h4).trans h5,h6,fun j p hp=>?_⟩
  obtain⟨u,a1,a2⟩:=h7 j p hp
  refine⟨u,a1,?_⟩
  exact a2.keep ⟨Yus _,fun x hx=>k.get x (by omega)⟩
def PkF.pks{N0:Nat}{l:List Pk}(s:PkF N0 M h v l):PkS h M v l:=by
 rcases s with⟨rfl,rfl⟩|⟨i,c,cs,h1,h2,h3,h4,h5,h6,h7⟩
 ·exact⟨[],Sn.nil,rfl,fun j p hp=>by simp at hp⟩
 ·have hz:∀x∈cs,x.length=3:=fun x hx=>by
   obtain⟨j,hj⟩:=Ywg hx
   obtain⟨p,hp⟩:=Zaf (l:=l) (show j<l.length by rw[←h6];exact Zaz hj)
   obtain⟨u,a1,_⟩:=h7 j p hp
   rw[a1]at hj
   rw[←Yvr hj]
   rfl
  refine⟨cs,.inr ⟨i,0,c,List.flatten cs,38,true,by rw[h1,h6],h4,h5,fun j x hj=>by rw[Ywn];exact Zc8 hz hj,by rw[Za8 hz,Ywn];exact Yus _,fun k hk=>?_⟩,h6,fun j p hp=>?_⟩
  ·rcases h2 with h2|h2
   ·rw[h2]at hk;cases hk
   ·rw[h2]at hk;rw[←Yvr hk,h6];exact Yus _
  ·obtain⟨u,a1,a2⟩:=h7 j p hp
   exact⟨u,a1,a2.up (by omega)⟩
def Yew{N0:Nat}{q:Nat}{w:List Nat}{u:V}{l:List Pk}{p:Pk}(hq:h.get q=some (.cells (pkC p u) 38 true))(hqN:q<N)(h0:N0≤q)(s:PkF N0 N h v l)(hu:Sl h q u (strs p.sl))(hl:l.length<100000):∃v' h' n',Za6 ⟨h,N,w⟩ 3 48 38 (.slice q 0 1 (some 1) 3) v=some (v',⟨h',n',w⟩)∧Keeps h N h' n'∧PkF N0 n' h' v' (p::l):=by
 rcases s with⟨rfl,rfl⟩|⟨i,c,cs,rfl,h2,h3,h4,h5,h6,h7⟩
 ·refine⟨_,h,N,rfl,Keeps.refl,.inr ⟨q,some 1,[pkC p u],rfl,.inr rfl,h0,hqN,by simpa using hq,rfl,fun j p' hp=>?_⟩⟩
  match j,hp with
  |0,hp=>simp at hp;subst hp;exact⟨u,rfl,hu⟩
  |j+1,hp=>simp at hp
 ·have hz:∀x∈cs,x.length=3:=fun x hx=>by
   obtain⟨j,hj⟩:=Ywg hx
   obtain⟨p,hp⟩:=Zaf (l:=l) (show j<l.length by rw[←h6];exact Zaz hj)
   obtain⟨u,a1,_⟩:=h7 j p hp
   rw[a1]at hj
   rw[←Yvr hj]
   rfl
  have hfl:=Za8 hz
  by_cases hl0:l.length=0
  ·have hnil:l=[]:=Yu6 hl0
   subst hnil
   have hcs:cs=[]:=Yu6 (by simpa using h6)
   subst hcs
   refine⟨.slice q 0 1 (some 1) 3,h,N,?_,Keeps.refl,.inr ⟨q,some 1,[pkC p u],rfl,.inr rfl,h0,hqN,by simpa using hq,rfl,fun j p' hp=>?_⟩⟩
   ·simp[Za6,Zat,St.row,h5,slc]
   ·match j,hp with
    |0,hp=>simp at hp;subst hp;exact⟨u,rfl,hu⟩
    |j+1,hp=>simp at hp
  ·refine⟨.slice N 0 (1+l.length) none 3,h.set N (.cells (pkC p u++List.flatten cs) 38 true),N+1,?_,Keeps.refl.new _,.inr ⟨N,none,pkC p u::cs,by rw[Yuq,Nat.add_comm],.inl rfl,by omega,by omega,by rw[T.get_set,Yuu rfl];rfl,by simp[h6],fun j p' hp=>?_⟩⟩
   ·have hsl:slc (List.flatten cs) 0 (l.length*3)=some (List.flatten cs):=by
     unfold slc
     rw[Yuu (by rw[hfl,h6];omega),Yw9,Yuy (by rw[hfl,h6];exact Yus _)]
    have hsq:slc (pkC p u) 0 3=some (pkC p u):=rfl
    simp only[Za6,Zat,St.row,h5,hsl,hq,if_true,hl0,if_false,Nat.one_mul,hsq,St.alloc]
    rw[Yur (by unfold Zcb;omega),Yur (by omega)]
   ·match j,hp with
    |0,hp=>
     simp at hp
     subst hp
     exact⟨u,rfl,(hu.up (by omega)).keep ⟨Yus _,fun x hx=>by rw[T.get_set,Yur (by omega)]⟩⟩
    |j+1,hp=>
     obtain⟨u',a1,a2⟩:=h7 j p' (by simpa using hp)
     exact⟨u',by simpa using a1,(a2.up (by omega)).keep ⟨Yus _,fun x hx=>by rw[T.get_set,Yur (by omega)]⟩⟩
def Yn1{N0:Nat}{q:Nat}{w:List Nat}{u1 u2:V}{l:List Pk}{p1 p2:Pk}(hq:h.get q=some (.cells (pkC p1 u1++pkC p2 u2) 38 true))(hqN:q<N)(hMq:M≤q)(h0:N0≤N)(s:PkF N0 M h v l)(hM:M≤N)(hu1:Sl h N u1 (strs p1.sl))(hu2:Sl h N u2 (strs p2.sl))(r1:∀i∈Zci u1,M≤i)(r2:∀i∈Zci u2,M≤i)(hne:0<l.length)(hl:l.length<100000):∃v' h' n' w',Za6 ⟨h,N,w⟩ 3 48 38 v (.slice q 0 2 (some 2) 3)=some (v',⟨h',n',w'⟩)∧Keeps h N0 h' n'∧oldIds N0 w'=oldIds N0 w∧PkS h' n' v' (l++[p1,p2]):=by
 rcases s with⟨rfl,rfl⟩|⟨i,c,cs,rfl,h2,h3,h4,h5,h6,h7⟩
 ·simp at hne
 ·have hz:∀x∈cs,x.length=3:=fun x hx=>by
   obtain⟨j,hj⟩:=Ywg hx
   obtain⟨p,hp⟩:=Zaf (l:=l) (show j<l.length by rw[←h6];exact Zaz hj)
   obtain⟨u,a1,_⟩:=h7 j p hp
   rw[a1]at hj
   rw[←Yvr hj]
   rfl
  have hfl:=Za8 hz
  have hsr:∀w,Zat ⟨h,N,w⟩ 3 (.slice q 0 2 (some 2) 3)=some (2,pkC p1 u1++pkC p2 u2):=fun w=>by
   simp only[Zat,if_true,St.row,hq]
   rfl
  have hsl:slc (List.flatten cs) 0 (l.length*3)=some (List.flatten cs):=by
   unfold slc
   rw[Yuu (by rw[hfl,h6];omega),Yw9,Yuy (by rw[hfl,h6];exact Yus _)]
  have hf2:(cs++[pkC p1 u1,pkC p2 u2]).flatten=List.flatten cs++(pkC p1 u1++pkC p2 u2):=by simp
  have hz2:∀x∈cs++[pkC p1 u1,pkC p2 u2],x.length=3:=fun x hx=>by
   rcases Yv1.1 hx with hx|hx
   ·exact hz x hx
   ·simp at hx;rcases hx with rfl|rfl<;>rfl
  have fin:∀(B:T O),(∀x,x≠i→B.get x=h.get x)→PkS (B.set N (.cells (List.flatten cs++(pkC p1 u1++pkC p2 u2)) 38 true)) (N+1) (.slice N 0 (l.length+2) none 3) (l++[p1,p2]):=fun B hB=>by
   have hget:∀x,x≠i→x<N→(B.set N (.cells (List.flatten cs++(pkC p1 u1++pkC p2 u2)) 38 true)).get x=h.get x:=fun x hx hxN=>by rw[T.get_set,Yur (by omega)];exact hB x hx
   have mv:∀(u:V) (m:List V),Sl h N u m→(∀x∈Zci u,x≠i)→Sl (B.set N (.cells (List.flatten cs++(pkC p1 u1++pkC p2 u2)) 38 true)) (N+1) u m:=fun u m hu hr=>hu.moved (D:=fun x=>x=i) ⟨by omega,fun x hx hd=>hget x hd hx⟩ hr
   refine⟨cs++[pkC p1 u1,pkC p2 u2],.inr ⟨N,0,none,_,38,true,by simp[h6],by omega,by rw[T.get_set,Yuu rfl],fun j x hj=>by rw[Ywn,←hf2];exact Zc8 hz2 hj,by rw[←hf2,Za8 hz2,Ywn];exact Yus _,fun k hk=>by cases hk⟩,by simp[h6],fun j p hp=>?_⟩
   by_cases hj:j<l.length
   ·rw[Yu7 hj]at hp
    obtain⟨u,a1,a2⟩:=h7 j p hp
    exact⟨u,by rw[Yu7 (by omega)];exact a1,mv u _ (a2.up (by omega)) fun x hx=>by have:=Ztz a2 x hx;omega⟩
   ·rw[Yvj (by omega)]at hp
    rw[Yvj (by omega),h6]
    match hd:j-l.length,hp with
    |0,hp=>simp at hp;subst hp;exact⟨u1,rfl,mv u1 _ hu1 fun x hx=>by have:=r1 x hx;omega⟩
    |1,hp=>simp at hp;subst hp;exact⟨u2,rfl,mv u2 _ hu2 fun x hx=>by have:=r2 x hx;omega⟩
    |n+2,hp=>simp at hp
  rcases h2 with rfl|rfl
  ·refine⟨.slice N 0 (l.length+2) none 3,(h.set i .dead).set N (.cells (List.flatten cs++(pkC p1 u1++pkC p2 u2)) 38 true),N+1,i::w,?_,?_,?_,fin (h.set i .dead) fun x hx=>by rw[T.get_set,Yur hx]⟩
   ·simp only[Za6,hsr,St.row,h5]
    rw[Yur (by omega),Yur (by unfold Zcb;omega)]
    simp only[if_true]
    rw[Yur (by rw[hfl,h6];omega),Yuu ⟨by rw[hfl,h6];omega,trivial,trivial⟩]
    rfl
   ·exact⟨by omega,fun x hx=>by rw[T.get_set,Yur (by omega),T.get_set,Yur (by omega)]⟩
   ·have:¬i<N0:=by omega
    simp[oldIds,this]
  ·refine⟨.slice N 0 (l.length+2) none 3,h.set N (.cells (List.flatten cs++(pkC p1 u1++pkC p2 u2)) 38 true),N+1,w,?_,?_,rfl,fin h fun x hx=>rfl⟩
   ·simp only[Za6,hsr,St.row,h5,hsl]
    rw[Yur (by omega),Yur (by unfold Zcb;omega),Yur (by omega)]
    rfl
   ·exact⟨by omega,fun x hx=>by rw[T.get_set,Yur (by omega)]⟩
variable {a:Rat} {k n:Nat} {m:List (List Str)}
def Yem{r c:Nat}(h:Zku m r c=0):0<m.length∧0<hdL m∧m.length≤r∧hdL m≤c∧∀l∈m,l.length=hdL m∧∀s∈l,chkNum s=0:=by
 unfold Zku at h
 split at h
 ·cases h
 ·rename_i h1
  split at h
  ·cases h
  ·rename_i h2
   refine⟨by omega,by omega,by omega,by omega,fun l hl=>?_⟩
   have h3:=Za9 h _ (List.mem_map_of_mem hl)
   unfold Zdh at h3
   split at h3
   ·rename_i h4
    refine⟨h4,fun s hs=>?_⟩
    have:=Za9 h3 _ (List.mem_map_of_mem hs)
    simpa using this
   ·cases h3
def Ygh(h:∀l∈m,∀s∈l,chkNum s=0):m=(Zeb m).map fun r=>r.map Zas:=by
 unfold Zeb
 rw[List.map_map]
 conv=>lhs;rw[←List.map_id m]
 apply Yww
 intro l hl
 show l=(Zk1 l).map Zas
 unfold Zk1
 rw[List.map_map]
 conv=>lhs;rw[←List.map_id l]
 apply Yww
 intro s hs
 exact(Zhq (h l hl s hs)).1.symm
structure FwM (m:List (List Str)):Prop where
 D:FwD (Zeb m) (hdL m)
 t:m=(Zeb m).map fun r=>r.map Zas
 sh:Zdv 6 6 m=true
 ck:Zku m 64 64=0
 c16:Zku m 64 16=0
def Ysn(h:Yfb m 5 4 4=true):FwM m:=by
 unfold Yfb at h
 simp only[Yu4,decide_eq_true_eq,Yvk]at h
 obtain⟨h1,h2,h3,h4,h5⟩:=h
 obtain⟨a1,a2,a3,a4,a5⟩:=Yem h3
 refine⟨⟨a2,h4,by simpa[Zeb]using a1,by simpa[Zeb]using h2,fun r hr=>?_,fun r hr q hq=>?_⟩,Ygh fun l hl=>(a5 l hl).2,Zre h1 (by decide) (by decide),?_,h3⟩
 ·obtain⟨l,hl,rfl⟩:=Yvb.1 hr
  rw[Zk1,Yvn]
  exact(a5 l hl).1
 ·obtain⟨l,hl,rfl⟩:=Yvb.1 hr
  obtain⟨s,hs,rfl⟩:=Yvb.1 hq
  have:=h5 l hl
  unfold Yaa at this
  rw[Yu4,Yvk]at this
  exact(Yj0 (this.2 s hs)).2.2
 ·unfold Zku at h3 ⊢
  rw[Yur (by omega),Yur (by omega)]at h3 ⊢
  exact h3
def Zq1(n k:Nat)(a:Rat):List Rat:=((List.range n).map fun _=>(0:Rat)).set k a
def Zga:(Zq1 n k a).length=n:=by simp[Zq1]
def Yam{i:Nat}(hi:i<n):(Zq1 n k a)[i]?.getD 0=if i=k then a else 0:=by
 unfold Zq1
 rw[List.getElem?_set]
 by_cases h:k=i
 ·subst h;simp[hi]
 ·rw[Yur h,Yur (fun hc=>h hc.symm)]
  simp[hi]
def Yic{r:List Rat}(hr:r.length=n)(hk:k<n):Zsq r (Zq1 n k a)=a*r[k]?.getD 0:=by
 rw[Ynd hr,Ybg (i:=k) hk fun j hj hne=>by rw[Yam hj,Yur hne,Rat.mul_zero],Yam hk,Yuu rfl,Rat.mul_comm]
def Zti{a:Int}(ha:a.natAbs≤9):∀q∈Zq1 n k (a:Rat),Bnd 9 1 q:=fun q hq=>by
 rcases Yxy hq with hq|rfl
 ·obtain⟨_,_,rfl⟩:=Yvb.1 hq
  exact⟨by decide,by decide⟩
 ·exact Zqz ha
def Zoe{A B:Nat}{l:List Rat}(h:∀q∈l,Bnd A B q)(hA:A<10^10)(hB:B<10^10):Zdh (l.map Zas) l.length=0∧(l.length≤6→Zbb 6 (l.map Zas)=true)∧Zdw l=false:=by
 refine⟨?_,fun hl=>?_,?_⟩
 ·unfold Zdh
  rw[Yuu (Yvn ..)]
  induction l with
  |nil=>rfl
  |cons q l ih=>
   have e:chkNum (Zas q)=0:=by rw[Zk9,(Zod (h q (by simp)) hA hB).2];rfl
   simp only[Yvq,Zal,e]
   exact ih fun x hx=>h x (Yu1 _ hx)
 ·unfold Zbb
  rw[Yu4,Yvk]
  refine⟨by simp[Zev];omega,fun x hx=>?_⟩
  obtain⟨q,hq,rfl⟩:=Yvb.1 hx
  simpa[Zl4]using(Zod (h q hq) hA hB).1
 ·unfold Zdw
  rw[List.any_eq_false]
  intro q hq
  rw[(Zod (h q hq) hA hB).2]
  decide
def Zxk(h:FwM m){k:Nat}(hk:k<hdL m){a:Int}(ha:a.natAbs≤9):Yqn m ((Zq1 (hdL m) k (a:Rat)).map Zas)=0∧Yoo m ((Zq1 (hdL m) k (a:Rat)).map Zas)=(Zib (Zeb m) k).map (fun x=>(a:Rat)*x):=by
 constructor
 ·have e:=(Zoe (Zti (n:=hdL m) (k:=k) ha) (by decide) (by decide)).1
  rw[Zga]at e
  unfold Yqn
  rw[h.ck,e]
  rfl
 ·unfold Yoo Zib
  rw[Zv3,List.map_map]
  apply Yww
  intro r hr
  exact Yic (h.D.rc r hr) hk
set_option maxHeartbeats 8000000
def A.tl3_0:Zaw:=sr [mv 64 7,c1 65 7 64,mv 11 65]
 (.seq (.regD [mv 66 11,mv 67 9,mv 68 7,bi 69 .rem 67 68,mv 70 10,c1 71 8 70,ia 72 1 66 69,so 72 71] [0,0,0,6,0,16,63,127])
 (sr [mv 74 0,mv 75 11,c2 76 9 74 75,mv 73 76,xt 77 73 0,xt 78 73 1,mv 12 77,mv 13 78]
 (.seq (sr [mv 79 13,ni 80 79 0,mv 81 80,mh 82 12 81,mh 83 0 81,gz 84 81 (.len 1 (tq 83)),gz 85 81 (.call (fq 10) [tq 82,tq 84]),gz 86 81 (.bin .neq (.prim .int) true (tq 85) (kq 0)),pt 87 81 86]
 (cd 87
 (sr [ge 6 (.mov (.const (.bool false)))]
 (.ret))
 (.skip)))
 (.regD [mv 88 9,mv 89 7,bi 90 .rem 88 89,mv 91 10,c1 92 8 91,mv 93 12,ge 94 (.build [.int .i64 0,(.str []),.nilslice] [(0,1,(tq 90)),(1,1,(tq 92)),(2,1,(tq 93))]),ge 95 (.bslice 38 3 1 [.int .i64 0,(.str []),.nilslice] [(0,3,(tq 94))]),mv 96 8,ge 97 (.append 3 48 38 [.int .i64 0,(.str []),.nilslice] (tq 95) (tq 96)),mv 8 97] [0,0,3,0,8,0,63,127,0,511,1023]))))
def A.lb3_0:Zaw:=sr [bi 49 .lss 48 47]
 (.seq (cd 49
 (.skip)
 (.exit 0))
 (.seq (.block 1 (sr [mv 50 48,mv 9 50]
 (sr [mc 10 1]
 (.seq (sr [mv 51 9,mv 52 7,bi 53 .geq 51 52]
 (cd 53
 (.reg [mv 54 1,mv 55 9,mv 56 7,bi 57 .sub 55 56,ia 58 1 54 57,ld 59 58,ge 60 (.convInt .i64 (tq 59)),bc 61 .rem 60 10,mv 10 61])
 (.skip)))
 (.seq (sr [mv 62 10,ei 63 62 0]
 (cd 63
 (.reg [mc 10 7])
 (.skip)))
 A.tl3_0)))))
 (.reg [bc 98 .add 48 1,mv 48 98])))
def A.ta3_0:Zaw:=sr [mv 133 0,ge 134 (.bslice 24 1 1 [(.str [])] [(0,1,(.const (.str [49])))]),c1 135 15 134,mv 136 7,bc 137 .sub 136 1,c1 138 7 137,ge 139 (.append 1 16 24 [(.str [])] (tq 135) (tq 138)),c2 140 9 133 139,mv 132 140,xt 141 132 0,xt 142 132 1,mv 18 141,mv 19 142]
 (.seq (sr [mv 143 19,ni 144 143 0,mv 145 144,mh 146 18 145,mh 147 0 145,gz 148 145 (.len 1 (tq 147)),gz 149 145 (.call (fq 10) [tq 146,tq 148]),gz 150 145 (.bin .neq (.prim .int) true (tq 149) (kq 0)),pt 151 145 150]
 (cd 151
 (sr [ge 6 (.mov (.const (.bool false)))]
 (.ret))
 (.skip)))
 (sr [ge 152 (.bslice 24 1 0 [] []),mv 153 18,ge 154 (.append 1 16 24 [(.str [])] (tq 152) (tq 153)),mv 20 154]
 (sr [ge 155 (.bslice 24 1 0 [] []),mv 156 18,ge 157 (.append 1 16 24 [(.str [])] (tq 155) (tq 156)),mv 21 157]
 (.seq (.regD [mv 158 20,mv 159 21,mv 160 20,ge 161 (.iaddrSl 1 (tq 160) (kq 0)),ld 162 161,mv 163 2,c2 164 16 162 163,mv 165 21,ge 166 (.iaddrSl 1 (tq 165) (kq 0)),ld 167 166,mv 168 2,c2 169 17 167 168,ge 170 (.iaddrSl 1 (tq 158) (kq 0)),so 170 164,ge 171 (.iaddrSl 1 (tq 159) (kq 0)),so 171 169] [0,0,0,4,12,0,60,0,128,384,0,2044,4093,8189,16383,32767])
 (sr [mv 172 8,mv 173 20,ge 174 (.build [.int .i64 0,(.str []),.nilslice] [(1,1,(.const (.str [49]))),(2,1,(tq 173))]),mv 175 21,ge 176 (.build [.int .i64 0,(.str []),.nilslice] [(1,1,(.const (.str [49]))),(2,1,(tq 175))]),ge 177 (.bslice 38 3 2 [.int .i64 0,(.str []),.nilslice,.int .i64 0,(.str []),.nilslice] [(0,3,(tq 174)),(3,3,(tq 176))]),ge 178 (.append 3 48 38 [.int .i64 0,(.str []),.nilslice] (tq 172) (tq 177)),mv 8 178]
 (sr [mv 180 8,mv 181 0,ln 182 181,mv 183 7,ge 184 (.call (fq 11) [tq 180,tq 182,tq 183]),mv 179 184,xt 185 179 0,xt 186 179 1,mv 22 185,mv 23 186]
 (sr [mv 188 8,mv 189 0,ln 190 189,mv 191 7,ge 192 (.call (fq 12) [tq 188,tq 190,tq 191]),mv 187 192,xt 193 187 0,xt 194 187 1,mv 24 193,mv 25 194]
 (.seq (.regD [mv 195 23,mv 196 25,bi 197 .add 195 196,ei 198 197 0,mv 199 198,mg 200 22 199,mg 201 0 199,gy 202 199 (.call (fq 13) [tq 200,tq 201]),pf 203 199 202,mv 204 203,mg 205 24 204,gy 206 204 (.len 1 (tq 205)),mg 207 7 204,gy 208 204 (.bin .eql (.prim .int) false (tq 206) (tq 207)),pf 209 204 208,mv 210 209,mg 211 24 210,gy 212 210 (.iaddrSl 1 (tq 211) (kq 0)),gy 213 210 (.load none (tq 212)),mg 214 2 210,mg 215 2 210,gy 216 210 (.call (fq 18) [tq 214,tq 215]),gy 217 210 (.call (fq 18) [(.const (.str [50])),tq 216]),gy 218 210 (.bin .eql (.prim .str) false (tq 213) (tq 217)),pf 219 210 218,mv 220 219,gy 221 220 (.call (fq 6) []),pf 222 220 221,mv 6 222] [0,0,3,7,15,31,31,127,255,511,1023,2047,1023,8191,16383,32767,65535,131071,262143,65535,65535,1638399,3735551,8388607,16777215,33554431,67108863,134217727,268435455])
 (.ret)))))))))
def A.b3:Zaw:=sr [ge 6 (.mov (.const (.bool false)))]
 (.seq (sr [mv 26 0,ge 27 (.call (fq 4) [tq 26,.const (.int .i64 5),.const (.int .i64 4),.const (.int .i64 4)]),ge 28 (.un .not (tq 27)),mv 29 28,mh 30 1 29,gz 31 29 (.len 1 (tq 30)),gz 32 29 (.bin .gtr (.node []) false (tq 31) (kq 8)),pt 33 29 32,mv 34 33,mh 35 2 34,gz 36 34 (.call (fq 5) [tq 35,.const (.int .i64 4)]),gz 37 34 (.un .not (tq 36)),pt 38 34 37]
 (cd 38
 (sr [ge 39 (.call (fq 6) []),mv 6 39]
 (.ret))
 (.skip)))
 (sr [mv 40 0,ge 41 (.iaddrSl 1 (tq 40) (kq 0)),ld 42 41,ln 43 42,mv 7 43]
 (sr [mN 8]
 (.seq (sr [mv 44 7,mv 45 1,ln 46 45,bi 47 .add 44 46,mc 48 0]
 (.block 0 (.loop A.lb3_0)))
 (sr [mv 100 8,mv 101 0,ln 102 101,mv 103 7,ge 104 (.call (fq 11) [tq 100,tq 102,tq 103]),mv 99 104,xt 105 99 0,xt 106 99 1,mv 14 105,mv 15 106]
 (sr [mv 108 8,mv 109 0,ln 110 109,mv 111 7,ge 112 (.call (fq 12) [tq 108,tq 110,tq 111]),mv 107 112,xt 113 107 0,xt 114 107 1,mv 16 113,mv 17 114]
 (.seq (sr [mv 115 15,mv 116 17,bi 117 .add 115 116,ni 118 117 0,mv 119 118,mh 120 14 119,mh 121 0 119,gz 122 119 (.call (fq 13) [tq 120,tq 121]),gz 123 119 (.un .not (tq 122)),pt 124 119 123,mv 125 124,mh 126 16 125,mh 127 7 125,gz 128 125 (.call (fq 7) [tq 127]),gz 129 125 (.call (fq 14) [tq 126,tq 128]),gz 130 125 (.un .not (tq 129)),pt 131 125 130]
 (cd 131
 (sr [ge 6 (.mov (.const (.bool false)))]
 (.ret))
 (.skip)))
 A.ta3_0)))))))
def A.c3:A.F 3=some ⟨223,[.tmp 6],A.b3⟩:=by kernel_rfl
def A.k3:=@A.kk 3 _ _ _ A.c3 rfl
def Zvi{nB n0 n k j n1:Nat}{B H:T O}{W:List Nat}{vd v:V}{m:List (List Str)}{am:List Int}{a:Int}{r0 r:T V}(hBn:nB≤n0)(hF:FwM m)(hn:n=hdL m)(hd:MtS B n0 vd m)(hal:am.length≤8)(hP:P10 B n0)(a0:r0.get 0=some vd)(a7:r0.get 7=some (.int .i64 n))(hf:Fx [(6,6),(8,13),(48,98)] r0 223 ⟨r,223,[]⟩)(hW:oldIds nB W=[])(hK:Keeps B n0 H n1)(hk:k+(j+1)=n+am.length)(h48:r.get 48=some (.int .i64 (k:Nat)))(h8:r.get 8=some v)(h9:r.get 9=some (.int .i64 (k:Nat)))(h10:r.get 10=some (.int .i64 a))(ea:amt n am k=a)(hL:PkF n0 n1 H v (pkL (Zeb m) n am k)):
  Run A.C [Kf.block 1,Kf.seq none (.reg [⟨some 98,.bin .add (.node []) false (.tmp 48) (.const (.int .i64 1)),none⟩,⟨some 48,.mov (.tmp 98),none⟩])] (exR (A.C.code none A.tl3_0 ⟨r,223,[]⟩ ⟨H,n1,W⟩)) (exQ (Rd [(6,6),(8,13),(48,98)] r0 223 (fun j r st=>oldIds nB st.w=[]∧Keeps B n0 st.h st.n∧∃k,k+j=n+am.length∧r.get 48=some (.int .i64 (k:Nat))∧∃v,r.get 8=some v∧PkF n0 st.n st.h v (pkL (Zeb m) n am k)) (j+1) (fun e r st=>e=.exit 0∧oldIds nB st.w=[]∧Keeps B n0 st.h st.n∧∃v,r.get 8=some v∧PkF n0 st.n st.h v (pkL (Zeb m) n am (n+am.length))))):=by
 have hr:=hf.reg
 have leK:=hK.le
 have D:=hF.D
 have d1:=D.n1
 have d4:=D.n4
 rw[←hn]at d1 d4
 have ld:=hd.len
 have lm:m.length=(Zeb m).length:=by simp[Zeb]
 have ha9:=(Zlp (n:=n) (am:=am) (k:=k)).2
 have ha0:=(Zlp (n:=n) (am:=am) (k:=k)).1
 rw[ea]at ha9 ha0
 have hkn:(k:Int).tmod (n:Int)=((k%n:Nat):Int):=by rw[Ywk (by omega)];omega
 have hkn':(k:Int)%(n:Int)=((k%n:Nat):Int):=by omega
 obtain⟨c,ec⟩:∃c,k%n=c:=⟨_,rfl⟩
 have hkl:c<n:=by rw[←ec];exact Yvx _ d1
 rw[ec]at hkn hkn'
 have hn0:¬(n:Int)=0:=by omega
 have hn0':¬n=0:=by omega
 simp(disch:=first|(simp;done)|omega|rfl) [-getElem?_pos,A.tl3_0,hr,h48,h8,h9,h10,a0,a7]
 refine Zab (Zri d1 (by omega)) ?_
 rintro _ H2 n2 k2 ⟨R,rfl,hRl,hR⟩
 have le2:=k2.le
 simp(disch:=first|(simp;done)|omega|rfl) [-getElem?_pos,hr,h48,h8,h9,h10,a0,a7,hn0,hn0',hkn,hkn']
 refine Zab (Zwx (z:=a) ha9) ?_
 rintro _ H3 n3 k3 rfl
 have le3:=k3.le
 have hcl':(c:Int)<(n:Int):=by omega
 obtain⟨hp1,hp2⟩:=(hR.keep k3).put (j:=c) (q:=(a:Rat)) (by simpa using hkl)
 have hRg:=(hR.keep k3).get
 have hRn:=(hR.keep k3).lt
 have wR:¬R<nB:=by omega
 have htl:(tx ((List.range n).map fun _=>(0:Rat))).length=n:=by rw[Zfe];simp
 have hc1:c+1≤n:=hkl
 have hstc:(V.str (Zas (a:Rat))).cells=[.str (Zas (a:Rat))]:=rfl
 have hsto:V.one (.str (Zas (a:Rat)))=true:=rfl
 simp(disch:=first|(simp;done)|omega|rfl) [-getElem?_pos, -V.cells, -V.one,hr,h48,h8,h9,h10,a0,a7,hn0,hn0',hkn,hkn',hkl,hcl',hRg,hRn,Zak,hp1,hstc,hsto,wR,Zam.chk,htl,hc1]
 have hU:RwS (H3.set R (.cells (tx (Zq1 n c (a:Rat))) 24 true)) n3 R (Zq1 n c (a:Rat)):=hp2
 rw[show ((List.range n).map fun _=>(0:Rat)).set c (a:Rat)=Zq1 n c (a:Rat) from rfl]
 generalize hX:H3.set R (.cells (tx (Zq1 n c (a:Rat))) 24 true)=X at hU ⊢
 have kX0:Keeps H n1 X n3:=by rw[←hX];exact(k2.trans k3).set hRl
 have kX:=hK.trans kX0
 have hub:=Zoe (Zti (n:=n) (k:=c) ha9) (by decide) (by decide)
 rw[Zga]at hub
 have hus:=hU.txt.1
 rw[Zga]at hus
 obtain⟨hE,hQ⟩:=Zxk hF (k:=c) (by omega) ha9
 rw[←hn]at hE hQ
 refine Zab (Zxj (l:=(Zq1 n c (a:Rat)).map Zas) (hd.keep kX) hus (hP.keep kX) hF.sh (hub.2.1 (by omega))) ?_
 rintro x H4 n4 k4 hx
 rw[hQ]at hx
 have hsl:(Zib (Zeb m) c).map (fun x=>(a:Rat)*x)=slA (Zeb m) n am k:=by unfold slA;rw[ec,ea]
 rw[hsl]at hx
 have hsb:=Zoe (Ya4 (n:=n) (am:=am) (by rw[hn];exact D) k) (by decide) (by decide)
 have hsl2:(slA (Zeb m) n am k).length=m.length:=by simp[slA,Zib,Zeb]
 rcases hx with⟨h0,_⟩|⟨_,⟨h0,_⟩|⟨_,vs,rfl,hvs⟩⟩
 ·exact absurd hE h0
 ·rw[hsb.2.2]at h0;cases h0
 have le4:=k4.le
 have kk4:=kX.trans k4
 simp(disch:=first|(simp;done)|omega|rfl) [-getElem?_pos,hr,h48,h8,h9,h10,a0,a7,ld,Zae]
 refine Zab (Zqv (n:=m.length) (l:=(slA (Zeb m) n am k).map Zas) hvs (by rw[Yvn,hsl2];have:=D.s5;omega) (fun s hs=>by
  obtain⟨q,hq,rfl⟩:=Yvb.1 hs
  have:=(Zod (Ya4 (n:=n) (am:=am) (by rw[hn];exact D) k q hq) (by decide) (by decide)).1
  omega)) ?_
 rintro _ H5 n5 k5 rfl
 have le5:=k5.le
 have hcz:=hsb.1
 rw[hsl2]at hcz
 rw[hcz]
 simp(disch:=first|(simp;done)|omega|rfl) [-getElem?_pos,hr,h48,h8,h9,h10,a0,a7,Zae,hn0,hn0',hkn,hkn']
 refine Zab (Zwx (z:=a) ha9) ?_
 rintro _ H6 n6 k6 rfl
 have le6:=k6.le
 have hvo:=hvs.form.one
 have hvc:=hvs.form.cells
 obtain⟨p,ep⟩:∃p,pkA (Zeb m) n am k=p:=⟨_,rfl⟩
 have epc:pkC p vs=[.int .i64 (c:Nat),.str (Zas (a:Rat)),vs]:=by rw[←ep];unfold pkA pkR pkC;simp only[ec,ea]
 have esl:p.sl=(slA (Zeb m) n am k).map Zas:=by rw[←ep];rfl
 have kY:Keeps H n1 (H6.set n6 (.cells (pkC p vs) 38 true)) (n6+1):=(((kX0.trans k4).trans k5).trans k6).new _
 have hvl:Sl (H6.set n6 (.cells (pkC p vs) 38 true)) n6 vs (strs p.sl):=by
  rw[esl]
  exact((hvs.keep k5).keep k6).keep ⟨Yus _,fun x hx=>by rw[T.get_set,Yur (by omega)]⟩
 have hwn:oldIds nB (R::W)=[]:=by simp[oldIds,hW,wR]
 obtain⟨v',h',n',f1,f2,f3⟩:=Yew (w:=[]) (q:=n6) (by rw[T.get_set,Yuu rfl]) (by omega) (by have:=kX.le;omega) (hL.keep kY) hvl (by rw[Zm2];omega)
 rw[←ep,←Ygn]at f3
 rw[epc]at f1
 have hci:∀z:Int,(V.int .i64 z).cells=[V.int .i64 z]:=fun _=>rfl
 have hco:∀z:Int,V.one (V.int .i64 z)=true:=fun _=>rfl
 have hcs:∀s:Str,(V.str s).cells=[V.str s]:=fun _=>rfl
 have hcg:∀x,(V.agg x).cells=x:=fun _=>rfl
 have b1:splice (splice (splice [V.int .i64 0,.str [],.nilslice] 0 [.int .i64 (c:Nat)]) 1 [.str (Zas (a:Rat))]) 2 [vs]=[.int .i64 (c:Nat),.str (Zas (a:Rat)),vs]:=rfl
 have b2:splice [V.int .i64 0,.str [],.nilslice] 0 [.int .i64 (c:Nat),.str (Zas (a:Rat)),vs]=[.int .i64 (c:Nat),.str (Zas (a:Rat)),vs]:=rfl
 have b3:(splice [V.int .i64 0,.str [],.nilslice] 0 [.int .i64 (c:Nat)]).length=3:=rfl
 have b4:(splice (splice [V.int .i64 0,.str [],.nilslice] 0 [.int .i64 (c:Nat)]) 1 [.str (Zas (a:Rat))]).length=3:=rfl
 simp(disch:=first|(simp;done)|omega|rfl) [-getElem?_pos, -V.cells, -V.one,hr,h48,h8,h9,h10,a0,a7,hvo,hvc,hci,hco,hcs,hcg,hsto,b1,b2,b3,b4,Zbs,f1,Zam.chk]
 exact⟨hf,j,by omega,by simp[wR,hW],(hK.trans kY).trans f2,k+1,by omega,by omega,f3⟩
def Ynz{nB n0 n:Nat}{B:T O}{vd va:V}{m:List (List Str)}{am ys:List Int}{r0:T V}(hBn:nB≤n0)(hF:FwM m)(hn:n=hdL m)(hd:MtS B n0 vd m)(has:am=ys.map (Zao .i64))(ha:Sl B n0 va (ys.map fun z=>.int .i8 z))(hal:am.length≤8)(hP:P10 B n0)(a0:r0.get 0=some vd)(a1:r0.get 1=some va)(a7:r0.get 7=some (.int .i64 n))(a47:r0.get 47=some (.int .i64 ((n+am.length:Nat):Int))):
  ∀j r st,(∀t,inD [(6,6),(8,13),(48,98)] t=false→r.get t=r0.get t)→Fx [(6,6),(8,13),(48,98)] r0 223 ⟨r,223,[]⟩→(oldIds nB st.w=[]∧Keeps B n0 st.h st.n∧∃k,k+j=n+am.length∧r.get 48=some (.int .i64 (k:Nat))∧∃v,r.get 8=some v∧PkF n0 st.n st.h v (pkL (Zeb m) n am k))→Code A.C none A.lb3_0 ⟨r,223,[]⟩ st (Rd [(6,6),(8,13),(48,98)] r0 223 (fun j r st=>oldIds nB st.w=[]∧Keeps B n0 st.h st.n∧∃k,k+j=n+am.length∧r.get 48=some (.int .i64 (k:Nat))∧∃v,r.get 8=some v∧PkF n0 st.n st.h v (pkL (Zeb m) n am k)) j (fun e r st=>e=.exit 0∧oldIds nB st.w=[]∧Keeps B n0 st.h st.n∧∃v,r.get 8=some v∧PkF n0 st.n st.h v (pkL (Zeb m) n am (n+am.length)))):=by
 rintro j r ⟨H,n1,W⟩ hr hf ⟨hW,hK,k,hk,h48,v,h8,hL⟩
 simp only at hW hK hL
 rw[Zah]
 have leK:=hK.le
 have D:=hF.D
 have d1:=D.n1
 have d4:=D.n4
 rw[←hn]at d1 d4
 have la:=ha.len
 have lae:ys.length=am.length:=by rw[has,Yvn]
 rw[Yvn,lae]at la
 have ld:=hd.len
 have lm:m.length=(Zeb m).length:=by simp[Zeb]
 cases j with
 |zero=>
  obtain rfl:k=n+am.length:=by omega
  simp(disch:=first|(simp;done)|omega|rfl) [-getElem?_pos,A.lb3_0,hr,hf,h48,h8,a47,hW,hK]
  exact hL
 |succ j=>
  have hlt:k<n+am.length:=by omega
  have hlt':(k:Int)<((n+am.length:Nat):Int):=by omega
  have hlt2:(k:Int)<(n:Int)+(am.length:Int):=by omega
  obtain⟨a,ea⟩:∃a,amt n am k=a:=⟨_,rfl⟩
  have ha9:=(Zlp (n:=n) (am:=am) (k:=k)).2
  have ha0:=(Zlp (n:=n) (am:=am) (k:=k)).1
  rw[ea]at ha9 ha0
  have hkn:(k:Int)%(n:Int)=((k%n:Nat):Int):=by omega
  have hkl:k%n<n:=Yvx _ d1
  have hn0:¬(n:Int)=0:=by omega
  by_cases hkn1:n≤k
  ·have hkn2:(n:Int)≤(k:Int):=by omega
   obtain⟨z,hz⟩:=Zaf (l:=am) (show k-n<am.length by omega)
   obtain⟨y,hy,hyz⟩:∃y,ys[k-n]?=some y∧Zao .i64 y=z:=by
    rw[has,Yvd,Yu2]at hz
    exact hz
   obtain⟨i,o,cc,e,rw,q1,q2,q3,q4⟩:=(ha.keep hK).at (show (ys.map fun z=>V.int .i8 z)[k-n]?=some (.int .i8 y) by rw[Yvd,hy];rfl)
   have hsub:(k:Int)-(n:Int)=((k-n:Nat):Int):=by omega
   have hl3:k-n<am.length:=by omega
   have hl3':((k-n:Nat):Int)<(am.length:Int):=by omega
   have e0:Ykg n am k=z.tmod 10:=by unfold Ykg;rw[Yuu hkn1,hz];rfl
   have ea2:a=if z.tmod 10=0 then 7 else z.tmod 10:=by rw[←ea];unfold amt;rw[e0]
   by_cases hz0:z.tmod 10=0
   ·rw[Yuu hz0]at ea2
    subst ea2
    simp(disch:=first|(simp;done)|omega|rfl) [-getElem?_pos,A.lb3_0,hr,hf,h48,h8,a0,a1,a7,a47,hlt',hlt2,hkn1,hkn2,hsub,hl3,hl3',la,q1,q3,q4,hyz,hz0,Zae]
    refine Zvi hBn hF hn hd hal hP a0 a7 ?_ hW hK hk ?_ ?_ ?_ ?_ ea hL<;>simp[hf,h48,h8]
   ·rw[Yur hz0]at ea2
    simp(disch:=first|(simp;done)|omega|rfl) [-getElem?_pos,A.lb3_0,hr,hf,h48,h8,a0,a1,a7,a47,hlt',hlt2,hkn1,hkn2,hsub,hl3,hl3',la,q1,q3,q4,hyz,hz0,Zae]
    refine Zvi hBn hF hn hd hal hP a0 a7 ?_ hW hK hk ?_ ?_ ?_ ?_ ea hL<;>simp[hf,h48,h8,ea2]
  ·have hkn2:¬(n:Int)≤(k:Int):=by omega
   have e0:Ykg n am k=1:=by unfold Ykg;rw[Yur hkn1]
   have ea2:a=1:=by rw[←ea];unfold amt;rw[e0];rfl
   subst ea2
   simp(disch:=first|(simp;done)|omega|rfl) [-getElem?_pos,A.lb3_0,hr,hf,h48,h8,a0,a1,a7,a47,hlt',hlt2,hkn1,hkn2,Zae]
   refine Zvi hBn hF hn hd hal hP a0 a7 ?_ hW hK hk ?_ ?_ ?_ ?_ ea hL<;>simp[hf,h48,h8]
variable {D m:List (List Rat)} {k n:Nat} {x:Rat}
def Zmp{B:List (List Rat)}{c:Nat}:(Ze5 B c).length=c:=by simp[Ze5]
def Zxg{i:Nat}(hk:k<n)(hi:i<m.length):atQ (Ze5 m n) k i=atQ m i k:=by
 unfold atQ Ze5 Zib
 simp only[Yvd,Yxr hk,Yw4,Yxj,Yut hi]
def Yfn{m:List (List Rat)}{n:Nat}:RcN (Ze5 m n) m.length:=fun r hr=>by
 unfold Ze5 at hr
 obtain⟨k,_,rfl⟩:=Yvb.1 hr
 simp[Zib]
def Yhf{a b:List (List Rat)}(h:a.length=b.length)(ha:RcN a n)(hb:RcN b n)(he:∀i j,i<a.length→j<n→atQ a i j=atQ b i j):a=b:=by
 apply List.ext_getElem h
 intro i h1 h2
 have l1:=ha.at h1
 have l2:=hb.at h2
 rw[Yut h1]at l1
 rw[Yut h2]at l2
 simp only[Yxj]at l1 l2
 apply Yho (by rw[l1,l2])
 intro j hj
 have:=he i j h1 (by omega)
 unfold atQ at this
 rw[Yut h1,Yut h2]at this
 exact this
def Zxr(h:RcN m n):Ze5 (Ze5 m n) m.length=m:=by
 have hl:(Ze5 m n).length=n:=Zmp
 apply Yhf (n:=n) Zmp (by have:=@Yfn (Ze5 m n) m.length;rw[hl]at this;exact this) h
 intro i j hi hj
 rw[Zmp]at hi
 rw[Zxg hi (by rw[hl];exact hj),Zxg hj hi]
def Ykb{l:List Pk}(h:∀k,k<n→Zgq (Zb3 l (k:Int)) D.length=Zib D k)(hc:RcN D n):Ydc l D.length n=D:=by
 have e:Yac l D.length n=Ze5 D n:=by
  unfold Yac Ze5
  apply Yww
  intro k hk
  exact h k (Yws.1 hk)
 unfold Ydc
 rw[e]
 exact Zxr hc
def Zgy:(Zib D k).length=D.length:=by simp[Zib]
structure PkK (D:List (List Rat)) (n:Nat) (l:List Pk):Prop where
 chk:Zhr l (D.length:Int) (n:Int)=0
 sh:ShP l
 int:Ydc l D.length n=D
def Yrj{am:List Int}(h:FwD D n)(ha:am.length≤8):PkK D n (pkL D n am (n+am.length))∧Zvz (pkL D n am (n+am.length)) D.length n=(List.range n).map fun _=>0:=by
 have h4:=h.n4
 have h5:=h.s5
 have hs1:=h.s1
 have hn1:=h.n1
 have hll:=Zm2 (D:=D) (n:=n) (am:=am) (K:=n+am.length)
 have hmem:∀p∈pkL D n am (n+am.length),∃k,p=pkA D n am k:=fun p hp=>by
  unfold pkL at hp
  rw[List.mem_reverse]at hp
  obtain⟨k,_,rfl⟩:=Yvb.1 hp
  exact⟨k,rfl⟩
 refine⟨⟨Zw5 (by omega) hs1 (by omega) hn1 (by omega) (fun p hp=>?_) (fun j hj=>Zm3 hj (by omega)),⟨.inl (by omega),fun p hp=>?_⟩,Ykb (fun k hk=>Zk5 (Zqc (Zm3 hk (by omega))) Zgy Ze6) h.rc⟩,?_⟩
 ·obtain⟨k,rfl⟩:=hmem p hp
  exact(Ybv h k).pkE
 ·obtain⟨k,rfl⟩:=hmem p hp
  exact(Ybv h k).sh (by omega)
 ·unfold Zvz
  apply Yww
  intro k hk
  rw[Yws]at hk
  rw[Zk5 (Zqc (Zm3 hk (by omega))) Zgy Ze6]
  exact Zmw Ze6
def pkD(D:List (List Rat))(x:Rat):Pk:=pkR 0 1 (Zhb (Zib D 0) x)
def Ylt{s:List Rat}:(s.map fun x=>x/((1:Int):Rat))=s:=by
 have:(fun x:Rat=>x/((1:Int):Rat))=id:=funext fun x=>by
  show x/((1:Int):Rat)=x
  rw[Rat.div_def,show (((1:Int):Rat))⁻¹=1 by decide+kernel,Rat.mul_one]
 rw[this,List.map_id]
def Yo7(h:FwD D n)(hx:Bnd 9999 9999 x):∀q∈Zhb (Zib D 0) x,Bnd 199960002 99980001 q:=fun q hq=>by
 unfold Zhb at hq
 rcases Yxy hq with hq|rfl
 ·exact(h.col 0 q hq).mono (by decide) (by decide)
 ·refine(Bnd.add (A:=9999) (B:=9999) (C:=9999) (D:=9999) ?_ hx).mono (by decide) (by decide)
  cases e:(Zib D 0)[0]? with
  |none=>exact⟨by decide,by decide⟩
  |some y=>exact h.col 0 y (Yux e)
def Yjf(h:FwD D n)(hx:Bnd 9999 9999 x):OkR D.length n 0 1 (Zhb (Zib D 0) x):=⟨h.n1,by decide,by decide,by rw[Zjv,Zgy],fun q hq=>Zod (Yo7 h hx q hq) (by decide) (by decide)⟩
def Zv0{l:List Pk}:Zb3 (l++[pkD D (-x),pkD D x]) (k:Int)=if k=0 then Zb3 l (k:Int)++[Zhb (Zib D 0) (-x),Zhb (Zib D 0) x] else Zb3 l (k:Int):=by
 rw[show l++[pkD D (-x),pkD D x]=(l++[pkD D (-x)])++[pkD D x] by simp,Zmx,Zmx]
 have e:∀y,((Zk1 (pkD D y).sl).map fun z=>z/Zfb (pkD D y).am)=Zhb (Zib D 0) y:=fun y=>by
  unfold pkD
  rw[Yjc,Ylt]
 rw[e,e]
 have a:∀y,(pkD D y).act=(0:Int):=fun _=>rfl
 rw[a,a]
 by_cases h:k=0
 ·subst h;simp
 ·have:¬(0:Int)=(k:Int):=by omega
  simp only[Yur this,Yur h,Ywo]
def Yrk{am:List Int}(h:FwD D n)(ha:am.length≤8)(hx:Bnd 9999 9999 x):PkK D n (pkL D n am (n+am.length)++[pkD D (-x),pkD D x])∧Zvz (pkL D n am (n+am.length)++[pkD D (-x),pkD D x]) D.length n=(List.range n).map fun k=>if k=0 then 2*(x*x) else 0:=by
 have h4:=h.n4
 have h5:=h.s5
 have hs1:=h.s1
 have hn1:=h.n1
 have hll:=Zm2 (D:=D) (n:=n) (am:=am) (K:=n+am.length)
 have hmem:∀p∈pkL D n am (n+am.length)++[pkD D (-x),pkD D x],∃j a s,p=pkR j a s∧OkR D.length n j a s:=fun p hp=>by
  rcases Yv1.1 hp with hp|hp
  ·unfold pkL at hp
   rw[List.mem_reverse]at hp
   obtain⟨k,_,rfl⟩:=Yvb.1 hp
   exact⟨_,_,_,rfl,Ybv h k⟩
  ·simp only[Yvt,List.not_mem_nil,or_false]at hp
   rcases hp with rfl|rfl
   ·exact⟨_,_,_,rfl,Yjf h hx.neg⟩
   ·exact⟨_,_,_,rfl,Yjf h hx⟩
 have hcl:0<(Zib D 0).length:=by rw[Zgy];exact hs1
 have hmean:∀k,k<n→Zgq (Zb3 (pkL D n am (n+am.length)++[pkD D (-x),pkD D x]) (k:Int)) D.length=Zib D k:=fun k hk=>by
  rw[Zv0]
  by_cases h0:k=0
  ·subst h0
   rw[Yuu rfl]
   exact Yhd Zgy Ze6
  ·rw[Yur h0]
   exact Zk5 (Zqc (Zm3 hk (by omega))) Zgy Ze6
 refine⟨⟨Zw5 (by simp[hll];omega) hs1 (by omega) hn1 (by omega) (fun p hp=>?_) (fun j hj=>?_),⟨.inl (by simp[hll];omega),fun p hp=>?_⟩,Ykb hmean h.rc⟩,?_⟩
 ·obtain⟨j,a,s,rfl,ho⟩:=hmem p hp
  exact ho.pkE
 ·obtain⟨p,p1,p2⟩:=Zm3 (D:=D) (am:=am) (K:=n+am.length) hj (by omega)
  exact⟨p,List.mem_append_left _ p1,p2⟩
 ·obtain⟨j,a,s,rfl,ho⟩:=hmem p hp
  exact ho.sh (by omega)
 ·unfold Zvz
  apply Yww
  intro k hk
  rw[Yws]at hk
  rw[hmean k hk,Zv0]
  by_cases h0:k=0
  ·subst h0
   rw[Yuu rfl,Yuu rfl]
   exact Yk4 hcl Ze6
  ·rw[Yur h0,Yur h0]
   exact Zmw Ze6
def Ybd{F:Nat→Rat}{A B:Nat}(h:∀k,Bnd A B (F k))(hA:A<10^600)(hB:B<10^600):Zdw ((List.range n).map F)=false:=by
 unfold Zdw
 rw[List.any_eq_false]
 intro q hq
 obtain⟨k,_,rfl⟩:=Yvb.1 hq
 rw[(h k).big hA hB]
 decide
def Yqv(h:FwD D n):Ztc D=false:=by
 unfold Ztc
 rw[List.any_eq_false]
 intro r hr
 have:Zdw r=false:=by
  unfold Zdw
  rw[List.any_eq_false]
  intro q hq
  rw[(h.bd r hr q hq).big (Yyn (by decide)) (Yyn (by decide))]
  decide
 rw[this]
 decide
end Go.Mx
