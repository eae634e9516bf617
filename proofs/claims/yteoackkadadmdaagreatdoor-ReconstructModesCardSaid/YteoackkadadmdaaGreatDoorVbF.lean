/-reconstruct-/
import Derived.Test.YteoackkadadmdaaGreatDoorVbA
set_option linter.all false
namespace Go.Mx
open Go Go.Proofs
variable {N:Nat} {h:T O} {l:List Rat} {m:List (List Rat)} {u v:V}
set_option maxRecDepth 1000000
def A.rI:av:=sr [bi 9 .lss 8 7]
 (.seq (cd 9
 (.skip)
 (.exit 0))
 (.seq (.block 1 (sr [mv 10 8,mv 5 10]
 (sr [mv 11 1,mv 12 0,mv 13 5,ia 14 4 12 13,lN 15 4 14,ge 16 (.call (tq 11) [tq 15])]
 (cd 16
 (sr [mv 17 5,mv 4 17]
 (.ret))
 (.skip)))))
 (.aR [bc 18 .add 8 1,mv 8 18])))
def A.b166:av:=sr [mc 4 0]
 (.seq (sr [mv 6 0,ln 7 6,mc 8 0]
 (.block 0 (.loop A.rI)))
 (sr [ge 4 (.ba (.const (.int .i64 (-1))))]
 (.ret)))
def A.c166:A.F 166=some ⟨19,[.tmp 4],A.b166⟩:=by kernel_rfl
def A.k166:=@A.kk 166 _ _ _ A.c166 rfl
def Yn1{f:V}(l:List (List V))(p:Nat->Bool)(hs:Sn 4 h N v l)(hl:l.length<1152921504606846976)(hf:∀(j:Nat) (x:List V),l[j]?=some x->∀h' n',ab h N h' n'->jR A.C f [.agg x] h' n' (fun u _ _=>u=.bool (p j))):Fn A.C 166 [v,f] h N (fun u _ _=>u=.int .i64 (nH p 0 l.length)):=by
 intro w
 have hlen:=hs.len
 rw[aO,A.k166 (by simp)]
 simp[A.b166,hlen]
 refine bP [(4,5),(8,18)] (fun e r st=>ax N st.w=[]/\ab h N st.h st.n/\((e=.exit 0/\nH p 0 l.length= -1)\/(e=.ret/\r.get 4=some (.int .i64 (nH p 0 l.length))))) (fun m r st=>ax N st.w=[]/\ab h N st.h st.n/\∃k,k+m=l.length/\r.get 8=some (.int .i64 k)/\nH p 0 l.length=nH p k m) l.length ?_ ?_ ?_
 ·exact⟨by simp,ab.refl,0,by omega,by simp,rfl⟩
 ·rintro m r ⟨H,n1,W⟩ hr c_ ⟨hW,hK,k,hk,h8,hz⟩
  simp only at hW hK
  rw[bq]
  cases m with
  |zero=>
   have:k=l.length:=by omega
   subst this
   simp only[nH]at hz
   simp[A.rI,hr,c_,h8,hW,hK,hz]
  |succ m=>
   have ay:k<l.length:=by omega
   obtain⟨c,hc⟩:=bp ay
   obtain⟨i,o,cc,e,rw,q1,q2,q3,q4⟩:=hs.at hc
   have q3:=(hK.get _ q2).trans q3
   have bR:(k:Int)<(l.length:Int):=by omega
   simp only[nH]at hz
   simp[A.rI,hr,h8,bR,hlen,q1,q3,q4]
   refine Ca (hf k c hc _ _ hK) ?_
   rintro v h2 n2 k2 rfl
   have kk:=hK.trans k2
   cases hp:p k
   ·rw[hp]at hz
    simp(disch:=first|(simp;done)|omega|rfl) [c_,h8,hW,kk]
    exact⟨m,by omega,k+1,by omega,by simp,by simpa using hz⟩
   ·rw[hp]at hz
    simp[c_,hW,kk]
    simpa using hz.symm
 ·rintro e r ⟨H,n1,W⟩ hr ⟨hW,hK,⟨rfl,hz⟩|⟨rfl,h4⟩⟩
  ·simp only at hW hK
   simp[hz,az,hW,hK]
  ·simp only at hW hK
   simp[h4,az,hW,hK]
def A.b108:av:=sr [ge 4 (.ba (.const (.bool false)))]
 (sr [mv 5 0,mv 6 1,c2 7 166 5 6,bc 8 .geq 7 0,mv 4 8]
 (.ret))
def A.c108:A.F 108=some ⟨9,[.tmp 4],A.b108⟩:=by kernel_rfl
def A.k108:=@A.kk 108 _ _ _ A.c108 rfl
def A.b67:av:=sr [mN 2,mc 3 0]
 (.seq (sr [mv 4 0,ge 5 (.call (fq 108) [tq 4,(fq 87)])]
 (cd 5
 (sr [mN 2,mc 3 4]
 (.ret))
 (.skip)))
 (sr [mv 6 0,c1 7 142 6,mv 2 7,mc 3 0]
 (.ret)))
def A.c67:A.F 67=some ⟨8,[.tmp 2,.tmp 3],A.b67⟩:=by kernel_rfl
def A.k67:=@A.kk 67 _ _ _ A.c67 rfl
def A.wj:av:=sr [bi 9 .lss 8 7]
 (.seq (cd 9
 (.skip)
 (.exit 0))
 (.seq (.block 1 (sr [mv 10 8,mv 6 10]
 (.aR [mv 11 5,mv 12 0,mv 13 6,c2 14 66 12 13,ge 15 (.aV 76 1 1 [.aa] [(0,1,(tq 14))]),ge 16 (.append 1 24 76 [.aa] (tq 11) (tq 15)),mv 5 16])))
 (.aR [bc 17 .add 8 1,mv 8 17])))
def A.b64:av:=sr [mN 4]
 (sr [mN 5]
 (.seq (sr [mv 7 1,mc 8 0]
 (.block 0 (.loop A.wj)))
 (sr [mv 18 5,mv 4 18]
 (.ret))))
def A.c64:A.F 64=some ⟨19,[.tmp 4],A.b64⟩:=by kernel_rfl
def A.k64:=@A.kk 64 _ _ _ A.c64 rfl
def A.wk:av:=sr [bi 15 .lss 14 13]
 (.seq (cd 15
 (.skip)
 (.exit 0))
 (.seq (.block 1 (sr [mv 16 14,mv 8 16]
 (.aX [mv 17 7,mv 18 8,mv 19 2,mv 20 0,mv 21 8,ia 22 4 20 21,lN 23 4 22,mv 24 1,mv 25 8,ia 26 4 24 25,lN 27 4 26,ge 28 (.call (tq 19) [tq 23,tq 27]),ia 29 4 17 18,gn (.store 4 (tq 29) (tq 28))] [0,0,0,0,0,24,56,0,0,384,896,2044,4095,8191])))
 (.aR [bc 30 .add 14 1,mv 14 30])))
def A.b68:av:=sr [mN 6]
 (sr [mv 9 0,ln 10 9,ge 11 (.bY 103 4 64 [.int .i64 0,.aa,.int .i64 0,.aa] (tq 10) (tq 10)),mv 7 11]
 (.seq (sr [mv 12 0,ln 13 12,mc 14 0]
 (.block 0 (.loop A.wk)))
 (sr [mv 31 7,mv 6 31]
 (.ret))))
def A.c68:A.F 68=some ⟨32,[.tmp 6],A.b68⟩:=by kernel_rfl
def A.k68:=@A.kk 68 _ _ _ A.c68 rfl
def Yjc{f:V}(l:List (List V))(p:Nat->Bool)(hs:Sn 4 h N v l)(hl:l.length<1152921504606846976)(hf:∀(j:Nat) (x:List V),l[j]?=some x->∀h' n',ab h N h' n'->jR A.C f [.agg x] h' n' (fun u _ _=>u=.bool (p j))):Fn A.C 108 [v,f] h N (fun u _ _=>u=.bool (decide (0<=nH p 0 l.length))):=by
 intro w
 rw[aO,A.k108 (by simp)]
 simp[A.b108]
 refine aA (Yn1 l p hs hl hf) ?_
 rintro v h2 n2 k2 rfl
 simp[az,k2]
def Zz7:decide (0<=nH (fun j=>Az (l[j]?.getD 0)) 0 l.length)=oW l:=by
 rw[Bool.eq_iff_iff,decide_eq_true_eq,ZY]
 unfold oW
 rw[List.any_eq_true]
 constructor
 ·rintro⟨j,_,h2,h3⟩
  obtain⟨q,hq⟩:=bp (l:=l) (k:=j) (by omega)
  rw[hq]at h3
  exact⟨q,cm hq,h3⟩
 ·rintro⟨q,hq,h3⟩
  obtain⟨j,hj⟩:=zb hq
  exact⟨j,tH _,by have:=j_ hj;omega,by rw[hj];exact h3⟩
def Yge{h:T O}{N:Nat}{u:V}{l:List Rat}{k:Nat}(hu:kM h N u l)(hP:kJ h N)(hl:l.length<1000000000)(hq:∀q∈l,Qb k q)(hk:k<=400000000):Fn A.C 67 [u] h N (fun x h' n'=>(oW l=true/\x=.bg [.aa,.int .i64 4])\/(oW l=false/\∃v,x=.bg [v,.int .i64 0]/\sF h' n' v l)):=by
 intro w
 obtain⟨cs,s1,s2,s3⟩:=id hu
 have key:=Yjc (f:=.func 87 [] []) cs (fun j=>Az (l[j]?.getD 0)) s1 (by omega) (fun j x hx h' n' gw=>by
  obtain⟨q,YZ⟩:=bp (l:=l) (k:=j) (by have:=j_ hx;omega)
  obtain⟨c,g1,g2⟩:=s3 j q YZ
  rw[hx]at g1
  obtain rfl:x=c:=by simpa using g1
  simp only[YZ,rM]
  exact Yed (g2.ae gw).fc (hP.ae gw) (hq q (cm YZ)) (by omega))
 rw[s2,Zz7]at key
 rw[aO,A.k67 (by simp)]
 simp[A.b67]
 refine aA key ?_
 rintro _ h2 n2 k2 rfl
 cases hb:oW l with
 |true=>
  simp[az]
  exact k2
 |false=>
  simp[]
  refine aA (Ygi (k0:=k) (hu.ae k2) (hP.ae k2) hl hq hk) ?_
  rintro v h3 n3 k3 t1
  simp[az]
  exact⟨k2.trans k3,t1⟩
def iC(N0:Nat)(h:T O)(N:Nat)(v:V)(m:List (List Rat)):Prop:=∃us:List V,Own 1 76 N0 h N v (us.map fun y=>[y])/\(us=[]->v=.aa)/\us.length=m.length/\∀(j:Nat) (l:List Rat),m[j]?=some l->∃u,us[j]?=some u/\dZ h N u l
def iC.nil{N0:Nat}:iC N0 h N .aa []:=⟨[],Own.nil,fun _=>rfl,rfl,fun j l hl=>by simp at hl⟩
def iC.ae{N0:Nat}{h':T O}{N':Nat}(s:iC N0 h N v m)(k:ab h N h' N'):iC N0 h' N' v m:=by
 obtain⟨us,h1,h2,h3,h4⟩:=s
 refine⟨us,h1.ae k,h2,h3,fun j l hl=>?_⟩
 obtain⟨u,g1,g2⟩:=h4 j l hl
 exact⟨u,g1,g2.ae k⟩
def iC.HW{N0:Nat}(s:iC N0 h N v m):gp h N v m:=by
 obtain⟨us,h1,h2,h3,h4⟩:=s
 exact⟨us,Sn.one.1 h1.sn,h3,h4⟩
def iC.push{N0:Nat}{x:V}{w:List Nat}(s:iC N0 h N v m)(hu:dZ h N u l)(hN:N0<=N)(hx:eD ⟨h,N,w⟩ 1 x=some (1,[u]))(hm:m.length<100000):
  ∃v' h' w',gj ⟨h,N,w⟩ 1 24 76 v x=some (v',⟨h',N+1,w'⟩)/\ax N0 w'=ax N0 w/\ab h N0 h' (N+1)/\iC N0 h' (N+1) v' (m++[l]):=by
 obtain⟨us,h1,h2,h3,h4⟩:=s
 obtain⟨v',h',w',f1,f2,f3,f4,fD,f5⟩:=De (Y:=NW) (x:=[u]) (u:=x) (bytes:=24) (w:=w) h1 (fun h0=>h2 (List.map_eq_nil_iff.1 h0)) (fun c hc y hy=>by
  obtain⟨z,hz,rfl⟩:=eM.1 hc
  obtain rfl:y=z:=by simpa using hy
  obtain⟨j,hj⟩:=zb hz
  obtain⟨r,hr⟩:=bp (l:=m) (k:=j) (by have:=j_ hj;omega)
  obtain⟨u',g1,g2⟩:=h4 j r hr
  rw[hj]at g1
  obtain rfl:y=u':=by simpa using g1
  exact g2.1.form.2.2) hN (by decide) rfl hx (by rw[jP];omega)
 refine⟨v',h',w',f1,f2,f3,us++[u],by simpa using f5,by simp,by simp[h3],fun j r hr=>?_⟩
 by_cases hj:j<m.length
 ·rw[lE hj]at hr
  obtain⟨u',g1,g2⟩:=h4 j r hr
  exact⟨u',by rw[lE (by omega)];exact g1,g2.bV f4 fD (by simp)⟩
 ·rw[oV (by omega)]at hr
  cases hd:j-m.length with
  |zero=>
   rw[hd]at hr
   simp at hr
   subst hr
   exact⟨u,by rw[oV (by omega),h3,hd];rfl,hu.bV f4 fD (by simp)⟩
  |succ d=>rw[hd]at hr;simp at hr
def Zwk{n:Nat}(hu:gp h N u m)(jQ:m.length<100000)(hm:∀r∈m,r.length=n)(hn:n<1000):Fn A.C 64 [u,.int .i64 n] h N (fun x h' n'=>iC N h' n' x (fg m n)):=by
 intro w
 rw[aO,A.k64 (by simp)]
 simp[A.b64]
 refine bP [(5,6),(8,17)] (fun e r st=>e=.exit 0/\ax N st.w=[]/\ab h N st.h st.n/\∃x,r.get 5=some x/\iC N st.h st.n x (fg m n)) (fun i r st=>ax N st.w=[]/\ab h N st.h st.n/\∃k x,k+i=n/\r.get 8=some (.int .i64 k)/\r.get 5=some x/\iC N st.h st.n x (fg m k)) n ?_ ?_ ?_
 ·exact⟨by simp,ab.refl,0,.aa,by omega,by simp,by simp,iC.nil⟩
 ·rintro i r ⟨H,n1,W⟩ hr hf ⟨hW,hK,k,x,hk,h8,h5,ho⟩
  simp only at hW hK ho
  rw[bq]
  cases i with
  |zero=>
   obtain rfl:k=n:=by omega
   simp[A.wj,hr,hf,h8,h5,hW,hK]
   exact ho
  |succ i=>
   have ay:k<n:=by omega
   have bn:(k:Int)<(n:Int):=by omega
   simp[A.wj,hr,h8,h5,bn]
   refine aA (Zxn (hu.ae hK) jQ hm ay) ?_
   rintro y H2 n2 k2 hy
   have kI:=k2.le
   have fi:=hK.le
   obtain⟨y1,y2,y3⟩:=hy.1.form
   have e4:ad [V.aa] 0 [y]=[y]:=rfl
   have kN:ab H2 n2 (H2.set n2 (.cells [y] 76 true)) (n2+1):=ab.refl.new _
   obtain⟨v',h',w',f1,f2,f3,f5⟩:=(((ho.ae k2).ae kN).push (x:=.slice n2 0 1 (some 1) 1) (l:=iQ m k) (w:=W) (hy.ae kN) (by omega) (by simp[eD,St.row,aE]) (by simp[fg];omega))
   have e7:fg m k++[iQ m k]=fg m (k+1):=by simp[fg,List.range_succ]
   rw[e7]at f5
   have b1:V.one y=true:=y1
   simp(disch:=first|(simp;done)|omega|rfl) [-V.cells, -V.one,hf,h8,b1,y2,e4,f1]
   exact⟨i,by omega,by rw[f2];exact hW,((hK.trans k2).trans kN).then f3,k+1,by omega,by simp,f5⟩
 ·rintro _ r ⟨H,n1,W⟩ hr ⟨rfl,hW,hK,x,h5,ho⟩
  simp only at hW hK ho
  simp[h5,az,hW,hK]
  exact ho
variable {a b:List Rat} {j n:Nat}
set_option maxHeartbeats 2000000
def me(F:Rat->Rat->Rat)(a b:List Rat)(n:Nat):List Rat:=(List.range n).map fun k=>F (a[k]?.getD 0) (b[k]?.getD 0)
def Oi{F:Rat->Rat->Rat}(h:j<n):(me F a b n)[j]?=some (F (a[j]?.getD 0) (b[j]?.getD 0)):=by
 simp[me,h]
def Ff{F:Rat->Rat->Rat}:(me F a b n).length=n:=by simp[me]
structure JnI (F:Rat->Rat->Rat) (h:T O) (N:Nat) (a b:List Rat) (m:Nat) (r:T V) (st:St):Prop where
 w:ax N st.w=[]
 ae:ab h N st.h st.n
 ex:∃(k:Nat) (cs:List (List V)),k+m=a.length/\r.get 14=some (.int .i64 k)/\N<st.n/\st.h.get N=some (.cells (cs.flatten++dr zF m) 103 true)/\cs.length=k/\∀(j:Nat) (q:Rat),j<k->(me F a b a.length)[j]?=some q->∃c,cs[j]?=some c/\fW st.h st.n c q
def ZB{h:T O}{N:Nat}{u v f:V}(F:Rat->Rat->Rat)(hu:kM h N u a)(hv:kM h N v b)(h_:a.length<=b.length)(hF:∀x∈a,∀y∈b,∀(h':T O) (n':Nat) (ca cb:List V),ab h N h' n'->fW h' n' ca x->fW h' n' cb y->jR A.C f [.agg ca,.agg cb] h' n' (fun z h2 n2=>Fc h2 n2 z (F x y)))(hl:a.length<1000000000):Fn A.C 68 [u,v,f] h N (fun x h' n'=>dZ h' n' x (me F a b a.length)):=by
 intro w
 have l1:=hu.len
 have l2:=hv.len
 have c1:(64:Int)*(a.length:Int)<=140737488355328:=by omega
 have c2:(a.length:Int)<4611686018427387904:=by omega
 have kB:ab h N (h.set N (.cells (dr zF a.length) 103 true)) (N+1):=ab.refl.new _
 rw[aO,A.k68 (by simp)]
 simp[A.b68,l1,c1,c2]
 refine bP [(8,8),(14,30)] (fun e r st=>e=.exit 0/\JnI F h N a b 0 r st) (JnI F h N a b) a.length ?_ ?_ ?_
 ·exact⟨by simp,kB,0,[],by omega,by simp,by show N<N+1;omega,by rw[T.ag,aF rfl];rfl,rfl,fun j q hj=>by omega⟩
 ·rintro m r ⟨H,n1,W⟩ hr hf ⟨hW,hK,t,cs,ht,nZ,oP,hM,cO,lK⟩
  simp only at hW hK hM oP lK
  rw[bq]
  cases m with
  |zero=>
   obtain rfl:t=a.length:=by omega
   simp[A.wk,hr,hf,nZ]
   exact⟨hW,hK,a.length,cs,by omega,by simp[nZ],oP,hM,cO,lK⟩
  |succ m=>
   have ay:t<a.length:=by omega
   have bn:(t:Int)<(a.length:Int):=by omega
   have jk:t<b.length:=by omega
   have Ar:(t:Int)<(b.length:Int):=by omega
   obtain⟨x,hx⟩:=bp ay
   obtain⟨y,hy⟩:=bp jk
   obtain⟨i,o,cc,e,rw,ca,q1,q2,q3,q4,q5⟩:=(hu.ae hK).at hx
   obtain⟨i',o',YU,e',oC,cb,p1,p2,p3,p4,p5⟩:=(hv.ae hK).at hy
   have hi:i<N:=by
    obtain⟨i2,_,_,_,_,_,z1,z2,_⟩:=hu.at hx
    rw[q1]at z1
    simp at z1
    omega
   have iF:i'<N:=by
    obtain⟨i2,_,_,_,_,_,z1,z2,_⟩:=hv.at hy
    rw[p1]at z1
    simp at z1
    omega
   simp[A.wk,hr,nZ,l1,l2,bn,Ar,q1,q2,q3,q4,p1,p2,p3,p4]
   refine Ca (hF x (cm hx) y (cm hy) _ _ _ _ hK q5 p5) ?_
   rintro _ H2 n2 k2 c_
   obtain⟨c,rfl,hc⟩:=c_.c
   have kI:=k2.le
   have fi:=hK.le
   have qV:=(k2.get N oP).trans hM
   have Ho:∀(j:Nat) (q:Rat),j<cs.length->(me F a b a.length)[j]?=some q->∃c,cs[j]?=some c/\fW H2 n2 c q:=fun j q hj hq=>by
    obtain⟨c,g1,g2⟩:=lK j q (by omega) hq
    exact⟨c,g1,g2.ae k2⟩
   obtain⟨f1,f2,f3⟩:=Qj (l:=me F a b a.length) (by rw[Ff];omega) Ho
   have nI:=BF f1
   obtain⟨e1,e2⟩:=hc.len
   have iU:ad (cs.flatten++dr zF (m+1)) (t*4) c=(cs++[c]).flatten++dr zF m:=by
    rw[Jn,Xk (n:=4) (by rw[nI,cO]) rfl e1,Pd,tL]
   have hb4:t*4+4<=(cs.flatten++dr zF (m+1)).length:=by
    rw[iN,nI,Yjw];omega
   have oz:(V.agg c).cells=c:=rfl
   have MA:vG (cs.flatten++dr zF (m+1)):=f2.app Xl
   have oc:((cs++[c]).flatten++dr zF m).length=(cs.flatten++dr zF (m+1)).length:=by
    rw[Jn,Pd];simp[e1,zF];omega
   generalize cs.flatten++dr zF (m+1)=X at*
   obtain⟨Y,hY⟩:∃Y,(cs++[c]).flatten++dr zF m=Y:=⟨_,rfl⟩
   rw[hY]at iU oc
   have d1:N<n2:=by omega
   have d2:¬i=N:=by omega
   have d3:¬i'=N:=by omega
   simp(disch:=first|(simp;done)|omega|rfl) [-V.cells, -V.one,hf,nZ,qV,bO,oz,e1,e2,hb4,iU]
   have ik:¬N<N:=by omega
   refine⟨m,by omega,⟨by simp[d1,ax,hW],(hK.trans k2).set (aW N),t+1,cs++[c],by omega,by simp,d1,by show T.get _ N=_;rw[T.ag,aF rfl,hY],by simp[cO],fun j q' hj uk=>?_⟩⟩
   by_cases rV:j<t
   ·obtain⟨c',g1,g2⟩:=lK j q' rV uk
    exact⟨c',by rw[lE (by omega)];exact g1,(g2.ae k2).aK qV MA oc⟩
   ·obtain rfl:j=t:=by omega
    rw[Oi ay,hx,hy]at uk
    simp only[rM,al]at uk
    subst uk
    exact⟨c,by rw[oV (by omega),cO];simp,hc.aK qV MA oc⟩
 ·rintro _ r ⟨H,n1,W⟩ hr ⟨rfl,hW,hK,t,cs,ht,nZ,oP,hM,cO,lK⟩
  simp only at hW hK hM oP lK
  obtain rfl:t=a.length:=by omega
  simp[hr,az,hW,hK]
  have hz:dr zF 0=[]:=by simp[dr]
  obtain⟨f1,_,_⟩:=Qj (l:=me F a b a.length) (by rw[Ff];omega) (fun j q hj hq=>lK j q (by omega) hq)
  have nI:=BF f1
  rw[hz,zn]at hM
  refine⟨⟨cs,.inr ⟨N,0,some a.length,cs.flatten,_,true,by rw[cO],oP,hM,fun j x hx=>by rw[xJ];exact PE f1 hx,by omega,fun k hk=>by simp at hk;omega⟩,by rw[Ff];exact cO,fun j q hq=>lK j q (by have:=j_ hq;rw[Ff]at this;omega) hq⟩,fun i hi=>?_⟩
  simp[cR]at hi
  subst hi
  exact⟨_,_,hM⟩
def Yig{h:T O}{N:Nat}{u v:V}{k:Nat}(hu:kM h N u a)(hv:kM h N v b)(h_:a.length<=b.length)(ha:∀q∈a,Qb j q)(hb:∀q∈b,Qb k q)(hj:j<=400000000)(hk:k<=400000000)(hl:a.length<1000000000):Fn A.C 68 [u,v,.func 86 [] []] h N (fun x h' n'=>dZ h' n' x (xr a b a.length)):=
 ZB (fun x y=>x*y) hu hv h_ (fun x hx y hy h' n' ca cb _ q5 p5=>by
  have tF:=ha x hx
  have iJ:=hb y hy
  have w1:=tV tF.1
  have w2:=tV (z:=(x.den:Int)) (k:=j) (by rw[dJ];exact tF.2)
  have w3:=tV iJ.1
  have w4:=tV (z:=(y.den:Int)) (k:=k) (by rw[dJ];exact iJ.2)
  exact(Qh q5.fc p5.fc (by omega) (by omega) (by omega) (by omega))) hl
def Ypt{k:Nat}(ha:∀q∈a,Qb j q)(hb:∀q∈b,Qb k q)(hj:1<=j)(hk:1<=k):∀q∈xr a b n,Qb (j+k) q:=fun q hq=>by
 unfold xr at hq
 obtain⟨i,_,rfl⟩:=eM.1 hq
 exact(Bt ha hj i).mul (Bt hb hk i)
variable {l:List aQ} {m:List (List aQ)} {n:Nat}
set_option maxHeartbeats 2000000
def vP(l:List aQ):List Rat:=l.map oY
def jj(m:List (List aQ)):List (List Rat):=m.map vP
def Bv:∀{l:List Int},bK l=0->∀x∈l,x=0
 |[],_,x,hx=>by simp at hx
 |y::l,h,x,hx=>by
  simp only[bK]at h
  split at h
  ·rename_i h0
   rcases kv.1 hx with rfl|hx
   ·exact h0
   ·exact Bv h x hx
  ·rename_i h0;exact absurd h h0
def uc(l:List aQ):Prop:=∀s∈l,bz s=0/\s.length<=24
def uc.Fh(h:uc l):(vP l).map a_=l:=by
 unfold vP
 rw[List.map_map]
 conv=>rhs;rw[<-List.map_id l]
 apply AA
 intro s hs
 exact(JV (h s hs).1).1
def uc.qb(h:uc l):∀q∈vP l,Qb 100 q:=fun q hq=>by
 obtain⟨s,hs,rfl⟩:=eM.1 hq
 exact Yrt (h s hs).1 (h s hs).2
def uc.sl{h:T O}{N:Nat}{v:V}(hs:Sl h N v (strs l))(hl:uc l):Tx h N v (vP l):=by
 unfold Tx tx
 rw[hl.Fh]
 exact hs
def eP.rat{h:T O}{N:Nat}{v:V}(hs:eP h N v m)(hm:∀r∈m,uc r):gh h N v (jj m):=by
 apply eP.uf
 have:((jj m).map fun l=>l.map a_)=m:=by
  unfold jj
  rw[List.map_map]
  conv=>rhs;rw[<-List.map_id m]
  apply AA
  intro r hr
  exact(hm r hr).Fh
 rw[this]
 exact hs
def Za(h:iw l n=0)(hs:eY 6 l=true):l.length=n/\uc l:=by
 unfold iw at h
 split at h
 ·rename_i hn
  refine⟨hn,fun s iY=>?_⟩
  have h1:=Bv h _ (eM.2 ⟨s,iY,rfl⟩)
  have h2:l.all oR=true:=by
   unfold eY at hs
   rw[ib]at hs
   exact hs.2
  have h3:=lA.1 h2 s iY
  simp[oR]at h3
  exact⟨by omega,h3⟩
 ·exact absurd h (by decide)
def Zb(h:eY n l=true):og l.length n=true:=by
 unfold eY at h
 rw[ib]at h
 exact h.1
structure Fb (m:List (List aQ)) (n:Nat):Prop where
 pos:0<m.length
 le:m.length<=6
 n1:0<n
 n6:n<=6
 row:∀r∈m,r.length=n/\uc r
def Fb.rat(h:Fb m n):∀r∈jj m,r.length=n/\∀q∈r,Qb 100 q:=fun r hr=>by
 obtain⟨s,hs,rfl⟩:=eM.1 hr
 exact⟨by simp[vP,(h.row s hs).1],(h.row s hs).2.qb⟩
def Y8(h:mi 6 6 m=true):og m.length 6=true/\∀r∈m,eY 6 r=true:=by
 unfold mi at h
 rw[ib,lA]at h
 exact h
def Yq6(h:0<m.length):∃r∈m,iS m=r.length:=by
 obtain⟨r,hr⟩:=bp h
 exact⟨r,cm hr,by simp[iS,hr]⟩
def Y9{k:Nat}(h:og k 6=true)(h2:k<=64):k<=6:=by
 simp[og]at h
 omega
def HF(h:eY 6 l=true):l.length<100000/\∀s∈l,s.length<=100000:=by
 refine⟨by have:=Yy (Zb h) (by omega);omega,fun s hs=>?_⟩
 unfold eY at h
 rw[ib]at h
 have h3:=lA.1 h.2 s hs
 simp[oR]at h3
 omega
def YN(h:mi 6 6 m=true):m.length<100000/\∀r∈m,r.length<100000/\∀s∈r,s.length<=100000:=by
 obtain⟨s1,s2⟩:=Y8 h
 exact⟨by have:=Yy s1 (by omega);omega,fun r hr=>HF (s2 r hr)⟩
def Yoi{a b:List Rat}{j k:Nat}(ha:∀q∈a,Qb j q)(hb:∀q∈b,Qb k q)(hj:1<=j)(hk:1<=k)(hn:a.length<=n):Qb (n*(j+k+1)+1) (l_ a b):=(QY ha hb hj hk a.length).mono (by have:=lV (j+k+1) hn;omega)
def Ze{a b:V}{x y:Int}{P:V->Int->Nat->Prop}(h0:P a x 0)(h1:x=0->P b y 1):∀(j:Nat) (f:V) (e:Int),[a,b][j]?=some f->[x,y][j]?=some e->(∀(i:Nat) (z:Int),i<j->[x,y][i]?=some z->z=0)->P f e j
 |0,f,e,hf,he,_=>by simp at hf he;subst hf he;exact h0
 |1,f,e,hf,he,hz=>by simp at hf he;subst hf he;exact h1 (hz 0 x (by omega) rfl)
 |j+2,f,e,hf,_,_=>by simp at hf
set_option maxHeartbeats 2000000
def Yoz{l:List aQ}{z:Int}(h:bK (l.map (pX z))=0)(hs:eY 6 l=true):uc l:=fun s iY=>by
 have h1:=Bv h _ (eM.2 ⟨s,iY,rfl⟩)
 unfold eY at hs
 rw[ib]at hs
 have h3:=lA.1 hs.2 s iY
 simp[oR]at h3
 refine⟨?_,h3⟩
 unfold pX at h1
 split at h1
 ·assumption
 ·omega
set_option maxHeartbeats 2000000
def TP(e:Int)(l:List Rat)(v:V)(c:Int)(h:T O)(n:Nat):Prop:=(e≠0/\v=.aa/\c=e)\/(e=0/\((oW l=true/\v=.aa/\c=4)\/(oW l=false/\c=0/\Tx h n v l)))
variable {q:Rat}
def A.b134:av:=sr [bx 1 103 0,ge 2 (.alloc [.int .i64 0,.aa,.int .i64 0,.aa] 103)]
 (.seq (.aX [fa 3 0 1,lN 4 2 3,c1 5 189 4,fa 6 2 1,lN 7 2 6,ge 8 (.build [.int .i64 0,.aa,.int .i64 0,.aa] [(0,2,(tq 5)),(2,2,(tq 7))]),gn (.store 4 (tq 2) (tq 8))] [0,1,3,0,8,31,63])
 (.ret))
def A.c134:A.F 134=some ⟨9,[.cell 2 (some 4)],A.b134⟩:=by kernel_rfl
def A.k134:=@A.kk 134 _ _ _ A.c134 rfl
def A.b69:av:=sr [bx 2 103 0,bx 3 103 1,ge 4 (.alloc [.int .i64 0,.aa,.int .i64 0,.aa] 103)]
 (.seq (.aX [lN 5 4 2,lN 6 4 3,c1 7 134 6,c2 8 79 5 7,gn (.store 4 (tq 4) (tq 8))] [0,0,2,7,15])
 (.ret))
def A.c69:A.F 69=some ⟨9,[.cell 4 (some 4)],A.b69⟩:=by kernel_rfl
def A.k69:=@A.kk 69 _ _ _ A.c69 rfl
def Yn6{x:V}{h:T O}{N:Nat}(hx:Fc h N x q)(l1:wl q.num<1000000000):Fn A.C 134 [x] h N (fun v h' n'=>Fc h' n' v (-q)):=by
 intro w
 rw[aO,A.k134 (by simp)]
 obtain⟨n1,u1,n2,u2,rfl,s1,s2⟩:=hx
 have o1:=dN s1
 have o2:=dN s2
 unfold V.one at o1 o2
 have kB:ab h N ((h.set N (.cells [.int .i64 n1,u1,.int .i64 n2,u2] 103 true)).set (N+1) (.cells [.int .i64 0,.aa,.int .i64 0,.aa] 103 true)) (N+2):=aP (aP ab.refl _) _
 simp[A.b134,aS,aE,o1,o2]
 generalize jH:(h.set N (.cells [.int .i64 n1,u1,.int .i64 n2,u2] 103 true)).set (N+1) (.cells [.int .i64 0,.aa,.int .i64 0,.aa] 103 true)=hB at*
 have b1:hB.get N=some (.cells [.int .i64 n1,u1,.int .i64 n2,u2] 103 true):=by rw[<-jH];simp
 have b3:hB.get (N+1)=some (.cells [.int .i64 0,.aa,.int .i64 0,.aa] 103 true):=by rw[<-jH];simp
 refine aA (Je (s1.ae kB) (by omega)) ?_
 rintro v5 h1 m1 k1 q1
 obtain⟨n3,u3,rfl⟩:∃n3 u3,v5=.agg [.int .i64 n3,u3]:=by
  rcases q1 with⟨rfl,_⟩|⟨_,_,_,_,rfl,_⟩<;>exact⟨_,_,rfl⟩
 have o3:=dN q1
 unfold V.one at o3
 have fl:=k1.le
 have f1:=(k1.get N (by omega)).trans b1
 have f3:=(k1.get (N+1) (by omega)).trans b3
 have e1:N<m1:=by omega
 have e2:N+1<m1:=by omega
 simp[f1,f3,e1,e2,aS,aE,ad,bO,o2,o3,cA.cB,az]
 have kk:=kB.trans k1
 exact⟨kk.set (by omega),n3,u3,n2,u2,rfl,by rw[Rat.neg_num];exact q1.aK (i:=N+1) f3 oa rfl,by rw[Rat.neg_den];exact((s2.ae kB).ae k1).aK (i:=N+1) f3 oa rfl⟩
def Yn5{x y:V}{p:Rat}{h:T O}{N:Nat}(hx:Fc h N x p)(hy:Fc h N y q)(l1:wl p.num<1000000000)(l2:wl (p.den:Nat)<1000000000)(l3:wl q.num<1000000000)(l4:wl (q.den:Nat)<1000000000):Fn A.C 69 [x,y] h N (fun v h' n'=>Fc h' n' v (p-q)):=by
 intro w
 rw[aO,A.k69 (by simp)]
 have oM:=hx
 have xf:=hy
 obtain⟨n1,u1,n2,u2,rfl,s1,s2⟩:=hx
 obtain⟨n3,u3,n4,u4,rfl,s3,s4⟩:=hy
 have o1:=dN s1
 have o2:=dN s2
 have o3:=dN s3
 have o4:=dN s4
 unfold V.one at o1 o2 o3 o4
 have kB:ab h N (((h.set N (.cells [.int .i64 n1,u1,.int .i64 n2,u2] 103 true)).set (N+1) (.cells [.int .i64 n3,u3,.int .i64 n4,u4] 103 true)).set (N+2) (.cells [.int .i64 0,.aa,.int .i64 0,.aa] 103 true)) (N+3):=aP (aP (aP ab.refl _) _) _
 simp[A.b69,aS,aE,o1,o2,o3,o4]
 generalize jH:((h.set N (.cells [.int .i64 n1,u1,.int .i64 n2,u2] 103 true)).set (N+1) (.cells [.int .i64 n3,u3,.int .i64 n4,u4] 103 true)).set (N+2) (.cells [.int .i64 0,.aa,.int .i64 0,.aa] 103 true)=hB at*
 have b1:hB.get N=some (.cells [.int .i64 n1,u1,.int .i64 n2,u2] 103 true):=by rw[<-jH];simp
 have b2:hB.get (N+1)=some (.cells [.int .i64 n3,u3,.int .i64 n4,u4] 103 true):=by rw[<-jH];simp
 have b3:hB.get (N+2)=some (.cells [.int .i64 0,.aa,.int .i64 0,.aa] 103 true):=by rw[<-jH];simp
 refine aA (Yn6 (xf.ae kB) l3) ?_
 rintro v5 h1 m1 k1 q1
 have fl:=k1.le
 have f1:=(k1.get N (by omega)).trans b1
 have f2:=(k1.get (N+1) (by omega)).trans b2
 have f3:=(k1.get (N+2) (by omega)).trans b3
 have e1:N<m1:=by omega
 have e2:N+1<m1:=by omega
 simp
 refine aA (Yeg ((oM.ae kB).ae k1) q1 l1 l2 (by rw[Rat.neg_num,My];exact l3) (by rw[Rat.neg_den];exact l4)) ?_
 rintro v7 h3 m3 k3 hv
 rw[<-Rat.sub_eq_add_neg]at hv
 obtain⟨n5,u5,n6,u6,rfl,t1,t2⟩:=hv
 have o5:=dN t1
 have o6:=dN t2
 unfold V.one at o5 o6
 have jd:=k3.le
 have f5:=(k3.get (N+2) (by omega)).trans f3
 have e3:N+2<m3:=by omega
 simp[f5,e3,aS,aE,ad,bO,o5,o6,cA.cB,az]
 have kk:=(kB.trans k1).trans k3
 exact⟨kk.set (by omega),n5,u5,n6,u6,rfl,t1.aK (i:=N+2) f5 oa rfl,t2.aK (i:=N+2) f5 oa rfl⟩
def Qb.HH{k:Nat}(h:Qb k q):wl q.num<=k/\wl (q.den:Nat)<=k:=⟨tV h.1,tV (z:=(q.den:Int)) (k:=k) (by rw[dJ];exact h.2)⟩
def A.b188:av:=sr [bx 1 103 0,ge 2 (.alloc [.int .i64 0,.aa,.int .i64 0,.aa] 103)]
 (sr [fa 3 2 1,lN 4 2 3,fa 5 0 1,lN 6 2 5,c2 7 147 4 6,gn (.store 4 (tq 2) (tq 7))]
 (.ret))
def A.c188:A.F 188=some ⟨8,[.cell 2 (some 4)],A.b188⟩:=by kernel_rfl
def A.k188:=@A.kk 188 _ _ _ A.c188 rfl
def A.b132:av:=sr [bx 2 103 0,bx 3 103 1,ge 4 (.alloc [.int .i64 0,.aa,.int .i64 0,.aa] 103)]
 (.seq (.aX [lN 5 4 2,lN 6 4 3,c1 7 188 6,c2 8 86 5 7,gn (.store 4 (tq 4) (tq 8))] [0,0,2,7,15])
 (.ret))
def A.c132:A.F 132=some ⟨9,[.cell 4 (some 4)],A.b132⟩:=by kernel_rfl
def A.k132:=@A.kk 132 _ _ _ A.c132 rfl
def A.b129:av:=sr [ge 3 (.ba (.const (.bool false)))]
 (sr [mv 4 0,ld 5 1,ia 6 4 4 5,lN 7 4 6,c1 8 110 7,ni 9 8 0,mv 3 9]
 (.ret))
def A.c129:A.F 129=some ⟨10,[.tmp 3],A.b129⟩:=by kernel_rfl
def A.k129:=@A.kk 129 _ _ _ A.c129 rfl
def A.b131:av:=sr [bx 2 103 0,ge 3 (.alloc [.int .i64 0,.aa,.int .i64 0,.aa] 103)]
 (sr [lN 4 4 2,lN 5 4 1,c2 6 132 4 5,gn (.store 4 (tq 3) (tq 6))]
 (.ret))
def A.c131:A.F 131=some ⟨7,[.cell 3 (some 4)],A.b131⟩:=by kernel_rfl
def A.k131:=@A.kk 131 _ _ _ A.c131 rfl
def A.b133:av:=sr [bx 3 103 0,bx 4 103 1,ge 5 (.alloc [.int .i64 0,.aa,.int .i64 0,.aa] 103)]
 (.seq (.aX [lN 6 4 3,lN 7 4 2,lN 8 4 4,c2 9 86 7 8,c2 10 69 6 9,gn (.store 4 (tq 5) (tq 10))] [0,0,0,6,15,31])
 (.ret))
def A.c133:A.F 133=some ⟨11,[.cell 5 (some 4)],A.b133⟩:=by kernel_rfl
def A.k133:=@A.kk 133 _ _ _ A.c133 rfl
def Yn8{x:V}{q:Rat}{h:T O}{N:Nat}(hx:Fc h N x q)(h0:q≠0)(l1:wl q.num<1000000000)(l2:wl (q.den:Nat)<1000000000):Fn A.C 188 [x] h N (fun v h' n'=>Fc h' n' v q⁻¹):=by
 intro w
 rw[aO,A.k188 (by simp)]
 obtain⟨n1,u1,n2,u2,rfl,s1,s2⟩:=hx
 have o1:=dN s1
 have o2:=dN s2
 unfold V.one at o1 o2
 have kB:ab h N ((h.set N (.cells [.int .i64 n1,u1,.int .i64 n2,u2] 103 true)).set (N+1) (.cells [.int .i64 0,.aa,.int .i64 0,.aa] 103 true)) (N+2):=aP (aP ab.refl _) _
 simp[A.b188,aS,aE,o1,o2]
 generalize jH:(h.set N (.cells [.int .i64 n1,u1,.int .i64 n2,u2] 103 true)).set (N+1) (.cells [.int .i64 0,.aa,.int .i64 0,.aa] 103 true)=hB at*
 have b3:hB.get (N+1)=some (.cells [.int .i64 0,.aa,.int .i64 0,.aa] 103 true):=by rw[<-jH];simp
 have hn:q.num≠0:=fun hc=>h0 (AF.1 hc)
 refine aA (Xc (s2.ae kB) (s1.ae kB) hn (by omega) (by omega)) ?_
 rintro v7 h3 m3 k3 hv
 rw[<-Yi]at hv
 obtain⟨n5,u5,n6,u6,rfl,t1,t2⟩:=hv
 have o5:=dN t1
 have o6:=dN t2
 unfold V.one at o5 o6
 have jd:=k3.le
 have f5:=(k3.get (N+1) (by omega)).trans b3
 have e3:N+1<m3:=by omega
 simp[f5,aS,aE,ad,bO,o5,o6,az]
 have kk:=kB.trans k3
 exact⟨kk.set (by omega),n5,u5,n6,u6,rfl,t1.aK (i:=N+1) f5 oa rfl,t2.aK (i:=N+1) f5 oa rfl⟩
def Yn9{x y:V}{p q:Rat}{h:T O}{N:Nat}(hx:Fc h N x p)(hy:Fc h N y q)(h0:q≠0)(l1:wl p.num<1000000000)(l2:wl (p.den:Nat)<1000000000)(l3:wl q.num<1000000000)(l4:wl (q.den:Nat)<1000000000)(l5:wl q⁻¹.num<1000000000)(l6:wl (q⁻¹.den:Nat)<1000000000):Fn A.C 132 [x,y] h N (fun v h' n'=>Fc h' n' v (p/q)):=by
 intro w
 rw[aO,A.k132 (by simp)]
 have oM:=hx
 have xf:=hy
 obtain⟨n1,u1,n2,u2,rfl,s1,s2⟩:=hx
 obtain⟨n3,u3,n4,u4,rfl,s3,s4⟩:=hy
 have o1:=dN s1
 have o2:=dN s2
 have o3:=dN s3
 have o4:=dN s4
 unfold V.one at o1 o2 o3 o4
 have kB:ab h N (((h.set N (.cells [.int .i64 n1,u1,.int .i64 n2,u2] 103 true)).set (N+1) (.cells [.int .i64 n3,u3,.int .i64 n4,u4] 103 true)).set (N+2) (.cells [.int .i64 0,.aa,.int .i64 0,.aa] 103 true)) (N+3):=aP (aP (aP ab.refl _) _) _
 simp[A.b132,aS,aE,o1,o2,o3,o4]
 generalize jH:((h.set N (.cells [.int .i64 n1,u1,.int .i64 n2,u2] 103 true)).set (N+1) (.cells [.int .i64 n3,u3,.int .i64 n4,u4] 103 true)).set (N+2) (.cells [.int .i64 0,.aa,.int .i64 0,.aa] 103 true)=hB at*
 have b1:hB.get N=some (.cells [.int .i64 n1,u1,.int .i64 n2,u2] 103 true):=by rw[<-jH];simp
 have b2:hB.get (N+1)=some (.cells [.int .i64 n3,u3,.int .i64 n4,u4] 103 true):=by rw[<-jH];simp
 have b3:hB.get (N+2)=some (.cells [.int .i64 0,.aa,.int .i64 0,.aa] 103 true):=by rw[<-jH];simp
 refine aA (Yn8 (xf.ae kB) h0 l3 l4) ?_
 rintro v5 h1 m1 k1 q1
 have fl:=k1.le
 have f1:=(k1.get N (by omega)).trans b1
 have f2:=(k1.get (N+1) (by omega)).trans b2
 have f3:=(k1.get (N+2) (by omega)).trans b3
 have e1:N<m1:=by omega
 have e2:N+1<m1:=by omega
 simp
 refine aA (Qh ((oM.ae kB).ae k1) q1 l1 l2 l5 l6) ?_
 rintro v7 h3 m3 k3 hv
 rw[<-Rat.div_def]at hv
 obtain⟨n5,u5,n6,u6,rfl,t1,t2⟩:=hv
 have o5:=dN t1
 have o6:=dN t2
 unfold V.one at o5 o6
 have jd:=k3.le
 have f5:=(k3.get (N+2) (by omega)).trans f3
 have e3:N+2<m3:=by omega
 simp[f5,e3,aS,aE,ad,bO,o5,o6,cA.cB,az]
 have kk:=(kB.trans k1).trans k3
 exact⟨kk.set (by omega),n5,u5,n6,u6,rfl,t1.aK (i:=N+2) f5 oa rfl,t2.aK (i:=N+2) f5 oa rfl⟩
variable {N k:Nat} {h:T O} {rw:Bool}
def Te{q:Rat}(h:Qb k q)(h0:q≠0):Qb k q⁻¹:=by
 have e:=Yi q
 have h1:q.num≠0:=fun hc=>h0 (AF.1 hc)
 refine⟨?_,?_⟩
 ·rw[Rat.num_inv,wK,dJ]
  have:q.num.sign.natAbs=1:=by
   rcases Int.lt_trichotomy q.num 0 with h2|h2|h2
   ·rw[Int.sign_eq_neg_one_of_neg h2];rfl
   ·exact absurd h2 h1
   ·rw[Int.sign_eq_one_of_pos h2];rfl
  rw[this,Nat.one_mul]
  exact h.2
 ·rw[Rat.den_inv,ar h1]
  exact h.1
def Yrk{p:Nat}{u:V}{l:List Rat}{e:TypeId}(hp:h.get p=some (.cells [.int .i64 k] e rw))(kK:p<N)(hu:kM h N u l)(hk:k<l.length):jR A.C (.func 129 [] [.ptr p 0]) [u] h N (fun x _ _=>x=.bool (decide (l[k]?.getD 0≠0))):=by
 intro w
 have l1:=hu.len
 have gw:(k:Int)<(l.length:Int):=by omega
 obtain⟨q,hq⟩:=bp hk
 obtain⟨i,o,cc,e,rw,c,q1,q2,q3,q4,q5⟩:=hu.at hq
 rw[hq]
 rw[aO,A.k129 (by simp)]
 simp[A.b129,hp,l1,gw,q1,q3,q4]
 refine aA (Ty q5.fc) ?_
 rintro _ H2 n2 k2 rfl
 have hz:(dW q.num≠0)=(q≠0):=by
  have h1:=@AF q
  apply propext
  unfold dW
  constructor
  ·intro hh hc
   have:=h1.2 hc
   rw[this]at hh
   simp at hh
  ·intro hh hc
   apply hh
   apply h1.1
   split at hc
   ·omega
   ·split at hc<;>omega
 simp[az]
 refine⟨k2,?_⟩
 by_cases c0:q=0
 ·simp[c0,dW]
 ·have:dW q.num≠0:=by rw[hz];exact c0
  simp[c0,this]
def Yrj{p:Nat}{c d:List V}{x q:Rat}{e:TypeId}{j:Nat}(hp:h.get p=some (.cells d e rw))(kK:p<N)(hc:fW h N c x)(hd:fW h N d q)(h0:q≠0)(hx:Qb j x)(hq:Qb k q)(hj:j<=500000000)(hk:k<=500000000):jR A.C (.func 131 [] [.ptr p 0]) [.agg c] h N (fun z h' n'=>Fc h' n' z (x/q)):=by
 intro w
 obtain⟨c1,c2⟩:=hc.len
 obtain⟨d1,d2⟩:=hd.len
 have w1:=hx.HH
 have w2:=hq.HH
 have w3:=(Te hq h0).HH
 have oz:∀c:List V,(V.agg c).cells=c:=fun _=>rfl
 have s0:aE c 0 4=some c:=by unfold aE;rw[c1];simp;exact eZ (by omega)
 have s1:aE d 0 4=some d:=by unfold aE;rw[d1];simp;exact eZ (by omega)
 have kB:ab h N ((h.set N (.cells c 103 true)).set (N+1) (.cells zF 103 true)) (N+1+1):=(ab.refl.new _).new _
 unfold zF at kB
 have n1:¬p=N:=by omega
 have n2:¬p=N+1:=by omega
 have n3:¬N=N+1:=by omega
 rw[aO,A.k131 (by simp)]
 simp[-V.cells, -V.one,A.b131,hp,n1,n2,oz,c2,s0,s1]
 generalize hG:(h.set N (.cells c 103 true)).set (N+1) (.cells [.int .i64 0,.aa,.int .i64 0,.aa] 103 true)=G at*
 have g1:G.get (N+1)=some (.cells [.int .i64 0,.aa,.int .i64 0,.aa] 103 true):=by rw[<-hG];simp
 clear hG
 refine aA (Yn9 (hc.ae kB).fc (hd.ae kB).fc h0 (by omega) (by omega) (by omega) (by omega) (by omega) (by omega)) ?_
 rintro _ H2 m2 k2 hz
 obtain⟨z,rfl,Cj⟩:=hz.c
 obtain⟨z1,z2⟩:=Cj.len
 have kI:=k2.le
 have g2:=(k2.get (N+1) (by omega)).trans g1
 have e4:ad [V.int .i64 0,.aa,.int .i64 0,.aa] 0 z=z:=by unfold ad;rw[z1];simp
 have s2:aE z 0 4=some z:=by unfold aE;rw[z1];simp;exact eZ (by omega)
 have lt:N+1<m2:=by omega
 simp[-V.cells, -V.one,bO,oz,z1,z2,e4,s2,g2,az]
 exact⟨(kB.trans k2).set (by omega),(Cj.aK (e1:=103) (w1:=true) (c1:=z) g2 oa (by rw[z1];rfl)).fc⟩
def Yri{p:Nat}{a b d:List V}{x y f:Rat}{e:TypeId}{i j:Nat}(hp:h.get p=some (.cells d e rw))(kK:p<N)(ha:fW h N a x)(hb:fW h N b y)(hd:fW h N d f)(hx:Qb i x)(hy:Qb j y)(hf:Qb k f)(hi:i<=450000000)(hj:j<=450000000)(hk:k<=450000000)(xR:1<=j)(bR:1<=k):jR A.C (.func 133 [] [.ptr p 0]) [.agg a,.agg b] h N (fun z h' n'=>Fc h' n' z (x-f*y)):=by
 intro w
 obtain⟨a1,a2⟩:=ha.len
 obtain⟨b1,b2⟩:=hb.len
 obtain⟨d1,d2⟩:=hd.len
 have w1:=hx.HH
 have w2:=hy.HH
 have w3:=hf.HH
 have w4:=(hf.mul hy).HH
 have oz:∀c:List V,(V.agg c).cells=c:=fun _=>rfl
 have s0:∀c:List V,c.length=4->aE c 0 4=some c:=fun c h=>by unfold aE;rw[h];simp;exact eZ (by omega)
 have sa:=s0 a a1
 have sb:=s0 b b1
 have sd:=s0 d d1
 have kB:ab h N (((h.set N (.cells a 103 true)).set (N+1) (.cells b 103 true)).set (N+1+1) (.cells zF 103 true)) (N+1+1+1):=((ab.refl.new _).new _).new _
 unfold zF at kB
 have n1:¬p=N:=by omega
 have n2:¬p=N+1:=by omega
 have n3:¬p=N+1+1:=by omega
 have n4:¬N=N+1:=by omega
 have n5:¬N=N+1+1:=by omega
 have lp:p<N+1+1+1:=by omega
 rw[aO,A.k133 (by simp)]
 simp[-V.cells, -V.one,A.b133,hp,n1,n2,n3,oz,a2,b2,sa,sb,sd,n5,lp]
 generalize hG:((h.set N (.cells a 103 true)).set (N+1) (.cells b 103 true)).set (N+1+1) (.cells [.int .i64 0,.aa,.int .i64 0,.aa] 103 true)=G at*
 have g1:G.get (N+1+1)=some (.cells [.int .i64 0,.aa,.int .i64 0,.aa] 103 true):=by rw[<-hG];simp
 have g2:G.get N=some (.cells a 103 true):=by rw[<-hG];simp[n5]
 have g3:G.get (N+1)=some (.cells b 103 true):=by rw[<-hG];simp
 clear hG
 refine aA (Qh (hd.ae kB).fc (hb.ae kB).fc (by omega) (by omega) (by omega) (by omega)) ?_
 rintro _ H2 m2 k2 hz
 have kI:=k2.le
 have lt:N+1+1<m2:=by omega
 simp[]
 refine aA (Yn5 ((ha.ae kB).ae k2).fc hz (by omega) (by omega) (by omega) (by omega)) ?_
 rintro _ H3 m3 k3 hv
 obtain⟨z,rfl,Cj⟩:=hv.c
 obtain⟨z1,z2⟩:=Cj.len
 have yV:=k3.le
 have g4:=(k3.get (N+1+1) (by omega)).trans ((k2.get (N+1+1) (by omega)).trans g1)
 have e4:ad [V.int .i64 0,.aa,.int .i64 0,.aa] 0 z=z:=by unfold ad;rw[z1];simp
 have s2:=s0 z z1
 have lt3:N+1+1<m3:=by omega
 simp[-V.cells, -V.one,bO,oz,z1,z2,e4,s2,g4,lt,lt3,az,cA.cB]
 exact⟨((kB.trans k2).trans k3).set (by omega),(Cj.aK (e1:=103) (w1:=true) (c1:=z) g4 oa (by rw[z1];rfl)).fc⟩
variable {N R:Nat} {f u v:V} {h:T O} {l:List Rat}
def A.rJ:av:=sr [bi 9 .lss 8 7]
 (.seq (cd 9
 (.skip)
 (.exit 0))
 (.seq (.block 1 (sr [mv 10 8,mv 5 10]
 (sr [mv 11 1,mv 12 0,mv 13 5,ia 14 1 12 13,ld 15 14,ge 16 (.call (tq 11) [tq 15])]
 (cd 16
 (sr [mv 17 5,mv 4 17]
 (.ret))
 (.skip)))))
 (.aR [bc 18 .add 8 1,mv 8 18])))
def A.b128:av:=sr [mc 4 0]
 (.seq (sr [mv 6 0,ln 7 6,mc 8 0]
 (.block 0 (.loop A.rJ)))
 (sr [ge 4 (.ba (.const (.int .i64 (-1))))]
 (.ret)))
def A.c128:A.F 128=some ⟨19,[.tmp 4],A.b128⟩:=by kernel_rfl
def A.k128:=@A.kk 128 _ _ _ A.c128 rfl
def Yn0(l:List V)(p:Nat->Bool)(hs:Sl h N v l)(hl:l.length<1152921504606846976)(hf:∀(j:Nat) (x:V),l[j]?=some x->∀h' n',ab h N h' n'->jR A.C f [x] h' n' (fun u _ _=>u=.bool (p j))):Fn A.C 128 [v,f] h N (fun u _ _=>u=.int .i64 (nH p 0 l.length)):=by
 intro w
 have hlen:=hs.len
 rw[aO,A.k128 (by simp)]
 simp[A.b128,hlen]
 refine bP [(4,5),(8,18)] (fun e r st=>ax N st.w=[]/\ab h N st.h st.n/\((e=.exit 0/\nH p 0 l.length= -1)\/(e=.ret/\r.get 4=some (.int .i64 (nH p 0 l.length))))) (fun m r st=>ax N st.w=[]/\ab h N st.h st.n/\∃k,k+m=l.length/\r.get 8=some (.int .i64 k)/\nH p 0 l.length=nH p k m) l.length ?_ ?_ ?_
 ·exact⟨by simp,ab.refl,0,by omega,by simp,rfl⟩
 ·rintro m r ⟨H,n1,W⟩ hr c_ ⟨hW,hK,k,hk,h8,hz⟩
  simp only at hW hK
  rw[bq]
  cases m with
  |zero=>
   have:k=l.length:=by omega
   subst this
   simp only[nH]at hz
   simp[A.rJ,hr,c_,h8,hW,hK,hz]
  |succ m=>
   have ay:k<l.length:=by omega
   obtain⟨c,hc⟩:=bp ay
   obtain⟨i,o,cc,e,rw,q1,q2,q3,q4⟩:=hs.at hc
   have q3:=(hK.get _ q2).trans q3
   have bR:(k:Int)<(l.length:Int):=by omega
   simp only[nH]at hz
   simp[A.rJ,hr,h8,bR,hlen,q1,q3,q4]
   refine Ca (hf k c hc _ _ hK) ?_
   rintro v h2 n2 k2 rfl
   have kk:=hK.trans k2
   cases hp:p k
   ·rw[hp]at hz
    simp(disch:=first|(simp;done)|omega|rfl) [c_,h8,hW,kk]
    exact⟨m,by omega,k+1,by omega,by simp,by simpa using hz⟩
   ·rw[hp]at hz
    simp[c_,hW,kk]
    simpa using hz.symm
 ·rintro e r ⟨H,n1,W⟩ hr ⟨hW,hK,⟨rfl,hz⟩|⟨rfl,h4⟩⟩
  ·simp only at hW hK
   simp[hz,az,hW,hK]
  ·simp only at hW hK
   simp[h4,az,hW,hK]
def A.rK:av:=sr [bi 11 .lss 10 9]
 (.seq (cd 11
 (.skip)
 (.exit 0))
 (.seq (.block 1 (sr [ia 12 4 8 10,lN 13 4 12,ge 7 (.alloc [.int .i64 0,.aa,.int .i64 0,.aa] 103),gn (.store 4 (tq 7) (tq 13))]
 (.aR [mv 14 5,mv 15 1,lN 16 4 7,ge 17 (.call (tq 15) [tq 16]),ge 18 (.aV 103 4 1 [.int .i64 0,.aa,.int .i64 0,.aa] [(0,4,(tq 17))]),ge 19 (.append 4 64 103 [.int .i64 0,.aa,.int .i64 0,.aa] (tq 14) (tq 18)),mv 5 19])))
 (.aR [bc 20 .add 10 1,mv 10 20])))
def A.b130:av:=sr [mN 4]
 (sr [mN 5]
 (.seq (sr [mv 8 0,ln 9 8,mc 10 0]
 (.block 0 (.loop A.rK)))
 (sr [mv 21 5,mv 4 21]
 (.ret))))
def A.c130:A.F 130=some ⟨22,[.tmp 4],A.b130⟩:=by kernel_rfl
def A.k130:=@A.kk 130 _ _ _ A.c130 rfl
def Yh9{l:List (List V)}{Q:Nat->T O->Nat->List V->Prop}(Y:V->Prop)(hQ:∀j h n h' n' c u,Q j h n c->dP (fun i=>i∈cR u) h n h' n'->mr 103 Y h u->Q j h' n' c)(hs:Sn 4 h N v l)(hl:l.length<1000000000)(h1:∀(j:Nat) (x:List V),l[j]?=some x->x.length=4/\x.all V.one=true)(hf:∀(j:Nat) (x:List V),l[j]?=some x->∀h' n',ab h N h' n'->jR A.C f [(.agg x)] h' n' (fun u h2 n2=>∃c,u=(.agg c)/\c.length=4/\c.all V.one=true/\(∀q∈c,Y q)/\Q j h2 n2 c)):Fn A.C 130 [v,f] h N (fun u h' n'=>∃out,Own 4 103 N h' n' u out/\out.length=l.length/\∀(j:Nat),j<l.length->∃c,out[j]?=some c/\Q j h' n' c):=by
 intro w
 have hlen:=hs.len
 rw[aO,A.k130 (by simp)]
 simp[A.b130,hlen]
 refine bP [(5,5),(7,7),(10,20)] (fun e r st=>e=.exit 0/\ax N st.w=[]/\ab h N st.h st.n/\∃u out,r.get 5=some u/\Own 4 103 N st.h st.n u out/\out.length=l.length/\∀(j:Nat),j<l.length->∃c,out[j]?=some c/\Q j st.h st.n c) (fun m r st=>ax N st.w=[]/\ab h N st.h st.n/\∃k u out,k+m=l.length/\r.get 10=some (.int .i64 k)/\r.get 5=some u/\Own 4 103 N st.h st.n u out/\out.length=k/\(out=[]->u=.aa)/\(∀c∈out,∀y∈c,Y y)/\∀(j:Nat),j<k->∃c,out[j]?=some c/\Q j st.h st.n c) l.length ?_ ?_ ?_
 ·exact⟨by simp,ab.refl,0,.aa,[],by omega,by simp,by simp,Own.nil,rfl,fun _=>rfl,by simp,fun j hj=>by omega⟩
 ·rintro m r ⟨H,n1,W⟩ hr c_ ⟨hW,hK,k,u,out,hk,gY,h5,ho,gV,vM,hY,dp⟩
  simp only at hW hK ho dp
  rw[bq]
  cases m with
  |zero=>
   have zV:k=l.length:=by omega
   subst zV
   simp[A.rK,hr,c_,gY,hW,hK]
   exact⟨u,h5,out,ho,gV,dp⟩
  |succ m=>
   have ay:k<l.length:=by omega
   obtain⟨x,hx⟩:=bp ay
   obtain⟨i,o,cc,e,rw,q1,q2,q3,q4⟩:=(hs.ae hK).at hx
   have bR:(k:Int)<(l.length:Int):=by omega
   obtain⟨e1,e2⟩:=h1 k x hx
   have d1:¬i=n1:=by omega
   have d4:n1<n1+1:=by omega
   have kA:=(hK.new (.cells [(.int .i64 0),.aa,(.int .i64 0),.aa] 103 true)).set (i:=n1) (o:=.cells x 103 true) hK.le
   have e3:∀v:List V,(V.agg v).cells=v:=fun _=>rfl
   have e4:ad [(.int .i64 0),.aa,(.int .i64 0),.aa] 0 x=x:=by unfold ad;rw[e1];simp
   have e5:aE x 0 4=some x:=by unfold aE;rw[aF (by omega)];simp;exact eZ (by omega)
   simp[-V.cells, -V.one,A.rK,hr,gY,h5,bR,hlen,q1,q3,q4,aS,bO,e3,e1,e2,e4,e5]
   refine Ca (hf k x hx _ _ kA) ?_
   rintro _ h3 n3 k3 ⟨c,rfl,c1,c2,cY,c3⟩
   have jd:=k3.le
   have kn:=hK.le
   have kB:=kA.trans k3
   have b1:∀v:List V,(V.agg v).cells=v:=fun _=>rfl
   have b2:ad [(.int .i64 0),.aa,(.int .i64 0),.aa] 0 c=c:=by unfold ad;rw[c1];simp
   simp[-V.cells, -V.one,b1,b2,c1,c2]
   have tS:Own 4 103 N (h3.set n3 (.cells c 103 true)) (n3+1) u out:=(ho.ae (((ab.refl.new _).set (aW n1)).trans k3)).ae (ab.refl.new _)
   obtain⟨v',h',w',f1,f2,f3,f4,fD,f5⟩:=De (Y:=Y) (x:=c) (u:=.slice n3 0 1 (some 1) 4) (bytes:=64) (w:=n1::W) tS vM hY (by omega) (by decide) c1 (by simp only[eD,St.row,T.ag,if_true];unfold aE;simp[c1];exact eZ (by omega)) (by omega)
   rw[f1]
   have ik:¬n1<N:=by omega
   have f6:ax N w'=[]:=by rw[f2];simp[ax,hW,ik]
   have kz:=(kB.new (.cells c 103 true)).then f3
   have k4:ab h3 n3 (h3.set n3 (.cells c 103 true)) (n3+1):=ab.refl.new _
   have yH:Q k (h3.set n3 (.cells c 103 true)) (n3+1) c:=hQ _ _ _ _ _ _ .aa c3 k4.upd mr.nil
   simp(disch:=first|(simp;done)|omega|rfl) [c_,gY,f6]
   refine⟨m,by omega,kz,k+1,by omega,by simp,out++[c],f5,by simp[gV],by simp,fun c' hc z hz=>?_,fun j hj=>?_⟩
   ·rcases kb.1 hc with hc|hc
    ·exact hY c' hc z hz
    ·simp only[wC]at hc;subst hc;exact cY z hz
   by_cases rV:j<k
   ·obtain⟨c,g1,g2⟩:=dp j rV
    exact⟨c,by rw[lE (by omega)];exact g1,hQ _ _ _ _ _ _ _ (hQ _ _ _ _ _ _ .aa g2 ((((ab.refl.new _).set (aW n1)).trans k3).trans k4).upd mr.nil) f4 fD⟩
   ·obtain rfl:j=k:=by omega
    exact⟨c,by rw[oV (by omega),gV];simp,hQ _ _ _ _ _ _ _ yH f4 fD⟩
 ·rintro _ r ⟨H,n1,W⟩ hr ⟨rfl,hW,hK,u,out,h5,ho,gV,dp⟩
  simp only at hW hK ho dp
  simp[h5,az,hW,hK]
  exact⟨out,ho,gV,dp⟩
def Ynk(F:Rat->Rat)(hs:kM h N v l)(hl:l.length<1000000000)(hf:∀q∈l,∀c h' n',ab h N h' n'->fW h' n' c q->jR A.C f [.agg c] h' n' (fun x h2 n2=>Fc h2 n2 x (F q))):Fn A.C 130 [v,f] h N (fun u h' n'=>dZ h' n' u (l.map F)):=by
 obtain⟨cs,h1,h2,h3⟩:=hs
 have key:=Yh9 (f:=f) (Q:=fun j h n c=>∀q,(l.map F)[j]?=some q->fW h n c q) NW (fun j h n h' n' c u hq k hd q uk=>(hq q uk).bV k hd) h1 (by omega) (fun j x hx=>?_) ?_
 ·intro w
  refine(key w).mono fun u st=>?_
  rintro⟨q1,q2,out,o1,o2,o3⟩
  exact⟨q1,q2,TO o1 (by simpa[h2]using o2) fun j hj=>o3 j (by simp at hj;omega)⟩
 ·obtain⟨q,hq⟩:=bp (l:=l) (k:=j) (by have:=j_ hx;omega)
  obtain⟨c,g1,g2⟩:=h3 j q hq
  rw[hx]at g1
  obtain rfl:x=c:=by simpa using g1
  exact g2.len
 ·intro j x hx h' n' hk
  obtain⟨q,hq⟩:=bp (l:=l) (k:=j) (by have:=j_ hx;omega)
  obtain⟨c,g1,g2⟩:=h3 j q hq
  rw[hx]at g1
  obtain rfl:x=c:=by simpa using g1
  refine fun w=>(hf q (cm hq) x h' n' hk (g2.ae hk) w).mono fun y st=>?_
  rintro⟨q1,q2,q3⟩
  obtain⟨c,rfl,hc⟩:=q3.c
  refine⟨q1,q2,c,rfl,hc.len.1,hc.len.2,hc.J6,fun t ht=>?_⟩
  simp[hq]at ht
  rw[<-ht]
  exact hc
structure lH (h:T O) (N R:Nat) (m:List (List Rat)):Prop where
 lt:R<N
 ex:∃us:List V,h.get R=some (.cells us 76 true)/\us.length=m.length/\vG us/\us.all V.one=true/\∀(j:Nat) (l:List Rat),m[j]?=some l->∃u,us[j]?=some u/\dZ h N u l
def dZ.sG{us vs:List V}{e:TypeId}{b c:Bool}(s:dZ h N u l)(g:h.get R=some (.cells us e b))(he:e≠103)(hn:vG us)(hl:vs.length=us.length):dZ (h.set R (.cells vs e c)) N u l:=by
 have bB:∀i∈cR u,i≠R:=fun i hi hc=>by
  obtain⟨z,w,hz⟩:=s.2 i hi
  rw[hc,g]at hz
  simp at hz
  exact he hz.2.1
 obtain⟨cs,h1,h2,h3⟩:=s.1
 have k:dP (fun i=>i=R) h N (h.set R (.cells vs e c)) N:=⟨aW _,fun i _ hi=>by rw[T.ag,ar hi]⟩
 refine⟨⟨cs,h1.bV k bB,h2,fun j q hq=>?_⟩,fun i hi=>?_⟩
 ·obtain⟨x,g1,g2⟩:=h3 j q hq
  exact⟨x,g1,g2.aK g hn hl⟩
 ·rw[T.ag,ar (bB i hi)]
  exact s.2 i hi
def lH.ae{h':T O}{N':Nat}{m:List (List Rat)}(s:lH h N R m)(k:ab h N h' N'):lH h' N' R m:=by
 obtain⟨us,g1,g2,g3,g4,g5⟩:=s.ex
 refine⟨fE s.lt k.le,us,(k.get R s.lt).trans g1,g2,g3,g4,fun j l hl=>?_⟩
 obtain⟨u,a1,a2⟩:=g5 j l hl
 exact⟨u,a1,a2.ae k⟩
def dZ.Dh(s:dZ h N u l):(∀n,u≠.int .u64 n)/\V.one u=true/\V.cells u=[u]:=by
 obtain⟨a,b,c⟩:=s.1.form
 exact⟨c,a,b⟩
def lH.put{i:Nat}{m:List (List Rat)}(s:lH h N R m)(hu:dZ h N u l)(hi:i<m.length):∃us,h.get R=some (.cells us 76 true)/\us.length=m.length/\lH (h.set R (.cells (us.set i u) 76 true)) N R (m.set i l):=by
 obtain⟨us,g1,g2,g3,g4,g5⟩:=s.ex
 refine⟨us,g1,g2,s.lt,us.set i u,by rw[T.ag,aF rfl],by simp[g2],fun x hx=>?_,?_,fun j r hr=>?_⟩
 ·rcases EZ hx with hx|rfl
  ·exact g3 x hx
  ·exact hu.Dh.1
 ·rw[lA]
  intro x hx
  rcases EZ hx with hx|rfl
  ·exact lA.1 g4 x hx
  ·exact hu.Dh.2.1
 ·by_cases e:j=i
  ·subst e
   rw[iI hi]at hr
   simp only[al]at hr
   subst hr
   exact⟨u,by rw[iI (by omega)],hu.sG g1 (by decide) g3 (by simp)⟩
  ·rw[ec (Ne.symm e)]at hr ⊢
   obtain⟨u',a1,a2⟩:=g5 j r hr
   exact⟨u',a1,a2.sG g1 (by decide) g3 (by simp)⟩
end Go.Mx
