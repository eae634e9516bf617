/-lensletref01-/
import Derived.Test.YtjjmkflbfpeagaaGreatDoorAwOk
import Derived.Test.YtjjmkflbfpeagaaGreatDoorMxRg
set_option linter.all false
namespace Go.Mx
noncomputable section
open Go Go.Proofs
set_option maxRecDepth 1000000
def A.b236:=A.q Tryz.f236
def A.k236:=@A.kk 236 13 [.tmp 4] A.b236 (by kernel_rfl) rfl
def A.LG:=A.q Tryz.f194
def A.jx:=A.ql A.LG 0 []
def A.b194:=(fun x0=>A.qb A.LG [x0]) A.jx
def A.k194:=@A.kk 194 42 [.tmp 4] A.b194 (by kernel_rfl) rfl
def A.LH:=A.q Tryz.f195
def A.l7:=A.ql A.LH 0 []
def A.b195:=(fun x0=>A.qb A.LH [x0]) A.l7
def A.k195:=@A.kk 195 35 [.tmp 4] A.b195 (by kernel_rfl) rfl
def V7{h:T O}{N:Nat}{v:V}{l:List Int}{i:Nat}{w:List Nat}(hs:Sl h N v (dI l))(hi:i<4611686018427387904)(hl:l.length<4611686018427387904):A.C.call (.func 236 [] []) [v,.int .i64 i] ⟨h,N,w⟩=some (.int .i64 (zI l i),⟨h,N,w⟩):=by
 apply Call.eq
 have hlen:=hs.len
 rw[f_]at hlen
 rw[aQ,A.k236 (by simp)]
 by_cases hc:i<l.length
 ·have Jp:(i:Int)<(l.length:Int):=by omega
  obtain⟨d,hd⟩:=eA hc
  obtain⟨j,o,c,e,rw,q1,q2,q3,q4⟩:=hs.at (fU hd)
  simp[A.b236,hlen,Jp,q1,q3,q4,Yiv hd]
 ·have Jp:¬(i:Int)<(l.length:Int):=by omega
  simp[A.b236,hlen,Jp,TM (wB hc)]
structure AdI (h:T O) (N:Nat) (la lb:List Int) (m:Nat) (r:T V) (st:St):Prop where
 w:aB N st.w=[]
 ae:ad h N st.h st.n
 ex:∃k c out D,k+m=max la.length lb.length+1/\r.get 7=some (.int .i64 k)/\r.get 6=some (.int .i64 c)/\r.get 5=some out/\0<=c/\c<=1/\(m=0->c=0)/\Own 1 3 N st.h st.n out (nQ D)/\D.length=k/\Di D/\vI D+pI k*c=vI (la.take k)+vI (lb.take k)
def Pm{l:List Int}{k:Nat}(h:l.length<=k):l.take k=l:=gI h
def Yjs{h:T O}{N:Nat}{u v:V}{la lb:List Int}(hu:Sl h N u (dI la))(hv:Sl h N v (dI lb))(da:Di la)(db:Di lb)(l1:la.length<1099511627776)(l2:lb.length<1099511627776):Fn A.C 194 [u,v] h N (fun x h' n'=>∃l,Sl h' n' x (dI l)/\Di l/\vI l=vI la+vI lb/\l.length<=max la.length lb.length+1):=by
 intro w
 have lu:=hu.len
 have lv:=hv.len
 rw[f_]at lu lv
 rw[aQ,A.k194 (by simp)]
 simp[A.b194]
 refine cX [(5,40)] (fun e r st=>e=.exit 0/\aB N st.w=[]/\ad h N st.h st.n/\∃out D,r.get 5=some out/\Own 1 3 N st.h st.n out (nQ D)/\Di D/\vI D=vI la+vI lb/\D.length<=max la.length lb.length+1) (AdI h N la lb) (max la.length lb.length+1) ?_ ?_ ?_
 ·exact⟨by simp,ad.refl,0,0,.aa,[],by omega,by simp,by simp,by simp,by omega,by omega,fun _=>rfl,Own.nil,rfl,Di.nil,by simp[vI]⟩
 ·rintro m r ⟨H,n1,W⟩ hr hf ⟨hW,hK,k,c,out,D,hk,h7,h6,h5,c0,c1,cz,ho,hD,dD,mj⟩
  simp only at hW hK ho
  rw[cm]
  by_cases nM:k<la.length\/k<lb.length\/0<c
  ·obtain⟨m',rfl⟩:∃m',m=m'+1:=⟨m-1,by
    have:m≠0:=fun hm=>by have:=cz hm;omega
    omega⟩
   have dx:=TN da k
   have dy:=TN db k
   have e1:=fun w=>V7 (w:=w) (i:=k) (hu.ae hK) (by omega) (by omega)
   have e2:=fun w=>V7 (w:=w) (i:=k) (hv.ae hK) (by omega) (by omega)
   obtain⟨x,hx⟩:∃x,zI la k=x:=⟨_,rfl⟩
   obtain⟨y,hy⟩:∃y,zI lb k=y:=⟨_,rfl⟩
   rw[hx]at dx e1
   rw[hy]at dy e2
   have t1:(x+y+c).tmod 1000000000=(x+y+c)%1000000000:=z_ (by omega)
   have t2:(x+y+c).tdiv 1000000000=(x+y+c)/1000000000:=yS (by omega)
   have t3:bb .i64 (x+y)=x+y:=cb (by omega) (by omega)
   have t4:bb .i64 (x+y+c)=x+y+c:=cb (by omega) (by omega)
   have t5:bb .i64 ((x+y+c)/1000000000)=(x+y+c)/1000000000:=cb (by omega) (by omega)
   have tF:vI (D++[(x+y+c)%1000000000])+pI (k+1)*((x+y+c)/1000000000)=vI (la.take (k+1))+vI (lb.take (k+1)):=by
    rw[AZ,hD,TO,TO,hx,hy,rP]
    have hm:=Bw (x+y+c) 1000000000
    generalize (x+y+c)/1000000000=Q at*
    generalize (x+y+c)%1000000000=R at*
    have:R=x+y+c-1000000000*Q:=by omega
    subst this
    grind
   have hz:m'=0->(x+y+c)/1000000000=0:=fun hm=>by
    have:x=0:=by rw[<-hx];exact TM (by omega)
    have:y=0:=by rw[<-hy];exact TM (by omega)
    omega
   have vt:=ho.ae (ad.refl.new (.cells [.int .i64 ((x+y+c)%1000000000)] 3 true))
   obtain⟨v',h',w',f1,f2,f3,_,f5⟩:=zH (x:=[.int .i64 ((x+y+c)%1000000000)]) (u:=.slice n1 0 1 (some 1) 1) (bytes:=8) (w:=W) vt (by have:=hK.le;omega) (by decide) rfl (by simp[iQ,St.row,aM]) (by simp[nQ];omega)
   rw[<-Cn]at f5
   have f6:aB N w'=[]:=by rw[f2];exact hW
   have kz:=(hK.new (.cells [.int .i64 ((x+y+c)%1000000000)] 3 true)).then f3
   have FK:k<la.length\/(¬k<la.length/\k<lb.length)\/(¬k<la.length/\¬k<lb.length/\0<c):=by omega
   rcases FK with g1|⟨g1,g2⟩|⟨g1,g2,g3⟩
   ·have i1:(k:Int)<(la.length:Int):=by omega
    simp[A.jx,hr,h7,h6,h5,lu,i1,e1,e2,t1,t3,t4,ag]
    simp(disch:=first|(simp;done)|omega|rfl) [f1,hf,h7]
    exact⟨m',by omega,⟨f6,kz,k+1,(x+y+c)/1000000000,v',D++[(x+y+c)%1000000000],by omega,by simp,by simp[t2],by simp,by omega,by omega,hz,f5,by simp[hD],dD.app (Di.one (by omega) (by omega)),tF⟩⟩
   ·have i1:¬(k:Int)<(la.length:Int):=by omega
    have i2:(k:Int)<(lb.length:Int):=by omega
    simp[A.jx,hr,h7,h6,h5,lu,lv,i1,i2,e1,e2,t1,t3,t4,ag]
    simp(disch:=first|(simp;done)|omega|rfl) [f1,hf,h7]
    exact⟨m',by omega,⟨f6,kz,k+1,(x+y+c)/1000000000,v',D++[(x+y+c)%1000000000],by omega,by simp,by simp[t2],by simp,by omega,by omega,hz,f5,by simp[hD],dD.app (Di.one (by omega) (by omega)),tF⟩⟩
   ·have i1:¬(k:Int)<(la.length:Int):=by omega
    have i2:¬(k:Int)<(lb.length:Int):=by omega
    simp[A.jx,hr,h7,h6,h5,lu,lv,g3,i1,i2,e1,e2,t1,t3,t4,ag]
    simp(disch:=first|(simp;done)|omega|rfl) [f1,hf,h7]
    exact⟨m',by omega,⟨f6,kz,k+1,(x+y+c)/1000000000,v',D++[(x+y+c)%1000000000],by omega,by simp,by simp[t2],by simp,by omega,by omega,hz,f5,by simp[hD],dD.app (Di.one (by omega) (by omega)),tF⟩⟩
  ·obtain⟨g1,g2,g3⟩:¬k<la.length/\¬k<lb.length/\¬0<c:=by omega
   have i1:¬(k:Int)<(la.length:Int):=by omega
   have i2:¬(k:Int)<(lb.length:Int):=by omega
   obtain rfl:c=0:=by omega
   rw[Pm (by omega),Pm (by omega),Int.mul_zero,Int.add_zero]at mj
   simp[A.jx,hr,hf,h7,h6,lu,lv,i1,i2,hW,hK]
   exact⟨out,h5,D,ho,dD,mj,by omega⟩
 ·rintro _ r ⟨H,n1,W⟩ hr ⟨rfl,hW,hK,out,D,h5,ho,dD,mj,hl⟩
  simp only at hW hK ho
  simp[h5,aA,hW,hK]
  exact⟨D,ho.sl,dD,mj,hl⟩
variable {N:Nat} {h:T O}
def A.b139:=A.q Tryz.f139
def A.k139:=@A.kk 139 40 [.cell 4 (some 2)] A.b139 (by kernel_rfl) rfl
def A.b90:=A.q Tryz.f90
def A.k90:=@A.kk 90 9 [.cell 2 (some 2)] A.b90 (by kernel_rfl) rfl
def A.b44:=A.q Tryz.f44
def A.k44:=@A.kk 44 16 [.cell 4 (some 2)] A.b44 (by kernel_rfl) rfl
def Pk(k:Nat):pI k=((1000000000^k:Nat):Int):=by unfold pI;simp
def Rg.ae{h':T O}{N':Nat}{v:V}{z:Int}(s:Rg h N v z)(k:ad h N h' N'):Rg h' N' v z:=by
 obtain⟨u,h1,h2⟩:=s
 exact⟨u,h1,h2.ae k⟩
def iN:∀x∈[V.bool false,V.aa],∀k m,x≠.int k m:=by intro x hx k m;simp at hx;rcases hx with rfl|rfl<;>simp
def Yne{b:Bool}{u:V}(hu:Ey u):∀x∈[V.bool b,u],∀k m,x≠.int k m:=by
 intro x hx k m
 simp at hx
 rcases hx with rfl|rfl
 ·simp
 ·rcases hu with rfl|rfl|⟨_,_,_,_,_,rfl⟩<;>simp
def Zza(a b:Nat):(ds (a*b)).length<=(ds a).length+(ds b).length:=by
 refine G5 ?_
 have h1:=rK (fJ a)
 have h2:=rK (fJ b)
 rw[fQ]at h1 h2
 rw[Pk]at h1 h2
 rw[gL]
 exact Ap (Int.ofNat_lt.1 h1) (Int.ofNat_lt.1 h2)
def Zvz{v:V}{z:Int}(hs:Rg h N v z)(hl:(ds z.natAbs).length<1099511627776):Fn A.C 90 [v] h N (fun u h' n'=>Rg h' n' u (-z)):=by
 intro w
 obtain⟨u,rfl,hu⟩:=hs
 have o1:=Sl.form hu |>.one
 have o2:=Sl.form hu |>.cells
 unfold V.one at o1
 unfold V.cells at o2
 have kB:=(((ad.refl (h:=h) (n:=N)).new (.cells [.bool (decide (z<0)),u] 88 true)).new (.cells [.bool false,.aa] 88 true))
 rw[aQ,A.k90 (by simp)]
 simp[A.b90,o1,aL]
 refine au (tO (b:=!decide (z<0)) (n:=z.natAbs) (Sl.ae hu kB) (fJ _) (fQ _) (by omega)) ?_
 rintro v2 h2 n2 k2 hv
 have vT:=k2.le
 have g1:=(k2.get (N+1) (by omega))
 rw[T.ai,aJ rfl]at g1
 have kk:=kB.trans k2
 have ez:(if (!decide (z<0))=true then -((z.natAbs:Nat):Int) else ((z.natAbs:Nat):Int))= -z:=by
  by_cases h0:z<0<;>simp[h0]<;>omega
 rw[ez]at hv
 obtain⟨u2,rfl,eX⟩:=hv
 have p1:=Sl.form eX |>.one
 have p2:=Sl.form eX |>.cells
 unfold V.one at p1
 unfold V.cells at p2
 simp[g1,p1,ag,bS,aL,aM,aA]
 exact⟨kk.set (by omega),u2,by simp,Sl.setInt eX g1 iN rfl⟩
def Yjb(a b:Int):(if (!(decide (a<0)==decide (b<0)))=true then -((a.natAbs*b.natAbs:Nat):Int) else ((a.natAbs*b.natAbs:Nat):Int))=a*b:=by
 have h0:((a.natAbs*b.natAbs:Nat):Int)=(a.natAbs:Int)*(b.natAbs:Int):=by simp
 rw[h0]
 by_cases h1:a<0<;>by_cases h2:b<0
 ·have ha:(a.natAbs:Int)= -a:=by omega
  have hb:(b.natAbs:Int)= -b:=by omega
  rw[ha,hb];simp[h1,h2,Int.neg_mul,Int.mul_neg]
 ·have ha:(a.natAbs:Int)= -a:=by omega
  have hb:(b.natAbs:Int)=b:=by omega
  rw[ha,hb];simp[h1,h2,Int.neg_mul]
 ·have ha:(a.natAbs:Int)=a:=by omega
  have hb:(b.natAbs:Int)= -b:=by omega
  rw[ha,hb];simp[h1,h2,Int.mul_neg]
 ·have ha:(a.natAbs:Int)=a:=by omega
  have hb:(b.natAbs:Int)=b:=by omega
  rw[ha,hb];simp[h1,h2]
def LI{x y:V}{a b:Int}(hx:Rg h N x a)(hy:Rg h N y b)(l1:(ds a.natAbs).length<500000000000)(l2:(ds b.natAbs).length<500000000000):Fn A.C 44 [x,y] h N (fun u h' n'=>Rg h' n' u (a*b)):=by
 intro w
 obtain⟨u,rfl,hu⟩:=hx
 obtain⟨v,rfl,hv⟩:=hy
 have o1:=Sl.form hu |>.one
 have o2:=Sl.form hu |>.cells
 have o3:=Sl.form hv |>.one
 have o4:=Sl.form hv |>.cells
 unfold V.one at o1 o3
 unfold V.cells at o2 o4
 have kB:=((((ad.refl (h:=h) (n:=N)).new (.cells [.bool (decide (a<0)),u] 88 true)).new (.cells [.bool (decide (b<0)),v] 88 true)).new (.cells [.bool false,.aa] 88 true))
 rw[aQ,A.k44 (by simp)]
 simp[A.b44,o1,o3,aL,aW]
 generalize hB:((h.set N (.cells [.bool (decide (a<0)),u] 88 true)).set (N+1) (.cells [.bool (decide (b<0)),v] 88 true)).set (N+1+1) (.cells [.bool false,.aa] 88 true)=HB at*
 have gr:HB.get (N+1+1)=some (.cells [.bool false,.aa] 88 true):=by rw[<-hB];simp
 refine au (Qt (Sl.ae hu kB) (Sl.ae hv kB) (fJ _) (fJ _) (fQ _) (fQ _) (by omega)) ?_
 rintro v1 h1 n1 k1 q1
 have AO:(ds (a.natAbs*b.natAbs)).length<1152921504606846976:=by
  have:=Zza a.natAbs b.natAbs;omega
 simp[]
 refine au (tO (n:=a.natAbs*b.natAbs) q1 (fJ _) (fQ _) AO) ?_
 rintro v2 h2 n2 k2 dW
 have tU:=k1.le
 have nk:=k2.le
 have g1:=(k2.get (N+1+1) (by omega)).trans ((k1.get (N+1+1) (by omega)).trans gr)
 have ez:(if (!(decide (a<0)==decide (b<0)))=true then -((a.natAbs*b.natAbs:Nat):Int) else ((a.natAbs*b.natAbs:Nat):Int))=a*b:=Yjb a b
 rw[ez]at dW
 obtain⟨u2,rfl,eX⟩:=dW
 have p1:=Sl.form eX |>.one
 have p2:=Sl.form eX |>.cells
 unfold V.one at p1
 unfold V.cells at p2
 simp[g1,p1,ag,bS,aL,aM,aA,cD.cG]
 exact⟨by split<;>simp[aB],((kB.trans k1).trans k2).set (by omega),u2,rfl,Sl.setInt eX g1 iN rfl⟩
set_option maxHeartbeats 4000000
structure SuI (h:T O) (N:Nat) (la lb:List Int) (m:Nat) (r:T V) (st:St):Prop where
 w:aB N st.w=[]
 ae:ad h N st.h st.n
 ex:∃k c out D,k+m=la.length/\r.get 7=some (.int .i64 k)/\r.get 6=some (.int .i64 c)/\r.get 5=some out/\0<=c/\c<=1/\Own 1 3 N st.h st.n out (nQ D)/\D.length=k/\Di D/\vI D-pI k*c=vI (la.take k)-vI (lb.take k)
def Yao{h:T O}{N:Nat}{u v:V}{a b:Nat}(hu:Dn h N u a)(hv:Dn h N v b)(kh:b<=a)(l1:(ds a).length<1099511627776):Fn A.C 195 [u,v] h N (fun x h' n'=>Dn h' n' x (a-b)):=by
 intro w
 have l2:=qX kh
 have da:=fJ a
 have db:=fJ b
 have va:=fQ a
 have vb:=fQ b
 have lu:=Sl.len hu
 have lv:=Sl.len hv
 rw[f_]at lu lv
 have hu:Sl h N u (dI (ds a)):=hu
 have hv:Sl h N v (dI (ds b)):=hv
 generalize hA:ds a=la at*
 generalize hB:ds b=lb at*
 rw[aQ,A.k195 (by simp)]
 simp[A.b195]
 refine cX [(5,32)] (fun e r st=>e=.exit 0/\SuI h N la lb 0 r st) (SuI h N la lb) la.length ?_ ?_ ?_
 ·exact⟨by simp,ad.refl,0,0,.aa,[],by omega,by simp,by simp,by simp,by omega,by omega,Own.nil,rfl,Di.nil,by simp[vI]⟩
 ·rintro m r ⟨H,n1,W⟩ hr hf ⟨hW,hK,k,c,out,D,hk,h7,h6,h5,c0,c1,ho,hD,dD,mj⟩
  simp only at hW hK ho
  rw[cm]
  cases m with
  |zero=>
   obtain rfl:k=la.length:=by omega
   simp[A.l7,hr,hf,h7,lu]
   exact⟨hW,hK,la.length,c,out,D,by omega,by simp[h7],by simp[h6],by simp[h5],c0,c1,ho,hD,dD,mj⟩
  |succ m=>
   have aO:k<la.length:=by omega
   have ew:(k:Int)<(la.length:Int):=by omega
   obtain⟨x,hx⟩:=eA aO
   have dx:=da.get hx
   have dy:=TN db k
   obtain⟨i,o,cc,e,rw,q1,q2,q3,q4⟩:=(hu.ae hK).at (fU hx)
   have e2:=fun w=>V7 (w:=w) (i:=k) (hv.ae hK) (by omega) (by omega)
   obtain⟨y,hy⟩:∃y,zI lb k=y:=⟨_,rfl⟩
   rw[hy]at dy e2
   have t3:bb .i64 (x-y)=x-y:=cb (by omega) (by omega)
   have t4:bb .i64 (x-y-c)=x-y-c:=cb (by omega) (by omega)
   have t5:bb .i64 (x-y-c+1000000000)=x-y-c+1000000000:=cb (by omega) (by omega)
   have hs:∀d c':Int,d-1000000000*c'=x-y-c->vI (D++[d])-pI (k+1)*c'=vI (la.take (k+1))-vI (lb.take (k+1)):=fun d c' he=>by
    rw[AZ,hD,vV hx,TO,hy,rP]
    have:d=x-y-c+1000000000*c':=by omega
    subst this
    grind
   have ap:∀d:Int,∃v' h' w',nI ⟨H.set n1 (.cells [.int .i64 d] 3 true),n1+1,W⟩ 1 8 3 out (.slice n1 0 1 (some 1) 1)=some (v',⟨h',n1+1+1,w'⟩)/\aB N w'=[]/\ad h N h' (n1+1+1)/\Own 1 3 N h' (n1+1+1) v' (nQ (D++[d])):=fun d=>by
    have vt:=ho.ae (ad.refl.new (.cells [.int .i64 d] 3 true))
    obtain⟨v',h',w',f1,f2,f3,_,f5⟩:=zH (x:=[.int .i64 d]) (u:=.slice n1 0 1 (some 1) 1) (bytes:=8) (w:=W) vt (by have:=hK.le;omega) (by decide) rfl (by simp[iQ,St.row,aM]) (by simp[nQ];omega)
    rw[<-Cn]at f5
    exact⟨v',h',w',f1,by rw[f2];exact hW,(hK.new (.cells [.int .i64 d] 3 true)).then f3,f5⟩
   by_cases dC:x-y-c<0
   ·obtain⟨v',h',w',f1,f2,f3,f5⟩:=ap (x-y-c+1000000000)
    simp[A.l7,hr,h7,h6,h5,lu,ew,q1,q2,q3,q4,e2,t3,t4,t5,dC,ag,cD.cG]
    simp(disch:=first|(simp;done)|omega|rfl) [f1,hf,h7]
    exact⟨m,by omega,⟨f2,f3,k+1,1,v',D++[x-y-c+1000000000],by omega,by simp,by simp,by simp,by omega,by omega,f5,by simp[hD],dD.app (Di.one (by omega) (by omega)),hs _ _ (by omega)⟩⟩
   ·obtain⟨v',h',w',f1,f2,f3,f5⟩:=ap (x-y-c)
    simp[A.l7,hr,h7,h6,h5,lu,ew,q1,q2,q3,q4,e2,t3,t4,dC,ag,cD.cG]
    simp(disch:=first|(simp;done)|omega|rfl) [f1,hf,h7]
    exact⟨m,by omega,⟨f2,f3,k+1,0,v',D++[x-y-c],by omega,by simp,by simp,by simp,by omega,by omega,f5,by simp[hD],dD.app (Di.one (by omega) (by omega)),hs _ _ (by omega)⟩⟩
 ·rintro _ r ⟨H,n1,W⟩ hr ⟨rfl,hW,hK,k,c,out,D,hk,h7,h6,h5,c0,c1,ho,hD,dD,mj⟩
  simp only at hW hK ho
  obtain rfl:k=la.length:=by omega
  rw[Pm (aR _),Pm (by omega),va,vb]at mj
  have aO:=rK dD
  rw[hD]at aO
  have c2:c=0:=by
   apply Int.le_antisymm _ c0
   apply BQ
   intro hc
   have:c=1:=by omega
   subst this
   omega
  subst c2
  have hvD:vI D=((a-b:Nat):Int):=by omega
  simp[h5]
  refine au (CO ho.sl (by omega)) ?_
  rintro v2 h2 n2 k2 q2
  rw[CQ dD hvD]at q2
  simp[aA,hW]
  exact⟨hK.trans k2,q2⟩
def Ydr{a b:Nat}:(0<=yR a b)↔b<=a:=by unfold yR;split<;>(try split)<;>omega
def Yjx{h:T O}{N:Nat}{x y:V}{a b:Int}(hx:Rg h N x a)(hy:Rg h N y b)(l1:(ds a.natAbs).length<500000000000)(l2:(ds b.natAbs).length<500000000000):Fn A.C 139 [x,y] h N (fun u h' n'=>Rg h' n' u (a+b)):=by
 intro w
 obtain⟨u,rfl,hu⟩:=hx
 obtain⟨v,rfl,hv⟩:=hy
 have o1:=Sl.form hu |>.one
 have o2:=Sl.form hu |>.cells
 have o3:=Sl.form hv |>.one
 have o4:=Sl.form hv |>.cells
 unfold V.one at o1 o3
 unfold V.cells at o2 o4
 have kB:=((((ad.refl (h:=h) (n:=N)).new (.cells [.bool (decide (a<0)),u] 88 true)).new (.cells [.bool (decide (b<0)),v] 88 true)).new (.cells [.bool false,.aa] 88 true))
 rw[aQ,A.k139 (by simp)]
 generalize hB:((h.set N (.cells [.bool (decide (a<0)),u] 88 true)).set (N+1) (.cells [.bool (decide (b<0)),v] 88 true)).set (N+1+1) (.cells [.bool false,.aa] 88 true)=HB at kB
 have gr:HB.get (N+1+1)=some (.cells [.bool false,.aa] 88 true):=by rw[<-hB];simp
 have gx:HB.get N=some (.cells [.bool (decide (a<0)),u] 88 true):=by rw[<-hB];simp
 have gy:HB.get (N+1)=some (.cells [.bool (decide (b<0)),v] 88 true):=by rw[<-hB];simp
 by_cases Bf:decide (a<0)=decide (b<0)
 ·have FL:(decide (a<0)==decide (b<0))=true:=by rw[Bf];simp
  simp[A.b139,o1,o3,aL,aW,FL]
  simp only[hB]
  refine au (Yjs (Sl.ae hu kB) (Sl.ae hv kB) (fJ _) (fJ _) (by omega) (by omega)) ?_
  rintro v1 h1 n1 k1 ⟨l,q1,q2,q3,q4⟩
  rw[fQ,fQ]at q3
  have ez:(if decide (a<0)=true then -((a.natAbs+b.natAbs:Nat):Int) else ((a.natAbs+b.natAbs:Nat):Int))=a+b:=by
   by_cases h1:a<0<;>by_cases h2:b<0<;>simp[h1,h2]at Bf ⊢<;>omega
  simp[]
  refine au (tO (b:=decide (a<0)) (n:=a.natAbs+b.natAbs) q1 q2 (by rw[q3];try simp) (by omega)) ?_
  rintro v2 h2 n2 k2 dW
  rw[ez]at dW
  have tU:=k1.le
  have nk:=k2.le
  have g1:=(k2.get (N+1+1) (by omega)).trans ((k1.get (N+1+1) (by omega)).trans gr)
  obtain⟨u2,rfl,eX⟩:=dW
  have p1:=Sl.form eX |>.one
  have p2:=Sl.form eX |>.cells
  unfold V.one at p1
  unfold V.cells at p2
  simp[g1,p1,ag,bS,aL,aM,aA,cD.cG]
  exact⟨by split<;>simp[aB],((kB.trans k1).trans k2).set (by omega),u2,rfl,Sl.setInt eX g1 iN rfl⟩
 ·have FL:(decide (a<0)==decide (b<0))=false:=by simpa using Bf
  have x_:=fun w=>Qo (w:=w) (Sl.ae hu kB) (Sl.ae hv kB) (by omega) (by omega)
  by_cases ky:b.natAbs<=a.natAbs
  ·have yq:0<=yR a.natAbs b.natAbs:=Ydr.2 ky
   simp[A.b139,o1,o3,aL,aW,FL]
   simp only[hB]
   simp[x_,yq,gx,gy,aL]
   refine au (Yao (Sl.ae hu kB) (Sl.ae hv kB) ky (by omega)) ?_
   rintro v1 h1 n1 k1 q1
   have q2:=fJ (a.natAbs-b.natAbs)
   have q3:=fQ (a.natAbs-b.natAbs)
   have q4:=qX (Nat.sub_le a.natAbs b.natAbs)
   have ez:(if decide (a<0)=true then -((a.natAbs-b.natAbs:Nat):Int) else ((a.natAbs-b.natAbs:Nat):Int))=a+b:=by
    by_cases h1:a<0<;>by_cases h2:b<0<;>simp[h1,h2]at Bf ⊢<;>omega
   simp[]
   refine au (tO (b:=decide (a<0)) (n:=a.natAbs-b.natAbs) q1 q2 (by rw[q3];try simp) (by omega)) ?_
   rintro v2 h2 n2 k2 dW
   rw[ez]at dW
   have tU:=k1.le
   have nk:=k2.le
   have g1:=(k2.get (N+1+1) (by omega)).trans ((k1.get (N+1+1) (by omega)).trans gr)
   obtain⟨u2,rfl,eX⟩:=dW
   have p1:=Sl.form eX |>.one
   have p2:=Sl.form eX |>.cells
   unfold V.one at p1
   unfold V.cells at p2
   simp[g1,p1,ag,bS,aL,aM,aA,cD.cG]
   exact⟨by split<;>simp[aB],((kB.trans k1).trans k2).set (by omega),u2,rfl,Sl.setInt eX g1 iN rfl⟩
  ·have yq:¬0<=yR a.natAbs b.natAbs:=fun hc=>ky (Ydr.1 hc)
   simp[A.b139,o1,o3,aL,aW,FL]
   simp only[hB]
   simp[x_,yq,gx,gy,aL]
   refine au (Yao (Sl.ae hv kB) (Sl.ae hu kB) (by omega) (by omega)) ?_
   rintro v1 h1 n1 k1 q1
   have q2:=fJ (b.natAbs-a.natAbs)
   have q3:=fQ (b.natAbs-a.natAbs)
   have q4:=qX (Nat.sub_le b.natAbs a.natAbs)
   have ez:(if decide (b<0)=true then -((b.natAbs-a.natAbs:Nat):Int) else ((b.natAbs-a.natAbs:Nat):Int))=a+b:=by
    by_cases h1:a<0<;>by_cases h2:b<0<;>simp[h1,h2]at Bf ⊢<;>omega
   simp[]
   refine au (tO (b:=decide (b<0)) (n:=b.natAbs-a.natAbs) q1 q2 (by rw[q3];try simp) (by omega)) ?_
   rintro v2 h2 n2 k2 dW
   rw[ez]at dW
   have tU:=k1.le
   have nk:=k2.le
   have g1:=(k2.get (N+1+1) (by omega)).trans ((k1.get (N+1+1) (by omega)).trans gr)
   obtain⟨u2,rfl,eX⟩:=dW
   have p1:=Sl.form eX |>.one
   have p2:=Sl.form eX |>.cells
   unfold V.one at p1
   unfold V.cells at p2
   simp[g1,p1,ag,bS,aL,aM,aA,cD.cG]
   exact⟨by split<;>simp[aB],((kB.trans k1).trans k2).set (by omega),u2,rfl,Sl.setInt eX g1 iN rfl⟩
variable {n:Nat}
def A.w89:=A.q Tryz.f89
def A.pT:=A.ql A.w89 0 []
def A.b89:=(fun x0=>A.qb A.w89 [x0]) A.pT
def A.k89:=@A.kk 89 25 [.tmp 4] A.b89 (by kernel_rfl) rfl
def A.w91:=A.q Tryz.f91
def A.tL:=A.ql A.w91 0 []
def A.b91:=(fun x0=>A.qb A.w91 [x0]) A.tL
def A.k91:=@A.kk 91 39 [.tmp 2] A.b91 (by kernel_rfl) rfl
def Yde:gS 0 0=[]:=by simp[gS,qN]
def Ydf{m:Nat}(h:n≠0\/0<m):gS n m=gS (n/10) (m-1)++[cW n]:=by
 unfold gS
 by_cases hn:n=0
 ·subst hn
  have hm:0<m:=by omega
  simp only[qN,Nat.zero_div,List.length_nil,Nat.sub_zero,yX]
  obtain⟨k,rfl⟩:∃k,m=k+1:=⟨m-1,by omega⟩
  have:cW 0=48:=by decide
  rw[this,List.replicate_succ',Nat.add_sub_cancel]
 ·rw[uN hn]
  have:m-(cZ (n/10)++[cW n]).length=m-1-(cZ (n/10)).length:=by simp;omega
  rw[this,qs]
def Ylm{k:Nat}(hk:k<10):(TR.take (k+1)).drop k=[cW k]:=by
 have:k=0\/k=1\/k=2\/k=3\/k=4\/k=5\/k=6\/k=7\/k=8\/k=9:=by omega
 rcases this with rfl|rfl|rfl|rfl|rfl|rfl|rfl|rfl|rfl|rfl<;>decide
def Ylp(n:Nat):cW (n%10)=cW n:=by unfold cW;rw[Nat.mod_mod]
def Hv{m:Nat}{st:St}(hn:n<9223372036854775808)(hm:m<1000):A.C.call (.func 89 [] []) [.int .i64 n,.int .i64 m] st=some (.str (gS n m),st):=by
 apply Call.eq
 rw[aQ,A.k89 (by simp)]
 simp[A.b89]
 have hlen:(gS n m).length<2000:=by
  have:(cZ n).length<=19:=nO.1 (by omega)
  unfold gS
  simp;omega
 refine cX [(0,0),(5,23)] (fun e r s1=>s1=⟨st.h,st.n,[]⟩/\e=.exit 0/\r.get 5=some (.str (gS n m))) (fun q r s1=>s1=⟨st.h,st.n,[]⟩/\∃k s,q=k+(m-s.length)/\k<9223372036854775808/\r.get 0=some (.int .i64 k)/\r.get 5=some (.str s)/\gS n m=gS k (m-s.length)++s) (n+m) ?_ ?_ ?_
 ·exact⟨rfl,n,[],by simp,hn,by simp,by simp,by simp⟩
 ·rintro q r _ hr hf ⟨rfl,k,s,rfl,hk,h0,h5,hd⟩
  rw[cm]
  by_cases nM:k≠0\/0<m-s.length
  ·have ff:=Ydf (n:=k) (m:=m-s.length) nM
   rw[ff,qs,Nc]at hd
   have cO:s.length+1<2000:=by
    have:=congrArg List.length hd
    simp at this;omega
   have t1:(k:Int).tmod 10=((k%10:Nat):Int):=by rw[z_ (by omega)];omega
   have t2:(k:Int).tdiv 10=((k/10:Nat):Int):=by rw[yS (by omega)];omega
   have t3:bb .i64 ((k/10:Nat):Int)=((k/10:Nat):Int):=cb (by omega) (by omega)
   have t4:bb .i64 (((k%10:Nat):Int)+1)=((k%10+1:Nat):Int):=by rw[cb (by omega) (by omega)];omega
   have LJ:¬(9223372036854775807:Int)<1+(s.length:Int):=by omega
   have dJ:IntKind.max .i64=9223372036854775807:=rfl
   have sl:∀st:St,oW st (some (.str [48,49,50,51,52,53,54,55,56,57])) (some (some (.int .i64 ((k:Int)%10)))) (some (some (.int .i64 ((k:Int)%10+1))))=some (.str [cW k],st):=fun st=>by
    rw[Zoi (by omega) (by omega) (by simp;omega)]
    have e1:((k:Int)%10).toNat=k%10:=by omega
    have e2:((k:Int)%10+1).toNat=k%10+1:=by omega
    rw[e1,e2]
    have:=Ylm (k:=k%10) (by omega)
    rw[Ylp]at this
    exact congrArg (fun x=>some (V.str x,st)) this
   have FK:0<k\/(¬0<k/\s.length<m):=by omega
   rcases FK with g1|⟨g1,g2⟩
   ·have i1:(0:Int)<(k:Int):=by omega
    simp(disch:=first|(simp;done)|omega|rfl) [A.pT,hf,h0,h5,g1,t1,t2,iC,dJ,sl,LJ]
    exact⟨k/10+(m-(s.length+1)),by omega,k/10,cW k::s,by simp,by omega,by simp,by simp,by rw[hd,bf,Nat.sub_sub]⟩
   ·have i1:¬(0:Int)<(k:Int):=by omega
    have i2:(s.length:Int)<(m:Int):=by omega
    simp(disch:=first|(simp;done)|omega|rfl) [A.pT,hr,hf,h0,h5,g1,i2,t1,t2,iC,dJ,sl,LJ]
    exact⟨k/10+(m-(s.length+1)),by omega,k/10,cW k::s,by simp,by omega,by simp,by simp,by rw[hd,bf,Nat.sub_sub]⟩
  ·have g1:¬0<k:=by omega
   have g2:¬s.length<m:=by omega
   have i1:¬(0:Int)<(k:Int):=by omega
   have i2:¬(s.length:Int)<(m:Int):=by omega
   obtain rfl:k=0:=by omega
   rw[show m-s.length=0 by omega,Yde,List.nil_append]at hd
   simp[A.pT,hr,hf,h0,h5,i2,hd]
 ·rintro _ r _ hr ⟨rfl,rfl,h5⟩
  simp[h5]
def LF:(aj n).length<=9*(ds n).length+1:=by
 have h1:n<10^(9*(ds n).length):=by
  have h2:=rK (fJ n)
  rw[fQ,Pk]at h2
  have h3:=Int.ofNat_lt.1 h2
  rw[Nat.pow_mul]
  exact h3
 have:=nO.1 h1
 unfold aj
 split<;>simp<;>omega
def Zuj{k:Nat}:(aj (n/k)).length<=9*(ds n).length+1:=by
 have h1:=LF (n:=n/k)
 have h2:=qX (sM n k)
 omega
def Hu{h:T O}{N:Nat}{x:V}{z:Int}(hx:Rg h N x z)(hl:(ds z.natAbs).length<100000000000):Fn A.C 91 [x] h N (fun u _ _=>u=.str (aK z)):=by
 intro w
 obtain⟨u,rfl,hu⟩:=hx
 have o1:=Sl.form hu |>.one
 have o2:=Sl.form hu |>.cells
 unfold V.one at o1
 unfold V.cells at o2
 have kB:=((ad.refl (h:=h) (n:=N)).new (.cells [.bool (decide (z<0)),u] 88 true))
 have eX:Sl (h.set N (.cells [.bool (decide (z<0)),u] 88 true)) (N+1) u (dI (ds z.natAbs)):=Sl.ae hu kB
 have lu:=eX.len
 rw[f_]at lu
 rw[aQ,A.k91 (by simp)]
 by_cases h0:z=0
 ·subst h0
  have e0:(ds (0:Int).natAbs).length=0:=by rw[show (0:Int).natAbs=0 from rfl,qq];rfl
  rw[e0]at lu
  have e1:aK 0=[48]:=by decide
  simp[A.b91,o1,lu,aA,e1]
  exact kB
 obtain⟨n,hn⟩:∃n,z.natAbs=n:=⟨_,rfl⟩
 rw[hn]at lu eX hl
 have Pn:n≠0:=by omega
 have qO:(ds n).length≠0:=fun hc=>Pn (zV.1 (pV hc))
 obtain⟨L,hL⟩:∃L,(ds n).length=L+1:=⟨(ds n).length-1,by omega⟩
 have uD:=fun (k:Nat)=>Zuj (n:=n) (k:=k)
 rw[hL]at lu
 obtain⟨f,hF⟩:∃f:Nat->aU,∀m,f m=aj (n/1000000000^m):=⟨_,fun _=>rfl⟩
 obtain⟨g,hG⟩:∃g:Nat->Nat,∀m,g m=n/1000000000^m%1000000000:=⟨_,fun _=>rfl⟩
 have ra:f 0=aj n:=by rw[hF];simp
 have uU:∀m,g m<1000000000:=fun m=>by rw[hG];exact jO _ (by omega)
 have hg:∀m,m<L+1->(ds n)[m]?=some (g m):=fun m hm=>by rw[hG];exact NS (by omega)
 have Po:f L=gS (g L) 1:=by rw[hF,hG];exact Ygy hL.symm
 have vX:∀m,m<L->f m=f (m+1)++gS (g m) 9:=fun m hm=>by rw[hF,hF,hG];exact Ydg (by omega)
 have nW:∀m,(f m).length<=9*(L+1)+1:=fun m=>by rw[hF,<-hL];exact uD _
 clear hF hG uD
 obtain⟨i,o,c,e,rw,q1,q2,q3,q4⟩:=eX.at (fU (hg L (by omega)))
 have c1:¬((L:Int)+1=0):=by omega
 have c2:((L:Int)+1-1)=(L:Int):=by omega
 have c3:(L:Int)<(L:Int)+1:=by omega
 have c4:((L:Int)+1-2)=(L:Int)-1:=by omega
 have c5:bb .i64 ((L:Int)+1-1)=(L:Int):=by rw[c2];exact cb (by omega) (by omega)
 have c6:bb .i64 ((L:Int)+1-2)=(L:Int)-1:=by rw[c4];exact cb (by omega) (by omega)
 have Fs:∀m st,A.C.call (.func 89 [] []) [.int .i64 (g m),.int .i64 1] st=some (.str (gS (g m) 1),st):=fun m st=>Hv (n:=g m) (m:=1) (st:=st) (by have:=uU m;omega) (by omega)
 have oC:∀m st,A.C.call (.func 89 [] []) [.int .i64 (g m),.int .i64 9] st=some (.str (gS (g m) 9),st):=fun m st=>Hv (n:=g m) (m:=9) (st:=st) (by have:=uU m;omega) (by omega)
 simp(disch:=omega) [A.b91,o1,lu,c1,c2,c6,q1,q3,q4,Fs]
 rw[<-Po]
 refine cX [(3,4),(22,33)] (fun e r s1=>s1=⟨h.set N (.cells [.bool (decide (z<0)),u] 88 true),N+1,[]⟩/\e=.exit 0/\r.get 1=some (.ptr N 0)/\r.get 3=some (.str (aj n))) (fun m r s1=>s1=⟨h.set N (.cells [.bool (decide (z<0)),u] 88 true),N+1,[]⟩/\m<=L/\r.get 1=some (.ptr N 0)/\r.get 4=some (.int .i64 ((m:Int)-1))/\r.get 3=some (.str (f m))) L ?_ ?_ ?_
 ·exact⟨rfl,by omega,by simp,by simp,by simp⟩
 ·rintro m r _ hr hf ⟨rfl,hm,h1,h4,h3⟩
  rw[cm]
  rcases m with _|m
  ·have e1:(((0:Nat):Int)-1<0):=by omega
   rw[ra]at h3
   simp[A.tL,hr,hf,h3,h4]
  ·have e3:(((m+1:Nat):Int)-1)=(m:Int):=by omega
   have e4:¬((m:Int)<0):=by omega
   rw[e3]at h4
   obtain⟨i,o,c,e,rw,q1,q2,q3,q4⟩:=eX.at (fU (hg m (by omega)))
   have hp:(f m).length=(f (m+1)).length+(gS (g m) 9).length:=by rw[vX m (by omega),iy]
   have wk:¬(9223372036854775807:Int)<((f (m+1)).length:Int)+((gS (g m) 9).length:Int):=by have:=nW m;omega
   have dJ:IntKind.max .i64=9223372036854775807:=rfl
   have w1:bb .i64 ((m:Int)-1)=(m:Int)-1:=cb (by omega) (by omega)
   have c7:(m:Int)<(L:Int)+1:=by omega
   have f1:=(vX m (by omega)).symm
   have f2:m<m+1/\m<=L:=by omega
   have FJ:=oC m
   clear hp qO Pn hn hm hl hL vX nW oC Fs Po hg uU ra
   simp[A.tL,hr,hf,h3,h4,lu,c7,q1,q3,q4,FJ,iC,dJ,wk,w1,f1]
   exact⟨m,f2.1,f2.2,rfl,rfl⟩
 ·rintro _ r _ hr ⟨rfl,rfl,h1,h3⟩
  have pW:=LF (n:=n)
  have dJ:IntKind.max .i64=9223372036854775807:=rfl
  have cO:¬(9223372036854775807:Int)<1+((aj n).length:Int):=by omega
  by_cases hz:z<0
  ·have e1:aK z=45::aj n:=by unfold aK;rw[aJ hz,hn]
   clear pW qO Pn hn hL vX nW oC Fs Po hg uU ra hl
   simp[hr,h3,hz,iC,dJ,cO,aA,e1]
   simpa[hz]using kB
  ·have e1:aK z=aj n:=by unfold aK;rw[aq hz,hn]
   clear pW qO Pn hn hL vX nW oC Fs Po hg uU ra hl
   simp[hr,h3,hz,aA,e1]
   simpa[hz]using kB
open Go
def Ynu{P d1 d2 d3 v1 v2 U' V' t r:Int}(hP:0<P)(EN:0<=U')(hU:U'<P)(uQ:0<=V')(hV:V'<P)(h1:0<=d1)(h_:d1<1000000000)(h2:0<=d2)(h3:0<=d3)(w1:500000000<=v1)(w2:0<=v2)(w2':v2<1000000000)
  (hW:U'+P*(d1+1000000000*(d3*1000000000+d2))<1000000000*(V'+P*(v2+1000000000*v1))) (ht:d3*1000000000+d2=t*v1+r) (jI:0<=r) (Cy:r<v1):
  0<=t/\t<=1000000001/\U'+P*(d1+1000000000*(d3*1000000000+d2))<(t+1)*(V'+P*(v2+1000000000*v1)):=by
 generalize hT:d3*1000000000+d2=T at*
 have hT0:0<=T:=by omega
 have t0:0<=t:=by
  apply BQ;intro hc
  have:t*v1<=(-1)*v1:=BO (by omega) (by omega)
  omega
 have a1:T<1000000000*(v1+1):=by
  apply Gz;intro hc
  have b1:P*(1000000000*(v1+1))<=P*T:=oQ hc (by omega)
  have b2:0<=P*d1:=tQ (by omega) h1
  have b3:P*v2<=P*999999999:=oQ (by omega) (by omega)
  have b4:P*(d1+1000000000*T)=P*d1+1000000000*(P*T):=by grind
  have b5:P*(v2+1000000000*v1)=P*v2+1000000000*(P*v1):=by grind
  have b6:P*(1000000000*(v1+1))=1000000000*(P*v1)+1000000000*P:=by grind
  omega
 have a2:t<=1000000001:=by
  apply BQ;intro hc
  have b1:1000000002*v1<=t*v1:=BO (by omega) (by omega)
  omega
 refine⟨t0,a2,?_⟩
 have c1:(t+1)*v1=t*v1+v1:=by grind
 have b1:P*(T+1)<=P*((t+1)*v1):=oQ (by omega) (by omega)
 have b2:P*d1<=P*999999999:=oQ (by omega) (by omega)
 have b3:0<=(t+1)*V':=tQ (by omega) uQ
 have b4:0<=(t+1)*(P*v2):=tQ (by omega) (tQ (by omega) w2)
 have b5:P*(d1+1000000000*T)=P*d1+1000000000*(P*T):=by grind
 have b6:(t+1)*(V'+P*(v2+1000000000*v1))=(t+1)*V'+(t+1)*(P*v2)+1000000000*(P*((t+1)*v1)):=by grind
 have b7:P*(T+1)=P*T+P:=by grind
 omega
end
end Go.Mx
