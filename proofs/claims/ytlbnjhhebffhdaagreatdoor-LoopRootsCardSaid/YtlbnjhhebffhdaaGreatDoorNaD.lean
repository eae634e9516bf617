/-num-/
import Derived.Test.YtlbnjhhebffhdaaGreatDoorMxKnv
set_option linter.all false
namespace Go.Mx
noncomputable section
open Go Go.Proofs
variable {N b:Nat}
set_option maxHeartbeats 8000000
set_option maxRecDepth 1000000
def A.CJ:=A.q Tryz.f210
def A.jy:=A.ql A.CJ 2 []
def A.zgt:=A.ql A.CJ 1 []
def A.zgu:=A.ql A.CJ 0 []
def A.b210:=(fun x0 x1 x2=>A.qb A.CJ [x0,x1,x2]) A.zgu A.zgt A.jy
def A.k210:=@A.kk 210 137 [.tmp 4,.tmp 5] A.b210 (by kernel_rfl) rfl
def Yl7{x y s:Nat}(hx:x<B)(h0:0<s)(hs:s<64):iY (zid x s) (bS y (64-s))<B/\2^s*iY (zid x s) (bS y (64-s))+x%2^s=x+B*(y%2^s):=by
 have hc:zid x s<2^(64-s):=by
  unfold zid
  apply (pd (rY s)).2
  rw[<-Yw8,show 64-s+s=64 by omega];exact hx
 rw[Uh (by omega) hc]
 refine⟨Zpe (by omega) hc,?_⟩
 have e:bS y (64-s)=(y%2^s)*2^(64-s):=by
  unfold bS
  have:(18446744073709551616:Nat)=2^s*2^(64-s):=by rw[<-Yw8,show s+(64-s)=64 by omega]
  rw[this,NU]
 have e2:2^s*(y%2^s*2^(64-s))=B*(y%2^s):=by
  have:B=2^s*2^(64-s):=by rw[<-Yw8,show s+(64-s)=64 by omega];rfl
  rw[this]
  generalize 2^s=p
  generalize 2^(64-s)=q
  grind
 rw[e,rX,e2]
 unfold zid
 have:=tA x (2^s)
 omega
structure Ui (h:T O) (N iq:Nat) (X:List Nat) (b m:Nat) (r:T V) (st:St):Prop where
 n:st.n=N+1
 w:aL N st.w=[]
 ai:ah h N st.h (N+1)
 ex:∃(rest:Nat) (Q:List Nat),m<=X.length/\r.get 8=some (.int .i64 ((m:Int)-1))/\r.get 7=some (.int .u64 rest)/\st.h.get N=some (.cells (dg Q) 215 true)/\Q.length=X.length/\Dg Q/\val B (X.drop m)=b*val B (Q.drop m)+rest/\rest<b
def Yjb{h:T O}{N b:Nat}{va vb:V}{X:List Nat}{r0:T V}(ha:Sl h N va (dg X))(hb:Sl h N vb (dg [b]))(dA:Dg X)(hbB:b<B)(hl:X.length<1099511627776)
  (a0:r0.get 0=some va) (a1:r0.get 1=some vb) (a6:r0.get 6=some (.slice N 0 X.length (some X.length) 1)):
  ∀k r st,(∀t,jx [(7,8),(30,48)] t=false->r.get t=r0.get t)->Fx [(7,8),(30,48)] r0 137 ⟨r,137,[]⟩->Ui h N N X b k r st->Code A.C none A.zgu ⟨r,137,[]⟩ st (Rd [(7,8),(30,48)] r0 137 (Ui h N N X b) k (fun e r st=>e=.exit 0/\Ui h N N X b 0 r st)):=by
 rintro m r ⟨H,n1,W⟩ hr hf ⟨hn,hW,hK,rest,Q,hm,h8,h7,zgc,hQ,dQ,he,aW⟩
 simp only at hn hW hK zgc
 subst hn
 have la:=ha.len
 have lb:=hb.len
 rw[bH]at la lb
 rw[cn]
 cases m with
 |zero=>
  simp[A.zgu,hf,h8]
  exact⟨rfl,hW,hK,rest,Q,by omega,by simp[h8],by simp[h7],zgc,hQ,dQ,he,aW⟩
 |succ m=>
  have gx:=Yv8 (l:=X) (i:=m) (by omega)
  generalize X[m]'(by omega)=x at*
  have hx:x<B:=dA.get gx
  obtain⟨i1,o1,c1,e1,w1,p1,p2,p3,p4⟩:=ha.at (Za8 gx)
  have p3:=(hK.get _ p2).trans p3
  obtain⟨i2,o2,c2,e2,w2,q1,q2,q3,q4⟩:=hb.at (Za8 (l:=[b]) (j:=0) rfl)
  have q3:=(hK.get _ q2).trans q3
  rw[mY]at q4
  have gq:=Yv8 (l:=Q) (i:=m) (by omega)
  have oQ:((m+1:Nat):Int)-1=(m:Int):=by omega
  have hml:m<X.length:=by omega
  have yg:i1<N+1:=by omega
  have BL:i2<N+1:=by omega
  have zeo:¬i1=N:=by omega
  have kj:¬i2=N:=by omega
  have zep:¬N=i1:=by omega
  have zeq:¬N=i2:=by omega
  rw[oQ]at h8
  have hd:=Zx3 (h:=H) (N:=N+1) aW hbB hx
  obtain⟨q,hq⟩:∃q,(rest*18446744073709551616+x)/b=q:=⟨_,rfl⟩
  obtain⟨rr,CK⟩:∃q,(rest*18446744073709551616+x)%b=q:=⟨_,rfl⟩
  rw[hq,CK]at hd
  have hinv:b*q+rr=rest*B+x:=by
   have:=tA (rest*18446744073709551616+x) b
   rw[hq,CK]at this
   exact this
  have MA:rr<b:=by rw[<-CK];exact kf _ (by omega)
  have hqB:q<B:=by
   rw[<-hq];apply (pd (by omega)).2
   have:=ot B (show rest+1<=b by omega)
   rw[iz B b]
   rw[ku]at this
   unfold B at*;omega
  simp[A.zgu,hr,h8,h7,la,lb,a0,a1,a6,p1,p3,p4,q1,q3,q4,hml,yg,BL]
  refine av hd ?_
  rintro _ H n2 CL ⟨rfl,rfl,rfl⟩
  simp(disch:=first|(simp;done)|omega|(simp only[bH,cy,bC];omega)|rfl) [hr,hf,h8,h7,la,lb,a0,a1,a6,zgc,oT,hml,yg,BL,zeo,kj,zep,zeq,b_.chk]
  refine⟨m,by omega,rfl,by simp[aL,hW],hK.set (Yv5 _),rr,Q.set m q,by omega,by simp,by simp,by simp,by simp[hQ],dQ.sM hqB,?_,MA⟩
  rw[Bm gx,Bm (lM (by omega)),List.drop_set_of_lt (by omega),he,rX,rX]
  have:B*(b*val B (Q.drop (m+1)))=b*(B*val B (Q.drop (m+1))):=by grind
  rw[iz rest]at hinv
  omega
structure Uj (N n2:Nat) (h2:T O) (iu iq Nq lu k A0:Nat) (Y:List Nat) (m:Nat) (r:T V) (st:St):Prop where
 n:st.n=Nq
 w:aL n2 st.w=[]
 ai:ah h2 n2 st.h Nq
 ex:∃(U Q:List Nat),r.get 14=some (.int .i64 ((m:Int)-1))/\st.h.get iu=some (.cells (dg U) 215 true)/\st.h.get iq=some (.cells (dg Q) 215 true)/\U.length=lu/\Q.length+(k+2)=lu/\m<=Q.length/\Dg U/\Dg Q/\(∀t,m+k+2<=t->t<lu->U[t]?=some 0)/\val B (U.drop m)<val B Y/\val B U+B^m*(val B (Q.drop m)*val B Y)=A0
def Yja{h2:T O}{N n2 iu iq Nq lu k v1 A0:Nat}{Y:List Nat}{v:V}{r0:T V}{cq:Option Nat}(hv:Sl h2 n2 v (dg Y))(hY:Y.length=k+2)(dY:Dg Y)(hlu:lu<1099511627776)(f1:Y[k+1]?=some v1)(nv:0<v1)(PE:n2<=iu)(En:iu<iq)(hq:iq<Nq)
  (xr:k+2<lu) (JN:r0.get 10=some v) (Bn:r0.get 11=some (.slice iu 0 lu (some lu) 1)) (Bo:r0.get 12=some (.int .i64 ((k:Int)+2))) (a13:r0.get 13=some (.slice iq 0 (lu-(k+2)) cq 1)):
  ∀x r st,(∀t,jx [(14,14),(80,95)] t=false->r.get t=r0.get t)->Fx [(14,14),(80,95)] r0 137 ⟨r,137,[]⟩->Uj N n2 h2 iu iq Nq lu k A0 Y x r st->Code A.C none A.zgt ⟨r,137,[]⟩ st (Rd [(14,14),(80,95)] r0 137 (Uj N n2 h2 iu iq Nq lu k A0 Y) x (fun e r st=>e=.exit 2/\Uj N n2 h2 iu iq Nq lu k A0 Y 0 r st)):=by
 rintro m r ⟨H,n1,W⟩ hr hf ⟨hn,hW,hK,U,Q,wA,hU,hQ,lU,lQ,hm,dU,dQ,hz,aW,he⟩
 simp only at hn hW hK hU hQ
 subst hn
 rw[cn]
 cases m with
 |zero=>
  simp[A.zgt,hf,wA]
  exact⟨rfl,hW,hK,U,Q,by simp[wA],hU,hQ,lU,lQ,hm,dU,dQ,hz,aW,he⟩
 |succ m=>
  have oQ:((m+1:Nat):Int)-1=(m:Int):=by omega
  rw[oQ]at wA
  have gu:=Yv8 (l:=U) (i:=m) (by omega)
  generalize U[m]'(by omega)=um at*
  have zfK:um<B:=dU.get gu
  have hsK:oM ⟨H,n1,W⟩ 1 (some (.slice iu 0 lu (some lu) 1)) (some (some (.int .i64 m))) (some (some (.int .i64 ((m:Int)+((k:Int)+2)+1)))) (some none)=some (.slice iu m (k+3) (some (lu-m)) 1,⟨H,n1,W⟩):=by
   have e1:(0:Int)<=(m:Int)+((k:Int)+2)+1/\(m:Int)+((k:Int)+2)+1<=(lu:Int):=by omega
   have e2:((m:Int)+((k:Int)+2)+1).toNat=m+k+3:=by omega
   have e3:¬lu=m:=by omega
   have e4:m<=m+k+3:=by omega
   have e5:m+k+3-m=k+3:=by omega
   have e6:(m:Int)<=((m+k+3:Nat):Int):=by omega
   simp only[oM,qH,aH,dG,Zed,Option.map,Src.ev,e1,e2,e3,e5,e6,and_self,if_true,if_false,Int.natCast_nonneg,Int.toNat_natCast,ne_eq,not_true_eq_false,Option.isSome,Option.isNone,Bool.false_and,false_or,gj,oJ,wP]
  have hmq:m<lu-(k+2):=by omega
  simp(disch:=first|(simp;done)|omega|(simp only[bH,cy,bC];omega)|rfl) [A.zgt,hr,hf,wA,JN,Bn,Bo,a13,Nb,aH,hsK]
  refine A6 (Yb5 (n2:=n2) (k:=k) (U:=U) (v1:=v1) (hv.ai ⟨Yv5 _,fun i hi=>hK.get i hi⟩) hY dY PE (by omega) (by omega) (by omega) hU dU f1 nv (fun t h1 h2=>hz t (by omega) (by omega)) ?_) ?_
  ·rw[Bm gu]
   have:=jh B aW
   rw[Nat.mul_succ]at this
   omega
  rintro x ⟨H2,n3,W2⟩ ⟨s1,s2,s3,q,o,rfl,s4,s5,s6,s7,s8,s9,s10,s11⟩
  simp only at s1 s2 s3 s5
  subst s1
  have PF:H2.get iq=some (.cells (dg Q) 215 true):=by rw[s3 iq (by omega)];exact hQ
  simp(disch:=first|(simp;done)|omega|(simp only[bH,cy,bC];omega)|rfl) [hr,hf,wA,JN,Bn,Bo,a13,hmq,PF,oT]
  have uP:¬iq<n2:=by omega
  have hHe:∀i,i<n2->(H2.set iq (.cells (dg (Q.set m q)) 215 true)).get i=h2.get i:=fun i hi=>by
   rw[T.al,aA (by omega),s3 i (by omega)];exact hK.get i hi
  refine⟨m,by omega,rfl,?_,⟨by omega,hHe⟩,o,Q.set m q,by simp,by simp[s5,(show ¬iu=iq by omega)],by simp,by omega,by simp;omega,by simp;omega,s7,dQ.sM s4,?_,s11,?_⟩
  ·simp only[aL,uP,if_false]
   rw[s2];exact hW
  ·intro t h1 h2'
   exact s9 t (by omega) (by omega)
  ·have eU:=Eo B U m (by omega)
   have eO:=Eo B o m (by omega)
   have et:o.take m=U.take m:=by
    apply o8
    intro t
    rw[kW,kW]
    split
    ·exact s8 t (by omega)
    ·rfl
   rw[Bm (lM (by omega)),List.drop_set_of_lt (by omega),eO,et]
   rw[eU,<-s10,fV]at he
   rw[<-he]
   generalize val B (U.take m)=z1
   generalize val B (o.drop m)=z2
   generalize val B Y=z3
   generalize val B (Q.drop (m+1))=z4
   generalize B^m=z5
   grind
structure Uk (n2:Nat) (h2:T O) (iu iq Nq lu n s:Nat) (U Q:List Nat) (m:Nat) (r:T V) (st:St):Prop where
 hn:st.n=Nq
 w:aL n2 st.w=[]
 ai:ah h2 n2 st.h Nq
 q:st.h.get iq=some (.cells (dg Q) 215 true)
 ex:∃(i:Nat) (o:List Nat),i+m=n/\r.get 97=some (.int .i64 i)/\st.h.get iu=some (.cells (dg o) 215 true)/\o.length=lu/\Dg o/\(∀t,i<=t->o[t]?=U[t]?)/\2^s*val B (o.take i)=val B (U.take i)+B^i*(dz U i%2^s)
def Yhf{h2:T O}{n2 iu iq Nq lu n s:Nat}{U Q:List Nat}{r0:T V}{cu:Option Nat}(hlu:lu<1099511627776)(lU:U.length=lu)(dU:Dg U)(hs:s<64)(PE:n2<=iu)(En:iu<iq)(hq:iq<Nq)(hn:n<lu)
  (a9:r0.get 9=some (.int .i64 s)) (Bn:r0.get 11=some (.slice iu 0 lu cu 1)) (a96:r0.get 96=some (.int .i64 n)):
  ∀x r st,(∀t,jx [(15,15),(97,130)] t=false->r.get t=r0.get t)->Fx [(15,15),(97,130)] r0 137 ⟨r,137,[]⟩->Uk n2 h2 iu iq Nq lu n s U Q x r st->Code A.C none A.jy ⟨r,137,[]⟩ st (Rd [(15,15),(97,130)] r0 137 (Uk n2 h2 iu iq Nq lu n s U Q) x (fun e r st=>e=.exit 4/\Uk n2 h2 iu iq Nq lu n s U Q 0 r st)):=by
 rintro m r ⟨H,n1,W⟩ hr hf ⟨yM,hW,hK,hQ,i,o,hi,PG,zgc,lo,dO,zii,he⟩
 simp only at yM hW hK hQ zgc
 subst yM
 rw[cn]
 cases m with
 |zero=>
  have:i=n:=by omega
  subst this
  simp[A.jy,hr,hf,PG,a96]
  exact⟨rfl,hW,hK,hQ,i,o,by omega,by simp[PG],zgc,lo,dO,zii,he⟩
 |succ m=>
  have aW:i<n:=by omega
  have gx:U[i]?=some (U[i]'(by omega)):=Yv8 (by omega)
  have gy:U[i+1]?=some (U[i+1]'(by omega)):=Yv8 (by omega)
  generalize U[i]'(by omega)=x at*
  generalize U[i+1]'(by omega)=y at*
  have hx:x<B:=dU.get gx
  have hy:y<B:=dU.get gy
  have ox:o[i]?=some x:=by rw[zii i (Yv5 _)];exact gx
  have oy:o[i+1]?=some y:=by rw[zii (i+1) (by omega)];exact gy
  have Ou:i<lu:=by omega
  have PH:i+1<lu:=by omega
  have zer:(i:Int)+1<(lu:Int):=by omega
  have py:dz U i=x:=by simp[dz,gx]
  have hzy:dz U (i+1)=y:=by simp[dz,gy]
  have uP:¬iu<n2:=by omega
  have hiu:iu<n1:=by omega
  have hqu:¬iq=iu:=by omega
  have hsB:zid x s<B:=Zwt hx
  have zfr:zid x s<18446744073709551616:=hsB
  have zfL:x<18446744073709551616:=hx
  have JO:y<18446744073709551616:=hy
  have pr:(s:Int)<=64:=by omega
  have K1:=fun v1 v2=>(hK.set (o:=v1) PE).set (i:=iu) (o:=v2) PE
  by_cases h0:0<s
  ·have rQ:(0:Int)<(s:Int):=by omega
   obtain⟨z1,z2⟩:=Yl7 (y:=y) hx h0 hs
   have ox2:(o.set i (zid x s))[i]?=some (zid x s):=lM (by omega)
   have oy2:(o.set i (zid x s))[i+1]?=some y:=by rw[eJ (by omega)];exact oy
   have ziN:(o.set i (zid x s)).length=lu:=by simp[lo]
   have zes:bA .i64 (64-(s:Int))=((64-s:Nat):Int):=by rw[cH (by omega) (by omega)];omega
   simp(disch:=first|(simp;done)|omega|(simp only[bH,cy,bC];omega)|rfl) [-getElem?_pos,A.jy,hr,hf,PG,a96,a9,Bn,aW,Ou,PH,zgc,Za8 ox,oT,h0,rQ,zer,zes,Za8 ox2,Za8 oy2,ziN,hiu,b_.chk]
   refine⟨m,by omega,rfl,by simp[aL,hW,uP],K1 _ _,by simp[hqu,hQ],i+1,(o.set i (zid x s)).set i (iY (zid x s) (bS y (64-s))),by omega,by simp,by simp,by simp[lo],(dO.sM hsB).sM z1,?_,?_⟩
   ·intro t ht
    rw[eJ (by omega),eJ (by omega)]
    exact zii t (by omega)
   ·rw[List.set_set,CH,CH,py,hzy,show dz (o.set i (iY (zid x s) (bS y (64-s)))) i=iY (zid x s) (bS y (64-s)) by simp[dz,lM (show i<o.length by omega)]]
    have ht:(o.set i (iY (zid x s) (bS y (64-s)))).take i=o.take i:=by
     apply o8
     intro t
     rw[kW,kW]
     split
     ·rw[eJ (by omega)]
     ·rfl
    rw[ht]
    rw[py]at he
    have e2:B^i*(2^s*iY (zid x s) (bS y (64-s))+x%2^s)=B^i*(x+B*(y%2^s)):=by rw[z2]
    rw[fV]
    generalize iY (zid x s) (bS y (64-s))=z at*
    generalize val B (o.take i)=y1 at*
    generalize val B (U.take i)=y2 at*
    generalize x%2^s=y3 at*
    generalize y%2^s=y4 at*
    generalize (2:Nat)^s=y5 at*
    generalize B^i=y6 at*
    clear z2 ht K1
    grind
  ·have vY:s=0:=by omega
   subst vY
   have z0:zid x 0=x:=by unfold zid;simp
   have PI:o.set i x=o:=by
    apply o8
    intro t
    by_cases ht:t=i
    ·subst ht;rw[lM (by omega),ox]
    ·rw[eJ (by omega)]
   simp(disch:=first|(simp;done)|omega|(simp only[bH,cy,bC];omega)|rfl) [-getElem?_pos,A.jy,hr,hf,PG,a96,a9,Bn,aW,Ou,PH,zgc,Za8 ox,oT,z0,PI]
   refine⟨m,by omega,rfl,by simp[aL,hW,uP],hK.set PE,by simp[hqu,hQ],i+1,o,by omega,by simp,by simp,lo,dO,fun t ht=>zii t (by omega),?_⟩
   rw[CH,CH,py,show dz o i=x by simp[dz,ox]]
   have:dz U i%2^0=0:=Nat.mod_one _
   rw[this]at he
   simp only[AF,Nat.one_mul,Nat.mod_one,Nat.mul_zero,mY]at he ⊢
   omega
def Ylt(h:(aQ b).length=1):aQ b=[b]/\b<B:=by
 obtain⟨h1,h2⟩:=JP (k:=0) h
 rw[AF]at h1
 rw[oJ,Nat.pow_one]at h2
 refine⟨?_,h2⟩
 rw[mi (by omega),zg h2,qO,w6 h2]
def Yg1{r:Nat}(h:r<B):rP [r]=aQ r:=by
 rw[CI (by intro d hd;simp at hd;subst hd;exact h)]
 simp[val]
def Zs9{h:T O}{u v:V}{a:Nat}(hu:Wn h N u a)(hv:Wn h N v b)(hb:0<b)(hl:(aQ a).length<1000000000000)(oG:(aQ b).length<1000000000000):Fn A.C 210 [u,v] h N (fun x h' n'=>∃q r,x=.aX [q,r]/\Wn h' n' q (a/b)/\Wn h' n' r (a%b)):=by
 intro w
 have lu:=hu.len
 have lv:=hv.len
 rw[bH]at lu lv
 rw[aZ,A.k210 (by simp)]
 simp[A.b210]
 refine av (Zhx hu hv (by omega) (by omega)) ?_
 rintro _ h1 n1 k1 rfl
 by_cases aW:a<b
 ·have c1:uT a b= -1:=by simp[uT,aW]
  simp[c1,Ret]
  refine⟨k1,_,_,⟨rfl,rfl⟩,?_,?_⟩
  ·rw[zg aW];unfold Wn;rw[qO];exact Sl.nil
  ·rw[w6 aW];exact hu.ai k1
 ·have c1:¬uT a b<0:=by
   unfold uT
   rw[aA (by omega)]
   split<;>omega
  have zp:=hu.ai k1
  have nv:=hv.ai k1
  have hle:=Ep (a:=b) (b:=a) (by omega)
  by_cases h1l:(aQ b).length=1
  ·obtain⟨e1,e2⟩:=Ylt h1l
   have PJ:((aQ b).length:Int)=1:=by omega
   have JQ:Sl h1 n1 v (dg [b]):=by rw[<-e1];exact nv
   simp(disch:=first|(simp;done)|omega|(simp only[bH,cy,bC];omega)|rfl) [c1,lv,h1l,lu,a_]
   refine Zal [(7,8),(30,48)] _ (Ui h1 n1 n1 (aQ a) b) (aQ a).length ?_ (Yjb zp JQ (qP a) e2 (by omega) (by simp) (by simp) (by simp)) ?_
   ·refine⟨rfl,by simp,ah.refl.new _,0,List.replicate (aQ a).length 0,Yv5 _,by simp,by simp,by simp[JK],by simp,?_,?_,hb⟩
    ·intro d hd
     rw[LA]at hd
     rw[hd.2];decide
    ·simp[val]
   rintro e r ⟨H,n2,W⟩ hr ⟨rfl,hn,hW,hK,rest,Q,hm,h8,h7,zgc,hQ,dQ,he,MA⟩
   simp only at hn hW hK zgc
   subst hn
   simp[hr]
   refine av (CM (l:=Q) (Sl.row (e:=215) (rw:=true) (by omega) zgc (by rw[bH];exact hQ) (by simp)) (by omega)) ?_
   rintro q2 h3 n3 k3 hq
   simp[h7,aj]
   have k4:ah h3 n3 (h3.set n3 (.cells [.int .u64 rest] 215 true)) (n3+1):=ah.refl.new _
   have hs5:Sl (h3.set n3 (.cells [.int .u64 rest] 215 true)) (n3+1) (.slice n3 0 1 (some 1) 1) (dg [rest]):=Sl.row (e:=215) (rw:=true) (L:=1) (tu n3) (by simp[dg]) (by simp) (by simp)
   refine av (CM hs5 (by simp)) ?_
   rintro r2 h5 n5 k5 dw
   simp only[Au,mj]at he
   have JR:val B Q=a/b:=by
    rw[he,Nat.mul_add_div hb,zg MA];omega
   have JS:rest=a%b:=by
    rw[he,Nat.mul_add_mod,w6 MA]
   rw[CI dQ,JR]at hq
   rw[Yg1 (by omega),JS]at dw
   simp[Ret]
   exact⟨MB k1.le hW,((k1.trans hK).trans k3).trans (k4.trans k5),_,_,⟨rfl,rfl⟩,(hq.ai k4).ai k5,dw⟩
  ·have hbl:(aQ b).length≠0:=by
    rw[mi (by omega)];simp
   obtain⟨k,hk⟩:∃k,(aQ b).length=k+2:=⟨(aQ b).length-2,by omega⟩
   have PJ:¬(k:Int)+2=1:=by omega
   have gt:=Yv8 (l:=aQ b) (i:=k+1) (by omega)
   generalize (aQ b)[k+1]'(by omega)=bt at*
   have PL:bt<B:=(qP b).get gt
   have zet:¬bt=0:=by
    obtain⟨w1,w2⟩:=JP (k:=k+1) hk
    have:=(PM w1 w2).2
    rw[gt]at this
    have e:=rL this
    have hp:0<B^(k+1):=vu (by decide)
    have:=(Ly hp).2 (by rw[Nat.one_mul];exact w1)
    omega
   obtain⟨m1,m2,m3⟩:=Yky zet PL
   have hlz:=fun (h:T O) (N:Nat)=>Yee (h:=h) (N:=N) (x:=bt) PL
   generalize hs:64-zgd bt=s at*
   obtain⟨i1,o1,cc1,e1,w1,p1,p2,p3,p4⟩:=nv.at (Za8 gt)
   have t1:((k:Int)+2-1)=(k:Int)+1:=by omega
   rw[hk]at lv
   simp(disch:=omega) [c1,lv,p1,p3,p4,t1,PJ]
   refine av (hlz _ _) ?_
   rintro _ h1 n1 k2 ⟨rfl,rfl,rfl⟩
   simp
   refine av (Zpg nv (qP b) m3 (by omega)) ?_
   rintro vv h2 n2 k3 ⟨iv,ov,g1,g2,rfl,g3,g4,g5,g6⟩
   simp
   refine av (CM (l:=ov) (Sl.row (e:=215) (rw:=true) g2 g3 (by rw[bH];exact g4) (by simp)) (by omega)) ?_
   rintro vy h3 n3 k4 hy
   rw[CI g5,g6,mj]at hy
   obtain⟨y1,v1,y2,y3⟩:=Ygu hk gt m1 m2 (by omega)
   have ly:=Sl.len hy
   rw[bH,y1]at ly
   have ly:rH vy=some (k+2):=ly
   obtain⟨L,hL⟩:∃L,L+(k+2)=(aQ a).length+1:=⟨(aQ a).length+1-(k+2),by omega⟩
   have hLi:((aQ a).length:Int)-((k:Int)+2)=(L:Int)-1:=by omega
   simp[]
   refine av (Zpg ((zp.ai k3).ai k4) (qP a) m3 (by omega)) ?_
   rintro uu h4 n4 k5 ⟨iu,ou,j1,j2,rfl,j3,j4,j5,j6⟩
   simp(disch:=first|(simp;done)|omega|(simp only[bH,cy,bC];omega)|rfl) [ly,lu,hLi,JK]
   have Bp:0<v1:=by omega
   have k6:ah h4 n4 (h4.set n4 (.cells (dg (List.replicate L 0)) 215 true)) (n4+1):=ah.refl.new _
   have hyv:v1*B^(k+1)<=val B (aQ (b*2^s)):=by
    obtain⟨w1,w2⟩:=JP (k:=k+1) y1
    have:=(PM w1 w2).2
    rw[y2]at this
    have e:=rL this
    rw[mj,e]
    exact Nat.div_mul_le_self _ _
   refine Zal [(14,14),(80,95)] _ (Uj N n3 h3 iu n4 (n4+1) ((aQ a).length+1) k (a*2^s) (aQ (b*2^s))) L ?_ (Yja (cq:=some L) (v1:=v1) hy (by omega) (qP _) (by omega) (by rw[y2]) Bp j1 j2 (tu n4) (by omega) (by simp) (by simp) (by simp) ?_) ?_
   ·have cv:¬iu=n4:=by omega
    refine⟨rfl,rfl,(k5.trans k6),ou,List.replicate L 0,by simp,by simp[cv,j3],by simp,j4,by simp;omega,by simp,j5,?_,fun t BG yh=>by omega,?_,?_⟩
    ·intro d hd
     rw[LA]at hd
     rw[hd.2];decide
    ·have ha0:a≠0:=by omega
     have hla:(aQ a).length≠0:=by rw[mi ha0];simp
     obtain⟨la1,PN⟩:∃x,(aQ a).length=x+1:=⟨(aQ a).length-1,by omega⟩
     have jb:=(JP PN).2
     rw[<-PN]at jb
     rw[mj]at j6
     exact Yby (k:=k+1) j6 j4 (by omega) (by omega) jb m3 y3 hyv
    ·simp[val,j6,mj]
   ·have:(aQ a).length+1-(k+2)=L:=by omega
    simp[this]
   rintro e r ⟨H,n5,W⟩ hr ⟨rfl,hn,hW,hK,U,Q,wA,hU,hQ,lU,lQ,hm,dU,dQ,hz,zik,he⟩
   simp only at hn hW hK hU hQ
   subst hn
   simp only[Au,AF,Nat.one_mul]at he zik
   simp[hr]
   refine Zal [(15,15),(97,130)] _ (Uk n3 h3 iu n4 (n4+1) ((aQ a).length+1) (k+2) s U Q) (k+2) ?_ (Yhf (cu:=some ((aQ a).length+1)) (by omega) lU dU m3 j1 j2 (tu n4) (by omega) (by simp[hr]) (by simp[hr]) (by simp)) ?_
   ·refine⟨rfl,hW,hK,hQ,0,U,by omega,by simp,hU,lU,dU,fun _ _=>rfl,?_⟩
    obtain⟨x,hx⟩:∃x,val B U=2^s*x:=by
     refine⟨a-val B Q*b,?_⟩
     rw[mj]at he
     rw[Nat.mul_sub,iz _ a,<-he]
     have:val B Q*(b*2^s)=2^s*(val B Q*b):=by grind
     omega
    have tI:dz U 0%2^s=0:=by
     have h1:=CH (b:=B) (l:=U) (k:=0)
     have h2:=Eo B U 1 (by omega)
     simp only[List.take_zero,val,AF,Nat.one_mul,oJ,Nat.pow_one]at h1 h2
     rw[h1,hx]at h2
     have h3:B=2^s*2^(64-s):=by rw[<-Yw8,show s+(64-s)=64 by omega];rfl
     rw[h3,AG]at h2
     have h4:dz U 0=2^s*(x-2^(64-s)*val (2^s*2^(64-s)) (U.drop 1)):=by rw[Nat.mul_sub];omega
     rw[h4,Nat.mul_mod_right]
    rw[tI];simp[val]
   rintro e r2 ⟨H2,n5,W2⟩ dw ⟨rfl,eP,dX,hK2,hQ2,i,o,hi,PG,zgc,lo,dO,zii,he2⟩
   simp only at eP dX hK2 hQ2 zgc
   subst eP
   have:i=k+2:=by omega
   subst this
   simp[dw,hr]
   refine av (CM (l:=Q) (Sl.row (e:=215) (rw:=true) (tu n4) hQ2 (by rw[bH];omega) (by simp)) (by omega)) ?_
   rintro q2 h6 n6 k6 hq
   have hsU:Sl h6 n6 (.slice iu 0 ((aQ a).length+1) (some ((aQ a).length+1)) 1) (dg o):=(Sl.row (h:=H2) (N:=n4+1) (by omega) zgc (by rw[bH];exact lo) (by simp)).ai k6
   obtain⟨v',e1,e2⟩:=R6 (w:=[]) hsU (lo:=0) (hi:=k+2) (tR _) (by rw[bH];omega) none (some (.int .i64 ((k+2:Nat):Int))) (.inr ⟨rfl,rfl⟩) (.inl rfl)
   rw[show ((k+2:Nat):Int)=(k:Int)+2 by omega]at e1
   simp[dw,hr,Nb,aH,e1]
   rw[Au,show (dg o).take (k+2)=dg (o.take (k+2)) by simp[dg]]at e2
   refine av (CM (l:=o.take (k+2)) e2 (by rw[j9];omega)) ?_
   rintro r3 h7 n7 k7 PO
   rw[CI dQ]at hq
   rw[CI (fun d hd=>dO d (BR hd))]at PO
   rw[mj]at he zik
   have hbs:0<b*2^s:=xM hb (rY s)
   have JT:dz U (k+2)=0:=by simp[dz,hz (k+2) (by omega) (by omega)]
   have hUt:val B (U.take (k+2))=val B U:=by
    have h1:=Eo B U (k+2) (by omega)
    rw[Zgc (fun t t1 t2=>hz t (by omega) (by omega))]at h1
    omega
   have JR:val B Q=a/b:=by
    have h1:a*2^s/(b*2^s)=val B Q:=by
     rw[<-he,Nat.add_mul_div_right _ _ hbs,zg zik];omega
    rw[Tf _ _ (rY s)]at h1
    exact h1.symm
   have JS:val B (o.take (k+2))=a%b:=by
    have h1:a*2^s%(b*2^s)=val B U:=by
     rw[<-he,Nat.add_mul_mod_self_right,w6 zik]
    rw[NU,iz]at h1
    rw[JT,Nat.zero_mod,Nat.mul_zero,mY,hUt,<-h1]at he2
    exact Nat.eq_of_mul_eq_mul_left (rY s) he2
   rw[JR]at hq
   rw[JS]at PO
   simp[b_.chk,Ret]
   have kk:=(k1.trans k3).trans k4
   exact⟨MB kk.le dX,((kk.trans hK2).trans k6).trans k7,q2,r3,⟨rfl,rfl⟩,Sl.ai hq k7,PO⟩
variable {N n:Nat} {h:T O} {x:V}
def A.b128:=A.q Tryz.f128
def A.k128:=@A.kk 128 5 [.cell 2 (some 2)] A.b128 (by kernel_rfl) rfl
def A.b189:=A.q Tryz.f189
def A.k189:=@A.kk 189 7 [.tmp 2] A.b189 (by kernel_rfl) rfl
def A.b227:=A.q Tryz.f227
def A.k227:=@A.kk 227 9 [.cell 2 (some 2)] A.b227 (by kernel_rfl) rfl
def A.b203:=A.q Tryz.f203
def A.k203:=@A.kk 203 10 [.tmp 2] A.b203 (by kernel_rfl) rfl
def A.b198:=A.q Tryz.f198
def A.k198:=@A.kk 198 26 [.cell 2 (some 2)] A.b198 (by kernel_rfl) rfl
def A.b204:=A.q Tryz.f204
def A.k204:=@A.kk 204 24 [.tmp 2,.tmp 3] A.b204 (by kernel_rfl) rfl
def A.b205:=A.q Tryz.f205
def A.k205:=@A.kk 205 50 [.cell 4 (some 2)] A.b205 (by kernel_rfl) rfl
def sgn(z:Int):Int:=if z<0 then -1 else 1
def In(h:T O)(N:Nat)(x:V)(z:Int):Prop:=
 (x=.agg [.int .i64 z,.ziA]/\ -9223372036854775808<=z/\z<9223372036854775808)\/
 ∃i o l c,x=.agg [.int .i64 (sgn z),.slice i o l c 1]/\Wn h N (.slice i o l c 1) z.natAbs/\9223372036854775808<=z.natAbs
def In.ai{h':T O}{N':Nat}{z:Int}(s:In h N x z)(k:ah h N h' N'):In h' N' x z:=by
 rcases s with s|⟨i,o,l,c,s1,s2,s3⟩
 ·exact .inl s
 ·exact .inr ⟨i,o,l,c,s1,s2.ai k,s3⟩
def In.small{z:Int}(h1: -9223372036854775808<=z)(h2:z<9223372036854775808):In h N (.agg [.int .i64 z,.ziA]) z:=.inl ⟨rfl,h1,h2⟩
def In.cells{z:Int}(s:In h N x z):∃n u,x=.agg [.int .i64 n,u]/\V.one u=true:=by
 rcases s with⟨rfl,_⟩|⟨i,o,l,c,rfl,_⟩
 ·exact⟨_,_,rfl,rfl⟩
 ·exact⟨_,_,rfl,rfl⟩
def In.nu{n z:Int}{u:V}(s:In h N (.agg [.int .i64 n,u]) z):∀x∈[V.int .i64 n,u],∀m,x≠.int .u64 m:=by
 intro x hx m hc
 simp only[kV,List.not_mem_nil,or_false]at hx
 rcases hx with rfl|rfl
 ·cases hc
 ·subst hc
  rcases s with⟨e,_⟩|⟨_,_,_,_,e,_⟩
  ·simp at e
  ·simp at e
def aO{h1:T O}{n1:Nat}(k:ah h n h1 n1)(o:O):ah h n (h1.set n1 o) (n1+1):=(k.set k.le).up (xS _)
def wl(z:Int):Nat:=(aQ z.natAbs).length
def JU{z:Int}:Fn A.C 128 [.int .i64 z] h N (fun v _ _=>v=.agg [.int .i64 z,.ziA]):=by
 intro w
 rw[aZ,A.k128 (by simp)]
 simp[A.b128,aI,aK,aj,Ret]
 exact(((ah.refl.set (Yv5 N)).set (Yv5 N)).up (xS N))
def sg3(z:Int):Int:=if z<0 then -1 else if z=0 then 0 else 1
def JV{z:Int}(hx:In h N x z):Fn A.C 189 [x] h N (fun v _ _=>v=.int .i64 (sg3 z)):=by
 intro w
 rw[aZ,A.k189 (by simp)]
 rcases hx with⟨rfl,_⟩|⟨i,o,l,c,rfl,_,hz⟩
 ·obtain h1|h1|h1:z<0\/z=0\/0<z:=by omega
  ·have e1:z<1:=by omega
   have e2:¬ -1<z:=by omega
   simp[A.b189,aI,Ret,wU,o9,yY,xc,xP,xV,h1,e1,e2,sg3]
   exact aO ah.refl _
  ·subst h1
   simp[A.b189,aI,Ret,wU,o9,yY,xc,xP,xV,sg3]
   exact aO ah.refl _
  ·have e1:¬z<1:=by omega
   have e2:¬z<0:=by omega
   have e3:¬z=0:=by omega
   simp[A.b189,aI,Ret,wU,o9,yY,xc,xP,xV,e1,e2,e3,sg3]
   exact aO ah.refl _
 ·by_cases h1:z<0
  ·simp[A.b189,aI,Ret,wU,o9,yY,xc,xP,xV,sgn,sg3,h1]
   exact aO ah.refl _
  ·have e3:¬z=0:=by omega
   simp[A.b189,aI,Ret,wU,o9,yY,xc,xP,xV,sgn,sg3,h1,e3]
   exact aO ah.refl _
def Zud{z:Int}(hz: -9223372036854775808<=z)(hm:z<9223372036854775808){st:St}:A.C.call (.func 203 [] []) [.int .i64 z] st=some (.int .u64 (z.natAbs:Nat),st):=by
 apply Call.eq
 rw[aZ,A.k203 (by simp)]
 by_cases e1:z<0
 ·have e2:bA .u64 (IntKind.wrap .i64 (0-z))=(z.natAbs:Nat):=by
   rw[Mz]
   by_cases e3:z= -9223372036854775808
   ·subst e3;decide
   ·rw[Og (by omega) (by omega)];omega
  rw[Int.zero_sub]at e2
  simp[A.b203,e1,e2]
 ·have e2:bA .u64 z=(z.natAbs:Nat):=by rw[Ej (by omega) (by omega)];omega
  simp[A.b203,e1,e2]
def JW(h:n<B)(h0:n≠0):aQ n=[n]:=by
 rw[mi h0,zg h,qO,w6 h]
def CN{z:Int}(hx:In h N x z):Fn A.C 204 [x] h N (fun v h' n'=>∃u,v=.aX [.bool (decide (z<0)),u]/\Wn h' n' u z.natAbs):=by
 intro w
 rw[aZ,A.k204 (by simp)]
 rcases hx with⟨rfl,h1,h2⟩|⟨i,o,l,c,rfl,hw,hz⟩
 ·by_cases h0:z=0
  ·subst h0
   simp[A.b204,aI,a_,Ret]
   refine⟨aO ah.refl _,?_⟩
   unfold Wn;rw[qO];exact Sl.nil
  ·have hs:=fun st=>Zud h1 h2 (st:=st)
   have d1:¬N=N+1:=by omega
   simp[A.b204,aI,aj,a_,h0,hs,Ret,b_.chk]
   refine⟨aO (aO ah.refl _) _,?_⟩
   unfold Wn
   rw[JW (by unfold B;omega) (by omega)]
   exact Sl.row (e:=215) (rw:=true) (L:=1) (by omega) (by simp[dg]) (by simp) (by simp)
 ·have e1:(sgn z<0)=(z<0):=by unfold sgn;split<;>simp_all
  simp[A.b204,aI,a_,Ret,e1,b_.chk]
  refine⟨aO ah.refl _,hw.ai (aO ah.refl _)⟩
def Er{u:V}{b:Bool}(hu:Wn h N u n)(hl:(aQ n).length<1099511627776):Fn A.C 205 [.bool b,u] h N (fun v h' n'=>In h' n' v (if b=true then -(n:Int) else n)):=by
 intro w
 have lu:=hu.len
 rw[bH]at lu
 rw[aZ,A.k205 (by simp)]
 have kk:∀o1 o2:O,ah h N ((h.set N o1).set N o2) (N+1):=fun o1 o2=>(aO ah.refl o1).set (Yv5 N)
 by_cases h0:n=0
 ·subst h0
  rw[qO]at lu
  simp[A.b205,lu,aI,aK,aj,Ret]
  refine⟨kk _ _,?_⟩
  have:(if b=true then -((0:Nat):Int) else ((0:Nat):Int))=0:=by split<;>rfl
  exact In.small (by omega) (by omega)
 ·by_cases h1:n<18446744073709551616
  ·rw[JW h1 h0]at lu
   obtain⟨i,o,c,e,rw,p1,p2,p3,p4⟩:=hu.at (Za8 (l:=aQ n) (j:=0) (n:=n) (by rw[JW h1 h0];rfl))
   rw[mY]at p4
   have lu:rH u=some 1:=lu
   have cv:¬i=N:=by omega
   by_cases h2:n<=9223372036854775807
   ·have h2':(n:Int)<=9223372036854775807:=by omega
    have w1:bA .i64 (n:Int)=n:=cH (by omega) (by omega)
    have w2:IntKind.wrap .i64 (-(n:Int))= -(n:Int):=Og (by omega) (by omega)
    cases b
    ·simp[A.b205,lu,p1,p3,p4,cv,h2',w1,aI,aK,aj,Ret]
     exact⟨kk _ _,In.small (by omega) (by omega)⟩
    ·simp[A.b205,lu,p1,p3,p4,cv,h2',w1,w2,aI,aK,aj,Ret]
     exact⟨kk _ _,In.small (by omega) (by omega)⟩
   ·have h2':¬(n:Int)<=9223372036854775807:=by omega
    obtain⟨i2,o2,l2,c2,rfl⟩:∃i o l c,u=.slice i o l c 1:=by
     rcases hu with⟨hu,_⟩|⟨i,o,cp,c,e,rw,hu,_⟩
     ·rw[JW h1 h0]at hu;simp[dg]at hu
     ·exact⟨_,_,_,_,hu⟩
    cases b
    ·simp[A.b205,lu,p1,p3,p4,cv,h2',aI,aK,aj,Ret]
     refine⟨kk _ _,.inr ⟨i2,o2,l2,c2,?_,hu.ai (kk _ _),?_⟩⟩
     ·simp[sgn]
     ·omega
    ·simp[A.b205,lu,p1,p3,p4,cv,h2',aI,aK,aj,Ret]
     refine⟨kk _ _,.inr ⟨i2,o2,l2,c2,?_,?_,?_⟩⟩
     ·simp[sgn];omega
     ·simpa using hu.ai (kk _ _)
     ·omega
  ·have BA:2<=(aQ n).length:=by
    rw[mi h0,mi (by unfold B;omega)];simp
   have c0:¬((aQ n).length:Int)=0:=by omega
   have c1:¬((aQ n).length:Int)=1:=by omega
   have c2:¬(aQ n).length=1:=by omega
   have c3:¬aQ n=[]:=by intro h;rw[h]at BA;simp at BA
   rcases hu with⟨hu,_⟩|⟨i,o,cp,c,e,rw,rfl,hu⟩
   ·exfalso
    have:=congrArg List.length hu
    rw[bH]at this
    simp at this
    exact c3 this
   have hw:Wn h N (.slice i o (dg (aQ n)).length cp 1) n:=.inr ⟨i,o,cp,c,e,rw,rfl,hu⟩
   rw[bH]at hw
   cases b
   ·simp[A.b205,c1,c3,aI,aK,aj,Ret]
    refine⟨kk _ _,.inr ⟨i,o,(aQ n).length,cp,?_,hw.ai (kk _ _),?_⟩⟩
    ·simp[sgn]
    ·omega
   ·simp[A.b205,c1,c3,aI,aK,aj,Ret]
    refine⟨kk _ _,.inr ⟨i,o,(aQ n).length,cp,?_,?_,?_⟩⟩
    ·simp[sgn];omega
    ·simpa using hw.ai (kk _ _)
    ·omega
def Sl.ay{v:V}{l:List Nat}{i:Nat}{c0 c1:List V}{e0 e1:TypeId}{w0 w1:Bool}(s:Sl h N v (dg l))(hr:h.get i=some (.cells c0 e0 w0))(hn:∀x∈c0,∀n,x≠.int .u64 n)(hc:c1.length=c0.length):Sl (h.set i (.cells c1 e1 w1)) N v (dg l):=by
 rcases s with s|⟨i',o,cp,c,e,rw,rfl,q1,q2,q3,q4,q5⟩
 ·exact .inl s
 ·by_cases hi:i'=i
  ·subst hi
   rw[hr]at q2
   simp only[au,O.cells.injEq]at q2
   obtain⟨rfl,rfl,rfl⟩:=q2
   cases l with
   |nil=>
    refine .inr ⟨i',o,cp,c1,e1,w1,rfl,q1,by rw[T.al,aR rfl],?_,by simpa[hc]using q4,q5⟩
    intro j hj
    simp[dg]at hj
   |cons d l=>
    exfalso
    have:=q3 0 (by simp[dg])
    have hm:=eI (l:=c0) (i:=o+0) (a:=.int .u64 d) (by rw[this];simp[dg])
    exact hn _ hm _ rfl
  ·exact .inr ⟨i',o,cp,c,e,rw,rfl,q1,by rw[T.al,aA hi];exact q2,q3,q4,q5⟩
def In.ay{z:Int}{i:Nat}{c0 c1:List V}{e0 e1:TypeId}{w0 w1:Bool}(s:In h N x z)(hr:h.get i=some (.cells c0 e0 w0))(hn:∀x∈c0,∀n,x≠.int .u64 n)(hc:c1.length=c0.length):In (h.set i (.cells c1 e1 w1)) N x z:=by
 rcases s with s|⟨i',o,l,c,s1,s2,s3⟩
 ·exact .inl s
 ·exact .inr ⟨i',o,l,c,s1,Sl.ay s2 hr hn hc,s3⟩
def MC{z:Int}(hx:In h N x z)(hl:wl z<500000000000):Fn A.C 198 [x] h N (fun v h' n'=>In h' n' v (-z)):=by
 intro w
 rw[aZ,A.k198 (by simp)]
 have rest:∀{x:V},In h N x z->∀(h1:T O) (N1:Nat),ah h N h1 N1->Fn A.C 204 [x] h1 N1 (fun v h' n'=>∃u,v=.aX [.bool (decide (z<0)),u]/\Wn h' n' u z.natAbs):=fun hx h1 N1 k=>CN (hx.ai k)
 have fin:∀{v h' n'},In h' n' v (if (!decide (z<0))=true then -(z.natAbs:Int) else z.natAbs)->In h' n' v (-z):=fun {v h' n'} q=>by
  have e:(if (!decide (z<0))=true then -(z.natAbs:Int) else (z.natAbs:Int))= -z:=by
   by_cases h:z<0<;>simp[h]<;>omega
  rw[e]at q;exact q
 by_cases hz:x=.agg [.int .i64 z,.ziA]/\z≠ -9223372036854775808/\ -9223372036854775808<=z/\z<9223372036854775808
 ·obtain⟨rfl,h0,h1,h2⟩:=hz
  have w2:IntKind.wrap .i64 (-z)= -z:=Og (by omega) (by omega)
  simp[A.b198,aI,aK,aj,a_,h0,w2,Ret]
  exact⟨(aO (aO ah.refl _) _).set (by omega),In.small (by omega) (by omega)⟩
 ·rcases id hx with⟨rfl,h1,h2⟩|⟨i,o,l,c,rfl,_⟩
  ·have h0:z= -9223372036854775808:=by
    apply Decidable.byContradiction
    intro hc
    exact hz ⟨rfl,hc,h1,h2⟩
   have hp:=rest hx _ _ (aO (aO ah.refl (.cells [.int .i64 z,.ziA] 100 true)) (.cells [.int .i64 0,.ziA] 100 true))
   subst h0
   simp[A.b198,aI,aK,a_]
   refine av hp ?_
   rintro _ h3 n3 k3 ⟨u,rfl,hu⟩
   have xE:=k3.le
   have g0:=k3.get (N+1) (by omega)
   simp at g0
   simp[]
   refine av (Er hu (by unfold wl at hl;omega)) ?_
   rintro v h4 n4 k4 hv
   have uU:=k4.le
   have g1:=(k4.get (N+1) (by omega)).trans g0
   obtain⟨n5,u5,rfl,jd⟩:=hv.cells
   unfold V.one at jd
   simp[g1,aI,aK,aj,bM,Ret,jd]
   have kk:=(((aO (aO ah.refl _) _).trans k3).trans k4).set (h:=h) (n:=N) (i:=N+1) (o:=.cells [.int .i64 n5,u5] 100 true) (by omega)
   exact⟨kk,(fin hv).ay g1 (by simp) rfl⟩
  ·have hp:=rest hx _ _ (aO (aO ah.refl (.cells [.int .i64 (sgn z),.slice i o l c 1] 100 true)) (.cells [.int .i64 0,.ziA] 100 true))
   simp[A.b198,aI,aK,a_]
   refine av hp ?_
   rintro _ h3 n3 k3 ⟨u,rfl,hu⟩
   have xE:=k3.le
   have g0:=k3.get (N+1) (by omega)
   simp at g0
   simp[]
   refine av (Er hu (by unfold wl at hl;omega)) ?_
   rintro v h4 n4 k4 hv
   have uU:=k4.le
   have g1:=(k4.get (N+1) (by omega)).trans g0
   obtain⟨n5,u5,rfl,jd⟩:=hv.cells
   unfold V.one at jd
   simp[g1,aI,aK,aj,bM,Ret,jd]
   have kk:=(((aO (aO ah.refl _) _).trans k3).trans k4).set (h:=h) (n:=N) (i:=N+1) (o:=.cells [.int .i64 n5,u5] 100 true) (by omega)
   exact⟨kk,(fin hv).ay g1 (by simp) rfl⟩
def A.b38:=A.q Tryz.f38
def A.k38:=@A.kk 38 13 [.tmp 2] A.b38 (by kernel_rfl) rfl
def A.b45:=A.q Tryz.f45
def A.k45:=@A.kk 45 14 [.tmp 2] A.b45 (by kernel_rfl) rfl
def A.b157:=A.q Tryz.f157
def A.k157:=@A.kk 157 13 [.tmp 2] A.b157 (by kernel_rfl) rfl
def A.b92:=A.q Tryz.f92
def A.k92:=@A.kk 92 14 [.tmp 2] A.b92 (by kernel_rfl) rfl
def A.b142:=A.q Tryz.f142
def A.k142:=@A.kk 142 7 [.tmp 2] A.b142 (by kernel_rfl) rfl
def A.b143:=A.q Tryz.f143
def A.k143:=@A.kk 143 14 [.tmp 2] A.b143 (by kernel_rfl) rfl
def A.b34:=A.q Tryz.f34
def A.k34:=@A.kk 34 9 [.tmp 2] A.b34 (by kernel_rfl) rfl
def A.b59:=A.q Tryz.f59
def A.k59:=@A.kk 59 5 [.tmp 2] A.b59 (by kernel_rfl) rfl
def xI:Zao 0=[48]:=by decide+kernel
def Ybw{q:Rat}:Zao q=[48]↔q=0:=⟨fun h=>Zh8 (h.trans xI.symm),fun h=>by rw[h,xI]⟩
def Zsw{q:Rat}{st:St}:A.C.call (.func 59 [] []) [.str (Zao q)] st=some (.bool (decide (q=0)),st):=by
 have e:(Zao q==[48])=decide (q=0):=by rw[Bool.eq_iff_iff,beq_iff_eq,decide_eq_true_eq];exact Ybw
 apply Call.eq
 rw[aZ,A.k59 (by simp)]
 simp[A.b59,a_,iF,e]
def PQ{q:Rat}:q.num=0↔q=0:=Rat.num_eq_zero
def Ylx(q:Rat):0<(Zao q).length:=by
 obtain⟨c,t,h,_⟩:=Zwf q
 rw[xH,h]
 split<;>simp
def Yg0(q:Rat):∃c,(Zao q)[0]?=some c/\(Zao q).head?=some c/\(cX c=45↔q.num<0):=by
 obtain⟨c,t,h,h1⟩:=Zwf q
 by_cases hz:q.num<0
 ·refine⟨45,?_,?_,?_⟩
  ·rw[xH,aR hz];rfl
  ·rw[xH,aR hz];rfl
  ·exact⟨fun _=>hz,fun _=>rfl⟩
 ·refine⟨c,?_,?_,?_⟩
  ·rw[xH,aA hz,h];rfl
  ·rw[xH,aA hz,h];rfl
  ·exact⟨fun h2=>by unfold cX at h2;omega,fun h2=>absurd h2 hz⟩
def HY{q:Rat}{st:St}:A.C.call (.func 38 [] []) [.str (Zao q)] st=some (.int .i64 (sg3 q.num),st):=by
 have e:(Zao q==[48])=decide (q=0):=by rw[Bool.eq_iff_iff,beq_iff_eq,decide_eq_true_eq];exact Ybw
 obtain⟨c,h1,h2,h3⟩:=Yg0 q
 have hp:=Ylx q
 have hp':(0:Int)<((Zao q).length:Int):=by omega
 have cv:Zao q≠[]:=fun hc=>by rw[hc]at hp;simp at hp
 apply Call.eq
 rw[aZ,A.k38 (by simp)]
 by_cases h0:q=0
 ·have hn:q.num=0:=PQ.2 h0
  have hs:sg3 q.num=0:=by rw[hn];rfl
  have e0:(Zao q==[48])=true:=by rw[e];simp[h0]
  rw[hs]
  simp(disch:=first|(simp;done)|omega|rfl) [-getElem?_pos,A.b38,iF,e0]
 ·have hn:q.num≠0:=fun hc=>h0 (PQ.1 hc)
  by_cases hz:q.num<0
  ·have hs:sg3 q.num= -1:=by unfold sg3;rw[aR hz]
   have hc:=h3.2 hz
   rw[hs]
   simp(disch:=first|(simp;done)|omega|rfl) [-getElem?_pos,A.b38,iF,e,h0,hp,h1,hc]
  ·have hs:sg3 q.num=1:=by unfold sg3;rw[aA hz,aA hn]
   have hc:¬cX c=45:=fun hc=>hz (h3.1 hc)
   rw[hs]
   simp(disch:=first|(simp;done)|omega|rfl) [-getElem?_pos,A.b38,iF,e,h0,hp,h1,hc]
def Ylm(q:Rat):QB (-q)=QB q:=by
 unfold QB
 rw[Rat.neg_den,Rat.neg_num,AR]
def Ym1{q:Rat}{st:St}(hl:(Zao q).length<1000000000):A.C.call (.func 45 [] []) [.str (Zao q)] st=some (.str (Zao (-q)),st):=by
 have hs:=fun st=>HY (q:=q) (st:=st)
 have dT:IntKind.max .i64=9223372036854775807:=rfl
 apply Call.eq
 rw[aZ,A.k45 (by simp)]
 have eP:=xH (-q)
 rw[Ylm,Rat.neg_num]at eP
 by_cases hz:q.num<0
 ·have e1:Zao q=45::QB q:=by rw[xH,aR hz]
  have e2:Zao (-q)=QB q:=by rw[eP,aA (by omega)]
  have e3:sg3 q.num= -1:=by unfold sg3;rw[aR hz]
  rw[e1,e3]at hs
  have a3:∀st:St,pR st (some (.str (45::QB q))) (some (some (.int .i64 1))) (some none)=some (.str (QB q),st):=fun st=>by rw[BC (by omega) (by simp only[bC];omega)];rfl
  rw[e1,e2]
  simp[A.b45,hs,aH,a3]
 ·by_cases h0:q=0
  ·have e3:sg3 q.num=0:=by rw[PQ.2 h0];rfl
   rw[e3]at hs
   have e4: -q=q:=by rw[h0];rfl
   rw[e4]
   simp[A.b45,hs]
  ·have hn:q.num≠0:=fun hc=>h0 (PQ.1 hc)
   have e1:Zao q=QB q:=by rw[xH,aA hz]
   have e2:Zao (-q)=45::QB q:=by rw[eP,aR (by omega)]
   have e3:sg3 q.num=1:=by unfold sg3;rw[aA hz,aA hn]
   rw[e3]at hs
   rw[e1]at hs hl
   have hb:¬(9223372036854775807:Int)<1+((QB q).length:Int):=by omega
   rw[e2,e1]
   simp[A.b45,hs,iF,dT,hb]
def inv_divInt(q:Rat):q⁻¹=Rat.divInt (q.den:Int) q.num:=Rat.inv_def q
def Xc6{q:Rat}{k:Nat}{h:T O}{N:Nat}(hq:Qb k q)(hk:k<=400000000)(h0:q≠0):Fn A.C 157 [.str (Zao q)] h N (fun u _ _=>u=.str (Zao q⁻¹)):=by
 intro w
 have la:=BE hq.1
 have la2:=Ie hq.2
 have z1:=wk hq.1
 have z2:=wk hq.2
 have hn:q.num≠0:=fun hc=>h0 (PQ.1 hc)
 rw[aZ,A.k157 (by simp)]
 simp[A.b157]
 refine av (Vm (q:=q) (by omega) (by omega)) ?_
 rintro _ h1 t1 k1 ⟨x1,y1,rfl,X1,Y1⟩
 obtain⟨u1,rfl,p1,p2,F1⟩:=X1.p_
 obtain⟨v1,rfl,p3,p4,G1⟩:=Y1.p_
 unfold V.one at p1 p3
 unfold V.cells at p2 p4
 have KA:=((((ah.refl (h:=h1) (n:=t1)).new (.cells [.bool false,.ziA] 129 true)).new (.cells [.bool false,.ziA] 129 true)).set (i:=t1) (o:=.cells [.bool (decide (q.num<0)),u1] 129 true) (Yv5 _)).set (i:=t1+1) (o:=.cells [.bool (decide ((q.den:Int)<0)),v1] 129 true) (by omega)
 have c0:¬t1+1=t1:=by omega
 have c00:¬t1=t1+1:=by omega
 have i1:=k1.le
 generalize hHA:(((h1.set t1 (.cells [.bool false,.ziA] 129 true)).set (t1+1) (.cells [.bool false,.ziA] 129 true)).set t1 (.cells [.bool (decide (q.num<0)),u1] 129 true)).set (t1+1) (.cells [.bool (decide ((q.den:Int)<0)),v1] 129 true)=HA at*
 have Sw:HA.get t1=some (.cells [.bool (decide (q.num<0)),u1] 129 true):=by rw[<-hHA];simp[c0,c00]
 have Sx:HA.get (t1+1)=some (.cells [.bool (decide ((q.den:Int)<0)),v1] 129 true):=by rw[<-hHA];simp
 have X1:=X1.ai KA
 have Y1:=Y1.ai KA
 simp[-aL,p1,p2,p3,p4,bM,aj,c0,hHA,Sw,Sx,aI,aK]
 refine av (Zn8 Y1 X1 hn (by rw[eA];omega) (by omega)) ?_
 rintro _ h2 t2 k2 rfl
 have j1:t1<t1+1+1:=by omega
 have j2:t1+1<t1+1+1:=by omega
 rw[<-inv_divInt]
 simp[-aL,b_.chk,j1,j2,Ret]
 exact⟨KY (by simp;omega),(k1.trans KA).trans k2⟩
def Ymx{q:Rat}{st:St}(hl:(Zao q).length<1000000000):A.C.call (.func 142 [] []) [.str (Zao q)] st=some (.str (aU q.num),st):=by
 have de:=fun st=>By (s:=Zao q) (st:=st) (by omega)
 have h2:ak (Zao q)<=(Zao q).length:=by
  rw[Mr]
  unfold Zao
  split
  ·exact Yv5 _
  ·rw[iJ];omega
 have a4:∀st:St,pR st (some (.str (Zao q))) (some none) (some (some (.int .i64 (ak (Zao q):Nat))))=some (.str (aU q.num),st):=fun st=>by rw[Zln (by omega) (by omega),Int.toNat_natCast,Pg]
 apply Call.eq
 rw[aZ,A.k142 (by simp)]
 simp[A.b142,de,aH,a4]
def Yok{q:Rat}{st:St}(hl:(Zao q).length<1000000000):A.C.call (.func 143 [] []) [.str (Zao q)] st=some (.str (aq q.den),st):=by
 have de:=fun st=>By (s:=Zao q) (st:=st) (by omega)
 have aW:=yJ q
 have h2:ak (Zao q)<=(Zao q).length:=by
  rw[Mr]
  unfold Zao
  split
  ·exact Yv5 _
  ·rw[iJ];omega
 apply Call.eq
 rw[aZ,A.k143 (by simp)]
 by_cases hd:q.den=1
 ·have c1:(ak (Zao q):Int)=((Zao q).length:Int):=by omega
  rw[hd,T0]
  simp[A.b143,de,c1]
 ·have oG:=aW.2 hd
  have c1:¬(ak (Zao q):Int)=((Zao q).length:Int):=by omega
  have c2:¬ak (Zao q)=(Zao q).length:=by omega
  have w1:bA .i64 ((ak (Zao q):Int)+1)=(ak (Zao q):Int)+1:=cH (by omega) (by omega)
  have hdr:=Ph q hd
  have a4:∀st:St,pR st (some (.str (Zao q))) (some (some (.int .i64 ((ak (Zao q):Int)+1)))) (some none)=some (.str (aq q.den),st):=fun st=>by
   rw[BC (by omega) (by omega)]
   have:((ak (Zao q):Int)+1).toNat=ak (Zao q)+1:=by omega
   rw[this,hdr]
  simp[A.b143,de,c1,w1,aH,a4]
def Yly(z:Int):Zao (z:Rat)=aU z:=by
 unfold Zao
 rw[aR (by simp)];simp
def Yo5{z:Int}{st:St}(hl:(aU z).length<1000000000):A.C.call (.func 34 [] []) [.str (aU z)] st=some (.str (aq z.natAbs),st):=by
 have hs:=fun st=>HY (q:=(z:Rat)) (st:=st)
 rw[Yly]at hs
 have hn:((z:Rat)).num=z:=by simp
 rw[hn]at hs
 apply Call.eq
 rw[aZ,A.k34 (by simp)]
 by_cases hz:z<0
 ·have e1:aU z=45::aq z.natAbs:=by unfold aU;rw[aR hz]
  have e3:sg3 z= -1:=by unfold sg3;rw[aR hz]
  rw[e1,e3]at hs
  have a3:∀st:St,pR st (some (.str (45::aq z.natAbs))) (some (some (.int .i64 1))) (some none)=some (.str (aq z.natAbs),st):=fun st=>by rw[BC (by omega) (by simp only[bC];omega)];rfl
  rw[e1]
  simp[A.b34,hs,aH,a3]
 ·have e1:aU z=aq z.natAbs:=by unfold aU;rw[aA hz]
  have e3:¬sg3 z<0:=by unfold sg3;rw[aA hz];split<;>omega
  rw[e1]at hs
  rw[e1]
  simp[A.b34,hs,e3]
def Xai{q:Rat}{st:St}(hl:(Zao q).length<1000000000):A.C.call (.func 92 [] []) [.str (Zao q)] st=some (.int .i64 (if vk q=true then 4 else 0),st):=by
 have h1:=fun st=>Ymx (q:=q) (st:=st) hl
 have h2:=fun st=>Yok (q:=q) (st:=st) hl
 have hdl:(aU q.num).length<1000000000:=by
  have:(aU q.num).length<=(Zao q).length:=by
   unfold Zao
   split
   ·exact Yv5 _
   ·rw[iJ];omega
  omega
 have h3:=fun st=>Yo5 (z:=q.num) (st:=st) hdl
 apply Call.eq
 rw[aZ,A.k92 (by simp)]
 unfold vk
 by_cases c1:600<(aq q.num.natAbs).length
 ·have c1':(600:Int)<((aq q.num.natAbs).length:Int):=by omega
  simp[A.b92,h1,h3,c1,c1']
 ·have c1':¬(600:Int)<((aq q.num.natAbs).length:Int):=by omega
  by_cases c2:600<(aq q.den).length
  ·have c2':(600:Int)<((aq q.den).length:Int):=by omega
   simp[A.b92,h1,h2,h3,c1,c1',c2,c2']
  ·have c2':¬(600:Int)<((aq q.den).length:Int):=by omega
   simp[A.b92,h1,h2,h3,c1,c1',c2,c2']
end
end Go.Mx
