/-CheckWeights, LargeRow-/
import Derived.Test.YtlbnjhhebffhdaaGreatDoorNdB
set_option linter.all false
namespace Go.Mx
noncomputable section
open Go Go.Proofs
set_option maxRecDepth 1000000
def A.zhG:=A.q Tryz.f163
def A.zgx:=A.ql A.zhG 0 []
def A.b163:=(fun x0=>A.qb A.zhG [x0]) A.zgx
def A.k163:=@A.kk 163 16 [.tmp 2] A.b163 (by kernel_rfl) rfl
def BB(l:List Rat):Bool:=l.any vk
def Xdn{h:T O}{N:Nat}{v:V}{l:List Rat}{w:List Nat}(hs:Tx h N v l)(hl:l.length<100000)(rA:∀q∈l,(Zao q).length<1000000000):A.C.call (.func 163 [] []) [v] ⟨h,N,w⟩=some (.int .i64 (if BB l=true then 4 else 0),⟨h,N,w⟩):=by
 apply Call.eq
 have hlen:=hs.len
 rw[aZ,A.k163 (by simp)]
 simp[A.b163]
 refine Zal [(2,15)] (fun e r st=>st=⟨h,N,[]⟩/\((e=.exit 0/\BB l=false)\/(e=.ret/\BB l=true/\r.get 2=some (.int .i64 4)))) (fun m r st=>st=⟨h,N,[]⟩/\∃k,k+m=l.length/\r.get 3=some (.int .i64 k)/\BB l=BB (l.drop k)) l.length ?_ ?_ ?_
 ·exact⟨rfl,0,by omega,by simp,by simp⟩
 ·rintro m r _ hr hf ⟨rfl,k,hk,h7,hz⟩
  rw[cn]
  cases m with
  |zero=>
   obtain rfl:k=l.length:=by omega
   rw[xD]at hz
   simp[BB]at hz
   simp[A.zgx,hr,hf,h7,hlen]
   simpa[BB]using hz
  |succ m=>
   have aW:k<l.length:=by omega
   obtain⟨q,hc⟩:=eQ aW
   obtain⟨i,o,cc,e,rw,q1,q2,q3,q4⟩:=Sl.at hs (Ykf hc)
   rw[rV hc]at hz
   have hk1:(k:Int)<(l.length:Int):=by omega
   have hlg:=fun st=>Xai (st:=st) (rA q (eI hc))
   by_cases h0:vk q=true
   ·have e1:BB l=true:=by rw[hz];simp[BB,h0]
    rw[aR h0]at hlg
    simp[A.zgx,hr,hf,h7,hk1,aW,hlen,q1,q2,q3,q4,hlg,a_,e1]
   ·have e1:BB l=BB (l.drop (k+1)):=by rw[hz];simp[BB,h0]
    rw[aA h0]at hlg
    simp(disch:=first|(simp;done)|omega|rfl) [A.zgx,hr,hf,h7,hk1,aW,hlen,q1,q2,q3,q4,hlg,a_]
    exact⟨m,by omega,k+1,by omega,by simp,e1⟩
 ·rintro _ r _ hr ⟨rfl,⟨rfl,hz⟩|⟨rfl,hz,h2⟩⟩
  ·simp[hr,hz]
  ·simp[hr,h2,hz]
def A.b148:=A.q Tryz.f148
def A.k148:=@A.kk 148 9 [.cell 2 (some 4)] A.b148 (by kernel_rfl) rfl
def A.b72:=A.q Tryz.f72
def A.k72:=@A.kk 72 9 [.cell 4 (some 4)] A.b72 (by kernel_rfl) rfl
def UP{x:V}{q:Rat}{h:T O}{N:Nat}(hx:Fc h N x q)(l1:wl q.num<1000000000):Fn A.C 148 [x] h N (fun v h' n'=>Fc h' n' v (-q)):=by
 intro w
 rw[aZ,A.k148 (by simp)]
 obtain⟨n1,u1,n2,u2,rfl,s1,s2⟩:=hx
 have o1:=Zaj s1
 have o2:=Zaj s2
 unfold V.one at o1 o2
 have kB:ah h N ((h.set N (.cells [.int .i64 n1,u1,.int .i64 n2,u2] 102 true)).set (N+1) (.cells [.int .i64 0,.ziA,.int .i64 0,.ziA] 102 true)) (N+2):=aO (aO ah.refl _) _
 simp[A.b148,aI,aK,o1,o2]
 generalize gb:(h.set N (.cells [.int .i64 n1,u1,.int .i64 n2,u2] 102 true)).set (N+1) (.cells [.int .i64 0,.ziA,.int .i64 0,.ziA] 102 true)=hB at*
 have b1:hB.get N=some (.cells [.int .i64 n1,u1,.int .i64 n2,u2] 102 true):=by rw[<-gb];simp
 have b3:hB.get (N+1)=some (.cells [.int .i64 0,.ziA,.int .i64 0,.ziA] 102 true):=by rw[<-gb];simp
 refine av (MC (s1.ai kB) (by omega)) ?_
 rintro v5 h1 m1 k1 q1
 obtain⟨n3,u3,rfl⟩:∃n3 u3,v5=.agg [.int .i64 n3,u3]:=by
  rcases q1 with⟨rfl,_⟩|⟨_,_,_,_,rfl,_⟩<;>exact⟨_,_,rfl⟩
 have o3:=Zaj q1
 unfold V.one at o3
 have fC:=k1.le
 have f1:=(k1.get N (by omega)).trans b1
 have f3:=(k1.get (N+1) (by omega)).trans b3
 have e1:N<m1:=by omega
 have e2:N+1<m1:=by omega
 simp[f1,f3,e1,e2,aI,aK,aj,bM,o2,o3,b_.chk,Ret]
 have kk:=kB.trans k1
 exact⟨kk.set (by omega),n3,u3,n2,u2,rfl,by rw[Rat.neg_num];exact q1.ay (i:=N+1) f3 nu0 rfl,by rw[Rat.neg_den];exact((s2.ai kB).ai k1).ay (i:=N+1) f3 nu0 rfl⟩
def Zvo{x y:V}{p q:Rat}{h:T O}{N:Nat}(hx:Fc h N x p)(hy:Fc h N y q)(l1:wl p.num<1000000000)(l2:wl (p.den:Nat)<1000000000)(l3:wl q.num<1000000000)(l4:wl (q.den:Nat)<1000000000):Fn A.C 72 [x,y] h N (fun v h' n'=>Fc h' n' v (p-q)):=by
 intro w
 rw[aZ,A.k72 (by simp)]
 have oI:=hx
 have tK:=hy
 obtain⟨n1,u1,n2,u2,rfl,s1,s2⟩:=hx
 obtain⟨n3,u3,n4,u4,rfl,s3,s4⟩:=hy
 have o1:=Zaj s1
 have o2:=Zaj s2
 have o3:=Zaj s3
 have o4:=Zaj s4
 unfold V.one at o1 o2 o3 o4
 have kB:ah h N (((h.set N (.cells [.int .i64 n1,u1,.int .i64 n2,u2] 102 true)).set (N+1) (.cells [.int .i64 n3,u3,.int .i64 n4,u4] 102 true)).set (N+2) (.cells [.int .i64 0,.ziA,.int .i64 0,.ziA] 102 true)) (N+3):=aO (aO (aO ah.refl _) _) _
 simp[A.b72,aI,aK,o1,o2,o3,o4]
 generalize gb:((h.set N (.cells [.int .i64 n1,u1,.int .i64 n2,u2] 102 true)).set (N+1) (.cells [.int .i64 n3,u3,.int .i64 n4,u4] 102 true)).set (N+2) (.cells [.int .i64 0,.ziA,.int .i64 0,.ziA] 102 true)=hB at*
 have b1:hB.get N=some (.cells [.int .i64 n1,u1,.int .i64 n2,u2] 102 true):=by rw[<-gb];simp
 have b2:hB.get (N+1)=some (.cells [.int .i64 n3,u3,.int .i64 n4,u4] 102 true):=by rw[<-gb];simp
 have b3:hB.get (N+2)=some (.cells [.int .i64 0,.ziA,.int .i64 0,.ziA] 102 true):=by rw[<-gb];simp
 refine av (UP (tK.ai kB) l3) ?_
 rintro v5 h1 m1 k1 q1
 have fC:=k1.le
 have f1:=(k1.get N (by omega)).trans b1
 have f2:=(k1.get (N+1) (by omega)).trans b2
 have f3:=(k1.get (N+2) (by omega)).trans b3
 have e1:N<m1:=by omega
 have e2:N+1<m1:=by omega
 simp
 refine av (Nn ((oI.ai kB).ai k1) q1 l1 l2 (by rw[Rat.neg_num,Qe];exact l3) (by rw[Rat.neg_den];exact l4)) ?_
 rintro v7 h3 m3 k3 hv
 rw[<-Rat.sub_eq_add_neg]at hv
 obtain⟨n5,u5,n6,u6,rfl,t1,t2⟩:=hv
 have o5:=Zaj t1
 have o6:=Zaj t2
 unfold V.one at o5 o6
 have zgC:=k3.le
 have f5:=(k3.get (N+2) (by omega)).trans f3
 have e3:N+2<m3:=by omega
 simp[f5,e3,aI,aK,aj,bM,o5,o6,b_.chk,Ret]
 have kk:=(kB.trans k1).trans k3
 exact⟨kk.set (by omega),n5,u5,n6,u6,rfl,t1.ay (i:=N+2) f5 nu0 rfl,t2.ay (i:=N+2) f5 nu0 rfl⟩
def Qb.eX{q:Rat}{k:Nat}(h:Qb k q):wl q.num<=k/\wl (q.den:Nat)<=k:=⟨UN h.1,UN (z:=(q.den:Int)) (k:=k) (by rw[eA];exact h.2)⟩
def A.b133:=A.q Tryz.f133
def A.k133:=@A.kk 133 8 [.cell 2 (some 4)] A.b133 (by kernel_rfl) rfl
def A.b70:=A.q Tryz.f70
def A.k70:=@A.kk 70 9 [.cell 4 (some 4)] A.b70 (by kernel_rfl) rfl
def Yn3{x:V}{q:Rat}{h:T O}{N:Nat}(hx:Fc h N x q)(h0:q≠0)(l1:wl q.num<1000000000)(l2:wl (q.den:Nat)<1000000000):Fn A.C 133 [x] h N (fun v h' n'=>Fc h' n' v q⁻¹):=by
 intro w
 rw[aZ,A.k133 (by simp)]
 obtain⟨n1,u1,n2,u2,rfl,s1,s2⟩:=hx
 have o1:=Zaj s1
 have o2:=Zaj s2
 unfold V.one at o1 o2
 have kB:ah h N ((h.set N (.cells [.int .i64 n1,u1,.int .i64 n2,u2] 102 true)).set (N+1) (.cells [.int .i64 0,.ziA,.int .i64 0,.ziA] 102 true)) (N+2):=aO (aO ah.refl _) _
 simp[A.b133,aI,aK,o1,o2]
 generalize gb:(h.set N (.cells [.int .i64 n1,u1,.int .i64 n2,u2] 102 true)).set (N+1) (.cells [.int .i64 0,.ziA,.int .i64 0,.ziA] 102 true)=hB at*
 have b3:hB.get (N+1)=some (.cells [.int .i64 0,.ziA,.int .i64 0,.ziA] 102 true):=by rw[<-gb];simp
 have hn:q.num≠0:=fun hc=>h0 (PQ.1 hc)
 refine av (Zvg (s2.ai kB) (s1.ai kB) hn (by omega) (by omega)) ?_
 rintro v7 h3 m3 k3 hv
 rw[<-inv_divInt]at hv
 obtain⟨n5,u5,n6,u6,rfl,t1,t2⟩:=hv
 have o5:=Zaj t1
 have o6:=Zaj t2
 unfold V.one at o5 o6
 have zgC:=k3.le
 have f5:=(k3.get (N+1) (by omega)).trans b3
 have e3:N+1<m3:=by omega
 simp[f5,aI,aK,aj,bM,o5,o6,Ret]
 have kk:=kB.trans k3
 exact⟨kk.set (by omega),n5,u5,n6,u6,rfl,t1.ay (i:=N+1) f5 nu0 rfl,t2.ay (i:=N+1) f5 nu0 rfl⟩
def Zvr{x y:V}{p q:Rat}{h:T O}{N:Nat}(hx:Fc h N x p)(hy:Fc h N y q)(h0:q≠0)(l1:wl p.num<1000000000)(l2:wl (p.den:Nat)<1000000000)(l3:wl q.num<1000000000)(l4:wl (q.den:Nat)<1000000000)(l5:wl q⁻¹.num<1000000000)(l6:wl (q⁻¹.den:Nat)<1000000000):Fn A.C 70 [x,y] h N (fun v h' n'=>Fc h' n' v (p/q)):=by
 intro w
 rw[aZ,A.k70 (by simp)]
 have oI:=hx
 have tK:=hy
 obtain⟨n1,u1,n2,u2,rfl,s1,s2⟩:=hx
 obtain⟨n3,u3,n4,u4,rfl,s3,s4⟩:=hy
 have o1:=Zaj s1
 have o2:=Zaj s2
 have o3:=Zaj s3
 have o4:=Zaj s4
 unfold V.one at o1 o2 o3 o4
 have kB:ah h N (((h.set N (.cells [.int .i64 n1,u1,.int .i64 n2,u2] 102 true)).set (N+1) (.cells [.int .i64 n3,u3,.int .i64 n4,u4] 102 true)).set (N+2) (.cells [.int .i64 0,.ziA,.int .i64 0,.ziA] 102 true)) (N+3):=aO (aO (aO ah.refl _) _) _
 simp[A.b70,aI,aK,o1,o2,o3,o4]
 generalize gb:((h.set N (.cells [.int .i64 n1,u1,.int .i64 n2,u2] 102 true)).set (N+1) (.cells [.int .i64 n3,u3,.int .i64 n4,u4] 102 true)).set (N+2) (.cells [.int .i64 0,.ziA,.int .i64 0,.ziA] 102 true)=hB at*
 have b1:hB.get N=some (.cells [.int .i64 n1,u1,.int .i64 n2,u2] 102 true):=by rw[<-gb];simp
 have b2:hB.get (N+1)=some (.cells [.int .i64 n3,u3,.int .i64 n4,u4] 102 true):=by rw[<-gb];simp
 have b3:hB.get (N+2)=some (.cells [.int .i64 0,.ziA,.int .i64 0,.ziA] 102 true):=by rw[<-gb];simp
 refine av (Yn3 (tK.ai kB) h0 l3 l4) ?_
 rintro v5 h1 m1 k1 q1
 have fC:=k1.le
 have f1:=(k1.get N (by omega)).trans b1
 have f2:=(k1.get (N+1) (by omega)).trans b2
 have f3:=(k1.get (N+2) (by omega)).trans b3
 have e1:N<m1:=by omega
 have e2:N+1<m1:=by omega
 simp
 refine av (KZ ((oI.ai kB).ai k1) q1 l1 l2 l5 l6) ?_
 rintro v7 h3 m3 k3 hv
 rw[<-Rat.div_def]at hv
 obtain⟨n5,u5,n6,u6,rfl,t1,t2⟩:=hv
 have o5:=Zaj t1
 have o6:=Zaj t2
 unfold V.one at o5 o6
 have zgC:=k3.le
 have f5:=(k3.get (N+2) (by omega)).trans f3
 have e3:N+2<m3:=by omega
 simp[f5,e3,aI,aK,aj,bM,o5,o6,b_.chk,Ret]
 have kk:=(kB.trans k1).trans k3
 exact⟨kk.set (by omega),n5,u5,n6,u6,rfl,t1.ay (i:=N+2) f5 nu0 rfl,t2.ay (i:=N+2) f5 nu0 rfl⟩
def A.b173:=A.q Tryz.f173
def A.k173:=@A.kk 173 14 [.tmp 2] A.b173 (by kernel_rfl) rfl
def A.w16:=A.q Tryz.f16
def A.q9:=A.ql A.w16 0 []
def A.b16:=(fun x0=>A.qb A.w16 [x0]) A.q9
def A.k16:=@A.kk 16 19 [.tmp 2] A.b16 (by kernel_rfl) rfl
def A.b17:=A.q Tryz.f17
def A.k17:=@A.kk 17 15 [.tmp 6] A.b17 (by kernel_rfl) rfl
def A.b164:=A.q Tryz.f164
def A.k164:=@A.kk 164 12 [.tmp 2] A.b164 (by kernel_rfl) rfl
def wL{q:Rat}:sg3 q.num<0↔q<0:=by
 have:q<0↔q.num<0:=by
  rw[Rat.lt_iff];simp
 rw[this];unfold sg3;split
 ·simp[*]
 ·split<;>simp[*]<;>omega
def iR(s:bj):Int:=if aV s=0 then (if aY s<0 then 3 else 0) else (aV s:Nat)
def AB{q:Rat}{k:Nat}(hq:Qb k q)(hk:k<=90000){h:T O}{N:Nat}:Fn A.C 109 [.str (Zao q)] h N (fun v h' n'=>Fc h' n' v q):=
 Ye6 (by have:=BE hq.1;omega) (by
  have:=BE (z:=(q.den:Int)) (k:=k) (by simpa using hq.2)
  unfold aU at this;rw[aA (by omega)]at this;simp at this;omega)
def UQ{s:bj}{n:Nat}(hl:s.length<=n)(hn:n<=20000){h:T O}{N:Nat}:Fn A.C 173 [.str s] h N (fun u _ _=>u=.int .i64 (iR s)):=by
 intro w
 rw[aZ,A.k173 (by simp)]
 simp(disch:=first|(simp;done)|omega|rfl) [-getElem?_pos,A.b173]
 refine av (Zrc (by omega)) ?_
 rintro _ h1 n1 k1 rfl
 by_cases c:aV s=0
 ·have hq:=yB c hl
  have e:=(kr c).1
  have c':=c
  unfold iR
  rw[aR c]
  generalize aY s=q at*
  subst e
  simp(disch:=first|(simp;done)|omega|rfl) [-getElem?_pos,c',a_]
  refine av (AB hq (by omega)) ?_
  rintro v h2 n2 k2 hv
  simp(disch:=first|(simp;done)|omega|rfl) [-getElem?_pos,]
  refine av (Nm hv) ?_
  rintro _ h3 n3 k3 rfl
  by_cases hz:q<0
  ·have:=wL.2 hz
   simp(disch:=first|(simp;done)|omega|rfl) [-getElem?_pos,this,wM,Ret,hz]
   exact(k1.trans k2).trans k3
  ·have:¬sg3 q.num<0:=fun hc=>hz (wL.1 hc)
   simp(disch:=first|(simp;done)|omega|rfl) [-getElem?_pos,this,wM,Ret,hz]
   exact(k1.trans k2).trans k3
 ·have c':¬((aV s:Nat):Int)=0:=by omega
  simp(disch:=first|(simp;done)|omega|rfl) [-getElem?_pos,c',a_,iR,c,Ret]
  exact k1
def Zy8{h:T O}{N:Nat}{v:V}{l:List Int}{w:List Nat}(hs:Sl h N v (dI l))(hl:l.length<1000):A.C.call (.func 16 [] []) [v] ⟨h,N,w⟩=some (.int .i64 (cN l),⟨h,N,w⟩):=by
 apply Call.eq
 have hlen:=hs.len
 rw[gp]at hlen
 rw[aZ,A.k16 (by simp)]
 simp(disch:=first|(simp;done)|omega|rfl) [-getElem?_pos,A.b16]
 refine Zal [(2,18)] (fun e r st=>st=⟨h,N,[]⟩/\((e=.exit 0/\cN l=0)\/(e=.ret/\r.get 2=some (.int .i64 (cN l))))) (fun m r st=>st=⟨h,N,[]⟩/\∃k,k+m=l.length/\r.get 3=some (.int .i64 k)/\cN l=cN (l.drop k)) l.length ?_ ?_ ?_
 ·exact⟨rfl,0,by omega,by simp,by simp⟩
 ·rintro m r _ hr hf ⟨rfl,k,hk,h7,hz⟩
  rw[cn]
  cases m with
  |zero=>
   obtain rfl:k=l.length:=by omega
   rw[xD,cN]at hz
   simp(disch:=first|(simp;done)|omega|rfl) [-getElem?_pos,A.q9,hr,hf,h7,hlen,hz]
  |succ m=>
   have aW:k<l.length:=by omega
   obtain⟨c,hc⟩:=eQ aW
   obtain⟨i,o,cc,e,rw,q1,q2,q3,q4⟩:=hs.at (fY hc)
   rw[rV hc,cN]at hz
   have hk1:(k:Int)<(l.length:Int):=by omega
   by_cases h0:c=0
   ·rw[aR h0]at hz
    simp(disch:=first|(simp;done)|omega|rfl) [-getElem?_pos,A.q9,hr,hf,h7,hk1,aW,hlen,q1,q3,q4,a_,h0]
    exact⟨m,by omega,k+1,by omega,by simp,hz⟩
   ·rw[aA h0]at hz
    simp(disch:=first|(simp;done)|omega|rfl) [-getElem?_pos,A.q9,hr,hf,h7,hk1,aW,hlen,q1,q3,q4,a_,h0,hz]
 ·rintro _ r _ hr ⟨rfl,⟨rfl,hz⟩|⟨rfl,h2⟩⟩
  ·simp(disch:=first|(simp;done)|omega|rfl) [-getElem?_pos,hr,hz]
  ·simp(disch:=first|(simp;done)|omega|rfl) [-getElem?_pos,hr,h2]
def Zw3{h:T O}{N i:Nat}{w:List Nat}{a0 a1:Int}(hi:i<N):A.C.call (.func 16 [] []) [.slice i 0 2 (some 2) 1] ⟨h.set i (.cells [.int .i64 a0,.int .i64 a1] 3 true),N,w⟩=some (.int .i64 (cN [a0,a1]),⟨h.set i (.cells [.int .i64 a0,.int .i64 a1] 3 true),N,w⟩):=
 Zy8 (l:=[a0,a1]) (Sl.row (e:=3) (rw:=true) (cp:=some 2) hi (by simp[dI]) rfl (by simp)) (by simp)
def Zy7{x lo hi:Int}{st:St}:A.C.call (.func 17 [] []) [.int .i64 x,.int .i64 lo,.int .i64 hi] st=some (.int .i64 (if x<lo\/hi<x then 3 else 0),st):=by
 apply Call.eq
 rw[aZ,A.k17 (by simp)]
 by_cases h1:x<lo
 ·simp(disch:=first|(simp;done)|omega|rfl) [-getElem?_pos,A.b17,h1]
 ·by_cases h2:hi<x<;>simp(disch:=first|(simp;done)|omega|rfl) [-getElem?_pos,A.b17,h1,h2]
def Zui{s:bj}(hl:s.length<9223372036854775808){h:T O}{N:Nat}:Fn A.C 164 [.str s] h N (fun u _ _=>u=.int .i64 (iR s)):=by
 intro w
 rw[aZ,A.k164 (by simp)]
 simp(disch:=first|(simp;done)|omega|rfl) [-getElem?_pos,A.b164]
 refine av (SO hl) ?_
 rintro _ h1 n1 k1 rfl
 by_cases c:aV s=0
 ·have e:=(kr c).1
  have c':=c
  unfold iR
  rw[aR c]
  generalize aY s=q at*
  subst e
  have hs:=fun st=>HY (q:=q) (st:=st)
  by_cases hz:q<0
  ·have:=wL.2 hz
   simp(disch:=first|(simp;done)|omega|rfl) [-getElem?_pos,this,c',a_,hs,Ret,hz]
   exact k1
  ·have:¬sg3 q.num<0:=fun hc=>hz (wL.1 hc)
   simp(disch:=first|(simp;done)|omega|rfl) [-getElem?_pos,this,c',a_,hs,Ret,hz]
   exact k1
 ·have c':¬((aV s:Nat):Int)=0:=by omega
  simp(disch:=first|(simp;done)|omega|rfl) [-getElem?_pos,c',a_,iR,c,Ret]
  exact k1
variable {N:Nat} {d:Int} {g l:bj} {h:T O}
def A.b104:=A.q Tryz.f104
def A.k104:=@A.kk 104 30 [.tmp 2] A.b104 (by kernel_rfl) rfl
def A.b94:=A.q Tryz.f94
def A.k94:=@A.kk 94 27 [.tmp 2] A.b94 (by kernel_rfl) rfl
def A.b93:=A.q Tryz.f93
def A.k93:=@A.kk 93 19 [.tmp 2] A.b93 (by kernel_rfl) rfl
def A.b27:=A.q Tryz.f27
def A.k27:=@A.kk 27 9 [.tmp 4] A.b27 (by kernel_rfl) rfl
def A.b35:=A.q Tryz.f35
def A.k35:=@A.kk 35 9 [.tmp 4] A.b35 (by kernel_rfl) rfl
def Zje{i:Nat}{w:List Nat}{a0 a1 a2:Int}(hi:i<N):A.C.call (.func 103 [] []) [.slice i 0 3 (some 3) 1] ⟨h.set i (.cells [.int .i64 a0,.int .i64 a1,.int .i64 a2] 26 true),N,w⟩=some (.int .i64 (cN [a0,a1,a2]),⟨h.set i (.cells [.int .i64 a0,.int .i64 a1,.int .i64 a2] 26 true),N,w⟩):=
 Zxz (l:=[a0,a1,a2]) (Sl.row (e:=26) (rw:=true) (cp:=some 3) hi (by simp[dI]) rfl (by simp)) (by simp)
def NF{a b:Rat}{j k:Nat}(ha:Qb j a)(hb:Qb k b)(hj:j<=400000000)(hk:k<=400000000)(hl:(Zao b).length<1000000000):Fn A.C 27 [.str (Zao a),.str (Zao b)] h N (fun u _ _=>u=.str (Zao (a-b))):=by
 intro w
 have hn:=fun st=>Ym1 (q:=b) (st:=st) hl
 rw[aZ,A.k27 (by simp)]
 simp[A.b27,hn]
 refine av (Zwc (a:=a) (b:= -b) ha hb.neg hj hk) ?_
 rintro _ H1 n1 k1 rfl
 rw[<-Rat.sub_eq_add_neg]
 simp[Ret]
 exact k1
def KX{a b:Rat}{j k:Nat}(ha:Qb j a)(hb:Qb k b)(hj:j<=400000000)(hk:k<=400000000)(hl:(Zao b).length<1000000000):Fn A.C 35 [.str (Zao a),.str (Zao b)] h N (fun u _ _=>u=.int .i64 (sg3 (a-b).num)):=by
 intro w
 rw[aZ,A.k35 (by simp)]
 simp[A.b35]
 refine av (NF ha hb hj hk hl) ?_
 rintro _ H1 n1 k1 rfl
 have hs:=fun st=>HY (q:=a-b) (st:=st)
 simp[hs,Ret]
 exact k1
def Yb9{z:Int}:sg3 z > 0↔0<z:=by
 unfold sg3;split
 ·constructor<;>intro<;>omega
 ·split<;>constructor<;>intro<;>omega
def Yde{q:Rat}:0<q.num↔0<q:=by rw[Rat.lt_iff (a:=0)];simp
def Yts:Zao 1=[49]:=by decide+kernel
def gT(g l p:bj)(d:Int):Int:=if cN [iR g,iR l]=0 then (if 1<aY l then 3 else cN [iR p,if d<0\/6<d then 3 else 0]) else cN [iR g,iR l]
def HV{a b:Int}(h:cN [a,b]=0):a=0/\b=0:=by
 unfold cN at h
 split at h
 ·rename_i ha;unfold cN at h;split at h
  ·exact⟨ha,by assumption⟩
  ·omega
 ·omega
def yA{s:bj}(h:iR s=0):aV s=0/\¬aY s<0:=by
 unfold iR at h
 split at h
 ·rename_i c;split at h
  ·omega
  ·exact⟨c,by assumption⟩
 ·omega
def Yf3{p:bj}{n:Nat}(hg:g.length<=n)(hl:l.length<=n)(hp:p.length<=n)(hn:n<=20000){h:T O}{N:Nat}:Fn A.C 104 [.agg [.str g,.str l,.str p,.int .i64 d]] h N (fun u _ _=>u=.int .i64 (gT g l p d)):=by
 intro w
 rw[aZ,A.k104 (by simp)]
 have kB:=aO (ah.refl (h:=h) (n:=N)) (.cells [.str g,.str l,.str p,.int .i64 d] 48 true)
 simp(disch:=first|(simp;done)|omega|rfl) [-getElem?_pos,A.b104]
 have b0:(h.set N (.cells [.str g,.str l,.str p,.int .i64 d] 48 true)).get N=some (.cells [.str g,.str l,.str p,.int .i64 d] 48 true):=by simp
 generalize h.set N (.cells [.str g,.str l,.str p,.int .i64 d] 48 true)=hB at*
 refine av (UQ hg hn) ?_
 rintro _ h1 n1 k1 rfl
 have e1:=k1.le
 have f1:=(k1.get N (by omega)).trans b0
 have g1:N<n1:=by omega
 simp(disch:=first|(simp;done)|omega|rfl) [-getElem?_pos,f1,g1]
 refine av (UQ hl hn) ?_
 rintro _ h2 n2 k2 rfl
 have e2:=k2.le
 have f2:=(k2.get N (by omega)).trans f1
 have g2:N<n2:=by omega
 have hi:n2<n2+1:=by omega
 have kC:=((kB.trans k1).trans k2).trans (aO (ah.refl (h:=h2) (n:=n2)) (.cells [.int .i64 (iR g),.int .i64 (iR l)] 26 true))
 simp(disch:=first|(simp;done)|omega|rfl) [-getElem?_pos,f2,g2,aj,b_.chk,Zup hi]
 by_cases c:cN [iR g,iR l]=0
 ·have c0:=HV c
  obtain⟨q0,q1⟩:=yA c0.2
  have hq:=yB q0 hl
  have e:=(kr q0).1
  have f3:(h2.set n2 (.cells [.int .i64 (iR g),.int .i64 (iR l)] 26 true)).get N=some (.cells [.str g,.str l,.str p,.int .i64 d] 48 true):=by
   rw[T.al,aA (by omega)];exact f2
  generalize h2.set n2 (.cells [.int .i64 (iR g),.int .i64 (iR l)] 26 true)=h3 at*
  have e3:=kC.le
  have g3:N<n2+1:=by omega
  simp(disch:=first|(simp;done)|omega|rfl) [-getElem?_pos,c,a_,f3,g3]
  unfold gT
  rw[aR c]
  generalize aY l=q at*
  subst e
  refine av (AB hq (by omega)) ?_
  rintro v4 h4 n4 k4 Ko
  simp(disch:=first|(simp;done)|omega|rfl) [-getElem?_pos,]
  refine av (BI (z:=1) (by omega) (by omega)) ?_
  rintro v5 h5 n5 k5 UR
  have wq:=hq.eX
  have w1:=(Qb.int (z:=1) (k:=1) (by decide) (by decide)).eX
  simp(disch:=first|(simp;done)|omega|rfl) [-getElem?_pos,]
  refine av (KW (Ko.ai k5) UR (by omega) (by omega) (by omega) (by omega)) ?_
  rintro _ h6 n6 k6 rfl
  have ec:(sg3 (q.num*(((1:Int):Rat).den:Nat)-((1:Int):Rat).num*(q.den:Nat)) > 0)↔1<q:=by
   have h1:1<q↔((1:Int):Rat).num*(q.den:Nat)<q.num*(((1:Int):Rat).den:Nat):=by
    rw[Rat.lt_iff];rfl
   rw[h1];unfold sg3;split
   ·constructor<;>intro<;>omega
   ·split<;>constructor<;>intro<;>omega
  generalize sg3 (q.num*(((1:Int):Rat).den:Nat)-((1:Int):Rat).num*(q.den:Nat))=cz at*
  have kD:=((kC.trans k4).trans k5).trans k6
  have e4:=k4.le
  have e5:=k5.le
  have e6:=k6.le
  have f6:=(((k4.trans k5).trans k6).get N (by omega)).trans f3
  have g6:N<n6:=by omega
  have hi6:=fun (m:Nat)=>tu m
  by_cases cc:1<q
  ·have Am:0<cz:=ec.2 cc
   simp(disch:=first|(simp;done)|omega|rfl) [-getElem?_pos,f6,g6,Am,wM]
   refine av (UQ hp hn) ?_
   rintro _ h7 n7 k7 rfl
   have e7:=k7.le
   have f7:=(k7.get N (by omega)).trans f6
   have g7:N<n7:=by omega
   have EA:n7<n7+1:=by omega
   simp(disch:=first|(simp;done)|omega|rfl) [-getElem?_pos,f7,g7,Zm3,aj,b_.chk,Zje EA,Ret,cc,cN]
   exact(kD.trans k7).trans (aO (ah.refl) _)
  ·have Am:¬0<cz:=fun h=>cc (ec.1 h)
   simp(disch:=first|(simp;done)|omega|rfl) [-getElem?_pos,f6,g6,Am,wM]
   refine av (UQ hp hn) ?_
   rintro _ h7 n7 k7 rfl
   have e7:=k7.le
   have f7:=(k7.get N (by omega)).trans f6
   have g7:N<n7:=by omega
   have EA:n7<n7+1:=by omega
   simp(disch:=first|(simp;done)|omega|rfl) [-getElem?_pos,f7,g7,Zm3,aj,b_.chk,Zje EA,Ret,cc]
   exact⟨(kD.trans k7).trans (aO (ah.refl) _),by simp[cN]⟩
 ·simp(disch:=first|(simp;done)|omega|rfl) [-getElem?_pos,c,a_,gT,Ret]
  exact kC
def Ymj{p:bj}(hg:g.length<100000)(hl:l.length<100000)(hp:p.length<100000){h:T O}{N:Nat}:Fn A.C 94 [.agg [.str g,.str l,.str p,.int .i64 d]] h N (fun u _ _=>u=.int .i64 (gT g l p d)):=by
 intro w
 rw[aZ,A.k94 (by simp)]
 have kB:=aO (ah.refl (h:=h) (n:=N)) (.cells [.str g,.str l,.str p,.int .i64 d] 50 true)
 simp(disch:=first|(simp;done)|omega|rfl) [-getElem?_pos,A.b94]
 have b0:(h.set N (.cells [.str g,.str l,.str p,.int .i64 d] 50 true)).get N=some (.cells [.str g,.str l,.str p,.int .i64 d] 50 true):=by simp
 generalize h.set N (.cells [.str g,.str l,.str p,.int .i64 d] 50 true)=hB at*
 refine av (Zui (by omega)) ?_
 rintro _ h1 n1 k1 rfl
 have e1:=k1.le
 have f1:=(k1.get N (by omega)).trans b0
 have g1:N<n1:=by omega
 simp(disch:=first|(simp;done)|omega|rfl) [-getElem?_pos,f1,g1]
 refine av (Zui (by omega)) ?_
 rintro _ h2 n2 k2 rfl
 have e2:=k2.le
 have f2:=(k2.get N (by omega)).trans f1
 have g2:N<n2:=by omega
 have hi:n2<n2+1:=by omega
 have kC:=((kB.trans k1).trans k2).trans (aO (ah.refl (h:=h2) (n:=n2)) (.cells [.int .i64 (iR g),.int .i64 (iR l)] 3 true))
 simp(disch:=first|(simp;done)|omega|rfl) [-getElem?_pos,f2,g2,aj,b_.chk,Zw3 hi]
 by_cases c:cN [iR g,iR l]=0
 ·have c0:=HV c
  obtain⟨q0,q1⟩:=yA c0.2
  have hq:=yB q0 (Yv5 _)
  have e:=(kr q0).1
  have f3:(h2.set n2 (.cells [.int .i64 (iR g),.int .i64 (iR l)] 3 true)).get N=some (.cells [.str g,.str l,.str p,.int .i64 d] 50 true):=by
   rw[T.al,aA (by omega)];exact f2
  generalize h2.set n2 (.cells [.int .i64 (iR g),.int .i64 (iR l)] 3 true)=h3 at*
  have e3:=kC.le
  have g3:N<n2+1:=by omega
  simp(disch:=first|(simp;done)|omega|rfl) [-getElem?_pos,c,a_,f3,g3]
  unfold gT
  rw[aR c]
  generalize aY l=q at*
  subst e
  have hc:=KX (a:=q) (b:=1) (k:=1) (h:=h3) (N:=n2+1) hq (by unfold Qb;decide) (by have:=hl;have:=BE hq.1;omega) (by decide) (by rw[Yts];decide)
  rw[Yts]at hc
  refine av hc ?_
  rintro _ h6 n6 k6 rfl
  have e6:=k6.le
  have f6:=(k6.get N (by omega)).trans f3
  have g6:N<n6:=by omega
  by_cases cc:1<q
  ·have Am:0<sg3 (q-1).num:=Yb9.2 (Yde.2 (by have:=cc;rw[Rat.sub_eq_add_neg];rw[Rat.lt_iff_sub_pos]at this;simpa[Rat.sub_eq_add_neg]using this))
   simp(disch:=first|(simp;done)|omega|rfl) [-getElem?_pos,f6,g6,Am,Ret,cc]
   exact kC.trans k6
  ·have Am:¬0<sg3 (q-1).num:=fun h=>cc (by have:=Yde.1 (Yb9.1 h);rw[Rat.lt_iff_sub_pos];exact this)
   simp(disch:=first|(simp;done)|omega|rfl) [-getElem?_pos,f6,g6,Am]
   refine av (Zui (by omega)) ?_
   rintro _ h7 n7 k7 rfl
   have e7:=k7.le
   have f7:=(k7.get N (by omega)).trans f6
   have g7:N<n7:=by omega
   have EA:n7<n7+1:=by omega
   simp(disch:=first|(simp;done)|omega|rfl) [-getElem?_pos,f7,g7,Zy7,aj,b_.chk,Zw3 EA,Ret,cc]
   exact(((kC.trans k6)).trans k7).trans (aO (ah.refl) _)
 ·simp(disch:=first|(simp;done)|omega|rfl) [-getElem?_pos,c,a_,gT,Ret]
  exact kC
def Zwu{p:bj}(hg:g.length<9223372036854775808)(hl:l.length<9223372036854775808)(hp:p.length<9223372036854775808):Fn A.C 93 [.agg [.str g,.str l,.str p,.int .i64 d]] h N (fun u _ _=>u=.bool (decide (g.length<=40/\l.length<=40/\p.length<=40))):=by
 intro w
 rw[aZ,A.k93 (by simp)]
 by_cases c1:g.length<=40
 ·have d1:(g.length:Int)<=40:=by omega
  by_cases c2:l.length<=40
  ·have d2:(l.length:Int)<=40:=by omega
   by_cases c3:p.length<=40
   ·have d3:(p.length:Int)<=40:=by omega
    simp(disch:=first|(simp;done)|omega|rfl) [-getElem?_pos,A.b93,d1,d2,d3,c1,c2,c3,Ret]
    exact aO (ah.refl) _
   ·have d3:¬(p.length:Int)<=40:=by omega
    simp(disch:=first|(simp;done)|omega|rfl) [-getElem?_pos,A.b93,d1,d2,d3,c1,c2,c3,Ret]
    exact aO (ah.refl) _
  ·have d2:¬(l.length:Int)<=40:=by omega
   simp(disch:=first|(simp;done)|omega|rfl) [-getElem?_pos,A.b93,d1,d2,c1,c2,Ret]
   exact aO (ah.refl) _
 ·have d1:¬(g.length:Int)<=40:=by omega
  simp(disch:=first|(simp;done)|omega|rfl) [-getElem?_pos,A.b93,d1,c1,Ret]
  exact aO (ah.refl) _
variable {N R:Nat} {h:T O} {l:List Rat}
def Zt8{cs:List (List V)}{c B:List V}{j:Nat}(h4:∀x∈cs,x.length=4)(hj:j<cs.length)(hc:c.length=4):aj (cs.flatten++B) (j*4) c=(cs.set j c).flatten++B:=by
 obtain⟨x,hx⟩:=eQ hj
 have e:cs=cs.take j++x::cs.drop (j+1):=by
  have:=AO j cs
  rw[rV hx]at this
  exact this.symm
 have hl:(cs.take j).flatten.length=j*4:=by
  rw[Zbj (z:=4) (fun y hy=>h4 y (BR hy)),j9,oW (by omega)]
 have hs:cs.set j c=cs.take j++c::cs.drop (j+1):=by rw[List.set_eq_take_append_cons_drop,aR hj]
 rw[hs]
 conv=>lhs;rw[e]
 simp only[List.flatten_append,List.flatten_cons,rB]
 rw[Sd hl (h4 x (eI hx)) hc]
structure jQ (h:T O) (N R:Nat) (l:List Rat) (m:Nat):Prop where
 lt:R<N
 ex:∃cs:List (List V),h.get R=some (.cells (cs.flatten++dr zF m) 102 true)/\cs.length=l.length/\∀(j:Nat) (q:Rat),l[j]?=some q->∃c,cs[j]?=some c/\fz h N c q
def jQ.ai{h':T O}{N' m:Nat}(s:jQ h N R l m)(k:ah h N h' N'):jQ h' N' R l m:=by
 obtain⟨cs,g1,g2,g3⟩:=s.ex
 refine⟨iL s.lt k.le,cs,(k.get R s.lt).trans g1,g2,fun j q hq=>?_⟩
 obtain⟨c,a,b⟩:=g3 j q hq
 exact⟨c,a,b.ai k⟩
def jQ.RG{cs:List (List V)}(g2:cs.length=l.length)(g3:∀(j:Nat) (q:Rat),l[j]?=some q->∃c,cs[j]?=some c/\fz h N c q):(∀c∈cs,c.length=4)/\sY cs.flatten/\cs.flatten.all V.one=true:=Zvs (l:=l) (by omega) fun j q _ hq=>g3 j q hq
def jQ.next{m:Nat}{c:List V}{q:Rat}(s:jQ h N R l (m+1))(hc:fz h N c q):∃X,h.get R=some (.cells X 102 true)/\l.length*4+4<=X.length/\jQ (h.set R (.cells (aj X (l.length*4) c) 102 true)) N R (l++[q]) m:=by
 obtain⟨cs,g1,g2,g3⟩:=s.ex
 obtain⟨f1,f2,_⟩:=jQ.RG g2 g3
 have oX:=Zbj f1
 obtain⟨e1,_⟩:=hc.len
 have hsp:aj (cs.flatten++dr zF (m+1)) (l.length*4) c=(cs++[c]).flatten++dr zF m:=by
  rw[KT,Sd (n:=4) (by rw[oX,g2]) rfl e1,Se,rB]
 have Dc:sY (cs.flatten++dr zF (m+1)):=f2.app Ni
 have yD:((cs++[c]).flatten++dr zF m).length=(cs.flatten++dr zF (m+1)).length:=by
  rw[KT,Se];simp[e1,zF];omega
 refine⟨_,g1,by rw[iJ,oX,g2,Ykc];omega,s.lt,cs++[c],by rw[T.al,aR rfl,hsp],by simp[g2],fun j r hr=>?_⟩
 rw[hsp]
 by_cases e:j<l.length
 ·rw[xJ e]at hr
  obtain⟨x,a,b⟩:=g3 j r hr
  exact⟨x,by rw[xJ (by omega)];exact a,b.ay g1 Dc yD⟩
 ·have hj:j=l.length:=by have:=yz hr;simp at this;omega
  subst hj
  rw[Ig (Yv5 _)]at hr
  simp at hr
  subst hr
  exact⟨c,by rw[Ig (by omega),g2];simp,hc.ay g1 Dc yD⟩
def jQ.put{j:Nat}{c:List V}{q:Rat}(s:jQ h N R l 0)(hc:fz h N c q)(hj:j<l.length):∃X,h.get R=some (.cells X 102 true)/\j*4+4<=X.length/\jQ (h.set R (.cells (aj X (j*4) c) 102 true)) N R (l.set j q) 0:=by
 obtain⟨cs,g1,g2,g3⟩:=s.ex
 obtain⟨f1,f2,_⟩:=jQ.RG g2 g3
 have oX:=Zbj f1
 obtain⟨e1,_⟩:=hc.len
 have hsp:aj (cs.flatten++dr zF 0) (j*4) c=(cs.set j c).flatten++dr zF 0:=Zt8 f1 (by omega) e1
 have Dc:sY (cs.flatten++dr zF 0):=f2.app Ni
 have yD:((cs.set j c).flatten++dr zF 0).length=(cs.flatten++dr zF 0).length:=by
  rw[iJ,iJ,oX,Zbj (z:=4) fun x hx=>?_,xL]
  rcases Aw hx with hx|rfl
  ·exact f1 x hx
  ·exact e1
 refine⟨_,g1,by rw[iJ,oX];omega,s.lt,cs.set j c,by rw[T.al,aR rfl,hsp],by simp[g2],fun i r hr=>?_⟩
 rw[hsp]
 by_cases e:i=j
 ·subst e
  rw[lM hj]at hr
  simp only[au]at hr
  subst hr
  exact⟨c,by rw[lM (by omega)],hc.ay g1 Dc yD⟩
 ·rw[eJ (Ne.symm e)]at hr ⊢
  obtain⟨x,a,b⟩:=g3 i r hr
  exact⟨x,a,b.ay g1 Dc yD⟩
def jQ.frt(s:jQ h N R l 0):Al h N (.slice R 0 l.length (some l.length) 4) l:=by
 obtain⟨cs,g1,g2,g3⟩:=s.ex
 obtain⟨f1,f2,_⟩:=jQ.RG g2 g3
 have hz:dr zF 0=[]:=by simp[dr]
 rw[hz,AP]at g1
 refine⟨⟨cs,.inr ⟨R,0,some l.length,cs.flatten,_,true,by rw[g2],s.lt,g1,fun j x hj=>by rw[oJ];exact NJ f1 hj,by rw[Zbj f1];omega,fun k hk=>by simp at hk;omega⟩,g2,g3⟩,fun i hi=>?_⟩
 simp[jU]at hi
 subst hi
 exact⟨_,_,g1⟩
variable {N R:Nat} {h:T O} {l:List Rat}
def A.w89:=A.q Tryz.f89
def A.zgT:=A.ql A.w89 0 []
def A.b89:=(fun x0=>A.qb A.w89 [x0]) A.zgT
def A.k89:=@A.kk 89 14 [.tmp 2] A.b89 (by kernel_rfl) rfl
def Xbf{l:List V}{i:Nat}{u:V}(h:i<l.length):aj l i [u]=l.set i u:=by
 unfold aj
 rw[List.set_eq_take_append_cons_drop,aR h]
 simp
def Xd7{l:List V}:(l.map fun y=>[y]).flatten=l:=by
 induction l with
 |nil=>rfl
 |cons a t ih=>simp[ih]
structure RwS (h:T O) (N R:Nat) (l:List Rat):Prop where
 lt:R<N
 get:h.get R=some (.cells (tx l) 30 true)
def RwS.ai{h':T O}{N':Nat}(s:RwS h N R l)(k:ah h N h' N'):RwS h' N' R l:=⟨iL s.lt k.le,(k.get R s.lt).trans s.get⟩
def RwS.put{j:Nat}{q:Rat}(s:RwS h N R l)(hj:j<l.length):aj (tx l) j [.str (Zao q)]=tx (l.set j q)/\RwS (h.set R (.cells (tx (l.set j q)) 30 true)) N R (l.set j q):=by
 refine⟨?_,s.lt,by rw[T.al,aR rfl]⟩
 rw[Xbf (by rw[Sb];exact hj)]
 simp[tx,strs,List.map_set]
def RwS.txt(s:RwS h N R l):TxT h N (.slice R 0 l.length none 1) l:=⟨Sl.row s.lt s.get (Sb l) (fun k hk=>by cases hk),fun i hi=>by
 simp[jU]at hi
 subst hi
 exact⟨_,_,s.get⟩⟩
def Xau{n:Nat}(h0:0<n)(hn:n<1000):Fn A.C 89 [.int .i64 n] h N (fun x h' n'=>∃R,x=.slice R 0 n none 1/\N<=R/\RwS h' n' R ((List.range n).map fun _=>0)):=by
 intro w
 rw[aZ,A.k89 (by simp)]
 simp(disch:=first|(simp;done)|omega|rfl) [-getElem?_pos,A.b89]
 refine Zal [(3,12)] (fun e r st=>e=.exit 0/\aL N st.w=[]/\ah h N st.h st.n/\∃v,r.get 3=some v/\Own 1 30 N st.h st.n v ((tx ((List.range n).map fun _=>0)).map fun y=>[y])) (fun m r st=>aL N st.w=[]/\ah h N st.h st.n/\∃t v,t+m=n/\r.get 4=some (.int .i64 t)/\r.get 3=some v/\Own 1 30 N st.h st.n v ((tx ((List.range t).map fun _=>0)).map fun y=>[y])) n ?_ ?_ ?_
 ·exact⟨by simp,ah.refl,0,_,by omega,by simp,by simp,Own.nil⟩
 ·rintro m r ⟨H,n1,W⟩ hr hf ⟨hW,hK,t,v,ht,h4,h3,hO⟩
  simp only at hW hK hO
  rw[cn]
  have le:=hK.le
  cases m with
  |zero=>
   obtain rfl:t=n:=by omega
   simp(disch:=first|(simp;done)|omega|rfl) [-getElem?_pos,A.zgT,hr,hf,h3,h4,hW,hK]
   exact hO
  |succ m=>
   have aW:t<n:=by omega
   have zij:(t:Int)<(n:Int):=by omega
   have sp1:aj [V.str []] 0 [.str [48]]=[.str [48]]:=rfl
   have kD:ah H n1 (H.set n1 (.cells [.str [48]] 30 true)) (n1+1):=ah.refl.new _
   obtain⟨v',h',w',j1,j2,j3,_,j5⟩:=Bj (x:=[.str [48]]) (u:=.slice n1 0 1 (some 1) 1) (bytes:=16) (w:=W) (hO.ai kD) (by omega) (by decide) rfl (by simp[oL,St.row,aK]) (by simp[tx,strs];omega)
   have kF:ah h N h' (n1+1+1):=(hK.trans kD).then j3
   simp(disch:=first|(simp;done)|omega|rfl) [-getElem?_pos,A.zgT,hr,hf,h3,h4,aW,zij,sp1,Zto,j1,j2,hW,kF]
   refine⟨m,by omega,t+1,by omega,by simp,?_⟩
   have e:(tx ((List.range (t+1)).map fun _=>(0:Rat))).map (fun y=>[y])=(tx ((List.range t).map fun _=>(0:Rat))).map (fun y=>[y])++[[.str [48]]]:=by
    rw[List.range_succ,List.map_append]
    simp[tx,strs]
    rfl
   rw[e]
   exact j5
 ·rintro _ r ⟨H,n1,W⟩ hr ⟨rfl,hW,hK,v,h3,hO⟩
  simp only at hW hK hO
  obtain⟨hl,⟨hz,_⟩|⟨R,rfl,h1,h2,h3'⟩⟩:=hO
  ·have:=congrArg List.length hz
   simp[tx,strs]at this
   omega
  ·simp(disch:=first|(simp;done)|omega|rfl) [-getElem?_pos,hr,h3,Ret,hW,hK]
   refine⟨R,⟨rfl,by rw[Sb];simp⟩,h1,h2,?_⟩
   rw[h3',Xd7]
end
end Go.Mx
