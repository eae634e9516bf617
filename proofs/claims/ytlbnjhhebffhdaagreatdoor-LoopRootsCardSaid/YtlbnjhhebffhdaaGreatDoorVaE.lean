/-CheckWeights, LargeRow-/
import Derived.Test.YtlbnjhhebffhdaaGreatDoorNdB
set_option linter.all false
namespace Go.Mx
noncomputable section
open Go Go.Proofs
set_option maxRecDepth 1000000
def A.zhG:=A.q Tryz.f163
def A.zgx:=A.ql A.zhG 0 []
def A.b163:=(fun x0=>A.qb A.zhG [x0]) A.zgx
def A.k163:=@A.kk 163 16 [.tmp 2] A.b163 (by kernel_rfl) rfl
def BB(l:List Rat):Bool:=l.any vk
def Xdn{h:T O}{N:Nat}{v:V}{l:List Rat}{w:List Nat}(hs:Tx h N v l)(hl:l.length<100000)(rA:∀q∈l,(Zao q).length<1000000000):A.C.call (.func 163 [] []) [v] ⟨h,N,w⟩=some (.int .i64 (if BB l=true then 4 else 0),⟨h,N,w⟩):=by
 apply Call.eq
 have hlen:=hs.len
 rw[aZ,A.k163 (by simp)]
 simp[A.b163]
 refine Zal [(2,15)] (fun e r st=>st=⟨h,N,[]⟩/\((e=.exit 0/\BB l=false)\/(e=.ret/\BB l=true/\r.get 2=some (.int .i64 4)))) (fun m r st=>st=⟨h,N,[]⟩/\∃k,k+m=l.length/\r.get 3=some (.int .i64 k)/\BB l=BB (l.drop k)) l.length ?_ ?_ ?_
 ·exact⟨rfl,0,by omega,by simp,by simp⟩
 ·rintro m r _ hr hf ⟨rfl,k,hk,h7,hz⟩
  rw[cn]
  cases m with
  |zero=>
   obtain rfl:k=l.length:=by omega
   rw[xD]at hz
   simp[BB]at hz
   simp[A.zgx,hr,hf,h7,hlen]
   simpa[BB]using hz
  |succ m=>
   have aW:k<l.length:=by omega
   obtain⟨q,hc⟩:=eQ aW
   obtain⟨i,o,cc,e,rw,q1,q2,q3,q4⟩:=Sl.at hs (Ykf hc)
   rw[rV hc]at hz
   have hk1:(k:Int)<(l.length:Int):=by omega
   have hlg:=fun st=>Xai (st:=st) (rA q (eI hc))
   by_cases h0:vk q=true
   ·have e1:BB l=true:=by rw[hz];simp[BB,h0]
    rw[aR h0]at hlg
    simp[A.zgx,hr,hf,h7,hk1,aW,hlen,q1,q2,q3,q4,hlg,a_,e1]
   ·have e1:BB l=BB (l.drop (k+1)):=by rw[hz];simp[BB,h0]
    rw[aA h0]at hlg
    simp(disch:=first|(simp;done)|omega|rfl) [A.zgx,hr,hf,h7,hk1,aW,hlen,q1,q2,q3,q4,hlg,a_]
    exact⟨m,by omega,k+1,by omega,by simp,e1⟩
 ·rintro _ r _ hr ⟨rfl,⟨rfl,hz⟩|⟨rfl,hz,h2⟩⟩
  ·simp[hr,hz]
  ·simp[hr,h2,hz]
def A.b148:=A.q Tryz.f148
def A.k148:=@A.kk 148 9 [.cell 2 (some 4)] A.b148 (by kernel_rfl) rfl
def A.b72:=A.q Tryz.f72
def A.k72:=@A.kk 72 9 [.cell 4 (some 4)] A.b72 (by kernel_rfl) rfl
def UP{x:V}{q:Rat}{h:T O}{N:Nat}(hx:Fc h N x q)(l1:wl q.num<1000000000):Fn A.C 148 [x] h N (fun v h' n'=>Fc h' n' v (-q)):=by
 intro w
 rw[aZ,A.k148 (by simp)]
 obtain⟨n1,u1,n2,u2,rfl,s1,s2⟩:=hx
 have o1:=Zaj s1
 have o2:=Zaj s2
 unfold V.one at o1 o2
 have kB:ah h N ((h.set N (.cells [.int .i64 n1,u1,.int .i64 n2,u2] 102 true)).set (N+1) (.cells [.int .i64 0,.ziA,.int .i64 0,.ziA] 102 true)) (N+2):=aO (aO ah.refl _) _
 simp[A.b148,aI,aK,o1,o2]
 generalize gb:(h.set N (.cells [.int .i64 n1,u1,.int .i64 n2,u2] 102 true)).set (N+1) (.cells [.int .i64 0,.ziA,.int .i64 0,.ziA] 102 true)=hB at*
 have b1:hB.get N=some (.cells [.int .i64 n1,u1,.int .i64 n2,u2] 102 true):=by rw[<-gb];simp
 have b3:hB.get (N+1)=some (.cells [.int .i64 0,.ziA,.int .i64 0,.ziA] 102 true):=by rw[<-gb];simp
 refine av (MC (s1.ai kB) (by omega)) ?_
 rintro v5 h1 m1 k1 q1
 obtain⟨n3,u3,rfl⟩:∃n3 u3,v5=.agg [.int .i64 n3,u3]:=by
  rcases q1 with⟨rfl,_⟩|⟨_,_,_,_,rfl,_⟩<;>exact⟨_,_,rfl⟩
 have o3:=Zaj q1
 unfold V.one at o3
 have fC:=k1.le
 have f1:=(k1.get N (by omega)).trans b1
 have f3:=(k1.get (N+1) (by omega)).trans b3
 have e1:N<m1:=by omega
 have e2:N+1<m1:=by omega
 simp[f1,f3,e1,e2,aI,aK,aj,bM,o2,o3,b_.chk,Ret]
 have kk:=kB.trans k1
 exact⟨kk.set (by omega),n3,u3,n2,u2,rfl,by rw[Rat.neg_num];exact q1.ay (i:=N+1) f3 nu0 rfl,by rw[Rat.neg_den];exact((s2.ai kB).ai k1).ay (i:=N+1) f3 nu0 rfl⟩
def Zvo{x y:V}{p q:Rat}{h:T O}{N:Nat}(hx:Fc h N x p)(hy:Fc h N y q)(l1:wl p.num<1000000000)(l2:wl (p.den:Nat)<1000000000)(l3:wl q.num<1000000000)(l4:wl (q.den:Nat)<1000000000):Fn A.C 72 [x,y] h N (fun v h' n'=>Fc h' n' v (p-q)):=by
 intro w
 rw[aZ,A.k72 (by simp)]
 have oI:=hx
 have tK:=hy
 obtain⟨n1,u1,n2,u2,rfl,s1,s2⟩:=hx
 obtain⟨n3,u3,n4,u4,rfl,s3,s4⟩:=hy
 have o1:=Zaj s1
 have o2:=Zaj s2
 have o3:=Zaj s3
 have o4:=Zaj s4
 unfold V.one at o1 o2 o3 o4
 have kB:ah h N (((h.set N (.cells [.int .i64 n1,u1,.int .i64 n2,u2] 102 true)).set (N+1) (.cells [.int .i64 n3,u3,.int .i64 n4,u4] 102 true)).set (N+2) (.cells [.int .i64 0,.ziA,.int .i64 0,.ziA] 102 true)) (N+3):=aO (aO (aO ah.refl _) _) _
 simp[A.b72,aI,aK,o1,o2,o3,o4]
 generalize gb:((h.set N (.cells [.int .i64 n1,u1,.int .i64 n2,u2] 102 true)).set (N+1) (.cells [.int .i64 n3,u3,.int .i64 n4,u4] 102 true)).set (N+2) (.cells [.int .i64 0,.ziA,.int .i64 0,.ziA] 102 true)=hB at*
 have b1:hB.get N=some (.cells [.int .i64 n1,u1,.int .i64 n2,u2] 102 true):=by rw[<-gb];simp
 have b2:hB.get (N+1)=some (.cells [.int .i64 n3,u3,.int .i64 n4,u4] 102 true):=by rw[<-gb];simp
 have b3:hB.get (N+2)=some (.cells [.int .i64 0,.ziA,.int .i64 0,.ziA] 102 true):=by rw[<-gb];simp
 refine av (UP (tK.ai kB) l3) ?_
 rintro v5 h1 m1 k1 q1
 have fC:=k1.le
 have f1:=(k1.get N (by omega)).trans b1
 have f2:=(k1.get (N+1) (by omega)).trans b2
 have f3:=(k1.get (N+2) (by omega)).trans b3
 have e1:N<m1:=by omega
 have e2:N+1<m1:=by omega
 simp
 refine av (Nn ((oI.ai kB).ai k1) q1 l1 l2 (by rw[Rat.neg_num,Qe];exact l3) (by rw[Rat.neg_den];exact l4)) ?_
 rintro v7 h3 m3 k3 hv
 rw[<-Rat.sub_eq_add_neg]at hv
 obtain⟨n5,u5,n6,u6,rfl,t1,t2⟩:=hv
 have o5:=Zaj t1
 have o6:=Zaj t2
 unfold V.one at o5 o6
 have zgC:=k3.le
 have f5:=(k3.get (N+2) (by omega)).trans f3
 have e3:N+2<m3:=by omega
 simp[f5,e3,aI,aK,aj,bM,o5,o6,b_.chk,Ret]
 have kk:=(kB.trans k1).trans k3
 exact⟨kk.set (by omega),n5,u5,n6,u6,rfl,t1.ay (i:=N+2) f5 nu0 rfl,t2.ay (i:=N+2) f5 nu0 rfl⟩
def Qb.eX{q:Rat}{k:Nat}(h:Qb k q):wl q.num<=k/\wl (q.den:Nat)<=k:=⟨UN h.1,UN (z:=(q.den:Int)) (k:=k) (by rw[eA];exact h.2)⟩
def A.b133:=A.q Tryz.f133
def A.k133:=@A.kk 133 8 [.cell 2 (some 4)] A.b133 (by kernel_rfl) rfl
def A.b70:=A.q Tryz.f70
def A.k70:=@A.kk 70 9 [.cell 4 (some 4)] A.b70 (by kernel_rfl) rfl
def Yn3{x:V}{q:Rat}{h:T O}{N:Nat}(hx:Fc h N x q)(h0:q≠0)(l1:wl q.num<1000000000)(l2:wl (q.den:Nat)<1000000000):Fn A.C 133 [x] h N (fun v h' n'=>Fc h' n' v q⁻¹):=by
 intro w
 rw[aZ,A.k133 (by simp)]
 obtain⟨n1,u1,n2,u2,rfl,s1,s2⟩:=hx
 have o1:=Zaj s1
 have o2:=Zaj s2
 unfold V.one at o1 o2
 have kB:ah h N ((h.set N (.cells [.int .i64 n1,u1,.int .i64 n2,u2] 102 true)).set (N+1) (.cells [.int .i64 0,.ziA,.int .i64 0,.ziA] 102 true)) (N+2):=aO (aO ah.refl _) _
 simp[A.b133,aI,aK,o1,o2]
 generalize gb:(h.set N (.cells [.int .i64 n1,u1,.int .i64 n2,u2] 102 true)).set (N+1) (.cells [.int .i64 0,.ziA,.int .i64 0,.ziA] 102 true)=hB at*
 have b3:hB.get (N+1)=some (.cells [.int .i64 0,.ziA,.int .i64 0,.ziA] 102 true):=by rw[<-gb];simp
 have hn:q.num≠0:=fun hc=>h0 (PQ.1 hc)
 refine av (Zvg (s2.ai kB) (s1.ai kB) hn (by omega) (by omega)) ?_
 rintro v7 h3 m3 k3 hv
 rw[<-inv_divInt]at hv
 obtain⟨n5,u5,n6,u6,rfl,t1,t2⟩:=hv
 have o5:=Zaj t1
 have o6:=Zaj t2
 unfold V.one at o5 o6
 have zgC:=k3.le
 have f5:=(k3.get (N+1) (by omega)).trans b3
 have e3:N+1<m3:=by omega
 simp[f5,aI,aK,aj,bM,o5,o6,Ret]
 have kk:=kB.trans k3
 exact⟨kk.set (by omega),n5,u5,n6,u6,rfl,t1.ay (i:=N+1) f5 nu0 rfl,t2.ay (i:=N+1) f5 nu0 rfl⟩
def Zvr{x y:V}{p q:Rat}{h:T O}{N:Nat}(hx:Fc h N x p)(hy:Fc h N y q)(h0:q≠0)(l1:wl p.num<1000000000)(l2:wl (p.den:Nat)<1000000000)(l3:wl q.num<1000000000)(l4:wl (q.den:Nat)<1000000000)(l5:wl q⁻¹.num<1000000000)(l6:wl (q⁻¹.den:Nat)<1000000000):Fn A.C 70 [x,y] h N (fun v h' n'=>Fc h' n' v (p/q)):=by
 intro w
 rw[aZ,A.k70 (by simp)]
 have oI:=hx
 have tK:=hy
 obtain⟨n1,u1,n2,u2,rfl,s1,s2⟩:=hx
 obtain⟨n3,u3,n4,u4,rfl,s3,s4⟩:=hy
 have o1:=Zaj s1
 have o2:=Zaj s2
 have o3:=Zaj s3
 have o4:=Zaj s4
 unfold V.one at o1 o2 o3 o4
 have kB:ah h N (((h.set N (.cells [.int .i64 n1,u1,.int .i64 n2,u2] 102 true)).set (N+1) (.cells [.int .i64 n3,u3,.int .i64 n4,u4] 102 true)).set (N+2) (.cells [.int .i64 0,.ziA,.int .i64 0,.ziA] 102 true)) (N+3):=aO (aO (aO ah.refl _) _) _
 simp[A.b70,aI,aK,o1,o2,o3,o4]
 generalize gb:((h.set N (.cells [.int .i64 n1,u1,.int .i64 n2,u2] 102 true)).set (N+1) (.cells [.int .i64 n3,u3,.int .i64 n4,u4] 102 true)).set (N+2) (.cells [.int .i64 0,.ziA,.int .i64 0,.ziA] 102 true)=hB at*
 have b1:hB.get N=some (.cells [.int .i64 n1,u1,.int .i64 n2,u2] 102 true):=by rw[<-gb];simp
 have b2:hB.get (N+1)=some (.cells [.int .i64 n3,u3,.int .i64 n4,u4] 102 true):=by rw[<-gb];simp
 have b3:hB.get (N+2)=some (.cells [.int .i64 0,.ziA,.int .i64 0,.ziA] 102 true):=by rw[<-gb];simp
 refine av (Yn3 (tK.ai kB) h0 l3 l4) ?_
 rintro v5 h1 m1 k1 q1
 have fC:=k1.le
 have f1:=(k1.get N (by omega)).trans b1
 have f2:=(k1.get (N+1) (by omega)).trans b2
 have f3:=(k1.get (N+2) (by omega)).trans b3
 have e1:N<m1:=by omega
 have e2:N+1<m1:=by omega
 simp
 refine av (KZ ((oI.ai kB).ai k1) q1 l1 l2 l5 l6) ?_
 rintro v7 h3 m3 k3 hv
 rw[<-Rat.div_def]at hv
 obtain⟨n5,u5,n6,u6,rfl,t1,t2⟩:=hv
 have o5:=Zaj t1
 have o6:=Zaj t2
 unfold V.one at o5 o6
 have zgC:=k3.le
 have f5:=(k3.get (N+2) (by omega)).trans f3
 have e3:N+2<m3:=by omega
 simp[f5,e3,aI,aK,aj,bM,o5,o6,b_.chk,Ret]
 have kk:=(kB.trans k1).trans k3
 exact⟨kk.set (by omega),n5,u5,n6,u6,rfl,t1.ay (i:=N+2) f5 nu0 rfl,t2.ay (i:=N+2) f5 nu0 rfl⟩
def wL{q:Rat}:sg3 q.num<0↔q<0:=by
 have:q<0↔q.num<0:=by
  rw[Rat.lt_iff];simp
 rw[this];unfold sg3;split
 ·simp[*]
 ·split<;>simp[*]<;>omega
def iR(s:bj):Int:=if aV s=0 then (if aY s<0 then 3 else 0) else (aV s:Nat)
def AB{q:Rat}{k:Nat}(hq:Qb k q)(hk:k<=90000){h:T O}{N:Nat}:Fn A.C 109 [.str (Zao q)] h N (fun v h' n'=>Fc h' n' v q):=
 Ye6 (by have:=BE hq.1;omega) (by
  have:=BE (z:=(q.den:Int)) (k:=k) (by simpa using hq.2)
  unfold aU at this;rw[aA (by omega)]at this;simp at this;omega)
variable {N:Nat} {h:T O}
def A.b27:=A.q Tryz.f27
def A.k27:=@A.kk 27 9 [.tmp 4] A.b27 (by kernel_rfl) rfl
def A.b35:=A.q Tryz.f35
def A.k35:=@A.kk 35 9 [.tmp 4] A.b35 (by kernel_rfl) rfl
def Zje{i:Nat}{w:List Nat}{a0 a1 a2:Int}(hi:i<N):A.C.call (.func 103 [] []) [.slice i 0 3 (some 3) 1] ⟨h.set i (.cells [.int .i64 a0,.int .i64 a1,.int .i64 a2] 26 true),N,w⟩=some (.int .i64 (cN [a0,a1,a2]),⟨h.set i (.cells [.int .i64 a0,.int .i64 a1,.int .i64 a2] 26 true),N,w⟩):=
 Zxz (l:=[a0,a1,a2]) (Sl.row (e:=26) (rw:=true) (cp:=some 3) hi (by simp[dI]) rfl (by simp)) (by simp)
def NF{a b:Rat}{j k:Nat}(ha:Qb j a)(hb:Qb k b)(hj:j<=400000000)(hk:k<=400000000)(hl:(Zao b).length<1000000000):Fn A.C 27 [.str (Zao a),.str (Zao b)] h N (fun u _ _=>u=.str (Zao (a-b))):=by
 intro w
 have hn:=fun st=>Ym1 (q:=b) (st:=st) hl
 rw[aZ,A.k27 (by simp)]
 simp[A.b27,hn]
 refine av (Zwc (a:=a) (b:= -b) ha hb.neg hj hk) ?_
 rintro _ H1 n1 k1 rfl
 rw[<-Rat.sub_eq_add_neg]
 simp[Ret]
 exact k1
def KX{a b:Rat}{j k:Nat}(ha:Qb j a)(hb:Qb k b)(hj:j<=400000000)(hk:k<=400000000)(hl:(Zao b).length<1000000000):Fn A.C 35 [.str (Zao a),.str (Zao b)] h N (fun u _ _=>u=.int .i64 (sg3 (a-b).num)):=by
 intro w
 rw[aZ,A.k35 (by simp)]
 simp[A.b35]
 refine av (NF ha hb hj hk hl) ?_
 rintro _ H1 n1 k1 rfl
 have hs:=fun st=>HY (q:=a-b) (st:=st)
 simp[hs,Ret]
 exact k1
def gT(g l p:bj)(d:Int):Int:=if cN [iR g,iR l]=0 then (if 1<aY l then 3 else cN [iR p,if d<0\/6<d then 3 else 0]) else cN [iR g,iR l]
def HV{a b:Int}(h:cN [a,b]=0):a=0/\b=0:=by
 unfold cN at h
 split at h
 ·rename_i ha;unfold cN at h;split at h
  ·exact⟨ha,by assumption⟩
  ·omega
 ·omega
variable {N R:Nat} {h:T O} {l:List Rat}
def Zt8{cs:List (List V)}{c B:List V}{j:Nat}(h4:∀x∈cs,x.length=4)(hj:j<cs.length)(hc:c.length=4):aj (cs.flatten++B) (j*4) c=(cs.set j c).flatten++B:=by
 obtain⟨x,hx⟩:=eQ hj
 have e:cs=cs.take j++x::cs.drop (j+1):=by
  have:=AO j cs
  rw[rV hx]at this
  exact this.symm
 have hl:(cs.take j).flatten.length=j*4:=by
  rw[Zbj (z:=4) (fun y hy=>h4 y (BR hy)),j9,oW (by omega)]
 have hs:cs.set j c=cs.take j++c::cs.drop (j+1):=by rw[List.set_eq_take_append_cons_drop,aR hj]
 rw[hs]
 conv=>lhs;rw[e]
 simp only[List.flatten_append,List.flatten_cons,rB]
 rw[Sd hl (h4 x (eI hx)) hc]
structure jQ (h:T O) (N R:Nat) (l:List Rat) (m:Nat):Prop where
 lt:R<N
 ex:∃cs:List (List V),h.get R=some (.cells (cs.flatten++dr zF m) 102 true)/\cs.length=l.length/\∀(j:Nat) (q:Rat),l[j]?=some q->∃c,cs[j]?=some c/\fz h N c q
def jQ.ai{h':T O}{N' m:Nat}(s:jQ h N R l m)(k:ah h N h' N'):jQ h' N' R l m:=by
 obtain⟨cs,g1,g2,g3⟩:=s.ex
 refine⟨iL s.lt k.le,cs,(k.get R s.lt).trans g1,g2,fun j q hq=>?_⟩
 obtain⟨c,a,b⟩:=g3 j q hq
 exact⟨c,a,b.ai k⟩
def jQ.RG{cs:List (List V)}(g2:cs.length=l.length)(g3:∀(j:Nat) (q:Rat),l[j]?=some q->∃c,cs[j]?=some c/\fz h N c q):(∀c∈cs,c.length=4)/\sY cs.flatten/\cs.flatten.all V.one=true:=Zvs (l:=l) (by omega) fun j q _ hq=>g3 j q hq
def jQ.next{m:Nat}{c:List V}{q:Rat}(s:jQ h N R l (m+1))(hc:fz h N c q):∃X,h.get R=some (.cells X 102 true)/\l.length*4+4<=X.length/\jQ (h.set R (.cells (aj X (l.length*4) c) 102 true)) N R (l++[q]) m:=by
 obtain⟨cs,g1,g2,g3⟩:=s.ex
 obtain⟨f1,f2,_⟩:=jQ.RG g2 g3
 have oX:=Zbj f1
 obtain⟨e1,_⟩:=hc.len
 have hsp:aj (cs.flatten++dr zF (m+1)) (l.length*4) c=(cs++[c]).flatten++dr zF m:=by
  rw[KT,Sd (n:=4) (by rw[oX,g2]) rfl e1,Se,rB]
 have Dc:sY (cs.flatten++dr zF (m+1)):=f2.app Ni
 have yD:((cs++[c]).flatten++dr zF m).length=(cs.flatten++dr zF (m+1)).length:=by
  rw[KT,Se];simp[e1,zF];omega
 refine⟨_,g1,by rw[iJ,oX,g2,Ykc];omega,s.lt,cs++[c],by rw[T.al,aR rfl,hsp],by simp[g2],fun j r hr=>?_⟩
 rw[hsp]
 by_cases e:j<l.length
 ·rw[xJ e]at hr
  obtain⟨x,a,b⟩:=g3 j r hr
  exact⟨x,by rw[xJ (by omega)];exact a,b.ay g1 Dc yD⟩
 ·have hj:j=l.length:=by have:=yz hr;simp at this;omega
  subst hj
  rw[Ig (Yv5 _)]at hr
  simp at hr
  subst hr
  exact⟨c,by rw[Ig (by omega),g2];simp,hc.ay g1 Dc yD⟩
def jQ.put{j:Nat}{c:List V}{q:Rat}(s:jQ h N R l 0)(hc:fz h N c q)(hj:j<l.length):∃X,h.get R=some (.cells X 102 true)/\j*4+4<=X.length/\jQ (h.set R (.cells (aj X (j*4) c) 102 true)) N R (l.set j q) 0:=by
 obtain⟨cs,g1,g2,g3⟩:=s.ex
 obtain⟨f1,f2,_⟩:=jQ.RG g2 g3
 have oX:=Zbj f1
 obtain⟨e1,_⟩:=hc.len
 have hsp:aj (cs.flatten++dr zF 0) (j*4) c=(cs.set j c).flatten++dr zF 0:=Zt8 f1 (by omega) e1
 have Dc:sY (cs.flatten++dr zF 0):=f2.app Ni
 have yD:((cs.set j c).flatten++dr zF 0).length=(cs.flatten++dr zF 0).length:=by
  rw[iJ,iJ,oX,Zbj (z:=4) fun x hx=>?_,xL]
  rcases Aw hx with hx|rfl
  ·exact f1 x hx
  ·exact e1
 refine⟨_,g1,by rw[iJ,oX];omega,s.lt,cs.set j c,by rw[T.al,aR rfl,hsp],by simp[g2],fun i r hr=>?_⟩
 rw[hsp]
 by_cases e:i=j
 ·subst e
  rw[lM hj]at hr
  simp only[au]at hr
  subst hr
  exact⟨c,by rw[lM (by omega)],hc.ay g1 Dc yD⟩
 ·rw[eJ (Ne.symm e)]at hr ⊢
  obtain⟨x,a,b⟩:=g3 i r hr
  exact⟨x,a,b.ay g1 Dc yD⟩
def jQ.frt(s:jQ h N R l 0):Al h N (.slice R 0 l.length (some l.length) 4) l:=by
 obtain⟨cs,g1,g2,g3⟩:=s.ex
 obtain⟨f1,f2,_⟩:=jQ.RG g2 g3
 have hz:dr zF 0=[]:=by simp[dr]
 rw[hz,AP]at g1
 refine⟨⟨cs,.inr ⟨R,0,some l.length,cs.flatten,_,true,by rw[g2],s.lt,g1,fun j x hj=>by rw[oJ];exact NJ f1 hj,by rw[Zbj f1];omega,fun k hk=>by simp at hk;omega⟩,g2,g3⟩,fun i hi=>?_⟩
 simp[jU]at hi
 subst hi
 exact⟨_,_,g1⟩
variable {N R:Nat} {h:T O} {l:List Rat}
def A.w89:=A.q Tryz.f89
def A.zgT:=A.ql A.w89 0 []
def A.b89:=(fun x0=>A.qb A.w89 [x0]) A.zgT
def A.k89:=@A.kk 89 14 [.tmp 2] A.b89 (by kernel_rfl) rfl
def Xbf{l:List V}{i:Nat}{u:V}(h:i<l.length):aj l i [u]=l.set i u:=by
 unfold aj
 rw[List.set_eq_take_append_cons_drop,aR h]
 simp
def Xd7{l:List V}:(l.map fun y=>[y]).flatten=l:=by
 induction l with
 |nil=>rfl
 |cons a t ih=>simp[ih]
structure RwS (h:T O) (N R:Nat) (l:List Rat):Prop where
 lt:R<N
 get:h.get R=some (.cells (tx l) 30 true)
def RwS.ai{h':T O}{N':Nat}(s:RwS h N R l)(k:ah h N h' N'):RwS h' N' R l:=⟨iL s.lt k.le,(k.get R s.lt).trans s.get⟩
def RwS.put{j:Nat}{q:Rat}(s:RwS h N R l)(hj:j<l.length):aj (tx l) j [.str (Zao q)]=tx (l.set j q)/\RwS (h.set R (.cells (tx (l.set j q)) 30 true)) N R (l.set j q):=by
 refine⟨?_,s.lt,by rw[T.al,aR rfl]⟩
 rw[Xbf (by rw[Sb];exact hj)]
 simp[tx,strs,List.map_set]
def RwS.txt(s:RwS h N R l):TxT h N (.slice R 0 l.length none 1) l:=⟨Sl.row s.lt s.get (Sb l) (fun k hk=>by cases hk),fun i hi=>by
 simp[jU]at hi
 subst hi
 exact⟨_,_,s.get⟩⟩
def Xau{n:Nat}(h0:0<n)(hn:n<1000):Fn A.C 89 [.int .i64 n] h N (fun x h' n'=>∃R,x=.slice R 0 n none 1/\N<=R/\RwS h' n' R ((List.range n).map fun _=>0)):=by
 intro w
 rw[aZ,A.k89 (by simp)]
 simp(disch:=first|(simp;done)|omega|rfl) [-getElem?_pos,A.b89]
 refine Zal [(3,12)] (fun e r st=>e=.exit 0/\aL N st.w=[]/\ah h N st.h st.n/\∃v,r.get 3=some v/\Own 1 30 N st.h st.n v ((tx ((List.range n).map fun _=>0)).map fun y=>[y])) (fun m r st=>aL N st.w=[]/\ah h N st.h st.n/\∃t v,t+m=n/\r.get 4=some (.int .i64 t)/\r.get 3=some v/\Own 1 30 N st.h st.n v ((tx ((List.range t).map fun _=>0)).map fun y=>[y])) n ?_ ?_ ?_
 ·exact⟨by simp,ah.refl,0,_,by omega,by simp,by simp,Own.nil⟩
 ·rintro m r ⟨H,n1,W⟩ hr hf ⟨hW,hK,t,v,ht,h4,h3,hO⟩
  simp only at hW hK hO
  rw[cn]
  have le:=hK.le
  cases m with
  |zero=>
   obtain rfl:t=n:=by omega
   simp(disch:=first|(simp;done)|omega|rfl) [-getElem?_pos,A.zgT,hr,hf,h3,h4,hW,hK]
   exact hO
  |succ m=>
   have aW:t<n:=by omega
   have zij:(t:Int)<(n:Int):=by omega
   have sp1:aj [V.str []] 0 [.str [48]]=[.str [48]]:=rfl
   have kD:ah H n1 (H.set n1 (.cells [.str [48]] 30 true)) (n1+1):=ah.refl.new _
   obtain⟨v',h',w',j1,j2,j3,_,j5⟩:=Bj (x:=[.str [48]]) (u:=.slice n1 0 1 (some 1) 1) (bytes:=16) (w:=W) (hO.ai kD) (by omega) (by decide) rfl (by simp[oL,St.row,aK]) (by simp[tx,strs];omega)
   have kF:ah h N h' (n1+1+1):=(hK.trans kD).then j3
   simp(disch:=first|(simp;done)|omega|rfl) [-getElem?_pos,A.zgT,hr,hf,h3,h4,aW,zij,sp1,Zto,j1,j2,hW,kF]
   refine⟨m,by omega,t+1,by omega,by simp,?_⟩
   have e:(tx ((List.range (t+1)).map fun _=>(0:Rat))).map (fun y=>[y])=(tx ((List.range t).map fun _=>(0:Rat))).map (fun y=>[y])++[[.str [48]]]:=by
    rw[List.range_succ,List.map_append]
    simp[tx,strs]
    rfl
   rw[e]
   exact j5
 ·rintro _ r ⟨H,n1,W⟩ hr ⟨rfl,hW,hK,v,h3,hO⟩
  simp only at hW hK hO
  obtain⟨hl,⟨hz,_⟩|⟨R,rfl,h1,h2,h3'⟩⟩:=hO
  ·have:=congrArg List.length hz
   simp[tx,strs]at this
   omega
  ·simp(disch:=first|(simp;done)|omega|rfl) [-getElem?_pos,hr,h3,Ret,hW,hK]
   refine⟨R,⟨rfl,by rw[Sb];simp⟩,h1,h2,?_⟩
   rw[h3',Xd7]
variable {N:Nat} {h:T O}
def jQ.nou{R m:Nat}{l:List Rat}(s:jQ h N R l m){X:List V}{e:TypeId}{w:Bool}(g:h.get R=some (.cells X e w)):sY X:=by
 obtain⟨cs,g1,g2,g3⟩:=s.ex
 obtain⟨f1,f2,_⟩:=jQ.RG g2 g3
 rw[g1]at g
 simp only[au,O.cells.injEq]at g
 rw[<-g.1];exact f2.app Ni
def jQ.at{R j:Nat}{l:List Rat}{q:Rat}(s:jQ h N R l 0)(hj:l[j]?=some q){X:List V}{e:TypeId}{w:Bool}(g:h.get R=some (.cells X e w)):∃c,aK X (j*4) 4=some c/\fz h N c q:=by
 obtain⟨cs,g1,g2,g3⟩:=s.ex
 obtain⟨f1,f2,_⟩:=jQ.RG g2 g3
 rw[g1]at g
 simp only[au,O.cells.injEq]at g
 obtain⟨c,a,b⟩:=g3 j q hj
 have hz:dr zF 0=[]:=by simp[dr]
 rw[<-g.1,hz,AP]
 exact⟨c,NJ f1 a,b⟩
def fz.up{c:List V}{q:Rat}(s:fz h N c q):Fc h N (.agg c) q:=by
 obtain⟨a,b,c,d,rfl,e,f⟩:=s
 exact⟨a,b,c,d,rfl,e,f⟩
def A.b82:=A.q Tryz.f82
def A.k82:=@A.kk 82 9 [.cell 2 (some 4)] A.b82 (by kernel_rfl) rfl
def A.b78:=A.q Tryz.f78
def A.k78:=@A.kk 78 6 [.tmp 2] A.b78 (by kernel_rfl) rfl
def zgb(q:Rat):Rat:=if q<0 then -q else q
def Nr{h:T O}{N:Nat}{x:V}{q:Rat}(hx:Fc h N x q)(l1:wl q.num<1000000000):Fn A.C 82 [x] h N (fun v h' n'=>Fc h' n' v (zgb q)):=by
 intro w
 rw[aZ,A.k82 (by simp)]
 obtain⟨n1,u1,n2,u2,rfl,s1,s2⟩:=hx
 have o1:=Zaj s1
 have o2:=Zaj s2
 unfold V.one at o1 o2
 have kB:ah h N ((h.set N (.cells [.int .i64 n1,u1,.int .i64 n2,u2] 102 true)).set (N+1) (.cells [.int .i64 0,.ziA,.int .i64 0,.ziA] 102 true)) (N+2):=aO (aO ah.refl _) _
 have b0:((h.set N (.cells [.int .i64 n1,u1,.int .i64 n2,u2] 102 true)).set (N+1) (.cells [.int .i64 0,.ziA,.int .i64 0,.ziA] 102 true)).get N=some (.cells [.int .i64 n1,u1,.int .i64 n2,u2] 102 true):=by simp
 have b1:((h.set N (.cells [.int .i64 n1,u1,.int .i64 n2,u2] 102 true)).set (N+1) (.cells [.int .i64 0,.ziA,.int .i64 0,.ziA] 102 true)).get (N+1)=some (.cells [.int .i64 0,.ziA,.int .i64 0,.ziA] 102 true):=by simp
 simp(disch:=first|(simp;done)|omega|rfl) [-getElem?_pos,A.b82,aI,aK,aj,o1,o2]
 generalize gb:(h.set N (.cells [.int .i64 n1,u1,.int .i64 n2,u2] 102 true)).set (N+1) (.cells [.int .i64 0,.ziA,.int .i64 0,.ziA] 102 true)=hB at*
 clear gb
 have hx:Fc hB (N+2) (.agg [.int .i64 n1,u1,.int .i64 n2,u2]) q:=⟨n1,u1,n2,u2,rfl,s1.ai kB,s2.ai kB⟩
 refine av (Nm hx) ?_
 rintro _ h1 m1 k1 rfl
 have xF:=k1.le
 have f0:=(k1.get N (by omega)).trans b0
 have f1:=(k1.get (N+1) (by omega)).trans b1
 have e0:N<m1:=by omega
 have e1:N+1<m1:=by omega
 by_cases hz:q<0
 ·have hs:=wL.2 hz
  simp(disch:=first|(simp;done)|omega|rfl) [-getElem?_pos,f0,e0,hs,aI,aK]
  refine av (UP (hx.ai k1) l1) ?_
  rintro _ h2 m2 k2 ⟨n3,u3,n4,u4,rfl,t1,t2⟩
  have o3:=Zaj t1
  have o4:=Zaj t2
  unfold V.one at o3 o4
  have oH:=k2.le
  have f2:=(k2.get (N+1) (by omega)).trans f1
  have e2:N+1<m2:=by omega
  simp(disch:=first|(simp;done)|omega|rfl) [-getElem?_pos,f2,e2,aI,aK,aj,bM,o3,o4,Ret]
  have ea:zgb q= -q:=aR hz
  rw[ea]
  exact⟨((kB.trans k1).trans k2).set (by omega),n3,u3,n4,u4,rfl,t1.ay (i:=N+1) f2 nu0 rfl,t2.ay (i:=N+1) f2 nu0 rfl⟩
 ·have hs:¬sg3 q.num<0:=fun hc=>hz (wL.1 hc)
  have s1':=(s1.ai kB).ai k1
  have s2':=(s2.ai kB).ai k1
  simp(disch:=first|(simp;done)|omega|rfl) [-getElem?_pos,f0,f1,e0,e1,hs,aI,aK,aj,bM,o1,o2,Ret]
  have ea:zgb q=q:=aA hz
  rw[ea]
  exact⟨(kB.trans k1).set (by omega),n1,u1,n2,u2,rfl,s1'.ay (i:=N+1) f1 nu0 rfl,s2'.ay (i:=N+1) f1 nu0 rfl⟩
def Yfo{h:T O}{N:Nat}{w:List Nat}{v:V}{l:List Rat}(hs:mV h N v l)(hb:l.length<100000):A.C.call (.func 78 [] []) [v] ⟨h,N,w⟩=some (.int .i64 ((l.length:Int)-1),⟨h,N,w⟩):=by
 have hl:=hs.len
 apply Call.eq
 rw[aZ,A.k78 (by simp)]
 simp(disch:=first|(simp;done)|omega|rfl) [-getElem?_pos,A.b78,hl]
variable {N:Nat} {h h':T O} {v:V}
abbrev NW(y:V):Prop:=∀m,y≠.int .u64 m
def In.fv{n n':Nat}{x:V}{z:Int}{e:TypeId}(s:In h n x z)(k:wS (fun i=>i∈jU v) h n h' n')(hd:Lm e NW h v):In h' n' x z:=by
 rcases s with s|⟨i,o,l,c,s1,s2,s3⟩
 ·exact .inl s
 ·refine .inr ⟨i,o,l,c,s1,Sl.fv s2 k fun j hj hjv=>?_,s3⟩
  simp[jU]at hj
  subst hj
  obtain⟨z2,g1,_,g3⟩:=hd j hjv
  unfold Wn at s2
  have cv:aQ z.natAbs≠[]:=fun h0=>by
   have:=mj z.natAbs
   rw[h0]at this
   simp[val]at this
   omega
  obtain⟨d,ds,hds⟩:=List.exists_cons_of_ne_nil cv
  have hat:(dg (aQ z.natAbs))[0]?=some (.int .u64 d):=by rw[hds];simp[dg]
  obtain⟨i2,o2,c2,e2,rw2,q1,q2,q3,q4⟩:=Sl.at s2 hat
  simp[wQ]at q1
  obtain⟨rfl,rfl⟩:=q1
  rw[g1]at q3
  simp only[au,O.cells.injEq]at q3
  obtain⟨rfl,_⟩:=q3
  exact g3 _ (eI q4) _ rfl
def fz.fv{n n':Nat}{c:List V}{q:Rat}{e:TypeId}(s:fz h n c q)(k:wS (fun i=>i∈jU v) h n h' n')(hd:Lm e NW h v):fz h' n' c q:=by
 obtain⟨n1,u1,n2,u2,rfl,s1,s2⟩:=s
 exact⟨n1,u1,n2,u2,rfl,s1.fv k hd,s2.fv k hd⟩
def Sn.KK{z:Nat}{l:List (List V)}(s:Sn z h N v l):∀i∈jU v,i<N:=fun i hi=>by
 rcases s with⟨_,rfl|rfl⟩|⟨j,o,cp,c,e,rw,rfl,hj,_⟩
 ·simp[jU]at hi
 ·simp[jU]at hi
 ·simp[jU]at hi;omega
def Al.ai{N':Nat}{u:V}{l:List Rat}(s:Al h N u l)(k:ah h N h' N'):Al h' N' u l:=⟨s.1.ai k,fun i hi=>by
 obtain⟨cs,h1,_⟩:=s.1
 rw[k.get i (h1.KK i hi)]
 exact s.2 i hi⟩
def Yqf{N0:Nat}{out:List (List V)}{l:List Rat}(s:Own 4 102 N0 h N v out)(hl:out.length=l.length)(hc:∀(j:Nat),j<l.length->∃c,out[j]?=some c/\∀q,l[j]?=some q->fz h N c q):Al h N v l:=by
 refine⟨⟨out,s.sn,hl,fun j q hq=>?_⟩,fun i hi=>?_⟩
 ·obtain⟨c,g1,g2⟩:=hc j (yz hq)
  exact⟨c,g1,g2 q hq⟩
 ·obtain⟨_,⟨_,rfl⟩|⟨j,rfl,_,_,hg⟩⟩:=s
  ·simp[jU]at hi
  ·simp[jU]at hi;subst hi;exact⟨_,_,hg⟩
variable {k:Nat}
set_option maxHeartbeats 4000000
def A.w63:=A.q Tryz.f63
def A.vf:=A.ql A.w63 1 []
def A.vg:=(fun x0=>A.ql A.w63 0 [x0]) A.vf
def A.b63:=(fun x0=>A.qb A.w63 [x0]) A.vg
def A.k63:=@A.kk 63 51 [.tmp 2] A.b63 (by kernel_rfl) rfl
def pg(p:List Rat)(i:Nat):Rat:=(p[i]?).getD 0
def iy{p:List Rat}{i:Nat}(h:i<p.length):p[i]?=some (pg p i):=by
 unfold pg;rw[Yv8 h];rfl
def Yz0(p:List Rat):Rat:=pg p 0/pg p (p.length-1)
def gh(p:List Rat):List Rat:=(List.range (p.length-1)).map fun k=>pg p (k+1)-Yz0 p*pg p (p.length-1-1-k)
def mW:Nat->List Rat->Bool
 |0,_=>true
 |n+1,p=>if p.length<=1 then true else if 1<=zgb (Yz0 p) then false else mW n (gh p)
def BK{p:List Rat}:(gh p).length=p.length-1:=by simp[gh]
def La{p:List Rat}(h:k<p.length-1):pg (gh p) k=pg p (k+1)-Yz0 p*pg p (p.length-1-1-k):=by
 show ((gh p)[k]?).getD 0=_
 unfold gh;simp[h]
def Yo4{q:Rat}(h:zgb q<1):q*q≠1:=by
 intro hc
 have h2:(q-1)*(q+1)=0:=by grind
 rcases Rat.mul_eq_zero.1 h2 with h3|h3
 ·obtain rfl:q=1:=by grind
  exact absurd h (by decide)
 ·obtain rfl:q= -1:=by grind
  exact absurd h (by decide)
def Zsd{p:List Rat}(h1:1<p.length)(h0:pg p (p.length-1)≠0)(hr:zgb (Yz0 p)<1):pg (gh p) ((gh p).length-1)≠0:=by
 rw[BK,La (by omega),show p.length-1-1+1=p.length-1 from by omega,show p.length-1-1-(p.length-1-1)=0 from by omega]
 have e:Yz0 p*pg p 0=Yz0 p*Yz0 p*pg p (p.length-1):=by
  have:pg p 0=Yz0 p*pg p (p.length-1):=by unfold Yz0;exact(Rat.div_mul_cancel h0).symm
  rw[Rat.mul_assoc,<-this]
 rw[e]
 have:=Yo4 hr
 intro hc
 apply this
 have h2:(1-Yz0 p*Yz0 p)*pg p (p.length-1)=0:=by grind
 rcases Rat.mul_eq_zero.1 h2 with h|h
 ·grind
 ·exact absurd h h0
def Ypz{p:List Rat}{n:Nat}(h:p.length<=1):mW n p=true:=by
 cases n with
 |zero=>rfl
 |succ n=>unfold mW;rw[aR h]
def Zw1{p:List Rat}(h1:1<=p.length)(h0:pg p (p.length-1)≠0)(hq:∀q∈p,Qb k q):Qb (k+k) (Yz0 p):=by
 have a:=hq _ (eI (iy (p:=p) (i:=0) (by omega)))
 have b:=hq _ (eI (iy (p:=p) (i:=p.length-1) (by omega)))
 unfold Yz0;rw[Rat.div_def]
 exact a.mul (b.inv h0)
def Ymz{p:List Rat}(h1:1<=p.length)(hk:1<=k)(h0:pg p (p.length-1)≠0)(hq:∀q∈p,Qb k q):∀q∈gh p,Qb (5*k) q:=by
 intro q hm
 unfold gh at hm
 obtain⟨j,hj,rfl⟩:=vo.1 hm
 rw[Dh]at hj
 have a:=hq _ (eI (iy (p:=p) (i:=j+1) (by omega)))
 have b:=hq _ (eI (iy (p:=p) (i:=p.length-1-1-j) (by omega)))
 exact(a.sub ((Zw1 h1 h0 hq).mul b)).mono (by omega)
structure Yvt (h:T O) (N:Nat) (l:List Rat) (k m:Nat) (r:T V) (st:St):Prop where
 w:aL N st.w=[]
 ai:ah h N st.h st.n
 ex:∃(v:V) (p:List Rat),r.get 0=some v/\r.get 3=some (.bool true)/\Al st.h st.n v p/\p.length=m+1/\m+1<=l.length/\pg p m≠0/\(∀q∈p,Qb (k*5^(l.length-1-m)) q)/\mW (m+1) p=mW l.length l
def Zrw{h:T O}{N:Nat}{v:V}{l:List Rat}(hs:Al h N v l)(h1:1<=l.length)(hl:l.length<=13)(h0:pg l (l.length-1)≠0)(hq:∀q∈l,Qb k q)(hk:1<=k)(jZ:k*5^(l.length-1)<=400000000):Fn A.C 63 [v] h N (fun x _ _=>x=.bool (mW l.length l)):=by
 intro w
 rw[aZ,A.k63 (by simp)]
 simp(disch:=first|(simp;done)|omega|rfl) [-getElem?_pos,A.b63]
 refine Zal [(0,0),(3,49)] (fun e r st=>e=.exit 0/\aL N st.w=[]/\ah h N st.h st.n/\r.get 3=some (.bool (mW l.length l))) (Yvt h N l k) (l.length-1) ?_ ?_ ?_
 ·refine⟨by simp,ah.refl,v,l,by simp,by simp,hs,by omega,by omega,h0,fun q hm=>?_,by rw[show l.length-1+1=l.length from by omega]⟩
  rw[Nat.sub_self,AF,wP];exact hq q hm
 ·rintro m r ⟨H,n1,W⟩ hr hf ⟨hW,hK,v,p,r0,r3,hp,pl,pll,pz,pq,ps⟩
  simp only at hW hK hp
  have dg:=fun w=>Yfo (w:=w) hp.1 (by omega)
  rw[pl]at dg
  rw[cn]
  cases m with
  |zero=>
   rw[Ypz (by omega)]at ps
   simp(disch:=first|(simp;done)|omega|rfl) [-getElem?_pos,A.vg,hr,hf,r0,dg,r3,hW,hK,<-ps]
  |succ m=>
   obtain⟨i0,o0,x0,e0,w0,c0,a1,a2,a3,a4,a5⟩:=hp.1.at (iy (p:=p) (i:=0) (by omega))
   obtain⟨i1,o1,x1,e1,w1,c1,b1,b2,b3,b4,b5⟩:=hp.1.at (iy (p:=p) (i:=m+1) (by omega))
   rw[a1]at b1
   obtain⟨rfl,rfl⟩:i0=i1/\o0=o1:=by simpa using b1
   have lv:=hp.1.len
   rw[pl]at lv
   rw[a3]at b3
   obtain⟨rfl,rfl,rfl⟩:x0=x1/\e0=e1/\w0=w1:=by simpa using b3
   rw[Nat.zero_mul,mY]at a4
   have g1:(0:Int)<((m+1+1:Nat):Int)-1:=by omega
   have g2:((m+1+1:Nat):Int)-1<((m+1+1:Nat):Int):=by omega
   have g3:(((m+1+1:Nat):Int)-1).toNat=m+1:=by omega
   have g4:(0:Int)<((m+1+1:Nat):Int):=by omega
   have g5:(0:Int)<=((m+1+1:Nat):Int)-1:=by omega
   simp(disch:=first|(simp;done)|omega|rfl) [-getElem?_pos,A.vg,hr,hf,r0,r3,dg,lv,a1,a2,a3,a4,b4,g1,g2,g3,g4,g5,aI]
   have ud:k*5^(l.length-1-(m+1))*5=k*5^(l.length-1-m):=by
    rw[AG,<-fV];congr 2;omega
   have hB1:k*5^(l.length-1-m)<=400000000:=p9 (jh k (Ywo (by omega) (by omega))) jZ
   have Sz:1<=k*5^(l.length-1-(m+1)):=xM hk (vu (by omega))
   generalize hB:k*5^(l.length-1-(m+1))=B at*
   have pz':pg p (p.length-1)≠0:=by rw[pl];exact pz
   have ql:=Ymz (by omega) Sz pz' pq
   have qr:=Zw1 (by omega) pz' pq
   have qa:=pq _ (eI (iy (p:=p) (i:=0) (by omega)))
   have qb:=pq _ (eI (iy (p:=p) (i:=m+1) (by omega)))
   have wa:=qa.eX
   have wb:=qb.eX
   have wc:=(qb.inv pz).eX
   have wr:=qr.eX
   have er:pg p 0/pg p (m+1)=Yz0 p:=by unfold Yz0;rw[pl];rfl
   refine av (Zvr a5.fc b5.fc pz (by omega) (by omega) (by omega) (by omega) (by omega) (by omega)) ?_
   rintro _ h2 n2 k2 dw
   rw[er]at dw
   obtain⟨c2,rfl,yX⟩:=dw.c
   obtain⟨f1,f2⟩:=yX.len
   have lO:(V.agg c2).cells=c2:=rfl
   have e4:aj zF 0 c2=c2:=by unfold aj;rw[f1];simp[f1,zF]
   have s0:aK c2 0 4=some c2:=by unfold aK;rw[f1];simp;exact jP (by omega)
   unfold zF at e4
   have oH:=k2.le
   have kA:ah h2 n2 ((h2.set n2 (.cells [.int .i64 0,.ziA,.int .i64 0,.ziA] 102 true)).set n2 (.cells c2 102 true)) (n2+1):=(ah.refl.new _).set (Yv5 _)
   have g2:((h2.set n2 (.cells [.int .i64 0,.ziA,.int .i64 0,.ziA] 102 true)).set n2 (.cells c2 102 true)).get n2=some (.cells c2 102 true):=by simp
   simp(disch:=first|(simp;done)|omega|rfl) [-getElem?_pos, -V.cells, -V.one,hr,hf,r0,r3,lO,f1,f2,e4,bM,b_.chk,aI,s0]
   generalize (h2.set n2 (.cells [.int .i64 0,.ziA,.int .i64 0,.ziA] 102 true)).set n2 (.cells c2 102 true)=H3 at*
   refine av (Nr (dw.ai kA) (by omega)) ?_
   rintro v4 h4 n4 k4 Bq
   have ze8:Qb (B+B) (zgb (Yz0 p)):=by
    unfold zgb;split
    ·exact qr.neg
    ·exact qr
   have zga:=ze8.eX
   have w1:=(Qb.int (z:=1) (k:=1) (by decide) (by decide)).eX
   simp(disch:=first|(simp;done)|omega|rfl) [-getElem?_pos,]
   refine av (BI (z:=1) (by decide) (by decide)) ?_
   rintro v5 h5 n5 k5 Qo
   simp(disch:=first|(simp;done)|omega|rfl) [-getElem?_pos,]
   refine av (KW (Bq.ai k5) Qo (by omega) (by omega) (by omega) (by omega)) ?_
   rintro _ h6 n6 k6 rfl
   have ec:(0<=sg3 ((zgb (Yz0 p)).num*(((1:Int):Rat).den:Nat)-((1:Int):Rat).num*((zgb (Yz0 p)).den:Nat)))↔1<=zgb (Yz0 p):=by
    have h1:zgb (Yz0 p)<1↔(zgb (Yz0 p)).num*(((1:Int):Rat).den:Nat)<((1:Int):Rat).num*((zgb (Yz0 p)).den:Nat):=by
     rw[Rat.lt_iff];rfl
    rw[<-Rat.not_lt,h1];unfold sg3;split
    ·constructor<;>intro<;>omega
    ·split<;>constructor<;>intro<;>omega
   generalize sg3 ((zgb (Yz0 p)).num*(((1:Int):Rat).den:Nat)-((1:Int):Rat).num*((zgb (Yz0 p)).den:Nat))=cz at*
   have kD:=((kA.trans k4).trans k5).trans k6
   have K6:=(hK.trans k2).trans kD
   have ps2:mW (m+1+1) p=if 1<=zgb (Yz0 p) then false else mW (m+1) (gh p):=by
    conv=>lhs;unfold mW
    rw[aA (by omega)]
   rw[ps2]at ps
   by_cases cc:1<=zgb (Yz0 p)
   ·have Am:=ec.2 cc
    rw[aR cc]at ps
    have Nx:=hK.le
    simp(disch:=first|(simp;done)|omega|rfl) [-getElem?_pos,hr,hf,r0,r3,Am,hW,K6,<-ps]
    omega
   ·have Am:¬0<=cz:=fun h=>cc (ec.1 h)
    rw[aA cc]at ps
    have lt1:zgb (Yz0 p)<1:=Rat.not_le.1 cc
    simp(disch:=first|(simp;done)|omega|rfl) [-getElem?_pos,hr,hf,r0,r3,Am]
    have Nx:=hK.le
    have leD:=kD.le
    have leE:=((k4.trans k5).trans k6).le
    have g6:=(((k4.trans k5).trans k6).get n2 (by omega)).trans g2
    have hc6:=yX.ai kD
    have hp6:=(hp.ai k2).ai kD
    have W6:aL N (n2::W)=[]:=by simp[aL,hW];omega
    have lv6:=hp6.1.len
    rw[pl]at lv6
    have bzr:=fun j (hj:j<(gh p).length)=>ql _ (eI (iy hj))
    have nl:(gh p).length=m+1:=by rw[BK,pl];rfl
    refine Zal [(6,7),(27,48)] (fun e r st=>e=.exit 2/\aL N st.w=[]/\ah h6 n6 st.h st.n/\∃u,r.get 6=some u/\Al st.h st.n u (gh p)) (fun i r st=>aL N st.w=[]/\ah h6 n6 st.h st.n/\∃(t:Nat) (u:V) (out:List (List V)),t+i=m+1/\r.get 27=some (.int .i64 t)/\r.get 6=some u/\Own 4 102 n6 st.h st.n u out/\out.length=t/\(out=[]->u=.ziA)/\(∀c∈out,∀y∈c,NW y)/\∀j,j<t->∃c,out[j]?=some c/\fz st.h st.n c (pg (gh p) j)) (m+1) ?_ ?_ ?_
    ·exact⟨W6,ah.refl,0,.ziA,[],by omega,by simp,by simp,Own.nil,rfl,fun _=>rfl,by simp,fun j hj=>by omega⟩
    ·rintro i r' ⟨H7,n7,W7⟩ lV rF ⟨MS,Bs,t,u,out,ht,r27,r6,ho,uQ,ze9,hY,uJ⟩
     simp only at MS Bs ho uJ
     rw[cn]
     cases i with
     |zero=>
      obtain rfl:t=m+1:=by omega
      simp(disch:=first|(simp;done)|omega|rfl) [-getElem?_pos,A.vf,lV,rF,r27,MS,Bs]
      exact⟨u,r6,Yqf ho (by rw[uQ,nl]) fun j hj=>by
       obtain⟨c,x1,x2⟩:=uJ j (by omega)
       refine⟨c,x1,fun q hq=>?_⟩
       rw[iy (by rw[nl];omega)]at hq
       simp only[au]at hq
       rw[<-hq];exact x2⟩
     |succ i=>
      have aW:t<m+1:=by omega
      have zij:(t:Int)<(m:Int)+1:=by omega
      have hp7:=hp6.ai Bs
      have lv7:=hp7.1.len
      rw[pl]at lv7
      have le7:=Bs.le
      have g7:=(Bs.get n2 (by omega)).trans g6
      have Vr:=hc6.ai Bs
      obtain⟨j0,u0,y0,z0,q0,d0,b1,b2,b3,b4,b5⟩:=hp7.1.at (iy (p:=p) (i:=t+1) (by omega))
      obtain⟨j1,u1,y1,z1,q1,d1,x1,x2,x3,x4,x5⟩:=hp7.1.at (iy (p:=p) (i:=m-t) (by omega))
      rw[b1]at x1
      obtain⟨rfl,rfl⟩:j0=j1/\u0=u1:=by simpa using x1
      rw[b3]at x3
      obtain⟨rfl,rfl,rfl⟩:y0=y1/\z0=z1/\q0=q1:=by simpa using x3
      have i1:(0:Int)<=(t:Int)+1:=by omega
      have i2:(t:Int)+1<((m+1+1:Nat):Int):=by omega
      have i3:((t:Int)+1).toNat=t+1:=by omega
      have i4:(0:Int)<=(m:Int)-t:=by omega
      have i5:(m:Int)-t<((m+1+1:Nat):Int):=by omega
      have i6:((m:Int)-t).toNat=m-t:=by omega
      have i7:n2<n7:=by omega
      have bx:=pq _ (eI (iy (p:=p) (i:=t+1) (by omega)))
      have by_:=pq _ (eI (iy (p:=p) (i:=m-t) (by omega)))
      have wx:=bx.eX
      have wy:=by_.eX
      have bm:=qr.mul by_
      have wm:=bm.eX
      simp(disch:=first|(simp;done)|omega|rfl) [-getElem?_pos,A.vf,lV,rF,hr,hf,r0,r3,r27,r6,zij,lv7,b1,b2,b3,b4,x4,g7,s0,i1,i2,i3,i4,i5,i6,i7,aI]
      refine av (KZ Vr.fc x5.fc (by omega) (by omega) (by omega) (by omega)) ?_
      rintro v8 h8 n8 k8 hm8
      simp(disch:=first|(simp;done)|omega|rfl) [-getElem?_pos,]
      refine av (Zvo (b5.ai k8).fc hm8 (by omega) (by omega) (by omega) (by omega)) ?_
      rintro _ h9 n9 k9 SJ
      have en:pg p (t+1)-Yz0 p*pg p (m-t)=pg (gh p) t:=by
       rw[La (by omega),pl,show m+1+1-1-1-t=m-t from by omega]
      rw[en]at SJ
      obtain⟨c9,rfl,Ik⟩:=SJ.c
      obtain⟨f91,f92⟩:=Ik.len
      have ze_:(V.agg c9).cells=c9:=rfl
      have e9:aj zF 0 c9=c9:=by unfold aj;rw[f91];simp[f91,zF]
      unfold zF at e9
      have K9:=k8.trans k9
      have le9:=K9.le
      have ho9:Own 4 102 n6 (h9.set n9 (.cells c9 102 true)) (n9+1) u out:=(ho.ai K9).ai (ah.refl.new _)
      have nw9:∀y∈c9,NW y:=Ik.Sk
      obtain⟨u',h',w',j1',j2',SE,SG,jD,j5'⟩:=Zou (Y:=NW) (x:=c9) (u:=.slice n9 0 1 (some 1) 4) (bytes:=64) (w:=[]) ho9 ze9 hY (by omega) (by decide) f91 (by simp only[oL,St.row,T.al,if_true];unfold aK;simp[f91];exact jP (by omega)) (by omega)
      have ow:aL N w'=[]:=Zqo j2' (by omega) rfl
      simp(disch:=first|(simp;done)|omega|rfl) [-getElem?_pos, -aL, -V.cells, -V.one,lV,rF,r27,r6,ze_,f91,f92,e9,j1']
      refine⟨i,by omega,Ydc ow MS,((Bs.trans K9).trans (ah.refl.new (.cells c9 102 true))).then SE,t+1,by omega,by simp,out++[c9],j5',by simp[uQ],by simp,fun c hc y hy=>?_,fun j hj=>?_⟩
      ·rcases tg.1 hc with hc|hc
       ·exact hY c hc y hy
       ·simp only[yW]at hc;subst hc;exact nw9 y hy
      ·by_cases hjt:j<t
       ·obtain⟨c,e1',e2'⟩:=uJ j hjt
        exact⟨c,by rw[xJ (by omega)];exact e1',((e2'.ai K9).ai (ah.refl.new _)).fv SG jD⟩
       ·obtain rfl:j=t:=by omega
        exact⟨c9,by rw[Ig (by omega),uQ];simp,(Ik.ai (ah.refl.new _)).fv SG jD⟩
    ·rintro _ r' ⟨H7,n7,W7⟩ lV ⟨rfl,MS,Bs,u,r6,hu⟩
     simp only at MS Bs hu
     have EI:=Zsd (by omega) pz' lt1
     rw[nl,show m+1-1=m from rfl]at EI
     rw[iz B 5]at ud
     simp(disch:=first|(simp;done)|omega|rfl) [-getElem?_pos,lV,r6,hr,hf,r3]
     have Dm:=hf.inner (D':=[(6,7),(27,48)]) rfl (fun hh=>by simpa using hh) lV
     exact⟨by simpa using Dm,m,by omega,MS,K6.trans Bs,u,gh p,by simp,by simp[lV,r3],hu,nl,by omega,EI,by rw[<-ud];exact ql,ps⟩
 ·rintro _ r ⟨H,n1,W⟩ hr ⟨rfl,hW,hK,h3⟩
  simp only at hW hK
  simp(disch:=first|(simp;done)|omega|rfl) [-getElem?_pos,hr,h3,Ret,hW,hK]
end
end Go.Mx
