/-lensletref05-/
import Derived.Test.YtgnadghjglamaaaGreatDoorNdC
set_option linter.all false
namespace Go.Mx
noncomputable section
open Go Go.Proofs
set_option maxRecDepth 1000000
def RF(h:T O)(N:Nat)(v:V)(m:List (List aU)):Prop:=∃us:List V,Sl h N v us/\us.length=m.length/\∀(j:Nat) (l:List aU),m[j]?=some l->∃u,us[j]?=some u/\Sl h N u (strs l)
def RF.ah{h h':T O}{N N':Nat}{v:V}{m:List (List aU)}(s:RF h N v m)(k:ae h N h' N'):RF h' N' v m:=by
 obtain⟨us,h1,h2,h3⟩:=s
 refine⟨us,h1.ah k,h2,fun j l hl=>?_⟩
 obtain⟨u,g1,g2⟩:=h3 j l hl
 exact⟨u,g1,g2.ah k⟩
def RF.at{h:T O}{N:Nat}{v:V}{m:List (List aU)}(s:RF h N v m){j:Nat}{l:List aU}(hj:m[j]?=some l):∃i o c e rw u,AF v=some (i,o)/\i<N/\h.get i=some (.cells c e rw)/\c[o+j]?=some u/\Sl h N u (strs l):=by
 obtain⟨us,h1,h2,h3⟩:=s
 obtain⟨u,g1,g2⟩:=h3 j l hj
 obtain⟨i,o,c,e,rw,q1,q2,q3,q4⟩:=h1.at g1
 exact⟨i,o,c,e,rw,u,q1,q2,q3,q4,g2⟩
def A.w13:=A.q Tryz.f13
def A.vP:=A.ql A.w13 0 []
def A.b13:=(fun x0=>A.qb A.w13 [x0]) A.vP
def A.k13:=@A.kk 13 19 [.tmp 2] A.b13 (by kernel_rfl) rfl
def Ygr{h:T O}{N:Nat}{v:V}{l:List aU}(hs:Sl h N v (strs l))(hl:l.length<100000)(qA:∀s∈l,s.length<9223372036854775808):Fn A.C 13 [v] h N (fun u _ _=>u=.int .i64 (cY (l.map fun s=>((aY s:Nat):Int)))):=by
 intro w
 have hlen:=hs.len
 rw[BL]at hlen
 rw[aV,A.k13 (by simp)]
 simp(disch:=first|(simp;done)|omega|rfl) [-getElem?_pos,A.b13]
 refine c_ [(2,18)] (fun e r st=>aD N st.w=[]/\ae h N st.h st.n/\((e=.exit 0/\cY (l.map fun s=>((aY s:Nat):Int))=0)\/(e=.ret/\r.get 2=some (.int .i64 (cY (l.map fun s=>((aY s:Nat):Int))))))) (fun m r st=>aD N st.w=[]/\ae h N st.h st.n/\∃k,k+m=l.length/\r.get 3=some (.int .i64 k)/\cY (l.map fun s=>((aY s:Nat):Int))=cY ((l.drop k).map fun s=>((aY s:Nat):Int))) l.length ?_ ?_ ?_
 ·exact⟨by simp,ae.refl,0,by omega,by simp,by simp⟩
 ·rintro m r ⟨H,n1,W⟩ hr hf ⟨hW,hK,k,hk,h7,hz⟩
  simp only at hW hK
  rw[dk]
  cases m with
  |zero=>
   obtain rfl:k=l.length:=by omega
   rw[vR,uH,cY]at hz
   simp(disch:=first|(simp;done)|omega|rfl) [-getElem?_pos,A.vP,hr,hf,h7,hlen,hz,hW,hK]
  |succ m=>
   have aP:k<l.length:=by omega
   obtain⟨s,hc⟩:=fz aP
   obtain⟨i,o,cc,e,rw,q1,q2,q3,q4⟩:=(hs.ah hK).at (Lc hc)
   rw[qk hc,lF,cY]at hz
   have ew:(k:Int)<(l.length:Int):=by omega
   simp(disch:=first|(simp;done)|omega|rfl) [-getElem?_pos,A.vP,hr,hf,h7,ew,aP,hlen,q1,q3,q4]
   refine az (Zku (qA s (eZ hc))) ?_
   rintro _ h3 n3 k3 rfl
   have kk:=hK.trans k3
   by_cases h0:aY s=0
   ·rw[aQ (by omega)]at hz
    simp(disch:=first|(simp;done)|omega|rfl) [-getElem?_pos,hr,hf,h7,h0,hW,aL]
    exact⟨m,by omega,kk,k+1,by omega,by simp,by simpa using hz⟩
   ·rw[aA (by omega)]at hz
    have rf:¬((aY s:Nat):Int)=0:=by omega
    simp(disch:=first|(simp;done)|omega|rfl) [-getElem?_pos,hr,hf,h7,h0,rf,hW,aL,hz]
    exact kk
 ·rintro _ r ⟨H,n1,W⟩ hr ⟨hW,hK,⟨rfl,hz⟩|⟨rfl,h2⟩⟩
  ·simp only at hW hK
   simp(disch:=first|(simp;done)|omega|rfl) [-getElem?_pos,hr,hz,aF,hW,hK]
  ·simp only at hW hK
   simp(disch:=first|(simp;done)|omega|rfl) [-getElem?_pos,hr,h2,aF,hW,hK]
def Im(l:List Rat):Bool:=l.any BJ
def A.b172:=A.q Tryz.f172
def A.k172:=@A.kk 172 9 [.cell 2 (some 4)] A.b172 (by kernel_rfl) rfl
def A.b126:=A.q Tryz.f126
def A.k126:=@A.kk 126 9 [.cell 4 (some 4)] A.b126 (by kernel_rfl) rfl
def RU{x:V}{q:Rat}{h:T O}{N:Nat}(hx:Fc h N x q)(l1:wl q.num<1000000000):Fn A.C 172 [x] h N (fun v h' n'=>Fc h' n' v (-q)):=by
 intro w
 rw[aV,A.k172 (by simp)]
 obtain⟨n1,u1,n2,u2,rfl,s1,s2⟩:=hx
 have o1:=de s1
 have o2:=de s2
 unfold V.one at o1 o2
 have kB:ae h N ((h.set N (.cells [.int .i64 n1,u1,.int .i64 n2,u2] 110 true)).set (N+1) (.cells [.int .i64 0,.aa,.int .i64 0,.aa] 110 true)) (N+2):=aI (aI ae.refl _) _
 simp(disch:=first|(simp;done)|omega|rfl) [-getElem?_pos,A.b172,aJ,aE,ag,o1,o2]
 generalize gT:(h.set N (.cells [.int .i64 n1,u1,.int .i64 n2,u2] 110 true)).set (N+1) (.cells [.int .i64 0,.aa,.int .i64 0,.aa] 110 true)=hB at*
 have b1:hB.get N=some (.cells [.int .i64 n1,u1,.int .i64 n2,u2] 110 true):=by rw[<-gT];simp
 have b3:hB.get (N+1)=some (.cells [.int .i64 0,.aa,.int .i64 0,.aa] 110 true):=by rw[<-gT];simp
 refine az (My (s1.ah kB) (by omega)) ?_
 rintro v5 h1 m1 k1 q1
 obtain⟨n3,u3,rfl⟩:∃n3 u3,v5=.agg [.int .i64 n3,u3]:=by
  rcases q1 with⟨rfl,_⟩|⟨_,_,_,_,rfl,_⟩<;>exact⟨_,_,rfl⟩
 have o3:=de q1
 unfold V.one at o3
 have ft:=k1.le
 have f1:=(k1.get N (by omega)).trans b1
 have f3:=(k1.get (N+1) (by omega)).trans b3
 have e1:N<m1:=by omega
 have e2:N+1<m1:=by omega
 simp(disch:=first|(simp;done)|omega|rfl) [-getElem?_pos,f1,f3,e1,e2,aJ,aE,ag,bE,o2,o3,bU.bZ,aF]
 have kk:=kB.trans k1
 exact⟨kk.set (by omega),n3,u3,n2,u2,rfl,by rw[Rat.neg_num];exact q1.aG (i:=N+1) f3 lZ rfl,by rw[Rat.neg_den];exact((s2.ah kB).ah k1).aG (i:=N+1) f3 lZ rfl⟩
def Ycj{x y:V}{p q:Rat}{h:T O}{N:Nat}(hx:Fc h N x p)(hy:Fc h N y q)(l1:wl p.num<1000000000)(l2:wl (p.den:Nat)<1000000000)(l3:wl q.num<1000000000)(l4:wl (q.den:Nat)<1000000000):Fn A.C 126 [x,y] h N (fun v h' n'=>Fc h' n' v (p-q)):=by
 intro w
 rw[aV,A.k126 (by simp)]
 have ry:=hx
 have wU:=hy
 obtain⟨n1,u1,n2,u2,rfl,s1,s2⟩:=hx
 obtain⟨n3,u3,n4,u4,rfl,s3,s4⟩:=hy
 have o1:=de s1
 have o2:=de s2
 have o3:=de s3
 have o4:=de s4
 unfold V.one at o1 o2 o3 o4
 have kB:ae h N (((h.set N (.cells [.int .i64 n1,u1,.int .i64 n2,u2] 110 true)).set (N+1) (.cells [.int .i64 n3,u3,.int .i64 n4,u4] 110 true)).set (N+2) (.cells [.int .i64 0,.aa,.int .i64 0,.aa] 110 true)) (N+3):=aI (aI (aI ae.refl _) _) _
 simp(disch:=first|(simp;done)|omega|rfl) [-getElem?_pos,A.b126,aJ,aE,ag,o1,o2,o3,o4]
 generalize gT:((h.set N (.cells [.int .i64 n1,u1,.int .i64 n2,u2] 110 true)).set (N+1) (.cells [.int .i64 n3,u3,.int .i64 n4,u4] 110 true)).set (N+2) (.cells [.int .i64 0,.aa,.int .i64 0,.aa] 110 true)=hB at*
 have b1:hB.get N=some (.cells [.int .i64 n1,u1,.int .i64 n2,u2] 110 true):=by rw[<-gT];simp
 have b2:hB.get (N+1)=some (.cells [.int .i64 n3,u3,.int .i64 n4,u4] 110 true):=by rw[<-gT];simp
 have b3:hB.get (N+2)=some (.cells [.int .i64 0,.aa,.int .i64 0,.aa] 110 true):=by rw[<-gT];simp
 refine az (RU (wU.ah kB) l3) ?_
 rintro v5 h1 m1 k1 q1
 have ft:=k1.le
 have f1:=(k1.get N (by omega)).trans b1
 have f2:=(k1.get (N+1) (by omega)).trans b2
 have f3:=(k1.get (N+2) (by omega)).trans b3
 have e1:N<m1:=by omega
 have e2:N+1<m1:=by omega
 simp(disch:=first|(simp;done)|omega|rfl) [-getElem?_pos,f1,f2,e1,e2,aJ,aE,ag]
 refine az (KW ((ry.ah kB).ah k1) q1 l1 l2 (by rw[Rat.neg_num,Qz];exact l3) (by rw[Rat.neg_den];exact l4)) ?_
 rintro v7 h3 m3 k3 hv
 rw[<-Rat.sub_eq_add_neg]at hv
 obtain⟨n5,u5,n6,u6,rfl,t1,t2⟩:=hv
 have o5:=de t1
 have o6:=de t2
 unfold V.one at o5 o6
 have oI:=k3.le
 have f5:=(k3.get (N+2) (by omega)).trans f3
 have e3:N+2<m3:=by omega
 simp(disch:=first|(simp;done)|omega|rfl) [-getElem?_pos,f5,e3,aJ,aE,ag,bE,o5,o6,bU.bZ,aF]
 have kk:=(kB.trans k1).trans k3
 exact⟨kk.set (by omega),n5,u5,n6,u6,rfl,t1.aG (i:=N+2) f5 lZ rfl,t2.aG (i:=N+2) f5 lZ rfl⟩
def Qb.iC{q:Rat}{k:Nat}(h:Qb k q):wl q.num<=k/\wl (q.den:Nat)<=k:=⟨Uf h.1,Uf (z:=(q.den:Int)) (k:=k) (by rw[eG];exact h.2)⟩
def A.b141:=A.q Tryz.f141
def A.k141:=@A.kk 141 8 [.cell 2 (some 4)] A.b141 (by kernel_rfl) rfl
def A.b91:=A.q Tryz.f91
def A.k91:=@A.kk 91 9 [.cell 4 (some 4)] A.b91 (by kernel_rfl) rfl
def Yw5{x:V}{q:Rat}{h:T O}{N:Nat}(hx:Fc h N x q)(h0:q≠0)(l1:wl q.num<1000000000)(l2:wl (q.den:Nat)<1000000000):Fn A.C 141 [x] h N (fun v h' n'=>Fc h' n' v q⁻¹):=by
 intro w
 rw[aV,A.k141 (by simp)]
 obtain⟨n1,u1,n2,u2,rfl,s1,s2⟩:=hx
 have o1:=de s1
 have o2:=de s2
 unfold V.one at o1 o2
 have kB:ae h N ((h.set N (.cells [.int .i64 n1,u1,.int .i64 n2,u2] 110 true)).set (N+1) (.cells [.int .i64 0,.aa,.int .i64 0,.aa] 110 true)) (N+2):=aI (aI ae.refl _) _
 simp(disch:=first|(simp;done)|omega|rfl) [-getElem?_pos,A.b141,aJ,aE,ag,o1,o2]
 generalize gT:(h.set N (.cells [.int .i64 n1,u1,.int .i64 n2,u2] 110 true)).set (N+1) (.cells [.int .i64 0,.aa,.int .i64 0,.aa] 110 true)=hB at*
 have b3:hB.get (N+1)=some (.cells [.int .i64 0,.aa,.int .i64 0,.aa] 110 true):=by rw[<-gT];simp
 have hn:q.num≠0:=fun hc=>h0 (MO.1 hc)
 refine az (Ybu (s2.ah kB) (s1.ah kB) hn (by omega) (by omega)) ?_
 rintro v7 h3 m3 k3 hv
 rw[<-inv_divInt]at hv
 obtain⟨n5,u5,n6,u6,rfl,t1,t2⟩:=hv
 have o5:=de t1
 have o6:=de t2
 unfold V.one at o5 o6
 have oI:=k3.le
 have f5:=(k3.get (N+1) (by omega)).trans b3
 have e3:N+1<m3:=by omega
 simp(disch:=first|(simp;done)|omega|rfl) [-getElem?_pos,f5,e3,aJ,aE,ag,bE,o5,o6,aF]
 have kk:=kB.trans k3
 exact⟨kk.set (by omega),n5,u5,n6,u6,rfl,t1.aG (i:=N+1) f5 lZ rfl,t2.aG (i:=N+1) f5 lZ rfl⟩
def Yw7{x y:V}{p q:Rat}{h:T O}{N:Nat}(hx:Fc h N x p)(hy:Fc h N y q)(h0:q≠0)(l1:wl p.num<1000000000)(l2:wl (p.den:Nat)<1000000000)(l3:wl q.num<1000000000)(l4:wl (q.den:Nat)<1000000000)(l5:wl q⁻¹.num<1000000000)(l6:wl (q⁻¹.den:Nat)<1000000000):Fn A.C 91 [x,y] h N (fun v h' n'=>Fc h' n' v (p/q)):=by
 intro w
 rw[aV,A.k91 (by simp)]
 have ry:=hx
 have wU:=hy
 obtain⟨n1,u1,n2,u2,rfl,s1,s2⟩:=hx
 obtain⟨n3,u3,n4,u4,rfl,s3,s4⟩:=hy
 have o1:=de s1
 have o2:=de s2
 have o3:=de s3
 have o4:=de s4
 unfold V.one at o1 o2 o3 o4
 have kB:ae h N (((h.set N (.cells [.int .i64 n1,u1,.int .i64 n2,u2] 110 true)).set (N+1) (.cells [.int .i64 n3,u3,.int .i64 n4,u4] 110 true)).set (N+2) (.cells [.int .i64 0,.aa,.int .i64 0,.aa] 110 true)) (N+3):=aI (aI (aI ae.refl _) _) _
 simp(disch:=first|(simp;done)|omega|rfl) [-getElem?_pos,A.b91,aJ,aE,ag,o1,o2,o3,o4]
 generalize gT:((h.set N (.cells [.int .i64 n1,u1,.int .i64 n2,u2] 110 true)).set (N+1) (.cells [.int .i64 n3,u3,.int .i64 n4,u4] 110 true)).set (N+2) (.cells [.int .i64 0,.aa,.int .i64 0,.aa] 110 true)=hB at*
 have b1:hB.get N=some (.cells [.int .i64 n1,u1,.int .i64 n2,u2] 110 true):=by rw[<-gT];simp
 have b2:hB.get (N+1)=some (.cells [.int .i64 n3,u3,.int .i64 n4,u4] 110 true):=by rw[<-gT];simp
 have b3:hB.get (N+2)=some (.cells [.int .i64 0,.aa,.int .i64 0,.aa] 110 true):=by rw[<-gT];simp
 refine az (Yw5 (wU.ah kB) h0 l3 l4) ?_
 rintro v5 h1 m1 k1 q1
 have ft:=k1.le
 have f1:=(k1.get N (by omega)).trans b1
 have f2:=(k1.get (N+1) (by omega)).trans b2
 have f3:=(k1.get (N+2) (by omega)).trans b3
 have e1:N<m1:=by omega
 have e2:N+1<m1:=by omega
 simp(disch:=first|(simp;done)|omega|rfl) [-getElem?_pos,f1,f2,e1,e2,aJ,aE,ag]
 refine az (KY ((ry.ah kB).ah k1) q1 l1 l2 l5 l6) ?_
 rintro v7 h3 m3 k3 hv
 rw[<-Rat.div_def]at hv
 obtain⟨n5,u5,n6,u6,rfl,t1,t2⟩:=hv
 have o5:=de t1
 have o6:=de t2
 unfold V.one at o5 o6
 have oI:=k3.le
 have f5:=(k3.get (N+2) (by omega)).trans f3
 have e3:N+2<m3:=by omega
 simp(disch:=first|(simp;done)|omega|rfl) [-getElem?_pos,f5,e3,aJ,aE,ag,bE,o5,o6,bU.bZ,aF]
 have kk:=(kB.trans k1).trans k3
 exact⟨kk.set (by omega),n5,u5,n6,u6,rfl,t1.aG (i:=N+2) f5 lZ rfl,t2.aG (i:=N+2) f5 lZ rfl⟩
def A.b157:=A.q Tryz.f157
def A.k157:=@A.kk 157 14 [.tmp 2] A.b157 (by kernel_rfl) rfl
def A.w21:=A.q Tryz.f21
def A.rL:=A.ql A.w21 0 []
def A.b21:=(fun x0=>A.qb A.w21 [x0]) A.rL
def A.k21:=@A.kk 21 19 [.tmp 2] A.b21 (by kernel_rfl) rfl
def A.b33:=A.q Tryz.f33
def A.k33:=@A.kk 33 15 [.tmp 6] A.b33 (by kernel_rfl) rfl
def A.b78:=A.q Tryz.f78
def A.k78:=@A.kk 78 12 [.tmp 2] A.b78 (by kernel_rfl) rfl
def AE{q:Rat}:df q.num<0↔q<0:=by
 have:q<0↔q.num<0:=by
  rw[Rat.lt_iff];simp
 rw[this];unfold df;split
 ·simp[*]
 ·split<;>simp[*]<;>omega
def fF(s:aU):Int:=if aY s=0 then (if bJ s<0 then 3 else 0) else (aY s:Nat)
def Df{q:Rat}{k:Nat}(hq:Qb k q)(hk:k<=90000){h:T O}{N:Nat}:Fn A.C 92 [.str (ax q)] h N (fun v h' n'=>Fc h' n' v q):=
 Yck (by have:=Bo hq.1;omega) (by
  have:=Bo (z:=(q.den:Int)) (k:=k) (by simpa using hq.2)
  unfold aR at this;rw[aA (by omega)]at this;simp at this;omega)
def NQ{s:aU}{n:Nat}(hl:s.length<=n)(hn:n<=20000){h:T O}{N:Nat}:Fn A.C 157 [.str s] h N (fun u _ _=>u=.int .i64 (fF s)):=by
 intro w
 rw[aV,A.k157 (by simp)]
 simp(disch:=first|(simp;done)|omega|rfl) [-getElem?_pos,A.b157]
 refine az (Zwd (by omega)) ?_
 rintro _ h1 n1 k1 rfl
 by_cases c:aY s=0
 ·have hq:=uJ c hl
  have e:=(BN c).1
  have c':=c
  unfold fF
  rw[aQ c]
  generalize bJ s=q at*
  subst e
  simp(disch:=first|(simp;done)|omega|rfl) [-getElem?_pos,c',aL]
  refine az (Df hq (by omega)) ?_
  rintro v h2 n2 k2 hv
  simp(disch:=first|(simp;done)|omega|rfl) [-getElem?_pos,]
  refine az (Ld hv) ?_
  rintro _ h3 n3 k3 rfl
  by_cases hz:q<0
  ·have:=AE.2 hz
   simp(disch:=first|(simp;done)|omega|rfl) [-getElem?_pos,this,zd,aF,hz]
   exact(k1.trans k2).trans k3
  ·have:¬df q.num<0:=fun hc=>hz (AE.1 hc)
   simp(disch:=first|(simp;done)|omega|rfl) [-getElem?_pos,this,zd,aF,hz]
   exact(k1.trans k2).trans k3
 ·have c':¬((aY s:Nat):Int)=0:=by omega
  simp(disch:=first|(simp;done)|omega|rfl) [-getElem?_pos,c',aL,fF,c,aF]
  exact k1
def Zw9{h:T O}{N:Nat}{v:V}{l:List Int}{w:List Nat}(hs:Sl h N v (dI l))(hl:l.length<1000):A.C.call (.func 21 [] []) [v] ⟨h,N,w⟩=some (.int .i64 (cY l),⟨h,N,w⟩):=by
 apply Call.eq
 have hlen:=hs.len
 rw[g_]at hlen
 rw[aV,A.k21 (by simp)]
 simp(disch:=first|(simp;done)|omega|rfl) [-getElem?_pos,A.b21]
 refine c_ [(2,18)] (fun e r st=>st=⟨h,N,[]⟩/\((e=.exit 0/\cY l=0)\/(e=.ret/\r.get 2=some (.int .i64 (cY l))))) (fun m r st=>st=⟨h,N,[]⟩/\∃k,k+m=l.length/\r.get 3=some (.int .i64 k)/\cY l=cY (l.drop k)) l.length ?_ ?_ ?_
 ·exact⟨rfl,0,by omega,by simp,by simp⟩
 ·rintro m r _ hr hf ⟨rfl,k,hk,h7,hz⟩
  rw[dk]
  cases m with
  |zero=>
   obtain rfl:k=l.length:=by omega
   rw[vR,cY]at hz
   simp(disch:=first|(simp;done)|omega|rfl) [-getElem?_pos,A.rL,hr,hf,h7,hlen,hz]
  |succ m=>
   have aP:k<l.length:=by omega
   obtain⟨c,hc⟩:=fz aP
   obtain⟨i,o,cc,e,rw,q1,q2,q3,q4⟩:=hs.at (gQ hc)
   rw[qk hc,cY]at hz
   have ew:(k:Int)<(l.length:Int):=by omega
   by_cases h0:c=0
   ·rw[aQ h0]at hz
    simp(disch:=first|(simp;done)|omega|rfl) [-getElem?_pos,A.rL,hr,hf,h7,ew,aP,hlen,q1,q3,q4,aL,h0]
    exact⟨m,by omega,k+1,by omega,by simp,hz⟩
   ·rw[aA h0]at hz
    simp(disch:=first|(simp;done)|omega|rfl) [-getElem?_pos,A.rL,hr,hf,h7,ew,aP,hlen,q1,q3,q4,aL,h0,hz]
 ·rintro _ r _ hr ⟨rfl,⟨rfl,hz⟩|⟨rfl,h2⟩⟩
  ·simp(disch:=first|(simp;done)|omega|rfl) [-getElem?_pos,hr,hz]
  ·simp(disch:=first|(simp;done)|omega|rfl) [-getElem?_pos,hr,h2]
def Zu7{h:T O}{N i:Nat}{w:List Nat}{a0 a1:Int}(hi:i<N):A.C.call (.func 21 [] []) [.slice i 0 2 (some 2) 1] ⟨h.set i (.cells [.int .i64 a0,.int .i64 a1] 3 true),N,w⟩=some (.int .i64 (cY [a0,a1]),⟨h.set i (.cells [.int .i64 a0,.int .i64 a1] 3 true),N,w⟩):=
 Zw9 (l:=[a0,a1]) (Sl.row (e:=3) (rw:=true) (cp:=some 2) hi (by simp[dI]) rfl (by simp)) (by simp)
def Zw8{x lo hi:Int}{st:St}:A.C.call (.func 33 [] []) [.int .i64 x,.int .i64 lo,.int .i64 hi] st=some (.int .i64 (if x<lo\/hi<x then 3 else 0),st):=by
 apply Call.eq
 rw[aV,A.k33 (by simp)]
 by_cases h1:x<lo
 ·simp(disch:=first|(simp;done)|omega|rfl) [-getElem?_pos,A.b33,h1]
 ·by_cases h2:hi<x<;>simp(disch:=first|(simp;done)|omega|rfl) [-getElem?_pos,A.b33,h1,h2]
def Sq{s:aU}(hl:s.length<9223372036854775808){h:T O}{N:Nat}:Fn A.C 78 [.str s] h N (fun u _ _=>u=.int .i64 (fF s)):=by
 intro w
 rw[aV,A.k78 (by simp)]
 simp(disch:=first|(simp;done)|omega|rfl) [-getElem?_pos,A.b78]
 refine az (Zku hl) ?_
 rintro _ h1 n1 k1 rfl
 by_cases c:aY s=0
 ·have e:=(BN c).1
  have c':=c
  unfold fF
  rw[aQ c]
  generalize bJ s=q at*
  subst e
  have hs:=fun st=>Np (q:=q) (st:=st)
  by_cases hz:q<0
  ·have:=AE.2 hz
   simp(disch:=first|(simp;done)|omega|rfl) [-getElem?_pos,this,c',aL,hs,aF,hz]
   exact k1
  ·have:¬df q.num<0:=fun hc=>hz (AE.1 hc)
   simp(disch:=first|(simp;done)|omega|rfl) [-getElem?_pos,this,c',aL,hs,aF,hz]
   exact k1
 ·have c':¬((aY s:Nat):Int)=0:=by omega
  simp(disch:=first|(simp;done)|omega|rfl) [-getElem?_pos,c',aL,fF,c,aF]
  exact k1
variable {N:Nat} {d:Int} {g l:aU} {h:T O}
def A.b69:=A.q Tryz.f69
def A.k69:=@A.kk 69 30 [.tmp 2] A.b69 (by kernel_rfl) rfl
def A.b20:=A.q Tryz.f20
def A.k20:=@A.kk 20 27 [.tmp 2] A.b20 (by kernel_rfl) rfl
def A.b18:=A.q Tryz.f18
def A.k18:=@A.kk 18 19 [.tmp 2] A.b18 (by kernel_rfl) rfl
def A.b42:=A.q Tryz.f42
def A.k42:=@A.kk 42 9 [.tmp 4] A.b42 (by kernel_rfl) rfl
def A.b48:=A.q Tryz.f48
def A.k48:=@A.kk 48 9 [.tmp 4] A.b48 (by kernel_rfl) rfl
def Yap{i:Nat}{w:List Nat}{a0 a1 a2:Int}(hi:i<N):A.C.call (.func 68 [] []) [.slice i 0 3 (some 3) 1] ⟨h.set i (.cells [.int .i64 a0,.int .i64 a1,.int .i64 a2] 31 true),N,w⟩=some (.int .i64 (cY [a0,a1,a2]),⟨h.set i (.cells [.int .i64 a0,.int .i64 a1,.int .i64 a2] 31 true),N,w⟩):=
 Zv5 (l:=[a0,a1,a2]) (Sl.row (e:=31) (rw:=true) (cp:=some 3) hi (by simp[dI]) rfl (by simp)) (by simp)
def Dl{a b:Rat}{j k:Nat}(ha:Qb j a)(hb:Qb k b)(hj:j<=400000000)(hk:k<=400000000)(hl:(ax b).length<1000000000):Fn A.C 42 [.str (ax a),.str (ax b)] h N (fun u _ _=>u=.str (ax (a-b))):=by
 intro w
 have hn:=fun st=>Ya9 (q:=b) (st:=st) hl
 rw[aV,A.k42 (by simp)]
 simp(disch:=first|(simp;done)|omega|rfl) [-getElem?_pos,A.b42,hn]
 refine az (AI (a:=a) (b:= -b) ha hb.neg hj hk) ?_
 rintro _ H1 n1 k1 rfl
 rw[<-Rat.sub_eq_add_neg]
 simp(disch:=first|(simp;done)|omega|rfl) [-getElem?_pos,aF]
 exact k1
def zg{a b:Rat}{j k:Nat}(ha:Qb j a)(hb:Qb k b)(hj:j<=400000000)(hk:k<=400000000)(hl:(ax b).length<1000000000):Fn A.C 48 [.str (ax a),.str (ax b)] h N (fun u _ _=>u=.int .i64 (df (a-b).num)):=by
 intro w
 rw[aV,A.k48 (by simp)]
 simp(disch:=first|(simp;done)|omega|rfl) [-getElem?_pos,A.b48]
 refine az (Dl ha hb hj hk hl) ?_
 rintro _ H1 n1 k1 rfl
 have hs:=fun st=>Np (q:=a-b) (st:=st)
 simp(disch:=first|(simp;done)|omega|rfl) [-getElem?_pos,hs,aF]
 exact k1
def Zz0{z:Int}:df z > 0↔0<z:=by
 unfold df;split
 ·constructor<;>intro<;>omega
 ·split<;>constructor<;>intro<;>omega
def Ya0{q:Rat}:0<q.num↔0<q:=by rw[Rat.lt_iff (a:=0)];simp
def Nr:ax 1=[49]:=by decide+kernel
def ki(g l p:aU)(d:Int):Int:=if cY [fF g,fF l]=0 then (if 1<bJ l then 3 else cY [fF p,if d<0\/6<d then 3 else 0]) else cY [fF g,fF l]
def R4{a b:Int}(h:cY [a,b]=0):a=0/\b=0:=by
 unfold cY at h
 split at h
 ·rename_i ha;unfold cY at h;split at h
  ·exact⟨ha,by assumption⟩
  ·omega
 ·omega
def Dk{s:aU}(h:fF s=0):aY s=0/\¬bJ s<0:=by
 unfold fF at h
 split at h
 ·rename_i c;split at h
  ·omega
  ·exact⟨c,by assumption⟩
 ·omega
def Ydh{p:aU}{n:Nat}(hg:g.length<=n)(hl:l.length<=n)(hp:p.length<=n)(hn:n<=20000){h:T O}{N:Nat}:Fn A.C 69 [.agg [.str g,.str l,.str p,.int .i64 d]] h N (fun u _ _=>u=.int .i64 (ki g l p d)):=by
 intro w
 rw[aV,A.k69 (by simp)]
 have kB:=aI (ae.refl (h:=h) (n:=N)) (.cells [.str g,.str l,.str p,.int .i64 d] 24 true)
 simp(disch:=first|(simp;done)|omega|rfl) [-getElem?_pos,A.b69]
 have b0:(h.set N (.cells [.str g,.str l,.str p,.int .i64 d] 24 true)).get N=some (.cells [.str g,.str l,.str p,.int .i64 d] 24 true):=by simp
 generalize h.set N (.cells [.str g,.str l,.str p,.int .i64 d] 24 true)=hB at*
 refine az (NQ hg hn) ?_
 rintro _ h1 n1 k1 rfl
 have e1:=k1.le
 have f1:=(k1.get N (by omega)).trans b0
 have g1:N<n1:=by omega
 simp(disch:=first|(simp;done)|omega|rfl) [-getElem?_pos,f1,g1]
 refine az (NQ hl hn) ?_
 rintro _ h2 n2 k2 rfl
 have e2:=k2.le
 have f2:=(k2.get N (by omega)).trans f1
 have g2:N<n2:=by omega
 have hi:n2<n2+1:=by omega
 have kC:=((kB.trans k1).trans k2).trans (aI (ae.refl (h:=h2) (n:=n2)) (.cells [.int .i64 (fF g),.int .i64 (fF l)] 31 true))
 simp(disch:=first|(simp;done)|omega|rfl) [-getElem?_pos,f2,g2,ag,bU.bZ,Lk hi]
 by_cases c:cY [fF g,fF l]=0
 ·have c0:=R4 c
  obtain⟨q0,q1⟩:=Dk c0.2
  have hq:=uJ q0 hl
  have e:=(BN q0).1
  have f3:(h2.set n2 (.cells [.int .i64 (fF g),.int .i64 (fF l)] 31 true)).get N=some (.cells [.str g,.str l,.str p,.int .i64 d] 24 true):=by
   rw[T.aj,aA (by omega)];exact f2
  generalize h2.set n2 (.cells [.int .i64 (fF g),.int .i64 (fF l)] 31 true)=h3 at*
  have e3:=kC.le
  have g3:N<n2+1:=by omega
  simp(disch:=first|(simp;done)|omega|rfl) [-getElem?_pos,c,aL,f3,g3]
  unfold ki
  rw[aQ c]
  generalize bJ l=q at*
  subst e
  refine az (Df hq (by omega)) ?_
  rintro v4 h4 n4 k4 Ke
  simp(disch:=first|(simp;done)|omega|rfl) [-getElem?_pos,]
  refine az (xj (z:=1) (by omega) (by omega)) ?_
  rintro v5 h5 n5 k5 T3
  have wq:=hq.iC
  have w1:=(Qb.int (z:=1) (k:=1) (by decide) (by decide)).iC
  simp(disch:=first|(simp;done)|omega|rfl) [-getElem?_pos,]
  refine az (Iq (Ke.ah k5) T3 (by omega) (by omega) (by omega) (by omega)) ?_
  rintro _ h6 n6 k6 rfl
  have ec:(df (q.num*(((1:Int):Rat).den:Nat)-((1:Int):Rat).num*(q.den:Nat)) > 0)↔1<q:=by
   have h1:1<q↔((1:Int):Rat).num*(q.den:Nat)<q.num*(((1:Int):Rat).den:Nat):=by
    rw[Rat.lt_iff];rfl
   rw[h1];unfold df;split
   ·constructor<;>intro<;>omega
   ·split<;>constructor<;>intro<;>omega
  generalize df (q.num*(((1:Int):Rat).den:Nat)-((1:Int):Rat).num*(q.den:Nat))=cz at*
  have kD:=((kC.trans k4).trans k5).trans k6
  have e4:=k4.le
  have e5:=k5.le
  have e6:=k6.le
  have f6:=(((k4.trans k5).trans k6).get N (by omega)).trans f3
  have g6:N<n6:=by omega
  have hi6:=fun (m:Nat)=>tO m
  by_cases cc:1<q
  ·have uB:0<cz:=ec.2 cc
   simp(disch:=first|(simp;done)|omega|rfl) [-getElem?_pos,f6,g6,uB,zd]
   refine az (NQ hp hn) ?_
   rintro _ h7 n7 k7 rfl
   have e7:=k7.le
   have f7:=(k7.get N (by omega)).trans f6
   have g7:N<n7:=by omega
   have EB:n7<n7+1:=by omega
   simp(disch:=first|(simp;done)|omega|rfl) [-getElem?_pos,f7,g7,Zl6,ag,bU.bZ,Yap EB,aF,cc,cY]
   exact(kD.trans k7).trans (aI (ae.refl) _)
  ·have uB:¬0<cz:=fun h=>cc (ec.1 h)
   simp(disch:=first|(simp;done)|omega|rfl) [-getElem?_pos,f6,g6,uB,zd]
   refine az (NQ hp hn) ?_
   rintro _ h7 n7 k7 rfl
   have e7:=k7.le
   have f7:=(k7.get N (by omega)).trans f6
   have g7:N<n7:=by omega
   have EB:n7<n7+1:=by omega
   simp(disch:=first|(simp;done)|omega|rfl) [-getElem?_pos,f7,g7,Zl6,ag,bU.bZ,Yap EB,aF,cc]
   exact⟨(kD.trans k7).trans (aI (ae.refl) _),by simp[cY]⟩
 ·simp(disch:=first|(simp;done)|omega|rfl) [-getElem?_pos,c,aL,ki,aF]
  exact kC
def Yja{p:aU}(hg:g.length<100000)(hl:l.length<100000)(hp:p.length<100000){h:T O}{N:Nat}:Fn A.C 20 [.agg [.str g,.str l,.str p,.int .i64 d]] h N (fun u _ _=>u=.int .i64 (ki g l p d)):=by
 intro w
 rw[aV,A.k20 (by simp)]
 have kB:=aI (ae.refl (h:=h) (n:=N)) (.cells [.str g,.str l,.str p,.int .i64 d] 26 true)
 simp(disch:=first|(simp;done)|omega|rfl) [-getElem?_pos,A.b20]
 have b0:(h.set N (.cells [.str g,.str l,.str p,.int .i64 d] 26 true)).get N=some (.cells [.str g,.str l,.str p,.int .i64 d] 26 true):=by simp
 generalize h.set N (.cells [.str g,.str l,.str p,.int .i64 d] 26 true)=hB at*
 refine az (Sq (by omega)) ?_
 rintro _ h1 n1 k1 rfl
 have e1:=k1.le
 have f1:=(k1.get N (by omega)).trans b0
 have g1:N<n1:=by omega
 simp(disch:=first|(simp;done)|omega|rfl) [-getElem?_pos,f1,g1]
 refine az (Sq (by omega)) ?_
 rintro _ h2 n2 k2 rfl
 have e2:=k2.le
 have f2:=(k2.get N (by omega)).trans f1
 have g2:N<n2:=by omega
 have hi:n2<n2+1:=by omega
 have kC:=((kB.trans k1).trans k2).trans (aI (ae.refl (h:=h2) (n:=n2)) (.cells [.int .i64 (fF g),.int .i64 (fF l)] 3 true))
 simp(disch:=first|(simp;done)|omega|rfl) [-getElem?_pos,f2,g2,ag,bU.bZ,Zu7 hi]
 by_cases c:cY [fF g,fF l]=0
 ·have c0:=R4 c
  obtain⟨q0,q1⟩:=Dk c0.2
  have hq:=uJ q0 (aZ _)
  have e:=(BN q0).1
  have f3:(h2.set n2 (.cells [.int .i64 (fF g),.int .i64 (fF l)] 3 true)).get N=some (.cells [.str g,.str l,.str p,.int .i64 d] 26 true):=by
   rw[T.aj,aA (by omega)];exact f2
  generalize h2.set n2 (.cells [.int .i64 (fF g),.int .i64 (fF l)] 3 true)=h3 at*
  have e3:=kC.le
  have g3:N<n2+1:=by omega
  simp(disch:=first|(simp;done)|omega|rfl) [-getElem?_pos,c,aL,f3,g3]
  unfold ki
  rw[aQ c]
  generalize bJ l=q at*
  subst e
  have hc:=zg (a:=q) (b:=1) (k:=1) (h:=h3) (N:=n2+1) hq (by unfold Qb;decide) (by have:=hl;have:=Bo hq.1;omega) (by decide) (by rw[Nr];decide)
  rw[Nr]at hc
  refine az hc ?_
  rintro _ h6 n6 k6 rfl
  have e6:=k6.le
  have f6:=(k6.get N (by omega)).trans f3
  have g6:N<n6:=by omega
  by_cases cc:1<q
  ·have uB:0<df (q-1).num:=Zz0.2 (Ya0.2 (by have:=cc;rw[Rat.sub_eq_add_neg];rw[Rat.lt_iff_sub_pos]at this;simpa[Rat.sub_eq_add_neg]using this))
   simp(disch:=first|(simp;done)|omega|rfl) [-getElem?_pos,f6,g6,uB,aF,cc]
   exact kC.trans k6
  ·have uB:¬0<df (q-1).num:=fun h=>cc (by have:=Ya0.1 (Zz0.1 h);rw[Rat.lt_iff_sub_pos];exact this)
   simp(disch:=first|(simp;done)|omega|rfl) [-getElem?_pos,f6,g6,uB]
   refine az (Sq (by omega)) ?_
   rintro _ h7 n7 k7 rfl
   have e7:=k7.le
   have f7:=(k7.get N (by omega)).trans f6
   have g7:N<n7:=by omega
   have EB:n7<n7+1:=by omega
   simp(disch:=first|(simp;done)|omega|rfl) [-getElem?_pos,f7,g7,Zw8,ag,bU.bZ,Zu7 EB,aF,cc]
   exact(((kC.trans k6)).trans k7).trans (aI (ae.refl) _)
 ·simp(disch:=first|(simp;done)|omega|rfl) [-getElem?_pos,c,aL,ki,aF]
  exact kC
def Zu3{p:aU}(hg:g.length<9223372036854775808)(hl:l.length<9223372036854775808)(hp:p.length<9223372036854775808):Fn A.C 18 [.agg [.str g,.str l,.str p,.int .i64 d]] h N (fun u _ _=>u=.bool (decide (g.length<=40/\l.length<=40/\p.length<=40))):=by
 intro w
 rw[aV,A.k18 (by simp)]
 by_cases c1:g.length<=40
 ·have d1:(g.length:Int)<=40:=by omega
  by_cases c2:l.length<=40
  ·have d2:(l.length:Int)<=40:=by omega
   by_cases c3:p.length<=40
   ·have d3:(p.length:Int)<=40:=by omega
    simp(disch:=first|(simp;done)|omega|rfl) [-getElem?_pos,A.b18,d1,d2,d3,c1,c2,c3,aF]
    exact aI (ae.refl) _
   ·have d3:¬(p.length:Int)<=40:=by omega
    simp(disch:=first|(simp;done)|omega|rfl) [-getElem?_pos,A.b18,d1,d2,d3,c1,c2,c3,aF]
    exact aI (ae.refl) _
  ·have d2:¬(l.length:Int)<=40:=by omega
   simp(disch:=first|(simp;done)|omega|rfl) [-getElem?_pos,A.b18,d1,d2,c1,c2,aF]
   exact aI (ae.refl) _
 ·have d1:¬(g.length:Int)<=40:=by omega
  simp(disch:=first|(simp;done)|omega|rfl) [-getElem?_pos,A.b18,d1,c1,aF]
  exact aI (ae.refl) _
variable {N R:Nat} {h:T O} {l:List Rat}
def Zsu{cs:List (List V)}{c B:List V}{j:Nat}(h4:∀x∈cs,x.length=4)(hj:j<cs.length)(hc:c.length=4):ag (cs.flatten++B) (j*4) c=(cs.set j c).flatten++B:=by
 obtain⟨x,hx⟩:=fz hj
 have e:cs=cs.take j++x::cs.drop (j+1):=by
  have:=A6 j cs
  rw[qk hx]at this
  exact this.symm
 have hl:(cs.take j).flatten.length=j*4:=by
  rw[vX (z:=4) (fun y hy=>h4 y (B0 hy)),lW,pA (by omega)]
 have hs:cs.set j c=cs.take j++c::cs.drop (j+1):=by rw[List.set_eq_take_append_cons_drop,aQ hj]
 rw[hs]
 conv=>lhs;rw[e]
 simp only[List.flatten_append,List.flatten_cons,sQ]
 rw[Zhs hl (h4 x (eZ hx)) hc]
structure lD (h:T O) (N R:Nat) (l:List Rat) (m:Nat):Prop where
 lt:R<N
 ex:∃cs:List (List V),h.get R=some (.cells (cs.flatten++dw zF m) 110 true)/\cs.length=l.length/\∀(j:Nat) (q:Rat),l[j]?=some q->∃c,cs[j]?=some c/\dB h N c q
def lD.ah{h':T O}{N' m:Nat}(s:lD h N R l m)(k:ae h N h' N'):lD h' N' R l m:=by
 obtain⟨cs,g1,g2,g3⟩:=s.ex
 refine⟨h_ s.lt k.le,cs,(k.get R s.lt).trans g1,g2,fun j q hq=>?_⟩
 obtain⟨c,a,b⟩:=g3 j q hq
 exact⟨c,a,b.ah k⟩
def lD.M9{cs:List (List V)}(g2:cs.length=l.length)(g3:∀(j:Nat) (q:Rat),l[j]?=some q->∃c,cs[j]?=some c/\dB h N c q):(∀c∈cs,c.length=4)/\sD cs.flatten/\cs.flatten.all V.one=true:=Zuc (l:=l) (by omega) fun j q _ hq=>g3 j q hq
def lD.next{m:Nat}{c:List V}{q:Rat}(s:lD h N R l (m+1))(hc:dB h N c q):∃X,h.get R=some (.cells X 110 true)/\l.length*4+4<=X.length/\lD (h.set R (.cells (ag X (l.length*4) c) 110 true)) N R (l++[q]) m:=by
 obtain⟨cs,g1,g2,g3⟩:=s.ex
 obtain⟨f1,f2,_⟩:=lD.M9 g2 g3
 have pX:=vX f1
 obtain⟨e1,_⟩:=hc.len
 have lh:ag (cs.flatten++dw zF (m+1)) (l.length*4) c=(cs++[c]).flatten++dw zF m:=by
  rw[MG,Zhs (n:=4) (by rw[pX,g2]) rfl e1,Ug,sQ]
 have EG:sD (cs.flatten++dw zF (m+1)):=f2.app Na
 have yb:((cs++[c]).flatten++dw zF m).length=(cs.flatten++dw zF (m+1)).length:=by
  rw[MG,Ug];simp[e1,zF];omega
 refine⟨_,g1,by rw[jb,pX,g2,Yha];omega,s.lt,cs++[c],by rw[T.aj,aQ rfl,lh],by simp[g2],fun j r hr=>?_⟩
 rw[lh]
 by_cases e:j<l.length
 ·rw[rR e]at hr
  obtain⟨x,a,b⟩:=g3 j r hr
  exact⟨x,by rw[rR (by omega)];exact a,b.aG g1 EG yb⟩
 ·have hj:j=l.length:=by have:=yS hr;simp at this;omega
  subst hj
  rw[xg (aZ _)]at hr
  simp at hr
  subst hr
  exact⟨c,by rw[xg (by omega),g2];simp,hc.aG g1 EG yb⟩
def lD.put{j:Nat}{c:List V}{q:Rat}(s:lD h N R l 0)(hc:dB h N c q)(hj:j<l.length):∃X,h.get R=some (.cells X 110 true)/\j*4+4<=X.length/\lD (h.set R (.cells (ag X (j*4) c) 110 true)) N R (l.set j q) 0:=by
 obtain⟨cs,g1,g2,g3⟩:=s.ex
 obtain⟨f1,f2,_⟩:=lD.M9 g2 g3
 have pX:=vX f1
 obtain⟨e1,_⟩:=hc.len
 have lh:ag (cs.flatten++dw zF 0) (j*4) c=(cs.set j c).flatten++dw zF 0:=Zsu f1 (by omega) e1
 have EG:sD (cs.flatten++dw zF 0):=f2.app Na
 have yb:((cs.set j c).flatten++dw zF 0).length=(cs.flatten++dw zF 0).length:=by
  rw[jb,jb,pX,vX (z:=4) fun x hx=>?_,Dm]
  rcases Dh hx with hx|rfl
  ·exact f1 x hx
  ·exact e1
 refine⟨_,g1,by rw[jb,pX];omega,s.lt,cs.set j c,by rw[T.aj,aQ rfl,lh],by simp[g2],fun i r hr=>?_⟩
 rw[lh]
 by_cases e:i=j
 ·subst e
  rw[sI hj]at hr
  simp only[au]at hr
  subst hr
  exact⟨c,by rw[sI (by omega)],hc.aG g1 EG yb⟩
 ·rw[eR (Ne.symm e)]at hr ⊢
  obtain⟨x,a,b⟩:=g3 i r hr
  exact⟨x,a,b.aG g1 EG yb⟩
def lD.frt(s:lD h N R l 0):nK h N (.slice R 0 l.length (some l.length) 4) l:=by
 obtain⟨cs,g1,g2,g3⟩:=s.ex
 obtain⟨f1,f2,_⟩:=lD.M9 g2 g3
 have hz:dw zF 0=[]:=by simp[dw]
 rw[hz,AD]at g1
 refine⟨⟨cs,.inr ⟨R,0,some l.length,cs.flatten,_,true,by rw[g2],s.lt,g1,fun j x hj=>by rw[vW];exact KV f1 hj,by rw[vX f1];omega,fun k hk=>by simp at hk;omega⟩,g2,g3⟩,fun i hi=>?_⟩
 simp[dR]at hi
 subst hi
 exact⟨_,_,g1⟩
variable {N R:Nat} {h:T O} {l:List Rat}
def A.zdH:=A.q Tryz.f108
def A.zgy:=A.ql A.zdH 0 []
def A.b108:=(fun x0=>A.qb A.zdH [x0]) A.zgy
def A.k108:=@A.kk 108 14 [.tmp 2] A.b108 (by kernel_rfl) rfl
def Ywq{l:List V}{i:Nat}{u:V}(h:i<l.length):ag l i [u]=l.set i u:=by
 unfold ag
 rw[List.set_eq_take_append_cons_drop,aQ h]
 simp
def Xar{l:List V}:(l.map fun y=>[y]).flatten=l:=by
 induction l with
 |nil=>rfl
 |cons a t ih=>simp[ih]
structure Ln (h:T O) (N R:Nat) (l:List Rat):Prop where
 lt:R<N
 get:h.get R=some (.cells (tx l) 22 true)
def Ln.ah{h':T O}{N':Nat}(s:Ln h N R l)(k:ae h N h' N'):Ln h' N' R l:=⟨h_ s.lt k.le,(k.get R s.lt).trans s.get⟩
def Ln.put{j:Nat}{q:Rat}(s:Ln h N R l)(hj:j<l.length):ag (tx l) j [.str (ax q)]=tx (l.set j q)/\Ln (h.set R (.cells (tx (l.set j q)) 22 true)) N R (l.set j q):=by
 refine⟨?_,s.lt,by rw[T.aj,aQ rfl]⟩
 rw[Ywq (by rw[rS];exact hj)]
 simp[tx,strs,List.map_set]
def Ln.txt(s:Ln h N R l):Ii h N (.slice R 0 l.length none 1) l:=⟨Sl.row s.lt s.get (rS l) (fun k hk=>by cases hk),fun i hi=>by
 simp[dR]at hi
 subst hi
 exact⟨_,_,s.get⟩⟩
def Yxq{n:Nat}(h0:0<n)(hn:n<1000):Fn A.C 108 [.int .i64 n] h N (fun x h' n'=>∃R,x=.slice R 0 n none 1/\N<=R/\Ln h' n' R ((List.range n).map fun _=>0)):=by
 intro w
 rw[aV,A.k108 (by simp)]
 simp(disch:=first|(simp;done)|omega|rfl) [-getElem?_pos,A.b108]
 refine c_ [(3,12)] (fun e r st=>e=.exit 0/\aD N st.w=[]/\ae h N st.h st.n/\∃v,r.get 3=some v/\Own 1 22 N st.h st.n v ((tx ((List.range n).map fun _=>0)).map fun y=>[y])) (fun m r st=>aD N st.w=[]/\ae h N st.h st.n/\∃t v,t+m=n/\r.get 4=some (.int .i64 t)/\r.get 3=some v/\Own 1 22 N st.h st.n v ((tx ((List.range t).map fun _=>0)).map fun y=>[y])) n ?_ ?_ ?_
 ·exact⟨by simp,ae.refl,0,_,by omega,by simp,by simp,Own.nil⟩
 ·rintro m r ⟨H,n1,W⟩ hr hf ⟨hW,hK,t,v,ht,h4,h3,hO⟩
  simp only at hW hK hO
  rw[dk]
  have le:=hK.le
  cases m with
  |zero=>
   obtain rfl:t=n:=by omega
   simp(disch:=first|(simp;done)|omega|rfl) [-getElem?_pos,A.zgy,hr,hf,h3,h4,hW,hK]
   exact hO
  |succ m=>
   have aP:t<n:=by omega
   have dE:(t:Int)<(n:Int):=by omega
   have sp1:ag [V.str []] 0 [.str [48]]=[.str [48]]:=rfl
   have kD:ae H n1 (H.set n1 (.cells [.str [48]] 22 true)) (n1+1):=ae.refl.new _
   obtain⟨v',h',w',j1,j2,j3,_,j5⟩:=xh (x:=[.str [48]]) (u:=.slice n1 0 1 (some 1) 1) (bytes:=16) (w:=W) (hO.ah kD) (by omega) (by decide) rfl (by simp[gp,St.row,aE]) (by simp[tx,strs];omega)
   have kF:ae h N h' (n1+1+1):=(hK.trans kD).then j3
   simp(disch:=first|(simp;done)|omega|rfl) [-getElem?_pos,A.zgy,hr,hf,h3,h4,aP,dE,sp1,Zsa,j1,j2,hW,kF]
   refine⟨m,by omega,t+1,by omega,by simp,?_⟩
   have e:(tx ((List.range (t+1)).map fun _=>(0:Rat))).map (fun y=>[y])=(tx ((List.range t).map fun _=>(0:Rat))).map (fun y=>[y])++[[.str [48]]]:=by
    rw[List.range_succ,List.map_append]
    simp[tx,strs]
    rfl
   rw[e]
   exact j5
 ·rintro _ r ⟨H,n1,W⟩ hr ⟨rfl,hW,hK,v,h3,hO⟩
  simp only at hW hK hO
  obtain⟨hl,⟨hz,_⟩|⟨R,rfl,h1,h2,h3'⟩⟩:=hO
  ·have:=congrArg List.length hz
   simp[tx,strs]at this
   omega
  ·simp(disch:=first|(simp;done)|omega|rfl) [-getElem?_pos,hr,h3,aF,hW,hK]
   refine⟨R,⟨rfl,by rw[rS];simp⟩,h1,h2,?_⟩
   rw[h3',Xar]
end
end Go.Mx
