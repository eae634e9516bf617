/-num-/
import Derived.Test.YtmhlaoiplmemiaaGreatDoorVbH
set_option linter.all false
namespace Go.Mx
open Go Go.Proofs
set_option maxHeartbeats 1000000
set_option maxRecDepth 1000000
noncomputable def A.w57:=A.q Tryz.f57
noncomputable def A.lb57_0:=A.ql A.w57 0 []
noncomputable def A.b57:=(fun x0=>A.qb A.w57 [x0]) A.lb57_0
def A.k57:=@A.kk 57 29 [.tmp 2,.tmp 3] A.b57 (by kernel_rfl) rfl
def Ygl{h:T O}{N k:Nat}{u:V}{m:List (List Rat)}(hu:MfS h N u m)(hP:P10 h N)(hl:m.length<10000)(hr:∀r∈m,r.length<1000000000)(hq:QbM m k)(hk:k≤400000000):Fn A.C 57 [u] h N (fun x h' n'=>(Ztc m=true∧x=.tup [.nilslice,.int .i64 4])∨(Ztc m=false∧∃v,x=.tup [v,.int .i64 0]∧TxM h' n' v m)):=by
 intro w
 have l1:=hu.len
 rw[Zaa,A.k57 (by simp)]
 simp[A.b57,l1]
 refine Zag [(2,4),(6,8),(11,27)] (fun e r st=>oldIds N st.w=[]∧Keeps h N st.h st.n∧((e=.exit 0∧Ztc m=false∧∃v,r.get 4=some v∧MtO N st.h st.n v m)∨(e=.ret∧Ztc m=true∧r.get 2=some .nilslice∧r.get 3=some (.int .i64 4)))) (fun i r st=>oldIds N st.w=[]∧Keeps h N st.h st.n∧∃t v,t+i=m.length∧r.get 11=some (.int .i64 t)∧Ztc m=Ztc (m.drop t)∧r.get 4=some v∧MtO N st.h st.n v (m.take t)) m.length ?_ ?_ ?_
 ·exact⟨by simp,Keeps.refl,0,_,by omega,by simp,by simp,by simp,MtO.nil⟩
 ·rintro i r ⟨H,n,W⟩ hr0 hf ⟨hW,hK,t,v,ht,h11,hz,h4,hO⟩
  simp only at hW hK hO
  rw[Zah]
  have le:=hK.le
  cases i with
  |zero=>
   obtain rfl:t=m.length:=by omega
   rw[Yvu]at hz
   rw[Yuy (Yus _)]at hO
   have hz':Ztc m=false:=by rw[hz];rfl
   simp[A.lb57_0,hr0,hf,h11,h4,hz',hW,hK]
   exact hO
  |succ i=>
   have hlt:t<m.length:=by omega
   have hlt':(t:Int)<(m.length:Int):=by omega
   obtain⟨row,hrow⟩:=Zaf hlt
   have hm:=Yux hrow
   obtain⟨i1,o1,x1,e1,w1,c,p1,p2,p3,p4,p5⟩:=Zqa (hu.keep hK) hrow
   rw[Zaq hrow]at hz
   simp[A.lb57_0,hr0,hf,h11,h4,hlt,hlt',l1,p1,p2,p3,p4]
   refine Zab (Zvr p5.1 (hP.keep hK) (hr row hm) (hq row hm) hk) ?_
   rintro _ H3 n3 k3 (⟨hb,rfl⟩|⟨hb,x,rfl,tx⟩)
   ·have hz':Ztc m=true:=by rw[hz];simp[Ztc,hb]
    simp[hr0,hf,Zae,hW,hz']
    exact hK.trans k3
   ·have hz':Ztc m=Ztc (m.drop (t+1)):=by rw[hz];simp[Ztc,hb]
    have ox:V.one x=true∧V.cells x=[x]:=⟨Sl.one1 tx.1,Sl.cells1 tx.1⟩
    have le3:=k3.le
    have kD:Keeps H3 n3 (H3.set n3 (.cells [x] 28 true)) (n3+1):=Keeps.refl.new _
    have sp1:splice [V.nilslice] 0 [x]=[x]:=rfl
    obtain⟨v',h',w',j1,j2,j3,j4⟩:=MtO.push (N0:=N) (x:=.slice n3 0 1 (some 1) 1) (w:=W) ((hO.keep k3).keep kD) (TxT.keep tx kD) (by omega) (by simp[Zat,St.row,slc]) (by rw[Yvh];omega)
    have kF:Keeps h N h' (n3+1+1):=((hK.trans k3).trans kD).then j3
    simp(disch:=first|(simp;done)|omega|rfl) [-V.cells, -V.one,hr0,hf,h11,h4,Zae,hW,hz',ox.1,ox.2,sp1,Zbs,j1]
    exact⟨i,by omega,by rw[j2];exact hW,kF,t+1,by omega,by simp,rfl,by rw[Yw0,hrow];exact j4⟩
 ·rintro e r ⟨H,n,W⟩ hr0 ⟨hW,hK,⟨rfl,hz,v,h4,hO⟩|⟨rfl,hz,h2,h3⟩⟩
  ·simp only at hW hK hO
   simp[hr0,h4,Ret,hW,hK,hz]
   exact hO.txm
  ·simp only at hW hK
   simp[hr0,h2,h3,Ret,hW,hK,hz]
noncomputable def A.b5:=A.q Tryz.f5
def A.k5:=@A.kk 5 31 [.tmp 4] A.b5 (by kernel_rfl) rfl
noncomputable def A.w21:=A.q Tryz.f21
noncomputable def A.lb21_0:=A.ql A.w21 0 []
noncomputable def A.b21:=(fun x0=>A.qb A.w21 [x0]) A.lb21_0
def A.k21:=@A.kk 21 25 [.tmp 6] A.b21 (by kernel_rfl) rfl
def Yp1(q:Rat)(d:Nat):Bool:=decide ((decN q.num.natAbs).length≤d)&&decide ((decN q.den).length≤d)
def Zsp(s:Str)(d:Nat):Bool:=decide (s.length≤2*d+2)&&(decide (chkNum s=0)&&Yp1 (Zfb s) d)
def Yaa(l:List Str)(n d:Nat):Bool:=decide (l.length≤n)&&l.all fun s=>Zsp s d
def Ztj(q:Rat):(decI q.num).length≤(Zas q).length:=by
 unfold Zas
 split<;>simp
def Yjz{h:T O}{N d:Nat}{s:Str}(hd:d≤100):Fn A.C 5 [.str s,.int .i64 (d:Nat)] h N (fun u _ _=>u=.bool (Zsp s d)):=by
 intro w
 rw[Zaa,A.k5 (by simp)]
 by_cases c1:s.length≤2*d+2
 ·have c1':(s.length:Int)≤2*(d:Int)+2:=by omega
  simp(disch:=first|(simp;done)|omega|rfl) [-getElem?_pos,A.b5,c1']
  refine Zab (Zro (s:=s) (by omega)) ?_
  rintro _ h1 n1 k1 rfl
  by_cases c2:chkNum s=0
  ·have et:=(Zhq c2).1
   obtain⟨q,hq⟩:∃q,Zfb s=q:=⟨_,rfl⟩
   rw[hq]at et
   have hl:(Zas q).length<1000000000:=by rw[et];omega
   have e1:=fun st=>Ylu (q:=q) (st:=st) hl
   have e2:=fun st=>Yni (q:=q) (st:=st) hl
   rw[et]at e1 e2
   have hln:(decI q.num).length<1000000000:=by
    have:=Ztj q
    rw[et]at this
    omega
   have e3:=fun st=>Yn8 (z:=q.num) (st:=st) hln
   by_cases c3:(decN q.num.natAbs).length≤d
   ·have c3':((decN q.num.natAbs).length:Int)≤(d:Int):=by omega
    by_cases c4:(decN q.den).length≤d
    ·have c4':((decN q.den).length:Int)≤(d:Int):=by omega
     simp(disch:=first|(simp;done)|omega|rfl) [-getElem?_pos,c2,Zae,e1,e2,e3,c3',c4',Ret]
     exact⟨k1,by simp[Zsp,Yp1,c1,c2,hq,c3,c4]⟩
    ·have c4':¬((decN q.den).length:Int)≤(d:Int):=by omega
     simp(disch:=first|(simp;done)|omega|rfl) [-getElem?_pos,c2,Zae,e1,e2,e3,c3',c4',Ret]
     exact⟨k1,by simp[Zsp,Yp1,c1,c2,hq,c3,c4]⟩
   ·have c3':¬((decN q.num.natAbs).length:Int)≤(d:Int):=by omega
    simp(disch:=first|(simp;done)|omega|rfl) [-getElem?_pos,c2,Zae,e1,e2,e3,c3',Ret]
    exact⟨k1,by simp[Zsp,Yp1,c1,c2,hq,c3]⟩
  ·have c2':¬((chkNum s:Nat):Int)=0:=by omega
   simp(disch:=first|(simp;done)|omega|rfl) [-getElem?_pos,c2,c2',Zae,Ret]
   exact⟨k1,by simp[Zsp,c2]⟩
 ·have c1':¬(s.length:Int)≤2*(d:Int)+2:=by omega
  simp(disch:=first|(simp;done)|omega|rfl) [-getElem?_pos,A.b5,c1',Ret]
  exact⟨Keeps.refl,by simp[Zsp,c1]⟩
def Ym3{h:T O}{N d n:Nat}{v:V}{l:List Str}(hs:Sl h N v (strs l))(hl:l.length<9223372036854775808)(hd:d≤100)(hn:n≤1000):Fn A.C 21 [v,.int .i64 (n:Nat),.int .i64 (d:Nat)] h N (fun u _ _=>u=.bool (Yaa l n d)):=by
 intro w
 have hlen:=hs.len
 rw[Zbl]at hlen
 rw[Zaa,A.k21 (by simp)]
 by_cases c0:l.length≤n
 ·have c0':¬(n:Int)<(l.length:Int):=by omega
  have e0:Yaa l n d=l.all fun s=>Zsp s d:=by simp[Yaa,c0]
  rw[e0]
  simp(disch:=first|(simp;done)|omega|rfl) [-getElem?_pos,A.b21,hlen,c0']
  refine Zag [(6,7),(12,24)] (fun e r st=>oldIds N st.w=[]∧Keeps h N st.h st.n∧((e=.exit 0∧(l.all fun s=>Zsp s d)=true)∨(e=.ret∧(l.all fun s=>Zsp s d)=false∧r.get 6=some (.bool false)))) (fun m r st=>oldIds N st.w=[]∧Keeps h N st.h st.n∧∃k,k+m=l.length∧r.get 7=some (.int .i64 k)∧(l.all fun s=>Zsp s d)=((l.drop k).all fun s=>Zsp s d)) l.length ?_ ?_ ?_
  ·exact⟨by simp,Keeps.refl,0,by omega,by simp,by simp⟩
  ·rintro m r ⟨H,n1,W⟩ hr hf ⟨hW,hK,k,hk,h7,hz⟩
   simp only at hW hK
   rw[Zah]
   cases m with
   |zero=>
    obtain rfl:k=l.length:=by omega
    rw[Yvu,List.all_nil]at hz
    simp(disch:=first|(simp;done)|omega|rfl) [-getElem?_pos,A.lb21_0,hr,hf,h7,hlen,hW,hK]
    simpa using hz
   |succ m=>
    have hlt:k<l.length:=by omega
    have hlt':(k:Int)<(l.length:Int):=by omega
    obtain⟨s,hsk⟩:=Zaf hlt
    obtain⟨i,o,cc,e,rw,q1,q2,q3,q4⟩:=(hs.keep hK).at (Zff hsk)
    rw[Zaq hsk,List.all_cons]at hz
    simp(disch:=first|(simp;done)|omega|rfl) [-getElem?_pos,A.lb21_0,hr,hf,h7,hlen,hlt,hlt',q1,q2,q3,q4]
    refine Zab (Yjz (s:=s) hd) ?_
    rintro _ h3 n3 k3 rfl
    have kk:=hK.trans k3
    cases hfs:Zsp s d with
    |true=>
     rw[hfs,Bool.true_and]at hz
     simp(disch:=first|(simp;done)|omega|rfl) [-getElem?_pos,hr,hf,h7,hW]
     exact⟨m,by omega,kk,k+1,by omega,by simp,by simpa using hz⟩
    |false=>
     rw[hfs,Yxx]at hz
     simp(disch:=first|(simp;done)|omega|rfl) [-getElem?_pos,hr,hf,h7,hW]
     exact⟨kk,by simpa using hz⟩
  ·rintro e r ⟨H,n1,W⟩ hr ⟨hW,hK,⟨rfl,hz⟩|⟨rfl,hz,h6⟩⟩
   ·simp only at hW hK
    simp(disch:=first|(simp;done)|omega|rfl) [-getElem?_pos,hr,Ret,hW,hK]
    simpa using hz
   ·simp only at hW hK
    simp(disch:=first|(simp;done)|omega|rfl) [-getElem?_pos,hr,h6,Ret,hW,hK]
    simpa using hz
 ·have c0':(n:Int)<(l.length:Int):=by omega
  simp(disch:=first|(simp;done)|omega|rfl) [-getElem?_pos,A.b21,hlen,c0',Ret]
  exact⟨Keeps.refl,by simp[Yaa,c0]⟩
variable {a b:Nat}
set_option maxHeartbeats 4000000
noncomputable def A.w4:=A.q Tryz.f4
noncomputable def A.lb4_0:=A.ql A.w4 0 []
noncomputable def A.b4:=(fun x0=>A.qb A.w4 [x0]) A.lb4_0
def A.k4:=@A.kk 4 48 [.tmp 8] A.b4 (by kernel_rfl) rfl
def Zwl{k:Nat}(h:Zev k a=true)(hab:a≤b):Zev k b=true:=by
 unfold Zev at*
 have:=of_decide_eq_true h
 exact decide_eq_true (by omega)
def Ya5{l:List Str}(h:Zbb a l=true)(hab:a≤b):Zbb b l=true:=by
 unfold Zbb at*
 rw[Yu4]at*
 exact⟨Zwl h.1 hab,h.2⟩
def Zre{m:List (List Str)}{c d:Nat}(h:Zdv a b m=true)(hac:a≤c)(hbd:b≤d):Zdv c d m=true:=by
 unfold Zdv at*
 rw[Yu4]at*
 exact⟨Zwl h.1 hac,Yvk.2 fun x hx=>Ya5 (Yvk.1 h.2 x hx) hbd⟩
def Yfb(m:List (List Str))(r c d:Nat):Bool:=Zdv r c m&&(decide (m.length≤r)&&(decide (Zku m 64 16=0)&&(decide (hdL m≤c)&&m.all fun l=>Yaa l c d)))
def Ym4{h:T O}{N r0 c d:Nat}{v:V}{m:List (List Str)}(hs:MtS h N v m)(hl:m.length<9223372036854775808)(hx:∀x∈m,x.length<9223372036854775808)(hr0:r0≤6)(hc:c≤6)(hd:d≤100):Fn A.C 4 [v,.int .i64 (r0:Nat),.int .i64 (c:Nat),.int .i64 (d:Nat)] h N (fun u _ _=>u=.bool (Yfb m r0 c d)):=by
 intro w
 have hlen:=hs.len
 have hsm:=fun w=>Yf2 (w:=w) (n:=r0) (p:=c) hs hl hx (by omega) (by omega)
 rw[Zaa,A.k4 (by simp)]
 cases hsh:Zdv r0 c m with
 |false=>
  rw[hsh]at hsm
  simp(disch:=first|(simp;done)|omega|rfl) [-getElem?_pos,A.b4,hsm,Ret]
  exact⟨Keeps.refl,by simp[Yfb,hsh]⟩
 |true=>
  rw[hsh]at hsm
  by_cases c1:m.length≤r0
  ·have c1':¬(r0:Int)<(m.length:Int):=by omega
   obtain⟨x1,x2⟩:=Zo2 (Zre hsh hr0 hc)
   simp(disch:=first|(simp;done)|omega|rfl) [-getElem?_pos,A.b4,hsm,hlen,c1']
   refine Zab (Ygg hs x1 x2) ?_
   rintro _ h1 n1 k1 rfl
   by_cases c2:Zku m 64 16=0
   ·obtain⟨l0,hl0,h0⟩:∃l0,m[0]?=some l0∧hdL m=l0.length:=by
     cases m with
     |nil=>simp[Zku]at c2
     |cons a m=>exact⟨a,rfl,rfl⟩
    obtain⟨i,o,cc,e,rw,u0,q1,q2,q3,q4,q5⟩:=(hs.keep k1).at hl0
    have l5:=q5.len
    rw[Zbl]at l5
    have m0:0<m.length:=Zaz hl0
    have m0':(0:Int)<(m.length:Int):=by omega
    rw[Yv7]at q4
    by_cases c3:hdL m≤c
    ·have c3':¬(c:Int)<(l0.length:Int):=by omega
     have e0:Yfb m r0 c d=m.all fun l=>Yaa l c d:=by simp[Yfb,hsh,c1,c2,c3]
     rw[e0]
     simp(disch:=first|(simp;done)|omega|rfl) [-getElem?_pos,c2,Zae,hlen,m0,m0',q1,q3,q4,l5,c3']
     refine Zag [(8,9),(34,47)] (fun e r st=>oldIds N st.w=[]∧Keeps h N st.h st.n∧((e=.exit 0∧(m.all fun l=>Yaa l c d)=true)∨(e=.ret∧(m.all fun l=>Yaa l c d)=false∧r.get 8=some (.bool false)))) (fun j r st=>oldIds N st.w=[]∧Keeps h N st.h st.n∧∃k,k+j=m.length∧r.get 9=some (.int .i64 k)∧(m.all fun l=>Yaa l c d)=((m.drop k).all fun l=>Yaa l c d)) m.length ?_ ?_ ?_
     ·exact⟨by simp,k1,0,by omega,by simp,by simp⟩
     ·rintro j r ⟨H,n2,W⟩ hr hf ⟨hW,hK,k,hk,h9,hz⟩
      simp only at hW hK
      rw[Zah]
      cases j with
      |zero=>
       obtain rfl:k=m.length:=by omega
       rw[Yvu,List.all_nil]at hz
       simp(disch:=first|(simp;done)|omega|rfl) [-getElem?_pos,A.lb4_0,hr,hf,h9,hlen,hW,hK]
       simpa using hz
      |succ j=>
       have hlt:k<m.length:=by omega
       have hlt':(k:Int)<(m.length:Int):=by omega
       obtain⟨l,hlk⟩:=Zaf hlt
       obtain⟨i,o,cc,e,rw,u1,q1,q2,q3,q4,q5⟩:=(hs.keep hK).at hlk
       rw[Zaq hlk,List.all_cons]at hz
       have hxl:=hx l (Yux hlk)
       simp(disch:=first|(simp;done)|omega|rfl) [-getElem?_pos,A.lb4_0,hr,hf,h9,hlen,hlt,hlt',q1,q2,q3,q4]
       refine Zab (Ym3 q5 hxl hd (by omega)) ?_
       rintro _ h3 n3 k3 rfl
       have kk:=hK.trans k3
       cases hfs:Yaa l c d with
       |true=>
        rw[hfs,Bool.true_and]at hz
        simp(disch:=first|(simp;done)|omega|rfl) [-getElem?_pos,hr,hf,h9,hW]
        exact⟨j,by omega,kk,k+1,by omega,by simp,by simpa using hz⟩
       |false=>
        rw[hfs,Yxx]at hz
        simp(disch:=first|(simp;done)|omega|rfl) [-getElem?_pos,hr,hf,h9,hW]
        exact⟨kk,by simpa using hz⟩
     ·rintro e r ⟨H,n1,W⟩ hr ⟨hW,hK,⟨rfl,hz⟩|⟨rfl,hz,h6⟩⟩
      ·simp only at hW hK
       simp(disch:=first|(simp;done)|omega|rfl) [-getElem?_pos,hr,Ret,hW,hK]
       simpa using hz
      ·simp only at hW hK
       simp(disch:=first|(simp;done)|omega|rfl) [-getElem?_pos,hr,h6,Ret,hW,hK]
       simpa using hz
    ·have c3':(c:Int)<(l0.length:Int):=by omega
     simp(disch:=first|(simp;done)|omega|rfl) [-getElem?_pos,c2,Zae,hlen,m0,m0',q1,q3,q4,l5,c3',Ret]
     exact⟨k1,by simp[Yfb,c3]⟩
   ·simp(disch:=first|(simp;done)|omega|rfl) [-getElem?_pos,c2,Zae,Ret]
    exact⟨k1,by simp[Yfb,c2]⟩
  ·have c1':(r0:Int)<(m.length:Int):=by omega
   simp(disch:=first|(simp;done)|omega|rfl) [-getElem?_pos,A.b4,hsm,hlen,c1',Ret]
   exact⟨Keeps.refl,by simp[Yfb,c1]⟩
def Yho{a b:List Rat}(h:a.length=b.length)(hg:∀i,i<a.length→a[i]?.getD 0=b[i]?.getD 0):a=b:=by
 apply List.ext_getElem h
 intro i h1 h2
 have:=hg i h1
 rw[Yut h1,Yut h2]at this
 exact this
def sN(f:Nat→Rat):Nat→Rat
 |0=>0
 |n+1=>sN f n+f n
def Yri{f:Nat→Rat}:∀{n:Nat},(∀i,i<n→f i=0)→sN f n=0
 |0,_=>rfl
 |n+1,h=>by
  unfold sN
  rw[Yri fun i hi=>h i (by omega),h n (by omega),Rat.add_zero]
def Ybg{f:Nat→Rat}{i:Nat}:∀{n:Nat},i<n→(∀j,j<n→j≠i→f j=0)→sN f n=f i
 |0,h,_=>by omega
 |n+1,h,hz=>by
  unfold sN
  by_cases e:i=n
  ·subst e
   rw[Yri fun j hj=>hz j (by omega) (by omega),Rat.zero_add]
  ·rw[Ybg (n:=n) (by omega) fun j hj hne=>hz j (by omega) hne,hz n (by omega) (by omega),Rat.add_zero]
def Yj4{a b:List Rat}:∀{n:Nat},Yab a b n=sN (fun i=>a[i]?.getD 0*b[i]?.getD 0) n
 |0=>rfl
 |n+1=>by
  unfold Yab sN
  rw[Yj4]
open Go
variable {N:Nat} {h:T O} {v:V}
structure Pk where
 act:Int
 am:Str
 sl:List Str
def pkC(p:Pk)(u:V):List V:=[.int .i64 p.act,.str p.am,u]
def PkS(h:T O)(N:Nat)(v:V)(l:List Pk):Prop:=∃cs:List (List V),Sn 3 h N v cs∧cs.length=l.length∧∀(j:Nat) (p:Pk),l[j]?=some p→∃u,cs[j]?=some (pkC p u)∧Sl h N u (strs p.sl)
def PkS.keep{h':T O}{N':Nat}{l:List Pk}(s:PkS h N v l)(k:Keeps h N h' N'):PkS h' N' v l:=by
 obtain⟨cs,h1,h2,h3⟩:=s
 refine⟨cs,h1.keep k,h2,fun j p hp=>?_⟩
 obtain⟨u,g1,g2⟩:=h3 j p hp
 exact⟨u,g1,g2.keep k⟩
def PkS.len{l:List Pk}(s:PkS h N v l):Zom v=some l.length:=by
 obtain⟨cs,h1,h2,_⟩:=s
 rw[h1.len,h2]
def Ya3{x c:List V}{k n j:Nat}(h:slc x k n=some c)(hj:j<n):x[k+j]?=c[j]?:=by
 obtain⟨h1,rfl⟩:=Zp4 h
 rw[Yvi,Yuu hj,Yu3]
def PkS.at{l:List Pk}(s:PkS h N v l){j:Nat}{p:Pk}(hj:l[j]?=some p):∃i o x e rw u,Zlb v=some (i,o)∧i<N∧h.get i=some (.cells x e rw)∧slc x (o+j*3) 3=some (pkC p u)∧x[o+j*3]?=some (.int .i64 p.act)∧x[o+j*3+1]?=some (.str p.am)∧x[o+j*3+2]?=some u∧Sl h N u (strs p.sl):=by
 obtain⟨cs,h1,h2,h3⟩:=s
 obtain⟨u,g1,g2⟩:=h3 j p hj
 obtain⟨i,o,x,e,rw,q1,q2,q3,q4⟩:=h1.at g1
 exact⟨i,o,x,e,rw,u,q1,q2,q3,q4,by have:=Ya3 q4 (j:=0) (by decide);simpa[pkC]using this,by have:=Ya3 q4 (j:=1) (by decide);simpa[pkC]using this,by have:=Ya3 q4 (j:=2) (by decide);simpa[pkC]using this,g2⟩
def Yqy(p:Pk):Bool:=decide (p.am.length≤24)&&Zbb 6 p.sl
noncomputable def A.w193:=A.q Tryz.f193
noncomputable def A.lb193_0:=A.ql A.w193 0 []
noncomputable def A.b193:=(fun x0=>A.qb A.w193 [x0]) A.lb193_0
def A.k193:=@A.kk 193 19 [.tmp 4] A.b193 (by kernel_rfl) rfl
def Ymu{h:T O}{N:Nat}{v f:V}(l:List (List V))(p:Nat→Bool)(hs:Sn 3 h N v l)(hl:l.length<1152921504606846976)(hf:∀(j:Nat) (x:List V),l[j]?=some x→∀h' n',Keeps h N h' n'→FnV A.C f [.agg x] h' n' (fun u _ _=>u=.bool (p j))):Fn A.C 193 [v,f] h N (fun u _ _=>u=.int .i64 (Zct p 0 l.length)):=by
 intro w
 have hlen:=hs.len
 rw[Zaa,A.k193 (by simp)]
 simp[A.b193,hlen]
 refine Zag [(4,5),(8,18)] (fun e r st=>oldIds N st.w=[]∧Keeps h N st.h st.n∧((e=.exit 0∧Zct p 0 l.length= -1)∨(e=.ret∧r.get 4=some (.int .i64 (Zct p 0 l.length))))) (fun m r st=>oldIds N st.w=[]∧Keeps h N st.h st.n∧∃k,k+m=l.length∧r.get 8=some (.int .i64 k)∧Zct p 0 l.length=Zct p k m) l.length ?_ ?_ ?_
 ·exact⟨by simp,Keeps.refl,0,by omega,by simp,rfl⟩
 ·rintro m r ⟨H,n1,W⟩ hr hf2 ⟨hW,hK,k,hk,h8,hz⟩
  simp only at hW hK
  rw[Zah]
  cases m with
  |zero=>
   have:k=l.length:=by omega
   subst this
   simp only[Zct]at hz
   simp[A.lb193_0,hr,hf2,h8,hW,hK,hz]
  |succ m=>
   have hlt:k<l.length:=by omega
   obtain⟨c,hc⟩:=Zaf hlt
   obtain⟨i,o,cc,e,rw,q1,q2,q3,q4⟩:=hs.at hc
   have q3:=(hK.get _ q2).trans q3
   have hk1:(k:Int)<(l.length:Int):=by omega
   simp only[Zct]at hz
   simp[A.lb193_0,hr,hf2,h8,hk1,hlt,hlen,q1,q3,q4,hW]
   refine Zgh (hf k c hc _ _ hK) ?_
   rintro v h2 n2 k2 rfl
   have kk:=hK.trans k2
   cases hp:p k
   ·rw[hp]at hz
    simp(disch:=first|(simp;done)|omega|(simp only[Zac,Zad,Yuq];omega)|rfl) [hr,hf2,h8,hW,kk]
    exact⟨m,by omega,k+1,by omega,by simp,by simpa using hz⟩
   ·rw[hp]at hz
    simp[hr,hf2,h8,hW,kk]
    simpa using hz.symm
 ·rintro e r ⟨H,n1,W⟩ hr ⟨hW,hK,⟨rfl,hz⟩|⟨rfl,h4⟩⟩
  ·simp only at hW hK
   simp[hr,hz,Ret,hW,hK]
  ·simp only at hW hK
   simp[hr,h4,Ret,hW,hK]
noncomputable def A.b136:=A.q Tryz.f136
def A.k136:=@A.kk 136 9 [.tmp 4] A.b136 (by kernel_rfl) rfl
noncomputable def A.b132:=A.q Tryz.f132
def A.k132:=@A.kk 132 13 [.tmp 2] A.b132 (by kernel_rfl) rfl
noncomputable def A.b133:=A.q Tryz.f133
def A.k133:=@A.kk 133 5 [.tmp 1] A.b133 (by kernel_rfl) rfl
noncomputable def A.b134:=A.q Tryz.f134
def A.k134:=@A.kk 134 6 [.tmp 1] A.b134 (by kernel_rfl) rfl
noncomputable def A.b135:=A.q Tryz.f135
def A.k135:=@A.kk 135 7 [.tmp 2] A.b135 (by kernel_rfl) rfl
noncomputable def A.b137:=A.q Tryz.f137
def A.k137:=@A.kk 137 8 [.tmp 3] A.b137 (by kernel_rfl) rfl
def Yll{h:T O}{N i:Nat}{w:List Nat}{a0 a1 a2:Int}(hi:i<N):A.C.call (.func 86 [] []) [.slice i 0 3 (some 3) 1] ⟨h.set i (.cells [.int .i64 a0,.int .i64 a1,.int .i64 a2] 33 true),N,w⟩=some (.int .i64 (Zal [a0,a1,a2]),⟨h.set i (.cells [.int .i64 a0,.int .i64 a1,.int .i64 a2] 33 true),N,w⟩):=
 Yh1 (l:=[a0,a1,a2]) (Sl.row (e:=33) (rw:=true) (cp:=some 3) hi (by simp[dI]) rfl (by simp)) (by simp)
def pkE(p:Pk)(S Z:Int):List Int:=[if p.act<0∨Z≤p.act then 10 else 0,((chkNum p.am:Nat):Int),if p.am=[48] then 6 else 0,if (p.sl.length:Int)=S then Zal (p.sl.map fun s=>((chkNum s:Nat):Int)) else 2]
def Yim{h:T O}{N:Nat}{v f:V}(l:List (List V))(p:Nat→Bool)(hs:Sn 3 h N v l)(hl:l.length<1152921504606846976)(hf:∀(j:Nat) (x:List V),l[j]?=some x→∀h' n',Keeps h N h' n'→FnV A.C f [.agg x] h' n' (fun u _ _=>u=.bool (p j))):Fn A.C 136 [v,f] h N (fun u _ _=>u=.bool (decide (0≤Zct p 0 l.length))):=by
 intro w
 rw[Zaa,A.k136 (by simp)]
 simp[A.b136]
 refine Zab (Ymu l p hs hl hf) ?_
 rintro v h2 n2 k2 rfl
 simp[Ret,k2]
section
variable {h:T O} {N P B:Nat} {p:Pk} {u:V} {e eB:TypeId} {rw rwB:Bool} {z:Int}
def Yqe(hg:h.get P=some (.cells (pkC p u) e rw))(hP:P<N)(hB:h.get B=some (.cells [.int .i64 z] eB rwB))(hBN:B<N):FnV A.C (.func 132 [] [.ptr P 0,.ptr B 0]) [] h N (fun x _ _=>x=.int .i64 (if p.act<0∨z≤p.act then 10 else 0)):=by
 intro w
 rw[Zaa,A.k132 (by simp)]
 unfold pkC at hg
 by_cases c1:p.act<0
 ·simp[A.b132,hg,hP,hB,hBN,c1,Zg5,Ret]
  exact Keeps.refl
 ·by_cases c2:z≤p.act
  ·simp[A.b132,hg,hP,hB,hBN,c1,c2,Zg5,Ret]
   exact Keeps.refl
  ·simp[A.b132,hg,hP,hB,hBN,c1,c2,Zg5,Ret]
   exact Keeps.refl
def Yqd(hg:h.get P=some (.cells (pkC p u) e rw))(hP:P<N)(hl:p.am.length≤100000):FnV A.C (.func 133 [] [.ptr P 0]) [] h N (fun x _ _=>x=.int .i64 ((chkNum p.am:Nat):Int)):=by
 intro w
 rw[Zaa,A.k133 (by simp)]
 unfold pkC at hg
 simp[A.b133,hg,hP]
 refine Zab (Zw7 hl) ?_
 rintro _ H2 n2 k2 rfl
 simp[Ret]
 exact k2
def Yqc(hg:h.get P=some (.cells (pkC p u) e rw))(hP:P<N):FnV A.C (.func 134 [] [.ptr P 0]) [] h N (fun x _ _=>x=.int .i64 (if p.am=[48] then 6 else 0)):=by
 intro w
 rw[Zaa,A.k134 (by simp)]
 unfold pkC at hg
 by_cases c1:p.am=[48]
 ·simp[A.b134,hg,hP,c1,Zae,Zg5,Ret]
  exact Keeps.refl
 ·have c2:(p.am==[48])=false:=by simpa using c1
  simp[A.b134,hg,hP,c1,c2,Zae,Zg5,Ret]
  exact Keeps.refl
def Yqb{n:Nat}(hg:h.get P=some (.cells (pkC p u) e rw))(hP:P<N)(hB:h.get B=some (.cells [.int .i64 n] eB rwB))(hBN:B<N)(hu:Sl h N u (strs p.sl))(hl:p.sl.length<100000)(hf0:∀s∈p.sl,s.length≤100000):FnV A.C (.func 135 [] [.ptr P 0,.ptr B 0]) [] h N (fun x _ _=>x=.int .i64 (Zdh p.sl n)):=by
 intro w
 rw[Zaa,A.k135 (by simp)]
 unfold pkC at hg
 simp[A.b135,hg,hP,hB,hBN]
 refine Zab (Zm4 hu hl hf0) ?_
 rintro _ H2 n2 k2 rfl
 simp[Ret]
 exact k2
def Yqa{k:Nat}{c:List V}(hc:c=pkC p u)(ou:V.one u=true)(hB:h.get B=some (.cells [.int .i64 k] eB rwB))(hBN:B<N):FnV A.C (.func 137 [] [.ptr B 0]) [.agg c] h N (fun x _ _=>x=.bool (decide (p.act=k))):=by
 intro w
 subst hc
 have hcc:(V.agg (pkC p u)).cells=pkC p u:=rfl
 have hBn:¬B=N:=by omega
 have kB:Keeps h N (h.set N (.cells (pkC p u) 38 true)) (N+1):=Keeps.refl.new _
 rw[Zaa,A.k137 (by simp)]
 unfold V.one at ou
 unfold pkC at kB ⊢
 simp[A.b137,ou,hB,hBN,hBn,Zae,Ret]
 exact kB
end
set_option maxHeartbeats 4000000
noncomputable def A.w54:=A.q Tryz.f54
noncomputable def A.lb54_0:=A.ql A.w54 1 []
noncomputable def A.lb54_1:=A.ql A.w54 0 []
noncomputable def A.b54:=(fun x0 x1=>A.qb A.w54 [x0,x1]) A.lb54_1 A.lb54_0
def A.k54:=@A.kk 54 50 [.tmp 6] A.b54 (by kernel_rfl) rfl
def Yfa(l:List Pk)(k:Nat):Bool:=l.any fun p=>decide (p.act=(k:Int))
def Yo9(l:List Pk)(k j:Nat):Bool:=match l[j]? with
 |some p=>decide (p.act=(k:Int))
 |none=>false
def Zzl{l:List Pk}{k:Nat}:decide (0≤Zct (Yo9 l k) 0 l.length)=Yfa l k:=by
 rw[Bool.eq_iff_iff,decide_eq_true_eq,Zns]
 unfold Yfa
 rw[List.any_eq_true]
 constructor
 ·rintro⟨j,_,h2,h3⟩
  obtain⟨p,hp⟩:=Zaf (l:=l) (k:=j) (by omega)
  unfold Yo9 at h3
  rw[hp]at h3
  exact⟨p,Yux hp,h3⟩
 ·rintro⟨p,hp,h3⟩
  obtain⟨j,hj⟩:=Ywg hp
  exact⟨j,Yxe _,by have:=Zaz hj;omega,by unfold Yo9;rw[hj];exact h3⟩
def szE(l:List Pk)(S Z:Int):Int:=Zal [if S<1∨64<S then 3 else 0,if Z<1∨16<Z then 3 else 0,if 256<l.length then 5 else 0]
def Zhr(l:List Pk)(S Z:Int):Int:=if szE l S Z=0 then (if Zal (l.map fun p=>Zal (pkE p S Z))=0 then (if (List.range Z.toNat).all (Yfa l)=true then 0 else 7) else Zal (l.map fun p=>Zal (pkE p S Z))) else szE l S Z
def Zkk{h:T O}{N:Nat}{v:V}{l:List Pk}{S Z:Int}(hs:PkS h N v l)(hl:l.length<100000)(hx:∀p∈l,p.am.length≤100000∧p.sl.length<100000∧∀s∈p.sl,s.length≤100000):Fn A.C 54 [v,.int .i64 S,.int .i64 Z] h N (fun u _ _=>u=.int .i64 (Zhr l S Z)):=by
 intro w
 have lg:=hs.len
 have kB:Keeps h N ((h.set N (.cells [.int .i64 S] 3 true)).set (N+1) (.cells [.int .i64 Z] 3 true)) (N+1+1):=(Keeps.refl.new _).new _
 have b1:((h.set N (.cells [.int .i64 S] 3 true)).set (N+1) (.cells [.int .i64 Z] 3 true)).get N=some (.cells [.int .i64 S] 3 true):=by rw[T.get_set,Yur (by omega),T.get_set,Yuu rfl]
 have b2:((h.set N (.cells [.int .i64 S] 3 true)).set (N+1) (.cells [.int .i64 Z] 3 true)).get (N+1)=some (.cells [.int .i64 Z] 3 true):=by rw[T.get_set,Yuu rfl]
 have hc256:((256:Int)<(l.length:Int))=(256<l.length):=by apply propext;omega
 rw[Zaa,A.k54 (by simp)]
 simp[A.b54,lg,Yai,Zg5,hc256,splice,Yll]
 generalize (h.set N (.cells [.int .i64 S] 3 true)).set (N+1) (.cells [.int .i64 Z] 3 true)=G at*
 have kD:Keeps G (N+1+1) (G.set (N+1+1) (.cells [.int .i64 (if S<1∨64<S then 3 else 0),.int .i64 (if Z<1∨16<Z then 3 else 0),.int .i64 (if 256<l.length then 5 else 0)] 33 true)) (N+1+1+1):=Keeps.refl.new _
 have b1':=(kD.get N (by omega)).trans b1
 have b2':=(kD.get (N+1) (by omega)).trans b2
 have kE:=kB.trans kD
 generalize G.set (N+1+1) (.cells [.int .i64 (if S<1∨64<S then 3 else 0),.int .i64 (if Z<1∨16<Z then 3 else 0),.int .i64 (if 256<l.length then 5 else 0)] 33 true)=G2 at*
 unfold Zhr szE
 by_cases hz:Zal [if S<1∨64<S then 3 else 0,if Z<1∨16<Z then 3 else 0,if 256<l.length then 5 else 0]=0
 ·have z1:=Za9 hz (if S<1∨64<S then 3 else 0) (by simp)
  have z2:=Za9 hz (if Z<1∨16<Z then 3 else 0) (by simp)
  have z1':1≤S∧S≤64:=by split at z1<;>omega
  have z2':1≤Z∧Z≤16:=by split at z2<;>omega
  obtain⟨s,rfl⟩:∃s:Nat,S=s:=⟨S.toNat,by omega⟩
  obtain⟨z,rfl⟩:∃z:Nat,Z=z:=⟨Z.toNat,by omega⟩
  have hs2:=hs.keep kE
  have kG:Keeps h N G2 (N+1+1+1):=kE
  simp[hz,Zae,lg]
  refine Zag [(6,6),(9,10),(27,40)] (fun e r st=>oldIds N st.w=[]∧Keeps G2 (N+1+1+1) st.h st.n∧((e=.exit 0∧Zal (l.map fun p=>Zal (pkE p s z))=0)∨(e=.ret∧Zal (l.map fun p=>Zal (pkE p s z))≠0∧r.get 6=some (.int .i64 (Zal (l.map fun p=>Zal (pkE p s z))))))) (fun m r st=>oldIds N st.w=[]∧Keeps G2 (N+1+1+1) st.h st.n∧∃k,k+m=l.length∧r.get 27=some (.int .i64 k)∧Zal (l.map fun p=>Zal (pkE p s z))=Zal ((l.drop k).map fun p=>Zal (pkE p s z))) l.length ?_ ?_ ?_
  ·exact⟨by simp,Keeps.refl,0,by omega,by simp,by simp⟩
  ·rintro m r ⟨H,n,W⟩ hr hf ⟨hW,hK,k,hk,h27,hz2⟩
   simp only at hW hK
   have le:=hK.le
   rw[Zah]
   cases m with
   |zero=>
    obtain rfl:k=l.length:=by omega
    rw[Yvu,Yxd,Zal]at hz2
    simp[A.lb54_1,hr,hf,h27,hz2,hW,hK]
   |succ m=>
    have hlt:k<l.length:=by omega
    have hlt':(k:Int)<(l.length:Int):=by omega
    obtain⟨p,hp⟩:=Zaf hlt
    obtain⟨x1,x2,x3⟩:=hx p (Yux hp)
    obtain⟨i,o,y,e,rw,u,q1,q2,q3,q4,q5,q6,q7,q8⟩:=(hs2.keep hK).at hp
    rw[Zaq hp,Yvq,Zal]at hz2
    have ou:V.one u=true:=q8.form.one
    have hcc:(V.agg (pkC p u)).cells=pkC p u:=rfl
    have cl:(pkC p u).length=3:=rfl
    have c2:(pkC p u).all V.one=true:=by simp[pkC, -V.one,ou];exact⟨rfl,rfl⟩
    have e3:∀z:List V,z.length=3→splice [V.int .i64 0,.str [],.nilslice] 0 z=z:=fun z hz=>by unfold splice;rw[hz];simp[hz]
    have sp1:∀a:V,splice [V.nilfunc,.nilfunc,.nilfunc,.nilfunc] 0 [a]=[a,.nilfunc,.nilfunc,.nilfunc]:=fun _=>rfl
    have sp2:∀a b:V,splice [a,V.nilfunc,.nilfunc,.nilfunc] 1 [b]=[a,b,.nilfunc,.nilfunc]:=fun _ _=>rfl
    have sp3:∀a b c:V,splice [a,b,V.nilfunc,.nilfunc] 2 [c]=[a,b,c,.nilfunc]:=fun _ _ _=>rfl
    have sp4:∀a b c d:V,splice [a,b,c,V.nilfunc] 3 [d]=[a,b,c,d]:=fun _ _ _ _=>rfl
    have fo:∀f a c,V.one (.func f a c)=true:=fun _ _ _=>rfl
    have fc:∀f a c,V.cells (.func f a c)=[.func f a c]:=fun _ _ _=>rfl
    simp[-V.cells, -V.one,fo,fc,A.lb54_1,hr,hf,h27,hlt,hlt',lg,hcc,cl,c2,e3,q1,q2,q3,q4,Zrq q4,Zak,sp1,sp2,sp3,sp4]
    have kF:Keeps H n (((H.set n (.cells [.int .i64 0,.str [],.nilslice] 38 true)).set n (.cells (pkC p u) 38 true)).set (n+1) (.cells [.func 132 [] [.ptr n 0,.ptr (N+1) 0],.func 133 [] [.ptr n 0],.func 134 [] [.ptr n 0],.func 135 [] [.ptr n 0,.ptr N 0]] 76 true)) (n+1+1):=((Keeps.refl.new _).set (Yus _)).new _
    have gP:(((H.set n (.cells [.int .i64 0,.str [],.nilslice] 38 true)).set n (.cells (pkC p u) 38 true)).set (n+1) (.cells [.func 132 [] [.ptr n 0,.ptr (N+1) 0],.func 133 [] [.ptr n 0],.func 134 [] [.ptr n 0],.func 135 [] [.ptr n 0,.ptr N 0]] 76 true)).get n=some (.cells (pkC p u) 38 true):=by rw[T.get_set,Yur (by omega),T.get_set,Yuu rfl]
    have gF:(((H.set n (.cells [.int .i64 0,.str [],.nilslice] 38 true)).set n (.cells (pkC p u) 38 true)).set (n+1) (.cells [.func 132 [] [.ptr n 0,.ptr (N+1) 0],.func 133 [] [.ptr n 0],.func 134 [] [.ptr n 0],.func 135 [] [.ptr n 0,.ptr N 0]] 76 true)).get (n+1)=some (.cells [.func 132 [] [.ptr n 0,.ptr (N+1) 0],.func 133 [] [.ptr n 0],.func 134 [] [.ptr n 0],.func 135 [] [.ptr n 0,.ptr N 0]] 76 true):=by rw[T.get_set,Yuu rfl]
    generalize ((H.set n (.cells [.int .i64 0,.str [],.nilslice] 38 true)).set n (.cells (pkC p u) 38 true)).set (n+1) (.cells [.func 132 [] [.ptr n 0,.ptr (N+1) 0],.func 133 [] [.ptr n 0],.func 134 [] [.ptr n 0],.func 135 [] [.ptr n 0,.ptr N 0]] 76 true)=G4 at*
    have g1:=(kF.get N (by omega)).trans ((hK.get N (by omega)).trans b1')
    have g2:=(kF.get (N+1) (by omega)).trans ((hK.get (N+1) (by omega)).trans b2')
    refine Zab (Zxh (l:=pkE p s z) (Sl.row (by omega) gF rfl fun k hk=>by simp at hk;omega) rfl (by simp[pkE]) fun j f e' hj he hall h' n' hk'=>?_) ?_
    ·have d1:n<n':=by have:=hk'.le;omega
     have dP:=(hk'.get n (by omega)).trans gP
     have dN:=(hk'.get N (by omega)).trans g1
     have dZ:=(hk'.get (N+1) (by omega)).trans g2
     have d2:N<n':=by omega
     have d3:N+1<n':=by omega
     rcases j with _|_|_|_|j
     ·simp[pkE]at hj he
      subst hj;subst he
      exact Yqe dP d1 dZ d3
     ·simp[pkE]at hj he
      subst hj;subst he
      exact Yqd dP d1 x1
     ·simp[pkE]at hj he
      subst hj;subst he
      exact Yqc dP d1
     ·simp[pkE]at hj he
      subst hj;subst he
      have:=Yqb dP d1 dN d2 (q8.keep ((kF.trans hk'))) x2 x3
      unfold Zdh at this
      exact this
     ·simp at hj
    rintro _ H5 n5 k5 rfl
    have kk:=(hK.trans kF).trans k5
    by_cases h0:Zal (pkE p s z)=0
    ·rw[Yuu h0]at hz2
     simp(disch:=first|(simp;done)|omega|(simp only[Zac,Zad,Yuq];omega)|rfl) [hr,hf,h27,h0,hW,Zae]
     exact⟨m,by omega,by omega,kk,k+1,by omega,by simp,by simpa using hz2⟩
    ·rw[Yur h0]at hz2
     simp[hr,hf,h27,h0,hW,Zae,hz2]
     exact⟨by omega,kk⟩
  ·rintro e r ⟨H,n,W⟩ hr ⟨hW,hK,⟨rfl,hz2⟩|⟨rfl,hz2,h6⟩⟩
   ·simp only at hW hK
    have gZ:=(hK.get (N+1) (by omega)).trans b2'
    have lZ:N+1<n:=by have:=hK.le;omega
    simp[hr,hz2,gZ,lZ]
    have kA:=kG.trans hK
    have leA:=kA.le
    obtain⟨cs,s1,s2,s3⟩:=hs.keep kA
    refine Zag [(6,6),(11,11),(42,49)] (fun e r st=>oldIds N st.w=[]∧Keeps H n st.h st.n∧((e=.exit 2∧∀x,x<z→Yfa l x=true)∨(e=.ret∧(¬∀x,x<z→Yfa l x=true)∧r.get 6=some (.int .i64 7)))) (fun i r st=>oldIds N st.w=[]∧Keeps H n st.h st.n∧∃k,k+i=z∧r.get 42=some (.int .i64 k)∧∀x,x<k→Yfa l x=true) z ?_ ?_ ?_
    ·exact⟨hW,Keeps.refl,0,by omega,by simp,fun x hx=>by omega⟩
    ·rintro i r3 ⟨H3,n3,W3⟩ hr3 hf3 ⟨hW3,hK3,k,hk,h42,hall⟩
     simp only at hW3 hK3
     have le3:=hK3.le
     rw[Zah]
     cases i with
     |zero=>
      obtain rfl:k=z:=by omega
      simp[A.lb54_0,hr3,hf3,h42,hW3,hK3]
      exact hall
     |succ i=>
      have hlt:k<z:=by omega
      have hlt':(k:Int)<(z:Int):=by omega
      have kB3:Keeps H3 n3 ((H3.set n3 (.cells [.int .i64 0] 3 true)).set n3 (.cells [.int .i64 k] 3 true)) (n3+1):=(Keeps.refl.new _).set (Yus _)
      have gB3:((H3.set n3 (.cells [.int .i64 0] 3 true)).set n3 (.cells [.int .i64 k] 3 true)).get n3=some (.cells [.int .i64 k] 3 true):=by rw[T.get_set,Yuu rfl]
      simp[A.lb54_0,hr3,hf3,hr,h42,hlt,hlt',Zak,splice]
      generalize (H3.set n3 (.cells [.int .i64 0] 3 true)).set n3 (.cells [.int .i64 k] 3 true)=G5 at*
      have kC:=hK3.trans kB3
      refine Zab (Yim (f:=.func 137 [] [.ptr n3 0]) cs (Yo9 l k) (s1.keep kC) (by omega) fun j x hx h' n' hk'=>?_) ?_
      ·obtain⟨p,hp⟩:=Zaf (l:=l) (k:=j) (by have:=Zaz hx;omega)
       obtain⟨u,a1,a2⟩:=s3 j p hp
       rw[hx]at a1
       simp only[Yup]at a1
       unfold Yo9
       rw[hp]
       exact Yqa a1 a2.form.one ((hk'.get n3 (by omega)).trans gB3) (by have:=hk'.le;omega)
      rintro _ H6 n6 k6 rfl
      rw[s2,Zzl]
      have kk:=kC.trans k6
      have hnN:¬n3<N:=by omega
      cases hb:Yfa l k with
      |true=>
       simp(disch:=first|(simp;done)|omega|(simp only[Zac,Zad,Yuq];omega)|rfl) [hr3,hf3,h42,hW3,hnN]
       exact⟨i,by omega,kk,k+1,by omega,by simp,fun x hx=>by
        by_cases e:x=k
        ·rw[e];exact hb
        ·exact hall x (by omega)⟩
      |false=>
       simp[hr3,hf3,h42,hW3,hnN]
       exact⟨kk,k,hlt,hb⟩
    ·rintro e r3 ⟨H3,n3,W3⟩ hr3 ⟨hW3,hK3,⟨rfl,hall⟩|⟨rfl,hall,h6⟩⟩
     ·simp only at hW3 hK3
      simp[hr3,Ret,hW3]
      exact⟨kA.trans hK3,hall⟩
     ·simp only at hW3 hK3
      simp[hr3,h6,Ret,hW3]
      simp only[Classical.not_forall,Bool.not_eq_true]at hall
      obtain⟨x,hx,hb⟩:=hall
      exact⟨kA.trans hK3,x,hx,hb⟩
   ·simp only at hW hK
    simp[hr,h6,Ret,hW,hK,hz2]
    exact kG.trans hK
 ·simp[hz,Zae,Ret]
  exact kE
end Go.Mx
