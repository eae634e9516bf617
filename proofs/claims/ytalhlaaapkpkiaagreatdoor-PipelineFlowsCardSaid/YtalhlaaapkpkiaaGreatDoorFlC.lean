/-Flows-/
import Derived.Test.YtalhlaaapkpkiaaGreatDoorFlB
set_option linter.all false
namespace Go.Mx
open Go Go.Proofs
variable {N k z:Nat} {h:T O} {l:List (List V)} {y:V}
set_option maxRecDepth 1000000
def Zvu{z:Nat}:∀{l:List (List V)} {c:List V} {o:Nat},(∀j x,l[j]?=some x→slc c (o+j*z) z=some x)→o+l.length*z≤c.length→slc c o (l.length*z)=some l.flatten
 |[],c,o,_,h=>by simp[slc]at h ⊢;omega
 |x::l,c,o,h,hl=>by
  obtain⟨h1,h2⟩:=Zl5 (h 0 x rfl)
  simp only[Ys4,Yt5,Nat.one_mul,Nat.zero_mul,Yue]at hl h1 h2 ⊢
  obtain⟨h3,h4⟩:=Zl5 (Zvu (l:=l) (c:=c) (o:=o+z) (fun j y hj=>by
   have:=h (j+1) y (by simpa using hj)
   rw[show o+z+j*z=o+(j+1)*z by rw[Yt5];omega];exact this) (by omega))
  unfold slc
  rw[Ys8 (by omega),List.flatten_cons,h4,h2]
  congr 1
  rw[Nat.add_comm (l.length*z) z,List.take_add,←List.drop_drop]
def Yin{w:List Nat}{v:V}(s:Sn z h N v l):Za0 ⟨h,N,w⟩ z v=some (l.length,l.flatten):=by
 rcases s with⟨rfl,rfl|rfl⟩|⟨i,o,cp,c,e,rw,rfl,h2,h3,h4,h5,h6⟩
 ·rfl
 ·rfl
 ·simp only[Za0,if_true,St.row,h3,Zvu h4 h5]
def Cw(z:Nat)(e:TypeId)(N0:Nat)(h:T O)(N:Nat)(y:V)(l:List (List V)):Prop:=
 (∀x∈l,x.length=z)∧((l=[]∧∃i,y=.slice i 0 0 (some 0) z∧N0≤i∧i<N∧h.get i=some (.cells [] e true))∨∃i,y=.slice i 0 l.length none z∧N0≤i∧i<N∧h.get i=some (.cells l.flatten e true))
def Cw.keep{e:TypeId}{N0:Nat}{h':T O}{N':Nat}(s:Cw z e N0 h N y l)(k:Keeps h N h' N'):Cw z e N0 h' N' y l:=by
 obtain⟨hl,⟨h0,i,h1,h2,h3,h4⟩|⟨i,h1,h2,h3,h4⟩⟩:=s
 ·exact⟨hl,.inl ⟨h0,i,h1,h2,Yti h3 k.le,(k.get i h3).trans h4⟩⟩
 ·exact⟨hl,.inr ⟨i,h1,h2,Yti h3 k.le,(k.get i h3).trans h4⟩⟩
def Yhy{bytes:Nat}{e:TypeId}{N0:Nat}{i:Nat}{w:List Nat}{v:V}(hz:0<z)(hs:Sn z h N v l)(hlz:∀x∈l,x.length=z)(hi:i<N)(h0:N0≤i)(hg:h.get i=some (.cells [] e true))(hb:(2*l.length+1000)*bytes≤281474976710656):
  ∃y h' N',Zbi ⟨h,N,w⟩ z bytes e (.slice i 0 0 (some 0) z) v=some (y,⟨h',N',w⟩)∧Keeps h N h' N'∧Cw z e N0 h' N' y l:=by
 by_cases hl:l.length=0
 ·have:l=[]:=Ytl hl
  subst this
  exact⟨_,h,N,by simp[Zbi,Yin hs],Keeps.refl,by simp,.inl ⟨rfl,i,rfl,h0,hi,hg⟩⟩
 ·refine⟨.slice N 0 l.length none z,h.set N (.cells l.flatten e true),N+1,?_,Keeps.refl.new _,hlz,.inr ⟨N,rfl,by omega,by omega,by rw[T.get_set,Ys8 rfl]⟩⟩
  have hne:l≠[]:=fun hc=>hl (by rw[hc];rfl)
  simp only[Zbi,Yin hs,Zca,St.row,hg,slc,St.alloc]
  simp[hne]
  have:=Yts bytes (show 2*l.length≤2*l.length+1000 by omega)
  omega
def Zmu{z:Nat}:∀{l:List (List V)},(∀y∈l,y.length=z)→∀{k:Nat} {x:List V},k<l.length→x.length=z→splice l.flatten (k*z) x=(l.set k x).flatten
 |[],_,k,x,hk,_=>by simp at hk
 |y::l,h,0,x,_,hx=>by
  have h1:=h y Yt2
  simp[splice,hx,←h1]
 |y::l,h,k+1,x,hk,hx=>by
  have h1:=h y Yt2
  have h2:=Zmu (l:=l) (fun y hy=>h y (Ytv _ hy)) (k:=k) (x:=x) (by simpa using hk) hx
  simp only[List.flatten_cons,List.set_cons_succ]
  rw[←h2]
  unfold splice
  rw[show (k+1)*z=y.length+k*z by rw[Yt5,h1];omega,List.take_length_add_append,Yul,List.drop_length_add_append]
  simp
def Cw.sn{e:TypeId}{N0:Nat}(s:Cw z e N0 h N y l):Sn z h N y l:=by
 obtain⟨hl,⟨h0,i,h1,h2,h3,h4⟩|⟨i,h1,h2,h3,h4⟩⟩:=s
 ·subst h0
  exact .inr ⟨i,0,some 0,[],e,true,h1,h3,h4,fun j x hj=>by simp at hj,by simp,fun k hk=>by simp⟩
 ·exact .inr ⟨i,0,none,l.flatten,e,true,h1,h3,h4,fun j x hj=>by rw[Yvn];exact Ziw hl hj,by rw[Zd2 hl];omega,fun k hk=>by cases hk⟩
def Cw.put{e:TypeId}{N0:Nat}{x:List V}(s:Cw z e N0 h N y l)(hk:k<l.length)(hx:x.length=z):∃i,y=.slice i 0 l.length none z∧N0≤i∧i<N∧h.get i=some (.cells l.flatten e true)∧k*z+z≤l.flatten.length∧Cw z e N0 (h.set i (.cells (splice l.flatten (k*z) x) e true)) N y (l.set k x):=by
 obtain⟨hl,⟨h0,_⟩|⟨i,h1,h2,h3,h4⟩⟩:=s
 ·subst h0;simp at hk
 ·have hle:(k+1)*z≤l.length*z:=Yts z hk
  refine⟨i,h1,h2,h3,h4,by rw[Zd2 hl];rw[Yt5]at hle;omega,fun w hw=>?_,.inr ⟨i,by rw[Ywl];exact h1,h2,h3,by rw[T.get_set,Ys8 rfl,Zmu hl hk hx]⟩⟩
  rcases Ywo hw with hw|rfl
  ·exact hl w hw
  ·exact hx
def thF(i:Nat)(f:FmR):FmR:=⟨(i:Int)+1,0,0,Zaz (3*fmQ f)⟩
def thL(l:List FmR):List FmR:=(List.range l.length).map fun i=>thF i ((l[i]?).getD ⟨0,0,0,[]⟩)
def thK(l:List FmR)(k:Nat):List FmR:=(thL l).take k++l.drop k
def Zvq{l:List FmR}{i:Nat}{f:FmR}(h:l[i]?=some f):(thL l)[i]?=some (thF i f):=by
 have hl:=Zat h
 obtain⟨_,e⟩:=Yuc.1 h
 simp[thL,hl,e]
def Zij{l:List FmR}:(thL l).length=l.length:=by simp[thL]
def Yam{l:List FmR}(h:k≤l.length):(thK l k).length=l.length:=by
 simp[thK,Zij];omega
def Yj6{l:List FmR}{f:FmR}(h:l[k]?=some f):(thK l k).set k (thF k f)=thK l (k+1):=by
 have hk:=Zat h
 have hl:=Zij (l:=l)
 apply Yt4
 intro j
 rw[List.getElem?_set]
 unfold thK
 by_cases e:k=j
 ·subst e
  rw[Ys8 rfl,Ys8 (by simp[hl];omega),Yto (by simp[hl];omega),Ytk,Ys8 (by omega),Zvq h]
 ·rw[Ys5 e]
  by_cases hj:j<k
  ·rw[Yto (by simp[hl];omega),Yto (by simp[hl];omega),Ytk,Ytk,Ys8 hj,Ys8 (by omega)]
  ·rw[Yt0 (by simp[hl];omega),Yt0 (by simp[hl];omega),Ytg,Ytg]
   congr 1
   simp[hl]
   omega
def Yav{q:Rat}(h:Qb k q)(hk:k≤599):Zvb q=false:=by
 unfold Zvb
 have h1:=Zhe h.1
 have h2:=Zhe h.2
 simp
 omega
def Yj5{l:List FmR}(h:Zc2 l=0)(hv:∀f∈l,f.val.length≤20):Zc2 (thL l)=0:=by
 obtain⟨h1,h2⟩:=Zfr h
 unfold Zc2
 rw[Zij,Ys5 (by omega)]
 refine Zk1 fun j hj=>?_
 obtain⟨f,hf⟩:=Zag hj
 have h3:=Zss (h2 f (Ys9 hf)) (hv f (Ys9 hf))
 have h4:Zvb (3*fmQ f)=false:=Yav (((Qb.int (z:=3) (k:=2) (by decide) (by decide)).mul h3)) (by decide)
 have h5:chkNum (thF j f).val=0:=by
  show chkNum (Zaz (3*fmQ f))=0
  rw[Zpj,h4];rfl
 unfold frE
 rw[Zvq hf]
 simp only[h5]
 have o0:Zs5 (thL l) j (thF j f)=0:=by
  unfold Zs5
  by_cases j0:0<j
  ·obtain⟨p,hp⟩:=Zag (l:=l) (k:=j-1) (by omega)
   rw[Zvq hp]
   refine Ys5 ?_
   simp only[Yvi,thF]
   omega
  ·exact Ys5 fun hc=>j0 hc.1
 rw[o0]
 have w1:wz (thF j f).n 1 999999999=0:=Ys5 (by simp only[thF];omega)
 have w2:wz (thF j f).a 0 100000000=0:=rfl
 have w3:wz (thF j f).d 0 100000000=0:=rfl
 rw[w1,w2,w3]
 rfl
def Yj4{g:List Stg}{l:List FmR}{o t:List (List Rat)}(h1:Zty g l=some o)(h2:Zty g (thL l)=some t):t=o.map thr:=by
 unfold Zty at h1 h2
 rw[Yte]at h1 h2
 obtain⟨⟨o1,b1⟩,h1,rfl⟩:=h1
 obtain⟨⟨o2,b2⟩,h2,rfl⟩:=h2
 rw[Zij]at h2
 rw[Zkw (fs':=thr (l.map fmQ)) fun k hk=>?_]at h2
 ·exact(Zwa h1 h2).1
 ·obtain⟨f,hf⟩:=Zag hk
  rw[Zho,Ytb,Ytb,Zvq hf,hf]
  show Zdv (Zaz (3*fmQ f))=3*fmQ f
  exact Yfz _
set_option maxHeartbeats 4000000
noncomputable def A.w3:=A.q Tryz.f3
noncomputable def A.lb3_0:=A.ql A.w3 2 []
noncomputable def A.lb3_1:=(fun x0=>A.ql A.w3 1 [x0]) A.lb3_0
noncomputable def A.lb3_2:=A.ql A.w3 0 []
noncomputable def A.b3:=(fun x0 x1=>A.qb A.w3 [x0,x1]) A.lb3_2 A.lb3_1
def A.c3:A.F 3=some ⟨198,[.tmp 4],A.b3⟩:=by kernel_rfl
def A.k3:=@A.kk 3 _ _ _ A.c3 rfl
noncomputable def A.b15:=A.q Tryz.f15
def A.c15:A.F 15=some ⟨15,[.tmp 4],A.b15⟩:=by kernel_rfl
def A.k15:=@A.kk 15 _ _ _ A.c15 rfl
def Yps:Zaz 3=[51]:=by decide+kernel
def Yb3{q:Rat}{k:Nat}{h:T O}{N:Nat}(hq:Qb k q)(hk:k≤400000000):Fn A.C 12 [.str [51],.str (Zaz q)] h N (fun u _ _=>u=.str (Zaz (3*q))):=by
 have:=Zuc (h:=h) (N:=N) (Qb.int (z:=3) (k:=2) (by decide) (by decide)) hq (by decide) hk
 rwa [show Zaz ((3:Int):Rat)=[51] from Yps]at this
def Yoo{h:T O}{N k p13 p5:Nat}{vo:V}{g:List Stg}{out:List (List Rat)}{e1 e2:TypeId}{w1 w2:Bool}(g13:h.get p13=some (.cells [.int .i64 k] e1 w1))(g5:h.get p5=some (.cells [vo] e2 w2))(hl13:p13<N)(hl5:p5<N)(ho:TxM h N vo out)(hk:k<out.length)(hol:out.length<1000){j:Nat}{q:Rat}(hj:(Ze9 g out k)[j]?=some q):FnV A.C (.func 15 [] [.ptr p13 0,.ptr p5 0]) [.int .i64 (j:Nat)] h N (fun u _ _=>u=.str (Zaz q)):=by
 intro w
 rw[Zae,A.k15 (by simp)]
 unfold Ze9 at hj
 by_cases k0:k=0
 ·rw[Ys8 k0,Ytb,Yte]at hj
  obtain⟨_,_,rfl⟩:=hj
  have k0':(k:Int)=0:=by omega
  simp(disch:=first|(simp;done)|omega|rfl) [-getElem?_pos,A.b15,g13,g5,hl13,hl5,k0,k0',Zad,Ret]
  exact⟨Keeps.refl,Yj3.symm⟩
 ·rw[Ys5 k0]at hj
  have k0':¬(k:Int)=0:=by omega
  obtain⟨r,hr⟩:=Zag (l:=out) (show k-1<out.length by omega)
  rw[hr]at hj
  simp only[Yvi]at hj
  obtain⟨us,m1,m2,m3⟩:=ho
  obtain⟨uo,m4,m5⟩:=m3 (k-1) r hr
  obtain⟨i1,o1,c1,e3,rw3,s1,s2,s3,s4⟩:=m1.at m4
  obtain⟨i2,o2,c2,e4,rw4,t1,t2,t3,t4⟩:=Sl.at m5 (Zvp hj)
  have lo:=m1.len
  rw[m2]at lo
  have lr:=Sl.len m5
  rw[Zjh]at lr
  have hk1:(k:Int)-1=((k-1:Nat):Int):=by omega
  have hpl:k-1<out.length:=by omega
  have hpl':((k-1:Nat):Int)<(out.length:Int):=by omega
  have hjl:=Zat hj
  have hjl':(j:Int)<(r.length:Int):=by omega
  simp(disch:=first|(simp;done)|omega|rfl) [-getElem?_pos,A.b15,g13,g5,hl13,hl5,k0,k0',Zad,hk1,hpl,hpl',lo,s1,s3,s4,lr,hjl,hjl',t1,t3,t4,Ret]
  exact Keeps.refl
def Ye9{nB:Nat}{B:T O}{n0:Nat}{vl y:V}{l:List FmR}{r0:T V}(hBn:nB≤n0)(hs:Sn 4 B n0 vl (l.map fmC))(hl:l.length<1000)(hv:∀f∈l,chkNum f.val=0∧f.val.length≤20)(a1:r0.get 1=some vl)(a7:r0.get 7=some y)(a54:r0.get 54=some y)(a55:r0.get 55=some (.int .i64 l.length)):
  ∀m r st,(∀t,inD [(8,8),(56,71)] t=false→r.get t=r0.get t)→Fx [(8,8),(56,71)] r0 198 ⟨r,198,[]⟩→(Zac nB st.w=[]∧Keeps B n0 st.h st.n∧∃k,k+m=l.length∧r.get 56=some (.int .i64 k)∧Cw 4 40 n0 st.h st.n y ((thK l k).map fmC))→Code A.C none A.lb3_2 ⟨r,198,[]⟩ st (Rd [(8,8),(56,71)] r0 198 (fun m r st=>Zac nB st.w=[]∧Keeps B n0 st.h st.n∧∃k,k+m=l.length∧r.get 56=some (.int .i64 k)∧Cw 4 40 n0 st.h st.n y ((thK l k).map fmC)) m (fun e r st=>e=.exit 0∧Zac nB st.w=[]∧Keeps B n0 st.h st.n∧Cw 4 40 n0 st.h st.n y ((thL l).map fmC))):=by
 rintro m r ⟨H,n1,W⟩ hr hf ⟨hW,hK,k,hk,h56,hC⟩
 simp only at hW hK hC
 rw[Zai]
 have leK:=hK.le
 have ll:=hs.len
 rw[Ytr]at ll
 cases m with
 |zero=>
  obtain rfl:k=l.length:=by omega
  rw[show thK l l.length=thL l by unfold thK;rw[Yub,Yvs,Ytd (by rw[Zij];omega)]]at hC
  simp(disch:=first|(simp;done)|omega|rfl) [-getElem?_pos,A.lb3_2,hr,hf,h56,a55]
  exact⟨hW,hK,by simpa using hC⟩
 |succ m=>
  have hlt:k<l.length:=by omega
  have hlt':(k:Int)<(l.length:Int):=by omega
  obtain⟨f,hfk⟩:=Zag hlt
  obtain⟨hv1,hv2⟩:=hv f (Ys9 hfk)
  obtain⟨i0,o0,c0,e0,rw0,q1,q2,q3,q4⟩:=(hs.keepz hK).at (show (l.map fmC)[k]?=some (fmC f) by rw[Ytb,hfk];rfl)
  have u3:c0[o0+k*4+3]?=some (.str f.val):=Zia q4 (by decide)
  have hqb:=Zss hv1 hv2
  have hm:∀{h':T O} {N':Nat},Fn A.C 12 [.str [51],.str f.val] h' N' (fun u _ _=>u=.str (Zaz (3*fmQ f))):=fun {h' N'}=>by
   have:=Yb3 (h:=h') (N:=N') hqb (by decide)
   rwa [(Zi3 hv1).1]at this
  simp(disch:=first|(simp;done)|omega|rfl) [-getElem?_pos,A.lb3_2,hr,hf,h56,a1,a7,a55,ll,hlt,hlt',q1,q2,q3,u3]
  refine Zaf hm ?_
  rintro _ H2 n2 k2 rfl
  have le2:=k2.le
  obtain⟨ic,c1,c2,c3,c4,c5,c6⟩:=(hC.keep k2).put (k:=k) (x:=fmC (thF k f)) (by rw[Ytr,Yam (by omega)];omega) rfl
  rw[Ytr,Yam (by omega)]at c1
  rw[←List.map_set,Yj6 hfk]at c6
  have hcf:(V.agg (fmC (thF k f))).cells=fmC (thF k f):=rfl
  have hlf:(fmC (thF k f)).length=4:=rfl
  have hof2:(fmC (thF k f)).all V.one=true:=rfl
  have wic:¬ic<nB:=by omega
  subst c1
  generalize hFl:((thK l k).map fmC).flatten=FL at c4 c5 c6
  have efm:[V.int .i64 ((k:Int)+1),.int .i64 0,.int .i64 0,.str (Zaz (3*fmQ f))]=fmC (thF k f):=rfl
  have hcc:∀x,(V.agg x).cells=x:=fun _=>rfl
  have hone:V.one (.str (Zaz (3*fmQ f)))=true:=rfl
  have hci:∀z:Int,(V.int .i64 z).cells=[V.int .i64 z]:=fun _=>rfl
  have hcst:(V.str (Zaz (3*fmQ f))).cells=[.str (Zaz (3*fmQ f))]:=rfl
  have hbd:splice (splice [V.int .i64 0,V.int .i64 0,V.int .i64 0,.str []] 0 [.int .i64 ((k:Int)+1)]) 3 [.str (Zaz (3*fmQ f))]=fmC (thF k f):=rfl
  have hsl:(splice [V.int .i64 0,V.int .i64 0,V.int .i64 0,.str []] 0 [.int .i64 ((k:Int)+1)]).length=4:=rfl
  simp(disch:=first|(simp;done)|omega|rfl) [-getElem?_pos, -V.cells, -V.one,hr,hf,h56,hlt,hlt',c4,c5,Zak,hcc,hci,hcst,hsl,hbd,hcf,hlf,hof2,wic,hW]
  exact⟨m,by omega,(hK.trans k2).set (by omega),k+1,by omega,by simp,c6⟩
set_option maxHeartbeats 8000000
structure FlS (B:T O) (n0 p5 p13 k:Nat) (vg vl vo vt:V) (g:List Stg) (l:List FmR) (out:List (List Rat)) (f:FmR) (r:List Rat):Prop where
 hg:Gr B n0 vg g
 hG:OkG g
 hfl:∀s∈g,s.factor.length≤20
 hs:Sn 4 B n0 vl (l.map fmC)
 ho:TxM B n0 vo out
 ht:TxM B n0 vt (out.map thr)
 g5:∃e w,B.get p5=some (.cells [vo] e w)
 g13:∃e w,B.get p13=some (.cells [.int .i64 (k:Nat)] e w)
 l5:p5<n0
 l13:p13<n0
 ok:out[k]?=some r
 lk:l[k]?=some f
 ll:out.length=l.length
 l1:l.length<1000
 hR:Zh3 g (fmQ f) (Ze9 g out k) g.length=some r
 rq:∀q∈r,Qb 2400 q
 pq:∀q∈Ze9 g out k,Qb 2400 q
 pl:(Ze9 g out k).length=g.length
 fv:chkNum f.val=0
def Yg5{nB n0 p5 p13 k:Nat}{B:T O}{vg vl vo vt:V}{g:List Stg}{l:List FmR}{out:List (List Rat)}{f:FmR}{r1:List Rat}{r0:T V}(hBn:nB≤n0)(S:FlS B n0 p5 p13 k vg vl vo vt g l out f r1)(a0:r0.get 0=some vg)(a1:r0.get 1=some vl)(a5:r0.get 5=some (.ptr p5 0))(a9:r0.get 9=some vt)(a13:r0.get 13=some (.ptr p13 0))(a156:r0.get 156=some vg)(a157:r0.get 157=some (.int .i64 g.length)):
  ∀m r st,(∀t,inD [(4,4),(14,16),(158,195)] t=false→r.get t=r0.get t)→Fx [(4,4),(14,16),(158,195)] r0 198 ⟨r,198,[]⟩→(Zac nB st.w=[]∧Keeps B n0 st.h st.n∧∃i,i+m=g.length∧r.get 158=some (.int .i64 (i:Nat)))→Code A.C none A.lb3_0 ⟨r,198,[]⟩ st (Rd [(4,4),(14,16),(158,195)] r0 198 (fun m r st=>Zac nB st.w=[]∧Keeps B n0 st.h st.n∧∃i,i+m=g.length∧r.get 158=some (.int .i64 (i:Nat))) m (fun e _ st=>e=.exit 4∧Zac nB st.w=[]∧Keeps B n0 st.h st.n)):=by
 rintro m r ⟨H,n1,W⟩ hr hf ⟨hW,hK,i,hi,h158⟩
 simp only at hW hK
 rw[Zai]
 have leK:=hK.le
 have lg:=S.hg.len
 have g16:=S.hG.v.le
 cases m with
 |zero=>
  obtain rfl:i=g.length:=by omega
  simp(disch:=first|(simp;done)|omega|rfl) [-getElem?_pos,A.lb3_0,hr,hf,h158,a157]
  exact⟨hW,hK⟩
 |succ m=>
  have hlt:i<g.length:=by omega
  have hlt':(i:Int)<(g.length:Int):=by omega
  obtain⟨s,hs⟩:=Zag hlt
  obtain⟨ig,og,cg,eg,rwg,inp,z1,z2,z3,z4,z5⟩:=(S.hg.keep hK).at hs
  have hio:=z5.form.one
  have hcs:(V.agg (Zb2 s inp)).cells=Zb2 s inp:=rfl
  have hls:(Zb2 s inp).length=5:=rfl
  have hos:(Zb2 s inp).all V.one=true:=by
   unfold Zb2
   simp only[List.all_cons,List.all_nil,hio]
   rfl
  have sps:splice [.str [],.str [],.str [],.nilslice,.int .i64 0] 0 (Zb2 s inp)=Zb2 s inp:=rfl
  obtain⟨e5,w5,g5⟩:=S.g5
  obtain⟨e13,w13,g13⟩:=S.g13
  have l5:=S.l5
  have l13:=S.l13
  obtain⟨hrl,hra⟩:=Ztr S.hR
  obtain⟨s',hs',hri,hbg⟩:=hra i hlt
  rw[hs]at hs'
  obtain rfl:=Ytz hs'
  have hkl:=Zat S.ok
  have hkl2:=Zat S.lk
  have hol:=S.ll
  have hl1:=S.l1
  have hkl':(k:Int)<(l.length:Int):=by omega
  obtain⟨X,hX⟩:∃X,(H.set n1 (.cells [.str [],.str [],.str [],.nilslice,.int .i64 0] 46 true)).set n1 (.cells (Zb2 s inp) 46 true)=X:=⟨_,rfl⟩
  have kX:Keeps H n1 X (n1+1):=by rw[←hX];exact(Keeps.refl.new _).set (Ys6 _)
  have gX:X.get n1=some (.cells (Zb2 s inp) 46 true):=by rw[←hX,T.get_set,Ys8 rfl]
  have kk:=hK.trans kX
  have X5:=(kk.get p5 l5).trans g5
  have X13:=(kk.get p13 l13).trans g13
  have lt5:p5<n1+1:=by omega
  have lt13:p13<n1+1:=by omega
  have ltn:n1<n1+1:=by omega
  obtain⟨us,m1,m2,m3⟩:=S.ho
  obtain⟨uo,m4,m5⟩:=m3 k r1 S.ok
  obtain⟨i1,o1,c1,e1,rw1,s1,s2,s3,s4⟩:=m1.at m4
  obtain⟨i2,o2,c2,e2,rw2,t1,t2,t3,t4⟩:=Sl.at m5 (Zvp hri)
  have X1:=(kk.get i1 s2).trans s3
  have X2:=(kk.get i2 t2).trans t3
  have lo:=m1.len
  rw[m2,hol]at lo
  have lr:=Sl.len m5
  rw[Zjh,hrl]at lr
  obtain⟨ut,n1',n2',n3'⟩:=S.ht
  have hok3:(out.map thr)[k]?=some (thr r1):=by rw[Ytb,S.ok];rfl
  obtain⟨ut1,n4',n5'⟩:=n3' k _ hok3
  obtain⟨i3,o3,c3,e3,rw3,v1,v2,v3,v4⟩:=n1'.at n4'
  have hr3:(thr r1)[i]?=some (3*Zkm g s (fmQ f) ((Ze9 g out k)[i]?.getD 0) (r1.take i) (Ze9 g out k)):=by unfold thr;rw[Ytb,hri];rfl
  obtain⟨i4,o4,c4,e4,rw4,y1,y2,y3,y4⟩:=Sl.at n5' (Zvp hr3)
  have X3:=(kk.get i3 v2).trans v3
  have X4:=(kk.get i4 y2).trans y3
  have lt:=n1'.len
  rw[n2',Ytr,hol]at lt
  have lr3:=Sl.len n5'
  rw[Zjh,show (thr r1).length=g.length by simp[thr,hrl]]at lr3
  obtain⟨i6,o6,c6,e6,rw6,x1,x2,x3,x4⟩:=S.hs.at (show (l.map fmC)[k]?=some (fmC f) by rw[Ytb,S.lk];rfl)
  have lll:=S.hs.len
  rw[Ytr]at lll
  have hqv:=S.rq _ (Ys9 hri)
  obtain⟨v,ev⟩:∃v,Zkm g s (fmQ f) ((Ze9 g out k)[i]?.getD 0) (r1.take i) (Ze9 g out k)=v:=⟨_,rfl⟩
  have hval:=hri
  rw[ev]at hqv t4 y4
  have a6:i1<n1+1:=by omega
  have a7:i2<n1+1:=by omega
  have a8:i3<n1+1:=by omega
  have a10:i4<n1+1:=by omega
  simp(disch:=first|(simp;done)|omega|rfl) [-getElem?_pos, -V.cells, -V.one,A.lb3_0,hr,hf,h158,a0,a1,a5,a9,a13,a156,a157,lg,hlt,hlt',z1,z2,z3,z4,hcs,hls,hos,sps,Zak,hX,X5,X13,lt5,lt13,ltn,lo,hkl2,hkl',s1,X1,s4,lr,t1,X2,t4,lt,v1,X3,v4,lr3,y1,X4,y4,a6,a7,a8,a10]
  refine Zaf (Yb3 hqv (by decide)) ?_
  rintro _ H2 n2 k2 rfl
  have le2:=k2.le
  have kk2:=kk.trans k2
  have Y5:=(k2.get p5 lt5).trans X5
  have Y13:=(k2.get p13 lt13).trans X13
  have YX:=(k2.get n1 ltn).trans gX
  have Y1:=(k2.get i1 a6).trans X1
  have Y6:=(kk2.get i6 x2).trans x3
  have b5:p5<n2:=by omega
  have b13:p13<n2:=by omega
  have bn:n1<n2:=by omega
  have b1:i1<n2:=by omega
  have b6:i6<n2:=by omega
  have ps5:slc (Zb2 s inp) 0 5=some (Zb2 s inp):=rfl
  have wn:¬n1<nB:=by omega
  have w3:c6[o6+k*4+3]?=some (.str f.val):=Zia x4 (by decide)
  simp(disch:=first|(simp;done)|omega|rfl) [-getElem?_pos, -V.cells, -V.one,hr,hf,h158,a0,a1,a5,a13,Zad,Zbe,Zan.chk,YX,bn,ps5,Y5,Y13,b5,b13,lo,hkl2,hkl',s1,Y1,b1,s4,lll,x1,Y6,b6,w3]
  refine Zaf (Yl5 (val:=f.val) (before:=Ze9 g out k) (s:=s) (now:=r1) ((S.hg.keep kk).keep k2) S.hG hs (S.hfl s (Ys9 hs)) (Sl.keep (Sl.keep m5 kk) k2) hrl S.pl S.fv S.rq S.pq ((z5.keep kX).keep k2) hval ?_) ?_
  ·intro h' n' k' j q hj
   exact Yoo ((k'.get p13 b13).trans Y13) ((k'.get p5 b5).trans Y5) (by have:=k'.le;omega) (by have:=k'.le;omega) ((S.ho.keep kk2).keep k') (by omega) (by omega) hj
  rintro _ H3 n3 k3 rfl
  simp(disch:=first|(simp;done)|omega|rfl) [-getElem?_pos,hr,hf,h158,wn,hW]
  exact⟨m,by omega,kk2.trans k3,i+1,by omega,by simp⟩
variable {N:Nat} {h:T O} {v:V}
noncomputable def A.w11:=A.q Tryz.f11
noncomputable def A.lb11_0:=A.ql A.w11 0 []
noncomputable def A.b11:=(fun x0=>A.qb A.w11 [x0]) A.lb11_0
def A.c11:A.F 11=some ⟨18,[.tmp 2],A.b11⟩:=by kernel_rfl
def A.k11:=@A.kk 11 _ _ _ A.c11 rfl
noncomputable def A.w13:=A.q Tryz.f13
noncomputable def A.lb13_0:=A.ql A.w13 0 []
noncomputable def A.b13:=(fun x0=>A.qb A.w13 [x0]) A.lb13_0
def A.c13:A.F 13=some ⟨27,[.tmp 4],A.b13⟩:=by kernel_rfl
def A.k13:=@A.kk 13 _ _ _ A.c13 rfl
noncomputable def A.w26:=A.q Tryz.f26
noncomputable def A.lb26_0:=A.ql A.w26 0 []
noncomputable def A.b26:=(fun x0=>A.qb A.w26 [x0]) A.lb26_0
def A.k26:=@A.kk 26 26 [.tmp 4] A.b26 (by kernel_rfl) rfl
def Ykb{u:V}{l:List Str}{w:List Nat}(hu:Sl h N u (strs l))(hv:Sl h N v (strs l))(hl:l.length<100000):A.C.call (.func 26 [] []) [u,v] ⟨h,N,w⟩=some (.bool true,⟨h,N,w⟩):=by
 apply Call.eq
 have l1:=hu.len
 have l2:=hv.len
 rw[Zbv]at l1 l2
 rw[Zae,A.k26 (by simp)]
 simp[A.b26,l1,l2,Zad]
 refine Zah [(4,5),(11,25)] (fun e r st=>st=⟨h,N,[]⟩∧e=.exit 0) (fun m r st=>st=⟨h,N,[]⟩∧∃k,k+m=l.length∧r.get 5=some (.int .i64 k)) l.length ?_ ?_ ?_
 ·exact⟨rfl,0,by omega,by simp⟩
 ·rintro m r _ hr hf ⟨rfl,k,hk,h5⟩
  rw[Zai]
  cases m with
  |zero=>
   obtain rfl:k=l.length:=by omega
   simp[A.lb26_0,hr,hf,h5,l1]
  |succ m=>
   have hlt:k<l.length:=by omega
   obtain⟨s,hs⟩:=Zag hlt
   obtain⟨i,o,c,e,rw,q1,q2,q3,q4⟩:=hu.at (Zb3 hs)
   obtain⟨i',o',c',e',rw',p1,p2,p3,p4⟩:=hv.at (Zb3 hs)
   have hk1:(k:Int)<(l.length:Int):=by omega
   simp(disch:=first|(simp;done)|omega|rfl) [A.lb26_0,hr,hf,h5,l1,l2,hk1,hlt,q1,q2,q3,q4,p1,p2,p3,p4,Zbe,Zad,Zan.chk]
   exact⟨m,by omega,k+1,by omega,by simp⟩
 ·rintro _ r _ hr ⟨rfl,rfl⟩
  simp[hr]
def Zno{l:List FmR}(hs:Sn 4 h N v (l.map fmC))(hl:l.length<1000):Fn A.C 11 [v] h N (fun u h' n'=>Sn 4 h' n' u (l.map fmC)):=by
 intro w
 have hlv:=hs.len
 rw[Ytr]at hlv
 rw[Zae,A.k11 (by simp)]
 simp(disch:=first|(simp;done)|omega|rfl) [-getElem?_pos,A.b11,hlv]
 refine Zah [(3,3),(5,5),(8,16)] (fun e r st=>e=.exit 0∧Zac N st.w=[]∧Keeps h N st.h st.n∧∃u,r.get 3=some u∧Own 4 56 N st.h st.n u (l.map fmC)) (fun m r st=>Zac N st.w=[]∧Keeps h N st.h st.n∧∃k u,k+m=l.length∧r.get 8=some (.int .i64 k)∧r.get 3=some u∧Own 4 56 N st.h st.n u ((l.take k).map fmC)) l.length ?_ ?_ ?_
 ·exact⟨by simp,Keeps.refl,0,.nilslice,by omega,by simp,by simp,Own.nil⟩
 ·rintro m r ⟨H,n1,W⟩ hr hf ⟨hW,hK,k,u,hk,h8,h3,hO⟩
  simp only at hW hK hO
  rw[Zai]
  have le:=hK.le
  cases m with
  |zero=>
   obtain rfl:k=l.length:=by omega
   rw[Yuu]at hO
   simp(disch:=first|(simp;done)|omega|rfl) [-getElem?_pos,A.lb11_0,hr,hf,h8,h3,hW,hK]
   exact hO
  |succ m=>
   have hlt:k<l.length:=by omega
   have hlt':(k:Int)<(l.length:Int):=by omega
   obtain⟨f,hfk⟩:=Zag hlt
   obtain⟨i0,o0,c0,e0,rw0,q1,q2,q3,q4⟩:=(hs.keepz hK).at (show (l.map fmC)[k]?=some (fmC f) by rw[Ytb,hfk];rfl)
   have hcs:(V.agg (fmC f)).cells=fmC f:=rfl
   have hls:(fmC f).length=4:=rfl
   have hos:(fmC f).all V.one=true:=rfl
   have sps:splice [V.int .i64 0,.int .i64 0,.int .i64 0,.str []] 0 (fmC f)=fmC f:=rfl
   have sl4:slc (fmC f) 0 4=some (fmC f):=rfl
   have d1:¬i0=n1:=by omega
   have kD:Keeps H n1 (((H.set n1 (.cells [.int .i64 0,.int .i64 0,.int .i64 0,.str []] 40 true)).set n1 (.cells (fmC f) 40 true)).set (n1+1) (.cells (fmC f) 56 true)) (n1+1+1):=((Keeps.refl.new _).set (Ys6 _)).new _
   obtain⟨v',h',w',j1,j2,j3,_,j5⟩:=Zbx (x:=fmC f) (u:=.slice (n1+1) 0 1 (some 1) 4) (bytes:=40) (w:=n1::W) (hO.keep kD) (by omega) (by decide) rfl (by simp[Za0,St.row,slc,fmC]) (by simp;omega)
   have e:(l.take (k+1)).map fmC=(l.take k).map fmC++[fmC f]:=by rw[Yug,hfk,List.map_append];rfl
   rw[←e]at j5
   have z1:¬n1<N:=by omega
   have hWn:Zac N w'=[]:=by rw[j2];simp[Zac,hW,z1]
   simp(disch:=first|(simp;done)|omega|rfl) [-getElem?_pos, -V.cells, -V.one,A.lb11_0,hr,hf,h8,h3,hlv,hlt,hlt',q1,q2,q3,q4,hcs,hls,hos,sps,sl4,Zak,d1,Zdg,j1]
   exact⟨m,by omega,hWn,(hK.trans kD).then j3,k+1,by omega,by simp,by rw[←List.map_take];exact j5⟩
 ·rintro _ r ⟨H,n1,W⟩ hr ⟨rfl,hW,hK,u,h3,hO⟩
  simp only at hW hK hO
  simp(disch:=first|(simp;done)|omega|rfl) [-getElem?_pos,hr,h3,Ret,hW,hK]
  exact hO.sn
def Yfw{u:V}{m:List (List Rat)}{w:List Nat}(hu:TxM h N u m)(hv:TxM h N v m)(hl:m.length<100000)(hr0:∀r∈m,r.length<100000):A.C.call (.func 13 [] []) [u,v] ⟨h,N,w⟩=some (.bool true,⟨h,N,w⟩):=by
 apply Call.eq
 have lu:=hu.len
 have lv:=hv.len
 rw[Zae,A.k13 (by simp)]
 simp(disch:=first|(simp;done)|omega|rfl) [-getElem?_pos,A.b13,lu,lv,Zad]
 refine Zah [(4,5),(13,26)] (fun e r st=>st=⟨h,N,[]⟩∧e=.exit 0) (fun j r st=>st=⟨h,N,[]⟩∧∃k,k+j=m.length∧r.get 13=some (.int .i64 k)) m.length ?_ ?_ ?_
 ·exact⟨rfl,0,by omega,by simp⟩
 ·rintro j r _ hr hf ⟨rfl,k,hk,h13⟩
  rw[Zai]
  cases j with
  |zero=>
   obtain rfl:k=m.length:=by omega
   simp(disch:=first|(simp;done)|omega|rfl) [-getElem?_pos,A.lb13_0,hr,hf,h13]
  |succ j=>
   have hlt:k<m.length:=by omega
   have hlt':(k:Int)<(m.length:Int):=by omega
   obtain⟨x,hx⟩:=Zag hlt
   obtain⟨i0,o0,c0,e0,rw0,y0,q1,q2,q3,q4,q5⟩:=hu.at hx
   obtain⟨i1,o1,c1,e1,rw1,y1,p1,p2,p3,p4,p5⟩:=hv.at hx
   have hsr:=fun w=>Ykb (l:=x.map Zaz) (w:=w) q5 p5 (by rw[Ytr];exact hr0 x (Ys9 hx))
   simp(disch:=first|(simp;done)|omega|rfl) [-getElem?_pos,A.lb13_0,hr,hf,h13,lu,lv,hlt,hlt',q1,q2,q3,q4,p1,p2,p3,p4,hsr]
   exact⟨j,by omega,k+1,by omega,by simp⟩
 ·rintro _ r _ hr ⟨rfl,rfl⟩
  simp(disch:=first|(simp;done)|omega|rfl) [-getElem?_pos,hr]
noncomputable def A.w14:=A.q Tryz.f14
noncomputable def A.lb14_0:=A.ql A.w14 0 []
noncomputable def A.b14:=(fun x0=>A.qb A.w14 [x0]) A.lb14_0
def A.k14:=@A.kk 14 19 [.tmp 2] A.b14 (by kernel_rfl) rfl
def Ymj{h:T O}{N:Nat}{v:V}{l:List Str}(hs:Sl h N v (strs l))(hl:l.length<100000)(hf0:∀s∈l,s.length≤100000):Fn A.C 14 [v] h N (fun u _ _=>u=.int .i64 (Zam (l.map fun s=>((chkNum s:Nat):Int)))):=by
 intro w
 have hlen:=hs.len
 rw[Zbv]at hlen
 rw[Zae,A.k14 (by simp)]
 simp(disch:=first|(simp;done)|omega|rfl) [-getElem?_pos,A.b14]
 refine Zah [(2,18)] (fun e r st=>Zac N st.w=[]∧Keeps h N st.h st.n∧((e=.exit 0∧Zam (l.map fun s=>((chkNum s:Nat):Int))=0)∨(e=.ret∧r.get 2=some (.int .i64 (Zam (l.map fun s=>((chkNum s:Nat):Int))))))) (fun m r st=>Zac N st.w=[]∧Keeps h N st.h st.n∧∃k,k+m=l.length∧r.get 3=some (.int .i64 k)∧Zam (l.map fun s=>((chkNum s:Nat):Int))=Zam ((l.drop k).map fun s=>((chkNum s:Nat):Int))) l.length ?_ ?_ ?_
 ·exact⟨by simp,Keeps.refl,0,by omega,by simp,by simp⟩
 ·rintro m r ⟨H,n1,W⟩ hr hf ⟨hW,hK,k,hk,h7,hz⟩
  simp only at hW hK
  rw[Zai]
  cases m with
  |zero=>
   obtain rfl:k=l.length:=by omega
   rw[Yub,Ywb,Zam]at hz
   simp(disch:=first|(simp;done)|omega|rfl) [-getElem?_pos,A.lb14_0,hr,hf,h7,hlen,hz,hW,hK]
  |succ m=>
   have hlt:k<l.length:=by omega
   obtain⟨s,hc⟩:=Zag hlt
   obtain⟨i,o,cc,e,rw,q1,q2,q3,q4⟩:=(hs.keep hK).at (Zb3 hc)
   rw[Zap hc,Yuq,Zam]at hz
   have hk1:(k:Int)<(l.length:Int):=by omega
   simp(disch:=first|(simp;done)|omega|rfl) [-getElem?_pos,A.lb14_0,hr,hf,h7,hk1,hlt,hlen,q1,q3,q4]
   refine Zaf (Zm4 (hf0 s (Ys9 hc))) ?_
   rintro _ h3 n3 k3 rfl
   have kk:=hK.trans k3
   by_cases h0:chkNum s=0
   ·rw[Ys8 (by omega)]at hz
    simp(disch:=first|(simp;done)|omega|rfl) [-getElem?_pos,hr,hf,h7,h0,hW,Zad]
    exact⟨m,by omega,kk,k+1,by omega,by simp,by simpa using hz⟩
   ·rw[Ys5 (by omega)]at hz
    have h0':¬((chkNum s:Nat):Int)=0:=by omega
    simp(disch:=first|(simp;done)|omega|rfl) [-getElem?_pos,hr,hf,h7,h0,h0',hW,Zad,hz]
    exact kk
 ·rintro _ r ⟨H,n1,W⟩ hr ⟨hW,hK,⟨rfl,hz⟩|⟨rfl,h2⟩⟩
  ·simp only at hW hK
   simp(disch:=first|(simp;done)|omega|rfl) [-getElem?_pos,hr,hz,Ret,hW,hK]
  ·simp only at hW hK
   simp(disch:=first|(simp;done)|omega|rfl) [-getElem?_pos,hr,h2,Ret,hW,hK]
set_option maxHeartbeats 8000000
def Zwy:∀{l:List Int},(∀x∈l,x=0)→Zam l=0
 |[],_=>rfl
 |x::l,h=>by
  rw[Zam,Ys8 (h x (by simp))]
  exact Zwy fun y hy=>h y (by simp[hy])
structure FlR (B:T O) (n0 p5:Nat) (vg vl vo vt:V) (g:List Stg) (l:List FmR) (out:List (List Rat)):Prop where
 hg:Gr B n0 vg g
 hG:OkG g
 hfl:∀s∈g,s.factor.length≤20
 hs:Sn 4 B n0 vl (l.map fmC)
 ho:TxM B n0 vo out
 ht:TxM B n0 vt (out.map thr)
 g5:∃e w,B.get p5=some (.cells [vo] e w)
 l5:p5<n0
 q:Zty g l=some out
 ll:out.length=l.length
 l1:l.length<1000
 oq:∀r∈out,r.length=g.length∧∀q∈r,Qb 2400 q
 fv:∀f∈l,chkNum f.val=0
def FlR.at{B:T O}{n0 p5:Nat}{vg vl vo vt:V}{g:List Stg}{l:List FmR}{out:List (List Rat)}(S:FlR B n0 p5 vg vl vo vt g l out){k:Nat}(hk:k<l.length):∃f r,l[k]?=some f∧out[k]?=some r∧Zh3 g (fmQ f) (Ze9 g out k) g.length=some r∧(∀q∈Ze9 g out k,Qb 2400 q)∧(Ze9 g out k).length=g.length:=by
 have hq:=S.q
 unfold Zty at hq
 rw[Yte]at hq
 obtain⟨⟨o1,b1⟩,h1,rfl⟩:=hq
 obtain⟨f,hf⟩:=Zag hk
 obtain⟨r,r1,r2⟩:=(Zp7 h1).2.2 k hk
 rw[Ytb,hf]at r2
 refine⟨f,r,hf,r1,r2,?_,?_⟩
 ·unfold Ze9
  by_cases k0:k=0
  ·rw[Ys8 k0]
   intro q hq
   obtain⟨_,_,rfl⟩:=Yup.1 hq
   exact Qb.zero.mono (by decide)
  ·rw[Ys5 k0]
   obtain⟨p,hp⟩:=Zag (l:=o1) (k:=k-1) (by have:=S.ll;simp only at this;omega)
   rw[show (o1,b1).1[k-1]?=some p from hp]
   exact(S.oq p (Ys9 hp)).2
 ·unfold Ze9
  by_cases k0:k=0
  ·rw[Ys8 k0,Ytr]
  ·rw[Ys5 k0]
   obtain⟨p,hp⟩:=Zag (l:=o1) (k:=k-1) (by have:=S.ll;simp only at this;omega)
   rw[show (o1,b1).1[k-1]?=some p from hp]
   exact(S.oq p (Ys9 hp)).1
def Yfx{nB n0 p5:Nat}{B:T O}{vg vl vo vt:V}{g:List Stg}{l:List FmR}{out:List (List Rat)}{r0:T V}(hBn:nB≤n0)(S:FlR B n0 p5 vg vl vo vt g l out)(a0:r0.get 0=some vg)(a1:r0.get 1=some vl)(a5:r0.get 5=some (.ptr p5 0))(a9:r0.get 9=some vt)(a125:r0.get 125=some vo)(a126:r0.get 126=some (.int .i64 l.length)):
  ∀m r st,(∀t,inD [(4,4),(13,16),(127,196)] t=false→r.get t=r0.get t)→Fx [(4,4),(13,16),(127,196)] r0 198 ⟨r,198,[]⟩→(Zac nB st.w=[]∧Keeps B n0 st.h st.n∧∃k,k+m=l.length∧r.get 127=some (.int .i64 (k:Nat)))→Code A.C none A.lb3_1 ⟨r,198,[]⟩ st (Rd [(4,4),(13,16),(127,196)] r0 198 (fun m r st=>Zac nB st.w=[]∧Keeps B n0 st.h st.n∧∃k,k+m=l.length∧r.get 127=some (.int .i64 (k:Nat))) m (fun e _ st=>e=.exit 2∧Zac nB st.w=[]∧Keeps B n0 st.h st.n)):=by
 rintro m r ⟨H,n1,W⟩ hr hf ⟨hW,hK,k,hk,h127⟩
 simp only at hW hK
 rw[Zai]
 have leK:=hK.le
 cases m with
 |zero=>
  obtain rfl:k=l.length:=by omega
  simp(disch:=first|(simp;done)|omega|rfl) [-getElem?_pos,A.lb3_1,hr,hf,h127,a126]
  exact⟨hW,hK⟩
 |succ m=>
  have hlt:k<l.length:=by omega
  have hlt':(k:Int)<(l.length:Int):=by omega
  have hl1:=S.l1
  have g16:=S.hG.v.le
  obtain⟨f,r1,hfk,hok,hR,hpq,hpl⟩:=S.at hlt
  obtain⟨e5,w5,g5⟩:=S.g5
  have l5:=S.l5
  obtain⟨X,hX⟩:∃X,(H.set n1 (.cells [.int .i64 0] 3 true)).set n1 (.cells [.int .i64 k] 3 true)=X:=⟨_,rfl⟩
  have kX:Keeps H n1 X (n1+1):=by rw[←hX];exact(Keeps.refl.new _).set (Ys6 _)
  have gX:X.get n1=some (.cells [.int .i64 k] 3 true):=by rw[←hX,T.get_set,Ys8 rfl]
  have kk:=hK.trans kX
  have X5:=(kk.get p5 l5).trans g5
  have lt5:p5<n1+1:=by omega
  obtain⟨us,m1,m2,m3⟩:=S.ho
  obtain⟨uo,m4,m5⟩:=m3 k r1 hok
  obtain⟨i1,o1,c1,e1,rw1,s1,s2,s3,s4⟩:=m1.at m4
  have X1:=(kk.get i1 s2).trans s3
  have lo:=m1.len
  rw[m2,S.ll]at lo
  obtain⟨rl,rq⟩:=S.oq r1 (Ys9 hok)
  have lr:=Sl.len m5
  rw[Zjh,rl]at lr
  obtain⟨ut,n1',n2',n3'⟩:=S.ht
  have hok3:(out.map thr)[k]?=some (thr r1):=by rw[Ytb,hok];rfl
  obtain⟨ut1,n4',n5'⟩:=n3' k _ hok3
  obtain⟨i3,o3,c3,e3,rw3,v1,v2,v3,v4⟩:=n1'.at n4'
  have X3:=(kk.get i3 v2).trans v3
  have lt:=n1'.len
  rw[n2',Ytr,S.ll]at lt
  have lr3:=Sl.len n5'
  rw[Zjh,show (thr r1).length=g.length by simp[thr,rl]]at lr3
  have lg:=S.hg.len
  have spk:splice [V.int .i64 0] 0 [.int .i64 (k:Nat)]=[.int .i64 (k:Nat)]:=rfl
  have wn:¬n1<nB:=by omega
  simp(disch:=first|(simp;done)|omega|rfl) [-getElem?_pos,A.lb3_1,hr,hf,h127,a0,a1,a5,a9,a126,hlt,hlt',spk,hX,X5,gX,lt5,lo,s1,X1,s4,lr,lg,lt,v1,X3,v4,lr3]
  refine Zaf (Ymj (l:=r1.map Zaz) (Sl.keep m5 kk) (by rw[Ytr,rl];omega) (fun s hs=>?_)) ?_
  ·obtain⟨q,hq,rfl⟩:=Yup.1 hs
   have:=Zmp (rq q hq)
   omega
  rintro _ H2 n2 k2 rfl
  have hz:Zam ((r1.map Zaz).map fun s=>((chkNum s:Nat):Int))=0:=by
   have h0:∀s∈(r1.map Zaz),((chkNum s:Nat):Int)=0:=fun s hs=>by
    obtain⟨q,hq,rfl⟩:=Yup.1 hs
    obtain⟨j,hj⟩:=Yvh hq
    obtain⟨_,h2⟩:=Ztr hR
    obtain⟨s2,_,b1,b2⟩:=h2 j (by rw[←rl];exact Zat hj)
    rw[hj]at b1
    rw[←Ytz b1]at b2
    rw[Zpj,b2]
    rfl
   exact Zwy fun x hx=>by
    obtain⟨s,hs,rfl⟩:=Yup.1 hx
    exact h0 s hs
  rw[hz]
  have le2:=k2.le
  have kk2:=kk.trans k2
  simp(disch:=first|(simp;done)|omega|rfl) [-getElem?_pos,hr,hf,h127,a0,lg]
  refine Zah [(4,4),(14,16),(158,195)] (fun e _ st=>e=.exit 4∧Zac nB st.w=[]∧Keeps H2 n2 st.h st.n) (fun m r st=>Zac nB st.w=[]∧Keeps H2 n2 st.h st.n∧∃i,i+m=g.length∧r.get 158=some (.int .i64 (i:Nat))) g.length ?_ (Yg5 (p13:=n1) (k:=k) (vg:=vg) (vl:=vl) (vo:=vo) (vt:=vt) (g:=g) (l:=l) (out:=out) (f:=f) (r1:=r1) (by omega) ⟨S.hg.keep kk2,S.hG,S.hfl,S.hs.keepz kk2,S.ho.keep kk2,S.ht.keep kk2,⟨_,_,(kk2.get p5 l5).trans g5⟩,⟨_,_,(k2.get n1 (by omega)).trans gX⟩,by omega,by omega,hok,hfk,S.ll,hl1,hR,rq,hpq,hpl,S.fv f (Ys9 hfk)⟩ (by simp[hr,a0]) (by simp[hr,a1]) (by simp[hr,a5]) (by simp[hr,a9]) (by simp) (by simp) (by simp)) ?_
  ·exact⟨by simp[Zac,hW,wn],Keeps.refl,0,by omega,by simp⟩
  ·rintro _ r2 ⟨H3,n3,W3⟩ hr2 ⟨rfl,hW3,hK3⟩
   have hfi:=hf.inner (D':=[(4,4),(14,16),(158,195)]) rfl (by simp) hr2
   simp only at hW3 hK3
   simp(disch:=first|(simp;done)|omega|rfl) [-getElem?_pos,hr,hr2,h127,hfi,hW3]
   exact⟨m,by omega,kk2.trans hK3,k+1,by omega,by simp⟩
end Go.Mx
