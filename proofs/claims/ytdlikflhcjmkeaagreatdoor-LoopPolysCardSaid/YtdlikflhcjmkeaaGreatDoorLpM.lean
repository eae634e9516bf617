/-lensletref06-/
import Derived.Test.YtdlikflhcjmkeaaGreatDoorLpF
set_option linter.all false
set_option maxHeartbeats 4000000
namespace Go.Mx
open Go Go.Proofs
set_option maxRecDepth 1000000
noncomputable def A.b30:=A.q Tryz.f30
def A.k30:=@A.kk 30 46 [.tmp 2] A.b30 (by kernel_rfl) rfl
def Zn1{g l p:Rat}{d k:Nat}{h:T O}{N:Nat}(qg:Qb k g)(ql:Qb k l)(qp:Qb k p)(hk1:1≤k)(hk:k≤1000)(hd:d≤6):Fn A.C 30 [.agg [.str (Zaq g),.str (Zaq l),.str (Zaq p),.int .i64 d]] h N (fun x h' n'=>TxT h' n' x (Za6 g l p d)):=by
 intro w
 rw[Zab,A.k30 (by simp)]
 have kB:=kset (Keeps.refl (h:=h) (n:=N)) (.cells [.str (Zaq g),.str (Zaq l),.str (Zaq p),.int .i64 d] 49 true)
 have b0:(h.set N (.cells [.str (Zaq g),.str (Zaq l),.str (Zaq p),.int .i64 d] 49 true)).get N=some (.cells [.str (Zaq g),.str (Zaq l),.str (Zaq p),.int .i64 d] 49 true):=by simp
 have z0:=fun (h:T O) (N:Nat)=>Zy8 (h:=h) (N:=N) (n:=d+3) (by omega) (by omega)
 have ez:((d+3:Nat):Int)=(d:Int)+2+1:=by omega
 simp only[ez]at z0
 simp(disch:=first|(simp;done)|omega|rfl) [-getElem?_pos,A.b30]
 generalize h.set N (.cells [.str (Zaq g),.str (Zaq l),.str (Zaq p),.int .i64 d] 49 true)=hB at*
 refine Zaa (z0 hB (N+1)) ?_
 rintro _ h1 n1 k1 ⟨R,rfl,hR,s1⟩
 have le1:=k1.le
 have f1:=(k1.get N (by omega)).trans b0
 have e1:N<n1:=by omega
 have lR:=s1.lt
 have r1:=s1.get
 have d1:(d:Int)+2<(d:Int)+3:=by omega
 have d2:((d:Int)+2).toNat=d+2:=by omega
 have d3:(0:Int)≤(d:Int)+2:=by omega
 have hl0:((List.range (d+3)).map fun _=>(0:Rat)).length=d+3:=by simp
 obtain⟨x1,x2⟩:=s1.put (j:=d+2) (q:=1) (by omega)
 rw[Ykr]at x1
 have gz:(((List.range (d+3)).map fun _=>(0:Rat)).set (d+2) 1)[d+1]?=some 0:=by
  rw[Yqj (by omega)];simp
 have hl1:(((List.range (d+3)).map fun _=>(0:Rat)).set (d+2) 1).length=d+3:=by simp
 generalize hL1:((List.range (d+3)).map fun _=>(0:Rat)).set (d+2) 1=L1 at*
 have t1:=Zks gz
 have txt0:Zaq 0=[48]:=Yhh
 have d4:(d:Int)+2-1<(d:Int)+3:=by omega
 have d5:((d:Int)+2-1).toNat=d+1:=by omega
 have d6:(0:Int)≤(d:Int)+2-1:=by omega
 have nR:¬N=R:=by omega
 have kC:Keeps h N (h1.set R (.cells (tx L1) 30 true)) n1:=(kB.trans k1).set (by omega)
 have f2:(h1.set R (.cells (tx L1) 30 true)).get N=some (.cells [.str (Zaq g),.str (Zaq l),.str (Zaq p),.int .i64 d] 49 true):=by rw[T.get_set,Yqe nR];exact f1
 have nRN:¬R<N:=by omega
 simp(disch:=first|(simp;done)|omega|rfl) [-getElem?_pos,f1,e1,lR,r1,nRN,d1,d2,d3,d4,d5,d6,nR,Zal,x1,Zfc,t1]
 have r2:=x2.get
 generalize h1.set R (.cells (tx L1) 30 true)=H2 at*
 have b0':Qb k 0:=(Qb.int (z:=0) (k:=1) (by decide) (by decide)).mono hk1
 have b1':Qb k 1:=(Qb.int (z:=1) (k:=1) (by decide) (by decide)).mono hk1
 have ll:=Zly ql
 have lp:=Zly qp
 refine Zaa (Zjh (a:=0) (b:=l) b0' ql (by omega) (by omega) (by omega)) ?_
 rintro _ h3 n3 k3 rfl
 rw[show (0:Rat)-l= -l from by grind]
 have le3:=k3.le
 have x2':=x2.keep k3
 obtain⟨y1,y2⟩:=x2'.put (j:=d+1) (q:= -l) (by omega)
 have r3:=x2'.get
 have lR3:=x2'.lt
 have e3:N<n3:=by omega
 have f3:=(k3.get N (by omega)).trans f2
 have g1q:(L1.set (d+1) (-l))[1]?=some (if d=0 then -l else 0):=by
  rw[←hL1]
  by_cases hd0:d=0
  ·subst hd0;simp
  ·rw[Yqj (by omega),Yqj (by omega)];simp[hd0]
 have hl2:(L1.set (d+1) (-l)).length=d+3:=by simp[hl1]
 generalize hL2:L1.set (d+1) (-l)=L2 at*
 have t2:=Zks g1q
 have kD:Keeps h N (h3.set R (.cells (tx L2) 30 true)) n3:=(kC.trans k3).set (by omega)
 have f4:(h3.set R (.cells (tx L2) 30 true)).get N=some (.cells [.str (Zaq g),.str (Zaq l),.str (Zaq p),.int .i64 d] 49 true):=by rw[T.get_set,Yqe nR];exact f3
 have q2:(1:Int)<(d:Int)+3:=by omega
 have q3:(0:Int)<(d:Int)+3:=by omega
 simp(disch:=first|(simp;done)|omega|rfl) [-getElem?_pos,r3,lR3,d4,d5,d6,Zal,y1,Zfc,hl1,Zam.chk,f3,e3,nR,q2,t2,hl2]
 generalize h3.set R (.cells (tx L2) 30 true)=H4 at*
 have bz:Qb k (if d=0 then -l else 0):=by
  split
  ·exact ql.neg
  ·exact b0'
 refine Zaa (Zpq qg qp (by omega) (by omega)) ?_
 rintro _ h5 n5 k5 rfl
 simp(disch:=first|(simp;done)|omega|rfl) [-getElem?_pos,]
 refine Zaa (Zpq bz (qg.add qp) (by omega) (by omega)) ?_
 rintro _ h6 n6 k6 rfl
 have k56:=k5.trans k6
 have le6:=k56.le
 have y3:=y2.keep k56
 obtain⟨z1,z2⟩:=y3.put (j:=1) (q:=(if d=0 then -l else 0)+(g+p)) (by omega)
 have r6:=y3.get
 have lR6:=y3.lt
 have e6:N<n6:=by omega
 have f6:=(k56.get N (by omega)).trans f4
 have g0q:(L2.set 1 ((if d=0 then -l else 0)+(g+p)))[0]?=some 0:=by
  rw[←hL2,←hL1,Yqj (by omega),Yqj (by omega),Yqj (by omega)];simp
 have hl3:(L2.set 1 ((if d=0 then -l else 0)+(g+p))).length=d+3:=by simp[hl2]
 generalize hL3:L2.set 1 ((if d=0 then -l else 0)+(g+p))=L3 at*
 have t3:=Zks g0q
 have kE:Keeps h N (h6.set R (.cells (tx L3) 30 true)) n6:=(kD.trans k56).set (by omega)
 simp(disch:=first|(simp;done)|omega|rfl) [-getElem?_pos,r6,lR6,Zal,z1,Zfc,hl2,hl3,Zam.chk,f6,e6,nR,q2,q3,t3]
 generalize h6.set R (.cells (tx L3) 30 true)=H7 at*
 refine Zaa (Zjh (a:=0) (b:=p) b0' qp (by omega) (by omega) (by omega)) ?_
 rintro _ h8 n8 k8 rfl
 rw[show (0:Rat)-p= -p from by grind]
 have z3:=z2.keep k8
 obtain⟨w1,w2⟩:=z3.put (j:=0) (q:= -p) (by omega)
 have r8:=z3.get
 have lR8:=z3.lt
 have le8:=k8.le
 simp(disch:=first|(simp;done)|omega|rfl) [-getElem?_pos,r8,lR8,Zal,w1,Zfc,hl3,Zam.chk,q3,nRN,Ret]
 have ecq:L3.set 0 (-p)=Za6 g l p d:=by
  rw[←hL3,←hL2,←hL1,←Rat.add_assoc];rfl
 have fin:=w2.txt
 rw[Ytk,hl3,ecq]at fin
 rw[ecq]
 exact⟨(kE.trans k8).set (by omega),fin⟩
variable {v:V}
noncomputable def A.b23:=A.q Tryz.f23
def A.c23:A.F 23=some ⟨29,[.tmp 8],A.b23⟩:=by kernel_rfl
def A.k23:=@A.kk 23 _ _ _ A.c23 rfl
noncomputable def A.b29:=A.q Tryz.f29
def A.c29:A.F 29=some ⟨30,[.tmp 8],A.b29⟩:=by kernel_rfl
def A.k29:=@A.kk 29 _ _ _ A.c29 rfl
def Zzz{e:Int}{s:Str}{st:St}(h:e≠0):A.C.call (.func 23 [] []) [.str [],.int .i64 e,.int .i64 e,.str s] st=some (.bool true,st):=by
 apply Call.eq
 rw[Zab,A.k23 (by simp)]
 simp(disch:=first|(simp;done)|omega|rfl) [-getElem?_pos,A.b23,h,Zak]
def Yd9{q:Rat}{st:St}(hl:(Zaq q).length<1000000000)(hb:Zrn q=false):A.C.call (.func 23 [] []) [.str (Zaq q),.int .i64 0,.int .i64 0,.str (Zaq q)] st=some (.bool true,st):=by
 have hL:=fun st=>Zmq (q:=q) (st:=st) hl
 simp only[hb,Yqm,if_false]at hL
 apply Call.eq
 rw[Zab,A.k23 (by simp)]
 simp(disch:=first|(simp;done)|omega|rfl) [-getElem?_pos,A.b23,hL,Zak]
def Yii{q:Rat}{st:St}(hl:(Zaq q).length<1000000000)(hb:Zrn q=true):A.C.call (.func 23 [] []) [.str [],.int .i64 4,.int .i64 0,.str (Zaq q)] st=some (.bool true,st):=by
 have hL:=fun st=>Zmq (q:=q) (st:=st) hl
 simp only[hb,if_true]at hL
 apply Call.eq
 rw[Zab,A.k23 (by simp)]
 simp(disch:=first|(simp;done)|omega|rfl) [-getElem?_pos,A.b23,hL,Zak]
def Yh0{e:Int}{st:St}(h:e≠0):A.C.call (.func 29 [] []) [.nilslice,.int .i64 e,.int .i64 e,v] st=some (.bool true,st):=by
 apply Call.eq
 rw[Zab,A.k29 (by simp)]
 simp(disch:=first|(simp;done)|omega|rfl) [-getElem?_pos,A.b29,h,Zak]
def Ydv{h:T O}{N:Nat}{u:V}{l:List Rat}{w:List Nat}(hu:Tx h N u l)(hv:Tx h N v l)(hl:l.length<100000)(hq:∀q∈l,(Zaq q).length<1000000000)(hb:Zcy l=false):A.C.call (.func 29 [] []) [u,.int .i64 0,.int .i64 0,v] ⟨h,N,w⟩=some (.bool true,⟨h,N,w⟩):=by
 have hL:=fun w=>Yas (w:=w) hv hl hq
 simp only[hb,Yqm,if_false]at hL
 have hS:=fun w=>Yhl (w:=w) (l:=l.map Zaq) hu hv (by simpa using hl)
 apply Call.eq
 rw[Zab,A.k29 (by simp)]
 simp(disch:=first|(simp;done)|omega|rfl) [-getElem?_pos,A.b29,hL,hS,Zak]
def Yhz{h:T O}{N:Nat}{l:List Rat}{w:List Nat}(hv:Tx h N v l)(hl:l.length<100000)(hq:∀q∈l,(Zaq q).length<1000000000)(hb:Zcy l=true):A.C.call (.func 29 [] []) [.nilslice,.int .i64 4,.int .i64 0,v] ⟨h,N,w⟩=some (.bool true,⟨h,N,w⟩):=by
 have hL:=fun w=>Yas (w:=w) hv hl hq
 simp only[hb,if_true]at hL
 apply Call.eq
 rw[Zab,A.k29 (by simp)]
 simp(disch:=first|(simp;done)|omega|rfl) [-getElem?_pos,A.b29,hL,Zak]
def A.b4:Zaz:=sr [bx 1 48 0,ge 2 (.mov (.const (.bool false)))]
 (sr [lN 9 4 1,ge 3 (.alloc [(.str []),(.str []),(.str []),.int .i64 0] 49),gn (.store 4 (tq 3) (tq 9))]
 (.seq (sr [ge 10 (.call (fq 7) []),ge 11 (.un .not (tq 10)),mv 12 11,gz 13 12 (.load (some 4) (tq 3)),gz 14 12 (.call (fq 24) [tq 13]),gz 15 12 (.un .not (tq 14)),pt 16 12 15]
 (cd 16
 (sr [ge 17 (.call (fq 7) []),mv 2 17]
 (.ret))
 (.skip)))
 (sr [lN 18 4 3,c1 19 25 18,mv 4 19]
 (.seq (sr [lN 20 4 1,c1 21 26 20,mv 22 4,ge 23 (.bin .neq (.prim .int) false (tq 21) (tq 22))]
 (cd 23
 (sr [ge 2 (.mov (.const (.bool false)))]
 (.ret))
 (.skip)))
 (sr [lN 25 4 1,c1 26 27 25,mv 24 26,xt 27 24 0,xt 28 24 1,mv 5 27,mv 6 28]
 (sr [lN 30 4 1,c1 31 28 30,mv 29 31,xt 32 29 0,xt 33 29 1,mv 7 32,mv 8 33]
 (.seq (sr [mv 34 4,ni 35 34 0]
 (cd 35
 (sr [mv 36 5,mv 37 6,mv 38 4,ge 39 (.call (fq 29) [tq 36,tq 37,tq 38,.const .nilslice]),mv 40 39,mg 41 7 40,mg 42 8 40,mg 43 4 40,gy 44 40 (.call (fq 23) [tq 41,tq 42,tq 43,(.const (.str []))]),pf 45 40 44,mv 2 45]
 (.ret))
 (.skip)))
 (.seq (sr [mv 46 5,mv 47 6,lN 48 4 3,c1 49 30 48,ge 50 (.call (fq 29) [tq 46,tq 47,.const (.int .i64 0),tq 49]),ge 51 (.un .not (tq 50))]
 (cd 51
 (sr [ge 2 (.mov (.const (.bool false)))]
 (.ret))
 (.skip)))
 (.seq (sr [lN 52 4 3,c1 53 30 52,c1 54 15 53,ge 55 (.un .not (tq 54))]
 (cd 55
 (sr [mv 56 7,mv 57 8,ge 58 (.call (fq 23) [tq 56,tq 57,.const (.int .i64 15),(.const (.str []))]),mv 2 58]
 (.ret))
 (.skip)))
 (sr [mv 59 7,mv 60 8,lN 61 4 3,c1 62 31 61,ge 63 (.call (fq 23) [tq 59,tq 60,.const (.int .i64 0),tq 62]),mv 2 63]
 (.ret)))))))))))
def A.c4:A.F 4=some ⟨64,[.tmp 2],A.b4⟩:=by kernel_rfl
def A.k4:=@A.kk 4 _ _ _ A.c4 rfl
def Zro{h:T O}{N:Nat}{w:List Nat}(hP:P10 h N):A.C.call (.func 7 [] []) [] ⟨h,N,w⟩=some (.bool true,⟨h,N,w⟩):=by
 exact A.known hP.2
def Ym3{k d:Nat}(hk:k≤494)(hd:d≤6):k*5^(d+3-1)≤200000000:=by
 have h1:5^(d+3-1)≤5^8:=Yq3 (by omega) (by omega)
 have h2:=Yr1 hk h1
 have:494*5^8=192968750:=by decide
 omega
def Ycd{g l p:Str}{d:Int}{h:T O}{N:Nat}(hP:P10 h N)(hg:g.length<9223372036854775808)(hl:l.length<9223372036854775808)(hp:p.length<9223372036854775808):Fn A.C 4 [.agg [.str g,.str l,.str p,.int .i64 d]] h N (fun x _ _=>x=.bool true):=by
 intro w
 rw[Zab,A.k4 (by simp)]
 have kB:Keeps h N (((h.set N (.cells [.str g,.str l,.str p,.int .i64 d] 48 true)).set (N+1) (.cells [.str [],.str [],.str [],.int .i64 0] 49 true)).set (N+1) (.cells [.str g,.str l,.str p,.int .i64 d] 49 true)) (N+2):=((Keeps.refl.new _).new _).set (by omega)
 have hA:=fun w=>Zro (w:=w) (hP.keep kB)
 have b0:(((h.set N (.cells [.str g,.str l,.str p,.int .i64 d] 48 true)).set (N+1) (.cells [.str [],.str [],.str [],.int .i64 0] 49 true)).set (N+1) (.cells [.str g,.str l,.str p,.int .i64 d] 49 true)).get N=some (.cells [.str g,.str l,.str p,.int .i64 d] 48 true):=by simp
 have b1:(((h.set N (.cells [.str g,.str l,.str p,.int .i64 d] 48 true)).set (N+1) (.cells [.str [],.str [],.str [],.int .i64 0] 49 true)).set (N+1) (.cells [.str g,.str l,.str p,.int .i64 d] 49 true)).get (N+1)=some (.cells [.str g,.str l,.str p,.int .i64 d] 49 true):=by simp
 simp(disch:=first|(simp;done)|omega|rfl) [-getElem?_pos,A.b4,Zah,slc,splice,Zal]
 generalize ((h.set N (.cells [.str g,.str l,.str p,.int .i64 d] 48 true)).set (N+1) (.cells [.str [],.str [],.str [],.int .i64 0] 49 true)).set (N+1) (.cells [.str g,.str l,.str p,.int .i64 d] 49 true)=hB at*
 simp(disch:=first|(simp;done)|omega|rfl) [-getElem?_pos,hA,b0,b1,Zah,slc]
 refine Zaa (Ydk hg hl hp) ?_
 rintro _ h1 n1 k1 rfl
 have le1:=k1.le
 have K1:=kB.trans k1
 have hA1:=fun w=>Zro (w:=w) (hP.keep K1)
 have f0:=(k1.get N (by omega)).trans b0
 have f1:=(k1.get (N+1) (by omega)).trans b1
 have e0:N<n1:=by omega
 have e1:N+1<n1:=by omega
 by_cases cS:g.length≤40∧l.length≤40∧p.length≤40
 ·simp(disch:=first|(simp;done)|omega|rfl) [-getElem?_pos,cS,f0,f1,e0,e1,Zah,slc]
  refine Zaa (Yh6 (by omega) (by omega) (by omega)) ?_
  rintro _ h2 n2 k2 rfl
  have le2:=k2.le
  have f02:=(k2.get N (by omega)).trans f0
  have f12:=(k2.get (N+1) (by omega)).trans f1
  have e02:N<n2:=by omega
  simp(disch:=first|(simp;done)|omega|rfl) [-getElem?_pos,f02,f12,e02,Zah,slc]
  refine Zaa (Ycf cS.1 cS.2.1 cS.2.2 (by omega)) ?_
  rintro _ h3 n3 k3 rfl
  have le3:=k3.le
  have f03:=(k3.get N (by omega)).trans f02
  have f13:=(k3.get (N+1) (by omega)).trans f12
  have e03:N<n3:=by omega
  have K3:=(K1.trans k2).trans k3
  simp(disch:=first|(simp;done)|omega|rfl) [-getElem?_pos,f03,f13,e03,Zah,slc,Zak]
  refine Zaa (Zx8 (hP.keep K3) cS.1 cS.2.1 cS.2.2 (by omega)) ?_
  rintro x4 h4 n4 k4 hx4
  have le4:=k4.le
  have K4:=K3.trans k4
  have f04:=(k4.get N (by omega)).trans f03
  have f14:=(k4.get (N+1) (by omega)).trans f13
  have e04:N<n4:=by omega
  rcases hx4 with⟨c,rfl⟩|⟨c,hx4⟩
  ·simp(disch:=first|(simp;done)|omega|rfl) [-getElem?_pos,f04,f14,e04,Zah,slc]
   refine Zaa (Zp6 (hP.keep K4) cS.1 cS.2.1 cS.2.2) ?_
   rintro _ h5 n5 k5 rfl
   have hrb:=fun st=>Yh0 (v:=.nilslice) (st:=st) c
   have hnb:=fun st=>Zzz (s:=[]) (st:=st) c
   unfold Zot
   rw[Yqe c]
   simp(disch:=first|(simp;done)|omega|rfl) [-getElem?_pos,c,Zak,hrb,hnb,Ret]
   exact K4.trans k5
  ·obtain⟨cg,cl,cp,dn,rfl,dl,_⟩:=Yn9 c
   have qg:=Ze6 cg cS.1
   have ql:=Ze6 cl cS.2.1
   have qp:=Ze6 cp cS.2.2
   have eg:=(Zco cg).1
   have el:=(Zco cl).1
   have ep:=(Zco cp).1
   rw[Int.toNat_natCast]at hx4
   have qc:=Zm4 (d:=dn) qg ql qp (by omega)
   have cl9:=@Zgg (ratS g) (ratS l) (ratS p) dn
   obtain⟨xv,xe,rfl,hro⟩:∃xv xe,x4=.tup [xv,.int .i64 xe]∧∀{h':T O} {N':Nat} {v:V},Keeps h4 n4 h' N'→Tx h' N' v (Za6 (ratS g) (ratS l) (ratS p) dn)→∀w,A.C.call (.func 29 [] []) [xv,.int .i64 xe,.int .i64 0,v] ⟨h',N',w⟩=some (.bool true,⟨h',N',w⟩):=by
    have hl9:(Za6 (ratS g) (ratS l) (ratS p) dn).length<100000:=by rw[cl9.1];omega
    have hq9:∀q∈Za6 (ratS g) (ratS l) (ratS p) dn,(Zaq q).length<1000000000:=fun q hq=>by
     have:=Zly (qc q hq)
     omega
    rcases hx4 with⟨a,rfl⟩|⟨a,v4,rfl,t4⟩
    ·exact⟨_,_,rfl,fun kk hv w=>Yhz hv hl9 hq9 a⟩
    ·exact⟨_,_,rfl,fun kk hv w=>Ydv (t4.keep kk).1 hv hl9 hq9 a⟩
   clear hx4
   simp(disch:=first|(simp;done)|omega|rfl) [-getElem?_pos,f04,f14,e04,Zah,slc]
   refine Zaa (Zp6 (hP.keep K4) cS.1 cS.2.1 cS.2.2) ?_
   rintro _ h5 n5 k5 rfl
   have le5:=k5.le
   have f15:=(k5.get (N+1) (by omega)).trans f14
   have e15:N+1<n5:=by omega
   have K5:=K4.trans k5
   unfold Zot
   rw[Yqi c,Int.toNat_natCast]
   have hcs:stQ (ratS g) (ratS l) (ratS p) dn=true→1-ratS l+ratS g≠0:=fun h=>Zp5 dl h
   generalize ratS g=qg' at*
   generalize ratS l=ql' at*
   generalize ratS p=qp' at*
   subst eg el ep
   have fin:∀(s:V),(s=if stQ qg' ql' qp' dn=true then (if Zrn ((1-ql')/(1-ql'+qg'))=true then .tup [.str [],.int .i64 4] else .tup [.str (Zaq ((1-ql')/(1-ql'+qg'))),.int .i64 0]) else .tup [.str [],.int .i64 15])→∃x y,s=.tup [x,y]:=fun s hs=>by
    rw[hs];split
    ·split<;>exact⟨_,_,rfl⟩
    ·exact⟨_,_,rfl⟩
   generalize hsv:(if stQ qg' ql' qp' dn=true then (if Zrn ((1-ql')/(1-ql'+qg'))=true then V.tup [.str [],.int .i64 4] else .tup [.str (Zaq ((1-ql')/(1-ql'+qg'))),.int .i64 0]) else .tup [.str [],.int .i64 15])=sv at*
   obtain⟨sx,sy,rfl⟩:=fin sv rfl
   simp(disch:=first|(simp;done)|omega|rfl) [-getElem?_pos,c,Zak,f15,e15,Zah,slc]
   refine Zaa (Zn1 qg ql qp (by omega) (by omega) dl) ?_
   rintro v6 h6 n6 k6 t6
   have le6:=k6.le
   have f16:=(k6.get (N+1) (by omega)).trans f15
   have e16:N+1<n6:=by omega
   have K6:=K5.trans k6
   have hr6:=hro (k5.trans k6) t6.1
   clear hro
   simp(disch:=first|(simp;done)|omega|rfl) [-getElem?_pos,hr6,f16,e16,Zah,slc]
   refine Zaa (Zn1 qg ql qp (by omega) (by omega) dl) ?_
   rintro v7 h7 n7 k7 t7
   have le7:=k7.le
   have f17:=(k7.get (N+1) (by omega)).trans f16
   have e17:N+1<n7:=by omega
   have K7:=K6.trans k7
   simp(disch:=first|(simp;done)|omega|rfl) [-getElem?_pos,]
   refine Zaa (Zv8 (k:=3*164+2) t7.1 (by rw[cl9.1];omega) (by rw[cl9.1];omega) (by rw[cl9.1];show pg _ (dn+2)≠0;rw[cl9.2];decide) (fun q hq=>(qc q hq).mono (by omega)) (by omega) (by rw[cl9.1];exact Ym3 (by omega) dl)) ?_
   rintro _ h8 n8 k8 rfl
   have le8:=k8.le
   have f18:=(k8.get (N+1) (by omega)).trans f17
   have e18:N+1<n8:=by omega
   have K8:=K7.trans k8
   have hst:stabQ (Za6 qg' ql' qp' dn).length (Za6 qg' ql' qp' dn)=stQ qg' ql' qp' dn:=by rw[cl9.1];rfl
   rw[hst]
   by_cases cs:stQ qg' ql' qp' dn=true
   ·rw[Yqi cs]at hsv
    have hne:=hcs cs
    have q1:Qb 1 (1:Rat):=Qb.int (z:=1) (k:=1) (by decide) (by decide)
    have qs:=q1.sub ql
    have qv:Qb 600 ((1-ql')/(1-ql'+qg')):=by
     rw[Rat.div_def]
     exact(qs.mul ((qs.add qg).inv hne)).mono (by omega)
    have lv:=Zly qv
    simp(disch:=first|(simp;done)|omega|rfl) [-getElem?_pos,cs,f18,e18,Zah,slc]
    refine Zaa (Zv7 qg ql (by omega) hne) ?_
    rintro _ h9 n9 k9 rfl
    have K9:=K8.trans k9
    by_cases cb:Zrn ((1-ql')/(1-ql'+qg'))=true
    ·rw[Yqi cb]at hsv
     simp only[V.tup.injEq,Yqu,and_true]at hsv
     obtain⟨rfl,rfl⟩:=hsv
     have hn:=fun st=>Yii (st:=st) (q:=(1-ql')/(1-ql'+qg')) (by omega) cb
     simp(disch:=first|(simp;done)|omega|rfl) [-getElem?_pos,hn,Ret]
     exact K9
    ·rw[Yqe cb]at hsv
     simp only[V.tup.injEq,Yqu,and_true]at hsv
     obtain⟨rfl,rfl⟩:=hsv
     have hn:=fun st=>Yd9 (st:=st) (q:=(1-ql')/(1-ql'+qg')) (by omega) (by simpa using cb)
     simp(disch:=first|(simp;done)|omega|rfl) [-getElem?_pos,hn,Ret]
     exact K9
   ·rw[Yqe cs]at hsv
    simp only[V.tup.injEq,Yqu,and_true]at hsv
    obtain⟨rfl,rfl⟩:=hsv
    have hn:=fun st=>Zzz (e:=15) (s:=[]) (st:=st) (by decide)
    simp(disch:=first|(simp;done)|omega|rfl) [-getElem?_pos,cs,hn,Ret]
    exact K8
 ·simp(disch:=first|(simp;done)|omega|rfl) [-getElem?_pos,cS,hA1,Ret]
  exact K1
end Go.Mx
