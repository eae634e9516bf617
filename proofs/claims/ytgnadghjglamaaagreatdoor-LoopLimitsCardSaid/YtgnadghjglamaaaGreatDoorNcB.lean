/-strconv-/
import Derived.Test.YtgnadghjglamaaaGreatDoorNcA
set_option linter.all false
set_option maxHeartbeats 1000000
namespace Go.Mx
noncomputable section
open Go Go.Proofs
variable {j o x:Nat}
set_option maxRecDepth 1000000
def A.b275:=A.q Tryz.f275
def A.k275:=@A.kk 275 32 [.tmp 4] A.b275 (by kernel_rfl) rfl
def A.b294:=A.q Tryz.f294
def A.k294:=@A.kk 294 54 [.tmp 4] A.b294 (by kernel_rfl) rfl
def A.b274:=A.q Tryz.f274
def A.k274:=@A.kk 274 5 [.tmp 2] A.b274 (by kernel_rfl) rfl
def A.b239:=A.q Tryz.f239
def A.k239:=@A.kk 239 5 [.tmp 2] A.b239 (by kernel_rfl) rfl
def A.b240:=A.q Tryz.f240
def A.k240:=@A.kk 240 8 [.tmp 4] A.b240 (by kernel_rfl) rfl
def Ygp:∀{x:Nat},(j:Nat)->j<(dq x).length->(dq x)[j]?=some (dh (x/10^((dq x).length-1-j))):=by
 intro x
 induction x using Nat.strongRecOn with
 |_ x ih=>
  intro j hj
  by_cases h0:x=0
  ·subst h0;rw[tu]at hj;simp at hj
  ·have e:=wZ h0
   have hl:(dq x).length=(dq (x/10)).length+1:=by rw[e];simp
   rw[hl]
   rw[e]
   by_cases nM:j<(dq (x/10)).length
   ·rw[rR nM,ih _ (B7 (by omega) (by decide)) j nM,IW]
    congr 3
    rw[show (dq (x/10)).length+1-1-j=((dq (x/10)).length-1-j)+1 by omega,fO,gk]
   ·have:j=(dq (x/10)).length:=by omega
    subst this
    simp
def Znh{L:Nat}{f:Nat->V}(hL:L=(dq x).length)(hf:∀j,j<L->f (o+j)=vB (dh (x/10^(L-1-j)))):(List.range L).map (fun j=>f (o+j))=(dq x).map vB:=by
 apply qG
 intro j
 rw[mL,mL]
 by_cases hj:j<L
 ·rw[Oi hj,Ygp j (by omega),<-hL]
  simp[hf j hj]
 ·rw[mb (by simpa using hj),mb (by omega)]
  rfl
def Zpf{Z L:Nat}{f:Nat->V}(h:o+L<=Z):aE (vK Z f) o L=some ((List.range L).map fun j=>f (o+j)):=by
 unfold aE
 rw[An,aQ h]
 congr 1
 apply qG
 intro j
 rw[lX,mL]
 by_cases hj:j<L
 ·rw[aQ hj,ix,T4 (by omega),Oi hj];rfl
 ·rw[aA hj,mb (by simpa using hj)];rfl
def T7:V->Option UInt8
 |.int .u8 n=>some (UInt8.ofNat n.toNat)
 |_=>none
def Qu(st:St):Option (List V)->Option (V×St)
 |some l=>match l.mapM T7 with
  |some s=>some (.str s,st)
  |none=>none
 |none=>none
def T8(st:St)(o len:Nat):Option (List V×TypeId×Bool)->Option (V×St)
 |some (c,_,_)=>Qu st (aE c o len)
 |none=>none
def Ylb(st:St):Option V->Option (V×St)
 |some .aa=>some (.str [],st)
 |some (.slice i o len _ 1)=>T8 st o len (st.row i)
 |_=>none
def Zgc{x:Src}{call:cM}{r:T V}{st:St}:I9 x call r st=Ylb st (x.ev r):=by
 unfold I9 Ylb T8 Qu
 rfl
def Zi3{st:St}{i len:Nat}{c:Option Nat}:Ylb st (some (.slice i o len c 1))=T8 st o len (st.row i):=rfl
def Zi4{st:St}{len:Nat}{c:List V}{e:TypeId}{b:Bool}:T8 st o len (some (c,e,b))=Qu st (aE c o len):=rfl
def Znr{st:St}:∀{s:aU},Qu st (some (s.map vB))=some (.str s,st):=by
 intro s
 have:(s.map vB).mapM T7=some s:=by
  induction s with
  |nil=>rfl
  |cons c s ih=>
   rw[lF,List.mapM_cons,ih]
   have:T7 (vB c)=some c:=by simp[T7,vB,cR]
   simp[this]
 simp only[Qu,this]
def Ypi:∀j:Nat,j<10->(List.take (j+1) Ycx).drop j=[dh j]:=by decide+kernel
def Ynd:∀j:Nat,j<100->(List.take (2*j+2) rp).drop (2*j)=[dh (j/10),dh j]:=by decide+kernel
def Zy1:Ycx.length=36:=by decide+kernel
def Ycy:rp.length=200:=by decide+kernel
def Yc3(h:j<10):av j=[dh j]:=by
 unfold av
 split
 ·subst j;rfl
 ·rw[wZ (by assumption),show j/10=0 by omega,tu];rfl
def Zy2(h:j<100)(h2:10<=j):av j=[dh (j/10),dh j]:=by
 unfold av
 rw[aA (by omega),wZ (by omega),wZ (by omega),show j/10/10=0 by omega,tu];rfl
def Zuy(hj:j<100){h:T O}{N:Nat}:Fn A.C 295 [.int .i64 j] h N (fun v h' N'=>h'=h/\N'=N/\v=.str (av j)):=by
 intro w
 rw[aV,A.k295 (by simp)]
 by_cases c:j<10
 ·have e1:=Ypi j c
  have e2:(j:Int)+1<=36:=by omega
  have e3:((j:Int)+1).toNat=j+1:=by omega
  have e4:(j:Int)<10:=by omega
  have e5:(0:Int)<=(j:Int)+1:=by omega
  have e8:(j:Int)<=(j:Int)+1:=by omega
  simp(disch:=first|(simp;done)|omega|(simp only[Zab,aq,ak];omega)|rfl) [-getElem?_pos,A.b295,e4,yq,aC,dK,kY,Zy1,e1,e2,e3,e5,e8,aF,Yc3 c]
  exact ae.refl
 ·have e1:=Ynd j hj
  have e4:¬(j:Int)<10:=by omega
  have e2:(j:Int)*2+2<=200:=by omega
  have e3:((j:Int)*2+2).toNat=2*j+2:=by omega
  have e5:(0:Int)<=(j:Int)*2+2:=by omega
  have e6:(0:Int)<=(j:Int)*2:=by omega
  have e8:(j:Int)*2<=2*(j:Int)+2:=by omega
  have e7:((j:Int)*2).toNat=2*j:=by omega
  simp(disch:=first|(simp;done)|omega|(simp only[Zab,aq,ak];omega)|rfl) [-getElem?_pos,A.b295,e4,yq,aC,dK,kY,Ycy,e1,e2,e3,e5,e6,e7,e8,aF,Zy2 hj (xC.1 c)]
  exact ae.refl
def Yla:[V.int .u8 0,V.int .u8 0,V.int .u8 0,V.int .u8 0,V.int .u8 0,V.int .u8 0,V.int .u8 0,V.int .u8 0,V.int .u8 0,V.int .u8 0,V.int .u8 0,V.int .u8 0,V.int .u8 0,V.int .u8 0,V.int .u8 0,V.int .u8 0,V.int .u8 0,V.int .u8 0,V.int .u8 0,V.int .u8 0,V.int .u8 0,V.int .u8 0,V.int .u8 0,V.int .u8 0]=vK 24 (fun _=>.int .u8 0):=rfl
def Zo0(hx:x<18446744073709551616):(dq x).length<=20:=pn.1 (by omega)
def Ko(h:x≠0):av x=dq x:=by unfold av;rw[aA h]
def Ypd(hx:x<18446744073709551616){h:T O}{N:Nat}(hp:mC h N):Fn A.C 275 [.int .u64 x,.int .i64 10] h N (fun v h' N'=>v=.str (av x)):=by
 intro w
 rw[aV,A.k275 (by simp)]
 by_cases c:x<100
 ·have c1:(x:Int)<100:=by omega
  have e1:bn .i64 (x:Int)=(x:Int):=cL (by omega) (by omega)
  simp(disch:=first|(simp;done)|omega|(simp only[Zab,aq,ak];omega)|rfl) [-getElem?_pos,A.b275,aL,c1,e1]
  refine az (Zuy c) ?_
  rintro _ _ _ _ ⟨rfl,rfl,rfl⟩
  simp(disch:=first|(simp;done)|omega|(simp only[Zab,aq,ak];omega)|rfl) [-getElem?_pos,aF]
  exact ae.refl
 ·have c1:¬(x:Int)<100:=by omega
  simp(disch:=first|(simp;done)|omega|(simp only[Zab,aq,ak];omega)|rfl) [-getElem?_pos,A.b275,aL,c1,Yla]
  refine az (Yjr hx (by omega) (hp.ah (aI ae.refl _))) ?_
  rintro _ _ _ _ ⟨rfl,rfl,rfl⟩
  have hl:=Zo0 hx
  obtain⟨L,hL⟩:∃L,(dq x).length=L:=⟨_,rfl⟩
  have T9:x<10^L:=pn.2 (by omega)
  have e2:(L:Int)<=24:=by omega
  rw[hL]
  rw[hL]at hl
  simp(disch:=first|(simp;done)|omega|(simp only[Zab,aq,ak];omega)|rfl) [-getElem?_pos,zC,aC,dK,kY,e2,An]
  refine Bi (Zud (n2:=N) (Z:=24) (o:=0) (x:=x) (f0:=fun _=>.int .u8 0) (e:=291) (by omega) (by omega) (aZ N) (tO N) T9 hx (by rw[T.aj,aQ rfl])) ?_
  rintro v ⟨H2,n2,W2⟩ ⟨hn,hW,hO,f,hr,hd,_⟩
  simp only at hn hW hO hr
  subst hn
  have cZ:=Zpf (f:=f) (show 0+L<=24 by omega)
  rw[Znh hL.symm hd]at cZ
  simp(disch:=first|(simp;done)|omega|(simp only[Zab,aq,ak];omega)|rfl) [-getElem?_pos,zC,aC,dK,kY,e2,An,Zgc,Zi3,Zi4,hr,cZ,Znr,aF]
  have CY:aD N W2=[]:=hW
  rw[CY,Ko (by omega)]
  refine⟨rfl,⟨Ar _,fun i hi=>?_⟩,rfl⟩
  rw[hO i (by omega),T.aj,aA (by omega)]
def Yhw(hx:x<18446744073709551616){h:T O}{N:Nat}(hp:mC h N):Fn A.C 240 [.int .u64 x,.int .i64 10] h N (fun v h' N'=>v=.str (av x)):=by
 intro w
 rw[aV,A.k240 (by simp)]
 simp(disch:=first|(simp;done)|omega|(simp only[Zab,aq,ak];omega)|rfl) [-getElem?_pos,A.b240]
 refine az (Ypd hx hp) ?_
 rintro _ _ _ k1 rfl
 simp(disch:=first|(simp;done)|omega|(simp only[Zab,aq,ak];omega)|rfl) [-getElem?_pos,aF]
 exact k1
def Ypf{z:Int}(h1: -9223372036854775808<=z)(h2:z<9223372036854775808){h:T O}{N:Nat}(hp:mC h N):Fn A.C 294 [.int .i64 z,.int .i64 10] h N (fun v h' N'=>v=.str (aR z)):=by
 intro w
 rw[aV,A.k294 (by simp)]
 by_cases c:0<=z/\z<100
 ·obtain⟨j,rfl⟩:=DJ c.1
  have c1:(j:Int)<100:=c.2
  have hj:aR (j:Int)=av j:=by unfold aR;rw[aA (by omega)];rfl
  simp(disch:=first|(simp;done)|omega|(simp only[Zab,aq,ak];omega)|rfl) [-getElem?_pos,A.b294,aL,c1]
  refine az (Zuy (by omega)) ?_
  rintro _ _ _ _ ⟨rfl,rfl,rfl⟩
  simp(disch:=first|(simp;done)|omega|(simp only[Zab,aq,ak];omega)|rfl) [-getElem?_pos,aF,hj]
  exact ae.refl
 ·have hx:z.natAbs<18446744073709551616:=by omega
  have ry:z.natAbs≠0:=by omega
  obtain⟨x,hxe⟩:∃x,z.natAbs=x:=⟨_,rfl⟩
  have hl:=Zo0 (hxe▸hx)
  obtain⟨L,hL⟩:∃L,(dq x).length=L:=⟨_,rfl⟩
  have T9:x<10^L:=pn.2 (by omega)
  have hL0:0<L:=by rw[<-hL];exact Zr0 (by omega)
  rw[hL]at hl
  have e2:(L:Int)+1<=24:=by omega
  have e3:(0:Int)<=(L:Int)+1:=by omega
  have e4:((L:Int)+1).toNat=L+1:=by omega
  have e5:(1:Int)<=(L:Int)+1:=by omega
  have e6:(1:Int)+(L:Int)=(L:Int)+1:=by omega
  by_cases hz:z<0
  ·have c2:¬0<=z:=by omega
   have w1:IntKind.wrap .u64 (-(bn .u64 z))=(x:Int):=by rw[Mt,Mv];omega
   simp(disch:=first|(simp;done)|omega|(simp only[Zab,aq,ak];omega)|rfl) [-getElem?_pos,A.b294,aL,c2,hz,Yla,w1]
   refine az (Yjr (x:=x) (by omega) (by omega) (hp.ah (aI ae.refl _))) ?_
   rintro _ _ _ _ ⟨rfl,rfl,rfl⟩
   rw[hL]
   simp(disch:=first|(simp;done)|omega|(simp only[Zab,aq,ak];omega)|rfl) [-getElem?_pos,zC,aC,dK,kY,e2,e3,e4,e5,e6,An]
   refine Bi (Zud (n2:=N) (Z:=24) (o:=1) (x:=x) (f0:=fun _=>.int .u8 0) (e:=291) (by omega) (by omega) (aZ N) (tO N) T9 (by omega) (by rw[T.aj,aQ rfl])) ?_
   rintro v ⟨H2,n2,W2⟩ ⟨hn,hW,hO,f,hr,hd,_⟩
   simp only at hn hW hO hr
   subst hn
   have CY:aD N W2=[]:=hW
   have cZ:=Zpf (f:=lO f 0 (.int .u8 45)) (show 0+(L+1)<=24 by omega)
   have ym:(List.range (L+1)).map (fun j=>lO f 0 (.int .u8 45) (0+j))=(45::dq x).map vB:=by
    rw[List.range_succ_eq_map,lF,List.map_map,lF,<-Znh hL.symm hd]
    congr 1
    apply Yzl
    intro j _
    show lO f 0 _ (0+(j+1))=_
    rw[lO,aA (by omega)]
    congr 1;omega
   rw[ym]at cZ
   have BB:aR z=45::dq x:=by unfold aR;rw[aQ hz,hxe,Ko (by omega)]
   obtain⟨S,hS⟩:∃S,45::dq x=S:=⟨_,rfl⟩
   rw[hS]at cZ BB
   simp(disch:=first|(simp;done)|omega|(simp only[Zab,aq,ak];omega)|rfl) [-getElem?_pos,zC,Cc,aC,dK,kY,e2,e3,e4,e5,e6,An,Zgc,Zi3,Zi4,hr,hz,Qr,cZ,Znr,aF,BB,CY]
   refine⟨Ar _,fun i hi=>?_⟩
   rw[T.aj,aA (by omega),hO i (by omega),T.aj,aA (by omega)]
  ·have c2:0<=z:=by omega
   have c3:¬z<100:=by omega
   have w1:bn .u64 z=(x:Int):=by rw[BP (by omega) (by omega)];omega
   simp(disch:=first|(simp;done)|omega|(simp only[Zab,aq,ak];omega)|rfl) [-getElem?_pos,A.b294,aL,c2,c3,hz,Yla,w1]
   refine az (Yjr (x:=x) (by omega) (by omega) (hp.ah (aI ae.refl _))) ?_
   rintro _ _ _ _ ⟨rfl,rfl,rfl⟩
   rw[hL]
   simp(disch:=first|(simp;done)|omega|(simp only[Zab,aq,ak];omega)|rfl) [-getElem?_pos,zC,aC,dK,kY,e2,e3,e4,e5,e6,An]
   refine Bi (Zud (n2:=N) (Z:=24) (o:=1) (x:=x) (f0:=fun _=>.int .u8 0) (e:=291) (by omega) (by omega) (aZ N) (tO N) T9 (by omega) (by rw[T.aj,aQ rfl])) ?_
   rintro v ⟨H2,n2,W2⟩ ⟨hn,hW,hO,f,hr,hd,_⟩
   simp only at hn hW hO hr
   subst hn
   have CY:aD N W2=[]:=hW
   have cZ:=Zpf (f:=f) (show 1+L<=24 by omega)
   rw[Znh hL.symm hd]at cZ
   have BB:aR z=dq x:=by unfold aR;rw[aA hz,hxe,Ko (by omega)]
   simp(disch:=first|(simp;done)|omega|(simp only[Zab,aq,ak];omega)|rfl) [-getElem?_pos,zC,aC,dK,kY,e2,e3,e4,e5,e6,An,Zgc,Zi3,Zi4,hr,hz,cZ,Znr,aF,BB,CY]
   refine⟨Ar _,fun i hi=>?_⟩
   rw[hO i (by omega),T.aj,aA (by omega)]
def Yki{z:Int}(h1: -9223372036854775808<=z)(h2:z<9223372036854775808){h:T O}{N:Nat}(hp:mC h N):Fn A.C 239 [.int .i64 z] h N (fun v h' N'=>v=.str (aR z)):=by
 intro w
 rw[aV,A.k239 (by simp)]
 simp(disch:=first|(simp;done)|omega|(simp only[Zab,aq,ak];omega)|rfl) [-getElem?_pos,A.b239]
 refine az (?_:Fn A.C 274 [.int .i64 z] h N (fun v h' N'=>v=.str (aR z))) ?_
 ·intro w
  rw[aV,A.k274 (by simp)]
  simp(disch:=first|(simp;done)|omega|(simp only[Zab,aq,ak];omega)|rfl) [-getElem?_pos,A.b274]
  refine az (Ypf h1 h2 hp) ?_
  rintro _ _ _ k1 rfl
  simp(disch:=first|(simp;done)|omega|(simp only[Zab,aq,ak];omega)|rfl) [-getElem?_pos,aF]
  exact k1
 ·rintro _ _ _ k1 rfl
  simp(disch:=first|(simp;done)|omega|(simp only[Zab,aq,ak];omega)|rfl) [-getElem?_pos,aF]
  exact k1
def Yaf:List UInt8:=List.replicate 128 32
def Yae:List UInt8:=List.replicate 128 45
def Yhi:List UInt8:=List.replicate 128 61
def Yl9:List UInt8:=List.replicate 64 9
def Kp:List UInt8:=List.replicate 64 48
def A.CZ:cF:=.seq (sr [c1 111 277 9,mv 112 7,bi 113 .lss 111 112]
 (cd 113
 (.skip)
 (.exit 3)))
 (.block 4 (sr [mv 114 7,c1 115 277 9,bi 116 .sub 114 115,c1 117 277 9,mv 118 8,ge 119 (.mn [tq 116,tq 117,tq 118]),mv 10 119]
 (.reg [c1 120 243 9,mv 121 10,ge 122 (.cH (tq 120) none (some (tq 121))),c2 123 242 9 122])))
def A.b241:cF:=sr [ge 4 (.pe (.const (.str [])))]
 (.seq (sr [mv 11 1]
 (.block 0 (sr [ei 13 11 0,mv 12 13]
 (cd 12
 (sr [ge 4 (.pe (.const (.str [])))]
 (.ret))
 (sr [ei 15 11 1,mv 14 15]
 (cd 14
 (sr [mv 16 0,mv 4 16]
 (.ret))
 (.skip)))))))
 (.seq (sr [mv 17 1,bc 18 .lss 17 0]
 (cd 18
 (.reg [ge 19 (.iH 9 (.const (.str [115,116,114,105,110,103,115,58,32,110,101,103,97,116,105,118,101,32,82,101,112,101,97,116,32,99,111,117,110,116]))),gn (.stop)])
 (.skip)))
 (sr [mv 21 0,ge 22 (.len 0 (tq 21)),ge 23 (.dr .u64 (tq 22)),mv 24 1,ge 25 (.dr .u64 (tq 24)),c2 26 181 23 25,mv 20 26,xt 27 20 0,xt 28 20 1,mv 5 27,mv 6 28]
 (.seq (sr [mv 29 5,ge 30 (.bin .gtr (.node []) false (tq 29) (.const (.int .u64 0))),mv 31 30,mh 32 6 31,gz 33 31 (.bin .gtr (.node []) false (tq 32) (.const (.int .u64 9223372036854775807))),pt 34 31 33]
 (cd 34
 (.reg [ge 35 (.iH 9 (.const (.str [115,116,114,105,110,103,115,58,32,82,101,112,101,97,116,32,111,117,116,112,117,116,32,108,101,110,103,116,104,32,111,118,101,114,102,108,111,119]))),gn (.stop)])
 (.skip)))
 (sr [mv 36 6,ge 37 (.dr .i64 (tq 36)),mv 7 37]
 (.seq (sr [mv 38 0,ge 39 (.len 0 (tq 38)),ei 40 39 0]
 (cd 40
 (sr [ge 4 (.pe (.const (.str [])))]
 (.ret))
 (.skip)))
 (.seq (sr [mv 41 0,ge 42 (.bO (tq 41) (kq 0))]
 (.block 1 (.seq (sr [ge 44 (.bin .eql (.dm .int) true (tq 42) (.const (.int .u8 32))),mv 43 44]
 (cd 43
 (.skip)
 (sr [ge 45 (.bin .eql (.dm .int) true (tq 42) (.const (.int .u8 45))),mv 43 45]
 (cd 43
 (.skip)
 (sr [ge 46 (.bin .eql (.dm .int) true (tq 42) (.const (.int .u8 48))),mv 43 46]
 (cd 43
 (.skip)
 (sr [ge 47 (.bin .eql (.dm .int) true (tq 42) (.const (.int .u8 61))),mv 43 47]
 (cd 43
 (.skip)
 (.reg [ge 48 (.bin .eql (.dm .int) true (tq 42) (.const (.int .u8 9))),mv 43 48])))))))))
 (cd 43
 (.block 2 (sr [mv 50 7,bc 51 .leq 50 128,mv 52 51,mg 53 0 52,gy 54 52 (.call (fq 217) [(.const (.str Yaf)),tq 53]),pf 55 52 54,mv 49 55]
 (cd 49
 (sr [mv 56 7,ge 57 (.cH (.const (.str Yaf)) none (some (tq 56))),mv 4 57]
 (.ret))
 (sr [mv 59 7,bc 60 .leq 59 128,mv 61 60,mg 62 0 61,gy 63 61 (.call (fq 217) [(.const (.str Yae)),tq 62]),pf 64 61 63,mv 58 64]
 (cd 58
 (sr [mv 65 7,ge 66 (.cH (.const (.str Yae)) none (some (tq 65))),mv 4 66]
 (.ret))
 (sr [mv 68 7,bc 69 .leq 68 64,mv 70 69,mg 71 0 70,gy 72 70 (.call (fq 217) [(.const (.str Kp)),tq 71]),pf 73 70 72,mv 67 73]
 (cd 67
 (sr [mv 74 7,ge 75 (.cH (.const (.str Kp)) none (some (tq 74))),mv 4 75]
 (.ret))
 (sr [mv 77 7,bc 78 .leq 77 128,mv 79 78,mg 80 0 79,gy 81 79 (.call (fq 217) [(.const (.str Yhi)),tq 80]),pf 82 79 81,mv 76 82]
 (cd 76
 (sr [mv 83 7,ge 84 (.cH (.const (.str Yhi)) none (some (tq 83))),mv 4 84]
 (.ret))
 (sr [mv 86 7,bc 87 .leq 86 64,mv 88 87,mg 89 0 88,gy 90 88 (.call (fq 217) [(.const (.str Yl9)),tq 89]),pf 91 88 90,mv 85 91]
 (cd 85
 (sr [mv 92 7,ge 93 (.cH (.const (.str Yl9)) none (some (tq 92))),mv 4 93]
 (.ret))
 (.skip))))))))))))
 (.skip)))))
 (sr [mv 94 7,mv 8 94]
 (.seq (sr [mv 95 7,bc 96 .gtr 95 8192]
 (cd 96
 (sr [mv 97 0,ge 98 (.len 0 (tq 97)),ge 99 (.bin .quo (.node []) false (kq 8192) (tq 98)),mv 100 0,ge 101 (.len 0 (tq 100)),bi 102 .mul 99 101,mv 8 102]
 (sr [mv 103 8,ei 104 103 0]
 (cd 104
 (.reg [mv 105 0,ge 106 (.len 0 (tq 105)),mv 8 106])
 (.skip))))
 (.skip)))
 (sr [ge 9 (.alloc [.zgi,.aa] 251)]
 (sr [mv 107 7,c2 108 276 9 107]
 (sr [mv 109 0,c2 110 242 9 109]
 (.seq (.block 3 (.loop A.CZ))
 (sr [c1 124 243 9,mv 4 124]
 (.ret)))))))))))))))
def A.k241:=@A.kk 241 125 [.tmp 4] A.b241 (by kernel_rfl) rfl
def A.b181:=A.q Tryz.f181
def A.k181:=@A.kk 181 30 [.tmp 4,.tmp 5] A.b181 (by kernel_rfl) rfl
def Yld{h:T O}{N:Nat}{x y:Nat}(hx:x<18446744073709551616)(hy:y<18446744073709551616):Fn A.C 181 [.int .u64 x,.int .u64 y] h N (fun v' h' N'=>h'=h/\N'=N/\v'=.aS [.int .u64 (cC (x*y):Nat),.int .u64 (bC (x*y):Nat)]):=by
 intro w
 rw[aV,A.k181 (by simp)]
 simp(disch:=first|(simp;done)|omega|(simp only[Zab,aq,ak];omega)|rfl) [-getElem?_pos,A.b181]
 refine az (PT hx hy) ?_
 rintro _ _ _ k1 ⟨rfl,rfl,rfl⟩
 simp(disch:=first|(simp;done)|omega|(simp only[Zab,aq,ak];omega)|rfl) [-getElem?_pos,aF]
 exact k1
def Yce{a c:UInt8}{s:aU}{st:St}:A.C.call (.func 217 [] []) [.str (a::s),.str [c]] st=some (.bool (decide (a=c)),st):=by
 have e:(([a]:aU)==[c])=decide (a=c):=by
  rw[Bool.eq_iff_iff]
  simp
 have h1:(1:Int)<=(s.length:Int)+1:=by omega
 apply Call.eq
 rw[aV,A.k217 (by simp)]
 have rf:∀st,A.C.call (.func 245 [] []) [.str (a::s),.str [c]] st=some (.bool (decide (a=c)),st):=fun st=>by
  apply Call.eq
  rw[aV,A.k245 (by simp)]
  simp(disch:=first|(simp;done)|omega|(simp only[Zab,aq,ak];omega)|rfl) [-getElem?_pos,A.b245,aC,dK,kY,yq,e,h1]
 simp(disch:=first|(simp;done)|omega|(simp only[Zab,aq,ak];omega)|rfl) [-getElem?_pos,A.b217,rf]
def Yrf{st:St}:A.C.call (.func 217 [] []) [.str Yaf,.str [48]] st=some (.bool false,st):=Yce (a:=32) (s:=List.replicate 127 32)
def Yre{st:St}:A.C.call (.func 217 [] []) [.str Yae,.str [48]] st=some (.bool false,st):=Yce (a:=45) (s:=List.replicate 127 45)
def Yrd{st:St}:A.C.call (.func 217 [] []) [.str Kp,.str [48]] st=some (.bool true,st):=Yce (a:=48) (s:=List.replicate 63 48)
def Zw6{k:Nat}(h:k<=64):List.take k Kp=List.replicate k 48:=by
 unfold Kp
 rw[List.take_replicate,pA h]
def Yad:Kp.length=64:=by simp[Kp]
def Zqs{k:Nat}(hk:k<=18){h:T O}{N:Nat}:Fn A.C 241 [.str [48],.int .i64 k] h N (fun v h' N'=>v=.str (List.replicate k 48)):=by
 intro w
 rw[aV,A.k241 (by simp)]
 by_cases c0:k=0
 ·subst c0
  simp(disch:=first|(simp;done)|omega|(simp only[Zab,aq,ak];omega)|rfl) [-getElem?_pos,A.b241,aL,aF]
  exact ae.refl
 ·by_cases c1:k=1
  ·subst c1
   simp(disch:=first|(simp;done)|omega|(simp only[Zab,aq,ak];omega)|rfl) [-getElem?_pos,A.b241,aL,aF]
   exact ae.refl
  ·have c3:¬(k:Int)=1:=by omega
   have e0:bn .u64 (1:Int)=((1:Nat):Int):=BP (by omega) (by omega)
   have e1:bn .u64 (k:Int)=(k:Int):=BP (by omega) (by omega)
   have c4:¬(k:Int)<0:=by omega
   simp(disch:=first|(simp;done)|omega|(simp only[Zab,aq,ak];omega)|rfl) [-getElem?_pos,A.b241,aL,c0,c1,c3,c4,e0,e1]
   refine az (Yld (x:=1) (y:=k) (by omega) (by omega)) ?_
   rintro _ _ _ _ ⟨rfl,rfl,rfl⟩
   have g1:cC (1*k)=0:=by unfold cC;omega
   have g2:bC (1*k)=k:=by unfold bC;omega
   have g3:¬(9223372036854775807:Int)<(k:Int):=by omega
   have g4:bn .i64 (k:Int)=(k:Int):=cL (by omega) (by omega)
   have g7:cR 48=48:=rfl
   have g5:(k:Int)<=128:=by omega
   have g6:(k:Int)<=64:=by omega
   rw[g1,g2]
   simp(disch:=first|(simp;done)|omega|(simp only[Zab,aq,ak];omega)|rfl) [-getElem?_pos,aL,c0,c1,c3,c4,g3,g4,g5,g6,g7,BA,Yrf,Yre,Yrd,yq,aC,dK,kY,Yad,Zw6,aF]
   exact ae.refl
variable {N b:Nat} {h:T O} {s:aU} {w:List Nat}
def A.b278:cF:=sr [mv 2 0,ge 3 (.nV (tq 2)),fa 4 0 3,ld 5 4,ge 6 (.bin .eql (.dm .ptr) true (tq 5) (.const .zgi))]
 (cd 6
 (.reg [mv 7 0,mv 8 0,ge 9 (.LB none (tq 8)),ge 10 (.ext .same [tq 9]),ge 11 (.LB (some (251,2)) (tq 10)),ge 12 (.nV (tq 7)),fa 13 0 12,so 13 11])
 (sr [mv 14 0,ge 15 (.nV (tq 14)),fa 16 0 15,ld 17 16,mv 18 0,ge 19 (.bin .neq (.dm .ptr) false (tq 17) (tq 18))]
 (cd 19
 (.stop)
 (.skip))))
def A.k278:=@A.kk 278 20 [] A.b278 (by kernel_rfl) rfl
def A.b242:=A.q Tryz.f242
def A.k242:=@A.kk 242 19 [.tmp 4,.tmp 5] A.b242 (by kernel_rfl) rfl
def A.b243:=A.q Tryz.f243
def A.k243:=@A.kk 243 14 [.tmp 2] A.b243 (by kernel_rfl) rfl
def Bd(h:T O)(N b:Nat)(s:aU):Prop:=b<N/\∃p v,h.get b=some (.cells [p,v] 251 true)/\(p=.zgi\/p=.ptr b 0)/\((v=.aa/\s=[])\/∃j,v=.slice j 0 s.length none 1/\b<j/\j<N/\s≠[]/\h.get j=some (.cells (s.map vB) 5 true))
def Yk9{n2:Nat}(fw:n2<=b)(hb:Bd h N b s):Call A.C (.func 278 [] []) [.ptr b 0] ⟨h,N,w⟩ (fun _ st=>st.n=N/\aD n2 st.w=aD n2 w/\(∀i,i<b->st.h.get i=h.get i)/\Bd st.h N b s):=by
 obtain⟨hN,p,v,hr,hp,hv⟩:=hb
 have hb2:¬b<n2:=by omega
 rw[aV,A.k278 (by simp)]
 rcases hp with rfl|rfl
 ·simp(disch:=first|(simp;done)|omega|(simp only[Zab,aq,ak];omega)|rfl) [-getElem?_pos,A.b278,hr,aL,Ce,hN,hb2]
  refine⟨fun i hi hc=>by omega,hN,.ptr b 0,v,?_,.inr rfl,?_⟩
  ·rw[T.aj,aQ rfl];rfl
  ·rcases hv with hv|⟨j,h1,h2,h3,h4,h5⟩
   ·exact .inl hv
   ·exact .inr ⟨j,h1,h2,h3,h4,by rw[T.aj,aA (by omega)];exact h5⟩
 ·simp(disch:=first|(simp;done)|omega|(simp only[Zab,aq,ak];omega)|rfl) [-getElem?_pos,A.b278,hr,aL,Ce]
  exact⟨hN,.ptr b 0,v,hr,.inr rfl,hv⟩
def Zzj{n0:Nat}{t:aU}(wL:n0<=b)(hb:Bd h N b s)(ht:t≠[])(hl:s.length+t.length<1000000000000):Call A.C (.func 242 [] []) [.ptr b 0,.str t] ⟨h,N,w⟩ (fun _ st=>st.n=N+1/\aD n0 st.w=aD n0 w/\(∀i,i<b->st.h.get i=h.get i)/\Bd st.h (N+1) b (s++t)):=by
 rw[aV,A.k242 (by simp)]
 simp(disch:=first|(simp;done)|omega|(simp only[Zab,aq,ak];omega)|rfl) [-getElem?_pos,A.b242]
 refine Bi (Yk9 wL hb) ?_
 rintro _ ⟨H2,n2,W2⟩ ⟨hn,hW,hO,hb2⟩
 simp only at hn hW hO hb2
 subst hn
 obtain⟨hN,p,v,hr,hp,hv⟩:=hb2
 have oW:¬t.length=0:=by simpa using ht
 have hc:(t.map vB).length=t.length:=by simp
 have hW0:aD n0 W2=[]:=hW
 have m1:2*t.length<=281474976710656:=by omega
 have m2:¬281474976710656<2*(s.length+t.length):=by omega
 have m3:¬s.length+t.length<=s.length:=by omega
 have bF:¬b=n2:=by omega
 have nO:¬b<n0:=by omega
 rcases hv with⟨rfl,rfl⟩|⟨j,rfl,h2,h3,h4,h5⟩
 ·simp(disch:=first|(simp;done)|omega|(simp only[Zab,aq,ak];omega)|rfl) [-getElem?_pos, -aD,hr,Cd,l8,gp,yW,oW,St.alloc,m1,bF,bE,ag]
  refine⟨PQ (PR (by simp[aD,hW0,nO])),fun i hi=>?_,by omega,p,.slice n2 0 t.length none 1,by rw[T.aj,aQ rfl],hp,.inr ⟨n2,rfl,hN,by omega,ht,by rw[T.aj,aA (by omega),T.aj,aQ rfl];rfl⟩⟩
  rw[aA (by omega),aA (by omega)];exact hO i hi
 ·have jT:¬b=j:=by omega
  have Jn:¬j<n0:=by omega
  simp(disch:=first|(simp;done)|omega|(simp only[Zab,aq,ak];omega)|rfl) [-getElem?_pos, -aD,hr,Cd,l8,gp,yW,oW,St.alloc,St.row,h5,m1,m2,m3,bF,jT,bE,ag]
  refine⟨PQ (PR (by simp[aD,hW0,nO,Jn])),fun i hi=>?_,by omega,p,.slice n2 0 (s.length+t.length) none 1,by rw[T.aj,aQ rfl],hp,.inr ⟨n2,by simp,hN,by omega,by simp[h4],by rw[T.aj,aA (by omega),T.aj,aQ rfl,List.map_append];rfl⟩⟩
  rw[aA (by omega),aA (by omega),aA (by omega)];exact hO i hi
def Yiv{α:Type}(c:List α):aE c 0 c.length=some c:=by unfold aE;simp
def Zr5:∀(s:aU),Ji (s.map vB)=some s
 |[]=>rfl
 |c::s=>by
  rw[lF]
  have h1:SO (vB c)=some c:=by
   unfold SO vB cR
   have:=c.toNat_lt
   simp
   omega
  simp only[Ji,h1,Zr5 s]
def Ylc{n0:Nat}(wL:n0<=b)(hb:Bd h N b s)(hs:s≠[])(hl:s.length<1000000000000):Call A.C (.func 243 [] []) [.ptr b 0] ⟨h,N,w⟩ (fun v st=>v=.str s/\st.n=N/\aD n0 st.w=aD n0 w/\(∀i,i<b->st.h.get i=h.get i)):=by
 obtain⟨hN,p,v,hr,hp,hv⟩:=hb
 rw[aV,A.k243 (by simp)]
 rcases hv with⟨_,rfl⟩|⟨j,rfl,h2,h3,h4,h5⟩
 ·exact absurd rfl hs
 ·have h0:0<s.length:=List.length_pos_iff.2 hs
  have rf:(0:Int)<(s.length:Int):=by omega
  have hm:(s.length:Int)<=9223372036854775807:=by omega
  have cZ:aE (s.map vB) 0 s.length=some (s.map vB):=by
   have:=Yiv (s.map vB)
   rw[Yxu]at this
   exact this
  have AR:=Zr5 s
  have Jn:¬j<n0:=by omega
  simp(disch:=first|(simp;done)|omega|(simp only[Zab,aq,ak];omega)|rfl) [-getElem?_pos,A.b243,hr,LV,LW,h0,rf,hm,h5,h3,hN,cZ,AR,Jn]
  exact fun i hi hc=>by omega
end
end Go.Mx
