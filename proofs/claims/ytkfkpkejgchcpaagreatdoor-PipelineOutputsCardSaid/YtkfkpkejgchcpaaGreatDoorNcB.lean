/-strconv-/
import Derived.Test.YtkfkpkejgchcpaaGreatDoorMxQ2
set_option linter.all false
namespace Go.Mx
open Go Go.Proofs
variable {j o x:Nat}
set_option maxHeartbeats 1000000
set_option maxRecDepth 1000000
def A.b242:Zah:=sr [ge 4 (.mov (.const (.str [])))]
 (.seq (sr [mv 9 1,ei 10 9 10]
 (cd 10
 (.seq (sr [mv 11 0,ge 12 (.bin .lss (.node []) false (tq 11) (.const (.int .u64 100)))]
 (cd 12
 (sr [mv 13 0,ge 14 (.convInt .i64 (tq 13)),c1 15 270 14,mv 4 15]
 (.ret))
 (.skip)))
 (sr [ge 5 (.alloc [.int .u8 0,.int .u8 0,.int .u8 0,.int .u8 0,.int .u8 0,.int .u8 0,.int .u8 0,.int .u8 0,.int .u8 0,.int .u8 0,.int .u8 0,.int .u8 0,.int .u8 0,.int .u8 0,.int .u8 0,.int .u8 0,.int .u8 0,.int .u8 0,.int .u8 0,.int .u8 0,.int .u8 0,.int .u8 0,.int .u8 0,.int .u8 0] 322)]
 (sr [mv 16 0,c1 17 271 16,mv 6 17]
 (sr [mv 18 6,ge 19 (.sliceArr 24 1 (tq 5) none (some (tq 18)) none),mv 20 0,c2 21 272 19 20]
 (sr [mv 22 6,ge 23 (.sliceArr 24 1 (tq 5) none (some (tq 22)) none),ge 24 (.bytesStr (tq 23)),mv 4 24]
 (.ret))))))
 (.skip)))
 (sr [mv 26 0,mv 27 1,ge 28 (.call (fq 273) [.const .nilslice,tq 26,tq 27,.const (.bool false),.const (.bool false)]),mv 25 28,xt 29 25 0,xt 30 25 1,mv 7 29,mv 8 30]
 (sr [mv 31 8,mv 4 31]
 (.ret))))
def A.k242:=@A.kk 242 32 [.tmp 4] A.b242 (by kernel_rfl) rfl
def A.b269:Zah:=sr [ge 4 (.mov (.const (.str [])))]
 (.seq (sr [mv 10 1,ei 11 10 10]
 (cd 11
 (.seq (sr [mv 12 0,ge 13 (.bin .leq (.node []) false (kq 0) (tq 12)),mv 14 13,mg 15 0 14,gy 16 14 (.bin .lss (.node []) false (tq 15) (kq 100)),pf 17 14 16]
 (cd 17
 (sr [mv 18 0,c1 19 270 18,mv 4 19]
 (.ret))
 (.skip)))
 (sr [ge 5 (.alloc [.int .u8 0,.int .u8 0,.int .u8 0,.int .u8 0,.int .u8 0,.int .u8 0,.int .u8 0,.int .u8 0,.int .u8 0,.int .u8 0,.int .u8 0,.int .u8 0,.int .u8 0,.int .u8 0,.int .u8 0,.int .u8 0,.int .u8 0,.int .u8 0,.int .u8 0,.int .u8 0,.int .u8 0,.int .u8 0,.int .u8 0,.int .u8 0] 322)]
 (sr [mv 20 0,ge 21 (.convInt .u64 (tq 20)),mv 6 21]
 (.seq (sr [mv 22 0,bc 23 .lss 22 0]
 (cd 23
 (.reg [mv 24 6,ge 25 (.un .neg (tq 24)),mv 6 25])
 (.skip)))
 (sr [mv 26 6,c1 27 271 26,mv 7 27]
 (sr [mv 28 7,ge 29 (.bin .add (.node []) false (kq 1) (tq 28)),ge 30 (.sliceArr 24 1 (tq 5) (some (kq 1)) (some (tq 29)) none),mv 31 6,c2 32 272 30 31]
 (.seq (sr [mv 33 0,bc 34 .lss 33 0]
 (cd 34
 (sr [ge 35 (.iaddrArr 24 1 (tq 5) (kq 0)),gn (.store 1 (tq 35) (.const (.int .u8 45)))]
 (sr [mv 36 7,ge 37 (.bin .add (.node []) false (kq 1) (tq 36)),ge 38 (.sliceArr 24 1 (tq 5) none (some (tq 37)) none),ge 39 (.bytesStr (tq 38)),mv 4 39]
 (.ret)))
 (.skip)))
 (sr [mv 40 7,ge 41 (.bin .add (.node []) false (kq 1) (tq 40)),ge 42 (.sliceArr 24 1 (tq 5) (some (kq 1)) (some (tq 41)) none),ge 43 (.bytesStr (tq 42)),mv 4 43]
 (.ret)))))))))
 (.skip)))
 (sr [mv 45 0,ge 46 (.convInt .u64 (tq 45)),mv 47 1,mv 48 0,bc 49 .lss 48 0,ge 50 (.call (fq 273) [.const .nilslice,tq 46,tq 47,tq 49,.const (.bool false)]),mv 44 50,xt 51 44 0,xt 52 44 1,mv 8 51,mv 9 52]
 (sr [mv 53 9,mv 4 53]
 (.ret))))
def A.k269:=@A.kk 269 54 [.tmp 4] A.b269 (by kernel_rfl) rfl
def A.b236:Zah:=sr [ge 2 (.mov (.const (.str [])))]
 (sr [mv 3 0,ge 4 (.call (fq 269) [tq 3,.const (.int .i64 10)]),mv 2 4]
 (.ret))
def A.k236:=@A.kk 236 5 [.tmp 2] A.b236 (by kernel_rfl) rfl
def A.b189:Zah:=sr [ge 2 (.mov (.const (.str [])))]
 (sr [mv 3 0,c1 4 236 3,mv 2 4]
 (.ret))
def A.k189:=@A.kk 189 5 [.tmp 2] A.b189 (by kernel_rfl) rfl
def A.b192:Zah:=sr [ge 4 (.mov (.const (.str [])))]
 (sr [mv 5 0,mv 6 1,c2 7 242 5 6,mv 4 7]
 (.ret))
def A.k192:=@A.kk 192 8 [.tmp 4] A.b192 (by kernel_rfl) rfl
def Yg3:∀{x:Nat},(j:Nat)→j<(Zc1 x).length→(Zc1 x)[j]?=some (dch (x/10^((Zc1 x).length-1-j))):=by
 intro x
 induction x using Nat.strongRecOn with
 |_ x ih=>
  intro j hj
  by_cases h0:x=0
  ·subst h0;rw[Zbg]at hj;simp at hj
  ·have e:=Zce h0
   have hl:(Zc1 x).length=(Zc1 (x/10)).length+1:=by rw[e];simp
   rw[hl]
   rw[e]
   by_cases hj2:j<(Zc1 (x/10)).length
   ·rw[Yss hj2,ih _ (Yu0 (by omega) (by decide)) j hj2,Yum]
    congr 3
    rw[show (Zc1 (x/10)).length+1-1-j=((Zc1 (x/10)).length-1-j)+1 by omega,Ysr,Ysy]
   ·have:j=(Zc1 (x/10)).length:=by omega
    subst this
    simp
def Zne{L:Nat}{f:Nat→V}(hL:L=(Zc1 x).length)(hf:∀j,j<L→f (o+j)=vB (dch (x/10^(L-1-j)))):(List.range L).map (fun j=>f (o+j))=(Zc1 x).map vB:=by
 apply Ys1
 intro j
 rw[Ysa,Ysa]
 by_cases hj:j<L
 ·rw[Yuo hj,Yg3 j (by omega),←hL]
  simp[hf j hj]
 ·rw[Ysk (by simpa using hj),Ysk (by omega)]
  rfl
def Zpe{Z L:Nat}{f:Nat→V}(h:o+L≤Z):slc (Zs4 Z f) o L=some ((List.range L).map fun j=>f (o+j)):=by
 unfold slc
 rw[Zbt,Yr6 h]
 congr 1
 apply Ys1
 intro j
 rw[Yso,Ysa]
 by_cases hj:j<L
 ·rw[Yr6 hj,Ysc,Zlr (by omega),Yuo hj];rfl
 ·rw[Yr3 hj,Ysk (by simpa using hj)];rfl
def Zwk:V→Option UInt8
 |.int .u8 n=>some (UInt8.ofNat n.toNat)
 |_=>none
def Ydp(st:St):Option (List V)→Option (V×St)
 |some l=>match l.mapM Zwk with
  |some s=>some (.str s,st)
  |none=>none
 |none=>none
def Zwl(st:St)(o len:Nat):Option (List V×TypeId×Bool)→Option (V×St)
 |some (c,_,_)=>Ydp st (slc c o len)
 |none=>none
def Ylp(st:St):Option V→Option (V×St)
 |some .nilslice=>some (.str [],st)
 |some (.slice i o len _ 1)=>Zwl st o len (st.row i)
 |_=>none
def Zf5{x:Src}{call:Za1}{r:T V}{st:St}:Zc7 x call r st=Ylp st (x.ev r):=by
 unfold Zc7 Ylp Zwl Ydp
 rfl
def Ziw{st:St}{i len:Nat}{c:Option Nat}:Ylp st (some (.slice i o len c 1))=Zwl st o len (st.row i):=rfl
def Zix{st:St}{len:Nat}{c:List V}{e:TypeId}{b:Bool}:Zwl st o len (some (c,e,b))=Ydp st (slc c o len):=rfl
def Znp{st:St}:∀{s:Str},Ydp st (some (s.map vB))=some (.str s,st):=by
 intro s
 have:(s.map vB).mapM Zwk=some s:=by
  induction s with
  |nil=>rfl
  |cons c s ih=>
   rw[Yts,List.mapM_cons,ih]
   have:Zwk (vB c)=some c:=by simp[Zwk,vB,u8I]
   simp[this]
 simp only[Ydp,this]
def Yp1:∀j:Nat,j<10→(List.take (j+1) Yc1).drop j=[dch j]:=by decide+kernel
def Ynw:∀j:Nat,j<100→(List.take (2*j+2) Zgd).drop (2*j)=[dch (j/10),dch j]:=by decide+kernel
def Zyy:Yc1.length=36:=by decide+kernel
def Yc2:Zgd.length=200:=by decide+kernel
def Yc6(h:j<10):decN j=[dch j]:=by
 unfold decN
 split
 ·subst j;rfl
 ·rw[Zce (by assumption),show j/10=0 by omega,Zbg];rfl
def Zyz(h:j<100)(h2:10≤j):decN j=[dch (j/10),dch j]:=by
 unfold decN
 rw[Yr3 (by omega),Zce (by omega),Zce (by omega),show j/10/10=0 by omega,Zbg];rfl
def Zu5(hj:j<100){h:T O}{N:Nat}:Fn A.C 270 [.int .i64 j] h N (fun v h' N'=>h'=h∧N'=N∧v=.str (decN j)):=by
 intro w
 rw[Zac,A.k270 (by simp)]
 by_cases c:j<10
 ·have e1:=Yp1 j c
  have e2:(j:Int)+1≤36:=by omega
  have e3:((j:Int)+1).toNat=j+1:=by omega
  have e4:(j:Int)<10:=by omega
  have e5:(0:Int)≤(j:Int)+1:=by omega
  have e8:(j:Int)≤(j:Int)+1:=by omega
  simp(disch:=omega) [A.b270,e4,Zbj,evOpt,Zav,Zd5,Zyy,e1,e2,e3,e5,e8,Ret,Yc6 c]
  exact Keeps.refl
 ·have e1:=Ynw j hj
  have e4:¬(j:Int)<10:=by omega
  have e2:(j:Int)*2+2≤200:=by omega
  have e3:((j:Int)*2+2).toNat=2*j+2:=by omega
  have e5:(0:Int)≤(j:Int)*2+2:=by omega
  have e6:(0:Int)≤(j:Int)*2:=by omega
  have e8:(j:Int)*2≤2*(j:Int)+2:=by omega
  have e7:((j:Int)*2).toNat=2*j:=by omega
  simp(disch:=omega) [A.b270,e4,Zbj,evOpt,Zav,Zd5,Yc2,e1,e2,e3,e5,e6,e7,e8,Ret,Zyz hj (Yu3.1 c)]
  exact Keeps.refl
def Ylo:[V.int .u8 0,V.int .u8 0,V.int .u8 0,V.int .u8 0,V.int .u8 0,V.int .u8 0,V.int .u8 0,V.int .u8 0,V.int .u8 0,V.int .u8 0,V.int .u8 0,V.int .u8 0,V.int .u8 0,V.int .u8 0,V.int .u8 0,V.int .u8 0,V.int .u8 0,V.int .u8 0,V.int .u8 0,V.int .u8 0,V.int .u8 0,V.int .u8 0,V.int .u8 0,V.int .u8 0]=Zs4 24 (fun _=>.int .u8 0):=rfl
def Zo0(hx:x<18446744073709551616):(Zc1 x).length≤20:=Zaw.1 (by omega)
def Zgf(h:x≠0):decN x=Zc1 x:=by unfold decN;rw[Yr3 h]
def Ypv(hx:x<18446744073709551616){h:T O}{N:Nat}(hp:P10 h N):Fn A.C 242 [.int .u64 x,.int .i64 10] h N (fun v h' N'=>v=.str (decN x)):=by
 intro w
 rw[Zac,A.k242 (by simp)]
 by_cases c:x<100
 ·have c1:(x:Int)<100:=by omega
  have e1:Zap .i64 (x:Int)=(x:Int):=Zak (by omega) (by omega)
  simp[A.b242,Zae,c1,e1]
  refine Zaf (Zu5 c) ?_
  rintro _ _ _ _ ⟨rfl,rfl,rfl⟩
  simp[Ret]
  exact Keeps.refl
 ·have c1:¬(x:Int)<100:=by omega
  simp[A.b242,Zae,c1,Ylo]
  refine Zaf (Yj9 hx (by omega) (hp.keep (kset Keeps.refl _))) ?_
  rintro _ _ _ _ ⟨rfl,rfl,rfl⟩
  have hl:=Zo0 hx
  obtain⟨L,hL⟩:∃L,(Zc1 x).length=L:=⟨_,rfl⟩
  have hxL:x<10^L:=Zaw.2 (by omega)
  have e2:(L:Int)≤24:=by omega
  rw[hL]
  rw[hL]at hl
  simp[Zbu,evOpt,Zav,Zd5,e2,Zbt]
  refine Zd7 (Zt9 (n2:=N) (Z:=24) (o:=0) (x:=x) (f0:=fun _=>.int .u8 0) (e:=322) (by omega) (by omega) (Yr4 N) (Ytm N) hxL hx (by rw[T.get_set,Yr6 rfl])) ?_
  rintro v ⟨H2,n2,W2⟩ ⟨hn,hW,hO,f,hr,hd,_⟩
  simp only at hn hW hO hr
  subst hn
  have hsl:=Zpe (f:=f) (show 0+L≤24 by omega)
  rw[Zne hL.symm hd]at hsl
  simp[Zbu,evOpt,Zav,Zd5,e2,Zbt,Zf5,Ziw,Zix,hr,hsl,Znp,Ret]
  have hW':Zad N W2=[]:=hW
  rw[hW',Zgf (by omega)]
  refine⟨rfl,⟨Yuw _,fun i hi=>?_⟩,rfl⟩
  rw[hO i (by omega),T.get_set,Yr3 (by omega)]
def Yif(hx:x<18446744073709551616){h:T O}{N:Nat}(hp:P10 h N):Fn A.C 192 [.int .u64 x,.int .i64 10] h N (fun v h' N'=>v=.str (decN x)):=by
 intro w
 rw[Zac,A.k192 (by simp)]
 simp[A.b192]
 refine Zaf (Ypv hx hp) ?_
 rintro _ _ _ k1 rfl
 simp[Ret]
 exact k1
def Ypy{z:Int}(h1: -9223372036854775808≤z)(h2:z<9223372036854775808){h:T O}{N:Nat}(hp:P10 h N):Fn A.C 269 [.int .i64 z,.int .i64 10] h N (fun v h' N'=>v=.str (decI z)):=by
 intro w
 rw[Zac,A.k269 (by simp)]
 by_cases c:0≤z∧z<100
 ·obtain⟨j,rfl⟩:=Yua c.1
  have c1:(j:Int)<100:=c.2
  have hj:decI (j:Int)=decN j:=by unfold decI;rw[Yr3 (by omega)];rfl
  simp[A.b269,Zae,c1]
  refine Zaf (Zu5 (by omega)) ?_
  rintro _ _ _ _ ⟨rfl,rfl,rfl⟩
  simp[Ret,hj]
  exact Keeps.refl
 ·have hx:z.natAbs<18446744073709551616:=by omega
  have hx0:z.natAbs≠0:=by omega
  obtain⟨x,hxe⟩:∃x,z.natAbs=x:=⟨_,rfl⟩
  have hl:=Zo0 (hxe▸hx)
  obtain⟨L,hL⟩:∃L,(Zc1 x).length=L:=⟨_,rfl⟩
  have hxL:x<10^L:=Zaw.2 (by omega)
  have hL0:0<L:=by rw[←hL];exact Zr8 (by omega)
  rw[hL]at hl
  have e2:(L:Int)+1≤24:=by omega
  have e3:(0:Int)≤(L:Int)+1:=by omega
  have e4:((L:Int)+1).toNat=L+1:=by omega
  have e5:(1:Int)≤(L:Int)+1:=by omega
  have e6:(1:Int)+(L:Int)=(L:Int)+1:=by omega
  by_cases hz:z<0
  ·have c2:¬0≤z:=by omega
   have w1:IntKind.wrap .u64 (-(Zap .u64 z))=(x:Int):=by rw[Zhj,Zco];omega
   simp[A.b269,Zae,c2,hz,Ylo,w1]
   refine Zaf (Yj9 (x:=x) (by omega) (by omega) (hp.keep (kset Keeps.refl _))) ?_
   rintro _ _ _ _ ⟨rfl,rfl,rfl⟩
   rw[hL]
   simp(disch:=omega) [Zbu,evOpt,Zav,Zd5,e2,e3,e4,e5,e6,Zbt]
   refine Zd7 (Zt9 (n2:=N) (Z:=24) (o:=1) (x:=x) (f0:=fun _=>.int .u8 0) (e:=322) (by omega) (by omega) (Yr4 N) (Ytm N) hxL (by omega) (by rw[T.get_set,Yr6 rfl])) ?_
   rintro v ⟨H2,n2,W2⟩ ⟨hn,hW,hO,f,hr,hd,_⟩
   simp only at hn hW hO hr
   subst hn
   have hW':Zad N W2=[]:=hW
   have hsl:=Zpe (f:=Zk0 f 0 (.int .u8 45)) (show 0+(L+1)≤24 by omega)
   have hd2:(List.range (L+1)).map (fun j=>Zk0 f 0 (.int .u8 45) (0+j))=(45::Zc1 x).map vB:=by
    rw[List.range_succ_eq_map,Yts,List.map_map,Yts,←Zne hL.symm hd]
    congr 1
    apply List.map_congr_left
    intro j _
    show Zk0 f 0 _ (0+(j+1))=_
    rw[Zk0,Yr3 (by omega)]
    congr 1;omega
   rw[hd2]at hsl
   have hde:decI z=45::Zc1 x:=by unfold decI;rw[Yr6 hz,hxe,Zgf (by omega)]
   obtain⟨S,hS⟩:∃S,45::Zc1 x=S:=⟨_,rfl⟩
   rw[hS]at hsl hde
   simp(disch:=omega) [Zbu,Zb6,evOpt,Zav,Zd5,e2,e3,e4,e5,e6,Zbt,Zf5,Ziw,Zix,hr,hz,Zqs,hsl,Znp,Ret,hde,hW']
   refine⟨Yuw _,fun i hi=>?_⟩
   rw[T.get_set,Yr3 (by omega),hO i (by omega),T.get_set,Yr3 (by omega)]
  ·have c2:0≤z:=by omega
   have c3:¬z<100:=by omega
   have w1:Zap .u64 z=(x:Int):=by rw[Zea (by omega) (by omega)];omega
   simp[A.b269,Zae,c2,c3,hz,Ylo,w1]
   refine Zaf (Yj9 (x:=x) (by omega) (by omega) (hp.keep (kset Keeps.refl _))) ?_
   rintro _ _ _ _ ⟨rfl,rfl,rfl⟩
   rw[hL]
   simp(disch:=omega) [Zbu,evOpt,Zav,Zd5,e2,e3,e4,e5,e6,Zbt]
   refine Zd7 (Zt9 (n2:=N) (Z:=24) (o:=1) (x:=x) (f0:=fun _=>.int .u8 0) (e:=322) (by omega) (by omega) (Yr4 N) (Ytm N) hxL (by omega) (by rw[T.get_set,Yr6 rfl])) ?_
   rintro v ⟨H2,n2,W2⟩ ⟨hn,hW,hO,f,hr,hd,_⟩
   simp only at hn hW hO hr
   subst hn
   have hW':Zad N W2=[]:=hW
   have hsl:=Zpe (f:=f) (show 1+L≤24 by omega)
   rw[Zne hL.symm hd]at hsl
   have hde:decI z=Zc1 x:=by unfold decI;rw[Yr3 hz,hxe,Zgf (by omega)]
   simp(disch:=omega) [Zbu,evOpt,Zav,Zd5,e2,e3,e4,e5,e6,Zbt,Zf5,Ziw,Zix,hr,hz,hsl,Znp,Ret,hde,hW']
   refine⟨Yuw _,fun i hi=>?_⟩
   rw[hO i (by omega),T.get_set,Yr3 (by omega)]
def Ykz{z:Int}(h1: -9223372036854775808≤z)(h2:z<9223372036854775808){h:T O}{N:Nat}(hp:P10 h N):Fn A.C 189 [.int .i64 z] h N (fun v h' N'=>v=.str (decI z)):=by
 intro w
 rw[Zac,A.k189 (by simp)]
 simp[A.b189]
 refine Zaf (?_:Fn A.C 236 [.int .i64 z] h N (fun v h' N'=>v=.str (decI z))) ?_
 ·intro w
  rw[Zac,A.k236 (by simp)]
  simp[A.b236]
  refine Zaf (Ypy h1 h2 hp) ?_
  rintro _ _ _ k1 rfl
  simp[Ret]
  exact k1
 ·rintro _ _ _ k1 rfl
  simp[Ret]
  exact k1
def Yal:List UInt8:=List.replicate 128 32
def Yak:List UInt8:=List.replicate 128 45
def Yhw:List UInt8:=List.replicate 128 61
def Ymq:List UInt8:=List.replicate 64 9
def Zmi:List UInt8:=List.replicate 64 48
def A.lb193_0:Zah:=.seq (sr [c1 111 244 9,mv 112 7,bi 113 .lss 111 112]
 (cd 113
 (.skip)
 (.exit 3)))
 (.block 4 (sr [mv 114 7,c1 115 244 9,bi 116 .sub 114 115,c1 117 244 9,mv 118 8,ge 119 (.mn [tq 116,tq 117,tq 118]),mv 10 119]
 (.reg [c1 120 195 9,mv 121 10,ge 122 (.sliceStr (tq 120) none (some (tq 121))),c2 123 194 9 122])))
def A.b193:Zah:=sr [ge 4 (.mov (.const (.str [])))]
 (.seq (sr [mv 11 1]
 (.block 0 (sr [ei 13 11 0,mv 12 13]
 (cd 12
 (sr [ge 4 (.mov (.const (.str [])))]
 (.ret))
 (sr [ei 15 11 1,mv 14 15]
 (cd 14
 (sr [mv 16 0,mv 4 16]
 (.ret))
 (.skip)))))))
 (.seq (sr [mv 17 1,bc 18 .lss 17 0]
 (cd 18
 (.reg [ge 19 (.mkiface 9 (.const (.str [115,116,114,105,110,103,115,58,32,110,101,103,97,116,105,118,101,32,82,101,112,101,97,116,32,99,111,117,110,116]))),gn (.stop)])
 (.skip)))
 (sr [mv 21 0,ge 22 (.len 0 (tq 21)),ge 23 (.convInt .u64 (tq 22)),mv 24 1,ge 25 (.convInt .u64 (tq 24)),c2 26 229 23 25,mv 20 26,xt 27 20 0,xt 28 20 1,mv 5 27,mv 6 28]
 (.seq (sr [mv 29 5,ge 30 (.bin .gtr (.node []) false (tq 29) (.const (.int .u64 0))),mv 31 30,mh 32 6 31,gz 33 31 (.bin .gtr (.node []) false (tq 32) (.const (.int .u64 9223372036854775807))),pt 34 31 33]
 (cd 34
 (.reg [ge 35 (.mkiface 9 (.const (.str [115,116,114,105,110,103,115,58,32,82,101,112,101,97,116,32,111,117,116,112,117,116,32,108,101,110,103,116,104,32,111,118,101,114,102,108,111,119]))),gn (.stop)])
 (.skip)))
 (sr [mv 36 6,ge 37 (.convInt .i64 (tq 36)),mv 7 37]
 (.seq (sr [mv 38 0,ge 39 (.len 0 (tq 38)),ei 40 39 0]
 (cd 40
 (sr [ge 4 (.mov (.const (.str [])))]
 (.ret))
 (.skip)))
 (.seq (sr [mv 41 0,ge 42 (.idxStr (tq 41) (kq 0))]
 (.block 1 (.seq (sr [ge 44 (.bin .eql (.prim .int) true (tq 42) (.const (.int .u8 32))),mv 43 44]
 (cd 43
 (.skip)
 (sr [ge 45 (.bin .eql (.prim .int) true (tq 42) (.const (.int .u8 45))),mv 43 45]
 (cd 43
 (.skip)
 (sr [ge 46 (.bin .eql (.prim .int) true (tq 42) (.const (.int .u8 48))),mv 43 46]
 (cd 43
 (.skip)
 (sr [ge 47 (.bin .eql (.prim .int) true (tq 42) (.const (.int .u8 61))),mv 43 47]
 (cd 43
 (.skip)
 (.reg [ge 48 (.bin .eql (.prim .int) true (tq 42) (.const (.int .u8 9))),mv 43 48])))))))))
 (cd 43
 (.block 2 (sr [mv 50 7,bc 51 .leq 50 128,mv 52 51,mg 53 0 52,gy 54 52 (.call (fq 162) [(.const (.str Yal)),tq 53]),pf 55 52 54,mv 49 55]
 (cd 49
 (sr [mv 56 7,ge 57 (.sliceStr (.const (.str Yal)) none (some (tq 56))),mv 4 57]
 (.ret))
 (sr [mv 59 7,bc 60 .leq 59 128,mv 61 60,mg 62 0 61,gy 63 61 (.call (fq 162) [(.const (.str Yak)),tq 62]),pf 64 61 63,mv 58 64]
 (cd 58
 (sr [mv 65 7,ge 66 (.sliceStr (.const (.str Yak)) none (some (tq 65))),mv 4 66]
 (.ret))
 (sr [mv 68 7,bc 69 .leq 68 64,mv 70 69,mg 71 0 70,gy 72 70 (.call (fq 162) [(.const (.str Zmi)),tq 71]),pf 73 70 72,mv 67 73]
 (cd 67
 (sr [mv 74 7,ge 75 (.sliceStr (.const (.str Zmi)) none (some (tq 74))),mv 4 75]
 (.ret))
 (sr [mv 77 7,bc 78 .leq 77 128,mv 79 78,mg 80 0 79,gy 81 79 (.call (fq 162) [(.const (.str Yhw)),tq 80]),pf 82 79 81,mv 76 82]
 (cd 76
 (sr [mv 83 7,ge 84 (.sliceStr (.const (.str Yhw)) none (some (tq 83))),mv 4 84]
 (.ret))
 (sr [mv 86 7,bc 87 .leq 86 64,mv 88 87,mg 89 0 88,gy 90 88 (.call (fq 162) [(.const (.str Ymq)),tq 89]),pf 91 88 90,mv 85 91]
 (cd 85
 (sr [mv 92 7,ge 93 (.sliceStr (.const (.str Ymq)) none (some (tq 92))),mv 4 93]
 (.ret))
 (.skip))))))))))))
 (.skip)))))
 (sr [mv 94 7,mv 8 94]
 (.seq (sr [mv 95 7,bc 96 .gtr 95 8192]
 (cd 96
 (sr [mv 97 0,ge 98 (.len 0 (tq 97)),ge 99 (.bin .quo (.node []) false (kq 8192) (tq 98)),mv 100 0,ge 101 (.len 0 (tq 100)),bi 102 .mul 99 101,mv 8 102]
 (sr [mv 103 8,ei 104 103 0]
 (cd 104
 (.reg [mv 105 0,ge 106 (.len 0 (tq 105)),mv 8 106])
 (.skip))))
 (.skip)))
 (sr [ge 9 (.alloc [.nilptr,.nilslice] 263)]
 (sr [mv 107 7,c2 108 243 9 107]
 (sr [mv 109 0,c2 110 194 9 109]
 (.seq (.block 3 (.loop A.lb193_0))
 (sr [c1 124 195 9,mv 4 124]
 (.ret)))))))))))))))
def A.k193:=@A.kk 193 125 [.tmp 4] A.b193 (by kernel_rfl) rfl
def A.b229:Zah:=sr [ge 4 (.mov (.const (.int .u64 0))),ge 5 (.mov (.const (.int .u64 0)))]
 (.seq (.cond (.const (.bool false))
 (sr [mv 11 0,ge 12 (.convInt .u32 (tq 11)),mv 13 1,ge 14 (.convInt .u32 (tq 13)),c2 15 263 12 14,mv 10 15,xt 16 10 0,xt 17 10 1,mv 6 16,mv 7 17]
 (sr [mv 18 6,ge 19 (.convInt .u64 (tq 18)),mv 20 7,ge 21 (.convInt .u64 (tq 20)),mv 4 19,mv 5 21]
 (.ret)))
 (.skip))
 (sr [mv 23 0,mv 24 1,c2 25 223 23 24,mv 22 25,xt 26 22 0,xt 27 22 1,mv 8 26,mv 9 27]
 (sr [mv 28 8,mv 29 9,mv 4 28,mv 5 29]
 (.ret))))
def A.k229:=@A.kk 229 30 [.tmp 4,.tmp 5] A.b229 (by kernel_rfl) rfl
def Ylr{h:T O}{N:Nat}{x y:Nat}(hx:x<18446744073709551616)(hy:y<18446744073709551616):Fn A.C 229 [.int .u64 x,.int .u64 y] h N (fun v' h' N'=>h'=h∧N'=N∧v'=.tup [.int .u64 (hi64 (x*y):Nat),.int .u64 (lo64 (x*y):Nat)]):=by
 intro w
 rw[Zac,A.k229 (by simp)]
 simp[A.b229]
 refine Zaf (Zjp hx hy) ?_
 rintro _ _ _ k1 ⟨rfl,rfl,rfl⟩
 simp[Ret]
 exact k1
def Ycm{a c:UInt8}{s:Str}{st:St}:A.C.call (.func 162 [] []) [.str (a::s),.str [c]] st=some (.bool (decide (a=c)),st):=by
 have e:(([a]:Str)==[c])=decide (a=c):=by
  rw[Bool.eq_iff_iff]
  simp
 have h1:(1:Int)≤(s.length:Int)+1:=by omega
 apply Call.eq
 rw[Zac,A.k162 (by simp)]
 have h0':∀st,A.C.call (.func 210 [] []) [.str (a::s),.str [c]] st=some (.bool (decide (a=c)),st):=fun st=>by
  apply Call.eq
  rw[Zac,A.k210 (by simp)]
  simp[A.b210,evOpt,Zav,Zd5,Zbj,e,h1]
 simp[A.b162,h0']
def Yrp{st:St}:A.C.call (.func 162 [] []) [.str Yal,.str [48]] st=some (.bool false,st):=Ycm (a:=32) (s:=List.replicate 127 32)
def Yro{st:St}:A.C.call (.func 162 [] []) [.str Yak,.str [48]] st=some (.bool false,st):=Ycm (a:=45) (s:=List.replicate 127 45)
def Yrn{st:St}:A.C.call (.func 162 [] []) [.str Zmi,.str [48]] st=some (.bool true,st):=Ycm (a:=48) (s:=List.replicate 63 48)
def Zw6{k:Nat}(h:k≤64):List.take k Zmi=List.replicate k 48:=by
 unfold Zmi
 rw[List.take_replicate,Ytf h]
def Yaj:Zmi.length=64:=by simp[Zmi]
def Zqx{k:Nat}(hk:k≤18){h:T O}{N:Nat}:Fn A.C 193 [.str [48],.int .i64 k] h N (fun v h' N'=>v=.str (List.replicate k 48)):=by
 intro w
 rw[Zac,A.k193 (by simp)]
 by_cases c0:k=0
 ·subst c0
  simp[A.b193,Zae,Ret]
  exact Keeps.refl
 ·by_cases c1:k=1
  ·subst c1
   simp[A.b193,Zae,Ret]
   exact Keeps.refl
  ·have c3:¬(k:Int)=1:=by omega
   have e0:Zap .u64 (1:Int)=((1:Nat):Int):=Zea (by omega) (by omega)
   have e1:Zap .u64 (k:Int)=(k:Int):=Zea (by omega) (by omega)
   have c4:¬(k:Int)<0:=by omega
   simp[A.b193,Zae,c0,c1,c3,c4,e0,e1]
   refine Zaf (Ylr (x:=1) (y:=k) (by omega) (by omega)) ?_
   rintro _ _ _ _ ⟨rfl,rfl,rfl⟩
   have g1:hi64 (1*k)=0:=by unfold hi64;omega
   have g2:lo64 (1*k)=k:=by unfold lo64;omega
   have g3:¬(9223372036854775807:Int)<(k:Int):=by omega
   have g4:Zap .i64 (k:Int)=(k:Int):=Zak (by omega) (by omega)
   have g7:u8I 48=48:=rfl
   have g5:(k:Int)≤128:=by omega
   have g6:(k:Int)≤64:=by omega
   rw[g1,g2]
   simp(disch:=omega) [Zae,c0,c1,c3,c4,g3,g4,g5,g6,g7,Zd8,Yrp,Yro,Yrn,Zbj,evOpt,Zav,Zd5,Yaj,Zw6,Ret]
   exact Keeps.refl
variable {N b:Nat} {h:T O} {s:Str} {w:List Nat}
set_option maxHeartbeats 1000000
def A.b245:Zah:=sr [mv 2 0,ge 3 (.nilck (tq 2)),fa 4 0 3,ld 5 4,ge 6 (.bin .eql (.prim .ptr) true (tq 5) (.const .nilptr))]
 (cd 6
 (.reg [mv 7 0,mv 8 0,ge 9 (.uns none (tq 8)),ge 10 (.ext .same [tq 9]),ge 11 (.uns (some (263,2)) (tq 10)),ge 12 (.nilck (tq 7)),fa 13 0 12,so 13 11])
 (sr [mv 14 0,ge 15 (.nilck (tq 14)),fa 16 0 15,ld 17 16,mv 18 0,ge 19 (.bin .neq (.prim .ptr) false (tq 17) (tq 18))]
 (cd 19
 (.stop)
 (.skip))))
def A.k245:=@A.kk 245 20 [] A.b245 (by kernel_rfl) rfl
def A.b194:Zah:=sr [mc 4 0,ge 5 (.mov (.const .niliface))]
 (sr [mv 6 0,c1 7 245 6]
 (sr [mv 8 0,mv 9 0,ge 10 (.nilck (tq 9)),fa 11 1 10,ld 12 11,mv 13 1,ge 14 (.append 1 1 5 [.int .u8 0] (tq 12) (tq 13)),ge 15 (.nilck (tq 8)),fa 16 1 15,so 16 14]
 (sr [mv 17 1,ge 18 (.len 0 (tq 17)),mv 4 18,ge 5 (.mov (.const .niliface))]
 (.ret))))
def A.k194:=@A.kk 194 19 [.tmp 4,.tmp 5] A.b194 (by kernel_rfl) rfl
def A.b195:Zah:=sr [ge 2 (.mov (.const (.str [])))]
 (.seq (.regD [mv 3 0,ge 4 (.nilck (tq 3)),fa 5 1 4,ld 6 5,ge 7 (.sdata (tq 6)),mv 8 0,ge 9 (.nilck (tq 8)),fa 10 1 9,ld 11 10,ln 12 11,ge 13 (.ustr 5 (tq 7) (tq 12)),mv 2 13] [0,1,3,7,15,0,32,96,224,480,1023,2047])
 (.ret))
def A.k195:=@A.kk 195 14 [.tmp 2] A.b195 (by kernel_rfl) rfl
def Bd(h:T O)(N b:Nat)(s:Str):Prop:=b<N∧∃p v,h.get b=some (.cells [p,v] 263 true)∧(p=.nilptr∨p=.ptr b 0)∧((v=.nilslice∧s=[])∨∃j,v=.slice j 0 s.length none 1∧b<j∧j<N∧s≠[]∧h.get j=some (.cells (s.map vB) 5 true))
def Yln{n2:Nat}(hn2:n2≤b)(hb:Bd h N b s):Call A.C (.func 245 [] []) [.ptr b 0] ⟨h,N,w⟩ (fun _ st=>st.n=N∧Zad n2 st.w=Zad n2 w∧(∀i,i<b→st.h.get i=h.get i)∧Bd st.h N b s):=by
 obtain⟨hN,p,v,hr,hp,hv⟩:=hb
 have hb2:¬b<n2:=by omega
 rw[Zac,A.k245 (by simp)]
 rcases hp with rfl|rfl
 ·simp[A.b245,hr,Zae,Zjn,hN,hb2]
  refine⟨fun i hi hc=>by omega,hN,.ptr b 0,v,?_,.inr rfl,?_⟩
  ·rw[T.get_set,Yr6 rfl];rfl
  ·rcases hv with hv|⟨j,h1,h2,h3,h4,h5⟩
   ·exact .inl hv
   ·exact .inr ⟨j,h1,h2,h3,h4,by rw[T.get_set,Yr3 (by omega)];exact h5⟩
 ·simp[A.b245,hr,Zae,Zjn]
  exact⟨hN,.ptr b 0,v,hr,.inr rfl,hv⟩
def Zzg{n0:Nat}{t:Str}(hn0:n0≤b)(hb:Bd h N b s)(ht:t≠[])(hl:s.length+t.length<1000000000000):Call A.C (.func 194 [] []) [.ptr b 0,.str t] ⟨h,N,w⟩ (fun _ st=>st.n=N+1∧Zad n0 st.w=Zad n0 w∧(∀i,i<b→st.h.get i=h.get i)∧Bd st.h (N+1) b (s++t)):=by
 rw[Zac,A.k194 (by simp)]
 simp[A.b194]
 refine Zd7 (Yln hn0 hb) ?_
 rintro _ ⟨H2,n2,W2⟩ ⟨hn,hW,hO,hb2⟩
 simp only at hn hW hO hb2
 subst hn
 obtain⟨hN,p,v,hr,hp,hv⟩:=hb2
 have ht0:¬t.length=0:=by simpa using ht
 have hc:(t.map vB).length=t.length:=by simp
 have hW0:Zad n0 W2=[]:=hW
 have m1:2*t.length≤281474976710656:=by omega
 have m2:¬281474976710656<2*(s.length+t.length):=by omega
 have m3:¬s.length+t.length≤s.length:=by omega
 have hne:¬b=n2:=by omega
 have hb0:¬b<n0:=by omega
 rcases hv with⟨rfl,rfl⟩|⟨j,rfl,h2,h3,h4,h5⟩
 ·simp[-Zad,hr,Zdn,Zbp,Zax,Zcd,ht0,St.alloc,m1,hne,Zal,splice]
  refine⟨Zfm (Zfk (by simp[Zad,hW0,hb0])),fun i hi=>?_,by omega,p,.slice n2 0 t.length none 1,by rw[T.get_set,Yr6 rfl],hp,.inr ⟨n2,rfl,hN,by omega,ht,by rw[T.get_set,Yr3 (by omega),T.get_set,Yr6 rfl];rfl⟩⟩
  rw[Yr3 (by omega),Yr3 (by omega)];exact hO i hi
 ·have hne2:¬b=j:=by omega
  have hj0:¬j<n0:=by omega
  simp[-Zad,hr,Zdn,Zbp,Zax,Zcd,ht0,St.alloc,St.row,h5,m1,m2,m3,hne,hne2,Zal,splice]
  refine⟨Zfm (Zfk (by simp[Zad,hW0,hb0,hj0])),fun i hi=>?_,by omega,p,.slice n2 0 (s.length+t.length) none 1,by rw[T.get_set,Yr6 rfl],hp,.inr ⟨n2,by simp,hN,by omega,by simp[h4],by rw[T.get_set,Yr3 (by omega),T.get_set,Yr6 rfl,List.map_append];rfl⟩⟩
  rw[Yr3 (by omega),Yr3 (by omega),Yr3 (by omega)];exact hO i hi
def Yjg{α:Type}(c:List α):slc c 0 c.length=some c:=by unfold slc;simp
def Zsb:∀(s:Str),Zno (s.map vB)=some s
 |[]=>rfl
 |c::s=>by
  rw[Yts]
  have h1:Yg9 (vB c)=some c:=by
   unfold Yg9 vB u8I
   have:=c.toNat_lt
   simp
   omega
  simp only[Zno,h1,Zsb s]
def Ylq{n0:Nat}(hn0:n0≤b)(hb:Bd h N b s)(hs:s≠[])(hl:s.length<1000000000000):Call A.C (.func 195 [] []) [.ptr b 0] ⟨h,N,w⟩ (fun v st=>v=.str s∧st.n=N∧Zad n0 st.w=Zad n0 w∧(∀i,i<b→st.h.get i=h.get i)):=by
 obtain⟨hN,p,v,hr,hp,hv⟩:=hb
 rw[Zac,A.k195 (by simp)]
 rcases hv with⟨_,rfl⟩|⟨j,rfl,h2,h3,h4,h5⟩
 ·exact absurd rfl hs
 ·have h0:0<s.length:=Yvq.2 hs
  have h0':(0:Int)<(s.length:Int):=by omega
  have hm:(s.length:Int)≤9223372036854775807:=by omega
  have hsl:slc (s.map vB) 0 s.length=some (s.map vB):=by
   have:=Yjg (s.map vB)
   rw[Ysw]at this
   exact this
  have hbm:=Zsb s
  have hj0:¬j<n0:=by omega
  simp[A.b195,hr,Zhp,Zkr,h0,h0',hm,h5,h3,hN,hsl,hbm,hj0]
  exact fun i hi hc=>by omega
end Go.Mx
