/-
  strconv: FormatUint, FormatInt, Itoa.
-/
import Derived.Test.YtlbophlgohokkaaGreatDoorNcA
import Derived.Test.YtlbophlgohokkaaGreatDoorRcI
import Derived.Test.YtlbophlgohokkaaGreatDoorPaP
import Derived.Test.YtlbophlgohokkaaGreatDoorMxWord
set_option linter.all false
namespace Go.Mx
open Go Go.Proofs
variable {j o x:Nat}
set_option maxHeartbeats 1000000
set_option maxRecDepth 1000000
def A.b275:aq:=sr [⟨(some 4),.aY (.const (.str [])),none⟩]
 (.seq (sr [mv 9 1,ei 10 9 10]
 (cd 10
 (.seq (sr [mv 11 0,⟨(some 12),.bin .lss (.node []) false (.tmp 11) (.const (.int .u64 100)),none⟩]
 (cd 12
 (sr [mv 13 0,⟨(some 14),.bb .i64 (.tmp 13),none⟩,c1 15 293 14,mv 4 15]
 (.ret))
 (.skip)))
 (sr [⟨(some 5),.alloc [(.int .u8 0),(.int .u8 0),(.int .u8 0),(.int .u8 0),(.int .u8 0),(.int .u8 0),(.int .u8 0),(.int .u8 0),(.int .u8 0),(.int .u8 0),(.int .u8 0),(.int .u8 0),(.int .u8 0),(.int .u8 0),(.int .u8 0),(.int .u8 0),(.int .u8 0),(.int .u8 0),(.int .u8 0),(.int .u8 0),(.int .u8 0),(.int .u8 0),(.int .u8 0),(.int .u8 0)] 276,none⟩]
 (sr [mv 16 0,c1 17 294 16,mv 6 17]
 (sr [mv 18 6,⟨(some 19),.cP 24 1 (.tmp 5) none (some (.tmp 18)) none,none⟩,mv 20 0,c2 21 295 19 20]
 (sr [mv 22 6,⟨(some 23),.cP 24 1 (.tmp 5) none (some (.tmp 22)) none,none⟩,⟨(some 24),.eZ (.tmp 23),none⟩,mv 4 24]
 (.ret))))))
 (.skip)))
 (sr [mv 26 0,mv 27 1,⟨(some 28),.call (.const (.func 296 [] [])) [(.const .aa),(.tmp 26),(.tmp 27),(.const (.bool false)),(.const (.bool false))],none⟩,mv 25 28,xt 29 25 0,xt 30 25 1,mv 7 29,mv 8 30]
 (sr [mv 31 8,mv 4 31]
 (.ret))))
theorem A.c275:A.F 275=some ⟨32,[.tmp 4],A.b275⟩:=by kernel_rfl
def A.k275:=@A.kk 275 _ _ _ A.c275 rfl
def A.b292:aq:=sr [⟨(some 4),.aY (.const (.str [])),none⟩]
 (.seq (sr [mv 10 1,ei 11 10 10]
 (cd 11
 (.seq (sr [mv 12 0,⟨(some 13),.bin .leq (.node []) false (.const (.int .i64 0)) (.tmp 12),none⟩,mv 14 13,mg 15 0 14,⟨(some 16),.bin .lss (.node []) false (.tmp 15) (.const (.int .i64 100)),(some (14,true))⟩,pf 17 14 16]
 (cd 17
 (sr [mv 18 0,c1 19 293 18,mv 4 19]
 (.ret))
 (.skip)))
 (sr [⟨(some 5),.alloc [(.int .u8 0),(.int .u8 0),(.int .u8 0),(.int .u8 0),(.int .u8 0),(.int .u8 0),(.int .u8 0),(.int .u8 0),(.int .u8 0),(.int .u8 0),(.int .u8 0),(.int .u8 0),(.int .u8 0),(.int .u8 0),(.int .u8 0),(.int .u8 0),(.int .u8 0),(.int .u8 0),(.int .u8 0),(.int .u8 0),(.int .u8 0),(.int .u8 0),(.int .u8 0),(.int .u8 0)] 276,none⟩]
 (sr [mv 20 0,⟨(some 21),.bb .u64 (.tmp 20),none⟩,mv 6 21]
 (.seq (sr [mv 22 0,bc 23 .lss 22 0]
 (cd 23
 (.aM [mv 24 6,⟨(some 25),.un .neg (.tmp 24),none⟩,mv 6 25])
 (.skip)))
 (sr [mv 26 6,c1 27 294 26,mv 7 27]
 (sr [mv 28 7,⟨(some 29),.bin .add (.node []) false (.const (.int .i64 1)) (.tmp 28),none⟩,⟨(some 30),.cP 24 1 (.tmp 5) (some (.const (.int .i64 1))) (some (.tmp 29)) none,none⟩,mv 31 6,c2 32 295 30 31]
 (.seq (sr [mv 33 0,bc 34 .lss 33 0]
 (cd 34
 (sr [⟨(some 35),.dG 24 1 (.tmp 5) (.const (.int .i64 0)),none⟩,⟨none,.store 1 (.tmp 35) (.const (.int .u8 45)),none⟩]
 (sr [mv 36 7,⟨(some 37),.bin .add (.node []) false (.const (.int .i64 1)) (.tmp 36),none⟩,⟨(some 38),.cP 24 1 (.tmp 5) none (some (.tmp 37)) none,none⟩,⟨(some 39),.eZ (.tmp 38),none⟩,mv 4 39]
 (.ret)))
 (.skip)))
 (sr [mv 40 7,⟨(some 41),.bin .add (.node []) false (.const (.int .i64 1)) (.tmp 40),none⟩,⟨(some 42),.cP 24 1 (.tmp 5) (some (.const (.int .i64 1))) (some (.tmp 41)) none,none⟩,⟨(some 43),.eZ (.tmp 42),none⟩,mv 4 43]
 (.ret)))))))))
 (.skip)))
 (sr [mv 45 0,⟨(some 46),.bb .u64 (.tmp 45),none⟩,mv 47 1,mv 48 0,bc 49 .lss 48 0,⟨(some 50),.call (.const (.func 296 [] [])) [(.const .aa),(.tmp 46),(.tmp 47),(.tmp 49),(.const (.bool false))],none⟩,mv 44 50,xt 51 44 0,xt 52 44 1,mv 8 51,mv 9 52]
 (sr [mv 53 9,mv 4 53]
 (.ret))))
theorem A.c292:A.F 292=some ⟨54,[.tmp 4],A.b292⟩:=by kernel_rfl
def A.k292:=@A.kk 292 _ _ _ A.c292 rfl
def A.b270:aq:=sr [⟨(some 2),.aY (.const (.str [])),none⟩]
 (sr [mv 3 0,⟨(some 4),.call (.const (.func 292 [] [])) [(.tmp 3),(.const (.int .i64 10))],none⟩,mv 2 4]
 (.ret))
theorem A.c270:A.F 270=some ⟨5,[.tmp 2],A.b270⟩:=by kernel_rfl
def A.k270:=@A.kk 270 _ _ _ A.c270 rfl
def A.b241:aq:=sr [⟨(some 2),.aY (.const (.str [])),none⟩]
 (sr [mv 3 0,c1 4 270 3,mv 2 4]
 (.ret))
theorem A.c241:A.F 241=some ⟨5,[.tmp 2],A.b241⟩:=by kernel_rfl
def A.k241:=@A.kk 241 _ _ _ A.c241 rfl
def A.b243:aq:=sr [⟨(some 4),.aY (.const (.str [])),none⟩]
 (sr [mv 5 0,mv 6 1,c2 7 275 5 6,mv 4 7]
 (.ret))
theorem A.c243:A.F 243=some ⟨8,[.tmp 4],A.b243⟩:=by kernel_rfl
def A.k243:=@A.kk 243 _ _ _ A.c243 rfl
theorem Yg6:∀{x:Nat},(j:Nat)->j<(cJ x).length->(cJ x)[j]?=some (cI (x/10^((cJ x).length-1-j))):=by
 intro x
 induction x using Nat.strongRecOn with
 |_ x ih=>
  intro j hj
  by_cases h0:x=0
  ·subst h0;rw[qR]at hj;simp at hj
  ·have e:=ux h0
   have hl:(cJ x).length=(cJ (x/10)).length+1:=by rw[e];simp
   rw[hl]
   rw[e]
   by_cases ma:j<(cJ (x/10)).length
   ·rw[lX ma,ih _ (zJ (by omega) (by decide)) j ma,CW]
    congr 3
    rw[show (cJ (x/10)).length+1-1-j=((cJ (x/10)).length-1-j)+1 by omega,fL,gX]
   ·have:j=(cJ (x/10)).length:=by omega
    subst this
    simp
theorem Ul{L:Nat}{f:Nat->V}(hL:L=(cJ x).length)(hf:∀j,j<L->f (o+j)=vB (cI (x/10^(L-1-j)))):(List.range L).map (fun j=>f (o+j))=(cJ x).map vB:=by
 apply m7
 intro j
 rw[jf,jf]
 by_cases hj:j<L
 ·rw[FT hj,Yg6 j (by omega),<-hL]
  simp[hf j hj]
 ·rw[gJ (by simpa using hj),gJ (by omega)]
  rfl
theorem Um{Z L:Nat}{f:Nat->V}(h:o+L<=Z):aJ (sO Z f) o L=some ((List.range L).map fun j=>f (o+j)):=by
 unfold aJ
 rw[xY,aF h]
 congr 1
 apply m7
 intro j
 rw[gV,jf]
 by_cases hj:j<L
 ·rw[aF hj,fG,Nw (by omega),FT hj];rfl
 ·rw[au hj,gJ (by simpa using hj)];rfl
def Nz:V->Option UInt8
 |.int .u8 n=>some (UInt8.ofNat n.toNat)
 |_=>none
def J2(st:St):Option (List V)->Option (V×St)
 |some l=>match l.mapM Nz with
  |some s=>some (.str s,st)
  |none=>none
 |none=>none
def NA(st:St)(o len:Nat):Option (List V×TypeId×Bool)->Option (V×St)
 |some (c,_,_)=>J2 st (aJ c o len)
 |none=>none
def Un(st:St):Option V->Option (V×St)
 |some .aa=>some (.str [],st)
 |some (.slice i o len _ 1)=>NA st o len (st.row i)
 |_=>none
theorem Uo{x:Src}{call:cm}{r:T V}{st:St}:Dd x call r st=Un st (x.ev r):=by
 unfold Dd Un NA J2
 rfl
theorem Up{st:St}{i len:Nat}{c:Option Nat}:Un st (some (.slice i o len c 1))=NA st o len (st.row i):=rfl
theorem Uq{st:St}{len:Nat}{c:List V}{e:TypeId}{b:Bool}:NA st o len (some (c,e,b))=J2 st (aJ c o len):=rfl
theorem Ur{st:St}:∀{s:a_},J2 st (some (s.map vB))=some (.str s,st):=by
 intro s
 have:(s.map vB).mapM Nz=some s:=by
  induction s with
  |nil=>rfl
  |cons c s ih=>
   rw[kg,List.mapM_cons,ih]
   have:Nz (vB c)=some c:=by simp[Nz,vB,cB]
   simp[this]
 simp only[J2,this]
theorem Yq1:∀j:Nat,j<10->(List.take (j+1) Uc).drop j=[cI j]:=by decide+kernel
theorem Yoq:∀j:Nat,j<100->(List.take (2*j+2) ph).drop (2*j)=[cI (j/10),cI j]:=by decide+kernel
theorem Zy4:Uc.length=36:=by decide+kernel
theorem Yc6:ph.length=200:=by decide+kernel
theorem Yda(h:j<10):ak j=[cI j]:=by
 unfold ak
 split
 ·subst j;rfl
 ·rw[ux (by assumption),show j/10=0 by omega,qR];rfl
theorem Zy5(h:j<100)(h2:10<=j):ak j=[cI (j/10),cI j]:=by
 unfold ak
 rw[au (by omega),ux (by omega),ux (by omega),show j/10/10=0 by omega,qR];rfl
theorem Zvd(hj:j<100){h:T O}{N:Nat}:Fn A.C 293 [.int .i64 j] h N (fun v h' N'=>h'=h/\N'=N/\v=.str (ak j)):=by
 intro w
 rw[aR,A.k293 (by simp)]
 by_cases c:j<10
 ·have e1:=Yq1 j c
  have e2:(j:Int)+1<=36:=by omega
  have e3:((j:Int)+1).toNat=j+1:=by omega
  have e4:(j:Int)<10:=by omega
  have e5:(0:Int)<=(j:Int)+1:=by omega
  have e8:(j:Int)<=(j:Int)+1:=by omega
  simp(disch:=omega) [A.b293,e4,vT,ay,cR,jq,Zy4,e1,e2,e3,e5,e8,aA,Yda c]
  exact ab.refl
 ·have e1:=Yoq j hj
  have e4:¬(j:Int)<10:=by omega
  have e2:(j:Int)*2+2<=200:=by omega
  have e3:((j:Int)*2+2).toNat=2*j+2:=by omega
  have e5:(0:Int)<=(j:Int)*2+2:=by omega
  have e6:(0:Int)<=(j:Int)*2:=by omega
  have e8:(j:Int)*2<=2*(j:Int)+2:=by omega
  have e7:((j:Int)*2).toNat=2*j:=by omega
  simp(disch:=omega) [A.b293,e4,vT,ay,cR,jq,Yc6,e1,e2,e3,e5,e6,e7,e8,aA,Zy5 hj (uV.1 c)]
  exact ab.refl
theorem Us:[V.int .u8 0,V.int .u8 0,V.int .u8 0,V.int .u8 0,V.int .u8 0,V.int .u8 0,V.int .u8 0,V.int .u8 0,V.int .u8 0,V.int .u8 0,V.int .u8 0,V.int .u8 0,V.int .u8 0,V.int .u8 0,V.int .u8 0,V.int .u8 0,V.int .u8 0,V.int .u8 0,V.int .u8 0,V.int .u8 0,V.int .u8 0,V.int .u8 0,V.int .u8 0,V.int .u8 0]=sO 24 (fun _=>.int .u8 0):=rfl
theorem Zo7(hx:x<18446744073709551616):(cJ x).length<=20:=nd.1 (by omega)
theorem EE(h:x≠0):ak x=cJ x:=by unfold ak;rw[au h]
theorem Yqv(hx:x<18446744073709551616){h:T O}{N:Nat}(hp:jm h N):Fn A.C 275 [.int .u64 x,.int .i64 10] h N (fun v h' N'=>v=.str (ak x)):=by
 intro w
 rw[aR,A.k275 (by simp)]
 by_cases c:x<100
 ·have c1:(x:Int)<100:=by omega
  have e1:bn .i64 (x:Int)=(x:Int):=cj (by omega) (by omega)
  simp[A.b275,c1,e1]
  refine ax (Zvd c) ?_
  rintro _ _ _ _ ⟨rfl,rfl,rfl⟩
  simp[aA]
  exact ab.refl
 ·have c1:¬(x:Int)<100:=by omega
  simp[A.b275,c1,Us]
  refine ax (Ue hx (by omega) (hp.ae (aL ab.refl _))) ?_
  rintro _ _ _ _ ⟨rfl,rfl,rfl⟩
  have hl:=Zo7 hx
  obtain⟨L,hL⟩:∃L,(cJ x).length=L:=⟨_,rfl⟩
  have NB:x<10^L:=nd.2 (by omega)
  have e2:(L:Int)<=24:=by omega
  rw[hL]
  rw[hL]at hl
  simp[xb,ay,cR,jq,e2,xY]
  refine yX (Uk (n2:=N) (Z:=24) (o:=0) (x:=x) (f0:=fun _=>.int .u8 0) (e:=276) (by omega) (by omega) (aS N) (rR N) NB hx (by rw[T.ai,aF rfl])) ?_
  rintro v ⟨H2,n2,W2⟩ ⟨hn,hW,hO,f,hr,hd,_⟩
  simp only at hn hW hO hr
  subst hn
  have cg:=Um (f:=f) (show 0+L<=24 by omega)
  rw[Ul hL.symm hd]at cg
  simp[xb,ay,cR,jq,e2,xY,Uo,Up,Uq,hr,cg,Ur,aA]
  have AJ:ad N W2=[]:=hW
  rw[AJ,EE (by omega)]
  refine⟨rfl,⟨uW _,fun i hi=>?_⟩,rfl⟩
  rw[hO i (by omega),T.ai,au (by omega)]
theorem Yim(hx:x<18446744073709551616){h:T O}{N:Nat}(hp:jm h N):Fn A.C 243 [.int .u64 x,.int .i64 10] h N (fun v h' N'=>v=.str (ak x)):=by
 intro w
 rw[aR,A.k243 (by simp)]
 simp[A.b243]
 refine ax (Yqv hx hp) ?_
 rintro _ _ _ k1 rfl
 simp[aA]
 exact k1
theorem Yqy{z:Int}(h1: -9223372036854775808<=z)(h2:z<9223372036854775808){h:T O}{N:Nat}(hp:jm h N):Fn A.C 292 [.int .i64 z,.int .i64 10] h N (fun v h' N'=>v=.str (aK z)):=by
 intro w
 rw[aR,A.k292 (by simp)]
 by_cases c:0<=z/\z<100
 ·obtain⟨j,rfl⟩:=Bi c.1
  have c1:(j:Int)<100:=c.2
  have hj:aK (j:Int)=ak j:=by unfold aK;rw[au (by omega)];rfl
  simp[A.b292,c1]
  refine ax (Zvd (by omega)) ?_
  rintro _ _ _ _ ⟨rfl,rfl,rfl⟩
  simp[aA,hj]
  exact ab.refl
 ·have hx:z.natAbs<18446744073709551616:=by omega
  have mW:z.natAbs≠0:=by omega
  obtain⟨x,Ut⟩:∃x,z.natAbs=x:=⟨_,rfl⟩
  have hl:=Zo7 (Ut▸hx)
  obtain⟨L,hL⟩:∃L,(cJ x).length=L:=⟨_,rfl⟩
  have NB:x<10^L:=nd.2 (by omega)
  have hL0:0<L:=by rw[<-hL];exact Zsh (by omega)
  rw[hL]at hl
  have e2:(L:Int)+1<=24:=by omega
  have e3:(0:Int)<=(L:Int)+1:=by omega
  have e4:((L:Int)+1).toNat=L+1:=by omega
  have e5:(1:Int)<=(L:Int)+1:=by omega
  have e6:(1:Int)+(L:Int)=(L:Int)+1:=by omega
  by_cases hz:z<0
  ·have c2:¬0<=z:=by omega
   have w1:IntKind.wrap .u64 (-(bn .u64 z))=(x:Int):=by rw[GM,GN];omega
   simp[A.b292,c2,hz,Us,w1]
   refine ax (Ue (x:=x) (by omega) (by omega) (hp.ae (aL ab.refl _))) ?_
   rintro _ _ _ _ ⟨rfl,rfl,rfl⟩
   rw[hL]
   simp(disch:=omega) [xb,ay,cR,jq,e2,e3,e4,e5,e6,xY]
   refine yX (Uk (n2:=N) (Z:=24) (o:=1) (x:=x) (f0:=fun _=>.int .u8 0) (e:=276) (by omega) (by omega) (aS N) (rR N) NB (by omega) (by rw[T.ai,aF rfl])) ?_
   rintro v ⟨H2,n2,W2⟩ ⟨hn,hW,hO,f,hr,hd,_⟩
   simp only at hn hW hO hr
   subst hn
   have AJ:ad N W2=[]:=hW
   have cg:=Um (f:=jN f 0 (.int .u8 45)) (show 0+(L+1)<=24 by omega)
   have nL:(List.range (L+1)).map (fun j=>jN f 0 (.int .u8 45) (0+j))=(45::cJ x).map vB:=by
    rw[List.range_succ_eq_map,kg,List.map_map,kg,<-Ul hL.symm hd]
    congr 1
    apply Ba
    intro j _
    show jN f 0 _ (0+(j+1))=_
    rw[jN,au (by omega)]
    congr 1;omega
   rw[nL]at cg
   have zn:aK z=45::cJ x:=by unfold aK;rw[aF hz,Ut,EE (by omega)]
   obtain⟨S,hS⟩:∃S,45::cJ x=S:=⟨_,rfl⟩
   rw[hS]at cg zn
   simp(disch:=omega) [xb,zO,ay,cR,jq,e2,e3,e4,e6,xY,Uo,Up,Uq,hr,hz,JY,cg,Ur,aA,zn,AJ]
   refine⟨uW _,fun i hi=>?_⟩
   rw[T.ai,au (by omega),hO i (by omega),T.ai,au (by omega)]
  ·have c2:0<=z:=by omega
   have c3:¬z<100:=by omega
   have w1:bn .u64 z=(x:Int):=by rw[B8 (by omega) (by omega)];omega
   simp[A.b292,c2,c3,hz,Us,w1]
   refine ax (Ue (x:=x) (by omega) (by omega) (hp.ae (aL ab.refl _))) ?_
   rintro _ _ _ _ ⟨rfl,rfl,rfl⟩
   rw[hL]
   simp(disch:=omega) [xb,ay,cR,jq,e2,e3,e4,e5,e6,xY]
   refine yX (Uk (n2:=N) (Z:=24) (o:=1) (x:=x) (f0:=fun _=>.int .u8 0) (e:=276) (by omega) (by omega) (aS N) (rR N) NB (by omega) (by rw[T.ai,aF rfl])) ?_
   rintro v ⟨H2,n2,W2⟩ ⟨hn,hW,hO,f,hr,hd,_⟩
   simp only at hn hW hO hr
   subst hn
   have AJ:ad N W2=[]:=hW
   have cg:=Um (f:=f) (show 1+L<=24 by omega)
   rw[Ul hL.symm hd]at cg
   have zn:aK z=cJ x:=by unfold aK;rw[au hz,Ut,EE (by omega)]
   simp(disch:=omega) [xb,ay,cR,jq,e2,e3,e4,e5,e6,xY,Uo,Up,Uq,hr,hz,cg,Ur,aA,zn,AJ]
   refine⟨uW _,fun i hi=>?_⟩
   rw[hO i (by omega),T.ai,au (by omega)]
theorem Yld{z:Int}(h1: -9223372036854775808<=z)(h2:z<9223372036854775808){h:T O}{N:Nat}(hp:jm h N):Fn A.C 241 [.int .i64 z] h N (fun v h' N'=>v=.str (aK z)):=by
 intro w
 rw[aR,A.k241 (by simp)]
 simp[A.b241]
 refine ax (?_:Fn A.C 270 [.int .i64 z] h N (fun v h' N'=>v=.str (aK z))) ?_
 ·intro w
  rw[aR,A.k270 (by simp)]
  simp[A.b270]
  refine ax (Yqy h1 h2 hp) ?_
  rintro _ _ _ k1 rfl
  simp[aA]
  exact k1
 ·rintro _ _ _ k1 rfl
  simp[aA]
  exact k1
def Uu:List UInt8:=List.replicate 128 32
def Uv:List UInt8:=List.replicate 128 45
def Yh3:List UInt8:=List.replicate 128 61
def Ynp:List UInt8:=List.replicate 64 9
def EF:List UInt8:=List.replicate 64 48
def A.AK:aq:=.seq (sr [c1 111 278 9,mv 112 7,bi 113 .lss 111 112]
 (cd 113
 (.skip)
 (.exit 3)))
 (.block 4 (sr [mv 114 7,c1 115 278 9,bi 116 .sub 114 115,c1 117 278 9,mv 118 8,⟨(some 119),.mn [(.tmp 116),(.tmp 117),(.tmp 118)],none⟩,mv 10 119]
 (.aM [c1 120 246 9,mv 121 10,⟨(some 122),.az (.tmp 120) none (some (.tmp 121)),none⟩,c2 123 245 9 122])))
def A.b244:aq:=sr [⟨(some 4),.aY (.const (.str [])),none⟩]
 (.seq (sr [mv 11 1]
 (.block 0 (sr [ei 13 11 0,mv 12 13]
 (cd 12
 (sr [⟨(some 4),.aY (.const (.str [])),none⟩]
 (.ret))
 (sr [ei 15 11 1,mv 14 15]
 (cd 14
 (sr [mv 16 0,mv 4 16]
 (.ret))
 (.skip)))))))
 (.seq (sr [mv 17 1,bc 18 .lss 17 0]
 (cd 18
 (.aM [⟨(some 19),.eK 9 (.const (.str [115,116,114,105,110,103,115,58,32,110,101,103,97,116,105,118,101,32,82,101,112,101,97,116,32,99,111,117,110,116])),none⟩,⟨none,.stop,none⟩])
 (.skip)))
 (sr [mv 21 0,⟨(some 22),.len 0 (.tmp 21),none⟩,⟨(some 23),.bb .u64 (.tmp 22),none⟩,mv 24 1,⟨(some 25),.bb .u64 (.tmp 24),none⟩,c2 26 276 23 25,mv 20 26,xt 27 20 0,xt 28 20 1,mv 5 27,mv 6 28]
 (.seq (sr [mv 29 5,⟨(some 30),.bin .gtr (.node []) false (.tmp 29) (.const (.int .u64 0)),none⟩,mv 31 30,mh 32 6 31,⟨(some 33),.bin .gtr (.node []) false (.tmp 32) (.const (.int .u64 9223372036854775807)),(some (31,false))⟩,pt 34 31 33]
 (cd 34
 (.aM [⟨(some 35),.eK 9 (.const (.str [115,116,114,105,110,103,115,58,32,82,101,112,101,97,116,32,111,117,116,112,117,116,32,108,101,110,103,116,104,32,111,118,101,114,102,108,111,119])),none⟩,⟨none,.stop,none⟩])
 (.skip)))
 (sr [mv 36 6,⟨(some 37),.bb .i64 (.tmp 36),none⟩,mv 7 37]
 (.seq (sr [mv 38 0,⟨(some 39),.len 0 (.tmp 38),none⟩,ei 40 39 0]
 (cd 40
 (sr [⟨(some 4),.aY (.const (.str [])),none⟩]
 (.ret))
 (.skip)))
 (.seq (sr [mv 41 0,⟨(some 42),.aQ (.tmp 41) (.const (.int .i64 0)),none⟩]
 (.block 1 (.seq (sr [⟨(some 44),.bin .eql (.aI .int) true (.tmp 42) (.const (.int .u8 32)),none⟩,mv 43 44]
 (cd 43
 (.skip)
 (sr [⟨(some 45),.bin .eql (.aI .int) true (.tmp 42) (.const (.int .u8 45)),none⟩,mv 43 45]
 (cd 43
 (.skip)
 (sr [⟨(some 46),.bin .eql (.aI .int) true (.tmp 42) (.const (.int .u8 48)),none⟩,mv 43 46]
 (cd 43
 (.skip)
 (sr [⟨(some 47),.bin .eql (.aI .int) true (.tmp 42) (.const (.int .u8 61)),none⟩,mv 43 47]
 (cd 43
 (.skip)
 (.aM [⟨(some 48),.bin .eql (.aI .int) true (.tmp 42) (.const (.int .u8 9)),none⟩,mv 43 48])))))))))
 (cd 43
 (.block 2 (sr [mv 50 7,bc 51 .leq 50 128,mv 52 51,mg 53 0 52,⟨(some 54),.call (.const (.func 254 [] [])) [(.const (.str Uu)),(.tmp 53)],(some (52,true))⟩,pf 55 52 54,mv 49 55]
 (cd 49
 (sr [mv 56 7,⟨(some 57),.az (.const (.str Uu)) none (some (.tmp 56)),none⟩,mv 4 57]
 (.ret))
 (sr [mv 59 7,bc 60 .leq 59 128,mv 61 60,mg 62 0 61,⟨(some 63),.call (.const (.func 254 [] [])) [(.const (.str Uv)),(.tmp 62)],(some (61,true))⟩,pf 64 61 63,mv 58 64]
 (cd 58
 (sr [mv 65 7,⟨(some 66),.az (.const (.str Uv)) none (some (.tmp 65)),none⟩,mv 4 66]
 (.ret))
 (sr [mv 68 7,bc 69 .leq 68 64,mv 70 69,mg 71 0 70,⟨(some 72),.call (.const (.func 254 [] [])) [(.const (.str EF)),(.tmp 71)],(some (70,true))⟩,pf 73 70 72,mv 67 73]
 (cd 67
 (sr [mv 74 7,⟨(some 75),.az (.const (.str EF)) none (some (.tmp 74)),none⟩,mv 4 75]
 (.ret))
 (sr [mv 77 7,bc 78 .leq 77 128,mv 79 78,mg 80 0 79,⟨(some 81),.call (.const (.func 254 [] [])) [(.const (.str Yh3)),(.tmp 80)],(some (79,true))⟩,pf 82 79 81,mv 76 82]
 (cd 76
 (sr [mv 83 7,⟨(some 84),.az (.const (.str Yh3)) none (some (.tmp 83)),none⟩,mv 4 84]
 (.ret))
 (sr [mv 86 7,bc 87 .leq 86 64,mv 88 87,mg 89 0 88,⟨(some 90),.call (.const (.func 254 [] [])) [(.const (.str Ynp)),(.tmp 89)],(some (88,true))⟩,pf 91 88 90,mv 85 91]
 (cd 85
 (sr [mv 92 7,⟨(some 93),.az (.const (.str Ynp)) none (some (.tmp 92)),none⟩,mv 4 93]
 (.ret))
 (.skip))))))))))))
 (.skip)))))
 (sr [mv 94 7,mv 8 94]
 (.seq (sr [mv 95 7,bc 96 .gtr 95 8192]
 (cd 96
 (sr [mv 97 0,⟨(some 98),.len 0 (.tmp 97),none⟩,⟨(some 99),.bin .quo (.node []) false (.const (.int .i64 8192)) (.tmp 98),none⟩,mv 100 0,⟨(some 101),.len 0 (.tmp 100),none⟩,bi 102 .mul 99 101,mv 8 102]
 (sr [mv 103 8,ei 104 103 0]
 (cd 104
 (.aM [mv 105 0,⟨(some 106),.len 0 (.tmp 105),none⟩,mv 8 106])
 (.skip))))
 (.skip)))
 (sr [⟨(some 9),.alloc [.bD,.aa] 241,none⟩]
 (sr [mv 107 7,c2 108 277 9 107]
 (sr [mv 109 0,c2 110 245 9 109]
 (.seq (.block 3 (.loop A.AK))
 (sr [c1 124 246 9,mv 4 124]
 (.ret)))))))))))))))
theorem A.c244:A.F 244=some ⟨125,[.tmp 4],A.b244⟩:=by kernel_rfl
def A.k244:=@A.kk 244 _ _ _ A.c244 rfl
def A.b276:aq:=sr [⟨(some 4),.aY (.const (.int .u64 0)),none⟩,⟨(some 5),.aY (.const (.int .u64 0)),none⟩]
 (.seq (.cond (.const (.bool false))
 (sr [mv 11 0,⟨(some 12),.bb .u32 (.tmp 11),none⟩,mv 13 1,⟨(some 14),.bb .u32 (.tmp 13),none⟩,c2 15 297 12 14,mv 10 15,xt 16 10 0,xt 17 10 1,mv 6 16,mv 7 17]
 (sr [mv 18 6,⟨(some 19),.bb .u64 (.tmp 18),none⟩,mv 20 7,⟨(some 21),.bb .u64 (.tmp 20),none⟩,mv 4 19,mv 5 21]
 (.ret)))
 (.skip))
 (sr [mv 23 0,mv 24 1,c2 25 220 23 24,mv 22 25,xt 26 22 0,xt 27 22 1,mv 8 26,mv 9 27]
 (sr [mv 28 8,mv 29 9,mv 4 28,mv 5 29]
 (.ret))))
theorem A.c276:A.F 276=some ⟨30,[.tmp 4,.tmp 5],A.b276⟩:=by kernel_rfl
def A.k276:=@A.kk 276 _ _ _ A.c276 rfl
theorem Ymh{h:T O}{N:Nat}{x y:Nat}(hx:x<18446744073709551616)(hy:y<18446744073709551616):Fn A.C 276 [.int .u64 x,.int .u64 y] h N (fun v' h' N'=>h'=h/\N'=N/\v'=.aZ [.int .u64 (bX (x*y):Nat),.int .u64 (bz (x*y):Nat)]):=by
 intro w
 rw[aR,A.k276 (by simp)]
 simp[A.b276]
 refine ax (Js hx hy) ?_
 rintro _ _ _ k1 ⟨rfl,rfl,rfl⟩
 simp[aA]
 exact k1
theorem Uw{a c:UInt8}{s:a_}{st:St}:A.C.call (.func 254 [] []) [.str (a::s),.str [c]] st=some (.bool (decide (a=c)),st):=by
 have e:(([a]:a_)==[c])=decide (a=c):=by
  rw[Bool.eq_iff_iff]
  simp
 have h1:(1:Int)<=(s.length:Int)+1:=by omega
 apply Call.eq
 rw[aR,A.k254 (by simp)]
 have qW:∀st,A.C.call (.func 282 [] []) [.str (a::s),.str [c]] st=some (.bool (decide (a=c)),st):=fun st=>by
  apply Call.eq
  rw[aR,A.k282 (by simp)]
  simp[A.b282,ay,cR,jq,vT,e,h1]
 simp[A.b254,qW]
theorem Ysp{st:St}:A.C.call (.func 254 [] []) [.str Uu,.str [48]] st=some (.bool false,st):=Uw (a:=32) (s:=List.replicate 127 32)
theorem Yso{st:St}:A.C.call (.func 254 [] []) [.str Uv,.str [48]] st=some (.bool false,st):=Uw (a:=45) (s:=List.replicate 127 45)
theorem Ysn{st:St}:A.C.call (.func 254 [] []) [.str EF,.str [48]] st=some (.bool true,st):=Uw (a:=48) (s:=List.replicate 63 48)
theorem Zxd{k:Nat}(h:k<=64):List.take k EF=List.replicate k 48:=by
 unfold EF
 rw[List.take_replicate,nA h]
theorem Yam:EF.length=64:=by simp[EF]
theorem Zra{k:Nat}(hk:k<=18){h:T O}{N:Nat}:Fn A.C 244 [.str [48],.int .i64 k] h N (fun v h' N'=>v=.str (List.replicate k 48)):=by
 intro w
 rw[aR,A.k244 (by simp)]
 by_cases c0:k=0
 ·subst c0
  simp[A.b244,aA]
  exact ab.refl
 ·by_cases c1:k=1
  ·subst c1
   simp[A.b244,aA]
   exact ab.refl
  ·have c3:¬(k:Int)=1:=by omega
   have e0:bn .u64 (1:Int)=((1:Nat):Int):=B8 (by omega) (by omega)
   have e1:bn .u64 (k:Int)=(k:Int):=B8 (by omega) (by omega)
   have c4:¬(k:Int)<0:=by omega
   simp[A.b244,c0,c3,c4,e0,e1]
   refine ax (Ymh (x:=1) (y:=k) (by omega) (by omega)) ?_
   rintro _ _ _ _ ⟨rfl,rfl,rfl⟩
   have g1:bX (1*k)=0:=by unfold bX;omega
   have g2:bz (1*k)=k:=by unfold bz;omega
   have g3:¬(9223372036854775807:Int)<(k:Int):=by omega
   have g4:bn .i64 (k:Int)=(k:Int):=cj (by omega) (by omega)
   have g7:cB 48=48:=rfl
   have g5:(k:Int)<=128:=by omega
   have g6:(k:Int)<=64:=by omega
   rw[g1,g2]
   simp(disch:=omega) [g3,g4,g5,g6,g7,Ysp,Yso,Ysn,vT,ay,cR,jq,Yam,Zxd,aA]
   exact ab.refl
variable {N b:Nat} {h:T O} {s:a_} {w:List Nat}
set_option maxHeartbeats 1000000
def A.b279:aq:=sr [mv 2 0,⟨(some 3),.fy (.tmp 2),none⟩,fa 4 0 3,ld 5 4,⟨(some 6),.bin .eql (.aI .ptr) true (.tmp 5) (.const .bD),none⟩]
 (cd 6
 (.aM [mv 7 0,mv 8 0,⟨(some 9),.FM none (.tmp 8),none⟩,⟨(some 10),.ext .same [(.tmp 9)],none⟩,⟨(some 11),.FM (some (241,2)) (.tmp 10),none⟩,⟨(some 12),.fy (.tmp 7),none⟩,fa 13 0 12,so 13 11])
 (sr [mv 14 0,⟨(some 15),.fy (.tmp 14),none⟩,fa 16 0 15,ld 17 16,mv 18 0,⟨(some 19),.bin .neq (.aI .ptr) false (.tmp 17) (.tmp 18),none⟩]
 (cd 19
 (.stop)
 (.skip))))
theorem A.c279:A.F 279=some ⟨20,[],A.b279⟩:=by kernel_rfl
def A.k279:=@A.kk 279 _ _ _ A.c279 rfl
def A.b245:aq:=sr [mc 4 0,⟨(some 5),.aY (.const .aP),none⟩]
 (sr [mv 6 0,c1 7 279 6]
 (sr [mv 8 0,mv 9 0,⟨(some 10),.fy (.tmp 9),none⟩,fa 11 1 10,ld 12 11,mv 13 1,⟨(some 14),.append 1 1 5 [(.int .u8 0)] (.tmp 12) (.tmp 13),none⟩,⟨(some 15),.fy (.tmp 8),none⟩,fa 16 1 15,so 16 14]
 (sr [mv 17 1,⟨(some 18),.len 0 (.tmp 17),none⟩,mv 4 18,⟨(some 5),.aY (.const .aP),none⟩]
 (.ret))))
theorem A.c245:A.F 245=some ⟨19,[.tmp 4,.tmp 5],A.b245⟩:=by kernel_rfl
def A.k245:=@A.kk 245 _ _ _ A.c245 rfl
def A.b246:aq:=sr [⟨(some 2),.aY (.const (.str [])),none⟩]
 (.seq (.aV [mv 3 0,⟨(some 4),.fy (.tmp 3),none⟩,fa 5 1 4,ld 6 5,⟨(some 7),.tJ (.tmp 6),none⟩,mv 8 0,⟨(some 9),.fy (.tmp 8),none⟩,fa 10 1 9,ld 11 10,ln 12 11,⟨(some 13),.zz 5 (.tmp 7) (.tmp 12),none⟩,mv 2 13] [0,1,3,7,15,0,32,96,224,480,1023,2047])
 (.ret))
theorem A.c246:A.F 246=some ⟨14,[.tmp 2],A.b246⟩:=by kernel_rfl
def A.k246:=@A.kk 246 _ _ _ A.c246 rfl
def Bd(h:T O)(N b:Nat)(s:a_):Prop:=b<N/\∃p v,h.get b=some (.cells [p,v] 241 true)/\(p=.bD\/p=.ptr b 0)/\((v=.aa/\s=[])\/∃j,v=.slice j 0 s.length none 1/\b<j/\j<N/\s≠[]/\h.get j=some (.cells (s.map vB) 5 true))
theorem Ymd{n2:Nat}(ft:n2<=b)(hb:Bd h N b s):Call A.C (.func 279 [] []) [.ptr b 0] ⟨h,N,w⟩ (fun _ st=>st.n=N/\ad n2 st.w=ad n2 w/\(∀i,i<b->st.h.get i=h.get i)/\Bd st.h N b s):=by
 obtain⟨hN,p,v,hr,hp,hv⟩:=hb
 have oW:¬b<n2:=by omega
 rw[aR,A.k279 (by simp)]
 rcases hp with rfl|rfl
 ·simp[A.b279,hr,dJ,BA,hN,oW]
  refine⟨fun i hi hc=>by omega,hN,.ptr b 0,v,?_,.inr rfl,?_⟩
  ·rw[T.ai,aF rfl];rfl
  ·rcases hv with hv|⟨j,h1,h2,h3,h4,h5⟩
   ·exact .inl hv
   ·exact .inr ⟨j,h1,h2,h3,h4,by rw[T.ai,au (by omega)];exact h5⟩
 ·simp[A.b279,hr,dJ]
  exact⟨hN,.ptr b 0,v,hr,.inr rfl,hv⟩
theorem Zzp{n0:Nat}{t:a_}(uw:n0<=b)(hb:Bd h N b s)(ht:t≠[])(hl:s.length+t.length<1000000000000):Call A.C (.func 245 [] []) [.ptr b 0,.str t] ⟨h,N,w⟩ (fun _ st=>st.n=N+1/\ad n0 st.w=ad n0 w/\(∀i,i<b->st.h.get i=h.get i)/\Bd st.h (N+1) b (s++t)):=by
 rw[aR,A.k245 (by simp)]
 simp[A.b245]
 refine yX (Ymd uw hb) ?_
 rintro _ ⟨H2,n2,W2⟩ ⟨hn,hW,hO,oW⟩
 simp only at hn hW hO oW
 subst hn
 obtain⟨hN,p,v,hr,hp,hv⟩:=oW
 have mO:¬t.length=0:=by simpa using ht
 have hc:(t.map vB).length=t.length:=by simp
 have hW0:ad n0 W2=[]:=hW
 have m1:2*t.length<=281474976710656:=by omega
 have m2:¬281474976710656<2*(s.length+t.length):=by omega
 have m3:¬s.length+t.length<=s.length:=by omega
 have bJ:¬b=n2:=by omega
 have oV:¬b<n0:=by omega
 rcases hv with⟨rfl,rfl⟩|⟨j,rfl,h2,h3,h4,h5⟩
 ·simp[-ad,hr,zP,jQ,eC,yK,mO,St.alloc,m1,bJ,bW,ag]
  refine⟨JB (JC (by simp[ad,hW0,oV])),fun i hi=>?_,by omega,p,.slice n2 0 t.length none 1,by rw[T.ai,aF rfl],hp,.inr ⟨n2,rfl,hN,by omega,ht,by rw[T.ai,au (by omega),T.ai,aF rfl];rfl⟩⟩
  rw[au (by omega),au (by omega)];exact hO i hi
 ·have oZ:¬b=j:=by omega
  have Dy:¬j<n0:=by omega
  simp[-ad,hr,zP,jQ,eC,yK,mO,St.alloc,St.row,h5,m2,m3,bJ,oZ,bW,ag]
  refine⟨JB (JC (by simp[ad,hW0,oV,Dy])),fun i hi=>?_,by omega,p,.slice n2 0 (s.length+t.length) none 1,by rw[T.ai,aF rfl],hp,.inr ⟨n2,by simp,hN,by omega,by simp[h4],by rw[T.ai,au (by omega),T.ai,aF rfl,List.map_append];rfl⟩⟩
  rw[au (by omega),au (by omega),au (by omega)];exact hO i hi
theorem Yjj{α:Type}(c:List α):aJ c 0 c.length=some c:=by unfold aJ;simp
theorem Zsl:∀(s:a_),Dq (s.map vB)=some s
 |[]=>rfl
 |c::s=>by
  rw[kg]
  have h1:LM (vB c)=some c:=by
   unfold LM vB cB
   have:=c.toNat_lt
   simp
   omega
  simp only[Dq,h1,Zsl s]
theorem Ymg{n0:Nat}(uw:n0<=b)(hb:Bd h N b s)(hs:s≠[])(hl:s.length<1000000000000):Call A.C (.func 246 [] []) [.ptr b 0] ⟨h,N,w⟩ (fun v st=>v=.str s/\st.n=N/\ad n0 st.w=ad n0 w/\(∀i,i<b->st.h.get i=h.get i)):=by
 obtain⟨hN,p,v,hr,hp,hv⟩:=hb
 rw[aR,A.k246 (by simp)]
 rcases hv with⟨_,rfl⟩|⟨j,rfl,h2,h3,h4,h5⟩
 ·exact absurd rfl hs
 ·have h0:0<s.length:=List.length_pos_iff.2 hs
  have qW:(0:Int)<(s.length:Int):=by omega
  have hm:(s.length:Int)<=9223372036854775807:=by omega
  have cg:aJ (s.map vB) 0 s.length=some (s.map vB):=by
   have:=Yjj (s.map vB)
   rw[oa]at this
   exact this
  have hbm:=Zsl s
  have Dy:¬j<n0:=by omega
  simp[A.b246,hr,F9,Ga,h0,hm,h5,h3,hN,cg,hbm,Dy]
  exact fun i hi hc=>by omega
end Go.Mx
