/-Slices of which only the elements are kn-/
import Derived.Test.YtokjleejipaidaaGreatDoorMxLim
set_option linter.all false
namespace Go.Mx
open Go
variable {N a b i k n o size:Nat} {h:T O} {j:Int} {l:List Nat} {r r0:T V} {v:V} {x:Src}
def pA:V->Option Nat
 |.aa=>some 0
 |.empty=>some 0
 |.slice _ _ n _ _=>some n
 |_=>none
def xA:V->Option (Nat×Nat)
 |.slice i o _ _ _=>some (i,o)
 |_=>none
def YB(st:St):Option Nat->Option (V×St)
 |some n=>some (.int .i64 n,st)
 |none=>none
def YC(st:St):Option V->Option (V×St)
 |some v=>YB st (pA v)
 |none=>none
def Yi7{call:cH}{st:St}:yS 1 x call r st=YC st (x.ev r):=by
 unfold yS YC
 rcases x.ev r with _|v
 ·rfl
 ·cases v<;>rfl
def Yfa{st:St}:YC st (some v)=YB st (pA v):=rfl
def Ya1{st:St}:YB st (some n)=some (.int .i64 n,st):=rfl
def RQ(st:St)(size k:Nat):Option (Nat×Nat)->Option (V×St)
 |some (i,o)=>some (.ptr i (o+k*size),st)
 |none=>none
def Ni(st:St)(size:Nat)(v:V)(k:Int):Option Nat->Option (V×St)
 |some n=>if 0<=k/\k<(n:Int) then RQ st size k.toNat (xA v) else none
 |none=>none
def YD(st:St)(size:Nat):Option V->Option V->Option (V×St)
 |some v,some (.int _ k)=>Ni st size v k (pA v)
 |_,_=>none
def Ztq{i:Src}{call:cH}{st:St}:EW size x i call r st=YD st size (x.ev r) (i.ev r):=by
 unfold EW YD
 rcases x.ev r with _|v
 ·rfl
 ·rcases i.ev r with _|u
  ·cases v<;>rfl
  ·cases u<;>cases v<;>simp[Ni,RQ,pA,xA]<;>omega
def Yb4{st:St}{k:IntKind}:YD st size (some v) (some (.int k j))=Ni st size v j (pA v):=rfl
def Yg7{st:St}(h0:0<=j)(h1:j<(n:Int)):Ni st size v j (some n)=RQ st size j.toNat (xA v):=by simp[Ni,h0,h1]
def Zxc{st:St}:RQ st size k (some (i,o))=some (.ptr i (o+k*size),st):=rfl
def Yxz(a b:Int):(a==b)=decide (a=b):=by
 by_cases h:a=b<;>simp[h]
def Yxy(a b:Int):(a !=b)=!decide (a=b):=by
 by_cases h:a=b<;>simp[h]
def Yhz(a b:Nat):((a:Int)+(b:Int)).toNat=a+b:=by omega
def Yhy(a b:Nat):((a:Int)-(b:Int)).toNat=a-b:=by omega
def Ywb(a b n:Nat):((a:Int)+(b:Int)<(n:Int))↔a+b<n:=by omega
def Zzm(b:Nat):((64:Int)-(b:Int)).toNat=64-b:=by omega
attribute [simp] Zzm Yxz Yxy Int.natCast_inj Yhz Yhy Ywb
def YE(st:St):Option V->Option (V×St)
 |some (.str s)=>some (.int .i64 s.length,st)
 |_=>none
def Yi8{call:cH}{st:St}:yS 0 x call r st=YE st (x.ev r):=by
 unfold yS YE
 rcases x.ev r with _|v
 ·rfl
 ·cases v<;>rfl
def Ye9{st:St}{s:List UInt8}:YE st (some (.str s))=some (.int .i64 s.length,st):=rfl
def Yaz{i o n c z}:pA (.slice i o n c z)=some n:=rfl
def Yjz:pA .aa=some 0:=rfl
def Ya0:pA .empty=some 0:=rfl
def Zxa{i o n c z}:xA (.slice i o n c z)=some (i,o):=rfl
attribute [simp] Yi7 Yi8 Ye9 Yaz Yjz Ya0 Zxa Yfa Ya1 Ztq Yb4 Yg7 Zxc
def cK(b:UInt8):Int:=b.toNat
def Ycl(b:UInt8):0<=cK b/\cK b<256:=by unfold cK;have:=b.toNat_lt;omega
def RS(st:St):Option UInt8->Option (V×St)
 |some b=>some (.int .u8 b.toNat,st)
 |none=>none
def RT(st:St):Option V->Option V->Option (V×St)
 |some (.str s),some (.int _ k)=>if 0<=k then RS st s[k.toNat]? else none
 |_,_=>none
def Zv1{i:Src}{call:cH}{st:St}:EX x i call r st=RT st (x.ev r) (i.ev r):=by
 unfold EX RT RS
 rcases x.ev r with _|v
 ·rfl
 ·rcases i.ev r with _|u
  ·cases v<;>rfl
  ·cases u<;>cases v<;>rfl
def Yfm{st:St}{s:List UInt8}{k:IntKind}(h:0<=j):RT st (some (.str s)) (some (.int k j))=RS st s[j.toNat]?:=by simp[RT,h]
def Ybg{st:St}{b:UInt8}:RS st (some b)=some (.int .u8 (cK b),st):=rfl
attribute [simp] Zv1 Yfm Ybg
def RU(st:St)(elem:TypeId)(size bytes:Nat)(zero:List V):Option V->Option V->Option (V×St)
 |some (.int _ l),some (.int _ c)=>if 0<=l/\l<=c/\bytes*c<=2^47/\c<2^62/\size=zero.length/\size≠0 then
    some (.slice st.n 0 l.toNat (some c.toNat) size,st.alloc (.cells (cW zero c.toNat) elem true)) else none
 |_,_=>none
def Zto{elem:TypeId}{bytes:Nat}{zero:List V}{y:Src}{call:cH}{st:St}:C0 elem size bytes zero x y call r st=RU st elem size bytes zero (x.ev r) (y.ev r):=by
 unfold C0 RU;rfl
def Yjq{st:St}{elem:TypeId}{bytes:Nat}{zero:List V}{k k':IntKind}{l:Int}(h0:0<=l)(h1:bytes*l<=140737488355328)(h2:l<4611686018427387904)(h3:size=zero.length)(h4:0<size):
  RU st elem size bytes zero (some (.int k l)) (some (.int k' l))=some (.slice st.n 0 l.toNat (some l.toNat) size,st.alloc (.cells (cW zero l.toNat) elem true)):=by
 unfold RU
 simp only[]
 rw[ax ⟨h0,Int.le_refl _,by simpa using h1,by simpa using h2,h3,by omega⟩]
def RV(n:Nat)(st:St):Option V->Option V->Option (V×St)
 |some (.ptr i o),some v=>match st.row i with
   |some (c,e,true)=>if v.cells.length=n/\o+n<=c.length/\v.cells.all V.one=true then some (.aV [],st.write i (.cells (ae c o v.cells) e true)) else none
   |_=>none
 |_,_=>none
def Zz8{a:Src}{call:cH}{st:St}:ET n a x call r st=RV n st (a.ev r) (x.ev r):=by
 unfold ET RV;rfl
def bD(n:Nat)(st:St)(i o:Nat)(v:V):Option O->Option (V×St)
 |some (.cells c e true)=>if v.cells.length=n/\o+n<=c.length/\v.cells.all V.one=true then some (.aV [],st.write i (.cells (ae c o v.cells) e true)) else none
 |_=>none
def Zzq{st:St}:RV n st (some (.ptr i o)) (some v)=bD n st i o v (st.h.get i):=by
 unfold RV bD St.row
 simp only[]
 rcases st.h.get i with _|x
 ·rfl
 ·cases x with
  |cells c e b=>cases b<;>rfl
  |_=>rfl
def Zmd{w:List Nat}{c:List V}{e:TypeId}(h1:v.cells.length=n)(h2:o+n<=c.length)(h3:v.cells.all V.one=true):
  bD n ⟨h,N,w⟩ i o v (some (.cells c e true))=some (.aV [],⟨h.set i (.cells (ae c o v.cells) e true),N,i::w⟩):=by
 unfold bD
 simp only[]
 rw[ax ⟨h1,h2,h3⟩];rfl
attribute [simp] Zto Yjq Zz8 Zzq Zmd
def bu(n:Nat):Nat:=n%18446744073709551616
def cm(n:Nat):Nat:=n/18446744073709551616
def eA(x y c:Nat):Nat:=(x+18446744073709551616-y-c)%18446744073709551616
def fH(x y c:Nat):Nat:=if x<y+c then 1 else 0
def av(a b:Nat):Nat:=a/2^b
def bL(a b:Nat):Nat:=a*2^b%18446744073709551616
def eP(a:Nat):Nat:=a%4294967296
def jm(a b:Nat):Nat:=a|||b
def Kw(n:Int):IntKind.wrap .u64 n=n%18446744073709551616:=by simp[IntKind.wrap,IntKind.bits,IntKind.signed]
def FK{n:Int}(h1:0<=n)(h2:n<18446744073709551616):bh .u64 n=n:=by rw[AB,Kw];omega
def Kx(n:Int):bh .u64 n=n%18446744073709551616:=by rw[AB,Kw]
def Zzt{b:Int}(h0:0<=b)(h1:b<=64):zC .shr .u64 (a:Int) b=some (.int .u64 (av a b.toNat:Nat)):=by
 unfold zC av
 have e:min b.toNat (IntKind.bits .u64)=b.toNat:=by simp[IntKind.bits];omega
 rw[ak (by omega),e]
 simp only[an,V.int.injEq,true_and]
 rw[Int.fdiv_eq_ediv_of_nonneg _ (by exact_mod_cast uN _)]
 push_cast
 rfl
def Zzu{b:Int}(h0:0<=b)(h1:b<=64):zC .shl .u64 (a:Int) b=some (.int .u64 (bL a b.toNat:Nat)):=by
 unfold zC bL
 have e:min b.toNat (IntKind.bits .u64)=b.toNat:=by simp[IntKind.bits];omega
 rw[ak (by omega),e]
 show some (V.int .u64 (IntKind.wrap .u64 ((a:Int)*2^b.toNat)))=_
 rw[Kw]
 have:(((a*2^b.toNat%18446744073709551616:Nat)):Int)=(a:Int)*2^b.toNat%18446744073709551616:=by
  rw[Int.natCast_emod,JS,Int.natCast_pow];rfl
 rw[this]
def Q8(a:Nat)(h:a<18446744073709551616):(BitVec.ofInt 64 (a:Int)).toNat=a:=by
 simp[BitVec.toNat_ofInt];omega
def Zua(h:a<18446744073709551616):rN .and .u64 (a:Int) 4294967295=some (.int .u64 (eP a:Nat)):=by
 show some (V.int .u64 (IntKind.wrap .u64 (BitVec.ofInt 64 (a:Int)&&& BitVec.ofInt 64 4294967295).toNat))=_
 rw[Kw,BitVec.toNat_and,Q8 a h]
 have e:(BitVec.ofInt 64 4294967295).toNat=2^32-1:=by decide
 rw[e,Nat.and_two_pow_sub_one_eq_mod]
 unfold eP
 simp only[an,V.int.injEq,true_and]
 omega
def Yfj(h:a<18446744073709551616)(h':b<18446744073709551616):rN .or .u64 (a:Int) (b:Int)=some (.int .u64 (jm a b:Nat)):=by
 show some (V.int .u64 (IntKind.wrap .u64 (BitVec.ofInt 64 (a:Int)|||BitVec.ofInt 64 (b:Int)).toNat))=_
 rw[Kw,BitVec.toNat_or,Q8 a h,Q8 b h']
 have:=Nat.or_lt_two_pow (n:=64) h h'
 unfold jm
 simp only[an,V.int.injEq,true_and]
 omega
def cJ(a b:Nat):Nat:=(a+b)%18446744073709551616
def fT(a b:Nat):Nat:=((a:Int)-b).toNat%18446744073709551616+(if a<b then (((a:Int)-b)%18446744073709551616).toNat else 0)
def cN(a b:Nat):Nat:=(a*b)%18446744073709551616
def mD(a b:Nat):Nat:=a/b
def Nj(a b:Nat):Nat:=a%b
def Zzk:bh .u64 ((a:Int)+(b:Int))=(cJ a b:Nat):=by rw[Kx];unfold cJ;omega
def Zp1:bh .u64 ((a:Int)-(b:Int))=(fT a b:Nat):=by
 rw[Kx];unfold fT
 split<;>omega
def Zu5:bh .u64 ((a:Int)-1)=(fT a 1:Nat):=Zp1 (b:=1)
def YF:bh .u64 ((a:Int)*(b:Int))=(cN a b:Nat):=by
 rw[Kx];unfold cN
 rw[<-JS];omega
def Zsv:bh .u64 ((a:Int)*4294967296)=(cN a 4294967296:Nat):=YF (b:=4294967296)
def Zq7:bh .u64 (4294967296*(a:Int))=(cN 4294967296 a:Nat):=YF (a:=4294967296)
def Zzj(h:a<18446744073709551616):bh .u64 ((a:Int).tdiv (b:Int))=(mD a b:Nat):=by
 rw[Kx];unfold mD
 have e:((a:Int).tdiv (b:Int))=((a/b:Nat):Int):=rfl
 have:=vT a b
 rw[e]
 generalize a/b=q at*
 omega
def Ycq:(a:Int).tmod (b:Int)=(Nj a b:Nat):=rfl
def FL(h:b<=a)(ha:a<18446744073709551616):fT a b=a-b:=by unfold fT;split<;>omega
def Yrj:cJ a b<18446744073709551616:=kQ _ (by decide)
def Yo4:cN a b<18446744073709551616:=kQ _ (by decide)
def YG:bL a b<18446744073709551616:=kQ _ (by decide)
def Ycs:fT a b<18446744073709551616:=by unfold fT;split<;>omega
def Zxo(h:a<18446744073709551616):av a b<18446744073709551616:=rK (vT _ _) h
attribute [simp] Yrj Yo4 YG Ycs Zzk Zp1 Zu5 YF Zsv Zq7 Zzj Ycq Zzt Zzu Zua Yfj
def HX(st:St)(e:Ext)(o:Option (List V)):Option (V×St):=match e,o with
  |.same,some [v]=>some (v,st)
  |e,some l=>match CY e l with
   |some v=>some (v,st)
   |none=>none
  |_,none=>none
def Yi9{e:Ext}{args:List Src}{call:cH}{st:St}:Ht e args call r st=HX st e (uX r args):=rfl
def Yfy{st:St}:HX st .same (some [v])=some (v,st):=rfl
def Ybn{st:St}{x y c:Int}(h:c=0\/c=1):HX st .gW (some [.int .u64 x,.int .u64 y,.int .u64 c])=some (.aV [.int .u64 (bu (x.toNat+y.toNat+c.toNat):Nat),.int .u64 (cm (x.toNat+y.toNat+c.toNat):Nat)],st):=by
 simp only[HX,CY,h,not_true_eq_false,if_false]
 rfl
def Ybm{st:St}{x y c:Int}(h:c=0\/c=1):HX st .jy (some [.int .u64 x,.int .u64 y,.int .u64 c])=some (.aV [.int .u64 (eA x.toNat y.toNat c.toNat:Nat),.int .u64 (fH x.toNat y.toNat c.toNat:Nat)],st):=by
 simp only[HX,CY,h,not_true_eq_false,if_false,fH]
 split<;>rfl
def Ye4:bu n<18446744073709551616:=kQ _ (by decide)
def Yn1{c:Nat}:eA a b c<18446744073709551616:=kQ _ (by decide)
attribute [simp] Ye4 Yn1 Yi9 Yfy Ybn Ybm
def mR(st:St)(size:Nat):Option V->Option (Option V)->Option (Option V)->Option (Option V)->Option (V×St)
 |some v,some lo,some hi,some mx=>qp size (.const v) (lo.map .const) (hi.map .const) (mx.map .const) WS .nil st
 |_,_,_,_=>none
def EC{o:Option V}:aB r (o.map .const)=some o:=by cases o<;>rfl
def BH{lo hi mx:Option Src}{call:cH}{st:St}:qp size x lo hi mx call r st=mR st size (x.ev r) (aB r lo) (aB r hi) (aB r mx):=by
 unfold mR qp
 rcases x.ev r with _|v
 ·rfl
 ·rcases aB r lo with _|lo
  ·cases v<;>try rfl
   rename_i c _;cases c<;>rfl
  ·rcases aB r hi with _|hi
   ·cases v<;>try rfl
    rename_i c _;cases c<;>rfl
   ·rcases aB r mx with _|mx
    ·cases v<;>try rfl
     rename_i c _;cases c<;>rfl
    ·simp only[EC];rfl
def Sl(h:T O)(N:Nat)(v:V)(l:List V):Prop:=
 (l=[]/\(v=.aa\/v=.empty))\/∃i o cp c e rw,v=.slice i o l.length cp 1/\i<N/\h.get i=some (.cells c e rw)/\(∀j,j<l.length->c[o+j]?=l[j]?)/\o+l.length<=c.length/\∀k,cp=some k->l.length<=k
def Sl.nil:Sl h N .aa []:=.inl ⟨rfl,.inl rfl⟩
def Sl.row{L:Nat}{l:List V}{e:TypeId}{rw:Bool}{cp:Option Nat}(hi:i<N)(hg:h.get i=some (.cells l e rw))(hL:l.length=L)(hc:∀k,cp=some k->L<=k):Sl h N (.slice i 0 L cp 1) l:=
 .inr ⟨i,0,cp,l,e,rw,by rw[hL],hi,hg,fun j _=>by rw[xP],by omega,fun k hk=>by rw[hL];exact hc k hk⟩
def Sl.ad{h':T O}{N':Nat}{l:List V}(s:Sl h N v l)(k:ab h N h' N'):Sl h' N' v l:=by
 rcases s with s|⟨i,o,cp,c,e,rw,h1,h2,h3,h4⟩
 ·exact .inl s
 ·exact .inr ⟨i,o,cp,c,e,rw,h1,e_ h2 k.le,(k.get i h2).trans h3,h4⟩
def Sl.len{l:List V}(s:Sl h N v l):pA v=some l.length:=by
 rcases s with⟨rfl,rfl|rfl⟩|⟨i,o,cp,c,e,rw,rfl,_⟩<;>rfl
def Sl.at{l:List V}(s:Sl h N v l){j:Nat}{x:V}(hj:l[j]?=some x):∃i o c e rw,xA v=some (i,o)/\i<N/\h.get i=some (.cells c e rw)/\c[o+j]?=some x:=by
 have hl:j<l.length:=by
  apply tW;intro hc;rw[fv hc]at hj;cases hj
 rcases s with⟨rfl,_⟩|⟨i,o,cp,c,e,rw,rfl,h2,h3,h4,_⟩
 ·simp at hl
 ·exact⟨i,o,c,e,rw,rfl,h2,h3,(h4 j hl).trans hj⟩
def val(b:Nat):List Nat->Nat
 |[]=>0
 |d::l=>d+b*val b l
def dg(l:List Nat):List V:=l.map fun n:Nat=>.int .u64 n
def dgi(l:List Nat):List V:=l.map fun n:Nat=>.int .i64 n
def bB(l:List Nat):(dg l).length=l.length:=by simp[dg]
def cC(l:List Nat):(dgi l).length=l.length:=by simp[dgi]
def fz{j:Nat}(h:l[j]?=some n):(dg l)[j]?=some (.int .u64 n):=by simp[dg,h]
attribute [simp] bB cC
def qe{v:Nat}(h:k<l.length):ae (dg l) k [.int .u64 v]=dg (l.set k v):=by
 unfold ae dg
 apply og
 intro j
 simp only[Az,fm,List.getElem?_set]
 rw[tU,List.getElem?_append,gO,gY]
 by_cases h1:j<k
 ·rw[ax (by omega),iI,ax h1,fm,ak (by omega)]
 ·rw[ak (by omega)]
  by_cases h2:j=k
  ·subst h2
   rw[show j-min j l.length=0 by omega,ax rfl,ax h];rfl
  ·rw[show j-min k l.length=(j-k-1)+1 by omega,ak (by omega)]
   simp only[QX,EJ,ff,fm]
   rw[show k+1+(j-k-1)=j by omega]
def HY:cW [.int .u64 0] n=dg (List.replicate n 0):=by
 unfold cW dg
 apply og
 intro j
 simp only[Az,zp,fm,List.getElem?_replicate]
 by_cases h:j<n
 ·simp[h,Nat.mod_one]
 ·simp[h]
def V5{z:V}:cW [z] n=List.replicate n z:=by
 unfold cW
 apply og
 intro j
 simp only[Az,zp,fm,List.getElem?_replicate]
 by_cases h:j<n
 ·simp[h,Nat.mod_one]
 ·simp[h]
def RW(b:Nat):∀(l m:List Nat),val b (l++m)=val b l+b^l.length*val b m
 |[],m=>by simp[val]
 |d::l,m=>by
  simp only[CR,val,RW b l m,bo,gw]
  grind
def RX(b:Nat)(l:List Nat)(d:Nat):val b (l++[d])=val b l+b^l.length*d:=by simp[RW,val]
def Zsx(b n:Nat):val b (List.replicate n 0)=0:=by
 induction n with
 |zero=>rfl
 |succ n ih=>simp[List.replicate_succ,val,ih]
def FM{d:Nat}(h:l[k]?=some d):val b (l.take (k+1))=val b (l.take k)+b^k*d:=by
 have hk:k<l.length:=by
  apply tW;intro hc;rw[fv hc]at h;cases h
 rw[uQ,h]
 simp only[Option.toList]
 rw[RX,gO,qt (by omega)]
def FN{b:Nat}:∀{l:List Nat},(∀d∈l,d<b)->val b l<b^l.length
 |[],_=>by simp[val]
 |d::l,h=>by
  have h1:=h d pR
  have h2:=FN (l:=l) fun e he=>h e (pG _ he)
  simp only[val,bo,gw]
  have:b*(val b l+1)<=b*b^l.length:=kO b h2
  rw[jg (b^l.length) b]
  grind
def B:Nat:=18446744073709551616
def Dg(l:List Nat):Prop:=∀d∈l,d<B
def Dg.get(h:Dg l){j d:Nat}(hj:l[j]?=some d):d<B:=h d (bM hj)
def dz(l:List Nat)(j:Nat):Nat:=l[j]?.getD 0
def Yty{l:List Nat}(h:Dg l)(j:Nat):dz l j<B:=by
 unfold dz
 cases hj:l[j]? with
 |none=>decide
 |some d=>exact h.get hj
def DF{b:Nat}{l:List Nat}{k:Nat}:val b (l.take (k+1))=val b (l.take k)+b^k*dz l k:=by
 unfold dz
 cases h:l[k]? with
 |some d=>exact FM h
 |none=>
  have hk:l.length<=k:=by
   apply zB;intro hc;rw[cF hc]at h;cases h
  rw[fb (by omega),fb hk];simp
def tF:List Nat->List Nat
 |[]=>[]
 |d::l=>match tF l with
  |[]=>if d=0 then [] else [d]
  |t=>d::t
def Zp3:∀(l:List Nat),tF (l++[0])=tF l
 |[]=>rfl
 |d::l=>by simp only[CR,tF,Zp3 l]
def Zp4{d:Nat}(hd:d≠0):∀(l:List Nat),tF (l++[d])=l++[d]
 |[]=>by simp[tF,hd]
 |e::l=>by
  simp only[CR,tF,Zp4 hd l]
  cases l<;>rfl
def jT:List (Nat×Nat)->Nat->Bool
 |[],_=>false
 |(a,b)::D,t=>(Nat.ble a t&&Nat.ble t b)||jT D t
def Yp4{t:Nat}:jT [] t=false:=rfl
def Yj7{D:List (Nat×Nat)}{t:Nat}:jT ((a,b)::D) t=((Nat.ble a t&&Nat.ble t b)||jT D t):=rfl
attribute [simp] Yp4 Yj7
structure Fx (D:List (Nat×Nat)) (r0:T V) (n:Nat) (fr:Fr):Prop where
 dN:∀t,jT D t=false->fr.r.get t=r0.get t
 n:fr.n=n
 marks:fr.marks=[]
def Fx.refl{D:List (Nat×Nat)}:Fx D r n ⟨r,n,[]⟩:=⟨fun _ _=>rfl,rfl,rfl⟩
def Fx.set{D:List (Nat×Nat)}{t:Nat}(ht:jT D t=true):Fx D r0 n ⟨r.set t v,n,[]⟩↔Fx D r0 n ⟨r,n,[]⟩:=by
 constructor
 ·intro h
  refine⟨fun u hu=>?_,rfl,rfl⟩
  have:=h.dN u hu
  simp only[T.ag]at this
  rw[ak]at this
  ·exact this
  ·rintro rfl;rw[ht]at hu;cases hu
 ·intro h
  refine⟨fun u hu=>?_,rfl,rfl⟩
  simp only[T.ag]
  rw[ak]
  ·exact h.dN u hu
  ·rintro rfl;rw[ht]at hu;cases hu
attribute [simp] Fx.set
def YH(D' D:List (Nat×Nat)):Bool:=D'.all fun p=>D.any fun q=>Nat.ble q.1 p.1&&Nat.ble p.2 q.2
def Yfk{D:List (Nat×Nat)}{t:Nat}:jT D t=true↔∃p∈D,p.1<=t/\t<=p.2:=by
 induction D with
 |nil=>simp[jT]
 |cons p D ih=>obtain⟨a,b⟩:=p;simp[jT,ih]
def Ynq{D' D:List (Nat×Nat)}(h:YH D' D=true){t:Nat}(ht:jT D t=false):jT D' t=false:=by
 cases hc:jT D' t with
 |false=>rfl
 |true=>
  obtain⟨p,hp,h1,h2⟩:=Yfk.1 hc
  unfold YH at h
  rw[me]at h
  obtain⟨q,hq,h3⟩:=List.any_eq_true.1 (h p hp)
  simp at h3
  have:jT D t=true:=Yfk.2 ⟨q,hq,by omega,by omega⟩
  rw[ht]at this;cases this
def Fx.inner{D D':List (Nat×Nat)}{r1 r2:T V}(hf:Fx D r0 n ⟨r,n,[]⟩)(hs:YH D' D=true)(h1:Fx D r0 n ⟨r,n,[]⟩->Fx D r0 n ⟨r1,n,[]⟩)(h2:∀t,jT D' t=false->r2.get t=r1.get t):Fx D r0 n ⟨r2,n,[]⟩:=
 ⟨fun t ht=>(h2 t (Ynq hs ht)).trans ((h1 hf).dN t ht),rfl,rfl⟩
def Rd(D:List (Nat×Nat))(r0:T V)(n:Nat)(I:Nat->T V->St->Prop)(k:Nat)(P:Ex->T V->St->Prop):Ex->Fr->St->Prop
 |.normal,fr,st=>Fx D r0 n fr/\∃k',k'<k/\I k' fr.r st
 |e,fr,st=>Fx D r0 n fr/\P e fr.r st
def Zu1{D r0 n I k P r st}:Rd D r0 n I k P .normal ⟨r,n,[]⟩ st↔Fx D r0 n ⟨r,n,[]⟩/\∃k',k'<k/\I k' r st:=Iff.rfl
def Yrp{D r0 n I k P r st i}:Rd D r0 n I k P (.exit i) ⟨r,n,[]⟩ st↔Fx D r0 n ⟨r,n,[]⟩/\P (.exit i) r st:=Iff.rfl
def Yue{D r0 n I k P r st}:Rd D r0 n I k P .ret ⟨r,n,[]⟩ st↔Fx D r0 n ⟨r,n,[]⟩/\P .ret r st:=Iff.rfl
attribute [simp] Zu1 Yrp Yue
def bA{C:Cx}{ro:Option Nat}{c:bN}{K:List Kf}{Q:Rs->Prop}{Mt:St}(D:List (Nat×Nat))(P:Ex->T V->St->Prop)(I:Nat->T V->St->Prop)(k:Nat)(hi:I k r0 Mt)
  (h:∀k r st,(∀t,jT D t=false->r.get t=r0.get t)->Fx D r0 n ⟨r,n,[]⟩->I k r st->Code C ro c ⟨r,n,[]⟩ st (Rd D r0 n I k P))
  (q:∀e r st,(∀t,jT D t=false->r.get t=r0.get t)->P e r st->bz C K (some (.ex e ⟨r,n,[]⟩ st)) Q):bz C K (eK (C.code ro (.loop c) ⟨r0,n,[]⟩ Mt)) Q:=by
 refine Yij (fun e fr st=>Fx D r0 n fr/\P e fr.r st) (fun k fr st=>Fx D r0 n fr/\I k fr.r st) k ⟨Fx.refl,hi⟩ ?_ ?_
 ·rintro k ⟨r,n',m⟩ st ⟨hf,hi⟩
  have h1:n'=n:=hf.n
  have h2:m=[]:=hf.marks
  subst h1;subst h2
  obtain⟨e,bE,aA,h3,h4⟩:=(h k r st hf.dN hf hi).ex
  refine⟨e,bE,aA,h3,?_⟩
  cases e with
  |normal=>obtain⟨a,k',b,c⟩:=h4;exact⟨k',b,a,c⟩
  |exit i=>exact h4
  |ret=>exact h4
 ·rintro e ⟨r,n',m⟩ st ⟨hf,hp⟩
  have h1:n'=n:=hf.n
  have h2:m=[]:=hf.marks
  subst h1;subst h2
  exact q e r st hf.dN hp
def Es{l:List V}{w:List Nat}(s:Sl h N v l){lo hi:Nat}(h1:lo<=hi)(h2:hi<=l.length)(x y:Option V)(hx:x=some (.int .i64 lo)\/x=none/\lo=0)(hy:y=some (.int .i64 hi)\/y=none/\hi=l.length):
  ∃v',mR ⟨h,N,w⟩ 1 (some v) (some x) (some y) (some none)=some (v',⟨h,N,w⟩)/\Sl h N v' ((l.take hi).drop lo):=by
 rcases s with⟨rfl,rfl|rfl⟩|⟨i,o,cp,c,e,rw,rfl,q2,q3,q4,q5,q6⟩
 ·have:hi=0:=by simpa using h2
  subst this
  have:lo=0:=by omega
  subst this
  refine⟨.aa,?_,.inl ⟨rfl,.inl rfl⟩⟩
  rcases hx with rfl|⟨rfl,_⟩<;>rcases hy with rfl|⟨rfl,_⟩<;>simp[mR,qp,aB,dB,kR]
 ·have:hi=0:=by simpa using h2
  subst this
  have:lo=0:=by omega
  subst this
  refine⟨.empty,?_,.inl ⟨rfl,.inr rfl⟩⟩
  rcases hx with rfl|⟨rfl,_⟩<;>rcases hy with rfl|⟨rfl,_⟩<;>simp[mR,qp,aB,dB,kR]
 ·have hlen:((l.take hi).drop lo).length=hi-lo:=by simp;omega
  have cL:∀j,j<hi-lo->c[o+lo+j]?=((l.take hi).drop lo)[j]?:=fun j hj=>by
   rw[ff,iI,ax (by omega),show o+lo+j=o+(lo+j) by omega]
   exact q4 _ (by omega)
  have b1:∀m,hi<=m->dB y m l.length=some hi:=fun m hm=>by
   rcases hy with rfl|⟨rfl,rfl⟩
   ·simp[dB,kR];omega
   ·rfl
  have b2:dB x hi 0=some lo:=by
   rcases hx with rfl|⟨rfl,rfl⟩
   ·simp[dB,kR];omega
   ·rfl
  cases cp with
  |some k=>
   have hk:=q6 k rfl
   refine⟨.slice i (if k=lo then o else o+lo) (hi-lo) (some (k-lo)) 1,?_,?_⟩
   ·have b0:dB none k k=some k:=rfl
    simp only[mR,qp,EC,Src.ev,zp]
    simp[b0,b1 k (by omega),b2]
   ·by_cases zP:k=lo
    ·refine .inr ⟨i,o,some 0,c,e,rw,?_,q2,q3,fun j hj=>by rw[hlen]at hj;omega,by rw[hlen];omega,fun k' gS=>by rw[hlen];omega⟩
     rw[hlen,ax zP,show k-lo=0 by omega]
    ·refine .inr ⟨i,o+lo,some (k-lo),c,e,rw,?_,q2,q3,fun j hj=>cL j (by omega),by rw[hlen];omega,fun k' gS=>by simp at gS;rw[hlen];omega⟩
     rw[hlen,ak zP]
  |none=>
   have hk:hi<=max l.length (c.length-o):=by omega
   by_cases au:lo<max l.length (c.length-o)
   ·refine⟨.slice i (o+lo) (hi-lo) none 1,?_,.inr ⟨i,o+lo,none,c,e,rw,by rw[hlen],q2,q3,fun j hj=>cL j (by omega),by rw[hlen];omega,fun k' gS=>by cases gS⟩⟩
    simp only[mR,qp,EC,Src.ev,St.row,q3,Nat.div_one,zp]
    simp[b1 _ hk,b2,au]
   ·refine⟨.empty,?_,.inl ⟨rm (by rw[hlen];omega),.inr rfl⟩⟩
    simp only[mR,qp,EC,Src.ev,St.row,q3,Nat.div_one,zp]
    simp[b1 _ hk,b2,au]
def YI{m v:Nat}(hk:l.length=k):(l++List.replicate (m+1) 0).set k v=(l++[v])++List.replicate m 0:=by
 subst hk
 rw[List.set_append_right _ _ (aO _)]
 simp[List.replicate_succ]
def aG(n:Nat):List Nat:=if h:n=0 then [] else n%B::aG (n/B)
termination_by n
decreasing_by exact CV (by omega) (by decide)
def rV:aG 0=[]:=by rw[aG];simp
def mZ(h:n≠0):aG n=n%B::aG (n/B):=by rw[aG];simp[h]
def m7:∀(n:Nat),val B (aG n)=n:=by
 intro n
 induction n using Nat.strongRecOn with
 |_ n ih=>
  by_cases h:n=0
  ·subst h;rw[rV];rfl
  ·rw[mZ h]
   simp only[val]
   rw[ih (n/B) (CV (by omega) (by decide))]
   have:=uZ n B
   omega
def rW(n:Nat):Dg (aG n):=by
 induction n using Nat.strongRecOn with
 |_ n ih=>
  by_cases h:n=0
  ·subst h;rw[rV];intro d hd;cases hd
  ·rw[mZ h]
   intro d hd
   rcases ku.1 hd with rfl|hd
   ·exact kQ _ (by decide)
   ·exact ih (n/B) (CV (by omega) (by decide)) d hd
def DG:∀{l:List Nat},Dg l->tF l=aG (val B l)
 |[],_=>by simp[tF,val,rV]
 |d::l,h=>by
  have ih:=DG (l:=l) fun e he=>h e (pG _ he)
  have hd:d<B:=h d pR
  simp only[tF,val,ih]
  by_cases h0:val B l=0
  ·rw[h0,rV]
   simp only[Nat.mul_zero,iX]
   by_cases oO:d=0
   ·simp[oO,rV]
   ·rw[mZ oO,yQ hd,Ax hd,rV];simp[oO]
  ·have hB:0<B:=by decide
   have h1:(d+B*val B l)/B=val B l:=by
    rw[Nat.add_mul_div_left _ _ hB,Ax hd,xP]
   have h2:(d+B*val B l)%B=d:=by
    rw[Nat.add_mul_mod_self_left,yQ hd]
   have h3:d+B*val B l≠0:=by
    intro hc
    have:B*val B l=0:=by omega
    rcases Nat.mul_eq_zero.1 this with h|h
    ·omega
    ·exact h0 h
   rw[mZ h3,h1,h2]
   split
   ·rename_i hc;rw[mZ h0]at hc;cases hc
   ·rfl
def Wn(h:T O)(N:Nat)(v:V)(n:Nat):Prop:=Sl h N v (dg (aG n))
def Wn.ad{h':T O}{N':Nat}(s:Wn h N v n)(k:ab h N h' N'):Wn h' N' v n:=Sl.ad s k
variable {N bytes n o z:Nat} {h:T O} {l:List (List V)} {v:V}
def LB{α:Type}{c:List α}{x:List α}(h:aC c o n=some x):o+n<=c.length/\x=(c.drop o).take n:=by
 unfold aC at h
 split at h
 ·rename_i hl;simp at h;exact⟨hl,h.symm⟩
 ·cases h
def Ynu{α:Type}{c:List α}{x:List α}(h:aC c o n=some x){f:Nat}(hf:f<n):c[o+f]?=x[f]?:=by
 obtain⟨_,rfl⟩:=LB h
 rw[iI,ax hf,ff]
def Ju{c:List V}{x:List V}(h:aC c o n=some x):aR c o (some n)=some (.agg x):=by
 simp[aR,h]
def Sn(z:Nat)(h:T O)(N:Nat)(v:V)(l:List (List V)):Prop:=
 (l=[]/\(v=.aa\/v=.empty))\/∃i o cp c e rw,v=.slice i o l.length cp z/\i<N/\h.get i=some (.cells c e rw)/\(∀j x,l[j]?=some x->aC c (o+j*z) z=some x)/\o+l.length*z<=c.length/\∀k,cp=some k->l.length<=k
def Sn.nil:Sn z h N .aa []:=.inl ⟨rfl,.inl rfl⟩
def Sn.ad{h':T O}{N':Nat}(s:Sn z h N v l)(k:ab h N h' N'):Sn z h' N' v l:=by
 rcases s with s|⟨i,o,cp,c,e,rw,h1,h2,h3,h4⟩
 ·exact .inl s
 ·exact .inr ⟨i,o,cp,c,e,rw,h1,e_ h2 k.le,(k.get i h2).trans h3,h4⟩
def Sn.len(s:Sn z h N v l):pA v=some l.length:=by
 rcases s with⟨rfl,rfl|rfl⟩|⟨i,o,cp,c,e,rw,rfl,_⟩<;>rfl
def Sn.at(s:Sn z h N v l){j:Nat}{x:List V}(hj:l[j]?=some x):∃i o c e rw,xA v=some (i,o)/\i<N/\h.get i=some (.cells c e rw)/\aC c (o+j*z) z=some x:=by
 have hl:j<l.length:=by
  apply tW;intro hc;rw[fv hc]at hj;cases hj
 rcases s with⟨rfl,_⟩|⟨i,o,cp,c,e,rw,rfl,h2,h3,h4,_⟩
 ·simp at hl
 ·exact⟨i,o,c,e,rw,rfl,h2,h3,h4 j x hj⟩
def Zs6(hz:0<z){h:T O}{N:Nat}{v:V}{l:List (List V)}{w:List Nat}(s:Sn z h N v l){lo hi:Nat}(h1:lo<=hi)(h2:hi<=l.length)(x y:Option V)(hx:x=some (.int .i64 lo)\/x=none/\lo=0)(hy:y=some (.int .i64 hi)\/y=none/\hi=l.length):
  ∃v',mR ⟨h,N,w⟩ z (some v) (some x) (some y) (some none)=some (v',⟨h,N,w⟩)/\Sn z h N v' ((l.take hi).drop lo):=by
 rcases s with⟨rfl,rfl|rfl⟩|⟨i,o,cp,c,e,rw,rfl,q2,q3,q4,q5,q6⟩
 ·have:hi=0:=by simpa using h2
  subst this
  have:lo=0:=by omega
  subst this
  refine⟨.aa,?_,.inl ⟨rfl,.inl rfl⟩⟩
  rcases hx with rfl|⟨rfl,_⟩<;>rcases hy with rfl|⟨rfl,_⟩<;>simp[mR,qp,aB,dB,kR]
 ·have:hi=0:=by simpa using h2
  subst this
  have:lo=0:=by omega
  subst this
  refine⟨.empty,?_,.inl ⟨rfl,.inr rfl⟩⟩
  rcases hx with rfl|⟨rfl,_⟩<;>rcases hy with rfl|⟨rfl,_⟩<;>simp[mR,qp,aB,dB,kR]
 ·have hlen:((l.take hi).drop lo).length=hi-lo:=by simp;omega
  have cL:∀j u,((l.take hi).drop lo)[j]?=some u->aC c (o+lo*z+j*z) z=some u:=fun j u hu=>by
   have hj:j<hi-lo:=by
    rw[<-hlen];apply tW;intro hc;rw[fv hc]at hu;cases hu
   rw[ff,iI,ax (by omega)]at hu
   have:=q4 _ _ hu
   rw[show o+lo*z+j*z=o+(lo+j)*z by rw[iY];omega]
   exact this
  have hmul:lo*z+(hi-lo)*z<=l.length*z:=by
   rw[<-iY];exact ki _ (by omega)
  have b1:∀m,hi<=m->dB y m l.length=some hi:=fun m hm=>by
   rcases hy with rfl|⟨rfl,rfl⟩
   ·simp[dB,kR];omega
   ·rfl
  have b2:dB x hi 0=some lo:=by
   rcases hx with rfl|⟨rfl,rfl⟩
   ·simp[dB,kR];omega
   ·rfl
  cases cp with
  |some k=>
   have hk:=q6 k rfl
   refine⟨.slice i (if k=lo then o else o+lo*z) (hi-lo) (some (k-lo)) z,?_,?_⟩
   ·have b0:dB none k k=some k:=rfl
    simp only[mR,qp,EC,Src.ev]
    simp[b0,b1 k (by omega),b2]
   ·by_cases zP:k=lo
    ·have h0:(l.take hi).drop lo=[]:=rm (by rw[hlen];omega)
     refine .inr ⟨i,o,some (k-lo),c,e,rw,?_,q2,q3,fun j u hu=>by rw[h0]at hu;simp at hu,by rw[h0];simp;omega,fun k' gS=>by rw[h0];simp⟩
     rw[hlen,ax zP]
    ·refine .inr ⟨i,o+lo*z,some (k-lo),c,e,rw,?_,q2,q3,cL,by rw[hlen];omega,fun k' gS=>by simp at gS;rw[hlen];omega⟩
     rw[hlen,ak zP]
  |none=>
   have hlz:l.length<=(c.length-o)/z:=by
    rw[JO hz];omega
   have hk:hi<=max l.length ((c.length-o)/z):=by omega
   have tr:z≠0:=by omega
   by_cases au:lo<max l.length ((c.length-o)/z)
   ·refine⟨.slice i (o+lo*z) (hi-lo) none z,?_,.inr ⟨i,o+lo*z,none,c,e,rw,by rw[hlen],q2,q3,cL,by rw[hlen];omega,fun k' gS=>by cases gS⟩⟩
    simp only[mR,qp,EC,Src.ev,St.row,q3]
    simp[b1 _ hk,b2,au,tr]
   ·refine⟨.empty,?_,.inl ⟨rm (by rw[hlen];omega),.inr rfl⟩⟩
    simp only[mR,qp,EC,Src.ev,St.row,q3]
    simp[b1 _ hk,b2,au,tr]
def Sn.one{l:List V}:Sn 1 h N v (l.map fun x=>[x])↔Sl h N v l:=by
 unfold Sn Sl
 constructor
 ·rintro(⟨h1,h2⟩|⟨i,o,cp,c,e,rw,h1,h2,h3,h4,h5,h6⟩)
  ·exact .inl ⟨by simpa using h1,h2⟩
  ·refine .inr ⟨i,o,cp,c,e,rw,by simpa using h1,h2,h3,fun j hj=>?_,by simpa using h5,by simpa using h6⟩
   have:=h4 j [l[j]] (by simp[cF hj])
   have:=Ynu this (f:=0) (by omega)
   simp at this
   rw[this,cF hj]
 ·rintro(⟨h1,h2⟩|⟨i,o,cp,c,e,rw,h1,h2,h3,h4,h5,h6⟩)
  ·exact .inl ⟨by simpa using h1,h2⟩
  ·refine .inr ⟨i,o,cp,c,e,rw,by simpa using h1,h2,h3,fun j x hj=>?_,by simpa using h5,by simpa using h6⟩
   simp at hj
   obtain⟨u,hu,rfl⟩:=hj
   have hl:j<l.length:=by
    apply tW;intro hc;rw[fv hc]at hu;cases hu
   have:=h4 j hl
   rw[hu]at this
   have hc:o+j<c.length:=by omega
   unfold aC
   rw[ax (by omega),zp,GZ hc]
   rw[cF hc]at this
   simp at this
   simp[this]
def Own(z:Nat)(e:TypeId)(N0:Nat)(h:T O)(N:Nat)(v:V)(l:List (List V)):Prop:=
 (∀x∈l,x.length=z)/\((l=[]/\v=.aa)\/∃i,v=.slice i 0 l.length none z/\N0<=i/\i<N/\h.get i=some (.cells l.flatten e true))
def Own.nil{e:TypeId}{N0:Nat}:Own z e N0 h N .aa []:=⟨fun _ h=>by simp at h,.inl ⟨rfl,rfl⟩⟩
def Own.ad{e:TypeId}{N0:Nat}{h':T O}{N':Nat}(s:Own z e N0 h N v l)(k:ab h N h' N'):Own z e N0 h' N' v l:=by
 obtain⟨hl,s|⟨i,h1,h2,h3,h4⟩⟩:=s
 ·exact⟨hl,.inl s⟩
 ·exact⟨hl,.inr ⟨i,h1,h2,e_ h3 k.le,(k.get i h3).trans h4⟩⟩
def Own.len{e:TypeId}{N0:Nat}(s:Own z e N0 h N v l):pA v=some l.length:=by
 obtain⟨_,⟨rfl,rfl⟩|⟨i,rfl,_⟩⟩:=s<;>rfl
def Aj{z:Nat}:∀{l:List (List V)},(∀x∈l,x.length=z)->l.flatten.length=l.length*z
 |[],_=>by simp
 |x::l,h=>by
  have h1:=h x pR
  have h2:=Aj (l:=l) fun y hy=>h y (pG _ hy)
  simp only[List.flatten_cons,iN,h1,h2,bo,iY];omega
def Nk{z:Nat}:∀{l:List (List V)},(∀x∈l,x.length=z)->∀{j:Nat} {x:List V},l[j]?=some x->aC l.flatten (j*z) z=some x
 |[],_,j,x,hj=>by simp at hj
 |y::l,h,0,x,hj=>by
  have h1:=h y pR
  simp at hj;subst hj
  unfold aC
  simp[<-h1]
 |y::l,h,j+1,x,hj=>by
  have h1:=h y pR
  have h2:=Nk (l:=l) (fun y hy=>h y (pG _ hy)) (j:=j) (x:=x) (by simpa using hj)
  obtain⟨h3,h4⟩:=LB h2
  unfold aC
  rw[ax (by simp only[List.flatten_cons,iN,iY,h1];omega),h4]
  congr 2
  rw[List.flatten_cons,iY,Nat.one_mul,Nat.add_comm,<-List.drop_drop,<-h1,List.drop_left]
def Own.sn{e:TypeId}{N0:Nat}(s:Own z e N0 h N v l):Sn z h N v l:=by
 obtain⟨hl,⟨h1,h2⟩|⟨i,h1,h2,h3,h4⟩⟩:=s
 ·exact .inl ⟨h1,.inl h2⟩
 ·exact .inr ⟨i,0,none,l.flatten,e,true,h1,h3,h4,fun j x hj=>by rw[xP];exact Nk hl hj,by rw[Aj hl];omega,fun k hk=>by cases hk⟩
def YJ(st:St)(size bytes:Nat)(e:TypeId):Option V->Option V->Option (V×St)
 |some s,some x=>gX st size bytes e s x
 |_,_=>none
def Zv2{size:Nat}{e:TypeId}{z:List V}{s x:Src}{call:cH}{r:T V}{st:St}:C2 size bytes e z s x call r st=YJ st size bytes e (s.ev r) (x.ev r):=by
 unfold C2 YJ;rfl
def vE{st:St}{size:Nat}{e:TypeId}{s x:V}:YJ st size bytes e (some s) (some x)=gX st size bytes e s x:=rfl
attribute [simp] Zv2 vE
def tJ{e:TypeId}{N0:Nat}{u:V}{x:List V}{w:List Nat}(s:Own z e N0 h N v l)(hN:N0<=N)(hz:0<z)(hx:x.length=z)
  (hu:ef ⟨h,N,w⟩ z u=some (1,x)) (hb:2*(l.length+1)*bytes<=281474976710656):
  ∃v' h' w',gX ⟨h,N,w⟩ z bytes e v u=some (v',⟨h',N+1,w'⟩)/\ar N0 w'=ar N0 w/\ab h N0 h' (N+1)/\(∀j,h'.get j=h.get j\/j=N\/(∃o n c q,v=.slice j o n c q))/\Own z e N0 h' (N+1) v' (l++[x]):=by
 obtain⟨hl,s⟩:=s
 have jf:∀y∈l++[x],y.length=z:=fun y hy=>by
  rcases lI.1 hy with hy|hy
  ·exact hl y hy
  ·simp at hy;rw[hy,hx]
 have tr:z≠0:=by omega
 rcases s with⟨rfl,rfl⟩|⟨i,rfl,h2,h3,h4⟩
 ·refine⟨.slice N 0 1 none z,h.set N (.cells x e true),w,?_,rfl,⟨by omega,fun j hj=>by rw[T.ag,ak (by omega)]⟩,fun j=>by rw[T.ag];by_cases hj:j=N<;>simp[hj],jf,.inr ⟨N,by simp,hN,by omega,by rw[T.ag];simp⟩⟩
  have pC:2*1*bytes<=281474976710656:=by simpa using hb
  simp only[gX,hu,uS,St.alloc]
  simp[pC,tr]
 ·have lJ:=Aj hl
  refine⟨.slice N 0 (l.length+1) none z,(h.set i .dead).set N (.cells (l.flatten++x) e true),i::w,?_,by simp[ar,tK.2 h2],⟨by omega,fun j hj=>by rw[T.ag,ak (by omega),T.ag,ak (by omega)]⟩,fun j=>?_,jf,.inr ⟨N,by simp,hN,by omega,by rw[T.ag];simp⟩⟩
  ·simp only[gX,hu,uS,St.row,h4]
   rw[ak (by omega),ak (by rintro(h|h|h)<;>omega)]
   simp only[if_true]
   rw[ak (by rw[lJ,iY];omega),ax ⟨by rw[lJ];omega,trivial,trivial⟩]
   rfl
  ·by_cases hj:j=N
   ·exact .inr (.inl hj)
   ·by_cases oR:j=i
    ·exact .inr (.inr ⟨0,l.length,none,z,by rw[oR]⟩)
    ·left;rw[T.ag,ak hj,T.ag,ak oR]
abbrev aQ:=List UInt8
def kl(c:UInt8):Bool:=decide (48<=c.toNat/\c.toNat<=57)
def ja:aQ->Bool
 |[]=>false
 |c::s=>(c::s).all kl&&(decide (c.toNat≠48)||decide (s=[]))
def ah:aQ->Nat
 |[]=>0
 |c::s=>if c.toNat=47 then 0 else ah s+1
def aF(s:aQ):Nat:=s.foldl (fun n c=>10*n+(c.toNat-48)) 0
def cy:aQ->Bool
 |[]=>false
 |c::_=>decide (c.toNat=45)
def bk(s:aQ):aQ:=if cy s then s.drop 1 else s
def gH(neg:Bool)(p:aQ)(broken:Bool)(d:aQ):Bool:=ja p&&!(neg&&decide (p=[48]))&&(!broken||(ja d&&decide (d≠[48])&&decide (d≠[49])))
def kp(neg:Bool)(p:aQ)(broken:Bool)(d:aQ):Nat:=
 if gH neg p broken d=false then 1 else if 600<p.length\/600<d.length then 4 else if broken=true/\Nat.gcd (aF p) (aF d)≠1 then 1 else 0
def Kt(neg:Bool)(t:aQ):Nat:=kp neg (t.take (ah t)) (decide (ah t<t.length)) (t.drop (ah t+1))
def bj(s:aQ):Nat:=Kt (cy s) (bk s)
def FF:∀(s:aQ),ah s<=s.length
 |[]=>aO _
 |c::s=>by
  have:=FF s
  simp only[ah,bo]
  split<;>omega
structure xV where
 name:aQ
 op:aQ
 Hx:aQ
 kV:List aQ
 cost:Int
def pos:List xV->aQ->Nat
 |[],_=>0
 |s::g,n=>if s.name=n then 0 else pos g n+1
variable {i:Nat} {j:Int} {k:IntKind} {r:T V} {s:aQ} {x:Src}
def Ysm(s:aQ)(p:Nat):Int:=(Utf8.decode ⟨s.toArray⟩ p).1
def Ysl(s:aQ)(p:Nat):Nat:=(Utf8.decode ⟨s.toArray⟩ p).2
def HZ(i:Nat)(st:St):Option (aQ×Nat)->Option (V×St)
 |some (s,p)=>if p<s.length then some (.aV [.bool true,.int .i64 p,.int .i32 (Utf8.decode ⟨s.toArray⟩ p).1],st.write i (.eD s (p+(Utf8.decode ⟨s.toArray⟩ p).2))) else some (.aV [.bool false],st)
 |none=>none
def RY:Option O->Option (aQ×Nat)
 |some (.eD s p)=>some (s,p)
 |_=>none
def YK(st:St):Option V->Option (V×St)
 |some (.ptr i 0)=>HZ i st (RY (st.h.get i))
 |_=>none
def Ztn{call:cH}{st:St}:Hr x call r st=YK st (x.ev r):=by
 unfold Hr YK
 rcases x.ev r with _|v
 ·rfl
 ·cases v<;>try rfl
  rename_i i o
  cases o with
  |zero=>
   simp only[RY,HZ]
   rcases st.h.get i with _|o
   ·rfl
   ·cases o<;>rfl
  |succ=>rfl
def Yad{st:St}:YK st (some (.ptr i 0))=HZ i st (RY (st.h.get i)):=rfl
def Zvm{p:Nat}:RY (some (.eD s p))=some (s,p):=rfl
def Yef{st:St}{p:Nat}(h:p<s.length):HZ i st (some (s,p))=some (.aV [.bool true,.int .i64 p,.int .i32 (Ysm s p)],st.write i (.eD s (p+Ysl s p))):=by simp[HZ,h,Ysm,Ysl]
def Yae{st:St}:HZ i st (some (s,s.length))=some (.aV [.bool false],st):=by simp[HZ]
def uC(st:St):Option V->Option (Option V)->Option (Option V)->Option (V×St)
 |some (.str s),some lo,some hi=>match dB hi s.length s.length with
   |some h=>match dB lo h 0 with
    |some l=>some (.str ((s.take h).drop l),st)
    |none=>none
   |none=>none
 |_,_,_=>none
def Zrs{lo hi:Option Src}{call:cH}{st:St}:zE x lo hi call r st=uC st (x.ev r) (aB r lo) (aB r hi):=by
 unfold zE uC;rfl
def Ia{st:St}(h0:0<=j)(h1:j<=s.length):uC st (some (.str s)) (some (some (.int k j))) (some none)=some (.str (s.drop j.toNat),st):=by
 simp[uC,dB,kR,h0,h1]
def YL{st:St}(h0:0<=j)(h1:j<=s.length):uC st (some (.str s)) (some none) (some (some (.int k j)))=some (.str (s.take j.toNat),st):=by
 simp[uC,dB,kR,h0,h1]
def Zp8{st:St}{k':IntKind}{i:Int}(h0:0<=i)(h1:i<=j)(h2:j<=s.length):uC st (some (.str s)) (some (some (.int k i))) (some (some (.int k' j)))=some (.str ((s.take j.toNat).drop i.toNat),st):=by
 have h3:0<=j:=by omega
 have h4:max j 0=j:=by omega
 simp[uC,dB,kR,h0,h1,h2,h3,h4]
def Ib(s:aQ):List V:=s.map fun b=>.int .u8 (cK b)
def Ybz(s:aQ):(Ib s).length=s.length:=by simp[Ib]
def Yb0{k:Nat}{c:UInt8}(h:s[k]?=some c):(Ib s)[k]?=some (.int .u8 (cK c)):=by simp[Ib,h]
def YM(elem:TypeId)(st:St):Option V->Option (V×St)
 |some (.str s)=>some (.slice st.n 0 s.length none 1,st.alloc (.cells (Ib s) elem true))
 |_=>none
def Zrr{elem:TypeId}{call:cH}{st:St}:EU elem x call r st=YM elem st (x.ev r):=by
 unfold EU YM;rfl
def Yie{elem:TypeId}{st:St}:YM elem st (some (.str s))=some (.slice st.n 0 s.length none 1,st.alloc (.cells (Ib s) elem true)):=rfl
attribute [simp] Zrr Yie Ybz Ztn Yad Zvm Yef Yae Zrs Ia YL Zp8 Hq
def Zk6:∀(s:aQ) (i:Nat),Hb 47 s i=if ah s<s.length then ((i+ah s:Nat):Int) else -1
 |[],i=>rfl
 |c::s,i=>by
  simp only[Hb,ah]
  have e:(c==47)=decide (c.toNat=47):=by
   rw[Bool.eq_iff_iff]
   simp only[beq_iff_eq,decide_eq_true_eq]
   exact⟨fun h=>by rw[h];rfl,fun h=>UInt8.toNat_inj.1 h⟩
  rw[e]
  by_cases h:c.toNat=47
  ·simp[h]
  ·simp only[h,decide_false,if_false,fL,Zk6 s (i+1),bo]
   by_cases h2:ah s<s.length
   ·rw[ax h2,ax (by omega)];omega
   ·rw[ak h2,ak (by omega)]
end Go.Mx
