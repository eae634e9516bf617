/-Slices of which only the elements are kn-/
import Derived.Test.YteoackkadadmdaaGreatDoorMxLim
set_option linter.all false
namespace Go.Mx
open Go
variable {N a b i k n o size:Nat} {h:T O} {j:Int} {l:List Nat} {r r0:T V} {v:V} {x:Src}
def oD:V->Option Nat
 |.aa=>some 0
 |.empty=>some 0
 |.slice _ _ n _ _=>some n
 |_=>none
def wB:V->Option (Nat×Nat)
 |.slice i o _ _ _=>some (i,o)
 |_=>none
def VL(st:St):Option Nat->Option (V×St)
 |some n=>some (.int .i64 n,st)
 |none=>none
def VM(st:St):Option V->Option (V×St)
 |some v=>VL st (oD v)
 |none=>none
def Yhk{call:cG}{st:St}:xL 1 x call r st=VM st (x.ev r):=by
 unfold xL VM
 rcases x.ev r with _|v
 ·rfl
 ·cases v<;>rfl
def Ydq{st:St}:VM st (some v)=VL st (oD v):=rfl
def Zzo{st:St}:VL st (some n)=some (.int .i64 n,st):=rfl
def Px(st:St)(size k:Nat):Option (Nat×Nat)->Option (V×St)
 |some (i,o)=>some (.ptr i (o+k*size),st)
 |none=>none
def Lw(st:St)(size:Nat)(v:V)(k:Int):Option Nat->Option (V×St)
 |some n=>if 0<=k/\k<(n:Int) then Px st size k.toNat (wB v) else none
 |none=>none
def VN(st:St)(size:Nat):Option V->Option V->Option (V×St)
 |some v,some (.int _ k)=>Lw st size v k (oD v)
 |_,_=>none
def Zsk{i:Src}{call:cG}{st:St}:DH size x i call r st=VN st size (x.ev r) (i.ev r):=by
 unfold DH VN
 rcases x.ev r with _|v
 ·rfl
 ·rcases i.ev r with _|u
  ·cases v<;>rfl
  ·cases u<;>cases v<;>simp[Lw,Px,oD,wB]<;>omega
def Yas{st:St}{k:IntKind}:VN st size (some v) (some (.int k j))=Lw st size v j (oD v):=rfl
def Yfo{st:St}(h0:0<=j)(h1:j<(n:Int)):Lw st size v j (some n)=Px st size j.toNat (wB v):=by simp[Lw,h0,h1]
def Zvz{st:St}:Px st size k (some (i,o))=some (.ptr i (o+k*size),st):=rfl
def Yvp(a b:Int):(a==b)=decide (a=b):=by
 by_cases h:a=b<;>simp[h]
def Yvo(a b:Int):(a !=b)=!decide (a=b):=by
 by_cases h:a=b<;>simp[h]
def Ygg(a b:Nat):((a:Int)+(b:Int)).toNat=a+b:=by omega
def Ygf(a b:Nat):((a:Int)-(b:Int)).toNat=a-b:=by omega
def Yt0(a b n:Nat):((a:Int)+(b:Int)<(n:Int))↔a+b<n:=by omega
def Zx8(b:Nat):((64:Int)-(b:Int)).toNat=64-b:=by omega
attribute [simp] Zx8 Yvp Yvo Int.natCast_inj Ygg Ygf Yt0
def VO(st:St):Option V->Option (V×St)
 |some (.str s)=>some (.int .i64 s.length,st)
 |_=>none
def Yhl{call:cG}{st:St}:xL 0 x call r st=VO st (x.ev r):=by
 unfold xL VO
 rcases x.ev r with _|v
 ·rfl
 ·cases v<;>rfl
def Ydp{st:St}{s:List UInt8}:VO st (some (.str s))=some (.int .i64 s.length,st):=rfl
def Zzm{i o n c z}:oD (.slice i o n c z)=some n:=rfl
def Yie:oD .aa=some 0:=rfl
def Zzn:oD .empty=some 0:=rfl
def Zvx{i o n c z}:wB (.slice i o n c z)=some (i,o):=rfl
attribute [simp] Yhk Yhl Ydp Zzm Yie Zzn Zvx Ydq Zzo Zsk Yas Yfo Zvz
def cK(b:UInt8):Int:=b.toNat
def Ya9(b:UInt8):0<=cK b/\cK b<256:=by unfold cK;have:=b.toNat_lt;omega
def Py(st:St):Option UInt8->Option (V×St)
 |some b=>some (.int .u8 b.toNat,st)
 |none=>none
def Pz(st:St):Option V->Option V->Option (V×St)
 |some (.str s),some (.int _ k)=>if 0<=k then Py st s[k.toNat]? else none
 |_,_=>none
def Zuu{i:Src}{call:cG}{st:St}:DI x i call r st=Pz st (x.ev r) (i.ev r):=by
 unfold DI Pz Py
 rcases x.ev r with _|v
 ·rfl
 ·rcases i.ev r with _|u
  ·cases v<;>rfl
  ·cases u<;>cases v<;>rfl
def Yd4{st:St}{s:List UInt8}{k:IntKind}(h:0<=j):Pz st (some (.str s)) (some (.int k j))=Py st s[j.toNat]?:=by simp[Pz,h]
def Zz4{st:St}{b:UInt8}:Py st (some b)=some (.int .u8 (cK b),st):=rfl
attribute [simp] Zuu Yd4 Zz4
def PA(st:St)(elem:TypeId)(size bytes:Nat)(zero:List V):Option V->Option V->Option (V×St)
 |some (.int _ l),some (.int _ c)=>if 0<=l/\l<=c/\bytes*c<=2^47/\c<2^62/\size=zero.length/\size≠0 then
    some (.slice st.n 0 l.toNat (some c.toNat) size,st.alloc (.cells (dr zero c.toNat) elem true)) else none
 |_,_=>none
def Zsi{elem:TypeId}{bytes:Nat}{zero:List V}{y:Src}{call:cG}{st:St}:BW elem size bytes zero x y call r st=PA st elem size bytes zero (x.ev r) (y.ev r):=by
 unfold BW PA;rfl
def Yh4{st:St}{elem:TypeId}{bytes:Nat}{zero:List V}{k k':IntKind}{l:Int}(h0:0<=l)(h1:bytes*l<=140737488355328)(h2:l<4611686018427387904)(h3:size=zero.length)(h4:0<size):
  PA st elem size bytes zero (some (.int k l)) (some (.int k' l))=some (.slice st.n 0 l.toNat (some l.toNat) size,st.alloc (.cells (dr zero l.toNat) elem true)):=by
 unfold PA
 simp only[]
 rw[aF ⟨h0,Int.le_refl _,by simpa using h1,by simpa using h2,h3,by omega⟩]
def PB(n:Nat)(st:St):Option V->Option V->Option (V×St)
 |some (.ptr i o),some v=>match st.row i with
   |some (c,e,true)=>if v.cells.length=n/\o+n<=c.length/\v.cells.all V.one=true then some (.bg [],st.write i (.cells (ad c o v.cells) e true)) else none
   |_=>none
 |_,_=>none
def Zyv{a:Src}{call:cG}{st:St}:DE n a x call r st=PB n st (a.ev r) (x.ev r):=by
 unfold DE PB;rfl
def bO(n:Nat)(st:St)(i o:Nat)(v:V):Option O->Option (V×St)
 |some (.cells c e true)=>if v.cells.length=n/\o+n<=c.length/\v.cells.all V.one=true then some (.bg [],st.write i (.cells (ad c o v.cells) e true)) else none
 |_=>none
def Zyc{st:St}:PB n st (some (.ptr i o)) (some v)=bO n st i o v (st.h.get i):=by
 unfold PB bO St.row
 simp only[]
 rcases st.h.get i with _|x
 ·rfl
 ·cases x with
  |cells c e b=>cases b<;>rfl
  |_=>rfl
def Zls{w:List Nat}{c:List V}{e:TypeId}(h1:v.cells.length=n)(h2:o+n<=c.length)(h3:v.cells.all V.one=true):
  bO n ⟨h,N,w⟩ i o v (some (.cells c e true))=some (.bg [],⟨h.set i (.cells (ad c o v.cells) e true),N,i::w⟩):=by
 unfold bO
 simp only[]
 rw[aF ⟨h1,h2,h3⟩];rfl
attribute [simp] Zsi Yh4 Zyv Zyc Zls
def bG(n:Nat):Nat:=n%18446744073709551616
def cn(n:Nat):Nat:=n/18446744073709551616
def er(x y c:Nat):Nat:=(x+18446744073709551616-y-c)%18446744073709551616
def fA(x y c:Nat):Nat:=if x<y+c then 1 else 0
def au(a b:Nat):Nat:=a/2^b
def bU(a b:Nat):Nat:=a*2^b%18446744073709551616
def eL(a:Nat):Nat:=a%4294967296
def ja(a b:Nat):Nat:=a|||b
def I7(n:Int):IntKind.wrap .u64 n=n%18446744073709551616:=by simp[IntKind.wrap,IntKind.bits,IntKind.signed]
def Ej{n:Int}(h1:0<=n)(h2:n<18446744073709551616):bu .u64 n=n:=by rw[zq,I7];omega
def I8(n:Int):bu .u64 n=n%18446744073709551616:=by rw[zq,I7]
def Zyg{b:Int}(h0:0<=b)(h1:b<=64):yq .shr .u64 (a:Int) b=some (.int .u64 (au a b.toNat:Nat)):=by
 unfold yq au
 have e:min b.toNat (IntKind.bits .u64)=b.toNat:=by simp[IntKind.bits];omega
 rw[ar (by omega),e]
 simp only[al,V.int.injEq,true_and]
 rw[Int.fdiv_eq_ediv_of_nonneg _ (by exact_mod_cast tH _)]
 push_cast
 rfl
def Zyh{b:Int}(h0:0<=b)(h1:b<=64):yq .shl .u64 (a:Int) b=some (.int .u64 (bU a b.toNat:Nat)):=by
 unfold yq bU
 have e:min b.toNat (IntKind.bits .u64)=b.toNat:=by simp[IntKind.bits];omega
 rw[ar (by omega),e]
 show some (V.int .u64 (IntKind.wrap .u64 ((a:Int)*2^b.toNat)))=_
 rw[I7]
 have:(((a*2^b.toNat%18446744073709551616:Nat)):Int)=(a:Int)*2^b.toNat%18446744073709551616:=by
  rw[Int.natCast_emod,Ir,Int.natCast_pow];rfl
 rw[this]
def OH(a:Nat)(h:a<18446744073709551616):(BitVec.ofInt 64 (a:Int)).toNat=a:=by
 simp[BitVec.toNat_ofInt];omega
def Zs4(h:a<18446744073709551616):qx .and .u64 (a:Int) 4294967295=some (.int .u64 (eL a:Nat)):=by
 show some (V.int .u64 (IntKind.wrap .u64 (BitVec.ofInt 64 (a:Int)&&& BitVec.ofInt 64 4294967295).toNat))=_
 rw[I7,BitVec.toNat_and,OH a h]
 have e:(BitVec.ofInt 64 4294967295).toNat=2^32-1:=by decide
 rw[e,Nat.and_two_pow_sub_one_eq_mod]
 unfold eL
 simp only[al,V.int.injEq,true_and]
 omega
def Yd1(h:a<18446744073709551616)(h':b<18446744073709551616):qx .or .u64 (a:Int) (b:Int)=some (.int .u64 (ja a b:Nat)):=by
 show some (V.int .u64 (IntKind.wrap .u64 (BitVec.ofInt 64 (a:Int)|||BitVec.ofInt 64 (b:Int)).toNat))=_
 rw[I7,BitVec.toNat_or,OH a h,OH b h']
 have:=Nat.or_lt_two_pow (n:=64) h h'
 unfold ja
 simp only[al,V.int.injEq,true_and]
 omega
def cJ(a b:Nat):Nat:=(a+b)%18446744073709551616
def fM(a b:Nat):Nat:=((a:Int)-b).toNat%18446744073709551616+(if a<b then (((a:Int)-b)%18446744073709551616).toNat else 0)
def cN(a b:Nat):Nat:=(a*b)%18446744073709551616
def l8(a b:Nat):Nat:=a/b
def Lx(a b:Nat):Nat:=a%b
def Zx6:bu .u64 ((a:Int)+(b:Int))=(cJ a b:Nat):=by rw[I8];unfold cJ;omega
def Zpa:bu .u64 ((a:Int)-(b:Int))=(fM a b:Nat):=by
 rw[I8];unfold fM
 split<;>omega
def Zt0:bu .u64 ((a:Int)-1)=(fM a 1:Nat):=Zpa (b:=1)
def VP:bu .u64 ((a:Int)*(b:Int))=(cN a b:Nat):=by
 rw[I8];unfold cN
 rw[<-Ir];omega
def Zrt:bu .u64 ((a:Int)*4294967296)=(cN a 4294967296:Nat):=VP (b:=4294967296)
def Zqg:bu .u64 (4294967296*(a:Int))=(cN 4294967296 a:Nat):=VP (a:=4294967296)
def Zx5(h:a<18446744073709551616):bu .u64 ((a:Int).tdiv (b:Int))=(l8 a b:Nat):=by
 rw[I8];unfold l8
 have e:((a:Int).tdiv (b:Int))=((a/b:Nat):Int):=rfl
 have:=uH a b
 rw[e]
 generalize a/b=q at*
 omega
def Ybd:(a:Int).tmod (b:Int)=(Lx a b:Nat):=rfl
def Ek(h:b<=a)(ha:a<18446744073709551616):fM a b=a-b:=by unfold fM;split<;>omega
def Ypc:cJ a b<18446744073709551616:=kh _ (by decide)
def Ym1:cN a b<18446744073709551616:=kh _ (by decide)
def VQ:bU a b<18446744073709551616:=kh _ (by decide)
def Ybe:fM a b<18446744073709551616:=by unfold fM;split<;>omega
def Zwb(h:a<18446744073709551616):au a b<18446744073709551616:=rW (uH _ _) h
attribute [simp] Ypc Ym1 VQ Ybe Zx6 Zpa Zt0 VP Zrt Zqg Zx5 Ybd Zyg Zyh Zs4 Yd1
def GD(st:St)(e:Ext)(o:Option (List V)):Option (V×St):=match e,o with
  |.same,some [v]=>some (v,st)
  |e,some l=>match BU e l with
   |some v=>some (v,st)
   |none=>none
  |_,none=>none
def Yhm{e:Ext}{args:List Src}{call:cG}{st:St}:Ga e args call r st=GD st e (tN r args):=rfl
def Yeh{st:St}:GD st .same (some [v])=some (v,st):=rfl
def Yaa{st:St}{x y c:Int}(h:c=0\/c=1):GD st .eW (some [.int .u64 x,.int .u64 y,.int .u64 c])=some (.bg [.int .u64 (bG (x.toNat+y.toNat+c.toNat):Nat),.int .u64 (cn (x.toNat+y.toNat+c.toNat):Nat)],st):=by
 simp only[GD,BU,h,not_true_eq_false,if_false]
 rfl
def Zz9{st:St}{x y c:Int}(h:c=0\/c=1):GD st .iH (some [.int .u64 x,.int .u64 y,.int .u64 c])=some (.bg [.int .u64 (er x.toNat y.toNat c.toNat:Nat),.int .u64 (fA x.toNat y.toNat c.toNat:Nat)],st):=by
 simp only[GD,BU,h,not_true_eq_false,if_false,fA]
 split<;>rfl
def Ydk:bG n<18446744073709551616:=kh _ (by decide)
def Yl4{c:Nat}:er a b c<18446744073709551616:=kh _ (by decide)
attribute [simp] Ydk Yl4 Yhm Yeh Yaa Zz9
def mB(st:St)(size:Nat):Option V->Option (Option V)->Option (Option V)->Option (Option V)->Option (V×St)
 |some v,some lo,some hi,some mx=>pC size (.const v) (lo.map .const) (hi.map .const) (mx.map .const) T8 .nil st
 |_,_,_,_=>none
def El{o:Option V}:aC r (o.map .const)=some o:=by cases o<;>rfl
def AG{lo hi mx:Option Src}{call:cG}{st:St}:pC size x lo hi mx call r st=mB st size (x.ev r) (aC r lo) (aC r hi) (aC r mx):=by
 unfold mB pC
 rcases x.ev r with _|v
 ·rfl
 ·rcases aC r lo with _|lo
  ·cases v<;>try rfl
   rename_i c _;cases c<;>rfl
  ·rcases aC r hi with _|hi
   ·cases v<;>try rfl
    rename_i c _;cases c<;>rfl
   ·rcases aC r mx with _|mx
    ·cases v<;>try rfl
     rename_i c _;cases c<;>rfl
    ·simp only[El];rfl
def Sl(h:T O)(N:Nat)(v:V)(l:List V):Prop:=
 (l=[]/\(v=.aa\/v=.empty))\/∃i o cp c e rw,v=.slice i o l.length cp 1/\i<N/\h.get i=some (.cells c e rw)/\(∀j,j<l.length->c[o+j]?=l[j]?)/\o+l.length<=c.length/\∀k,cp=some k->l.length<=k
def Sl.nil:Sl h N .aa []:=.inl ⟨rfl,.inl rfl⟩
def Sl.row{L:Nat}{l:List V}{e:TypeId}{rw:Bool}{cp:Option Nat}(hi:i<N)(hg:h.get i=some (.cells l e rw))(hL:l.length=L)(hc:∀k,cp=some k->L<=k):Sl h N (.slice i 0 L cp 1) l:=
 .inr ⟨i,0,cp,l,e,rw,by rw[hL],hi,hg,fun j _=>by rw[xJ],by omega,fun k hk=>by rw[hL];exact hc k hk⟩
def Sl.ae{h':T O}{N':Nat}{l:List V}(s:Sl h N v l)(k:ab h N h' N'):Sl h' N' v l:=by
 rcases s with s|⟨i,o,cp,c,e,rw,h1,h2,h3,h4⟩
 ·exact .inl s
 ·exact .inr ⟨i,o,cp,c,e,rw,h1,fE h2 k.le,(k.get i h2).trans h3,h4⟩
def Sl.len{l:List V}(s:Sl h N v l):oD v=some l.length:=by
 rcases s with⟨rfl,rfl|rfl⟩|⟨i,o,cp,c,e,rw,rfl,_⟩<;>rfl
def Sl.at{l:List V}(s:Sl h N v l){j:Nat}{x:V}(hj:l[j]?=some x):∃i o c e rw,wB v=some (i,o)/\i<N/\h.get i=some (.cells c e rw)/\c[o+j]?=some x:=by
 have hl:j<l.length:=by
  apply sM;intro hc;rw[fC hc]at hj;cases hj
 rcases s with⟨rfl,_⟩|⟨i,o,cp,c,e,rw,rfl,h2,h3,h4,_⟩
 ·simp at hl
 ·exact⟨i,o,c,e,rw,rfl,h2,h3,(h4 j hl).trans hj⟩
def val(b:Nat):List Nat->Nat
 |[]=>0
 |d::l=>d+b*val b l
def dg(l:List Nat):List V:=l.map fun n:Nat=>.int .u64 n
def dgi(l:List Nat):List V:=l.map fun n:Nat=>.int .i64 n
def bI(l:List Nat):(dg l).length=l.length:=by simp[dg]
def cC(l:List Nat):(dgi l).length=l.length:=by simp[dgi]
def fv{j:Nat}(h:l[j]?=some n):(dg l)[j]?=some (.int .u64 n):=by simp[dg,h]
attribute [simp] bI cC
def pR{v:Nat}(h:k<l.length):ad (dg l) k [.int .u64 v]=dg (l.set k v):=by
 unfold ad dg
 apply nD
 intro j
 simp only[zk,gG,List.getElem?_set]
 rw[tL,List.getElem?_append,gm,jP]
 by_cases h1:j<k
 ·rw[aF (by omega),iy,aF h1,gG,ar (by omega)]
 ·rw[ar (by omega)]
  by_cases h2:j=k
  ·subst h2
   rw[show j-min j l.length=0 by omega,aF rfl,aF h];rfl
  ·rw[show j-min k l.length=(j-k-1)+1 by omega,ar (by omega)]
   simp only[Ox,Dq,fh,gG]
   rw[show k+1+(j-k-1)=j by omega]
def GF:dr [.int .u64 0] n=dg (List.replicate n 0):=by
 unfold dr dg
 apply nD
 intro j
 simp only[zk,yc,gG,List.getElem?_replicate]
 by_cases h:j<n
 ·simp[h,Nat.mod_one]
 ·simp[h]
def TK{z:V}:dr [z] n=List.replicate n z:=by
 unfold dr
 apply nD
 intro j
 simp only[zk,yc,gG,List.getElem?_replicate]
 by_cases h:j<n
 ·simp[h,Nat.mod_one]
 ·simp[h]
def PC(b:Nat):∀(l m:List Nat),val b (l++m)=val b l+b^l.length*val b m
 |[],m=>by simp[val]
 |d::l,m=>by
  simp only[BP,val,PC b l m,bD,gE]
  grind
def PD(b:Nat)(l:List Nat)(d:Nat):val b (l++[d])=val b l+b^l.length*d:=by simp[PC,val]
def Zrv(b n:Nat):val b (List.replicate n 0)=0:=by
 induction n with
 |zero=>rfl
 |succ n ih=>simp[List.replicate_succ,val,ih]
def Em{d:Nat}(h:l[k]?=some d):val b (l.take (k+1))=val b (l.take k)+b^k*d:=by
 have hk:k<l.length:=by
  apply sM;intro hc;rw[fC hc]at h;cases h
 rw[tE,h]
 simp only[Option.toList]
 rw[PD,gm,py (by omega)]
def En{b:Nat}:∀{l:List Nat},(∀d∈l,d<b)->val b l<b^l.length
 |[],_=>by simp[val]
 |d::l,h=>by
  have h1:=h d pn
  have h2:=En (l:=l) fun e he=>h e (o9 _ he)
  simp only[val,bD,gE]
  have:b*(val b l+1)<=b*b^l.length:=kg b h2
  rw[iX (b^l.length) b]
  grind
def B:Nat:=18446744073709551616
def Dg(l:List Nat):Prop:=∀d∈l,d<B
def Dg.get(h:Dg l){j d:Nat}(hj:l[j]?=some d):d<B:=h d (cm hj)
def dz(l:List Nat)(j:Nat):Nat:=l[j]?.getD 0
def Yrl{l:List Nat}(h:Dg l)(j:Nat):dz l j<B:=by
 unfold dz
 cases hj:l[j]? with
 |none=>decide
 |some d=>exact h.get hj
def Cz{b:Nat}{l:List Nat}{k:Nat}:val b (l.take (k+1))=val b (l.take k)+b^k*dz l k:=by
 unfold dz
 cases h:l[k]? with
 |some d=>exact Em h
 |none=>
  have hk:l.length<=k:=by
   apply yp;intro hc;rw[cZ hc]at h;cases h
  rw[eZ (by omega),eZ hk];simp
def se:List Nat->List Nat
 |[]=>[]
 |d::l=>match se l with
  |[]=>if d=0 then [] else [d]
  |t=>d::t
def Zpc:∀(l:List Nat),se (l++[0])=se l
 |[]=>rfl
 |d::l=>by simp only[BP,se,Zpc l]
def Zpd{d:Nat}(hd:d≠0):∀(l:List Nat),se (l++[d])=l++[d]
 |[]=>by simp[se,hd]
 |e::l=>by
  simp only[BP,se,Zpd hd l]
  cases l<;>rfl
def jD:List (Nat×Nat)->Nat->Bool
 |[],_=>false
 |(a,b)::D,t=>(Nat.ble a t&&Nat.ble t b)||jD D t
def Yny{t:Nat}:jD [] t=false:=rfl
def Yik{D:List (Nat×Nat)}{t:Nat}:jD ((a,b)::D) t=((Nat.ble a t&&Nat.ble t b)||jD D t):=rfl
attribute [simp] Yny Yik
structure Fx (D:List (Nat×Nat)) (r0:T V) (n:Nat) (fr:Fr):Prop where
 aR:∀t,jD D t=false->fr.r.get t=r0.get t
 n:fr.n=n
 marks:fr.marks=[]
def Fx.refl{D:List (Nat×Nat)}:Fx D r n ⟨r,n,[]⟩:=⟨fun _ _=>rfl,rfl,rfl⟩
def Fx.set{D:List (Nat×Nat)}{t:Nat}(ht:jD D t=true):Fx D r0 n ⟨r.set t v,n,[]⟩↔Fx D r0 n ⟨r,n,[]⟩:=by
 constructor
 ·intro h
  refine⟨fun u hu=>?_,rfl,rfl⟩
  have:=h.aR u hu
  simp only[T.ag]at this
  rw[ar]at this
  ·exact this
  ·rintro rfl;rw[ht]at hu;cases hu
 ·intro h
  refine⟨fun u hu=>?_,rfl,rfl⟩
  simp only[T.ag]
  rw[ar]
  ·exact h.aR u hu
  ·rintro rfl;rw[ht]at hu;cases hu
attribute [simp] Fx.set
def VS(D' D:List (Nat×Nat)):Bool:=D'.all fun p=>D.any fun q=>Nat.ble q.1 p.1&&Nat.ble p.2 q.2
def Yd2{D:List (Nat×Nat)}{t:Nat}:jD D t=true↔∃p∈D,p.1<=t/\t<=p.2:=by
 induction D with
 |nil=>simp[jD]
 |cons p D ih=>obtain⟨a,b⟩:=p;simp[jD,ih]
def Ylu{D' D:List (Nat×Nat)}(h:VS D' D=true){t:Nat}(ht:jD D t=false):jD D' t=false:=by
 cases hc:jD D' t with
 |false=>rfl
 |true=>
  obtain⟨p,hp,h1,h2⟩:=Yd2.1 hc
  unfold VS at h
  rw[lA]at h
  obtain⟨q,hq,h3⟩:=List.any_eq_true.1 (h p hp)
  simp at h3
  have:jD D t=true:=Yd2.2 ⟨q,hq,by omega,by omega⟩
  rw[ht]at this;cases this
def Fx.inner{D D':List (Nat×Nat)}{r1 r2:T V}(hf:Fx D r0 n ⟨r,n,[]⟩)(hs:VS D' D=true)(h1:Fx D r0 n ⟨r,n,[]⟩->Fx D r0 n ⟨r1,n,[]⟩)(h2:∀t,jD D' t=false->r2.get t=r1.get t):Fx D r0 n ⟨r2,n,[]⟩:=
 ⟨fun t ht=>(h2 t (Ylu hs ht)).trans ((h1 hf).aR t ht),rfl,rfl⟩
def Rd(D:List (Nat×Nat))(r0:T V)(n:Nat)(I:Nat->T V->St->Prop)(k:Nat)(P:Ex->T V->St->Prop):Ex->Fr->St->Prop
 |.normal,fr,st=>Fx D r0 n fr/\∃k',k'<k/\I k' fr.r st
 |e,fr,st=>Fx D r0 n fr/\P e fr.r st
def Ztx{D r0 n I k P r st}:Rd D r0 n I k P .normal ⟨r,n,[]⟩ st↔Fx D r0 n ⟨r,n,[]⟩/\∃k',k'<k/\I k' r st:=Iff.rfl
def Ypi{D r0 n I k P r st i}:Rd D r0 n I k P (.exit i) ⟨r,n,[]⟩ st↔Fx D r0 n ⟨r,n,[]⟩/\P (.exit i) r st:=Iff.rfl
def Yr5{D r0 n I k P r st}:Rd D r0 n I k P .ret ⟨r,n,[]⟩ st↔Fx D r0 n ⟨r,n,[]⟩/\P .ret r st:=Iff.rfl
attribute [simp] Ztx Ypi Yr5
def bP{C:Cx}{ro:Option Nat}{c:av}{K:List Kf}{Q:Rs->Prop}{KK:St}(D:List (Nat×Nat))(P:Ex->T V->St->Prop)(I:Nat->T V->St->Prop)(k:Nat)(hi:I k r0 KK)
  (h:∀k r st,(∀t,jD D t=false->r.get t=r0.get t)->Fx D r0 n ⟨r,n,[]⟩->I k r st->Code C ro c ⟨r,n,[]⟩ st (Rd D r0 n I k P))
  (q:∀e r st,(∀t,jD D t=false->r.get t=r0.get t)->P e r st->bH C K (some (.ex e ⟨r,n,[]⟩ st)) Q):bH C K (eH (C.code ro (.loop c) ⟨r0,n,[]⟩ KK)) Q:=by
 refine Ygx (fun e fr st=>Fx D r0 n fr/\P e fr.r st) (fun k fr st=>Fx D r0 n fr/\I k fr.r st) k ⟨Fx.refl,hi⟩ ?_ ?_
 ·rintro k ⟨r,n',m⟩ st ⟨hf,hi⟩
  have h1:n'=n:=hf.n
  have h2:m=[]:=hf.marks
  subst h1;subst h2
  obtain⟨e,bL,aB,h3,h4⟩:=(h k r st hf.aR hf hi).ex
  refine⟨e,bL,aB,h3,?_⟩
  cases e with
  |normal=>obtain⟨a,k',b,c⟩:=h4;exact⟨k',b,a,c⟩
  |exit i=>exact h4
  |ret=>exact h4
 ·rintro e ⟨r,n',m⟩ st ⟨hf,hp⟩
  have h1:n'=n:=hf.n
  have h2:m=[]:=hf.marks
  subst h1;subst h2
  exact q e r st hf.aR hp
def Dj{l:List V}{w:List Nat}(s:Sl h N v l){lo hi:Nat}(h1:lo<=hi)(h2:hi<=l.length)(x y:Option V)(hx:x=some (.int .i64 lo)\/x=none/\lo=0)(hy:y=some (.int .i64 hi)\/y=none/\hi=l.length):
  ∃v',mB ⟨h,N,w⟩ 1 (some v) (some x) (some y) (some none)=some (v',⟨h,N,w⟩)/\Sl h N v' ((l.take hi).drop lo):=by
 rcases s with⟨rfl,rfl|rfl⟩|⟨i,o,cp,c,e,rw,rfl,q2,q3,q4,q5,q6⟩
 ·have:hi=0:=by simpa using h2
  subst this
  have:lo=0:=by omega
  subst this
  refine⟨.aa,?_,.inl ⟨rfl,.inl rfl⟩⟩
  rcases hx with rfl|⟨rfl,_⟩<;>rcases hy with rfl|⟨rfl,_⟩<;>simp[mB,pC,aC,dB,ki]
 ·have:hi=0:=by simpa using h2
  subst this
  have:lo=0:=by omega
  subst this
  refine⟨.empty,?_,.inl ⟨rfl,.inr rfl⟩⟩
  rcases hx with rfl|⟨rfl,_⟩<;>rcases hy with rfl|⟨rfl,_⟩<;>simp[mB,pC,aC,dB,ki]
 ·have hlen:((l.take hi).drop lo).length=hi-lo:=by simp;omega
  have cL:∀j,j<hi-lo->c[o+lo+j]?=((l.take hi).drop lo)[j]?:=fun j hj=>by
   rw[fh,iy,aF (by omega),show o+lo+j=o+(lo+j) by omega]
   exact q4 _ (by omega)
  have b1:∀m,hi<=m->dB y m l.length=some hi:=fun m hm=>by
   rcases hy with rfl|⟨rfl,rfl⟩
   ·simp[dB,ki];omega
   ·rfl
  have b2:dB x hi 0=some lo:=by
   rcases hx with rfl|⟨rfl,rfl⟩
   ·simp[dB,ki];omega
   ·rfl
  cases cp with
  |some k=>
   have hk:=q6 k rfl
   refine⟨.slice i (if k=lo then o else o+lo) (hi-lo) (some (k-lo)) 1,?_,?_⟩
   ·have b0:dB none k k=some k:=rfl
    simp only[mB,pC,El,Src.ev,yc]
    simp[b0,b1 k (by omega),b2]
   ·by_cases yB:k=lo
    ·refine .inr ⟨i,o,some 0,c,e,rw,?_,q2,q3,fun j hj=>by rw[hlen]at hj;omega,by rw[hlen];omega,fun k' gw=>by rw[hlen];omega⟩
     rw[hlen,aF yB,show k-lo=0 by omega]
    ·refine .inr ⟨i,o+lo,some (k-lo),c,e,rw,?_,q2,q3,fun j hj=>cL j (by omega),by rw[hlen];omega,fun k' gw=>by simp at gw;rw[hlen];omega⟩
     rw[hlen,ar yB]
  |none=>
   have hk:hi<=max l.length (c.length-o):=by omega
   by_cases ay:lo<max l.length (c.length-o)
   ·refine⟨.slice i (o+lo) (hi-lo) none 1,?_,.inr ⟨i,o+lo,none,c,e,rw,by rw[hlen],q2,q3,fun j hj=>cL j (by omega),by rw[hlen];omega,fun k' gw=>by cases gw⟩⟩
    simp only[mB,pC,El,Src.ev,St.row,q3,Nat.div_one,yc]
    simp[b1 _ hk,b2,ay]
   ·refine⟨.empty,?_,.inl ⟨qj (by rw[hlen];omega),.inr rfl⟩⟩
    simp only[mB,pC,El,Src.ev,St.row,q3,Nat.div_one,yc]
    simp[b1 _ hk,b2,ay]
def VT{m v:Nat}(hk:l.length=k):(l++List.replicate (m+1) 0).set k v=(l++[v])++List.replicate m 0:=by
 subst hk
 rw[List.set_append_right _ _ (aW _)]
 simp[List.replicate_succ]
def aJ(n:Nat):List Nat:=if h:n=0 then [] else n%B::aJ (n/B)
termination_by n
decreasing_by exact BS (by omega) (by decide)
def qG:aJ 0=[]:=by rw[aJ];simp
def mG(h:n≠0):aJ n=n%B::aJ (n/B):=by rw[aJ];simp[h]
def mH:∀(n:Nat),val B (aJ n)=n:=by
 intro n
 induction n using Nat.strongRecOn with
 |_ n ih=>
  by_cases h:n=0
  ·subst h;rw[qG];rfl
  ·rw[mG h]
   simp only[val]
   rw[ih (n/B) (BS (by omega) (by decide))]
   have:=tP n B
   omega
def qH(n:Nat):Dg (aJ n):=by
 induction n using Nat.strongRecOn with
 |_ n ih=>
  by_cases h:n=0
  ·subst h;rw[qG];intro d hd;cases hd
  ·rw[mG h]
   intro d hd
   rcases kv.1 hd with rfl|hd
   ·exact kh _ (by decide)
   ·exact ih (n/B) (BS (by omega) (by decide)) d hd
def CA:∀{l:List Nat},Dg l->se l=aJ (val B l)
 |[],_=>by simp[se,val,qG]
 |d::l,h=>by
  have ih:=CA (l:=l) fun e he=>h e (o9 _ he)
  have hd:d<B:=h d pn
  simp only[se,val,ih]
  by_cases h0:val B l=0
  ·rw[h0,qG]
   simp only[Nat.mul_zero,ka]
   by_cases pE:d=0
   ·simp[pE,qG]
   ·rw[mG pE,xI hd,zo hd,qG];simp[pE]
  ·have hB:0<B:=by decide
   have h1:(d+B*val B l)/B=val B l:=by
    rw[Nat.add_mul_div_left _ _ hB,zo hd,xJ]
   have h2:(d+B*val B l)%B=d:=by
    rw[Nat.add_mul_mod_self_left,xI hd]
   have h3:d+B*val B l≠0:=by
    intro hc
    have:B*val B l=0:=by omega
    rcases Nat.mul_eq_zero.1 this with h|h
    ·omega
    ·exact h0 h
   rw[mG h3,h1,h2]
   split
   ·rename_i hc;rw[mG h0]at hc;cases hc
   ·rfl
def Wn(h:T O)(N:Nat)(v:V)(n:Nat):Prop:=Sl h N v (dg (aJ n))
def Wn.ae{h':T O}{N':Nat}(s:Wn h N v n)(k:ab h N h' N'):Wn h' N' v n:=Sl.ae s k
variable {N bytes z:Nat} {h:T O} {l:List (List V)} {v:V}
def J4{α:Type}{c:List α}{o n:Nat}{x:List α}(h:aE c o n=some x):o+n<=c.length/\x=(c.drop o).take n:=by
 unfold aE at h
 split at h
 ·rename_i hl;simp at h;exact⟨hl,h.symm⟩
 ·cases h
def Yly{α:Type}{c:List α}{o n:Nat}{x:List α}(h:aE c o n=some x){f:Nat}(hf:f<n):c[o+f]?=x[f]?:=by
 obtain⟨_,rfl⟩:=J4 h
 rw[iy,aF hf,fh]
def Sn(z:Nat)(h:T O)(N:Nat)(v:V)(l:List (List V)):Prop:=
 (l=[]/\(v=.aa\/v=.empty))\/∃i o cp c e rw,v=.slice i o l.length cp z/\i<N/\h.get i=some (.cells c e rw)/\(∀j x,l[j]?=some x->aE c (o+j*z) z=some x)/\o+l.length*z<=c.length/\∀k,cp=some k->l.length<=k
def Sn.nil:Sn z h N .aa []:=.inl ⟨rfl,.inl rfl⟩
def Sn.ae{h':T O}{N':Nat}(s:Sn z h N v l)(k:ab h N h' N'):Sn z h' N' v l:=by
 rcases s with s|⟨i,o,cp,c,e,rw,h1,h2,h3,h4⟩
 ·exact .inl s
 ·exact .inr ⟨i,o,cp,c,e,rw,h1,fE h2 k.le,(k.get i h2).trans h3,h4⟩
def Sn.len(s:Sn z h N v l):oD v=some l.length:=by
 rcases s with⟨rfl,rfl|rfl⟩|⟨i,o,cp,c,e,rw,rfl,_⟩<;>rfl
def Sn.at(s:Sn z h N v l){j:Nat}{x:List V}(hj:l[j]?=some x):∃i o c e rw,wB v=some (i,o)/\i<N/\h.get i=some (.cells c e rw)/\aE c (o+j*z) z=some x:=by
 have hl:j<l.length:=by
  apply sM;intro hc;rw[fC hc]at hj;cases hj
 rcases s with⟨rfl,_⟩|⟨i,o,cp,c,e,rw,rfl,h2,h3,h4,_⟩
 ·simp at hl
 ·exact⟨i,o,c,e,rw,rfl,h2,h3,h4 j x hj⟩
def Z0(hz:0<z){h:T O}{N:Nat}{v:V}{l:List (List V)}{w:List Nat}(s:Sn z h N v l){lo hi:Nat}(h1:lo<=hi)(h2:hi<=l.length)(x y:Option V)(hx:x=some (.int .i64 lo)\/x=none/\lo=0)(hy:y=some (.int .i64 hi)\/y=none/\hi=l.length):
  ∃v',mB ⟨h,N,w⟩ z (some v) (some x) (some y) (some none)=some (v',⟨h,N,w⟩)/\Sn z h N v' ((l.take hi).drop lo):=by
 rcases s with⟨rfl,rfl|rfl⟩|⟨i,o,cp,c,e,rw,rfl,q2,q3,q4,q5,q6⟩
 ·have:hi=0:=by simpa using h2
  subst this
  have:lo=0:=by omega
  subst this
  refine⟨.aa,?_,.inl ⟨rfl,.inl rfl⟩⟩
  rcases hx with rfl|⟨rfl,_⟩<;>rcases hy with rfl|⟨rfl,_⟩<;>simp[mB,pC,aC,dB,ki]
 ·have:hi=0:=by simpa using h2
  subst this
  have:lo=0:=by omega
  subst this
  refine⟨.empty,?_,.inl ⟨rfl,.inr rfl⟩⟩
  rcases hx with rfl|⟨rfl,_⟩<;>rcases hy with rfl|⟨rfl,_⟩<;>simp[mB,pC,aC,dB,ki]
 ·have hlen:((l.take hi).drop lo).length=hi-lo:=by simp;omega
  have cL:∀j u,((l.take hi).drop lo)[j]?=some u->aE c (o+lo*z+j*z) z=some u:=fun j u hu=>by
   have hj:j<hi-lo:=by
    rw[<-hlen];apply sM;intro hc;rw[fC hc]at hu;cases hu
   rw[fh,iy,aF (by omega)]at hu
   have:=q4 _ _ hu
   rw[show o+lo*z+j*z=o+(lo+j)*z by rw[iW];omega]
   exact this
  have hmul:lo*z+(hi-lo)*z<=l.length*z:=by
   rw[<-iW];exact lV _ (by omega)
  have b1:∀m,hi<=m->dB y m l.length=some hi:=fun m hm=>by
   rcases hy with rfl|⟨rfl,rfl⟩
   ·simp[dB,ki];omega
   ·rfl
  have b2:dB x hi 0=some lo:=by
   rcases hx with rfl|⟨rfl,rfl⟩
   ·simp[dB,ki];omega
   ·rfl
  cases cp with
  |some k=>
   have hk:=q6 k rfl
   refine⟨.slice i (if k=lo then o else o+lo*z) (hi-lo) (some (k-lo)) z,?_,?_⟩
   ·have b0:dB none k k=some k:=rfl
    simp only[mB,pC,El,Src.ev]
    simp[b0,b1 k (by omega),b2]
   ·by_cases yB:k=lo
    ·have h0:(l.take hi).drop lo=[]:=qj (by rw[hlen];omega)
     refine .inr ⟨i,o,some (k-lo),c,e,rw,?_,q2,q3,fun j u hu=>by rw[h0]at hu;simp at hu,by rw[h0];simp;omega,fun k' gw=>by rw[h0];simp⟩
     rw[hlen,aF yB]
    ·refine .inr ⟨i,o+lo*z,some (k-lo),c,e,rw,?_,q2,q3,cL,by rw[hlen];omega,fun k' gw=>by simp at gw;rw[hlen];omega⟩
     rw[hlen,ar yB]
  |none=>
   have hlz:l.length<=(c.length-o)/z:=by
    rw[Ik hz];omega
   have hk:hi<=max l.length ((c.length-o)/z):=by omega
   have rQ:z≠0:=by omega
   by_cases ay:lo<max l.length ((c.length-o)/z)
   ·refine⟨.slice i (o+lo*z) (hi-lo) none z,?_,.inr ⟨i,o+lo*z,none,c,e,rw,by rw[hlen],q2,q3,cL,by rw[hlen];omega,fun k' gw=>by cases gw⟩⟩
    simp only[mB,pC,El,Src.ev,St.row,q3]
    simp[b1 _ hk,b2,ay,rQ]
   ·refine⟨.empty,?_,.inl ⟨qj (by rw[hlen];omega),.inr rfl⟩⟩
    simp only[mB,pC,El,Src.ev,St.row,q3]
    simp[b1 _ hk,b2,ay,rQ]
def Sn.one{l:List V}:Sn 1 h N v (l.map fun x=>[x])↔Sl h N v l:=by
 unfold Sn Sl
 constructor
 ·rintro(⟨h1,h2⟩|⟨i,o,cp,c,e,rw,h1,h2,h3,h4,h5,h6⟩)
  ·exact .inl ⟨by simpa using h1,h2⟩
  ·refine .inr ⟨i,o,cp,c,e,rw,by simpa using h1,h2,h3,fun j hj=>?_,by simpa using h5,by simpa using h6⟩
   have:=h4 j [l[j]] (by simp[cZ hj])
   have:=Yly this (f:=0) (by omega)
   simp at this
   rw[this,cZ hj]
 ·rintro(⟨h1,h2⟩|⟨i,o,cp,c,e,rw,h1,h2,h3,h4,h5,h6⟩)
  ·exact .inl ⟨by simpa using h1,h2⟩
  ·refine .inr ⟨i,o,cp,c,e,rw,by simpa using h1,h2,h3,fun j x hj=>?_,by simpa using h5,by simpa using h6⟩
   simp at hj
   obtain⟨u,hu,rfl⟩:=hj
   have hl:j<l.length:=by
    apply sM;intro hc;rw[fC hc]at hu;cases hu
   have:=h4 j hl
   rw[hu]at this
   have hc:o+j<c.length:=by omega
   unfold aE
   rw[aF (by omega),yc,FJ hc]
   rw[cZ hc]at this
   simp at this
   simp[this]
def Own(z:Nat)(e:TypeId)(N0:Nat)(h:T O)(N:Nat)(v:V)(l:List (List V)):Prop:=
 (∀x∈l,x.length=z)/\((l=[]/\v=.aa)\/∃i,v=.slice i 0 l.length none z/\N0<=i/\i<N/\h.get i=some (.cells l.flatten e true))
def Own.nil{e:TypeId}{N0:Nat}:Own z e N0 h N .aa []:=⟨fun _ h=>by simp at h,.inl ⟨rfl,rfl⟩⟩
def Own.ae{e:TypeId}{N0:Nat}{h':T O}{N':Nat}(s:Own z e N0 h N v l)(k:ab h N h' N'):Own z e N0 h' N' v l:=by
 obtain⟨hl,s|⟨i,h1,h2,h3,h4⟩⟩:=s
 ·exact⟨hl,.inl s⟩
 ·exact⟨hl,.inr ⟨i,h1,h2,fE h3 k.le,(k.get i h3).trans h4⟩⟩
def Own.len{e:TypeId}{N0:Nat}(s:Own z e N0 h N v l):oD v=some l.length:=by
 obtain⟨_,⟨rfl,rfl⟩|⟨i,rfl,_⟩⟩:=s<;>rfl
def BF{z:Nat}:∀{l:List (List V)},(∀x∈l,x.length=z)->l.flatten.length=l.length*z
 |[],_=>by simp
 |x::l,h=>by
  have h1:=h x pn
  have h2:=BF (l:=l) fun y hy=>h y (o9 _ hy)
  simp only[List.flatten_cons,iN,h1,h2,bD,iW];omega
def PE{z:Nat}:∀{l:List (List V)},(∀x∈l,x.length=z)->∀{j:Nat} {x:List V},l[j]?=some x->aE l.flatten (j*z) z=some x
 |[],_,j,x,hj=>by simp at hj
 |y::l,h,0,x,hj=>by
  have h1:=h y pn
  simp at hj;subst hj
  unfold aE
  simp[<-h1]
 |y::l,h,j+1,x,hj=>by
  have h1:=h y pn
  have h2:=PE (l:=l) (fun y hy=>h y (o9 _ hy)) (j:=j) (x:=x) (by simpa using hj)
  obtain⟨h3,h4⟩:=J4 h2
  unfold aE
  rw[aF (by simp only[List.flatten_cons,iN,iW,h1];omega),h4]
  congr 2
  rw[List.flatten_cons,iW,Nat.one_mul,Nat.add_comm,<-List.drop_drop,<-h1,List.drop_left]
def Own.sn{e:TypeId}{N0:Nat}(s:Own z e N0 h N v l):Sn z h N v l:=by
 obtain⟨hl,⟨h1,h2⟩|⟨i,h1,h2,h3,h4⟩⟩:=s
 ·exact .inl ⟨h1,.inl h2⟩
 ·exact .inr ⟨i,0,none,l.flatten,e,true,h1,h3,h4,fun j x hj=>by rw[xJ];exact PE hl hj,by rw[BF hl];omega,fun k hk=>by cases hk⟩
def VU(st:St)(size bytes:Nat)(e:TypeId):Option V->Option V->Option (V×St)
 |some s,some x=>gj st size bytes e s x
 |_,_=>none
def Zuv{size:Nat}{e:TypeId}{z:List V}{s x:Src}{call:cG}{r:T V}{st:St}:BY size bytes e z s x call r st=VU st size bytes e (s.ev r) (x.ev r):=by
 unfold BY VU;rfl
def yl{st:St}{size:Nat}{e:TypeId}{s x:V}:VU st size bytes e (some s) (some x)=gj st size bytes e s x:=rfl
attribute [simp] Zuv yl
def sE{e:TypeId}{N0:Nat}{u:V}{x:List V}{w:List Nat}(s:Own z e N0 h N v l)(hN:N0<=N)(hz:0<z)(hx:x.length=z)
  (hu:eD ⟨h,N,w⟩ z u=some (1,x)) (hb:2*(l.length+1)*bytes<=281474976710656):
  ∃v' h' w',gj ⟨h,N,w⟩ z bytes e v u=some (v',⟨h',N+1,w'⟩)/\ax N0 w'=ax N0 w/\ab h N0 h' (N+1)/\(∀j,h'.get j=h.get j\/j=N\/(∃o n c q,v=.slice j o n c q))/\Own z e N0 h' (N+1) v' (l++[x]):=by
 obtain⟨hl,s⟩:=s
 have jS:∀y∈l++[x],y.length=z:=fun y hy=>by
  rcases kb.1 hy with hy|hy
  ·exact hl y hy
  ·simp at hy;rw[hy,hx]
 have rQ:z≠0:=by omega
 rcases s with⟨rfl,rfl⟩|⟨i,rfl,h2,h3,h4⟩
 ·refine⟨.slice N 0 1 none z,h.set N (.cells x e true),w,?_,rfl,⟨by omega,fun j hj=>by rw[T.ag,ar (by omega)]⟩,fun j=>by rw[T.ag];by_cases hj:j=N<;>simp[hj],jS,.inr ⟨N,by simp,hN,by omega,by rw[T.ag];simp⟩⟩
  have rT:2*1*bytes<=281474976710656:=by simpa using hb
  simp only[gj,hu,tJ,St.alloc]
  simp[rT,rQ]
 ·have nI:=BF hl
  refine⟨.slice N 0 (l.length+1) none z,(h.set i .dead).set N (.cells (l.flatten++x) e true),i::w,?_,by simp[ax,sH.2 h2],⟨by omega,fun j hj=>by rw[T.ag,ar (by omega),T.ag,ar (by omega)]⟩,fun j=>?_,jS,.inr ⟨N,by simp,hN,by omega,by rw[T.ag];simp⟩⟩
  ·simp only[gj,hu,tJ,St.row,h4]
   rw[ar (by omega),ar (by rintro(h|h|h)<;>omega)]
   simp only[if_true]
   rw[ar (by rw[nI,iW];omega),aF ⟨by rw[nI];omega,trivial,trivial⟩]
   rfl
  ·by_cases hj:j=N
   ·exact .inr (.inl hj)
   ·by_cases nM:j=i
    ·exact .inr (.inr ⟨0,l.length,none,z,by rw[nM]⟩)
    ·left;rw[T.ag,ar hj,T.ag,ar nM]
abbrev aQ:=List UInt8
def jU(c:UInt8):Bool:=decide (48<=c.toNat/\c.toNat<=57)
def iP:aQ->Bool
 |[]=>false
 |c::s=>(c::s).all jU&&(decide (c.toNat≠48)||decide (s=[]))
def ah:aQ->Nat
 |[]=>0
 |c::s=>if c.toNat=47 then 0 else ah s+1
def aH(s:aQ):Nat:=s.foldl (fun n c=>10*n+(c.toNat-48)) 0
def cI:aQ->Bool
 |[]=>false
 |c::_=>decide (c.toNat=45)
def bC(s:aQ):aQ:=if cI s then s.drop 1 else s
def gb(neg:Bool)(p:aQ)(broken:Bool)(d:aQ):Bool:=iP p&&!(neg&&decide (p=[48]))&&(!broken||(iP d&&decide (d≠[48])&&decide (d≠[49])))
def jX(neg:Bool)(p:aQ)(broken:Bool)(d:aQ):Nat:=
 if gb neg p broken d=false then 1 else if 600<p.length\/600<d.length then 4 else if broken=true/\Nat.gcd (aH p) (aH d)≠1 then 1 else 0
def I3(neg:Bool)(t:aQ):Nat:=jX neg (t.take (ah t)) (decide (ah t<t.length)) (t.drop (ah t+1))
def bz(s:aQ):Nat:=I3 (cI s) (bC s)
def Ee:∀(s:aQ),ah s<=s.length
 |[]=>aW _
 |c::s=>by
  have:=Ee s
  simp only[ah,bD]
  split<;>omega
structure wS where
 name:aQ
 op:aQ
 Ge:aQ
 kj:List aQ
 cost:Int
def pos:List wS->aQ->Nat
 |[],_=>0
 |s::g,n=>if s.name=n then 0 else pos g n+1
variable {i:Nat} {j:Int} {k:IntKind} {r:T V} {s:aQ} {x:Src}
def Yqa(s:aQ)(p:Nat):Int:=(Utf8.decode ⟨s.toArray⟩ p).1
def Yp9(s:aQ)(p:Nat):Nat:=(Utf8.decode ⟨s.toArray⟩ p).2
def GG(i:Nat)(st:St):Option (aQ×Nat)->Option (V×St)
 |some (s,p)=>if p<s.length then some (.bg [.bool true,.int .i64 p,.int .i32 (Utf8.decode ⟨s.toArray⟩ p).1],st.write i (.ew s (p+(Utf8.decode ⟨s.toArray⟩ p).2))) else some (.bg [.bool false],st)
 |none=>none
def PF:Option O->Option (aQ×Nat)
 |some (.ew s p)=>some (s,p)
 |_=>none
def VV(st:St):Option V->Option (V×St)
 |some (.ptr i 0)=>GG i st (PF (st.h.get i))
 |_=>none
def Zsh{call:cG}{st:St}:F8 x call r st=VV st (x.ev r):=by
 unfold F8 VV
 rcases x.ev r with _|v
 ·rfl
 ·cases v<;>try rfl
  rename_i i o
  cases o with
  |zero=>
   simp only[PF,GG]
   rcases st.h.get i with _|o
   ·rfl
   ·cases o<;>rfl
  |succ=>rfl
def Zy0{st:St}:VV st (some (.ptr i 0))=GG i st (PF (st.h.get i)):=rfl
def Zuf{p:Nat}:PF (some (.ew s p))=some (s,p):=rfl
def Ycu{st:St}{p:Nat}(h:p<s.length):GG i st (some (s,p))=some (.bg [.bool true,.int .i64 p,.int .i32 (Yqa s p)],st.write i (.ew s (p+Yp9 s p))):=by simp[GG,h,Yqa,Yp9]
def Zy1{st:St}:GG i st (some (s,s.length))=some (.bg [.bool false],st):=by simp[GG]
def tk(st:St):Option V->Option (Option V)->Option (Option V)->Option (V×St)
 |some (.str s),some lo,some hi=>match dB hi s.length s.length with
   |some h=>match dB lo h 0 with
    |some l=>some (.str ((s.take h).drop l),st)
    |none=>none
   |none=>none
 |_,_,_=>none
def Zqz{lo hi:Option Src}{call:cG}{st:St}:yt x lo hi call r st=tk st (x.ev r) (aC r lo) (aC r hi):=by
 unfold yt tk;rfl
def GH{st:St}(h0:0<=j)(h1:j<=s.length):tk st (some (.str s)) (some (some (.int k j))) (some none)=some (.str (s.drop j.toNat),st):=by
 simp[tk,dB,ki,h0,h1]
def VW{st:St}(h0:0<=j)(h1:j<=s.length):tk st (some (.str s)) (some none) (some (some (.int k j)))=some (.str (s.take j.toNat),st):=by
 simp[tk,dB,ki,h0,h1]
def Zph{st:St}{k':IntKind}{i:Int}(h0:0<=i)(h1:i<=j)(h2:j<=s.length):tk st (some (.str s)) (some (some (.int k i))) (some (some (.int k' j)))=some (.str ((s.take j.toNat).drop i.toNat),st):=by
 have h3:0<=j:=by omega
 have h4:max j 0=j:=by omega
 simp[tk,dB,ki,h0,h1,h2,h3,h4]
def GI(s:aQ):List V:=s.map fun b=>.int .u8 (cK b)
def Yan(s:aQ):(GI s).length=s.length:=by simp[GI]
def Yao{k:Nat}{c:UInt8}(h:s[k]?=some c):(GI s)[k]?=some (.int .u8 (cK c)):=by simp[GI,h]
def VX(elem:TypeId)(st:St):Option V->Option (V×St)
 |some (.str s)=>some (.slice st.n 0 s.length none 1,st.alloc (.cells (GI s) elem true))
 |_=>none
def Zqy{elem:TypeId}{call:cG}{st:St}:DF elem x call r st=VX elem st (x.ev r):=by
 unfold DF VX;rfl
def Ygt{elem:TypeId}{st:St}:VX elem st (some (.str s))=some (.slice st.n 0 s.length none 1,st.alloc (.cells (GI s) elem true)):=rfl
attribute [simp] Zqy Ygt Yan Zsh Zy0 Zuf Ycu Zy1 Zqz GH VW Zph F7
def Zko:∀(s:aQ) (i:Nat),FQ 47 s i=if ah s<s.length then ((i+ah s:Nat):Int) else -1
 |[],i=>rfl
 |c::s,i=>by
  simp only[FQ,ah]
  have e:(c==47)=decide (c.toNat=47):=by
   rw[Bool.eq_iff_iff]
   simp only[beq_iff_eq,decide_eq_true_eq]
   exact⟨fun h=>by rw[h];rfl,fun h=>UInt8.toNat_inj.1 h⟩
  rw[e]
  by_cases h:c.toNat=47
  ·simp[h]
  ·simp only[h,decide_false,if_false,fF,Zko s (i+1),bD]
   by_cases h2:ah s<s.length
   ·rw[aF h2,aF (by omega)];omega
   ·rw[ar h2,ar (by omega)]
variable {d:Int} {j k n:Nat} {l:List Int}
def vI:List Int->Int
 |[]=>0
 |d::l=>d+1000000000*vI l
def pI(k:Nat):Int:=1000000000^k
def uO(k:Nat):pI (k+1)=1000000000*pI k:=by unfold pI;rw[Int.pow_succ,Int.mul_comm]
def Ymr:pI 0=1:=rfl
def B4(k:Nat):0<pI k:=by unfold pI;exact Int.pow_pos (by decide)
def OE(i j:Nat):pI (i+j)=pI i*pI j:=by unfold pI;exact Int.pow_add ..
def T9:∀(l m:List Int),vI (l++m)=vI l+pI l.length*vI m
 |[],m=>by simp[vI,pI]
 |d::l,m=>by
  simp only[BP,vI,T9 l m,bD,uO]
  grind
def B5(l:List Int)(d:Int):vI (l++[d])=vI l+pI l.length*d:=by simp[T9,vI]
def Ua(n:Nat):vI (List.replicate n 0)=0:=by
 induction n with
 |zero=>rfl
 |succ n ih=>simp[List.replicate_succ,vI,ih]
def j_{α:Type}{l:List α}{d:α}(h:l[k]?=some d):k<l.length:=by
 apply sM;intro hc;rw[fC hc]at h;cases h
def yx(h:l[k]?=some d):vI (l.take (k+1))=vI (l.take k)+pI k*d:=by
 have hk:=j_ h
 rw[tE,h]
 simp only[Option.toList]
 rw[B5,gm,py (by omega)]
def Kk(l:List Int)(k:Nat)(hk:k<=l.length):vI l=vI (l.take k)+pI k*vI (l.drop k):=by
 have:=T9 (l.take k) (l.drop k)
 rw[BL,gm,py hk]at this
 exact this
def B6:∀{l:List Int} {k:Nat} {c:Int},l[k]?=some c->∀(v:Int),vI (l.set k v)=vI l+pI k*(v-c)
 |[],k,c,h,v=>by simp at h
 |d::l,0,c,h,v=>by
  simp at h;subst h
  simp only[List.set_cons_zero,vI,Ymr];omega
 |d::l,k+1,c,h,v=>by
  have:=B6 (l:=l) (k:=k) (c:=c) (by simpa using h) v
  simp only[List.set_cons_succ,vI,this,uO]
  grind
def Di(l:List Int):Prop:=∀d∈l,0<=d/\d<1000000000
def Di.get(h:Di l){k:Nat}{d:Int}(hd:l[k]?=some d):0<=d/\d<1000000000:=h d (cm hd)
def Di.set(h:Di l){k:Nat}{v:Int}(h0:0<=v)(h1:v<1000000000):Di (l.set k v):=fun d hd=>by
 rcases EZ hd with hd|rfl
 ·exact h d hd
 ·exact⟨h0,h1⟩
def Di.app{m:List Int}(h:Di l)(h':Di m):Di (l++m):=fun d hd=>by
 rcases kb.1 hd with hd|hd
 ·exact h d hd
 ·exact h' d hd
def Di.one{v:Int}(h0:0<=v)(h1:v<1000000000):Di [v]:=fun d hd=>by simp at hd;subst hd;exact⟨h0,h1⟩
def Di.nil:Di []:=fun d hd=>by simp at hd
def Di.DL(n:Nat):Di (List.replicate n 0):=fun d hd=>by rw[Io]at hd;rw[hd.2];decide
def Di.take(h:Di l)(k:Nat):Di (l.take k):=fun d hd=>h d (ym hd)
def Di.drop(h:Di l)(k:Nat):Di (l.drop k):=fun d hd=>h d (Im hd)
def uP:∀{l:List Int},Di l->0<=vI l
 |[],_=>Int.le_refl _
 |d::l,h=>by
  have h1:=h d pn
  have h2:=uP (l:=l) fun e he=>h e (o9 _ he)
  simp only[vI];omega
def uQ:∀{l:List Int},Di l->vI l<pI l.length
 |[],_=>by decide
 |d::l,h=>by
  have h1:=h d pn
  have h2:=uQ (l:=l) fun e he=>h e (o9 _ he)
  simp only[vI,bD,uO];omega
def zI(l:List Int)(j:Nat):Int:=l[j]?.getD 0
def Ylb(h:l[j]?=some d):zI l j=d:=by simp[zI,h]
def Ub(h:l.length<=j):zI l j=0:=by simp[zI,h]
def Uc{l:List Int}(h:Di l)(j:Nat):0<=zI l j/\zI l j<1000000000:=by
 unfold zI
 cases hj:l[j]? with
 |none=>simp
 |some d=>exact h.get hj
def Ud{l:List Int}{k:Nat}:vI (l.take (k+1))=vI (l.take k)+pI k*zI l k:=by
 unfold zI
 cases h:l[k]? with
 |some d=>exact yx h
 |none=>
  have hk:l.length<=k:=by
   apply yp;intro hc;rw[cZ hc]at h;cases h
  rw[eZ (by omega),eZ hk];simp
def jq{α:Type}{l:List α}{d:α}(h:l[k]?=some d):l.drop k=d::l.drop (k+1):=by
 obtain⟨hk,hs⟩:=y8.1 h
 rw[<-hs];exact FJ hk
def dI(l:List Int):List V:=l.map fun n=>.int .i64 n
def gk(l:List Int):(dI l).length=l.length:=by simp[dI]
def gl{n:Int}(h:l[j]?=some n):(dI l)[j]?=some (.int .i64 n):=by simp[dI,h]
attribute [simp] gk
def AX{v:Int}(h:k<l.length):ad (dI l) k [.int .i64 v]=dI (l.set k v):=by
 unfold ad dI
 apply nD
 intro j
 simp only[zk,gG,List.getElem?_set]
 rw[tL,List.getElem?_append,gm,jP]
 by_cases h1:j<k
 ·rw[aF (by omega),iy,aF h1,gG,ar (by omega)]
 ·rw[ar (by omega)]
  by_cases h2:j=k
  ·subst h2
   rw[show j-min j l.length=0 by omega,aF rfl,aF h];rfl
  ·rw[show j-min k l.length=(j-k-1)+1 by omega,ar (by omega)]
   simp only[Ox,Dq,fh,gG]
   rw[show k+1+(j-k-1)=j by omega]
def Ue:dr [.int .i64 0] n=dI (List.replicate n 0):=by rw[TK];simp[dI]
def qz:List Int->List Int
 |[]=>[]
 |d::l=>match qz l with
  |[]=>if d=0 then [] else [d]
  |t=>d::t
def Uf:∀(l:List Int),qz (l++[0])=qz l
 |[]=>rfl
 |d::l=>by simp only[BP,qz,Uf l]
def ZV{d:Int}(hd:d≠0):∀(l:List Int),qz (l++[d])=l++[d]
 |[]=>by simp[qz,hd]
 |e::l=>by
  simp only[BP,qz,ZV hd l]
  cases l<;>rfl
def ZW:∀(l:List Int),(qz l).length<=l.length
 |[]=>aW _
 |d::l=>by
  have ih:=ZW l
  simp only[qz]
  split
  ·split<;>simp
  ·simp only[bD];omega
def ds(n:Nat):List Int:=if h:n=0 then [] else ((n%1000000000:Nat):Int)::ds (n/1000000000)
termination_by n
decreasing_by exact BS (by omega) (by decide)
def sO:ds 0=[]:=by rw[ds];simp
def zv(h:n≠0):ds n=((n%1000000000:Nat):Int)::ds (n/1000000000):=by rw[ds];simp[h]
def fZ:∀(n:Nat),vI (ds n)=n:=by
 intro n
 induction n using Nat.strongRecOn with
 |_ n ih=>
  by_cases h:n=0
  ·subst h;rw[sO];rfl
  ·rw[zv h]
   simp only[vI]
   rw[ih (n/1000000000) (BS (by omega) (by decide))]
   omega
def fT(n:Nat):Di (ds n):=by
 induction n using Nat.strongRecOn with
 |_ n ih=>
  by_cases h:n=0
  ·subst h;rw[sO];exact Di.nil
  ·rw[zv h]
   intro d hd
   rcases kv.1 hd with rfl|hd
   ·omega
   ·exact ih (n/1000000000) (BS (by omega) (by decide)) d hd
def Ug:∀{l:List Int},Di l->qz l=ds (vI l).toNat
 |[],_=>by simp[qz,vI,sO]
 |d::l,h=>by
  have hl:Di l:=fun e he=>h e (o9 _ he)
  have ih:=Ug hl
  have hd:=h d pn
  have hn:=uP hl
  simp only[qz,vI,ih]
  by_cases h0:vI l=0
  ·rw[h0]
   simp only[Int.toNat_zero,sO,Int.mul_zero,Int.add_zero]
   by_cases pE:d=0
   ·simp[pE,sO]
   ·rw[zv (by omega),xI (by omega),zo (by omega),sO];simp[pE];omega
  ·have h3:(d+1000000000*vI l).toNat≠0:=by omega
   rw[zv h3]
   have h1:(d+1000000000*vI l).toNat/1000000000=(vI l).toNat:=by omega
   have h2:(((d+1000000000*vI l).toNat%1000000000:Nat):Int)=d:=by omega
   rw[h1,h2]
   split
   ·rename_i hc;rw[zv (by omega)]at hc;cases hc
   ·rfl
def Gc(h:Di l){n:Nat}(hn:vI l=n):qz l=ds n:=by rw[Ug h,hn];rfl
def Yog(n:Nat):qz (ds n)=ds n:=Gc (fT n) (fZ n)
def B7:ds n=[]↔n=0:=by
 constructor
 ·intro h
  by_cases h0:n=0
  ·exact h0
  ·rw[zv h0]at h;cases h
 ·intro h;rw[h,sO]
def Yoh(h:n≠0):∃d,(ds n)[(ds n).length-1]?=some d/\0<d:=by
 have bB:ds n≠[]:=fun hc=>h (B7.1 hc)
 obtain⟨l,d,hd⟩:∃l d,ds n=l++[d]:=⟨(ds n).dropLast,(ds n).getLast bB,(TY bB).symm⟩
 refine⟨d,by rw[hd,iN,zk];simp,?_⟩
 have h1:=fT n d (by rw[hd];exact List.mem_append_right _ pn)
 have:d≠0:=fun h0=>by
  have h2:=Yog n
  rw[hd,h0,Uf]at h2
  have:=ZW l
  rw[h2]at this;simp at this;omega
 omega
def ID{n k:Nat}(h:n<1000000000^k):(ds n).length<=k:=by
 induction k generalizing n with
 |zero=>
  have:n=0:=by simpa using h
  rw[this,sO];simp
 |succ k ih=>
  by_cases h0:n=0
  ·rw[h0,sO];simp
  ·rw[zv h0]
   have:=ih (n:=n/1000000000) ((pz (by decide)).2 (by rw[<-gE];exact h))
   simp only[bD];omega
def Dn(h:T O)(N:Nat)(v:V)(n:Nat):Prop:=Sl h N v (dI (ds n))
def Dn.ae{h h':T O}{N N':Nat}{v:V}(s:Dn h N v n)(k:ab h N h' N'):Dn h' N' v n:=Sl.ae s k
end Go.Mx
