/-
  Slices of which only the elements are known; lists of digits.
-/
import Derived.Test.YtlbophlgohokkaaGreatDoorMxLim
set_option linter.all false
namespace Go.Mx
open Go
variable {N a b i k n o size:Nat} {h:T O} {j:Int} {l:List Nat} {r r0:T V} {v:V} {x:Src}
def ki:V->Option Nat
 |.aa=>some 0
 |.empty=>some 0
 |.slice _ _ n _ _=>some n
 |_=>none
def vc:V->Option (Nat×Nat)
 |.slice i o _ _ _=>some (i,o)
 |_=>none
def Tb(st:St):Option Nat->Option (V×St)
 |some n=>some (.int .i64 n,st)
 |none=>none
def Tc(st:St):Option V->Option (V×St)
 |some v=>Tb st (ki v)
 |none=>none
theorem Yfk{call:cm}{st:St}:uY 1 x call r st=Tc st (x.ev r):=by
 unfold uY Tc
 rcases x.ev r with _|v
 ·rfl
 ·cases v<;>rfl
theorem Yb7{st:St}:Tc st (some v)=Tb st (ki v):=rfl
theorem Zyb{st:St}:Tb st (some n)=some (.int .i64 n,st):=rfl
def MQ(st:St)(size k:Nat):Option (Nat×Nat)->Option (V×St)
 |some (i,o)=>some (.ptr i (o+k*size),st)
 |none=>none
def Jl(st:St)(size:Nat)(v:V)(k:Int):Option Nat->Option (V×St)
 |some n=>if 0<=k/\k<(n:Int) then MQ st size k.toNat (vc v) else none
 |none=>none
def Td(st:St)(size:Nat):Option V->Option V->Option (V×St)
 |some v,some (.int _ k)=>Jl st size v k (ki v)
 |_,_=>none
theorem Zri{i:Src}{call:cm}{st:St}:Bw size x i call r st=Td st size (x.ev r) (i.ev r):=by
 unfold Bw Td
 rcases x.ev r with _|v
 ·rfl
 ·rcases i.ev r with _|u
  ·cases v<;>rfl
  ·cases u<;>cases v<;>simp[Jl,MQ,ki,vc]<;>omega
theorem Zzf{st:St}{k:IntKind}:Td st size (some v) (some (.int k j))=Jl st size v j (ki v):=rfl
theorem Ydy{st:St}(h0:0<=j)(h1:j<(n:Int)):Jl st size v j (some n)=MQ st size j.toNat (vc v):=by simp[Jl,h0,h1]
theorem Zu1{st:St}:MQ st size k (some (i,o))=some (.ptr i (o+k*size),st):=rfl
theorem Ysr(a b:Int):(a==b)=decide (a=b):=by
 by_cases h:a=b<;>simp[h]
theorem Ysq(a b:Int):(a !=b)=!decide (a=b):=by
 by_cases h:a=b<;>simp[h]
theorem Yek(a b:Nat):((a:Int)+(b:Int)).toNat=a+b:=by omega
theorem Yej(a b:Nat):((a:Int)-(b:Int)).toNat=a-b:=by omega
theorem Yq4(a b n:Nat):((a:Int)+(b:Int)<(n:Int))↔a+b<n:=by omega
theorem Zw2(b:Nat):((64:Int)-(b:Int)).toNat=64-b:=by omega
attribute [simp] Zw2 Ysr Ysq Int.natCast_inj Yek Yej Yq4
def Te(st:St):Option V->Option (V×St)
 |some (.str s)=>some (.int .i64 s.length,st)
 |_=>none
theorem Yfl{call:cm}{st:St}:uY 0 x call r st=Te st (x.ev r):=by
 unfold uY Te
 rcases x.ev r with _|v
 ·rfl
 ·cases v<;>rfl
theorem Yb6{st:St}{s:List UInt8}:Te st (some (.str s))=some (.int .i64 s.length,st):=rfl
theorem Zx9{i o n c z}:ki (.slice i o n c z)=some n:=rfl
theorem Yf9:ki .aa=some 0:=rfl
theorem Zya:ki .empty=some 0:=rfl
theorem Zuz{i o n c z}:vc (.slice i o n c z)=some (i,o):=rfl
attribute [simp] Yfk Yfl Yb6 Zx9 Yf9 Zya Zuz Yb7 Zyb Zri Zzf Ydy Zu1
def cB(b:UInt8):Int:=b.toNat
theorem Zzv(b:UInt8):0<=cB b/\cB b<256:=by unfold cB;have:=b.toNat_lt;omega
def MR(st:St):Option UInt8->Option (V×St)
 |some b=>some (.int .u8 b.toNat,st)
 |none=>none
def MS(st:St):Option V->Option V->Option (V×St)
 |some (.str s),some (.int _ k)=>if 0<=k then MR st s[k.toNat]? else none
 |_,_=>none
theorem Zts{i:Src}{call:cm}{st:St}:Bx x i call r st=MS st (x.ev r) (i.ev r):=by
 unfold Bx MS MR
 rcases x.ev r with _|v
 ·rfl
 ·rcases i.ev r with _|u
  ·cases v<;>rfl
  ·cases u<;>cases v<;>rfl
theorem Yck{st:St}{s:List UInt8}{k:IntKind}(h:0<=j):MS st (some (.str s)) (some (.int k j))=MR st s[j.toNat]?:=by simp[MS,h]
theorem Zyr{st:St}{b:UInt8}:MR st (some b)=some (.int .u8 (cB b),st):=rfl
attribute [simp] Zts Yck Zyr
def MT(st:St)(elem:TypeId)(size bytes:Nat)(zero:List V):Option V->Option V->Option (V×St)
 |some (.int _ l),some (.int _ c)=>if 0<=l/\l<=c/\bytes*c<=2^47/\c<2^62/\size=zero.length/\size≠0 then
    some (.slice st.n 0 l.toNat (some c.toNat) size,st.alloc (.cells (cN zero c.toNat) elem true)) else none
 |_,_=>none
theorem Zrg{elem:TypeId}{bytes:Nat}{zero:List V}{y:Src}{call:cm}{st:St}:zN elem size bytes zero x y call r st=MT st elem size bytes zero (x.ev r) (y.ev r):=by
 unfold zN MT;rfl
theorem Yfz{st:St}{elem:TypeId}{bytes:Nat}{zero:List V}{k k':IntKind}{l:Int}(h0:0<=l)(h1:bytes*l<=140737488355328)(h2:l<4611686018427387904)(h3:size=zero.length)(h4:0<size):
  MT st elem size bytes zero (some (.int k l)) (some (.int k' l))=some (.slice st.n 0 l.toNat (some l.toNat) size,st.alloc (.cells (cN zero l.toNat) elem true)):=by
 unfold MT
 simp only[]
 rw[aF ⟨h0,Int.le_refl _,by simpa using h1,by simpa using h2,h3,by omega⟩]
def MU(n:Nat)(st:St):Option V->Option V->Option (V×St)
 |some (.ptr i o),some v=>match st.row i with
   |some (c,e,true)=>if v.cells.length=n/\o+n<=c.length/\v.cells.all V.one=true then some (.aZ [],st.write i (.cells (ag c o v.cells) e true)) else none
   |_=>none
 |_,_=>none
theorem Zxj{a:Src}{call:cm}{st:St}:Bt n a x call r st=MU n st (a.ev r) (x.ev r):=by
 unfold Bt MU;rfl
def bW(n:Nat)(st:St)(i o:Nat)(v:V):Option O->Option (V×St)
 |some (.cells c e true)=>if v.cells.length=n/\o+n<=c.length/\v.cells.all V.one=true then some (.aZ [],st.write i (.cells (ag c o v.cells) e true)) else none
 |_=>none
theorem Zw6{st:St}:MU n st (some (.ptr i o)) (some v)=bW n st i o v (st.h.get i):=by
 unfold MU bW St.row
 simp only[]
 rcases st.h.get i with _|x
 ·rfl
 ·cases x with
  |cells c e b=>cases b<;>rfl
  |_=>rfl
theorem YQ{w:List Nat}{c:List V}{e:TypeId}(h1:v.cells.length=n)(h2:o+n<=c.length)(h3:v.cells.all V.one=true):
  bW n ⟨h,N,w⟩ i o v (some (.cells c e true))=some (.aZ [],⟨h.set i (.cells (ag c o v.cells) e true),N,i::w⟩):=by
 unfold bW
 simp only[]
 rw[aF ⟨h1,h2,h3⟩];rfl
attribute [simp] Zrg Yfz Zxj Zw6 YQ
def bz(n:Nat):Nat:=n%18446744073709551616
def bX(n:Nat):Nat:=n/18446744073709551616
def dS(x y c:Nat):Nat:=(x+18446744073709551616-y-c)%18446744073709551616
def fe(x y c:Nat):Nat:=if x<y+c then 1 else 0
def al(a b:Nat):Nat:=a/2^b
def bL(a b:Nat):Nat:=a*2^b%18446744073709551616
def er(a:Nat):Nat:=a%4294967296
def ig(a b:Nat):Nat:=a|||b
theorem GM(n:Int):IntKind.wrap .u64 n=n%18446744073709551616:=by simp[IntKind.wrap,IntKind.bits,IntKind.signed]
theorem B8{n:Int}(h1:0<=n)(h2:n<18446744073709551616):bn .u64 n=n:=by rw[xa,GM];omega
theorem GN(n:Int):bn .u64 n=n%18446744073709551616:=by rw[xa,GM]
theorem Zw9{b:Int}(h0:0<=b)(h1:b<=64):vR .shr .u64 (a:Int) b=some (.int .u64 (al a b.toNat:Nat)):=by
 unfold vR al
 have e:min b.toNat (IntKind.bits .u64)=b.toNat:=by simp[IntKind.bits];omega
 rw[au (by omega),e]
 simp only[aj,V.int.injEq,true_and]
 rw[Int.fdiv_eq_ediv_of_nonneg _ (by exact_mod_cast tQ _)]
 push_cast
 rfl
theorem Zxa{b:Int}(h0:0<=b)(h1:b<=64):vR .shl .u64 (a:Int) b=some (.int .u64 (bL a b.toNat:Nat)):=by
 unfold vR bL
 have e:min b.toNat (IntKind.bits .u64)=b.toNat:=by simp[IntKind.bits];omega
 rw[au (by omega),e]
 show some (V.int .u64 (IntKind.wrap .u64 ((a:Int)*2^b.toNat)))=_
 rw[GM]
 have:(((a*2^b.toNat%18446744073709551616:Nat)):Int)=(a:Int)*2^b.toNat%18446744073709551616:=by
  rw[Int.natCast_emod,FX,Int.natCast_pow];rfl
 rw[this]
theorem LV(a:Nat)(h:a<18446744073709551616):(BitVec.ofInt 64 (a:Int)).toNat=a:=by
 simp[BitVec.toNat_ofInt];omega
theorem Zr3(h:a<18446744073709551616):oJ .and .u64 (a:Int) 4294967295=some (.int .u64 (er a:Nat)):=by
 show some (V.int .u64 (IntKind.wrap .u64 (BitVec.ofInt 64 (a:Int)&&& BitVec.ofInt 64 4294967295).toNat))=_
 rw[GM,BitVec.toNat_and,LV a h]
 have e:(BitVec.ofInt 64 4294967295).toNat=2^32-1:=by decide
 rw[e,Nat.and_two_pow_sub_one_eq_mod]
 unfold er
 simp only[aj,V.int.injEq,true_and]
 omega
theorem Ych(h:a<18446744073709551616)(h':b<18446744073709551616):oJ .or .u64 (a:Int) (b:Int)=some (.int .u64 (ig a b:Nat)):=by
 show some (V.int .u64 (IntKind.wrap .u64 (BitVec.ofInt 64 (a:Int)|||BitVec.ofInt 64 (b:Int)).toNat))=_
 rw[GM,BitVec.toNat_or,LV a h,LV b h']
 have:=Nat.or_lt_two_pow (n:=64) h h'
 unfold ig
 simp only[aj,V.int.injEq,true_and]
 omega
def cy(a b:Nat):Nat:=(a+b)%18446744073709551616
def fk(a b:Nat):Nat:=((a:Int)-b).toNat%18446744073709551616+(if a<b then (((a:Int)-b)%18446744073709551616).toNat else 0)
def cE(a b:Nat):Nat:=(a*b)%18446744073709551616
def jZ(a b:Nat):Nat:=a/b
def Jm(a b:Nat):Nat:=a%b
theorem Zw0:bn .u64 ((a:Int)+(b:Int))=(cy a b:Nat):=by rw[GN];unfold cy;omega
theorem YR:bn .u64 ((a:Int)-(b:Int))=(fk a b:Nat):=by
 rw[GN];unfold fk
 split<;>omega
theorem Zsy:bn .u64 ((a:Int)-1)=(fk a 1:Nat):=YR (b:=1)
theorem Tf:bn .u64 ((a:Int)*(b:Int))=(cE a b:Nat):=by
 rw[GN];unfold cE
 rw[<-FX];omega
theorem Zqq:bn .u64 ((a:Int)*4294967296)=(cE a 4294967296:Nat):=Tf (b:=4294967296)
theorem Zpf:bn .u64 (4294967296*(a:Int))=(cE 4294967296 a:Nat):=Tf (a:=4294967296)
theorem Zwz(h:a<18446744073709551616):bn .u64 ((a:Int).tdiv (b:Int))=(jZ a b:Nat):=by
 rw[GN];unfold jZ
 have e:((a:Int).tdiv (b:Int))=((a/b:Nat):Int):=rfl
 have:=rS a b
 rw[e]
 generalize a/b=q at*
 omega
theorem Zzy:(a:Int).tmod (b:Int)=(Jm a b:Nat):=rfl
theorem B9(h:b<=a)(ha:a<18446744073709551616):fk a b=a-b:=by unfold fk;split<;>omega
theorem Yml:cy a b<18446744073709551616:=jg _ (by decide)
theorem Yko:cE a b<18446744073709551616:=jg _ (by decide)
theorem Tg:bL a b<18446744073709551616:=jg _ (by decide)
theorem Zzz:fk a b<18446744073709551616:=by unfold fk;split<;>omega
theorem YT(h:a<18446744073709551616):al a b<18446744073709551616:=qc (rS _ _) h
attribute [simp] Yml Yko Tg Zzz Zw0 YR Zsy Tf Zqq Zpf Zwz Zzy Zw9 Zxa Zr3 Ych
def D5(st:St)(e:Ext)(o:Option (List V)):Option (V×St):=match e,o with
  |.same,some [v]=>some (v,st)
  |e,some l=>match zL e l with
   |some v=>some (v,st)
   |none=>none
  |_,none=>none
theorem Yfm{e:Ext}{args:List Src}{call:cm}{st:St}:Dp e args call r st=D5 st e (rj r args):=rfl
theorem Ycx{st:St}:D5 st .same (some [v])=some (v,st):=rfl
theorem Zyy{st:St}{x y c:Int}(h:c=0\/c=1):D5 st .eJ (some [.int .u64 x,.int .u64 y,.int .u64 c])=some (.aZ [.int .u64 (bz (x.toNat+y.toNat+c.toNat):Nat),.int .u64 (bX (x.toNat+y.toNat+c.toNat):Nat)],st):=by
 simp only[D5,zL,h,not_true_eq_false,if_false]
 rfl
theorem Zyx{st:St}{x y c:Int}(h:c=0\/c=1):D5 st .gQ (some [.int .u64 x,.int .u64 y,.int .u64 c])=some (.aZ [.int .u64 (dS x.toNat y.toNat c.toNat:Nat),.int .u64 (fe x.toNat y.toNat c.toNat:Nat)],st):=by
 simp only[D5,zL,h,not_true_eq_false,if_false,fe]
 split<;>rfl
theorem YU:bz n<18446744073709551616:=jg _ (by decide)
theorem Yjp{c:Nat}:dS a b c<18446744073709551616:=jg _ (by decide)
attribute [simp] YU Yjp Yfm Ycx Zyy Zyx
def m_(st:St)(size:Nat):Option V->Option (Option V)->Option (Option V)->Option (Option V)->Option (V×St)
 |some v,some lo,some hi,some mx=>oK size (.const v) (lo.map .const) (hi.map .const) (mx.map .const) Rf .nil st
 |_,_,_,_=>none
theorem D6{o:Option V}:ay r (o.map .const)=some o:=by cases o<;>rfl
theorem Jn{lo hi mx:Option Src}{call:cm}{st:St}:oK size x lo hi mx call r st=m_ st size (x.ev r) (ay r lo) (ay r hi) (ay r mx):=by
 unfold m_ oK
 rcases x.ev r with _|v
 ·rfl
 ·rcases ay r lo with _|lo
  ·cases v<;>try rfl
   rename_i c _;cases c<;>rfl
  ·rcases ay r hi with _|hi
   ·cases v<;>try rfl
    rename_i c _;cases c<;>rfl
   ·rcases ay r mx with _|mx
    ·cases v<;>try rfl
     rename_i c _;cases c<;>rfl
    ·simp only[D6];rfl
def Sl(h:T O)(N:Nat)(v:V)(l:List V):Prop:=
 (l=[]/\(v=.aa\/v=.empty))\/∃i o cp c e rw,v=.slice i o l.length cp 1/\i<N/\h.get i=some (.cells c e rw)/\(∀j,j<l.length->c[o+j]?=l[j]?)/\o+l.length<=c.length/\∀k,cp=some k->l.length<=k
theorem Sl.nil:Sl h N .aa []:=.inl ⟨rfl,.inl rfl⟩
theorem Sl.row{L:Nat}{l:List V}{e:TypeId}{rw:Bool}{cp:Option Nat}(hi:i<N)(hg:h.get i=some (.cells l e rw))(hL:l.length=L)(hc:∀k,cp=some k->L<=k):Sl h N (.slice i 0 L cp 1) l:=
 .inr ⟨i,0,cp,l,e,rw,by rw[hL],hi,hg,fun j _=>by rw[rT],by omega,fun k hk=>by rw[hL];exact hc k hk⟩
theorem Sl.ae{h':T O}{N':Nat}{l:List V}(s:Sl h N v l)(k:ab h N h' N'):Sl h' N' v l:=by
 rcases s with s|⟨i,o,cp,c,e,rw,h1,h2,h3,h4⟩
 ·exact .inl s
 ·exact .inr ⟨i,o,cp,c,e,rw,h1,eY h2 k.le,(k.get i h2).trans h3,h4⟩
theorem Sl.len{l:List V}(s:Sl h N v l):ki v=some l.length:=by
 rcases s with⟨rfl,rfl|rfl⟩|⟨i,o,cp,c,e,rw,rfl,_⟩<;>rfl
theorem Sl.at{l:List V}(s:Sl h N v l){j:Nat}{x:V}(hj:l[j]?=some x):∃i o c e rw,vc v=some (i,o)/\i<N/\h.get i=some (.cells c e rw)/\c[o+j]?=some x:=by
 have hl:j<l.length:=by
  apply qd;intro hc;rw[gJ hc]at hj;cases hj
 rcases s with⟨rfl,_⟩|⟨i,o,cp,c,e,rw,rfl,h2,h3,h4,_⟩
 ·simp at hl
 ·exact⟨i,o,c,e,rw,rfl,h2,h3,(h4 j hl).trans hj⟩
def val(b:Nat):List Nat->Nat
 |[]=>0
 |d::l=>d+b*val b l
def dg(l:List Nat):List V:=l.map fun n:Nat=>.int .u64 n
def YV(l:List Nat):List V:=l.map fun n:Nat=>.int .i64 n
theorem bl(l:List Nat):(dg l).length=l.length:=by simp[dg]
theorem bG(l:List Nat):(YV l).length=l.length:=by simp[YV]
theorem eW{j:Nat}(h:l[j]?=some n):(dg l)[j]?=some (.int .u64 n):=by simp[dg,h]
attribute [simp] bl bG
theorem nU{v:Nat}(h:k<l.length):ag (dg l) k [.int .u64 v]=dg (l.set k v):=by
 unfold ag dg
 apply m7
 intro j
 simp only[vO,jf,List.getElem?_set]
 rw[qw,List.getElem?_append,fR,oa]
 by_cases h1:j<k
 ·rw[aF (by omega),gV,aF h1,jf,au (by omega)]
 ·rw[au (by omega)]
  by_cases h2:j=k
  ·subst h2
   rw[show j-min j l.length=0 by omega,aF rfl,aF h];rfl
  ·rw[show j-min k l.length=(j-k-1)+1 by omega,au (by omega)]
   simp only[LJ,Bh,fG,jf]
   rw[show k+1+(j-k-1)=j by omega]
theorem D7:cN [.int .u64 0] n=dg (List.replicate n 0):=by
 unfold cN dg
 apply m7
 intro j
 simp only[vO,vQ,jf,List.getElem?_replicate]
 by_cases h:j<n
 ·simp[h,Nat.mod_one]
 ·simp[h]
theorem WN{z:V}:cN [z] n=List.replicate n z:=by
 unfold cN
 apply m7
 intro j
 simp only[vO,vQ,jf,List.getElem?_replicate]
 by_cases h:j<n
 ·simp[h,Nat.mod_one]
 ·simp[h]
theorem MV(b:Nat):∀(l m:List Nat),val b (l++m)=val b l+b^l.length*val b m
 |[],m=>by simp[val]
 |d::l,m=>by
  simp only[yE,val,MV b l m,bh,fL]
  grind
theorem MW(b:Nat)(l:List Nat)(d:Nat):val b (l++[d])=val b l+b^l.length*d:=by simp[MV,val]
theorem YW(b n:Nat):val b (List.replicate n 0)=0:=by
 induction n with
 |zero=>rfl
 |succ n ih=>simp[List.replicate_succ,val,ih]
theorem Ca{d:Nat}(h:l[k]?=some d):val b (l.take (k+1))=val b (l.take k)+b^k*d:=by
 have hk:k<l.length:=by
  apply qd;intro hc;rw[gJ hc]at h;cases h
 rw[pV,h]
 simp only[Option.toList]
 rw[MW,fR,nA (by omega)]
theorem Cb{b:Nat}:∀{l:List Nat},(∀d∈l,d<b)->val b l<b^l.length
 |[],_=>by simp[val]
 |d::l,h=>by
  have h1:=h d jk
  have h2:=Cb (l:=l) fun e he=>h e (iz _ he)
  simp only[val,bh,fL]
  have:b*(val b l+1)<=b*b^l.length:=jo b h2
  rw[gX (b^l.length) b]
  grind
def B:Nat:=18446744073709551616
def Dg(l:List Nat):Prop:=∀d∈l,d<B
theorem Dg.get(h:Dg l){j d:Nat}(hj:l[j]?=some d):d<B:=h d (du hj)
def dz(l:List Nat)(j:Nat):Nat:=l[j]?.getD 0
theorem YX{l:List Nat}(h:Dg l)(j:Nat):dz l j<B:=by
 unfold dz
 cases hj:l[j]? with
 |none=>decide
 |some d=>exact h.get hj
theorem Ay{b:Nat}{l:List Nat}{k:Nat}:val b (l.take (k+1))=val b (l.take k)+b^k*dz l k:=by
 unfold dz
 cases h:l[k]? with
 |some d=>exact Ca h
 |none=>
  have hk:l.length<=k:=by
   apply vN;intro hc;rw[dk hc]at h;cases h
  rw[eF (by omega),eF hk];simp
def qk:List Nat->List Nat
 |[]=>[]
 |d::l=>match qk l with
  |[]=>if d=0 then [] else [d]
  |t=>d::t
theorem YY:∀(l:List Nat),qk (l++[0])=qk l
 |[]=>rfl
 |d::l=>by simp only[yE,qk,YY l]
theorem YZ{d:Nat}(hd:d≠0):∀(l:List Nat),qk (l++[d])=l++[d]
 |[]=>by simp[qk,hd]
 |e::l=>by
  simp only[yE,qk,YZ hd l]
  cases l<;>rfl
def iS:List (Nat×Nat)->Nat->Bool
 |[],_=>false
 |(a,b)::D,t=>(Nat.ble a t&&Nat.ble t b)||iS D t
theorem Ylf{t:Nat}:iS [] t=false:=rfl
theorem Ygf{D:List (Nat×Nat)}{t:Nat}:iS ((a,b)::D) t=((Nat.ble a t&&Nat.ble t b)||iS D t):=rfl
attribute [simp] Ylf Ygf
structure Fx (D:List (Nat×Nat)) (r0:T V) (n:Nat) (fr:Fr):Prop where
 aM:∀t,iS D t=false->fr.r.get t=r0.get t
 n:fr.n=n
 marks:fr.marks=[]
theorem Fx.refl{D:List (Nat×Nat)}:Fx D r n ⟨r,n,[]⟩:=⟨fun _ _=>rfl,rfl,rfl⟩
theorem Fx.set{D:List (Nat×Nat)}{t:Nat}(ht:iS D t=true):Fx D r0 n ⟨r.set t v,n,[]⟩↔Fx D r0 n ⟨r,n,[]⟩:=by
 constructor
 ·intro h
  refine⟨fun u hu=>?_,rfl,rfl⟩
  have:=h.aM u hu
  simp only[T.ai]at this
  rw[au]at this
  ·exact this
  ·rintro rfl;rw[ht]at hu;cases hu
 ·intro h
  refine⟨fun u hu=>?_,rfl,rfl⟩
  simp only[T.ai]
  rw[au]
  ·exact h.aM u hu
  ·rintro rfl;rw[ht]at hu;cases hu
attribute [simp] Fx.set
def Th(D' D:List (Nat×Nat)):Bool:=D'.all fun p=>D.any fun q=>Nat.ble q.1 p.1&&Nat.ble p.2 q.2
theorem Y0{D:List (Nat×Nat)}{t:Nat}:iS D t=true↔∃p∈D,p.1<=t/\t<=p.2:=by
 induction D with
 |nil=>simp[iS]
 |cons p D ih=>obtain⟨a,b⟩:=p;simp[iS,ih]
theorem Yjh{D' D:List (Nat×Nat)}(h:Th D' D=true){t:Nat}(ht:iS D t=false):iS D' t=false:=by
 cases hc:iS D' t with
 |false=>rfl
 |true=>
  obtain⟨p,hp,h1,h2⟩:=Y0.1 hc
  unfold Th at h
  rw[m8]at h
  obtain⟨q,hq,h3⟩:=List.any_eq_true.1 (h p hp)
  simp at h3
  have:iS D t=true:=Y0.2 ⟨q,hq,by omega,by omega⟩
  rw[ht]at this;cases this
theorem Fx.inner{D D':List (Nat×Nat)}{r1 r2:T V}(hf:Fx D r0 n ⟨r,n,[]⟩)(hs:Th D' D=true)(h1:Fx D r0 n ⟨r,n,[]⟩->Fx D r0 n ⟨r1,n,[]⟩)(h2:∀t,iS D' t=false->r2.get t=r1.get t):Fx D r0 n ⟨r2,n,[]⟩:=
 ⟨fun t ht=>(h2 t (Yjh hs ht)).trans ((h1 hf).aM t ht),rfl,rfl⟩
def Rd(D:List (Nat×Nat))(r0:T V)(n:Nat)(I:Nat->T V->St->Prop)(k:Nat)(P:Ex->T V->St->Prop):Ex->Fr->St->Prop
 |.normal,fr,st=>Fx D r0 n fr/\∃k',k'<k/\I k' fr.r st
 |e,fr,st=>Fx D r0 n fr/\P e fr.r st
theorem Y3{D r0 n I k P r st}:Rd D r0 n I k P .normal ⟨r,n,[]⟩ st↔Fx D r0 n ⟨r,n,[]⟩/\∃k',k'<k/\I k' r st:=Iff.rfl
theorem Yms{D r0 n I k P r st i}:Rd D r0 n I k P (.exit i) ⟨r,n,[]⟩ st↔Fx D r0 n ⟨r,n,[]⟩/\P (.exit i) r st:=Iff.rfl
theorem Ypa{D r0 n I k P r st}:Rd D r0 n I k P .ret ⟨r,n,[]⟩ st↔Fx D r0 n ⟨r,n,[]⟩/\P .ret r st:=Iff.rfl
attribute [simp] Y3 Yms Ypa
theorem bQ{C:Cx}{ro:Option Nat}{c:aq}{K:List Kf}{Q:Rs->Prop}{Iy:St}(D:List (Nat×Nat))(P:Ex->T V->St->Prop)(I:Nat->T V->St->Prop)(k:Nat)(hi:I k r0 Iy)
  (h:∀k r st,(∀t,iS D t=false->r.get t=r0.get t)->Fx D r0 n ⟨r,n,[]⟩->I k r st->Code C ro c ⟨r,n,[]⟩ st (Rd D r0 n I k P))
  (q:∀e r st,(∀t,iS D t=false->r.get t=r0.get t)->P e r st->bF C K (some (.ex e ⟨r,n,[]⟩ st)) Q):bF C K (eL (C.code ro (.loop c) ⟨r0,n,[]⟩ Iy)) Q:=by
 refine Ye3 (fun e fr st=>Fx D r0 n fr/\P e fr.r st) (fun k fr st=>Fx D r0 n fr/\I k fr.r st) k ⟨Fx.refl,hi⟩ ?_ ?_
 ·rintro k ⟨r,n',m⟩ st ⟨hf,hi⟩
  have h1:n'=n:=hf.n
  have h2:m=[]:=hf.marks
  subst h1;subst h2
  obtain⟨e,bC,av,h3,h4⟩:=(h k r st hf.aM hf hi).ex
  refine⟨e,bC,av,h3,?_⟩
  cases e with
  |normal=>obtain⟨a,k',b,c⟩:=h4;exact⟨k',b,a,c⟩
  |exit i=>exact h4
  |ret=>exact h4
 ·rintro e ⟨r,n',m⟩ st ⟨hf,hp⟩
  have h1:n'=n:=hf.n
  have h2:m=[]:=hf.marks
  subst h1;subst h2
  exact q e r st hf.aM hp
theorem MY{l:List V}{w:List Nat}(s:Sl h N v l){lo hi:Nat}(h1:lo<=hi)(h2:hi<=l.length)(x y:Option V)(hx:x=some (.int .i64 lo)\/x=none/\lo=0)(hy:y=some (.int .i64 hi)\/y=none/\hi=l.length):
  ∃v',m_ ⟨h,N,w⟩ 1 (some v) (some x) (some y) (some none)=some (v',⟨h,N,w⟩)/\Sl h N v' ((l.take hi).drop lo):=by
 rcases s with⟨rfl,rfl|rfl⟩|⟨i,o,cp,c,e,rw,rfl,q2,q3,q4,q5,q6⟩
 ·have:hi=0:=by simpa using h2
  subst this
  have:lo=0:=by omega
  subst this
  refine⟨.aa,?_,.inl ⟨rfl,.inl rfl⟩⟩
  rcases hx with rfl|⟨rfl,_⟩<;>rcases hy with rfl|⟨rfl,_⟩<;>simp[m_,oK,ay,cR,jq]
 ·have:hi=0:=by simpa using h2
  subst this
  have:lo=0:=by omega
  subst this
  refine⟨.empty,?_,.inl ⟨rfl,.inr rfl⟩⟩
  rcases hx with rfl|⟨rfl,_⟩<;>rcases hy with rfl|⟨rfl,_⟩<;>simp[m_,oK,ay,cR,jq]
 ·have hlen:((l.take hi).drop lo).length=hi-lo:=by simp;omega
  have cC:∀j,j<hi-lo->c[o+lo+j]?=((l.take hi).drop lo)[j]?:=fun j hj=>by
   rw[fG,gV,aF (by omega),show o+lo+j=o+(lo+j) by omega]
   exact q4 _ (by omega)
  have b1:∀m,hi<=m->cR y m l.length=some hi:=fun m hm=>by
   rcases hy with rfl|⟨rfl,rfl⟩
   ·simp[cR,jq];omega
   ·rfl
  have b2:cR x hi 0=some lo:=by
   rcases hx with rfl|⟨rfl,rfl⟩
   ·simp[cR,jq];omega
   ·rfl
  cases cp with
  |some k=>
   have hk:=q6 k rfl
   refine⟨.slice i (if k=lo then o else o+lo) (hi-lo) (some (k-lo)) 1,?_,?_⟩
   ·have b0:cR none k k=some k:=rfl
    simp only[m_,oK,D6,Src.ev,vQ]
    simp[b0,b1 k (by omega),b2]
   ·by_cases wg:k=lo
    ·refine .inr ⟨i,o,some 0,c,e,rw,?_,q2,q3,fun j hj=>by rw[hlen]at hj;omega,by rw[hlen];omega,fun k' eQ=>by rw[hlen];omega⟩
     rw[hlen,aF wg,show k-lo=0 by omega]
    ·refine .inr ⟨i,o+lo,some (k-lo),c,e,rw,?_,q2,q3,fun j hj=>cC j (by omega),by rw[hlen];omega,fun k' eQ=>by simp at eQ;rw[hlen];omega⟩
     rw[hlen,au wg]
  |none=>
   have hk:hi<=max l.length (c.length-o):=by omega
   by_cases aD:lo<max l.length (c.length-o)
   ·refine⟨.slice i (o+lo) (hi-lo) none 1,?_,.inr ⟨i,o+lo,none,c,e,rw,by rw[hlen],q2,q3,fun j hj=>cC j (by omega),by rw[hlen];omega,fun k' eQ=>by cases eQ⟩⟩
    simp only[m_,oK,D6,Src.ev,St.row,q3,Nat.div_one,vQ]
    simp[b1 _ hk,b2,aD]
   ·refine⟨.empty,?_,.inl ⟨qa (by rw[hlen];omega),.inr rfl⟩⟩
    simp only[m_,oK,D6,Src.ev,St.row,q3,Nat.div_one,vQ]
    simp[b1 _ hk,b2,aD]
theorem Ti{m v:Nat}(hk:l.length=k):(l++List.replicate (m+1) 0).set k v=(l++[v])++List.replicate m 0:=by
 subst hk
 rw[List.set_append_right _ _ (aS _)]
 simp[List.replicate_succ]
def aC(n:Nat):List Nat:=if h:n=0 then [] else n%B::aC (n/B)
termination_by n
decreasing_by exact zJ (by omega) (by decide)
theorem oX:aC 0=[]:=by rw[aC];simp
theorem ku(h:n≠0):aC n=n%B::aC (n/B):=by rw[aC];simp[h]
theorem kv:∀(n:Nat),val B (aC n)=n:=by
 intro n
 induction n using Nat.strongRecOn with
 |_ n ih=>
  by_cases h:n=0
  ·subst h;rw[oX];rfl
  ·rw[ku h]
   simp only[val]
   rw[ih (n/B) (zJ (by omega) (by decide))]
   have:=ri n B
   omega
theorem oY(n:Nat):Dg (aC n):=by
 induction n using Nat.strongRecOn with
 |_ n ih=>
  by_cases h:n=0
  ·subst h;rw[oX];intro d hd;cases hd
  ·rw[ku h]
   intro d hd
   rcases kb.1 hd with rfl|hd
   ·exact jg _ (by decide)
   ·exact ih (n/B) (zJ (by omega) (by decide)) d hd
theorem Az:∀{l:List Nat},Dg l->qk l=aC (val B l)
 |[],_=>by simp[qk,val,oX]
 |d::l,h=>by
  have ih:=Az (l:=l) fun e he=>h e (iz _ he)
  have hd:d<B:=h d jk
  simp only[qk,val,ih]
  by_cases h0:val B l=0
  ·rw[h0,oX]
   simp only[Nat.mul_zero,re]
   by_cases oO:d=0
   ·simp[oO,oX]
   ·rw[ku oO,uU hd,wY hd,oX];simp[oO]
  ·have hB:0<B:=by decide
   have h1:(d+B*val B l)/B=val B l:=by
    rw[Nat.add_mul_div_left _ _ hB,wY hd,rT]
   have h2:(d+B*val B l)%B=d:=by
    rw[Nat.add_mul_mod_self_left,uU hd]
   have h3:d+B*val B l≠0:=by
    intro hc
    have:B*val B l=0:=by omega
    rcases Nat.mul_eq_zero.1 this with h|h
    ·omega
    ·exact h0 h
   rw[ku h3,h1,h2]
   split
   ·rename_i hc;rw[ku h0]at hc;cases hc
   ·rfl
def Wn(h:T O)(N:Nat)(v:V)(n:Nat):Prop:=Sl h N v (dg (aC n))
theorem Wn.ae{h':T O}{N':Nat}(s:Wn h N v n)(k:ab h N h' N'):Wn h' N' v n:=Sl.ae s k
variable {N bytes z:Nat} {h:T O} {l:List (List V)} {v:V}
theorem MD{α:Type}{c:List α}{o n:Nat}{x:List α}(h:aJ c o n=some x):o+n<=c.length/\x=(c.drop o).take n:=by
 unfold aJ at h
 split at h
 ·rename_i hl;simp at h;exact⟨hl,h.symm⟩
 ·cases h
theorem Yji{α:Type}{c:List α}{o n:Nat}{x:List α}(h:aJ c o n=some x){f:Nat}(hf:f<n):c[o+f]?=x[f]?:=by
 obtain⟨_,rfl⟩:=MD h
 rw[gV,aF hf,fG]
def Sn(z:Nat)(h:T O)(N:Nat)(v:V)(l:List (List V)):Prop:=
 (l=[]/\(v=.aa\/v=.empty))\/∃i o cp c e rw,v=.slice i o l.length cp z/\i<N/\h.get i=some (.cells c e rw)/\(∀j x,l[j]?=some x->aJ c (o+j*z) z=some x)/\o+l.length*z<=c.length/\∀k,cp=some k->l.length<=k
theorem Sn.nil:Sn z h N .aa []:=.inl ⟨rfl,.inl rfl⟩
theorem Sn.ae{h':T O}{N':Nat}(s:Sn z h N v l)(k:ab h N h' N'):Sn z h' N' v l:=by
 rcases s with s|⟨i,o,cp,c,e,rw,h1,h2,h3,h4⟩
 ·exact .inl s
 ·exact .inr ⟨i,o,cp,c,e,rw,h1,eY h2 k.le,(k.get i h2).trans h3,h4⟩
theorem Sn.len(s:Sn z h N v l):ki v=some l.length:=by
 rcases s with⟨rfl,rfl|rfl⟩|⟨i,o,cp,c,e,rw,rfl,_⟩<;>rfl
theorem Sn.at(s:Sn z h N v l){j:Nat}{x:List V}(hj:l[j]?=some x):∃i o c e rw,vc v=some (i,o)/\i<N/\h.get i=some (.cells c e rw)/\aJ c (o+j*z) z=some x:=by
 have hl:j<l.length:=by
  apply qd;intro hc;rw[gJ hc]at hj;cases hj
 rcases s with⟨rfl,_⟩|⟨i,o,cp,c,e,rw,rfl,h2,h3,h4,_⟩
 ·simp at hl
 ·exact⟨i,o,c,e,rw,rfl,h2,h3,h4 j x hj⟩
theorem Zz6(hz:0<z){h:T O}{N:Nat}{v:V}{l:List (List V)}{w:List Nat}(s:Sn z h N v l){lo hi:Nat}(h1:lo<=hi)(h2:hi<=l.length)(x y:Option V)(hx:x=some (.int .i64 lo)\/x=none/\lo=0)(hy:y=some (.int .i64 hi)\/y=none/\hi=l.length):
  ∃v',m_ ⟨h,N,w⟩ z (some v) (some x) (some y) (some none)=some (v',⟨h,N,w⟩)/\Sn z h N v' ((l.take hi).drop lo):=by
 rcases s with⟨rfl,rfl|rfl⟩|⟨i,o,cp,c,e,rw,rfl,q2,q3,q4,q5,q6⟩
 ·have:hi=0:=by simpa using h2
  subst this
  have:lo=0:=by omega
  subst this
  refine⟨.aa,?_,.inl ⟨rfl,.inl rfl⟩⟩
  rcases hx with rfl|⟨rfl,_⟩<;>rcases hy with rfl|⟨rfl,_⟩<;>simp[m_,oK,ay,cR,jq]
 ·have:hi=0:=by simpa using h2
  subst this
  have:lo=0:=by omega
  subst this
  refine⟨.empty,?_,.inl ⟨rfl,.inr rfl⟩⟩
  rcases hx with rfl|⟨rfl,_⟩<;>rcases hy with rfl|⟨rfl,_⟩<;>simp[m_,oK,ay,cR,jq]
 ·have hlen:((l.take hi).drop lo).length=hi-lo:=by simp;omega
  have cC:∀j u,((l.take hi).drop lo)[j]?=some u->aJ c (o+lo*z+j*z) z=some u:=fun j u hu=>by
   have hj:j<hi-lo:=by
    rw[<-hlen];apply qd;intro hc;rw[gJ hc]at hu;cases hu
   rw[fG,gV,aF (by omega)]at hu
   have:=q4 _ _ hu
   rw[show o+lo*z+j*z=o+(lo+j)*z by rw[iE];omega]
   exact this
  have hmul:lo*z+(hi-lo)*z<=l.length*z:=by
   rw[<-iE];exact jn _ (by omega)
  have b1:∀m,hi<=m->cR y m l.length=some hi:=fun m hm=>by
   rcases hy with rfl|⟨rfl,rfl⟩
   ·simp[cR,jq];omega
   ·rfl
  have b2:cR x hi 0=some lo:=by
   rcases hx with rfl|⟨rfl,rfl⟩
   ·simp[cR,jq];omega
   ·rfl
  cases cp with
  |some k=>
   have hk:=q6 k rfl
   refine⟨.slice i (if k=lo then o else o+lo*z) (hi-lo) (some (k-lo)) z,?_,?_⟩
   ·have b0:cR none k k=some k:=rfl
    simp only[m_,oK,D6,Src.ev]
    simp[b0,b1 k (by omega),b2]
   ·by_cases wg:k=lo
    ·have h0:(l.take hi).drop lo=[]:=qa (by rw[hlen];omega)
     refine .inr ⟨i,o,some (k-lo),c,e,rw,?_,q2,q3,fun j u hu=>by rw[h0]at hu;simp at hu,by rw[h0];simp;omega,fun k' eQ=>by rw[h0];simp⟩
     rw[hlen,aF wg]
    ·refine .inr ⟨i,o+lo*z,some (k-lo),c,e,rw,?_,q2,q3,cC,by rw[hlen];omega,fun k' eQ=>by simp at eQ;rw[hlen];omega⟩
     rw[hlen,au wg]
  |none=>
   have Y4:l.length<=(c.length-o)/z:=by
    rw[FR hz];omega
   have hk:hi<=max l.length ((c.length-o)/z):=by omega
   have rp:z≠0:=by omega
   by_cases aD:lo<max l.length ((c.length-o)/z)
   ·refine⟨.slice i (o+lo*z) (hi-lo) none z,?_,.inr ⟨i,o+lo*z,none,c,e,rw,by rw[hlen],q2,q3,cC,by rw[hlen];omega,fun k' eQ=>by cases eQ⟩⟩
    simp only[m_,oK,D6,Src.ev,St.row,q3]
    simp[b1 _ hk,b2,aD,rp]
   ·refine⟨.empty,?_,.inl ⟨qa (by rw[hlen];omega),.inr rfl⟩⟩
    simp only[m_,oK,D6,Src.ev,St.row,q3]
    simp[b1 _ hk,b2,aD,rp]
theorem Sn.one{l:List V}:Sn 1 h N v (l.map fun x=>[x])↔Sl h N v l:=by
 unfold Sn Sl
 constructor
 ·rintro(⟨h1,h2⟩|⟨i,o,cp,c,e,rw,h1,h2,h3,h4,h5,h6⟩)
  ·exact .inl ⟨by simpa using h1,h2⟩
  ·refine .inr ⟨i,o,cp,c,e,rw,by simpa using h1,h2,h3,fun j hj=>?_,by simpa using h5,by simpa using h6⟩
   have:=h4 j [l[j]] (by simp[dk hj])
   have:=Yji this (f:=0) (by omega)
   simp at this
   rw[this,dk hj]
 ·rintro(⟨h1,h2⟩|⟨i,o,cp,c,e,rw,h1,h2,h3,h4,h5,h6⟩)
  ·exact .inl ⟨by simpa using h1,h2⟩
  ·refine .inr ⟨i,o,cp,c,e,rw,by simpa using h1,h2,h3,fun j x hj=>?_,by simpa using h5,by simpa using h6⟩
   simp at hj
   obtain⟨u,hu,rfl⟩:=hj
   have hl:j<l.length:=by
    apply qd;intro hc;rw[gJ hc]at hu;cases hu
   have:=h4 j hl
   rw[hu]at this
   have hc:o+j<c.length:=by omega
   unfold aJ
   rw[aF (by omega),vQ,CV hc]
   rw[dk hc]at this
   simp at this
   simp[this]
def Own(z:Nat)(e:TypeId)(N0:Nat)(h:T O)(N:Nat)(v:V)(l:List (List V)):Prop:=
 (∀x∈l,x.length=z)/\((l=[]/\v=.aa)\/∃i,v=.slice i 0 l.length none z/\N0<=i/\i<N/\h.get i=some (.cells l.flatten e true))
theorem Own.nil{e:TypeId}{N0:Nat}:Own z e N0 h N .aa []:=⟨fun _ h=>by simp at h,.inl ⟨rfl,rfl⟩⟩
theorem Own.ae{e:TypeId}{N0:Nat}{h':T O}{N':Nat}(s:Own z e N0 h N v l)(k:ab h N h' N'):Own z e N0 h' N' v l:=by
 obtain⟨hl,s|⟨i,h1,h2,h3,h4⟩⟩:=s
 ·exact⟨hl,.inl s⟩
 ·exact⟨hl,.inr ⟨i,h1,h2,eY h3 k.le,(k.get i h3).trans h4⟩⟩
theorem Own.len{e:TypeId}{N0:Nat}(s:Own z e N0 h N v l):ki v=some l.length:=by
 obtain⟨_,⟨rfl,rfl⟩|⟨i,rfl,_⟩⟩:=s<;>rfl
theorem vk{z:Nat}:∀{l:List (List V)},(∀x∈l,x.length=z)->l.flatten.length=l.length*z
 |[],_=>by simp
 |x::l,h=>by
  have h1:=h x jk
  have h2:=vk (l:=l) fun y hy=>h y (iz _ hy)
  simp only[List.flatten_cons,fQ,h1,h2,bh,iE];omega
theorem I3{z:Nat}:∀{l:List (List V)},(∀x∈l,x.length=z)->∀{j:Nat} {x:List V},l[j]?=some x->aJ l.flatten (j*z) z=some x
 |[],_,j,x,hj=>by simp at hj
 |y::l,h,0,x,hj=>by
  have h1:=h y jk
  simp at hj;subst hj
  unfold aJ
  simp[<-h1]
 |y::l,h,j+1,x,hj=>by
  have h1:=h y jk
  have h2:=I3 (l:=l) (fun y hy=>h y (iz _ hy)) (j:=j) (x:=x) (by simpa using hj)
  obtain⟨h3,h4⟩:=MD h2
  unfold aJ
  rw[aF (by simp only[List.flatten_cons,fQ,iE,h1];omega),h4]
  congr 2
  rw[List.flatten_cons,iE,Nat.one_mul,Nat.add_comm,<-List.drop_drop,<-h1,List.drop_left]
theorem Own.sn{e:TypeId}{N0:Nat}(s:Own z e N0 h N v l):Sn z h N v l:=by
 obtain⟨hl,⟨h1,h2⟩|⟨i,h1,h2,h3,h4⟩⟩:=s
 ·exact .inl ⟨h1,.inl h2⟩
 ·exact .inr ⟨i,0,none,l.flatten,e,true,h1,h3,h4,fun j x hj=>by rw[rT];exact I3 hl hj,by rw[vk hl];omega,fun k hk=>by cases hk⟩
def Tj(st:St)(size bytes:Nat)(e:TypeId):Option V->Option V->Option (V×St)
 |some s,some x=>jQ st size bytes e s x
 |_,_=>none
theorem Ztt{size:Nat}{e:TypeId}{z:List V}{s x:Src}{call:cm}{r:T V}{st:St}:zP size bytes e z s x call r st=Tj st size bytes e (s.ev r) (x.ev r):=by
 unfold zP Tj;rfl
theorem Cc{st:St}{size:Nat}{e:TypeId}{s x:V}:Tj st size bytes e (some s) (some x)=jQ st size bytes e s x:=rfl
attribute [simp] Ztt Cc
theorem pU{e:TypeId}{N0:Nat}{u:V}{x:List V}{w:List Nat}(s:Own z e N0 h N v l)(hN:N0<=N)(hz:0<z)(hx:x.length=z)
  (hu:eC ⟨h,N,w⟩ z u=some (1,x)) (hb:2*(l.length+1)*bytes<=281474976710656):
  ∃v' h' w',jQ ⟨h,N,w⟩ z bytes e v u=some (v',⟨h',N+1,w'⟩)/\ad N0 w'=ad N0 w/\ab h N0 h' (N+1)/\(∀j,h'.get j=h.get j\/j=N\/(∃o n c q,v=.slice j o n c q))/\Own z e N0 h' (N+1) v' (l++[x]):=by
 obtain⟨hl,s⟩:=s
 have uk:∀y∈l++[x],y.length=z:=fun y hy=>by
  rcases oF.1 hy with hy|hy
  ·exact hl y hy
  ·simp at hy;rw[hy,hx]
 have rp:z≠0:=by omega
 rcases s with⟨rfl,rfl⟩|⟨i,rfl,h2,h3,h4⟩
 ·refine⟨.slice N 0 1 none z,h.set N (.cells x e true),w,?_,rfl,⟨by omega,fun j hj=>by rw[T.ai,au (by omega)]⟩,fun j=>by rw[T.ai];by_cases hj:j=N<;>simp[hj],uk,.inr ⟨N,by simp,hN,by omega,by rw[T.ai];simp⟩⟩
  have rP:2*1*bytes<=281474976710656:=by simpa using hb
  simp only[jQ,hu,yK,St.alloc]
  simp[rP,rp]
 ·have mS:=vk hl
  refine⟨.slice N 0 (l.length+1) none z,(h.set i .dead).set N (.cells (l.flatten++x) e true),i::w,?_,by simp[ad,uV.2 h2],⟨by omega,fun j hj=>by rw[T.ai,au (by omega),T.ai,au (by omega)]⟩,fun j=>?_,uk,.inr ⟨N,by simp,hN,by omega,by rw[T.ai];simp⟩⟩
  ·simp only[jQ,hu,yK,St.row,h4]
   rw[au (by omega),au (by rintro(h|h|h)<;>omega)]
   simp only[if_true]
   rw[au (by rw[mS,iE];omega),aF ⟨by rw[mS];omega,trivial,trivial⟩]
   rfl
  ·by_cases hj:j=N
   ·exact .inr (.inl hj)
   ·by_cases ma:j=i
    ·exact .inr (.inr ⟨0,l.length,none,z,by rw[ma]⟩)
    ·left;rw[T.ai,au hj,T.ai,au ma]
abbrev a_:=List UInt8
def jh(c:UInt8):Bool:=decide (48<=c.toNat/\c.toNat<=57)
def gS:a_->Bool
 |[]=>false
 |c::s=>(c::s).all jh&&(decide (c.toNat≠48)||decide (s=[]))
def ah:a_->Nat
 |[]=>0
 |c::s=>if c.toNat=47 then 0 else ah s+1
def aB(s:a_):Nat:=s.foldl (fun n c=>10*n+(c.toNat-48)) 0
def cv:a_->Bool
 |[]=>false
 |c::_=>decide (c.toNat=45)
def bp(s:a_):a_:=if cv s then s.drop 1 else s
def fJ(neg:Bool)(p:a_)(broken:Bool)(d:a_):Bool:=gS p&&!(neg&&decide (p=[48]))&&(!broken||(gS d&&decide (d≠[48])&&decide (d≠[49])))
def ji(neg:Bool)(p:a_)(broken:Bool)(d:a_):Nat:=
 if fJ neg p broken d=false then 1 else if 600<p.length\/600<d.length then 4 else if broken=true/\Nat.gcd (aB p) (aB d)≠1 then 1 else 0
def GI(neg:Bool)(t:a_):Nat:=ji neg (t.take (ah t)) (decide (ah t<t.length)) (t.drop (ah t+1))
def bk(s:a_):Nat:=GI (cv s) (bp s)
theorem B3:∀(s:a_),ah s<=s.length
 |[]=>aS _
 |c::s=>by
  have:=B3 s
  simp only[ah,bh]
  split<;>omega
structure oP where
 name:a_
 op:a_
 xl:a_
 gY:List a_
 cost:Int
def pos:List oP->a_->Nat
 |[],_=>0
 |s::g,n=>if s.name=n then 0 else pos g n+1
structure Opn where
 xl:Bool
 lo:Nat
 hi:Nat
variable {i:Nat} {j:Int} {k:IntKind} {r:T V} {s:a_} {x:Src}
def Y5(s:a_)(p:Nat):Int:=(Utf8.decode ⟨s.toArray⟩ p).1
def Y6(s:a_)(p:Nat):Nat:=(Utf8.decode ⟨s.toArray⟩ p).2
def D8(i:Nat)(st:St):Option (a_×Nat)->Option (V×St)
 |some (s,p)=>if p<s.length then some (.aZ [.bool true,.int .i64 p,.int .i32 (Utf8.decode ⟨s.toArray⟩ p).1],st.write i (.dT s (p+(Utf8.decode ⟨s.toArray⟩ p).2))) else some (.aZ [.bool false],st)
 |none=>none
def MZ:Option O->Option (a_×Nat)
 |some (.dT s p)=>some (s,p)
 |_=>none
def Tk(st:St):Option V->Option (V×St)
 |some (.ptr i 0)=>D8 i st (MZ (st.h.get i))
 |_=>none
theorem Zrf{call:cm}{st:St}:Dl x call r st=Tk st (x.ev r):=by
 unfold Dl Tk
 rcases x.ev r with _|v
 ·rfl
 ·cases v<;>try rfl
  rename_i i o
  cases o with
  |zero=>
   simp only[MZ,D8]
   rcases st.h.get i with _|o
   ·rfl
   ·cases o<;>rfl
  |succ=>rfl
theorem Zxo{st:St}:Tk st (some (.ptr i 0))=D8 i st (MZ (st.h.get i)):=rfl
theorem Ztd{p:Nat}:MZ (some (.dT s p))=some (s,p):=rfl
theorem Ybb{st:St}{p:Nat}(h:p<s.length):D8 i st (some (s,p))=some (.aZ [.bool true,.int .i64 p,.int .i32 (Y5 s p)],st.write i (.dT s (p+Y6 s p))):=by simp[D8,h,Y5,Y6]
theorem Zxp{st:St}:D8 i st (some (s,s.length))=some (.aZ [.bool false],st):=by simp[D8]
def rA(st:St):Option V->Option (Option V)->Option (Option V)->Option (V×St)
 |some (.str s),some lo,some hi=>match cR hi s.length s.length with
   |some h=>match cR lo h 0 with
    |some l=>some (.str ((s.take h).drop l),st)
    |none=>none
   |none=>none
 |_,_,_=>none
theorem Zpx{lo hi:Option Src}{call:cm}{st:St}:vT x lo hi call r st=rA st (x.ev r) (ay r lo) (ay r hi):=by
 unfold vT rA;rfl
theorem GO{st:St}(h0:0<=j)(h1:j<=s.length):rA st (some (.str s)) (some (some (.int k j))) (some none)=some (.str (s.drop j.toNat),st):=by
 simp[rA,cR,jq,h0,h1]
theorem Tl{st:St}(h0:0<=j)(h1:j<=s.length):rA st (some (.str s)) (some none) (some (some (.int k j)))=some (.str (s.take j.toNat),st):=by
 simp[rA,cR,jq,h0,h1]
theorem Y7{st:St}{k':IntKind}{i:Int}(h0:0<=i)(h1:i<=j)(h2:j<=s.length):rA st (some (.str s)) (some (some (.int k i))) (some (some (.int k' j)))=some (.str ((s.take j.toNat).drop i.toNat),st):=by
 have h3:0<=j:=by omega
 have h4:max j 0=j:=by omega
 simp[rA,cR,jq,h0,h1,h2,h3,h4]
def D9(s:a_):List V:=s.map fun b=>.int .u8 (cB b)
theorem Zy9(s:a_):(D9 s).length=s.length:=by simp[D9]
theorem Zza{k:Nat}{c:UInt8}(h:s[k]?=some c):(D9 s)[k]?=some (.int .u8 (cB c)):=by simp[D9,h]
def Tm(elem:TypeId)(st:St):Option V->Option (V×St)
 |some (.str s)=>some (.slice st.n 0 s.length none 1,st.alloc (.cells (D9 s) elem true))
 |_=>none
theorem Zpw{elem:TypeId}{call:cm}{st:St}:Bu elem x call r st=Tm elem st (x.ev r):=by
 unfold Bu Tm;rfl
theorem Yez{elem:TypeId}{st:St}:Tm elem st (some (.str s))=some (.slice st.n 0 s.length none 1,st.alloc (.cells (D9 s) elem true)):=rfl
attribute [simp] Zpw Yez Zy9 Zrf Zxo Ztd Ybb Zxp Zpx GO Tl Y7 Dk
theorem Y8:∀(s:a_) (i:Nat),C4 47 s i=if ah s<s.length then ((i+ah s:Nat):Int) else -1
 |[],i=>rfl
 |c::s,i=>by
  simp only[C4,ah]
  have e:(c==47)=decide (c.toNat=47):=by
   rw[Bool.eq_iff_iff]
   simp only[beq_iff_eq,decide_eq_true_eq]
   exact⟨fun h=>by rw[h];rfl,fun h=>UInt8.toNat_inj.1 h⟩
  rw[e]
  by_cases h:c.toNat=47
  ·simp[h]
  ·simp only[h,decide_false,if_false,fx,Y8 s (i+1),bh]
   by_cases h2:ah s<s.length
   ·rw[aF h2,aF (by omega)];omega
   ·rw[au h2,au (by omega)]
end Go.Mx
