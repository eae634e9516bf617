/-Slices of which only the elements are kn-/
import Derived.Test.YtlbnjhhebffhdaaGreatDoorMxLim
set_option linter.all false
namespace Go.Mx
open Go
variable {N a b i k n o size:Nat} {h:T O} {j:Int} {l:List Nat} {r r0:T V} {v:V} {x:Src}
def rH:V->Option Nat
 |.ziA=>some 0
 |.empty=>some 0
 |.slice _ _ n _ _=>some n
 |_=>none
def wQ:V->Option (Nat×Nat)
 |.slice i o _ _ _=>some (i,o)
 |_=>none
def Yno(st:St):Option Nat->Option (V×St)
 |some n=>some (.int .i64 n,st)
 |none=>none
def Ys7(st:St):Option V->Option (V×St)
 |some v=>Yno st (rH v)
 |none=>none
def Yh7{call:cP}{st:St}:xd 1 x call r st=Ys7 st (x.ev r):=by
 unfold xd Ys7
 rcases x.ev r with _|v
 ·rfl
 ·cases v<;>rfl
def Yem{st:St}:Ys7 st (some v)=Yno st (rH v):=rfl
def Zz6{st:St}:Yno st (some n)=some (.int .i64 n,st):=rfl
def T9(st:St)(size k:Nat):Option (Nat×Nat)->Option (V×St)
 |some (i,o)=>some (.ptr i (o+k*size),st)
 |none=>none
def PB(st:St)(size:Nat)(v:V)(k:Int):Option Nat->Option (V×St)
 |some n=>if 0<=k/\k<(n:Int) then T9 st size k.toNat (wQ v) else none
 |none=>none
def Yo3(st:St)(size:Nat):Option V->Option V->Option (V×St)
 |some v,some (.int _ k)=>PB st size v k (rH v)
 |_,_=>none
def Zsa{i:Src}{call:cP}{st:St}:DN size x i call r st=Yo3 st size (x.ev r) (i.ev r):=by
 unfold DN Yo3
 rcases x.ev r with _|v
 ·rfl
 ·rcases i.ev r with _|u
  ·cases v<;>rfl
  ·cases u<;>cases v<;>simp[PB,T9,rH,wQ]<;>omega
def Ybh{st:St}{k:IntKind}:Yo3 st size (some v) (some (.int k j))=PB st size v j (rH v):=rfl
def Ygh{st:St}(h0:0<=j)(h1:j<(n:Int)):PB st size v j (some n)=T9 st size j.toNat (wQ v):=by simp[PB,h0,h1]
def Zwa{st:St}:T9 st size k (some (i,o))=some (.ptr i (o+k*size),st):=rfl
def Yvl(a b:Int):(a==b)=decide (a=b):=by
 by_cases h:a=b<;>simp[h]
def Yvk(a b:Int):(a !=b)=!decide (a=b):=by
 by_cases h:a=b<;>simp[h]
def Yg6(a b:Nat):((a:Int)+(b:Int)).toNat=a+b:=by omega
def Yg5(a b:Nat):((a:Int)-(b:Int)).toNat=a-b:=by omega
def Ytm(a b n:Nat):((a:Int)+(b:Int)<(n:Int))↔a+b<n:=by omega
def Zyt(b:Nat):((64:Int)-(b:Int)).toNat=64-b:=by omega
attribute [simp] Zyt Yvl Yvk Int.natCast_inj Yg6 Yg5 Ytm
def Ys6(st:St):Option V->Option (V×St)
 |some (.str s)=>some (.int .i64 s.length,st)
 |_=>none
def Yh8{call:cP}{st:St}:xd 0 x call r st=Ys6 st (x.ev r):=by
 unfold xd Ys6
 rcases x.ev r with _|v
 ·rfl
 ·cases v<;>rfl
def Yel{st:St}{s:List UInt8}:Ys6 st (some (.str s))=some (.int .i64 s.length,st):=rfl
def Zz4{i o n c z}:rH (.slice i o n c z)=some n:=rfl
def Yis:rH .ziA=some 0:=rfl
def Zz5:rH .empty=some 0:=rfl
def Zv7{i o n c z}:wQ (.slice i o n c z)=some (i,o):=rfl
attribute [simp] Yh7 Yh8 Yel Zz4 Yis Zz5 Zv7 Yem Zz6 Zsa Ybh Ygh Zwa
def cX(b:UInt8):Int:=b.toNat
def Ybu(b:UInt8):0<=cX b/\cX b<256:=by unfold cX;have:=b.toNat_lt;omega
def Ua(st:St):Option UInt8->Option (V×St)
 |some b=>some (.int .u8 b.toNat,st)
 |none=>none
def Ub(st:St):Option V->Option V->Option (V×St)
 |some (.str s),some (.int _ k)=>if 0<=k then Ua st s[k.toNat]? else none
 |_,_=>none
def Zuv{i:Src}{call:cP}{st:St}:DO x i call r st=Ub st (x.ev r) (i.ev r):=by
 unfold DO Ub Ua
 rcases x.ev r with _|v
 ·rfl
 ·rcases i.ev r with _|u
  ·cases v<;>rfl
  ·cases u<;>cases v<;>rfl
def Yey{st:St}{s:List UInt8}{k:IntKind}(h:0<=j):Ub st (some (.str s)) (some (.int k j))=Ua st s[j.toNat]?:=by simp[Ub,h]
def Yal{st:St}{b:UInt8}:Ua st (some b)=some (.int .u8 (cX b),st):=rfl
attribute [simp] Zuv Yey Yal
def Uc(st:St)(elem:TypeId)(size bytes:Nat)(zero:List V):Option V->Option V->Option (V×St)
 |some (.int _ l),some (.int _ c)=>if 0<=l/\l<=c/\bytes*c<=2^47/\c<2^62/\size=zero.length/\size≠0 then
    some (.slice st.n 0 l.toNat (some c.toNat) size,st.alloc (.cells (dr zero c.toNat) elem true)) else none
 |_,_=>none
def Zr8{elem:TypeId}{bytes:Nat}{zero:List V}{y:Src}{call:cP}{st:St}:B2 elem size bytes zero x y call r st=Uc st elem size bytes zero (x.ev r) (y.ev r):=by
 unfold B2 Uc;rfl
def Yip{st:St}{elem:TypeId}{bytes:Nat}{zero:List V}{k k':IntKind}{l:Int}(h0:0<=l)(h1:bytes*l<=140737488355328)(h2:l<4611686018427387904)(h3:size=zero.length)(h4:0<size):
  Uc st elem size bytes zero (some (.int k l)) (some (.int k' l))=some (.slice st.n 0 l.toNat (some l.toNat) size,st.alloc (.cells (dr zero l.toNat) elem true)):=by
 unfold Uc
 simp only[]
 rw[aR ⟨h0,Int.le_refl _,by simpa using h1,by simpa using h2,h3,by omega⟩]
def Ud(n:Nat)(st:St):Option V->Option V->Option (V×St)
 |some (.ptr i o),some v=>match st.row i with
   |some (c,e,true)=>if v.cells.length=n/\o+n<=c.length/\v.cells.all V.one=true then some (.aX [],st.write i (.cells (aj c o v.cells) e true)) else none
   |_=>none
 |_,_=>none
def Zze{a:Src}{call:cP}{st:St}:DK n a x call r st=Ud n st (a.ev r) (x.ev r):=by
 unfold DK Ud;rfl
def bM(n:Nat)(st:St)(i o:Nat)(v:V):Option O->Option (V×St)
 |some (.cells c e true)=>if v.cells.length=n/\o+n<=c.length/\v.cells.all V.one=true then some (.aX [],st.write i (.cells (aj c o v.cells) e true)) else none
 |_=>none
def Zyx{st:St}:Ud n st (some (.ptr i o)) (some v)=bM n st i o v (st.h.get i):=by
 unfold Ud bM St.row
 simp only[]
 rcases st.h.get i with _|x
 ·rfl
 ·cases x with
  |cells c e b=>cases b<;>rfl
  |_=>rfl
def Zl6{w:List Nat}{c:List V}{e:TypeId}(h1:v.cells.length=n)(h2:o+n<=c.length)(h3:v.cells.all V.one=true):
  bM n ⟨h,N,w⟩ i o v (some (.cells c e true))=some (.aX [],⟨h.set i (.cells (aj c o v.cells) e true),N,i::w⟩):=by
 unfold bM
 simp only[]
 rw[aR ⟨h1,h2,h3⟩];rfl
attribute [simp] Zr8 Yip Zze Zyx Zl6
def bJ(n:Nat):Nat:=n%18446744073709551616
def cG(n:Nat):Nat:=n/18446744073709551616
def eG(x y c:Nat):Nat:=(x+18446744073709551616-y-c)%18446744073709551616
def fG(x y c:Nat):Nat:=if x<y+c then 1 else 0
def zid(a b:Nat):Nat:=a/2^b
def bS(a b:Nat):Nat:=a*2^b%18446744073709551616
def ff(a:Nat):Nat:=a%4294967296
def iY(a b:Nat):Nat:=a|||b
def My(n:Int):IntKind.wrap .u64 n=n%18446744073709551616:=by simp[IntKind.wrap,IntKind.bits,IntKind.signed]
def Ej{n:Int}(h1:0<=n)(h2:n<18446744073709551616):bA .u64 n=n:=by rw[zj,My];omega
def Mz(n:Int):bA .u64 n=n%18446744073709551616:=by rw[zj,My]
def Zyz{b:Int}(h0:0<=b)(h1:b<=64):xU .shr .u64 (a:Int) b=some (.int .u64 (zid a b.toNat:Nat)):=by
 unfold xU zid
 have e:min b.toNat (IntKind.bits .u64)=b.toNat:=by simp[IntKind.bits];omega
 rw[aA (by omega),e]
 simp only[au,V.int.injEq,true_and]
 rw[Int.fdiv_eq_ediv_of_nonneg _ (by exact_mod_cast tR _)]
 push_cast
 rfl
def Zy0{b:Int}(h0:0<=b)(h1:b<=64):xU .shl .u64 (a:Int) b=some (.int .u64 (bS a b.toNat:Nat)):=by
 unfold xU bS
 have e:min b.toNat (IntKind.bits .u64)=b.toNat:=by simp[IntKind.bits];omega
 rw[aA (by omega),e]
 show some (V.int .u64 (IntKind.wrap .u64 ((a:Int)*2^b.toNat)))=_
 rw[My]
 have:(((a*2^b.toNat%18446744073709551616:Nat)):Int)=(a:Int)*2^b.toNat%18446744073709551616:=by
  rw[Int.natCast_emod,LD,Int.natCast_pow];rfl
 rw[this]
def To(a:Nat)(h:a<18446744073709551616):(BitVec.ofInt 64 (a:Int)).toNat=a:=by
 simp[BitVec.toNat_ofInt];omega
def Zsy(h:a<18446744073709551616):qG .and .u64 (a:Int) 4294967295=some (.int .u64 (ff a:Nat)):=by
 show some (V.int .u64 (IntKind.wrap .u64 (BitVec.ofInt 64 (a:Int)&&& BitVec.ofInt 64 4294967295).toNat))=_
 rw[My,BitVec.toNat_and,To a h]
 have e:(BitVec.ofInt 64 4294967295).toNat=2^32-1:=by decide
 rw[e,Nat.and_two_pow_sub_one_eq_mod]
 unfold ff
 simp only[au,V.int.injEq,true_and]
 omega
def Yev(h:a<18446744073709551616)(h':b<18446744073709551616):qG .or .u64 (a:Int) (b:Int)=some (.int .u64 (iY a b:Nat)):=by
 show some (V.int .u64 (IntKind.wrap .u64 (BitVec.ofInt 64 (a:Int)|||BitVec.ofInt 64 (b:Int)).toNat))=_
 rw[My,BitVec.toNat_or,To a h,To b h']
 have:=Nat.or_lt_two_pow (n:=64) h h'
 unfold iY
 simp only[au,V.int.injEq,true_and]
 omega
def cW(a b:Nat):Nat:=(a+b)%18446744073709551616
def zgg(a b:Nat):Nat:=((a:Int)-b).toNat%18446744073709551616+(if a<b then (((a:Int)-b)%18446744073709551616).toNat else 0)
def c_(a b:Nat):Nat:=(a*b)%18446744073709551616
def lF(a b:Nat):Nat:=a/b
def PC(a b:Nat):Nat:=a%b
def Zyp:bA .u64 ((a:Int)+(b:Int))=(cW a b:Nat):=by rw[Mz];unfold cW;omega
def Zo7:bA .u64 ((a:Int)-(b:Int))=(zgg a b:Nat):=by
 rw[Mz];unfold zgg
 split<;>omega
def Ztw:bA .u64 ((a:Int)-1)=(zgg a 1:Nat):=Zo7 (b:=1)
def Zll:bA .u64 ((a:Int)*(b:Int))=(c_ a b:Nat):=by
 rw[Mz];unfold c_
 rw[<-LD];omega
def Zrm:bA .u64 ((a:Int)*4294967296)=(c_ a 4294967296:Nat):=Zll (b:=4294967296)
def Zp7:bA .u64 (4294967296*(a:Int))=(c_ 4294967296 a:Nat):=Zll (a:=4294967296)
def Zyo(h:a<18446744073709551616):bA .u64 ((a:Int).tdiv (b:Int))=(lF a b:Nat):=by
 rw[Mz];unfold lF
 have e:((a:Int).tdiv (b:Int))=((a/b:Nat):Int):=rfl
 have:=th a b
 rw[e]
 generalize a/b=q at*
 omega
def Ybz:(a:Int).tmod (b:Int)=(PC a b:Nat):=rfl
def Ek(h:b<=a)(ha:a<18446744073709551616):zgg a b=a-b:=by unfold zgg;split<;>omega
def Yo2:cW a b<18446744073709551616:=kf _ (by decide)
def Ym3:c_ a b<18446744073709551616:=kf _ (by decide)
def Zqg:bS a b<18446744073709551616:=kf _ (by decide)
def Yb1:zgg a b<18446744073709551616:=by unfold zgg;split<;>omega
def Zwt(h:a<18446744073709551616):zid a b<18446744073709551616:=oe (th _ _) h
attribute [simp] Yo2 Ym3 Zqg Yb1 Zyp Zo7 Ztw Zll Zrm Zp7 Zyo Ybz Zyz Zy0 Zsy Yev
def JI(st:St)(e:Ext)(o:Option (List V)):Option (V×St):=match e,o with
  |.same,some [v]=>some (v,st)
  |e,some l=>match BZ e l with
   |some v=>some (v,st)
   |none=>none
  |_,none=>none
def Yh9{e:Ext}{args:List Src}{call:cP}{st:St}:I3 e args call r st=JI st e (tB r args):=rfl
def Yfe{st:St}:JI st .same (some [v])=some (v,st):=rfl
def Yax{st:St}{x y c:Int}(h:c=0\/c=1):JI st .nd (some [.int .u64 x,.int .u64 y,.int .u64 c])=some (.aX [.int .u64 (bJ (x.toNat+y.toNat+c.toNat):Nat),.int .u64 (cG (x.toNat+y.toNat+c.toNat):Nat)],st):=by
 simp only[JI,BZ,h,not_true_eq_false,if_false]
 rfl
def Yaw{st:St}{x y c:Int}(h:c=0\/c=1):JI st .nf (some [.int .u64 x,.int .u64 y,.int .u64 c])=some (.aX [.int .u64 (eG x.toNat y.toNat c.toNat:Nat),.int .u64 (fG x.toNat y.toNat c.toNat:Nat)],st):=by
 simp only[JI,BZ,h,not_true_eq_false,if_false,fG]
 split<;>rfl
def Yei:bJ n<18446744073709551616:=kf _ (by decide)
def Yma{c:Nat}:eG a b c<18446744073709551616:=kf _ (by decide)
attribute [simp] Yei Yma Yh9 Yfe Yax Yaw
def oM(st:St)(size:Nat):Option V->Option (Option V)->Option (Option V)->Option (Option V)->Option (V×St)
 |some v,some lo,some hi,some mx=>qH size (.const v) (lo.map .const) (hi.map .const) (mx.map .const) Zrd .nil st
 |_,_,_,_=>none
def JJ{o:Option V}:aH r (o.map .const)=some o:=by cases o<;>rfl
def Nb{lo hi mx:Option Src}{call:cP}{st:St}:qH size x lo hi mx call r st=oM st size (x.ev r) (aH r lo) (aH r hi) (aH r mx):=by
 unfold oM qH
 rcases x.ev r with _|v
 ·rfl
 ·rcases aH r lo with _|lo
  ·cases v<;>try rfl
   rename_i c _;cases c<;>rfl
  ·rcases aH r hi with _|hi
   ·cases v<;>try rfl
    rename_i c _;cases c<;>rfl
   ·rcases aH r mx with _|mx
    ·cases v<;>try rfl
     rename_i c _;cases c<;>rfl
    ·simp only[JJ];rfl
def Sl(h:T O)(N:Nat)(v:V)(l:List V):Prop:=
 (l=[]/\(v=.ziA\/v=.empty))\/∃i o cp c e rw,v=.slice i o l.length cp 1/\i<N/\h.get i=some (.cells c e rw)/\(∀j,j<l.length->c[o+j]?=l[j]?)/\o+l.length<=c.length/\∀k,cp=some k->l.length<=k
def Sl.nil:Sl h N .ziA []:=.inl ⟨rfl,.inl rfl⟩
def Sl.row{L:Nat}{l:List V}{e:TypeId}{rw:Bool}{cp:Option Nat}(hi:i<N)(hg:h.get i=some (.cells l e rw))(hL:l.length=L)(hc:∀k,cp=some k->L<=k):Sl h N (.slice i 0 L cp 1) l:=
 .inr ⟨i,0,cp,l,e,rw,by rw[hL],hi,hg,fun j _=>by rw[oJ],by omega,fun k hk=>by rw[hL];exact hc k hk⟩
def Sl.ai{h':T O}{N':Nat}{l:List V}(s:Sl h N v l)(k:ah h N h' N'):Sl h' N' v l:=by
 rcases s with s|⟨i,o,cp,c,e,rw,h1,h2,h3,h4⟩
 ·exact .inl s
 ·exact .inr ⟨i,o,cp,c,e,rw,h1,iL h2 k.le,(k.get i h2).trans h3,h4⟩
def Sl.len{l:List V}(s:Sl h N v l):rH v=some l.length:=by
 rcases s with⟨rfl,rfl|rfl⟩|⟨i,o,cp,c,e,rw,rfl,_⟩<;>rfl
def Sl.at{l:List V}(s:Sl h N v l){j:Nat}{x:V}(hj:l[j]?=some x):∃i o c e rw,wQ v=some (i,o)/\i<N/\h.get i=some (.cells c e rw)/\c[o+j]?=some x:=by
 have hl:j<l.length:=by
  apply Yxf;intro hc;rw[kc hc]at hj;cases hj
 rcases s with⟨rfl,_⟩|⟨i,o,cp,c,e,rw,rfl,h2,h3,h4,_⟩
 ·simp at hl
 ·exact⟨i,o,c,e,rw,rfl,h2,h3,(h4 j hl).trans hj⟩
def val(b:Nat):List Nat->Nat
 |[]=>0
 |d::l=>d+b*val b l
def dg(l:List Nat):List V:=l.map fun n:Nat=>.int .u64 n
def dgi(l:List Nat):List V:=l.map fun n:Nat=>.int .i64 n
def bH(l:List Nat):(dg l).length=l.length:=by simp[dg]
def cy(l:List Nat):(dgi l).length=l.length:=by simp[dgi]
def Za8{j:Nat}(h:l[j]?=some n):(dg l)[j]?=some (.int .u64 n):=by simp[dg,h]
attribute [simp] bH cy
def oT{v:Nat}(h:k<l.length):aj (dg l) k [.int .u64 v]=dg (l.set k v):=by
 unfold aj dg
 apply o8
 intro j
 simp only[zf,jT,List.getElem?_set]
 rw[rB,List.getElem?_append,j9,Lh]
 by_cases h1:j<k
 ·rw[aR (by omega),kW,aR h1,jT,aA (by omega)]
 ·rw[aA (by omega)]
  by_cases h2:j=k
  ·subst h2
   rw[show j-min j l.length=0 by omega,aR rfl,aR h];rfl
  ·rw[show j-min k l.length=(j-k-1)+1 by omega,aA (by omega)]
   simp only[Te,Yx6,gH,jT]
   rw[show k+1+(j-k-1)=j by omega]
def JK:dr [.int .u64 0] n=dg (List.replicate n 0):=by
 unfold dr dg
 apply o8
 intro j
 simp only[zf,wP,jT,List.getElem?_replicate]
 by_cases h:j<n
 ·simp[h,Nat.mod_one]
 ·simp[h]
def Ykb{z:V}:dr [z] n=List.replicate n z:=by
 unfold dr
 apply o8
 intro j
 simp only[zf,wP,jT,List.getElem?_replicate]
 by_cases h:j<n
 ·simp[h,Nat.mod_one]
 ·simp[h]
def Ue(b:Nat):∀(l m:List Nat),val b (l++m)=val b l+b^l.length*val b m
 |[],m=>by simp[val]
 |d::l,m=>by
  simp only[BV,val,Ue b l m,bC,fV]
  grind
def Uf(b:Nat)(l:List Nat)(d:Nat):val b (l++[d])=val b l+b^l.length*d:=by simp[Ue,val]
def Zro(b n:Nat):val b (List.replicate n 0)=0:=by
 induction n with
 |zero=>rfl
 |succ n ih=>simp[Xee,val,ih]
def El{d:Nat}(h:l[k]?=some d):val b (l.take (k+1))=val b (l.take k)+b^k*d:=by
 have hk:k<l.length:=by
  apply Yxf;intro hc;rw[kc hc]at h;cases h
 rw[HQ,h]
 simp only[Option.toList]
 rw[Uf,j9,oW (by omega)]
def Em{b:Nat}:∀{l:List Nat},(∀d∈l,d<b)->val b l<b^l.length
 |[],_=>by simp[val]
 |d::l,h=>by
  have h1:=h d oV
  have h2:=Em (l:=l) fun e he=>h e (oY _ he)
  simp only[val,bC,fV]
  have:b*(val b l+1)<=b*b^l.length:=jh b h2
  rw[iz (b^l.length) b]
  grind
def B:Nat:=18446744073709551616
def Dg(l:List Nat):Prop:=∀d∈l,d<B
def Dg.get(h:Dg l){j d:Nat}(hj:l[j]?=some d):d<B:=h d (eI hj)
def dz(l:List Nat)(j:Nat):Nat:=l[j]?.getD 0
def Yra{l:List Nat}(h:Dg l)(j:Nat):dz l j<B:=by
 unfold dz
 cases hj:l[j]? with
 |none=>decide
 |some d=>exact h.get hj
def CH{b:Nat}{l:List Nat}{k:Nat}:val b (l.take (k+1))=val b (l.take k)+b^k*dz l k:=by
 unfold dz
 cases h:l[k]? with
 |some d=>exact El h
 |none=>
  have hk:l.length<=k:=by
   apply vD;intro hc;rw[Yv8 hc]at h;cases h
  rw[jP (by omega),jP hk];simp
def rP:List Nat->List Nat
 |[]=>[]
 |d::l=>match rP l with
  |[]=>if d=0 then [] else [d]
  |t=>d::t
def Zo9:∀(l:List Nat),rP (l++[0])=rP l
 |[]=>rfl
 |d::l=>by simp only[BV,rP,Zo9 l]
def Zpa{d:Nat}(hd:d≠0):∀(l:List Nat),rP (l++[d])=l++[d]
 |[]=>by simp[rP,hd]
 |e::l=>by
  simp only[BV,rP,Zpa hd l]
  cases l<;>rfl
def jx:List (Nat×Nat)->Nat->Bool
 |[],_=>false
 |(a,b)::D,t=>(Nat.ble a t&&Nat.ble t b)||jx D t
def Ynw{t:Nat}:jx [] t=false:=rfl
def Yiw{D:List (Nat×Nat)}{t:Nat}:jx ((a,b)::D) t=((Nat.ble a t&&Nat.ble t b)||jx D t):=rfl
attribute [simp] Ynw Yiw
structure Fx (D:List (Nat×Nat)) (r0:T V) (n:Nat) (fr:Fr):Prop where
 fk:∀t,jx D t=false->fr.r.get t=r0.get t
 n:fr.n=n
 marks:fr.marks=[]
def Fx.refl{D:List (Nat×Nat)}:Fx D r n ⟨r,n,[]⟩:=⟨fun _ _=>rfl,rfl,rfl⟩
def Fx.set{D:List (Nat×Nat)}{t:Nat}(ht:jx D t=true):Fx D r0 n ⟨r.set t v,n,[]⟩↔Fx D r0 n ⟨r,n,[]⟩:=by
 constructor
 ·intro h
  refine⟨fun u hu=>?_,rfl,rfl⟩
  have:=h.fk u hu
  simp only[T.al]at this
  rw[aA]at this
  ·exact this
  ·rintro rfl;rw[ht]at hu;cases hu
 ·intro h
  refine⟨fun u hu=>?_,rfl,rfl⟩
  simp only[T.al]
  rw[aA]
  ·exact h.fk u hu
  ·rintro rfl;rw[ht]at hu;cases hu
attribute [simp] Fx.set
def Yr5(D' D:List (Nat×Nat)):Bool:=D'.all fun p=>D.any fun q=>Nat.ble q.1 p.1&&Nat.ble p.2 q.2
def Yew{D:List (Nat×Nat)}{t:Nat}:jx D t=true↔∃p∈D,p.1<=t/\t<=p.2:=by
 induction D with
 |nil=>simp[jx]
 |cons p D ih=>obtain⟨a,b⟩:=p;simp[jx,ih]
def Yl2{D' D:List (Nat×Nat)}(h:Yr5 D' D=true){t:Nat}(ht:jx D t=false):jx D' t=false:=by
 cases hc:jx D' t with
 |false=>rfl
 |true=>
  obtain⟨p,hp,h1,h2⟩:=Yew.1 hc
  unfold Yr5 at h
  rw[uv]at h
  obtain⟨q,hq,h3⟩:=List.any_eq_true.1 (h p hp)
  simp at h3
  have:jx D t=true:=Yew.2 ⟨q,hq,by omega,by omega⟩
  rw[ht]at this;cases this
def Fx.inner{D D':List (Nat×Nat)}{r1 r2:T V}(hf:Fx D r0 n ⟨r,n,[]⟩)(hs:Yr5 D' D=true)(h1:Fx D r0 n ⟨r,n,[]⟩->Fx D r0 n ⟨r1,n,[]⟩)(h2:∀t,jx D' t=false->r2.get t=r1.get t):Fx D r0 n ⟨r2,n,[]⟩:=
 ⟨fun t ht=>(h2 t (Yl2 hs ht)).trans ((h1 hf).fk t ht),rfl,rfl⟩
def Rd(D:List (Nat×Nat))(r0:T V)(n:Nat)(I:Nat->T V->St->Prop)(k:Nat)(P:Ex->T V->St->Prop):Ex->Fr->St->Prop
 |.normal,fr,st=>Fx D r0 n fr/\∃k',k'<k/\I k' fr.r st
 |e,fr,st=>Fx D r0 n fr/\P e fr.r st
def Ztu{D r0 n I k P r st}:Rd D r0 n I k P .normal ⟨r,n,[]⟩ st↔Fx D r0 n ⟨r,n,[]⟩/\∃k',k'<k/\I k' r st:=Iff.rfl
def Ypf{D r0 n I k P r st i}:Rd D r0 n I k P (.exit i) ⟨r,n,[]⟩ st↔Fx D r0 n ⟨r,n,[]⟩/\P (.exit i) r st:=Iff.rfl
def Yrp{D r0 n I k P r st}:Rd D r0 n I k P .ret ⟨r,n,[]⟩ st↔Fx D r0 n ⟨r,n,[]⟩/\P .ret r st:=Iff.rfl
attribute [simp] Ztu Ypf Yrp
def Zal{C:Cx}{ro:Option Nat}{c:cC}{K:List Kf}{Q:Rs->Prop}{OQ:St}(D:List (Nat×Nat))(P:Ex->T V->St->Prop)(I:Nat->T V->St->Prop)(k:Nat)(hi:I k r0 OQ)
  (h:∀k r st,(∀t,jx D t=false->r.get t=r0.get t)->Fx D r0 n ⟨r,n,[]⟩->I k r st->Code C ro c ⟨r,n,[]⟩ st (Rd D r0 n I k P))
  (q:∀e r st,(∀t,jx D t=false->r.get t=r0.get t)->P e r st->Run C K (some (.ex e ⟨r,n,[]⟩ st)) Q):Run C K (fx (C.code ro (.loop c) ⟨r0,n,[]⟩ OQ)) Q:=by
 refine Yhn (fun e fr st=>Fx D r0 n fr/\P e fr.r st) (fun k fr st=>Fx D r0 n fr/\I k fr.r st) k ⟨Fx.refl,hi⟩ ?_ ?_
 ·rintro k ⟨r,n',m⟩ st ⟨hf,hi⟩
  have h1:n'=n:=hf.n
  have h2:m=[]:=hf.marks
  subst h1;subst h2
  obtain⟨e,bL,st',h3,h4⟩:=(h k r st hf.fk hf hi).ex
  refine⟨e,bL,st',h3,?_⟩
  cases e with
  |normal=>obtain⟨a,k',b,c⟩:=h4;exact⟨k',b,a,c⟩
  |exit i=>exact h4
  |ret=>exact h4
 ·rintro e ⟨r,n',m⟩ st ⟨hf,hp⟩
  have h1:n'=n:=hf.n
  have h2:m=[]:=hf.marks
  subst h1;subst h2
  exact q e r st hf.fk hp
def R6{l:List V}{w:List Nat}(s:Sl h N v l){lo hi:Nat}(h1:lo<=hi)(h2:hi<=l.length)(x y:Option V)(hx:x=some (.int .i64 lo)\/x=none/\lo=0)(hy:y=some (.int .i64 hi)\/y=none/\hi=l.length):
  ∃v',oM ⟨h,N,w⟩ 1 (some v) (some x) (some y) (some none)=some (v',⟨h,N,w⟩)/\Sl h N v' ((l.take hi).drop lo):=by
 rcases s with⟨rfl,rfl|rfl⟩|⟨i,o,cp,c,e,rw,rfl,q2,q3,q4,q5,q6⟩
 ·have:hi=0:=by simpa using h2
  subst this
  have:lo=0:=by omega
  subst this
  refine⟨.ziA,?_,.inl ⟨rfl,.inl rfl⟩⟩
  rcases hx with rfl|⟨rfl,_⟩<;>rcases hy with rfl|⟨rfl,_⟩<;>simp[oM,qH,aH,dG,Zed]
 ·have:hi=0:=by simpa using h2
  subst this
  have:lo=0:=by omega
  subst this
  refine⟨.empty,?_,.inl ⟨rfl,.inr rfl⟩⟩
  rcases hx with rfl|⟨rfl,_⟩<;>rcases hy with rfl|⟨rfl,_⟩<;>simp[oM,qH,aH,dG,Zed]
 ·have hlen:((l.take hi).drop lo).length=hi-lo:=by simp;omega
  have cY:∀j,j<hi-lo->c[o+lo+j]?=((l.take hi).drop lo)[j]?:=fun j hj=>by
   rw[gH,kW,aR (by omega),show o+lo+j=o+(lo+j) by omega]
   exact q4 _ (by omega)
  have b1:∀m,hi<=m->dG y m l.length=some hi:=fun m hm=>by
   rcases hy with rfl|⟨rfl,rfl⟩
   ·simp[dG,Zed];omega
   ·rfl
  have b2:dG x hi 0=some lo:=by
   rcases hx with rfl|⟨rfl,rfl⟩
   ·simp[dG,Zed];omega
   ·rfl
  cases cp with
  |some k=>
   have hk:=q6 k rfl
   refine⟨.slice i (if k=lo then o else o+lo) (hi-lo) (some (k-lo)) 1,?_,?_⟩
   ·have b0:dG none k k=some k:=rfl
    simp only[oM,qH,JJ,Src.ev,wP]
    simp[b0,b1 k (by omega),b2]
   ·by_cases xr:k=lo
    ·refine .inr ⟨i,o,some 0,c,e,rw,?_,q2,q3,fun j hj=>by rw[hlen]at hj;omega,by rw[hlen];omega,fun k' jO=>by rw[hlen];omega⟩
     rw[hlen,aR xr,show k-lo=0 by omega]
    ·refine .inr ⟨i,o+lo,some (k-lo),c,e,rw,?_,q2,q3,fun j hj=>cY j (by omega),by rw[hlen];omega,fun k' jO=>by simp at jO;rw[hlen];omega⟩
     rw[hlen,aA xr]
  |none=>
   have hk:hi<=max l.length (c.length-o):=by omega
   by_cases aW:lo<max l.length (c.length-o)
   ·refine⟨.slice i (o+lo) (hi-lo) none 1,?_,.inr ⟨i,o+lo,none,c,e,rw,by rw[hlen],q2,q3,fun j hj=>cY j (by omega),by rw[hlen];omega,fun k' jO=>by cases jO⟩⟩
    simp only[oM,qH,JJ,Src.ev,St.row,q3,Nat.div_one,wP]
    simp[b1 _ hk,b2,aW]
   ·refine⟨.empty,?_,.inl ⟨rz (by rw[hlen];omega),.inr rfl⟩⟩
    simp only[oM,qH,JJ,Src.ev,St.row,q3,Nat.div_one,wP]
    simp[b1 _ hk,b2,aW]
def Zqh{m v:Nat}(hk:l.length=k):(l++List.replicate (m+1) 0).set k v=(l++[v])++List.replicate m 0:=by
 subst hk
 rw[List.set_append_right _ _ (Yv5 _)]
 simp[Xee]
def aQ(n:Nat):List Nat:=if h:n=0 then [] else n%B::aQ (n/B)
termination_by n
decreasing_by exact BQ (by omega) (by decide)
def qO:aQ 0=[]:=by rw[aQ];simp
def mi(h:n≠0):aQ n=n%B::aQ (n/B):=by rw[aQ];simp[h]
def mj:∀(n:Nat),val B (aQ n)=n:=by
 intro n
 induction n using Nat.strongRecOn with
 |_ n ih=>
  by_cases h:n=0
  ·subst h;rw[qO];rfl
  ·rw[mi h]
   simp only[val]
   rw[ih (n/B) (BQ (by omega) (by decide))]
   have:=tA n B
   omega
def qP(n:Nat):Dg (aQ n):=by
 induction n using Nat.strongRecOn with
 |_ n ih=>
  by_cases h:n=0
  ·subst h;rw[qO];intro d hd;cases hd
  ·rw[mi h]
   intro d hd
   rcases kV.1 hd with rfl|hd
   ·exact kf _ (by decide)
   ·exact ih (n/B) (BQ (by omega) (by decide)) d hd
def CI:∀{l:List Nat},Dg l->rP l=aQ (val B l)
 |[],_=>by simp[rP,val,qO]
 |d::l,h=>by
  have ih:=CI (l:=l) fun e he=>h e (oY _ he)
  have hd:d<B:=h d oV
  simp only[rP,val,ih]
  by_cases h0:val B l=0
  ·rw[h0,qO]
   simp only[Nat.mul_zero,mY]
   by_cases lK:d=0
   ·simp[lK,qO]
   ·rw[mi lK,w6 hd,zg hd,qO];simp[lK]
  ·have hB:0<B:=by decide
   have h1:(d+B*val B l)/B=val B l:=by
    rw[Nat.add_mul_div_left _ _ hB,zg hd,oJ]
   have h2:(d+B*val B l)%B=d:=by
    rw[Nat.add_mul_mod_self_left,w6 hd]
   have h3:d+B*val B l≠0:=by
    intro hc
    have:B*val B l=0:=by omega
    rcases Nat.mul_eq_zero.1 this with h|h
    ·omega
    ·exact h0 h
   rw[mi h3,h1,h2]
   split
   ·rename_i hc;rw[mi h0]at hc;cases hc
   ·rfl
def Wn(h:T O)(N:Nat)(v:V)(n:Nat):Prop:=Sl h N v (dg (aQ n))
def Wn.ai{h':T O}{N':Nat}(s:Wn h N v n)(k:ah h N h' N'):Wn h' N' v n:=Sl.ai s k
variable {N bytes:Nat} {h:T O} {l:List (List V)} {v:V}
def Zwq{α:Type}{c:List α}{o n:Nat}{x:List α}(h:aK c o n=some x):o+n<=c.length/\x=(c.drop o).take n:=by
 unfold aK at h
 split at h
 ·rename_i hl;simp at h;exact⟨hl,h.symm⟩
 ·cases h
def Yl3{α:Type}{c:List α}{o n:Nat}{x:List α}(h:aK c o n=some x){f:Nat}(hf:f<n):c[o+f]?=x[f]?:=by
 obtain⟨_,rfl⟩:=Zwq h
 rw[kW,aR hf,gH]
def Sn(z:Nat)(h:T O)(N:Nat)(v:V)(l:List (List V)):Prop:=
 (l=[]/\(v=.ziA\/v=.empty))\/∃i o cp c e rw,v=.slice i o l.length cp z/\i<N/\h.get i=some (.cells c e rw)/\(∀j x,l[j]?=some x->aK c (o+j*z) z=some x)/\o+l.length*z<=c.length/\∀k,cp=some k->l.length<=k
def Sn.nil{z:Nat}:Sn z h N .ziA []:=.inl ⟨rfl,.inl rfl⟩
def Sn.ai{z:Nat}{h':T O}{N':Nat}(s:Sn z h N v l)(k:ah h N h' N'):Sn z h' N' v l:=by
 rcases s with s|⟨i,o,cp,c,e,rw,h1,h2,h3,h4⟩
 ·exact .inl s
 ·exact .inr ⟨i,o,cp,c,e,rw,h1,iL h2 k.le,(k.get i h2).trans h3,h4⟩
def Sn.len{z:Nat}(s:Sn z h N v l):rH v=some l.length:=by
 rcases s with⟨rfl,rfl|rfl⟩|⟨i,o,cp,c,e,rw,rfl,_⟩<;>rfl
def Sn.at{z:Nat}(s:Sn z h N v l){j:Nat}{x:List V}(hj:l[j]?=some x):∃i o c e rw,wQ v=some (i,o)/\i<N/\h.get i=some (.cells c e rw)/\aK c (o+j*z) z=some x:=by
 have hl:j<l.length:=by
  apply Yxf;intro hc;rw[kc hc]at hj;cases hj
 rcases s with⟨rfl,_⟩|⟨i,o,cp,c,e,rw,rfl,h2,h3,h4,_⟩
 ·simp at hl
 ·exact⟨i,o,c,e,rw,rfl,h2,h3,h4 j x hj⟩
def Yb7{z:Nat}(hz:0<z){h:T O}{N:Nat}{v:V}{l:List (List V)}{w:List Nat}(s:Sn z h N v l){lo hi:Nat}(h1:lo<=hi)(h2:hi<=l.length)(x y:Option V)(hx:x=some (.int .i64 lo)\/x=none/\lo=0)(hy:y=some (.int .i64 hi)\/y=none/\hi=l.length):
  ∃v',oM ⟨h,N,w⟩ z (some v) (some x) (some y) (some none)=some (v',⟨h,N,w⟩)/\Sn z h N v' ((l.take hi).drop lo):=by
 rcases s with⟨rfl,rfl|rfl⟩|⟨i,o,cp,c,e,rw,rfl,q2,q3,q4,q5,q6⟩
 ·have:hi=0:=by simpa using h2
  subst this
  have:lo=0:=by omega
  subst this
  refine⟨.ziA,?_,.inl ⟨rfl,.inl rfl⟩⟩
  rcases hx with rfl|⟨rfl,_⟩<;>rcases hy with rfl|⟨rfl,_⟩<;>simp[oM,qH,aH,dG,Zed]
 ·have:hi=0:=by simpa using h2
  subst this
  have:lo=0:=by omega
  subst this
  refine⟨.empty,?_,.inl ⟨rfl,.inr rfl⟩⟩
  rcases hx with rfl|⟨rfl,_⟩<;>rcases hy with rfl|⟨rfl,_⟩<;>simp[oM,qH,aH,dG,Zed]
 ·have hlen:((l.take hi).drop lo).length=hi-lo:=by simp;omega
  have cY:∀j u,((l.take hi).drop lo)[j]?=some u->aK c (o+lo*z+j*z) z=some u:=fun j u hu=>by
   have hj:j<hi-lo:=by
    rw[<-hlen];apply Yxf;intro hc;rw[kc hc]at hu;cases hu
   rw[gH,kW,aR (by omega)]at hu
   have:=q4 _ _ hu
   rw[show o+lo*z+j*z=o+(lo+j)*z by rw[ku];omega]
   exact this
  have hmul:lo*z+(hi-lo)*z<=l.length*z:=by
   rw[<-ku];exact ot _ (by omega)
  have b1:∀m,hi<=m->dG y m l.length=some hi:=fun m hm=>by
   rcases hy with rfl|⟨rfl,rfl⟩
   ·simp[dG,Zed];omega
   ·rfl
  have b2:dG x hi 0=some lo:=by
   rcases hx with rfl|⟨rfl,rfl⟩
   ·simp[dG,Zed];omega
   ·rfl
  cases cp with
  |some k=>
   have hk:=q6 k rfl
   refine⟨.slice i (if k=lo then o else o+lo*z) (hi-lo) (some (k-lo)) z,?_,?_⟩
   ·have b0:dG none k k=some k:=rfl
    simp only[oM,qH,JJ,Src.ev]
    simp[b0,b1 k (by omega),b2]
   ·by_cases xr:k=lo
    ·have h0:(l.take hi).drop lo=[]:=rz (by rw[hlen];omega)
     refine .inr ⟨i,o,some (k-lo),c,e,rw,?_,q2,q3,fun j u hu=>by rw[h0]at hu;simp at hu,by rw[h0];simp;omega,fun k' jO=>by rw[h0];simp⟩
     rw[hlen,aR xr]
    ·refine .inr ⟨i,o+lo*z,some (k-lo),c,e,rw,?_,q2,q3,cY,by rw[hlen];omega,fun k' jO=>by simp at jO;rw[hlen];omega⟩
     rw[hlen,aA xr]
  |none=>
   have hlz:l.length<=(c.length-o)/z:=by
    rw[Ly hz];omega
   have hk:hi<=max l.length ((c.length-o)/z):=by omega
   have tI:z≠0:=by omega
   by_cases aW:lo<max l.length ((c.length-o)/z)
   ·refine⟨.slice i (o+lo*z) (hi-lo) none z,?_,.inr ⟨i,o+lo*z,none,c,e,rw,by rw[hlen],q2,q3,cY,by rw[hlen];omega,fun k' jO=>by cases jO⟩⟩
    simp only[oM,qH,JJ,Src.ev,St.row,q3]
    simp[b1 _ hk,b2,aW,tI]
   ·refine⟨.empty,?_,.inl ⟨rz (by rw[hlen];omega),.inr rfl⟩⟩
    simp only[oM,qH,JJ,Src.ev,St.row,q3]
    simp[b1 _ hk,b2,aW,tI]
def Sn.one{l:List V}:Sn 1 h N v (l.map fun x=>[x])↔Sl h N v l:=by
 unfold Sn Sl
 constructor
 ·rintro(⟨h1,h2⟩|⟨i,o,cp,c,e,rw,h1,h2,h3,h4,h5,h6⟩)
  ·exact .inl ⟨by simpa using h1,h2⟩
  ·refine .inr ⟨i,o,cp,c,e,rw,by simpa using h1,h2,h3,fun j hj=>?_,by simpa using h5,by simpa using h6⟩
   have:=h4 j [l[j]] (by simp[Yv8 hj])
   have:=Yl3 this (f:=0) (by omega)
   simp at this
   rw[this,Yv8 hj]
 ·rintro(⟨h1,h2⟩|⟨i,o,cp,c,e,rw,h1,h2,h3,h4,h5,h6⟩)
  ·exact .inl ⟨by simpa using h1,h2⟩
  ·refine .inr ⟨i,o,cp,c,e,rw,by simpa using h1,h2,h3,fun j x hj=>?_,by simpa using h5,by simpa using h6⟩
   simp at hj
   obtain⟨u,hu,rfl⟩:=hj
   have hl:j<l.length:=by
    apply Yxf;intro hc;rw[kc hc]at hu;cases hu
   have:=h4 j hl
   rw[hu]at this
   have hc:o+j<c.length:=by omega
   unfold aK
   rw[aR (by omega),wP,IC hc]
   rw[Yv8 hc]at this
   simp at this
   simp[this]
def Own(z:Nat)(e:TypeId)(N0:Nat)(h:T O)(N:Nat)(v:V)(l:List (List V)):Prop:=
 (∀x∈l,x.length=z)/\((l=[]/\v=.ziA)\/∃i,v=.slice i 0 l.length none z/\N0<=i/\i<N/\h.get i=some (.cells l.flatten e true))
def Own.nil{z:Nat}{e:TypeId}{N0:Nat}:Own z e N0 h N .ziA []:=⟨fun _ h=>by simp at h,.inl ⟨rfl,rfl⟩⟩
def Own.ai{z:Nat}{e:TypeId}{N0:Nat}{h':T O}{N':Nat}(s:Own z e N0 h N v l)(k:ah h N h' N'):Own z e N0 h' N' v l:=by
 obtain⟨hl,s|⟨i,h1,h2,h3,h4⟩⟩:=s
 ·exact⟨hl,.inl s⟩
 ·exact⟨hl,.inr ⟨i,h1,h2,iL h3 k.le,(k.get i h3).trans h4⟩⟩
def Own.len{z:Nat}{e:TypeId}{N0:Nat}(s:Own z e N0 h N v l):rH v=some l.length:=by
 obtain⟨_,⟨rfl,rfl⟩|⟨i,rfl,_⟩⟩:=s<;>rfl
def Zbj{z:Nat}:∀{l:List (List V)},(∀x∈l,x.length=z)->l.flatten.length=l.length*z
 |[],_=>by simp
 |x::l,h=>by
  have h1:=h x oV
  have h2:=Zbj (l:=l) fun y hy=>h y (oY _ hy)
  simp only[List.flatten_cons,iJ,h1,h2,bC,ku];omega
def NJ{z:Nat}:∀{l:List (List V)},(∀x∈l,x.length=z)->∀{j:Nat} {x:List V},l[j]?=some x->aK l.flatten (j*z) z=some x
 |[],_,j,x,hj=>by simp at hj
 |y::l,h,0,x,hj=>by
  have h1:=h y oV
  simp at hj;subst hj
  unfold aK
  simp[<-h1]
 |y::l,h,j+1,x,hj=>by
  have h1:=h y oV
  have h2:=NJ (l:=l) (fun y hy=>h y (oY _ hy)) (j:=j) (x:=x) (by simpa using hj)
  obtain⟨h3,h4⟩:=Zwq h2
  unfold aK
  rw[aR (by simp only[List.flatten_cons,iJ,ku,h1];omega),h4]
  congr 2
  rw[List.flatten_cons,ku,Nat.one_mul,Nat.add_comm,<-List.drop_drop,<-h1,List.drop_left]
def Own.sn{z:Nat}{e:TypeId}{N0:Nat}(s:Own z e N0 h N v l):Sn z h N v l:=by
 obtain⟨hl,⟨h1,h2⟩|⟨i,h1,h2,h3,h4⟩⟩:=s
 ·exact .inl ⟨h1,.inl h2⟩
 ·exact .inr ⟨i,0,none,l.flatten,e,true,h1,h3,h4,fun j x hj=>by rw[oJ];exact NJ hl hj,by rw[Zbj hl];omega,fun k hk=>by cases hk⟩
def Zv9(st:St)(size bytes:Nat)(e:TypeId):Option V->Option V->Option (V×St)
 |some s,some x=>tf st size bytes e s x
 |_,_=>none
def Zuw{size:Nat}{e:TypeId}{z:List V}{s x:Src}{call:cP}{r:T V}{st:St}:B4 size bytes e z s x call r st=Zv9 st size bytes e (s.ev r) (x.ev r):=by
 unfold B4 Zv9;rfl
def Zto{st:St}{size:Nat}{e:TypeId}{s x:V}:Zv9 st size bytes e (some s) (some x)=tf st size bytes e s x:=rfl
attribute [simp] Zuw Zto
def Bj{z:Nat}{e:TypeId}{N0:Nat}{u:V}{x:List V}{w:List Nat}(s:Own z e N0 h N v l)(hN:N0<=N)(hz:0<z)(hx:x.length=z)
  (hu:oL ⟨h,N,w⟩ z u=some (1,x)) (hb:2*(l.length+1)*bytes<=281474976710656):
  ∃v' h' w',tf ⟨h,N,w⟩ z bytes e v u=some (v',⟨h',N+1,w'⟩)/\aL N0 w'=aL N0 w/\ah h N0 h' (N+1)/\(∀j,h'.get j=h.get j\/j=N\/(∃o n c q,v=.slice j o n c q))/\Own z e N0 h' (N+1) v' (l++[x]):=by
 obtain⟨hl,s⟩:=s
 have vF:∀y∈l++[x],y.length=z:=fun y hy=>by
  rcases tg.1 hy with hy|hy
  ·exact hl y hy
  ·simp at hy;rw[hy,hx]
 have tI:z≠0:=by omega
 rcases s with⟨rfl,rfl⟩|⟨i,rfl,h2,h3,h4⟩
 ·refine⟨.slice N 0 1 none z,h.set N (.cells x e true),w,?_,rfl,⟨by omega,fun j hj=>by rw[T.al,aA (by omega)]⟩,fun j=>by rw[T.al];by_cases hj:j=N<;>simp[hj],vF,.inr ⟨N,by simp,hN,by omega,by rw[T.al];simp⟩⟩
  have vL:2*1*bytes<=281474976710656:=by simpa using hb
  simp only[tf,hu,AU,St.alloc]
  simp[vL,tI]
 ·have oX:=Zbj hl
  refine⟨.slice N 0 (l.length+1) none z,(h.set i .dead).set N (.cells (l.flatten++x) e true),i::w,?_,by simp[aL,w_.2 h2],⟨by omega,fun j hj=>by rw[T.al,aA (by omega),T.al,aA (by omega)]⟩,fun j=>?_,vF,.inr ⟨N,by simp,hN,by omega,by rw[T.al];simp⟩⟩
  ·simp only[tf,hu,AU,St.row,h4]
   rw[aA (by omega),aA (by rintro(h|h|h)<;>omega)]
   simp only[if_true]
   rw[aA (by rw[oX,ku];omega),aR ⟨by rw[oX];omega,trivial,trivial⟩]
   rfl
  ·by_cases hj:j=N
   ·exact .inr (.inl hj)
   ·by_cases qJ:j=i
    ·exact .inr (.inr ⟨0,l.length,none,z,by rw[qJ]⟩)
    ·left;rw[T.al,aA hj,T.al,aA qJ]
abbrev bj:=List UInt8
def jN(c:UInt8):Bool:=decide (48<=c.toNat/\c.toNat<=57)
def ij:bj->Bool
 |[]=>false
 |c::s=>(c::s).all jN&&(decide (c.toNat≠48)||decide (s=[]))
def ak:bj->Nat
 |[]=>0
 |c::s=>if c.toNat=47 then 0 else ak s+1
def aN(s:bj):Nat:=s.foldl (fun n c=>10*n+(c.toNat-48)) 0
def cF:bj->Bool
 |[]=>false
 |c::_=>decide (c.toNat=45)
def Zas(s:bj):bj:=if cF s then s.drop 1 else s
def fP(neg:Bool)(p:bj)(broken:Bool)(d:bj):Bool:=ij p&&!(neg&&decide (p=[48]))&&(!broken||(ij d&&decide (d≠[48])&&decide (d≠[49])))
def js(neg:Bool)(p:bj)(broken:Bool)(d:bj):Nat:=
 if fP neg p broken d=false then 1 else if 600<p.length\/600<d.length then 4 else if broken=true/\Nat.gcd (aN p) (aN d)≠1 then 1 else 0
def JB(neg:Bool)(t:bj):Nat:=js neg (t.take (ak t)) (decide (ak t<t.length)) (t.drop (ak t+1))
def aV(s:bj):Nat:=JB (cF s) (Zas s)
def BN:∀(s:bj),ak s<=s.length
 |[]=>Yv5 _
 |c::s=>by
  have:=BN s
  simp only[ak,bC]
  split<;>omega
structure A7 where
 name:bj
 op:bj
 Ja:bj
 zgq:List bj
 cost:Int
def pos:List A7->bj->Nat
 |[],_=>0
 |s::g,n=>if s.name=n then 0 else pos g n+1
variable {i:Nat} {j:Int} {k:IntKind} {r:T V} {s:bj} {x:Src}
def Yp4(s:bj)(p:Nat):Int:=(Utf8.decode ⟨s.toArray⟩ p).1
def Yp3(s:bj)(p:Nat):Nat:=(Utf8.decode ⟨s.toArray⟩ p).2
def JL(i:Nat)(st:St):Option (bj×Nat)->Option (V×St)
 |some (s,p)=>if p<s.length then some (.aX [.bool true,.int .i64 p,.int .i32 (Utf8.decode ⟨s.toArray⟩ p).1],st.write i (.eK s (p+(Utf8.decode ⟨s.toArray⟩ p).2))) else some (.aX [.bool false],st)
 |none=>none
def Ug:Option O->Option (bj×Nat)
 |some (.eK s p)=>some (s,p)
 |_=>none
def Ym0(st:St):Option V->Option (V×St)
 |some (.ptr i 0)=>JL i st (Ug (st.h.get i))
 |_=>none
def Zr7{call:cP}{st:St}:IZ x call r st=Ym0 st (x.ev r):=by
 unfold IZ Ym0
 rcases x.ev r with _|v
 ·rfl
 ·cases v<;>try rfl
  rename_i i o
  cases o with
  |zero=>
   simp only[Ug,JL]
   rcases st.h.get i with _|o
   ·rfl
   ·cases o<;>rfl
  |succ=>rfl
def Zzj{st:St}:Ym0 st (some (.ptr i 0))=JL i st (Ug (st.h.get i)):=rfl
def Zue{p:Nat}:Ug (some (.eK s p))=some (s,p):=rfl
def Ydj{st:St}{p:Nat}(h:p<s.length):JL i st (some (s,p))=some (.aX [.bool true,.int .i64 p,.int .i32 (Yp4 s p)],st.write i (.eK s (p+Yp3 s p))):=by simp[JL,h,Yp4,Yp3]
def Zzk{st:St}:JL i st (some (s,s.length))=some (.aX [.bool false],st):=by simp[JL]
def pR(st:St):Option V->Option (Option V)->Option (Option V)->Option (V×St)
 |some (.str s),some lo,some hi=>match dG hi s.length s.length with
   |some h=>match dG lo h 0 with
    |some l=>some (.str ((s.take h).drop l),st)
    |none=>none
   |none=>none
 |_,_,_=>none
def Zqn{lo hi:Option Src}{call:cP}{st:St}:xW x lo hi call r st=pR st (x.ev r) (aH r lo) (aH r hi):=by
 unfold xW pR;rfl
def BC{st:St}(h0:0<=j)(h1:j<=s.length):pR st (some (.str s)) (some (some (.int k j))) (some none)=some (.str (s.drop j.toNat),st):=by
 simp[pR,dG,Zed,h0,h1]
def Zln{st:St}(h0:0<=j)(h1:j<=s.length):pR st (some (.str s)) (some none) (some (some (.int k j)))=some (.str (s.take j.toNat),st):=by
 simp[pR,dG,Zed,h0,h1]
def Zpd{st:St}{k':IntKind}{i:Int}(h0:0<=i)(h1:i<=j)(h2:j<=s.length):pR st (some (.str s)) (some (some (.int k i))) (some (some (.int k' j)))=some (.str ((s.take j.toNat).drop i.toNat),st):=by
 have h3:0<=j:=by omega
 have h4:max j 0=j:=by omega
 simp[pR,dG,Zed,h0,h1,h2,h3,h4]
def JM(s:bj):List V:=s.map fun b=>.int .u8 (cX b)
def Ybb(s:bj):(JM s).length=s.length:=by simp[JM]
def Ybc{k:Nat}{c:UInt8}(h:s[k]?=some c):(JM s)[k]?=some (.int .u8 (cX c)):=by simp[JM,h]
def sbK(elem:TypeId)(st:St):Option V->Option (V×St)
 |some (.str s)=>some (.slice st.n 0 s.length none 1,st.alloc (.cells (JM s) elem true))
 |_=>none
def Zqm{elem:TypeId}{call:cP}{st:St}:DL elem x call r st=sbK elem st (x.ev r):=by
 unfold DL sbK;rfl
def Yhh{elem:TypeId}{st:St}:sbK elem st (some (.str s))=some (.slice st.n 0 s.length none 1,st.alloc (.cells (JM s) elem true)):=rfl
attribute [simp] Zqm Yhh Ybb Zr7 Zzj Zue Ydj Zzk Zqn BC Zln Zpd IY
def Zkx:∀(s:bj) (i:Nat),II 47 s i=if ak s<s.length then ((i+ak s:Nat):Int) else -1
 |[],i=>rfl
 |c::s,i=>by
  simp only[II,ak]
  have e:(c==47)=decide (c.toNat=47):=by
   rw[Bool.eq_iff_iff]
   simp only[beq_iff_eq,decide_eq_true_eq]
   exact⟨fun h=>by rw[h];rfl,fun h=>UInt8.toNat_inj.1 h⟩
  rw[e]
  by_cases h:c.toNat=47
  ·simp[h]
  ·simp only[h,decide_false,if_false,gj,Zkx s (i+1),bC]
   by_cases h2:ak s<s.length
   ·rw[aR h2,aR (by omega)];omega
   ·rw[aA h2,aA (by omega)]
end Go.Mx
