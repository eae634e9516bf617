/-
  Slices of which only the elements are known; lists of digits.
-/
import Derived.Test.YtlbophlgohokkaaGreatDoorMxLim
set_option linter.all false
namespace Go.Mx
open Go
variable {N a b i k n o size:Nat} {h:T O} {j:Int} {l:List Nat} {r r0:T V} {v:V} {x:Src}
def kq:V->Option Nat
 |.aa=>some 0
 |.empty=>some 0
 |.slice _ _ n _ _=>some n
 |_=>none
def tK:V->Option (Nat×Nat)
 |.slice i o _ _ _=>some (i,o)
 |_=>none
def P6(st:St):Option Nat->Option (V×St)
 |some n=>some (.int .i64 n,st)
 |none=>none
def P7(st:St):Option V->Option (V×St)
 |some v=>P6 st (kq v)
 |none=>none
theorem Yga{call:cA}{st:St}:sP 1 x call r st=P7 st (x.ev r):=by
 unfold sP P7
 rcases x.ev r with _|v
 ·rfl
 ·cases v<;>rfl
theorem Ycq{st:St}:P7 st (some v)=P6 st (kq v):=rfl
theorem Zys{st:St}:P6 st (some n)=some (.int .i64 n,st):=rfl
def KG(st:St)(size k:Nat):Option (Nat×Nat)->Option (V×St)
 |some (i,o)=>some (.ptr i (o+k*size),st)
 |none=>none
def Hc(st:St)(size:Nat)(v:V)(k:Int):Option Nat->Option (V×St)
 |some n=>if 0<=k/\k<(n:Int) then KG st size k.toNat (tK v) else none
 |none=>none
def P8(st:St)(size:Nat):Option V->Option V->Option (V×St)
 |some v,some (.int _ k)=>Hc st size v k (kq v)
 |_,_=>none
theorem Zrk{i:Src}{call:cA}{st:St}:zQ size x i call r st=P8 st size (x.ev r) (i.ev r):=by
 unfold zQ P8
 rcases x.ev r with _|v
 ·rfl
 ·rcases i.ev r with _|u
  ·cases v<;>rfl
  ·cases u<;>cases v<;>simp[Hc,KG,kq,tK]<;>omega
theorem Zzx{st:St}{k:IntKind}:P8 st size (some v) (some (.int k j))=Hc st size v j (kq v):=rfl
theorem Yei{st:St}(h0:0<=j)(h1:j<(n:Int)):Hc st size v j (some n)=KG st size j.toNat (tK v):=by simp[Hc,h0,h1]
theorem Zu9{st:St}:KG st size k (some (i,o))=some (.ptr i (o+k*size),st):=rfl
theorem Ys4(a b:Int):(a==b)=decide (a=b):=by
 by_cases h:a=b<;>simp[h]
theorem Ys3(a b:Int):(a !=b)=!decide (a=b):=by
 by_cases h:a=b<;>simp[h]
theorem Ye6(a b:Nat):((a:Int)+(b:Int)).toNat=a+b:=by omega
theorem Ye5(a b:Nat):((a:Int)-(b:Int)).toNat=a-b:=by omega
theorem Yrh(a b n:Nat):((a:Int)+(b:Int)<(n:Int))↔a+b<n:=by omega
theorem Zxh(b:Nat):((64:Int)-(b:Int)).toNat=64-b:=by omega
attribute [simp] Zxh Ys4 Ys3 Int.natCast_inj Ye6 Ye5 Yrh
def P9(st:St):Option V->Option (V×St)
 |some (.str s)=>some (.int .i64 s.length,st)
 |_=>none
theorem Ygb{call:cA}{st:St}:sP 0 x call r st=P9 st (x.ev r):=by
 unfold sP P9
 rcases x.ev r with _|v
 ·rfl
 ·cases v<;>rfl
theorem Ycp{st:St}{s:List UInt8}:P9 st (some (.str s))=some (.int .i64 s.length,st):=rfl
theorem Zyq{i o n c z}:kq (.slice i o n c z)=some n:=rfl
theorem Ygz:kq .aa=some 0:=rfl
theorem Zyr:kq .empty=some 0:=rfl
theorem Zu6{i o n c z}:tK (.slice i o n c z)=some (i,o):=rfl
attribute [simp] Yga Ygb Ycp Zyq Ygz Zyr Zu6 Ycq Zys Zrk Zzx Yei Zu9
def cE(b:UInt8):Int:=b.toNat
theorem Zz9(b:UInt8):0<=cE b/\cE b<256:=by unfold cE;have:=b.toNat_lt;omega
def KH(st:St):Option UInt8->Option (V×St)
 |some b=>some (.int .u8 b.toNat,st)
 |none=>none
def KI(st:St):Option V->Option V->Option (V×St)
 |some (.str s),some (.int _ k)=>if 0<=k then KH st s[k.toNat]? else none
 |_,_=>none
theorem Zty{i:Src}{call:cA}{st:St}:zR x i call r st=KI st (x.ev r) (i.ev r):=by
 unfold zR KI KH
 rcases x.ev r with _|v
 ·rfl
 ·rcases i.ev r with _|u
  ·cases v<;>rfl
  ·cases u<;>cases v<;>rfl
theorem Yc7{st:St}{s:List UInt8}{k:IntKind}(h:0<=j):KI st (some (.str s)) (some (.int k j))=KH st s[j.toNat]?:=by simp[KI,h]
theorem Zy8{st:St}{b:UInt8}:KH st (some b)=some (.int .u8 (cE b),st):=rfl
attribute [simp] Zty Yc7 Zy8
def KJ(st:St)(elem:TypeId)(size bytes:Nat)(zero:List V):Option V->Option V->Option (V×St)
 |some (.int _ l),some (.int _ c)=>if 0<=l/\l<=c/\bytes*c<=2^47/\c<2^62/\size=zero.length/\size≠0 then
    some (.slice st.n 0 l.toNat (some c.toNat) size,st.alloc (.cells (cj zero c.toNat) elem true)) else none
 |_,_=>none
theorem Zri{elem:TypeId}{bytes:Nat}{zero:List V}{y:Src}{call:cA}{st:St}:ye elem size bytes zero x y call r st=KJ st elem size bytes zero (x.ev r) (y.ev r):=by
 unfold ye KJ;rfl
theorem Ygs{st:St}{elem:TypeId}{bytes:Nat}{zero:List V}{k k':IntKind}{l:Int}(h0:0<=l)(h1:bytes*l<=140737488355328)(h2:l<4611686018427387904)(h3:size=zero.length)(h4:0<size):
  KJ st elem size bytes zero (some (.int k l)) (some (.int k' l))=some (.slice st.n 0 l.toNat (some l.toNat) size,st.alloc (.cells (cj zero l.toNat) elem true)):=by
 unfold KJ
 simp only[]
 rw[aF ⟨h0,Int.le_refl _,by simpa using h1,by simpa using h2,h3,by omega⟩]
def KK(n:Nat)(st:St):Option V->Option V->Option (V×St)
 |some (.ptr i o),some v=>match st.row i with
   |some (c,e,true)=>if v.cells.length=n/\o+n<=c.length/\v.cells.all V.one=true then some (.bb [],st.write i (.cells (ag c o v.cells) e true)) else none
   |_=>none
 |_,_=>none
theorem Zx0{a:Src}{call:cA}{st:St}:zN n a x call r st=KK n st (a.ev r) (x.ev r):=by
 unfold zN KK;rfl
def bL(n:Nat)(st:St)(i o:Nat)(v:V):Option O->Option (V×St)
 |some (.cells c e true)=>if v.cells.length=n/\o+n<=c.length/\v.cells.all V.one=true then some (.bb [],st.write i (.cells (ag c o v.cells) e true)) else none
 |_=>none
theorem Zxl{st:St}:KK n st (some (.ptr i o)) (some v)=bL n st i o v (st.h.get i):=by
 unfold KK bL St.row
 simp only[]
 rcases st.h.get i with _|x
 ·rfl
 ·cases x with
  |cells c e b=>cases b<;>rfl
  |_=>rfl
theorem VO{w:List Nat}{c:List V}{e:TypeId}(h1:v.cells.length=n)(h2:o+n<=c.length)(h3:v.cells.all V.one=true):
  bL n ⟨h,N,w⟩ i o v (some (.cells c e true))=some (.bb [],⟨h.set i (.cells (ag c o v.cells) e true),N,i::w⟩):=by
 unfold bL
 simp only[]
 rw[aF ⟨h1,h2,h3⟩];rfl
attribute [simp] Zri Ygs Zx0 Zxl VO
def bz(n:Nat):Nat:=n%18446744073709551616
def bX(n:Nat):Nat:=n/18446744073709551616
def dT(x y c:Nat):Nat:=(x+18446744073709551616-y-c)%18446744073709551616
def eY(x y c:Nat):Nat:=if x<y+c then 1 else 0
def al(a b:Nat):Nat:=a/2^b
def bK(a b:Nat):Nat:=a*2^b%18446744073709551616
def eg(a:Nat):Nat:=a%4294967296
def ib(a b:Nat):Nat:=a|||b
theorem EH(n:Int):IntKind.wrap .u64 n=n%18446744073709551616:=by simp[IntKind.wrap,IntKind.bits,IntKind.signed]
theorem Av{n:Int}(h1:0<=n)(h2:n<18446744073709551616):bk .u64 n=n:=by rw[uO,EH];omega
theorem EI(n:Int):bk .u64 n=n%18446744073709551616:=by rw[uO,EH]
theorem Zxo{b:Int}(h0:0<=b)(h1:b<=64):tD .shr .u64 (a:Int) b=some (.int .u64 (al a b.toNat:Nat)):=by
 unfold tD al
 have e:min b.toNat (IntKind.bits .u64)=b.toNat:=by simp[IntKind.bits];omega
 rw[ar (by omega),e]
 simp only[ai,V.int.injEq,true_and]
 rw[Int.fdiv_eq_ediv_of_nonneg _ (by exact_mod_cast pC _)]
 push_cast
 rfl
theorem Zxp{b:Int}(h0:0<=b)(h1:b<=64):tD .shl .u64 (a:Int) b=some (.int .u64 (bK a b.toNat:Nat)):=by
 unfold tD bK
 have e:min b.toNat (IntKind.bits .u64)=b.toNat:=by simp[IntKind.bits];omega
 rw[ar (by omega),e]
 show some (V.int .u64 (IntKind.wrap .u64 ((a:Int)*2^b.toNat)))=_
 rw[EH]
 have:(((a*2^b.toNat%18446744073709551616:Nat)):Int)=(a:Int)*2^b.toNat%18446744073709551616:=by
  rw[Int.natCast_emod,DP,Int.natCast_pow];rfl
 rw[this]
theorem JT(a:Nat)(h:a<18446744073709551616):(BitVec.ofInt 64 (a:Int)).toNat=a:=by
 simp[BitVec.toNat_ofInt];omega
theorem Zr7(h:a<18446744073709551616):nk .and .u64 (a:Int) 4294967295=some (.int .u64 (eg a:Nat)):=by
 show some (V.int .u64 (IntKind.wrap .u64 (BitVec.ofInt 64 (a:Int)&&& BitVec.ofInt 64 4294967295).toNat))=_
 rw[EH,BitVec.toNat_and,JT a h]
 have e:(BitVec.ofInt 64 4294967295).toNat=2^32-1:=by decide
 rw[e,Nat.and_two_pow_sub_one_eq_mod]
 unfold eg
 simp only[ai,V.int.injEq,true_and]
 omega
theorem Yc4(h:a<18446744073709551616)(h':b<18446744073709551616):nk .or .u64 (a:Int) (b:Int)=some (.int .u64 (ib a b:Nat)):=by
 show some (V.int .u64 (IntKind.wrap .u64 (BitVec.ofInt 64 (a:Int)|||BitVec.ofInt 64 (b:Int)).toNat))=_
 rw[EH,BitVec.toNat_or,JT a h,JT b h']
 have:=Nat.or_lt_two_pow (n:=64) h h'
 unfold ib
 simp only[ai,V.int.injEq,true_and]
 omega
def cD(a b:Nat):Nat:=(a+b)%18446744073709551616
def fm(a b:Nat):Nat:=((a:Int)-b).toNat%18446744073709551616+(if a<b then (((a:Int)-b)%18446744073709551616).toNat else 0)
def cH(a b:Nat):Nat:=(a*b)%18446744073709551616
def jJ(a b:Nat):Nat:=a/b
def Hd(a b:Nat):Nat:=a%b
theorem Zxf:bk .u64 ((a:Int)+(b:Int))=(cD a b:Nat):=by rw[EI];unfold cD;omega
theorem VP:bk .u64 ((a:Int)-(b:Int))=(fm a b:Nat):=by
 rw[EI];unfold fm
 split<;>omega
theorem Zs3:bk .u64 ((a:Int)-1)=(fm a 1:Nat):=VP (b:=1)
theorem Qa:bk .u64 ((a:Int)*(b:Int))=(cH a b:Nat):=by
 rw[EI];unfold cH
 rw[<-DP];omega
theorem Zqu:bk .u64 ((a:Int)*4294967296)=(cH a 4294967296:Nat):=Qa (b:=4294967296)
theorem Zpl:bk .u64 (4294967296*(a:Int))=(cH 4294967296 a:Nat):=Qa (a:=4294967296)
theorem Zxe(h:a<18446744073709551616):bk .u64 ((a:Int).tdiv (b:Int))=(jJ a b:Nat):=by
 rw[EI];unfold jJ
 have e:((a:Int).tdiv (b:Int))=((a/b:Nat):Int):=rfl
 have:=qj a b
 rw[e]
 generalize a/b=q at*
 omega
theorem Yae:(a:Int).tmod (b:Int)=(Hd a b:Nat):=rfl
theorem Aw(h:b<=a)(ha:a<18446744073709551616):fm a b=a-b:=by unfold fm;split<;>omega
theorem Ym3:cD a b<18446744073709551616:=jd _ (by decide)
theorem Yk3:cH a b<18446744073709551616:=jd _ (by decide)
theorem Qc:bK a b<18446744073709551616:=jd _ (by decide)
theorem Yaf:fm a b<18446744073709551616:=by unfold fm;split<;>omega
theorem VQ(h:a<18446744073709551616):al a b<18446744073709551616:=nV (qj _ _) h
attribute [simp] Ym3 Yk3 Qc Yaf Zxf VP Zs3 Qa Zqu Zpl Zxe Yae Zxo Zxp Zr7 Yc4
def Ck(st:St)(e:Ext)(o:Option (List V)):Option (V×St):=match e,o with
  |.same,some [v]=>some (v,st)
  |e,some l=>match yc e l with
   |some v=>some (v,st)
   |none=>none
  |_,none=>none
theorem Ygc{e:Ext}{args:List Src}{call:cA}{st:St}:BL e args call r st=Ck st e (pJ r args):=rfl
theorem Ydj{st:St}:Ck st .same (some [v])=some (v,st):=rfl
theorem Zzf{st:St}{x y c:Int}(h:c=0\/c=1):Ck st .eB (some [.int .u64 x,.int .u64 y,.int .u64 c])=some (.bb [.int .u64 (bz (x.toNat+y.toNat+c.toNat):Nat),.int .u64 (bX (x.toNat+y.toNat+c.toNat):Nat)],st):=by
 simp only[Ck,yc,h,not_true_eq_false,if_false]
 rfl
theorem Zze{st:St}{x y c:Int}(h:c=0\/c=1):Ck st .gG (some [.int .u64 x,.int .u64 y,.int .u64 c])=some (.bb [.int .u64 (dT x.toNat y.toNat c.toNat:Nat),.int .u64 (eY x.toNat y.toNat c.toNat:Nat)],st):=by
 simp only[Ck,yc,h,not_true_eq_false,if_false,eY]
 split<;>rfl
theorem VS:bz n<18446744073709551616:=jd _ (by decide)
theorem Yj9{c:Nat}:dT a b c<18446744073709551616:=jd _ (by decide)
attribute [simp] VS Yj9 Ygc Ydj Zzf Zze
def lW(st:St)(size:Nat):Option V->Option (Option V)->Option (Option V)->Option (Option V)->Option (V×St)
 |some v,some lo,some hi,some mx=>mA size (.const v) (lo.map .const) (hi.map .const) (mx.map .const) Oj .nil st
 |_,_,_,_=>none
theorem Cl{o:Option V}:ay r (o.map .const)=some o:=by cases o<;>rfl
theorem zu{lo hi mx:Option Src}{call:cA}{st:St}:mA size x lo hi mx call r st=lW st size (x.ev r) (ay r lo) (ay r hi) (ay r mx):=by
 unfold lW mA
 rcases x.ev r with _|v
 ·rfl
 ·rcases ay r lo with _|lo
  ·cases v<;>try rfl
   rename_i c _;cases c<;>rfl
  ·rcases ay r hi with _|hi
   ·cases v<;>try rfl
    rename_i c _;cases c<;>rfl
   ·rcases ay r mx with _|mx
    ·cases v<;>try rfl
     rename_i c _;cases c<;>rfl
    ·simp only[Cl];rfl
def Sl(h:T O)(N:Nat)(v:V)(l:List V):Prop:=
 (l=[]/\(v=.aa\/v=.empty))\/∃i o cp c e rw,v=.slice i o l.length cp 1/\i<N/\h.get i=some (.cells c e rw)/\(∀j,j<l.length->c[o+j]?=l[j]?)/\o+l.length<=c.length/\∀k,cp=some k->l.length<=k
theorem Sl.nil:Sl h N .aa []:=.inl ⟨rfl,.inl rfl⟩
theorem Sl.row{L:Nat}{l:List V}{e:TypeId}{rw:Bool}{cp:Option Nat}(hi:i<N)(hg:h.get i=some (.cells l e rw))(hL:l.length=L)(hc:∀k,cp=some k->L<=k):Sl h N (.slice i 0 L cp 1) l:=
 .inr ⟨i,0,cp,l,e,rw,by rw[hL],hi,hg,fun j _=>by rw[qm],by omega,fun k hk=>by rw[hL];exact hc k hk⟩
theorem Sl.ad{h':T O}{N':Nat}{l:List V}(s:Sl h N v l)(k:ab h N h' N'):Sl h' N' v l:=by
 rcases s with s|⟨i,o,cp,c,e,rw,h1,h2,h3,h4⟩
 ·exact .inl s
 ·exact .inr ⟨i,o,cp,c,e,rw,h1,dZ h2 k.le,(k.get i h2).trans h3,h4⟩
theorem Sl.len{l:List V}(s:Sl h N v l):kq v=some l.length:=by
 rcases s with⟨rfl,rfl|rfl⟩|⟨i,o,cp,c,e,rw,rfl,_⟩<;>rfl
theorem Sl.at{l:List V}(s:Sl h N v l){j:Nat}{x:V}(hj:l[j]?=some x):∃i o c e rw,tK v=some (i,o)/\i<N/\h.get i=some (.cells c e rw)/\c[o+j]?=some x:=by
 have hl:j<l.length:=by
  apply oF;intro hc;rw[eG hc]at hj;cases hj
 rcases s with⟨rfl,_⟩|⟨i,o,cp,c,e,rw,rfl,h2,h3,h4,_⟩
 ·simp at hl
 ·exact⟨i,o,c,e,rw,rfl,h2,h3,(h4 j hl).trans hj⟩
def val(b:Nat):List Nat->Nat
 |[]=>0
 |d::l=>d+b*val b l
def dg(l:List Nat):List V:=l.map fun n:Nat=>.int .u64 n
def VT(l:List Nat):List V:=l.map fun n:Nat=>.int .i64 n
theorem bC(l:List Nat):(dg l).length=l.length:=by simp[dg]
theorem cl(l:List Nat):(VT l).length=l.length:=by simp[VT]
theorem eP{j:Nat}(h:l[j]?=some n):(dg l)[j]?=some (.int .u64 n):=by simp[dg,h]
attribute [simp] bC cl
theorem mO{v:Nat}(h:k<l.length):ag (dg l) k [.int .u64 v]=dg (l.set k v):=by
 unfold ag dg
 apply iW
 intro j
 simp only[uJ,iX,List.getElem?_set]
 rw[nT,List.getElem?_append,gK,si]
 by_cases h1:j<k
 ·rw[aF (by omega),gU,aF h1,iX,ar (by omega)]
 ·rw[ar (by omega)]
  by_cases h2:j=k
  ·subst h2
   rw[show j-min j l.length=0 by omega,aF rfl,aF h];rfl
  ·rw[show j-min k l.length=(j-k-1)+1 by omega,ar (by omega)]
   simp only[JI,zE,fe,iX]
   rw[show k+1+(j-k-1)=j by omega]
theorem Cm:cj [.int .u64 0] n=dg (List.replicate n 0):=by
 unfold cj dg
 apply iW
 intro j
 simp only[uJ,tk,iX,List.getElem?_replicate]
 by_cases h:j<n
 ·simp[h,Nat.mod_one]
 ·simp[h]
theorem Jv{z:V}:cj [z] n=List.replicate n z:=by
 unfold cj
 apply iW
 intro j
 simp only[uJ,tk,iX,List.getElem?_replicate]
 by_cases h:j<n
 ·simp[h,Nat.mod_one]
 ·simp[h]
theorem KL(b:Nat):∀(l m:List Nat),val b (l++m)=val b l+b^l.length*val b m
 |[],m=>by simp[val]
 |d::l,m=>by
  simp only[xZ,val,KL b l m,bq,fJ]
  grind
theorem KM(b:Nat)(l:List Nat)(d:Nat):val b (l++[d])=val b l+b^l.length*d:=by simp[KL,val]
theorem VU(b n:Nat):val b (List.replicate n 0)=0:=by
 induction n with
 |zero=>rfl
 |succ n ih=>simp[List.replicate_succ,val,ih]
theorem Ax{d:Nat}(h:l[k]?=some d):val b (l.take (k+1))=val b (l.take k)+b^k*d:=by
 have hk:k<l.length:=by
  apply oF;intro hc;rw[eG hc]at h;cases h
 rw[wA,h]
 simp only[Option.toList]
 rw[KM,gK,mw (by omega)]
theorem Ay{b:Nat}:∀{l:List Nat},(∀d∈l,d<b)->val b l<b^l.length
 |[],_=>by simp[val]
 |d::l,h=>by
  have h1:=h d mS
  have h2:=Ay (l:=l) fun e he=>h e (mr _ he)
  simp only[val,bq,fJ]
  have:b*(val b l+1)<=b*b^l.length:=jc b h2
  rw[gX (b^l.length) b]
  grind
def B:Nat:=18446744073709551616
def Dg(l:List Nat):Prop:=∀d∈l,d<B
theorem Dg.get(h:Dg l){j d:Nat}(hj:l[j]?=some d):d<B:=h d (cm hj)
def dz(l:List Nat)(j:Nat):Nat:=l[j]?.getD 0
theorem VV{l:List Nat}(h:Dg l)(j:Nat):dz l j<B:=by
 unfold dz
 cases hj:l[j]? with
 |none=>decide
 |some d=>exact h.get hj
theorem yN{b:Nat}{l:List Nat}{k:Nat}:val b (l.take (k+1))=val b (l.take k)+b^k*dz l k:=by
 unfold dz
 cases h:l[k]? with
 |some d=>exact Ax h
 |none=>
  have hk:l.length<=k:=by
   apply tA;intro hc;rw[cW hc]at h;cases h
  rw[fN (by omega),fN hk];simp
def n8:List Nat->List Nat
 |[]=>[]
 |d::l=>match n8 l with
  |[]=>if d=0 then [] else [d]
  |t=>d::t
theorem VW:∀(l:List Nat),n8 (l++[0])=n8 l
 |[]=>rfl
 |d::l=>by simp only[xZ,n8,VW l]
theorem VX{d:Nat}(hd:d≠0):∀(l:List Nat),n8 (l++[d])=l++[d]
 |[]=>by simp[n8,hd]
 |e::l=>by
  simp only[xZ,n8,VX hd l]
  cases l<;>rfl
def iK:List (Nat×Nat)->Nat->Bool
 |[],_=>false
 |(a,b)::D,t=>(Nat.ble a t&&Nat.ble t b)||iK D t
theorem Yly{t:Nat}:iK [] t=false:=rfl
theorem Yg5{D:List (Nat×Nat)}{t:Nat}:iK ((a,b)::D) t=((Nat.ble a t&&Nat.ble t b)||iK D t):=rfl
attribute [simp] Yly Yg5
structure Fx (D:List (Nat×Nat)) (r0:T V) (n:Nat) (fr:Fr):Prop where
 aL:∀t,iK D t=false->fr.r.get t=r0.get t
 n:fr.n=n
 marks:fr.marks=[]
theorem Fx.refl{D:List (Nat×Nat)}:Fx D r n ⟨r,n,[]⟩:=⟨fun _ _=>rfl,rfl,rfl⟩
theorem Fx.set{D:List (Nat×Nat)}{t:Nat}(ht:iK D t=true):Fx D r0 n ⟨r.set t v,n,[]⟩↔Fx D r0 n ⟨r,n,[]⟩:=by
 constructor
 ·intro h
  refine⟨fun u hu=>?_,rfl,rfl⟩
  have:=h.aL u hu
  simp only[T.ah]at this
  rw[ar]at this
  ·exact this
  ·rintro rfl;rw[ht]at hu;cases hu
 ·intro h
  refine⟨fun u hu=>?_,rfl,rfl⟩
  simp only[T.ah]
  rw[ar]
  ·exact h.aL u hu
  ·rintro rfl;rw[ht]at hu;cases hu
attribute [simp] Fx.set
def Qd(D' D:List (Nat×Nat)):Bool:=D'.all fun p=>D.any fun q=>Nat.ble q.1 p.1&&Nat.ble p.2 q.2
theorem VY{D:List (Nat×Nat)}{t:Nat}:iK D t=true↔∃p∈D,p.1<=t/\t<=p.2:=by
 induction D with
 |nil=>simp[iK]
 |cons p D ih=>obtain⟨a,b⟩:=p;simp[iK,ih]
theorem Yj2{D' D:List (Nat×Nat)}(h:Qd D' D=true){t:Nat}(ht:iK D t=false):iK D' t=false:=by
 cases hc:iK D' t with
 |false=>rfl
 |true=>
  obtain⟨p,hp,h1,h2⟩:=VY.1 hc
  unfold Qd at h
  rw[lM]at h
  obtain⟨q,hq,h3⟩:=List.any_eq_true.1 (h p hp)
  simp at h3
  have:iK D t=true:=VY.2 ⟨q,hq,by omega,by omega⟩
  rw[ht]at this;cases this
theorem Fx.inner{D D':List (Nat×Nat)}{r1 r2:T V}(hf:Fx D r0 n ⟨r,n,[]⟩)(hs:Qd D' D=true)(h1:Fx D r0 n ⟨r,n,[]⟩->Fx D r0 n ⟨r1,n,[]⟩)(h2:∀t,iK D' t=false->r2.get t=r1.get t):Fx D r0 n ⟨r2,n,[]⟩:=
 ⟨fun t ht=>(h2 t (Yj2 hs ht)).trans ((h1 hf).aL t ht),rfl,rfl⟩
def Rd(D:List (Nat×Nat))(r0:T V)(n:Nat)(I:Nat->T V->St->Prop)(k:Nat)(P:Ex->T V->St->Prop):Ex->Fr->St->Prop
 |.normal,fr,st=>Fx D r0 n fr/\∃k',k'<k/\I k' fr.r st
 |e,fr,st=>Fx D r0 n fr/\P e fr.r st
theorem VZ{D r0 n I k P r st}:Rd D r0 n I k P .normal ⟨r,n,[]⟩ st↔Fx D r0 n ⟨r,n,[]⟩/\∃k',k'<k/\I k' r st:=Iff.rfl
theorem Yna{D r0 n I k P r st i}:Rd D r0 n I k P (.exit i) ⟨r,n,[]⟩ st↔Fx D r0 n ⟨r,n,[]⟩/\P (.exit i) r st:=Iff.rfl
theorem Ypl{D r0 n I k P r st}:Rd D r0 n I k P .ret ⟨r,n,[]⟩ st↔Fx D r0 n ⟨r,n,[]⟩/\P .ret r st:=Iff.rfl
attribute [simp] VZ Yna Ypl
theorem bN{C:Cx}{ro:Option Nat}{c:aq}{K:List Kf}{Q:Rs->Prop}{Gn:St}(D:List (Nat×Nat))(P:Ex->T V->St->Prop)(I:Nat->T V->St->Prop)(k:Nat)(hi:I k r0 Gn)
  (h:∀k r st,(∀t,iK D t=false->r.get t=r0.get t)->Fx D r0 n ⟨r,n,[]⟩->I k r st->Code C ro c ⟨r,n,[]⟩ st (Rd D r0 n I k P))
  (q:∀e r st,(∀t,iK D t=false->r.get t=r0.get t)->P e r st->bH C K (some (.ex e ⟨r,n,[]⟩ st)) Q):bH C K (eE (C.code ro (.loop c) ⟨r0,n,[]⟩ Gn)) Q:=by
 refine Yfo (fun e fr st=>Fx D r0 n fr/\P e fr.r st) (fun k fr st=>Fx D r0 n fr/\I k fr.r st) k ⟨Fx.refl,hi⟩ ?_ ?_
 ·rintro k ⟨r,n',m⟩ st ⟨hf,hi⟩
  have h1:n'=n:=hf.n
  have h2:m=[]:=hf.marks
  subst h1;subst h2
  obtain⟨e,bE,av,h3,h4⟩:=(h k r st hf.aL hf hi).ex
  refine⟨e,bE,av,h3,?_⟩
  cases e with
  |normal=>obtain⟨a,k',b,c⟩:=h4;exact⟨k',b,a,c⟩
  |exit i=>exact h4
  |ret=>exact h4
 ·rintro e ⟨r,n',m⟩ st ⟨hf,hp⟩
  have h1:n'=n:=hf.n
  have h2:m=[]:=hf.marks
  subst h1;subst h2
  exact q e r st hf.aL hp
theorem Ba{l:List V}{w:List Nat}(s:Sl h N v l){lo hi:Nat}(h1:lo<=hi)(h2:hi<=l.length)(x y:Option V)(hx:x=some (.int .i64 lo)\/x=none/\lo=0)(hy:y=some (.int .i64 hi)\/y=none/\hi=l.length):
  ∃v',lW ⟨h,N,w⟩ 1 (some v) (some x) (some y) (some none)=some (v',⟨h,N,w⟩)/\Sl h N v' ((l.take hi).drop lo):=by
 rcases s with⟨rfl,rfl|rfl⟩|⟨i,o,cp,c,e,rw,rfl,q2,q3,q4,q5,q6⟩
 ·have:hi=0:=by simpa using h2
  subst this
  have:lo=0:=by omega
  subst this
  refine⟨.aa,?_,.inl ⟨rfl,.inl rfl⟩⟩
  rcases hx with rfl|⟨rfl,_⟩<;>rcases hy with rfl|⟨rfl,_⟩<;>simp[lW,mA,ay,cX,iP]
 ·have:hi=0:=by simpa using h2
  subst this
  have:lo=0:=by omega
  subst this
  refine⟨.empty,?_,.inl ⟨rfl,.inr rfl⟩⟩
  rcases hx with rfl|⟨rfl,_⟩<;>rcases hy with rfl|⟨rfl,_⟩<;>simp[lW,mA,ay,cX,iP]
 ·have hlen:((l.take hi).drop lo).length=hi-lo:=by simp;omega
  have cF:∀j,j<hi-lo->c[o+lo+j]?=((l.take hi).drop lo)[j]?:=fun j hj=>by
   rw[fe,gU,aF (by omega),show o+lo+j=o+(lo+j) by omega]
   exact q4 _ (by omega)
  have b1:∀m,hi<=m->cX y m l.length=some hi:=fun m hm=>by
   rcases hy with rfl|⟨rfl,rfl⟩
   ·simp[cX,iP];omega
   ·rfl
  have b2:cX x hi 0=some lo:=by
   rcases hx with rfl|⟨rfl,rfl⟩
   ·simp[cX,iP];omega
   ·rfl
  cases cp with
  |some k=>
   have hk:=q6 k rfl
   refine⟨.slice i (if k=lo then o else o+lo) (hi-lo) (some (k-lo)) 1,?_,?_⟩
   ·have b0:cX none k k=some k:=rfl
    simp only[lW,mA,Cl,Src.ev,tk]
    simp[b0,b1 k (by omega),b2]
   ·by_cases nZ:k=lo
    ·refine .inr ⟨i,o,some 0,c,e,rw,?_,q2,q3,fun j hj=>by rw[hlen]at hj;omega,by rw[hlen];omega,fun k' ga=>by rw[hlen];omega⟩
     rw[hlen,aF nZ,show k-lo=0 by omega]
    ·refine .inr ⟨i,o+lo,some (k-lo),c,e,rw,?_,q2,q3,fun j hj=>cF j (by omega),by rw[hlen];omega,fun k' ga=>by simp at ga;rw[hlen];omega⟩
     rw[hlen,ar nZ]
  |none=>
   have hk:hi<=max l.length (c.length-o):=by omega
   by_cases aB:lo<max l.length (c.length-o)
   ·refine⟨.slice i (o+lo) (hi-lo) none 1,?_,.inr ⟨i,o+lo,none,c,e,rw,by rw[hlen],q2,q3,fun j hj=>cF j (by omega),by rw[hlen];omega,fun k' ga=>by cases ga⟩⟩
    simp only[lW,mA,Cl,Src.ev,St.row,q3,Nat.div_one,tk]
    simp[b1 _ hk,b2,aB]
   ·refine⟨.empty,?_,.inl ⟨nU (by rw[hlen];omega),.inr rfl⟩⟩
    simp only[lW,mA,Cl,Src.ev,St.row,q3,Nat.div_one,tk]
    simp[b1 _ hk,b2,aB]
theorem Qe{m v:Nat}(hk:l.length=k):(l++List.replicate (m+1) 0).set k v=(l++[v])++List.replicate m 0:=by
 subst hk
 rw[List.set_append_right _ _ (aV _)]
 simp[List.replicate_succ]
def aD(n:Nat):List Nat:=if h:n=0 then [] else n%B::aD (n/B)
termination_by n
decreasing_by exact ya (by omega) (by decide)
theorem nG:aD 0=[]:=by rw[aD];simp
theorem j0(h:n≠0):aD n=n%B::aD (n/B):=by rw[aD];simp[h]
theorem j9:∀(n:Nat),val B (aD n)=n:=by
 intro n
 induction n using Nat.strongRecOn with
 |_ n ih=>
  by_cases h:n=0
  ·subst h;rw[nG];rfl
  ·rw[j0 h]
   simp only[val]
   rw[ih (n/B) (ya (by omega) (by decide))]
   have:=pG n B
   omega
theorem nH(n:Nat):Dg (aD n):=by
 induction n using Nat.strongRecOn with
 |_ n ih=>
  by_cases h:n=0
  ·subst h;rw[nG];intro d hd;cases hd
  ·rw[j0 h]
   intro d hd
   rcases jN.1 hd with rfl|hd
   ·exact jd _ (by decide)
   ·exact ih (n/B) (ya (by omega) (by decide)) d hd
theorem yO:∀{l:List Nat},Dg l->n8 l=aD (val B l)
 |[],_=>by simp[n8,val,nG]
 |d::l,h=>by
  have ih:=yO (l:=l) fun e he=>h e (mr _ he)
  have hd:d<B:=h d mS
  simp only[n8,val,ih]
  by_cases h0:val B l=0
  ·rw[h0,nG]
   simp only[Nat.mul_zero,jR]
   by_cases nv:d=0
   ·simp[nv,nG]
   ·rw[j0 nv,sK hd,uK hd,nG];simp[nv]
  ·have hB:0<B:=by decide
   have h1:(d+B*val B l)/B=val B l:=by
    rw[Nat.add_mul_div_left _ _ hB,uK hd,qm]
   have h2:(d+B*val B l)%B=d:=by
    rw[Nat.add_mul_mod_self_left,sK hd]
   have h3:d+B*val B l≠0:=by
    intro hc
    have:B*val B l=0:=by omega
    rcases Nat.mul_eq_zero.1 this with h|h
    ·omega
    ·exact h0 h
   rw[j0 h3,h1,h2]
   split
   ·rename_i hc;rw[j0 h0]at hc;cases hc
   ·rfl
def Wn(h:T O)(N:Nat)(v:V)(n:Nat):Prop:=Sl h N v (dg (aD n))
theorem Wn.ad{h':T O}{N':Nat}(s:Wn h N v n)(k:ab h N h' N'):Wn h' N' v n:=Sl.ad s k
variable {N bytes z:Nat} {h:T O} {l:List (List V)} {v:V}
theorem PM{α:Type}{c:List α}{o n:Nat}{x:List α}(h:aM c o n=some x):o+n<=c.length/\x=(c.drop o).take n:=by
 unfold aM at h
 split at h
 ·rename_i hl;simp at h;exact⟨hl,h.symm⟩
 ·cases h
theorem Yj4{α:Type}{c:List α}{o n:Nat}{x:List α}(h:aM c o n=some x){f:Nat}(hf:f<n):c[o+f]?=x[f]?:=by
 obtain⟨_,rfl⟩:=PM h
 rw[gU,aF hf,fe]
def Sn(z:Nat)(h:T O)(N:Nat)(v:V)(l:List (List V)):Prop:=
 (l=[]/\(v=.aa\/v=.empty))\/∃i o cp c e rw,v=.slice i o l.length cp z/\i<N/\h.get i=some (.cells c e rw)/\(∀j x,l[j]?=some x->aM c (o+j*z) z=some x)/\o+l.length*z<=c.length/\∀k,cp=some k->l.length<=k
theorem Sn.nil:Sn z h N .aa []:=.inl ⟨rfl,.inl rfl⟩
theorem Sn.ad{h':T O}{N':Nat}(s:Sn z h N v l)(k:ab h N h' N'):Sn z h' N' v l:=by
 rcases s with s|⟨i,o,cp,c,e,rw,h1,h2,h3,h4⟩
 ·exact .inl s
 ·exact .inr ⟨i,o,cp,c,e,rw,h1,dZ h2 k.le,(k.get i h2).trans h3,h4⟩
theorem Sn.len(s:Sn z h N v l):kq v=some l.length:=by
 rcases s with⟨rfl,rfl|rfl⟩|⟨i,o,cp,c,e,rw,rfl,_⟩<;>rfl
theorem Sn.at(s:Sn z h N v l){j:Nat}{x:List V}(hj:l[j]?=some x):∃i o c e rw,tK v=some (i,o)/\i<N/\h.get i=some (.cells c e rw)/\aM c (o+j*z) z=some x:=by
 have hl:j<l.length:=by
  apply oF;intro hc;rw[eG hc]at hj;cases hj
 rcases s with⟨rfl,_⟩|⟨i,o,cp,c,e,rw,rfl,h2,h3,h4,_⟩
 ·simp at hl
 ·exact⟨i,o,c,e,rw,rfl,h2,h3,h4 j x hj⟩
theorem Yan(hz:0<z){h:T O}{N:Nat}{v:V}{l:List (List V)}{w:List Nat}(s:Sn z h N v l){lo hi:Nat}(h1:lo<=hi)(h2:hi<=l.length)(x y:Option V)(hx:x=some (.int .i64 lo)\/x=none/\lo=0)(hy:y=some (.int .i64 hi)\/y=none/\hi=l.length):
  ∃v',lW ⟨h,N,w⟩ z (some v) (some x) (some y) (some none)=some (v',⟨h,N,w⟩)/\Sn z h N v' ((l.take hi).drop lo):=by
 rcases s with⟨rfl,rfl|rfl⟩|⟨i,o,cp,c,e,rw,rfl,q2,q3,q4,q5,q6⟩
 ·have:hi=0:=by simpa using h2
  subst this
  have:lo=0:=by omega
  subst this
  refine⟨.aa,?_,.inl ⟨rfl,.inl rfl⟩⟩
  rcases hx with rfl|⟨rfl,_⟩<;>rcases hy with rfl|⟨rfl,_⟩<;>simp[lW,mA,ay,cX,iP]
 ·have:hi=0:=by simpa using h2
  subst this
  have:lo=0:=by omega
  subst this
  refine⟨.empty,?_,.inl ⟨rfl,.inr rfl⟩⟩
  rcases hx with rfl|⟨rfl,_⟩<;>rcases hy with rfl|⟨rfl,_⟩<;>simp[lW,mA,ay,cX,iP]
 ·have hlen:((l.take hi).drop lo).length=hi-lo:=by simp;omega
  have cF:∀j u,((l.take hi).drop lo)[j]?=some u->aM c (o+lo*z+j*z) z=some u:=fun j u hu=>by
   have hj:j<hi-lo:=by
    rw[<-hlen];apply oF;intro hc;rw[eG hc]at hu;cases hu
   rw[fe,gU,aF (by omega)]at hu
   have:=q4 _ _ hu
   rw[show o+lo*z+j*z=o+(lo+j)*z by rw[jG];omega]
   exact this
  have hmul:lo*z+(hi-lo)*z<=l.length*z:=by
   rw[<-jG];exact kl _ (by omega)
  have b1:∀m,hi<=m->cX y m l.length=some hi:=fun m hm=>by
   rcases hy with rfl|⟨rfl,rfl⟩
   ·simp[cX,iP];omega
   ·rfl
  have b2:cX x hi 0=some lo:=by
   rcases hx with rfl|⟨rfl,rfl⟩
   ·simp[cX,iP];omega
   ·rfl
  cases cp with
  |some k=>
   have hk:=q6 k rfl
   refine⟨.slice i (if k=lo then o else o+lo*z) (hi-lo) (some (k-lo)) z,?_,?_⟩
   ·have b0:cX none k k=some k:=rfl
    simp only[lW,mA,Cl,Src.ev]
    simp[b0,b1 k (by omega),b2]
   ·by_cases nZ:k=lo
    ·have h0:(l.take hi).drop lo=[]:=nU (by rw[hlen];omega)
     refine .inr ⟨i,o,some (k-lo),c,e,rw,?_,q2,q3,fun j u hu=>by rw[h0]at hu;simp at hu,by rw[h0];simp;omega,fun k' ga=>by rw[h0];simp⟩
     rw[hlen,aF nZ]
    ·refine .inr ⟨i,o+lo*z,some (k-lo),c,e,rw,?_,q2,q3,cF,by rw[hlen];omega,fun k' ga=>by simp at ga;rw[hlen];omega⟩
     rw[hlen,ar nZ]
  |none=>
   have V0:l.length<=(c.length-o)/z:=by
    rw[DR hz];omega
   have hk:hi<=max l.length ((c.length-o)/z):=by omega
   have nY:z≠0:=by omega
   by_cases aB:lo<max l.length ((c.length-o)/z)
   ·refine⟨.slice i (o+lo*z) (hi-lo) none z,?_,.inr ⟨i,o+lo*z,none,c,e,rw,by rw[hlen],q2,q3,cF,by rw[hlen];omega,fun k' ga=>by cases ga⟩⟩
    simp only[lW,mA,Cl,Src.ev,St.row,q3]
    simp[b1 _ hk,b2,aB,nY]
   ·refine⟨.empty,?_,.inl ⟨nU (by rw[hlen];omega),.inr rfl⟩⟩
    simp only[lW,mA,Cl,Src.ev,St.row,q3]
    simp[b1 _ hk,b2,aB,nY]
theorem Sn.one{l:List V}:Sn 1 h N v (l.map fun x=>[x])↔Sl h N v l:=by
 unfold Sn Sl
 constructor
 ·rintro(⟨h1,h2⟩|⟨i,o,cp,c,e,rw,h1,h2,h3,h4,h5,h6⟩)
  ·exact .inl ⟨by simpa using h1,h2⟩
  ·refine .inr ⟨i,o,cp,c,e,rw,by simpa using h1,h2,h3,fun j hj=>?_,by simpa using h5,by simpa using h6⟩
   have:=h4 j [l[j]] (by simp[cW hj])
   have:=Yj4 this (f:=0) (by omega)
   simp at this
   rw[this,cW hj]
 ·rintro(⟨h1,h2⟩|⟨i,o,cp,c,e,rw,h1,h2,h3,h4,h5,h6⟩)
  ·exact .inl ⟨by simpa using h1,h2⟩
  ·refine .inr ⟨i,o,cp,c,e,rw,by simpa using h1,h2,h3,fun j x hj=>?_,by simpa using h5,by simpa using h6⟩
   simp at hj
   obtain⟨u,hu,rfl⟩:=hj
   have hl:j<l.length:=by
    apply oF;intro hc;rw[eG hc]at hu;cases hu
   have:=h4 j hl
   rw[hu]at this
   have hc:o+j<c.length:=by omega
   unfold aM
   rw[aF (by omega),tk,Bl hc]
   rw[cW hc]at this
   simp at this
   simp[this]
def Own(z:Nat)(e:TypeId)(N0:Nat)(h:T O)(N:Nat)(v:V)(l:List (List V)):Prop:=
 (∀x∈l,x.length=z)/\((l=[]/\v=.aa)\/∃i,v=.slice i 0 l.length none z/\N0<=i/\i<N/\h.get i=some (.cells l.flatten e true))
theorem Own.nil{e:TypeId}{N0:Nat}:Own z e N0 h N .aa []:=⟨fun _ h=>by simp at h,.inl ⟨rfl,rfl⟩⟩
theorem Own.ad{e:TypeId}{N0:Nat}{h':T O}{N':Nat}(s:Own z e N0 h N v l)(k:ab h N h' N'):Own z e N0 h' N' v l:=by
 obtain⟨hl,s|⟨i,h1,h2,h3,h4⟩⟩:=s
 ·exact⟨hl,.inl s⟩
 ·exact⟨hl,.inr ⟨i,h1,h2,dZ h3 k.le,(k.get i h3).trans h4⟩⟩
theorem Own.len{e:TypeId}{N0:Nat}(s:Own z e N0 h N v l):kq v=some l.length:=by
 obtain⟨_,⟨rfl,rfl⟩|⟨i,rfl,_⟩⟩:=s<;>rfl
theorem rO{z:Nat}:∀{l:List (List V)},(∀x∈l,x.length=z)->l.flatten.length=l.length*z
 |[],_=>by simp
 |x::l,h=>by
  have h1:=h x mS
  have h2:=rO (l:=l) fun y hy=>h y (mr _ hy)
  simp only[List.flatten_cons,fK,h1,h2,bq,jG];omega
theorem Ew{z:Nat}:∀{l:List (List V)},(∀x∈l,x.length=z)->∀{j:Nat} {x:List V},l[j]?=some x->aM l.flatten (j*z) z=some x
 |[],_,j,x,hj=>by simp at hj
 |y::l,h,0,x,hj=>by
  have h1:=h y mS
  simp at hj;subst hj
  unfold aM
  simp[<-h1]
 |y::l,h,j+1,x,hj=>by
  have h1:=h y mS
  have h2:=Ew (l:=l) (fun y hy=>h y (mr _ hy)) (j:=j) (x:=x) (by simpa using hj)
  obtain⟨h3,h4⟩:=PM h2
  unfold aM
  rw[aF (by simp only[List.flatten_cons,fK,jG,h1];omega),h4]
  congr 2
  rw[List.flatten_cons,jG,Nat.one_mul,Nat.add_comm,<-List.drop_drop,<-h1,List.drop_left]
theorem Own.sn{e:TypeId}{N0:Nat}(s:Own z e N0 h N v l):Sn z h N v l:=by
 obtain⟨hl,⟨h1,h2⟩|⟨i,h1,h2,h3,h4⟩⟩:=s
 ·exact .inl ⟨h1,.inl h2⟩
 ·exact .inr ⟨i,0,none,l.flatten,e,true,h1,h3,h4,fun j x hj=>by rw[qm];exact Ew hl hj,by rw[rO hl];omega,fun k hk=>by cases hk⟩
def Qf(st:St)(size bytes:Nat)(e:TypeId):Option V->Option V->Option (V×St)
 |some s,some x=>jQ st size bytes e s x
 |_,_=>none
theorem Ztz{size:Nat}{e:TypeId}{z:List V}{s x:Src}{call:cA}{r:T V}{st:St}:yg size bytes e z s x call r st=Qf st size bytes e (s.ev r) (x.ev r):=by
 unfold yg Qf;rfl
theorem Cn{st:St}{size:Nat}{e:TypeId}{s x:V}:Qf st size bytes e (some s) (some x)=jQ st size bytes e s x:=rfl
attribute [simp] Ztz Cn
theorem pY{e:TypeId}{N0:Nat}{u:V}{x:List V}{w:List Nat}(s:Own z e N0 h N v l)(hN:N0<=N)(hz:0<z)(hx:x.length=z)
  (hu:ft ⟨h,N,w⟩ z u=some (1,x)) (hb:(2*(l.length+1)+1000)*bytes<=281474976710656):
  ∃v' h' w',jQ ⟨h,N,w⟩ z bytes e v u=some (v',⟨h',N+1,w'⟩)/\au N0 w'=au N0 w/\ab h N0 h' (N+1)/\(∀j,h'.get j=h.get j\/j=N\/(∃o n c q,v=.slice j o n c q))/\Own z e N0 h' (N+1) v' (l++[x]):=by
 obtain⟨hl,s⟩:=s
 have qH:∀y∈l++[x],y.length=z:=fun y hy=>by
  rcases pw.1 hy with hy|hy
  ·exact hl y hy
  ·simp at hy;rw[hy,hx]
 have nY:z≠0:=by omega
 rcases s with⟨rfl,rfl⟩|⟨i,rfl,h2,h3,h4⟩
 ·refine⟨.slice N 0 1 none z,h.set N (.cells x e true),w,?_,rfl,⟨by omega,fun j hj=>by rw[T.ah,ar (by omega)]⟩,fun j=>by rw[T.ah];by_cases hj:j=N<;>simp[hj],qH,.inr ⟨N,by simp,hN,by omega,by rw[T.ah];simp⟩⟩
  have nd:(2*1+1000)*bytes<=281474976710656:=by simpa using hb
  simp only[jQ,hu,uP,St.alloc]
  simp[nd,nY]
 ·have jv:=rO hl
  refine⟨.slice N 0 (l.length+1) none z,(h.set i .dead).set N (.cells (l.flatten++x) e true),i::w,?_,by simp[au,oo.2 h2],⟨by omega,fun j hj=>by rw[T.ah,ar (by omega),T.ah,ar (by omega)]⟩,fun j=>?_,qH,.inr ⟨N,by simp,hN,by omega,by rw[T.ah];simp⟩⟩
  ·simp only[jQ,hu,uP,St.row,h4]
   rw[ar (by omega),ar (by rintro(h|h|h)<;>omega)]
   simp only[if_true]
   rw[ar (by rw[jv,jG];omega),aF ⟨by rw[jv];omega,trivial,trivial⟩]
   rfl
  ·by_cases hj:j=N
   ·exact .inr (.inl hj)
   ·by_cases ku:j=i
    ·exact .inr (.inr ⟨0,l.length,none,z,by rw[ku]⟩)
    ·left;rw[T.ah,ar hj,T.ah,ar ku]
abbrev aX:=List UInt8
def iQ(c:UInt8):Bool:=decide (48<=c.toNat/\c.toNat<=57)
def gO:aX->Bool
 |[]=>false
 |c::s=>(c::s).all iQ&&(decide (c.toNat≠48)||decide (s=[]))
def ae:aX->Nat
 |[]=>0
 |c::s=>if c.toNat=47 then 0 else ae s+1
def aC(s:aX):Nat:=s.foldl (fun n c=>10*n+(c.toNat-48)) 0
def b_:aX->Bool
 |[]=>false
 |c::_=>decide (c.toNat=45)
def bl(s:aX):aX:=if b_ s then s.drop 1 else s
def fG(neg:Bool)(p:aX)(broken:Bool)(d:aX):Bool:=gO p&&!(neg&&decide (p=[48]))&&(!broken||(gO d&&decide (d≠[48])&&decide (d≠[49])))
def iS(neg:Bool)(p:aX)(broken:Bool)(d:aX):Nat:=
 if fG neg p broken d=false then 1 else if 600<p.length\/600<d.length then 4 else if broken=true/\Nat.gcd (aC p) (aC d)≠1 then 1 else 0
def ED(neg:Bool)(t:aX):Nat:=iS neg (t.take (ae t)) (decide (ae t<t.length)) (t.drop (ae t+1))
def bW(s:aX):Nat:=ED (b_ s) (bl s)
theorem Aq:∀(s:aX),ae s<=s.length
 |[]=>aV _
 |c::s=>by
  have:=Aq s
  simp only[ae,bq]
  split<;>omega
structure nw where
 name:aX
 op:aX
 u9:aX
 gY:List aX
 cost:Int
def pos:List nw->aX->Nat
 |[],_=>0
 |s::g,n=>if s.name=n then 0 else pos g n+1
structure Opn where
 u9:Bool
 lo:Nat
 hi:Nat
variable {i:Nat} {j:Int} {k:IntKind} {r:T V} {s:aX} {x:Src}
def V1(s:aX)(p:Nat):Int:=(Utf8.decode ⟨s.toArray⟩ p).1
def V2(s:aX)(p:Nat):Nat:=(Utf8.decode ⟨s.toArray⟩ p).2
def Co(i:Nat)(st:St):Option (aX×Nat)->Option (V×St)
 |some (s,p)=>if p<s.length then some (.bb [.bool true,.int .i64 p,.int .i32 (Utf8.decode ⟨s.toArray⟩ p).1],st.write i (.dV s (p+(Utf8.decode ⟨s.toArray⟩ p).2))) else some (.bb [.bool false],st)
 |none=>none
def KN:Option O->Option (aX×Nat)
 |some (.dV s p)=>some (s,p)
 |_=>none
def Qg(st:St):Option V->Option (V×St)
 |some (.ptr i 0)=>Co i st (KN (st.h.get i))
 |_=>none
theorem Zrh{call:cA}{st:St}:BJ x call r st=Qg st (x.ev r):=by
 unfold BJ Qg
 rcases x.ev r with _|v
 ·rfl
 ·cases v<;>try rfl
  rename_i i o
  cases o with
  |zero=>
   simp only[KN,Co]
   rcases st.h.get i with _|o
   ·rfl
   ·cases o<;>rfl
  |succ=>rfl
theorem Zx5{st:St}:Qg st (some (.ptr i 0))=Co i st (KN (st.h.get i)):=rfl
theorem Ztj{p:Nat}:KN (some (.dV s p))=some (s,p):=rfl
theorem Ybv{st:St}{p:Nat}(h:p<s.length):Co i st (some (s,p))=some (.bb [.bool true,.int .i64 p,.int .i32 (V1 s p)],st.write i (.dV s (p+V2 s p))):=by simp[Co,h,V1,V2]
theorem Zx6{st:St}:Co i st (some (s,s.length))=some (.bb [.bool false],st):=by simp[Co]
def ph(st:St):Option V->Option (Option V)->Option (Option V)->Option (V×St)
 |some (.str s),some lo,some hi=>match cX hi s.length s.length with
   |some h=>match cX lo h 0 with
    |some l=>some (.str ((s.take h).drop l),st)
    |none=>none
   |none=>none
 |_,_,_=>none
theorem Zp2{lo hi:Option Src}{call:cA}{st:St}:tF x lo hi call r st=ph st (x.ev r) (ay r lo) (ay r hi):=by
 unfold tF ph;rfl
theorem Cq{st:St}(h0:0<=j)(h1:j<=s.length):ph st (some (.str s)) (some (some (.int k j))) (some none)=some (.str (s.drop j.toNat),st):=by
 simp[ph,cX,iP,h0,h1]
theorem Qh{st:St}(h0:0<=j)(h1:j<=s.length):ph st (some (.str s)) (some none) (some (some (.int k j)))=some (.str (s.take j.toNat),st):=by
 simp[ph,cX,iP,h0,h1]
theorem V3{st:St}{k':IntKind}{i:Int}(h0:0<=i)(h1:i<=j)(h2:j<=s.length):ph st (some (.str s)) (some (some (.int k i))) (some (some (.int k' j)))=some (.str ((s.take j.toNat).drop i.toNat),st):=by
 have h3:0<=j:=by omega
 have h4:max j 0=j:=by omega
 simp[ph,cX,iP,h0,h1,h2,h3,h4]
def Cr(s:aX):List V:=s.map fun b=>.int .u8 (cE b)
theorem Zzr(s:aX):(Cr s).length=s.length:=by simp[Cr]
theorem Zzs{k:Nat}{c:UInt8}(h:s[k]?=some c):(Cr s)[k]?=some (.int .u8 (cE c)):=by simp[Cr,h]
def Qi(elem:TypeId)(st:St):Option V->Option (V×St)
 |some (.str s)=>some (.slice st.n 0 s.length none 1,st.alloc (.cells (Cr s) elem true))
 |_=>none
theorem Zp1{elem:TypeId}{call:cA}{st:St}:zO elem x call r st=Qi elem st (x.ev r):=by
 unfold zO Qi;rfl
theorem Yfj{elem:TypeId}{st:St}:Qi elem st (some (.str s))=some (.slice st.n 0 s.length none 1,st.alloc (.cells (Cr s) elem true)):=rfl
attribute [simp] Zp1 Yfj Zzr Zrh Zx5 Ztj Ybv Zx6 Zp2 Cq Qh V3 BI
theorem V4:∀(s:aX) (i:Nat),Bu 47 s i=if ae s<s.length then ((i+ae s:Nat):Int) else -1
 |[],i=>rfl
 |c::s,i=>by
  simp only[Bu,ae]
  have e:(c==47)=decide (c.toNat=47):=by
   rw[Bool.eq_iff_iff]
   simp only[beq_iff_eq,decide_eq_true_eq]
   exact⟨fun h=>by rw[h];rfl,fun h=>UInt8.toNat_inj.1 h⟩
  rw[e]
  by_cases h:c.toNat=47
  ·simp[h]
  ·simp only[h,decide_false,if_false,eL,V4 s (i+1),bq]
   by_cases h2:ae s<s.length
   ·rw[aF h2,aF (by omega)];omega
   ·rw[ar h2,ar (by omega)]
end Go.Mx
