/-
  Slices of which only the elements are known; lists of digits.
-/
import Derived.Test.YtlbophlgohokkaaGreatDoorMxLim
set_option linter.all false
namespace Go.Mx
open Go
variable {N a b i k n o size:Nat} {h:T O} {j:Int} {l:List Nat} {r r0:T V} {v:V} {x:Src}
def Zlh:V→Option Nat
 |.nilslice=>some 0
 |.empty=>some 0
 |.slice _ _ n _ _=>some n
 |_=>none
def Znr:V→Option (Nat×Nat)
 |.slice i o _ _ _=>some (i,o)
 |_=>none
def Yki(st:St):Option Nat→Option (V×St)
 |some n=>some (.int .i64 n,st)
 |none=>none
def Yph(st:St):Option V→Option (V×St)
 |some v=>Yki st (Zlh v)
 |none=>none
theorem Yez{call:Za3}{st:St}:Zfh 1 x call r st=Yph st (x.ev r):=by
 unfold Zfh Yph
 rcases x.ev r with _|v
 ·rfl
 ·cases v<;>rfl
theorem Ybt{st:St}:Yph st (some v)=Yki st (Zlh v):=rfl
theorem Zx0{st:St}:Yki st (some n)=some (.int .i64 n,st):=rfl
def Zwk(st:St)(size k:Nat):Option (Nat×Nat)→Option (V×St)
 |some (i,o)=>some (.ptr i (o+k*size),st)
 |none=>none
def Zsl(st:St)(size:Nat)(v:V)(k:Int):Option Nat→Option (V×St)
 |some n=>if 0≤k∧k<(n:Int) then Zwk st size k.toNat (Znr v) else none
 |none=>none
def Ylu(st:St)(size:Nat):Option V→Option V→Option (V×St)
 |some v,some (.int _ k)=>Zsl st size v k (Zlh v)
 |_,_=>none
theorem Zq5{i:Src}{call:Za3}{st:St}:Zda size x i call r st=Ylu st size (x.ev r) (i.ev r):=by
 unfold Zda Ylu
 rcases x.ev r with _|v
 ·rfl
 ·rcases i.ev r with _|u
  ·cases v<;>rfl
  ·cases u<;>cases v<;>simp[Zsl,Zwk,Zlh,Znr]<;>omega
theorem Zy2{st:St}{k:IntKind}:Ylu st size (some v) (some (.int k j))=Zsl st size v j (Zlh v):=rfl
theorem Ydh{st:St}(h0:0≤j)(h1:j<(n:Int)):Zsl st size v j (some n)=Zwk st size j.toNat (Znr v):=by simp[Zsl,h0,h1]
theorem Zuq{st:St}:Zwk st size k (some (i,o))=some (.ptr i (o+k*size),st):=rfl
theorem Yri(a b:Int):(a==b)=decide (a=b):=by
 by_cases h:a=b<;>simp[h]
theorem Yrh(a b:Int):(a !=b)=!decide (a=b):=by
 by_cases h:a=b<;>simp[h]
theorem Yd2(a b:Nat):((a:Int)+(b:Int)).toNat=a+b:=by omega
theorem Yd1(a b:Nat):((a:Int)-(b:Int)).toNat=a-b:=by omega
theorem Ypu(a b n:Nat):((a:Int)+(b:Int)<(n:Int))↔a+b<n:=by omega
theorem Zwp(b:Nat):((64:Int)-(b:Int)).toNat=64-b:=by omega
attribute [simp] Zwp Yri Yrh Int.natCast_inj Yd2 Yd1 Ypu
def Ypg(st:St):Option V→Option (V×St)
 |some (.str s)=>some (.int .i64 s.length,st)
 |_=>none
theorem Ye0{call:Za3}{st:St}:Zfh 0 x call r st=Ypg st (x.ev r):=by
 unfold Zfh Ypg
 rcases x.ev r with _|v
 ·rfl
 ·cases v<;>rfl
theorem Ybs{st:St}{s:List UInt8}:Ypg st (some (.str s))=some (.int .i64 s.length,st):=rfl
theorem Zxy{i o n c z}:Zlh (.slice i o n c z)=some n:=rfl
theorem Yfl:Zlh .nilslice=some 0:=rfl
theorem Zxz:Zlh .empty=some 0:=rfl
theorem Zuo{i o n c z}:Znr (.slice i o n c z)=some (i,o):=rfl
attribute [simp] Yez Ye0 Ybs Zxy Yfl Zxz Zuo Ybt Zx0 Zq5 Zy2 Ydh Zuq
def u8I(b:UInt8):Int:=b.toNat
theorem Zze(b:UInt8):0≤u8I b∧u8I b<256:=by unfold u8I;have:=b.toNat_lt;omega
def Yft(st:St):Option UInt8→Option (V×St)
 |some b=>some (.int .u8 b.toNat,st)
 |none=>none
def Yoe(st:St):Option V→Option V→Option (V×St)
 |some (.str s),some (.int _ k)=>if 0≤k then Yft st s[k.toNat]? else none
 |_,_=>none
theorem Ztl{i:Src}{call:Za3}{st:St}:Zed x i call r st=Yoe st (x.ev r) (i.ev r):=by
 unfold Zed Yoe Yft
 rcases x.ev r with _|v
 ·rfl
 ·rcases i.ev r with _|u
  ·cases v<;>rfl
  ·cases u<;>cases v<;>rfl
theorem Yb4{st:St}{s:List UInt8}{k:IntKind}(h:0≤j):Yoe st (some (.str s)) (some (.int k j))=Yft st s[j.toNat]?:=by simp[Yoe,h]
theorem Zyf{st:St}{b:UInt8}:Yft st (some b)=some (.int .u8 (u8I b),st):=rfl
attribute [simp] Ztl Yb4 Zyf
def mkK(st:St)(elem:TypeId)(size bytes:Nat)(zero:List V):Option V→Option V→Option (V×St)
 |some (.int _ l),some (.int _ c)=>if 0≤l∧l≤c∧bytes*c≤2^47∧c<2^62∧size=zero.length∧size≠0 then
    some (.slice st.n 0 l.toNat (some c.toNat) size,st.alloc (.cells (Zd5 zero c.toNat) elem true)) else none
 |_,_=>none
theorem Zq3{elem:TypeId}{bytes:Nat}{zero:List V}{y:Src}{call:Za3}{st:St}:Zcm elem size bytes zero x y call r st=mkK st elem size bytes zero (x.ev r) (y.ev r):=by
 unfold Zcm mkK;rfl
theorem Yff{st:St}{elem:TypeId}{bytes:Nat}{zero:List V}{k k':IntKind}{l:Int}(h0:0≤l)(h1:bytes*l≤140737488355328)(h2:l<4611686018427387904)(h3:size=zero.length)(h4:0<size):
  mkK st elem size bytes zero (some (.int k l)) (some (.int k' l))=some (.slice st.n 0 l.toNat (some l.toNat) size,st.alloc (.cells (Zd5 zero l.toNat) elem true)):=by
 unfold mkK
 simp only[]
 rw[Yru ⟨h0,Int.le_refl _,by simpa using h1,by simpa using h2,h3,by omega⟩]
def Zuy(n:Nat)(st:St):Option V→Option V→Option (V×St)
 |some (.ptr i o),some v=>match st.row i with
   |some (c,e,true)=>if v.cells.length=n∧o+n≤c.length∧v.cells.all V.one=true then some (.tup [],st.write i (.cells (splice c o v.cells) e true)) else none
   |_=>none
 |_,_=>none
theorem Zw7{a:Src}{call:Za3}{st:St}:Zfb n a x call r st=Zuy n st (a.ev r) (x.ev r):=by
 unfold Zfb Zuy;rfl
def Zan(n:Nat)(st:St)(i o:Nat)(v:V):Option O→Option (V×St)
 |some (.cells c e true)=>if v.cells.length=n∧o+n≤c.length∧v.cells.all V.one=true then some (.tup [],st.write i (.cells (splice c o v.cells) e true)) else none
 |_=>none
theorem Zwt{st:St}:Zuy n st (some (.ptr i o)) (some v)=Zan n st i o v (st.h.get i):=by
 unfold Zuy Zan St.row
 simp only[]
 rcases st.h.get i with _|x
 ·rfl
 ·cases x with
  |cells c e b=>cases b<;>rfl
  |_=>rfl
theorem Zk3{w:List Nat}{c:List V}{e:TypeId}(h1:v.cells.length=n)(h2:o+n≤c.length)(h3:v.cells.all V.one=true):
  Zan n ⟨h,N,w⟩ i o v (some (.cells c e true))=some (.tup [],⟨h.set i (.cells (splice c o v.cells) e true),N,i::w⟩):=by
 unfold Zan
 simp only[]
 rw[Yru ⟨h1,h2,h3⟩];rfl
attribute [simp] Zq3 Yff Zw7 Zwt Zk3
def lo64(n:Nat):Nat:=n%18446744073709551616
def hi64(n:Nat):Nat:=n/18446744073709551616
def sb64(x y c:Nat):Nat:=(x+18446744073709551616-y-c)%18446744073709551616
def bw64(x y c:Nat):Nat:=if x<y+c then 1 else 0
def shr64(a b:Nat):Nat:=a/2^b
def shl64(a b:Nat):Nat:=a*2^b%18446744073709551616
def and32(a:Nat):Nat:=a%4294967296
def or64(a b:Nat):Nat:=a|||b
theorem Zhn(n:Int):IntKind.wrap .u64 n=n%18446744073709551616:=by simp[IntKind.wrap,IntKind.bits,IntKind.signed]
theorem Zd6{n:Int}(h1:0≤n)(h2:n<18446744073709551616):Zar .u64 n=n:=by rw[Zdd,Zhn];omega
theorem Zcl(n:Int):Zar .u64 n=n%18446744073709551616:=by rw[Zdd,Zhn]
theorem Zww{b:Int}(h0:0≤b)(h1:b≤64):Zgo .shr .u64 (a:Int) b=some (.int .u64 (shr64 a b.toNat:Nat)):=by
 unfold Zgo shr64
 have e:min b.toNat (IntKind.bits .u64)=b.toNat:=by simp[IntKind.bits];omega
 rw[Yrq (by omega),e]
 simp only[Yro,V.int.injEq,true_and]
 rw[Int.fdiv_eq_ediv_of_nonneg _ (by exact_mod_cast Yuh _)]
 push_cast
 rfl
theorem Zwx{b:Int}(h0:0≤b)(h1:b≤64):Zgo .shl .u64 (a:Int) b=some (.int .u64 (shl64 a b.toNat:Nat)):=by
 unfold Zgo shl64
 have e:min b.toNat (IntKind.bits .u64)=b.toNat:=by simp[IntKind.bits];omega
 rw[Yrq (by omega),e]
 show some (V.int .u64 (IntKind.wrap .u64 ((a:Int)*2^b.toNat)))=_
 rw[Zhn]
 have:(((a*2^b.toNat%18446744073709551616:Nat)):Int)=(a:Int)*2^b.toNat%18446744073709551616:=by
  rw[Int.natCast_emod,Yve,Int.natCast_pow];rfl
 rw[this]
theorem Zjr(a:Nat)(h:a<18446744073709551616):(BitVec.ofInt 64 (a:Int)).toNat=a:=by
 simp[BitVec.toNat_ofInt];omega
theorem Zrs(h:a<18446744073709551616):Zdm .and .u64 (a:Int) 4294967295=some (.int .u64 (and32 a:Nat)):=by
 show some (V.int .u64 (IntKind.wrap .u64 (BitVec.ofInt 64 (a:Int)&&& BitVec.ofInt 64 4294967295).toNat))=_
 rw[Zhn,BitVec.toNat_and,Zjr a h]
 have e:(BitVec.ofInt 64 4294967295).toNat=2^32-1:=by decide
 rw[e,Nat.and_two_pow_sub_one_eq_mod]
 unfold and32
 simp only[Yro,V.int.injEq,true_and]
 omega
theorem Yb1(h:a<18446744073709551616)(h':b<18446744073709551616):Zdm .or .u64 (a:Int) (b:Int)=some (.int .u64 (or64 a b:Nat)):=by
 show some (V.int .u64 (IntKind.wrap .u64 (BitVec.ofInt 64 (a:Int)|||BitVec.ofInt 64 (b:Int)).toNat))=_
 rw[Zhn,BitVec.toNat_or,Zjr a h,Zjr b h']
 have:=Nat.or_lt_two_pow (n:=64) h h'
 unfold or64
 simp only[Yro,V.int.injEq,true_and]
 omega
def addu(a b:Nat):Nat:=(a+b)%18446744073709551616
def subu(a b:Nat):Nat:=((a:Int)-b).toNat%18446744073709551616+(if a<b then (((a:Int)-b)%18446744073709551616).toNat else 0)
def mulu(a b:Nat):Nat:=(a*b)%18446744073709551616
def quou(a b:Nat):Nat:=a/b
def remu(a b:Nat):Nat:=a%b
theorem Zwn:Zar .u64 ((a:Int)+(b:Int))=(addu a b:Nat):=by rw[Zcl];unfold addu;omega
theorem Zn7:Zar .u64 ((a:Int)-(b:Int))=(subu a b:Nat):=by
 rw[Zcl];unfold subu
 split<;>omega
theorem Zsr:Zar .u64 ((a:Int)-1)=(subu a 1:Nat):=Zn7 (b:=1)
theorem Zkj:Zar .u64 ((a:Int)*(b:Int))=(mulu a b:Nat):=by
 rw[Zcl];unfold mulu
 rw[←Yve];omega
theorem Zqi:Zar .u64 ((a:Int)*4294967296)=(mulu a 4294967296:Nat):=Zkj (b:=4294967296)
theorem Zo9:Zar .u64 (4294967296*(a:Int))=(mulu 4294967296 a:Nat):=Zkj (a:=4294967296)
theorem Zwm(h:a<18446744073709551616):Zar .u64 ((a:Int).tdiv (b:Int))=(quou a b:Nat):=by
 rw[Zcl];unfold quou
 have e:((a:Int).tdiv (b:Int))=((a/b:Nat):Int):=rfl
 have:=Ytf a b
 rw[e]
 generalize a/b=q at*
 omega
theorem Zzi:(a:Int).tmod (b:Int)=(remu a b:Nat):=rfl
theorem Zgv(h:b≤a)(ha:a<18446744073709551616):subu a b=a-b:=by unfold subu;split<;>omega
theorem Ylt:addu a b<18446744073709551616:=Ys2 _ (by decide)
theorem Yjy:mulu a b<18446744073709551616:=Ys2 _ (by decide)
theorem Zpi:shl64 a b<18446744073709551616:=Ys2 _ (by decide)
theorem Zzk:subu a b<18446744073709551616:=by unfold subu;split<;>omega
theorem Zu2(h:a<18446744073709551616):shr64 a b<18446744073709551616:=Ysp (Ytf _ _) h
attribute [simp] Ylt Yjy Zpi Zzk Zwn Zn7 Zsr Zkj Zqi Zo9 Zwm Zzi Zww Zwx Zrs Yb1
def Yky(st:St)(e:Ext)(o:Option (List V)):Option (V×St):=match e,o with
  |.same,some [v]=>some (v,st)
  |e,some l=>match Yf3 e l with
   |some v=>some (v,st)
   |none=>none
  |_,none=>none
theorem Ye1{e:Ext}{args:List Src}{call:Za3}{st:St}:Zms e args call r st=Yky st e (Zh5 r args):=rfl
theorem Ycg{st:St}:Yky st .same (some [v])=some (v,st):=rfl
theorem Zyl{st:St}{x y c:Int}(h:c=0∨c=1):Yky st .add64 (some [.int .u64 x,.int .u64 y,.int .u64 c])=some (.tup [.int .u64 (lo64 (x.toNat+y.toNat+c.toNat):Nat),.int .u64 (hi64 (x.toNat+y.toNat+c.toNat):Nat)],st):=by
 simp only[Yky,Yf3,h,not_true_eq_false,if_false]
 rfl
theorem Zyk{st:St}{x y c:Int}(h:c=0∨c=1):Yky st .sub64 (some [.int .u64 x,.int .u64 y,.int .u64 c])=some (.tup [.int .u64 (sb64 x.toNat y.toNat c.toNat:Nat),.int .u64 (bw64 x.toNat y.toNat c.toNat:Nat)],st):=by
 simp only[Yky,Yf3,h,not_true_eq_false,if_false,bw64]
 split<;>rfl
theorem Ybl:lo64 n<18446744073709551616:=Ys2 _ (by decide)
theorem Yi4{c:Nat}:sb64 a b c<18446744073709551616:=Ys2 _ (by decide)
attribute [simp] Ybl Yi4 Ye1 Ycg Zyl Zyk
def Zct(st:St)(size:Nat):Option V→Option (Option V)→Option (Option V)→Option (Option V)→Option (V×St)
 |some v,some lo,some hi,some mx=>Za8 size (.const v) (lo.map .const) (hi.map .const) (mx.map .const) Zp8 .nil st
 |_,_,_,_=>none
theorem Zc4{o:Option V}:evOpt r (o.map .const)=some o:=by cases o<;>rfl
theorem Zea{lo hi mx:Option Src}{call:Za3}{st:St}:Za8 size x lo hi mx call r st=Zct st size (x.ev r) (evOpt r lo) (evOpt r hi) (evOpt r mx):=by
 unfold Zct Za8
 rcases x.ev r with _|v
 ·rfl
 ·rcases evOpt r lo with _|lo
  ·cases v<;>try rfl
   rename_i c _;cases c<;>rfl
  ·rcases evOpt r hi with _|hi
   ·cases v<;>try rfl
    rename_i c _;cases c<;>rfl
   ·rcases evOpt r mx with _|mx
    ·cases v<;>try rfl
     rename_i c _;cases c<;>rfl
    ·simp only[Zc4];rfl
def Sl(h:T O)(N:Nat)(v:V)(l:List V):Prop:=
 (l=[]∧(v=.nilslice∨v=.empty))∨∃i o cp c e rw,v=.slice i o l.length cp 1∧i<N∧h.get i=some (.cells c e rw)∧(∀j,j<l.length→c[o+j]?=l[j]?)∧o+l.length≤c.length∧∀k,cp=some k→l.length≤k
theorem Sl.nil:Sl h N .nilslice []:=.inl ⟨rfl,.inl rfl⟩
theorem Sl.row{L:Nat}{l:List V}{e:TypeId}{rw:Bool}{cp:Option Nat}(hi:i<N)(hg:h.get i=some (.cells l e rw))(hL:l.length=L)(hc:∀k,cp=some k→L≤k):Sl h N (.slice i 0 L cp 1) l:=
 .inr ⟨i,0,cp,l,e,rw,by rw[hL],hi,hg,fun j _=>by rw[Yt3],by omega,fun k hk=>by rw[hL];exact hc k hk⟩
theorem Sl.keep{h':T O}{N':Nat}{l:List V}(s:Sl h N v l)(k:Keeps h N h' N'):Sl h' N' v l:=by
 rcases s with s|⟨i,o,cp,c,e,rw,h1,h2,h3,h4⟩
 ·exact .inl s
 ·exact .inr ⟨i,o,cp,c,e,rw,h1,Yr3 h2 k.le,(k.get i h2).trans h3,h4⟩
theorem Sl.len{l:List V}(s:Sl h N v l):Zlh v=some l.length:=by
 rcases s with⟨rfl,rfl|rfl⟩|⟨i,o,cp,c,e,rw,rfl,_⟩<;>rfl
theorem Sl.at{l:List V}(s:Sl h N v l){j:Nat}{x:V}(hj:l[j]?=some x):∃i o c e rw,Znr v=some (i,o)∧i<N∧h.get i=some (.cells c e rw)∧c[o+j]?=some x:=by
 have hl:j<l.length:=by
  apply Ys0;intro hc;rw[Yr2 hc]at hj;cases hj
 rcases s with⟨rfl,_⟩|⟨i,o,cp,c,e,rw,rfl,h2,h3,h4,_⟩
 ·simp at hl
 ·exact⟨i,o,c,e,rw,rfl,h2,h3,(h4 j hl).trans hj⟩
def val(b:Nat):List Nat→Nat
 |[]=>0
 |d::l=>d+b*val b l
def dg(l:List Nat):List V:=l.map fun n:Nat=>.int .u64 n
def dgi(l:List Nat):List V:=l.map fun n:Nat=>.int .i64 n
theorem Zad(l:List Nat):(dg l).length=l.length:=by simp[dg]
theorem Zaf(l:List Nat):(dgi l).length=l.length:=by simp[dgi]
theorem Zbb{j:Nat}(h:l[j]?=some n):(dg l)[j]?=some (.int .u64 n):=by simp[dg,h]
attribute [simp] Zad Zaf
theorem Zdc{v:Nat}(h:k<l.length):splice (dg l) k [.int .u64 v]=dg (l.set k v):=by
 unfold splice dg
 apply Ysk
 intro j
 simp only[Ytd,Ysd,List.getElem?_set]
 rw[Ysz,List.getElem?_append,Ysg,Yt9]
 by_cases h1:j<k
 ·rw[Yru (by omega),Ysb,Yru h1,Ysd,Yrq (by omega)]
 ·rw[Yrq (by omega)]
  by_cases h2:j=k
  ·subst h2
   rw[show j-min j l.length=0 by omega,Yru rfl,Yru h];rfl
  ·rw[show j-min k l.length=(j-k-1)+1 by omega,Yrq (by omega)]
   simp only[Yvk,Ytu,Yr0,Ysd]
   rw[show k+1+(j-k-1)=j by omega]
theorem Zgh:Zd5 [.int .u64 0] n=dg (List.replicate n 0):=by
 unfold Zd5 dg
 apply Ysk
 intro j
 simp only[Ytd,Yup,Ysd,List.getElem?_replicate]
 by_cases h:j<n
 ·simp[h,Nat.mod_one]
 ·simp[h]
theorem Yg9{z:V}:Zd5 [z] n=List.replicate n z:=by
 unfold Zd5
 apply Ysk
 intro j
 simp only[Ytd,Yup,Ysd,List.getElem?_replicate]
 by_cases h:j<n
 ·simp[h,Nat.mod_one]
 ·simp[h]
theorem Zho(b:Nat):∀(l m:List Nat),val b (l++m)=val b l+b^l.length*val b m
 |[],m=>by simp[val]
 |d::l,m=>by
  simp only[Yud,val,Zho b l m,Yrp,Yse]
  grind
theorem Zlm(b:Nat)(l:List Nat)(d:Nat):val b (l++[d])=val b l+b^l.length*d:=by simp[Zho,val]
theorem Zqk(b n:Nat):val b (List.replicate n 0)=0:=by
 induction n with
 |zero=>rfl
 |succ n ih=>simp[List.replicate_succ,val,ih]
theorem Zby{d:Nat}(h:l[k]?=some d):val b (l.take (k+1))=val b (l.take k)+b^k*d:=by
 have hk:k<l.length:=by
  apply Ys0;intro hc;rw[Yr2 hc]at h;cases h
 rw[Yt1,h]
 simp only[Option.toList]
 rw[Zlm,Ysg,Ysy (by omega)]
theorem Zk1{b:Nat}:∀{l:List Nat},(∀d∈l,d<b)→val b l<b^l.length
 |[],_=>by simp[val]
 |d::l,h=>by
  have h1:=h d Ysj
  have h2:=Zk1 (l:=l) fun e he=>h e (Ysh _ he)
  simp only[val,Yrp,Yse]
  have:b*(val b l+1)≤b*b^l.length:=Yr9 b h2
  rw[Ysi (b^l.length) b]
  grind
def B:Nat:=18446744073709551616
def Dg(l:List Nat):Prop:=∀d∈l,d<B
theorem Dg.get(h:Dg l){j d:Nat}(hj:l[j]?=some d):d<B:=h d (Yrv hj)
def dz(l:List Nat)(j:Nat):Nat:=l[j]?.getD 0
theorem Yno{l:List Nat}(h:Dg l)(j:Nat):dz l j<B:=by
 unfold dz
 cases hj:l[j]? with
 |none=>decide
 |some d=>exact h.get hj
theorem Zb7{b:Nat}{l:List Nat}{k:Nat}:val b (l.take (k+1))=val b (l.take k)+b^k*dz l k:=by
 unfold dz
 cases h:l[k]? with
 |some d=>exact Zby h
 |none=>
  have hk:l.length≤k:=by
   apply Yto;intro hc;rw[Yrt hc]at h;cases h
  rw[Yr1 (by omega),Yr1 hk];simp
def Zgq:List Nat→List Nat
 |[]=>[]
 |d::l=>match Zgq l with
  |[]=>if d=0 then [] else [d]
  |t=>d::t
theorem Zn9:∀(l:List Nat),Zgq (l++[0])=Zgq l
 |[]=>rfl
 |d::l=>by simp only[Yud,Zgq,Zn9 l]
theorem Zoa{d:Nat}(hd:d≠0):∀(l:List Nat),Zgq (l++[d])=l++[d]
 |[]=>by simp[Zgq,hd]
 |e::l=>by
  simp only[Yud,Zgq,Zoa hd l]
  cases l<;>rfl
def inD:List (Nat×Nat)→Nat→Bool
 |[],_=>false
 |(a,b)::D,t=>(Nat.ble a t&&Nat.ble t b)||inD D t
theorem Ykp{t:Nat}:inD [] t=false:=rfl
theorem Yfr{D:List (Nat×Nat)}{t:Nat}:inD ((a,b)::D) t=((Nat.ble a t&&Nat.ble t b)||inD D t):=rfl
attribute [simp] Ykp Yfr
structure Fx (D:List (Nat×Nat)) (r0:T V) (n:Nat) (fr:Fr):Prop where
 reg:∀t,inD D t=false→fr.r.get t=r0.get t
 n:fr.n=n
 marks:fr.marks=[]
theorem Fx.refl{D:List (Nat×Nat)}:Fx D r n ⟨r,n,[]⟩:=⟨fun _ _=>rfl,rfl,rfl⟩
theorem Fx.set{D:List (Nat×Nat)}{t:Nat}(ht:inD D t=true):Fx D r0 n ⟨r.set t v,n,[]⟩↔Fx D r0 n ⟨r,n,[]⟩:=by
 constructor
 ·intro h
  refine⟨fun u hu=>?_,rfl,rfl⟩
  have:=h.reg u hu
  simp only[T.get_set]at this
  rw[Yrq]at this
  ·exact this
  ·rintro rfl;rw[ht]at hu;cases hu
 ·intro h
  refine⟨fun u hu=>?_,rfl,rfl⟩
  simp only[T.get_set]
  rw[Yrq]
  ·exact h.reg u hu
  ·rintro rfl;rw[ht]at hu;cases hu
attribute [simp] Fx.set
def Yoj(D' D:List (Nat×Nat)):Bool:=D'.all fun p=>D.any fun q=>Nat.ble q.1 p.1&&Nat.ble p.2 q.2
theorem Yb2{D:List (Nat×Nat)}{t:Nat}:inD D t=true↔∃p∈D,p.1≤t∧t≤p.2:=by
 induction D with
 |nil=>simp[inD]
 |cons p D ih=>obtain⟨a,b⟩:=p;simp[inD,ih]
theorem Yix{D' D:List (Nat×Nat)}(h:Yoj D' D=true){t:Nat}(ht:inD D t=false):inD D' t=false:=by
 cases hc:inD D' t with
 |false=>rfl
 |true=>
  obtain⟨p,hp,h1,h2⟩:=Yb2.1 hc
  unfold Yoj at h
  rw[Ysu]at h
  obtain⟨q,hq,h3⟩:=List.any_eq_true.1 (h p hp)
  simp at h3
  have:inD D t=true:=Yb2.2 ⟨q,hq,by omega,by omega⟩
  rw[ht]at this;cases this
theorem Fx.inner{D D':List (Nat×Nat)}{r1 r2:T V}(hf:Fx D r0 n ⟨r,n,[]⟩)(hs:Yoj D' D=true)(h1:Fx D r0 n ⟨r,n,[]⟩→Fx D r0 n ⟨r1,n,[]⟩)(h2:∀t,inD D' t=false→r2.get t=r1.get t):Fx D r0 n ⟨r2,n,[]⟩:=
 ⟨fun t ht=>(h2 t (Yix hs ht)).trans ((h1 hf).reg t ht),rfl,rfl⟩
def Rd(D:List (Nat×Nat))(r0:T V)(n:Nat)(I:Nat→T V→St→Prop)(k:Nat)(P:Ex→T V→St→Prop):Ex→Fr→St→Prop
 |.normal,fr,st=>Fx D r0 n fr∧∃k',k'<k∧I k' fr.r st
 |e,fr,st=>Fx D r0 n fr∧P e fr.r st
theorem Zsn{D r0 n I k P r st}:Rd D r0 n I k P .normal ⟨r,n,[]⟩ st↔Fx D r0 n ⟨r,n,[]⟩∧∃k',k'<k∧I k' r st:=Iff.rfl
theorem Yl1{D r0 n I k P r st i}:Rd D r0 n I k P (.exit i) ⟨r,n,[]⟩ st↔Fx D r0 n ⟨r,n,[]⟩∧P (.exit i) r st:=Iff.rfl
theorem Yn4{D r0 n I k P r st}:Rd D r0 n I k P .ret ⟨r,n,[]⟩ st↔Fx D r0 n ⟨r,n,[]⟩∧P .ret r st:=Iff.rfl
attribute [simp] Zsn Yl1 Yn4
theorem Zaj{C:Cx}{ro:Option Nat}{c:Zae}{K:List Kf}{Q:Rs→Prop}{st0:St}(D:List (Nat×Nat))(P:Ex→T V→St→Prop)(I:Nat→T V→St→Prop)(k:Nat)(hi:I k r0 st0)
  (h:∀k r st,(∀t,inD D t=false→r.get t=r0.get t)→Fx D r0 n ⟨r,n,[]⟩→I k r st→Code C ro c ⟨r,n,[]⟩ st (Rd D r0 n I k P))
  (q:∀e r st,(∀t,inD D t=false→r.get t=r0.get t)→P e r st→Run C K (some (.ex e ⟨r,n,[]⟩ st)) Q):Run C K (exR (C.code ro (.loop c) ⟨r0,n,[]⟩ st0)) Q:=by
 refine Yei (fun e fr st=>Fx D r0 n fr∧P e fr.r st) (fun k fr st=>Fx D r0 n fr∧I k fr.r st) k ⟨Fx.refl,hi⟩ ?_ ?_
 ·rintro k ⟨r,n',m⟩ st ⟨hf,hi⟩
  have h1:n'=n:=hf.n
  have h2:m=[]:=hf.marks
  subst h1;subst h2
  obtain⟨e,fr',st',h3,h4⟩:=(h k r st hf.reg hf hi).ex
  refine⟨e,fr',st',h3,?_⟩
  cases e with
  |normal=>obtain⟨a,k',b,c⟩:=h4;exact⟨k',b,a,c⟩
  |exit i=>exact h4
  |ret=>exact h4
 ·rintro e ⟨r,n',m⟩ st ⟨hf,hp⟩
  have h1:n'=n:=hf.n
  have h2:m=[]:=hf.marks
  subst h1;subst h2
  exact q e r st hf.reg hp
theorem Zjj{l:List V}{w:List Nat}(s:Sl h N v l){lo hi:Nat}(h1:lo≤hi)(h2:hi≤l.length)(x y:Option V)(hx:x=some (.int .i64 lo)∨x=none∧lo=0)(hy:y=some (.int .i64 hi)∨y=none∧hi=l.length):
  ∃v',Zct ⟨h,N,w⟩ 1 (some v) (some x) (some y) (some none)=some (v',⟨h,N,w⟩)∧Sl h N v' ((l.take hi).drop lo):=by
 rcases s with⟨rfl,rfl|rfl⟩|⟨i,o,cp,c,e,rw,rfl,q2,q3,q4,q5,q6⟩
 ·have:hi=0:=by simpa using h2
  subst this
  have:lo=0:=by omega
  subst this
  refine⟨.nilslice,?_,.inl ⟨rfl,.inl rfl⟩⟩
  rcases hx with rfl|⟨rfl,_⟩<;>rcases hy with rfl|⟨rfl,_⟩<;>simp[Zct,Za8,evOpt,Zaz,Zd1]
 ·have:hi=0:=by simpa using h2
  subst this
  have:lo=0:=by omega
  subst this
  refine⟨.empty,?_,.inl ⟨rfl,.inr rfl⟩⟩
  rcases hx with rfl|⟨rfl,_⟩<;>rcases hy with rfl|⟨rfl,_⟩<;>simp[Zct,Za8,evOpt,Zaz,Zd1]
 ·have hlen:((l.take hi).drop lo).length=hi-lo:=by simp;omega
  have hget:∀j,j<hi-lo→c[o+lo+j]?=((l.take hi).drop lo)[j]?:=fun j hj=>by
   rw[Yr0,Ysb,Yru (by omega),show o+lo+j=o+(lo+j) by omega]
   exact q4 _ (by omega)
  have b1:∀m,hi≤m→Zaz y m l.length=some hi:=fun m hm=>by
   rcases hy with rfl|⟨rfl,rfl⟩
   ·simp[Zaz,Zd1];omega
   ·rfl
  have b2:Zaz x hi 0=some lo:=by
   rcases hx with rfl|⟨rfl,rfl⟩
   ·simp[Zaz,Zd1];omega
   ·rfl
  cases cp with
  |some k=>
   have hk:=q6 k rfl
   refine⟨.slice i (if k=lo then o else o+lo) (hi-lo) (some (k-lo)) 1,?_,?_⟩
   ·have b0:Zaz none k k=some k:=rfl
    simp only[Zct,Za8,Zc4,Src.ev,Yup]
    simp[b0,b1 k (by omega),b2]
   ·by_cases hkl:k=lo
    ·refine .inr ⟨i,o,some 0,c,e,rw,?_,q2,q3,fun j hj=>by rw[hlen]at hj;omega,by rw[hlen];omega,fun k' hk'=>by rw[hlen];omega⟩
     rw[hlen,Yru hkl,show k-lo=0 by omega]
    ·refine .inr ⟨i,o+lo,some (k-lo),c,e,rw,?_,q2,q3,fun j hj=>hget j (by omega),by rw[hlen];omega,fun k' hk'=>by simp at hk';rw[hlen];omega⟩
     rw[hlen,Yrq hkl]
  |none=>
   have hk:hi≤max l.length (c.length-o):=by omega
   by_cases hlt:lo<max l.length (c.length-o)
   ·refine⟨.slice i (o+lo) (hi-lo) none 1,?_,.inr ⟨i,o+lo,none,c,e,rw,by rw[hlen],q2,q3,fun j hj=>hget j (by omega),by rw[hlen];omega,fun k' hk'=>by cases hk'⟩⟩
    simp only[Zct,Za8,Zc4,Src.ev,St.row,q3,Nat.div_one,Yup]
    simp[b1 _ hk,b2,hlt]
   ·refine⟨.empty,?_,.inl ⟨Yr8 (by rw[hlen];omega),.inr rfl⟩⟩
    simp only[Zct,Za8,Zc4,Src.ev,St.row,q3,Nat.div_one,Yup]
    simp[b1 _ hk,b2,hlt]
theorem Zpj{m v:Nat}(hk:l.length=k):(l++List.replicate (m+1) 0).set k v=(l++[v])++List.replicate m 0:=by
 subst hk
 rw[List.set_append_right _ _ (Yrr _)]
 simp[List.replicate_succ]
def wds(n:Nat):List Nat:=if h:n=0 then [] else n%B::wds (n/B)
termination_by n
decreasing_by exact Yum (by omega) (by decide)
theorem Zbo:wds 0=[]:=by rw[wds];simp
theorem Zbq(h:n≠0):wds n=n%B::wds (n/B):=by rw[wds];simp[h]
theorem Zbp:∀(n:Nat),val B (wds n)=n:=by
 intro n
 induction n using Nat.strongRecOn with
 |_ n ih=>
  by_cases h:n=0
  ·subst h;rw[Zbo];rfl
  ·rw[Zbq h]
   simp only[val]
   rw[ih (n/B) (Yum (by omega) (by decide))]
   have:=Yta n B
   omega
theorem Zde(n:Nat):Dg (wds n):=by
 induction n using Nat.strongRecOn with
 |_ n ih=>
  by_cases h:n=0
  ·subst h;rw[Zbo];intro d hd;cases hd
  ·rw[Zbq h]
   intro d hd
   rcases Yss.1 hd with rfl|hd
   ·exact Ys2 _ (by decide)
   ·exact ih (n/B) (Yum (by omega) (by decide)) d hd
theorem Zdf:∀{l:List Nat},Dg l→Zgq l=wds (val B l)
 |[],_=>by simp[Zgq,val,Zbo]
 |d::l,h=>by
  have ih:=Zdf (l:=l) fun e he=>h e (Ysh _ he)
  have hd:d<B:=h d Ysj
  simp only[Zgq,val,ih]
  by_cases h0:val B l=0
  ·rw[h0,Zbo]
   simp only[Nat.mul_zero,Ys9]
   by_cases hd0:d=0
   ·simp[hd0,Zbo]
   ·rw[Zbq hd0,Yti hd,Ytz hd,Zbo];simp[hd0]
  ·have hB:0<B:=by decide
   have h1:(d+B*val B l)/B=val B l:=by
    rw[Nat.add_mul_div_left _ _ hB,Ytz hd,Yt3]
   have h2:(d+B*val B l)%B=d:=by
    rw[Nat.add_mul_mod_self_left,Yti hd]
   have h3:d+B*val B l≠0:=by
    intro hc
    have:B*val B l=0:=by omega
    rcases Nat.mul_eq_zero.1 this with h|h
    ·omega
    ·exact h0 h
   rw[Zbq h3,h1,h2]
   split
   ·rename_i hc;rw[Zbq h0]at hc;cases hc
   ·rfl
def Wn(h:T O)(N:Nat)(v:V)(n:Nat):Prop:=Sl h N v (dg (wds n))
theorem Wn.keep{h':T O}{N':Nat}(s:Wn h N v n)(k:Keeps h N h' N'):Wn h' N' v n:=Sl.keep s k
variable {N bytes z:Nat} {h:T O} {l:List (List V)} {v:V}
theorem Zpf{α:Type}{c:List α}{o n:Nat}{x:List α}(h:slc c o n=some x):o+n≤c.length∧x=(c.drop o).take n:=by
 unfold slc at h
 split at h
 ·rename_i hl;simp at h;exact⟨hl,h.symm⟩
 ·cases h
theorem Yiz{α:Type}{c:List α}{o n:Nat}{x:List α}(h:slc c o n=some x){f:Nat}(hf:f<n):c[o+f]?=x[f]?:=by
 obtain⟨_,rfl⟩:=Zpf h
 rw[Ysb,Yru hf,Yr0]
def Sn(z:Nat)(h:T O)(N:Nat)(v:V)(l:List (List V)):Prop:=
 (l=[]∧(v=.nilslice∨v=.empty))∨∃i o cp c e rw,v=.slice i o l.length cp z∧i<N∧h.get i=some (.cells c e rw)∧(∀j x,l[j]?=some x→slc c (o+j*z) z=some x)∧o+l.length*z≤c.length∧∀k,cp=some k→l.length≤k
theorem Sn.nil:Sn z h N .nilslice []:=.inl ⟨rfl,.inl rfl⟩
theorem Sn.keep{h':T O}{N':Nat}(s:Sn z h N v l)(k:Keeps h N h' N'):Sn z h' N' v l:=by
 rcases s with s|⟨i,o,cp,c,e,rw,h1,h2,h3,h4⟩
 ·exact .inl s
 ·exact .inr ⟨i,o,cp,c,e,rw,h1,Yr3 h2 k.le,(k.get i h2).trans h3,h4⟩
theorem Sn.len(s:Sn z h N v l):Zlh v=some l.length:=by
 rcases s with⟨rfl,rfl|rfl⟩|⟨i,o,cp,c,e,rw,rfl,_⟩<;>rfl
theorem Sn.at(s:Sn z h N v l){j:Nat}{x:List V}(hj:l[j]?=some x):∃i o c e rw,Znr v=some (i,o)∧i<N∧h.get i=some (.cells c e rw)∧slc c (o+j*z) z=some x:=by
 have hl:j<l.length:=by
  apply Ys0;intro hc;rw[Yr2 hc]at hj;cases hj
 rcases s with⟨rfl,_⟩|⟨i,o,cp,c,e,rw,rfl,h2,h3,h4,_⟩
 ·simp at hl
 ·exact⟨i,o,c,e,rw,rfl,h2,h3,h4 j x hj⟩
theorem Zzr(hz:0<z){h:T O}{N:Nat}{v:V}{l:List (List V)}{w:List Nat}(s:Sn z h N v l){lo hi:Nat}(h1:lo≤hi)(h2:hi≤l.length)(x y:Option V)(hx:x=some (.int .i64 lo)∨x=none∧lo=0)(hy:y=some (.int .i64 hi)∨y=none∧hi=l.length):
  ∃v',Zct ⟨h,N,w⟩ z (some v) (some x) (some y) (some none)=some (v',⟨h,N,w⟩)∧Sn z h N v' ((l.take hi).drop lo):=by
 rcases s with⟨rfl,rfl|rfl⟩|⟨i,o,cp,c,e,rw,rfl,q2,q3,q4,q5,q6⟩
 ·have:hi=0:=by simpa using h2
  subst this
  have:lo=0:=by omega
  subst this
  refine⟨.nilslice,?_,.inl ⟨rfl,.inl rfl⟩⟩
  rcases hx with rfl|⟨rfl,_⟩<;>rcases hy with rfl|⟨rfl,_⟩<;>simp[Zct,Za8,evOpt,Zaz,Zd1]
 ·have:hi=0:=by simpa using h2
  subst this
  have:lo=0:=by omega
  subst this
  refine⟨.empty,?_,.inl ⟨rfl,.inr rfl⟩⟩
  rcases hx with rfl|⟨rfl,_⟩<;>rcases hy with rfl|⟨rfl,_⟩<;>simp[Zct,Za8,evOpt,Zaz,Zd1]
 ·have hlen:((l.take hi).drop lo).length=hi-lo:=by simp;omega
  have hget:∀j u,((l.take hi).drop lo)[j]?=some u→slc c (o+lo*z+j*z) z=some u:=fun j u hu=>by
   have hj:j<hi-lo:=by
    rw[←hlen];apply Ys0;intro hc;rw[Yr2 hc]at hu;cases hu
   rw[Yr0,Ysb,Yru (by omega)]at hu
   have:=q4 _ _ hu
   rw[show o+lo*z+j*z=o+(lo+j)*z by rw[Ysw];omega]
   exact this
  have hmul:lo*z+(hi-lo)*z≤l.length*z:=by
   rw[←Ysw];exact Yr7 _ (by omega)
  have b1:∀m,hi≤m→Zaz y m l.length=some hi:=fun m hm=>by
   rcases hy with rfl|⟨rfl,rfl⟩
   ·simp[Zaz,Zd1];omega
   ·rfl
  have b2:Zaz x hi 0=some lo:=by
   rcases hx with rfl|⟨rfl,rfl⟩
   ·simp[Zaz,Zd1];omega
   ·rfl
  cases cp with
  |some k=>
   have hk:=q6 k rfl
   refine⟨.slice i (if k=lo then o else o+lo*z) (hi-lo) (some (k-lo)) z,?_,?_⟩
   ·have b0:Zaz none k k=some k:=rfl
    simp only[Zct,Za8,Zc4,Src.ev]
    simp[b0,b1 k (by omega),b2]
   ·by_cases hkl:k=lo
    ·have h0:(l.take hi).drop lo=[]:=Yr8 (by rw[hlen];omega)
     refine .inr ⟨i,o,some (k-lo),c,e,rw,?_,q2,q3,fun j u hu=>by rw[h0]at hu;simp at hu,by rw[h0];simp;omega,fun k' hk'=>by rw[h0];simp⟩
     rw[hlen,Yru hkl]
    ·refine .inr ⟨i,o+lo*z,some (k-lo),c,e,rw,?_,q2,q3,hget,by rw[hlen];omega,fun k' hk'=>by simp at hk';rw[hlen];omega⟩
     rw[hlen,Yrq hkl]
  |none=>
   have hlz:l.length≤(c.length-o)/z:=by
    rw[Yus hz];omega
   have hk:hi≤max l.length ((c.length-o)/z):=by omega
   have hz0:z≠0:=by omega
   by_cases hlt:lo<max l.length ((c.length-o)/z)
   ·refine⟨.slice i (o+lo*z) (hi-lo) none z,?_,.inr ⟨i,o+lo*z,none,c,e,rw,by rw[hlen],q2,q3,hget,by rw[hlen];omega,fun k' hk'=>by cases hk'⟩⟩
    simp only[Zct,Za8,Zc4,Src.ev,St.row,q3]
    simp[b1 _ hk,b2,hlt,hz0]
   ·refine⟨.empty,?_,.inl ⟨Yr8 (by rw[hlen];omega),.inr rfl⟩⟩
    simp only[Zct,Za8,Zc4,Src.ev,St.row,q3]
    simp[b1 _ hk,b2,hlt,hz0]
theorem Sn.one{l:List V}:Sn 1 h N v (l.map fun x=>[x])↔Sl h N v l:=by
 unfold Sn Sl
 constructor
 ·rintro(⟨h1,h2⟩|⟨i,o,cp,c,e,rw,h1,h2,h3,h4,h5,h6⟩)
  ·exact .inl ⟨by simpa using h1,h2⟩
  ·refine .inr ⟨i,o,cp,c,e,rw,by simpa using h1,h2,h3,fun j hj=>?_,by simpa using h5,by simpa using h6⟩
   have:=h4 j [l[j]] (by simp[Yrt hj])
   have:=Yiz this (f:=0) (by omega)
   simp at this
   rw[this,Yrt hj]
 ·rintro(⟨h1,h2⟩|⟨i,o,cp,c,e,rw,h1,h2,h3,h4,h5,h6⟩)
  ·exact .inl ⟨by simpa using h1,h2⟩
  ·refine .inr ⟨i,o,cp,c,e,rw,by simpa using h1,h2,h3,fun j x hj=>?_,by simpa using h5,by simpa using h6⟩
   simp at hj
   obtain⟨u,hu,rfl⟩:=hj
   have hl:j<l.length:=by
    apply Ys0;intro hc;rw[Yr2 hc]at hu;cases hu
   have:=h4 j hl
   rw[hu]at this
   have hc:o+j<c.length:=by omega
   unfold slc
   rw[Yru (by omega),Yup,Yt0 hc]
   rw[Yrt hc]at this
   simp at this
   simp[this]
def Own(z:Nat)(e:TypeId)(N0:Nat)(h:T O)(N:Nat)(v:V)(l:List (List V)):Prop:=
 (∀x∈l,x.length=z)∧((l=[]∧v=.nilslice)∨∃i,v=.slice i 0 l.length none z∧N0≤i∧i<N∧h.get i=some (.cells l.flatten e true))
theorem Own.nil{e:TypeId}{N0:Nat}:Own z e N0 h N .nilslice []:=⟨fun _ h=>by simp at h,.inl ⟨rfl,rfl⟩⟩
theorem Own.keep{e:TypeId}{N0:Nat}{h':T O}{N':Nat}(s:Own z e N0 h N v l)(k:Keeps h N h' N'):Own z e N0 h' N' v l:=by
 obtain⟨hl,s|⟨i,h1,h2,h3,h4⟩⟩:=s
 ·exact⟨hl,.inl s⟩
 ·exact⟨hl,.inr ⟨i,h1,h2,Yr3 h3 k.le,(k.get i h3).trans h4⟩⟩
theorem Own.len{e:TypeId}{N0:Nat}(s:Own z e N0 h N v l):Zlh v=some l.length:=by
 obtain⟨_,⟨rfl,rfl⟩|⟨i,rfl,_⟩⟩:=s<;>rfl
theorem Zb9{z:Nat}:∀{l:List (List V)},(∀x∈l,x.length=z)→l.flatten.length=l.length*z
 |[],_=>by simp
 |x::l,h=>by
  have h1:=h x Ysj
  have h2:=Zb9 (l:=l) fun y hy=>h y (Ysh _ hy)
  simp only[List.flatten_cons,Yr4,h1,h2,Yrp,Ysw];omega
theorem Ze5{z:Nat}:∀{l:List (List V)},(∀x∈l,x.length=z)→∀{j:Nat} {x:List V},l[j]?=some x→slc l.flatten (j*z) z=some x
 |[],_,j,x,hj=>by simp at hj
 |y::l,h,0,x,hj=>by
  have h1:=h y Ysj
  simp at hj;subst hj
  unfold slc
  simp[←h1]
 |y::l,h,j+1,x,hj=>by
  have h1:=h y Ysj
  have h2:=Ze5 (l:=l) (fun y hy=>h y (Ysh _ hy)) (j:=j) (x:=x) (by simpa using hj)
  obtain⟨h3,h4⟩:=Zpf h2
  unfold slc
  rw[Yru (by simp only[List.flatten_cons,Yr4,Ysw,h1];omega),h4]
  congr 2
  rw[List.flatten_cons,Ysw,Nat.one_mul,Nat.add_comm,←List.drop_drop,←h1,List.drop_left]
theorem Own.sn{e:TypeId}{N0:Nat}(s:Own z e N0 h N v l):Sn z h N v l:=by
 obtain⟨hl,⟨h1,h2⟩|⟨i,h1,h2,h3,h4⟩⟩:=s
 ·exact .inl ⟨h1,.inl h2⟩
 ·exact .inr ⟨i,0,none,l.flatten,e,true,h1,h3,h4,fun j x hj=>by rw[Yt3];exact Ze5 hl hj,by rw[Zb9 hl];omega,fun k hk=>by cases hk⟩
def Zup(st:St)(size bytes:Nat)(e:TypeId):Option V→Option V→Option (V×St)
 |some s,some x=>Zb2 st size bytes e s x
 |_,_=>none
theorem Ztm{size:Nat}{e:TypeId}{z:List V}{s x:Src}{call:Za3}{r:T V}{st:St}:Zdj size bytes e z s x call r st=Zup st size bytes e (s.ev r) (x.ev r):=by
 unfold Zdj Zup;rfl
theorem Zlc{st:St}{size:Nat}{e:TypeId}{s x:V}:Zup st size bytes e (some s) (some x)=Zb2 st size bytes e s x:=rfl
attribute [simp] Ztm Zlc
theorem Zbj{e:TypeId}{N0:Nat}{u:V}{x:List V}{w:List Nat}(s:Own z e N0 h N v l)(hN:N0≤N)(hz:0<z)(hx:x.length=z)
  (hu:Za2 ⟨h,N,w⟩ z u=some (1,x)) (hb:(2*(l.length+1)+1000)*bytes≤281474976710656):
  ∃v' h' w',Zb2 ⟨h,N,w⟩ z bytes e v u=some (v',⟨h',N+1,w'⟩)∧Zac N0 w'=Zac N0 w∧Keeps h N0 h' (N+1)∧(∀j,h'.get j=h.get j∨j=N∨(∃o n c q,v=.slice j o n c q))∧Own z e N0 h' (N+1) v' (l++[x]):=by
 obtain⟨hl,s⟩:=s
 have hl':∀y∈l++[x],y.length=z:=fun y hy=>by
  rcases Ys1.1 hy with hy|hy
  ·exact hl y hy
  ·simp at hy;rw[hy,hx]
 have hz0:z≠0:=by omega
 rcases s with⟨rfl,rfl⟩|⟨i,rfl,h2,h3,h4⟩
 ·refine⟨.slice N 0 1 none z,h.set N (.cells x e true),w,?_,rfl,⟨by omega,fun j hj=>by rw[T.get_set,Yrq (by omega)]⟩,fun j=>by rw[T.get_set];by_cases hj:j=N<;>simp[hj],hl',.inr ⟨N,by simp,hN,by omega,by rw[T.get_set];simp⟩⟩
  have hb':(2*1+1000)*bytes≤281474976710656:=by simpa using hb
  simp only[Zb2,hu,Zdl,St.alloc]
  simp[hb',hz0]
 ·have hfl:=Zb9 hl
  refine⟨.slice N 0 (l.length+1) none z,(h.set i .dead).set N (.cells (l.flatten++x) e true),i::w,?_,by simp[Zac,Yuq.2 h2],⟨by omega,fun j hj=>by rw[T.get_set,Yrq (by omega),T.get_set,Yrq (by omega)]⟩,fun j=>?_,hl',.inr ⟨N,by simp,hN,by omega,by rw[T.get_set];simp⟩⟩
  ·simp only[Zb2,hu,Zdl,St.row,h4]
   rw[Yrq (by omega),Yrq (by rintro(h|h|h)<;>omega)]
   simp only[if_true]
   rw[Yrq (by rw[hfl,Ysw];omega),Yru ⟨by rw[hfl];omega,trivial,trivial⟩]
   rfl
  ·by_cases hj:j=N
   ·exact .inr (.inl hj)
   ·by_cases hj2:j=i
    ·exact .inr (.inr ⟨0,l.length,none,z,by rw[hj2]⟩)
    ·left;rw[T.get_set,Yrq hj,T.get_set,Yrq hj2]
abbrev Str:=List UInt8
def Zkg(c:UInt8):Bool:=decide (48≤c.toNat∧c.toNat≤57)
def Zcu:Str→Bool
 |[]=>false
 |c::s=>(c::s).all Zkg&&(decide (c.toNat≠48)||decide (s=[]))
def slashAt:Str→Nat
 |[]=>0
 |c::s=>if c.toNat=47 then 0 else slashAt s+1
def numV(s:Str):Nat:=s.foldl (fun n c=>10*n+(c.toNat-48)) 0
def negS:Str→Bool
 |[]=>false
 |c::_=>decide (c.toNat=45)
def Zat(s:Str):Str:=if negS s then s.drop 1 else s
def Zcf(neg:Bool)(p:Str)(broken:Bool)(d:Str):Bool:=Zcu p&&!(neg&&decide (p=[48]))&&(!broken||(Zcu d&&decide (d≠[48])&&decide (d≠[49])))
def Zkh(neg:Bool)(p:Str)(broken:Bool)(d:Str):Nat:=
 if Zcf neg p broken d=false then 1 else if 600<p.length∨600<d.length then 4 else if broken=true∧Nat.gcd (numV p) (numV d)≠1 then 1 else 0
def Ymb(neg:Bool)(t:Str):Nat:=Zkh neg (t.take (slashAt t)) (decide (slashAt t<t.length)) (t.drop (slashAt t+1))
def chkNum(s:Str):Nat:=Ymb (negS s) (Zat s)
theorem Zc8:∀(s:Str),slashAt s≤s.length
 |[]=>Yrr _
 |c::s=>by
  have:=Zc8 s
  simp only[slashAt,Yrp]
  split<;>omega
structure Stg where
 name:Str
 op:Str
 factor:Str
 inputs:List Str
 cost:Int
def pos:List Stg→Str→Nat
 |[],_=>0
 |s::g,n=>if s.name=n then 0 else pos g n+1
structure Opn where
 factor:Bool
 lo:Nat
 hi:Nat
variable {i:Nat} {j:Int} {k:IntKind} {r:T V} {s:Str} {x:Src}
def Ymp(s:Str)(p:Nat):Int:=(Utf8.decode ⟨s.toArray⟩ p).1
def Ymo(s:Str)(p:Nat):Nat:=(Utf8.decode ⟨s.toArray⟩ p).2
def Zmy(i:Nat)(st:St):Option (Str×Nat)→Option (V×St)
 |some (s,p)=>if p<s.length then some (.tup [.bool true,.int .i64 p,.int .i32 (Utf8.decode ⟨s.toArray⟩ p).1],st.write i (.siter s (p+(Utf8.decode ⟨s.toArray⟩ p).2))) else some (.tup [.bool false],st)
 |none=>none
def Zu0:Option O→Option (Str×Nat)
 |some (.siter s p)=>some (s,p)
 |_=>none
def Yjv(st:St):Option V→Option (V×St)
 |some (.ptr i 0)=>Zmy i st (Zu0 (st.h.get i))
 |_=>none
theorem Zq2{call:Za3}{st:St}:Zdv x call r st=Yjv st (x.ev r):=by
 unfold Zdv Yjv
 rcases x.ev r with _|v
 ·rfl
 ·cases v<;>try rfl
  rename_i i o
  cases o with
  |zero=>
   simp only[Zu0,Zmy]
   rcases st.h.get i with _|o
   ·rfl
   ·cases o<;>rfl
  |succ=>rfl
theorem Zxc{st:St}:Yjv st (some (.ptr i 0))=Zmy i st (Zu0 (st.h.get i)):=rfl
theorem Zs5{p:Nat}:Zu0 (some (.siter s p))=some (s,p):=rfl
theorem Yau{st:St}{p:Nat}(h:p<s.length):Zmy i st (some (s,p))=some (.tup [.bool true,.int .i64 p,.int .i32 (Ymp s p)],st.write i (.siter s (p+Ymo s p))):=by simp[Zmy,h,Ymp,Ymo]
theorem Zxd{st:St}:Zmy i st (some (s,s.length))=some (.tup [.bool false],st):=by simp[Zmy]
def Zcq(st:St):Option V→Option (Option V)→Option (Option V)→Option (V×St)
 |some (.str s),some lo,some hi=>match Zaz hi s.length s.length with
   |some h=>match Zaz lo h 0 with
    |some l=>some (.str ((s.take h).drop l),st)
    |none=>none
   |none=>none
 |_,_,_=>none
theorem Zpp{lo hi:Option Src}{call:Za3}{st:St}:Zbn x lo hi call r st=Zcq st (x.ev r) (evOpt r lo) (evOpt r hi):=by
 unfold Zbn Zcq;rfl
theorem Zet{st:St}(h0:0≤j)(h1:j≤s.length):Zcq st (some (.str s)) (some (some (.int k j))) (some none)=some (.str (s.drop j.toNat),st):=by
 simp[Zcq,Zaz,Zd1,h0,h1]
theorem Zkm{st:St}(h0:0≤j)(h1:j≤s.length):Zcq st (some (.str s)) (some none) (some (some (.int k j)))=some (.str (s.take j.toNat),st):=by
 simp[Zcq,Zaz,Zd1,h0,h1]
theorem Zod{st:St}{k':IntKind}{i:Int}(h0:0≤i)(h1:i≤j)(h2:j≤s.length):Zcq st (some (.str s)) (some (some (.int k i))) (some (some (.int k' j)))=some (.str ((s.take j.toNat).drop i.toNat),st):=by
 have h3:0≤j:=by omega
 have h4:max j 0=j:=by omega
 simp[Zcq,Zaz,Zd1,h0,h1,h2,h3,h4]
def Znl(s:Str):List V:=s.map fun b=>.int .u8 (u8I b)
theorem Zyw(s:Str):(Znl s).length=s.length:=by simp[Znl]
theorem Zyx{k:Nat}{c:UInt8}(h:s[k]?=some c):(Znl s)[k]?=some (.int .u8 (u8I c)):=by simp[Znl,h]
def sbK(elem:TypeId)(st:St):Option V→Option (V×St)
 |some (.str s)=>some (.slice st.n 0 s.length none 1,st.alloc (.cells (Znl s) elem true))
 |_=>none
theorem Zpo{elem:TypeId}{call:Za3}{st:St}:Zci elem x call r st=sbK elem st (x.ev r):=by
 unfold Zci sbK;rfl
theorem Yee{elem:TypeId}{st:St}:sbK elem st (some (.str s))=some (.slice st.n 0 s.length none 1,st.alloc (.cells (Znl s) elem true)):=rfl
attribute [simp] Zpo Yee Zyw Zq2 Zxc Zs5 Yau Zxd Zpp Zet Zkm Zod Zc1
theorem Zj0:∀(s:Str) (i:Nat),Zis 47 s i=if slashAt s<s.length then ((i+slashAt s:Nat):Int) else -1
 |[],i=>rfl
 |c::s,i=>by
  simp only[Zis,slashAt]
  have e:(c==47)=decide (c.toNat=47):=by
   rw[Bool.eq_iff_iff]
   simp only[beq_iff_eq,decide_eq_true_eq]
   exact⟨fun h=>by rw[h];rfl,fun h=>UInt8.toNat_inj.1 h⟩
  rw[e]
  by_cases h:c.toNat=47
  ·simp[h]
  ·simp only[h,decide_false,if_false,Yry,Zj0 s (i+1),Yrp]
   by_cases h2:slashAt s<s.length
   ·rw[Yru h2,Yru (by omega)];omega
   ·rw[Yrq h2,Yrq (by omega)]
end Go.Mx
