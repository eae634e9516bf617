/-Slices of which only the elements are kn-/
import Derived.Test.YtmoaaooccjbecaaGreatDoorMxLim
set_option linter.all false
namespace Go.Mx
open Go
variable {N a b i k n o size:Nat} {h:T O} {j:Int} {l:List Nat} {r r0:T V} {v:V} {x:Src}
def Zo2:V→Option Nat
 |.nilslice=>some 0
 |.empty=>some 0
 |.slice _ _ n _ _=>some n
 |_=>none
def Zn2:V→Option (Nat×Nat)
 |.slice i o _ _ _=>some (i,o)
 |_=>none
def Ylw(st:St):Option Nat→Option (V×St)
 |some n=>some (.int .i64 n,st)
 |none=>none
def Yq2(st:St):Option V→Option (V×St)
 |some v=>Ylw st (Zo2 v)
 |none=>none
def Ygh{call:Za1}{st:St}:Zfs 1 x call r st=Yq2 st (x.ev r):=by
 unfold Zfs Yq2
 rcases x.ev r with _|v
 ·rfl
 ·cases v<;>rfl
def Yc1{st:St}:Yq2 st (some v)=Ylw st (Zo2 v):=rfl
def Zy1{st:St}:Ylw st (some n)=some (.int .i64 n,st):=rfl
def Zxd(st:St)(size k:Nat):Option (Nat×Nat)→Option (V×St)
 |some (i,o)=>some (.ptr i (o+k*size),st)
 |none=>none
def Zsz(st:St)(size:Nat)(v:V)(k:Int):Option Nat→Option (V×St)
 |some n=>if 0≤k∧k<(n:Int) then Zxd st size k.toNat (Zn2 v) else none
 |none=>none
def Ym1(st:St)(size:Nat):Option V→Option V→Option (V×St)
 |some v,some (.int _ k)=>Zsz st size v k (Zo2 v)
 |_,_=>none
def Zrj{i:Src}{call:Za1}{st:St}:Zdk size x i call r st=Ym1 st size (x.ev r) (i.ev r):=by
 unfold Zdk Ym1
 rcases x.ev r with _|v
 ·rfl
 ·rcases i.ev r with _|u
  ·cases v<;>rfl
  ·cases u<;>cases v<;>simp[Zsz,Zxd,Zo2,Zn2]<;>omega
def Zz6{st:St}{k:IntKind}:Ym1 st size (some v) (some (.int k j))=Zsz st size v j (Zo2 v):=rfl
def Yer{st:St}(h0:0≤j)(h1:j<(n:Int)):Zsz st size v j (some n)=Zxd st size j.toNat (Zn2 v):=by simp[Zsz,h0,h1]
def Zvg{st:St}:Zxd st size k (some (i,o))=some (.ptr i (o+k*size),st):=rfl
def Ys3(a b:Int):(a==b)=decide (a=b):=by
 by_cases h:a=b<;>simp[h]
def Ys2(a b:Int):(a !=b)=!decide (a=b):=by
 by_cases h:a=b<;>simp[h]
def Yfc(a b:Nat):((a:Int)+(b:Int)).toNat=a+b:=by omega
def Yfb(a b:Nat):((a:Int)-(b:Int)).toNat=a-b:=by omega
def Yrf(a b n:Nat):((a:Int)+(b:Int)<(n:Int))↔a+b<n:=by omega
def Zxi(b:Nat):((64:Int)-(b:Int)).toNat=64-b:=by omega
attribute [simp] Zxi Ys3 Ys2 Int.natCast_inj Yfc Yfb Yrf
def Yq1(st:St):Option V→Option (V×St)
 |some (.str s)=>some (.int .i64 s.length,st)
 |_=>none
def Ygi{call:Za1}{st:St}:Zfs 0 x call r st=Yq1 st (x.ev r):=by
 unfold Zfs Yq1
 rcases x.ev r with _|v
 ·rfl
 ·cases v<;>rfl
def Yc0{st:St}{s:List UInt8}:Yq1 st (some (.str s))=some (.int .i64 s.length,st):=rfl
def Zyz{i o n c z}:Zo2 (.slice i o n c z)=some n:=rfl
def Yg5:Zo2 .nilslice=some 0:=rfl
def Zy0:Zo2 .empty=some 0:=rfl
def Zvb{i o n c z}:Zn2 (.slice i o n c z)=some (i,o):=rfl
attribute [simp] Ygh Ygi Yc0 Zyz Yg5 Zy0 Zvb Yc1 Zy1 Zrj Zz6 Yer Zvg
def u8I(b:UInt8):Int:=b.toNat
def Yai(b:UInt8):0≤u8I b∧u8I b<256:=by unfold u8I;have:=b.toNat_lt;omega
def Yhb(st:St):Option UInt8→Option (V×St)
 |some b=>some (.int .u8 b.toNat,st)
 |none=>none
def Ypw(st:St):Option V→Option V→Option (V×St)
 |some (.str s),some (.int _ k)=>if 0≤k then Yhb st s[k.toNat]? else none
 |_,_=>none
def Zt1{i:Src}{call:Za1}{st:St}:Zem x i call r st=Ypw st (x.ev r) (i.ev r):=by
 unfold Zem Ypw Yhb
 rcases x.ev r with _|v
 ·rfl
 ·rcases i.ev r with _|u
  ·cases v<;>rfl
  ·cases u<;>cases v<;>rfl
def Ydc{st:St}{s:List UInt8}{k:IntKind}(h:0≤j):Ypw st (some (.str s)) (some (.int k j))=Yhb st s[j.toNat]?:=by simp[Ypw,h]
def Zzh{st:St}{b:UInt8}:Yhb st (some b)=some (.int .u8 (u8I b),st):=rfl
attribute [simp] Zt1 Ydc Zzh
def mkK(st:St)(elem:TypeId)(size bytes:Nat)(zero:List V):Option V→Option V→Option (V×St)
 |some (.int _ l),some (.int _ c)=>if 0≤l∧l≤c∧bytes*c≤2^47∧c<2^62∧size=zero.length∧size≠0 then
    some (.slice st.n 0 l.toNat (some c.toNat) size,st.alloc (.cells (Zkq zero c.toNat) elem true)) else none
 |_,_=>none
def Zrh{elem:TypeId}{bytes:Nat}{zero:List V}{y:Src}{call:Za1}{st:St}:Zct elem size bytes zero x y call r st=mkK st elem size bytes zero (x.ev r) (y.ev r):=by
 unfold Zct mkK;rfl
def Ygw{st:St}{elem:TypeId}{bytes:Nat}{zero:List V}{k k':IntKind}{l:Int}(h0:0≤l)(h1:bytes*l≤140737488355328)(h2:l<4611686018427387904)(h3:size=zero.length)(h4:0<size):
  mkK st elem size bytes zero (some (.int k l)) (some (.int k' l))=some (.slice st.n 0 l.toNat (some l.toNat) size,st.alloc (.cells (Zkq zero l.toNat) elem true)):=by
 unfold mkK
 simp only[]
 rw[Ytg ⟨h0,Int.le_refl _,by simpa using h1,by simpa using h2,h3,by omega⟩]
def Zvs(n:Nat)(st:St):Option V→Option V→Option (V×St)
 |some (.ptr i o),some v=>match st.row i with
   |some (c,e,true)=>if v.cells.length=n∧o+n≤c.length∧v.cells.all V.one=true then some (.tup [],st.write i (.cells (splice c o v.cells) e true)) else none
   |_=>none
 |_,_=>none
def Zx9{a:Src}{call:Za1}{st:St}:Zfk n a x call r st=Zvs n st (a.ev r) (x.ev r):=by
 unfold Zfk Zvs;rfl
def Zal(n:Nat)(st:St)(i o:Nat)(v:V):Option O→Option (V×St)
 |some (.cells c e true)=>if v.cells.length=n∧o+n≤c.length∧v.cells.all V.one=true then some (.tup [],st.write i (.cells (splice c o v.cells) e true)) else none
 |_=>none
def Zxm{st:St}:Zvs n st (some (.ptr i o)) (some v)=Zal n st i o v (st.h.get i):=by
 unfold Zvs Zal St.row
 simp only[]
 rcases st.h.get i with _|x
 ·rfl
 ·cases x with
  |cells c e b=>cases b<;>rfl
  |_=>rfl
def Zlb{w:List Nat}{c:List V}{e:TypeId}(h1:v.cells.length=n)(h2:o+n≤c.length)(h3:v.cells.all V.one=true):
  Zal n ⟨h,N,w⟩ i o v (some (.cells c e true))=some (.tup [],⟨h.set i (.cells (splice c o v.cells) e true),N,i::w⟩):=by
 unfold Zal
 simp only[]
 rw[Ytg ⟨h1,h2,h3⟩];rfl
attribute [simp] Zrh Ygw Zx9 Zxm Zlb
def lo64(n:Nat):Nat:=n%18446744073709551616
def hi64(n:Nat):Nat:=n/18446744073709551616
def sb64(x y c:Nat):Nat:=(x+18446744073709551616-y-c)%18446744073709551616
def bw64(x y c:Nat):Nat:=if x<y+c then 1 else 0
def shr64(a b:Nat):Nat:=a/2^b
def shl64(a b:Nat):Nat:=a*2^b%18446744073709551616
def and32(a:Nat):Nat:=a%4294967296
def or64(a b:Nat):Nat:=a|||b
def Zhs(n:Int):IntKind.wrap .u64 n=n%18446744073709551616:=by simp[IntKind.wrap,IntKind.bits,IntKind.signed]
def Zeg{n:Int}(h1:0≤n)(h2:n<18446744073709551616):Zap .u64 n=n:=by rw[Zdm,Zhs];omega
def Zcr(n:Int):Zap .u64 n=n%18446744073709551616:=by rw[Zdm,Zhs]
def Zxr{b:Int}(h0:0≤b)(h1:b≤64):Zgw .shr .u64 (a:Int) b=some (.int .u64 (shr64 a b.toNat:Nat)):=by
 unfold Zgw shr64
 have e:min b.toNat (IntKind.bits .u64)=b.toNat:=by simp[IntKind.bits];omega
 rw[Yte (by omega),e]
 simp only[Ytc,V.int.injEq,true_and]
 rw[Int.fdiv_eq_ediv_of_nonneg _ (by exact_mod_cast Yv0 _)]
 push_cast
 rfl
def Zxs{b:Int}(h0:0≤b)(h1:b≤64):Zgw .shl .u64 (a:Int) b=some (.int .u64 (shl64 a b.toNat:Nat)):=by
 unfold Zgw shl64
 have e:min b.toNat (IntKind.bits .u64)=b.toNat:=by simp[IntKind.bits];omega
 rw[Yte (by omega),e]
 show some (V.int .u64 (IntKind.wrap .u64 ((a:Int)*2^b.toNat)))=_
 rw[Zhs]
 have:(((a*2^b.toNat%18446744073709551616:Nat)):Int)=(a:Int)*2^b.toNat%18446744073709551616:=by
  rw[Int.natCast_emod,Yw2,Int.natCast_pow];rfl
 rw[this]
def Zj2(a:Nat)(h:a<18446744073709551616):(BitVec.ofInt 64 (a:Int)).toNat=a:=by
 simp[BitVec.toNat_ofInt];omega
def Zr5(h:a<18446744073709551616):Zdt .and .u64 (a:Int) 4294967295=some (.int .u64 (and32 a:Nat)):=by
 show some (V.int .u64 (IntKind.wrap .u64 (BitVec.ofInt 64 (a:Int)&&& BitVec.ofInt 64 4294967295).toNat))=_
 rw[Zhs,BitVec.toNat_and,Zj2 a h]
 have e:(BitVec.ofInt 64 4294967295).toNat=2^32-1:=by decide
 rw[e,Nat.and_two_pow_sub_one_eq_mod]
 unfold and32
 simp only[Ytc,V.int.injEq,true_and]
 omega
def Yc8(h:a<18446744073709551616)(h':b<18446744073709551616):Zdt .or .u64 (a:Int) (b:Int)=some (.int .u64 (or64 a b:Nat)):=by
 show some (V.int .u64 (IntKind.wrap .u64 (BitVec.ofInt 64 (a:Int)|||BitVec.ofInt 64 (b:Int)).toNat))=_
 rw[Zhs,BitVec.toNat_or,Zj2 a h,Zj2 b h']
 have:=Nat.or_lt_two_pow (n:=64) h h'
 unfold or64
 simp only[Ytc,V.int.injEq,true_and]
 omega
def addu(a b:Nat):Nat:=(a+b)%18446744073709551616
def subu(a b:Nat):Nat:=((a:Int)-b).toNat%18446744073709551616+(if a<b then (((a:Int)-b)%18446744073709551616).toNat else 0)
def mulu(a b:Nat):Nat:=(a*b)%18446744073709551616
def quou(a b:Nat):Nat:=a/b
def remu(a b:Nat):Nat:=a%b
def Zxg:Zap .u64 ((a:Int)+(b:Int))=(addu a b:Nat):=by rw[Zcr];unfold addu;omega
def Zog:Zap .u64 ((a:Int)-(b:Int))=(subu a b:Nat):=by
 rw[Zcr];unfold subu
 split<;>omega
def Zs4:Zap .u64 ((a:Int)-1)=(subu a 1:Nat):=Zog (b:=1)
def Zkt:Zap .u64 ((a:Int)*(b:Int))=(mulu a b:Nat):=by
 rw[Zcr];unfold mulu
 rw[←Yw2];omega
def Zqv:Zap .u64 ((a:Int)*4294967296)=(mulu a 4294967296:Nat):=Zkt (b:=4294967296)
def Zpk:Zap .u64 (4294967296*(a:Int))=(mulu 4294967296 a:Nat):=Zkt (a:=4294967296)
def Zxf(h:a<18446744073709551616):Zap .u64 ((a:Int).tdiv (b:Int))=(quou a b:Nat):=by
 rw[Zcr];unfold quou
 have e:((a:Int).tdiv (b:Int))=((a/b:Nat):Int):=rfl
 have:=Yvb a b
 rw[e]
 generalize a/b=q at*
 omega
def Yal:(a:Int).tmod (b:Int)=(remu a b:Nat):=rfl
def Zg2(h:b≤a)(ha:a<18446744073709551616):subu a b=a-b:=by unfold subu;split<;>omega
def Ym0:addu a b<18446744073709551616:=Yuo _ (by decide)
def Yld:mulu a b<18446744073709551616:=Yuo _ (by decide)
def Zps:shl64 a b<18446744073709551616:=Yuo _ (by decide)
def Yan:subu a b<18446744073709551616:=by unfold subu;split<;>omega
def Zvy(h:a<18446744073709551616):shr64 a b<18446744073709551616:=Yuk (Yvb _ _) h
attribute [simp] Ym0 Yld Zps Yan Zxg Zog Zs4 Zkt Zqv Zpk Zxf Yal Zxr Zxs Zr5 Yc8
def Ymb(st:St)(e:Ext)(o:Option (List V)):Option (V×St):=match e,o with
  |.same,some [v]=>some (v,st)
  |e,some l=>match Yhm e l with
   |some v=>some (v,st)
   |none=>none
  |_,none=>none
def Ygj{e:Ext}{args:List Src}{call:Za1}{st:St}:Zm3 e args call r st=Ymb st e (Zh9 r args):=rfl
def Ydo{st:St}:Ymb st .same (some [v])=some (v,st):=rfl
def Zzn{st:St}{x y c:Int}(h:c=0∨c=1):Ymb st .add64 (some [.int .u64 x,.int .u64 y,.int .u64 c])=some (.tup [.int .u64 (lo64 (x.toNat+y.toNat+c.toNat):Nat),.int .u64 (hi64 (x.toNat+y.toNat+c.toNat):Nat)],st):=by
 simp only[Ymb,Yhm,h,not_true_eq_false,if_false]
 rfl
def Zzm{st:St}{x y c:Int}(h:c=0∨c=1):Ymb st .sub64 (some [.int .u64 x,.int .u64 y,.int .u64 c])=some (.tup [.int .u64 (sb64 x.toNat y.toNat c.toNat:Nat),.int .u64 (bw64 x.toNat y.toNat c.toNat:Nat)],st):=by
 simp only[Ymb,Yhm,h,not_true_eq_false,if_false,bw64]
 split<;>rfl
def Ycx:lo64 n<18446744073709551616:=Yuo _ (by decide)
def Ykh{c:Nat}:sb64 a b c<18446744073709551616:=Yuo _ (by decide)
attribute [simp] Ycx Ykh Ygj Ydo Zzn Zzm
def Zcz(st:St)(size:Nat):Option V→Option (Option V)→Option (Option V)→Option (Option V)→Option (V×St)
 |some v,some lo,some hi,some mx=>Za5 size (.const v) (lo.map .const) (hi.map .const) (mx.map .const) Zqm .nil st
 |_,_,_,_=>none
def Zdd{o:Option V}:evOpt r (o.map .const)=some o:=by cases o<;>rfl
def Zcn{lo hi mx:Option Src}{call:Za1}{st:St}:Za5 size x lo hi mx call r st=Zcz st size (x.ev r) (evOpt r lo) (evOpt r hi) (evOpt r mx):=by
 unfold Zcz Za5
 rcases x.ev r with _|v
 ·rfl
 ·rcases evOpt r lo with _|lo
  ·cases v<;>try rfl
   rename_i c _;cases c<;>rfl
  ·rcases evOpt r hi with _|hi
   ·cases v<;>try rfl
    rename_i c _;cases c<;>rfl
   ·rcases evOpt r mx with _|mx
    ·cases v<;>try rfl
     rename_i c _;cases c<;>rfl
    ·simp only[Zdd];rfl
def Sl(h:T O)(N:Nat)(v:V)(l:List V):Prop:=
 (l=[]∧(v=.nilslice∨v=.empty))∨∃i o cp c e rw,v=.slice i o l.length cp 1∧i<N∧h.get i=some (.cells c e rw)∧(∀j,j<l.length→c[o+j]?=l[j]?)∧o+l.length≤c.length∧∀k,cp=some k→l.length≤k
def Sl.nil:Sl h N .nilslice []:=.inl ⟨rfl,.inl rfl⟩
def Sl.row{L:Nat}{l:List V}{e:TypeId}{rw:Bool}{cp:Option Nat}(hi:i<N)(hg:h.get i=some (.cells l e rw))(hL:l.length=L)(hc:∀k,cp=some k→L≤k):Sl h N (.slice i 0 L cp 1) l:=
 .inr ⟨i,0,cp,l,e,rw,by rw[hL],hi,hg,fun j _=>by rw[Yvz],by omega,fun k hk=>by rw[hL];exact hc k hk⟩
def Sl.keep{h':T O}{N':Nat}{l:List V}(s:Sl h N v l)(k:Keeps h N h' N'):Sl h' N' v l:=by
 rcases s with s|⟨i,o,cp,c,e,rw,h1,h2,h3,h4⟩
 ·exact .inl s
 ·exact .inr ⟨i,o,cp,c,e,rw,h1,Yts h2 k.le,(k.get i h2).trans h3,h4⟩
def Sl.len{l:List V}(s:Sl h N v l):Zo2 v=some l.length:=by
 rcases s with⟨rfl,rfl|rfl⟩|⟨i,o,cp,c,e,rw,rfl,_⟩<;>rfl
def Sl.at{l:List V}(s:Sl h N v l){j:Nat}{x:V}(hj:l[j]?=some x):∃i o c e rw,Zn2 v=some (i,o)∧i<N∧h.get i=some (.cells c e rw)∧c[o+j]?=some x:=by
 have hl:j<l.length:=by
  apply Yun;intro hc;rw[Ytq hc]at hj;cases hj
 rcases s with⟨rfl,_⟩|⟨i,o,cp,c,e,rw,rfl,h2,h3,h4,_⟩
 ·simp at hl
 ·exact⟨i,o,c,e,rw,rfl,h2,h3,(h4 j hl).trans hj⟩
def val(b:Nat):List Nat→Nat
 |[]=>0
 |d::l=>d+b*val b l
def dg(l:List Nat):List V:=l.map fun n:Nat=>.int .u64 n
def dgi(l:List Nat):List V:=l.map fun n:Nat=>.int .i64 n
def Zab(l:List Nat):(dg l).length=l.length:=by simp[dg]
def Zac(l:List Nat):(dgi l).length=l.length:=by simp[dgi]
def Za8{j:Nat}(h:l[j]?=some n):(dg l)[j]?=some (.int .u64 n):=by simp[dg,h]
attribute [simp] Zab Zac
def Zc2{v:Nat}(h:k<l.length):splice (dg l) k [.int .u64 v]=dg (l.set k v):=by
 unfold splice dg
 apply Yua
 intro j
 simp only[Yu8,Ytl,List.getElem?_set]
 rw[Yuq,List.getElem?_append,Ytu,Ytx]
 by_cases h1:j<k
 ·rw[Ytg (by omega),Yt0,Ytg h1,Ytl,Yte (by omega)]
 ·rw[Yte (by omega)]
  by_cases h2:j=k
  ·subst h2
   rw[show j-min j l.length=0 by omega,Ytg rfl,Ytg h];rfl
  ·rw[show j-min k l.length=(j-k-1)+1 by omega,Yte (by omega)]
   simp only[Yw8,Yvm,Ytp,Ytl]
   rw[show k+1+(j-k-1)=j by omega]
def Zgr:Zkq [.int .u64 0] n=dg (List.replicate n 0):=by
 unfold Zkq dg
 apply Yua
 intro j
 simp only[Yu8,Ywk,Ytl,List.getElem?_replicate]
 by_cases h:j<n
 ·simp[h,Nat.mod_one]
 ·simp[h]
def Yik{z:V}:Zkq [z] n=List.replicate n z:=by
 unfold Zkq
 apply Yua
 intro j
 simp only[Yu8,Ywk,Ytl,List.getElem?_replicate]
 by_cases h:j<n
 ·simp[h,Nat.mod_one]
 ·simp[h]
def Zht(b:Nat):∀(l m:List Nat),val b (l++m)=val b l+b^l.length*val b m
 |[],m=>by simp[val]
 |d::l,m=>by
  simp only[Yvr,val,Zht b l m,Ytd,Yt5]
  grind
def Zly(b:Nat)(l:List Nat)(d:Nat):val b (l++[d])=val b l+b^l.length*d:=by simp[Zht,val]
def Zqw(b n:Nat):val b (List.replicate n 0)=0:=by
 induction n with
 |zero=>rfl
 |succ n ih=>simp[List.replicate_succ,val,ih]
def Zb3{d:Nat}(h:l[k]?=some d):val b (l.take (k+1))=val b (l.take k)+b^k*d:=by
 have hk:k<l.length:=by
  apply Yun;intro hc;rw[Ytq hc]at h;cases h
 rw[Yt8,h]
 simp only[Option.toList]
 rw[Zly,Ytu,Yuv (by omega)]
def Zk9{b:Nat}:∀{l:List Nat},(∀d∈l,d<b)→val b l<b^l.length
 |[],_=>by simp[val]
 |d::l,h=>by
  have h1:=h d Yuj
  have h2:=Zk9 (l:=l) fun e he=>h e (Yub _ he)
  simp only[val,Ytd,Yt5]
  have:b*(val b l+1)≤b*b^l.length:=Yty b h2
  rw[Yuc (b^l.length) b]
  grind
def B:Nat:=18446744073709551616
def Dg(l:List Nat):Prop:=∀d∈l,d<B
def Dg.get(h:Dg l){j d:Nat}(hj:l[j]?=some d):d<B:=h d (Yti hj)
def dz(l:List Nat)(j:Nat):Nat:=l[j]?.getD 0
def Yo5{l:List Nat}(h:Dg l)(j:Nat):dz l j<B:=by
 unfold dz
 cases hj:l[j]? with
 |none=>decide
 |some d=>exact h.get hj
def Zca{b:Nat}{l:List Nat}{k:Nat}:val b (l.take (k+1))=val b (l.take k)+b^k*dz l k:=by
 unfold dz
 cases h:l[k]? with
 |some d=>exact Zb3 h
 |none=>
  have hk:l.length≤k:=by
   apply Yu0;intro hc;rw[Ytj hc]at h;cases h
  rw[Yto (by omega),Yto hk];simp
def Zgz:List Nat→List Nat
 |[]=>[]
 |d::l=>match Zgz l with
  |[]=>if d=0 then [] else [d]
  |t=>d::t
def Zoi:∀(l:List Nat),Zgz (l++[0])=Zgz l
 |[]=>rfl
 |d::l=>by simp only[Yvr,Zgz,Zoi l]
def Zoj{d:Nat}(hd:d≠0):∀(l:List Nat),Zgz (l++[d])=l++[d]
 |[]=>by simp[Zgz,hd]
 |e::l=>by
  simp only[Yvr,Zgz,Zoj hd l]
  cases l<;>rfl
def inD:List (Nat×Nat)→Nat→Bool
 |[],_=>false
 |(a,b)::D,t=>(Nat.ble a t&&Nat.ble t b)||inD D t
def Yl3{t:Nat}:inD [] t=false:=rfl
def Yg9{D:List (Nat×Nat)}{t:Nat}:inD ((a,b)::D) t=((Nat.ble a t&&Nat.ble t b)||inD D t):=rfl
attribute [simp] Yl3 Yg9
structure Fx (D:List (Nat×Nat)) (r0:T V) (n:Nat) (fr:Fr):Prop where
 reg:∀t,inD D t=false→fr.r.get t=r0.get t
 n:fr.n=n
 marks:fr.marks=[]
def Fx.refl{D:List (Nat×Nat)}:Fx D r n ⟨r,n,[]⟩:=⟨fun _ _=>rfl,rfl,rfl⟩
def Fx.set{D:List (Nat×Nat)}{t:Nat}(ht:inD D t=true):Fx D r0 n ⟨r.set t v,n,[]⟩↔Fx D r0 n ⟨r,n,[]⟩:=by
 constructor
 ·intro h
  refine⟨fun u hu=>?_,rfl,rfl⟩
  have:=h.reg u hu
  simp only[T.get_set]at this
  rw[Yte]at this
  ·exact this
  ·rintro rfl;rw[ht]at hu;cases hu
 ·intro h
  refine⟨fun u hu=>?_,rfl,rfl⟩
  simp only[T.get_set]
  rw[Yte]
  ·exact h.reg u hu
  ·rintro rfl;rw[ht]at hu;cases hu
attribute [simp] Fx.set
def Yp3(D' D:List (Nat×Nat)):Bool:=D'.all fun p=>D.any fun q=>Nat.ble q.1 p.1&&Nat.ble p.2 q.2
def Yc9{D:List (Nat×Nat)}{t:Nat}:inD D t=true↔∃p∈D,p.1≤t∧t≤p.2:=by
 induction D with
 |nil=>simp[inD]
 |cons p D ih=>obtain⟨a,b⟩:=p;simp[inD,ih]
def Ykb{D' D:List (Nat×Nat)}(h:Yp3 D' D=true){t:Nat}(ht:inD D t=false):inD D' t=false:=by
 cases hc:inD D' t with
 |false=>rfl
 |true=>
  obtain⟨p,hp,h1,h2⟩:=Yc9.1 hc
  unfold Yp3 at h
  rw[Yue]at h
  obtain⟨q,hq,h3⟩:=List.any_eq_true.1 (h p hp)
  simp at h3
  have:inD D t=true:=Yc9.2 ⟨q,hq,by omega,by omega⟩
  rw[ht]at this;cases this
def Fx.inner{D D':List (Nat×Nat)}{r1 r2:T V}(hf:Fx D r0 n ⟨r,n,[]⟩)(hs:Yp3 D' D=true)(h1:Fx D r0 n ⟨r,n,[]⟩→Fx D r0 n ⟨r1,n,[]⟩)(h2:∀t,inD D' t=false→r2.get t=r1.get t):Fx D r0 n ⟨r2,n,[]⟩:=
 ⟨fun t ht=>(h2 t (Ykb hs ht)).trans ((h1 hf).reg t ht),rfl,rfl⟩
def Rd(D:List (Nat×Nat))(r0:T V)(n:Nat)(I:Nat→T V→St→Prop)(k:Nat)(P:Ex→T V→St→Prop):Ex→Fr→St→Prop
 |.normal,fr,st=>Fx D r0 n fr∧∃k',k'<k∧I k' fr.r st
 |e,fr,st=>Fx D r0 n fr∧P e fr.r st
def Zs1{D r0 n I k P r st}:Rd D r0 n I k P .normal ⟨r,n,[]⟩ st↔Fx D r0 n ⟨r,n,[]⟩∧∃k',k'<k∧I k' r st:=Iff.rfl
def Ym6{D r0 n I k P r st i}:Rd D r0 n I k P (.exit i) ⟨r,n,[]⟩ st↔Fx D r0 n ⟨r,n,[]⟩∧P (.exit i) r st:=Iff.rfl
def Ypj{D r0 n I k P r st}:Rd D r0 n I k P .ret ⟨r,n,[]⟩ st↔Fx D r0 n ⟨r,n,[]⟩∧P .ret r st:=Iff.rfl
attribute [simp] Zs1 Ym6 Ypj
def Zah{C:Cx}{ro:Option Nat}{c:Zaw}{K:List Kf}{Q:Rs→Prop}{st0:St}(D:List (Nat×Nat))(P:Ex→T V→St→Prop)(I:Nat→T V→St→Prop)(k:Nat)(hi:I k r0 st0)
  (h:∀k r st,(∀t,inD D t=false→r.get t=r0.get t)→Fx D r0 n ⟨r,n,[]⟩→I k r st→Code C ro c ⟨r,n,[]⟩ st (Rd D r0 n I k P))
  (q:∀e r st,(∀t,inD D t=false→r.get t=r0.get t)→P e r st→Run C K (some (.ex e ⟨r,n,[]⟩ st)) Q):Run C K (exR (C.code ro (.loop c) ⟨r0,n,[]⟩ st0)) Q:=by
 refine Yfv (fun e fr st=>Fx D r0 n fr∧P e fr.r st) (fun k fr st=>Fx D r0 n fr∧I k fr.r st) k ⟨Fx.refl,hi⟩ ?_ ?_
 ·rintro k ⟨r,n',m⟩ st ⟨hf,hi⟩
  have h1:n'=n:=hf.n
  have h2:m=[]:=hf.marks
  subst h1;subst h2
  obtain⟨e,fr',st',h3,h4⟩:=(h k r st hf.reg hf hi).ex
  refine⟨e,fr',st',h3,?_⟩
  cases e with
  |normal=>obtain⟨a,k',b,c⟩:=h4;exact⟨k',b,a,c⟩
  |exit i=>exact h4
  |ret=>exact h4
 ·rintro e ⟨r,n',m⟩ st ⟨hf,hp⟩
  have h1:n'=n:=hf.n
  have h2:m=[]:=hf.marks
  subst h1;subst h2
  exact q e r st hf.reg hp
def Zjs{l:List V}{w:List Nat}(s:Sl h N v l){lo hi:Nat}(h1:lo≤hi)(h2:hi≤l.length)(x y:Option V)(hx:x=some (.int .i64 lo)∨x=none∧lo=0)(hy:y=some (.int .i64 hi)∨y=none∧hi=l.length):
  ∃v',Zcz ⟨h,N,w⟩ 1 (some v) (some x) (some y) (some none)=some (v',⟨h,N,w⟩)∧Sl h N v' ((l.take hi).drop lo):=by
 rcases s with⟨rfl,rfl|rfl⟩|⟨i,o,cp,c,e,rw,rfl,q2,q3,q4,q5,q6⟩
 ·have:hi=0:=by simpa using h2
  subst this
  have:lo=0:=by omega
  subst this
  refine⟨.nilslice,?_,.inl ⟨rfl,.inl rfl⟩⟩
  rcases hx with rfl|⟨rfl,_⟩<;>rcases hy with rfl|⟨rfl,_⟩<;>simp[Zcz,Za5,evOpt,Zax,Zeb]
 ·have:hi=0:=by simpa using h2
  subst this
  have:lo=0:=by omega
  subst this
  refine⟨.empty,?_,.inl ⟨rfl,.inr rfl⟩⟩
  rcases hx with rfl|⟨rfl,_⟩<;>rcases hy with rfl|⟨rfl,_⟩<;>simp[Zcz,Za5,evOpt,Zax,Zeb]
 ·have hlen:((l.take hi).drop lo).length=hi-lo:=by simp;omega
  have hget:∀j,j<hi-lo→c[o+lo+j]?=((l.take hi).drop lo)[j]?:=fun j hj=>by
   rw[Ytp,Yt0,Ytg (by omega),show o+lo+j=o+(lo+j) by omega]
   exact q4 _ (by omega)
  have b1:∀m,hi≤m→Zax y m l.length=some hi:=fun m hm=>by
   rcases hy with rfl|⟨rfl,rfl⟩
   ·simp[Zax,Zeb];omega
   ·rfl
  have b2:Zax x hi 0=some lo:=by
   rcases hx with rfl|⟨rfl,rfl⟩
   ·simp[Zax,Zeb];omega
   ·rfl
  cases cp with
  |some k=>
   have hk:=q6 k rfl
   refine⟨.slice i (if k=lo then o else o+lo) (hi-lo) (some (k-lo)) 1,?_,?_⟩
   ·have b0:Zax none k k=some k:=rfl
    simp only[Zcz,Za5,Zdd,Src.ev,Ywk]
    simp[b0,b1 k (by omega),b2]
   ·by_cases hkl:k=lo
    ·refine .inr ⟨i,o,some 0,c,e,rw,?_,q2,q3,fun j hj=>by rw[hlen]at hj;omega,by rw[hlen];omega,fun k' hk'=>by rw[hlen];omega⟩
     rw[hlen,Ytg hkl,show k-lo=0 by omega]
    ·refine .inr ⟨i,o+lo,some (k-lo),c,e,rw,?_,q2,q3,fun j hj=>hget j (by omega),by rw[hlen];omega,fun k' hk'=>by simp at hk';rw[hlen];omega⟩
     rw[hlen,Yte hkl]
  |none=>
   have hk:hi≤max l.length (c.length-o):=by omega
   by_cases hlt:lo<max l.length (c.length-o)
   ·refine⟨.slice i (o+lo) (hi-lo) none 1,?_,.inr ⟨i,o+lo,none,c,e,rw,by rw[hlen],q2,q3,fun j hj=>hget j (by omega),by rw[hlen];omega,fun k' hk'=>by cases hk'⟩⟩
    simp only[Zcz,Za5,Zdd,Src.ev,St.row,q3,Nat.div_one,Ywk]
    simp[b1 _ hk,b2,hlt]
   ·refine⟨.empty,?_,.inl ⟨Ytt (by rw[hlen];omega),.inr rfl⟩⟩
    simp only[Zcz,Za5,Zdd,Src.ev,St.row,q3,Nat.div_one,Ywk]
    simp[b1 _ hk,b2,hlt]
def Zpt{m v:Nat}(hk:l.length=k):(l++List.replicate (m+1) 0).set k v=(l++[v])++List.replicate m 0:=by
 subst hk
 rw[List.set_append_right _ _ (Ytf _)]
 simp[List.replicate_succ]
def wds(n:Nat):List Nat:=if h:n=0 then [] else n%B::wds (n/B)
termination_by n
decreasing_by exact Ywc (by omega) (by decide)
def Zbs:wds 0=[]:=by rw[wds];simp
def Zbu(h:n≠0):wds n=n%B::wds (n/B):=by rw[wds];simp[h]
def Zbt:∀(n:Nat),val B (wds n)=n:=by
 intro n
 induction n using Nat.strongRecOn with
 |_ n ih=>
  by_cases h:n=0
  ·subst h;rw[Zbs];rfl
  ·rw[Zbu h]
   simp only[val]
   rw[ih (n/B) (Ywc (by omega) (by decide))]
   have:=Yu4 n B
   omega
def Zdn(n:Nat):Dg (wds n):=by
 induction n using Nat.strongRecOn with
 |_ n ih=>
  by_cases h:n=0
  ·subst h;rw[Zbs];intro d hd;cases hd
  ·rw[Zbu h]
   intro d hd
   rcases Yt7.1 hd with rfl|hd
   ·exact Yuo _ (by decide)
   ·exact ih (n/B) (Ywc (by omega) (by decide)) d hd
def Zdo:∀{l:List Nat},Dg l→Zgz l=wds (val B l)
 |[],_=>by simp[Zgz,val,Zbs]
 |d::l,h=>by
  have ih:=Zdo (l:=l) fun e he=>h e (Yub _ he)
  have hd:d<B:=h d Yuj
  simp only[Zgz,val,ih]
  by_cases h0:val B l=0
  ·rw[h0,Zbs]
   simp only[Nat.mul_zero,Yus]
   by_cases hd0:d=0
   ·simp[hd0,Zbs]
   ·rw[Zbu hd0,Yvg hd,Yvs hd,Zbs];simp[hd0]
  ·have hB:0<B:=by decide
   have h1:(d+B*val B l)/B=val B l:=by
    rw[Nat.add_mul_div_left _ _ hB,Yvs hd,Yvz]
   have h2:(d+B*val B l)%B=d:=by
    rw[Nat.add_mul_mod_self_left,Yvg hd]
   have h3:d+B*val B l≠0:=by
    intro hc
    have:B*val B l=0:=by omega
    rcases Nat.mul_eq_zero.1 this with h|h
    ·omega
    ·exact h0 h
   rw[Zbu h3,h1,h2]
   split
   ·rename_i hc;rw[Zbu h0]at hc;cases hc
   ·rfl
def Wn(h:T O)(N:Nat)(v:V)(n:Nat):Prop:=Sl h N v (dg (wds n))
def Wn.keep{h':T O}{N':Nat}(s:Wn h N v n)(k:Keeps h N h' N'):Wn h' N' v n:=Sl.keep s k
variable {N bytes n o z:Nat} {h:T O} {l:List (List V)} {v:V}
def Zvu{α:Type}{c:List α}{x:List α}(h:slc c o n=some x):o+n≤c.length∧x=(c.drop o).take n:=by
 unfold slc at h
 split at h
 ·rename_i hl;simp at h;exact⟨hl,h.symm⟩
 ·cases h
def Zf9{α:Type}{c:List α}{x:List α}(h:slc c o n=some x){f:Nat}(hf:f<n):c[o+f]?=x[f]?:=by
 obtain⟨_,rfl⟩:=Zvu h
 rw[Yt0,Ytg hf,Ytp]
def Zrc{c:List V}{x:List V}(h:slc c o n=some x):Zam c o (some n)=some (.agg x):=by
 simp[Zam,h]
def Sn(z:Nat)(h:T O)(N:Nat)(v:V)(l:List (List V)):Prop:=
 (l=[]∧(v=.nilslice∨v=.empty))∨∃i o cp c e rw,v=.slice i o l.length cp z∧i<N∧h.get i=some (.cells c e rw)∧(∀j x,l[j]?=some x→slc c (o+j*z) z=some x)∧o+l.length*z≤c.length∧∀k,cp=some k→l.length≤k
def Sn.nil:Sn z h N .nilslice []:=.inl ⟨rfl,.inl rfl⟩
def Sn.keep{h':T O}{N':Nat}(s:Sn z h N v l)(k:Keeps h N h' N'):Sn z h' N' v l:=by
 rcases s with s|⟨i,o,cp,c,e,rw,h1,h2,h3,h4⟩
 ·exact .inl s
 ·exact .inr ⟨i,o,cp,c,e,rw,h1,Yts h2 k.le,(k.get i h2).trans h3,h4⟩
def Sn.len(s:Sn z h N v l):Zo2 v=some l.length:=by
 rcases s with⟨rfl,rfl|rfl⟩|⟨i,o,cp,c,e,rw,rfl,_⟩<;>rfl
def Sn.at(s:Sn z h N v l){j:Nat}{x:List V}(hj:l[j]?=some x):∃i o c e rw,Zn2 v=some (i,o)∧i<N∧h.get i=some (.cells c e rw)∧slc c (o+j*z) z=some x:=by
 have hl:j<l.length:=by
  apply Yun;intro hc;rw[Ytq hc]at hj;cases hj
 rcases s with⟨rfl,_⟩|⟨i,o,cp,c,e,rw,rfl,h2,h3,h4,_⟩
 ·simp at hl
 ·exact⟨i,o,c,e,rw,rfl,h2,h3,h4 j x hj⟩
def Yat(hz:0<z){h:T O}{N:Nat}{v:V}{l:List (List V)}{w:List Nat}(s:Sn z h N v l){lo hi:Nat}(h1:lo≤hi)(h2:hi≤l.length)(x y:Option V)(hx:x=some (.int .i64 lo)∨x=none∧lo=0)(hy:y=some (.int .i64 hi)∨y=none∧hi=l.length):
  ∃v',Zcz ⟨h,N,w⟩ z (some v) (some x) (some y) (some none)=some (v',⟨h,N,w⟩)∧Sn z h N v' ((l.take hi).drop lo):=by
 rcases s with⟨rfl,rfl|rfl⟩|⟨i,o,cp,c,e,rw,rfl,q2,q3,q4,q5,q6⟩
 ·have:hi=0:=by simpa using h2
  subst this
  have:lo=0:=by omega
  subst this
  refine⟨.nilslice,?_,.inl ⟨rfl,.inl rfl⟩⟩
  rcases hx with rfl|⟨rfl,_⟩<;>rcases hy with rfl|⟨rfl,_⟩<;>simp[Zcz,Za5,evOpt,Zax,Zeb]
 ·have:hi=0:=by simpa using h2
  subst this
  have:lo=0:=by omega
  subst this
  refine⟨.empty,?_,.inl ⟨rfl,.inr rfl⟩⟩
  rcases hx with rfl|⟨rfl,_⟩<;>rcases hy with rfl|⟨rfl,_⟩<;>simp[Zcz,Za5,evOpt,Zax,Zeb]
 ·have hlen:((l.take hi).drop lo).length=hi-lo:=by simp;omega
  have hget:∀j u,((l.take hi).drop lo)[j]?=some u→slc c (o+lo*z+j*z) z=some u:=fun j u hu=>by
   have hj:j<hi-lo:=by
    rw[←hlen];apply Yun;intro hc;rw[Ytq hc]at hu;cases hu
   rw[Ytp,Yt0,Ytg (by omega)]at hu
   have:=q4 _ _ hu
   rw[show o+lo*z+j*z=o+(lo+j)*z by rw[Yup];omega]
   exact this
  have hmul:lo*z+(hi-lo)*z≤l.length*z:=by
   rw[←Yup];exact Yt3 _ (by omega)
  have b1:∀m,hi≤m→Zax y m l.length=some hi:=fun m hm=>by
   rcases hy with rfl|⟨rfl,rfl⟩
   ·simp[Zax,Zeb];omega
   ·rfl
  have b2:Zax x hi 0=some lo:=by
   rcases hx with rfl|⟨rfl,rfl⟩
   ·simp[Zax,Zeb];omega
   ·rfl
  cases cp with
  |some k=>
   have hk:=q6 k rfl
   refine⟨.slice i (if k=lo then o else o+lo*z) (hi-lo) (some (k-lo)) z,?_,?_⟩
   ·have b0:Zax none k k=some k:=rfl
    simp only[Zcz,Za5,Zdd,Src.ev]
    simp[b0,b1 k (by omega),b2]
   ·by_cases hkl:k=lo
    ·have h0:(l.take hi).drop lo=[]:=Ytt (by rw[hlen];omega)
     refine .inr ⟨i,o,some (k-lo),c,e,rw,?_,q2,q3,fun j u hu=>by rw[h0]at hu;simp at hu,by rw[h0];simp;omega,fun k' hk'=>by rw[h0];simp⟩
     rw[hlen,Ytg hkl]
    ·refine .inr ⟨i,o+lo*z,some (k-lo),c,e,rw,?_,q2,q3,hget,by rw[hlen];omega,fun k' hk'=>by simp at hk';rw[hlen];omega⟩
     rw[hlen,Yte hkl]
  |none=>
   have hlz:l.length≤(c.length-o)/z:=by
    rw[Ywj hz];omega
   have hk:hi≤max l.length ((c.length-o)/z):=by omega
   have hz0:z≠0:=by omega
   by_cases hlt:lo<max l.length ((c.length-o)/z)
   ·refine⟨.slice i (o+lo*z) (hi-lo) none z,?_,.inr ⟨i,o+lo*z,none,c,e,rw,by rw[hlen],q2,q3,hget,by rw[hlen];omega,fun k' hk'=>by cases hk'⟩⟩
    simp only[Zcz,Za5,Zdd,Src.ev,St.row,q3]
    simp[b1 _ hk,b2,hlt,hz0]
   ·refine⟨.empty,?_,.inl ⟨Ytt (by rw[hlen];omega),.inr rfl⟩⟩
    simp only[Zcz,Za5,Zdd,Src.ev,St.row,q3]
    simp[b1 _ hk,b2,hlt,hz0]
def Sn.one{l:List V}:Sn 1 h N v (l.map fun x=>[x])↔Sl h N v l:=by
 unfold Sn Sl
 constructor
 ·rintro(⟨h1,h2⟩|⟨i,o,cp,c,e,rw,h1,h2,h3,h4,h5,h6⟩)
  ·exact .inl ⟨by simpa using h1,h2⟩
  ·refine .inr ⟨i,o,cp,c,e,rw,by simpa using h1,h2,h3,fun j hj=>?_,by simpa using h5,by simpa using h6⟩
   have:=h4 j [l[j]] (by simp[Ytj hj])
   have:=Zf9 this (f:=0) (by omega)
   simp at this
   rw[this,Ytj hj]
 ·rintro(⟨h1,h2⟩|⟨i,o,cp,c,e,rw,h1,h2,h3,h4,h5,h6⟩)
  ·exact .inl ⟨by simpa using h1,h2⟩
  ·refine .inr ⟨i,o,cp,c,e,rw,by simpa using h1,h2,h3,fun j x hj=>?_,by simpa using h5,by simpa using h6⟩
   simp at hj
   obtain⟨u,hu,rfl⟩:=hj
   have hl:j<l.length:=by
    apply Yun;intro hc;rw[Ytq hc]at hu;cases hu
   have:=h4 j hl
   rw[hu]at this
   have hc:o+j<c.length:=by omega
   unfold slc
   rw[Ytg (by omega),Ywk,Yvt hc]
   rw[Ytj hc]at this
   simp at this
   simp[this]
def Own(z:Nat)(e:TypeId)(N0:Nat)(h:T O)(N:Nat)(v:V)(l:List (List V)):Prop:=
 (∀x∈l,x.length=z)∧((l=[]∧v=.nilslice)∨∃i,v=.slice i 0 l.length none z∧N0≤i∧i<N∧h.get i=some (.cells l.flatten e true))
def Own.nil{e:TypeId}{N0:Nat}:Own z e N0 h N .nilslice []:=⟨fun _ h=>by simp at h,.inl ⟨rfl,rfl⟩⟩
def Own.keep{e:TypeId}{N0:Nat}{h':T O}{N':Nat}(s:Own z e N0 h N v l)(k:Keeps h N h' N'):Own z e N0 h' N' v l:=by
 obtain⟨hl,s|⟨i,h1,h2,h3,h4⟩⟩:=s
 ·exact⟨hl,.inl s⟩
 ·exact⟨hl,.inr ⟨i,h1,h2,Yts h3 k.le,(k.get i h3).trans h4⟩⟩
def Own.len{e:TypeId}{N0:Nat}(s:Own z e N0 h N v l):Zo2 v=some l.length:=by
 obtain⟨_,⟨rfl,rfl⟩|⟨i,rfl,_⟩⟩:=s<;>rfl
def Zgn{z:Nat}:∀{l:List (List V)},(∀x∈l,x.length=z)→l.flatten.length=l.length*z
 |[],_=>by simp
 |x::l,h=>by
  have h1:=h x Yuj
  have h2:=Zgn (l:=l) fun y hy=>h y (Yub _ hy)
  simp only[List.flatten_cons,Yt1,h1,h2,Ytd,Yup];omega
def Zni{z:Nat}:∀{l:List (List V)},(∀x∈l,x.length=z)→∀{j:Nat} {x:List V},l[j]?=some x→slc l.flatten (j*z) z=some x
 |[],_,j,x,hj=>by simp at hj
 |y::l,h,0,x,hj=>by
  have h1:=h y Yuj
  simp at hj;subst hj
  unfold slc
  simp[←h1]
 |y::l,h,j+1,x,hj=>by
  have h1:=h y Yuj
  have h2:=Zni (l:=l) (fun y hy=>h y (Yub _ hy)) (j:=j) (x:=x) (by simpa using hj)
  obtain⟨h3,h4⟩:=Zvu h2
  unfold slc
  rw[Ytg (by simp only[List.flatten_cons,Yt1,Yup,h1];omega),h4]
  congr 2
  rw[List.flatten_cons,Yup,Nat.one_mul,Nat.add_comm,←List.drop_drop,←h1,List.drop_left]
def Own.sn{e:TypeId}{N0:Nat}(s:Own z e N0 h N v l):Sn z h N v l:=by
 obtain⟨hl,⟨h1,h2⟩|⟨i,h1,h2,h3,h4⟩⟩:=s
 ·exact .inl ⟨h1,.inl h2⟩
 ·exact .inr ⟨i,0,none,l.flatten,e,true,h1,h3,h4,fun j x hj=>by rw[Yvz];exact Zni hl hj,by rw[Zgn hl];omega,fun k hk=>by cases hk⟩
def Zvd(st:St)(size bytes:Nat)(e:TypeId):Option V→Option V→Option (V×St)
 |some s,some x=>Zbg st size bytes e s x
 |_,_=>none
def Zt2{size:Nat}{e:TypeId}{z:List V}{s x:Src}{call:Za1}{r:T V}{st:St}:Zdr size bytes e z s x call r st=Zvd st size bytes e (s.ev r) (x.ev r):=by
 unfold Zdr Zvd;rfl
def Za3{st:St}{size:Nat}{e:TypeId}{s x:V}:Zvd st size bytes e (some s) (some x)=Zbg st size bytes e s x:=rfl
attribute [simp] Zt2 Za3
def Za9{e:TypeId}{N0:Nat}{u:V}{x:List V}{w:List Nat}(s:Own z e N0 h N v l)(hN:N0≤N)(hz:0<z)(hx:x.length=z)
  (hu:Zau ⟨h,N,w⟩ z u=some (1,x)) (hb:2*(l.length+1)*bytes≤281474976710656):
  ∃v' h' w',Zbg ⟨h,N,w⟩ z bytes e v u=some (v',⟨h',N+1,w'⟩)∧Zaa N0 w'=Zaa N0 w∧Keeps h N0 h' (N+1)∧(∀j,h'.get j=h.get j∨j=N∨(∃o n c q,v=.slice j o n c q))∧Own z e N0 h' (N+1) v' (l++[x]):=by
 obtain⟨hl,s⟩:=s
 have hl':∀y∈l++[x],y.length=z:=fun y hy=>by
  rcases Yt9.1 hy with hy|hy
  ·exact hl y hy
  ·simp at hy;rw[hy,hx]
 have hz0:z≠0:=by omega
 rcases s with⟨rfl,rfl⟩|⟨i,rfl,h2,h3,h4⟩
 ·refine⟨.slice N 0 1 none z,h.set N (.cells x e true),w,?_,rfl,⟨by omega,fun j hj=>by rw[T.get_set,Yte (by omega)]⟩,fun j=>by rw[T.get_set];by_cases hj:j=N<;>simp[hj],hl',.inr ⟨N,by simp,hN,by omega,by rw[T.get_set];simp⟩⟩
  have hb':2*1*bytes≤281474976710656:=by simpa using hb
  simp only[Zbg,hu,Zb5,St.alloc]
  simp[hb',hz0]
 ·have hfl:=Zgn hl
  refine⟨.slice N 0 (l.length+1) none z,(h.set i .dead).set N (.cells (l.flatten++x) e true),i::w,?_,by simp[Zaa,Ywg.2 h2],⟨by omega,fun j hj=>by rw[T.get_set,Yte (by omega),T.get_set,Yte (by omega)]⟩,fun j=>?_,hl',.inr ⟨N,by simp,hN,by omega,by rw[T.get_set];simp⟩⟩
  ·simp only[Zbg,hu,Zb5,St.row,h4]
   rw[Yte (by omega),Yte (by rintro(h|h|h)<;>omega)]
   simp only[if_true]
   rw[Yte (by rw[hfl,Yup];omega),Ytg ⟨by rw[hfl];omega,trivial,trivial⟩]
   rfl
  ·by_cases hj:j=N
   ·exact .inr (.inl hj)
   ·by_cases hj2:j=i
    ·exact .inr (.inr ⟨0,l.length,none,z,by rw[hj2]⟩)
    ·left;rw[T.get_set,Yte hj,T.get_set,Yte hj2]
abbrev Str:=List UInt8
def Zke(c:UInt8):Bool:=decide (48≤c.toNat∧c.toNat≤57)
def Ypv(c:UInt8):Bool:=decide (97≤c.toNat∧c.toNat≤122∨65≤c.toNat∧c.toNat≤90)
def Ylc(i:Nat)(c:UInt8):Bool:=Ypv c||(decide (i≠0)&&(Zke c||decide (c.toNat=95)))
def Ziv:Nat→Str→Bool
 |_,[]=>true
 |i,c::s=>Ylc i c&&Ziv (i+1) s
def Zgy(s:Str):Bool:=decide (s≠[])&&decide (s.length≤24)&&Ziv 0 s
def Zc1:Str→Bool
 |[]=>false
 |c::s=>(c::s).all Zke&&(decide (c.toNat≠48)||decide (s=[]))
def slashAt:Str→Nat
 |[]=>0
 |c::s=>if c.toNat=47 then 0 else slashAt s+1
def numV(s:Str):Nat:=s.foldl (fun n c=>10*n+(c.toNat-48)) 0
def negS:Str→Bool
 |[]=>false
 |c::_=>decide (c.toNat=45)
def Zaq(s:Str):Str:=if negS s then s.drop 1 else s
def Zci(neg:Bool)(p:Str)(broken:Bool)(d:Str):Bool:=Zc1 p&&!(neg&&decide (p=[48]))&&(!broken||(Zc1 d&&decide (d≠[48])&&decide (d≠[49])))
def Zkr(neg:Bool)(p:Str)(broken:Bool)(d:Str):Nat:=
 if Zci neg p broken d=false then 1 else if 600<p.length∨600<d.length then 4 else if broken=true∧Nat.gcd (numV p) (numV d)≠1 then 1 else 0
def Ynf(neg:Bool)(t:Str):Nat:=Zkr neg (t.take (slashAt t)) (decide (slashAt t<t.length)) (t.drop (slashAt t+1))
def chkNum(s:Str):Nat:=Ynf (negS s) (Zaq s)
def Zdi:∀(s:Str),slashAt s≤s.length
 |[]=>Ytf _
 |c::s=>by
  have:=Zdi s
  simp only[slashAt,Ytd]
  split<;>omega
structure Stg where
 name:Str
 op:Str
 factor:Str
 inputs:List Str
 cost:Int
def pos:List Stg→Str→Nat
 |[],_=>0
 |s::g,n=>if s.name=n then 0 else pos g n+1
def Zh8(g:List Stg)(n:Str):Int:=if pos g n<g.length then (pos g n:Int) else -1
structure Opn where
 factor:Bool
 lo:Nat
 hi:Nat
def opOf(s:Str):Option Opn:=
 if s=[102,114,97,109,101] then some ⟨false,0,0⟩
 else if s=[97,100,100] then some ⟨false,1,16⟩
 else if s=[115,99,97,108,101] then some ⟨true,1,1⟩
 else if s=[109,97,120] then some ⟨false,1,16⟩
 else if s=[100,101,108,97,121] then some ⟨false,1,1⟩
 else if s=[115,117,109] then some ⟨true,1,1⟩
 else none
def Zco(o:Opn)(f:Str):Nat:=if o.factor=true then chkNum f else if f=[] then 0 else 1
def chkStage(before:List Stg)(s:Stg):Nat:=
 if Zgy s.name=false then 8
 else if pos before s.name<before.length then 9
 else match opOf s.op with
  |none=>13
  |some o=>
   if Zco o s.factor≠0 then Zco o s.factor
   else if 16<s.inputs.length then 5
   else if s.inputs.length<o.lo∨o.hi<s.inputs.length then 2
   else if s.inputs.any (fun n=>decide (before.length≤pos before n))=true then 10
   else if s.cost<1∨1000<s.cost then 3 else 0
def Zqj:List Stg→List Stg→Nat
 |_,[]=>0
 |before,s::t=>if chkStage before s≠0 then chkStage before s else Zqj (before++[s]) t
def chkGraph(g:List Stg):Nat:=if g.length=0 then 12 else if 16<g.length then 5 else Zqj [] g
def Zby(s:Stg):Bool:=decide (s.name.length≤40∧s.op.length≤40∧s.factor.length≤20∧(s.inputs.length≤5∨s.inputs.length=17))&&s.inputs.all fun n=>decide (n.length≤40)
def Zld(g:List Stg):Bool:=decide (g.length≤6∨g.length=17)&&g.all Zby
end Go.Mx
