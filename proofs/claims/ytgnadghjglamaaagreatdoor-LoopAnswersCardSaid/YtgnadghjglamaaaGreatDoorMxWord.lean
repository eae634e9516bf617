/-Slices of which only the elements are kn-/
import Derived.Test.YtgnadghjglamaaaGreatDoorMxLim
set_option linter.all false
namespace Go.Mx
open Go
variable {N a b i k n o size:Nat} {h:T O} {j:Int} {l:List Nat} {r r0:T V} {v:V} {x:Src}
def Zqa:V→Option Nat
 |.nilslice=>some 0
 |.empty=>some 0
 |.slice _ _ n _ _=>some n
 |_=>none
def Zn8:V→Option (Nat×Nat)
 |.slice i o _ _ _=>some (i,o)
 |_=>none
def Ykc(st:St):Option Nat→Option (V×St)
 |some n=>some (.int .i64 n,st)
 |none=>none
def Yo9(st:St):Option V→Option (V×St)
 |some v=>Ykc st (Zqa v)
 |none=>none
def Yfe{call:Za1}{st:St}:Zfh 1 x call r st=Yo9 st (x.ev r):=by
 unfold Zfh Yo9
 rcases x.ev r with _|v
 ·rfl
 ·cases v<;>rfl
def Yb3{st:St}:Yo9 st (some v)=Ykc st (Zqa v):=rfl
def Zx5{st:St}:Ykc st (some n)=some (.int .i64 n,st):=rfl
def Zwo(st:St)(size k:Nat):Option (Nat×Nat)→Option (V×St)
 |some (i,o)=>some (.ptr i (o+k*size),st)
 |none=>none
def Zsd(st:St)(size:Nat)(v:V)(k:Int):Option Nat→Option (V×St)
 |some n=>if 0≤k∧k<(n:Int) then Zwo st size k.toNat (Zn8 v) else none
 |none=>none
def Yli(st:St)(size:Nat):Option V→Option V→Option (V×St)
 |some v,some (.int _ k)=>Zsd st size v k (Zqa v)
 |_,_=>none
def Zqz{i:Src}{call:Za1}{st:St}:Zde size x i call r st=Yli st size (x.ev r) (i.ev r):=by
 unfold Zde Yli
 rcases x.ev r with _|v
 ·rfl
 ·rcases i.ev r with _|u
  ·cases v<;>rfl
  ·cases u<;>cases v<;>simp[Zsd,Zwo,Zqa,Zn8]<;>omega
def Zzf{st:St}{k:IntKind}:Yli st size (some v) (some (.int k j))=Zsd st size v j (Zqa v):=rfl
def Yds{st:St}(h0:0≤j)(h1:j<(n:Int)):Zsd st size v j (some n)=Zwo st size j.toNat (Zn8 v):=by simp[Zsd,h0,h1]
def Zuq{st:St}:Zwo st size k (some (i,o))=some (.ptr i (o+k*size),st):=rfl
def Yrh(a b:Int):(a==b)=decide (a=b):=by
 by_cases h:a=b<;>simp[h]
def Yrg(a b:Int):(a !=b)=!decide (a=b):=by
 by_cases h:a=b<;>simp[h]
def Yej(a b:Nat):((a:Int)+(b:Int)).toNat=a+b:=by omega
def Yei(a b:Nat):((a:Int)-(b:Int)).toNat=a-b:=by omega
def Ypu(a b n:Nat):((a:Int)+(b:Int)<(n:Int))↔a+b<n:=by omega
def Zwv(b:Nat):((64:Int)-(b:Int)).toNat=64-b:=by omega
attribute [simp] Zwv Yrh Yrg Int.natCast_inj Yej Yei Ypu
def Yo8(st:St):Option V→Option (V×St)
 |some (.str s)=>some (.int .i64 s.length,st)
 |_=>none
def Yff{call:Za1}{st:St}:Zfh 0 x call r st=Yo8 st (x.ev r):=by
 unfold Zfh Yo8
 rcases x.ev r with _|v
 ·rfl
 ·cases v<;>rfl
def Yb2{st:St}{s:List UInt8}:Yo8 st (some (.str s))=some (.int .i64 s.length,st):=rfl
def Zx3{i o n c z}:Zqa (.slice i o n c z)=some n:=rfl
def Yfx:Zqa .nilslice=some 0:=rfl
def Zx4:Zqa .empty=some 0:=rfl
def Zuo{i o n c z}:Zn8 (.slice i o n c z)=some (i,o):=rfl
attribute [simp] Yfe Yff Yb2 Zx3 Yfx Zx4 Zuo Yb3 Zx5 Zqz Zzf Yds Zuq
def u8I(b:UInt8):Int:=b.toNat
def Zzo(b:UInt8):0≤u8I b∧u8I b<256:=by unfold u8I;have:=b.toNat_lt;omega
def Yf3(st:St):Option UInt8→Option (V×St)
 |some b=>some (.int .u8 b.toNat,st)
 |none=>none
def Yn2(st:St):Option V→Option V→Option (V×St)
 |some (.str s),some (.int _ k)=>if 0≤k then Yf3 st s[k.toNat]? else none
 |_,_=>none
def Ztf{i:Src}{call:Za1}{st:St}:Zei x i call r st=Yn2 st (x.ev r) (i.ev r):=by
 unfold Zei Yn2 Yf3
 rcases x.ev r with _|v
 ·rfl
 ·rcases i.ev r with _|u
  ·cases v<;>rfl
  ·cases u<;>cases v<;>rfl
def Ycc{st:St}{s:List UInt8}{k:IntKind}(h:0≤j):Yn2 st (some (.str s)) (some (.int k j))=Yf3 st s[j.toNat]?:=by simp[Yn2,h]
def Zyk{st:St}{b:UInt8}:Yf3 st (some b)=some (.int .u8 (u8I b),st):=rfl
attribute [simp] Ztf Ycc Zyk
def mkK(st:St)(elem:TypeId)(size bytes:Nat)(zero:List V):Option V→Option V→Option (V×St)
 |some (.int _ l),some (.int _ c)=>if 0≤l∧l≤c∧bytes*c≤2^47∧c<2^62∧size=zero.length∧size≠0 then
    some (.slice st.n 0 l.toNat (some c.toNat) size,st.alloc (.cells (Zc8 zero c.toNat) elem true)) else none
 |_,_=>none
def Zqx{elem:TypeId}{bytes:Nat}{zero:List V}{y:Src}{call:Za1}{st:St}:Zcp elem size bytes zero x y call r st=mkK st elem size bytes zero (x.ev r) (y.ev r):=by
 unfold Zcp mkK;rfl
def Yfu{st:St}{elem:TypeId}{bytes:Nat}{zero:List V}{k k':IntKind}{l:Int}(h0:0≤l)(h1:bytes*l≤140737488355328)(h2:l<4611686018427387904)(h3:size=zero.length)(h4:0<size):
  mkK st elem size bytes zero (some (.int k l)) (some (.int k' l))=some (.slice st.n 0 l.toNat (some l.toNat) size,st.alloc (.cells (Zc8 zero l.toNat) elem true)):=by
 unfold mkK
 simp only[]
 rw[Yrw ⟨h0,Int.le_refl _,by simpa using h1,by simpa using h2,h3,by omega⟩]
def Zux(n:Nat)(st:St):Option V→Option V→Option (V×St)
 |some (.ptr i o),some v=>match st.row i with
   |some (c,e,true)=>if v.cells.length=n∧o+n≤c.length∧v.cells.all V.one=true then some (.tup [],st.write i (.cells (splice c o v.cells) e true)) else none
   |_=>none
 |_,_=>none
def Zxe{a:Src}{call:Za1}{st:St}:Zfb n a x call r st=Zux n st (a.ev r) (x.ev r):=by
 unfold Zfb Zux;rfl
def Zam(n:Nat)(st:St)(i o:Nat)(v:V):Option O→Option (V×St)
 |some (.cells c e true)=>if v.cells.length=n∧o+n≤c.length∧v.cells.all V.one=true then some (.tup [],st.write i (.cells (splice c o v.cells) e true)) else none
 |_=>none
def Zwz{st:St}:Zux n st (some (.ptr i o)) (some v)=Zam n st i o v (st.h.get i):=by
 unfold Zux Zam St.row
 simp only[]
 rcases st.h.get i with _|x
 ·rfl
 ·cases x with
  |cells c e b=>cases b<;>rfl
  |_=>rfl
def Zk6{w:List Nat}{c:List V}{e:TypeId}(h1:v.cells.length=n)(h2:o+n≤c.length)(h3:v.cells.all V.one=true):
  Zam n ⟨h,N,w⟩ i o v (some (.cells c e true))=some (.tup [],⟨h.set i (.cells (splice c o v.cells) e true),N,i::w⟩):=by
 unfold Zam
 simp only[]
 rw[Yrw ⟨h1,h2,h3⟩];rfl
attribute [simp] Zqx Yfu Zxe Zwz Zk6
def lo64(n:Nat):Nat:=n%18446744073709551616
def hi64(n:Nat):Nat:=n/18446744073709551616
def sb64(x y c:Nat):Nat:=(x+18446744073709551616-y-c)%18446744073709551616
def bw64(x y c:Nat):Nat:=if x<y+c then 1 else 0
def shr64(a b:Nat):Nat:=a/2^b
def shl64(a b:Nat):Nat:=a*2^b%18446744073709551616
def and32(a:Nat):Nat:=a%4294967296
def or64(a b:Nat):Nat:=a|||b
def Zhp(n:Int):IntKind.wrap .u64 n=n%18446744073709551616:=by simp[IntKind.wrap,IntKind.bits,IntKind.signed]
def Zeb{n:Int}(h1:0≤n)(h2:n<18446744073709551616):Zap .u64 n=n:=by rw[Zdg,Zhp];omega
def Zco(n:Int):Zap .u64 n=n%18446744073709551616:=by rw[Zdg,Zhp]
def Zw1{b:Int}(h0:0≤b)(h1:b≤64):Zgq .shr .u64 (a:Int) b=some (.int .u64 (shr64 a b.toNat:Nat)):=by
 unfold Zgq shr64
 have e:min b.toNat (IntKind.bits .u64)=b.toNat:=by simp[IntKind.bits];omega
 rw[Yrt (by omega),e]
 simp only[Yrs,V.int.injEq,true_and]
 rw[Int.fdiv_eq_ediv_of_nonneg _ (by exact_mod_cast Yum _)]
 push_cast
 rfl
def Zw2{b:Int}(h0:0≤b)(h1:b≤64):Zgq .shl .u64 (a:Int) b=some (.int .u64 (shl64 a b.toNat:Nat)):=by
 unfold Zgq shl64
 have e:min b.toNat (IntKind.bits .u64)=b.toNat:=by simp[IntKind.bits];omega
 rw[Yrt (by omega),e]
 show some (V.int .u64 (IntKind.wrap .u64 ((a:Int)*2^b.toNat)))=_
 rw[Zhp]
 have:(((a*2^b.toNat%18446744073709551616:Nat)):Int)=(a:Int)*2^b.toNat%18446744073709551616:=by
  rw[Int.natCast_emod,Yvf,Int.natCast_pow];rfl
 rw[this]
def Zjw(a:Nat)(h:a<18446744073709551616):(BitVec.ofInt 64 (a:Int)).toNat=a:=by
 simp[BitVec.toNat_ofInt];omega
def Zrl(h:a<18446744073709551616):Zdo .and .u64 (a:Int) 4294967295=some (.int .u64 (and32 a:Nat)):=by
 show some (V.int .u64 (IntKind.wrap .u64 (BitVec.ofInt 64 (a:Int)&&& BitVec.ofInt 64 4294967295).toNat))=_
 rw[Zhp,BitVec.toNat_and,Zjw a h]
 have e:(BitVec.ofInt 64 4294967295).toNat=2^32-1:=by decide
 rw[e,Nat.and_two_pow_sub_one_eq_mod]
 unfold and32
 simp only[Yrs,V.int.injEq,true_and]
 omega
def Yb9(h:a<18446744073709551616)(h':b<18446744073709551616):Zdo .or .u64 (a:Int) (b:Int)=some (.int .u64 (or64 a b:Nat)):=by
 show some (V.int .u64 (IntKind.wrap .u64 (BitVec.ofInt 64 (a:Int)|||BitVec.ofInt 64 (b:Int)).toNat))=_
 rw[Zhp,BitVec.toNat_or,Zjw a h,Zjw b h']
 have:=Nat.or_lt_two_pow (n:=64) h h'
 unfold or64
 simp only[Yrs,V.int.injEq,true_and]
 omega
def addu(a b:Nat):Nat:=(a+b)%18446744073709551616
def subu(a b:Nat):Nat:=((a:Int)-b).toNat%18446744073709551616+(if a<b then (((a:Int)-b)%18446744073709551616).toNat else 0)
def mulu(a b:Nat):Nat:=(a*b)%18446744073709551616
def quou(a b:Nat):Nat:=a/b
def remu(a b:Nat):Nat:=a%b
def Zws:Zap .u64 ((a:Int)+(b:Int))=(addu a b:Nat):=by rw[Zco];unfold addu;omega
def Zoa:Zap .u64 ((a:Int)-(b:Int))=(subu a b:Nat):=by
 rw[Zco];unfold subu
 split<;>omega
def Zsi:Zap .u64 ((a:Int)-1)=(subu a 1:Nat):=Zoa (b:=1)
def Zkq:Zap .u64 ((a:Int)*(b:Int))=(mulu a b:Nat):=by
 rw[Zco];unfold mulu
 rw[←Yvf];omega
def Zqe:Zap .u64 ((a:Int)*4294967296)=(mulu a 4294967296:Nat):=Zkq (b:=4294967296)
def Zo8:Zap .u64 (4294967296*(a:Int))=(mulu 4294967296 a:Nat):=Zkq (a:=4294967296)
def Zwr(h:a<18446744073709551616):Zap .u64 ((a:Int).tdiv (b:Int))=(quou a b:Nat):=by
 rw[Zco];unfold quou
 have e:((a:Int).tdiv (b:Int))=((a/b:Nat):Int):=rfl
 have:=Yti a b
 rw[e]
 generalize a/b=q at*
 omega
def Zzr:(a:Int).tmod (b:Int)=(remu a b:Nat):=rfl
def Zgx(h:b≤a)(ha:a<18446744073709551616):subu a b=a-b:=by unfold subu;split<;>omega
def Ylh:addu a b<18446744073709551616:=Ys2 _ (by decide)
def Yjs:mulu a b<18446744073709551616:=Ys2 _ (by decide)
def Zpg:shl64 a b<18446744073709551616:=Ys2 _ (by decide)
def Zzs:subu a b<18446744073709551616:=by unfold subu;split<;>omega
def Zu2(h:a<18446744073709551616):shr64 a b<18446744073709551616:=Ysl (Yti _ _) h
attribute [simp] Ylh Yjs Zpg Zzs Zws Zoa Zsi Zkq Zqe Zo8 Zwr Zzr Zw1 Zw2 Zrl Yb9
def Yku(st:St)(e:Ext)(o:Option (List V)):Option (V×St):=match e,o with
  |.same,some [v]=>some (v,st)
  |e,some l=>match Ygb e l with
   |some v=>some (v,st)
   |none=>none
  |_,none=>none
def Yfg{e:Ext}{args:List Src}{call:Za1}{st:St}:Zmv e args call r st=Yku st e (Zhd r args):=rfl
def Ycq{st:St}:Yku st .same (some [v])=some (v,st):=rfl
def Zyv{st:St}{x y c:Int}(h:c=0∨c=1):Yku st .add64 (some [.int .u64 x,.int .u64 y,.int .u64 c])=some (.tup [.int .u64 (lo64 (x.toNat+y.toNat+c.toNat):Nat),.int .u64 (hi64 (x.toNat+y.toNat+c.toNat):Nat)],st):=by
 simp only[Yku,Ygb,h,not_true_eq_false,if_false]
 rfl
def Zyu{st:St}{x y c:Int}(h:c=0∨c=1):Yku st .sub64 (some [.int .u64 x,.int .u64 y,.int .u64 c])=some (.tup [.int .u64 (sb64 x.toNat y.toNat c.toNat:Nat),.int .u64 (bw64 x.toNat y.toNat c.toNat:Nat)],st):=by
 simp only[Yku,Ygb,h,not_true_eq_false,if_false,bw64]
 split<;>rfl
def Ybz:lo64 n<18446744073709551616:=Ys2 _ (by decide)
def Yi0{c:Nat}:sb64 a b c<18446744073709551616:=Ys2 _ (by decide)
attribute [simp] Ybz Yi0 Yfg Ycq Zyv Zyu
def Zcw(st:St)(size:Nat):Option V→Option (Option V)→Option (Option V)→Option (Option V)→Option (V×St)
 |some v,some lo,some hi,some mx=>Za6 size (.const v) (lo.map .const) (hi.map .const) (mx.map .const) Zp5 .nil st
 |_,_,_,_=>none
def Zc6{o:Option V}:evOpt r (o.map .const)=some o:=by cases o<;>rfl
def Zef{lo hi mx:Option Src}{call:Za1}{st:St}:Za6 size x lo hi mx call r st=Zcw st size (x.ev r) (evOpt r lo) (evOpt r hi) (evOpt r mx):=by
 unfold Zcw Za6
 rcases x.ev r with _|v
 ·rfl
 ·rcases evOpt r lo with _|lo
  ·cases v<;>try rfl
   rename_i c _;cases c<;>rfl
  ·rcases evOpt r hi with _|hi
   ·cases v<;>try rfl
    rename_i c _;cases c<;>rfl
   ·rcases evOpt r mx with _|mx
    ·cases v<;>try rfl
     rename_i c _;cases c<;>rfl
    ·simp only[Zc6];rfl
def Sl(h:T O)(N:Nat)(v:V)(l:List V):Prop:=
 (l=[]∧(v=.nilslice∨v=.empty))∨∃i o cp c e rw,v=.slice i o l.length cp 1∧i<N∧h.get i=some (.cells c e rw)∧(∀j,j<l.length→c[o+j]?=l[j]?)∧o+l.length≤c.length∧∀k,cp=some k→l.length≤k
def Sl.nil:Sl h N .nilslice []:=.inl ⟨rfl,.inl rfl⟩
def Sl.row{L:Nat}{l:List V}{e:TypeId}{rw:Bool}{cp:Option Nat}(hi:i<N)(hg:h.get i=some (.cells l e rw))(hL:l.length=L)(hc:∀k,cp=some k→L≤k):Sl h N (.slice i 0 L cp 1) l:=
 .inr ⟨i,0,cp,l,e,rw,by rw[hL],hi,hg,fun j _=>by rw[Yt5],by omega,fun k hk=>by rw[hL];exact hc k hk⟩
def Sl.keep{h':T O}{N':Nat}{l:List V}(s:Sl h N v l)(k:Keeps h N h' N'):Sl h' N' v l:=by
 rcases s with s|⟨i,o,cp,c,e,rw,h1,h2,h3,h4⟩
 ·exact .inl s
 ·exact .inr ⟨i,o,cp,c,e,rw,h1,Yr5 h2 k.le,(k.get i h2).trans h3,h4⟩
def Sl.len{l:List V}(s:Sl h N v l):Zqa v=some l.length:=by
 rcases s with⟨rfl,rfl|rfl⟩|⟨i,o,cp,c,e,rw,rfl,_⟩<;>rfl
def Sl.at{l:List V}(s:Sl h N v l){j:Nat}{x:V}(hj:l[j]?=some x):∃i o c e rw,Zn8 v=some (i,o)∧i<N∧h.get i=some (.cells c e rw)∧c[o+j]?=some x:=by
 have hl:j<l.length:=by
  apply Ys6;intro hc;rw[Yr6 hc]at hj;cases hj
 rcases s with⟨rfl,_⟩|⟨i,o,cp,c,e,rw,rfl,h2,h3,h4,_⟩
 ·simp at hl
 ·exact⟨i,o,c,e,rw,rfl,h2,h3,(h4 j hl).trans hj⟩
def val(b:Nat):List Nat→Nat
 |[]=>0
 |d::l=>d+b*val b l
def dg(l:List Nat):List V:=l.map fun n:Nat=>.int .u64 n
def dgi(l:List Nat):List V:=l.map fun n:Nat=>.int .i64 n
def Zab(l:List Nat):(dg l).length=l.length:=by simp[dg]
def Zaa(l:List Nat):(dgi l).length=l.length:=by simp[dgi]
def Za9{j:Nat}(h:l[j]?=some n):(dg l)[j]?=some (.int .u64 n):=by simp[dg,h]
attribute [simp] Zab Zaa
def Zcx{v:Nat}(h:k<l.length):splice (dg l) k [.int .u64 v]=dg (l.set k v):=by
 unfold splice dg
 apply Ysw
 intro j
 simp only[Ytg,Yso,List.getElem?_set]
 rw[Ysy,List.getElem?_append,Ysi,Yug]
 by_cases h1:j<k
 ·rw[Yrw (by omega),Ysh,Yrw h1,Yso,Yrt (by omega)]
 ·rw[Yrt (by omega)]
  by_cases h2:j=k
  ·subst h2
   rw[show j-min j l.length=0 by omega,Yrw rfl,Yrw h];rfl
  ·rw[show j-min k l.length=(j-k-1)+1 by omega,Yrt (by omega)]
   simp only[Yvk,Ytv,Yr4,Yso]
   rw[show k+1+(j-k-1)=j by omega]
def Zgj:Zc8 [.int .u64 0] n=dg (List.replicate n 0):=by
 unfold Zc8 dg
 apply Ysw
 intro j
 simp only[Ytg,Yub,Yso,List.getElem?_replicate]
 by_cases h:j<n
 ·simp[h,Nat.mod_one]
 ·simp[h]
def Yg9{z:V}:Zc8 [z] n=List.replicate n z:=by
 unfold Zc8
 apply Ysw
 intro j
 simp only[Ytg,Yub,Yso,List.getElem?_replicate]
 by_cases h:j<n
 ·simp[h,Nat.mod_one]
 ·simp[h]
def Zhq(b:Nat):∀(l m:List Nat),val b (l++m)=val b l+b^l.length*val b m
 |[],m=>by simp[val]
 |d::l,m=>by
  simp only[Yuj,val,Zhq b l m,Yrr,Ysg]
  grind
def Zln(b:Nat)(l:List Nat)(d:Nat):val b (l++[d])=val b l+b^l.length*d:=by simp[Zhq,val]
def Zqg(b n:Nat):val b (List.replicate n 0)=0:=by
 induction n with
 |zero=>rfl
 |succ n ih=>simp[List.replicate_succ,val,ih]
def Zby{d:Nat}(h:l[k]?=some d):val b (l.take (k+1))=val b (l.take k)+b^k*d:=by
 have hk:k<l.length:=by
  apply Ys6;intro hc;rw[Yr6 hc]at h;cases h
 rw[Yup,h]
 simp only[Option.toList]
 rw[Zln,Ysi,Ysz (by omega)]
def Zk4{b:Nat}:∀{l:List Nat},(∀d∈l,d<b)→val b l<b^l.length
 |[],_=>by simp[val]
 |d::l,h=>by
  have h1:=h d Yst
  have h2:=Zk4 (l:=l) fun e he=>h e (Ysj _ he)
  simp only[val,Yrr,Ysg]
  have:b*(val b l+1)≤b*b^l.length:=Yr9 b h2
  rw[Ysk (b^l.length) b]
  grind
def B:Nat:=18446744073709551616
def Dg(l:List Nat):Prop:=∀d∈l,d<B
def Dg.get(h:Dg l){j d:Nat}(hj:l[j]?=some d):d<B:=h d (Yr1 hj)
def dz(l:List Nat)(j:Nat):Nat:=l[j]?.getD 0
def Ync{l:List Nat}(h:Dg l)(j:Nat):dz l j<B:=by
 unfold dz
 cases hj:l[j]? with
 |none=>decide
 |some d=>exact h.get hj
def Zb8{b:Nat}{l:List Nat}{k:Nat}:val b (l.take (k+1))=val b (l.take k)+b^k*dz l k:=by
 unfold dz
 cases h:l[k]? with
 |some d=>exact Zby h
 |none=>
  have hk:l.length≤k:=by
   apply Ytr;intro hc;rw[Yrx hc]at h;cases h
  rw[Yr2 (by omega),Yr2 hk];simp
def Zgt:List Nat→List Nat
 |[]=>[]
 |d::l=>match Zgt l with
  |[]=>if d=0 then [] else [d]
  |t=>d::t
def Zoc:∀(l:List Nat),Zgt (l++[0])=Zgt l
 |[]=>rfl
 |d::l=>by simp only[Yuj,Zgt,Zoc l]
def Zod{d:Nat}(hd:d≠0):∀(l:List Nat),Zgt (l++[d])=l++[d]
 |[]=>by simp[Zgt,hd]
 |e::l=>by
  simp only[Yuj,Zgt,Zod hd l]
  cases l<;>rfl
def inD:List (Nat×Nat)→Nat→Bool
 |[],_=>false
 |(a,b)::D,t=>(Nat.ble a t&&Nat.ble t b)||inD D t
def Ykk{t:Nat}:inD [] t=false:=rfl
def Yf1{D:List (Nat×Nat)}{t:Nat}:inD ((a,b)::D) t=((Nat.ble a t&&Nat.ble t b)||inD D t):=rfl
attribute [simp] Ykk Yf1
structure Fx (D:List (Nat×Nat)) (r0:T V) (n:Nat) (fr:Fr):Prop where
 reg:∀t,inD D t=false→fr.r.get t=r0.get t
 n:fr.n=n
 marks:fr.marks=[]
def Fx.refl{D:List (Nat×Nat)}:Fx D r n ⟨r,n,[]⟩:=⟨fun _ _=>rfl,rfl,rfl⟩
def Fx.set{D:List (Nat×Nat)}{t:Nat}(ht:inD D t=true):Fx D r0 n ⟨r.set t v,n,[]⟩↔Fx D r0 n ⟨r,n,[]⟩:=by
 constructor
 ·intro h
  refine⟨fun u hu=>?_,rfl,rfl⟩
  have:=h.reg u hu
  simp only[T.get_set]at this
  rw[Yrt]at this
  ·exact this
  ·rintro rfl;rw[ht]at hu;cases hu
 ·intro h
  refine⟨fun u hu=>?_,rfl,rfl⟩
  simp only[T.get_set]
  rw[Yrt]
  ·exact h.reg u hu
  ·rintro rfl;rw[ht]at hu;cases hu
attribute [simp] Fx.set
def Yn8(D' D:List (Nat×Nat)):Bool:=D'.all fun p=>D.any fun q=>Nat.ble q.1 p.1&&Nat.ble p.2 q.2
def Yca{D:List (Nat×Nat)}{t:Nat}:inD D t=true↔∃p∈D,p.1≤t∧t≤p.2:=by
 induction D with
 |nil=>simp[inD]
 |cons p D ih=>obtain⟨a,b⟩:=p;simp[inD,ih]
def Yit{D' D:List (Nat×Nat)}(h:Yn8 D' D=true){t:Nat}(ht:inD D t=false):inD D' t=false:=by
 cases hc:inD D' t with
 |false=>rfl
 |true=>
  obtain⟨p,hp,h1,h2⟩:=Yca.1 hc
  unfold Yn8 at h
  rw[Ys5]at h
  obtain⟨q,hq,h3⟩:=List.any_eq_true.1 (h p hp)
  simp at h3
  have:inD D t=true:=Yca.2 ⟨q,hq,by omega,by omega⟩
  rw[ht]at this;cases this
def Fx.inner{D D':List (Nat×Nat)}{r1 r2:T V}(hf:Fx D r0 n ⟨r,n,[]⟩)(hs:Yn8 D' D=true)(h1:Fx D r0 n ⟨r,n,[]⟩→Fx D r0 n ⟨r1,n,[]⟩)(h2:∀t,inD D' t=false→r2.get t=r1.get t):Fx D r0 n ⟨r2,n,[]⟩:=
 ⟨fun t ht=>(h2 t (Yit hs ht)).trans ((h1 hf).reg t ht),rfl,rfl⟩
def Rd(D:List (Nat×Nat))(r0:T V)(n:Nat)(I:Nat→T V→St→Prop)(k:Nat)(P:Ex→T V→St→Prop):Ex→Fr→St→Prop
 |.normal,fr,st=>Fx D r0 n fr∧∃k',k'<k∧I k' fr.r st
 |e,fr,st=>Fx D r0 n fr∧P e fr.r st
def Zsf{D r0 n I k P r st}:Rd D r0 n I k P .normal ⟨r,n,[]⟩ st↔Fx D r0 n ⟨r,n,[]⟩∧∃k',k'<k∧I k' r st:=Iff.rfl
def Ylo{D r0 n I k P r st i}:Rd D r0 n I k P (.exit i) ⟨r,n,[]⟩ st↔Fx D r0 n ⟨r,n,[]⟩∧P (.exit i) r st:=Iff.rfl
def Yno{D r0 n I k P r st}:Rd D r0 n I k P .ret ⟨r,n,[]⟩ st↔Fx D r0 n ⟨r,n,[]⟩∧P .ret r st:=Iff.rfl
attribute [simp] Zsf Ylo Yno
def Zak{C:Cx}{ro:Option Nat}{c:Zaw}{K:List Kf}{Q:Rs→Prop}{st0:St}(D:List (Nat×Nat))(P:Ex→T V→St→Prop)(I:Nat→T V→St→Prop)(k:Nat)(hi:I k r0 st0)
  (h:∀k r st,(∀t,inD D t=false→r.get t=r0.get t)→Fx D r0 n ⟨r,n,[]⟩→I k r st→Code C ro c ⟨r,n,[]⟩ st (Rd D r0 n I k P))
  (q:∀e r st,(∀t,inD D t=false→r.get t=r0.get t)→P e r st→Run C K (some (.ex e ⟨r,n,[]⟩ st)) Q):Run C K (exR (C.code ro (.loop c) ⟨r0,n,[]⟩ st0)) Q:=by
 refine Yex (fun e fr st=>Fx D r0 n fr∧P e fr.r st) (fun k fr st=>Fx D r0 n fr∧I k fr.r st) k ⟨Fx.refl,hi⟩ ?_ ?_
 ·rintro k ⟨r,n',m⟩ st ⟨hf,hi⟩
  have h1:n'=n:=hf.n
  have h2:m=[]:=hf.marks
  subst h1;subst h2
  obtain⟨e,fr',st',h3,h4⟩:=(h k r st hf.reg hf hi).ex
  refine⟨e,fr',st',h3,?_⟩
  cases e with
  |normal=>obtain⟨a,k',b,c⟩:=h4;exact⟨k',b,a,c⟩
  |exit i=>exact h4
  |ret=>exact h4
 ·rintro e ⟨r,n',m⟩ st ⟨hf,hp⟩
  have h1:n'=n:=hf.n
  have h2:m=[]:=hf.marks
  subst h1;subst h2
  exact q e r st hf.reg hp
def Zjn{l:List V}{w:List Nat}(s:Sl h N v l){lo hi:Nat}(h1:lo≤hi)(h2:hi≤l.length)(x y:Option V)(hx:x=some (.int .i64 lo)∨x=none∧lo=0)(hy:y=some (.int .i64 hi)∨y=none∧hi=l.length):
  ∃v',Zcw ⟨h,N,w⟩ 1 (some v) (some x) (some y) (some none)=some (v',⟨h,N,w⟩)∧Sl h N v' ((l.take hi).drop lo):=by
 rcases s with⟨rfl,rfl|rfl⟩|⟨i,o,cp,c,e,rw,rfl,q2,q3,q4,q5,q6⟩
 ·have:hi=0:=by simpa using h2
  subst this
  have:lo=0:=by omega
  subst this
  refine⟨.nilslice,?_,.inl ⟨rfl,.inl rfl⟩⟩
  rcases hx with rfl|⟨rfl,_⟩<;>rcases hy with rfl|⟨rfl,_⟩<;>simp[Zcw,Za6,evOpt,Zax,Zd5]
 ·have:hi=0:=by simpa using h2
  subst this
  have:lo=0:=by omega
  subst this
  refine⟨.empty,?_,.inl ⟨rfl,.inr rfl⟩⟩
  rcases hx with rfl|⟨rfl,_⟩<;>rcases hy with rfl|⟨rfl,_⟩<;>simp[Zcw,Za6,evOpt,Zax,Zd5]
 ·have hlen:((l.take hi).drop lo).length=hi-lo:=by simp;omega
  have hget:∀j,j<hi-lo→c[o+lo+j]?=((l.take hi).drop lo)[j]?:=fun j hj=>by
   rw[Yr4,Ysh,Yrw (by omega),show o+lo+j=o+(lo+j) by omega]
   exact q4 _ (by omega)
  have b1:∀m,hi≤m→Zax y m l.length=some hi:=fun m hm=>by
   rcases hy with rfl|⟨rfl,rfl⟩
   ·simp[Zax,Zd5];omega
   ·rfl
  have b2:Zax x hi 0=some lo:=by
   rcases hx with rfl|⟨rfl,rfl⟩
   ·simp[Zax,Zd5];omega
   ·rfl
  cases cp with
  |some k=>
   have hk:=q6 k rfl
   refine⟨.slice i (if k=lo then o else o+lo) (hi-lo) (some (k-lo)) 1,?_,?_⟩
   ·have b0:Zax none k k=some k:=rfl
    simp only[Zcw,Za6,Zc6,Src.ev,Yub]
    simp[b0,b1 k (by omega),b2]
   ·by_cases hkl:k=lo
    ·refine .inr ⟨i,o,some 0,c,e,rw,?_,q2,q3,fun j hj=>by rw[hlen]at hj;omega,by rw[hlen];omega,fun k' hk'=>by rw[hlen];omega⟩
     rw[hlen,Yrw hkl,show k-lo=0 by omega]
    ·refine .inr ⟨i,o+lo,some (k-lo),c,e,rw,?_,q2,q3,fun j hj=>hget j (by omega),by rw[hlen];omega,fun k' hk'=>by simp at hk';rw[hlen];omega⟩
     rw[hlen,Yrt hkl]
  |none=>
   have hk:hi≤max l.length (c.length-o):=by omega
   by_cases hlt:lo<max l.length (c.length-o)
   ·refine⟨.slice i (o+lo) (hi-lo) none 1,?_,.inr ⟨i,o+lo,none,c,e,rw,by rw[hlen],q2,q3,fun j hj=>hget j (by omega),by rw[hlen];omega,fun k' hk'=>by cases hk'⟩⟩
    simp only[Zcw,Za6,Zc6,Src.ev,St.row,q3,Nat.div_one,Yub]
    simp[b1 _ hk,b2,hlt]
   ·refine⟨.empty,?_,.inl ⟨Yr7 (by rw[hlen];omega),.inr rfl⟩⟩
    simp only[Zcw,Za6,Zc6,Src.ev,St.row,q3,Nat.div_one,Yub]
    simp[b1 _ hk,b2,hlt]
def Zpi{m v:Nat}(hk:l.length=k):(l++List.replicate (m+1) 0).set k v=(l++[v])++List.replicate m 0:=by
 subst hk
 rw[List.set_append_right _ _ (Yru _)]
 simp[List.replicate_succ]
def wds(n:Nat):List Nat:=if h:n=0 then [] else n%B::wds (n/B)
termination_by n
decreasing_by exact Yus (by omega) (by decide)
def Zbp:wds 0=[]:=by rw[wds];simp
def Zbr(h:n≠0):wds n=n%B::wds (n/B):=by rw[wds];simp[h]
def Zbq:∀(n:Nat),val B (wds n)=n:=by
 intro n
 induction n using Nat.strongRecOn with
 |_ n ih=>
  by_cases h:n=0
  ·subst h;rw[Zbp];rfl
  ·rw[Zbr h]
   simp only[val]
   rw[ih (n/B) (Yus (by omega) (by decide))]
   have:=Ytc n B
   omega
def Zdh(n:Nat):Dg (wds n):=by
 induction n using Nat.strongRecOn with
 |_ n ih=>
  by_cases h:n=0
  ·subst h;rw[Zbp];intro d hd;cases hd
  ·rw[Zbr h]
   intro d hd
   rcases Yss.1 hd with rfl|hd
   ·exact Ys2 _ (by decide)
   ·exact ih (n/B) (Yus (by omega) (by decide)) d hd
def Zdi:∀{l:List Nat},Dg l→Zgt l=wds (val B l)
 |[],_=>by simp[Zgt,val,Zbp]
 |d::l,h=>by
  have ih:=Zdi (l:=l) fun e he=>h e (Ysj _ he)
  have hd:d<B:=h d Yst
  simp only[Zgt,val,ih]
  by_cases h0:val B l=0
  ·rw[h0,Zbp]
   simp only[Nat.mul_zero,Yty]
   by_cases hd0:d=0
   ·simp[hd0,Zbp]
   ·rw[Zbr hd0,Ytl hd,Yt0 hd,Zbp];simp[hd0]
  ·have hB:0<B:=by decide
   have h1:(d+B*val B l)/B=val B l:=by
    rw[Nat.add_mul_div_left _ _ hB,Yt0 hd,Yt5]
   have h2:(d+B*val B l)%B=d:=by
    rw[Nat.add_mul_mod_self_left,Ytl hd]
   have h3:d+B*val B l≠0:=by
    intro hc
    have:B*val B l=0:=by omega
    rcases Nat.mul_eq_zero.1 this with h|h
    ·omega
    ·exact h0 h
   rw[Zbr h3,h1,h2]
   split
   ·rename_i hc;rw[Zbr h0]at hc;cases hc
   ·rfl
def Wn(h:T O)(N:Nat)(v:V)(n:Nat):Prop:=Sl h N v (dg (wds n))
def Wn.keep{h':T O}{N':Nat}(s:Wn h N v n)(k:Keeps h N h' N'):Wn h' N' v n:=Sl.keep s k
variable {N bytes z:Nat} {h:T O} {l:List (List V)} {v:V}
def Zlq{α:Type}{c:List α}{o n:Nat}{x:List α}(h:slc c o n=some x):o+n≤c.length∧x=(c.drop o).take n:=by
 unfold slc at h
 split at h
 ·rename_i hl;simp at h;exact⟨hl,h.symm⟩
 ·cases h
def Yiu{α:Type}{c:List α}{o n:Nat}{x:List α}(h:slc c o n=some x){f:Nat}(hf:f<n):c[o+f]?=x[f]?:=by
 obtain⟨_,rfl⟩:=Zlq h
 rw[Ysh,Yrw hf,Yr4]
def Sn(z:Nat)(h:T O)(N:Nat)(v:V)(l:List (List V)):Prop:=
 (l=[]∧(v=.nilslice∨v=.empty))∨∃i o cp c e rw,v=.slice i o l.length cp z∧i<N∧h.get i=some (.cells c e rw)∧(∀j x,l[j]?=some x→slc c (o+j*z) z=some x)∧o+l.length*z≤c.length∧∀k,cp=some k→l.length≤k
def Sn.nil:Sn z h N .nilslice []:=.inl ⟨rfl,.inl rfl⟩
def Sn.keep{h':T O}{N':Nat}(s:Sn z h N v l)(k:Keeps h N h' N'):Sn z h' N' v l:=by
 rcases s with s|⟨i,o,cp,c,e,rw,h1,h2,h3,h4⟩
 ·exact .inl s
 ·exact .inr ⟨i,o,cp,c,e,rw,h1,Yr5 h2 k.le,(k.get i h2).trans h3,h4⟩
def Sn.len(s:Sn z h N v l):Zqa v=some l.length:=by
 rcases s with⟨rfl,rfl|rfl⟩|⟨i,o,cp,c,e,rw,rfl,_⟩<;>rfl
def Sn.at(s:Sn z h N v l){j:Nat}{x:List V}(hj:l[j]?=some x):∃i o c e rw,Zn8 v=some (i,o)∧i<N∧h.get i=some (.cells c e rw)∧slc c (o+j*z) z=some x:=by
 have hl:j<l.length:=by
  apply Ys6;intro hc;rw[Yr6 hc]at hj;cases hj
 rcases s with⟨rfl,_⟩|⟨i,o,cp,c,e,rw,rfl,h2,h3,h4,_⟩
 ·simp at hl
 ·exact⟨i,o,c,e,rw,rfl,h2,h3,h4 j x hj⟩
def Zzy(hz:0<z){h:T O}{N:Nat}{v:V}{l:List (List V)}{w:List Nat}(s:Sn z h N v l){lo hi:Nat}(h1:lo≤hi)(h2:hi≤l.length)(x y:Option V)(hx:x=some (.int .i64 lo)∨x=none∧lo=0)(hy:y=some (.int .i64 hi)∨y=none∧hi=l.length):
  ∃v',Zcw ⟨h,N,w⟩ z (some v) (some x) (some y) (some none)=some (v',⟨h,N,w⟩)∧Sn z h N v' ((l.take hi).drop lo):=by
 rcases s with⟨rfl,rfl|rfl⟩|⟨i,o,cp,c,e,rw,rfl,q2,q3,q4,q5,q6⟩
 ·have:hi=0:=by simpa using h2
  subst this
  have:lo=0:=by omega
  subst this
  refine⟨.nilslice,?_,.inl ⟨rfl,.inl rfl⟩⟩
  rcases hx with rfl|⟨rfl,_⟩<;>rcases hy with rfl|⟨rfl,_⟩<;>simp[Zcw,Za6,evOpt,Zax,Zd5]
 ·have:hi=0:=by simpa using h2
  subst this
  have:lo=0:=by omega
  subst this
  refine⟨.empty,?_,.inl ⟨rfl,.inr rfl⟩⟩
  rcases hx with rfl|⟨rfl,_⟩<;>rcases hy with rfl|⟨rfl,_⟩<;>simp[Zcw,Za6,evOpt,Zax,Zd5]
 ·have hlen:((l.take hi).drop lo).length=hi-lo:=by simp;omega
  have hget:∀j u,((l.take hi).drop lo)[j]?=some u→slc c (o+lo*z+j*z) z=some u:=fun j u hu=>by
   have hj:j<hi-lo:=by
    rw[←hlen];apply Ys6;intro hc;rw[Yr6 hc]at hu;cases hu
   rw[Yr4,Ysh,Yrw (by omega)]at hu
   have:=q4 _ _ hu
   rw[show o+lo*z+j*z=o+(lo+j)*z by rw[Ysv];omega]
   exact this
  have hmul:lo*z+(hi-lo)*z≤l.length*z:=by
   rw[←Ysv];exact Ysb _ (by omega)
  have b1:∀m,hi≤m→Zax y m l.length=some hi:=fun m hm=>by
   rcases hy with rfl|⟨rfl,rfl⟩
   ·simp[Zax,Zd5];omega
   ·rfl
  have b2:Zax x hi 0=some lo:=by
   rcases hx with rfl|⟨rfl,rfl⟩
   ·simp[Zax,Zd5];omega
   ·rfl
  cases cp with
  |some k=>
   have hk:=q6 k rfl
   refine⟨.slice i (if k=lo then o else o+lo*z) (hi-lo) (some (k-lo)) z,?_,?_⟩
   ·have b0:Zax none k k=some k:=rfl
    simp only[Zcw,Za6,Zc6,Src.ev]
    simp[b0,b1 k (by omega),b2]
   ·by_cases hkl:k=lo
    ·have h0:(l.take hi).drop lo=[]:=Yr7 (by rw[hlen];omega)
     refine .inr ⟨i,o,some (k-lo),c,e,rw,?_,q2,q3,fun j u hu=>by rw[h0]at hu;simp at hu,by rw[h0];simp;omega,fun k' hk'=>by rw[h0];simp⟩
     rw[hlen,Yrw hkl]
    ·refine .inr ⟨i,o+lo*z,some (k-lo),c,e,rw,?_,q2,q3,hget,by rw[hlen];omega,fun k' hk'=>by simp at hk';rw[hlen];omega⟩
     rw[hlen,Yrt hkl]
  |none=>
   have hlz:l.length≤(c.length-o)/z:=by
    rw[Yuz hz];omega
   have hk:hi≤max l.length ((c.length-o)/z):=by omega
   have hz0:z≠0:=by omega
   by_cases hlt:lo<max l.length ((c.length-o)/z)
   ·refine⟨.slice i (o+lo*z) (hi-lo) none z,?_,.inr ⟨i,o+lo*z,none,c,e,rw,by rw[hlen],q2,q3,hget,by rw[hlen];omega,fun k' hk'=>by cases hk'⟩⟩
    simp only[Zcw,Za6,Zc6,Src.ev,St.row,q3]
    simp[b1 _ hk,b2,hlt,hz0]
   ·refine⟨.empty,?_,.inl ⟨Yr7 (by rw[hlen];omega),.inr rfl⟩⟩
    simp only[Zcw,Za6,Zc6,Src.ev,St.row,q3]
    simp[b1 _ hk,b2,hlt,hz0]
def Sn.one{l:List V}:Sn 1 h N v (l.map fun x=>[x])↔Sl h N v l:=by
 unfold Sn Sl
 constructor
 ·rintro(⟨h1,h2⟩|⟨i,o,cp,c,e,rw,h1,h2,h3,h4,h5,h6⟩)
  ·exact .inl ⟨by simpa using h1,h2⟩
  ·refine .inr ⟨i,o,cp,c,e,rw,by simpa using h1,h2,h3,fun j hj=>?_,by simpa using h5,by simpa using h6⟩
   have:=h4 j [l[j]] (by simp[Yrx hj])
   have:=Yiu this (f:=0) (by omega)
   simp at this
   rw[this,Yrx hj]
 ·rintro(⟨h1,h2⟩|⟨i,o,cp,c,e,rw,h1,h2,h3,h4,h5,h6⟩)
  ·exact .inl ⟨by simpa using h1,h2⟩
  ·refine .inr ⟨i,o,cp,c,e,rw,by simpa using h1,h2,h3,fun j x hj=>?_,by simpa using h5,by simpa using h6⟩
   simp at hj
   obtain⟨u,hu,rfl⟩:=hj
   have hl:j<l.length:=by
    apply Ys6;intro hc;rw[Yr6 hc]at hu;cases hu
   have:=h4 j hl
   rw[hu]at this
   have hc:o+j<c.length:=by omega
   unfold slc
   rw[Yrw (by omega),Yub,Yt2 hc]
   rw[Yrx hc]at this
   simp at this
   simp[this]
def Own(z:Nat)(e:TypeId)(N0:Nat)(h:T O)(N:Nat)(v:V)(l:List (List V)):Prop:=
 (∀x∈l,x.length=z)∧((l=[]∧v=.nilslice)∨∃i,v=.slice i 0 l.length none z∧N0≤i∧i<N∧h.get i=some (.cells l.flatten e true))
def Own.nil{e:TypeId}{N0:Nat}:Own z e N0 h N .nilslice []:=⟨fun _ h=>by simp at h,.inl ⟨rfl,rfl⟩⟩
def Own.keep{e:TypeId}{N0:Nat}{h':T O}{N':Nat}(s:Own z e N0 h N v l)(k:Keeps h N h' N'):Own z e N0 h' N' v l:=by
 obtain⟨hl,s|⟨i,h1,h2,h3,h4⟩⟩:=s
 ·exact⟨hl,.inl s⟩
 ·exact⟨hl,.inr ⟨i,h1,h2,Yr5 h3 k.le,(k.get i h3).trans h4⟩⟩
def Own.len{e:TypeId}{N0:Nat}(s:Own z e N0 h N v l):Zqa v=some l.length:=by
 obtain⟨_,⟨rfl,rfl⟩|⟨i,rfl,_⟩⟩:=s<;>rfl
def Zbd{z:Nat}:∀{l:List (List V)},(∀x∈l,x.length=z)→l.flatten.length=l.length*z
 |[],_=>by simp
 |x::l,h=>by
  have h1:=h x Yst
  have h2:=Zbd (l:=l) fun y hy=>h y (Ysj _ hy)
  simp only[List.flatten_cons,Yr8,h1,h2,Yrr,Ysv];omega
def Zd1{z:Nat}:∀{l:List (List V)},(∀x∈l,x.length=z)→∀{j:Nat} {x:List V},l[j]?=some x→slc l.flatten (j*z) z=some x
 |[],_,j,x,hj=>by simp at hj
 |y::l,h,0,x,hj=>by
  have h1:=h y Yst
  simp at hj;subst hj
  unfold slc
  simp[←h1]
 |y::l,h,j+1,x,hj=>by
  have h1:=h y Yst
  have h2:=Zd1 (l:=l) (fun y hy=>h y (Ysj _ hy)) (j:=j) (x:=x) (by simpa using hj)
  obtain⟨h3,h4⟩:=Zlq h2
  unfold slc
  rw[Yrw (by simp only[List.flatten_cons,Yr8,Ysv,h1];omega),h4]
  congr 2
  rw[List.flatten_cons,Ysv,Nat.one_mul,Nat.add_comm,←List.drop_drop,←h1,List.drop_left]
def Own.sn{e:TypeId}{N0:Nat}(s:Own z e N0 h N v l):Sn z h N v l:=by
 obtain⟨hl,⟨h1,h2⟩|⟨i,h1,h2,h3,h4⟩⟩:=s
 ·exact .inl ⟨h1,.inl h2⟩
 ·exact .inr ⟨i,0,none,l.flatten,e,true,h1,h3,h4,fun j x hj=>by rw[Yt5];exact Zd1 hl hj,by rw[Zbd hl];omega,fun k hk=>by cases hk⟩
def Zup(st:St)(size bytes:Nat)(e:TypeId):Option V→Option V→Option (V×St)
 |some s,some x=>Zbi st size bytes e s x
 |_,_=>none
def Ztg{size:Nat}{e:TypeId}{z:List V}{s x:Src}{call:Za1}{r:T V}{st:St}:Zdm size bytes e z s x call r st=Zup st size bytes e (s.ev r) (x.ev r):=by
 unfold Zdm Zup;rfl
def Zsa{st:St}{size:Nat}{e:TypeId}{s x:V}:Zup st size bytes e (some s) (some x)=Zbi st size bytes e s x:=rfl
attribute [simp] Ztg Zsa
def Zb5{e:TypeId}{N0:Nat}{u:V}{x:List V}{w:List Nat}(s:Own z e N0 h N v l)(hN:N0≤N)(hz:0<z)(hx:x.length=z)
  (hu:Za0 ⟨h,N,w⟩ z u=some (1,x)) (hb:2*(l.length+1)*bytes≤281474976710656):
  ∃v' h' w',Zbi ⟨h,N,w⟩ z bytes e v u=some (v',⟨h',N+1,w'⟩)∧Zae N0 w'=Zae N0 w∧Keeps h N0 h' (N+1)∧(∀j,h'.get j=h.get j∨j=N∨(∃o n c q,v=.slice j o n c q))∧Own z e N0 h' (N+1) v' (l++[x]):=by
 obtain⟨hl,s⟩:=s
 have hl':∀y∈l++[x],y.length=z:=fun y hy=>by
  rcases Ysq.1 hy with hy|hy
  ·exact hl y hy
  ·simp at hy;rw[hy,hx]
 have hz0:z≠0:=by omega
 rcases s with⟨rfl,rfl⟩|⟨i,rfl,h2,h3,h4⟩
 ·refine⟨.slice N 0 1 none z,h.set N (.cells x e true),w,?_,rfl,⟨by omega,fun j hj=>by rw[T.get_set,Yrt (by omega)]⟩,fun j=>by rw[T.get_set];by_cases hj:j=N<;>simp[hj],hl',.inr ⟨N,by simp,hN,by omega,by rw[T.get_set];simp⟩⟩
  have hb':2*1*bytes≤281474976710656:=by simpa using hb
  simp only[Zbi,hu,Zc0,St.alloc]
  simp[hb',hz0]
 ·have hfl:=Zbd hl
  refine⟨.slice N 0 (l.length+1) none z,(h.set i .dead).set N (.cells (l.flatten++x) e true),i::w,?_,by simp[Zae,Yuw.2 h2],⟨by omega,fun j hj=>by rw[T.get_set,Yrt (by omega),T.get_set,Yrt (by omega)]⟩,fun j=>?_,hl',.inr ⟨N,by simp,hN,by omega,by rw[T.get_set];simp⟩⟩
  ·simp only[Zbi,hu,Zc0,St.row,h4]
   rw[Yrt (by omega),Yrt (by rintro(h|h|h)<;>omega)]
   simp only[if_true]
   rw[Yrt (by rw[hfl,Ysv];omega),Yrw ⟨by rw[hfl];omega,trivial,trivial⟩]
   rfl
  ·by_cases hj:j=N
   ·exact .inr (.inl hj)
   ·by_cases hj2:j=i
    ·exact .inr (.inr ⟨0,l.length,none,z,by rw[hj2]⟩)
    ·left;rw[T.get_set,Yrt hj,T.get_set,Yrt hj2]
abbrev Str:=List UInt8
def Zko(c:UInt8):Bool:=decide (48≤c.toNat∧c.toNat≤57)
def Zcs:Str→Bool
 |[]=>false
 |c::s=>(c::s).all Zko&&(decide (c.toNat≠48)||decide (s=[]))
def slashAt:Str→Nat
 |[]=>0
 |c::s=>if c.toNat=47 then 0 else slashAt s+1
def numV(s:Str):Nat:=s.foldl (fun n c=>10*n+(c.toNat-48)) 0
def negS:Str→Bool
 |[]=>false
 |c::_=>decide (c.toNat=45)
def Zaq(s:Str):Str:=if negS s then s.drop 1 else s
def Zcb(neg:Bool)(p:Str)(broken:Bool)(d:Str):Bool:=Zcs p&&!(neg&&decide (p=[48]))&&(!broken||(Zcs d&&decide (d≠[48])&&decide (d≠[49])))
def Zkh(neg:Bool)(p:Str)(broken:Bool)(d:Str):Nat:=
 if Zcb neg p broken d=false then 1 else if 600<p.length∨600<d.length then 4 else if broken=true∧Nat.gcd (numV p) (numV d)≠1 then 1 else 0
def Yk8(neg:Bool)(t:Str):Nat:=Zkh neg (t.take (slashAt t)) (decide (slashAt t<t.length)) (t.drop (slashAt t+1))
def chkNum(s:Str):Nat:=Yk8 (negS s) (Zaq s)
def Zdc:∀(s:Str),slashAt s≤s.length
 |[]=>Yru _
 |c::s=>by
  have:=Zdc s
  simp only[slashAt,Yrr]
  split<;>omega
structure Stg where
 name:Str
 op:Str
 factor:Str
 inputs:List Str
 cost:Int
def pos:List Stg→Str→Nat
 |[],_=>0
 |s::g,n=>if s.name=n then 0 else pos g n+1
end Go.Mx
