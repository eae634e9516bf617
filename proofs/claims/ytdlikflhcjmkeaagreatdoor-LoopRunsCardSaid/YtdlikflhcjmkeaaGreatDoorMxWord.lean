/-Slices of which only the elements are kn-/
import Derived.Test.YtdlikflhcjmkeaaGreatDoorMxRun
set_option linter.all false
namespace Go.Mx
open Go
variable {N a b i k n o size:Nat} {h:T O} {j:Int} {l:List Nat} {r r0:T V} {v:V} {x:Src}
def Zps:V→Option Nat
 |.nilslice=>some 0
 |.empty=>some 0
 |.slice _ _ n _ _=>some n
 |_=>none
def Zno:V→Option (Nat×Nat)
 |.slice i o _ _ _=>some (i,o)
 |_=>none
def Yi7(st:St):Option Nat→Option (V×St)
 |some n=>some (.int .i64 n,st)
 |none=>none
def Yny(st:St):Option V→Option (V×St)
 |some v=>Yi7 st (Zps v)
 |none=>none
def Yd5{call:Za0}{st:St}:Zfd 1 x call r st=Yny st (x.ev r):=by
 unfold Zfd Yny
 rcases x.ev r with _|v
 ·rfl
 ·cases v<;>rfl
def Ya0{st:St}:Yny st (some v)=Yi7 st (Zps v):=rfl
def Zxa{st:St}:Yi7 st (some n)=some (.int .i64 n,st):=rfl
def Zvq(st:St)(size k:Nat):Option (Nat×Nat)→Option (V×St)
 |some (i,o)=>some (.ptr i (o+k*size),st)
 |none=>none
def Zrs(st:St)(size:Nat)(v:V)(k:Int):Option Nat→Option (V×St)
 |some n=>if 0≤k∧k<(n:Int) then Zvq st size k.toNat (Zno v) else none
 |none=>none
def Ykd(st:St)(size:Nat):Option V→Option V→Option (V×St)
 |some v,some (.int _ k)=>Zrs st size v k (Zps v)
 |_,_=>none
def Zqi{i:Src}{call:Za0}{st:St}:Zdc size x i call r st=Ykd st size (x.ev r) (i.ev r):=by
 unfold Zdc Ykd
 rcases x.ev r with _|v
 ·rfl
 ·rcases i.ev r with _|u
  ·cases v<;>rfl
  ·cases u<;>cases v<;>simp[Zrs,Zvq,Zps,Zno]<;>omega
def Zyf{st:St}{k:IntKind}:Ykd st size (some v) (some (.int k j))=Zrs st size v j (Zps v):=rfl
def Ycq{st:St}(h0:0≤j)(h1:j<(n:Int)):Zrs st size v j (some n)=Zvq st size j.toNat (Zno v):=by simp[Zrs,h0,h1]
def Ztu{st:St}:Zvq st size k (some (i,o))=some (.ptr i (o+k*size),st):=rfl
def Yp1(a b:Int):(a==b)=decide (a=b):=by
 by_cases h:a=b<;>simp[h]
def Yp0(a b:Int):(a !=b)=!decide (a=b):=by
 by_cases h:a=b<;>simp[h]
def Ydc(a b:Nat):((a:Int)+(b:Int)).toNat=a+b:=by omega
def Ydb(a b:Nat):((a:Int)-(b:Int)).toNat=a-b:=by omega
def Yod(a b n:Nat):((a:Int)+(b:Int)<(n:Int))↔a+b<n:=by omega
def Zvw(b:Nat):((64:Int)-(b:Int)).toNat=64-b:=by omega
attribute [simp] Zvw Yp1 Yp0 Int.natCast_inj Ydc Ydb Yod
def Ynx(st:St):Option V→Option (V×St)
 |some (.str s)=>some (.int .i64 s.length,st)
 |_=>none
def Yd6{call:Za0}{st:St}:Zfd 0 x call r st=Ynx st (x.ev r):=by
 unfold Zfd Ynx
 rcases x.ev r with _|v
 ·rfl
 ·cases v<;>rfl
def Yaz{st:St}{s:List UInt8}:Ynx st (some (.str s))=some (.int .i64 s.length,st):=rfl
def Zw8{i o n c z}:Zps (.slice i o n c z)=some n:=rfl
def Yeq:Zps .nilslice=some 0:=rfl
def Zw9:Zps .empty=some 0:=rfl
def Ztr{i o n c z}:Zno (.slice i o n c z)=some (i,o):=rfl
attribute [simp] Yd5 Yd6 Yaz Zw8 Yeq Zw9 Ztr Ya0 Zxa Zqi Zyf Ycq Ztu
def u8I(b:UInt8):Int:=b.toNat
def Zyp(b:UInt8):0≤u8I b∧u8I b<256:=by unfold u8I;have:=b.toNat_lt;omega
def Yew(st:St):Option UInt8→Option (V×St)
 |some b=>some (.int .u8 b.toNat,st)
 |none=>none
def Ymt(st:St):Option V→Option V→Option (V×St)
 |some (.str s),some (.int _ k)=>if 0≤k then Yew st s[k.toNat]? else none
 |_,_=>none
def Zsp{i:Src}{call:Za0}{st:St}:Zed x i call r st=Ymt st (x.ev r) (i.ev r):=by
 unfold Zed Ymt Yew
 rcases x.ev r with _|v
 ·rfl
 ·rcases i.ev r with _|u
  ·cases v<;>rfl
  ·cases u<;>cases v<;>rfl
def Ya9{st:St}{s:List UInt8}{k:IntKind}(h:0≤j):Ymt st (some (.str s)) (some (.int k j))=Yew st s[j.toNat]?:=by simp[Ymt,h]
def Zxp{st:St}{b:UInt8}:Yew st (some b)=some (.int .u8 (u8I b),st):=rfl
attribute [simp] Zsp Ya9 Zxp
def mkK(st:St)(elem:TypeId)(size bytes:Nat)(zero:List V):Option V→Option V→Option (V×St)
 |some (.int _ l),some (.int _ c)=>if 0≤l∧l≤c∧bytes*c≤2^47∧c<2^62∧size=zero.length∧size≠0 then
    some (.slice st.n 0 l.toNat (some c.toNat) size,st.alloc (.cells (Zeh zero c.toNat) elem true)) else none
 |_,_=>none
def Zqg{elem:TypeId}{bytes:Nat}{zero:List V}{y:Src}{call:Za0}{st:St}:Zck elem size bytes zero x y call r st=mkK st elem size bytes zero (x.ev r) (y.ev r):=by
 unfold Zck mkK;rfl
def Yem{st:St}{elem:TypeId}{bytes:Nat}{zero:List V}{k k':IntKind}{l:Int}(h0:0≤l)(h1:bytes*l≤140737488355328)(h2:l<4611686018427387904)(h3:size=zero.length)(h4:0<size):
  mkK st elem size bytes zero (some (.int k l)) (some (.int k' l))=some (.slice st.n 0 l.toNat (some l.toNat) size,st.alloc (.cells (Zeh zero l.toNat) elem true)):=by
 unfold mkK
 simp only[]
 rw[Yqi ⟨h0,Int.le_refl _,by simpa using h1,by simpa using h2,h3,by omega⟩]
def Zt3(n:Nat)(st:St):Option V→Option V→Option (V×St)
 |some (.ptr i o),some v=>match st.row i with
   |some (c,e,true)=>if v.cells.length=n∧o+n≤c.length∧v.cells.all V.one=true then some (.tup [],st.write i (.cells (splice c o v.cells) e true)) else none
   |_=>none
 |_,_=>none
def Zwi{a:Src}{call:Za0}{st:St}:Ze5 n a x call r st=Zt3 n st (a.ev r) (x.ev r):=by
 unfold Ze5 Zt3;rfl
def Zal(n:Nat)(st:St)(i o:Nat)(v:V):Option O→Option (V×St)
 |some (.cells c e true)=>if v.cells.length=n∧o+n≤c.length∧v.cells.all V.one=true then some (.tup [],st.write i (.cells (splice c o v.cells) e true)) else none
 |_=>none
def Zv0{st:St}:Zt3 n st (some (.ptr i o)) (some v)=Zal n st i o v (st.h.get i):=by
 unfold Zt3 Zal St.row
 simp only[]
 rcases st.h.get i with _|x
 ·rfl
 ·cases x with
  |cells c e b=>cases b<;>rfl
  |_=>rfl
def Zkt{w:List Nat}{c:List V}{e:TypeId}(h1:v.cells.length=n)(h2:o+n≤c.length)(h3:v.cells.all V.one=true):
  Zal n ⟨h,N,w⟩ i o v (some (.cells c e true))=some (.tup [],⟨h.set i (.cells (splice c o v.cells) e true),N,i::w⟩):=by
 unfold Zal
 simp only[]
 rw[Yqi ⟨h1,h2,h3⟩];rfl
attribute [simp] Zqg Yem Zwi Zv0 Zkt
def lo64(n:Nat):Nat:=n%18446744073709551616
def hi64(n:Nat):Nat:=n/18446744073709551616
def sb64(x y c:Nat):Nat:=(x+18446744073709551616-y-c)%18446744073709551616
def bw64(x y c:Nat):Nat:=if x<y+c then 1 else 0
def shr64(a b:Nat):Nat:=a/2^b
def shl64(a b:Nat):Nat:=a*2^b%18446744073709551616
def and32(a:Nat):Nat:=a%4294967296
def or64(a b:Nat):Nat:=a|||b
def Zhf(n:Int):IntKind.wrap .u64 n=n%18446744073709551616:=by simp[IntKind.wrap,IntKind.bits,IntKind.signed]
def Zd6{n:Int}(h1:0≤n)(h2:n<18446744073709551616):Zao .u64 n=n:=by rw[Zde,Zhf];omega
def Zci(n:Int):Zao .u64 n=n%18446744073709551616:=by rw[Zde,Zhf]
def Zv3{b:Int}(h0:0≤b)(h1:b≤64):Zgk .shr .u64 (a:Int) b=some (.int .u64 (shr64 a b.toNat:Nat)):=by
 unfold Zgk shr64
 have e:min b.toNat (IntKind.bits .u64)=b.toNat:=by simp[IntKind.bits];omega
 rw[Yqe (by omega),e]
 simp only[Yqc,V.int.injEq,true_and]
 rw[Int.fdiv_eq_ediv_of_nonneg _ (by exact_mod_cast Ysz _)]
 push_cast
 rfl
def Zv4{b:Int}(h0:0≤b)(h1:b≤64):Zgk .shl .u64 (a:Int) b=some (.int .u64 (shl64 a b.toNat:Nat)):=by
 unfold Zgk shl64
 have e:min b.toNat (IntKind.bits .u64)=b.toNat:=by simp[IntKind.bits];omega
 rw[Yqe (by omega),e]
 show some (V.int .u64 (IntKind.wrap .u64 ((a:Int)*2^b.toNat)))=_
 rw[Zhf]
 have:(((a*2^b.toNat%18446744073709551616:Nat)):Int)=(a:Int)*2^b.toNat%18446744073709551616:=by
  rw[Int.natCast_emod,Yty,Int.natCast_pow];rfl
 rw[this]
def Zjl(a:Nat)(h:a<18446744073709551616):(BitVec.ofInt 64 (a:Int)).toNat=a:=by
 simp[BitVec.toNat_ofInt];omega
def Zq2(h:a<18446744073709551616):Zdm .and .u64 (a:Int) 4294967295=some (.int .u64 (and32 a:Nat)):=by
 show some (V.int .u64 (IntKind.wrap .u64 (BitVec.ofInt 64 (a:Int)&&& BitVec.ofInt 64 4294967295).toNat))=_
 rw[Zhf,BitVec.toNat_and,Zjl a h]
 have e:(BitVec.ofInt 64 4294967295).toNat=2^32-1:=by decide
 rw[e,Nat.and_two_pow_sub_one_eq_mod]
 unfold and32
 simp only[Yqc,V.int.injEq,true_and]
 omega
def Ya6(h:a<18446744073709551616)(h':b<18446744073709551616):Zdm .or .u64 (a:Int) (b:Int)=some (.int .u64 (or64 a b:Nat)):=by
 show some (V.int .u64 (IntKind.wrap .u64 (BitVec.ofInt 64 (a:Int)|||BitVec.ofInt 64 (b:Int)).toNat))=_
 rw[Zhf,BitVec.toNat_or,Zjl a h,Zjl b h']
 have:=Nat.or_lt_two_pow (n:=64) h h'
 unfold or64
 simp only[Yqc,V.int.injEq,true_and]
 omega
def addu(a b:Nat):Nat:=(a+b)%18446744073709551616
def subu(a b:Nat):Nat:=((a:Int)-b).toNat%18446744073709551616+(if a<b then (((a:Int)-b)%18446744073709551616).toNat else 0)
def mulu(a b:Nat):Nat:=(a*b)%18446744073709551616
def quou(a b:Nat):Nat:=a/b
def remu(a b:Nat):Nat:=a%b
def Zvt:Zao .u64 ((a:Int)+(b:Int))=(addu a b:Nat):=by rw[Zci];unfold addu;omega
def Znq:Zao .u64 ((a:Int)-(b:Int))=(subu a b:Nat):=by
 rw[Zci];unfold subu
 split<;>omega
def Zrw:Zao .u64 ((a:Int)-1)=(subu a 1:Nat):=Znq (b:=1)
def Zkb:Zao .u64 ((a:Int)*(b:Int))=(mulu a b:Nat):=by
 rw[Zci];unfold mulu
 rw[←Yty];omega
def Zpv:Zao .u64 ((a:Int)*4294967296)=(mulu a 4294967296:Nat):=Zkb (b:=4294967296)
def Zon:Zao .u64 (4294967296*(a:Int))=(mulu 4294967296 a:Nat):=Zkb (a:=4294967296)
def Zvs(h:a<18446744073709551616):Zao .u64 ((a:Int).tdiv (b:Int))=(quou a b:Nat):=by
 rw[Zci];unfold quou
 have e:((a:Int).tdiv (b:Int))=((a/b:Nat):Int):=rfl
 have:=Yrz a b
 rw[e]
 generalize a/b=q at*
 omega
def Zys:(a:Int).tmod (b:Int)=(remu a b:Nat):=rfl
def Zgp(h:b≤a)(ha:a<18446744073709551616):subu a b=a-b:=by unfold subu;split<;>omega
def Ykc:addu a b<18446744073709551616:=Yri _ (by decide)
def Yio:mulu a b<18446744073709551616:=Yri _ (by decide)
def Zov:shl64 a b<18446744073709551616:=Yri _ (by decide)
def Zyu:subu a b<18446744073709551616:=by unfold subu;split<;>omega
def Zt9(h:a<18446744073709551616):shr64 a b<18446744073709551616:=Yra (Yrz _ _) h
attribute [simp] Ykc Yio Zov Zyu Zvt Znq Zrw Zkb Zpv Zon Zvs Zys Zv3 Zv4 Zq2 Ya6
def Yjp(st:St)(e:Ext)(o:Option (List V)):Option (V×St):=match e,o with
  |.same,some [v]=>some (v,st)
  |e,some l=>match Ye3 e l with
   |some v=>some (v,st)
   |none=>none
  |_,none=>none
def Yd7{e:Ext}{args:List Src}{call:Za0}{st:St}:Zmg e args call r st=Yjp st e (Zhw r args):=rfl
def Ybp{st:St}:Yjp st .same (some [v])=some (v,st):=rfl
def Zxx{st:St}{x y c:Int}(h:c=0∨c=1):Yjp st .add64 (some [.int .u64 x,.int .u64 y,.int .u64 c])=some (.tup [.int .u64 (lo64 (x.toNat+y.toNat+c.toNat):Nat),.int .u64 (hi64 (x.toNat+y.toNat+c.toNat):Nat)],st):=by
 simp only[Yjp,Ye3,h,not_true_eq_false,if_false]
 rfl
def Zxw{st:St}{x y c:Int}(h:c=0∨c=1):Yjp st .sub64 (some [.int .u64 x,.int .u64 y,.int .u64 c])=some (.tup [.int .u64 (sb64 x.toNat y.toNat c.toNat:Nat),.int .u64 (bw64 x.toNat y.toNat c.toNat:Nat)],st):=by
 simp only[Yjp,Ye3,h,not_true_eq_false,if_false,bw64]
 split<;>rfl
def Yaw:lo64 n<18446744073709551616:=Yri _ (by decide)
def Yht{c:Nat}:sb64 a b c<18446744073709551616:=Yri _ (by decide)
attribute [simp] Yaw Yht Yd7 Ybp Zxx Zxw
def Zcr(st:St)(size:Nat):Option V→Option (Option V)→Option (Option V)→Option (Option V)→Option (V×St)
 |some v,some lo,some hi,some mx=>Za4 size (.const v) (lo.map .const) (hi.map .const) (mx.map .const) Zpl .nil st
 |_,_,_,_=>none
def Zc5{o:Option V}:evOpt r (o.map .const)=some o:=by cases o<;>rfl
def Zea{lo hi mx:Option Src}{call:Za0}{st:St}:Za4 size x lo hi mx call r st=Zcr st size (x.ev r) (evOpt r lo) (evOpt r hi) (evOpt r mx):=by
 unfold Zcr Za4
 rcases x.ev r with _|v
 ·rfl
 ·rcases evOpt r lo with _|lo
  ·cases v<;>try rfl
   rename_i c _;cases c<;>rfl
  ·rcases evOpt r hi with _|hi
   ·cases v<;>try rfl
    rename_i c _;cases c<;>rfl
   ·rcases evOpt r mx with _|mx
    ·cases v<;>try rfl
     rename_i c _;cases c<;>rfl
    ·simp only[Zc5];rfl
def Sl(h:T O)(N:Nat)(v:V)(l:List V):Prop:=
 (l=[]∧(v=.nilslice∨v=.empty))∨∃i o cp c e rw,v=.slice i o l.length cp 1∧i<N∧h.get i=some (.cells c e rw)∧(∀j,j<l.length→c[o+j]?=l[j]?)∧o+l.length≤c.length∧∀k,cp=some k→l.length≤k
def Sl.nil:Sl h N .nilslice []:=.inl ⟨rfl,.inl rfl⟩
def Sl.row{L:Nat}{l:List V}{e:TypeId}{rw:Bool}{cp:Option Nat}(hi:i<N)(hg:h.get i=some (.cells l e rw))(hL:l.length=L)(hc:∀k,cp=some k→L≤k):Sl h N (.slice i 0 L cp 1) l:=
 .inr ⟨i,0,cp,l,e,rw,by rw[hL],hi,hg,fun j _=>by rw[Yst],by omega,fun k hk=>by rw[hL];exact hc k hk⟩
def Sl.keep{h':T O}{N':Nat}{l:List V}(s:Sl h N v l)(k:Keeps h N h' N'):Sl h' N' v l:=by
 rcases s with s|⟨i,o,cp,c,e,rw,h1,h2,h3,h4⟩
 ·exact .inl s
 ·exact .inr ⟨i,o,cp,c,e,rw,h1,Yqq h2 k.le,(k.get i h2).trans h3,h4⟩
def Sl.len{l:List V}(s:Sl h N v l):Zps v=some l.length:=by
 rcases s with⟨rfl,rfl|rfl⟩|⟨i,o,cp,c,e,rw,rfl,_⟩<;>rfl
def Sl.at{l:List V}(s:Sl h N v l){j:Nat}{x:V}(hj:l[j]?=some x):∃i o c e rw,Zno v=some (i,o)∧i<N∧h.get i=some (.cells c e rw)∧c[o+j]?=some x:=by
 have hl:j<l.length:=by
  apply Yrm;intro hc;rw[Yqv hc]at hj;cases hj
 rcases s with⟨rfl,_⟩|⟨i,o,cp,c,e,rw,rfl,h2,h3,h4,_⟩
 ·simp at hl
 ·exact⟨i,o,c,e,rw,rfl,h2,h3,(h4 j hl).trans hj⟩
def val(b:Nat):List Nat→Nat
 |[]=>0
 |d::l=>d+b*val b l
def dg(l:List Nat):List V:=l.map fun n:Nat=>.int .u64 n
def dgi(l:List Nat):List V:=l.map fun n:Nat=>.int .i64 n
def Zad(l:List Nat):(dg l).length=l.length:=by simp[dg]
def Zae(l:List Nat):(dgi l).length=l.length:=by simp[dgi]
def Za5{j:Nat}(h:l[j]?=some n):(dg l)[j]?=some (.int .u64 n):=by simp[dg,h]
attribute [simp] Zad Zae
def Zcv{v:Nat}(h:k<l.length):splice (dg l) k [.int .u64 v]=dg (l.set k v):=by
 unfold splice dg
 apply Yq9
 intro j
 simp only[Yrw,Yq4,List.getElem?_set]
 rw[Yrh,List.getElem?_append,Yq0,List.length_map]
 by_cases h1:j<k
 ·rw[Yqi (by omega),Yqy,Yqi h1,Yq4,Yqe (by omega)]
 ·rw[Yqe (by omega)]
  by_cases h2:j=k
  ·subst h2
   rw[show j-min j l.length=0 by omega,Yqi rfl,Yqi h];rfl
  ·rw[show j-min k l.length=(j-k-1)+1 by omega,Yqe (by omega)]
   simp only[Yt3,Ysc,Yqo,Yq4]
   rw[show k+1+(j-k-1)=j by omega]
def Zgd:Zeh [.int .u64 0] n=dg (List.replicate n 0):=by
 unfold Zeh dg
 apply Yq9
 intro j
 simp only[Yrw,Ys0,Yq4,List.getElem?_replicate]
 by_cases h:j<n
 ·simp[h,Nat.mod_one]
 ·simp[h]
def Yf0{z:V}:Zeh [z] n=List.replicate n z:=by
 unfold Zeh
 apply Yq9
 intro j
 simp only[Yrw,Ys0,Yq4,List.getElem?_replicate]
 by_cases h:j<n
 ·simp[h,Nat.mod_one]
 ·simp[h]
def Zhg(b:Nat):∀(l m:List Nat),val b (l++m)=val b l+b^l.length*val b m
 |[],m=>by simp[val]
 |d::l,m=>by
  simp only[Ysv,val,Zhg b l m,Yqd,Yqx]
  grind
def Zld(b:Nat)(l:List Nat)(d:Nat):val b (l++[d])=val b l+b^l.length*d:=by simp[Zhg,val]
def Zpy(b n:Nat):val b (List.replicate n 0)=0:=by
 induction n with
 |zero=>rfl
 |succ n ih=>simp[List.replicate_succ,val,ih]
def Zbx{d:Nat}(h:l[k]?=some d):val b (l.take (k+1))=val b (l.take k)+b^k*d:=by
 have hk:k<l.length:=by
  apply Yrm;intro hc;rw[Yqv hc]at h;cases h
 rw[Ys4,h]
 simp only[Option.toList]
 rw[Zld,Yq0,Yrb (by omega)]
def Zkq{b:Nat}:∀{l:List Nat},(∀d∈l,d<b)→val b l<b^l.length
 |[],_=>by simp[val]
 |d::l,h=>by
  have h1:=h d Yq8
  have h2:=Zkq (l:=l) fun e he=>h e (Yq6 _ he)
  simp only[val,Yqd,Yqx]
  have:b*(val b l+1)≤b*b^l.length:=Yqs b h2
  rw[Yq5 (b^l.length) b]
  grind
def B:Nat:=18446744073709551616
def Dg(l:List Nat):Prop:=∀d∈l,d<B
def Dg.get(h:Dg l){j d:Nat}(hj:l[j]?=some d):d<B:=h d (Yqn hj)
def dz(l:List Nat)(j:Nat):Nat:=l[j]?.getD 0
def Yl7{l:List Nat}(h:Dg l)(j:Nat):dz l j<B:=by
 unfold dz
 cases hj:l[j]? with
 |none=>decide
 |some d=>exact h.get hj
def Zb2{b:Nat}{l:List Nat}{k:Nat}:val b (l.take (k+1))=val b (l.take k)+b^k*dz l k:=by
 unfold dz
 cases h:l[k]? with
 |some d=>exact Zbx h
 |none=>
  have hk:l.length≤k:=by
   apply Yr7;intro hc;rw[Yqh hc]at h;cases h
  rw[Yqp (by omega),Yqp hk];simp
def Zgm:List Nat→List Nat
 |[]=>[]
 |d::l=>match Zgm l with
  |[]=>if d=0 then [] else [d]
  |t=>d::t
def Zns:∀(l:List Nat),Zgm (l++[0])=Zgm l
 |[]=>rfl
 |d::l=>by simp only[Ysv,Zgm,Zns l]
def Znt{d:Nat}(hd:d≠0):∀(l:List Nat),Zgm (l++[d])=l++[d]
 |[]=>by simp[Zgm,hd]
 |e::l=>by
  simp only[Ysv,Zgm,Znt hd l]
  cases l<;>rfl
def inD:List (Nat×Nat)→Nat→Bool
 |[],_=>false
 |(a,b)::D,t=>(Nat.ble a t&&Nat.ble t b)||inD D t
def Yje{t:Nat}:inD [] t=false:=rfl
def Yeu{D:List (Nat×Nat)}{t:Nat}:inD ((a,b)::D) t=((Nat.ble a t&&Nat.ble t b)||inD D t):=rfl
attribute [simp] Yje Yeu
structure Fx (D:List (Nat×Nat)) (r0:T V) (n:Nat) (fr:Fr):Prop where
 reg:∀t,inD D t=false→fr.r.get t=r0.get t
 n:fr.n=n
 marks:fr.marks=[]
def Fx.refl{D:List (Nat×Nat)}:Fx D r n ⟨r,n,[]⟩:=⟨fun _ _=>rfl,rfl,rfl⟩
def Fx.set{D:List (Nat×Nat)}{t:Nat}(ht:inD D t=true):Fx D r0 n ⟨r.set t v,n,[]⟩↔Fx D r0 n ⟨r,n,[]⟩:=by
 constructor
 ·intro h
  refine⟨fun u hu=>?_,rfl,rfl⟩
  have:=h.reg u hu
  simp only[T.get_set]at this
  rw[Yqe]at this
  ·exact this
  ·rintro rfl;rw[ht]at hu;cases hu
 ·intro h
  refine⟨fun u hu=>?_,rfl,rfl⟩
  simp only[T.get_set]
  rw[Yqe]
  ·exact h.reg u hu
  ·rintro rfl;rw[ht]at hu;cases hu
attribute [simp] Fx.set
def Ymy(D' D:List (Nat×Nat)):Bool:=D'.all fun p=>D.any fun q=>Nat.ble q.1 p.1&&Nat.ble p.2 q.2
def Ya7{D:List (Nat×Nat)}{t:Nat}:inD D t=true↔∃p∈D,p.1≤t∧t≤p.2:=by
 induction D with
 |nil=>simp[inD]
 |cons p D ih=>obtain⟨a,b⟩:=p;simp[inD,ih]
def Yhk{D' D:List (Nat×Nat)}(h:Ymy D' D=true){t:Nat}(ht:inD D t=false):inD D' t=false:=by
 cases hc:inD D' t with
 |false=>rfl
 |true=>
  obtain⟨p,hp,h1,h2⟩:=Ya7.1 hc
  unfold Ymy at h
  rw[Yrs]at h
  obtain⟨q,hq,h3⟩:=List.any_eq_true.1 (h p hp)
  simp at h3
  have:inD D t=true:=Ya7.2 ⟨q,hq,by omega,by omega⟩
  rw[ht]at this;cases this
def Fx.inner{D D':List (Nat×Nat)}{r1 r2:T V}(hf:Fx D r0 n ⟨r,n,[]⟩)(hs:Ymy D' D=true)(h1:Fx D r0 n ⟨r,n,[]⟩→Fx D r0 n ⟨r1,n,[]⟩)(h2:∀t,inD D' t=false→r2.get t=r1.get t):Fx D r0 n ⟨r2,n,[]⟩:=
 ⟨fun t ht=>(h2 t (Yhk hs ht)).trans ((h1 hf).reg t ht),rfl,rfl⟩
def Rd(D:List (Nat×Nat))(r0:T V)(n:Nat)(I:Nat→T V→St→Prop)(k:Nat)(P:Ex→T V→St→Prop):Ex→Fr→St→Prop
 |.normal,fr,st=>Fx D r0 n fr∧∃k',k'<k∧I k' fr.r st
 |e,fr,st=>Fx D r0 n fr∧P e fr.r st
def Zru{D r0 n I k P r st}:Rd D r0 n I k P .normal ⟨r,n,[]⟩ st↔Fx D r0 n ⟨r,n,[]⟩∧∃k',k'<k∧I k' r st:=Iff.rfl
def Ykk{D r0 n I k P r st i}:Rd D r0 n I k P (.exit i) ⟨r,n,[]⟩ st↔Fx D r0 n ⟨r,n,[]⟩∧P (.exit i) r st:=Iff.rfl
def Ymi{D r0 n I k P r st}:Rd D r0 n I k P .ret ⟨r,n,[]⟩ st↔Fx D r0 n ⟨r,n,[]⟩∧P .ret r st:=Iff.rfl
attribute [simp] Zru Ykk Ymi
def Zaj{C:Cx}{ro:Option Nat}{c:Zaz}{K:List Kf}{Q:Rs→Prop}{st0:St}(D:List (Nat×Nat))(P:Ex→T V→St→Prop)(I:Nat→T V→St→Prop)(k:Nat)(hi:I k r0 st0)
  (h:∀k r st,(∀t,inD D t=false→r.get t=r0.get t)→Fx D r0 n ⟨r,n,[]⟩→I k r st→Code C ro c ⟨r,n,[]⟩ st (Rd D r0 n I k P))
  (q:∀e r st,(∀t,inD D t=false→r.get t=r0.get t)→P e r st→Run C K (some (.ex e ⟨r,n,[]⟩ st)) Q):Run C K (exR (C.code ro (.loop c) ⟨r0,n,[]⟩ st0)) Q:=by
 refine Ydr (fun e fr st=>Fx D r0 n fr∧P e fr.r st) (fun k fr st=>Fx D r0 n fr∧I k fr.r st) k ⟨Fx.refl,hi⟩ ?_ ?_
 ·rintro k ⟨r,n',m⟩ st ⟨hf,hi⟩
  have h1:n'=n:=hf.n
  have h2:m=[]:=hf.marks
  subst h1;subst h2
  obtain⟨e,fr',st',h3,h4⟩:=(h k r st hf.reg hf hi).ex
  refine⟨e,fr',st',h3,?_⟩
  cases e with
  |normal=>obtain⟨a,k',b,c⟩:=h4;exact⟨k',b,a,c⟩
  |exit i=>exact h4
  |ret=>exact h4
 ·rintro e ⟨r,n',m⟩ st ⟨hf,hp⟩
  have h1:n'=n:=hf.n
  have h2:m=[]:=hf.marks
  subst h1;subst h2
  exact q e r st hf.reg hp
def Zje{l:List V}{w:List Nat}(s:Sl h N v l){lo hi:Nat}(h1:lo≤hi)(h2:hi≤l.length)(x y:Option V)(hx:x=some (.int .i64 lo)∨x=none∧lo=0)(hy:y=some (.int .i64 hi)∨y=none∧hi=l.length):
  ∃v',Zcr ⟨h,N,w⟩ 1 (some v) (some x) (some y) (some none)=some (v',⟨h,N,w⟩)∧Sl h N v' ((l.take hi).drop lo):=by
 rcases s with⟨rfl,rfl|rfl⟩|⟨i,o,cp,c,e,rw,rfl,q2,q3,q4,q5,q6⟩
 ·have:hi=0:=by simpa using h2
  subst this
  have:lo=0:=by omega
  subst this
  refine⟨.nilslice,?_,.inl ⟨rfl,.inl rfl⟩⟩
  rcases hx with rfl|⟨rfl,_⟩<;>rcases hy with rfl|⟨rfl,_⟩<;>simp[Zcr,Za4,evOpt,Zax,Zd1]
 ·have:hi=0:=by simpa using h2
  subst this
  have:lo=0:=by omega
  subst this
  refine⟨.empty,?_,.inl ⟨rfl,.inr rfl⟩⟩
  rcases hx with rfl|⟨rfl,_⟩<;>rcases hy with rfl|⟨rfl,_⟩<;>simp[Zcr,Za4,evOpt,Zax,Zd1]
 ·have hlen:((l.take hi).drop lo).length=hi-lo:=by simp;omega
  have hget:∀j,j<hi-lo→c[o+lo+j]?=((l.take hi).drop lo)[j]?:=fun j hj=>by
   rw[Yqo,Yqy,Yqi (by omega),show o+lo+j=o+(lo+j) by omega]
   exact q4 _ (by omega)
  have b1:∀m,hi≤m→Zax y m l.length=some hi:=fun m hm=>by
   rcases hy with rfl|⟨rfl,rfl⟩
   ·simp[Zax,Zd1];omega
   ·rfl
  have b2:Zax x hi 0=some lo:=by
   rcases hx with rfl|⟨rfl,rfl⟩
   ·simp[Zax,Zd1];omega
   ·rfl
  cases cp with
  |some k=>
   have hk:=q6 k rfl
   refine⟨.slice i (if k=lo then o else o+lo) (hi-lo) (some (k-lo)) 1,?_,?_⟩
   ·have b0:Zax none k k=some k:=rfl
    simp only[Zcr,Za4,Zc5,Src.ev,Ys0]
    simp[b0,b1 k (by omega),b2]
   ·by_cases hkl:k=lo
    ·refine .inr ⟨i,o,some 0,c,e,rw,?_,q2,q3,fun j hj=>by rw[hlen]at hj;omega,by rw[hlen];omega,fun k' hk'=>by rw[hlen];omega⟩
     rw[hlen,Yqi hkl,show k-lo=0 by omega]
    ·refine .inr ⟨i,o+lo,some (k-lo),c,e,rw,?_,q2,q3,fun j hj=>hget j (by omega),by rw[hlen];omega,fun k' hk'=>by simp at hk';rw[hlen];omega⟩
     rw[hlen,Yqe hkl]
  |none=>
   have hk:hi≤max l.length (c.length-o):=by omega
   by_cases hlt:lo<max l.length (c.length-o)
   ·refine⟨.slice i (o+lo) (hi-lo) none 1,?_,.inr ⟨i,o+lo,none,c,e,rw,by rw[hlen],q2,q3,fun j hj=>hget j (by omega),by rw[hlen];omega,fun k' hk'=>by cases hk'⟩⟩
    simp only[Zcr,Za4,Zc5,Src.ev,St.row,q3,Nat.div_one,Ys0]
    simp[b1 _ hk,b2,hlt]
   ·refine⟨.empty,?_,.inl ⟨Yqw (by rw[hlen];omega),.inr rfl⟩⟩
    simp only[Zcr,Za4,Zc5,Src.ev,St.row,q3,Nat.div_one,Ys0]
    simp[b1 _ hk,b2,hlt]
def Zow{m v:Nat}(hk:l.length=k):(l++List.replicate (m+1) 0).set k v=(l++[v])++List.replicate m 0:=by
 subst hk
 rw[List.set_append_right _ _ (Yqg _)]
 simp[List.replicate_succ]
def wds(n:Nat):List Nat:=if h:n=0 then [] else n%B::wds (n/B)
termination_by n
decreasing_by exact Ys7 (by omega) (by decide)
def Zbl:wds 0=[]:=by rw[wds];simp
def Zbn(h:n≠0):wds n=n%B::wds (n/B):=by rw[wds];simp[h]
def Zbm:∀(n:Nat),val B (wds n)=n:=by
 intro n
 induction n using Nat.strongRecOn with
 |_ n ih=>
  by_cases h:n=0
  ·subst h;rw[Zbl];rfl
  ·rw[Zbn h]
   simp only[val]
   rw[ih (n/B) (Ys7 (by omega) (by decide))]
   have:=Yrt n B
   omega
def Zdf(n:Nat):Dg (wds n):=by
 induction n using Nat.strongRecOn with
 |_ n ih=>
  by_cases h:n=0
  ·subst h;rw[Zbl];intro d hd;cases hd
  ·rw[Zbn h]
   intro d hd
   rcases Yrd.1 hd with rfl|hd
   ·exact Yri _ (by decide)
   ·exact ih (n/B) (Ys7 (by omega) (by decide)) d hd
def Zdg:∀{l:List Nat},Dg l→Zgm l=wds (val B l)
 |[],_=>by simp[Zgm,val,Zbl]
 |d::l,h=>by
  have ih:=Zdg (l:=l) fun e he=>h e (Yq6 _ he)
  have hd:d<B:=h d Yq8
  simp only[Zgm,val,ih]
  by_cases h0:val B l=0
  ·rw[h0,Zbl]
   simp only[Nat.mul_zero,Ysh]
   by_cases hd0:d=0
   ·simp[hd0,Zbl]
   ·rw[Zbn hd0,Yr2 hd,Ysi hd,Zbl];simp[hd0]
  ·have hB:0<B:=by decide
   have h1:(d+B*val B l)/B=val B l:=by
    rw[Nat.add_mul_div_left _ _ hB,Ysi hd,Yst]
   have h2:(d+B*val B l)%B=d:=by
    rw[Nat.add_mul_mod_self_left,Yr2 hd]
   have h3:d+B*val B l≠0:=by
    intro hc
    have:B*val B l=0:=by omega
    rcases Nat.mul_eq_zero.1 this with h|h
    ·omega
    ·exact h0 h
   rw[Zbn h3,h1,h2]
   split
   ·rename_i hc;rw[Zbn h0]at hc;cases hc
   ·rfl
def Wn(h:T O)(N:Nat)(v:V)(n:Nat):Prop:=Sl h N v (dg (wds n))
def Wn.keep{h':T O}{N':Nat}(s:Wn h N v n)(k:Keeps h N h' N'):Wn h' N' v n:=Sl.keep s k
variable {N bytes z:Nat} {h:T O} {l:List (List V)} {v:V}
def Zt6{α:Type}{c:List α}{o n:Nat}{x:List α}(h:slc c o n=some x):o+n≤c.length∧x=(c.drop o).take n:=by
 unfold slc at h
 split at h
 ·rename_i hl;simp at h;exact⟨hl,h.symm⟩
 ·cases h
def Yhm{α:Type}{c:List α}{o n:Nat}{x:List α}(h:slc c o n=some x){f:Nat}(hf:f<n):c[o+f]?=x[f]?:=by
 obtain⟨_,rfl⟩:=Zt6 h
 rw[Yqy,Yqi hf,Yqo]
def Sn(z:Nat)(h:T O)(N:Nat)(v:V)(l:List (List V)):Prop:=
 (l=[]∧(v=.nilslice∨v=.empty))∨∃i o cp c e rw,v=.slice i o l.length cp z∧i<N∧h.get i=some (.cells c e rw)∧(∀j x,l[j]?=some x→slc c (o+j*z) z=some x)∧o+l.length*z≤c.length∧∀k,cp=some k→l.length≤k
def Sn.nil:Sn z h N .nilslice []:=.inl ⟨rfl,.inl rfl⟩
def Sn.keep{h':T O}{N':Nat}(s:Sn z h N v l)(k:Keeps h N h' N'):Sn z h' N' v l:=by
 rcases s with s|⟨i,o,cp,c,e,rw,h1,h2,h3,h4⟩
 ·exact .inl s
 ·exact .inr ⟨i,o,cp,c,e,rw,h1,Yqq h2 k.le,(k.get i h2).trans h3,h4⟩
def Sn.len(s:Sn z h N v l):Zps v=some l.length:=by
 rcases s with⟨rfl,rfl|rfl⟩|⟨i,o,cp,c,e,rw,rfl,_⟩<;>rfl
def Sn.at(s:Sn z h N v l){j:Nat}{x:List V}(hj:l[j]?=some x):∃i o c e rw,Zno v=some (i,o)∧i<N∧h.get i=some (.cells c e rw)∧slc c (o+j*z) z=some x:=by
 have hl:j<l.length:=by
  apply Yrm;intro hc;rw[Yqv hc]at hj;cases hj
 rcases s with⟨rfl,_⟩|⟨i,o,cp,c,e,rw,rfl,h2,h3,h4,_⟩
 ·simp at hl
 ·exact⟨i,o,c,e,rw,rfl,h2,h3,h4 j x hj⟩
def Zy0(hz:0<z){h:T O}{N:Nat}{v:V}{l:List (List V)}{w:List Nat}(s:Sn z h N v l){lo hi:Nat}(h1:lo≤hi)(h2:hi≤l.length)(x y:Option V)(hx:x=some (.int .i64 lo)∨x=none∧lo=0)(hy:y=some (.int .i64 hi)∨y=none∧hi=l.length):
  ∃v',Zcr ⟨h,N,w⟩ z (some v) (some x) (some y) (some none)=some (v',⟨h,N,w⟩)∧Sn z h N v' ((l.take hi).drop lo):=by
 rcases s with⟨rfl,rfl|rfl⟩|⟨i,o,cp,c,e,rw,rfl,q2,q3,q4,q5,q6⟩
 ·have:hi=0:=by simpa using h2
  subst this
  have:lo=0:=by omega
  subst this
  refine⟨.nilslice,?_,.inl ⟨rfl,.inl rfl⟩⟩
  rcases hx with rfl|⟨rfl,_⟩<;>rcases hy with rfl|⟨rfl,_⟩<;>simp[Zcr,Za4,evOpt,Zax,Zd1]
 ·have:hi=0:=by simpa using h2
  subst this
  have:lo=0:=by omega
  subst this
  refine⟨.empty,?_,.inl ⟨rfl,.inr rfl⟩⟩
  rcases hx with rfl|⟨rfl,_⟩<;>rcases hy with rfl|⟨rfl,_⟩<;>simp[Zcr,Za4,evOpt,Zax,Zd1]
 ·have hlen:((l.take hi).drop lo).length=hi-lo:=by simp;omega
  have hget:∀j u,((l.take hi).drop lo)[j]?=some u→slc c (o+lo*z+j*z) z=some u:=fun j u hu=>by
   have hj:j<hi-lo:=by
    rw[←hlen];apply Yrm;intro hc;rw[Yqv hc]at hu;cases hu
   rw[Yqo,Yqy,Yqi (by omega)]at hu
   have:=q4 _ _ hu
   rw[show o+lo*z+j*z=o+(lo+j)*z by rw[Yrf];omega]
   exact this
  have hmul:lo*z+(hi-lo)*z≤l.length*z:=by
   rw[←Yrf];exact Yqz _ (by omega)
  have b1:∀m,hi≤m→Zax y m l.length=some hi:=fun m hm=>by
   rcases hy with rfl|⟨rfl,rfl⟩
   ·simp[Zax,Zd1];omega
   ·rfl
  have b2:Zax x hi 0=some lo:=by
   rcases hx with rfl|⟨rfl,rfl⟩
   ·simp[Zax,Zd1];omega
   ·rfl
  cases cp with
  |some k=>
   have hk:=q6 k rfl
   refine⟨.slice i (if k=lo then o else o+lo*z) (hi-lo) (some (k-lo)) z,?_,?_⟩
   ·have b0:Zax none k k=some k:=rfl
    simp only[Zcr,Za4,Zc5,Src.ev]
    simp[b0,b1 k (by omega),b2]
   ·by_cases hkl:k=lo
    ·have h0:(l.take hi).drop lo=[]:=Yqw (by rw[hlen];omega)
     refine .inr ⟨i,o,some (k-lo),c,e,rw,?_,q2,q3,fun j u hu=>by rw[h0]at hu;simp at hu,by rw[h0];simp;omega,fun k' hk'=>by rw[h0];simp⟩
     rw[hlen,Yqi hkl]
    ·refine .inr ⟨i,o+lo*z,some (k-lo),c,e,rw,?_,q2,q3,hget,by rw[hlen];omega,fun k' hk'=>by simp at hk';rw[hlen];omega⟩
     rw[hlen,Yqe hkl]
  |none=>
   have hlz:l.length≤(c.length-o)/z:=by
    rw[Yth hz];omega
   have hk:hi≤max l.length ((c.length-o)/z):=by omega
   have hz0:z≠0:=by omega
   by_cases hlt:lo<max l.length ((c.length-o)/z)
   ·refine⟨.slice i (o+lo*z) (hi-lo) none z,?_,.inr ⟨i,o+lo*z,none,c,e,rw,by rw[hlen],q2,q3,hget,by rw[hlen];omega,fun k' hk'=>by cases hk'⟩⟩
    simp only[Zcr,Za4,Zc5,Src.ev,St.row,q3]
    simp[b1 _ hk,b2,hlt,hz0]
   ·refine⟨.empty,?_,.inl ⟨Yqw (by rw[hlen];omega),.inr rfl⟩⟩
    simp only[Zcr,Za4,Zc5,Src.ev,St.row,q3]
    simp[b1 _ hk,b2,hlt,hz0]
def Sn.one{l:List V}:Sn 1 h N v (l.map fun x=>[x])↔Sl h N v l:=by
 unfold Sn Sl
 constructor
 ·rintro(⟨h1,h2⟩|⟨i,o,cp,c,e,rw,h1,h2,h3,h4,h5,h6⟩)
  ·exact .inl ⟨by simpa using h1,h2⟩
  ·refine .inr ⟨i,o,cp,c,e,rw,by simpa using h1,h2,h3,fun j hj=>?_,by simpa using h5,by simpa using h6⟩
   have:=h4 j [l[j]] (by simp[Yqh hj])
   have:=Yhm this (f:=0) (by omega)
   simp at this
   rw[this,Yqh hj]
 ·rintro(⟨h1,h2⟩|⟨i,o,cp,c,e,rw,h1,h2,h3,h4,h5,h6⟩)
  ·exact .inl ⟨by simpa using h1,h2⟩
  ·refine .inr ⟨i,o,cp,c,e,rw,by simpa using h1,h2,h3,fun j x hj=>?_,by simpa using h5,by simpa using h6⟩
   simp at hj
   obtain⟨u,hu,rfl⟩:=hj
   have hl:j<l.length:=by
    apply Yrm;intro hc;rw[Yqv hc]at hu;cases hu
   have:=h4 j hl
   rw[hu]at this
   have hc:o+j<c.length:=by omega
   unfold slc
   rw[Yqi (by omega),Ys0,Ysj hc]
   rw[Yqh hc]at this
   simp at this
   simp[this]
def Own(z:Nat)(e:TypeId)(N0:Nat)(h:T O)(N:Nat)(v:V)(l:List (List V)):Prop:=
 (∀x∈l,x.length=z)∧((l=[]∧v=.nilslice)∨∃i,v=.slice i 0 l.length none z∧N0≤i∧i<N∧h.get i=some (.cells l.flatten e true))
def Own.nil{e:TypeId}{N0:Nat}:Own z e N0 h N .nilslice []:=⟨fun _ h=>by simp at h,.inl ⟨rfl,rfl⟩⟩
def Own.keep{e:TypeId}{N0:Nat}{h':T O}{N':Nat}(s:Own z e N0 h N v l)(k:Keeps h N h' N'):Own z e N0 h' N' v l:=by
 obtain⟨hl,s|⟨i,h1,h2,h3,h4⟩⟩:=s
 ·exact⟨hl,.inl s⟩
 ·exact⟨hl,.inr ⟨i,h1,h2,Yqq h3 k.le,(k.get i h3).trans h4⟩⟩
def Own.len{e:TypeId}{N0:Nat}(s:Own z e N0 h N v l):Zps v=some l.length:=by
 obtain⟨_,⟨rfl,rfl⟩|⟨i,rfl,_⟩⟩:=s<;>rfl
def Zb6{z:Nat}:∀{l:List (List V)},(∀x∈l,x.length=z)→l.flatten.length=l.length*z
 |[],_=>by simp
 |x::l,h=>by
  have h1:=h x Yq8
  have h2:=Zb6 (l:=l) fun y hy=>h y (Yq6 _ hy)
  simp only[List.flatten_cons,Yqr,h1,h2,Yqd,Yrf];omega
def Zf9{z:Nat}:∀{l:List (List V)},(∀x∈l,x.length=z)→∀{j:Nat} {x:List V},l[j]?=some x→slc l.flatten (j*z) z=some x
 |[],_,j,x,hj=>by simp at hj
 |y::l,h,0,x,hj=>by
  have h1:=h y Yq8
  simp at hj;subst hj
  unfold slc
  simp[←h1]
 |y::l,h,j+1,x,hj=>by
  have h1:=h y Yq8
  have h2:=Zf9 (l:=l) (fun y hy=>h y (Yq6 _ hy)) (j:=j) (x:=x) (by simpa using hj)
  obtain⟨h3,h4⟩:=Zt6 h2
  unfold slc
  rw[Yqi (by simp only[List.flatten_cons,Yqr,Yrf,h1];omega),h4]
  congr 2
  rw[List.flatten_cons,Yrf,Nat.one_mul,Nat.add_comm,←List.drop_drop,←h1,List.drop_left]
def Own.sn{e:TypeId}{N0:Nat}(s:Own z e N0 h N v l):Sn z h N v l:=by
 obtain⟨hl,⟨h1,h2⟩|⟨i,h1,h2,h3,h4⟩⟩:=s
 ·exact .inl ⟨h1,.inl h2⟩
 ·exact .inr ⟨i,0,none,l.flatten,e,true,h1,h3,h4,fun j x hj=>by rw[Yst];exact Zf9 hl hj,by rw[Zb6 hl];omega,fun k hk=>by cases hk⟩
def Ztt(st:St)(size bytes:Nat)(e:TypeId):Option V→Option V→Option (V×St)
 |some s,some x=>Zc7 st size bytes e s x
 |_,_=>none
def Zsq{size:Nat}{e:TypeId}{z:List V}{s x:Src}{call:Za0}{r:T V}{st:St}:Zdk size bytes e z s x call r st=Ztt st size bytes e (s.ev r) (x.ev r):=by
 unfold Zdk Ztt;rfl
def Zk2{st:St}{size:Nat}{e:TypeId}{s x:V}:Ztt st size bytes e (some s) (some x)=Zc7 st size bytes e s x:=rfl
attribute [simp] Zsq Zk2
def Zbw{e:TypeId}{N0:Nat}{u:V}{x:List V}{w:List Nat}(s:Own z e N0 h N v l)(hN:N0≤N)(hz:0<z)(hx:x.length=z)
  (hu:Zbc ⟨h,N,w⟩ z u=some (1,x)) (hb:2*(l.length+1)*bytes≤281474976710656):
  ∃v' h' w',Zc7 ⟨h,N,w⟩ z bytes e v u=some (v',⟨h',N+1,w'⟩)∧Zac N0 w'=Zac N0 w∧Keeps h N0 h' (N+1)∧(∀j,h'.get j=h.get j∨j=N∨(∃o n c q,v=.slice j o n c q))∧Own z e N0 h' (N+1) v' (l++[x]):=by
 obtain⟨hl,s⟩:=s
 have hl':∀y∈l++[x],y.length=z:=fun y hy=>by
  rcases Yry.1 hy with hy|hy
  ·exact hl y hy
  ·simp at hy;rw[hy,hx]
 have hz0:z≠0:=by omega
 rcases s with⟨rfl,rfl⟩|⟨i,rfl,h2,h3,h4⟩
 ·refine⟨.slice N 0 1 none z,h.set N (.cells x e true),w,?_,rfl,⟨by omega,fun j hj=>by rw[T.get_set,Yqe (by omega)]⟩,fun j=>by rw[T.get_set];by_cases hj:j=N<;>simp[hj],hl',.inr ⟨N,by simp,hN,by omega,by rw[T.get_set];simp⟩⟩
  have hb':2*1*bytes≤281474976710656:=by simpa using hb
  simp only[Zc7,hu,Zd5,St.alloc]
  simp[hb',hz0]
 ·have hfl:=Zb6 hl
  refine⟨.slice N 0 (l.length+1) none z,(h.set i .dead).set N (.cells (l.flatten++x) e true),i::w,?_,by simp[Zac,Yte.2 h2],⟨by omega,fun j hj=>by rw[T.get_set,Yqe (by omega),T.get_set,Yqe (by omega)]⟩,fun j=>?_,hl',.inr ⟨N,by simp,hN,by omega,by rw[T.get_set];simp⟩⟩
  ·simp only[Zc7,hu,Zd5,St.row,h4]
   rw[Yqe (by omega),Yqe (by rintro(h|h|h)<;>omega)]
   simp only[if_true]
   rw[Yqe (by rw[hfl,Yrf];omega),Yqi ⟨by rw[hfl];omega,trivial,trivial⟩]
   rfl
  ·by_cases hj:j=N
   ·exact .inr (.inl hj)
   ·by_cases hj2:j=i
    ·exact .inr (.inr ⟨0,l.length,none,z,by rw[hj2]⟩)
    ·left;rw[T.get_set,Yqe hj,T.get_set,Yqe hj2]
abbrev Str:=List UInt8
def Zj8(c:UInt8):Bool:=decide (48≤c.toNat∧c.toNat≤57)
def Zcu:Str→Bool
 |[]=>false
 |c::s=>(c::s).all Zj8&&(decide (c.toNat≠48)||decide (s=[]))
def slashAt:Str→Nat
 |[]=>0
 |c::s=>if c.toNat=47 then 0 else slashAt s+1
def numV(s:Str):Nat:=s.foldl (fun n c=>10*n+(c.toNat-48)) 0
def negS:Str→Bool
 |[]=>false
 |c::_=>decide (c.toNat=45)
def Zar(s:Str):Str:=if negS s then s.drop 1 else s
def Zcb(neg:Bool)(p:Str)(broken:Bool)(d:Str):Bool:=Zcu p&&!(neg&&decide (p=[48]))&&(!broken||(Zcu d&&decide (d≠[48])&&decide (d≠[49])))
def Zj9(neg:Bool)(p:Str)(broken:Bool)(d:Str):Nat:=
 if Zcb neg p broken d=false then 1 else if 600<p.length∨600<d.length then 4 else if broken=true∧Nat.gcd (numV p) (numV d)≠1 then 1 else 0
def Ykv(neg:Bool)(t:Str):Nat:=Zj9 neg (t.take (slashAt t)) (decide (slashAt t<t.length)) (t.drop (slashAt t+1))
def chkNum(s:Str):Nat:=Ykv (negS s) (Zar s)
def Zda:∀(s:Str),slashAt s≤s.length
 |[]=>Yqg _
 |c::s=>by
  have:=Zda s
  simp only[slashAt,Yqd]
  split<;>omega
structure Stg where
 name:Str
 op:Str
 factor:Str
 inputs:List Str
 cost:Int
def pos:List Stg→Str→Nat
 |[],_=>0
 |s::g,n=>if s.name=n then 0 else pos g n+1
end Go.Mx
