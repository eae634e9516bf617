/-Slices of which only the elements are kn-/
import Derived.Test.YtjjmkflbfpeagaaGreatDoorMxRun
set_option linter.all false
namespace Go.Mx
open Go
variable {N a b i k n o size:Nat} {h:T O} {j:Int} {l:List Nat} {r r0:T V} {v:V} {x:Src}
def qh:V->Option Nat
 |.aa=>some 0
 |.empty=>some 0
 |.slice _ _ n _ _=>some n
 |_=>none
def y8:V->Option (Nat×Nat)
 |.slice i o _ _ _=>some (i,o)
 |_=>none
def TW(st:St):Option Nat->Option (V×St)
 |some n=>some (.int .i64 n,st)
 |none=>none
def TX(st:St):Option V->Option (V×St)
 |some v=>TW st (qh v)
 |none=>none
def Yfp{call:cH}{st:St}:vC 1 x call r st=TX st (x.ev r):=by
 unfold vC TX
 rcases x.ev r with _|v
 ·rfl
 ·cases v<;>rfl
def Ycd{st:St}:TX st (some v)=TW st (qh v):=rfl
def Zyh{st:St}:TW st (some n)=some (.int .i64 n,st):=rfl
def Og(st:St)(size k:Nat):Option (Nat×Nat)->Option (V×St)
 |some (i,o)=>some (.ptr i (o+k*size),st)
 |none=>none
def JZ(st:St)(size:Nat)(v:V)(k:Int):Option Nat->Option (V×St)
 |some n=>if 0<=k/\k<(n:Int) then Og st size k.toNat (y8 v) else none
 |none=>none
def TY(st:St)(size:Nat):Option V->Option V->Option (V×St)
 |some v,some (.int _ k)=>JZ st size v k (qh v)
 |_,_=>none
def Zq6{i:Src}{call:cH}{st:St}:BV size x i call r st=TY st size (x.ev r) (i.ev r):=by
 unfold BV TY
 rcases x.ev r with _|v
 ·rfl
 ·rcases i.ev r with _|u
  ·cases v<;>rfl
  ·cases u<;>cases v<;>simp[JZ,Og,qh,y8]<;>omega
def Zzq{st:St}{k:IntKind}:TY st size (some v) (some (.int k j))=JZ st size v j (qh v):=rfl
def Yd4{st:St}(h0:0<=j)(h1:j<(n:Int)):JZ st size v j (some n)=Og st size j.toNat (y8 v):=by simp[JZ,h0,h1]
def Zut{st:St}:Og st size k (some (i,o))=some (.ptr i (o+k*size),st):=rfl
def Yr8(a b:Int):(a==b)=decide (a=b):=by
 by_cases h:a=b<;>simp[h]
def Yr7(a b:Int):(a !=b)=!decide (a=b):=by
 by_cases h:a=b<;>simp[h]
def Yes(a b:Nat):((a:Int)+(b:Int)).toNat=a+b:=by omega
def Yer(a b:Nat):((a:Int)-(b:Int)).toNat=a-b:=by omega
def Yqh(a b n:Nat):((a:Int)+(b:Int)<(n:Int))↔a+b<n:=by omega
def Zw4(b:Nat):((64:Int)-(b:Int)).toNat=64-b:=by omega
attribute [simp] Zw4 Yr8 Yr7 Int.natCast_inj Yes Yer Yqh
def TZ(st:St):Option V->Option (V×St)
 |some (.str s)=>some (.int .i64 s.length,st)
 |_=>none
def Yfq{call:cH}{st:St}:vC 0 x call r st=TZ st (x.ev r):=by
 unfold vC TZ
 rcases x.ev r with _|v
 ·rfl
 ·cases v<;>rfl
def Ycc{st:St}{s:List UInt8}:TZ st (some (.str s))=some (.int .i64 s.length,st):=rfl
def Zyf{i o n c z}:qh (.slice i o n c z)=some n:=rfl
def Yf9:qh .aa=some 0:=rfl
def Zyg:qh .empty=some 0:=rfl
def Zur{i o n c z}:y8 (.slice i o n c z)=some (i,o):=rfl
attribute [simp] Yfp Yfq Ycc Zyf Yf9 Zyg Zur Ycd Zyh Zq6 Zzq Yd4 Zut
def cJ(b:UInt8):Int:=b.toNat
def Zz1(b:UInt8):0<=cJ b/\cJ b<256:=by unfold cJ;have:=b.toNat_lt;omega
def Oh(st:St):Option UInt8->Option (V×St)
 |some b=>some (.int .u8 b.toNat,st)
 |none=>none
def Oi(st:St):Option V->Option V->Option (V×St)
 |some (.str s),some (.int _ k)=>if 0<=k then Oh st s[k.toNat]? else none
 |_,_=>none
def Ztl{i:Src}{call:cH}{st:St}:BW x i call r st=Oi st (x.ev r) (i.ev r):=by
 unfold BW Oi Oh
 rcases x.ev r with _|v
 ·rfl
 ·rcases i.ev r with _|u
  ·cases v<;>rfl
  ·cases u<;>cases v<;>rfl
def Yco{st:St}{s:List UInt8}{k:IntKind}(h:0<=j):Oi st (some (.str s)) (some (.int k j))=Oh st s[j.toNat]?:=by simp[Oi,h]
def Zyw{st:St}{b:UInt8}:Oh st (some b)=some (.int .u8 (cJ b),st):=rfl
attribute [simp] Ztl Yco Zyw
def Oj(st:St)(elem:TypeId)(size bytes:Nat)(zero:List V):Option V->Option V->Option (V×St)
 |some (.int _ l),some (.int _ c)=>if 0<=l/\l<=c/\bytes*c<=2^47/\c<2^62/\size=zero.length/\size≠0 then
    some (.slice st.n 0 l.toNat (some c.toNat) size,st.alloc (.cells (df zero c.toNat) elem true)) else none
 |_,_=>none
def Zq4{elem:TypeId}{bytes:Nat}{zero:List V}{y:Src}{call:cH}{st:St}:Av elem size bytes zero x y call r st=Oj st elem size bytes zero (x.ev r) (y.ev r):=by
 unfold Av Oj;rfl
def Yf5{st:St}{elem:TypeId}{bytes:Nat}{zero:List V}{k k':IntKind}{l:Int}(h0:0<=l)(h1:bytes*l<=140737488355328)(h2:l<4611686018427387904)(h3:size=zero.length)(h4:0<size):
  Oj st elem size bytes zero (some (.int k l)) (some (.int k' l))=some (.slice st.n 0 l.toNat (some l.toNat) size,st.alloc (.cells (df zero l.toNat) elem true)):=by
 unfold Oj
 simp only[]
 rw[aJ ⟨h0,Int.le_refl _,by simpa using h1,by simpa using h2,h3,by omega⟩]
def Ok(n:Nat)(st:St):Option V->Option V->Option (V×St)
 |some (.ptr i o),some v=>match st.row i with
   |some (c,e,true)=>if v.cells.length=n/\o+n<=c.length/\v.cells.all V.one=true then some (.aY [],st.write i (.cells (ag c o v.cells) e true)) else none
   |_=>none
 |_,_=>none
def Zxn{a:Src}{call:cH}{st:St}:BS n a x call r st=Ok n st (a.ev r) (x.ev r):=by
 unfold BS Ok;rfl
def bS(n:Nat)(st:St)(i o:Nat)(v:V):Option O->Option (V×St)
 |some (.cells c e true)=>if v.cells.length=n/\o+n<=c.length/\v.cells.all V.one=true then some (.aY [],st.write i (.cells (ag c o v.cells) e true)) else none
 |_=>none
def Zw8{st:St}:Ok n st (some (.ptr i o)) (some v)=bS n st i o v (st.h.get i):=by
 unfold Ok bS St.row
 simp only[]
 rcases st.h.get i with _|x
 ·rfl
 ·cases x with
  |cells c e b=>cases b<;>rfl
  |_=>rfl
def Zli{w:List Nat}{c:List V}{e:TypeId}(h1:v.cells.length=n)(h2:o+n<=c.length)(h3:v.cells.all V.one=true):
  bS n ⟨h,N,w⟩ i o v (some (.cells c e true))=some (.aY [],⟨h.set i (.cells (ag c o v.cells) e true),N,i::w⟩):=by
 unfold bS
 simp only[]
 rw[aJ ⟨h1,h2,h3⟩];rfl
attribute [simp] Zq4 Yf5 Zxn Zw8 Zli
def bs(n:Nat):Nat:=n%18446744073709551616
def bZ(n:Nat):Nat:=n/18446744073709551616
def d_(x y c:Nat):Nat:=(x+18446744073709551616-y-c)%18446744073709551616
def fj(x y c:Nat):Nat:=if x<y+c then 1 else 0
def al(a b:Nat):Nat:=a/2^b
def bJ(a b:Nat):Nat:=a*2^b%18446744073709551616
def eG(a:Nat):Nat:=a%4294967296
def iK(a b:Nat):Nat:=a|||b
def He(n:Int):IntKind.wrap .u64 n=n%18446744073709551616:=by simp[IntKind.wrap,IntKind.bits,IntKind.signed]
def Co{n:Int}(h1:0<=n)(h2:n<18446744073709551616):bb .u64 n=n:=by rw[xF,He];omega
def Hf(n:Int):bb .u64 n=n%18446744073709551616:=by rw[xF,He]
def Zxa{b:Int}(h0:0<=b)(h1:b<=64):wD .shr .u64 (a:Int) b=some (.int .u64 (al a b.toNat:Nat)):=by
 unfold wD al
 have e:min b.toNat (IntKind.bits .u64)=b.toNat:=by simp[IntKind.bits];omega
 rw[aq (by omega),e]
 simp only[ak,V.int.injEq,true_and]
 rw[Int.fdiv_eq_ediv_of_nonneg _ (by exact_mod_cast tN _)]
 push_cast
 rfl
def Zxb{b:Int}(h0:0<=b)(h1:b<=64):wD .shl .u64 (a:Int) b=some (.int .u64 (bJ a b.toNat:Nat)):=by
 unfold wD bJ
 have e:min b.toNat (IntKind.bits .u64)=b.toNat:=by simp[IntKind.bits];omega
 rw[aq (by omega),e]
 show some (V.int .u64 (IntKind.wrap .u64 ((a:Int)*2^b.toNat)))=_
 rw[He]
 have:(((a*2^b.toNat%18446744073709551616:Nat)):Int)=(a:Int)*2^b.toNat%18446744073709551616:=by
  rw[Int.natCast_emod,GA,Int.natCast_pow];rfl
 rw[this]
def Od(a:Nat)(h:a<18446744073709551616):(BitVec.ofInt 64 (a:Int)).toNat=a:=by
 simp[BitVec.toNat_ofInt];omega
def Zrt(h:a<18446744073709551616):pn .and .u64 (a:Int) 4294967295=some (.int .u64 (eG a:Nat)):=by
 show some (V.int .u64 (IntKind.wrap .u64 (BitVec.ofInt 64 (a:Int)&&& BitVec.ofInt 64 4294967295).toNat))=_
 rw[He,BitVec.toNat_and,Od a h]
 have e:(BitVec.ofInt 64 4294967295).toNat=2^32-1:=by decide
 rw[e,Nat.and_two_pow_sub_one_eq_mod]
 unfold eG
 simp only[ak,V.int.injEq,true_and]
 omega
def Yck(h:a<18446744073709551616)(h':b<18446744073709551616):pn .or .u64 (a:Int) (b:Int)=some (.int .u64 (iK a b:Nat)):=by
 show some (V.int .u64 (IntKind.wrap .u64 (BitVec.ofInt 64 (a:Int)|||BitVec.ofInt 64 (b:Int)).toNat))=_
 rw[He,BitVec.toNat_or,Od a h,Od b h']
 have:=Nat.or_lt_two_pow (n:=64) h h'
 unfold iK
 simp only[ak,V.int.injEq,true_and]
 omega
def cI(a b:Nat):Nat:=(a+b)%18446744073709551616
def fE(a b:Nat):Nat:=((a:Int)-b).toNat%18446744073709551616+(if a<b then (((a:Int)-b)%18446744073709551616).toNat else 0)
def cM(a b:Nat):Nat:=(a*b)%18446744073709551616
def kI(a b:Nat):Nat:=a/b
def J0(a b:Nat):Nat:=a%b
def Zw0:bb .u64 ((a:Int)+(b:Int))=(cI a b:Nat):=by rw[Hf];unfold cI;omega
def Zoc:bb .u64 ((a:Int)-(b:Int))=(fE a b:Nat):=by
 rw[Hf];unfold fE
 split<;>omega
def Zsp:bb .u64 ((a:Int)-1)=(fE a 1:Nat):=Zoc (b:=1)
def T0:bb .u64 ((a:Int)*(b:Int))=(cM a b:Nat):=by
 rw[Hf];unfold cM
 rw[<-GA];omega
def Zqh:bb .u64 ((a:Int)*4294967296)=(cM a 4294967296:Nat):=T0 (b:=4294967296)
def Zpa:bb .u64 (4294967296*(a:Int))=(cM 4294967296 a:Nat):=T0 (a:=4294967296)
def Zwz(h:a<18446744073709551616):bb .u64 ((a:Int).tdiv (b:Int))=(kI a b:Nat):=by
 rw[Hf];unfold kI
 have e:((a:Int).tdiv (b:Int))=((a/b:Nat):Int):=rfl
 have:=sM a b
 rw[e]
 generalize a/b=q at*
 omega
def Zz4:(a:Int).tmod (b:Int)=(J0 a b:Nat):=rfl
def Cp(h:b<=a)(ha:a<18446744073709551616):fE a b=a-b:=by unfold fE;split<;>omega
def Yl3:cI a b<18446744073709551616:=jO _ (by decide)
def Ykd:cM a b<18446744073709551616:=jO _ (by decide)
def T1:bJ a b<18446744073709551616:=jO _ (by decide)
def Zz6:fE a b<18446744073709551616:=by unfold fE;split<;>omega
def Zu8(h:a<18446744073709551616):al a b<18446744073709551616:=mr (sM _ _) h
attribute [simp] Yl3 Ykd T1 Zz6 Zw0 Zoc Zsp T0 Zqh Zpa Zwz Zz4 Zxa Zxb Zrt Yck
def EA(st:St)(e:Ext)(o:Option (List V)):Option (V×St):=match e,o with
  |.same,some [v]=>some (v,st)
  |e,some l=>match At e l with
   |some v=>some (v,st)
   |none=>none
  |_,none=>none
def Yfr{e:Ext}{args:List Src}{call:cH}{st:St}:DQ e args call r st=EA st e (rA r args):=rfl
def Yc2{st:St}:EA st .same (some [v])=some (v,st):=rfl
def Zy6{st:St}{x y c:Int}(h:c=0\/c=1):EA st .mB (some [.int .u64 x,.int .u64 y,.int .u64 c])=some (.aY [.int .u64 (bs (x.toNat+y.toNat+c.toNat):Nat),.int .u64 (bZ (x.toNat+y.toNat+c.toNat):Nat)],st):=by
 simp only[EA,At,h,not_true_eq_false,if_false]
 rfl
def Zy5{st:St}{x y c:Int}(h:c=0\/c=1):EA st .mC (some [.int .u64 x,.int .u64 y,.int .u64 c])=some (.aY [.int .u64 (d_ x.toNat y.toNat c.toNat:Nat),.int .u64 (fj x.toNat y.toNat c.toNat:Nat)],st):=by
 simp only[EA,At,h,not_true_eq_false,if_false,fj]
 split<;>rfl
def Yb9:bs n<18446744073709551616:=jO _ (by decide)
def Yjg{c:Nat}:d_ a b c<18446744073709551616:=jO _ (by decide)
attribute [simp] Yb9 Yjg Yfr Yc2 Zy6 Zy5
def nN(st:St)(size:Nat):Option V->Option (Option V)->Option (Option V)->Option (Option V)->Option (V×St)
 |some v,some lo,some hi,some mx=>po size (.const v) (lo.map .const) (hi.map .const) (mx.map .const) Sg .nil st
 |_,_,_,_=>none
def EB{o:Option V}:az r (o.map .const)=some o:=by cases o<;>rfl
def HH{lo hi mx:Option Src}{call:cH}{st:St}:po size x lo hi mx call r st=nN st size (x.ev r) (az r lo) (az r hi) (az r mx):=by
 unfold nN po
 rcases x.ev r with _|v
 ·rfl
 ·rcases az r lo with _|lo
  ·cases v<;>try rfl
   rename_i c _;cases c<;>rfl
  ·rcases az r hi with _|hi
   ·cases v<;>try rfl
    rename_i c _;cases c<;>rfl
   ·rcases az r mx with _|mx
    ·cases v<;>try rfl
     rename_i c _;cases c<;>rfl
    ·simp only[EB];rfl
def Sl(h:T O)(N:Nat)(v:V)(l:List V):Prop:=
 (l=[]/\(v=.aa\/v=.empty))\/∃i o cp c e rw,v=.slice i o l.length cp 1/\i<N/\h.get i=some (.cells c e rw)/\(∀j,j<l.length->c[o+j]?=l[j]?)/\o+l.length<=c.length/\∀k,cp=some k->l.length<=k
def Sl.nil:Sl h N .aa []:=.inl ⟨rfl,.inl rfl⟩
def Sl.row{L:Nat}{l:List V}{e:TypeId}{rw:Bool}{cp:Option Nat}(hi:i<N)(hg:h.get i=some (.cells l e rw))(hL:l.length=L)(hc:∀k,cp=some k->L<=k):Sl h N (.slice i 0 L cp 1) l:=
 .inr ⟨i,0,cp,l,e,rw,by rw[hL],hi,hg,fun j _=>by rw[vW],by omega,fun k hk=>by rw[hL];exact hc k hk⟩
def Sl.ae{h':T O}{N':Nat}{l:List V}(s:Sl h N v l)(k:ad h N h' N'):Sl h' N' v l:=by
 rcases s with s|⟨i,o,cp,c,e,rw,h1,h2,h3,h4⟩
 ·exact .inl s
 ·exact .inr ⟨i,o,cp,c,e,rw,h1,ic h2 k.le,(k.get i h2).trans h3,h4⟩
def Sl.len{l:List V}(s:Sl h N v l):qh v=some l.length:=by
 rcases s with⟨rfl,rfl|rfl⟩|⟨i,o,cp,c,e,rw,rfl,_⟩<;>rfl
def Sl.at{l:List V}(s:Sl h N v l){j:Nat}{x:V}(hj:l[j]?=some x):∃i o c e rw,y8 v=some (i,o)/\i<N/\h.get i=some (.cells c e rw)/\c[o+j]?=some x:=by
 have hl:j<l.length:=by
  apply qZ;intro hc;rw[jC hc]at hj;cases hj
 rcases s with⟨rfl,_⟩|⟨i,o,cp,c,e,rw,rfl,h2,h3,h4,_⟩
 ·simp at hl
 ·exact⟨i,o,c,e,rw,rfl,h2,h3,(h4 j hl).trans hj⟩
def val(b:Nat):List Nat->Nat
 |[]=>0
 |d::l=>d+b*val b l
def dg(l:List Nat):List V:=l.map fun n:Nat=>.int .u64 n
def dgi(l:List Nat):List V:=l.map fun n:Nat=>.int .i64 n
def bn(l:List Nat):(dg l).length=l.length:=by simp[dg]
def bW(l:List Nat):(dgi l).length=l.length:=by simp[dgi]
def eY{j:Nat}(h:l[j]?=some n):(dg l)[j]?=some (.int .u64 n):=by simp[dg,h]
attribute [simp] bn bW
def nR{v:Nat}(h:k<l.length):ag (dg l) k [.int .u64 v]=dg (l.set k v):=by
 unfold ag dg
 apply nX
 intro j
 simp only[xA,ko,List.getElem?_set]
 rw[qs,List.getElem?_append,jH,List.length_map]
 by_cases h1:j<k
 ·rw[aJ (by omega),kg,aJ h1,ko,aq (by omega)]
 ·rw[aq (by omega)]
  by_cases h2:j=k
  ·subst h2
   rw[show j-min j l.length=0 by omega,aJ rfl,aJ h];rfl
  ·rw[show j-min k l.length=(j-k-1)+1 by omega,aq (by omega)]
   simp only[Nc,BP,gk,ko]
   rw[show k+1+(j-k-1)=j by omega]
def EC:df [.int .u64 0] n=dg (List.replicate n 0):=by
 unfold df dg
 apply nX
 intro j
 simp only[xA,se,ko,List.getElem?_replicate]
 by_cases h:j<n
 ·simp[h,Nat.mod_one]
 ·simp[h]
def Yhj{z:V}:df [z] n=List.replicate n z:=by
 unfold df
 apply nX
 intro j
 simp only[xA,se,ko,List.getElem?_replicate]
 by_cases h:j<n
 ·simp[h,Nat.mod_one]
 ·simp[h]
def Ol(b:Nat):∀(l m:List Nat),val b (l++m)=val b l+b^l.length*val b m
 |[],m=>by simp[val]
 |d::l,m=>by
  simp only[Ao,val,Ol b l m,bf,fv]
  grind
def Om(b:Nat)(l:List Nat)(d:Nat):val b (l++[d])=val b l+b^l.length*d:=by simp[Ol,val]
def Zqj(b n:Nat):val b (List.replicate n 0)=0:=by
 induction n with
 |zero=>rfl
 |succ n ih=>simp[List.replicate_succ,val,ih]
def Cq{d:Nat}(h:l[k]?=some d):val b (l.take (k+1))=val b (l.take k)+b^k*d:=by
 have hk:k<l.length:=by
  apply qZ;intro hc;rw[jC hc]at h;cases h
 rw[CP,h]
 simp only[Option.toList]
 rw[Om,jH,nU (by omega)]
def Cr{b:Nat}:∀{l:List Nat},(∀d∈l,d<b)->val b l<b^l.length
 |[],_=>by simp[val]
 |d::l,h=>by
  have h1:=h d nT
  have h2:=Cr (l:=l) fun e he=>h e (nt _ he)
  simp only[val,bf,fv]
  have:b*(val b l+1)<=b*b^l.length:=iT b h2
  rw[fR (b^l.length) b]
  grind
def B:Nat:=18446744073709551616
def Dg(l:List Nat):Prop:=∀d∈l,d<B
def Dg.get(h:Dg l){j d:Nat}(hj:l[j]?=some d):d<B:=h d (fW hj)
def dz(l:List Nat)(j:Nat):Nat:=l[j]?.getD 0
def Yn3{l:List Nat}(h:Dg l)(j:Nat):dz l j<B:=by
 unfold dz
 cases hj:l[j]? with
 |none=>decide
 |some d=>exact h.get hj
def A4{b:Nat}{l:List Nat}{k:Nat}:val b (l.take (k+1))=val b (l.take k)+b^k*dz l k:=by
 unfold dz
 cases h:l[k]? with
 |some d=>exact Cq h
 |none=>
  have hk:l.length<=k:=by
   apply wB;intro hc;rw[dT hc]at h;cases h
  rw[gI (by omega),gI hk];simp
def qj:List Nat->List Nat
 |[]=>[]
 |d::l=>match qj l with
  |[]=>if d=0 then [] else [d]
  |t=>d::t
def Zoe:∀(l:List Nat),qj (l++[0])=qj l
 |[]=>rfl
 |d::l=>by simp only[Ao,qj,Zoe l]
def Zof{d:Nat}(hd:d≠0):∀(l:List Nat),qj (l++[d])=l++[d]
 |[]=>by simp[qj,hd]
 |e::l=>by
  simp only[Ao,qj,Zof hd l]
  cases l<;>rfl
def jk:List (Nat×Nat)->Nat->Bool
 |[],_=>false
 |(a,b)::D,t=>(Nat.ble a t&&Nat.ble t b)||jk D t
def Yk4{t:Nat}:jk [] t=false:=rfl
def Ygd{D:List (Nat×Nat)}{t:Nat}:jk ((a,b)::D) t=((Nat.ble a t&&Nat.ble t b)||jk D t):=rfl
attribute [simp] Yk4 Ygd
structure Fx (D:List (Nat×Nat)) (r0:T V) (n:Nat) (fr:Fr):Prop where
 fL:∀t,jk D t=false->fr.r.get t=r0.get t
 n:fr.n=n
 marks:fr.marks=[]
def Fx.refl{D:List (Nat×Nat)}:Fx D r n ⟨r,n,[]⟩:=⟨fun _ _=>rfl,rfl,rfl⟩
def Fx.set{D:List (Nat×Nat)}{t:Nat}(ht:jk D t=true):Fx D r0 n ⟨r.set t v,n,[]⟩↔Fx D r0 n ⟨r,n,[]⟩:=by
 constructor
 ·intro h
  refine⟨fun u hu=>?_,rfl,rfl⟩
  have:=h.fL u hu
  simp only[T.ai]at this
  rw[aq]at this
  ·exact this
  ·rintro rfl;rw[ht]at hu;cases hu
 ·intro h
  refine⟨fun u hu=>?_,rfl,rfl⟩
  simp only[T.ai]
  rw[aq]
  ·exact h.fL u hu
  ·rintro rfl;rw[ht]at hu;cases hu
attribute [simp] Fx.set
def T2(D' D:List (Nat×Nat)):Bool:=D'.all fun p=>D.any fun q=>Nat.ble q.1 p.1&&Nat.ble p.2 q.2
def Ycl{D:List (Nat×Nat)}{t:Nat}:jk D t=true↔∃p∈D,p.1<=t/\t<=p.2:=by
 induction D with
 |nil=>simp[jk]
 |cons p D ih=>obtain⟨a,b⟩:=p;simp[jk,ih]
def Yi6{D' D:List (Nat×Nat)}(h:T2 D' D=true){t:Nat}(ht:jk D t=false):jk D' t=false:=by
 cases hc:jk D' t with
 |false=>rfl
 |true=>
  obtain⟨p,hp,h1,h2⟩:=Ycl.1 hc
  unfold T2 at h
  rw[sJ]at h
  obtain⟨q,hq,h3⟩:=List.any_eq_true.1 (h p hp)
  simp at h3
  have:jk D t=true:=Ycl.2 ⟨q,hq,by omega,by omega⟩
  rw[ht]at this;cases this
def Fx.inner{D D':List (Nat×Nat)}{r1 r2:T V}(hf:Fx D r0 n ⟨r,n,[]⟩)(hs:T2 D' D=true)(h1:Fx D r0 n ⟨r,n,[]⟩->Fx D r0 n ⟨r1,n,[]⟩)(h2:∀t,jk D' t=false->r2.get t=r1.get t):Fx D r0 n ⟨r2,n,[]⟩:=
 ⟨fun t ht=>(h2 t (Yi6 hs ht)).trans ((h1 hf).fL t ht),rfl,rfl⟩
def Rd(D:List (Nat×Nat))(r0:T V)(n:Nat)(I:Nat->T V->St->Prop)(k:Nat)(P:Ex->T V->St->Prop):Ex->Fr->St->Prop
 |.normal,fr,st=>Fx D r0 n fr/\∃k',k'<k/\I k' fr.r st
 |e,fr,st=>Fx D r0 n fr/\P e fr.r st
def Zsn{D r0 n I k P r st}:Rd D r0 n I k P .normal ⟨r,n,[]⟩ st↔Fx D r0 n ⟨r,n,[]⟩/\∃k',k'<k/\I k' r st:=Iff.rfl
def Ymc{D r0 n I k P r st i}:Rd D r0 n I k P (.exit i) ⟨r,n,[]⟩ st↔Fx D r0 n ⟨r,n,[]⟩/\P (.exit i) r st:=Iff.rfl
def Yoh{D r0 n I k P r st}:Rd D r0 n I k P .ret ⟨r,n,[]⟩ st↔Fx D r0 n ⟨r,n,[]⟩/\P .ret r st:=Iff.rfl
attribute [simp] Zsn Ymc Yoh
def cX{C:Cx}{ro:Option Nat}{c:cj}{K:List Kf}{Q:Rs->Prop}{JM:St}(D:List (Nat×Nat))(P:Ex->T V->St->Prop)(I:Nat->T V->St->Prop)(k:Nat)(hi:I k r0 JM)
  (h:∀k r st,(∀t,jk D t=false->r.get t=r0.get t)->Fx D r0 n ⟨r,n,[]⟩->I k r st->Code C ro c ⟨r,n,[]⟩ st (Rd D r0 n I k P))
  (q:∀e r st,(∀t,jk D t=false->r.get t=r0.get t)->P e r st->bD C K (some (.ex e ⟨r,n,[]⟩ st)) Q):bD C K (eR (C.code ro (.loop c) ⟨r0,n,[]⟩ JM)) Q:=by
 refine Ye7 (fun e fr st=>Fx D r0 n fr/\P e fr.r st) (fun k fr st=>Fx D r0 n fr/\I k fr.r st) k ⟨Fx.refl,hi⟩ ?_ ?_
 ·rintro k ⟨r,n',m⟩ st ⟨hf,hi⟩
  have h1:n'=n:=hf.n
  have h2:m=[]:=hf.marks
  subst h1;subst h2
  obtain⟨e,bB,ax,h3,h4⟩:=(h k r st hf.fL hf hi).ex
  refine⟨e,bB,ax,h3,?_⟩
  cases e with
  |normal=>obtain⟨a,k',b,c⟩:=h4;exact⟨k',b,a,c⟩
  |exit i=>exact h4
  |ret=>exact h4
 ·rintro e ⟨r,n',m⟩ st ⟨hf,hp⟩
  have h1:n'=n:=hf.n
  have h2:m=[]:=hf.marks
  subst h1;subst h2
  exact q e r st hf.fL hp
def Mq{l:List V}{w:List Nat}(s:Sl h N v l){lo hi:Nat}(h1:lo<=hi)(h2:hi<=l.length)(x y:Option V)(hx:x=some (.int .i64 lo)\/x=none/\lo=0)(hy:y=some (.int .i64 hi)\/y=none/\hi=l.length):
  ∃v',nN ⟨h,N,w⟩ 1 (some v) (some x) (some y) (some none)=some (v',⟨h,N,w⟩)/\Sl h N v' ((l.take hi).drop lo):=by
 rcases s with⟨rfl,rfl|rfl⟩|⟨i,o,cp,c,e,rw,rfl,q2,q3,q4,q5,q6⟩
 ·have:hi=0:=by simpa using h2
  subst this
  have:lo=0:=by omega
  subst this
  refine⟨.aa,?_,.inl ⟨rfl,.inl rfl⟩⟩
  rcases hx with rfl|⟨rfl,_⟩<;>rcases hy with rfl|⟨rfl,_⟩<;>simp[nN,po,az,dt,jP]
 ·have:hi=0:=by simpa using h2
  subst this
  have:lo=0:=by omega
  subst this
  refine⟨.empty,?_,.inl ⟨rfl,.inr rfl⟩⟩
  rcases hx with rfl|⟨rfl,_⟩<;>rcases hy with rfl|⟨rfl,_⟩<;>simp[nN,po,az,dt,jP]
 ·have hlen:((l.take hi).drop lo).length=hi-lo:=by simp;omega
  have cK:∀j,j<hi-lo->c[o+lo+j]?=((l.take hi).drop lo)[j]?:=fun j hj=>by
   rw[gk,kg,aJ (by omega),show o+lo+j=o+(lo+j) by omega]
   exact q4 _ (by omega)
  have b1:∀m,hi<=m->dt y m l.length=some hi:=fun m hm=>by
   rcases hy with rfl|⟨rfl,rfl⟩
   ·simp[dt,jP];omega
   ·rfl
  have b2:dt x hi 0=some lo:=by
   rcases hx with rfl|⟨rfl,rfl⟩
   ·simp[dt,jP];omega
   ·rfl
  cases cp with
  |some k=>
   have hk:=q6 k rfl
   refine⟨.slice i (if k=lo then o else o+lo) (hi-lo) (some (k-lo)) 1,?_,?_⟩
   ·have b0:dt none k k=some k:=rfl
    simp only[nN,po,EB,Src.ev,se]
    simp[b0,b1 k (by omega),b2]
   ·by_cases vM:k=lo
    ·refine .inr ⟨i,o,some 0,c,e,rw,?_,q2,q3,fun j hj=>by rw[hlen]at hj;omega,by rw[hlen];omega,fun k' jE=>by rw[hlen];omega⟩
     rw[hlen,aJ vM,show k-lo=0 by omega]
    ·refine .inr ⟨i,o+lo,some (k-lo),c,e,rw,?_,q2,q3,fun j hj=>cK j (by omega),by rw[hlen];omega,fun k' jE=>by simp at jE;rw[hlen];omega⟩
     rw[hlen,aq vM]
  |none=>
   have hk:hi<=max l.length (c.length-o):=by omega
   by_cases aO:lo<max l.length (c.length-o)
   ·refine⟨.slice i (o+lo) (hi-lo) none 1,?_,.inr ⟨i,o+lo,none,c,e,rw,by rw[hlen],q2,q3,fun j hj=>cK j (by omega),by rw[hlen];omega,fun k' jE=>by cases jE⟩⟩
    simp only[nN,po,EB,Src.ev,St.row,q3,Nat.div_one,se]
    simp[b1 _ hk,b2,aO]
   ·refine⟨.empty,?_,.inl ⟨pV (by rw[hlen];omega),.inr rfl⟩⟩
    simp only[nN,po,EB,Src.ev,St.row,q3,Nat.div_one,se]
    simp[b1 _ hk,b2,aO]
def T3{m v:Nat}(hk:l.length=k):(l++List.replicate (m+1) 0).set k v=(l++[v])++List.replicate m 0:=by
 subst hk
 rw[List.set_append_right _ _ (aR _)]
 simp[List.replicate_succ]
def aH(n:Nat):List Nat:=if h:n=0 then [] else n%B::aH (n/B)
termination_by n
decreasing_by exact zX (by omega) (by decide)
def pB:aH 0=[]:=by rw[aH];simp
def lD(h:n≠0):aH n=n%B::aH (n/B):=by rw[aH];simp[h]
def kP:∀(n:Nat),val B (aH n)=n:=by
 intro n
 induction n using Nat.strongRecOn with
 |_ n ih=>
  by_cases h:n=0
  ·subst h;rw[pB];rfl
  ·rw[lD h]
   simp only[val]
   rw[ih (n/B) (zX (by omega) (by decide))]
   have:=rz n B
   omega
def pC(n:Nat):Dg (aH n):=by
 induction n using Nat.strongRecOn with
 |_ n ih=>
  by_cases h:n=0
  ·subst h;rw[pB];intro d hd;cases hd
  ·rw[lD h]
   intro d hd
   rcases jy.1 hd with rfl|hd
   ·exact jO _ (by decide)
   ·exact ih (n/B) (zX (by omega) (by decide)) d hd
def A5:∀{l:List Nat},Dg l->qj l=aH (val B l)
 |[],_=>by simp[qj,val,pB]
 |d::l,h=>by
  have ih:=A5 (l:=l) fun e he=>h e (nt _ he)
  have hd:d<B:=h d nT
  simp only[qj,val,ih]
  by_cases h0:val B l=0
  ·rw[h0,pB]
   simp only[Nat.mul_zero,ri]
   by_cases kM:d=0
   ·simp[kM,pB]
   ·rw[lD kM,vw hd,xC hd,pB];simp[kM]
  ·have hB:0<B:=by decide
   have h1:(d+B*val B l)/B=val B l:=by
    rw[Nat.add_mul_div_left _ _ hB,xC hd,vW]
   have h2:(d+B*val B l)%B=d:=by
    rw[Nat.add_mul_mod_self_left,vw hd]
   have h3:d+B*val B l≠0:=by
    intro hc
    have:B*val B l=0:=by omega
    rcases Nat.mul_eq_zero.1 this with h|h
    ·omega
    ·exact h0 h
   rw[lD h3,h1,h2]
   split
   ·rename_i hc;rw[lD h0]at hc;cases hc
   ·rfl
def Wn(h:T O)(N:Nat)(v:V)(n:Nat):Prop:=Sl h N v (dg (aH n))
def Wn.ae{h':T O}{N':Nat}(s:Wn h N v n)(k:ad h N h' N'):Wn h' N' v n:=Sl.ae s k
variable {N bytes z:Nat} {h:T O} {l:List (List V)} {v:V}
def Zu5{α:Type}{c:List α}{o n:Nat}{x:List α}(h:aM c o n=some x):o+n<=c.length/\x=(c.drop o).take n:=by
 unfold aM at h
 split at h
 ·rename_i hl;simp at h;exact⟨hl,h.symm⟩
 ·cases h
def Yi8{α:Type}{c:List α}{o n:Nat}{x:List α}(h:aM c o n=some x){f:Nat}(hf:f<n):c[o+f]?=x[f]?:=by
 obtain⟨_,rfl⟩:=Zu5 h
 rw[kg,aJ hf,gk]
def Sn(z:Nat)(h:T O)(N:Nat)(v:V)(l:List (List V)):Prop:=
 (l=[]/\(v=.aa\/v=.empty))\/∃i o cp c e rw,v=.slice i o l.length cp z/\i<N/\h.get i=some (.cells c e rw)/\(∀j x,l[j]?=some x->aM c (o+j*z) z=some x)/\o+l.length*z<=c.length/\∀k,cp=some k->l.length<=k
def Sn.nil:Sn z h N .aa []:=.inl ⟨rfl,.inl rfl⟩
def Sn.ae{h':T O}{N':Nat}(s:Sn z h N v l)(k:ad h N h' N'):Sn z h' N' v l:=by
 rcases s with s|⟨i,o,cp,c,e,rw,h1,h2,h3,h4⟩
 ·exact .inl s
 ·exact .inr ⟨i,o,cp,c,e,rw,h1,ic h2 k.le,(k.get i h2).trans h3,h4⟩
def Sn.len(s:Sn z h N v l):qh v=some l.length:=by
 rcases s with⟨rfl,rfl|rfl⟩|⟨i,o,cp,c,e,rw,rfl,_⟩<;>rfl
def Sn.at(s:Sn z h N v l){j:Nat}{x:List V}(hj:l[j]?=some x):∃i o c e rw,y8 v=some (i,o)/\i<N/\h.get i=some (.cells c e rw)/\aM c (o+j*z) z=some x:=by
 have hl:j<l.length:=by
  apply qZ;intro hc;rw[jC hc]at hj;cases hj
 rcases s with⟨rfl,_⟩|⟨i,o,cp,c,e,rw,rfl,h2,h3,h4,_⟩
 ·simp at hl
 ·exact⟨i,o,c,e,rw,rfl,h2,h3,h4 j x hj⟩
def Yac(hz:0<z){h:T O}{N:Nat}{v:V}{l:List (List V)}{w:List Nat}(s:Sn z h N v l){lo hi:Nat}(h1:lo<=hi)(h2:hi<=l.length)(x y:Option V)(hx:x=some (.int .i64 lo)\/x=none/\lo=0)(hy:y=some (.int .i64 hi)\/y=none/\hi=l.length):
  ∃v',nN ⟨h,N,w⟩ z (some v) (some x) (some y) (some none)=some (v',⟨h,N,w⟩)/\Sn z h N v' ((l.take hi).drop lo):=by
 rcases s with⟨rfl,rfl|rfl⟩|⟨i,o,cp,c,e,rw,rfl,q2,q3,q4,q5,q6⟩
 ·have:hi=0:=by simpa using h2
  subst this
  have:lo=0:=by omega
  subst this
  refine⟨.aa,?_,.inl ⟨rfl,.inl rfl⟩⟩
  rcases hx with rfl|⟨rfl,_⟩<;>rcases hy with rfl|⟨rfl,_⟩<;>simp[nN,po,az,dt,jP]
 ·have:hi=0:=by simpa using h2
  subst this
  have:lo=0:=by omega
  subst this
  refine⟨.empty,?_,.inl ⟨rfl,.inr rfl⟩⟩
  rcases hx with rfl|⟨rfl,_⟩<;>rcases hy with rfl|⟨rfl,_⟩<;>simp[nN,po,az,dt,jP]
 ·have hlen:((l.take hi).drop lo).length=hi-lo:=by simp;omega
  have cK:∀j u,((l.take hi).drop lo)[j]?=some u->aM c (o+lo*z+j*z) z=some u:=fun j u hu=>by
   have hj:j<hi-lo:=by
    rw[<-hlen];apply qZ;intro hc;rw[jC hc]at hu;cases hu
   rw[gk,kg,aJ (by omega)]at hu
   have:=q4 _ _ hu
   rw[show o+lo*z+j*z=o+(lo+j)*z by rw[jF];omega]
   exact this
  have hmul:lo*z+(hi-lo)*z<=l.length*z:=by
   rw[<-jF];exact kp _ (by omega)
  have b1:∀m,hi<=m->dt y m l.length=some hi:=fun m hm=>by
   rcases hy with rfl|⟨rfl,rfl⟩
   ·simp[dt,jP];omega
   ·rfl
  have b2:dt x hi 0=some lo:=by
   rcases hx with rfl|⟨rfl,rfl⟩
   ·simp[dt,jP];omega
   ·rfl
  cases cp with
  |some k=>
   have hk:=q6 k rfl
   refine⟨.slice i (if k=lo then o else o+lo*z) (hi-lo) (some (k-lo)) z,?_,?_⟩
   ·have b0:dt none k k=some k:=rfl
    simp only[nN,po,EB,Src.ev]
    simp[b0,b1 k (by omega),b2]
   ·by_cases vM:k=lo
    ·have h0:(l.take hi).drop lo=[]:=pV (by rw[hlen];omega)
     refine .inr ⟨i,o,some (k-lo),c,e,rw,?_,q2,q3,fun j u hu=>by rw[h0]at hu;simp at hu,by rw[h0];simp;omega,fun k' jE=>by rw[h0];simp⟩
     rw[hlen,aJ vM]
    ·refine .inr ⟨i,o+lo*z,some (k-lo),c,e,rw,?_,q2,q3,cK,by rw[hlen];omega,fun k' jE=>by simp at jE;rw[hlen];omega⟩
     rw[hlen,aq vM]
  |none=>
   have hlz:l.length<=(c.length-o)/z:=by
    rw[GC hz];omega
   have hk:hi<=max l.length ((c.length-o)/z):=by omega
   have rF:z≠0:=by omega
   by_cases aO:lo<max l.length ((c.length-o)/z)
   ·refine⟨.slice i (o+lo*z) (hi-lo) none z,?_,.inr ⟨i,o+lo*z,none,c,e,rw,by rw[hlen],q2,q3,cK,by rw[hlen];omega,fun k' jE=>by cases jE⟩⟩
    simp only[nN,po,EB,Src.ev,St.row,q3]
    simp[b1 _ hk,b2,aO,rF]
   ·refine⟨.empty,?_,.inl ⟨pV (by rw[hlen];omega),.inr rfl⟩⟩
    simp only[nN,po,EB,Src.ev,St.row,q3]
    simp[b1 _ hk,b2,aO,rF]
def Sn.one{l:List V}:Sn 1 h N v (l.map fun x=>[x])↔Sl h N v l:=by
 unfold Sn Sl
 constructor
 ·rintro(⟨h1,h2⟩|⟨i,o,cp,c,e,rw,h1,h2,h3,h4,h5,h6⟩)
  ·exact .inl ⟨by simpa using h1,h2⟩
  ·refine .inr ⟨i,o,cp,c,e,rw,by simpa using h1,h2,h3,fun j hj=>?_,by simpa using h5,by simpa using h6⟩
   have:=h4 j [l[j]] (by simp[dT hj])
   have:=Yi8 this (f:=0) (by omega)
   simp at this
   rw[this,dT hj]
 ·rintro(⟨h1,h2⟩|⟨i,o,cp,c,e,rw,h1,h2,h3,h4,h5,h6⟩)
  ·exact .inl ⟨by simpa using h1,h2⟩
  ·refine .inr ⟨i,o,cp,c,e,rw,by simpa using h1,h2,h3,fun j x hj=>?_,by simpa using h5,by simpa using h6⟩
   simp at hj
   obtain⟨u,hu,rfl⟩:=hj
   have hl:j<l.length:=by
    apply qZ;intro hc;rw[jC hc]at hu;cases hu
   have:=h4 j hl
   rw[hu]at this
   have hc:o+j<c.length:=by omega
   unfold aM
   rw[aJ (by omega),se,Ds hc]
   rw[dT hc]at this
   simp at this
   simp[this]
def Own(z:Nat)(e:TypeId)(N0:Nat)(h:T O)(N:Nat)(v:V)(l:List (List V)):Prop:=
 (∀x∈l,x.length=z)/\((l=[]/\v=.aa)\/∃i,v=.slice i 0 l.length none z/\N0<=i/\i<N/\h.get i=some (.cells l.flatten e true))
def Own.nil{e:TypeId}{N0:Nat}:Own z e N0 h N .aa []:=⟨fun _ h=>by simp at h,.inl ⟨rfl,rfl⟩⟩
def Own.ae{e:TypeId}{N0:Nat}{h':T O}{N':Nat}(s:Own z e N0 h N v l)(k:ad h N h' N'):Own z e N0 h' N' v l:=by
 obtain⟨hl,s|⟨i,h1,h2,h3,h4⟩⟩:=s
 ·exact⟨hl,.inl s⟩
 ·exact⟨hl,.inr ⟨i,h1,h2,ic h3 k.le,(k.get i h3).trans h4⟩⟩
def Own.len{e:TypeId}{N0:Nat}(s:Own z e N0 h N v l):qh v=some l.length:=by
 obtain⟨_,⟨rfl,rfl⟩|⟨i,rfl,_⟩⟩:=s<;>rfl
def u9{z:Nat}:∀{l:List (List V)},(∀x∈l,x.length=z)->l.flatten.length=l.length*z
 |[],_=>by simp
 |x::l,h=>by
  have h1:=h x nT
  have h2:=u9 (l:=l) fun y hy=>h y (nt _ hy)
  simp only[List.flatten_cons,iy,h1,h2,bf,jF];omega
def ME{z:Nat}:∀{l:List (List V)},(∀x∈l,x.length=z)->∀{j:Nat} {x:List V},l[j]?=some x->aM l.flatten (j*z) z=some x
 |[],_,j,x,hj=>by simp at hj
 |y::l,h,0,x,hj=>by
  have h1:=h y nT
  simp at hj;subst hj
  unfold aM
  simp[<-h1]
 |y::l,h,j+1,x,hj=>by
  have h1:=h y nT
  have h2:=ME (l:=l) (fun y hy=>h y (nt _ hy)) (j:=j) (x:=x) (by simpa using hj)
  obtain⟨h3,h4⟩:=Zu5 h2
  unfold aM
  rw[aJ (by simp only[List.flatten_cons,iy,jF,h1];omega),h4]
  congr 2
  rw[List.flatten_cons,jF,Nat.one_mul,Nat.add_comm,<-List.drop_drop,<-h1,List.drop_left]
def Own.sn{e:TypeId}{N0:Nat}(s:Own z e N0 h N v l):Sn z h N v l:=by
 obtain⟨hl,⟨h1,h2⟩|⟨i,h1,h2,h3,h4⟩⟩:=s
 ·exact .inl ⟨h1,.inl h2⟩
 ·exact .inr ⟨i,0,none,l.flatten,e,true,h1,h3,h4,fun j x hj=>by rw[vW];exact ME hl hj,by rw[u9 hl];omega,fun k hk=>by cases hk⟩
def T4(st:St)(size bytes:Nat)(e:TypeId):Option V->Option V->Option (V×St)
 |some s,some x=>nI st size bytes e s x
 |_,_=>none
def Ztm{size:Nat}{e:TypeId}{z:List V}{s x:Src}{call:cH}{r:T V}{st:St}:Ax size bytes e z s x call r st=T4 st size bytes e (s.ev r) (x.ev r):=by
 unfold Ax T4;rfl
def Zsi{st:St}{size:Nat}{e:TypeId}{s x:V}:T4 st size bytes e (some s) (some x)=nI st size bytes e s x:=rfl
attribute [simp] Ztm Zsi
def zH{e:TypeId}{N0:Nat}{u:V}{x:List V}{w:List Nat}(s:Own z e N0 h N v l)(hN:N0<=N)(hz:0<z)(hx:x.length=z)
  (hu:iQ ⟨h,N,w⟩ z u=some (1,x)) (hb:2*(l.length+1)*bytes<=281474976710656):
  ∃v' h' w',nI ⟨h,N,w⟩ z bytes e v u=some (v',⟨h',N+1,w'⟩)/\aB N0 w'=aB N0 w/\ad h N0 h' (N+1)/\(∀j,h'.get j=h.get j\/j=N\/(∃o n c q,v=.slice j o n c q))/\Own z e N0 h' (N+1) v' (l++[x]):=by
 obtain⟨hl,s⟩:=s
 have tY:∀y∈l++[x],y.length=z:=fun y hy=>by
  rcases kl.1 hy with hy|hy
  ·exact hl y hy
  ·simp at hy;rw[hy,hx]
 have rF:z≠0:=by omega
 rcases s with⟨rfl,rfl⟩|⟨i,rfl,h2,h3,h4⟩
 ·refine⟨.slice N 0 1 none z,h.set N (.cells x e true),w,?_,rfl,⟨by omega,fun j hj=>by rw[T.ai,aq (by omega)]⟩,fun j=>by rw[T.ai];by_cases hj:j=N<;>simp[hj],tY,.inr ⟨N,by simp,hN,by omega,by rw[T.ai];simp⟩⟩
  have uw:2*1*bytes<=281474976710656:=by simpa using hb
  simp only[nI,hu,zv,St.alloc]
  simp[uw,rF]
 ·have nW:=u9 hl
  refine⟨.slice N 0 (l.length+1) none z,(h.set i .dead).set N (.cells (l.flatten++x) e true),i::w,?_,by simp[aB,vz.2 h2],⟨by omega,fun j hj=>by rw[T.ai,aq (by omega),T.ai,aq (by omega)]⟩,fun j=>?_,tY,.inr ⟨N,by simp,hN,by omega,by rw[T.ai];simp⟩⟩
  ·simp only[nI,hu,zv,St.row,h4]
   rw[aq (by omega),aq (by rintro(h|h|h)<;>omega)]
   simp only[if_true]
   rw[aq (by rw[nW,jF];omega),aJ ⟨by rw[nW];omega,trivial,trivial⟩]
   rfl
  ·by_cases hj:j=N
   ·exact .inr (.inl hj)
   ·by_cases nH:j=i
    ·exact .inr (.inr ⟨0,l.length,none,z,by rw[nH]⟩)
    ·left;rw[T.ai,aq hj,T.ai,aq nH]
abbrev aU:=List UInt8
def jz(c:UInt8):Bool:=decide (48<=c.toNat/\c.toNat<=57)
def g_:aU->Bool
 |[]=>false
 |c::s=>(c::s).all jz&&(decide (c.toNat≠48)||decide (s=[]))
def ah:aU->Nat
 |[]=>0
 |c::s=>if c.toNat=47 then 0 else ah s+1
def aD(s:aU):Nat:=s.foldl (fun n c=>10*n+(c.toNat-48)) 0
def bY:aU->Bool
 |[]=>false
 |c::_=>decide (c.toNat=45)
def bj(s:aU):aU:=if bY s then s.drop 1 else s
def fD(neg:Bool)(p:aU)(broken:Bool)(d:aU):Bool:=g_ p&&!(neg&&decide (p=[48]))&&(!broken||(g_ d&&decide (d≠[48])&&decide (d≠[49])))
def jh(neg:Bool)(p:aU)(broken:Bool)(d:aU):Nat:=
 if fD neg p broken d=false then 1 else if 600<p.length\/600<d.length then 4 else if broken=true/\Nat.gcd (aD p) (aD d)≠1 then 1 else 0
def Ep(neg:Bool)(t:aU):Nat:=jh neg (t.take (ah t)) (decide (ah t<t.length)) (t.drop (ah t+1))
def aN(s:aU):Nat:=Ep (bY s) (bj s)
def Ci:∀(s:aU),ah s<=s.length
 |[]=>aR _
 |c::s=>by
  have:=Ci s
  simp only[ah,bf]
  split<;>omega
structure zP where
 name:aU
 op:aU
 Ez:aU
 m7:List aU
 cost:Int
def pos:List zP->aU->Nat
 |[],_=>0
 |s::g,n=>if s.name=n then 0 else pos g n+1
end Go.Mx
