/-Slices of which only the elements are kn-/
import Derived.Test.YtgnadghjglamaaaGreatDoorMxLim
set_option linter.all false
namespace Go.Mx
open Go
variable {N a b i k n o size:Nat} {h:T O} {j:Int} {l:List Nat} {r r0:T V} {v:V} {x:Src}
def r_:V->Option Nat
 |.aa=>some 0
 |.empty=>some 0
 |.slice _ _ n _ _=>some n
 |_=>none
def AF:V->Option (Nat×Nat)
 |.slice i o _ _ _=>some (i,o)
 |_=>none
def Ykc(st:St):Option Nat->Option (V×St)
 |some n=>some (.int .i64 n,st)
 |none=>none
def Yo9(st:St):Option V->Option (V×St)
 |some v=>Ykc st (r_ v)
 |none=>none
def Yfe{call:cM}{st:St}:xE 1 x call r st=Yo9 st (x.ev r):=by
 unfold xE Yo9
 rcases x.ev r with _|v
 ·rfl
 ·cases v<;>rfl
def Yb3{st:St}:Yo9 st (some v)=Ykc st (r_ v):=rfl
def Zx5{st:St}:Ykc st (some n)=some (.int .i64 n,st):=rfl
def TA(st:St)(size k:Nat):Option (Nat×Nat)->Option (V×St)
 |some (i,o)=>some (.ptr i (o+k*size),st)
 |none=>none
def PC(st:St)(size:Nat)(v:V)(k:Int):Option Nat->Option (V×St)
 |some n=>if 0<=k/\k<(n:Int) then TA st size k.toNat (AF v) else none
 |none=>none
def Yli(st:St)(size:Nat):Option V->Option V->Option (V×St)
 |some v,some (.int _ k)=>PC st size v k (r_ v)
 |_,_=>none
def Zqz{i:Src}{call:cM}{st:St}:DR size x i call r st=Yli st size (x.ev r) (i.ev r):=by
 unfold DR Yli
 rcases x.ev r with _|v
 ·rfl
 ·rcases i.ev r with _|u
  ·cases v<;>rfl
  ·cases u<;>cases v<;>simp[PC,TA,r_,AF]<;>omega
def Zzf{st:St}{k:IntKind}:Yli st size (some v) (some (.int k j))=PC st size v j (r_ v):=rfl
def Yds{st:St}(h0:0<=j)(h1:j<(n:Int)):PC st size v j (some n)=TA st size j.toNat (AF v):=by simp[PC,h0,h1]
def Zuq{st:St}:TA st size k (some (i,o))=some (.ptr i (o+k*size),st):=rfl
def Yrh(a b:Int):(a==b)=decide (a=b):=by
 by_cases h:a=b<;>simp[h]
def Yrg(a b:Int):(a !=b)=!decide (a=b):=by
 by_cases h:a=b<;>simp[h]
def Yej(a b:Nat):((a:Int)+(b:Int)).toNat=a+b:=by omega
def Yei(a b:Nat):((a:Int)-(b:Int)).toNat=a-b:=by omega
def Ypu(a b n:Nat):((a:Int)+(b:Int)<(n:Int))↔a+b<n:=by omega
def Zwv(b:Nat):((64:Int)-(b:Int)).toNat=64-b:=by omega
attribute [simp] Zwv Yrh Yrg Int.natCast_inj Yej Yei Ypu
def Yo8(st:St):Option V->Option (V×St)
 |some (.str s)=>some (.int .i64 s.length,st)
 |_=>none
def Yff{call:cM}{st:St}:xE 0 x call r st=Yo8 st (x.ev r):=by
 unfold xE Yo8
 rcases x.ev r with _|v
 ·rfl
 ·cases v<;>rfl
def Yb2{st:St}{s:List UInt8}:Yo8 st (some (.str s))=some (.int .i64 s.length,st):=rfl
def Zx3{i o n c z}:r_ (.slice i o n c z)=some n:=rfl
def Yfx:r_ .aa=some 0:=rfl
def Zx4:r_ .empty=some 0:=rfl
def Zuo{i o n c z}:AF (.slice i o n c z)=some (i,o):=rfl
attribute [simp] Yfe Yff Yb2 Zx3 Yfx Zx4 Zuo Yb3 Zx5 Zqz Zzf Yds Zuq
def cR(b:UInt8):Int:=b.toNat
def Zzo(b:UInt8):0<=cR b/\cR b<256:=by unfold cR;have:=b.toNat_lt;omega
def TC(st:St):Option UInt8->Option (V×St)
 |some b=>some (.int .u8 b.toNat,st)
 |none=>none
def TD(st:St):Option V->Option V->Option (V×St)
 |some (.str s),some (.int _ k)=>if 0<=k then TC st s[k.toNat]? else none
 |_,_=>none
def Ztf{i:Src}{call:cM}{st:St}:DS x i call r st=TD st (x.ev r) (i.ev r):=by
 unfold DS TD TC
 rcases x.ev r with _|v
 ·rfl
 ·rcases i.ev r with _|u
  ·cases v<;>rfl
  ·cases u<;>cases v<;>rfl
def Ycc{st:St}{s:List UInt8}{k:IntKind}(h:0<=j):TD st (some (.str s)) (some (.int k j))=TC st s[j.toNat]?:=by simp[TD,h]
def Zyk{st:St}{b:UInt8}:TC st (some b)=some (.int .u8 (cR b),st):=rfl
attribute [simp] Ztf Ycc Zyk
def TE(st:St)(elem:TypeId)(size bytes:Nat)(zero:List V):Option V->Option V->Option (V×St)
 |some (.int _ l),some (.int _ c)=>if 0<=l/\l<=c/\bytes*c<=2^47/\c<2^62/\size=zero.length/\size≠0 then
    some (.slice st.n 0 l.toNat (some c.toNat) size,st.alloc (.cells (dw zero c.toNat) elem true)) else none
 |_,_=>none
def Zqx{elem:TypeId}{bytes:Nat}{zero:List V}{y:Src}{call:cM}{st:St}:Cb elem size bytes zero x y call r st=TE st elem size bytes zero (x.ev r) (y.ev r):=by
 unfold Cb TE;rfl
def Yfu{st:St}{elem:TypeId}{bytes:Nat}{zero:List V}{k k':IntKind}{l:Int}(h0:0<=l)(h1:bytes*l<=140737488355328)(h2:l<4611686018427387904)(h3:size=zero.length)(h4:0<size):
  TE st elem size bytes zero (some (.int k l)) (some (.int k' l))=some (.slice st.n 0 l.toNat (some l.toNat) size,st.alloc (.cells (dw zero l.toNat) elem true)):=by
 unfold TE
 simp only[]
 rw[aQ ⟨h0,Int.le_refl _,by simpa using h1,by simpa using h2,h3,by omega⟩]
def TF(n:Nat)(st:St):Option V->Option V->Option (V×St)
 |some (.ptr i o),some v=>match st.row i with
   |some (c,e,true)=>if v.cells.length=n/\o+n<=c.length/\v.cells.all V.one=true then some (.aS [],st.write i (.cells (ag c o v.cells) e true)) else none
   |_=>none
 |_,_=>none
def Zxe{a:Src}{call:cM}{st:St}:DO n a x call r st=TF n st (a.ev r) (x.ev r):=by
 unfold DO TF;rfl
def bE(n:Nat)(st:St)(i o:Nat)(v:V):Option O->Option (V×St)
 |some (.cells c e true)=>if v.cells.length=n/\o+n<=c.length/\v.cells.all V.one=true then some (.aS [],st.write i (.cells (ag c o v.cells) e true)) else none
 |_=>none
def Zwz{st:St}:TF n st (some (.ptr i o)) (some v)=bE n st i o v (st.h.get i):=by
 unfold TF bE St.row
 simp only[]
 rcases st.h.get i with _|x
 ·rfl
 ·cases x with
  |cells c e b=>cases b<;>rfl
  |_=>rfl
def Zk6{w:List Nat}{c:List V}{e:TypeId}(h1:v.cells.length=n)(h2:o+n<=c.length)(h3:v.cells.all V.one=true):
  bE n ⟨h,N,w⟩ i o v (some (.cells c e true))=some (.aS [],⟨h.set i (.cells (ag c o v.cells) e true),N,i::w⟩):=by
 unfold bE
 simp only[]
 rw[aQ ⟨h1,h2,h3⟩];rfl
attribute [simp] Zqx Yfu Zxe Zwz Zk6
def bC(n:Nat):Nat:=n%18446744073709551616
def cC(n:Nat):Nat:=n/18446744073709551616
def eJ(x y c:Nat):Nat:=(x+18446744073709551616-y-c)%18446744073709551616
def fL(x y c:Nat):Nat:=if x<y+c then 1 else 0
def ay(a b:Nat):Nat:=a/2^b
def bR(a b:Nat):Nat:=a*2^b%18446744073709551616
def fh(a:Nat):Nat:=a%4294967296
def jq(a b:Nat):Nat:=a|||b
def Mt(n:Int):IntKind.wrap .u64 n=n%18446744073709551616:=by simp[IntKind.wrap,IntKind.bits,IntKind.signed]
def BP{n:Int}(h1:0<=n)(h2:n<18446744073709551616):bn .u64 n=n:=by rw[zB,Mt];omega
def Mv(n:Int):bn .u64 n=n%18446744073709551616:=by rw[zB,Mt]
def Zw1{b:Int}(h0:0<=b)(h1:b<=64):yo .shr .u64 (a:Int) b=some (.int .u64 (ay a b.toNat:Nat)):=by
 unfold yo ay
 have e:min b.toNat (IntKind.bits .u64)=b.toNat:=by simp[IntKind.bits];omega
 rw[aA (by omega),e]
 simp only[au,V.int.injEq,true_and]
 rw[Int.fdiv_eq_ediv_of_nonneg _ (by exact_mod_cast xW _)]
 push_cast
 rfl
def Zw2{b:Int}(h0:0<=b)(h1:b<=64):yo .shl .u64 (a:Int) b=some (.int .u64 (bR a b.toNat:Nat)):=by
 unfold yo bR
 have e:min b.toNat (IntKind.bits .u64)=b.toNat:=by simp[IntKind.bits];omega
 rw[aA (by omega),e]
 show some (V.int .u64 (IntKind.wrap .u64 ((a:Int)*2^b.toNat)))=_
 rw[Mt]
 have:(((a*2^b.toNat%18446744073709551616:Nat)):Int)=(a:Int)*2^b.toNat%18446744073709551616:=by
  rw[Int.natCast_emod,LK,Int.natCast_pow];rfl
 rw[this]
def Tz(a:Nat)(h:a<18446744073709551616):(BitVec.ofInt 64 (a:Int)).toNat=a:=by
 simp[BitVec.toNat_ofInt];omega
def Zrl(h:a<18446744073709551616):qT .and .u64 (a:Int) 4294967295=some (.int .u64 (fh a:Nat)):=by
 show some (V.int .u64 (IntKind.wrap .u64 (BitVec.ofInt 64 (a:Int)&&& BitVec.ofInt 64 4294967295).toNat))=_
 rw[Mt,BitVec.toNat_and,Tz a h]
 have e:(BitVec.ofInt 64 4294967295).toNat=2^32-1:=by decide
 rw[e,Nat.and_two_pow_sub_one_eq_mod]
 unfold fh
 simp only[au,V.int.injEq,true_and]
 omega
def Yb9(h:a<18446744073709551616)(h':b<18446744073709551616):qT .or .u64 (a:Int) (b:Int)=some (.int .u64 (jq a b:Nat)):=by
 show some (V.int .u64 (IntKind.wrap .u64 (BitVec.ofInt 64 (a:Int)|||BitVec.ofInt 64 (b:Int)).toNat))=_
 rw[Mt,BitVec.toNat_or,Tz a h,Tz b h']
 have:=Nat.or_lt_two_pow (n:=64) h h'
 unfold jq
 simp only[au,V.int.injEq,true_and]
 omega
def cQ(a b:Nat):Nat:=(a+b)%18446744073709551616
def ga(a b:Nat):Nat:=((a:Int)-b).toNat%18446744073709551616+(if a<b then (((a:Int)-b)%18446744073709551616).toNat else 0)
def cX(a b:Nat):Nat:=(a*b)%18446744073709551616
def zgr(a b:Nat):Nat:=a/b
def PD(a b:Nat):Nat:=a%b
def Zws:bn .u64 ((a:Int)+(b:Int))=(cQ a b:Nat):=by rw[Mv];unfold cQ;omega
def Zoa:bn .u64 ((a:Int)-(b:Int))=(ga a b:Nat):=by
 rw[Mv];unfold ga
 split<;>omega
def Zsi:bn .u64 ((a:Int)-1)=(ga a 1:Nat):=Zoa (b:=1)
def Zkq:bn .u64 ((a:Int)*(b:Int))=(cX a b:Nat):=by
 rw[Mv];unfold cX
 rw[<-LK];omega
def Zqe:bn .u64 ((a:Int)*4294967296)=(cX a 4294967296:Nat):=Zkq (b:=4294967296)
def Zo8:bn .u64 (4294967296*(a:Int))=(cX 4294967296 a:Nat):=Zkq (a:=4294967296)
def Zwr(h:a<18446744073709551616):bn .u64 ((a:Int).tdiv (b:Int))=(zgr a b:Nat):=by
 rw[Mv];unfold zgr
 have e:((a:Int).tdiv (b:Int))=((a/b:Nat):Int):=rfl
 have:=uZ a b
 rw[e]
 generalize a/b=q at*
 omega
def Zzr:(a:Int).tmod (b:Int)=(PD a b:Nat):=rfl
def Em(h:b<=a)(ha:a<18446744073709551616):ga a b=a-b:=by unfold ga;split<;>omega
def Ylh:cQ a b<18446744073709551616:=kW _ (by decide)
def Yjs:cX a b<18446744073709551616:=kW _ (by decide)
def Zpg:bR a b<18446744073709551616:=kW _ (by decide)
def Zzs:ga a b<18446744073709551616:=by unfold ga;split<;>omega
def Zu2(h:a<18446744073709551616):ay a b<18446744073709551616:=lG (uZ _ _) h
attribute [simp] Ylh Yjs Zpg Zzs Zws Zoa Zsi Zkq Zqe Zo8 Zwr Zzr Zw1 Zw2 Zrl Yb9
def JM(st:St)(e:Ext)(o:Option (List V)):Option (V×St):=match e,o with
  |.same,some [v]=>some (v,st)
  |e,some l=>match B9 e l with
   |some v=>some (v,st)
   |none=>none
  |_,none=>none
def Yfg{e:Ext}{args:List Src}{call:cM}{st:St}:Jh e args call r st=JM st e (tY r args):=rfl
def Ycq{st:St}:JM st .same (some [v])=some (v,st):=rfl
def Zyv{st:St}{x y c:Int}(h:c=0\/c=1):JM st .nS (some [.int .u64 x,.int .u64 y,.int .u64 c])=some (.aS [.int .u64 (bC (x.toNat+y.toNat+c.toNat):Nat),.int .u64 (cC (x.toNat+y.toNat+c.toNat):Nat)],st):=by
 simp only[JM,B9,h,not_true_eq_false,if_false]
 rfl
def Zyu{st:St}{x y c:Int}(h:c=0\/c=1):JM st .nT (some [.int .u64 x,.int .u64 y,.int .u64 c])=some (.aS [.int .u64 (eJ x.toNat y.toNat c.toNat:Nat),.int .u64 (fL x.toNat y.toNat c.toNat:Nat)],st):=by
 simp only[JM,B9,h,not_true_eq_false,if_false,fL]
 split<;>rfl
def Ybz:bC n<18446744073709551616:=kW _ (by decide)
def Yi0{c:Nat}:eJ a b c<18446744073709551616:=kW _ (by decide)
attribute [simp] Ybz Yi0 Yfg Ycq Zyv Zyu
def pr(st:St)(size:Nat):Option V->Option (Option V)->Option (Option V)->Option (Option V)->Option (V×St)
 |some v,some lo,some hi,some mx=>qU size (.const v) (lo.map .const) (hi.map .const) (mx.map .const) Zp5 .nil st
 |_,_,_,_=>none
def JN{o:Option V}:aC r (o.map .const)=some o:=by cases o<;>rfl
def M7{lo hi mx:Option Src}{call:cM}{st:St}:qU size x lo hi mx call r st=pr st size (x.ev r) (aC r lo) (aC r hi) (aC r mx):=by
 unfold pr qU
 rcases x.ev r with _|v
 ·rfl
 ·rcases aC r lo with _|lo
  ·cases v<;>try rfl
   rename_i c _;cases c<;>rfl
  ·rcases aC r hi with _|hi
   ·cases v<;>try rfl
    rename_i c _;cases c<;>rfl
   ·rcases aC r mx with _|mx
    ·cases v<;>try rfl
     rename_i c _;cases c<;>rfl
    ·simp only[JN];rfl
def Sl(h:T O)(N:Nat)(v:V)(l:List V):Prop:=
 (l=[]/\(v=.aa\/v=.empty))\/∃i o cp c e rw,v=.slice i o l.length cp 1/\i<N/\h.get i=some (.cells c e rw)/\(∀j,j<l.length->c[o+j]?=l[j]?)/\o+l.length<=c.length/\∀k,cp=some k->l.length<=k
def Sl.nil:Sl h N .aa []:=.inl ⟨rfl,.inl rfl⟩
def Sl.row{L:Nat}{l:List V}{e:TypeId}{rw:Bool}{cp:Option Nat}(hi:i<N)(hg:h.get i=some (.cells l e rw))(hL:l.length=L)(hc:∀k,cp=some k->L<=k):Sl h N (.slice i 0 L cp 1) l:=
 .inr ⟨i,0,cp,l,e,rw,by rw[hL],hi,hg,fun j _=>by rw[vW],by omega,fun k hk=>by rw[hL];exact hc k hk⟩
def Sl.ah{h':T O}{N':Nat}{l:List V}(s:Sl h N v l)(k:ae h N h' N'):Sl h' N' v l:=by
 rcases s with s|⟨i,o,cp,c,e,rw,h1,h2,h3,h4⟩
 ·exact .inl s
 ·exact .inr ⟨i,o,cp,c,e,rw,h1,h_ h2 k.le,(k.get i h2).trans h3,h4⟩
def Sl.len{l:List V}(s:Sl h N v l):r_ v=some l.length:=by
 rcases s with⟨rfl,rfl|rfl⟩|⟨i,o,cp,c,e,rw,rfl,_⟩<;>rfl
def Sl.at{l:List V}(s:Sl h N v l){j:Nat}{x:V}(hj:l[j]?=some x):∃i o c e rw,AF v=some (i,o)/\i<N/\h.get i=some (.cells c e rw)/\c[o+j]?=some x:=by
 have hl:j<l.length:=by
  apply tV;intro hc;rw[mb hc]at hj;cases hj
 rcases s with⟨rfl,_⟩|⟨i,o,cp,c,e,rw,rfl,h2,h3,h4,_⟩
 ·simp at hl
 ·exact⟨i,o,c,e,rw,rfl,h2,h3,(h4 j hl).trans hj⟩
def val(b:Nat):List Nat->Nat
 |[]=>0
 |d::l=>d+b*val b l
def dg(l:List Nat):List V:=l.map fun n:Nat=>.int .u64 n
def dgi(l:List Nat):List V:=l.map fun n:Nat=>.int .i64 n
def Zab(l:List Nat):(dg l).length=l.length:=by simp[dg]
def aq(l:List Nat):(dgi l).length=l.length:=by simp[dgi]
def fH{j:Nat}(h:l[j]?=some n):(dg l)[j]?=some (.int .u64 n):=by simp[dg,h]
attribute [simp] Zab aq
def pw{v:Nat}(h:k<l.length):ag (dg l) k [.int .u64 v]=dg (l.set k v):=by
 unfold ag dg
 apply qG
 intro j
 simp only[zy,mL,List.getElem?_set]
 rw[sQ,List.getElem?_append,lW,Yxu]
 by_cases h1:j<k
 ·rw[aQ (by omega),lX,aQ h1,mL,aA (by omega)]
 ·rw[aA (by omega)]
  by_cases h2:j=k
  ·subst h2
   rw[show j-min j l.length=0 by omega,aQ rfl,aQ h];rfl
  ·rw[show j-min k l.length=(j-k-1)+1 by omega,aA (by omega)]
   simp only[SL,DI,ix,mL]
   rw[show k+1+(j-k-1)=j by omega]
def JO:dw [.int .u64 0] n=dg (List.replicate n 0):=by
 unfold dw dg
 apply qG
 intro j
 simp only[zy,tE,mL,List.getElem?_replicate]
 by_cases h:j<n
 ·simp[h,Nat.mod_one]
 ·simp[h]
def Yg9{z:V}:dw [z] n=List.replicate n z:=by
 unfold dw
 apply qG
 intro j
 simp only[zy,tE,mL,List.getElem?_replicate]
 by_cases h:j<n
 ·simp[h,Nat.mod_one]
 ·simp[h]
def TG(b:Nat):∀(l m:List Nat),val b (l++m)=val b l+b^l.length*val b m
 |[],m=>by simp[val]
 |d::l,m=>by
  simp only[zf,val,TG b l m,ak,fO]
  grind
def TH(b:Nat)(l:List Nat)(d:Nat):val b (l++[d])=val b l+b^l.length*d:=by simp[TG,val]
def Zqg(b n:Nat):val b (List.replicate n 0)=0:=by
 induction n with
 |zero=>rfl
 |succ n ih=>simp[List.replicate_succ,val,ih]
def En{d:Nat}(h:l[k]?=some d):val b (l.take (k+1))=val b (l.take k)+b^k*d:=by
 have hk:k<l.length:=by
  apply tV;intro hc;rw[mb hc]at h;cases h
 rw[HY,h]
 simp only[Option.toList]
 rw[TH,lW,pA (by omega)]
def Eo{b:Nat}:∀{l:List Nat},(∀d∈l,d<b)->val b l<b^l.length
 |[],_=>by simp[val]
 |d::l,h=>by
  have h1:=h d oM
  have h2:=Eo (l:=l) fun e he=>h e (mD _ he)
  simp only[val,ak,fO]
  have:b*(val b l+1)<=b*b^l.length:=je b h2
  rw[gk (b^l.length) b]
  grind
def B:Nat:=18446744073709551616
def Dg(l:List Nat):Prop:=∀d∈l,d<B
def Dg.get(h:Dg l){j d:Nat}(hj:l[j]?=some d):d<B:=h d (eZ hj)
def dz(l:List Nat)(j:Nat):Nat:=l[j]?.getD 0
def Ync{l:List Nat}(h:Dg l)(j:Nat):dz l j<B:=by
 unfold dz
 cases hj:l[j]? with
 |none=>decide
 |some d=>exact h.get hj
def CN{b:Nat}{l:List Nat}{k:Nat}:val b (l.take (k+1))=val b (l.take k)+b^k*dz l k:=by
 unfold dz
 cases h:l[k]? with
 |some d=>exact En h
 |none=>
  have hk:l.length<=k:=by
   apply yl;intro hc;rw[eA hc]at h;cases h
  rw[iP (by omega),iP hk];simp
def se:List Nat->List Nat
 |[]=>[]
 |d::l=>match se l with
  |[]=>if d=0 then [] else [d]
  |t=>d::t
def Zoc:∀(l:List Nat),se (l++[0])=se l
 |[]=>rfl
 |d::l=>by simp only[zf,se,Zoc l]
def Zod{d:Nat}(hd:d≠0):∀(l:List Nat),se (l++[d])=l++[d]
 |[]=>by simp[se,hd]
 |e::l=>by
  simp only[zf,se,Zod hd l]
  cases l<;>rfl
def jR:List (Nat×Nat)->Nat->Bool
 |[],_=>false
 |(a,b)::D,t=>(Nat.ble a t&&Nat.ble t b)||jR D t
def Ykk{t:Nat}:jR [] t=false:=rfl
def Yf1{D:List (Nat×Nat)}{t:Nat}:jR ((a,b)::D) t=((Nat.ble a t&&Nat.ble t b)||jR D t):=rfl
attribute [simp] Ykk Yf1
structure Fx (D:List (Nat×Nat)) (r0:T V) (n:Nat) (fr:Fr):Prop where
 reg:∀t,jR D t=false->fr.r.get t=r0.get t
 n:fr.n=n
 marks:fr.marks=[]
def Fx.refl{D:List (Nat×Nat)}:Fx D r n ⟨r,n,[]⟩:=⟨fun _ _=>rfl,rfl,rfl⟩
def Fx.set{D:List (Nat×Nat)}{t:Nat}(ht:jR D t=true):Fx D r0 n ⟨r.set t v,n,[]⟩↔Fx D r0 n ⟨r,n,[]⟩:=by
 constructor
 ·intro h
  refine⟨fun u hu=>?_,rfl,rfl⟩
  have:=h.reg u hu
  simp only[T.aj]at this
  rw[aA]at this
  ·exact this
  ·rintro rfl;rw[ht]at hu;cases hu
 ·intro h
  refine⟨fun u hu=>?_,rfl,rfl⟩
  simp only[T.aj]
  rw[aA]
  ·exact h.reg u hu
  ·rintro rfl;rw[ht]at hu;cases hu
attribute [simp] Fx.set
def Yn8(D' D:List (Nat×Nat)):Bool:=D'.all fun p=>D.any fun q=>Nat.ble q.1 p.1&&Nat.ble p.2 q.2
def Yca{D:List (Nat×Nat)}{t:Nat}:jR D t=true↔∃p∈D,p.1<=t/\t<=p.2:=by
 induction D with
 |nil=>simp[jR]
 |cons p D ih=>obtain⟨a,b⟩:=p;simp[jR,ih]
def Yit{D' D:List (Nat×Nat)}(h:Yn8 D' D=true){t:Nat}(ht:jR D t=false):jR D' t=false:=by
 cases hc:jR D' t with
 |false=>rfl
 |true=>
  obtain⟨p,hp,h1,h2⟩:=Yca.1 hc
  unfold Yn8 at h
  rw[sN]at h
  obtain⟨q,hq,h3⟩:=List.any_eq_true.1 (h p hp)
  simp at h3
  have:jR D t=true:=Yca.2 ⟨q,hq,by omega,by omega⟩
  rw[ht]at this;cases this
def Fx.inner{D D':List (Nat×Nat)}{r1 r2:T V}(hf:Fx D r0 n ⟨r,n,[]⟩)(hs:Yn8 D' D=true)(h1:Fx D r0 n ⟨r,n,[]⟩->Fx D r0 n ⟨r1,n,[]⟩)(h2:∀t,jR D' t=false->r2.get t=r1.get t):Fx D r0 n ⟨r2,n,[]⟩:=
 ⟨fun t ht=>(h2 t (Yit hs ht)).trans ((h1 hf).reg t ht),rfl,rfl⟩
def Rd(D:List (Nat×Nat))(r0:T V)(n:Nat)(I:Nat->T V->St->Prop)(k:Nat)(P:Ex->T V->St->Prop):Ex->Fr->St->Prop
 |.normal,fr,st=>Fx D r0 n fr/\∃k',k'<k/\I k' fr.r st
 |e,fr,st=>Fx D r0 n fr/\P e fr.r st
def Zsf{D r0 n I k P r st}:Rd D r0 n I k P .normal ⟨r,n,[]⟩ st↔Fx D r0 n ⟨r,n,[]⟩/\∃k',k'<k/\I k' r st:=Iff.rfl
def Ylo{D r0 n I k P r st i}:Rd D r0 n I k P (.exit i) ⟨r,n,[]⟩ st↔Fx D r0 n ⟨r,n,[]⟩/\P (.exit i) r st:=Iff.rfl
def Yno{D r0 n I k P r st}:Rd D r0 n I k P .ret ⟨r,n,[]⟩ st↔Fx D r0 n ⟨r,n,[]⟩/\P .ret r st:=Iff.rfl
attribute [simp] Zsf Ylo Yno
def c_{C:Cx}{ro:Option Nat}{c:cF}{K:List Kf}{Q:Rs->Prop}{OG:St}(D:List (Nat×Nat))(P:Ex->T V->St->Prop)(I:Nat->T V->St->Prop)(k:Nat)(hi:I k r0 OG)
  (h:∀k r st,(∀t,jR D t=false->r.get t=r0.get t)->Fx D r0 n ⟨r,n,[]⟩->I k r st->Code C ro c ⟨r,n,[]⟩ st (Rd D r0 n I k P))
  (q:∀e r st,(∀t,jR D t=false->r.get t=r0.get t)->P e r st->bH C K (some (.ex e ⟨r,n,[]⟩ st)) Q):bH C K (fx (C.code ro (.loop c) ⟨r0,n,[]⟩ OG)) Q:=by
 refine Yex (fun e fr st=>Fx D r0 n fr/\P e fr.r st) (fun k fr st=>Fx D r0 n fr/\I k fr.r st) k ⟨Fx.refl,hi⟩ ?_ ?_
 ·rintro k ⟨r,n',m⟩ st ⟨hf,hi⟩
  have h1:n'=n:=hf.n
  have h2:m=[]:=hf.marks
  subst h1;subst h2
  obtain⟨e,bG,aB,h3,h4⟩:=(h k r st hf.reg hf hi).ex
  refine⟨e,bG,aB,h3,?_⟩
  cases e with
  |normal=>obtain⟨a,k',b,c⟩:=h4;exact⟨k',b,a,c⟩
  |exit i=>exact h4
  |ret=>exact h4
 ·rintro e ⟨r,n',m⟩ st ⟨hf,hp⟩
  have h1:n'=n:=hf.n
  have h2:m=[]:=hf.marks
  subst h1;subst h2
  exact q e r st hf.reg hp
def RS{l:List V}{w:List Nat}(s:Sl h N v l){lo hi:Nat}(h1:lo<=hi)(h2:hi<=l.length)(x y:Option V)(hx:x=some (.int .i64 lo)\/x=none/\lo=0)(hy:y=some (.int .i64 hi)\/y=none/\hi=l.length):
  ∃v',pr ⟨h,N,w⟩ 1 (some v) (some x) (some y) (some none)=some (v',⟨h,N,w⟩)/\Sl h N v' ((l.take hi).drop lo):=by
 rcases s with⟨rfl,rfl|rfl⟩|⟨i,o,cp,c,e,rw,rfl,q2,q3,q4,q5,q6⟩
 ·have:hi=0:=by simpa using h2
  subst this
  have:lo=0:=by omega
  subst this
  refine⟨.aa,?_,.inl ⟨rfl,.inl rfl⟩⟩
  rcases hx with rfl|⟨rfl,_⟩<;>rcases hy with rfl|⟨rfl,_⟩<;>simp[pr,qU,aC,dK,kY]
 ·have:hi=0:=by simpa using h2
  subst this
  have:lo=0:=by omega
  subst this
  refine⟨.empty,?_,.inl ⟨rfl,.inr rfl⟩⟩
  rcases hx with rfl|⟨rfl,_⟩<;>rcases hy with rfl|⟨rfl,_⟩<;>simp[pr,qU,aC,dK,kY]
 ·have hlen:((l.take hi).drop lo).length=hi-lo:=by simp;omega
  have cU:∀j,j<hi-lo->c[o+lo+j]?=((l.take hi).drop lo)[j]?:=fun j hj=>by
   rw[ix,lX,aQ (by omega),show o+lo+j=o+(lo+j) by omega]
   exact q4 _ (by omega)
  have b1:∀m,hi<=m->dK y m l.length=some hi:=fun m hm=>by
   rcases hy with rfl|⟨rfl,rfl⟩
   ·simp[dK,kY];omega
   ·rfl
  have b2:dK x hi 0=some lo:=by
   rcases hx with rfl|⟨rfl,rfl⟩
   ·simp[dK,kY];omega
   ·rfl
  cases cp with
  |some k=>
   have hk:=q6 k rfl
   refine⟨.slice i (if k=lo then o else o+lo) (hi-lo) (some (k-lo)) 1,?_,?_⟩
   ·have b0:dK none k k=some k:=rfl
    simp only[pr,qU,JN,Src.ev,tE]
    simp[b0,b1 k (by omega),b2]
   ·by_cases xM:k=lo
    ·refine .inr ⟨i,o,some 0,c,e,rw,?_,q2,q3,fun j hj=>by rw[hlen]at hj;omega,by rw[hlen];omega,fun k' mi=>by rw[hlen];omega⟩
     rw[hlen,aQ xM,show k-lo=0 by omega]
    ·refine .inr ⟨i,o+lo,some (k-lo),c,e,rw,?_,q2,q3,fun j hj=>cU j (by omega),by rw[hlen];omega,fun k' mi=>by simp at mi;rw[hlen];omega⟩
     rw[hlen,aA xM]
  |none=>
   have hk:hi<=max l.length (c.length-o):=by omega
   by_cases aP:lo<max l.length (c.length-o)
   ·refine⟨.slice i (o+lo) (hi-lo) none 1,?_,.inr ⟨i,o+lo,none,c,e,rw,by rw[hlen],q2,q3,fun j hj=>cU j (by omega),by rw[hlen];omega,fun k' mi=>by cases mi⟩⟩
    simp only[pr,qU,JN,Src.ev,St.row,q3,Nat.div_one,tE]
    simp[b1 _ hk,b2,aP]
   ·refine⟨.empty,?_,.inl ⟨kJ (by rw[hlen];omega),.inr rfl⟩⟩
    simp only[pr,qU,JN,Src.ev,St.row,q3,Nat.div_one,tE]
    simp[b1 _ hk,b2,aP]
def Zpi{m v:Nat}(hk:l.length=k):(l++List.replicate (m+1) 0).set k v=(l++[v])++List.replicate m 0:=by
 subst hk
 rw[List.set_append_right _ _ (aZ _)]
 simp[List.replicate_succ]
def aN(n:Nat):List Nat:=if h:n=0 then [] else n%B::aN (n/B)
termination_by n
decreasing_by exact B7 (by omega) (by decide)
def q_:aN 0=[]:=by rw[aN];simp
def mW(h:n≠0):aN n=n%B::aN (n/B):=by rw[aN];simp[h]
def mB:∀(n:Nat),val B (aN n)=n:=by
 intro n
 induction n using Nat.strongRecOn with
 |_ n ih=>
  by_cases h:n=0
  ·subst h;rw[q_];rfl
  ·rw[mW h]
   simp only[val]
   rw[ih (n/B) (B7 (by omega) (by decide))]
   have:=tW n B
   omega
def rb(n:Nat):Dg (aN n):=by
 induction n using Nat.strongRecOn with
 |_ n ih=>
  by_cases h:n=0
  ·subst h;rw[q_];intro d hd;cases hd
  ·rw[mW h]
   intro d hd
   rcases ku.1 hd with rfl|hd
   ·exact kW _ (by decide)
   ·exact ih (n/B) (B7 (by omega) (by decide)) d hd
def CO:∀{l:List Nat},Dg l->se l=aN (val B l)
 |[],_=>by simp[se,val,q_]
 |d::l,h=>by
  have ih:=CO (l:=l) fun e he=>h e (mD _ he)
  have hd:d<B:=h d oM
  simp only[se,val,ih]
  by_cases h0:val B l=0
  ·rw[h0,q_]
   simp only[Nat.mul_zero,tF]
   by_cases kv:d=0
   ·simp[kv,q_]
   ·rw[mW kv,xA hd,zu hd,q_];simp[kv]
  ·have hB:0<B:=by decide
   have h1:(d+B*val B l)/B=val B l:=by
    rw[Nat.add_mul_div_left _ _ hB,zu hd,vW]
   have h2:(d+B*val B l)%B=d:=by
    rw[Nat.add_mul_mod_self_left,xA hd]
   have h3:d+B*val B l≠0:=by
    intro hc
    have:B*val B l=0:=by omega
    rcases Nat.mul_eq_zero.1 this with h|h
    ·omega
    ·exact h0 h
   rw[mW h3,h1,h2]
   split
   ·rename_i hc;rw[mW h0]at hc;cases hc
   ·rfl
def Wn(h:T O)(N:Nat)(v:V)(n:Nat):Prop:=Sl h N v (dg (aN n))
def Wn.ah{h':T O}{N':Nat}(s:Wn h N v n)(k:ae h N h' N'):Wn h' N' v n:=Sl.ah s k
variable {N bytes z:Nat} {h:T O} {l:List (List V)} {v:V}
def R6{α:Type}{c:List α}{o n:Nat}{x:List α}(h:aE c o n=some x):o+n<=c.length/\x=(c.drop o).take n:=by
 unfold aE at h
 split at h
 ·rename_i hl;simp at h;exact⟨hl,h.symm⟩
 ·cases h
def Yiu{α:Type}{c:List α}{o n:Nat}{x:List α}(h:aE c o n=some x){f:Nat}(hf:f<n):c[o+f]?=x[f]?:=by
 obtain⟨_,rfl⟩:=R6 h
 rw[lX,aQ hf,ix]
def Sn(z:Nat)(h:T O)(N:Nat)(v:V)(l:List (List V)):Prop:=
 (l=[]/\(v=.aa\/v=.empty))\/∃i o cp c e rw,v=.slice i o l.length cp z/\i<N/\h.get i=some (.cells c e rw)/\(∀j x,l[j]?=some x->aE c (o+j*z) z=some x)/\o+l.length*z<=c.length/\∀k,cp=some k->l.length<=k
def Sn.nil:Sn z h N .aa []:=.inl ⟨rfl,.inl rfl⟩
def Sn.ah{h':T O}{N':Nat}(s:Sn z h N v l)(k:ae h N h' N'):Sn z h' N' v l:=by
 rcases s with s|⟨i,o,cp,c,e,rw,h1,h2,h3,h4⟩
 ·exact .inl s
 ·exact .inr ⟨i,o,cp,c,e,rw,h1,h_ h2 k.le,(k.get i h2).trans h3,h4⟩
def Sn.len(s:Sn z h N v l):r_ v=some l.length:=by
 rcases s with⟨rfl,rfl|rfl⟩|⟨i,o,cp,c,e,rw,rfl,_⟩<;>rfl
def Sn.at(s:Sn z h N v l){j:Nat}{x:List V}(hj:l[j]?=some x):∃i o c e rw,AF v=some (i,o)/\i<N/\h.get i=some (.cells c e rw)/\aE c (o+j*z) z=some x:=by
 have hl:j<l.length:=by
  apply tV;intro hc;rw[mb hc]at hj;cases hj
 rcases s with⟨rfl,_⟩|⟨i,o,cp,c,e,rw,rfl,h2,h3,h4,_⟩
 ·simp at hl
 ·exact⟨i,o,c,e,rw,rfl,h2,h3,h4 j x hj⟩
def Zzy(hz:0<z){h:T O}{N:Nat}{v:V}{l:List (List V)}{w:List Nat}(s:Sn z h N v l){lo hi:Nat}(h1:lo<=hi)(h2:hi<=l.length)(x y:Option V)(hx:x=some (.int .i64 lo)\/x=none/\lo=0)(hy:y=some (.int .i64 hi)\/y=none/\hi=l.length):
  ∃v',pr ⟨h,N,w⟩ z (some v) (some x) (some y) (some none)=some (v',⟨h,N,w⟩)/\Sn z h N v' ((l.take hi).drop lo):=by
 rcases s with⟨rfl,rfl|rfl⟩|⟨i,o,cp,c,e,rw,rfl,q2,q3,q4,q5,q6⟩
 ·have:hi=0:=by simpa using h2
  subst this
  have:lo=0:=by omega
  subst this
  refine⟨.aa,?_,.inl ⟨rfl,.inl rfl⟩⟩
  rcases hx with rfl|⟨rfl,_⟩<;>rcases hy with rfl|⟨rfl,_⟩<;>simp[pr,qU,aC,dK,kY]
 ·have:hi=0:=by simpa using h2
  subst this
  have:lo=0:=by omega
  subst this
  refine⟨.empty,?_,.inl ⟨rfl,.inr rfl⟩⟩
  rcases hx with rfl|⟨rfl,_⟩<;>rcases hy with rfl|⟨rfl,_⟩<;>simp[pr,qU,aC,dK,kY]
 ·have hlen:((l.take hi).drop lo).length=hi-lo:=by simp;omega
  have cU:∀j u,((l.take hi).drop lo)[j]?=some u->aE c (o+lo*z+j*z) z=some u:=fun j u hu=>by
   have hj:j<hi-lo:=by
    rw[<-hlen];apply tV;intro hc;rw[mb hc]at hu;cases hu
   rw[ix,lX,aQ (by omega)]at hu
   have:=q4 _ _ hu
   rw[show o+lo*z+j*z=o+(lo+j)*z by rw[jg];omega]
   exact this
  have hmul:lo*z+(hi-lo)*z<=l.length*z:=by
   rw[<-jg];exact ky _ (by omega)
  have b1:∀m,hi<=m->dK y m l.length=some hi:=fun m hm=>by
   rcases hy with rfl|⟨rfl,rfl⟩
   ·simp[dK,kY];omega
   ·rfl
  have b2:dK x hi 0=some lo:=by
   rcases hx with rfl|⟨rfl,rfl⟩
   ·simp[dK,kY];omega
   ·rfl
  cases cp with
  |some k=>
   have hk:=q6 k rfl
   refine⟨.slice i (if k=lo then o else o+lo*z) (hi-lo) (some (k-lo)) z,?_,?_⟩
   ·have b0:dK none k k=some k:=rfl
    simp only[pr,qU,JN,Src.ev]
    simp[b0,b1 k (by omega),b2]
   ·by_cases xM:k=lo
    ·have h0:(l.take hi).drop lo=[]:=kJ (by rw[hlen];omega)
     refine .inr ⟨i,o,some (k-lo),c,e,rw,?_,q2,q3,fun j u hu=>by rw[h0]at hu;simp at hu,by rw[h0];simp;omega,fun k' mi=>by rw[h0];simp⟩
     rw[hlen,aQ xM]
    ·refine .inr ⟨i,o+lo*z,some (k-lo),c,e,rw,?_,q2,q3,cU,by rw[hlen];omega,fun k' mi=>by simp at mi;rw[hlen];omega⟩
     rw[hlen,aA xM]
  |none=>
   have R7:l.length<=(c.length-o)/z:=by
    rw[LI hz];omega
   have hk:hi<=max l.length ((c.length-o)/z):=by omega
   have pd:z≠0:=by omega
   by_cases aP:lo<max l.length ((c.length-o)/z)
   ·refine⟨.slice i (o+lo*z) (hi-lo) none z,?_,.inr ⟨i,o+lo*z,none,c,e,rw,by rw[hlen],q2,q3,cU,by rw[hlen];omega,fun k' mi=>by cases mi⟩⟩
    simp only[pr,qU,JN,Src.ev,St.row,q3]
    simp[b1 _ hk,b2,aP,pd]
   ·refine⟨.empty,?_,.inl ⟨kJ (by rw[hlen];omega),.inr rfl⟩⟩
    simp only[pr,qU,JN,Src.ev,St.row,q3]
    simp[b1 _ hk,b2,aP,pd]
def Sn.one{l:List V}:Sn 1 h N v (l.map fun x=>[x])↔Sl h N v l:=by
 unfold Sn Sl
 constructor
 ·rintro(⟨h1,h2⟩|⟨i,o,cp,c,e,rw,h1,h2,h3,h4,h5,h6⟩)
  ·exact .inl ⟨by simpa using h1,h2⟩
  ·refine .inr ⟨i,o,cp,c,e,rw,by simpa using h1,h2,h3,fun j hj=>?_,by simpa using h5,by simpa using h6⟩
   have:=h4 j [l[j]] (by simp[eA hj])
   have:=Yiu this (f:=0) (by omega)
   simp at this
   rw[this,eA hj]
 ·rintro(⟨h1,h2⟩|⟨i,o,cp,c,e,rw,h1,h2,h3,h4,h5,h6⟩)
  ·exact .inl ⟨by simpa using h1,h2⟩
  ·refine .inr ⟨i,o,cp,c,e,rw,by simpa using h1,h2,h3,fun j x hj=>?_,by simpa using h5,by simpa using h6⟩
   simp at hj
   obtain⟨u,hu,rfl⟩:=hj
   have hl:j<l.length:=by
    apply tV;intro hc;rw[mb hc]at hu;cases hu
   have:=h4 j hl
   rw[hu]at this
   have hc:o+j<c.length:=by omega
   unfold aE
   rw[aQ (by omega),tE,IT hc]
   rw[eA hc]at this
   simp at this
   simp[this]
def Own(z:Nat)(e:TypeId)(N0:Nat)(h:T O)(N:Nat)(v:V)(l:List (List V)):Prop:=
 (∀x∈l,x.length=z)/\((l=[]/\v=.aa)\/∃i,v=.slice i 0 l.length none z/\N0<=i/\i<N/\h.get i=some (.cells l.flatten e true))
def Own.nil{e:TypeId}{N0:Nat}:Own z e N0 h N .aa []:=⟨fun _ h=>by simp at h,.inl ⟨rfl,rfl⟩⟩
def Own.ah{e:TypeId}{N0:Nat}{h':T O}{N':Nat}(s:Own z e N0 h N v l)(k:ae h N h' N'):Own z e N0 h' N' v l:=by
 obtain⟨hl,s|⟨i,h1,h2,h3,h4⟩⟩:=s
 ·exact⟨hl,.inl s⟩
 ·exact⟨hl,.inr ⟨i,h1,h2,h_ h3 k.le,(k.get i h3).trans h4⟩⟩
def Own.len{e:TypeId}{N0:Nat}(s:Own z e N0 h N v l):r_ v=some l.length:=by
 obtain⟨_,⟨rfl,rfl⟩|⟨i,rfl,_⟩⟩:=s<;>rfl
def vX{z:Nat}:∀{l:List (List V)},(∀x∈l,x.length=z)->l.flatten.length=l.length*z
 |[],_=>by simp
 |x::l,h=>by
  have h1:=h x oM
  have h2:=vX (l:=l) fun y hy=>h y (mD _ hy)
  simp only[List.flatten_cons,jb,h1,h2,ak,jg];omega
def KV{z:Nat}:∀{l:List (List V)},(∀x∈l,x.length=z)->∀{j:Nat} {x:List V},l[j]?=some x->aE l.flatten (j*z) z=some x
 |[],_,j,x,hj=>by simp at hj
 |y::l,h,0,x,hj=>by
  have h1:=h y oM
  simp at hj;subst hj
  unfold aE
  simp[<-h1]
 |y::l,h,j+1,x,hj=>by
  have h1:=h y oM
  have h2:=KV (l:=l) (fun y hy=>h y (mD _ hy)) (j:=j) (x:=x) (by simpa using hj)
  obtain⟨h3,h4⟩:=R6 h2
  unfold aE
  rw[aQ (by simp only[List.flatten_cons,jb,jg,h1];omega),h4]
  congr 2
  rw[List.flatten_cons,jg,Nat.one_mul,Nat.add_comm,<-List.drop_drop,<-h1,List.drop_left]
def Own.sn{e:TypeId}{N0:Nat}(s:Own z e N0 h N v l):Sn z h N v l:=by
 obtain⟨hl,⟨h1,h2⟩|⟨i,h1,h2,h3,h4⟩⟩:=s
 ·exact .inl ⟨h1,.inl h2⟩
 ·exact .inr ⟨i,0,none,l.flatten,e,true,h1,h3,h4,fun j x hj=>by rw[vW];exact KV hl hj,by rw[vX hl];omega,fun k hk=>by cases hk⟩
def Zup(st:St)(size bytes:Nat)(e:TypeId):Option V->Option V->Option (V×St)
 |some s,some x=>l8 st size bytes e s x
 |_,_=>none
def Ztg{size:Nat}{e:TypeId}{z:List V}{s x:Src}{call:cM}{r:T V}{st:St}:Cd size bytes e z s x call r st=Zup st size bytes e (s.ev r) (x.ev r):=by
 unfold Cd Zup;rfl
def Zsa{st:St}{size:Nat}{e:TypeId}{s x:V}:Zup st size bytes e (some s) (some x)=l8 st size bytes e s x:=rfl
attribute [simp] Ztg Zsa
def xh{e:TypeId}{N0:Nat}{u:V}{x:List V}{w:List Nat}(s:Own z e N0 h N v l)(hN:N0<=N)(hz:0<z)(hx:x.length=z)
  (hu:gp ⟨h,N,w⟩ z u=some (1,x)) (hb:2*(l.length+1)*bytes<=281474976710656):
  ∃v' h' w',l8 ⟨h,N,w⟩ z bytes e v u=some (v',⟨h',N+1,w'⟩)/\aD N0 w'=aD N0 w/\ae h N0 h' (N+1)/\(∀j,h'.get j=h.get j\/j=N\/(∃o n c q,v=.slice j o n c q))/\Own z e N0 h' (N+1) v' (l++[x]):=by
 obtain⟨hl,s⟩:=s
 have yw:∀y∈l++[x],y.length=z:=fun y hy=>by
  rcases l7.1 hy with hy|hy
  ·exact hl y hy
  ·simp at hy;rw[hy,hx]
 have pd:z≠0:=by omega
 rcases s with⟨rfl,rfl⟩|⟨i,rfl,h2,h3,h4⟩
 ·refine⟨.slice N 0 1 none z,h.set N (.cells x e true),w,?_,rfl,⟨by omega,fun j hj=>by rw[T.aj,aA (by omega)]⟩,fun j=>by rw[T.aj];by_cases hj:j=N<;>simp[hj],yw,.inr ⟨N,by simp,hN,by omega,by rw[T.aj];simp⟩⟩
  have tU:2*1*bytes<=281474976710656:=by simpa using hb
  simp only[l8,hu,yW,St.alloc]
  simp[tU,pd]
 ·have pX:=vX hl
  refine⟨.slice N 0 (l.length+1) none z,(h.set i .dead).set N (.cells (l.flatten++x) e true),i::w,?_,by simp[aD,xC.2 h2],⟨by omega,fun j hj=>by rw[T.aj,aA (by omega),T.aj,aA (by omega)]⟩,fun j=>?_,yw,.inr ⟨N,by simp,hN,by omega,by rw[T.aj];simp⟩⟩
  ·simp only[l8,hu,yW,St.row,h4]
   rw[aA (by omega),aA (by rintro(h|h|h)<;>omega)]
   simp only[if_true]
   rw[aA (by rw[pX,jg];omega),aQ ⟨by rw[pX];omega,trivial,trivial⟩]
   rfl
  ·by_cases hj:j=N
   ·exact .inr (.inl hj)
   ·by_cases nM:j=i
    ·exact .inr (.inr ⟨0,l.length,none,z,by rw[nM]⟩)
    ·left;rw[T.aj,aA hj,T.aj,aA nM]
abbrev aU:=List UInt8
def kh(c:UInt8):Bool:=decide (48<=c.toNat/\c.toNat<=57)
def ja:aU->Bool
 |[]=>false
 |c::s=>(c::s).all kh&&(decide (c.toNat≠48)||decide (s=[]))
def ai:aU->Nat
 |[]=>0
 |c::s=>if c.toNat=47 then 0 else ai s+1
def aK(s:aU):Nat:=s.foldl (fun n c=>10*n+(c.toNat-48)) 0
def cP:aU->Bool
 |[]=>false
 |c::_=>decide (c.toNat=45)
def bu(s:aU):aU:=if cP s then s.drop 1 else s
def gH(neg:Bool)(p:aU)(broken:Bool)(d:aU):Bool:=ja p&&!(neg&&decide (p=[48]))&&(!broken||(ja d&&decide (d≠[48])&&decide (d≠[49])))
def kj(neg:Bool)(p:aU)(broken:Bool)(d:aU):Nat:=
 if gH neg p broken d=false then 1 else if 600<p.length\/600<d.length then 4 else if broken=true/\Nat.gcd (aK p) (aK d)≠1 then 1 else 0
def Mi(neg:Bool)(t:aU):Nat:=kj neg (t.take (ai t)) (decide (ai t<t.length)) (t.drop (ai t+1))
def aY(s:aU):Nat:=Mi (cP s) (bu s)
def BQ:∀(s:aU),ai s<=s.length
 |[]=>aZ _
 |c::s=>by
  have:=BQ s
  simp only[ai,ak]
  split<;>omega
structure wR where
 name:aU
 op:aU
 JJ:aU
 k_:List aU
 cost:Int
def pos:List wR->aU->Nat
 |[],_=>0
 |s::g,n=>if s.name=n then 0 else pos g n+1
variable {i:Nat} {j:Int} {k:IntKind} {r:T V} {s:aU} {x:Src}
def Yl8(s:aU)(p:Nat):Int:=(Utf8.decode ⟨s.toArray⟩ p).1
def Yl7(s:aU)(p:Nat):Nat:=(Utf8.decode ⟨s.toArray⟩ p).2
def JH(i:Nat)(st:St):Option (aU×Nat)->Option (V×St)
 |some (s,p)=>if p<s.length then some (.aS [.bool true,.int .i64 p,.int .i32 (Utf8.decode ⟨s.toArray⟩ p).1],st.write i (.eP s (p+(Utf8.decode ⟨s.toArray⟩ p).2))) else some (.aS [.bool false],st)
 |none=>none
def Tw:Option O->Option (aU×Nat)
 |some (.eP s p)=>some (s,p)
 |_=>none
def Yjq(st:St):Option V->Option (V×St)
 |some (.ptr i 0)=>JH i st (Tw (st.h.get i))
 |_=>none
def Zqw{call:cM}{st:St}:Jf x call r st=Yjq st (x.ev r):=by
 unfold Jf Yjq
 rcases x.ev r with _|v
 ·rfl
 ·cases v<;>try rfl
  rename_i i o
  cases o with
  |zero=>
   simp only[Tw,JH]
   rcases st.h.get i with _|o
   ·rfl
   ·cases o<;>rfl
  |succ=>rfl
def Zxj{st:St}:Yjq st (some (.ptr i 0))=JH i st (Tw (st.h.get i)):=rfl
def Zsy{p:Nat}:Tw (some (.eP s p))=some (s,p):=rfl
def Ya7{st:St}{p:Nat}(h:p<s.length):JH i st (some (s,p))=some (.aS [.bool true,.int .i64 p,.int .i32 (Yl8 s p)],st.write i (.eP s (p+Yl7 s p))):=by simp[JH,h,Yl8,Yl7]
def Zxk{st:St}:JH i st (some (s,s.length))=some (.aS [.bool false],st):=by simp[JH]
def Zcg(st:St):Option V->Option (Option V)->Option (Option V)->Option (V×St)
 |some (.str s),some lo,some hi=>match dK hi s.length s.length with
   |some h=>match dK lo h 0 with
    |some l=>some (.str ((s.take h).drop l),st)
    |none=>none
   |none=>none
 |_,_,_=>none
def Zpp{lo hi:Option Src}{call:cM}{st:St}:yq x lo hi call r st=Zcg st (x.ev r) (aC r lo) (aC r hi):=by
 unfold yq Zcg;rfl
def BK{st:St}(h0:0<=j)(h1:j<=s.length):Zcg st (some (.str s)) (some (some (.int k j))) (some none)=some (.str (s.drop j.toNat),st):=by
 simp[Zcg,dK,kY,h0,h1]
def Zks{st:St}(h0:0<=j)(h1:j<=s.length):Zcg st (some (.str s)) (some none) (some (some (.int k j)))=some (.str (s.take j.toNat),st):=by
 simp[Zcg,dK,kY,h0,h1]
def Zog{st:St}{k':IntKind}{i:Int}(h0:0<=i)(h1:i<=j)(h2:j<=s.length):Zcg st (some (.str s)) (some (some (.int k i))) (some (some (.int k' j)))=some (.str ((s.take j.toNat).drop i.toNat),st):=by
 have h3:0<=j:=by omega
 have h4:max j 0=j:=by omega
 simp[Zcg,dK,kY,h0,h1,h2,h3,h4]
def JI(s:aU):List V:=s.map fun b=>.int .u8 (cR b)
def Zy8(s:aU):(JI s).length=s.length:=by simp[JI]
def Zy9{k:Nat}{c:UInt8}(h:s[k]?=some c):(JI s)[k]?=some (.int .u8 (cR c)):=by simp[JI,h]
def sbK(elem:TypeId)(st:St):Option V->Option (V×St)
 |some (.str s)=>some (.slice st.n 0 s.length none 1,st.alloc (.cells (JI s) elem true))
 |_=>none
def Zpo{elem:TypeId}{call:cM}{st:St}:DP elem x call r st=sbK elem st (x.ev r):=by
 unfold DP sbK;rfl
def Yet{elem:TypeId}{st:St}:sbK elem st (some (.str s))=some (.slice st.n 0 s.length none 1,st.alloc (.cells (JI s) elem true)):=rfl
attribute [simp] Zpo Yet Zy8 Zqw Zxj Zsy Ya7 Zxk Zpp BK Zks Zog Je
def Zj6:∀(s:aU) (i:Nat),IZ 47 s i=if ai s<s.length then ((i+ai s:Nat):Int) else -1
 |[],i=>rfl
 |c::s,i=>by
  simp only[IZ,ai]
  have e:(c==47)=decide (c.toNat=47):=by
   rw[Bool.eq_iff_iff]
   simp only[beq_iff_eq,decide_eq_true_eq]
   exact⟨fun h=>by rw[h];rfl,fun h=>UInt8.toNat_inj.1 h⟩
  rw[e]
  by_cases h:c.toNat=47
  ·simp[h]
  ·simp only[h,decide_false,if_false,gV,Zj6 s (i+1),ak]
   by_cases h2:ai s<s.length
   ·rw[aQ h2,aQ (by omega)];omega
   ·rw[aA h2,aA (by omega)]
end Go.Mx
