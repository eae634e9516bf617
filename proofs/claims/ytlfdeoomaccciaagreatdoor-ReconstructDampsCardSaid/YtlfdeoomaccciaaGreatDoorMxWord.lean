/-Slices of which only the elements are kn-/
import Derived.Test.YtlfdeoomaccciaaGreatDoorMxLim
set_option linter.all false
namespace Go.Mx
open Go
variable {N a b i k n o size:Nat} {h:T O} {j:Int} {l:List Nat} {r r0:T V} {v:V} {x:Src}
def pw:V->Option Nat
 |.aa=>some 0
 |.empty=>some 0
 |.slice _ _ n _ _=>some n
 |_=>none
def w_:V->Option (Nat×Nat)
 |.slice i o _ _ _=>some (i,o)
 |_=>none
def XX(st:St):Option Nat->Option (V×St)
 |some n=>some (.int .i64 n,st)
 |none=>none
def XY(st:St):Option V->Option (V×St)
 |some v=>XX st (pw v)
 |none=>none
def Yhv{call:cD}{st:St}:ym 1 x call r st=XY st (x.ev r):=by
 unfold ym XY
 rcases x.ev r with _|v
 ·rfl
 ·cases v<;>rfl
def Ydy{st:St}:XY st (some v)=XX st (pw v):=rfl
def Zz2{st:St}:XX st (some n)=some (.int .i64 n,st):=rfl
def Q1(st:St)(size k:Nat):Option (Nat×Nat)->Option (V×St)
 |some (i,o)=>some (.ptr i (o+k*size),st)
 |none=>none
def MF(st:St)(size:Nat)(v:V)(k:Int):Option Nat->Option (V×St)
 |some n=>if 0<=k/\k<(n:Int) then Q1 st size k.toNat (w_ v) else none
 |none=>none
def XZ(st:St)(size:Nat):Option V->Option V->Option (V×St)
 |some v,some (.int _ k)=>MF st size v k (pw v)
 |_,_=>none
def Zsw{i:Src}{call:cD}{st:St}:Ef size x i call r st=XZ st size (x.ev r) (i.ev r):=by
 unfold Ef XZ
 rcases x.ev r with _|v
 ·rfl
 ·rcases i.ev r with _|u
  ·cases v<;>rfl
  ·cases u<;>cases v<;>simp[MF,Q1,pw,w_]<;>omega
def Ya6{st:St}{k:IntKind}:XZ st size (some v) (some (.int k j))=MF st size v j (pw v):=rfl
def Yfw{st:St}(h0:0<=j)(h1:j<(n:Int)):MF st size v j (some n)=Q1 st size j.toNat (w_ v):=by simp[MF,h0,h1]
def Zwg{st:St}:Q1 st size k (some (i,o))=some (.ptr i (o+k*size),st):=rfl
def Ywh(a b:Int):(a==b)=decide (a=b):=by
 by_cases h:a=b<;>simp[h]
def Ywg(a b:Int):(a !=b)=!decide (a=b):=by
 by_cases h:a=b<;>simp[h]
def Ygm(a b:Nat):((a:Int)+(b:Int)).toNat=a+b:=by omega
def Ygl(a b:Nat):((a:Int)-(b:Int)).toNat=a-b:=by omega
def Yus(a b n:Nat):((a:Int)+(b:Int)<(n:Int))↔a+b<n:=by omega
def Zyn(b:Nat):((64:Int)-(b:Int)).toNat=64-b:=by omega
attribute [simp] Zyn Ywh Ywg Int.natCast_inj Ygm Ygl Yus
def X0(st:St):Option V->Option (V×St)
 |some (.str s)=>some (.int .i64 s.length,st)
 |_=>none
def Yhw{call:cD}{st:St}:ym 0 x call r st=X0 st (x.ev r):=by
 unfold ym X0
 rcases x.ev r with _|v
 ·rfl
 ·cases v<;>rfl
def Ydx{st:St}{s:List UInt8}:X0 st (some (.str s))=some (.int .i64 s.length,st):=rfl
def Zz0{i o n c z}:pw (.slice i o n c z)=some n:=rfl
def Yim:pw .aa=some 0:=rfl
def Zz1:pw .empty=some 0:=rfl
def Zwe{i o n c z}:w_ (.slice i o n c z)=some (i,o):=rfl
attribute [simp] Yhv Yhw Ydx Zz0 Yim Zz1 Zwe Ydy Zz2 Zsw Ya6 Yfw Zwg
def cI(b:UInt8):Int:=b.toNat
def Ybn(b:UInt8):0<=cI b/\cI b<256:=by unfold cI;have:=b.toNat_lt;omega
def Q2(st:St):Option UInt8->Option (V×St)
 |some b=>some (.int .u8 b.toNat,st)
 |none=>none
def Q3(st:St):Option V->Option V->Option (V×St)
 |some (.str s),some (.int _ k)=>if 0<=k then Q2 st s[k.toNat]? else none
 |_,_=>none
def Zu5{i:Src}{call:cD}{st:St}:Eg x i call r st=Q3 st (x.ev r) (i.ev r):=by
 unfold Eg Q3 Q2
 rcases x.ev r with _|v
 ·rfl
 ·rcases i.ev r with _|u
  ·cases v<;>rfl
  ·cases u<;>cases v<;>rfl
def Yd9{st:St}{s:List UInt8}{k:IntKind}(h:0<=j):Q3 st (some (.str s)) (some (.int k j))=Q2 st s[j.toNat]?:=by simp[Q3,h]
def Yai{st:St}{b:UInt8}:Q2 st (some b)=some (.int .u8 (cI b),st):=rfl
attribute [simp] Zu5 Yd9 Yai
def Q4(st:St)(elem:TypeId)(size bytes:Nat)(zero:List V):Option V->Option V->Option (V×St)
 |some (.int _ l),some (.int _ c)=>if 0<=l/\l<=c/\bytes*c<=2^47/\c<2^62/\size=zero.length/\size≠0 then
    some (.slice st.n 0 l.toNat (some c.toNat) size,st.alloc (.cells (dp zero c.toNat) elem true)) else none
 |_,_=>none
def Zsu{elem:TypeId}{bytes:Nat}{zero:List V}{y:Src}{call:cD}{st:St}:Cv elem size bytes zero x y call r st=Q4 st elem size bytes zero (x.ev r) (y.ev r):=by
 unfold Cv Q4;rfl
def Yib{st:St}{elem:TypeId}{bytes:Nat}{zero:List V}{k k':IntKind}{l:Int}(h0:0<=l)(h1:bytes*l<=140737488355328)(h2:l<4611686018427387904)(h3:size=zero.length)(h4:0<size):
  Q4 st elem size bytes zero (some (.int k l)) (some (.int k' l))=some (.slice st.n 0 l.toNat (some l.toNat) size,st.alloc (.cells (dp zero l.toNat) elem true)):=by
 unfold Q4
 simp only[]
 rw[ay ⟨h0,Int.le_refl _,by simpa using h1,by simpa using h2,h3,by omega⟩]
def Q5(n:Nat)(st:St):Option V->Option V->Option (V×St)
 |some (.ptr i o),some v=>match st.row i with
   |some (c,e,true)=>if v.cells.length=n/\o+n<=c.length/\v.cells.all V.one=true then some (.aV [],st.write i (.cells (ad c o v.cells) e true)) else none
   |_=>none
 |_,_=>none
def Zy9{a:Src}{call:cD}{st:St}:Ec n a x call r st=Q5 n st (a.ev r) (x.ev r):=by
 unfold Ec Q5;rfl
def bD(n:Nat)(st:St)(i o:Nat)(v:V):Option O->Option (V×St)
 |some (.cells c e true)=>if v.cells.length=n/\o+n<=c.length/\v.cells.all V.one=true then some (.aV [],st.write i (.cells (ad c o v.cells) e true)) else none
 |_=>none
def Zyr{st:St}:Q5 n st (some (.ptr i o)) (some v)=bD n st i o v (st.h.get i):=by
 unfold Q5 bD St.row
 simp only[]
 rcases st.h.get i with _|x
 ·rfl
 ·cases x with
  |cells c e b=>cases b<;>rfl
  |_=>rfl
def Zlw{w:List Nat}{c:List V}{e:TypeId}(h1:v.cells.length=n)(h2:o+n<=c.length)(h3:v.cells.all V.one=true):
  bD n ⟨h,N,w⟩ i o v (some (.cells c e true))=some (.aV [],⟨h.set i (.cells (ad c o v.cells) e true),N,i::w⟩):=by
 unfold bD
 simp only[]
 rw[ay ⟨h1,h2,h3⟩];rfl
attribute [simp] Zsu Yib Zy9 Zyr Zlw
def bu(n:Nat):Nat:=n%18446744073709551616
def cf(n:Nat):Nat:=n/18446744073709551616
def ew(x y c:Nat):Nat:=(x+18446744073709551616-y-c)%18446744073709551616
def fC(x y c:Nat):Nat:=if x<y+c then 1 else 0
def au(a b:Nat):Nat:=a/2^b
def bK(a b:Nat):Nat:=a*2^b%18446744073709551616
def eM(a:Nat):Nat:=a%4294967296
def jq(a b:Nat):Nat:=a|||b
def JW(n:Int):IntKind.wrap .u64 n=n%18446744073709551616:=by simp[IntKind.wrap,IntKind.bits,IntKind.signed]
def EP{n:Int}(h1:0<=n)(h2:n<18446744073709551616):bl .u64 n=n:=by rw[zZ,JW];omega
def JX(n:Int):bl .u64 n=n%18446744073709551616:=by rw[zZ,JW]
def Zyt{b:Int}(h0:0<=b)(h1:b<=64):y8 .shr .u64 (a:Int) b=some (.int .u64 (au a b.toNat:Nat)):=by
 unfold y8 au
 have e:min b.toNat (IntKind.bits .u64)=b.toNat:=by simp[IntKind.bits];omega
 rw[ak (by omega),e]
 simp only[aq,V.int.injEq,true_and]
 rw[Int.fdiv_eq_ediv_of_nonneg _ (by exact_mod_cast uw _)]
 push_cast
 rfl
def Zyu{b:Int}(h0:0<=b)(h1:b<=64):y8 .shl .u64 (a:Int) b=some (.int .u64 (bK a b.toNat:Nat)):=by
 unfold y8 bK
 have e:min b.toNat (IntKind.bits .u64)=b.toNat:=by simp[IntKind.bits];omega
 rw[ak (by omega),e]
 show some (V.int .u64 (IntKind.wrap .u64 ((a:Int)*2^b.toNat)))=_
 rw[JW]
 have:(((a*2^b.toNat%18446744073709551616:Nat)):Int)=(a:Int)*2^b.toNat%18446744073709551616:=by
  rw[Int.natCast_emod,Jf,Int.natCast_pow];rfl
 rw[this]
def Ql(a:Nat)(h:a<18446744073709551616):(BitVec.ofInt 64 (a:Int)).toNat=a:=by
 simp[BitVec.toNat_ofInt];omega
def Ztg(h:a<18446744073709551616):ra .and .u64 (a:Int) 4294967295=some (.int .u64 (eM a:Nat)):=by
 show some (V.int .u64 (IntKind.wrap .u64 (BitVec.ofInt 64 (a:Int)&&& BitVec.ofInt 64 4294967295).toNat))=_
 rw[JW,BitVec.toNat_and,Ql a h]
 have e:(BitVec.ofInt 64 4294967295).toNat=2^32-1:=by decide
 rw[e,Nat.and_two_pow_sub_one_eq_mod]
 unfold eM
 simp only[aq,V.int.injEq,true_and]
 omega
def Yd6(h:a<18446744073709551616)(h':b<18446744073709551616):ra .or .u64 (a:Int) (b:Int)=some (.int .u64 (jq a b:Nat)):=by
 show some (V.int .u64 (IntKind.wrap .u64 (BitVec.ofInt 64 (a:Int)|||BitVec.ofInt 64 (b:Int)).toNat))=_
 rw[JW,BitVec.toNat_or,Ql a h,Ql b h']
 have:=Nat.or_lt_two_pow (n:=64) h h'
 unfold jq
 simp only[aq,V.int.injEq,true_and]
 omega
def cG(a b:Nat):Nat:=(a+b)%18446744073709551616
def fP(a b:Nat):Nat:=((a:Int)-b).toNat%18446744073709551616+(if a<b then (((a:Int)-b)%18446744073709551616).toNat else 0)
def cM(a b:Nat):Nat:=(a*b)%18446744073709551616
def mB(a b:Nat):Nat:=a/b
def MG(a b:Nat):Nat:=a%b
def Zyl:bl .u64 ((a:Int)+(b:Int))=(cG a b:Nat):=by rw[JX];unfold cG;omega
def Zpa:bl .u64 ((a:Int)-(b:Int))=(fP a b:Nat):=by
 rw[JX];unfold fP
 split<;>omega
def Zuc:bl .u64 ((a:Int)-1)=(fP a 1:Nat):=Zpa (b:=1)
def X7:bl .u64 ((a:Int)*(b:Int))=(cM a b:Nat):=by
 rw[JX];unfold cM
 rw[<-Jf];omega
def Zr6:bl .u64 ((a:Int)*4294967296)=(cM a 4294967296:Nat):=X7 (b:=4294967296)
def Zql:bl .u64 (4294967296*(a:Int))=(cM 4294967296 a:Nat):=X7 (a:=4294967296)
def Zyk(h:a<18446744073709551616):bl .u64 ((a:Int).tdiv (b:Int))=(mB a b:Nat):=by
 rw[JX];unfold mB
 have e:((a:Int).tdiv (b:Int))=((a/b:Nat):Int):=rfl
 have:=vu a b
 rw[e]
 generalize a/b=q at*
 omega
def Ybr:(a:Int).tmod (b:Int)=(MG a b:Nat):=rfl
def ER(h:b<=a)(ha:a<18446744073709551616):fP a b=a-b:=by unfold fP;split<;>omega
def Ypx:cG a b<18446744073709551616:=kZ _ (by decide)
def Ynj:cM a b<18446744073709551616:=kZ _ (by decide)
def X8:bK a b<18446744073709551616:=kZ _ (by decide)
def Ybt:fP a b<18446744073709551616:=by unfold fP;split<;>omega
def Zws(h:a<18446744073709551616):au a b<18446744073709551616:=qx (vu _ _) h
attribute [simp] Ypx Ynj X8 Ybt Zyl Zpa Zuc X7 Zr6 Zql Zyk Ybr Zyt Zyu Ztg Yd6
def Hp(st:St)(e:Ext)(o:Option (List V)):Option (V×St):=match e,o with
  |.same,some [v]=>some (v,st)
  |e,some l=>match Ct e l with
   |some v=>some (v,st)
   |none=>none
  |_,none=>none
def Yhx{e:Ext}{args:List Src}{call:cD}{st:St}:GJ e args call r st=Hp st e (uF r args):=rfl
def Yei{st:St}:Hp st .same (some [v])=some (v,st):=rfl
def Yao{st:St}{x y c:Int}(h:c=0\/c=1):Hp st .gI (some [.int .u64 x,.int .u64 y,.int .u64 c])=some (.aV [.int .u64 (bu (x.toNat+y.toNat+c.toNat):Nat),.int .u64 (cf (x.toNat+y.toNat+c.toNat):Nat)],st):=by
 simp only[Hp,Ct,h,not_true_eq_false,if_false]
 rfl
def Yan{st:St}{x y c:Int}(h:c=0\/c=1):Hp st .jB (some [.int .u64 x,.int .u64 y,.int .u64 c])=some (.aV [.int .u64 (ew x.toNat y.toNat c.toNat:Nat),.int .u64 (fC x.toNat y.toNat c.toNat:Nat)],st):=by
 simp only[Hp,Ct,h,not_true_eq_false,if_false,fC]
 split<;>rfl
def Yds:bu n<18446744073709551616:=kZ _ (by decide)
def Yml{c:Nat}:ew a b c<18446744073709551616:=kZ _ (by decide)
attribute [simp] Yds Yml Yhx Yei Yao Yan
def mS(st:St)(size:Nat):Option V->Option (Option V)->Option (Option V)->Option (Option V)->Option (V×St)
 |some v,some lo,some hi,some mx=>qe size (.const v) (lo.map .const) (hi.map .const) (mx.map .const) V8 .nil st
 |_,_,_,_=>none
def ES{o:Option V}:aC r (o.map .const)=some o:=by cases o<;>rfl
def Bh{lo hi mx:Option Src}{call:cD}{st:St}:qe size x lo hi mx call r st=mS st size (x.ev r) (aC r lo) (aC r hi) (aC r mx):=by
 unfold mS qe
 rcases x.ev r with _|v
 ·rfl
 ·rcases aC r lo with _|lo
  ·cases v<;>try rfl
   rename_i c _;cases c<;>rfl
  ·rcases aC r hi with _|hi
   ·cases v<;>try rfl
    rename_i c _;cases c<;>rfl
   ·rcases aC r mx with _|mx
    ·cases v<;>try rfl
     rename_i c _;cases c<;>rfl
    ·simp only[ES];rfl
def Sl(h:T O)(N:Nat)(v:V)(l:List V):Prop:=
 (l=[]/\(v=.aa\/v=.empty))\/∃i o cp c e rw,v=.slice i o l.length cp 1/\i<N/\h.get i=some (.cells c e rw)/\(∀j,j<l.length->c[o+j]?=l[j]?)/\o+l.length<=c.length/\∀k,cp=some k->l.length<=k
def Sl.nil:Sl h N .aa []:=.inl ⟨rfl,.inl rfl⟩
def Sl.row{L:Nat}{l:List V}{e:TypeId}{rw:Bool}{cp:Option Nat}(hi:i<N)(hg:h.get i=some (.cells l e rw))(hL:l.length=L)(hc:∀k,cp=some k->L<=k):Sl h N (.slice i 0 L cp 1) l:=
 .inr ⟨i,0,cp,l,e,rw,by rw[hL],hi,hg,fun j _=>by rw[wX],by omega,fun k hk=>by rw[hL];exact hc k hk⟩
def Sl.ae{h':T O}{N':Nat}{l:List V}(s:Sl h N v l)(k:ab h N h' N'):Sl h' N' v l:=by
 rcases s with s|⟨i,o,cp,c,e,rw,h1,h2,h3,h4⟩
 ·exact .inl s
 ·exact .inr ⟨i,o,cp,c,e,rw,h1,eY h2 k.le,(k.get i h2).trans h3,h4⟩
def Sl.len{l:List V}(s:Sl h N v l):pw v=some l.length:=by
 rcases s with⟨rfl,rfl|rfl⟩|⟨i,o,cp,c,e,rw,rfl,_⟩<;>rfl
def Sl.at{l:List V}(s:Sl h N v l){j:Nat}{x:V}(hj:l[j]?=some x):∃i o c e rw,w_ v=some (i,o)/\i<N/\h.get i=some (.cells c e rw)/\c[o+j]?=some x:=by
 have hl:j<l.length:=by
  apply tn;intro hc;rw[fl hc]at hj;cases hj
 rcases s with⟨rfl,_⟩|⟨i,o,cp,c,e,rw,rfl,h2,h3,h4,_⟩
 ·simp at hl
 ·exact⟨i,o,c,e,rw,rfl,h2,h3,(h4 j hl).trans hj⟩
def val(b:Nat):List Nat->Nat
 |[]=>0
 |d::l=>d+b*val b l
def dg(l:List Nat):List V:=l.map fun n:Nat=>.int .u64 n
def dgi(l:List Nat):List V:=l.map fun n:Nat=>.int .i64 n
def bC(l:List Nat):(dg l).length=l.length:=by simp[dg]
def cB(l:List Nat):(dgi l).length=l.length:=by simp[dgi]
def fu{j:Nat}(h:l[j]?=some n):(dg l)[j]?=some (.int .u64 n):=by simp[dg,h]
attribute [simp] bC cB
def pL{v:Nat}(h:k<l.length):ad (dg l) k [.int .u64 v]=dg (l.set k v):=by
 unfold ad dg
 apply oe
 intro j
 simp only[zW,fV,List.getElem?_set]
 rw[tv,List.getElem?_append,gG,je]
 by_cases h1:j<k
 ·rw[ay (by omega),iM,ay h1,fV,ak (by omega)]
 ·rw[ak (by omega)]
  by_cases h2:j=k
  ·subst h2
   rw[show j-min j l.length=0 by omega,ay rfl,ay h];rfl
  ·rw[show j-min k l.length=(j-k-1)+1 by omega,ak (by omega)]
   simp only[P9,DZ,fg,fV]
   rw[show k+1+(j-k-1)=j by omega]
def Hq:dp [.int .u64 0] n=dg (List.replicate n 0):=by
 unfold dp dg
 apply oe
 intro j
 simp only[zW,yZ,fV,List.getElem?_replicate]
 by_cases h:j<n
 ·simp[h,Nat.mod_one]
 ·simp[h]
def VN{z:V}:dp [z] n=List.replicate n z:=by
 unfold dp
 apply oe
 intro j
 simp only[zW,yZ,fV,List.getElem?_replicate]
 by_cases h:j<n
 ·simp[h,Nat.mod_one]
 ·simp[h]
def Q6(b:Nat):∀(l m:List Nat),val b (l++m)=val b l+b^l.length*val b m
 |[],m=>by simp[val]
 |d::l,m=>by
  simp only[Co,val,Q6 b l m,bp,fZ]
  grind
def Q7(b:Nat)(l:List Nat)(d:Nat):val b (l++[d])=val b l+b^l.length*d:=by simp[Q6,val]
def Zr8(b n:Nat):val b (List.replicate n 0)=0:=by
 induction n with
 |zero=>rfl
 |succ n ih=>simp[List.replicate_succ,val,ih]
def ET{d:Nat}(h:l[k]?=some d):val b (l.take (k+1))=val b (l.take k)+b^k*d:=by
 have hk:k<l.length:=by
  apply tn;intro hc;rw[fl hc]at h;cases h
 rw[uC,h]
 simp only[Option.toList]
 rw[Q7,gG,pZ (by omega)]
def EU{b:Nat}:∀{l:List Nat},(∀d∈l,d<b)->val b l<b^l.length
 |[],_=>by simp[val]
 |d::l,h=>by
  have h1:=h d nR
  have h2:=EU (l:=l) fun e he=>h e (nS _ he)
  simp only[val,bp,fZ]
  have:b*(val b l+1)<=b*b^l.length:=kY b h2
  rw[jk (b^l.length) b]
  grind
def B:Nat:=18446744073709551616
def Dg(l:List Nat):Prop:=∀d∈l,d<B
def Dg.get(h:Dg l){j d:Nat}(hj:l[j]?=some d):d<B:=h d (bU hj)
def dz(l:List Nat)(j:Nat):Nat:=l[j]?.getD 0
def Ysa{l:List Nat}(h:Dg l)(j:Nat):dz l j<B:=by
 unfold dz
 cases hj:l[j]? with
 |none=>decide
 |some d=>exact h.get hj
def C5{b:Nat}{l:List Nat}{k:Nat}:val b (l.take (k+1))=val b (l.take k)+b^k*dz l k:=by
 unfold dz
 cases h:l[k]? with
 |some d=>exact ET h
 |none=>
  have hk:l.length<=k:=by
   apply yY;intro hc;rw[c9 hc]at h;cases h
  rw[eZ (by omega),eZ hk];simp
def th:List Nat->List Nat
 |[]=>[]
 |d::l=>match th l with
  |[]=>if d=0 then [] else [d]
  |t=>d::t
def Zpc:∀(l:List Nat),th (l++[0])=th l
 |[]=>rfl
 |d::l=>by simp only[Co,th,Zpc l]
def Zpd{d:Nat}(hd:d≠0):∀(l:List Nat),th (l++[d])=l++[d]
 |[]=>by simp[th,hd]
 |e::l=>by
  simp only[Co,th,Zpd hd l]
  cases l<;>rfl
def jS:List (Nat×Nat)->Nat->Bool
 |[],_=>false
 |(a,b)::D,t=>(Nat.ble a t&&Nat.ble t b)||jS D t
def Yof{t:Nat}:jS [] t=false:=rfl
def Yit{D:List (Nat×Nat)}{t:Nat}:jS ((a,b)::D) t=((Nat.ble a t&&Nat.ble t b)||jS D t):=rfl
attribute [simp] Yof Yit
structure Fx (D:List (Nat×Nat)) (r0:T V) (n:Nat) (fr:Fr):Prop where
 dP:∀t,jS D t=false->fr.r.get t=r0.get t
 n:fr.n=n
 marks:fr.marks=[]
def Fx.refl{D:List (Nat×Nat)}:Fx D r n ⟨r,n,[]⟩:=⟨fun _ _=>rfl,rfl,rfl⟩
def Fx.set{D:List (Nat×Nat)}{t:Nat}(ht:jS D t=true):Fx D r0 n ⟨r.set t v,n,[]⟩↔Fx D r0 n ⟨r,n,[]⟩:=by
 constructor
 ·intro h
  refine⟨fun u hu=>?_,rfl,rfl⟩
  have:=h.dP u hu
  simp only[T.ag]at this
  rw[ak]at this
  ·exact this
  ·rintro rfl;rw[ht]at hu;cases hu
 ·intro h
  refine⟨fun u hu=>?_,rfl,rfl⟩
  simp only[T.ag]
  rw[ak]
  ·exact h.dP u hu
  ·rintro rfl;rw[ht]at hu;cases hu
attribute [simp] Fx.set
def X9(D' D:List (Nat×Nat)):Bool:=D'.all fun p=>D.any fun q=>Nat.ble q.1 p.1&&Nat.ble p.2 q.2
def Yd7{D:List (Nat×Nat)}{t:Nat}:jS D t=true↔∃p∈D,p.1<=t/\t<=p.2:=by
 induction D with
 |nil=>simp[jS]
 |cons p D ih=>obtain⟨a,b⟩:=p;simp[jS,ih]
def Yma{D' D:List (Nat×Nat)}(h:X9 D' D=true){t:Nat}(ht:jS D t=false):jS D' t=false:=by
 cases hc:jS D' t with
 |false=>rfl
 |true=>
  obtain⟨p,hp,h1,h2⟩:=Yd7.1 hc
  unfold X9 at h
  rw[l7]at h
  obtain⟨q,hq,h3⟩:=List.any_eq_true.1 (h p hp)
  simp at h3
  have:jS D t=true:=Yd7.2 ⟨q,hq,by omega,by omega⟩
  rw[ht]at this;cases this
def Fx.inner{D D':List (Nat×Nat)}{r1 r2:T V}(hf:Fx D r0 n ⟨r,n,[]⟩)(hs:X9 D' D=true)(h1:Fx D r0 n ⟨r,n,[]⟩->Fx D r0 n ⟨r1,n,[]⟩)(h2:∀t,jS D' t=false->r2.get t=r1.get t):Fx D r0 n ⟨r2,n,[]⟩:=
 ⟨fun t ht=>(h2 t (Yma hs ht)).trans ((h1 hf).dP t ht),rfl,rfl⟩
def Rd(D:List (Nat×Nat))(r0:T V)(n:Nat)(I:Nat->T V->St->Prop)(k:Nat)(P:Ex->T V->St->Prop):Ex->Fr->St->Prop
 |.normal,fr,st=>Fx D r0 n fr/\∃k',k'<k/\I k' fr.r st
 |e,fr,st=>Fx D r0 n fr/\P e fr.r st
def Zt9{D r0 n I k P r st}:Rd D r0 n I k P .normal ⟨r,n,[]⟩ st↔Fx D r0 n ⟨r,n,[]⟩/\∃k',k'<k/\I k' r st:=Iff.rfl
def Yp3{D r0 n I k P r st i}:Rd D r0 n I k P (.exit i) ⟨r,n,[]⟩ st↔Fx D r0 n ⟨r,n,[]⟩/\P (.exit i) r st:=Iff.rfl
def Yss{D r0 n I k P r st}:Rd D r0 n I k P .ret ⟨r,n,[]⟩ st↔Fx D r0 n ⟨r,n,[]⟩/\P .ret r st:=Iff.rfl
attribute [simp] Zt9 Yp3 Yss
def bG{C:Cx}{ro:Option Nat}{c:bO}{K:List Kf}{Q:Rs->Prop}{Lw:St}(D:List (Nat×Nat))(P:Ex->T V->St->Prop)(I:Nat->T V->St->Prop)(k:Nat)(hi:I k r0 Lw)
  (h:∀k r st,(∀t,jS D t=false->r.get t=r0.get t)->Fx D r0 n ⟨r,n,[]⟩->I k r st->Code C ro c ⟨r,n,[]⟩ st (Rd D r0 n I k P))
  (q:∀e r st,(∀t,jS D t=false->r.get t=r0.get t)->P e r st->bA C K (some (.ex e ⟨r,n,[]⟩ st)) Q):bA C K (eJ (C.code ro (.loop c) ⟨r0,n,[]⟩ Lw)) Q:=by
 refine Yg4 (fun e fr st=>Fx D r0 n fr/\P e fr.r st) (fun k fr st=>Fx D r0 n fr/\I k fr.r st) k ⟨Fx.refl,hi⟩ ?_ ?_
 ·rintro k ⟨r,n',m⟩ st ⟨hf,hi⟩
  have h1:n'=n:=hf.n
  have h2:m=[]:=hf.marks
  subst h1;subst h2
  obtain⟨e,bE,az,h3,h4⟩:=(h k r st hf.dP hf hi).ex
  refine⟨e,bE,az,h3,?_⟩
  cases e with
  |normal=>obtain⟨a,k',b,c⟩:=h4;exact⟨k',b,a,c⟩
  |exit i=>exact h4
  |ret=>exact h4
 ·rintro e ⟨r,n',m⟩ st ⟨hf,hp⟩
  have h1:n'=n:=hf.n
  have h2:m=[]:=hf.marks
  subst h1;subst h2
  exact q e r st hf.dP hp
def DS{l:List V}{w:List Nat}(s:Sl h N v l){lo hi:Nat}(h1:lo<=hi)(h2:hi<=l.length)(x y:Option V)(hx:x=some (.int .i64 lo)\/x=none/\lo=0)(hy:y=some (.int .i64 hi)\/y=none/\hi=l.length):
  ∃v',mS ⟨h,N,w⟩ 1 (some v) (some x) (some y) (some none)=some (v',⟨h,N,w⟩)/\Sl h N v' ((l.take hi).drop lo):=by
 rcases s with⟨rfl,rfl|rfl⟩|⟨i,o,cp,c,e,rw,rfl,q2,q3,q4,q5,q6⟩
 ·have:hi=0:=by simpa using h2
  subst this
  have:lo=0:=by omega
  subst this
  refine⟨.aa,?_,.inl ⟨rfl,.inl rfl⟩⟩
  rcases hx with rfl|⟨rfl,_⟩<;>rcases hy with rfl|⟨rfl,_⟩<;>simp[mS,qe,aC,dv,k_]
 ·have:hi=0:=by simpa using h2
  subst this
  have:lo=0:=by omega
  subst this
  refine⟨.empty,?_,.inl ⟨rfl,.inr rfl⟩⟩
  rcases hx with rfl|⟨rfl,_⟩<;>rcases hy with rfl|⟨rfl,_⟩<;>simp[mS,qe,aC,dv,k_]
 ·have hlen:((l.take hi).drop lo).length=hi-lo:=by simp;omega
  have cK:∀j,j<hi-lo->c[o+lo+j]?=((l.take hi).drop lo)[j]?:=fun j hj=>by
   rw[fg,iM,ay (by omega),show o+lo+j=o+(lo+j) by omega]
   exact q4 _ (by omega)
  have b1:∀m,hi<=m->dv y m l.length=some hi:=fun m hm=>by
   rcases hy with rfl|⟨rfl,rfl⟩
   ·simp[dv,k_];omega
   ·rfl
  have b2:dv x hi 0=some lo:=by
   rcases hx with rfl|⟨rfl,rfl⟩
   ·simp[dv,k_];omega
   ·rfl
  cases cp with
  |some k=>
   have hk:=q6 k rfl
   refine⟨.slice i (if k=lo then o else o+lo) (hi-lo) (some (k-lo)) 1,?_,?_⟩
   ·have b0:dv none k k=some k:=rfl
    simp only[mS,qe,ES,Src.ev,yZ]
    simp[b0,b1 k (by omega),b2]
   ·by_cases yv:k=lo
    ·refine .inr ⟨i,o,some 0,c,e,rw,?_,q2,q3,fun j hj=>by rw[hlen]at hj;omega,by rw[hlen];omega,fun k' gH=>by rw[hlen];omega⟩
     rw[hlen,ay yv,show k-lo=0 by omega]
    ·refine .inr ⟨i,o+lo,some (k-lo),c,e,rw,?_,q2,q3,fun j hj=>cK j (by omega),by rw[hlen];omega,fun k' gH=>by simp at gH;rw[hlen];omega⟩
     rw[hlen,ak yv]
  |none=>
   have hk:hi<=max l.length (c.length-o):=by omega
   by_cases ax:lo<max l.length (c.length-o)
   ·refine⟨.slice i (o+lo) (hi-lo) none 1,?_,.inr ⟨i,o+lo,none,c,e,rw,by rw[hlen],q2,q3,fun j hj=>cK j (by omega),by rw[hlen];omega,fun k' gH=>by cases gH⟩⟩
    simp only[mS,qe,ES,Src.ev,St.row,q3,Nat.div_one,yZ]
    simp[b1 _ hk,b2,ax]
   ·refine⟨.empty,?_,.inl ⟨q8 (by rw[hlen];omega),.inr rfl⟩⟩
    simp only[mS,qe,ES,Src.ev,St.row,q3,Nat.div_one,yZ]
    simp[b1 _ hk,b2,ax]
def Ya{m v:Nat}(hk:l.length=k):(l++List.replicate (m+1) 0).set k v=(l++[v])++List.replicate m 0:=by
 subst hk
 rw[List.set_append_right _ _ (aQ _)]
 simp[List.replicate_succ]
def aH(n:Nat):List Nat:=if h:n=0 then [] else n%B::aH (n/B)
termination_by n
decreasing_by exact Cr (by omega) (by decide)
def rE:aH 0=[]:=by rw[aH];simp
def mX(h:n≠0):aH n=n%B::aH (n/B):=by rw[aH];simp[h]
def mY:∀(n:Nat),val B (aH n)=n:=by
 intro n
 induction n using Nat.strongRecOn with
 |_ n ih=>
  by_cases h:n=0
  ·subst h;rw[rE];rfl
  ·rw[mX h]
   simp only[val]
   rw[ih (n/B) (Cr (by omega) (by decide))]
   have:=uD n B
   omega
def rF(n:Nat):Dg (aH n):=by
 induction n using Nat.strongRecOn with
 |_ n ih=>
  by_cases h:n=0
  ·subst h;rw[rE];intro d hd;cases hd
  ·rw[mX h]
   intro d hd
   rcases kv.1 hd with rfl|hd
   ·exact kZ _ (by decide)
   ·exact ih (n/B) (Cr (by omega) (by decide)) d hd
def C6:∀{l:List Nat},Dg l->th l=aH (val B l)
 |[],_=>by simp[th,val,rE]
 |d::l,h=>by
  have ih:=C6 (l:=l) fun e he=>h e (nS _ he)
  have hd:d<B:=h d nR
  simp only[th,val,ih]
  by_cases h0:val B l=0
  ·rw[h0,rE]
   simp only[Nat.mul_zero,mP]
   by_cases nT:d=0
   ·simp[nT,rE]
   ·rw[mX nT,yk hd,zU hd,rE];simp[nT]
  ·have hB:0<B:=by decide
   have h1:(d+B*val B l)/B=val B l:=by
    rw[Nat.add_mul_div_left _ _ hB,zU hd,wX]
   have h2:(d+B*val B l)%B=d:=by
    rw[Nat.add_mul_mod_self_left,yk hd]
   have h3:d+B*val B l≠0:=by
    intro hc
    have:B*val B l=0:=by omega
    rcases Nat.mul_eq_zero.1 this with h|h
    ·omega
    ·exact h0 h
   rw[mX h3,h1,h2]
   split
   ·rename_i hc;rw[mX h0]at hc;cases hc
   ·rfl
def Wn(h:T O)(N:Nat)(v:V)(n:Nat):Prop:=Sl h N v (dg (aH n))
def Wn.ae{h':T O}{N':Nat}(s:Wn h N v n)(k:ab h N h' N'):Wn h' N' v n:=Sl.ae s k
variable {N bytes n o z:Nat} {h:T O} {l:List (List V)} {v:V}
def Mp{α:Type}{c:List α}{x:List α}(h:aD c o n=some x):o+n<=c.length/\x=(c.drop o).take n:=by
 unfold aD at h
 split at h
 ·rename_i hl;simp at h;exact⟨hl,h.symm⟩
 ·cases h
def Yme{α:Type}{c:List α}{x:List α}(h:aD c o n=some x){f:Nat}(hf:f<n):c[o+f]?=x[f]?:=by
 obtain⟨_,rfl⟩:=Mp h
 rw[iM,ay hf,fg]
def PT{c:List V}{x:List V}(h:aD c o n=some x):aO c o (some n)=some (.agg x):=by
 simp[aO,h]
def Sn(z:Nat)(h:T O)(N:Nat)(v:V)(l:List (List V)):Prop:=
 (l=[]/\(v=.aa\/v=.empty))\/∃i o cp c e rw,v=.slice i o l.length cp z/\i<N/\h.get i=some (.cells c e rw)/\(∀j x,l[j]?=some x->aD c (o+j*z) z=some x)/\o+l.length*z<=c.length/\∀k,cp=some k->l.length<=k
def Sn.nil:Sn z h N .aa []:=.inl ⟨rfl,.inl rfl⟩
def Sn.ae{h':T O}{N':Nat}(s:Sn z h N v l)(k:ab h N h' N'):Sn z h' N' v l:=by
 rcases s with s|⟨i,o,cp,c,e,rw,h1,h2,h3,h4⟩
 ·exact .inl s
 ·exact .inr ⟨i,o,cp,c,e,rw,h1,eY h2 k.le,(k.get i h2).trans h3,h4⟩
def Sn.len(s:Sn z h N v l):pw v=some l.length:=by
 rcases s with⟨rfl,rfl|rfl⟩|⟨i,o,cp,c,e,rw,rfl,_⟩<;>rfl
def Sn.at(s:Sn z h N v l){j:Nat}{x:List V}(hj:l[j]?=some x):∃i o c e rw,w_ v=some (i,o)/\i<N/\h.get i=some (.cells c e rw)/\aD c (o+j*z) z=some x:=by
 have hl:j<l.length:=by
  apply tn;intro hc;rw[fl hc]at hj;cases hj
 rcases s with⟨rfl,_⟩|⟨i,o,cp,c,e,rw,rfl,h2,h3,h4,_⟩
 ·simp at hl
 ·exact⟨i,o,c,e,rw,rfl,h2,h3,h4 j x hj⟩
def Zsg(hz:0<z){h:T O}{N:Nat}{v:V}{l:List (List V)}{w:List Nat}(s:Sn z h N v l){lo hi:Nat}(h1:lo<=hi)(h2:hi<=l.length)(x y:Option V)(hx:x=some (.int .i64 lo)\/x=none/\lo=0)(hy:y=some (.int .i64 hi)\/y=none/\hi=l.length):
  ∃v',mS ⟨h,N,w⟩ z (some v) (some x) (some y) (some none)=some (v',⟨h,N,w⟩)/\Sn z h N v' ((l.take hi).drop lo):=by
 rcases s with⟨rfl,rfl|rfl⟩|⟨i,o,cp,c,e,rw,rfl,q2,q3,q4,q5,q6⟩
 ·have:hi=0:=by simpa using h2
  subst this
  have:lo=0:=by omega
  subst this
  refine⟨.aa,?_,.inl ⟨rfl,.inl rfl⟩⟩
  rcases hx with rfl|⟨rfl,_⟩<;>rcases hy with rfl|⟨rfl,_⟩<;>simp[mS,qe,aC,dv,k_]
 ·have:hi=0:=by simpa using h2
  subst this
  have:lo=0:=by omega
  subst this
  refine⟨.empty,?_,.inl ⟨rfl,.inr rfl⟩⟩
  rcases hx with rfl|⟨rfl,_⟩<;>rcases hy with rfl|⟨rfl,_⟩<;>simp[mS,qe,aC,dv,k_]
 ·have hlen:((l.take hi).drop lo).length=hi-lo:=by simp;omega
  have cK:∀j u,((l.take hi).drop lo)[j]?=some u->aD c (o+lo*z+j*z) z=some u:=fun j u hu=>by
   have hj:j<hi-lo:=by
    rw[<-hlen];apply tn;intro hc;rw[fl hc]at hu;cases hu
   rw[fg,iM,ay (by omega)]at hu
   have:=q4 _ _ hu
   rw[show o+lo*z+j*z=o+(lo+j)*z by rw[iU];omega]
   exact this
  have hmul:lo*z+(hi-lo)*z<=l.length*z:=by
   rw[<-iU];exact mr _ (by omega)
  have b1:∀m,hi<=m->dv y m l.length=some hi:=fun m hm=>by
   rcases hy with rfl|⟨rfl,rfl⟩
   ·simp[dv,k_];omega
   ·rfl
  have b2:dv x hi 0=some lo:=by
   rcases hx with rfl|⟨rfl,rfl⟩
   ·simp[dv,k_];omega
   ·rfl
  cases cp with
  |some k=>
   have hk:=q6 k rfl
   refine⟨.slice i (if k=lo then o else o+lo*z) (hi-lo) (some (k-lo)) z,?_,?_⟩
   ·have b0:dv none k k=some k:=rfl
    simp only[mS,qe,ES,Src.ev]
    simp[b0,b1 k (by omega),b2]
   ·by_cases yv:k=lo
    ·have h0:(l.take hi).drop lo=[]:=q8 (by rw[hlen];omega)
     refine .inr ⟨i,o,some (k-lo),c,e,rw,?_,q2,q3,fun j u hu=>by rw[h0]at hu;simp at hu,by rw[h0];simp;omega,fun k' gH=>by rw[h0];simp⟩
     rw[hlen,ay yv]
    ·refine .inr ⟨i,o+lo*z,some (k-lo),c,e,rw,?_,q2,q3,cK,by rw[hlen];omega,fun k' gH=>by simp at gH;rw[hlen];omega⟩
     rw[hlen,ak yv]
  |none=>
   have hlz:l.length<=(c.length-o)/z:=by
    rw[Jj hz];omega
   have hk:hi<=max l.length ((c.length-o)/z):=by omega
   have tg:z≠0:=by omega
   by_cases ax:lo<max l.length ((c.length-o)/z)
   ·refine⟨.slice i (o+lo*z) (hi-lo) none z,?_,.inr ⟨i,o+lo*z,none,c,e,rw,by rw[hlen],q2,q3,cK,by rw[hlen];omega,fun k' gH=>by cases gH⟩⟩
    simp only[mS,qe,ES,Src.ev,St.row,q3]
    simp[b1 _ hk,b2,ax,tg]
   ·refine⟨.empty,?_,.inl ⟨q8 (by rw[hlen];omega),.inr rfl⟩⟩
    simp only[mS,qe,ES,Src.ev,St.row,q3]
    simp[b1 _ hk,b2,ax,tg]
def Sn.one{l:List V}:Sn 1 h N v (l.map fun x=>[x])↔Sl h N v l:=by
 unfold Sn Sl
 constructor
 ·rintro(⟨h1,h2⟩|⟨i,o,cp,c,e,rw,h1,h2,h3,h4,h5,h6⟩)
  ·exact .inl ⟨by simpa using h1,h2⟩
  ·refine .inr ⟨i,o,cp,c,e,rw,by simpa using h1,h2,h3,fun j hj=>?_,by simpa using h5,by simpa using h6⟩
   have:=h4 j [l[j]] (by simp[c9 hj])
   have:=Yme this (f:=0) (by omega)
   simp at this
   rw[this,c9 hj]
 ·rintro(⟨h1,h2⟩|⟨i,o,cp,c,e,rw,h1,h2,h3,h4,h5,h6⟩)
  ·exact .inl ⟨by simpa using h1,h2⟩
  ·refine .inr ⟨i,o,cp,c,e,rw,by simpa using h1,h2,h3,fun j x hj=>?_,by simpa using h5,by simpa using h6⟩
   simp at hj
   obtain⟨u,hu,rfl⟩:=hj
   have hl:j<l.length:=by
    apply tn;intro hc;rw[fl hc]at hu;cases hu
   have:=h4 j hl
   rw[hu]at this
   have hc:o+j<c.length:=by omega
   unfold aD
   rw[ay (by omega),yZ,Gh hc]
   rw[c9 hc]at this
   simp at this
   simp[this]
def Own(z:Nat)(e:TypeId)(N0:Nat)(h:T O)(N:Nat)(v:V)(l:List (List V)):Prop:=
 (∀x∈l,x.length=z)/\((l=[]/\v=.aa)\/∃i,v=.slice i 0 l.length none z/\N0<=i/\i<N/\h.get i=some (.cells l.flatten e true))
def Own.nil{e:TypeId}{N0:Nat}:Own z e N0 h N .aa []:=⟨fun _ h=>by simp at h,.inl ⟨rfl,rfl⟩⟩
def Own.ae{e:TypeId}{N0:Nat}{h':T O}{N':Nat}(s:Own z e N0 h N v l)(k:ab h N h' N'):Own z e N0 h' N' v l:=by
 obtain⟨hl,s|⟨i,h1,h2,h3,h4⟩⟩:=s
 ·exact⟨hl,.inl s⟩
 ·exact⟨hl,.inr ⟨i,h1,h2,eY h3 k.le,(k.get i h3).trans h4⟩⟩
def Own.len{e:TypeId}{N0:Nat}(s:Own z e N0 h N v l):pw v=some l.length:=by
 obtain⟨_,⟨rfl,rfl⟩|⟨i,rfl,_⟩⟩:=s<;>rfl
def zj{z:Nat}:∀{l:List (List V)},(∀x∈l,x.length=z)->l.flatten.length=l.length*z
 |[],_=>by simp
 |x::l,h=>by
  have h1:=h x nR
  have h2:=zj (l:=l) fun y hy=>h y (nS _ hy)
  simp only[List.flatten_cons,i_,h1,h2,bp,iU];omega
def Mt{z:Nat}:∀{l:List (List V)},(∀x∈l,x.length=z)->∀{j:Nat} {x:List V},l[j]?=some x->aD l.flatten (j*z) z=some x
 |[],_,j,x,hj=>by simp at hj
 |y::l,h,0,x,hj=>by
  have h1:=h y nR
  simp at hj;subst hj
  unfold aD
  simp[<-h1]
 |y::l,h,j+1,x,hj=>by
  have h1:=h y nR
  have h2:=Mt (l:=l) (fun y hy=>h y (nS _ hy)) (j:=j) (x:=x) (by simpa using hj)
  obtain⟨h3,h4⟩:=Mp h2
  unfold aD
  rw[ay (by simp only[List.flatten_cons,i_,iU,h1];omega),h4]
  congr 2
  rw[List.flatten_cons,iU,Nat.one_mul,Nat.add_comm,<-List.drop_drop,<-h1,List.drop_left]
def Own.sn{e:TypeId}{N0:Nat}(s:Own z e N0 h N v l):Sn z h N v l:=by
 obtain⟨hl,⟨h1,h2⟩|⟨i,h1,h2,h3,h4⟩⟩:=s
 ·exact .inl ⟨h1,.inl h2⟩
 ·exact .inr ⟨i,0,none,l.flatten,e,true,h1,h3,h4,fun j x hj=>by rw[wX];exact Mt hl hj,by rw[zj hl];omega,fun k hk=>by cases hk⟩
def Yb(st:St)(size bytes:Nat)(e:TypeId):Option V->Option V->Option (V×St)
 |some s,some x=>gJ st size bytes e s x
 |_,_=>none
def Zu6{size:Nat}{e:TypeId}{z:List V}{s x:Src}{call:cD}{r:T V}{st:St}:Cy size bytes e z s x call r st=Yb st size bytes e (s.ev r) (x.ev r):=by
 unfold Cy Yb;rfl
def wU{st:St}{size:Nat}{e:TypeId}{s x:V}:Yb st size bytes e (some s) (some x)=gJ st size bytes e s x:=rfl
attribute [simp] Zu6 wU
def tP{e:TypeId}{N0:Nat}{u:V}{x:List V}{w:List Nat}(s:Own z e N0 h N v l)(hN:N0<=N)(hz:0<z)(hx:x.length=z)
  (hu:eA ⟨h,N,w⟩ z u=some (1,x)) (hb:2*(l.length+1)*bytes<=281474976710656):
  ∃v' h' w',gJ ⟨h,N,w⟩ z bytes e v u=some (v',⟨h',N+1,w'⟩)/\av N0 w'=av N0 w/\ab h N0 h' (N+1)/\(∀j,h'.get j=h.get j\/j=N\/(∃o n c q,v=.slice j o n c q))/\Own z e N0 h' (N+1) v' (l++[x]):=by
 obtain⟨hl,s⟩:=s
 have jj:∀y∈l++[x],y.length=z:=fun y hy=>by
  rcases kh.1 hy with hy|hy
  ·exact hl y hy
  ·simp at hy;rw[hy,hx]
 have tg:z≠0:=by omega
 rcases s with⟨rfl,rfl⟩|⟨i,rfl,h2,h3,h4⟩
 ·refine⟨.slice N 0 1 none z,h.set N (.cells x e true),w,?_,rfl,⟨by omega,fun j hj=>by rw[T.ag,ak (by omega)]⟩,fun j=>by rw[T.ag];by_cases hj:j=N<;>simp[hj],jj,.inr ⟨N,by simp,hN,by omega,by rw[T.ag];simp⟩⟩
  have ta:2*1*bytes<=281474976710656:=by simpa using hb
  simp only[gJ,hu,uk,St.alloc]
  simp[ta,tg]
 ·have mA:=zj hl
  refine⟨.slice N 0 (l.length+1) none z,(h.set i .dead).set N (.cells (l.flatten++x) e true),i::w,?_,by simp[av,tr.2 h2],⟨by omega,fun j hj=>by rw[T.ag,ak (by omega),T.ag,ak (by omega)]⟩,fun j=>?_,jj,.inr ⟨N,by simp,hN,by omega,by rw[T.ag];simp⟩⟩
  ·simp only[gJ,hu,uk,St.row,h4]
   rw[ak (by omega),ak (by rintro(h|h|h)<;>omega)]
   simp only[if_true]
   rw[ak (by rw[mA,iU];omega),ay ⟨by rw[mA];omega,trivial,trivial⟩]
   rfl
  ·by_cases hj:j=N
   ·exact .inr (.inl hj)
   ·by_cases n_:j=i
    ·exact .inr (.inr ⟨0,l.length,none,z,by rw[n_]⟩)
    ·left;rw[T.ag,ak hj,T.ag,ak n_]
abbrev aM:=List UInt8
def ko(c:UInt8):Bool:=decide (48<=c.toNat/\c.toNat<=57)
def jc:aM->Bool
 |[]=>false
 |c::s=>(c::s).all ko&&(decide (c.toNat≠48)||decide (s=[]))
def ah:aM->Nat
 |[]=>0
 |c::s=>if c.toNat=47 then 0 else ah s+1
def aG(s:aM):Nat:=s.foldl (fun n c=>10*n+(c.toNat-48)) 0
def cF:aM->Bool
 |[]=>false
 |c::_=>decide (c.toNat=45)
def bn(s:aM):aM:=if cF s then s.drop 1 else s
def gw(neg:Bool)(p:aM)(broken:Bool)(d:aM):Bool:=jc p&&!(neg&&decide (p=[48]))&&(!broken||(jc d&&decide (d≠[48])&&decide (d≠[49])))
def ks(neg:Bool)(p:aM)(broken:Bool)(d:aM):Nat:=
 if gw neg p broken d=false then 1 else if 600<p.length\/600<d.length then 4 else if broken=true/\Nat.gcd (aG p) (aG d)≠1 then 1 else 0
def JR(neg:Bool)(t:aM):Nat:=ks neg (t.take (ah t)) (decide (ah t<t.length)) (t.drop (ah t+1))
def bf(s:aM):Nat:=JR (cF s) (bn s)
def EK:∀(s:aM),ah s<=s.length
 |[]=>aQ _
 |c::s=>by
  have:=EK s
  simp only[ah,bp]
  split<;>omega
structure xp where
 name:aM
 op:aM
 GO:aM
 lh:List aM
 cost:Int
def pos:List xp->aM->Nat
 |[],_=>0
 |s::g,n=>if s.name=n then 0 else pos g n+1
variable {i:Nat} {j:Int} {k:IntKind} {r:T V} {s:aM} {x:Src}
def Yq0(s:aM)(p:Nat):Int:=(Utf8.decode ⟨s.toArray⟩ p).1
def Yqz(s:aM)(p:Nat):Nat:=(Utf8.decode ⟨s.toArray⟩ p).2
def Hr(i:Nat)(st:St):Option (aM×Nat)->Option (V×St)
 |some (s,p)=>if p<s.length then some (.aV [.bool true,.int .i64 p,.int .i32 (Utf8.decode ⟨s.toArray⟩ p).1],st.write i (.eC s (p+(Utf8.decode ⟨s.toArray⟩ p).2))) else some (.aV [.bool false],st)
 |none=>none
def Q8:Option O->Option (aM×Nat)
 |some (.eC s p)=>some (s,p)
 |_=>none
def Yc(st:St):Option V->Option (V×St)
 |some (.ptr i 0)=>Hr i st (Q8 (st.h.get i))
 |_=>none
def Zst{call:cD}{st:St}:GH x call r st=Yc st (x.ev r):=by
 unfold GH Yc
 rcases x.ev r with _|v
 ·rfl
 ·cases v<;>try rfl
  rename_i i o
  cases o with
  |zero=>
   simp only[Q8,Hr]
   rcases st.h.get i with _|o
   ·rfl
   ·cases o<;>rfl
  |succ=>rfl
def Zze{st:St}:Yc st (some (.ptr i 0))=Hr i st (Q8 (st.h.get i)):=rfl
def Zur{p:Nat}:Q8 (some (.eC s p))=some (s,p):=rfl
def Yc6{st:St}{p:Nat}(h:p<s.length):Hr i st (some (s,p))=some (.aV [.bool true,.int .i64 p,.int .i32 (Yq0 s p)],st.write i (.eC s (p+Yqz s p))):=by simp[Hr,h,Yq0,Yqz]
def Zzf{st:St}:Hr i st (some (s,s.length))=some (.aV [.bool false],st):=by simp[Hr]
def tV(st:St):Option V->Option (Option V)->Option (Option V)->Option (V×St)
 |some (.str s),some lo,some hi=>match dv hi s.length s.length with
   |some h=>match dv lo h 0 with
    |some l=>some (.str ((s.take h).drop l),st)
    |none=>none
   |none=>none
 |_,_,_=>none
def Zq5{lo hi:Option Src}{call:cD}{st:St}:za x lo hi call r st=tV st (x.ev r) (aC r lo) (aC r hi):=by
 unfold za tV;rfl
def Ht{st:St}(h0:0<=j)(h1:j<=s.length):tV st (some (.str s)) (some (some (.int k j))) (some none)=some (.str (s.drop j.toNat),st):=by
 simp[tV,dv,k_,h0,h1]
def Yd{st:St}(h0:0<=j)(h1:j<=s.length):tV st (some (.str s)) (some none) (some (some (.int k j)))=some (.str (s.take j.toNat),st):=by
 simp[tV,dv,k_,h0,h1]
def Zph{st:St}{k':IntKind}{i:Int}(h0:0<=i)(h1:i<=j)(h2:j<=s.length):tV st (some (.str s)) (some (some (.int k i))) (some (some (.int k' j)))=some (.str ((s.take j.toNat).drop i.toNat),st):=by
 have h3:0<=j:=by omega
 have h4:max j 0=j:=by omega
 simp[tV,dv,k_,h0,h1,h2,h3,h4]
def Hu(s:aM):List V:=s.map fun b=>.int .u8 (cI b)
def Ya1(s:aM):(Hu s).length=s.length:=by simp[Hu]
def Ya2{k:Nat}{c:UInt8}(h:s[k]?=some c):(Hu s)[k]?=some (.int .u8 (cI c)):=by simp[Hu,h]
def Ye(elem:TypeId)(st:St):Option V->Option (V×St)
 |some (.str s)=>some (.slice st.n 0 s.length none 1,st.alloc (.cells (Hu s) elem true))
 |_=>none
def Zq4{elem:TypeId}{call:cD}{st:St}:Ed elem x call r st=Ye elem st (x.ev r):=by
 unfold Ed Ye;rfl
def Yg0{elem:TypeId}{st:St}:Ye elem st (some (.str s))=some (.slice st.n 0 s.length none 1,st.alloc (.cells (Hu s) elem true)):=rfl
attribute [simp] Zq4 Yg0 Ya1 Zst Zze Zur Yc6 Zzf Zq5 Ht Yd Zph GG
def Zkr:∀(s:aM) (i:Nat),Gp 47 s i=if ah s<s.length then ((i+ah s:Nat):Int) else -1
 |[],i=>rfl
 |c::s,i=>by
  simp only[Gp,ah]
  have e:(c==47)=decide (c.toNat=47):=by
   rw[Bool.eq_iff_iff]
   simp only[beq_iff_eq,decide_eq_true_eq]
   exact⟨fun h=>by rw[h];rfl,fun h=>UInt8.toNat_inj.1 h⟩
  rw[e]
  by_cases h:c.toNat=47
  ·simp[h]
  ·simp only[h,decide_false,if_false,fI,Zkr s (i+1),bp]
   by_cases h2:ah s<s.length
   ·rw[ay h2,ay (by omega)];omega
   ·rw[ak h2,ak (by omega)]
end Go.Mx
