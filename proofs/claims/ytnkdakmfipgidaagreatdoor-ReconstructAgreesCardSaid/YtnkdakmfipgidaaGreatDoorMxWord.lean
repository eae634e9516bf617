/-Slices of which only the elements are kn-/
import Derived.Test.YtnkdakmfipgidaaGreatDoorMxLim
set_option linter.all false
namespace Go.Mx
open Go
variable {N a b i k n o size:Nat} {h:T O} {j:Int} {l:List Nat} {r r0:T V} {v:V} {x:Src}
def qg:V->Option Nat
 |.aa=>some 0
 |.empty=>some 0
 |.slice _ _ n _ _=>some n
 |_=>none
def yo:V->Option (Nat×Nat)
 |.slice i o _ _ _=>some (i,o)
 |_=>none
def Yrs(st:St):Option Nat->Option (V×St)
 |some n=>some (.int .i64 n,st)
 |none=>none
def Yyv(st:St):Option V->Option (V×St)
 |some v=>Yrs st (qg v)
 |none=>none
def Yku{call:cM}{st:St}:zE 1 x call r st=Yyv st (x.ev r):=by
 unfold zE Yyv;rcases x.ev r with _|v
 ·rfl
 cases v<;>rfl
def Ygv{st:St}:Yyv st (some v)=Yrs st (qg v):=rfl
def Yck{st:St}:Yrs st (some n)=some (.int .i64 n,st):=rfl
def UC(st:St)(size k:Nat):Option (Nat×Nat)->Option (V×St)
 |some (i,o)=>some (.ptr i (o+k*size),st)
 |none=>none
def PU(st:St)(size:Nat)(v:V)(k:Int):Option Nat->Option (V×St)
 |some n=>if 0<=k/\k<(n:Int) then UC st size k.toNat (yo v) else none
 |none=>none
def Ytw(st:St)(size:Nat):Option V->Option V->Option (V×St)
 |some v,some (.int _ k)=>PU st size v k (qg v)
 |_,_=>none
def Zud{i:Src}{call:cM}{st:St}:GA size x i call r st=Ytw st size (x.ev r) (i.ev r):=by
 unfold GA Ytw;rcases x.ev r with _|v
 ·rfl
 rcases i.ev r with _|u
 ·cases v<;>rfl
 cases u<;>cases v<;>simp[PU,UC,qg,yo]<;>omega
def Ydn{st:St}{k:IntKind}:Ytw st size (some v) (some (.int k j))=PU st size v j (qg v):=rfl
def Yi1{st:St}(h0:0<=j)(h1:j<(n:Int)):PU st size v j (some n)=UC st size j.toNat (yo v):=by simp[PU,h0,h1]
def Zyd{st:St}:UC st size k (some (i,o))=some (.ptr i (o+k*size),st):=rfl
def Xa7(a b:Int):(a==b)=decide (a=b):=by by_cases h:a=b<;>simp[h]
def Xa6(a b:Int):(a !=b)=!decide (a=b):=by by_cases h:a=b<;>simp[h]
def Yjq(a b:Nat):((a:Int)+(b:Int)).toNat=a+b:=by omega
def Yjp(a b:Nat):((a:Int)-(b:Int)).toNat=a-b:=by omega
def Yzc(a b n:Nat):((a:Int)+(b:Int)<(n:Int))↔a+b<n:=by omega
def Ya3(b:Nat):((64:Int)-(b:Int)).toNat=64-b:=by omega
attribute [simp] Ya3 Xa7 Xa6 Int.natCast_inj Yjq Yjp Yzc
def Yyu(st:St):Option V->Option (V×St)
 |some (.str s)=>some (.int .i64 s.length,st)
 |_=>none
def Ykv{call:cM}{st:St}:zE 0 x call r st=Yyu st (x.ev r):=by
 unfold zE Yyu;rcases x.ev r with _|v
 ·rfl
 cases v<;>rfl
def Ygu{st:St}{s:List UInt8}:Yyu st (some (.str s))=some (.int .i64 s.length,st):=rfl
def Yci{i o n c z}:qg (.slice i o n c z)=some n:=rfl
def Ylp:qg .aa=some 0:=rfl
def Ycj:qg .empty=some 0:=rfl
def Zya{i o n c z}:yo (.slice i o n c z)=some (i,o):=rfl
attribute [simp] Yku Ykv Ygu Yci Ylp Ycj Zya Ygv Yck Zud Ydn Yi1 Zyd
def cW(b:UInt8):Int:=b.toNat
def Yd5(b:UInt8):0<=cW b/\cW b<256:=by unfold cW;have:=b.toNat_lt;omega
def UD(st:St):Option UInt8->Option (V×St)
 |some b=>some (.int .u8 b.toNat,st)
 |none=>none
def UE(st:St):Option V->Option V->Option (V×St)
 |some (.str s),some (.int _ k)=>if 0<=k then UD st s[k.toNat]? else none
 |_,_=>none
def Zwr{i:Src}{call:cM}{st:St}:GB x i call r st=UE st (x.ev r) (i.ev r):=by
 unfold GB UE UD;rcases x.ev r with _|v
 ·rfl
 rcases i.ev r with _|u
 ·cases v<;>rfl
 cases u<;>cases v<;>rfl
def Yg9{st:St}{s:List UInt8}{k:IntKind}(h:0<=j):UE st (some (.str s)) (some (.int k j))=UD st s[j.toNat]?:=by simp[UE,h]
def Ycz{st:St}{b:UInt8}:UD st (some b)=some (.int .u8 (cW b),st):=rfl
attribute [simp] Zwr Yg9 Ycz
def UF(st:St)(elem:TypeId)(size bytes:Nat)(zero:List V):Option V->Option V->Option (V×St)
 |some (.int _ l),some (.int _ c)=>if 0<=l/\l<=c/\bytes*c<=2^47/\c<2^62/\size=zero.length/\size≠0 then
    some (.slice st.n 0 l.toNat (some c.toNat) size,st.alloc (.cells (dm zero c.toNat) elem true)) else none
 |_,_=>none
def Zub{elem:TypeId}{bytes:Nat}{zero:List V}{y:Src}{call:cM}{st:St}:Ez elem size bytes zero x y call r st=UF st elem size bytes zero (x.ev r) (y.ev r):=by unfold Ez UF;rfl
def Yld{st:St}{elem:TypeId}{bytes:Nat}{zero:List V}{k k':IntKind}{l:Int}(h0:0<=l)(h1:bytes*l<=140737488355328)(h2:l<4611686018427387904)(h3:size=zero.length)(h4:0<size):
  UF st elem size bytes zero (some (.int k l)) (some (.int k' l))=some (.slice st.n 0 l.toNat (some l.toNat) size,st.alloc (.cells (dm zero l.toNat) elem true)):=by unfold UF;simp only[];rw[ar ⟨h0,Int.le_refl _,by simpa using h1,by simpa using h2,h3,by omega⟩]
def UG(n:Nat)(st:St):Option V->Option V->Option (V×St)
 |some (.ptr i o),some v=>match st.row i with
   |some (c,e,true)=>if v.cells.length=n/\o+n<=c.length/\v.cells.all V.one=true then some (.aV [],st.write i (.cells (ag c o v.cells) e true)) else none
   |_=>none
 |_,_=>none
def Ybp{a:Src}{call:cM}{st:St}:Gx n a x call r st=UG n st (a.ev r) (x.ev r):=by unfold Gx UG;rfl
def bO(n:Nat)(st:St)(i o:Nat)(v:V):Option O->Option (V×St)
 |some (.cells c e true)=>if v.cells.length=n/\o+n<=c.length/\v.cells.all V.one=true then some (.aV [],st.write i (.cells (ag c o v.cells) e true)) else none
 |_=>none
def Ya7{st:St}:UG n st (some (.ptr i o)) (some v)=bO n st i o v (st.h.get i):=by
 unfold UG bO St.row;simp only[];rcases st.h.get i with _|x
 ·rfl
 cases x with
 |cells c e b=>cases b<;>rfl
 |_=>rfl
def Zm4{w:List Nat}{c:List V}{e:TypeId}(h1:v.cells.length=n)(h2:o+n<=c.length)(h3:v.cells.all V.one=true):
  bO n ⟨h,N,w⟩ i o v (some (.cells c e true))=some (.aV [],⟨h.set i (.cells (ag c o v.cells) e true),N,i::w⟩):=by unfold bO;simp only[];rw[ar ⟨h1,h2,h3⟩];rfl
attribute [simp] Zub Yld Ybp Ya7 Zm4
def bA(n:Nat):Nat:=n%18446744073709551616
def cy(n:Nat):Nat:=n/18446744073709551616
def eJ(x y c:Nat):Nat:=(x+18446744073709551616-y-c)%18446744073709551616
def gh(x y c:Nat):Nat:=if x<y+c then 1 else 0
def au(a b:Nat):Nat:=a/2^b
def bN(a b:Nat):Nat:=a*2^b%18446744073709551616
def fj(a:Nat):Nat:=a%4294967296
def jT(a b:Nat):Nat:=a|||b
def MB(n:Int):IntKind.wrap .u64 n=n%18446744073709551616:=by simp[IntKind.wrap,IntKind.bits,IntKind.signed]
def Hk{n:Int}(h1:0<=n)(h2:n<18446744073709551616):bo .u64 n=n:=by rw[Bw,MB];omega
def MC(n:Int):bo .u64 n=n%18446744073709551616:=by rw[Bw,MB]
def Ybb{b:Int}(h0:0<=b)(h1:b<=64):Aj .shr .u64 (a:Int) b=some (.int .u64 (au a b.toNat:Nat)):=by
 unfold Aj au;have e:min b.toNat (IntKind.bits .u64)=b.toNat:=by simp[IntKind.bits];omega
 rw[ak (by omega),e];simp only[aq,V.int.injEq,true_and];rw[Int.fdiv_eq_ediv_of_nonneg _ (by exact_mod_cast wh _)];push_cast;rfl
def Ybc{b:Int}(h0:0<=b)(h1:b<=64):Aj .shl .u64 (a:Int) b=some (.int .u64 (bN a b.toNat:Nat)):=by
 unfold Aj bN;have e:min b.toNat (IntKind.bits .u64)=b.toNat:=by simp[IntKind.bits];omega
 rw[ak (by omega),e];show some (V.int .u64 (IntKind.wrap .u64 ((a:Int)*2^b.toNat)))=_;rw[MB];have:(((a*2^b.toNat%18446744073709551616:Nat)):Int)=(a:Int)*2^b.toNat%18446744073709551616:=by rw[Int.natCast_emod,LJ,Int.natCast_pow];rfl
 rw[this]
def TM(a:Nat)(h:a<18446744073709551616):(BitVec.ofInt 64 (a:Int)).toNat=a:=by simp[BitVec.toNat_ofInt];omega
def Zux(h:a<18446744073709551616):sK .and .u64 (a:Int) 4294967295=some (.int .u64 (fj a:Nat)):=by
 show some (V.int .u64 (IntKind.wrap .u64 (BitVec.ofInt 64 (a:Int)&&& BitVec.ofInt 64 4294967295).toNat))=_;rw[MB,BitVec.toNat_and,TM a h];have e:(BitVec.ofInt 64 4294967295).toNat=2^32-1:=by decide
 rw[e,Nat.and_two_pow_sub_one_eq_mod];unfold fj;simp only[aq,V.int.injEq,true_and];omega
def Yg6(h:a<18446744073709551616)(h':b<18446744073709551616):sK .or .u64 (a:Int) (b:Int)=some (.int .u64 (jT a b:Nat)):=by show some (V.int .u64 (IntKind.wrap .u64 (BitVec.ofInt 64 (a:Int)|||BitVec.ofInt 64 (b:Int)).toNat))=_;rw[MB,BitVec.toNat_or,TM a h,TM b h'];have:=Nat.or_lt_two_pow (n:=64) h h';unfold jT;simp only[aq,V.int.injEq,true_and];omega
def cN(a b:Nat):Nat:=(a+b)%18446744073709551616
def gU(a b:Nat):Nat:=((a:Int)-b).toNat%18446744073709551616+(if a<b then (((a:Int)-b)%18446744073709551616).toNat else 0)
def dc(a b:Nat):Nat:=(a*b)%18446744073709551616
def nM(a b:Nat):Nat:=a/b
def PV(a b:Nat):Nat:=a%b
def Ya0:bo .u64 ((a:Int)+(b:Int))=(cN a b:Nat):=by rw[MC];unfold cN;omega
def Zqn:bo .u64 ((a:Int)-(b:Int))=(gU a b:Nat):=by rw[MC];unfold gU;split<;>omega
def Zvy:bo .u64 ((a:Int)-1)=(gU a 1:Nat):=Zqn (b:=1)
def Zmh:bo .u64 ((a:Int)*(b:Int))=(dc a b:Nat):=by rw[MC];unfold dc;rw[<-LJ];omega
def Ztj:bo .u64 ((a:Int)*4294967296)=(dc a 4294967296:Nat):=Zmh (b:=4294967296)
def Zrr:bo .u64 (4294967296*(a:Int))=(dc 4294967296 a:Nat):=Zmh (a:=4294967296)
def Yaz(h:a<18446744073709551616):bo .u64 ((a:Int).tdiv (b:Int))=(nM a b:Nat):=by rw[MC];unfold nM;have e:((a:Int).tdiv (b:Int))=((a/b:Nat):Int):=rfl;have:=wS a b;rw[e];generalize a/b=q at*;omega
def Yea:(a:Int).tmod (b:Int)=(PV a b:Nat):=rfl
def GW(h:b<=a)(ha:a<18446744073709551616):gU a b=a-b:=by unfold gU;split<;>omega
def Ytv:cN a b<18446744073709551616:=mO _ (by decide)
def Yq4:dc a b<18446744073709551616:=mO _ (by decide)
def Zr4:bN a b<18446744073709551616:=mO _ (by decide)
def Yec:gU a b<18446744073709551616:=by unfold gU;split<;>omega
def Zyu(h:a<18446744073709551616):au a b<18446744073709551616:=po (wS _ _) h
attribute [simp] Ytv Yq4 Zr4 Yec Ya0 Zqn Zvy Zmh Ztj Zrr Yaz Yea Ybb Ybc Zux Yg6
def JW(st:St)(e:Ext)(o:Option (List V)):Option (V×St):=match e,o with
  |.same,some [v]=>some (v,st)
  |e,some l=>match Ew e l with
   |some v=>some (v,st)
   |none=>none
  |_,none=>none
def Ykw{e:Ext}{args:List Src}{call:cM}{st:St}:Jo e args call r st=JW st e (vL r args):=rfl
def Yhm{st:St}:JW st .same (some [v])=some (v,st):=rfl
def Yc5{st:St}{x y c:Int}(h:c=0\/c=1):JW st .pc (some [.int .u64 x,.int .u64 y,.int .u64 c])=some (.aV [.int .u64 (bA (x.toNat+y.toNat+c.toNat):Nat),.int .u64 (cy (x.toNat+y.toNat+c.toNat):Nat)],st):=by simp only[JW,Ew,h,not_true_eq_false,if_false];rfl
def Yc4{st:St}{x y c:Int}(h:c=0\/c=1):JW st .pd (some [.int .u64 x,.int .u64 y,.int .u64 c])=some (.aV [.int .u64 (eJ x.toNat y.toNat c.toNat:Nat),.int .u64 (gh x.toNat y.toNat c.toNat:Nat)],st):=by simp only[JW,Ew,h,not_true_eq_false,if_false,gh];split<;>rfl
def Ygr:bA n<18446744073709551616:=mO _ (by decide)
def Yp7{c:Nat}:eJ a b c<18446744073709551616:=mO _ (by decide)
attribute [simp] Ygr Yp7 Ykw Yhm Yc5 Yc4
def nV(st:St)(size:Nat):Option V->Option (Option V)->Option (Option V)->Option (Option V)->Option (V×St)
 |some v,some lo,some hi,some mx=>qV size (.const v) (lo.map .const) (hi.map .const) (mx.map .const) Z3 .nil st
 |_,_,_,_=>none
def FY{o:Option V}:aB r (o.map .const)=some o:=by cases o<;>rfl
def FZ{lo hi mx:Option Src}{call:cM}{st:St}:qV size x lo hi mx call r st=nV st size (x.ev r) (aB r lo) (aB r hi) (aB r mx):=by
 unfold nV qV;rcases x.ev r with _|v
 ·rfl
 rcases aB r lo with _|lo
 ·cases v<;>try rfl
  rename_i c _;cases c<;>rfl
 rcases aB r hi with _|hi
 ·cases v<;>try rfl
  rename_i c _;cases c<;>rfl
 rcases aB r mx with _|mx
 ·cases v<;>try rfl
  rename_i c _;cases c<;>rfl
 simp only[FY];rfl
def Sl(h:T O)(N:Nat)(v:V)(l:List V):Prop:=
 (l=[]/\(v=.aa\/v=.empty))\/∃i o cp c e rw,v=.slice i o l.length cp 1/\i<N/\h.get i=some (.cells c e rw)/\(∀j,j<l.length->c[o+j]?=l[j]?)/\o+l.length<=c.length/\∀k,cp=some k->l.length<=k
def Sl.nil:Sl h N .aa []:=.inl ⟨rfl,.inl rfl⟩
def Sl.row{L:Nat}{l:List V}{e:TypeId}{rw:Bool}{cp:Option Nat}(hi:i<N)(hg:h.get i=some (.cells l e rw))(hL:l.length=L)(hc:∀k,cp=some k->L<=k):Sl h N (.slice i 0 L cp 1) l:=
 .inr ⟨i,0,cp,l,e,rw,by rw[hL],hi,hg,fun j _=>by rw[yE],by omega,fun k hk=>by rw[hL];exact hc k hk⟩
def Sl.ad{h':T O}{N':Nat}{l:List V}(s:Sl h N v l)(k:ab h N h' N'):Sl h' N' v l:=by
 rcases s with s|⟨i,o,cp,c,e,rw,h1,h2,h3,h4⟩
 ·exact .inl s
 exact .inr ⟨i,o,cp,c,e,rw,h1,fm h2 k.le,(k.get i h2).trans h3,h4⟩
def Sl.len{l:List V}(s:Sl h N v l):qg v=some l.length:=by rcases s with⟨rfl,rfl|rfl⟩|⟨i,o,cp,c,e,rw,rfl,_⟩<;>rfl
def Sl.at{l:List V}(s:Sl h N v l){j:Nat}{x:V}(hj:l[j]?=some x):∃i o c e rw,yo v=some (i,o)/\i<N/\h.get i=some (.cells c e rw)/\c[o+j]?=some x:=by
 have hl:j<l.length:=by apply uH;intro hc;rw[fW hc]at hj;cases hj
 rcases s with⟨rfl,_⟩|⟨i,o,cp,c,e,rw,rfl,h2,h3,h4,_⟩
 ·simp at hl
 exact⟨i,o,c,e,rw,rfl,h2,h3,(h4 j hl).trans hj⟩
def val(b:Nat):List Nat->Nat
 |[]=>0
 |d::l=>d+b*val b l
def dg(l:List Nat):List V:=l.map fun n:Nat=>.int .u64 n
def dgi(l:List Nat):List V:=l.map fun n:Nat=>.int .i64 n
def bq(l:List Nat):(dg l).length=l.length:=by simp[dg]
def b_(l:List Nat):(dgi l).length=l.length:=by simp[dgi]
def f_{j:Nat}(h:l[j]?=some n):(dg l)[j]?=some (.int .u64 n):=by simp[dg,h]
attribute [simp] bq b_
def qL{v:Nat}(h:k<l.length):ag (dg l) k [.int .u64 v]=dg (l.set k v):=by
 unfold ag dg;apply ph;intro j;simp only[Af,eG,List.getElem?_set];rw[uG,List.getElem?_append,iX,cG];by_cases h1:j<k
 ·rw[ar (by omega),jL,ar h1,eG,ak (by omega)]
 rw[ak (by omega)];by_cases h2:j=k
 ·subst h2;rw[show j-min j l.length=0 by omega,ar rfl,ar h];rfl
 rw[show j-min k l.length=(j-k-1)+1 by omega,ak (by omega)];simp only[TA,Gm,fF,eG];rw[show k+1+(j-k-1)=j by omega]
def JX:dm [.int .u64 0] n=dg (List.replicate n 0):=by
 unfold dm dg;apply ph;intro j;simp only[Af,yy,eG,List.getElem?_replicate];by_cases h:j<n
 ·simp[h,Nat.mod_one]
 simp[h]
def Ydt{z:V}:dm [z] n=List.replicate n z:=by
 unfold dm;apply ph;intro j;simp only[Af,yy,eG,List.getElem?_replicate];by_cases h:j<n
 ·simp[h,Nat.mod_one]
 simp[h]
def T0(b:Nat):∀(l m:List Nat),val b (l++m)=val b l+b^l.length*val b m
 |[],m=>by simp[val]
 |d::l,m=>by
  simp only[Er,val,T0 b l m,bk,ix]
  grind
def UH(b:Nat)(l:List Nat)(d:Nat):val b (l++[d])=val b l+b^l.length*d:=by simp[T0,val]
def Ztl(b n:Nat):val b (List.replicate n 0)=0:=by
 induction n with
 |zero=>rfl
 |succ n ih=>simp[List.replicate_succ,val,ih]
def GV{d:Nat}(h:l[k]?=some d):val b (l.take (k+1))=val b (l.take k)+b^k*d:=by
 have hk:k<l.length:=by apply uH;intro hc;rw[fW hc]at h;cases h
 rw[DQ,h];simp only[Option.toList];rw[UH,iX,rj (by omega)]
def GU{b:Nat}:∀{l:List Nat},(∀d∈l,d<b)->val b l<b^l.length
 |[],_=>by simp[val]
 |d::l,h=>by
  have h1:=h d qQ
  have h2:=GU (l:=l) fun e he=>h e (qz _ he)
  simp only[val,bk,ix]
  have:b*(val b l+1)<=b*b^l.length:=mM b h2
  rw[jO (b^l.length) b]
  grind
def B:Nat:=18446744073709551616
def Dg(l:List Nat):Prop:=∀d∈l,d<B
def Dg.get(h:Dg l){j d:Nat}(hj:l[j]?=some d):d<B:=h d (cF hj)
def dz(l:List Nat)(j:Nat):Nat:=l[j]?.getD 0
def Ywi{l:List Nat}(h:Dg l)(j:Nat):dz l j<B:=by
 unfold dz;cases hj:l[j]? with
 |none=>decide
 |some d=>exact h.get hj
def Fl{b:Nat}{l:List Nat}{k:Nat}:val b (l.take (k+1))=val b (l.take k)+b^k*dz l k:=by
 unfold dz;cases h:l[k]? with
 |some d=>exact GV h
 |none=>
  have hk:l.length<=k:=by apply zB;intro hc;rw[bV hc]at h;cases h
  rw[gp (by omega),gp hk];simp
def uk:List Nat->List Nat
 |[]=>[]
 |d::l=>match uk l with
  |[]=>if d=0 then [] else [d]
  |t=>d::t
def Zqp:∀(l:List Nat),uk (l++[0])=uk l
 |[]=>rfl
 |d::l=>by simp only[Er,uk,Zqp l]
def Zqq{d:Nat}(hd:d≠0):∀(l:List Nat),uk (l++[d])=l++[d]
 |[]=>by simp[uk,hd]
 |e::l=>by
  simp only[Er,uk,Zqq hd l]
  cases l<;>rfl
def kX:List (Nat×Nat)->Nat->Bool
 |[],_=>false
 |(a,b)::D,t=>(Nat.ble a t&&Nat.ble t b)||kX D t
def Yr4{t:Nat}:kX [] t=false:=rfl
def Yl0{D:List (Nat×Nat)}{t:Nat}:kX ((a,b)::D) t=((Nat.ble a t&&Nat.ble t b)||kX D t):=rfl
attribute [simp] Yr4 Yl0
structure Fx (D:List (Nat×Nat)) (r0:T V) (n:Nat) (fr:Fr):Prop where
 fY:∀t,kX D t=false->fr.r.get t=r0.get t
 n:fr.n=n
 marks:fr.marks=[]
def Fx.refl{D:List (Nat×Nat)}:Fx D r n ⟨r,n,[]⟩:=⟨fun _ _=>rfl,rfl,rfl⟩
def Fx.set{D:List (Nat×Nat)}{t:Nat}(ht:kX D t=true):Fx D r0 n ⟨r.set t v,n,[]⟩↔Fx D r0 n ⟨r,n,[]⟩:=by
 constructor
 ·intro h;refine⟨fun u hu=>?_,rfl,rfl⟩;have:=h.fY u hu;simp only[T.ae]at this;rw[ak]at this
  ·exact this
  rintro rfl;rw[ht]at hu;cases hu
 intro h;refine⟨fun u hu=>?_,rfl,rfl⟩;simp only[T.ae];rw[ak]
 ·exact h.fY u hu
 rintro rfl;rw[ht]at hu;cases hu
attribute [simp] Fx.set
def Yxp(D' D:List (Nat×Nat)):Bool:=D'.all fun p=>D.any fun q=>Nat.ble q.1 p.1&&Nat.ble p.2 q.2
def Yg7{D:List (Nat×Nat)}{t:Nat}:kX D t=true↔∃p∈D,p.1<=t/\t<=p.2:=by
 induction D with
 |nil=>simp[kX]
 |cons p D ih=>obtain⟨a,b⟩:=p;simp[kX,ih]
def Ypw{D' D:List (Nat×Nat)}(h:Yxp D' D=true){t:Nat}(ht:kX D t=false):kX D' t=false:=by
 cases hc:kX D' t with
 |false=>rfl
 |true=> obtain⟨p,hp,h1,h2⟩:=Yg7.1 hc;unfold Yxp at h;rw[jY]at h;obtain⟨q,hq,h3⟩:=List.any_eq_true.1 (h p hp);simp at h3;have:kX D t=true:=Yg7.2 ⟨q,hq,by omega,by omega⟩;rw[ht]at this;cases this
def Fx.inner{D D':List (Nat×Nat)}{r1 r2:T V}(hf:Fx D r0 n ⟨r,n,[]⟩)(hs:Yxp D' D=true)(h1:Fx D r0 n ⟨r,n,[]⟩->Fx D r0 n ⟨r1,n,[]⟩)(h2:∀t,kX D' t=false->r2.get t=r1.get t):Fx D r0 n ⟨r2,n,[]⟩:=
 ⟨fun t ht=>(h2 t (Ypw hs ht)).trans ((h1 hf).fY t ht),rfl,rfl⟩
def Rd(D:List (Nat×Nat))(r0:T V)(n:Nat)(I:Nat->T V->St->Prop)(k:Nat)(P:Ex->T V->St->Prop):Ex->Fr->St->Prop
 |.normal,fr,st=>Fx D r0 n fr/\∃k',k'<k/\I k' fr.r st
 |e,fr,st=>Fx D r0 n fr/\P e fr.r st
def Zvu{D r0 n I k P r st}:Rd D r0 n I k P .normal ⟨r,n,[]⟩ st↔Fx D r0 n ⟨r,n,[]⟩/\∃k',k'<k/\I k' r st:=Iff.rfl
def Yt2{D r0 n I k P r st i}:Rd D r0 n I k P (.exit i) ⟨r,n,[]⟩ st↔Fx D r0 n ⟨r,n,[]⟩/\P (.exit i) r st:=Iff.rfl
def Yw4{D r0 n I k P r st}:Rd D r0 n I k P .ret ⟨r,n,[]⟩ st↔Fx D r0 n ⟨r,n,[]⟩/\P .ret r st:=Iff.rfl
attribute [simp] Zvu Yt2 Yw4
def cm{C:Cx}{ro:Option Nat}{c:bW}{K:List Kf}{Q:Rs->Prop}{O3:St}(D:List (Nat×Nat))(P:Ex->T V->St->Prop)(I:Nat->T V->St->Prop)(k:Nat)(hi:I k r0 O3)
  (h:∀k r st,(∀t,kX D t=false->r.get t=r0.get t)->Fx D r0 n ⟨r,n,[]⟩->I k r st->Code C ro c ⟨r,n,[]⟩ st (Rd D r0 n I k P))
  (q:∀e r st,(∀t,kX D t=false->r.get t=r0.get t)->P e r st->bD C K (some (.ex e ⟨r,n,[]⟩ st)) Q):bD C K (ff (C.code ro (.loop c) ⟨r0,n,[]⟩ O3)) Q:=by
 refine Yj9 (fun e fr st=>Fx D r0 n fr/\P e fr.r st) (fun k fr st=>Fx D r0 n fr/\I k fr.r st) k ⟨Fx.refl,hi⟩ ?_ ?_
 ·rintro k ⟨r,n',m⟩ st ⟨hf,hi⟩;have h1:n'=n:=hf.n;have h2:m=[]:=hf.marks;subst h1;subst h2;obtain⟨e,bH,aA,h3,h4⟩:=(h k r st hf.fY hf hi).ex;refine⟨e,bH,aA,h3,?_⟩;cases e with
  |normal=>obtain⟨a,k',b,c⟩:=h4;exact⟨k',b,a,c⟩
  |exit i=>exact h4
  |ret=>exact h4
 rintro e ⟨r,n',m⟩ st ⟨hf,hp⟩;have h1:n'=n:=hf.n;have h2:m=[]:=hf.marks;subst h1;subst h2;exact q e r st hf.fY hp
def MD{l:List V}{w:List Nat}(s:Sl h N v l){lo hi:Nat}(h1:lo<=hi)(h2:hi<=l.length)(x y:Option V)(hx:x=some (.int .i64 lo)\/x=none/\lo=0)(hy:y=some (.int .i64 hi)\/y=none/\hi=l.length):
  ∃v',nV ⟨h,N,w⟩ 1 (some v) (some x) (some y) (some none)=some (v',⟨h,N,w⟩)/\Sl h N v' ((l.take hi).drop lo):=by
 rcases s with⟨rfl,rfl|rfl⟩|⟨i,o,cp,c,e,rw,rfl,q2,q3,q4,q5,q6⟩
 ·have:hi=0:=by simpa using h2
  subst this;have:lo=0:=by omega
  subst this;refine⟨.aa,?_,.inl ⟨rfl,.inl rfl⟩⟩;rcases hx with rfl|⟨rfl,_⟩<;>rcases hy with rfl|⟨rfl,_⟩<;>simp[nV,qV,aB,dP,mP]
 ·have:hi=0:=by simpa using h2
  subst this;have:lo=0:=by omega
  subst this;refine⟨.empty,?_,.inl ⟨rfl,.inr rfl⟩⟩;rcases hx with rfl|⟨rfl,_⟩<;>rcases hy with rfl|⟨rfl,_⟩<;>simp[nV,qV,aB,dP,mP]
 have hlen:((l.take hi).drop lo).length=hi-lo:=by simp;omega
 have cZ:∀j,j<hi-lo->c[o+lo+j]?=((l.take hi).drop lo)[j]?:=fun j hj=>by rw[fF,jL,ar (by omega),show o+lo+j=o+(lo+j) by omega];exact q4 _ (by omega)
 have b1:∀m,hi<=m->dP y m l.length=some hi:=fun m hm=>by
  rcases hy with rfl|⟨rfl,rfl⟩
  ·simp[dP,mP];omega
  rfl
 have b2:dP x hi 0=some lo:=by
  rcases hx with rfl|⟨rfl,rfl⟩
  ·simp[dP,mP];omega
  rfl
 cases cp with
 |some k=>
  have hk:=q6 k rfl;refine⟨.slice i (if k=lo then o else o+lo) (hi-lo) (some (k-lo)) 1,?_,?_⟩
  ·have b0:dP none k k=some k:=rfl;simp only[nV,qV,FY,Src.ev,yy];simp[b0,b1 k (by omega),b2]
  by_cases tW:k=lo
  ·refine .inr ⟨i,o,some 0,c,e,rw,?_,q2,q3,fun j hj=>by rw[hlen]at hj;omega,by rw[hlen];omega,fun k' iD=>by rw[hlen];omega⟩;rw[hlen,ar tW,show k-lo=0 by omega]
  refine .inr ⟨i,o+lo,some (k-lo),c,e,rw,?_,q2,q3,fun j hj=>cZ j (by omega),by rw[hlen];omega,fun k' iD=>by simp at iD;rw[hlen];omega⟩;rw[hlen,ak tW]
 |none=>
  have hk:hi<=max l.length (c.length-o):=by omega
  by_cases aC:lo<max l.length (c.length-o)
  ·refine⟨.slice i (o+lo) (hi-lo) none 1,?_,.inr ⟨i,o+lo,none,c,e,rw,by rw[hlen],q2,q3,fun j hj=>cZ j (by omega),by rw[hlen];omega,fun k' iD=>by cases iD⟩⟩;simp only[nV,qV,FY,Src.ev,St.row,q3,Nat.div_one,yy];simp[b1 _ hk,b2,aC]
  refine⟨.empty,?_,.inl ⟨rS (by rw[hlen];omega),.inr rfl⟩⟩;simp only[nV,qV,FY,Src.ev,St.row,q3,Nat.div_one,yy];simp[b1 _ hk,b2,aC]
def Zr5{m v:Nat}(hk:l.length=k):(l++List.replicate (m+1) 0).set k v=(l++[v])++List.replicate m 0:=by subst hk;rw[List.set_append_right _ _ (aO _)];simp[List.replicate_succ]
def aH(n:Nat):List Nat:=if h:n=0 then [] else n%B::aH (n/B)
termination_by n
decreasing_by exact Et (by omega) (by decide)
def sV:aH 0=[]:=by rw[aH];simp
def og(h:n≠0):aH n=n%B::aH (n/B):=by rw[aH];simp[h]
def oz:∀(n:Nat),val B (aH n)=n:=by
 intro n;induction n using Nat.strongRecOn with
 |_ n ih=>
  by_cases h:n=0
  ·subst h;rw[sV];rfl
  rw[og h];simp only[val];rw[ih (n/B) (Et (by omega) (by decide))];have:=vM n B;omega
def sX(n:Nat):Dg (aH n):=by
 induction n using Nat.strongRecOn with
 |_ n ih=>
  by_cases h:n=0
  ·subst h;rw[sV];intro d hd;cases hd
  rw[og h];intro d hd;rcases iW.1 hd with rfl|hd
  ·exact mO _ (by decide)
  exact ih (n/B) (Et (by omega) (by decide)) d hd
def Fm:∀{l:List Nat},Dg l->uk l=aH (val B l)
 |[],_=>by simp[uk,val,sV]
 |d::l,h=>by
  have ih:=Fm (l:=l) fun e he=>h e (qz _ he)
  have hd:d<B:=h d qQ
  simp only[uk,val,ih]
  by_cases h0:val B l=0
  ·rw[h0,sV]
   simp only[Nat.mul_zero,gE]
   by_cases qf:d=0
   ·simp[qf,sV]
   ·rw[og qf,zC hd,Bt hd,sV];simp[qf]
  ·have hB:0<B:=by decide
   have h1:(d+B*val B l)/B=val B l:=by
    rw[Nat.add_mul_div_left _ _ hB,Bt hd,yE]
   have h2:(d+B*val B l)%B=d:=by
    rw[Nat.add_mul_mod_self_left,zC hd]
   have h3:d+B*val B l≠0:=by
    intro hc
    have:B*val B l=0:=by omega
    rcases Nat.mul_eq_zero.1 this with h|h
    ·omega
    ·exact h0 h
   rw[og h3,h1,h2]
   split
   ·rename_i hc;rw[og h0]at hc;cases hc
   ·rfl
def Wn(h:T O)(N:Nat)(v:V)(n:Nat):Prop:=Sl h N v (dg (aH n))
def Wn.ad{h':T O}{N':Nat}(s:Wn h N v n)(k:ab h N h' N'):Wn h' N' v n:=Sl.ad s k
variable {N bytes z:Nat} {h:T O} {l:List (List V)} {v:V}
def Np{α:Type}{c:List α}{o n:Nat}{x:List α}(h:aL c o n=some x):o+n<=c.length/\x=(c.drop o).take n:=by
 unfold aL at h;split at h
 ·rename_i hl;simp at h;exact⟨hl,h.symm⟩
 cases h
def Yp0{α:Type}{c:List α}{o n:Nat}{x:List α}(h:aL c o n=some x){f:Nat}(hf:f<n):c[o+f]?=x[f]?:=by obtain⟨_,rfl⟩:=Np h;rw[jL,ar hf,fF]
def Sn(z:Nat)(h:T O)(N:Nat)(v:V)(l:List (List V)):Prop:=
 (l=[]/\(v=.aa\/v=.empty))\/∃i o cp c e rw,v=.slice i o l.length cp z/\i<N/\h.get i=some (.cells c e rw)/\(∀j x,l[j]?=some x->aL c (o+j*z) z=some x)/\o+l.length*z<=c.length/\∀k,cp=some k->l.length<=k
def Sn.nil:Sn z h N .aa []:=.inl ⟨rfl,.inl rfl⟩
def Sn.ad{h':T O}{N':Nat}(s:Sn z h N v l)(k:ab h N h' N'):Sn z h' N' v l:=by
 rcases s with s|⟨i,o,cp,c,e,rw,h1,h2,h3,h4⟩
 ·exact .inl s
 exact .inr ⟨i,o,cp,c,e,rw,h1,fm h2 k.le,(k.get i h2).trans h3,h4⟩
def Sn.len(s:Sn z h N v l):qg v=some l.length:=by rcases s with⟨rfl,rfl|rfl⟩|⟨i,o,cp,c,e,rw,rfl,_⟩<;>rfl
def Sn.at(s:Sn z h N v l){j:Nat}{x:List V}(hj:l[j]?=some x):∃i o c e rw,yo v=some (i,o)/\i<N/\h.get i=some (.cells c e rw)/\aL c (o+j*z) z=some x:=by
 have hl:j<l.length:=by apply uH;intro hc;rw[fW hc]at hj;cases hj
 rcases s with⟨rfl,_⟩|⟨i,o,cp,c,e,rw,rfl,h2,h3,h4,_⟩
 ·simp at hl
 exact⟨i,o,c,e,rw,rfl,h2,h3,h4 j x hj⟩
def Ztu(hz:0<z){h:T O}{N:Nat}{v:V}{l:List (List V)}{w:List Nat}(s:Sn z h N v l){lo hi:Nat}(h1:lo<=hi)(h2:hi<=l.length)(x y:Option V)(hx:x=some (.int .i64 lo)\/x=none/\lo=0)(hy:y=some (.int .i64 hi)\/y=none/\hi=l.length):
  ∃v',nV ⟨h,N,w⟩ z (some v) (some x) (some y) (some none)=some (v',⟨h,N,w⟩)/\Sn z h N v' ((l.take hi).drop lo):=by
 rcases s with⟨rfl,rfl|rfl⟩|⟨i,o,cp,c,e,rw,rfl,q2,q3,q4,q5,q6⟩
 ·have:hi=0:=by simpa using h2
  subst this;have:lo=0:=by omega
  subst this;refine⟨.aa,?_,.inl ⟨rfl,.inl rfl⟩⟩;rcases hx with rfl|⟨rfl,_⟩<;>rcases hy with rfl|⟨rfl,_⟩<;>simp[nV,qV,aB,dP,mP]
 ·have:hi=0:=by simpa using h2
  subst this;have:lo=0:=by omega
  subst this;refine⟨.empty,?_,.inl ⟨rfl,.inr rfl⟩⟩;rcases hx with rfl|⟨rfl,_⟩<;>rcases hy with rfl|⟨rfl,_⟩<;>simp[nV,qV,aB,dP,mP]
 have hlen:((l.take hi).drop lo).length=hi-lo:=by simp;omega
 have cZ:∀j u,((l.take hi).drop lo)[j]?=some u->aL c (o+lo*z+j*z) z=some u:=fun j u hu=>by
  have hj:j<hi-lo:=by rw[<-hlen];apply uH;intro hc;rw[fW hc]at hu;cases hu
  rw[fF,jL,ar (by omega)]at hu;have:=q4 _ _ hu;rw[show o+lo*z+j*z=o+(lo+j)*z by rw[ji];omega];exact this
 have hmul:lo*z+(hi-lo)*z<=l.length*z:=by rw[<-ji];exact nf _ (by omega)
 have b1:∀m,hi<=m->dP y m l.length=some hi:=fun m hm=>by
  rcases hy with rfl|⟨rfl,rfl⟩
  ·simp[dP,mP];omega
  rfl
 have b2:dP x hi 0=some lo:=by
  rcases hx with rfl|⟨rfl,rfl⟩
  ·simp[dP,mP];omega
  rfl
 cases cp with
 |some k=>
  have hk:=q6 k rfl;refine⟨.slice i (if k=lo then o else o+lo*z) (hi-lo) (some (k-lo)) z,?_,?_⟩
  ·have b0:dP none k k=some k:=rfl;simp only[nV,qV,FY,Src.ev];simp[b0,b1 k (by omega),b2]
  by_cases tW:k=lo
  ·have h0:(l.take hi).drop lo=[]:=rS (by rw[hlen];omega);refine .inr ⟨i,o,some (k-lo),c,e,rw,?_,q2,q3,fun j u hu=>by rw[h0]at hu;simp at hu,by rw[h0];simp;omega,fun k' iD=>by rw[h0];simp⟩;rw[hlen,ar tW]
  refine .inr ⟨i,o+lo*z,some (k-lo),c,e,rw,?_,q2,q3,cZ,by rw[hlen];omega,fun k' iD=>by simp at iD;rw[hlen];omega⟩;rw[hlen,ak tW]
 |none=>
  have hlz:l.length<=(c.length-o)/z:=by rw[LK hz];omega
  have hk:hi<=max l.length ((c.length-o)/z):=by omega
  have pn:z≠0:=by omega
  by_cases aC:lo<max l.length ((c.length-o)/z)
  ·refine⟨.slice i (o+lo*z) (hi-lo) none z,?_,.inr ⟨i,o+lo*z,none,c,e,rw,by rw[hlen],q2,q3,cZ,by rw[hlen];omega,fun k' iD=>by cases iD⟩⟩;simp only[nV,qV,FY,Src.ev,St.row,q3];simp[b1 _ hk,b2,aC,pn]
  refine⟨.empty,?_,.inl ⟨rS (by rw[hlen];omega),.inr rfl⟩⟩;simp only[nV,qV,FY,Src.ev,St.row,q3];simp[b1 _ hk,b2,aC,pn]
def Sn.one{l:List V}:Sn 1 h N v (l.map fun x=>[x])↔Sl h N v l:=by
 unfold Sn Sl;constructor
 ·rintro(⟨h1,h2⟩|⟨i,o,cp,c,e,rw,h1,h2,h3,h4,h5,h6⟩)
  ·exact .inl ⟨by simpa using h1,h2⟩
  refine .inr ⟨i,o,cp,c,e,rw,by simpa using h1,h2,h3,fun j hj=>?_,by simpa using h5,by simpa using h6⟩;have:=h4 j [l[j]] (by simp[bV hj]);have:=Yp0 this (f:=0) (by omega);simp at this;rw[this,bV hj]
 rintro(⟨h1,h2⟩|⟨i,o,cp,c,e,rw,h1,h2,h3,h4,h5,h6⟩)
 ·exact .inl ⟨by simpa using h1,h2⟩
 refine .inr ⟨i,o,cp,c,e,rw,by simpa using h1,h2,h3,fun j x hj=>?_,by simpa using h5,by simpa using h6⟩;simp at hj;obtain⟨u,hu,rfl⟩:=hj;have hl:j<l.length:=by apply uH;intro hc;rw[fW hc]at hu;cases hu
 have:=h4 j hl;rw[hu]at this;have hc:o+j<c.length:=by omega
 unfold aL;rw[ar (by omega),yy,IY hc];rw[bV hc]at this;simp at this;simp[this]
def Own(z:Nat)(e:TypeId)(N0:Nat)(h:T O)(N:Nat)(v:V)(l:List (List V)):Prop:=
 (∀x∈l,x.length=z)/\((l=[]/\v=.aa)\/∃i,v=.slice i 0 l.length none z/\N0<=i/\i<N/\h.get i=some (.cells l.flatten e true))
def Own.nil{e:TypeId}{N0:Nat}:Own z e N0 h N .aa []:=⟨fun _ h=>by simp at h,.inl ⟨rfl,rfl⟩⟩
def Own.ad{e:TypeId}{N0:Nat}{h':T O}{N':Nat}(s:Own z e N0 h N v l)(k:ab h N h' N'):Own z e N0 h' N' v l:=by
 obtain⟨hl,s|⟨i,h1,h2,h3,h4⟩⟩:=s
 ·exact⟨hl,.inl s⟩
 exact⟨hl,.inr ⟨i,h1,h2,fm h3 k.le,(k.get i h3).trans h4⟩⟩
def Own.len{e:TypeId}{N0:Nat}(s:Own z e N0 h N v l):qg v=some l.length:=by obtain⟨_,⟨rfl,rfl⟩|⟨i,rfl,_⟩⟩:=s<;>rfl
def AH{z:Nat}:∀{l:List (List V)},(∀x∈l,x.length=z)->l.flatten.length=l.length*z
 |[],_=>by simp
 |x::l,h=>by
  have h1:=h x qQ
  have h2:=AH (l:=l) fun y hy=>h y (qz _ hy)
  simp only[List.flatten_cons,jm,h1,h2,bk,ji];omega
def PW{z:Nat}:∀{l:List (List V)},(∀x∈l,x.length=z)->∀{j:Nat} {x:List V},l[j]?=some x->aL l.flatten (j*z) z=some x
 |[],_,j,x,hj=>by simp at hj
 |y::l,h,0,x,hj=>by
  have h1:=h y qQ
  simp at hj;subst hj
  unfold aL
  simp[<-h1]
 |y::l,h,j+1,x,hj=>by
  have h1:=h y qQ
  have h2:=PW (l:=l) (fun y hy=>h y (qz _ hy)) (j:=j) (x:=x) (by simpa using hj)
  obtain⟨h3,h4⟩:=Np h2
  unfold aL
  rw[ar (by simp only[List.flatten_cons,jm,ji,h1];omega),h4]
  congr 2
  rw[List.flatten_cons,ji,Nat.one_mul,Nat.add_comm,<-List.drop_drop,<-h1,List.drop_left]
def Own.sn{e:TypeId}{N0:Nat}(s:Own z e N0 h N v l):Sn z h N v l:=by
 obtain⟨hl,⟨h1,h2⟩|⟨i,h1,h2,h3,h4⟩⟩:=s
 ·exact .inl ⟨h1,.inl h2⟩
 exact .inr ⟨i,0,none,l.flatten,e,true,h1,h3,h4,fun j x hj=>by rw[yE];exact PW hl hj,by rw[AH hl];omega,fun k hk=>by cases hk⟩
def Zyc(st:St)(size bytes:Nat)(e:TypeId):Option V->Option V->Option (V×St)
 |some s,some x=>mm st size bytes e s x
 |_,_=>none
def Zws{size:Nat}{e:TypeId}{z:List V}{s x:Src}{call:cM}{r:T V}{st:St}:EB size bytes e z s x call r st=Zyc st size bytes e (s.ev r) (x.ev r):=by unfold EB Zyc;rfl
def Ie{st:St}{size:Nat}{e:TypeId}{s x:V}:Zyc st size bytes e (some s) (some x)=mm st size bytes e s x:=rfl
attribute [simp] Zws Ie
def A7{e:TypeId}{N0:Nat}{u:V}{x:List V}{w:List Nat}(s:Own z e N0 h N v l)(hN:N0<=N)(hz:0<z)(hx:x.length=z)
  (hu:gb ⟨h,N,w⟩ z u=some (1,x)) (hb:2*(l.length+1)*bytes<=281474976710656):
  ∃v' h' w',mm ⟨h,N,w⟩ z bytes e v u=some (v',⟨h',N+1,w'⟩)/\ay N0 w'=ay N0 w/\ab h N0 h' (N+1)/\(∀j,h'.get j=h.get j\/j=N\/(∃o n c q,v=.slice j o n c q))/\Own z e N0 h' (N+1) v' (l++[x]):=by
 obtain⟨hl,s⟩:=s;have jj:∀y∈l++[x],y.length=z:=fun y hy=>by
  rcases jB.1 hy with hy|hy
  ·exact hl y hy
  simp at hy;rw[hy,hx]
 have pn:z≠0:=by omega
 rcases s with⟨rfl,rfl⟩|⟨i,rfl,h2,h3,h4⟩
 ·refine⟨.slice N 0 1 none z,h.set N (.cells x e true),w,?_,rfl,⟨by omega,fun j hj=>by rw[T.ae,ak (by omega)]⟩,fun j=>by rw[T.ae];by_cases hj:j=N<;>simp[hj],jj,.inr ⟨N,by simp,hN,by omega,by rw[T.ae];simp⟩⟩;have vw:2*1*bytes<=281474976710656:=by simpa using hb
  simp only[mm,hu,wu,St.alloc];simp[vw,pn]
 have kg:=AH hl;refine⟨.slice N 0 (l.length+1) none z,(h.set i .dead).set N (.cells (l.flatten++x) e true),i::w,?_,by simp[ay,wx.2 h2],⟨by omega,fun j hj=>by rw[T.ae,ak (by omega),T.ae,ak (by omega)]⟩,fun j=>?_,jj,.inr ⟨N,by simp,hN,by omega,by rw[T.ae];simp⟩⟩
 ·simp only[mm,hu,wu,St.row,h4];rw[ak (by omega),ak (by rintro(h|h|h)<;>omega)];simp only[if_true];rw[ak (by rw[kg,ji];omega),ar ⟨by rw[kg];omega,trivial,trivial⟩];rfl
 by_cases hj:j=N
 ·exact .inr (.inl hj)
 by_cases pE:j=i
 ·exact .inr (.inr ⟨0,l.length,none,z,by rw[pE]⟩)
 left;rw[T.ae,ak hj,T.ae,ak pE]
abbrev aD:=List UInt8
def my(c:UInt8):Bool:=decide (48<=c.toNat/\c.toNat<=57)
def jx:aD->Bool
 |[]=>false
 |c::s=>(c::s).all my&&(decide (c.toNat≠48)||decide (s=[]))
def ah:aD->Nat
 |[]=>0
 |c::s=>if c.toNat=47 then 0 else ah s+1
def aE(s:aD):Nat:=s.foldl (fun n c=>10*n+(c.toNat-48)) 0
def cA:aD->Bool
 |[]=>false
 |c::_=>decide (c.toNat=45)
def bl(s:aD):aD:=if cA s then s.drop 1 else s
def gV(neg:Bool)(p:aD)(broken:Bool)(d:aD):Bool:=jx p&&!(neg&&decide (p=[48]))&&(!broken||(jx d&&decide (d≠[48])&&decide (d≠[49])))
def kZ(neg:Bool)(p:aD)(broken:Bool)(d:aD):Nat:=
 if gV neg p broken d=false then 1 else if 600<p.length\/600<d.length then 4 else if broken=true/\Nat.gcd (aE p) (aE d)≠1 then 1 else 0
def JQ(neg:Bool)(t:aD):Nat:=kZ neg (t.take (ah t)) (decide (ah t<t.length)) (t.drop (ah t+1))
def aS(s:aD):Nat:=JQ (cA s) (bl s)
def G9:∀(s:aD),ah s<=s.length
 |[]=>aO _
 |c::s=>by
  have:=G9 s
  simp only[ah,bk]
  split<;>omega
structure yK where
 name:aD
 op:aD
 Js:aD
 mQ:List aD
 cost:Int
def pos:List yK->aD->Nat
 |[],_=>0
 |s::g,n=>if s.name=n then 0 else pos g n+1
variable {i:Nat} {j:Int} {k:IntKind} {r:T V} {s:aD} {x:Src}
def Yuy(s:aD)(p:Nat):Int:=(Utf8.decode ⟨s.toArray⟩ p).1
def Yux(s:aD)(p:Nat):Nat:=(Utf8.decode ⟨s.toArray⟩ p).2
def JY(i:Nat)(st:St):Option (aD×Nat)->Option (V×St)
 |some (s,p)=>if p<s.length then some (.aV [.bool true,.int .i64 p,.int .i32 (Utf8.decode ⟨s.toArray⟩ p).1],st.write i (.eL s (p+(Utf8.decode ⟨s.toArray⟩ p).2))) else some (.aV [.bool false],st)
 |none=>none
def UI:Option O->Option (aD×Nat)
 |some (.eL s p)=>some (s,p)
 |_=>none
def Yq1(st:St):Option V->Option (V×St)
 |some (.ptr i 0)=>JY i st (UI (st.h.get i))
 |_=>none
def Zua{call:cM}{st:St}:Jm x call r st=Yq1 st (x.ev r):=by
 unfold Jm Yq1;rcases x.ev r with _|v
 ·rfl
 cases v<;>try rfl
 rename_i i o;cases o with
 |zero=>
  simp only[UI,JY];rcases st.h.get i with _|o
  ·rfl
  cases o<;>rfl
 |succ=>rfl
def Ybv{st:St}:Yq1 st (some (.ptr i 0))=JY i st (UI (st.h.get i)):=rfl
def Zwd{p:Nat}:UI (some (.eL s p))=some (s,p):=rfl
def Yfx{st:St}{p:Nat}(h:p<s.length):JY i st (some (s,p))=some (.aV [.bool true,.int .i64 p,.int .i32 (Yuy s p)],st.write i (.eL s (p+Yux s p))):=by simp[JY,h,Yuy,Yux]
def Ybw{st:St}:JY i st (some (s,s.length))=some (.aV [.bool false],st):=by simp[JY]
def vg(st:St):Option V->Option (Option V)->Option (Option V)->Option (V×St)
 |some (.str s),some lo,some hi=>match dP hi s.length s.length with
   |some h=>match dP lo h 0 with
    |some l=>some (.str ((s.take h).drop l),st)
    |none=>none
   |none=>none
 |_,_,_=>none
def Zsf{lo hi:Option Src}{call:cM}{st:St}:Al x lo hi call r st=vg st (x.ev r) (aB r lo) (aB r hi):=by unfold Al vg;rfl
def JZ{st:St}(h0:0<=j)(h1:j<=s.length):vg st (some (.str s)) (some (some (.int k j))) (some none)=some (.str (s.drop j.toNat),st):=by simp[vg,dP,mP,h0,h1]
def Zmk{st:St}(h0:0<=j)(h1:j<=s.length):vg st (some (.str s)) (some none) (some (some (.int k j)))=some (.str (s.take j.toNat),st):=by simp[vg,dP,mP,h0,h1]
def Zqt{st:St}{k':IntKind}{i:Int}(h0:0<=i)(h1:i<=j)(h2:j<=s.length):vg st (some (.str s)) (some (some (.int k i))) (some (some (.int k' j)))=some (.str ((s.take j.toNat).drop i.toNat),st):=by
 have h3:0<=j:=by omega
 have h4:max j 0=j:=by omega
 simp[vg,dP,mP,h0,h1,h2,h3,h4]
def J0(s:aD):List V:=s.map fun b=>.int .u8 (cW b)
def Ydi(s:aD):(J0 s).length=s.length:=by simp[J0]
def Ydj{k:Nat}{c:UInt8}(h:s[k]?=some c):(J0 s)[k]?=some (.int .u8 (cW c)):=by simp[J0,h]
def sbK(elem:TypeId)(st:St):Option V->Option (V×St)
 |some (.str s)=>some (.slice st.n 0 s.length none 1,st.alloc (.cells (J0 s) elem true))
 |_=>none
def Zse{elem:TypeId}{call:cM}{st:St}:Gy elem x call r st=sbK elem st (x.ev r):=by unfold Gy sbK;rfl
def Yj4{elem:TypeId}{st:St}:sbK elem st (some (.str s))=some (.slice st.n 0 s.length none 1,st.alloc (.cells (J0 s) elem true)):=rfl
attribute [simp] Zse Yj4 Ydi Zua Ybv Zwd Yfx Ybw Zsf JZ Zmk Zqt Jl
def Zls:∀(s:aD) (i:Nat),I7 47 s i=if ah s<s.length then ((i+ah s:Nat):Int) else -1
 |[],i=>rfl
 |c::s,i=>by
  simp only[I7,ah]
  have e:(c==47)=decide (c.toNat=47):=by
   rw[Bool.eq_iff_iff]
   simp only[beq_iff_eq,decide_eq_true_eq]
   exact⟨fun h=>by rw[h];rfl,fun h=>UInt8.toNat_inj.1 h⟩
  rw[e]
  by_cases h:c.toNat=47
  ·simp[h]
  ·simp only[h,decide_false,if_false,iy,Zls s (i+1),bk]
   by_cases h2:ah s<s.length
   ·rw[ar h2,ar (by omega)];omega
   ·rw[ak h2,ak (by omega)]
end Go.Mx
