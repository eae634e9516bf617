/-Slices of which only the elements are kn-/
import Derived.Test.YtfeehbdhikiikaaGreatDoorMxLim
set_option linter.all false
namespace Go.Mx
open Go
variable{k':IntKind}{D D':List (Nat×Nat)}{w:List Nat}{N' f:Nat}{cp ro:Option Nat}{hi lo:Option Src}{h':T O}{α:Type}{elem:TypeId}
variable {N a b i k n o size:Nat} {h:T O} {j:Int} {l:List Nat} {r r0:T V} {v:V} {x:Src}
def oe:V->Option Nat
 |.aa=>some 0
 |.empty=>some 0
 |.slice _ _ n _ _=>some n
 |_=>none
def yC:V->Option (Nat×Nat)
 |.slice i o _ _ _=>some (i,o)
 |_=>none
def Ysm(st:St):Option Nat->Option (V×St)
 |some n=>some (.int .i64 n,st)
 |none=>none
def Yzy(st:St):Option V->Option (V×St)
 |some v=>Ysm st (oe v)
 |none=>none
def Yld{call:cQ}{st:St}:Ag 1 x call r st=Yzy st (x.ev r):=by
 unfold Ag Yzy;rcases x.ev r with _|v
 ·rfl
 cases v<;>rfl
def Yhf{st:St}:Yzy st (some v)=Ysm st (oe v):=rfl
def Ydg{st:St}:Ysm st (some n)=some (.int .i64 n,st):=rfl
def UX(st:St)(size k:Nat):Option (Nat×Nat)->Option (V×St)
 |some (i,o)=>some (.ptr i (o+k*size),st)
 |none=>none
def Qw(st:St)(size:Nat)(v:V)(k:Int):Option Nat->Option (V×St)
 |some n=>if 0<=k/\k<(n:Int) then UX st size k.toNat (yC v) else none
 |none=>none
def Yus(st:St)(size:Nat):Option V->Option V->Option (V×St)
 |some v,some (.int _ k)=>Qw st size v k (oe v)
 |_,_=>none
def Zus{i:Src}{call:cQ}{st:St}:GH size x i call r st=Yus st size (x.ev r) (i.ev r):=by
 unfold GH Yus;rcases x.ev r with _|v
 ·rfl
 rcases i.ev r with _|u
 ·cases v<;>rfl
 cases u<;>cases v<;>simp[Qw,UX,oe,yC]<;>omega
def Yek{st:St}{k:IntKind}:Yus st size (some v) (some (.int k j))=Qw st size v j (oe v):=rfl
def Yjj{st:St}(h0:0<=j)(h1:j<(n:Int)):Qw st size v j (some n)=UX st size j.toNat (yC v):=by simp[Qw,h0,h1]
def Zyz{st:St}:UX st size k (some (i,o))=some (.ptr i (o+k*size),st):=rfl
def Xck(a b:Int):(a==b)=decide (a=b):=by by_cases h:a=b<;>simp[h]
def Xcj(a b:Int):(a !=b)=!decide (a=b):=by by_cases h:a=b<;>simp[h]
def Yka(a b:Nat):((a:Int)+(b:Int)).toNat=a+b:=by omega
def Yj9(a b:Nat):((a:Int)-(b:Int)).toNat=a-b:=by omega
def Xah(a b n:Nat):((a:Int)+(b:Int)<(n:Int))↔a+b<n:=by omega
def Ybz(b:Nat):((64:Int)-(b:Int)).toNat=64-b:=by omega
attribute [simp] Ybz Xck Xcj Int.natCast_inj Yka Yj9 Xah
def Yzx(st:St):Option V->Option (V×St)
 |some (.str s)=>some (.int .i64 s.length,st)
 |_=>none
def Yle{call:cQ}{st:St}:Ag 0 x call r st=Yzx st (x.ev r):=by
 unfold Ag Yzx;rcases x.ev r with _|v
 ·rfl
 cases v<;>rfl
def Yhe{st:St}{s:List UInt8}:Yzx st (some (.str s))=some (.int .i64 s.length,st):=rfl
def Yde{i o n c z}:oe (.slice i o n c z)=some n:=rfl
def Yl8:oe .aa=some 0:=rfl
def Ydf:oe .empty=some 0:=rfl
def Zyx{i o n c z}:yC (.slice i o n c z)=some (i,o):=rfl
attribute [simp] Yld Yle Yhe Yde Yl8 Ydf Zyx Yhf Ydg Zus Yek Yjj Zyz
def cZ(b:UInt8):Int:=b.toNat
def Ye0(b:UInt8):0<=cZ b/\cZ b<256:=by unfold cZ;have:=b.toNat_lt;omega
def UY(st:St):Option UInt8->Option (V×St)
 |some b=>some (.int .u8 b.toNat,st)
 |none=>none
def UZ(st:St):Option V->Option V->Option (V×St)
 |some (.str s),some (.int _ k)=>if 0<=k then UY st s[k.toNat]? else none
 |_,_=>none
def Zxg{i:Src}{call:cQ}{st:St}:GI x i call r st=UZ st (x.ev r) (i.ev r):=by
 unfold GI UZ UY;rcases x.ev r with _|v
 ·rfl
 rcases i.ev r with _|u
 ·cases v<;>rfl
 cases u<;>cases v<;>rfl
def Yht{st:St}{s:List UInt8}{k:IntKind}(h:0<=j):UZ st (some (.str s)) (some (.int k j))=UY st s[j.toNat]?:=by simp[UZ,h]
def Ydw{st:St}{b:UInt8}:UY st (some b)=some (.int .u8 (cZ b),st):=rfl
attribute [simp] Zxg Yht Ydw
def U0(st:St)(elem:TypeId)(size bytes:Nat)(zero:List V):Option V->Option V->Option (V×St)
 |some (.int _ l),some (.int _ c)=>if 0<=l/\l<=c/\bytes*c<=2^47/\c<2^62/\size=zero.length/\size≠0 then
    some (.slice st.n 0 l.toNat (some c.toNat) size,st.alloc (.cells (du zero c.toNat) elem true)) else none
 |_,_=>none
def Zuq{bytes:Nat}{zero:List V}{y:Src}{call:cQ}{st:St}:ED elem size bytes zero x y call r st=U0 st elem size bytes zero (x.ev r) (y.ev r):=by unfold ED U0;rfl
def Ylw{st:St}{bytes:Nat}{zero:List V}{k:IntKind}{l:Int}(h0:0<=l)(h1:bytes*l<=140737488355328)(h2:l<4611686018427387904)(h3:size=zero.length)(h4:0<size):
  U0 st elem size bytes zero (some (.int k l)) (some (.int k' l))=some (.slice st.n 0 l.toNat (some l.toNat) size,st.alloc (.cells (du zero l.toNat) elem true)):=by unfold U0;simp only[];rw[av ⟨h0,Int.le_refl _,by simpa using h1,by simpa using h2,h3,by omega⟩]
def U5(n:Nat)(st:St):Option V->Option V->Option (V×St)
 |some (.ptr i o),some v=>match st.row i with
   |some (c,e,true)=>if v.cells.length=n/\o+n<=c.length/\v.cells.all V.one=true then some (.aU [],st.write i (.cells (ae c o v.cells) e true)) else none
   |_=>none
 |_,_=>none
def Ycm{a:Src}{call:cQ}{st:St}:GD n a x call r st=U5 n st (a.ev r) (x.ev r):=by unfold GD U5;rfl
def bM(n:Nat)(st:St)(i o:Nat)(v:V):Option O->Option (V×St)
 |some (.cells c e true)=>if v.cells.length=n/\o+n<=c.length/\v.cells.all V.one=true then some (.aU [],st.write i (.cells (ae c o v.cells) e true)) else none
 |_=>none
def Yb3{st:St}:U5 n st (some (.ptr i o)) (some v)=bM n st i o v (st.h.get i):=by
 unfold U5 bM St.row;simp only[];rcases st.h.get i with _|x
 ·rfl
 cases x with
 |cells c e b=>cases b<;>rfl
 |_=>rfl
def Zm4{c:List V}{e:TypeId}(h1:v.cells.length=n)(h2:o+n<=c.length)(h3:v.cells.all V.one=true):
  bM n ⟨h,N,w⟩ i o v (some (.cells c e true))=some (.aU [],⟨h.set i (.cells (ae c o v.cells) e true),N,i::w⟩):=by unfold bM;simp only[];rw[av ⟨h1,h2,h3⟩];rfl
attribute [simp] Zuq Ylw Ycm Yb3 Zm4
def bC(n:Nat):Nat:=n%18446744073709551616
def cC(n:Nat):Nat:=n/18446744073709551616
def fh(x y c:Nat):Nat:=(x+18446744073709551616-y-c)%18446744073709551616
def gK(x y c:Nat):Nat:=if x<y+c then 1 else 0
def ax(a b:Nat):Nat:=a/2^b
def bU(a b:Nat):Nat:=a*2^b%18446744073709551616
def fM(a:Nat):Nat:=a%4294967296
def ks(a b:Nat):Nat:=a|||b
def M4(n:Int):IntKind.wrap .u64 n=n%18446744073709551616:=by simp[IntKind.wrap,IntKind.bits,IntKind.signed]
def HG{n:Int}(h1:0<=n)(h2:n<18446744073709551616):bn .u64 n=n:=by rw[BP,M4];omega
def M5(n:Int):bn .u64 n=n%18446744073709551616:=by rw[BP,M4]
def Yb7{b:Int}(h0:0<=b)(h1:b<=64):AM .shr .u64 (a:Int) b=some (.int .u64 (ax a b.toNat:Nat)):=by
 unfold AM ax;have e:min b.toNat (IntKind.bits .u64)=b.toNat:=by simp[IntKind.bits];omega
 rw[ak (by omega),e];simp only[ar,V.int.injEq,true_and];rw[Int.fdiv_eq_ediv_of_nonneg _ (by exact_mod_cast wX _)];push_cast;rfl
def Yb8{b:Int}(h0:0<=b)(h1:b<=64):AM .shl .u64 (a:Int) b=some (.int .u64 (bU a b.toNat:Nat)):=by
 unfold AM bU;have e:min b.toNat (IntKind.bits .u64)=b.toNat:=by simp[IntKind.bits];omega
 rw[ak (by omega),e];show some (V.int .u64 (IntKind.wrap .u64 ((a:Int)*2^b.toNat)))=_;rw[M4];have:(((a*2^b.toNat%18446744073709551616:Nat)):Int)=(a:Int)*2^b.toNat%18446744073709551616:=by rw[Int.natCast_emod,Ml,Int.natCast_pow];rfl
 rw[this]
def T6(a:Nat)(h:a<18446744073709551616):(BitVec.ofInt 64 (a:Int)).toNat=a:=by simp[BitVec.toNat_ofInt];omega
def Zvc(h:a<18446744073709551616):tF .and .u64 (a:Int) 4294967295=some (.int .u64 (fM a:Nat)):=by
 show some (V.int .u64 (IntKind.wrap .u64 (BitVec.ofInt 64 (a:Int)&&& BitVec.ofInt 64 4294967295).toNat))=_;rw[M4,BitVec.toNat_and,T6 a h];have e:(BitVec.ofInt 64 4294967295).toNat=2^32-1:=by decide
 rw[e,Nat.and_two_pow_sub_one_eq_mod];unfold fM;simp only[ar,V.int.injEq,true_and];omega
def Yhq(h:a<18446744073709551616)(h':b<18446744073709551616):tF .or .u64 (a:Int) (b:Int)=some (.int .u64 (ks a b:Nat)):=by show some (V.int .u64 (IntKind.wrap .u64 (BitVec.ofInt 64 (a:Int)|||BitVec.ofInt 64 (b:Int)).toNat))=_;rw[M4,BitVec.toNat_or,T6 a h,T6 b h'];have:=Nat.or_lt_two_pow (n:=64) h h';unfold ks;simp only[ar,V.int.injEq,true_and];omega
def cU(a b:Nat):Nat:=(a+b)%18446744073709551616
def ig(a b:Nat):Nat:=((a:Int)-b).toNat%18446744073709551616+(if a<b then (((a:Int)-b)%18446744073709551616).toNat else 0)
def dh(a b:Nat):Nat:=(a*b)%18446744073709551616
def nX(a b:Nat):Nat:=a/b
def Qx(a b:Nat):Nat:=a%b
def Ybw:bn .u64 ((a:Int)+(b:Int))=(cU a b:Nat):=by rw[M5];unfold cU;omega
def Zq0:bn .u64 ((a:Int)-(b:Int))=(ig a b:Nat):=by rw[M5];unfold ig;split<;>omega
def Zwe:bn .u64 ((a:Int)-1)=(ig a 1:Nat):=Zq0 (b:=1)
def Zmn:bn .u64 ((a:Int)*(b:Int))=(dh a b:Nat):=by rw[M5];unfold dh;rw[<-Ml];omega
def Zty:bn .u64 ((a:Int)*4294967296)=(dh a 4294967296:Nat):=Zmn (b:=4294967296)
def Zsd:bn .u64 (4294967296*(a:Int))=(dh 4294967296 a:Nat):=Zmn (a:=4294967296)
def Ybv(h:a<18446744073709551616):bn .u64 ((a:Int).tdiv (b:Int))=(nX a b:Nat):=by rw[M5];unfold nX;have e:((a:Int).tdiv (b:Int))=((a/b:Nat):Int):=rfl;have:=xy a b;rw[e];generalize a/b=q at*;omega
def Ye4:(a:Int).tmod (b:Int)=(Qx a b:Nat):=rfl
def Hj(h:b<=a)(ha:a<18446744073709551616):ig a b=a-b:=by unfold ig;split<;>omega
def Yur:cU a b<18446744073709551616:=m_ _ (by decide)
def Yrx:dh a b<18446744073709551616:=m_ _ (by decide)
def Zsn:bU a b<18446744073709551616:=m_ _ (by decide)
def Ye6:ig a b<18446744073709551616:=by unfold ig;split<;>omega
def Zzg(h:a<18446744073709551616):ax a b<18446744073709551616:=pT (xy _ _) h
attribute [simp] Yur Yrx Zsn Ye6 Ybw Zq0 Zwe Zmn Zty Zsd Ybv Ye4 Yb7 Yb8 Zvc Yhq
def J8(st:St)(e:Ext)(o:Option (List V)):Option (V×St):=match e,o with
  |.same,some [v]=>some (v,st)
  |e,some l=>match EB e l with
   |some v=>some (v,st)
   |none=>none
  |_,none=>none
def Ylf{e:Ext}{args:List Src}{call:cQ}{st:St}:JB e args call r st=J8 st e (wu r args):=rfl
def Yh3{st:St}:J8 st .same (some [v])=some (v,st):=rfl
def Yd1{st:St}{x y c:Int}(h:c=0\/c=1):J8 st .py (some [.int .u64 x,.int .u64 y,.int .u64 c])=some (.aU [.int .u64 (bC (x.toNat+y.toNat+c.toNat):Nat),.int .u64 (cC (x.toNat+y.toNat+c.toNat):Nat)],st):=by simp only[J8,EB,h,not_true_eq_false,if_false];rfl
def Yd0{st:St}{x y c:Int}(h:c=0\/c=1):J8 st .pz (some [.int .u64 x,.int .u64 y,.int .u64 c])=some (.aU [.int .u64 (fh x.toNat y.toNat c.toNat:Nat),.int .u64 (gK x.toNat y.toNat c.toNat:Nat)],st):=by simp only[J8,EB,h,not_true_eq_false,if_false,gK];split<;>rfl
def Yhb:bC n<18446744073709551616:=m_ _ (by decide)
def Yqt{c:Nat}:fh a b c<18446744073709551616:=m_ _ (by decide)
attribute [simp] Yhb Yqt Ylf Yh3 Yd1 Yd0
def oF(st:St)(size:Nat):Option V->Option (Option V)->Option (Option V)->Option (Option V)->Option (V×St)
 |some v,some lo,some hi,some mx=>rX size (.const v) (lo.map .const) (hi.map .const) (mx.map .const) Zts .nil st
 |_,_,_,_=>none
def HH{o:Option V}:aC r (o.map .const)=some o:=by cases o<;>rfl
def Ge{mx:Option Src}{call:cQ}{st:St}:rX size x lo hi mx call r st=oF st size (x.ev r) (aC r lo) (aC r hi) (aC r mx):=by
 unfold oF rX;rcases x.ev r with _|v
 ·rfl
 rcases aC r lo with _|lo
 ·cases v<;>try rfl
  rename_i c _;cases c<;>rfl
 rcases aC r hi with _|hi
 ·cases v<;>try rfl
  rename_i c _;cases c<;>rfl
 rcases aC r mx with _|mx
 ·cases v<;>try rfl
  rename_i c _;cases c<;>rfl
 simp only[HH];rfl
def Sl(h:T O)(N:Nat)(v:V)(l:List V):Prop:=
 (l=[]/\(v=.aa\/v=.empty))\/∃i o cp c e rw,v=.slice i o l.length cp 1/\i<N/\h.get i=some (.cells c e rw)/\(∀j,j<l.length->c[o+j]?=l[j]?)/\o+l.length<=c.length/\∀k,cp=some k->l.length<=k
def Sl.nil:Sl h N .aa []:=.inl ⟨rfl,.inl rfl⟩
def Sl.row{L:Nat}{l:List V}{e:TypeId}{rw:Bool}(hi:i<N)(hg:h.get i=some (.cells l e rw))(hL:l.length=L)(hc:∀k,cp=some k->L<=k):Sl h N (.slice i 0 L cp 1) l:=
 .inr ⟨i,0,cp,l,e,rw,by rw[hL],hi,hg,fun j _=>by rw[xd],by omega,fun k hk=>by rw[hL];exact hc k hk⟩
def Sl.ad{l:List V}(s:Sl h N v l)(k:ab h N h' N'):Sl h' N' v l:=by
 rcases s with s|⟨i,o,cp,c,e,rw,h1,h2,h3,h4⟩
 ·exact .inl s
 exact .inr ⟨i,o,cp,c,e,rw,h1,fH h2 k.le,(k.get i h2).trans h3,h4⟩
def Sl.len{l:List V}(s:Sl h N v l):oe v=some l.length:=by rcases s with⟨rfl,rfl|rfl⟩|⟨i,o,cp,c,e,rw,rfl,_⟩<;>rfl
def Sl.at{l:List V}(s:Sl h N v l){j:Nat}{x:V}(hj:l[j]?=some x):∃i o c e rw,yC v=some (i,o)/\i<N/\h.get i=some (.cells c e rw)/\c[o+j]?=some x:=by
 have hl:j<l.length:=by apply u_;intro hc;rw[gl hc]at hj;cases hj
 rcases s with⟨rfl,_⟩|⟨i,o,cp,c,e,rw,rfl,h2,h3,h4,_⟩
 ·simp at hl
 exact⟨i,o,c,e,rw,rfl,h2,h3,(h4 j hl).trans hj⟩
def val(b:Nat):List Nat->Nat
 |[]=>0
 |d::l=>d+b*val b l
def dg(l:List Nat):List V:=l.map fun n:Nat=>.int .u64 n
def dgi(l:List Nat):List V:=l.map fun n:Nat=>.int .i64 n
def bu(l:List Nat):(dg l).length=l.length:=by simp[dg]
def cr(l:List Nat):(dgi l).length=l.length:=by simp[dgi]
def gw{j:Nat}(h:l[j]?=some n):(dg l)[j]?=some (.int .u64 n):=by simp[dg,h]
attribute [simp] bu cr
def rH{v:Nat}(h:k<l.length):ae (dg l) k [.int .u64 v]=dg (l.set k v):=by
 unfold ae dg;apply pM;intro j;simp only[AH,eH,List.getElem?_set];rw[uJ,List.getElem?_append,iV,dL];by_cases h1:j<k
 ·rw[av (by omega),jZ,av h1,eH,ak (by omega)]
 rw[ak (by omega)];by_cases h2:j=k
 ·subst h2;rw[show j-min j l.length=0 by omega,av rfl,av h];rfl
 rw[show j-min k l.length=(j-k-1)+1 by omega,ak (by omega)];simp only[TW,Gw,fU,eH];rw[show k+1+(j-k-1)=j by omega]
def J9:du [.int .u64 0] n=dg (List.replicate n 0):=by
 unfold du dg;apply pM;intro j;simp only[AH,AL,eH,List.getElem?_replicate];by_cases h:j<n
 ·simp[h,Nat.mod_one]
 simp[h]
def S6{z:V}:du [z] n=List.replicate n z:=by
 unfold du;apply pM;intro j;simp only[AH,AL,eH,List.getElem?_replicate];by_cases h:j<n
 ·simp[h,Nat.mod_one]
 simp[h]
def Um(b:Nat):∀(l m:List Nat),val b (l++m)=val b l+b^l.length*val b m
 |[],m=>by simp[val]
 |d::l,m=>by
  simp only[Ew,val,Um b l m,bl,iD]
  grind
def U6(b:Nat)(l:List Nat)(d:Nat):val b (l++[d])=val b l+b^l.length*d:=by simp[Um,val]
def Zt1(b n:Nat):val b (List.replicate n 0)=0:=by
 induction n with
 |zero=>rfl
 |succ n ih=>simp[NM,val,ih]
def Hi{d:Nat}(h:l[k]?=some d):val b (l.take (k+1))=val b (l.take k)+b^k*d:=by
 have hk:k<l.length:=by apply u_;intro hc;rw[gl hc]at h;cases h
 rw[Bi,h];simp only[Option.toList];rw[U6,iV,rP (by omega)]
def Hh{b:Nat}:∀{l:List Nat},(∀d∈l,d<b)->val b l<b^l.length
 |[],_=>by simp[val]
 |d::l,h=>by
  have h1:=h d oa
  have h2:=Hh (l:=l) fun e he=>h e (pA _ he)
  simp only[val,bl,iD]
  have:b*(val b l+1)<=b*b^l.length:=mZ b h2
  rw[ki (b^l.length) b]
  grind
def B:Nat:=18446744073709551616
def Dg(l:List Nat):Prop:=∀d∈l,d<B
def Dg.get(h:Dg l){j d:Nat}(hj:l[j]?=some d):d<B:=h d (cP hj)
def dz(l:List Nat)(j:Nat):Nat:=l[j]?.getD 0
def Yxj(h:Dg l)(j:Nat):dz l j<B:=by
 unfold dz;cases hj:l[j]? with
 |none=>decide
 |some d=>exact h.get hj
def Fs:val b (l.take (k+1))=val b (l.take k)+b^k*dz l k:=by
 unfold dz;cases h:l[k]? with
 |some d=>exact Hi h
 |none=>
  have hk:l.length<=k:=by apply AK;intro hc;rw[cj hc]at h;cases h
  rw[gm (by omega),gm hk];simp
def uR:List Nat->List Nat
 |[]=>[]
 |d::l=>match uR l with
  |[]=>if d=0 then [] else [d]
  |t=>d::t
def Zq2:∀(l:List Nat),uR (l++[0])=uR l
 |[]=>rfl
 |d::l=>by simp only[Ew,uR,Zq2 l]
def Zq3{d:Nat}(hd:d≠0):∀(l:List Nat),uR (l++[d])=l++[d]
 |[]=>by simp[uR,hd]
 |e::l=>by
  simp only[Ew,uR,Zq3 hd l]
  cases l<;>rfl
def kV:List (Nat×Nat)->Nat->Bool
 |[],_=>false
 |(a,b)::D,t=>(Nat.ble a t&&Nat.ble t b)||kV D t
def Ysz{t:Nat}:kV [] t=false:=rfl
def Ymg{t:Nat}:kV ((a,b)::D) t=((Nat.ble a t&&Nat.ble t b)||kV D t):=rfl
attribute [simp] Ysz Ymg
structure Fx (D:List (Nat×Nat)) (r0:T V) (n:Nat) (fr:Fr):Prop where
 fV:∀t,kV D t=false->fr.r.get t=r0.get t
 n:fr.n=n
 marks:fr.marks=[]
def Fx.refl:Fx D r n ⟨r,n,[]⟩:=⟨fun _ _=>rfl,rfl,rfl⟩
def Fx.set{D:List (Nat×Nat)}{t:Nat}(ht:kV D t=true):Fx D r0 n ⟨r.set t v,n,[]⟩↔Fx D r0 n ⟨r,n,[]⟩:=by
 constructor
 ·intro h;refine⟨fun u hu=>?_,rfl,rfl⟩;have:=h.fV u hu;simp only[T.ag]at this;rw[ak]at this
  ·exact this
  rintro rfl;rw[ht]at hu;cases hu
 intro h;refine⟨fun u hu=>?_,rfl,rfl⟩;simp only[T.ag];rw[ak]
 ·exact h.fV u hu
 rintro rfl;rw[ht]at hu;cases hu
attribute [simp] Fx.set
def Yyt(D' D:List (Nat×Nat)):Bool:=D'.all fun p=>D.any fun q=>Nat.ble q.1 p.1&&Nat.ble p.2 q.2
def Yhr{t:Nat}:kV D t=true↔∃p∈D,p.1<=t/\t<=p.2:=by
 induction D with
 |nil=>simp[kV]
 |cons p D ih=>obtain⟨a,b⟩:=p;simp[kV,ih]
def Yqc(h:Yyt D' D=true){t:Nat}(ht:kV D t=false):kV D' t=false:=by
 cases hc:kV D' t with
 |false=>rfl
 |true=> obtain⟨p,hp,h1,h2⟩:=Yhr.1 hc;unfold Yyt at h;rw[kJ]at h;obtain⟨q,hq,h3⟩:=List.any_eq_true.1 (h p hp);simp at h3;have:kV D t=true:=Yhr.2 ⟨q,hq,by omega,by omega⟩;rw[ht]at this;cases this
def Fx.inner{r1 r2:T V}(hf:Fx D r0 n ⟨r,n,[]⟩)(hs:Yyt D' D=true)(h1:Fx D r0 n ⟨r,n,[]⟩->Fx D r0 n ⟨r1,n,[]⟩)(h2:∀t,kV D' t=false->r2.get t=r1.get t):Fx D r0 n ⟨r2,n,[]⟩:=
 ⟨fun t ht=>(h2 t (Yqc hs ht)).trans ((h1 hf).fV t ht),rfl,rfl⟩
def Rd(D:List (Nat×Nat))(r0:T V)(n:Nat)(I:Nat->T V->St->Prop)(k:Nat)(P:Ex->T V->St->Prop):Ex->Fr->St->Prop
 |.normal,fr,st=>Fx D r0 n fr/\∃k',k'<k/\I k' fr.r st
 |e,fr,st=>Fx D r0 n fr/\P e fr.r st
def Zv6{D r0 n I k P r st}:Rd D r0 n I k P .normal ⟨r,n,[]⟩ st↔Fx D r0 n ⟨r,n,[]⟩/\∃k',k'<k/\I k' r st:=Iff.rfl
def Yuz{D r0 n I k P r st i}:Rd D r0 n I k P (.exit i) ⟨r,n,[]⟩ st↔Fx D r0 n ⟨r,n,[]⟩/\P (.exit i) r st:=Iff.rfl
def Yya{D r0 n I k P r st}:Rd D r0 n I k P .ret ⟨r,n,[]⟩ st↔Fx D r0 n ⟨r,n,[]⟩/\P .ret r st:=Iff.rfl
attribute [simp] Zv6 Yuz Yya
def cB{C:Cx}{c:ct}{K:List Kf}{Q:Rs->Prop}{PL:St}(D:List (Nat×Nat))(P:Ex->T V->St->Prop)(I:Nat->T V->St->Prop)(k:Nat)(hi:I k r0 PL)
  (h:∀k r st,(∀t,kV D t=false->r.get t=r0.get t)->Fx D r0 n ⟨r,n,[]⟩->I k r st->Code C ro c ⟨r,n,[]⟩ st (Rd D r0 n I k P))
  (q:∀e r st,(∀t,kV D t=false->r.get t=r0.get t)->P e r st->bD C K (some (.ex e ⟨r,n,[]⟩ st)) Q):bD C K (fy (C.code ro (.loop c) ⟨r0,n,[]⟩ PL)) Q:=by
 refine Yks (fun e fr st=>Fx D r0 n fr/\P e fr.r st) (fun k fr st=>Fx D r0 n fr/\I k fr.r st) k ⟨Fx.refl,hi⟩ ?_ ?_
 ·rintro k ⟨r,n',m⟩ st ⟨hf,hi⟩;have h1:n'=n:=hf.n;have h2:m=[]:=hf.marks;subst h1;subst h2;obtain⟨e,bK,aB,h3,h4⟩:=(h k r st hf.fV hf hi).ex;refine⟨e,bK,aB,h3,?_⟩;cases e with
  |normal=>obtain⟨a,k',b,c⟩:=h4;exact⟨k',b,a,c⟩
  |exit i=>exact h4
  |ret=>exact h4
 rintro e ⟨r,n',m⟩ st ⟨hf,hp⟩;have h1:n'=n:=hf.n;have h2:m=[]:=hf.marks;subst h1;subst h2;exact q e r st hf.fV hp
def LK{l:List V}(s:Sl h N v l){lo hi:Nat}(h1:lo<=hi)(h2:hi<=l.length)(x y:Option V)(hx:x=some (.int .i64 lo)\/x=none/\lo=0)(hy:y=some (.int .i64 hi)\/y=none/\hi=l.length):
  ∃v',oF ⟨h,N,w⟩ 1 (some v) (some x) (some y) (some none)=some (v',⟨h,N,w⟩)/\Sl h N v' ((l.take hi).drop lo):=by
 rcases s with⟨rfl,rfl|rfl⟩|⟨i,o,cp,c,e,rw,rfl,q2,q3,q4,q5,q6⟩
 ·have:hi=0:=by simpa using h2
  subst this;have:lo=0:=by omega
  subst this;refine⟨.aa,?_,.inl ⟨rfl,.inl rfl⟩⟩;rcases hx with rfl|⟨rfl,_⟩<;>rcases hy with rfl|⟨rfl,_⟩<;>simp[oF,rX,aC,dX,nh]
 ·have:hi=0:=by simpa using h2
  subst this;have:lo=0:=by omega
  subst this;refine⟨.empty,?_,.inl ⟨rfl,.inr rfl⟩⟩;rcases hx with rfl|⟨rfl,_⟩<;>rcases hy with rfl|⟨rfl,_⟩<;>simp[oF,rX,aC,dX,nh]
 have hlen:((l.take hi).drop lo).length=hi-lo:=by simp;omega
 have de:∀j,j<hi-lo->c[o+lo+j]?=((l.take hi).drop lo)[j]?:=fun j hj=>by rw[fU,jZ,av (by omega),show o+lo+j=o+(lo+j) by omega];exact q4 _ (by omega)
 have b1:∀m,hi<=m->dX y m l.length=some hi:=fun m hm=>by
  rcases hy with rfl|⟨rfl,rfl⟩
  ·simp[dX,nh];omega
  rfl
 have b2:dX x hi 0=some lo:=by
  rcases hx with rfl|⟨rfl,rfl⟩
  ·simp[dX,nh];omega
  rfl
 cases cp with
 |some k=>
  have hk:=q6 k rfl;refine⟨.slice i (if k=lo then o else o+lo) (hi-lo) (some (k-lo)) 1,?_,?_⟩
  ·have b0:dX none k k=some k:=rfl;simp only[oF,rX,HH,Src.ev,AL];simp[b0,b1 k (by omega),b2]
  by_cases yO:k=lo
  ·refine .inr ⟨i,o,some 0,c,e,rw,?_,q2,q3,fun j hj=>by rw[hlen]at hj;omega,by rw[hlen];omega,fun k' gW=>by rw[hlen];omega⟩;rw[hlen,av yO,show k-lo=0 by omega]
  refine .inr ⟨i,o+lo,some (k-lo),c,e,rw,?_,q2,q3,fun j hj=>de j (by omega),by rw[hlen];omega,fun k' gW=>by simp at gW;rw[hlen];omega⟩;rw[hlen,ak yO]
 |none=>
  have hk:hi<=max l.length (c.length-o):=by omega
  by_cases aD:lo<max l.length (c.length-o)
  ·refine⟨.slice i (o+lo) (hi-lo) none 1,?_,.inr ⟨i,o+lo,none,c,e,rw,by rw[hlen],q2,q3,fun j hj=>de j (by omega),by rw[hlen];omega,fun k' gW=>by cases gW⟩⟩;simp only[oF,rX,HH,Src.ev,St.row,q3,Nat.div_one,AL];simp[b1 _ hk,b2,aD]
  refine⟨.empty,?_,.inl ⟨tC (by rw[hlen];omega),.inr rfl⟩⟩;simp only[oF,rX,HH,Src.ev,St.row,q3,Nat.div_one,AL];simp[b1 _ hk,b2,aD]
def Zso{m v:Nat}(hk:l.length=k):(l++List.replicate (m+1) 0).set k v=(l++[v])++List.replicate m 0:=by subst hk;rw[List.set_append_right _ _ (aN _)];simp[NM]
def aJ(n:Nat):List Nat:=if h:n=0 then [] else n%B::aJ (n/B)
termination_by n
decreasing_by exact Ez (by omega) (by decide)
def tP:aJ 0=[]:=by rw[aJ];simp
def oJ(h:n≠0):aJ n=n%B::aJ (n/B):=by rw[aJ];simp[h]
def oM:∀(n:Nat),val B (aJ n)=n:=by
 intro n;induction n using Nat.strongRecOn with
 |_ n ih=>
  by_cases h:n=0
  ·subst h;rw[tP];rfl
  rw[oJ h];simp only[val];rw[ih (n/B) (Ez (by omega) (by decide))];have:=wy n B;omega
def tR(n:Nat):Dg (aJ n):=by
 induction n using Nat.strongRecOn with
 |_ n ih=>
  by_cases h:n=0
  ·subst h;rw[tP];intro d hd;cases hd
  rw[oJ h];intro d hd;rcases iP.1 hd with rfl|hd
  ·exact m_ _ (by decide)
  exact ih (n/B) (Ez (by omega) (by decide)) d hd
def Ft:∀{l:List Nat},Dg l->uR l=aJ (val B l)
 |[],_=>by simp[uR,val,tP]
 |d::l,h=>by
  have ih:=Ft (l:=l) fun e he=>h e (pA _ he)
  have hd:d<B:=h d oa
  simp only[uR,val,ih]
  by_cases h0:val B l=0
  ·rw[h0,tP]
   simp only[Nat.mul_zero,iX]
   by_cases qG:d=0
   ·simp[qG,tP]
   ·rw[oJ qG,Ad hd,BN hd,tP];simp[qG]
  ·have hB:0<B:=by decide
   have h1:(d+B*val B l)/B=val B l:=by
    rw[Nat.add_mul_div_left _ _ hB,BN hd,xd]
   have h2:(d+B*val B l)%B=d:=by
    rw[Nat.add_mul_mod_self_left,Ad hd]
   have h3:d+B*val B l≠0:=by
    intro hc
    have:B*val B l=0:=by omega
    rcases Nat.mul_eq_zero.1 this with h|h
    ·omega
    ·exact h0 h
   rw[oJ h3,h1,h2]
   split
   ·rename_i hc;rw[oJ h0]at hc;cases hc
   ·rfl
def Wn(h:T O)(N:Nat)(v:V)(n:Nat):Prop:=Sl h N v (dg (aJ n))
def Wn.ad{h':T O}{N':Nat}(s:Wn h N v n)(k:ab h N h' N'):Wn h' N' v n:=Sl.ad s k
variable {N bytes z:Nat} {h:T O} {l:List (List V)} {v:V}
def NF{c:List α}{x:List α}(h:aO c o n=some x):o+n<=c.length/\x=(c.drop o).take n:=by
 unfold aO at h;split at h
 ·rename_i hl;simp at h;exact⟨hl,h.symm⟩
 cases h
def Yqh{c:List α}{x:List α}(h:aO c o n=some x)(hf:f<n):c[o+f]?=x[f]?:=by obtain⟨_,rfl⟩:=NF h;rw[jZ,av hf,fU]
def Sn(z:Nat)(h:T O)(N:Nat)(v:V)(l:List (List V)):Prop:=
 (l=[]/\(v=.aa\/v=.empty))\/∃i o cp c e rw,v=.slice i o l.length cp z/\i<N/\h.get i=some (.cells c e rw)/\(∀j x,l[j]?=some x->aO c (o+j*z) z=some x)/\o+l.length*z<=c.length/\∀k,cp=some k->l.length<=k
def Sn.nil:Sn z h N .aa []:=.inl ⟨rfl,.inl rfl⟩
def Sn.ad(s:Sn z h N v l)(k:ab h N h' N'):Sn z h' N' v l:=by
 rcases s with s|⟨i,o,cp,c,e,rw,h1,h2,h3,h4⟩
 ·exact .inl s
 exact .inr ⟨i,o,cp,c,e,rw,h1,fH h2 k.le,(k.get i h2).trans h3,h4⟩
def Sn.len(s:Sn z h N v l):oe v=some l.length:=by rcases s with⟨rfl,rfl|rfl⟩|⟨i,o,cp,c,e,rw,rfl,_⟩<;>rfl
def Sn.at(s:Sn z h N v l){j:Nat}{x:List V}(hj:l[j]?=some x):∃i o c e rw,yC v=some (i,o)/\i<N/\h.get i=some (.cells c e rw)/\aO c (o+j*z) z=some x:=by
 have hl:j<l.length:=by apply u_;intro hc;rw[gl hc]at hj;cases hj
 rcases s with⟨rfl,_⟩|⟨i,o,cp,c,e,rw,rfl,h2,h3,h4,_⟩
 ·simp at hl
 exact⟨i,o,c,e,rw,rfl,h2,h3,h4 j x hj⟩
def Zub(hz:0<z)(s:Sn z h N v l){lo hi:Nat}(h1:lo<=hi)(h2:hi<=l.length)(x y:Option V)(hx:x=some (.int .i64 lo)\/x=none/\lo=0)(hy:y=some (.int .i64 hi)\/y=none/\hi=l.length):
  ∃v',oF ⟨h,N,w⟩ z (some v) (some x) (some y) (some none)=some (v',⟨h,N,w⟩)/\Sn z h N v' ((l.take hi).drop lo):=by
 rcases s with⟨rfl,rfl|rfl⟩|⟨i,o,cp,c,e,rw,rfl,q2,q3,q4,q5,q6⟩
 ·have:hi=0:=by simpa using h2
  subst this;have:lo=0:=by omega
  subst this;refine⟨.aa,?_,.inl ⟨rfl,.inl rfl⟩⟩;rcases hx with rfl|⟨rfl,_⟩<;>rcases hy with rfl|⟨rfl,_⟩<;>simp[oF,rX,aC,dX,nh]
 ·have:hi=0:=by simpa using h2
  subst this;have:lo=0:=by omega
  subst this;refine⟨.empty,?_,.inl ⟨rfl,.inr rfl⟩⟩;rcases hx with rfl|⟨rfl,_⟩<;>rcases hy with rfl|⟨rfl,_⟩<;>simp[oF,rX,aC,dX,nh]
 have hlen:((l.take hi).drop lo).length=hi-lo:=by simp;omega
 have de:∀j u,((l.take hi).drop lo)[j]?=some u->aO c (o+lo*z+j*z) z=some u:=fun j u hu=>by
  have hj:j<hi-lo:=by rw[<-hlen];apply u_;intro hc;rw[gl hc]at hu;cases hu
  rw[fU,jZ,av (by omega)]at hu;have:=q4 _ _ hu;rw[show o+lo*z+j*z=o+(lo+j)*z by rw[iR];omega];exact this
 have hmul:lo*z+(hi-lo)*z<=l.length*z:=by rw[<-iR];exact kg _ (by omega)
 have b1:∀m,hi<=m->dX y m l.length=some hi:=fun m hm=>by
  rcases hy with rfl|⟨rfl,rfl⟩
  ·simp[dX,nh];omega
  rfl
 have b2:dX x hi 0=some lo:=by
  rcases hx with rfl|⟨rfl,rfl⟩
  ·simp[dX,nh];omega
  rfl
 cases cp with
 |some k=>
  have hk:=q6 k rfl;refine⟨.slice i (if k=lo then o else o+lo*z) (hi-lo) (some (k-lo)) z,?_,?_⟩
  ·have b0:dX none k k=some k:=rfl;simp only[oF,rX,HH,Src.ev];simp[b0,b1 k (by omega),b2]
  by_cases yO:k=lo
  ·have h0:(l.take hi).drop lo=[]:=tC (by rw[hlen];omega);refine .inr ⟨i,o,some (k-lo),c,e,rw,?_,q2,q3,fun j u hu=>by rw[h0]at hu;simp at hu,by rw[h0];simp;omega,fun k' gW=>by rw[h0];simp⟩;rw[hlen,av yO]
  refine .inr ⟨i,o+lo*z,some (k-lo),c,e,rw,?_,q2,q3,de,by rw[hlen];omega,fun k' gW=>by simp at gW;rw[hlen];omega⟩;rw[hlen,ak yO]
 |none=>
  have hlz:l.length<=(c.length-o)/z:=by rw[Mg hz];omega
  have hk:hi<=max l.length ((c.length-o)/z):=by omega
  have uQ:z≠0:=by omega
  by_cases aD:lo<max l.length ((c.length-o)/z)
  ·refine⟨.slice i (o+lo*z) (hi-lo) none z,?_,.inr ⟨i,o+lo*z,none,c,e,rw,by rw[hlen],q2,q3,de,by rw[hlen];omega,fun k' gW=>by cases gW⟩⟩;simp only[oF,rX,HH,Src.ev,St.row,q3];simp[b1 _ hk,b2,aD,uQ]
  refine⟨.empty,?_,.inl ⟨tC (by rw[hlen];omega),.inr rfl⟩⟩;simp only[oF,rX,HH,Src.ev,St.row,q3];simp[b1 _ hk,b2,aD,uQ]
def Sn.one{l:List V}:Sn 1 h N v (l.map fun x=>[x])↔Sl h N v l:=by
 unfold Sn Sl;constructor
 ·rintro(⟨h1,h2⟩|⟨i,o,cp,c,e,rw,h1,h2,h3,h4,h5,h6⟩)
  ·exact .inl ⟨by simpa using h1,h2⟩
  refine .inr ⟨i,o,cp,c,e,rw,by simpa using h1,h2,h3,fun j hj=>?_,by simpa using h5,by simpa using h6⟩;have:=h4 j [l[j]] (by simp[cj hj]);have:=Yqh this (f:=0) (by omega);simp at this;rw[this,cj hj]
 rintro(⟨h1,h2⟩|⟨i,o,cp,c,e,rw,h1,h2,h3,h4,h5,h6⟩)
 ·exact .inl ⟨by simpa using h1,h2⟩
 refine .inr ⟨i,o,cp,c,e,rw,by simpa using h1,h2,h3,fun j x hj=>?_,by simpa using h5,by simpa using h6⟩;simp at hj;obtain⟨u,hu,rfl⟩:=hj;have hl:j<l.length:=by apply u_;intro hc;rw[gl hc]at hu;cases hu
 have:=h4 j hl;rw[hu]at this;have hc:o+j<c.length:=by omega
 unfold aO;rw[av (by omega),AL,Je hc];rw[cj hc]at this;simp at this;simp[this]
def Own(z:Nat)(e:TypeId)(N0:Nat)(h:T O)(N:Nat)(v:V)(l:List (List V)):Prop:=
 (∀x∈l,x.length=z)/\((l=[]/\v=.aa)\/∃i,v=.slice i 0 l.length none z/\N0<=i/\i<N/\h.get i=some (.cells l.flatten e true))
def Own.nil{e:TypeId}{N0:Nat}:Own z e N0 h N .aa []:=⟨fun _ h=>by simp at h,.inl ⟨rfl,rfl⟩⟩
def Own.ad{e:TypeId}{N0:Nat}(s:Own z e N0 h N v l)(k:ab h N h' N'):Own z e N0 h' N' v l:=by
 obtain⟨hl,s|⟨i,h1,h2,h3,h4⟩⟩:=s
 ·exact⟨hl,.inl s⟩
 exact⟨hl,.inr ⟨i,h1,h2,fH h3 k.le,(k.get i h3).trans h4⟩⟩
def Own.len{e:TypeId}{N0:Nat}(s:Own z e N0 h N v l):oe v=some l.length:=by obtain⟨_,⟨rfl,rfl⟩|⟨i,rfl,_⟩⟩:=s<;>rfl
def wQ{z:Nat}:∀{l:List (List V)},(∀x∈l,x.length=z)->l.flatten.length=l.length*z
 |[],_=>by simp
 |x::l,h=>by
  have h1:=h x oa
  have h2:=wQ (l:=l) fun y hy=>h y (pA _ hy)
  simp only[List.flatten_cons,iU,h1,h2,bl,iR];omega
def LQ{z:Nat}:∀{l:List (List V)},(∀x∈l,x.length=z)->∀{j:Nat} {x:List V},l[j]?=some x->aO l.flatten (j*z) z=some x
 |[],_,j,x,hj=>by simp at hj
 |y::l,h,0,x,hj=>by
  have h1:=h y oa
  simp at hj;subst hj
  unfold aO
  simp[<-h1]
 |y::l,h,j+1,x,hj=>by
  have h1:=h y oa
  have h2:=LQ (l:=l) (fun y hy=>h y (pA _ hy)) (j:=j) (x:=x) (by simpa using hj)
  obtain⟨h3,h4⟩:=NF h2
  unfold aO
  rw[av (by simp only[List.flatten_cons,iU,iR,h1];omega),h4]
  congr 2
  rw[List.flatten_cons,iR,Nat.one_mul,Nat.add_comm,<-List.drop_drop,<-h1,List.drop_left]
def Own.sn{e:TypeId}{N0:Nat}(s:Own z e N0 h N v l):Sn z h N v l:=by
 obtain⟨hl,⟨h1,h2⟩|⟨i,h1,h2,h3,h4⟩⟩:=s
 ·exact .inl ⟨h1,.inl h2⟩
 exact .inr ⟨i,0,none,l.flatten,e,true,h1,h3,h4,fun j x hj=>by rw[xd];exact LQ hl hj,by rw[wQ hl];omega,fun k hk=>by cases hk⟩
def Zyy(st:St)(size bytes:Nat)(e:TypeId):Option V->Option V->Option (V×St)
 |some s,some x=>mR st size bytes e s x
 |_,_=>none
def Zxh{e:TypeId}{z:List V}{s:Src}{call:cQ}{st:St}:EF size bytes e z s x call r st=Zyy st size bytes e (s.ev r) (x.ev r):=by unfold EF Zyy;rfl
def LR{st:St}{e:TypeId}{s x:V}:Zyy st size bytes e (some s) (some x)=mR st size bytes e s x:=rfl
attribute [simp] Zxh LR
def Az{e:TypeId}{N0:Nat}{u:V}{x:List V}(s:Own z e N0 h N v l)(hN:N0<=N)(hz:0<z)(hx:x.length=z)
  (hu:fO ⟨h,N,w⟩ z u=some (1,x)) (hb:2*(l.length+1)*bytes<=281474976710656):
  ∃v' h' w',mR ⟨h,N,w⟩ z bytes e v u=some (v',⟨h',N+1,w'⟩)/\az N0 w'=az N0 w/\ab h N0 h' (N+1)/\(∀j,h'.get j=h.get j\/j=N\/(∃o n c q,v=.slice j o n c q))/\Own z e N0 h' (N+1) v' (l++[x]):=by
 obtain⟨hl,s⟩:=s;have iO:∀y∈l++[x],y.length=z:=fun y hy=>by
  rcases iS.1 hy with hy|hy
  ·exact hl y hy
  simp at hy;rw[hy,hx]
 have uQ:z≠0:=by omega
 rcases s with⟨rfl,rfl⟩|⟨i,rfl,h2,h3,h4⟩
 ·refine⟨.slice N 0 1 none z,h.set N (.cells x e true),w,?_,rfl,⟨by omega,fun j hj=>by rw[T.ag,ak (by omega)]⟩,fun j=>by rw[T.ag];by_cases hj:j=N<;>simp[hj],iO,.inr ⟨N,by simp,hN,by omega,by rw[T.ag];simp⟩⟩;have wm:2*1*bytes<=281474976710656:=by simpa using hb
  simp only[mR,hu,Ae,St.alloc];simp[wm,uQ]
 have lG:=wQ hl;refine⟨.slice N 0 (l.length+1) none z,(h.set i .dead).set N (.cells (l.flatten++x) e true),i::w,?_,by simp[az,xb.2 h2],⟨by omega,fun j hj=>by rw[T.ag,ak (by omega),T.ag,ak (by omega)]⟩,fun j=>?_,iO,.inr ⟨N,by simp,hN,by omega,by rw[T.ag];simp⟩⟩
 ·simp only[mR,hu,Ae,St.row,h4];rw[ak (by omega),ak (by rintro(h|h|h)<;>omega)];simp only[if_true];rw[ak (by rw[lG,iR];omega),av ⟨by rw[lG];omega,trivial,trivial⟩];rfl
 by_cases hj:j=N
 ·exact .inr (.inl hj)
 by_cases pY:j=i
 ·exact .inr (.inr ⟨0,l.length,none,z,by rw[pY]⟩)
 left;rw[T.ag,ak hj,T.ag,ak pY]
abbrev aH:=List UInt8
def mU(c:UInt8):Bool:=decide (48<=c.toNat/\c.toNat<=57)
def jK:aH->Bool
 |[]=>false
 |c::s=>(c::s).all mU&&(decide (c.toNat≠48)||decide (s=[]))
def ah:aH->Nat
 |[]=>0
 |c::s=>if c.toNat=47 then 0 else ah s+1
def aE(s:aH):Nat:=s.foldl (fun n c=>10*n+(c.toNat-48)) 0
def cE:aH->Bool
 |[]=>false
 |c::_=>decide (c.toNat=45)
def bm(s:aH):aH:=if cE s then s.drop 1 else s
def ij(neg:Bool)(p:aH)(broken:Bool)(d:aH):Bool:=jK p&&!(neg&&decide (p=[48]))&&(!broken||(jK d&&decide (d≠[48])&&decide (d≠[49])))
def mr(neg:Bool)(p:aH)(broken:Bool)(d:aH):Nat:=
 if ij neg p broken d=false then 1 else if 600<p.length\/600<d.length then 4 else if broken=true/\Nat.gcd (aE p) (aE d)≠1 then 1 else 0
def J0(neg:Bool)(t:aH):Nat:=mr neg (t.take (ah t)) (decide (ah t<t.length)) (t.drop (ah t+1))
def aR(s:aH):Nat:=J0 (cE s) (bm s)
def Ht:∀(s:aH),ah s<=s.length
 |[]=>aN _
 |c::s=>by
  have:=Ht s
  simp only[ah,bl]
  split<;>omega
structure zc where
 name:aH
 op:aH
 JF:aH
 nj:List aH
 cost:Int
def pos:List zc->aH->Nat
 |[],_=>0
 |s::g,n=>if s.name=n then 0 else pos g n+1
variable {i:Nat} {j:Int} {k:IntKind} {r:T V} {s:aH} {x:Src}
def Yv0(s:aH)(p:Nat):Int:=(Utf8.decode ⟨s.toArray⟩ p).1
def Yvz(s:aH)(p:Nat):Nat:=(Utf8.decode ⟨s.toArray⟩ p).2
def Ka(i:Nat)(st:St):Option (aH×Nat)->Option (V×St)
 |some (s,p)=>if p<s.length then some (.aU [.bool true,.int .i64 p,.int .i32 (Utf8.decode ⟨s.toArray⟩ p).1],st.write i (.fm s (p+(Utf8.decode ⟨s.toArray⟩ p).2))) else some (.aU [.bool false],st)
 |none=>none
def U7:Option O->Option (aH×Nat)
 |some (.fm s p)=>some (s,p)
 |_=>none
def Yru(st:St):Option V->Option (V×St)
 |some (.ptr i 0)=>Ka i st (U7 (st.h.get i))
 |_=>none
def Zup{call:cQ}{st:St}:Jz x call r st=Yru st (x.ev r):=by
 unfold Jz Yru;rcases x.ev r with _|v
 ·rfl
 cases v<;>try rfl
 rename_i i o;cases o with
 |zero=>
  simp only[U7,Ka];rcases st.h.get i with _|o
  ·rfl
  cases o<;>rfl
 |succ=>rfl
def Ycs{st:St}:Yru st (some (.ptr i 0))=Ka i st (U7 (st.h.get i)):=rfl
def Zwx{p:Nat}:U7 (some (.fm s p))=some (s,p):=rfl
def Ygm{st:St}{p:Nat}(h:p<s.length):Ka i st (some (s,p))=some (.aU [.bool true,.int .i64 p,.int .i32 (Yv0 s p)],st.write i (.fm s (p+Yvz s p))):=by simp[Ka,h,Yv0,Yvz]
def Yct{st:St}:Ka i st (some (s,s.length))=some (.aU [.bool false],st):=by simp[Ka]
def uS(st:St):Option V->Option (Option V)->Option (Option V)->Option (V×St)
 |some (.str s),some lo,some hi=>match dX hi s.length s.length with
   |some h=>match dX lo h 0 with
    |some l=>some (.str ((s.take h).drop l),st)
    |none=>none
   |none=>none
 |_,_,_=>none
def Zsx{call:cQ}{st:St}:AO x lo hi call r st=uS st (x.ev r) (aC r lo) (aC r hi):=by unfold AO uS;rfl
def HJ{st:St}(h0:0<=j)(h1:j<=s.length):uS st (some (.str s)) (some (some (.int k j))) (some none)=some (.str (s.drop j.toNat),st):=by simp[uS,dX,nh,h0,h1]
def Zmp{st:St}(h0:0<=j)(h1:j<=s.length):uS st (some (.str s)) (some none) (some (some (.int k j)))=some (.str (s.take j.toNat),st):=by simp[uS,dX,nh,h0,h1]
def Zq7{st:St}{i:Int}(h0:0<=i)(h1:i<=j)(h2:j<=s.length):uS st (some (.str s)) (some (some (.int k i))) (some (some (.int k' j)))=some (.str ((s.take j.toNat).drop i.toNat),st):=by
 have h3:0<=j:=by omega
 have h4:max j 0=j:=by omega
 simp[uS,dX,nh,h0,h1,h2,h3,h4]
def Kb(s:aH):List V:=s.map fun b=>.int .u8 (cZ b)
def Yee(s:aH):(Kb s).length=s.length:=by simp[Kb]
def Yef{k:Nat}{c:UInt8}(h:s[k]?=some c):(Kb s)[k]?=some (.int .u8 (cZ c)):=by simp[Kb,h]
def sbK(elem:TypeId)(st:St):Option V->Option (V×St)
 |some (.str s)=>some (.slice st.n 0 s.length none 1,st.alloc (.cells (Kb s) elem true))
 |_=>none
def Zsw{call:cQ}{st:St}:GF elem x call r st=sbK elem st (x.ev r):=by unfold GF sbK;rfl
def Yko{st:St}:sbK elem st (some (.str s))=some (.slice st.n 0 s.length none 1,st.alloc (.cells (Kb s) elem true)):=rfl
attribute [simp] Zsw Yko Yee Zup Ycs Zwx Ygm Yct Zsx HJ Zmp Zq7 Jy
def Zlv:∀(s:aH) (i:Nat),Jk 47 s i=if ah s<s.length then ((i+ah s:Nat):Int) else -1
 |[],i=>rfl
 |c::s,i=>by
  simp only[Jk,ah]
  have e:(c==47)=decide (c.toNat=47):=by
   rw[Bool.eq_iff_iff]
   simp only[beq_iff_eq,decide_eq_true_eq]
   exact⟨fun h=>by rw[h];rfl,fun h=>UInt8.toNat_inj.1 h⟩
  rw[e]
  by_cases h:c.toNat=47
  ·simp[h]
  ·simp only[h,decide_false,if_false,iE,Zlv s (i+1),bl]
   by_cases h2:ah s<s.length
   ·rw[av h2,av (by omega)];omega
   ·rw[ak h2,ak (by omega)]
variable {d:Int} {j k n:Nat} {l:List Int}
def vI:List Int->Int
 |[]=>0
 |d::l=>d+1000000000*vI l
def pI(k:Nat):Int:=1000000000^k
def xC(k:Nat):pI (k+1)=1000000000*pI k:=by unfold pI;rw[Int.pow_succ,Int.mul_comm]
def Yrg:pI 0=1:=rfl
def EK(k:Nat):0<pI k:=by unfold pI;exact Int.pow_pos (by decide)
def T3(i j:Nat):pI (i+j)=pI i*pI j:=by unfold pI;exact Int.pow_add ..
def Zom:∀(l m:List Int),vI (l++m)=vI l+pI l.length*vI m
 |[],m=>by simp[vI,pI]
 |d::l,m=>by
  simp only[Ew,vI,Zom l m,bl,xC]
  grind
def EL(l:List Int)(d:Int):vI (l++[d])=vI l+pI l.length*d:=by simp[Zom,vI]
def Zsg(n:Nat):vI (List.replicate n 0)=0:=by
 induction n with
 |zero=>rfl
 |succ n ih=>simp[NM,vI,ih]
def fv{l:List α}{d:α}(h:l[k]?=some d):k<l.length:=by apply u_;intro hc;rw[gl hc]at h;cases h
def AS(h:l[k]?=some d):vI (l.take (k+1))=vI (l.take k)+pI k*d:=by have hk:=fv h;rw[Bi,h];simp only[Option.toList];rw[EL,iV,rP (by omega)]
def O3(l:List Int)(k:Nat)(hk:k<=l.length):vI l=vI (l.take k)+pI k*vI (l.drop k):=by have:=Zom (l.take k) (l.drop k);rw[Et,iV,rP hk]at this;exact this
def EM:∀{l:List Int} {k:Nat} {c:Int},l[k]?=some c->∀(v:Int),vI (l.set k v)=vI l+pI k*(v-c)
 |[],k,c,h,v=>by simp at h
 |d::l,0,c,h,v=>by
  simp at h;subst h
  simp only[List.set_cons_zero,vI,Yrg];omega
 |d::l,k+1,c,h,v=>by
  have:=EM (l:=l) (k:=k) (c:=c) (by simpa using h) v
  simp only[List.set_cons_succ,vI,this,xC]
  grind
def Di(l:List Int):Prop:=∀d∈l,0<=d/\d<1000000000
def Di.get(h:Di l)(hd:l[k]?=some d):0<=d/\d<1000000000:=h d (cP hd)
def Di.set(h:Di l){k:Nat}{v:Int}(h0:0<=v)(h1:v<1000000000):Di (l.set k v):=fun d hd=>by
 rcases CV hd with hd|rfl
 ·exact h d hd
 ·exact⟨h0,h1⟩
def Di.app{m:List Int}(h:Di l)(h':Di m):Di (l++m):=fun d hd=>by
 rcases iS.1 hd with hd|hd
 ·exact h d hd
 ·exact h' d hd
def Di.one{v:Int}(h0:0<=v)(h1:v<1000000000):Di [v]:=fun d hd=>by simp at hd;subst hd;exact⟨h0,h1⟩
def Di.nil:Di []:=fun d hd=>by simp at hd
def Di.GM(n:Nat):Di (List.replicate n 0):=fun d hd=>by rw[Jc]at hd;rw[hd.2];decide
def Di.take(h:Di l)(k:Nat):Di (l.take k):=fun d hd=>h d (AG hd)
def Di.drop(h:Di l)(k:Nat):Di (l.drop k):=fun d hd=>h d (OX hd)
def xD:∀{l:List Int},Di l->0<=vI l
 |[],_=>Int.le_refl _
 |d::l,h=>by
  have h1:=h d oa
  have h2:=xD (l:=l) fun e he=>h e (pA _ he)
  simp only[vI];omega
def xE:∀{l:List Int},Di l->vI l<pI l.length
 |[],_=>by decide
 |d::l,h=>by
  have h1:=h d oa
  have h2:=xE (l:=l) fun e he=>h e (pA _ he)
  simp only[vI,bl,xC];omega
def zI(l:List Int)(j:Nat):Int:=l[j]?.getD 0
def Ypr(h:l[j]?=some d):zI l j=d:=by simp[zI,h]
def Zwd(h:l.length<=j):zI l j=0:=by simp[zI,h]
def Yps(h:Di l)(j:Nat):0<=zI l j/\zI l j<1000000000:=by
 unfold zI;cases hj:l[j]? with
 |none=>simp
 |some d=>exact h.get hj
def Zol:vI (l.take (k+1))=vI (l.take k)+pI k*zI l k:=by
 unfold zI;cases h:l[k]? with
 |some d=>exact AS h
 |none=>
  have hk:l.length<=k:=by apply AK;intro hc;rw[cj hc]at h;cases h
  rw[gm (by omega),gm hk];simp
def oh{l:List α}{d:α}(h:l[k]?=some d):l.drop k=d::l.drop (k+1):=by obtain⟨hk,hs⟩:=yL.1 h;rw[<-hs];exact Je hk
def dI(l:List Int):List V:=l.map fun n=>.int .i64 n
def jo(l:List Int):(dI l).length=l.length:=by simp[dI]
def jq{n:Int}(h:l[j]?=some n):(dI l)[j]?=some (.int .i64 n):=by simp[dI,h]
attribute [simp] jo
def Dw{v:Int}(h:k<l.length):ae (dI l) k [.int .i64 v]=dI (l.set k v):=by
 unfold ae dI;apply pM;intro j;simp only[AH,eH,List.getElem?_set];rw[uJ,List.getElem?_append,iV,dL];by_cases h1:j<k
 ·rw[av (by omega),jZ,av h1,eH,ak (by omega)]
 rw[ak (by omega)];by_cases h2:j=k
 ·subst h2;rw[show j-min j l.length=0 by omega,av rfl,av h];rfl
 rw[show j-min k l.length=(j-k-1)+1 by omega,ak (by omega)];simp only[TW,Gw,fU,eH];rw[show k+1+(j-k-1)=j by omega]
def Ztn:du [.int .i64 0] n=dI (List.replicate n 0):=by rw[S6];simp[dI]
def tH:List Int->List Int
 |[]=>[]
 |d::l=>match tH l with
  |[]=>if d=0 then [] else [d]
  |t=>d::t
def Zmo:∀(l:List Int),tH (l++[0])=tH l
 |[]=>rfl
 |d::l=>by simp only[Ew,tH,Zmo l]
def Zq4{d:Int}(hd:d≠0):∀(l:List Int),tH (l++[d])=l++[d]
 |[]=>by simp[tH,hd]
 |e::l=>by
  simp only[Ew,tH,Zq4 hd l]
  cases l<;>rfl
def Zt6:∀(l:List Int),(tH l).length<=l.length
 |[]=>aN _
 |d::l=>by
  have ih:=Zt6 l
  simp only[tH]
  split
  ·split<;>simp
  ·simp only[bl];omega
def ds(n:Nat):List Int:=if h:n=0 then [] else ((n%1000000000:Nat):Int)::ds (n/1000000000)
termination_by n
decreasing_by exact Ez (by omega) (by decide)
def ve:ds 0=[]:=by rw[ds];simp
def BT(h:n≠0):ds n=((n%1000000000:Nat):Int)::ds (n/1000000000):=by rw[ds];simp[h]
def iJ:∀(n:Nat),vI (ds n)=n:=by
 intro n;induction n using Nat.strongRecOn with
 |_ n ih=>
  by_cases h:n=0
  ·subst h;rw[ve];rfl
  rw[BT h];simp only[vI];rw[ih (n/1000000000) (Ez (by omega) (by decide))];omega
def iB(n:Nat):Di (ds n):=by
 induction n using Nat.strongRecOn with
 |_ n ih=>
  by_cases h:n=0
  ·subst h;rw[ve];exact Di.nil
  rw[BT h];intro d hd;rcases iP.1 hd with rfl|hd
  ·omega
  exact ih (n/1000000000) (Ez (by omega) (by decide)) d hd
def Zsh:∀{l:List Int},Di l->tH l=ds (vI l).toNat
 |[],_=>by simp[tH,vI,ve]
 |d::l,h=>by
  have hl:Di l:=fun e he=>h e (pA _ he)
  have ih:=Zsh hl
  have hd:=h d oa
  have hn:=xD hl
  simp only[tH,vI,ih]
  by_cases h0:vI l=0
  ·rw[h0]
   simp only[Int.toNat_zero,ve,Int.mul_zero,Int.add_zero]
   by_cases qG:d=0
   ·simp[qG,ve]
   ·rw[BT (by omega),Ad (by omega),BN (by omega),ve];simp[qG];omega
  ·have h3:(d+1000000000*vI l).toNat≠0:=by omega
   rw[BT h3]
   have h1:(d+1000000000*vI l).toNat/1000000000=(vI l).toNat:=by omega
   have h2:(((d+1000000000*vI l).toNat%1000000000:Nat):Int)=d:=by omega
   rw[h1,h2]
   split
   ·rename_i hc;rw[BT (by omega)]at hc;cases hc
   ·rfl
def JD(h:Di l)(hn:vI l=n):tH l=ds n:=by rw[Zsh h,hn];rfl
def Ytg(n:Nat):tH (ds n)=ds n:=JD (iB n) (iJ n)
def EN:ds n=[]↔n=0:=by
 constructor
 ·intro h;by_cases h0:n=0
  ·exact h0
  rw[BT h0]at h;cases h
 intro h;rw[h,ve]
def Yth(h:n≠0):∃d,(ds n)[(ds n).length-1]?=some d/\0<d:=by
 have aX:ds n≠[]:=fun hc=>h (EN.1 hc);obtain⟨l,d,hd⟩:∃l d,ds n=l++[d]:=⟨(ds n).dropLast,(ds n).getLast aX,(Tq aX).symm⟩;refine⟨d,by rw[hd,iU,AH];simp,?_⟩;have h1:=iB n d (by rw[hd];exact List.mem_append_right _ oa);have:d≠0:=fun h0=>by have h2:=Ytg n;rw[hd,h0,Zmo]at h2;have:=Zt6 l;rw[h2]at this;simp at this;omega
 omega
def Mz(h:n<1000000000^k):(ds n).length<=k:=by
 induction k generalizing n with
 |zero=>
  have:n=0:=by simpa using h
  rw[this,ve];simp
 |succ k ih=>
  by_cases h0:n=0
  ·rw[h0,ve];simp
  rw[BT h0];have:=ih (n:=n/1000000000) ((rV (by decide)).2 (by rw[<-iD];exact h));simp only[bl];omega
def Dn(h:T O)(N:Nat)(v:V)(n:Nat):Prop:=Sl h N v (dI (ds n))
def Dn.ad{h h':T O}{N N':Nat}{v:V}(s:Dn h N v n)(k:ab h N h' N'):Dn h' N' v n:=Sl.ad s k
end Go.Mx
