/-Slices of which only the elements are kn-/
import Derived.Test.YtgccnjdneojagaaGreatDoorMxLim
set_option linter.all false
namespace Go.Mx
open Go
variable {N a b i k n o size:Nat} {h:T O} {j:Int} {l:List Nat} {r r0:T V} {v:V} {x:Src}
def qQ:V->Option Nat
 |.aa=>some 0
 |.empty=>some 0
 |.slice _ _ n _ _=>some n
 |_=>none
def yJ:V->Option (Nat×Nat)
 |.slice i o _ _ _=>some (i,o)
 |_=>none
def Yts(st:St):Option Nat->Option (V×St)
 |some n=>some (.int .i64 n,st)
 |none=>none
def Xak(st:St):Option V->Option (V×St)
 |some v=>Yts st (qQ v)
 |none=>none
def Ymd{call:cO}{st:St}:Ab 1 x call r st=Xak st (x.ev r):=by
 unfold Ab Xak;rcases x.ev r with _|v
 ·rfl
 cases v<;>rfl
def Yh7{st:St}:Xak st (some v)=Yts st (qQ v):=rfl
def Ydn{st:St}:Yts st (some n)=some (.int .i64 n,st):=rfl
def UL(st:St)(size k:Nat):Option (Nat×Nat)->Option (V×St)
 |some (i,o)=>some (.ptr i (o+k*size),st)
 |none=>none
def PS(st:St)(size:Nat)(v:V)(k:Int):Option Nat->Option (V×St)
 |some n=>if 0<=k/\k<(n:Int) then UL st size k.toNat (yJ v) else none
 |none=>none
def Yvx(st:St)(size:Nat):Option V->Option V->Option (V×St)
 |some v,some (.int _ k)=>PS st size v k (qQ v)
 |_,_=>none
def Zvc{i:Src}{call:cO}{st:St}:Gu size x i call r st=Yvx st size (x.ev r) (i.ev r):=by
 unfold Gu Yvx;rcases x.ev r with _|v
 ·rfl
 rcases i.ev r with _|u
 ·cases v<;>rfl
 cases u<;>cases v<;>simp[PS,UL,qQ,yJ]<;>omega
def Yeq{st:St}{k:IntKind}:Yvx st size (some v) (some (.int k j))=PS st size v j (qQ v):=rfl
def Ykh{st:St}(h0:0<=j)(h1:j<(n:Int)):PS st size v j (some n)=UL st size j.toNat (yJ v):=by simp[PS,h0,h1]
def Zzk{st:St}:UL st size k (some (i,o))=some (.ptr i (o+k*size),st):=rfl
def Xcy(a b:Int):(a==b)=decide (a=b):=by by_cases h:a=b<;>simp[h]
def Xcx(a b:Int):(a !=b)=!decide (a=b):=by by_cases h:a=b<;>simp[h]
def Yk6(a b:Nat):((a:Int)+(b:Int)).toNat=a+b:=by omega
def Yk5(a b:Nat):((a:Int)-(b:Int)).toNat=a-b:=by omega
def Xa4(a b n:Nat):((a:Int)+(b:Int)<(n:Int))↔a+b<n:=by omega
def Yb9(b:Nat):((64:Int)-(b:Int)).toNat=64-b:=by omega
attribute [simp] Yb9 Xcy Xcx Int.natCast_inj Yk6 Yk5 Xa4
def Xaj(st:St):Option V->Option (V×St)
 |some (.str s)=>some (.int .i64 s.length,st)
 |_=>none
def Yme{call:cO}{st:St}:Ab 0 x call r st=Xaj st (x.ev r):=by
 unfold Ab Xaj;rcases x.ev r with _|v
 ·rfl
 cases v<;>rfl
def Yh5{st:St}{s:List UInt8}:Xaj st (some (.str s))=some (.int .i64 s.length,st):=rfl
def Ydl{i o n c z}:qQ (.slice i o n c z)=some n:=rfl
def Ym9:qQ .aa=some 0:=rfl
def Ydm:qQ .empty=some 0:=rfl
def Zzh{i o n c z}:yJ (.slice i o n c z)=some (i,o):=rfl
attribute [simp] Ymd Yme Yh5 Ydl Ym9 Ydm Zzh Yh7 Ydn Zvc Yeq Ykh Zzk
def cX(b:UInt8):Int:=b.toNat
def Yfa(b:UInt8):0<=cX b/\cX b<256:=by unfold cX;have:=b.toNat_lt;omega
def UM(st:St):Option UInt8->Option (V×St)
 |some b=>some (.int .u8 b.toNat,st)
 |none=>none
def UN(st:St):Option V->Option V->Option (V×St)
 |some (.str s),some (.int _ k)=>if 0<=k then UM st s[k.toNat]? else none
 |_,_=>none
def Zx0{i:Src}{call:cO}{st:St}:Gw x i call r st=UN st (x.ev r) (i.ev r):=by
 unfold Gw UN UM;rcases x.ev r with _|v
 ·rfl
 rcases i.ev r with _|u
 ·cases v<;>rfl
 cases u<;>cases v<;>rfl
def Yio{st:St}{s:List UInt8}{k:IntKind}(h:0<=j):UN st (some (.str s)) (some (.int k j))=UM st s[j.toNat]?:=by simp[UN,h]
def Yd2{st:St}{b:UInt8}:UM st (some b)=some (.int .u8 (cX b),st):=rfl
attribute [simp] Zx0 Yio Yd2
def UO(st:St)(elem:TypeId)(size bytes:Nat)(zero:List V):Option V->Option V->Option (V×St)
 |some (.int _ l),some (.int _ c)=>if 0<=l/\l<=c/\bytes*c<=2^47/\c<2^62/\size=zero.length/\size≠0 then
    some (.slice st.n 0 l.toNat (some c.toNat) size,st.alloc (.cells (cW zero c.toNat) elem true)) else none
 |_,_=>none
def Zva{elem:TypeId}{bytes:Nat}{zero:List V}{y:Src}{call:cO}{st:St}:EE elem size bytes zero x y call r st=UO st elem size bytes zero (x.ev r) (y.ev r):=by unfold EE UO;rfl
def Ymx{st:St}{elem:TypeId}{bytes:Nat}{zero:List V}{k k':IntKind}{l:Int}(h0:0<=l)(h1:bytes*l<=140737488355328)(h2:l<4611686018427387904)(h3:size=zero.length)(h4:0<size):
  UO st elem size bytes zero (some (.int k l)) (some (.int k' l))=some (.slice st.n 0 l.toNat (some l.toNat) size,st.alloc (.cells (cW zero l.toNat) elem true)):=by unfold UO;simp only[];rw[av ⟨h0,Int.le_refl _,by simpa using h1,by simpa using h2,h3,by omega⟩]
def UP(n:Nat)(st:St):Option V->Option V->Option (V×St)
 |some (.ptr i o),some v=>match st.row i with
   |some (c,e,true)=>if v.cells.length=n/\o+n<=c.length/\v.cells.all V.one=true then some (.aX [],st.write i (.cells (ae c o v.cells) e true)) else none
   |_=>none
 |_,_=>none
def Ycu{a:Src}{call:cO}{st:St}:Gq n a x call r st=UP n st (a.ev r) (x.ev r):=by unfold Gq UP;rfl
def bO(n:Nat)(st:St)(i o:Nat)(v:V):Option O->Option (V×St)
 |some (.cells c e true)=>if v.cells.length=n/\o+n<=c.length/\v.cells.all V.one=true then some (.aX [],st.write i (.cells (ae c o v.cells) e true)) else none
 |_=>none
def Ycd{st:St}:UP n st (some (.ptr i o)) (some v)=bO n st i o v (st.h.get i):=by
 unfold UP bO St.row;simp only[];rcases st.h.get i with _|x
 ·rfl
 cases x with
 |cells c e b=>cases b<;>rfl
 |_=>rfl
def Zns{w:List Nat}{c:List V}{e:TypeId}(h1:v.cells.length=n)(h2:o+n<=c.length)(h3:v.cells.all V.one=true):
  bO n ⟨h,N,w⟩ i o v (some (.cells c e true))=some (.aX [],⟨h.set i (.cells (ae c o v.cells) e true),N,i::w⟩):=by unfold bO;simp only[];rw[av ⟨h1,h2,h3⟩];rfl
attribute [simp] Zva Ymx Ycu Ycd Zns
def bC(n:Nat):Nat:=n%18446744073709551616
def cE(n:Nat):Nat:=n/18446744073709551616
def e_(x y c:Nat):Nat:=(x+18446744073709551616-y-c)%18446744073709551616
def gk(x y c:Nat):Nat:=if x<y+c then 1 else 0
def ax(a b:Nat):Nat:=a/2^b
def bR(a b:Nat):Nat:=a*2^b%18446744073709551616
def fv(a:Nat):Nat:=a%4294967296
def ko(a b:Nat):Nat:=a|||b
def MD(n:Int):IntKind.wrap .u64 n=n%18446744073709551616:=by simp[IntKind.wrap,IntKind.bits,IntKind.signed]
def G8{n:Int}(h1:0<=n)(h2:n<18446744073709551616):bn .u64 n=n:=by rw[BF,MD];omega
def ME(n:Int):bn .u64 n=n%18446744073709551616:=by rw[BF,MD]
def Ych{b:Int}(h0:0<=b)(h1:b<=64):AI .shr .u64 (a:Int) b=some (.int .u64 (ax a b.toNat:Nat)):=by
 unfold AI ax;have e:min b.toNat (IntKind.bits .u64)=b.toNat:=by simp[IntKind.bits];omega
 rw[ak (by omega),e];simp only[au,V.int.injEq,true_and];rw[Int.fdiv_eq_ediv_of_nonneg _ (by exact_mod_cast wx _)];push_cast;rfl
def Yci{b:Int}(h0:0<=b)(h1:b<=64):AI .shl .u64 (a:Int) b=some (.int .u64 (bR a b.toNat:Nat)):=by
 unfold AI bR;have e:min b.toNat (IntKind.bits .u64)=b.toNat:=by simp[IntKind.bits];omega
 rw[ak (by omega),e];show some (V.int .u64 (IntKind.wrap .u64 ((a:Int)*2^b.toNat)))=_;rw[MD];have:(((a*2^b.toNat%18446744073709551616:Nat)):Int)=(a:Int)*2^b.toNat%18446744073709551616:=by rw[Int.natCast_emod,LN,Int.natCast_pow];rfl
 rw[this]
def T4(a:Nat)(h:a<18446744073709551616):(BitVec.ofInt 64 (a:Int)).toNat=a:=by simp[BitVec.toNat_ofInt];omega
def Zvy(h:a<18446744073709551616):tD .and .u64 (a:Int) 4294967295=some (.int .u64 (fv a:Nat)):=by
 show some (V.int .u64 (IntKind.wrap .u64 (BitVec.ofInt 64 (a:Int)&&& BitVec.ofInt 64 4294967295).toNat))=_;rw[MD,BitVec.toNat_and,T4 a h];have e:(BitVec.ofInt 64 4294967295).toNat=2^32-1:=by decide
 rw[e,Nat.and_two_pow_sub_one_eq_mod];unfold fv;simp only[au,V.int.injEq,true_and];omega
def Yil(h:a<18446744073709551616)(h':b<18446744073709551616):tD .or .u64 (a:Int) (b:Int)=some (.int .u64 (ko a b:Nat)):=by show some (V.int .u64 (IntKind.wrap .u64 (BitVec.ofInt 64 (a:Int)|||BitVec.ofInt 64 (b:Int)).toNat))=_;rw[MD,BitVec.toNat_or,T4 a h,T4 b h'];have:=Nat.or_lt_two_pow (n:=64) h h';unfold ko;simp only[au,V.int.injEq,true_and];omega
def cQ(a b:Nat):Nat:=(a+b)%18446744073709551616
def gV(a b:Nat):Nat:=((a:Int)-b).toNat%18446744073709551616+(if a<b then (((a:Int)-b)%18446744073709551616).toNat else 0)
def c_(a b:Nat):Nat:=(a*b)%18446744073709551616
def nV(a b:Nat):Nat:=a/b
def PT(a b:Nat):Nat:=a%b
def Yb7:bn .u64 ((a:Int)+(b:Int))=(cQ a b:Nat):=by rw[ME];unfold cQ;omega
def Zrh:bn .u64 ((a:Int)-(b:Int))=(gV a b:Nat):=by rw[ME];unfold gV;split<;>omega
def Zwz:bn .u64 ((a:Int)-1)=(gV a 1:Nat):=Zrh (b:=1)
def Zm5:bn .u64 ((a:Int)*(b:Int))=(c_ a b:Nat):=by rw[ME];unfold c_;rw[<-LN];omega
def Zuk:bn .u64 ((a:Int)*4294967296)=(c_ a 4294967296:Nat):=Zm5 (b:=4294967296)
def Zsr:bn .u64 (4294967296*(a:Int))=(c_ 4294967296 a:Nat):=Zm5 (a:=4294967296)
def Yb6(h:a<18446744073709551616):bn .u64 ((a:Int).tdiv (b:Int))=(nV a b:Nat):=by rw[ME];unfold nV;have e:((a:Int).tdiv (b:Int))=((a/b:Nat):Int):=rfl;have:=xD a b;rw[e];generalize a/b=q at*;omega
def Yfd:(a:Int).tmod (b:Int)=(PT a b:Nat):=rfl
def G9(h:b<=a)(ha:a<18446744073709551616):gV a b=a-b:=by unfold gV;split<;>omega
def Yvw:cQ a b<18446744073709551616:=m8 _ (by decide)
def Ys4:c_ a b<18446744073709551616:=m8 _ (by decide)
def Zs2:bR a b<18446744073709551616:=m8 _ (by decide)
def Yfi:gV a b<18446744073709551616:=by unfold gV;split<;>omega
def Zz1(h:a<18446744073709551616):ax a b<18446744073709551616:=oC (xD _ _) h
attribute [simp] Yvw Ys4 Zs2 Yfi Yb7 Zrh Zwz Zm5 Zuk Zsr Yb6 Yfd Ych Yci Zvy Yil
def JT(st:St)(e:Ext)(o:Option (List V)):Option (V×St):=match e,o with
  |.same,some [v]=>some (v,st)
  |e,some l=>match EC e l with
   |some v=>some (v,st)
   |none=>none
  |_,none=>none
def Ymf{e:Ext}{args:List Src}{call:cO}{st:St}:Jo e args call r st=JT st e (wH r args):=rfl
def Yi4{st:St}:JT st .same (some [v])=some (v,st):=rfl
def Yd8{st:St}{x y c:Int}(h:c=0\/c=1):JT st .pD (some [.int .u64 x,.int .u64 y,.int .u64 c])=some (.aX [.int .u64 (bC (x.toNat+y.toNat+c.toNat):Nat),.int .u64 (cE (x.toNat+y.toNat+c.toNat):Nat)],st):=by simp only[JT,EC,h,not_true_eq_false,if_false];rfl
def Yd7{st:St}{x y c:Int}(h:c=0\/c=1):JT st .pE (some [.int .u64 x,.int .u64 y,.int .u64 c])=some (.aX [.int .u64 (e_ x.toNat y.toNat c.toNat:Nat),.int .u64 (gk x.toNat y.toNat c.toNat:Nat)],st):=by simp only[JT,EC,h,not_true_eq_false,if_false,gk];split<;>rfl
def Yh2:bC n<18446744073709551616:=m8 _ (by decide)
def Yr0{c:Nat}:e_ a b c<18446744073709551616:=m8 _ (by decide)
attribute [simp] Yh2 Yr0 Ymf Yi4 Yd8 Yd7
def oz(st:St)(size:Nat):Option V->Option (Option V)->Option (Option V)->Option (Option V)->Option (V×St)
 |some v,some lo,some hi,some mx=>rQ size (.const v) (lo.map .const) (hi.map .const) (mx.map .const) Zuc .nil st
 |_,_,_,_=>none
def F6{o:Option V}:aC r (o.map .const)=some o:=by cases o<;>rfl
def F7{lo hi mx:Option Src}{call:cO}{st:St}:rQ size x lo hi mx call r st=oz st size (x.ev r) (aC r lo) (aC r hi) (aC r mx):=by
 unfold oz rQ;rcases x.ev r with _|v
 ·rfl
 rcases aC r lo with _|lo
 ·cases v<;>try rfl
  rename_i c _;cases c<;>rfl
 rcases aC r hi with _|hi
 ·cases v<;>try rfl
  rename_i c _;cases c<;>rfl
 rcases aC r mx with _|mx
 ·cases v<;>try rfl
  rename_i c _;cases c<;>rfl
 simp only[F6];rfl
def Sl(h:T O)(N:Nat)(v:V)(l:List V):Prop:=
 (l=[]/\(v=.aa\/v=.empty))\/∃i o cp c e rw,v=.slice i o l.length cp 1/\i<N/\h.get i=some (.cells c e rw)/\(∀j,j<l.length->c[o+j]?=l[j]?)/\o+l.length<=c.length/\∀k,cp=some k->l.length<=k
def Sl.nil:Sl h N .aa []:=.inl ⟨rfl,.inl rfl⟩
def Sl.row{L:Nat}{l:List V}{e:TypeId}{rw:Bool}{cp:Option Nat}(hi:i<N)(hg:h.get i=some (.cells l e rw))(hL:l.length=L)(hc:∀k,cp=some k->L<=k):Sl h N (.slice i 0 L cp 1) l:=
 .inr ⟨i,0,cp,l,e,rw,by rw[hL],hi,hg,fun j _=>by rw[yR],by omega,fun k hk=>by rw[hL];exact hc k hk⟩
def Sl.ad{h':T O}{N':Nat}{l:List V}(s:Sl h N v l)(k:ab h N h' N'):Sl h' N' v l:=by
 rcases s with s|⟨i,o,cp,c,e,rw,h1,h2,h3,h4⟩
 ·exact .inl s
 exact .inr ⟨i,o,cp,c,e,rw,h1,fg h2 k.le,(k.get i h2).trans h3,h4⟩
def Sl.len{l:List V}(s:Sl h N v l):qQ v=some l.length:=by rcases s with⟨rfl,rfl|rfl⟩|⟨i,o,cp,c,e,rw,rfl,_⟩<;>rfl
def Sl.at{l:List V}(s:Sl h N v l){j:Nat}{x:V}(hj:l[j]?=some x):∃i o c e rw,yJ v=some (i,o)/\i<N/\h.get i=some (.cells c e rw)/\c[o+j]?=some x:=by
 have hl:j<l.length:=by apply vC;intro hc;rw[fy hc]at hj;cases hj
 rcases s with⟨rfl,_⟩|⟨i,o,cp,c,e,rw,rfl,h2,h3,h4,_⟩
 ·simp at hl
 exact⟨i,o,c,e,rw,rfl,h2,h3,(h4 j hl).trans hj⟩
def val(b:Nat):List Nat->Nat
 |[]=>0
 |d::l=>d+b*val b l
def dg(l:List Nat):List V:=l.map fun n:Nat=>.int .u64 n
def dgi(l:List Nat):List V:=l.map fun n:Nat=>.int .i64 n
def bz(l:List Nat):(dg l).length=l.length:=by simp[dg]
def cm(l:List Nat):(dgi l).length=l.length:=by simp[dgi]
def fZ{j:Nat}(h:l[j]?=some n):(dg l)[j]?=some (.int .u64 n):=by simp[dg,h]
attribute [simp] bz cm
def rF{v:Nat}(h:k<l.length):ae (dg l) k [.int .u64 v]=dg (l.set k v):=by
 unfold ae dg;apply nN;intro j;simp only[Az,eH,List.getElem?_set];rw[uQ,List.getElem?_append,ik,di];by_cases h1:j<k
 ·rw[av (by omega),jZ,av h1,eH,ak (by omega)]
 rw[ak (by omega)];by_cases h2:j=k
 ·subst h2;rw[show j-min j l.length=0 by omega,av rfl,av h];rfl
 rw[show j-min k l.length=(j-k-1)+1 by omega,ak (by omega)];simp only[TR,Gh,fJ,eH];rw[show k+1+(j-k-1)=j by omega]
def JU:cW [.int .u64 0] n=dg (List.replicate n 0):=by
 unfold cW dg;apply nN;intro j;simp only[Az,AH,eH,List.getElem?_replicate];by_cases h:j<n
 ·simp[h,Nat.mod_one]
 simp[h]
def Yev{z:V}:cW [z] n=List.replicate n z:=by
 unfold cW;apply nN;intro j;simp only[Az,AH,eH,List.getElem?_replicate];by_cases h:j<n
 ·simp[h,Nat.mod_one]
 simp[h]
def UQ(b:Nat):∀(l m:List Nat),val b (l++m)=val b l+b^l.length*val b m
 |[],m=>by simp[val]
 |d::l,m=>by
  simp only[Ev,val,UQ b l m,bl,im]
  grind
def UR(b:Nat)(l:List Nat)(d:Nat):val b (l++[d])=val b l+b^l.length*d:=by simp[UQ,val]
def Zum(b n:Nat):val b (List.replicate n 0)=0:=by
 induction n with
 |zero=>rfl
 |succ n ih=>simp[List.replicate_succ,val,ih]
def He{d:Nat}(h:l[k]?=some d):val b (l.take (k+1))=val b (l.take k)+b^k*d:=by
 have hk:k<l.length:=by apply vC;intro hc;rw[fy hc]at h;cases h
 rw[C1,h];simp only[Option.toList];rw[UR,ik,ry (by omega)]
def Hf{b:Nat}:∀{l:List Nat},(∀d∈l,d<b)->val b l<b^l.length
 |[],_=>by simp[val]
 |d::l,h=>by
  have h1:=h d rI
  have h2:=Hf (l:=l) fun e he=>h e (ri _ he)
  simp only[val,bl,im]
  have:b*(val b l+1)<=b*b^l.length:=lF b h2
  rw[kg (b^l.length) b]
  grind
def B:Nat:=18446744073709551616
def Dg(l:List Nat):Prop:=∀d∈l,d<B
def Dg.get(h:Dg l){j d:Nat}(hj:l[j]?=some d):d<B:=h d (cy hj)
def dz(l:List Nat)(j:Nat):Nat:=l[j]?.getD 0
def Yyf{l:List Nat}(h:Dg l)(j:Nat):dz l j<B:=by
 unfold dz;cases hj:l[j]? with
 |none=>decide
 |some d=>exact h.get hj
def Fj{b:Nat}{l:List Nat}{k:Nat}:val b (l.take (k+1))=val b (l.take k)+b^k*dz l k:=by
 unfold dz;cases h:l[k]? with
 |some d=>exact He h
 |none=>
  have hk:l.length<=k:=by apply AG;intro hc;rw[ct hc]at h;cases h
  rw[fU (by omega),fU hk];simp
def uV:List Nat->List Nat
 |[]=>[]
 |d::l=>match uV l with
  |[]=>if d=0 then [] else [d]
  |t=>d::t
def Zrj:∀(l:List Nat),uV (l++[0])=uV l
 |[]=>rfl
 |d::l=>by simp only[Ev,uV,Zrj l]
def Zrk{d:Nat}(hd:d≠0):∀(l:List Nat),uV (l++[d])=l++[d]
 |[]=>by simp[uV,hd]
 |e::l=>by
  simp only[Ev,uV,Zrk hd l]
  cases l<;>rfl
def j_:List (Nat×Nat)->Nat->Bool
 |[],_=>false
 |(a,b)::D,t=>(Nat.ble a t&&Nat.ble t b)||j_ D t
def Yub{t:Nat}:j_ [] t=false:=rfl
def Ynm{D:List (Nat×Nat)}{t:Nat}:j_ ((a,b)::D) t=((Nat.ble a t&&Nat.ble t b)||j_ D t):=rfl
attribute [simp] Yub Ynm
structure Fx (D:List (Nat×Nat)) (r0:T V) (n:Nat) (fr:Fr):Prop where
 gw:∀t,j_ D t=false->fr.r.get t=r0.get t
 n:fr.n=n
 marks:fr.marks=[]
def Fx.refl{D:List (Nat×Nat)}:Fx D r n ⟨r,n,[]⟩:=⟨fun _ _=>rfl,rfl,rfl⟩
def Fx.set{D:List (Nat×Nat)}{t:Nat}(ht:j_ D t=true):Fx D r0 n ⟨r.set t v,n,[]⟩↔Fx D r0 n ⟨r,n,[]⟩:=by
 constructor
 ·intro h;refine⟨fun u hu=>?_,rfl,rfl⟩;have:=h.gw u hu;simp only[T.ag]at this;rw[ak]at this
  ·exact this
  rintro rfl;rw[ht]at hu;cases hu
 intro h;refine⟨fun u hu=>?_,rfl,rfl⟩;simp only[T.ag];rw[ak]
 ·exact h.gw u hu
 rintro rfl;rw[ht]at hu;cases hu
attribute [simp] Fx.set
def Yzj(D' D:List (Nat×Nat)):Bool:=D'.all fun p=>D.any fun q=>Nat.ble q.1 p.1&&Nat.ble p.2 q.2
def Yim{D:List (Nat×Nat)}{t:Nat}:j_ D t=true↔∃p∈D,p.1<=t/\t<=p.2:=by
 induction D with
 |nil=>simp[j_]
 |cons p D ih=>obtain⟨a,b⟩:=p;simp[j_,ih]
def Yrk{D' D:List (Nat×Nat)}(h:Yzj D' D=true){t:Nat}(ht:j_ D t=false):j_ D' t=false:=by
 cases hc:j_ D' t with
 |false=>rfl
 |true=> obtain⟨p,hp,h1,h2⟩:=Yim.1 hc;unfold Yzj at h;rw[iK]at h;obtain⟨q,hq,h3⟩:=List.any_eq_true.1 (h p hp);simp at h3;have:j_ D t=true:=Yim.2 ⟨q,hq,by omega,by omega⟩;rw[ht]at this;cases this
def Fx.inner{D D':List (Nat×Nat)}{r1 r2:T V}(hf:Fx D r0 n ⟨r,n,[]⟩)(hs:Yzj D' D=true)(h1:Fx D r0 n ⟨r,n,[]⟩->Fx D r0 n ⟨r1,n,[]⟩)(h2:∀t,j_ D' t=false->r2.get t=r1.get t):Fx D r0 n ⟨r2,n,[]⟩:=
 ⟨fun t ht=>(h2 t (Yrk hs ht)).trans ((h1 hf).gw t ht),rfl,rfl⟩
def Rd(D:List (Nat×Nat))(r0:T V)(n:Nat)(I:Nat->T V->St->Prop)(k:Nat)(P:Ex->T V->St->Prop):Ex->Fr->St->Prop
 |.normal,fr,st=>Fx D r0 n fr/\∃k',k'<k/\I k' fr.r st
 |e,fr,st=>Fx D r0 n fr/\P e fr.r st
def Zwu{D r0 n I k P r st}:Rd D r0 n I k P .normal ⟨r,n,[]⟩ st↔Fx D r0 n ⟨r,n,[]⟩/\∃k',k'<k/\I k' r st:=Iff.rfl
def Yv3{D r0 n I k P r st i}:Rd D r0 n I k P (.exit i) ⟨r,n,[]⟩ st↔Fx D r0 n ⟨r,n,[]⟩/\P (.exit i) r st:=Iff.rfl
def Yy1{D r0 n I k P r st}:Rd D r0 n I k P .ret ⟨r,n,[]⟩ st↔Fx D r0 n ⟨r,n,[]⟩/\P .ret r st:=Iff.rfl
attribute [simp] Zwu Yv3 Yy1
def b_{C:Cx}{ro:Option Nat}{c:cF}{K:List Kf}{Q:Rs->Prop}{OZ:St}(D:List (Nat×Nat))(P:Ex->T V->St->Prop)(I:Nat->T V->St->Prop)(k:Nat)(hi:I k r0 OZ)
  (h:∀k r st,(∀t,j_ D t=false->r.get t=r0.get t)->Fx D r0 n ⟨r,n,[]⟩->I k r st->Code C ro c ⟨r,n,[]⟩ st (Rd D r0 n I k P))
  (q:∀e r st,(∀t,j_ D t=false->r.get t=r0.get t)->P e r st->bE C K (some (.ex e ⟨r,n,[]⟩ st)) Q):bE C K (fl (C.code ro (.loop c) ⟨r0,n,[]⟩ OZ)) Q:=by
 refine Ylr (fun e fr st=>Fx D r0 n fr/\P e fr.r st) (fun k fr st=>Fx D r0 n fr/\I k fr.r st) k ⟨Fx.refl,hi⟩ ?_ ?_
 ·rintro k ⟨r,n',m⟩ st ⟨hf,hi⟩;have h1:n'=n:=hf.n;have h2:m=[]:=hf.marks;subst h1;subst h2;obtain⟨e,bJ,aB,h3,h4⟩:=(h k r st hf.gw hf hi).ex;refine⟨e,bJ,aB,h3,?_⟩;cases e with
  |normal=>obtain⟨a,k',b,c⟩:=h4;exact⟨k',b,a,c⟩
  |exit i=>exact h4
  |ret=>exact h4
 rintro e ⟨r,n',m⟩ st ⟨hf,hp⟩;have h1:n'=n:=hf.n;have h2:m=[]:=hf.marks;subst h1;subst h2;exact q e r st hf.gw hp
def MF{l:List V}{w:List Nat}(s:Sl h N v l){lo hi:Nat}(h1:lo<=hi)(h2:hi<=l.length)(x y:Option V)(hx:x=some (.int .i64 lo)\/x=none/\lo=0)(hy:y=some (.int .i64 hi)\/y=none/\hi=l.length):
  ∃v',oz ⟨h,N,w⟩ 1 (some v) (some x) (some y) (some none)=some (v',⟨h,N,w⟩)/\Sl h N v' ((l.take hi).drop lo):=by
 rcases s with⟨rfl,rfl|rfl⟩|⟨i,o,cp,c,e,rw,rfl,q2,q3,q4,q5,q6⟩
 ·have:hi=0:=by simpa using h2
  subst this;have:lo=0:=by omega
  subst this;refine⟨.aa,?_,.inl ⟨rfl,.inl rfl⟩⟩;rcases hx with rfl|⟨rfl,_⟩<;>rcases hy with rfl|⟨rfl,_⟩<;>simp[oz,rQ,aC,dW,m_]
 ·have:hi=0:=by simpa using h2
  subst this;have:lo=0:=by omega
  subst this;refine⟨.empty,?_,.inl ⟨rfl,.inr rfl⟩⟩;rcases hx with rfl|⟨rfl,_⟩<;>rcases hy with rfl|⟨rfl,_⟩<;>simp[oz,rQ,aC,dW,m_]
 have hlen:((l.take hi).drop lo).length=hi-lo:=by simp;omega
 have cZ:∀j,j<hi-lo->c[o+lo+j]?=((l.take hi).drop lo)[j]?:=fun j hj=>by rw[fJ,jZ,av (by omega),show o+lo+j=o+(lo+j) by omega];exact q4 _ (by omega)
 have b1:∀m,hi<=m->dW y m l.length=some hi:=fun m hm=>by
  rcases hy with rfl|⟨rfl,rfl⟩
  ·simp[dW,m_];omega
  rfl
 have b2:dW x hi 0=some lo:=by
  rcases hx with rfl|⟨rfl,rfl⟩
  ·simp[dW,m_];omega
  rfl
 cases cp with
 |some k=>
  have hk:=q6 k rfl;refine⟨.slice i (if k=lo then o else o+lo) (hi-lo) (some (k-lo)) 1,?_,?_⟩
  ·have b0:dW none k k=some k:=rfl;simp only[oz,rQ,F6,Src.ev,AH];simp[b0,b1 k (by omega),b2]
  by_cases rP:k=lo
  ·refine .inr ⟨i,o,some 0,c,e,rw,?_,q2,q3,fun j hj=>by rw[hlen]at hj;omega,by rw[hlen];omega,fun k' iE=>by rw[hlen];omega⟩;rw[hlen,av rP,show k-lo=0 by omega]
  refine .inr ⟨i,o+lo,some (k-lo),c,e,rw,?_,q2,q3,fun j hj=>cZ j (by omega),by rw[hlen];omega,fun k' iE=>by simp at iE;rw[hlen];omega⟩;rw[hlen,ak rP]
 |none=>
  have hk:hi<=max l.length (c.length-o):=by omega
  by_cases aE:lo<max l.length (c.length-o)
  ·refine⟨.slice i (o+lo) (hi-lo) none 1,?_,.inr ⟨i,o+lo,none,c,e,rw,by rw[hlen],q2,q3,fun j hj=>cZ j (by omega),by rw[hlen];omega,fun k' iE=>by cases iE⟩⟩;simp only[oz,rQ,F6,Src.ev,St.row,q3,Nat.div_one,AH];simp[b1 _ hk,b2,aE]
  refine⟨.empty,?_,.inl ⟨th (by rw[hlen];omega),.inr rfl⟩⟩;simp only[oz,rQ,F6,Src.ev,St.row,q3,Nat.div_one,AH];simp[b1 _ hk,b2,aE]
def Zs3{m v:Nat}(hk:l.length=k):(l++List.replicate (m+1) 0).set k v=(l++[v])++List.replicate m 0:=by subst hk;rw[List.set_append_right _ _ (aM _)];simp[List.replicate_succ]
def aJ(n:Nat):List Nat:=if h:n=0 then [] else n%B::aJ (n/B)
termination_by n
decreasing_by exact Ez (by omega) (by decide)
def tJ:aJ 0=[]:=by rw[aJ];simp
def oM(h:n≠0):aJ n=n%B::aJ (n/B):=by rw[aJ];simp[h]
def oO:∀(n:Nat),val B (aJ n)=n:=by
 intro n;induction n using Nat.strongRecOn with
 |_ n ih=>
  by_cases h:n=0
  ·subst h;rw[tJ];rfl
  rw[oM h];simp only[val];rw[ih (n/B) (Ez (by omega) (by decide))];have:=wI n B;omega
def tK(n:Nat):Dg (aJ n):=by
 induction n using Nat.strongRecOn with
 |_ n ih=>
  by_cases h:n=0
  ·subst h;rw[tJ];intro d hd;cases hd
  rw[oM h];intro d hd;rcases ky.1 hd with rfl|hd
  ·exact m8 _ (by decide)
  exact ih (n/B) (Ez (by omega) (by decide)) d hd
def Fk:∀{l:List Nat},Dg l->uV l=aJ (val B l)
 |[],_=>by simp[uV,val,tJ]
 |d::l,h=>by
  have ih:=Fk (l:=l) fun e he=>h e (ri _ he)
  have hd:d<B:=h d rI
  simp only[uV,val,ih]
  by_cases h0:val B l=0
  ·rw[h0,tJ]
   simp only[Nat.mul_zero,gE]
   by_cases qN:d=0
   ·simp[qN,tJ]
   ·rw[oM qN,z_ hd,BC hd,tJ];simp[qN]
  ·have hB:0<B:=by decide
   have h1:(d+B*val B l)/B=val B l:=by
    rw[Nat.add_mul_div_left _ _ hB,BC hd,yR]
   have h2:(d+B*val B l)%B=d:=by
    rw[Nat.add_mul_mod_self_left,z_ hd]
   have h3:d+B*val B l≠0:=by
    intro hc
    have:B*val B l=0:=by omega
    rcases Nat.mul_eq_zero.1 this with h|h
    ·omega
    ·exact h0 h
   rw[oM h3,h1,h2]
   split
   ·rename_i hc;rw[oM h0]at hc;cases hc
   ·rfl
def Wn(h:T O)(N:Nat)(v:V)(n:Nat):Prop:=Sl h N v (dg (aJ n))
def Wn.ad{h':T O}{N':Nat}(s:Wn h N v n)(k:ab h N h' N'):Wn h' N' v n:=Sl.ad s k
variable {N bytes z:Nat} {h:T O} {l:List (List V)} {v:V}
def Nx{α:Type}{c:List α}{o n:Nat}{x:List α}(h:aP c o n=some x):o+n<=c.length/\x=(c.drop o).take n:=by
 unfold aP at h;split at h
 ·rename_i hl;simp at h;exact⟨hl,h.symm⟩
 cases h
def Yrr{α:Type}{c:List α}{o n:Nat}{x:List α}(h:aP c o n=some x){f:Nat}(hf:f<n):c[o+f]?=x[f]?:=by obtain⟨_,rfl⟩:=Nx h;rw[jZ,av hf,fJ]
def Sn(z:Nat)(h:T O)(N:Nat)(v:V)(l:List (List V)):Prop:=
 (l=[]/\(v=.aa\/v=.empty))\/∃i o cp c e rw,v=.slice i o l.length cp z/\i<N/\h.get i=some (.cells c e rw)/\(∀j x,l[j]?=some x->aP c (o+j*z) z=some x)/\o+l.length*z<=c.length/\∀k,cp=some k->l.length<=k
def Sn.nil:Sn z h N .aa []:=.inl ⟨rfl,.inl rfl⟩
def Sn.ad{h':T O}{N':Nat}(s:Sn z h N v l)(k:ab h N h' N'):Sn z h' N' v l:=by
 rcases s with s|⟨i,o,cp,c,e,rw,h1,h2,h3,h4⟩
 ·exact .inl s
 exact .inr ⟨i,o,cp,c,e,rw,h1,fg h2 k.le,(k.get i h2).trans h3,h4⟩
def Sn.len(s:Sn z h N v l):qQ v=some l.length:=by rcases s with⟨rfl,rfl|rfl⟩|⟨i,o,cp,c,e,rw,rfl,_⟩<;>rfl
def Sn.at(s:Sn z h N v l){j:Nat}{x:List V}(hj:l[j]?=some x):∃i o c e rw,yJ v=some (i,o)/\i<N/\h.get i=some (.cells c e rw)/\aP c (o+j*z) z=some x:=by
 have hl:j<l.length:=by apply vC;intro hc;rw[fy hc]at hj;cases hj
 rcases s with⟨rfl,_⟩|⟨i,o,cp,c,e,rw,rfl,h2,h3,h4,_⟩
 ·simp at hl
 exact⟨i,o,c,e,rw,rfl,h2,h3,h4 j x hj⟩
def Zux(hz:0<z){h:T O}{N:Nat}{v:V}{l:List (List V)}{w:List Nat}(s:Sn z h N v l){lo hi:Nat}(h1:lo<=hi)(h2:hi<=l.length)(x y:Option V)(hx:x=some (.int .i64 lo)\/x=none/\lo=0)(hy:y=some (.int .i64 hi)\/y=none/\hi=l.length):
  ∃v',oz ⟨h,N,w⟩ z (some v) (some x) (some y) (some none)=some (v',⟨h,N,w⟩)/\Sn z h N v' ((l.take hi).drop lo):=by
 rcases s with⟨rfl,rfl|rfl⟩|⟨i,o,cp,c,e,rw,rfl,q2,q3,q4,q5,q6⟩
 ·have:hi=0:=by simpa using h2
  subst this;have:lo=0:=by omega
  subst this;refine⟨.aa,?_,.inl ⟨rfl,.inl rfl⟩⟩;rcases hx with rfl|⟨rfl,_⟩<;>rcases hy with rfl|⟨rfl,_⟩<;>simp[oz,rQ,aC,dW,m_]
 ·have:hi=0:=by simpa using h2
  subst this;have:lo=0:=by omega
  subst this;refine⟨.empty,?_,.inl ⟨rfl,.inr rfl⟩⟩;rcases hx with rfl|⟨rfl,_⟩<;>rcases hy with rfl|⟨rfl,_⟩<;>simp[oz,rQ,aC,dW,m_]
 have hlen:((l.take hi).drop lo).length=hi-lo:=by simp;omega
 have cZ:∀j u,((l.take hi).drop lo)[j]?=some u->aP c (o+lo*z+j*z) z=some u:=fun j u hu=>by
  have hj:j<hi-lo:=by rw[<-hlen];apply vC;intro hc;rw[fy hc]at hu;cases hu
  rw[fJ,jZ,av (by omega)]at hu;have:=q4 _ _ hu;rw[show o+lo*z+j*z=o+(lo+j)*z by rw[js];omega];exact this
 have hmul:lo*z+(hi-lo)*z<=l.length*z:=by rw[<-js];exact jz _ (by omega)
 have b1:∀m,hi<=m->dW y m l.length=some hi:=fun m hm=>by
  rcases hy with rfl|⟨rfl,rfl⟩
  ·simp[dW,m_];omega
  rfl
 have b2:dW x hi 0=some lo:=by
  rcases hx with rfl|⟨rfl,rfl⟩
  ·simp[dW,m_];omega
  rfl
 cases cp with
 |some k=>
  have hk:=q6 k rfl;refine⟨.slice i (if k=lo then o else o+lo*z) (hi-lo) (some (k-lo)) z,?_,?_⟩
  ·have b0:dW none k k=some k:=rfl;simp only[oz,rQ,F6,Src.ev];simp[b0,b1 k (by omega),b2]
  by_cases rP:k=lo
  ·have h0:(l.take hi).drop lo=[]:=th (by rw[hlen];omega);refine .inr ⟨i,o,some (k-lo),c,e,rw,?_,q2,q3,fun j u hu=>by rw[h0]at hu;simp at hu,by rw[h0];simp;omega,fun k' iE=>by rw[h0];simp⟩;rw[hlen,av rP]
  refine .inr ⟨i,o+lo*z,some (k-lo),c,e,rw,?_,q2,q3,cZ,by rw[hlen];omega,fun k' iE=>by simp at iE;rw[hlen];omega⟩;rw[hlen,ak rP]
 |none=>
  have hlz:l.length<=(c.length-o)/z:=by rw[LK hz];omega
  have hk:hi<=max l.length ((c.length-o)/z):=by omega
  have pN:z≠0:=by omega
  by_cases aE:lo<max l.length ((c.length-o)/z)
  ·refine⟨.slice i (o+lo*z) (hi-lo) none z,?_,.inr ⟨i,o+lo*z,none,c,e,rw,by rw[hlen],q2,q3,cZ,by rw[hlen];omega,fun k' iE=>by cases iE⟩⟩;simp only[oz,rQ,F6,Src.ev,St.row,q3];simp[b1 _ hk,b2,aE,pN]
  refine⟨.empty,?_,.inl ⟨th (by rw[hlen];omega),.inr rfl⟩⟩;simp only[oz,rQ,F6,Src.ev,St.row,q3];simp[b1 _ hk,b2,aE,pN]
def Sn.one{l:List V}:Sn 1 h N v (l.map fun x=>[x])↔Sl h N v l:=by
 unfold Sn Sl;constructor
 ·rintro(⟨h1,h2⟩|⟨i,o,cp,c,e,rw,h1,h2,h3,h4,h5,h6⟩)
  ·exact .inl ⟨by simpa using h1,h2⟩
  refine .inr ⟨i,o,cp,c,e,rw,by simpa using h1,h2,h3,fun j hj=>?_,by simpa using h5,by simpa using h6⟩;have:=h4 j [l[j]] (by simp[ct hj]);have:=Yrr this (f:=0) (by omega);simp at this;rw[this,ct hj]
 rintro(⟨h1,h2⟩|⟨i,o,cp,c,e,rw,h1,h2,h3,h4,h5,h6⟩)
 ·exact .inl ⟨by simpa using h1,h2⟩
 refine .inr ⟨i,o,cp,c,e,rw,by simpa using h1,h2,h3,fun j x hj=>?_,by simpa using h5,by simpa using h6⟩;simp at hj;obtain⟨u,hu,rfl⟩:=hj;have hl:j<l.length:=by apply vC;intro hc;rw[fy hc]at hu;cases hu
 have:=h4 j hl;rw[hu]at this;have hc:o+j<c.length:=by omega
 unfold aP;rw[av (by omega),AH,IZ hc];rw[ct hc]at this;simp at this;simp[this]
def Own(z:Nat)(e:TypeId)(N0:Nat)(h:T O)(N:Nat)(v:V)(l:List (List V)):Prop:=
 (∀x∈l,x.length=z)/\((l=[]/\v=.aa)\/∃i,v=.slice i 0 l.length none z/\N0<=i/\i<N/\h.get i=some (.cells l.flatten e true))
def Own.nil{e:TypeId}{N0:Nat}:Own z e N0 h N .aa []:=⟨fun _ h=>by simp at h,.inl ⟨rfl,rfl⟩⟩
def Own.ad{e:TypeId}{N0:Nat}{h':T O}{N':Nat}(s:Own z e N0 h N v l)(k:ab h N h' N'):Own z e N0 h' N' v l:=by
 obtain⟨hl,s|⟨i,h1,h2,h3,h4⟩⟩:=s
 ·exact⟨hl,.inl s⟩
 exact⟨hl,.inr ⟨i,h1,h2,fg h3 k.le,(k.get i h3).trans h4⟩⟩
def Own.len{e:TypeId}{N0:Nat}(s:Own z e N0 h N v l):qQ v=some l.length:=by obtain⟨_,⟨rfl,rfl⟩|⟨i,rfl,_⟩⟩:=s<;>rfl
def yN{z:Nat}:∀{l:List (List V)},(∀x∈l,x.length=z)->l.flatten.length=l.length*z
 |[],_=>by simp
 |x::l,h=>by
  have h1:=h x rI
  have h2:=yN (l:=l) fun y hy=>h y (ri _ hy)
  simp only[List.flatten_cons,iI,h1,h2,bl,js];omega
def PU{z:Nat}:∀{l:List (List V)},(∀x∈l,x.length=z)->∀{j:Nat} {x:List V},l[j]?=some x->aP l.flatten (j*z) z=some x
 |[],_,j,x,hj=>by simp at hj
 |y::l,h,0,x,hj=>by
  have h1:=h y rI
  simp at hj;subst hj
  unfold aP
  simp[<-h1]
 |y::l,h,j+1,x,hj=>by
  have h1:=h y rI
  have h2:=PU (l:=l) (fun y hy=>h y (ri _ hy)) (j:=j) (x:=x) (by simpa using hj)
  obtain⟨h3,h4⟩:=Nx h2
  unfold aP
  rw[av (by simp only[List.flatten_cons,iI,js,h1];omega),h4]
  congr 2
  rw[List.flatten_cons,js,Nat.one_mul,Nat.add_comm,<-List.drop_drop,<-h1,List.drop_left]
def Own.sn{e:TypeId}{N0:Nat}(s:Own z e N0 h N v l):Sn z h N v l:=by
 obtain⟨hl,⟨h1,h2⟩|⟨i,h1,h2,h3,h4⟩⟩:=s
 ·exact .inl ⟨h1,.inl h2⟩
 exact .inr ⟨i,0,none,l.flatten,e,true,h1,h3,h4,fun j x hj=>by rw[yR];exact PU hl hj,by rw[yN hl];omega,fun k hk=>by cases hk⟩
def Zzj(st:St)(size bytes:Nat)(e:TypeId):Option V->Option V->Option (V×St)
 |some s,some x=>oc st size bytes e s x
 |_,_=>none
def Zx1{size:Nat}{e:TypeId}{z:List V}{s x:Src}{call:cO}{r:T V}{st:St}:EG size bytes e z s x call r st=Zzj st size bytes e (s.ev r) (x.ev r):=by unfold EG Zzj;rfl
def F4{st:St}{size:Nat}{e:TypeId}{s x:V}:Zzj st size bytes e (some s) (some x)=oc st size bytes e s x:=rfl
attribute [simp] Zx1 F4
def Ao{e:TypeId}{N0:Nat}{u:V}{x:List V}{w:List Nat}(s:Own z e N0 h N v l)(hN:N0<=N)(hz:0<z)(hx:x.length=z)
  (hu:fQ ⟨h,N,w⟩ z u=some (1,x)) (hb:2*(l.length+1)*bytes<=281474976710656):
  ∃v' h' w',oc ⟨h,N,w⟩ z bytes e v u=some (v',⟨h',N+1,w'⟩)/\ay N0 w'=ay N0 w/\ab h N0 h' (N+1)/\(∀j,h'.get j=h.get j\/j=N\/(∃o n c q,v=.slice j o n c q))/\Own z e N0 h' (N+1) v' (l++[x]):=by
 obtain⟨hl,s⟩:=s;have kM:∀y∈l++[x],y.length=z:=fun y hy=>by
  rcases jn.1 hy with hy|hy
  ·exact hl y hy
  simp at hy;rw[hy,hx]
 have pN:z≠0:=by omega
 rcases s with⟨rfl,rfl⟩|⟨i,rfl,h2,h3,h4⟩
 ·refine⟨.slice N 0 1 none z,h.set N (.cells x e true),w,?_,rfl,⟨by omega,fun j hj=>by rw[T.ag,ak (by omega)]⟩,fun j=>by rw[T.ag];by_cases hj:j=N<;>simp[hj],kM,.inr ⟨N,by simp,hN,by omega,by rw[T.ag];simp⟩⟩;have vi:2*1*bytes<=281474976710656:=by simpa using hb
  simp only[oc,hu,zR,St.alloc];simp[vi,pN]
 have jr:=yN hl;refine⟨.slice N 0 (l.length+1) none z,(h.set i .dead).set N (.cells (l.flatten++x) e true),i::w,?_,by simp[ay,wz.2 h2],⟨by omega,fun j hj=>by rw[T.ag,ak (by omega),T.ag,ak (by omega)]⟩,fun j=>?_,kM,.inr ⟨N,by simp,hN,by omega,by rw[T.ag];simp⟩⟩
 ·simp only[oc,hu,zR,St.row,h4];rw[ak (by omega),ak (by rintro(h|h|h)<;>omega)];simp only[if_true];rw[ak (by rw[jr,js];omega),av ⟨by rw[jr];omega,trivial,trivial⟩];rfl
 by_cases hj:j=N
 ·exact .inr (.inl hj)
 by_cases pT:j=i
 ·exact .inr (.inr ⟨0,l.length,none,z,by rw[pT]⟩)
 left;rw[T.ag,ak hj,T.ag,ak pT]
abbrev aG:=List UInt8
def mQ(c:UInt8):Bool:=decide (48<=c.toNat/\c.toNat<=57)
def jH:aG->Bool
 |[]=>false
 |c::s=>(c::s).all mQ&&(decide (c.toNat≠48)||decide (s=[]))
def ah:aG->Nat
 |[]=>0
 |c::s=>if c.toNat=47 then 0 else ah s+1
def aF(s:aG):Nat:=s.foldl (fun n c=>10*n+(c.toNat-48)) 0
def cD:aG->Bool
 |[]=>false
 |c::_=>decide (c.toNat=45)
def bm(s:aG):aG:=if cD s then s.drop 1 else s
def gU(neg:Bool)(p:aG)(broken:Bool)(d:aG):Bool:=jH p&&!(neg&&decide (p=[48]))&&(!broken||(jH d&&decide (d≠[48])&&decide (d≠[49])))
def lV(neg:Bool)(p:aG)(broken:Bool)(d:aG):Nat:=
 if gU neg p broken d=false then 1 else if 600<p.length\/600<d.length then 4 else if broken=true/\Nat.gcd (aF p) (aF d)≠1 then 1 else 0
def JN(neg:Bool)(t:aG):Nat:=lV neg (t.take (ah t)) (decide (ah t<t.length)) (t.drop (ah t+1))
def aV(s:aG):Nat:=JN (cD s) (bm s)
def GS:∀(s:aG),ah s<=s.length
 |[]=>aM _
 |c::s=>by
  have:=GS s
  simp only[ah,bl]
  split<;>omega
structure zd where
 name:aG
 op:aG
 Jt:aG
 nh:List aG
 cost:Int
def pos:List zd->aG->Nat
 |[],_=>0
 |s::g,n=>if s.name=n then 0 else pos g n+1
variable {i:Nat} {j:Int} {k:IntKind} {r:T V} {s:aG} {x:Src}
def Ywy(s:aG)(p:Nat):Int:=(Utf8.decode ⟨s.toArray⟩ p).1
def Ywx(s:aG)(p:Nat):Nat:=(Utf8.decode ⟨s.toArray⟩ p).2
def JV(i:Nat)(st:St):Option (aG×Nat)->Option (V×St)
 |some (s,p)=>if p<s.length then some (.aX [.bool true,.int .i64 p,.int .i32 (Utf8.decode ⟨s.toArray⟩ p).1],st.write i (.fe s (p+(Utf8.decode ⟨s.toArray⟩ p).2))) else some (.aX [.bool false],st)
 |none=>none
def US:Option O->Option (aG×Nat)
 |some (.fe s p)=>some (s,p)
 |_=>none
def Ys1(st:St):Option V->Option (V×St)
 |some (.ptr i 0)=>JV i st (US (st.h.get i))
 |_=>none
def Zu9{call:cO}{st:St}:Jm x call r st=Ys1 st (x.ev r):=by
 unfold Jm Ys1;rcases x.ev r with _|v
 ·rfl
 cases v<;>try rfl
 rename_i i o;cases o with
 |zero=>
  simp only[US,JV];rcases st.h.get i with _|o
  ·rfl
  cases o<;>rfl
 |succ=>rfl
def Ycz{st:St}:Ys1 st (some (.ptr i 0))=JV i st (US (st.h.get i)):=rfl
def Zxk{p:Nat}:US (some (.fe s p))=some (s,p):=rfl
def Yhb{st:St}{p:Nat}(h:p<s.length):JV i st (some (s,p))=some (.aX [.bool true,.int .i64 p,.int .i32 (Ywy s p)],st.write i (.fe s (p+Ywx s p))):=by simp[JV,h,Ywy,Ywx]
def Yc0{st:St}:JV i st (some (s,s.length))=some (.aX [.bool false],st):=by simp[JV]
def uW(st:St):Option V->Option (Option V)->Option (Option V)->Option (V×St)
 |some (.str s),some lo,some hi=>match dW hi s.length s.length with
   |some h=>match dW lo h 0 with
    |some l=>some (.str ((s.take h).drop l),st)
    |none=>none
   |none=>none
 |_,_,_=>none
def Zti{lo hi:Option Src}{call:cO}{st:St}:AK x lo hi call r st=uW st (x.ev r) (aC r lo) (aC r hi):=by unfold AK uW;rfl
def Hg{st:St}(h0:0<=j)(h1:j<=s.length):uW st (some (.str s)) (some (some (.int k j))) (some none)=some (.str (s.drop j.toNat),st):=by simp[uW,dW,m_,h0,h1]
def Zm8{st:St}(h0:0<=j)(h1:j<=s.length):uW st (some (.str s)) (some none) (some (some (.int k j)))=some (.str (s.take j.toNat),st):=by simp[uW,dW,m_,h0,h1]
def Zro{st:St}{k':IntKind}{i:Int}(h0:0<=i)(h1:i<=j)(h2:j<=s.length):uW st (some (.str s)) (some (some (.int k i))) (some (some (.int k' j)))=some (.str ((s.take j.toNat).drop i.toNat),st):=by
 have h3:0<=j:=by omega
 have h4:max j 0=j:=by omega
 simp[uW,dW,m_,h0,h1,h2,h3,h4]
def JW(s:aG):List V:=s.map fun b=>.int .u8 (cX b)
def Yek(s:aG):(JW s).length=s.length:=by simp[JW]
def Yel{k:Nat}{c:UInt8}(h:s[k]?=some c):(JW s)[k]?=some (.int .u8 (cX c)):=by simp[JW,h]
def sbK(elem:TypeId)(st:St):Option V->Option (V×St)
 |some (.str s)=>some (.slice st.n 0 s.length none 1,st.alloc (.cells (JW s) elem true))
 |_=>none
def Zth{elem:TypeId}{call:cO}{st:St}:Gs elem x call r st=sbK elem st (x.ev r):=by unfold Gs sbK;rfl
def Ylm{elem:TypeId}{st:St}:sbK elem st (some (.str s))=some (.slice st.n 0 s.length none 1,st.alloc (.cells (JW s) elem true)):=rfl
attribute [simp] Zth Ylm Yek Zu9 Ycz Zxk Yhb Yc0 Zti Hg Zm8 Zro Jl
def Zmc:∀(s:aG) (i:Nat),I7 47 s i=if ah s<s.length then ((i+ah s:Nat):Int) else -1
 |[],i=>rfl
 |c::s,i=>by
  simp only[I7,ah]
  have e:(c==47)=decide (c.toNat=47):=by
   rw[Bool.eq_iff_iff]
   simp only[beq_iff_eq,decide_eq_true_eq]
   exact⟨fun h=>by rw[h];rfl,fun h=>UInt8.toNat_inj.1 h⟩
  rw[e]
  by_cases h:c.toNat=47
  ·simp[h]
  ·simp only[h,decide_false,if_false,ix,Zmc s (i+1),bl]
   by_cases h2:ah s<s.length
   ·rw[av h2,av (by omega)];omega
   ·rw[ak h2,ak (by omega)]
end Go.Mx
