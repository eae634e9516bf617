/-Slices of which only the elements are kn-/
import Derived.Test.YteojhfjdbpdolaaGreatDoorMxLim
set_option linter.all false
namespace Go.Mx
open Go
variable {N a b i k n o size:Nat} {h:T O} {j:Int} {l:List Nat} {r r0:T V} {v:V} {x:Src}
def pD:V->Option Nat
 |.aa=>some 0
 |.empty=>some 0
 |.slice _ _ n _ _=>some n
 |_=>none
def yd:V->Option (Nat×Nat)
 |.slice i o _ _ _=>some (i,o)
 |_=>none
def Yg(st:St):Option Nat->Option (V×St)
 |some n=>some (.int .i64 n,st)
 |none=>none
def Yh(st:St):Option V->Option (V×St)
 |some v=>Yg st (pD v)
 |none=>none
def Yjb{call:cI}{st:St}:yp 1 x call r st=Yh st (x.ev r):=by
 unfold yp Yh
 rcases x.ev r with _|v
 ·rfl
 ·cases v<;>rfl
def Yfg{st:St}:Yh st (some v)=Yg st (pD v):=rfl
def Ya6{st:St}:Yg st (some n)=some (.int .i64 n,st):=rfl
def Rf(st:St)(size k:Nat):Option (Nat×Nat)->Option (V×St)
 |some (i,o)=>some (.ptr i (o+k*size),st)
 |none=>none
def MD(st:St)(size:Nat)(v:V)(k:Int):Option Nat->Option (V×St)
 |some n=>if 0<=k/\k<(n:Int) then Rf st size k.toNat (yd v) else none
 |none=>none
def Yi(st:St)(size:Nat):Option V->Option V->Option (V×St)
 |some v,some (.int _ k)=>MD st size v k (pD v)
 |_,_=>none
def Zti{i:Src}{call:cI}{st:St}:Eg size x i call r st=Yi st size (x.ev r) (i.ev r):=by
 unfold Eg Yi
 rcases x.ev r with _|v
 ·rfl
 ·rcases i.ev r with _|u
  ·cases v<;>rfl
  ·cases u<;>cases v<;>simp[MD,Rf,pD,yd]<;>omega
def Yb8{st:St}{k:IntKind}:Yi st size (some v) (some (.int k j))=MD st size v j (pD v):=rfl
def Yhf{st:St}(h0:0<=j)(h1:j<(n:Int)):MD st size v j (some n)=Rf st size j.toNat (yd v):=by simp[MD,h0,h1]
def Zxa{st:St}:Rf st size k (some (i,o))=some (.ptr i (o+k*size),st):=rfl
def Yx7(a b:Int):(a==b)=decide (a=b):=by
 by_cases h:a=b<;>simp[h]
def Yx6(a b:Int):(a !=b)=!decide (a=b):=by
 by_cases h:a=b<;>simp[h]
def Yh5(a b:Nat):((a:Int)+(b:Int)).toNat=a+b:=by omega
def Yh4(a b:Nat):((a:Int)-(b:Int)).toNat=a-b:=by omega
def Ywg(a b n:Nat):((a:Int)+(b:Int)<(n:Int))↔a+b<n:=by omega
def Zzu(b:Nat):((64:Int)-(b:Int)).toNat=64-b:=by omega
attribute [simp] Zzu Yx7 Yx6 Int.natCast_inj Yh5 Yh4 Ywg
def Yj(st:St):Option V->Option (V×St)
 |some (.str s)=>some (.int .i64 s.length,st)
 |_=>none
def Yjc{call:cI}{st:St}:yp 0 x call r st=Yj st (x.ev r):=by
 unfold yp Yj
 rcases x.ev r with _|v
 ·rfl
 ·cases v<;>rfl
def Yfe{st:St}{s:List UInt8}:Yj st (some (.str s))=some (.int .i64 s.length,st):=rfl
def Ya4{i o n c z}:pD (.slice i o n c z)=some n:=rfl
def Yjz:pD .aa=some 0:=rfl
def Ya5:pD .empty=some 0:=rfl
def Zw8{i o n c z}:yd (.slice i o n c z)=some (i,o):=rfl
attribute [simp] Yjb Yjc Yfe Ya4 Yjz Ya5 Zw8 Yfg Ya6 Zti Yb8 Yhf Zxa
def cM(b:UInt8):Int:=b.toNat
def Ycn(b:UInt8):0<=cM b/\cM b<256:=by unfold cM;have:=b.toNat_lt;omega
def Rh(st:St):Option UInt8->Option (V×St)
 |some b=>some (.int .u8 b.toNat,st)
 |none=>none
def Ri(st:St):Option V->Option V->Option (V×St)
 |some (.str s),some (.int _ k)=>if 0<=k then Rh st s[k.toNat]? else none
 |_,_=>none
def Zvv{i:Src}{call:cI}{st:St}:Eh x i call r st=Ri st (x.ev r) (i.ev r):=by
 unfold Eh Ri Rh
 rcases x.ev r with _|v
 ·rfl
 ·rcases i.ev r with _|u
  ·cases v<;>rfl
  ·cases u<;>cases v<;>rfl
def Yft{st:St}{s:List UInt8}{k:IntKind}(h:0<=j):Ri st (some (.str s)) (some (.int k j))=Rh st s[j.toNat]?:=by simp[Ri,h]
def Ybl{st:St}{b:UInt8}:Rh st (some b)=some (.int .u8 (cM b),st):=rfl
attribute [simp] Zvv Yft Ybl
def Rj(st:St)(elem:TypeId)(size bytes:Nat)(zero:List V):Option V->Option V->Option (V×St)
 |some (.int _ l),some (.int _ c)=>if 0<=l/\l<=c/\bytes*c<=2^47/\c<2^62/\size=zero.length/\size≠0 then
    some (.slice st.n 0 l.toNat (some c.toNat) size,st.alloc (.cells (cU zero c.toNat) elem true)) else none
 |_,_=>none
def Ztg{elem:TypeId}{bytes:Nat}{zero:List V}{y:Src}{call:cI}{st:St}:Cv elem size bytes zero x y call r st=Rj st elem size bytes zero (x.ev r) (y.ev r):=by
 unfold Cv Rj;rfl
def Yjr{st:St}{elem:TypeId}{bytes:Nat}{zero:List V}{k k':IntKind}{l:Int}(h0:0<=l)(h1:bytes*l<=140737488355328)(h2:l<4611686018427387904)(h3:size=zero.length)(h4:0<size):
  Rj st elem size bytes zero (some (.int k l)) (some (.int k' l))=some (.slice st.n 0 l.toNat (some l.toNat) size,st.alloc (.cells (cU zero l.toNat) elem true)):=by
 unfold Rj
 simp only[]
 rw[av ⟨h0,Int.le_refl _,by simpa using h1,by simpa using h2,h3,by omega⟩]
def Rk(n:Nat)(st:St):Option V->Option V->Option (V×St)
 |some (.ptr i o),some v=>match st.row i with
   |some (c,e,true)=>if v.cells.length=n/\o+n<=c.length/\v.cells.all V.one=true then some (.aX [],st.write i (.cells (ad c o v.cells) e true)) else none
   |_=>none
 |_,_=>none
def Yad{a:Src}{call:cI}{st:St}:Ed n a x call r st=Rk n st (a.ev r) (x.ev r):=by
 unfold Ed Rk;rfl
def bC(n:Nat)(st:St)(i o:Nat)(v:V):Option O->Option (V×St)
 |some (.cells c e true)=>if v.cells.length=n/\o+n<=c.length/\v.cells.all V.one=true then some (.aX [],st.write i (.cells (ad c o v.cells) e true)) else none
 |_=>none
def Zzy{st:St}:Rk n st (some (.ptr i o)) (some v)=bC n st i o v (st.h.get i):=by
 unfold Rk bC St.row
 simp only[]
 rcases st.h.get i with _|x
 ·rfl
 ·cases x with
  |cells c e b=>cases b<;>rfl
  |_=>rfl
def Zmh{w:List Nat}{c:List V}{e:TypeId}(h1:v.cells.length=n)(h2:o+n<=c.length)(h3:v.cells.all V.one=true):
  bC n ⟨h,N,w⟩ i o v (some (.cells c e true))=some (.aX [],⟨h.set i (.cells (ad c o v.cells) e true),N,i::w⟩):=by
 unfold bC
 simp only[]
 rw[av ⟨h1,h2,h3⟩];rfl
attribute [simp] Ztg Yjr Yad Zzy Zmh
def bz(n:Nat):Nat:=n%18446744073709551616
def cg(n:Nat):Nat:=n/18446744073709551616
def eD(x y c:Nat):Nat:=(x+18446744073709551616-y-c)%18446744073709551616
def fB(x y c:Nat):Nat:=if x<y+c then 1 else 0
def au(a b:Nat):Nat:=a/2^b
def bK(a b:Nat):Nat:=a*2^b%18446744073709551616
def eR(a:Nat):Nat:=a%4294967296
def ji(a b:Nat):Nat:=a|||b
def Zip(n:Int):IntKind.wrap .u64 n=n%18446744073709551616:=by simp[IntKind.wrap,IntKind.bits,IntKind.signed]
def EO{n:Int}(h1:0<=n)(h2:n<18446744073709551616):bj .u64 n=n:=by rw[Ab,Zip];omega
def JT(n:Int):bj .u64 n=n%18446744073709551616:=by rw[Ab,Zip]
def Zz0{b:Int}(h0:0<=b)(h1:b<=64):y_ .shr .u64 (a:Int) b=some (.int .u64 (au a b.toNat:Nat)):=by
 unfold y_ au
 have e:min b.toNat (IntKind.bits .u64)=b.toNat:=by simp[IntKind.bits];omega
 rw[ak (by omega),e]
 simp only[al,V.int.injEq,true_and]
 rw[Int.fdiv_eq_ediv_of_nonneg _ (by exact_mod_cast tX _)]
 push_cast
 rfl
def Zz1{b:Int}(h0:0<=b)(h1:b<=64):y_ .shl .u64 (a:Int) b=some (.int .u64 (bK a b.toNat:Nat)):=by
 unfold y_ bK
 have e:min b.toNat (IntKind.bits .u64)=b.toNat:=by simp[IntKind.bits];omega
 rw[ak (by omega),e]
 show some (V.int .u64 (IntKind.wrap .u64 ((a:Int)*2^b.toNat)))=_
 rw[Zip]
 have:(((a*2^b.toNat%18446744073709551616:Nat)):Int)=(a:Int)*2^b.toNat%18446744073709551616:=by
  rw[Int.natCast_emod,Jf,Int.natCast_pow];rfl
 rw[this]
def Qx(a:Nat)(h:a<18446744073709551616):(BitVec.ofInt 64 (a:Int)).toNat=a:=by
 simp[BitVec.toNat_ofInt];omega
def Zt4(h:a<18446744073709551616):rf .and .u64 (a:Int) 4294967295=some (.int .u64 (eR a:Nat)):=by
 show some (V.int .u64 (IntKind.wrap .u64 (BitVec.ofInt 64 (a:Int)&&& BitVec.ofInt 64 4294967295).toNat))=_
 rw[Zip,BitVec.toNat_and,Qx a h]
 have e:(BitVec.ofInt 64 4294967295).toNat=2^32-1:=by decide
 rw[e,Nat.and_two_pow_sub_one_eq_mod]
 unfold eR
 simp only[al,V.int.injEq,true_and]
 omega
def Yfq(h:a<18446744073709551616)(h':b<18446744073709551616):rf .or .u64 (a:Int) (b:Int)=some (.int .u64 (ji a b:Nat)):=by
 show some (V.int .u64 (IntKind.wrap .u64 (BitVec.ofInt 64 (a:Int)|||BitVec.ofInt 64 (b:Int)).toNat))=_
 rw[Zip,BitVec.toNat_or,Qx a h,Qx b h']
 have:=Nat.or_lt_two_pow (n:=64) h h'
 unfold ji
 simp only[al,V.int.injEq,true_and]
 omega
def cL(a b:Nat):Nat:=(a+b)%18446744073709551616
def fO(a b:Nat):Nat:=((a:Int)-b).toNat%18446744073709551616+(if a<b then (((a:Int)-b)%18446744073709551616).toNat else 0)
def cQ(a b:Nat):Nat:=(a*b)%18446744073709551616
def mm(a b:Nat):Nat:=a/b
def ME(a b:Nat):Nat:=a%b
def Zzs:bj .u64 ((a:Int)+(b:Int))=(cL a b:Nat):=by rw[JT];unfold cL;omega
def Zp5:bj .u64 ((a:Int)-(b:Int))=(fO a b:Nat):=by
 rw[JT];unfold fO
 split<;>omega
def Zuz:bj .u64 ((a:Int)-1)=(fO a 1:Nat):=Zp5 (b:=1)
def Yk:bj .u64 ((a:Int)*(b:Int))=(cQ a b:Nat):=by
 rw[JT];unfold cQ
 rw[<-Jf];omega
def Zsw:bj .u64 ((a:Int)*4294967296)=(cQ a 4294967296:Nat):=Yk (b:=4294967296)
def Zre:bj .u64 (4294967296*(a:Int))=(cQ 4294967296 a:Nat):=Yk (a:=4294967296)
def Zzr(h:a<18446744073709551616):bj .u64 ((a:Int).tdiv (b:Int))=(mm a b:Nat):=by
 rw[JT];unfold mm
 have e:((a:Int).tdiv (b:Int))=((a/b:Nat):Int):=rfl
 have:=vk a b
 rw[e]
 generalize a/b=q at*
 omega
def Ycs:(a:Int).tmod (b:Int)=(ME a b:Nat):=rfl
def EP(h:b<=a)(ha:a<18446744073709551616):fO a b=a-b:=by unfold fO;split<;>omega
def Yrf:cL a b<18446744073709551616:=kO _ (by decide)
def Yo5:cQ a b<18446744073709551616:=kO _ (by decide)
def Yl:bK a b<18446744073709551616:=kO _ (by decide)
def Yct:fO a b<18446744073709551616:=by unfold fO;split<;>omega
def Zxu(h:a<18446744073709551616):au a b<18446744073709551616:=qP (vk _ _) h
attribute [simp] Yrf Yo5 Yl Yct Zzs Zp5 Zuz Yk Zsw Zre Zzr Ycs Zz0 Zz1 Zt4 Yfq
def Hl(st:St)(e:Ext)(o:Option (List V)):Option (V×St):=match e,o with
  |.same,some [v]=>some (v,st)
  |e,some l=>match Ct e l with
   |some v=>some (v,st)
   |none=>none
  |_,none=>none
def Yjd{e:Ext}{args:List Src}{call:cI}{st:St}:GD e args call r st=Hl st e (uw r args):=rfl
def Yf6{st:St}:Hl st .same (some [v])=some (v,st):=rfl
def Ybs{st:St}{x y c:Int}(h:c=0\/c=1):Hl st .gH (some [.int .u64 x,.int .u64 y,.int .u64 c])=some (.aX [.int .u64 (bz (x.toNat+y.toNat+c.toNat):Nat),.int .u64 (cg (x.toNat+y.toNat+c.toNat):Nat)],st):=by
 simp only[Hl,Ct,h,not_true_eq_false,if_false]
 rfl
def Ybr{st:St}{x y c:Int}(h:c=0\/c=1):Hl st .jC (some [.int .u64 x,.int .u64 y,.int .u64 c])=some (.aX [.int .u64 (eD x.toNat y.toNat c.toNat:Nat),.int .u64 (fB x.toNat y.toNat c.toNat:Nat)],st):=by
 simp only[Hl,Ct,h,not_true_eq_false,if_false,fB]
 split<;>rfl
def Yfa:bz n<18446744073709551616:=kO _ (by decide)
def Yn6{c:Nat}:eD a b c<18446744073709551616:=kO _ (by decide)
attribute [simp] Yfa Yn6 Yjd Yf6 Ybs Ybr
def l8(st:St)(size:Nat):Option V->Option (Option V)->Option (Option V)->Option (Option V)->Option (V×St)
 |some v,some lo,some hi,some mx=>po size (.const v) (lo.map .const) (hi.map .const) (mx.map .const) Wm .nil st
 |_,_,_,_=>none
def ER{o:Option V}:aB r (o.map .const)=some o:=by cases o<;>rfl
def zJ{lo hi mx:Option Src}{call:cI}{st:St}:po size x lo hi mx call r st=l8 st size (x.ev r) (aB r lo) (aB r hi) (aB r mx):=by
 unfold l8 po
 rcases x.ev r with _|v
 ·rfl
 ·rcases aB r lo with _|lo
  ·cases v<;>try rfl
   rename_i c _;cases c<;>rfl
  ·rcases aB r hi with _|hi
   ·cases v<;>try rfl
    rename_i c _;cases c<;>rfl
   ·rcases aB r mx with _|mx
    ·cases v<;>try rfl
     rename_i c _;cases c<;>rfl
    ·simp only[ER];rfl
def Sl(h:T O)(N:Nat)(v:V)(l:List V):Prop:=
 (l=[]/\(v=.aa\/v=.empty))\/∃i o cp c e rw,v=.slice i o l.length cp 1/\i<N/\h.get i=some (.cells c e rw)/\(∀j,j<l.length->c[o+j]?=l[j]?)/\o+l.length<=c.length/\∀k,cp=some k->l.length<=k
def Sl.nil:Sl h N .aa []:=.inl ⟨rfl,.inl rfl⟩
def Sl.row{L:Nat}{l:List V}{e:TypeId}{rw:Bool}{cp:Option Nat}(hi:i<N)(hg:h.get i=some (.cells l e rw))(hL:l.length=L)(hc:∀k,cp=some k->L<=k):Sl h N (.slice i 0 L cp 1) l:=
 .inr ⟨i,0,cp,l,e,rw,by rw[hL],hi,hg,fun j _=>by rw[xg],by omega,fun k hk=>by rw[hL];exact hc k hk⟩
def Sl.ae{h':T O}{N':Nat}{l:List V}(s:Sl h N v l)(k:ab h N h' N'):Sl h' N' v l:=by
 rcases s with s|⟨i,o,cp,c,e,rw,h1,h2,h3,h4⟩
 ·exact .inl s
 ·exact .inr ⟨i,o,cp,c,e,rw,h1,eX h2 k.le,(k.get i h2).trans h3,h4⟩
def Sl.len{l:List V}(s:Sl h N v l):pD v=some l.length:=by
 rcases s with⟨rfl,rfl|rfl⟩|⟨i,o,cp,c,e,rw,rfl,_⟩<;>rfl
def Sl.at{l:List V}(s:Sl h N v l){j:Nat}{x:V}(hj:l[j]?=some x):∃i o c e rw,yd v=some (i,o)/\i<N/\h.get i=some (.cells c e rw)/\c[o+j]?=some x:=by
 have hl:j<l.length:=by
  apply tg;intro hc;rw[eJ hc]at hj;cases hj
 rcases s with⟨rfl,_⟩|⟨i,o,cp,c,e,rw,rfl,h2,h3,h4,_⟩
 ·simp at hl
 ·exact⟨i,o,c,e,rw,rfl,h2,h3,(h4 j hl).trans hj⟩
def val(b:Nat):List Nat->Nat
 |[]=>0
 |d::l=>d+b*val b l
def dg(l:List Nat):List V:=l.map fun n:Nat=>.int .u64 n
def dgi(l:List Nat):List V:=l.map fun n:Nat=>.int .i64 n
def bA(l:List Nat):(dg l).length=l.length:=by simp[dg]
def cA(l:List Nat):(dgi l).length=l.length:=by simp[dgi]
def fw{j:Nat}(h:l[j]?=some n):(dg l)[j]?=some (.int .u64 n):=by simp[dg,h]
attribute [simp] bA cA
def pE{v:Nat}(h:k<l.length):ad (dg l) k [.int .u64 v]=dg (l.set k v):=by
 unfold ad dg
 apply lA
 intro j
 simp only[zY,eY,List.getElem?_set]
 rw[td,List.getElem?_append,gD,dL]
 by_cases h1:j<k
 ·rw[av (by omega),iz,av h1,eY,ak (by omega)]
 ·rw[ak (by omega)]
  by_cases h2:j=k
  ·subst h2
   rw[show j-min j l.length=0 by omega,av rfl,av h];rfl
  ·rw[show j-min k l.length=(j-k-1)+1 by omega,ak (by omega)]
   simp only[Qn,D5,ff,eY]
   rw[show k+1+(j-k-1)=j by omega]
def Hm:cU [.int .u64 0] n=dg (List.replicate n 0):=by
 unfold cU dg
 apply lA
 intro j
 simp only[zY,yZ,eY,List.getElem?_replicate]
 by_cases h:j<n
 ·simp[h,Nat.mod_one]
 ·simp[h]
def PJ{z:V}:cU [z] n=List.replicate n z:=by
 unfold cU
 apply lA
 intro j
 simp only[zY,yZ,eY,List.getElem?_replicate]
 by_cases h:j<n
 ·simp[h,Nat.mod_one]
 ·simp[h]
def Rl(b:Nat):∀(l m:List Nat),val b (l++m)=val b l+b^l.length*val b m
 |[],m=>by simp[val]
 |d::l,m=>by
  simp only[Co,val,Rl b l m,bo,gg]
  grind
def Rm(b:Nat)(l:List Nat)(d:Nat):val b (l++[d])=val b l+b^l.length*d:=by simp[Rl,val]
def Zsy(b n:Nat):val b (List.replicate n 0)=0:=by
 induction n with
 |zero=>rfl
 |succ n ih=>simp[List.replicate_succ,val,ih]
def ES{d:Nat}(h:l[k]?=some d):val b (l.take (k+1))=val b (l.take k)+b^k*d:=by
 have hk:k<l.length:=by
  apply tg;intro hc;rw[eJ hc]at h;cases h
 rw[uJ,h]
 simp only[Option.toList]
 rw[Rm,gD,pV (by omega)]
def ET{b:Nat}:∀{l:List Nat},(∀d∈l,d<b)->val b l<b^l.length
 |[],_=>by simp[val]
 |d::l,h=>by
  have h1:=h d ph
  have h2:=ET (l:=l) fun e he=>h e (oU _ he)
  simp only[val,bo,gg]
  have:b*(val b l+1)<=b*b^l.length:=jr b h2
  rw[jb (b^l.length) b]
  grind
def B:Nat:=18446744073709551616
def Dg(l:List Nat):Prop:=∀d∈l,d<B
def Dg.get(h:Dg l){j d:Nat}(hj:l[j]?=some d):d<B:=h d (cG hj)
def dz(l:List Nat)(j:Nat):Nat:=l[j]?.getD 0
def Yt1{l:List Nat}(h:Dg l)(j:Nat):dz l j<B:=by
 unfold dz
 cases hj:l[j]? with
 |none=>decide
 |some d=>exact h.get hj
def C8{b:Nat}{l:List Nat}{k:Nat}:val b (l.take (k+1))=val b (l.take k)+b^k*dz l k:=by
 unfold dz
 cases h:l[k]? with
 |some d=>exact ES h
 |none=>
  have hk:l.length<=k:=by
   apply yX;intro hc;rw[cy hc]at h;cases h
  rw[fe (by omega),fe hk];simp
def sV:List Nat->List Nat
 |[]=>[]
 |d::l=>match sV l with
  |[]=>if d=0 then [] else [d]
  |t=>d::t
def Zp7:∀(l:List Nat),sV (l++[0])=sV l
 |[]=>rfl
 |d::l=>by simp only[Co,sV,Zp7 l]
def Zp8{d:Nat}(hd:d≠0):∀(l:List Nat),sV (l++[d])=l++[d]
 |[]=>by simp[sV,hd]
 |e::l=>by
  simp only[Co,sV,Zp8 hd l]
  cases l<;>rfl
def jP:List (Nat×Nat)->Nat->Bool
 |[],_=>false
 |(a,b)::D,t=>(Nat.ble a t&&Nat.ble t b)||jP D t
def Yp6{t:Nat}:jP [] t=false:=rfl
def Yka{D:List (Nat×Nat)}{t:Nat}:jP ((a,b)::D) t=((Nat.ble a t&&Nat.ble t b)||jP D t):=rfl
attribute [simp] Yp6 Yka
structure Fx (D:List (Nat×Nat)) (r0:T V) (n:Nat) (fr:Fr):Prop where
 dN:∀t,jP D t=false->fr.r.get t=r0.get t
 n:fr.n=n
 marks:fr.marks=[]
def Fx.refl{D:List (Nat×Nat)}:Fx D r n ⟨r,n,[]⟩:=⟨fun _ _=>rfl,rfl,rfl⟩
def Fx.set{D:List (Nat×Nat)}{t:Nat}(ht:jP D t=true):Fx D r0 n ⟨r.set t v,n,[]⟩↔Fx D r0 n ⟨r,n,[]⟩:=by
 constructor
 ·intro h
  refine⟨fun u hu=>?_,rfl,rfl⟩
  have:=h.dN u hu
  simp only[T.ag]at this
  rw[ak]at this
  ·exact this
  ·rintro rfl;rw[ht]at hu;cases hu
 ·intro h
  refine⟨fun u hu=>?_,rfl,rfl⟩
  simp only[T.ag]
  rw[ak]
  ·exact h.dN u hu
  ·rintro rfl;rw[ht]at hu;cases hu
attribute [simp] Fx.set
def Ym(D' D:List (Nat×Nat)):Bool:=D'.all fun p=>D.any fun q=>Nat.ble q.1 p.1&&Nat.ble p.2 q.2
def Yfr{D:List (Nat×Nat)}{t:Nat}:jP D t=true↔∃p∈D,p.1<=t/\t<=p.2:=by
 induction D with
 |nil=>simp[jP]
 |cons p D ih=>obtain⟨a,b⟩:=p;simp[jP,ih]
def Ynt{D' D:List (Nat×Nat)}(h:Ym D' D=true){t:Nat}(ht:jP D t=false):jP D' t=false:=by
 cases hc:jP D' t with
 |false=>rfl
 |true=>
  obtain⟨p,hp,h1,h2⟩:=Yfr.1 hc
  unfold Ym at h
  rw[lB]at h
  obtain⟨q,hq,h3⟩:=List.any_eq_true.1 (h p hp)
  simp at h3
  have:jP D t=true:=Yfr.2 ⟨q,hq,by omega,by omega⟩
  rw[ht]at this;cases this
def Fx.inner{D D':List (Nat×Nat)}{r1 r2:T V}(hf:Fx D r0 n ⟨r,n,[]⟩)(hs:Ym D' D=true)(h1:Fx D r0 n ⟨r,n,[]⟩->Fx D r0 n ⟨r1,n,[]⟩)(h2:∀t,jP D' t=false->r2.get t=r1.get t):Fx D r0 n ⟨r2,n,[]⟩:=
 ⟨fun t ht=>(h2 t (Ynt hs ht)).trans ((h1 hf).dN t ht),rfl,rfl⟩
def Rd(D:List (Nat×Nat))(r0:T V)(n:Nat)(I:Nat->T V->St->Prop)(k:Nat)(P:Ex->T V->St->Prop):Ex->Fr->St->Prop
 |.normal,fr,st=>Fx D r0 n fr/\∃k',k'<k/\I k' fr.r st
 |e,fr,st=>Fx D r0 n fr/\P e fr.r st
def Zuw{D r0 n I k P r st}:Rd D r0 n I k P .normal ⟨r,n,[]⟩ st↔Fx D r0 n ⟨r,n,[]⟩/\∃k',k'<k/\I k' r st:=Iff.rfl
def Yrl{D r0 n I k P r st i}:Rd D r0 n I k P (.exit i) ⟨r,n,[]⟩ st↔Fx D r0 n ⟨r,n,[]⟩/\P (.exit i) r st:=Iff.rfl
def Yui{D r0 n I k P r st}:Rd D r0 n I k P .ret ⟨r,n,[]⟩ st↔Fx D r0 n ⟨r,n,[]⟩/\P .ret r st:=Iff.rfl
attribute [simp] Zuw Yrl Yui
def bL{C:Cx}{ro:Option Nat}{c:bU}{K:List Kf}{Q:Rs->Prop}{LD:St}(D:List (Nat×Nat))(P:Ex->T V->St->Prop)(I:Nat->T V->St->Prop)(k:Nat)(hi:I k r0 LD)
  (h:∀k r st,(∀t,jP D t=false->r.get t=r0.get t)->Fx D r0 n ⟨r,n,[]⟩->I k r st->Code C ro c ⟨r,n,[]⟩ st (Rd D r0 n I k P))
  (q:∀e r st,(∀t,jP D t=false->r.get t=r0.get t)->P e r st->bG C K (some (.ex e ⟨r,n,[]⟩ st)) Q):bG C K (fj (C.code ro (.loop c) ⟨r0,n,[]⟩ LD)) Q:=by
 refine Yiq (fun e fr st=>Fx D r0 n fr/\P e fr.r st) (fun k fr st=>Fx D r0 n fr/\I k fr.r st) k ⟨Fx.refl,hi⟩ ?_ ?_
 ·rintro k ⟨r,n',m⟩ st ⟨hf,hi⟩
  have h1:n'=n:=hf.n
  have h2:m=[]:=hf.marks
  subst h1;subst h2
  obtain⟨e,bE,aC,h3,h4⟩:=(h k r st hf.dN hf hi).ex
  refine⟨e,bE,aC,h3,?_⟩
  cases e with
  |normal=>obtain⟨a,k',b,c⟩:=h4;exact⟨k',b,a,c⟩
  |exit i=>exact h4
  |ret=>exact h4
 ·rintro e ⟨r,n',m⟩ st ⟨hf,hp⟩
  have h1:n'=n:=hf.n
  have h2:m=[]:=hf.marks
  subst h1;subst h2
  exact q e r st hf.dN hp
def DO{l:List V}{w:List Nat}(s:Sl h N v l){lo hi:Nat}(h1:lo<=hi)(h2:hi<=l.length)(x y:Option V)(hx:x=some (.int .i64 lo)\/x=none/\lo=0)(hy:y=some (.int .i64 hi)\/y=none/\hi=l.length):
  ∃v',l8 ⟨h,N,w⟩ 1 (some v) (some x) (some y) (some none)=some (v',⟨h,N,w⟩)/\Sl h N v' ((l.take hi).drop lo):=by
 rcases s with⟨rfl,rfl|rfl⟩|⟨i,o,cp,c,e,rw,rfl,q2,q3,q4,q5,q6⟩
 ·have:hi=0:=by simpa using h2
  subst this
  have:lo=0:=by omega
  subst this
  refine⟨.aa,?_,.inl ⟨rfl,.inl rfl⟩⟩
  rcases hx with rfl|⟨rfl,_⟩<;>rcases hy with rfl|⟨rfl,_⟩<;>simp[l8,po,aB,dv,j_]
 ·have:hi=0:=by simpa using h2
  subst this
  have:lo=0:=by omega
  subst this
  refine⟨.empty,?_,.inl ⟨rfl,.inr rfl⟩⟩
  rcases hx with rfl|⟨rfl,_⟩<;>rcases hy with rfl|⟨rfl,_⟩<;>simp[l8,po,aB,dv,j_]
 ·have hlen:((l.take hi).drop lo).length=hi-lo:=by simp;omega
  have cO:∀j,j<hi-lo->c[o+lo+j]?=((l.take hi).drop lo)[j]?:=fun j hj=>by
   rw[ff,iz,av (by omega),show o+lo+j=o+(lo+j) by omega]
   exact q4 _ (by omega)
  have b1:∀m,hi<=m->dv y m l.length=some hi:=fun m hm=>by
   rcases hy with rfl|⟨rfl,rfl⟩
   ·simp[dv,j_];omega
   ·rfl
  have b2:dv x hi 0=some lo:=by
   rcases hx with rfl|⟨rfl,rfl⟩
   ·simp[dv,j_];omega
   ·rfl
  cases cp with
  |some k=>
   have hk:=q6 k rfl
   refine⟨.slice i (if k=lo then o else o+lo) (hi-lo) (some (k-lo)) 1,?_,?_⟩
   ·have b0:dv none k k=some k:=rfl
    simp only[l8,po,ER,Src.ev,yZ]
    simp[b0,b1 k (by omega),b2]
   ·by_cases wV:k=lo
    ·refine .inr ⟨i,o,some 0,c,e,rw,?_,q2,q3,fun j hj=>by rw[hlen]at hj;omega,by rw[hlen];omega,fun k' gE=>by rw[hlen];omega⟩
     rw[hlen,av wV,show k-lo=0 by omega]
    ·refine .inr ⟨i,o+lo,some (k-lo),c,e,rw,?_,q2,q3,fun j hj=>cO j (by omega),by rw[hlen];omega,fun k' gE=>by simp at gE;rw[hlen];omega⟩
     rw[hlen,ak wV]
  |none=>
   have hk:hi<=max l.length (c.length-o):=by omega
   by_cases ay:lo<max l.length (c.length-o)
   ·refine⟨.slice i (o+lo) (hi-lo) none 1,?_,.inr ⟨i,o+lo,none,c,e,rw,by rw[hlen],q2,q3,fun j hj=>cO j (by omega),by rw[hlen];omega,fun k' gE=>by cases gE⟩⟩
    simp only[l8,po,ER,Src.ev,St.row,q3,Nat.div_one,yZ]
    simp[b1 _ hk,b2,ay]
   ·refine⟨.empty,?_,.inl ⟨qE (by rw[hlen];omega),.inr rfl⟩⟩
    simp only[l8,po,ER,Src.ev,St.row,q3,Nat.div_one,yZ]
    simp[b1 _ hk,b2,ay]
def Yn{m v:Nat}(hk:l.length=k):(l++List.replicate (m+1) 0).set k v=(l++[v])++List.replicate m 0:=by
 subst hk
 rw[List.set_append_right _ _ (aM _)]
 simp[List.replicate_succ]
def aJ(n:Nat):List Nat:=if h:n=0 then [] else n%B::aJ (n/B)
termination_by n
decreasing_by exact Cr (by omega) (by decide)
def rD:aJ 0=[]:=by rw[aJ];simp
def mU(h:n≠0):aJ n=n%B::aJ (n/B):=by rw[aJ];simp[h]
def mV:∀(n:Nat),val B (aJ n)=n:=by
 intro n
 induction n using Nat.strongRecOn with
 |_ n ih=>
  by_cases h:n=0
  ·subst h;rw[rD];rfl
  ·rw[mU h]
   simp only[val]
   rw[ih (n/B) (Cr (by omega) (by decide))]
   have:=uo n B
   omega
def rE(n:Nat):Dg (aJ n):=by
 induction n using Nat.strongRecOn with
 |_ n ih=>
  by_cases h:n=0
  ·subst h;rw[rD];intro d hd;cases hd
  ·rw[mU h]
   intro d hd
   rcases kW.1 hd with rfl|hd
   ·exact kO _ (by decide)
   ·exact ih (n/B) (Cr (by omega) (by decide)) d hd
def C9:∀{l:List Nat},Dg l->sV l=aJ (val B l)
 |[],_=>by simp[sV,val,rD]
 |d::l,h=>by
  have ih:=C9 (l:=l) fun e he=>h e (oU _ he)
  have hd:d<B:=h d ph
  simp only[sV,val,ih]
  by_cases h0:val B l=0
  ·rw[h0,rD]
   simp only[Nat.mul_zero,kv]
   by_cases nY:d=0
   ·simp[nY,rD]
   ·rw[mU nY,yn hd,zZ hd,rD];simp[nY]
  ·have hB:0<B:=by decide
   have h1:(d+B*val B l)/B=val B l:=by
    rw[Nat.add_mul_div_left _ _ hB,zZ hd,xg]
   have h2:(d+B*val B l)%B=d:=by
    rw[Nat.add_mul_mod_self_left,yn hd]
   have h3:d+B*val B l≠0:=by
    intro hc
    have:B*val B l=0:=by omega
    rcases Nat.mul_eq_zero.1 this with h|h
    ·omega
    ·exact h0 h
   rw[mU h3,h1,h2]
   split
   ·rename_i hc;rw[mU h0]at hc;cases hc
   ·rfl
def Wn(h:T O)(N:Nat)(v:V)(n:Nat):Prop:=Sl h N v (dg (aJ n))
def Wn.ae{h':T O}{N':Nat}(s:Wn h N v n)(k:ab h N h' N'):Wn h' N' v n:=Sl.ae s k
variable {N bytes n o z:Nat} {h:T O} {l:List (List V)} {v:V}
def KF{α:Type}{c:List α}{x:List α}(h:aF c o n=some x):o+n<=c.length/\x=(c.drop o).take n:=by
 unfold aF at h
 split at h
 ·rename_i hl;simp at h;exact⟨hl,h.symm⟩
 ·cases h
def Yn0{α:Type}{c:List α}{x:List α}(h:aF c o n=some x){f:Nat}(hf:f<n):c[o+f]?=x[f]?:=by
 obtain⟨_,rfl⟩:=KF h
 rw[iz,av hf,ff]
def PH{c:List V}{x:List V}(h:aF c o n=some x):aO c o (some n)=some (.agg x):=by
 simp[aO,h]
def Sn(z:Nat)(h:T O)(N:Nat)(v:V)(l:List (List V)):Prop:=
 (l=[]/\(v=.aa\/v=.empty))\/∃i o cp c e rw,v=.slice i o l.length cp z/\i<N/\h.get i=some (.cells c e rw)/\(∀j x,l[j]?=some x->aF c (o+j*z) z=some x)/\o+l.length*z<=c.length/\∀k,cp=some k->l.length<=k
def Sn.nil:Sn z h N .aa []:=.inl ⟨rfl,.inl rfl⟩
def Sn.ae{h':T O}{N':Nat}(s:Sn z h N v l)(k:ab h N h' N'):Sn z h' N' v l:=by
 rcases s with s|⟨i,o,cp,c,e,rw,h1,h2,h3,h4⟩
 ·exact .inl s
 ·exact .inr ⟨i,o,cp,c,e,rw,h1,eX h2 k.le,(k.get i h2).trans h3,h4⟩
def Sn.len(s:Sn z h N v l):pD v=some l.length:=by
 rcases s with⟨rfl,rfl|rfl⟩|⟨i,o,cp,c,e,rw,rfl,_⟩<;>rfl
def Sn.at(s:Sn z h N v l){j:Nat}{x:List V}(hj:l[j]?=some x):∃i o c e rw,yd v=some (i,o)/\i<N/\h.get i=some (.cells c e rw)/\aF c (o+j*z) z=some x:=by
 have hl:j<l.length:=by
  apply tg;intro hc;rw[eJ hc]at hj;cases hj
 rcases s with⟨rfl,_⟩|⟨i,o,cp,c,e,rw,rfl,h2,h3,h4,_⟩
 ·simp at hl
 ·exact⟨i,o,c,e,rw,rfl,h2,h3,h4 j x hj⟩
def Zs5(hz:0<z){h:T O}{N:Nat}{v:V}{l:List (List V)}{w:List Nat}(s:Sn z h N v l){lo hi:Nat}(h1:lo<=hi)(h2:hi<=l.length)(x y:Option V)(hx:x=some (.int .i64 lo)\/x=none/\lo=0)(hy:y=some (.int .i64 hi)\/y=none/\hi=l.length):
  ∃v',l8 ⟨h,N,w⟩ z (some v) (some x) (some y) (some none)=some (v',⟨h,N,w⟩)/\Sn z h N v' ((l.take hi).drop lo):=by
 rcases s with⟨rfl,rfl|rfl⟩|⟨i,o,cp,c,e,rw,rfl,q2,q3,q4,q5,q6⟩
 ·have:hi=0:=by simpa using h2
  subst this
  have:lo=0:=by omega
  subst this
  refine⟨.aa,?_,.inl ⟨rfl,.inl rfl⟩⟩
  rcases hx with rfl|⟨rfl,_⟩<;>rcases hy with rfl|⟨rfl,_⟩<;>simp[l8,po,aB,dv,j_]
 ·have:hi=0:=by simpa using h2
  subst this
  have:lo=0:=by omega
  subst this
  refine⟨.empty,?_,.inl ⟨rfl,.inr rfl⟩⟩
  rcases hx with rfl|⟨rfl,_⟩<;>rcases hy with rfl|⟨rfl,_⟩<;>simp[l8,po,aB,dv,j_]
 ·have hlen:((l.take hi).drop lo).length=hi-lo:=by simp;omega
  have cO:∀j u,((l.take hi).drop lo)[j]?=some u->aF c (o+lo*z+j*z) z=some u:=fun j u hu=>by
   have hj:j<hi-lo:=by
    rw[<-hlen];apply tg;intro hc;rw[eJ hc]at hu;cases hu
   rw[ff,iz,av (by omega)]at hu
   have:=q4 _ _ hu
   rw[show o+lo*z+j*z=o+(lo+j)*z by rw[iZ];omega]
   exact this
  have hmul:lo*z+(hi-lo)*z<=l.length*z:=by
   rw[<-iZ];exact jB _ (by omega)
  have b1:∀m,hi<=m->dv y m l.length=some hi:=fun m hm=>by
   rcases hy with rfl|⟨rfl,rfl⟩
   ·simp[dv,j_];omega
   ·rfl
  have b2:dv x hi 0=some lo:=by
   rcases hx with rfl|⟨rfl,rfl⟩
   ·simp[dv,j_];omega
   ·rfl
  cases cp with
  |some k=>
   have hk:=q6 k rfl
   refine⟨.slice i (if k=lo then o else o+lo*z) (hi-lo) (some (k-lo)) z,?_,?_⟩
   ·have b0:dv none k k=some k:=rfl
    simp only[l8,po,ER,Src.ev]
    simp[b0,b1 k (by omega),b2]
   ·by_cases wV:k=lo
    ·have h0:(l.take hi).drop lo=[]:=qE (by rw[hlen];omega)
     refine .inr ⟨i,o,some (k-lo),c,e,rw,?_,q2,q3,fun j u hu=>by rw[h0]at hu;simp at hu,by rw[h0];simp;omega,fun k' gE=>by rw[h0];simp⟩
     rw[hlen,av wV]
    ·refine .inr ⟨i,o+lo*z,some (k-lo),c,e,rw,?_,q2,q3,cO,by rw[hlen];omega,fun k' gE=>by simp at gE;rw[hlen];omega⟩
     rw[hlen,ak wV]
  |none=>
   have hlz:l.length<=(c.length-o)/z:=by
    rw[Jh hz];omega
   have hk:hi<=max l.length ((c.length-o)/z):=by omega
   have pP:z≠0:=by omega
   by_cases ay:lo<max l.length ((c.length-o)/z)
   ·refine⟨.slice i (o+lo*z) (hi-lo) none z,?_,.inr ⟨i,o+lo*z,none,c,e,rw,by rw[hlen],q2,q3,cO,by rw[hlen];omega,fun k' gE=>by cases gE⟩⟩
    simp only[l8,po,ER,Src.ev,St.row,q3]
    simp[b1 _ hk,b2,ay,pP]
   ·refine⟨.empty,?_,.inl ⟨qE (by rw[hlen];omega),.inr rfl⟩⟩
    simp only[l8,po,ER,Src.ev,St.row,q3]
    simp[b1 _ hk,b2,ay,pP]
def Sn.one{l:List V}:Sn 1 h N v (l.map fun x=>[x])↔Sl h N v l:=by
 unfold Sn Sl
 constructor
 ·rintro(⟨h1,h2⟩|⟨i,o,cp,c,e,rw,h1,h2,h3,h4,h5,h6⟩)
  ·exact .inl ⟨by simpa using h1,h2⟩
  ·refine .inr ⟨i,o,cp,c,e,rw,by simpa using h1,h2,h3,fun j hj=>?_,by simpa using h5,by simpa using h6⟩
   have:=h4 j [l[j]] (by simp[cy hj])
   have:=Yn0 this (f:=0) (by omega)
   simp at this
   rw[this,cy hj]
 ·rintro(⟨h1,h2⟩|⟨i,o,cp,c,e,rw,h1,h2,h3,h4,h5,h6⟩)
  ·exact .inl ⟨by simpa using h1,h2⟩
  ·refine .inr ⟨i,o,cp,c,e,rw,by simpa using h1,h2,h3,fun j x hj=>?_,by simpa using h5,by simpa using h6⟩
   simp at hj
   obtain⟨u,hu,rfl⟩:=hj
   have hl:j<l.length:=by
    apply tg;intro hc;rw[eJ hc]at hu;cases hu
   have:=h4 j hl
   rw[hu]at this
   have hc:o+j<c.length:=by omega
   unfold aF
   rw[av (by omega),yZ,F8 hc]
   rw[cy hc]at this
   simp at this
   simp[this]
def Own(z:Nat)(e:TypeId)(N0:Nat)(h:T O)(N:Nat)(v:V)(l:List (List V)):Prop:=
 (∀x∈l,x.length=z)/\((l=[]/\v=.aa)\/∃i,v=.slice i 0 l.length none z/\N0<=i/\i<N/\h.get i=some (.cells l.flatten e true))
def Own.nil{e:TypeId}{N0:Nat}:Own z e N0 h N .aa []:=⟨fun _ h=>by simp at h,.inl ⟨rfl,rfl⟩⟩
def Own.ae{e:TypeId}{N0:Nat}{h':T O}{N':Nat}(s:Own z e N0 h N v l)(k:ab h N h' N'):Own z e N0 h' N' v l:=by
 obtain⟨hl,s|⟨i,h1,h2,h3,h4⟩⟩:=s
 ·exact⟨hl,.inl s⟩
 ·exact⟨hl,.inr ⟨i,h1,h2,eX h3 k.le,(k.get i h3).trans h4⟩⟩
def Own.len{e:TypeId}{N0:Nat}(s:Own z e N0 h N v l):pD v=some l.length:=by
 obtain⟨_,⟨rfl,rfl⟩|⟨i,rfl,_⟩⟩:=s<;>rfl
def zK{z:Nat}:∀{l:List (List V)},(∀x∈l,x.length=z)->l.flatten.length=l.length*z
 |[],_=>by simp
 |x::l,h=>by
  have h1:=h x ph
  have h2:=zK (l:=l) fun y hy=>h y (oU _ hy)
  simp only[List.flatten_cons,iI,h1,h2,bo,iZ];omega
def MF{z:Nat}:∀{l:List (List V)},(∀x∈l,x.length=z)->∀{j:Nat} {x:List V},l[j]?=some x->aF l.flatten (j*z) z=some x
 |[],_,j,x,hj=>by simp at hj
 |y::l,h,0,x,hj=>by
  have h1:=h y ph
  simp at hj;subst hj
  unfold aF
  simp[<-h1]
 |y::l,h,j+1,x,hj=>by
  have h1:=h y ph
  have h2:=MF (l:=l) (fun y hy=>h y (oU _ hy)) (j:=j) (x:=x) (by simpa using hj)
  obtain⟨h3,h4⟩:=KF h2
  unfold aF
  rw[av (by simp only[List.flatten_cons,iI,iZ,h1];omega),h4]
  congr 2
  rw[List.flatten_cons,iZ,Nat.one_mul,Nat.add_comm,<-List.drop_drop,<-h1,List.drop_left]
def Own.sn{e:TypeId}{N0:Nat}(s:Own z e N0 h N v l):Sn z h N v l:=by
 obtain⟨hl,⟨h1,h2⟩|⟨i,h1,h2,h3,h4⟩⟩:=s
 ·exact .inl ⟨h1,.inl h2⟩
 ·exact .inr ⟨i,0,none,l.flatten,e,true,h1,h3,h4,fun j x hj=>by rw[xg];exact MF hl hj,by rw[zK hl];omega,fun k hk=>by cases hk⟩
def Yo(st:St)(size bytes:Nat)(e:TypeId):Option V->Option V->Option (V×St)
 |some s,some x=>fY st size bytes e s x
 |_,_=>none
def Zvw{size:Nat}{e:TypeId}{z:List V}{s x:Src}{call:cI}{r:T V}{st:St}:Cy size bytes e z s x call r st=Yo st size bytes e (s.ev r) (x.ev r):=by
 unfold Cy Yo;rfl
def wQ{st:St}{size:Nat}{e:TypeId}{s x:V}:Yo st size bytes e (some s) (some x)=fY st size bytes e s x:=rfl
attribute [simp] Zvw wQ
def tU{e:TypeId}{N0:Nat}{u:V}{x:List V}{w:List Nat}(s:Own z e N0 h N v l)(hN:N0<=N)(hz:0<z)(hx:x.length=z)
  (hu:eL ⟨h,N,w⟩ z u=some (1,x)) (hb:2*(l.length+1)*bytes<=281474976710656):
  ∃v' h' w',fY ⟨h,N,w⟩ z bytes e v u=some (v',⟨h',N+1,w'⟩)/\ax N0 w'=ax N0 w/\ab h N0 h' (N+1)/\(∀j,h'.get j=h.get j\/j=N\/(∃o n c q,v=.slice j o n c q))/\Own z e N0 h' (N+1) v' (l++[x]):=by
 obtain⟨hl,s⟩:=s
 have i_:∀y∈l++[x],y.length=z:=fun y hy=>by
  rcases mE.1 hy with hy|hy
  ·exact hl y hy
  ·simp at hy;rw[hy,hx]
 have pP:z≠0:=by omega
 rcases s with⟨rfl,rfl⟩|⟨i,rfl,h2,h3,h4⟩
 ·refine⟨.slice N 0 1 none z,h.set N (.cells x e true),w,?_,rfl,⟨by omega,fun j hj=>by rw[T.ag,ak (by omega)]⟩,fun j=>by rw[T.ag];by_cases hj:j=N<;>simp[hj],i_,.inr ⟨N,by simp,hN,by omega,by rw[T.ag];simp⟩⟩
  have sK:2*1*bytes<=281474976710656:=by simpa using hb
  simp only[fY,hu,tZ,St.alloc]
  simp[sK,pP]
 ·have ky:=zK hl
  refine⟨.slice N 0 (l.length+1) none z,(h.set i .dead).set N (.cells (l.flatten++x) e true),i::w,?_,by simp[ax,s_.2 h2],⟨by omega,fun j hj=>by rw[T.ag,ak (by omega),T.ag,ak (by omega)]⟩,fun j=>?_,i_,.inr ⟨N,by simp,hN,by omega,by rw[T.ag];simp⟩⟩
  ·simp only[fY,hu,tZ,St.row,h4]
   rw[ak (by omega),ak (by rintro(h|h|h)<;>omega)]
   simp only[if_true]
   rw[ak (by rw[ky,iZ];omega),av ⟨by rw[ky];omega,trivial,trivial⟩]
   rfl
  ·by_cases hj:j=N
   ·exact .inr (.inl hj)
   ·by_cases od:j=i
    ·exact .inr (.inr ⟨0,l.length,none,z,by rw[od]⟩)
    ·left;rw[T.ag,ak hj,T.ag,ak od]
abbrev aQ:=List UInt8
def kj(c:UInt8):Bool:=decide (48<=c.toNat/\c.toNat<=57)
def iT:aQ->Bool
 |[]=>false
 |c::s=>(c::s).all kj&&(decide (c.toNat≠48)||decide (s=[]))
def ah:aQ->Nat
 |[]=>0
 |c::s=>if c.toNat=47 then 0 else ah s+1
def aH(s:aQ):Nat:=s.foldl (fun n c=>10*n+(c.toNat-48)) 0
def cK:aQ->Bool
 |[]=>false
 |c::_=>decide (c.toNat=45)
def bn(s:aQ):aQ:=if cK s then s.drop 1 else s
def gm(neg:Bool)(p:aQ)(broken:Bool)(d:aQ):Bool:=iT p&&!(neg&&decide (p=[48]))&&(!broken||(iT d&&decide (d≠[48])&&decide (d≠[49])))
def ko(neg:Bool)(p:aQ)(broken:Bool)(d:aQ):Nat:=
 if gm neg p broken d=false then 1 else if 600<p.length\/600<d.length then 4 else if broken=true/\Nat.gcd (aH p) (aH d)≠1 then 1 else 0
def JP(neg:Bool)(t:aQ):Nat:=ko neg (t.take (ah t)) (decide (ah t<t.length)) (t.drop (ah t+1))
def cf(s:aQ):Nat:=JP (cK s) (bn s)
def EJ:∀(s:aQ),ah s<=s.length
 |[]=>aM _
 |c::s=>by
  have:=EJ s
  simp only[ah,bo]
  split<;>omega
structure xp where
 name:aQ
 op:aQ
 GK:aQ
 kP:List aQ
 cost:Int
def pos:List xp->aQ->Nat
 |[],_=>0
 |s::g,n=>if s.name=n then 0 else pos g n+1
variable {i:Nat} {j:Int} {k:IntKind} {r:T V} {s:aQ} {x:Src}
def Ysl(s:aQ)(p:Nat):Int:=(Utf8.decode ⟨s.toArray⟩ p).1
def Ysk(s:aQ)(p:Nat):Nat:=(Utf8.decode ⟨s.toArray⟩ p).2
def Hn(i:Nat)(st:St):Option (aQ×Nat)->Option (V×St)
 |some (s,p)=>if p<s.length then some (.aX [.bool true,.int .i64 p,.int .i32 (Utf8.decode ⟨s.toArray⟩ p).1],st.write i (.eG s (p+(Utf8.decode ⟨s.toArray⟩ p).2))) else some (.aX [.bool false],st)
 |none=>none
def Rn:Option O->Option (aQ×Nat)
 |some (.eG s p)=>some (s,p)
 |_=>none
def Yp(st:St):Option V->Option (V×St)
 |some (.ptr i 0)=>Hn i st (Rn (st.h.get i))
 |_=>none
def Ztf{call:cI}{st:St}:GB x call r st=Yp st (x.ev r):=by
 unfold GB Yp
 rcases x.ev r with _|v
 ·rfl
 ·cases v<;>try rfl
  rename_i i o
  cases o with
  |zero=>
   simp only[Rn,Hn]
   rcases st.h.get i with _|o
   ·rfl
   ·cases o<;>rfl
  |succ=>rfl
def Yai{st:St}:Yp st (some (.ptr i 0))=Hn i st (Rn (st.h.get i)):=rfl
def Zve{p:Nat}:Rn (some (.eG s p))=some (s,p):=rfl
def Yej{st:St}{p:Nat}(h:p<s.length):Hn i st (some (s,p))=some (.aX [.bool true,.int .i64 p,.int .i32 (Ysl s p)],st.write i (.eG s (p+Ysk s p))):=by simp[Hn,h,Ysl,Ysk]
def Yaj{st:St}:Hn i st (some (s,s.length))=some (.aX [.bool false],st):=by simp[Hn]
def tK(st:St):Option V->Option (Option V)->Option (Option V)->Option (V×St)
 |some (.str s),some lo,some hi=>match dv hi s.length s.length with
   |some h=>match dv lo h 0 with
    |some l=>some (.str ((s.take h).drop l),st)
    |none=>none
   |none=>none
 |_,_,_=>none
def Zry{lo hi:Option Src}{call:cI}{st:St}:zb x lo hi call r st=tK st (x.ev r) (aB r lo) (aB r hi):=by
 unfold zb tK;rfl
def Ho{st:St}(h0:0<=j)(h1:j<=s.length):tK st (some (.str s)) (some (some (.int k j))) (some none)=some (.str (s.drop j.toNat),st):=by
 simp[tK,dv,j_,h0,h1]
def Yq{st:St}(h0:0<=j)(h1:j<=s.length):tK st (some (.str s)) (some none) (some (some (.int k j)))=some (.str (s.take j.toNat),st):=by
 simp[tK,dv,j_,h0,h1]
def Zqd{st:St}{k':IntKind}{i:Int}(h0:0<=i)(h1:i<=j)(h2:j<=s.length):tK st (some (.str s)) (some (some (.int k i))) (some (some (.int k' j)))=some (.str ((s.take j.toNat).drop i.toNat),st):=by
 have h3:0<=j:=by omega
 have h4:max j 0=j:=by omega
 simp[tK,dv,j_,h0,h1,h2,h3,h4]
def Hp(s:aQ):List V:=s.map fun b=>.int .u8 (cM b)
def Yb3(s:aQ):(Hp s).length=s.length:=by simp[Hp]
def Yb4{k:Nat}{c:UInt8}(h:s[k]?=some c):(Hp s)[k]?=some (.int .u8 (cM c)):=by simp[Hp,h]
def Yr(elem:TypeId)(st:St):Option V->Option (V×St)
 |some (.str s)=>some (.slice st.n 0 s.length none 1,st.alloc (.cells (Hp s) elem true))
 |_=>none
def Zrx{elem:TypeId}{call:cI}{st:St}:Ee elem x call r st=Yr elem st (x.ev r):=by
 unfold Ee Yr;rfl
def Yim{elem:TypeId}{st:St}:Yr elem st (some (.str s))=some (.slice st.n 0 s.length none 1,st.alloc (.cells (Hp s) elem true)):=rfl
attribute [simp] Zrx Yim Yb3 Ztf Yai Zve Yej Yaj Zry Ho Yq Zqd GA
def Zk7:∀(s:aQ) (i:Nat),Gj 47 s i=if ah s<s.length then ((i+ah s:Nat):Int) else -1
 |[],i=>rfl
 |c::s,i=>by
  simp only[Gj,ah]
  have e:(c==47)=decide (c.toNat=47):=by
   rw[Bool.eq_iff_iff]
   simp only[beq_iff_eq,decide_eq_true_eq]
   exact⟨fun h=>by rw[h];rfl,fun h=>UInt8.toNat_inj.1 h⟩
  rw[e]
  by_cases h:c.toNat=47
  ·simp[h]
  ·simp only[h,decide_false,if_false,fH,Zk7 s (i+1),bo]
   by_cases h2:ah s<s.length
   ·rw[av h2,av (by omega)];omega
   ·rw[ak h2,ak (by omega)]
end Go.Mx
