/-
  Calls that are known: a table of runs over small heaps stands in for the runs themselves.
-/
import Derived.Test.YtlbophlgohokkaaGreatDoorMxDraw2
import Derived.Test.YtlbophlgohokkaaGreatDoorMxFrame
import Derived.Below
import Derived.CallsIn
set_option linter.all false
namespace Go.Mx
open Go
variable {G i:Nat} {P:Program}
def Zsg:Bool→Bool→Bool
 |true,b=>b
 |false,true=>false
 |false,false=>true
def Yfs:IntKind→Nat
 |.i8=>0|.i16=>1|.i32=>2|.i64=>3|.u8=>4|.u16=>5|.u32=>6|.u64=>7
def Yko:Int→Int→Bool
 |.ofNat a,b=>match b with
  |.ofNat b=>Nat.beq a b
  |.negSucc _=>false
 |.negSucc a,b=>match b with
  |.ofNat _=>false
  |.negSucc b=>Nat.beq a b
def Zsz:List UInt8→List UInt8→Bool
 |[],l=>match l with
  |[]=>true
  |_::_=>false
 |a::xs,l=>match l with
  |[]=>false
  |b::ys=>match Nat.beq a.toNat b.toNat with
   |true=>Zsz xs ys
   |false=>false
def Zq6:Option Nat→Option Nat→Bool
 |none,b=>match b with
  |none=>true
  |some _=>false
 |some a,b=>match b with
  |none=>false
  |some b=>Nat.beq a b
theorem Znq{a b:Bool}(h:Zsg a b=true):a=b:=by cases a<;>cases b<;>simp_all [Zsg]
theorem Za4{a b:Nat}(h:Nat.beq a b=true):a=b:=Yvh h
theorem Ykq{a b:IntKind}(h:Nat.beq (Yfs a) (Yfs b)=true):a=b:=by cases a<;>cases b<;>first|rfl|(exact absurd h (by decide))
theorem Yfq{a b:Int}(h:Yko a b=true):a=b:=by
 cases a<;>cases b<;>simp only[Yko,Yry]at h
 ·rw[Za4 h]
 ·rw[Za4 h]
theorem Zpd:∀{a b:List UInt8},Zsz a b=true→a=b
 |[],[],_=>rfl
 |[],_::_,h=>by simp[Zsz]at h
 |_::_,[],h=>by simp[Zsz]at h
 |a::xs,b::ys,h=>by
  simp only[Zsz]at h
  split at h
  ·rename_i e
   rw[Zpd h,UInt8.toNat_inj.1 (Za4 e)]
  ·cases h
theorem Zmw{a b:Option Nat}(h:Zq6 a b=true):a=b:=by
 cases a<;>cases b<;>simp only[Zq6,Yry]at h
 ·rfl
 ·rw[Za4 h]
def Yfz:FloatKind→Nat
 |.f32=>0|.f64=>1
theorem Ykw{a b:FloatKind}(h:Nat.beq (Yfz a) (Yfz b)=true):a=b:=by cases a<;>cases b<;>first|rfl|(exact absurd h (by decide))
def V.isBool(x:Bool):V→Bool|.bool y=>Zsg x y|_=>false
def V.isInt(k:IntKind)(n:Int):V→Bool|.int k' n'=>(match Nat.beq (Yfs k) (Yfs k')with|true=>Yko n n'|false=>false)|_=>false
def V.isFlt(k:FloatKind)(n:Nat):V→Bool|.flt k' n'=>(match Nat.beq (Yfz k) (Yfz k')with|true=>Nat.beq n n'|false=>false)|_=>false
def V.isStr(s:List UInt8):V→Bool|.str t=>Zsz s t|_=>false
def V.isNilptr:V→Bool|.nilptr=>true|_=>false
def V.isPtr(i o:Nat):V→Bool|.ptr i' o'=>(match Nat.beq i i' with|true=>Nat.beq o o'|false=>false)|_=>false
def V.isNilslice:V→Bool|.nilslice=>true|_=>false
def V.isSlice(i o l:Nat)(c:Option Nat)(z:Nat):V→Bool|.slice i' o' l' c' z'=>Nat.beq i i'&&Nat.beq o o'&&Nat.beq l l'&&Zq6 c c'&&Nat.beq z z'|_=>false
def V.isEmpty:V→Bool|.empty=>true|_=>false
def V.isNilmap:V→Bool|.nilmap=>true|_=>false
def V.isMap(i:Nat):V→Bool|.map j=>Nat.beq i j|_=>false
def V.isNilchan:V→Bool|.nilchan=>true|_=>false
def V.isChan(i:Nat):V→Bool|.chan j=>Nat.beq i j|_=>false
def V.isYield(i:Nat):V→Bool|.yield j=>Nat.beq i j|_=>false
def V.isNilfunc:V→Bool|.nilfunc=>true|_=>false
def V.isNiliface:V→Bool|.niliface=>true|_=>false
mutual
def V.beq:V→V→Bool
 |.bool x,b=>b.isBool x
 |.int k n,b=>b.isInt k n
 |.flt k n,b=>b.isFlt k n
 |.str s,b=>b.isStr s
 |.nilptr,b=>b.isNilptr
 |.ptr i o,b=>b.isPtr i o
 |.nilslice,b=>b.isNilslice
 |.slice i o l c z,b=>b.isSlice i o l c z
 |.empty,b=>b.isEmpty
 |.nilmap,b=>b.isNilmap
 |.map i,b=>b.isMap i
 |.nilchan,b=>b.isNilchan
 |.chan i,b=>b.isChan i
 |.func f a c,b=>match b with
  |.func f' a' c'=>Nat.beq f f'&&V.beqs a a'&&V.beqs c c'
  |_=>false
 |.yield i,b=>b.isYield i
 |.nilfunc,b=>b.isNilfunc
 |.iface t v,b=>match b with
  |.iface t' v'=>Nat.beq t t'&&V.beq v v'
  |_=>false
 |.niliface,b=>b.isNiliface
 |.agg l,b=>match b with
  |.agg l'=>V.beqs l l'
  |_=>false
 |.tup l,b=>match b with
  |.tup l'=>V.beqs l l'
  |_=>false
def V.beqs:List V→List V→Bool
 |[],l=>match l with
  |[]=>true
  |_::_=>false
 |a::xs,l=>match l with
  |[]=>false
  |b::ys=>match V.beq a b with
   |true=>V.beqs xs ys
   |false=>false
end
mutual
theorem V.beq_eq:∀(a b:V),V.beq a b=true→a=b
 |.bool x,b,h=>by cases b<;>simp only[V.beq,V.isBool,Yry]at h;rw[Znq h]
 |.int k n,b,h=>by
  cases b<;>simp only[V.beq,V.isInt,Yry]at h
  split at h
  ·rename_i e;rw[Ykq e,Yfq h]
  ·cases h
 |.flt k n,b,h=>by
  cases b<;>simp only[V.beq,V.isFlt,Yry]at h
  split at h
  ·rename_i e;rw[Ykw e,Za4 h]
  ·cases h
 |.str s,b,h=>by cases b<;>simp only[V.beq,V.isStr,Yry]at h;rw[Zpd h]
 |.nilptr,b,h=>by cases b<;>simp only[V.beq,V.isNilptr,Yry]at h;rfl
 |.ptr i o,b,h=>by
  cases b<;>simp only[V.beq,V.isPtr,Yry]at h
  split at h
  ·rename_i e;rw[Za4 e,Za4 h]
  ·cases h
 |.nilslice,b,h=>by cases b<;>simp only[V.beq,V.isNilslice,Yry]at h;rfl
 |.slice i o l c z,b,h=>by
  cases b<;>simp only[V.beq,V.isSlice,Yry,Yr6]at h
  obtain⟨⟨⟨⟨h1,h2⟩,h3⟩,h4⟩,h5⟩:=h
  rw[Za4 h1,Za4 h2,Za4 h3,Zmw h4,Za4 h5]
 |.empty,b,h=>by cases b<;>simp only[V.beq,V.isEmpty,Yry]at h;rfl
 |.nilmap,b,h=>by cases b<;>simp only[V.beq,V.isNilmap,Yry]at h;rfl
 |.map i,b,h=>by cases b<;>simp only[V.beq,V.isMap,Yry]at h;rw[Za4 h]
 |.nilchan,b,h=>by cases b<;>simp only[V.beq,V.isNilchan,Yry]at h;rfl
 |.chan i,b,h=>by cases b<;>simp only[V.beq,V.isChan,Yry]at h;rw[Za4 h]
 |.func f a c,b,h=>by
  cases b<;>simp only[V.beq,Yry,Yr6]at h
  obtain⟨⟨h1,h2⟩,h3⟩:=h
  rw[Za4 h1,V.beqs_eq _ _ h2,V.beqs_eq _ _ h3]
 |.yield i,b,h=>by cases b<;>simp only[V.beq,V.isYield,Yry]at h;rw[Za4 h]
 |.nilfunc,b,h=>by cases b<;>simp only[V.beq,V.isNilfunc,Yry]at h;rfl
 |.iface t v,b,h=>by
  cases b<;>simp only[V.beq,Yry,Yr6]at h
  rw[Za4 h.1,V.beq_eq _ _ h.2]
 |.niliface,b,h=>by cases b<;>simp only[V.beq,V.isNiliface,Yry]at h;rfl
 |.agg l,b,h=>by cases b<;>simp only[V.beq,Yry]at h;rw[V.beqs_eq _ _ h]
 |.tup l,b,h=>by cases b<;>simp only[V.beq,Yry]at h;rw[V.beqs_eq _ _ h]
theorem V.beqs_eq:∀(a b:List V),V.beqs a b=true→a=b
 |[],[],_=>rfl
 |[],_::_,h=>by simp[V.beqs]at h
 |_::_,[],h=>by simp[V.beqs]at h
 |a::xs,b::ys,h=>by
  simp only[V.beqs]at h
  split at h
  ·rename_i e;rw[V.beq_eq a b e,V.beqs_eq xs ys h]
  ·cases h
end
def Yl9:List (V×V)→List (V×V)→Bool
 |[],l=>match l with
  |[]=>true
  |_::_=>false
 |(k,v)::xs,l=>match l with
  |[]=>false
  |(k',v')::ys=>V.beq k k'&&V.beq v v'&&Yl9 xs ys
theorem Ych:∀{a b:List (V×V)},Yl9 a b=true→a=b
 |[],[],_=>rfl
 |[],_::_,h=>by simp[Yl9]at h
 |_::_,[],h=>by simp[Yl9]at h
 |(k,v)::xs,(k',v')::ys,h=>by
  simp only[Yl9,Yr6]at h
  rw[V.beq_eq _ _ h.1.1,V.beq_eq _ _ h.1.2,Ych h.2]
def O.beq:O→O→Bool
 |.cells c e rw,b=>match b with
  |.cells c' e' rw'=>Nat.beq e e'&&Zsg rw rw'&&V.beqs c c'
  |_=>false
 |.map es,b=>match b with
  |.map es'=>Yl9 es es'
  |_=>false
 |.chan cap buf,b=>match b with
  |.chan cap' buf'=>Nat.beq cap cap'&&V.beqs buf buf'
  |_=>false
 |.siter s pos,b=>match b with
  |.siter s' pos'=>Zsz s s'&&Nat.beq pos pos'
  |_=>false
 |.defs o,b=>match b with
  |.defs o'=>Zsg o o'
  |_=>false
 |.loop _,_=>false
 |.dead,b=>match b with
  |.dead=>true
  |_=>false
theorem O.beq_eq{a b:O}(h:O.beq a b=true):a=b:=by
 cases a<;>simp only[O.beq,Yry]at h<;>cases b<;>simp only[Yry,Yr6]at h
 ·obtain⟨⟨h1,h2⟩,h3⟩:=h;rw[Za4 h1,Znq h2,V.beqs_eq _ _ h3]
 ·rw[Ych h]
 ·rw[Za4 h.1,V.beqs_eq _ _ h.2]
 ·rw[Zpd h.1,Za4 h.2]
 ·rw[Znq h]
 ·rfl
def oEq:Option O→O→Bool
 |some a,b=>O.beq a b
 |none,_=>false
theorem Yap{a:Option O}{b:O}(h:oEq a b=true):a=some b:=by
 cases a with
 |none=>cases h
 |some a=>rw[O.beq_eq h]
def vEq:Option V→V→Bool
 |some a,b=>V.beq a b
 |none,_=>false
theorem Ymg{a:Option V}{b:V}(h:vEq a b=true):a=some b:=by
 cases a with
 |none=>cases h
 |some a=>rw[V.beq_eq _ _ h]
def Yn8:Option (List V)→List V→Bool
 |some a,b=>V.beqs a b
 |none,_=>false
theorem Zst{a:Option (List V)}{b:List V}(h:Yn8 a b=true):a=some b:=by
 cases a with
 |none=>cases h
 |some a=>rw[V.beqs_eq _ _ h]
mutual
def V.free:V→Bool
 |.ptr ..|.slice ..|.map _|.chan _|.yield _=>false
 |.func _ a c=>V.frees a&&V.frees c
 |.iface _ v=>V.free v
 |.agg l=>V.frees l
 |.tup l=>V.frees l
 |_=>true
def V.frees:List V→Bool
 |[]=>true
 |v::vs=>V.free v&&V.frees vs
end
mutual
theorem V.free_ren{ρ:Nat→Option Nat}:∀(v:V),V.free v=true→V.ren ρ v=some v
 |.bool _,_=>rfl
 |.int _ _,_=>rfl
 |.flt _ _,_=>rfl
 |.str _,_=>rfl
 |.nilptr,_=>rfl
 |.ptr _ _,h=>by simp[V.free]at h
 |.nilslice,_=>rfl
 |.slice _ _ _ _ _,h=>by simp[V.free]at h
 |.empty,_=>rfl
 |.nilmap,_=>rfl
 |.map _,h=>by simp[V.free]at h
 |.nilchan,_=>rfl
 |.chan _,h=>by simp[V.free]at h
 |.func f a c,h=>by
  simp only[V.free,Yr6]at h
  simp only[V.ren,V.frees_ren a h.1,V.frees_ren c h.2]
 |.yield _,h=>by simp[V.free]at h
 |.nilfunc,_=>rfl
 |.iface t v,h=>by
  simp only[V.free]at h
  simp only[V.ren,V.free_ren v h]
 |.niliface,_=>rfl
 |.agg l,h=>by
  simp only[V.free]at h
  simp only[V.ren,V.frees_ren l h]
 |.tup l,h=>by
  simp only[V.free]at h
  simp only[V.ren,V.frees_ren l h]
theorem V.frees_ren{ρ:Nat→Option Nat}:∀(l:List V),V.frees l=true→V.rens ρ l=some l
 |[],_=>rfl
 |v::vs,h=>by
  simp only[V.frees,Yr6]at h
  simp only[V.rens,V.free_ren v h.1,V.frees_ren vs h.2]
end
def Zlj:Nat→T O
 |0=>.nil
 |n+1=>(Zlj n).set n .dead
theorem Zj5:∀(n i:Nat),i<n→(Zlj n).get i=some .dead
 |0,i,h=>by omega
 |n+1,i,h=>by
  simp only[Zlj,T.get_set]
  by_cases e:i=n
  ·rw[Yru e]
  ·rw[Yrq e];exact Zj5 n i (by omega)
def base(G:Nat):St:=⟨Zlj G,G,[]⟩
def lk:List (Nat×O)→Nat→Option O
 |[],_=>none
 |(j,o)::l,i=>match Nat.beq j i with
  |true=>some o
  |false=>lk l i
def Zd7(h:T O):List (Nat×O)→T O
 |[]=>h
 |(j,o)::l=>(Zd7 h l).set j o
theorem Zce(h:T O):∀(l:List (Nat×O)) (i:Nat),(Zd7 h l).get i=match lk l i with|some o=>some o|none=>h.get i
 |[],i=>rfl
 |(j,o)::l,i=>by
  simp only[Zd7,T.get_set,lk]
  by_cases e:i=j
  ·subst e
   rw[Yru rfl,Nat.beq_refl _]
  ·rw[Yrq e]
   have:Nat.beq j i=false:=by
    cases hb:Nat.beq j i with
    |false=>rfl
    |true=>exact absurd (Yvh hb).symm e
   rw[this]
   exact Zce h l i
theorem Zrl:∀{l:List (Nat×O)} {i:Nat} {o:O},lk l i=some o→(i,o)∈l
 |(j,o')::l,i,o,h=>by
  simp only[lk]at h
  split at h
  ·rename_i e
   have:=Za4 e
   simp only[Yro]at h
   subst h;subst this;exact Ysj
  ·exact Ysh _ (Zrl h)
theorem Ybn:∀{l:List (Nat×O)} {i:Nat},lk l i=none→∀p∈l,p.1≠i
 |[],_,_,p,hp=>by cases hp
 |(j,o')::l,i,h,p,hp=>by
  simp only[lk]at h
  split at h
  ·cases h
  ·rename_i e
   rcases Yss.1 hp with rfl|hp
   ·intro hc
    simp only at hc
    subst hc
    have:Nat.beq j j=true:=Nat.beq_refl _
    rw[this]at e;cases e
   ·exact Ybn h p hp
theorem Ykh{l:List (Nat×O)}{i:Nat}{o:O}(h:(i,o)∈l):∃o',lk l i=some o':=by
 cases hc:lk l i with
 |some o'=>exact⟨o',rfl⟩
 |none=>exact absurd rfl (Ybn hc _ h)
def Ykb(i:Nat):List Nat→Bool
 |[]=>false
 |j::l=>match Nat.beq j i with
  |true=>true
  |false=>Ykb i l
theorem Zjw{i:Nat}:∀{l:List Nat},Ykb i l=true↔i∈l
 |[]=>by simp[Ykb]
 |j::l=>by
  simp only[Ykb]
  split
  ·rename_i e;simp[Za4 e]
  ·rename_i e
   have:i≠j:=by
    rintro rfl
    have:Nat.beq i i=true:=Nat.beq_refl _
    rw[this]at e;cases e
   simp[Zjw,this]
structure Zl0 where
 f:Nat
 args:List V
 v:V
def O.tab:O→Bool
 |.cells c _ false=>V.frees c
 |_=>false
def Zqp(G:Nat):List (Nat×O)→Bool
 |[]=>true
 |(i,o)::l=>Nat.blt i G&&o.tab&&Zqp G l
theorem O.tab_ren{ρ:Nat→Option Nat}{o:O}(h:o.tab=true):o.ren ρ=some o:=by
 cases o with
 |cells c e rw=>
  cases rw with
  |true=>cases h
  |false=>simp only[O.ren,V.frees_ren c h]
 |_=>cases h
theorem Zmb{G:Nat}:∀{l:List (Nat×O)},Zqp G l=true→∀{i:Nat} {o:O},lk l i=some o→i<G∧o.tab=true
 |(j,o')::l,h,i,o,ho=>by
  simp only[Zqp,Yr6]at h
  simp only[lk]at ho
  split at ho
  ·rename_i e
   simp only[Yro]at ho
   rw[←Za4 e,←ho]
   exact⟨Yt7 (Ysr h.1.1),h.1.2⟩
  ·exact Zmb h.2 ho
def Zsh(G:Nat)(tb:List (Nat×O)):St:=⟨Zd7 (Zlj G) tb,G,[]⟩
def Zk5(S:St):List (Nat×O)→Bool
 |[]=>true
 |(i,o)::l=>match oEq (S.h.get i) o with
  |true=>Zk5 S l
  |false=>false
theorem Zkp{S:St}:∀{l:List (Nat×O)},Zk5 S l=true→∀p∈l,S.h.get p.1=some p.2
 |[],_,p,hp=>by cases hp
 |(i,o)::l,h,p,hp=>by
  simp only[Zk5]at h
  split at h
  ·rename_i e
   rcases Yss.1 hp with rfl|hp
   ·exact Yap e
   ·exact Zkp h p hp
  ·cases h
def Zl0.ok(e:Zl0)(tb:List (Nat×O))(G:Nat)(call:Za3):Bool:=
 match call (.func e.f [] []) e.args (Zsh G tb)with
 |some (v,s)=>match s.w with
  |[]=>V.beq v e.v&&V.free e.v&&V.frees e.args&&Nat.ble G s.n&&Zqp G tb
  |_=>false
 |none=>false
def Ypw(P:Program)(tb:List (Nat×O))(e:Zl0):Prop:=∀S,Zk5 S tb=true→Zy3 P (.func e.f [] []) e.args S e.v S
theorem Zl0.pure{call:Za3}(hc:Zbx P call){tb:List (Nat×O)}{e:Zl0}(h:e.ok tb P.globals.size call=true):Ypw P tb e:=by
 unfold Zl0.ok at h
 split at h
 ·rename_i v s hcall
  split at h
  ·rename_i hw
   simp only[Yr6]at h
   obtain⟨⟨⟨⟨h1,h2⟩,h3⟩,h4⟩,h5⟩:=h
   have hv:=V.beq_eq _ _ h1
   subst hv
   intro S hpart μ w Gv xs hh hG hx
   have hpart:=Zkp hpart
   have hn:P.globals.size≤S.n:=by
    apply Yto
    intro hlt
    obtain⟨t,ht⟩:=hh.glob S.n hlt
    have:=(hh.dom _ _ ht).1
    omega
   have F:Znw P (fun i=>if i<P.globals.size then some i else none) (fun i=>if i<P.globals.size then some i else none) [] (Zsh P.globals.size tb) s S S:={
    dom:=fun i i' hi=>by
     split at hi
     ·rename_i hlt;simp only[Yro]at hi;subst hi
      exact⟨hlt,by omega⟩
     ·cases hi
    inj:=fun i j i' hi hj=>by
     split at hi<;>split at hj<;>simp_all
    glob:=fun g hg=>by simp[hg]
    obj:=fun i i' hi=>by
     split at hi
     ·rename_i hlt
      simp only[Yro]at hi;subst hi
      cases hl:lk tb i with
      |some o=>
       refine⟨o,o,?_,.inr (.inl (O.tab_ren (Zmb h5 hl).2)),.inl (hpart _ (Zrl hl))⟩
       show (Zd7 (Zlj P.globals.size) tb).get i=_
       rw[Zce,hl]
      |none=>
       refine⟨.dead,.dead,?_,.inl rfl,.inr rfl⟩
       show (Zd7 (Zlj P.globals.size) tb).get i=_
       rw[Zce,hl]
       exact Zj5 _ _ hlt
     ·cases hi
    old:=fun _ _=>rfl
    new:=fun i i' hi hr=>by
     have:P.globals.size≤i:=hi
     rw[Yrq (by omega)]at hr;cases hr
    ninj:=fun i j i' hi _ hr _=>by
     have:P.globals.size≤i:=hi
     rw[Yrq (by omega)]at hr;cases hr
    full:=fun i' h1 h2=>by omega
    nle:=Yrr _
    w0:=rfl
    W1:=fun i i' hi _=>by rw[hw]at hi;cases hi
    W2:=fun j hj=>by cases hj
    wl:=rfl
    keep:=fun _ _ _=>rfl
    wr:=fun i i' hi _=>by rw[hw]at hi;cases hi
    obn:=fun i i' hi hr=>by
     have:P.globals.size≤i:=hi
     rw[Yrq (by omega)]at hr;cases hr}
   exact(Zy3.frame (hc _ _ _ _ _ hcall) F (V.free_ren _ (by rfl)) (V.frees_ren _ h3) (V.free_ren _ h2)) μ w Gv xs hh hG hx
  ·cases h
 ·cases h
def Zw5:List Zl0→Nat→List V→Option V
 |[],_,_=>none
 |e::l,f,args=>match Nat.beq e.f f with
  |true=>match V.beqs e.args args with
   |true=>some e.v
   |false=>Zw5 l f args
  |false=>Zw5 l f args
def Zw6(tb:List (Nat×O))(l:List Zl0):Za3
 |.func f [] [],args,st=>match Zw5 l f args with
  |some v=>match Zk5 st tb with
   |true=>some (v,st)
   |false=>none
  |none=>none
 |_,_,_=>none
theorem Zmn:∀{l:List Zl0} {f:Nat} {args:List V} {v:V},Zw5 l f args=some v→∃e∈l,e.f=f∧e.args=args∧e.v=v
 |[],_,_,_,h=>by cases h
 |e::l,f,args,v,h=>by
  simp only[Zw5]at h
  split at h
  ·rename_i e1
   split at h
   ·rename_i e2
    simp only[Yro]at h
    exact⟨e,Ysj,Za4 e1,V.beqs_eq _ _ e2,h⟩
   ·obtain⟨e',h1,h2⟩:=Zmn h;exact⟨e',Ysh _ h1,h2⟩
  ·obtain⟨e',h1,h2⟩:=Zmn h;exact⟨e',Ysh _ h1,h2⟩
theorem Zvb{tb:List (Nat×O)}{l:List Zl0}(h:∀e∈l,Ypw P tb e):Zbx P (Zw6 tb l):=by
 intro g args st v st' hc
 unfold Zw6 at hc
 split at hc
 ·rename_i f
  split at hc
  ·rename_i u hu
   split at hc
   ·rename_i hp
    simp only[Yro,Yrs]at hc
    obtain⟨rfl,rfl⟩:=hc
    obtain⟨e,h1,rfl,rfl,rfl⟩:=Zmn hu
    exact h e h1 st hp
   ·cases hc
  ·cases hc
 ·cases hc
structure Ent where
 f:Nat
 first:List V
 caps:List V
 args:List V
 part:List (Nat×O)
 n:Nat
 v:V
 kept:List (Nat×O)
 wrs:List (Nat×O)
def Ent.st(e:Ent)(G:Nat):St:=⟨Zd7 (Zlj G) e.part,e.n,[]⟩
def sig(G:Nat)(part:List (Nat×O))(i:Nat):Option Nat:=
 match Nat.blt i G with
 |true=>some i
 |false=>match lk part i with
  |some _=>some i
  |none=>none
def idx(i:Nat):List (Nat×O)→Nat→Option Nat
 |[],_=>none
 |(k,_)::l,m=>match Nat.beq k i with
  |true=>some m
  |false=>idx i l (m+1)
def rho(G:Nat)(part:List (Nat×O))(n:Nat)(kept:List (Nat×O))(i:Nat):Option Nat:=
 match Nat.blt i n with
 |true=>sig G part i
 |false=>idx i kept n
def Zgb:List (Nat×O)→Nat→List (Nat×O)
 |[],_=>[]
 |(_,o)::l,m=>(m,o)::Zgb l (m+1)
def Zxa(ρ:Nat→Option Nat)(s:St)(i:Nat)(o':O):Bool:=
 match s.h.get i with
 |some o=>match o' with
  |.dead=>true
  |o'=>oEq (o.ren ρ) o'
 |none=>false
def Zvs(ρ:Nat→Option Nat)(s:St)(n:Nat):List (Nat×O)→Nat→Bool
 |[],_=>true
 |(k,o)::l,m=>Zq6 (ρ k) (some m)&&Nat.ble n k&&Nat.blt k s.n&&Zxa ρ s k o&&Zvs ρ s n l (m+1)
def Ent.chk(e:Ent)(G:Nat)(v:V)(s:St):Bool:=
 Nat.ble G e.n&&Nat.ble e.n s.n&&(e.part.all fun p=>Nat.blt p.1 e.n&&oEq (p.2.ren (sig G e.part)) p.2)&&
 Yn8 (V.rens (sig G e.part) e.first) e.first&&Yn8 (V.rens (sig G e.part) e.caps) e.caps&&Yn8 (V.rens (sig G e.part) e.args) e.args&&
 vEq (V.ren (rho G e.part e.n e.kept) v) e.v&&
 Zvs (rho G e.part e.n e.kept) s e.n e.kept e.n&&
 (s.w.all fun i=>match sig G e.part i with|some _=>Ykb i (e.wrs.map (·.1))|none=>true)&&
 (e.wrs.all fun p=>Ykb p.1 s.w&&Zq6 (sig G e.part p.1) (some p.1)&&Zxa (rho G e.part e.n e.kept) s p.1 p.2)
def Ent.ok(e:Ent)(G:Nat)(call:Za3):Bool:=
 match call (.func e.f e.first e.caps) e.args (e.st G)with
 |some (v,s)=>e.chk G v s
 |none=>false
def Ent.out(e:Ent)(S:St):St:=⟨Zd7 (Zd7 S.h e.wrs) (Zgb e.kept e.n),e.n+e.kept.length,e.wrs.map (·.1)++S.w⟩
def Zna(e:Ent):Za3
 |.func f a c,args,S=>match Nat.beq e.f f with
  |true=>match V.beqs e.args args&&V.beqs e.first a&&V.beqs e.caps c&&Nat.beq S.n e.n&&Zk5 S e.part with
   |true=>some (e.v,e.out S)
   |false=>none
  |false=>none
 |_,_,_=>none
theorem Zjz{i:Nat}:∀{l:List (Nat×O)} {m i':Nat},idx i l m=some i'→m≤i'∧i'<m+l.length∧∃o,l[i'-m]?=some (i,o)
 |[],m,i',h=>by cases h
 |(k,o)::l,m,i',h=>by
  simp only[idx]at h
  split at h
  ·rename_i e
   simp only[Yro]at h;subst h
   have:=Za4 e;subst this
   exact⟨Yrr _,by simp,o,by simp⟩
  ·obtain⟨h1,h2,o',h3⟩:=Zjz h
   refine⟨by omega,by simp;omega,o',?_⟩
   rw[show i'-m=(i'-(m+1))+1 by omega]
   simpa using h3
theorem Zop:∀{l:List (Nat×O)} {m j:Nat} {p:Nat×O},l[j]?=some p→lk (Zgb l m) (m+j)=some p.2
 |[],m,j,p,h=>by simp at h
 |(k,o)::l,m,0,p,h=>by
  simp at h;subst h
  simp[Zgb,lk]
 |(k,o)::l,m,j+1,p,h=>by
  simp only[Zgb,lk]
  have:Nat.beq m (m+(j+1))=false:=by
   cases hb:Nat.beq m (m+(j+1))with
   |false=>rfl
   |true=>have:=Za4 hb;omega
  rw[this,show m+(j+1)=(m+1)+j by omega]
  exact Zop (by simpa using h)
theorem Zk7:∀{l:List (Nat×O)} {m i:Nat},i<m→lk (Zgb l m) i=none
 |[],_,_,_=>rfl
 |(k,o)::l,m,i,h=>by
  simp only[Zgb,lk]
  have:Nat.beq m i=false:=by
   cases hb:Nat.beq m i with
   |false=>rfl
   |true=>have:=Za4 hb;omega
  rw[this]
  exact Zk7 (by omega)
theorem Zot{ρ:Nat→Option Nat}{s:St}{n:Nat}:∀{l:List (Nat×O)} {m:Nat},Zvs ρ s n l m=true→∀{j:Nat} {p:Nat×O},l[j]?=some p→ρ p.1=some (m+j)∧n≤p.1∧p.1<s.n∧Zxa ρ s p.1 p.2=true
 |[],m,_,j,p,h=>by simp at h
 |(k,o)::l,m,h,j,p,hj=>by
  simp only[Zvs,Yr6]at h
  obtain⟨⟨⟨⟨h1,h2⟩,h3⟩,h4⟩,h5⟩:=h
  cases j with
  |zero=>
   simp at hj;subst hj
   exact⟨Zmw h1,Ysr h2,Yt7 (Ysr h3),h4⟩
  |succ j=>
   obtain⟨q1,q2⟩:=Zot h5 (j:=j) (by simpa using hj)
   exact⟨by rw[q1];congr 1;omega,q2⟩
theorem Zoo{ρ:Nat→Option Nat}{s:St}{o':O}(h:Zxa ρ s i o'=true):∃o,s.h.get i=some o∧(o'=.dead∨o.ren ρ=some o'):=by
 unfold Zxa at h
 split at h
 ·rename_i o ho
  refine⟨o,ho,?_⟩
  split at h
  ·exact .inl rfl
  ·exact .inr (Yap h)
 ·cases h
theorem Zhq{part:List (Nat×O)}{i':Nat}(h:sig G part i=some i'):i'=i∧(i<G∨∃o,lk part i=some o):=by
 unfold sig at h
 split at h
 ·rename_i e
  simp only[Yro]at h
  exact⟨h.symm,.inl (Yt7 (Ysr e))⟩
 ·split at h
  ·rename_i o ho
   simp only[Yro]at h
   exact⟨h.symm,.inr ⟨o,ho⟩⟩
  ·cases h
theorem Zyo{call:Za3}(hcall:Zbx P call){e:Ent}(h:e.ok P.globals.size call=true):Zbx P (Zna e):=by
 intro g args S v S' hc
 unfold Zna at hc
 split at hc
 ·rename_i f a c
  split at hc
  ·rename_i hf
   have hf:=Za4 hf
   subst hf
   split at hc
   ·rename_i hcond
    simp only[Yr6]at hcond
    obtain⟨⟨⟨⟨c1,c2⟩,c3⟩,c4⟩,c5⟩:=hcond
    have c1:=V.beqs_eq _ _ c1
    have c2:=V.beqs_eq _ _ c2
    have c3:=V.beqs_eq _ _ c3
    have c4:=Za4 c4
    have c5:=Zkp c5
    simp only[Yro,Yrs]at hc
    obtain⟨rfl,rfl⟩:=hc
    subst c1;subst c2;subst c3
    unfold Ent.ok at h
    split at h
    ·rename_i v0 s hrun
     unfold Ent.chk at h
     simp only[Yr6,Ysu]at h
     obtain⟨⟨⟨⟨⟨⟨⟨⟨⟨k1,k2⟩,k3⟩,k4⟩,k5⟩,k6⟩,k7⟩,k8⟩,k9⟩,k10⟩:=h
     have k1:=Ysr k1
     have k2:=Ysr k2
     have hpart:∀i o,lk e.part i=some o→i<e.n∧o.ren (sig P.globals.size e.part)=some o∧S.h.get i=some o:=fun i o ho=>by
      have hm:=Zrl ho
      obtain⟨q1,q2⟩:=k3 _ hm
      exact⟨Yt7 (Ysr q1),Yap q2,c5 _ hm⟩
     have hρn:∀i,e.n≤i→rho P.globals.size e.part e.n e.kept i=idx i e.kept e.n:=fun i hi=>by
      unfold rho
      have:Nat.blt i e.n=false:=by
       cases hb:Nat.blt i e.n with
       |false=>rfl
       |true=>have:=Yt7 (Ysr hb);omega
      rw[this]
     have hkept:∀j p,e.kept[j]?=some p→rho P.globals.size e.part e.n e.kept p.1=some (e.n+j)∧e.n≤p.1∧p.1<s.n∧Zxa (rho P.globals.size e.part e.n e.kept) s p.1 p.2=true:=fun j p hj=>Zot k8 hj
     have hlkn:∀j,j<e.n→(e.out S).h.get j=match lk e.wrs j with|some o=>some o|none=>S.h.get j:=fun j hj=>by
      show (Zd7 (Zd7 S.h e.wrs) (Zgb e.kept e.n)).get j=_
      rw[Zce,Zk7 hj,Zce]
     have F:Znw P (sig P.globals.size e.part) (rho P.globals.size e.part e.n e.kept) (e.wrs.map (·.1)) (e.st P.globals.size) s S (e.out S):={
      dom:=fun i i' hi=>by
       obtain⟨rfl,hor⟩:=Zhq hi
       have:i'<e.n:=by
        rcases hor with h|⟨o,ho⟩
        ·omega
        ·exact(hpart _ _ ho).1
       exact⟨this,by omega⟩
      inj:=fun i j i' hi hj=>by rw[←(Zhq hi).1,←(Zhq hj).1]
      glob:=fun g hg=>by
       unfold sig
       have:Nat.blt g P.globals.size=true:=Yvj hg
       rw[this]
      obj:=fun i i' hi=>by
       obtain⟨rfl,hor⟩:=Zhq hi
       cases hl:lk e.part i' with
       |some o=>
        obtain⟨q1,q2,q3⟩:=hpart _ _ hl
        refine⟨o,o,?_,.inr (.inl q2),.inl q3⟩
        show (Zd7 (Zlj P.globals.size) e.part).get i'=_
        rw[Zce,hl]
       |none=>
        have hg:i'<P.globals.size:=by
         rcases hor with h|⟨o,ho⟩
         ·exact h
         ·rw[hl]at ho;cases ho
        refine⟨.dead,.dead,?_,.inl rfl,.inr rfl⟩
        show (Zd7 (Zlj P.globals.size) e.part).get i'=_
        rw[Zce,hl]
        exact Zj5 _ _ hg
      old:=fun i hi=>by
       have:Nat.blt i e.n=true:=Yvj hi
       unfold rho;rw[this]
      new:=fun i i' hi hr=>by
       rw[hρn i hi]at hr
       obtain⟨q1,q2,o,q3⟩:=Zjz hr
       obtain⟨_,_,r3,_⟩:=hkept _ _ q3
       exact⟨by omega,q2,r3⟩
      ninj:=fun i j i' hi hj hri hrj=>by
       rw[hρn i hi]at hri
       rw[hρn j hj]at hrj
       obtain⟨_,_,o,q3⟩:=Zjz hri
       obtain⟨_,_,o',q3'⟩:=Zjz hrj
       rw[q3]at q3'
       cases q3';rfl
      full:=fun i' h1 h2=>by
       have h2':i'<e.n+e.kept.length:=h2
       obtain⟨p,hp⟩:∃p,e.kept[i'-e.n]?=some p:=⟨_,Yrt (by omega)⟩
       obtain⟨r1,r2,_,_⟩:=hkept _ _ hp
       exact⟨p.1,r2,by rw[r1];congr 1;omega⟩
      nle:=by show S.n≤e.n+e.kept.length;omega
      w0:=rfl
      W1:=fun i i' hi hs=>by
       obtain⟨rfl,_⟩:=Zhq hs
       have:=k9 _ hi
       rw[hs]at this
       exact Zjw.1 this
      W2:=fun j hj=>by
       obtain⟨p,hp,rfl⟩:=Ysv.1 hj
       obtain⟨⟨q1,q2⟩,_⟩:=k10 _ hp
       exact⟨p.1,Zjw.1 q1,Zmw q2⟩
      wl:=rfl
      keep:=fun j hj hn=>by
       rw[hlkn j (by omega)]
       cases hl:lk e.wrs j with
       |none=>rfl
       |some o=>exact absurd (Ysv.2 ⟨_,Zrl hl,rfl⟩) hn
      wr:=fun i i' hi hs=>by
       obtain⟨rfl,hor⟩:=Zhq hs
       have hlt:i'<e.n:=by
        rcases hor with h|⟨o,ho⟩
        ·omega
        ·exact(hpart _ _ ho).1
       have:=k9 _ hi
       rw[hs]at this
       obtain⟨p,hp,hpe⟩:=Ysv.1 (Zjw.1 this)
       obtain⟨o',ho'⟩:=Ykh (l:=e.wrs) (i:=i') (o:=p.2) (by rw[←hpe];exact hp)
       obtain⟨_,q3⟩:=k10 _ (Zrl ho')
       obtain⟨o,r1,r2⟩:=Zoo q3
       exact⟨o,o',r1,by rw[hlkn _ hlt,ho'],r2⟩
      obn:=fun i i' hi hr=>by
       rw[hρn i hi]at hr
       obtain⟨q1,q2,o,q3⟩:=Zjz hr
       obtain⟨_,_,_,r4⟩:=hkept _ _ q3
       obtain⟨o2,t1,t2⟩:=Zoo r4
       refine⟨o2,o,t1,?_,t2⟩
       show (Zd7 (Zd7 S.h e.wrs) (Zgb e.kept e.n)).get i'=_
       have:=Zop (m:=e.n) q3
       rw[show e.n+(i'-e.n)=i' by omega]at this
       rw[Zce,this]}
     refine Zy3.frame (hcall _ _ _ _ _ hrun) F ?_ (Zst k6) (Ymg k7)
     simp only[V.ren,Zst k4,Zst k5]
    ·cases h
   ·cases hc
  ·cases hc
 ·cases hc
def Zgp(x:Za3)(tbl:Nat→Option Zee)(fuel:Nat):Nat→Za3
 |0=>x
 |d+1=>Zd9 x (Zcn tbl (Zbi (Zgp x tbl fuel d) fuel))
theorem Zjx{P:Program}{tbl:Nat→Option Zee}(hm:P.follows .mixedOrders=true)(hE:Zek P)(ht:Zut P tbl){x:Za3}(hx:Zbx P x)(fuel:Nat):∀d,Zbx P (Zgp x tbl fuel d)
 |0=>hx
 |d+1=>by
  have ih:=Zjx hm hE ht hx fuel d
  exact hx.or (Zuk ht (Yc5 ih hE (Yck hm hE ih) (Yhg ih hE) (Zu6 ih) fuel))
def Yf5:List Ent→Nat→List V→List V→List V→St→Option (V×St)
 |[],_,_,_,_,_=>none
 |e::l,f,a,c,args,S=>match Nat.beq e.f f with
  |true=>match Zna e (.func f a c) args S with
   |some r=>some r
   |none=>Yf5 l f a c args S
  |false=>Yf5 l f a c args S
def Yk1(l:List Ent):Za3
 |.func f a c,args,S=>Yf5 l f a c args S
 |_,_,_=>none
theorem Yf6{l:List Ent}(h:∀e∈l,Zbx P (Zna e)):Zbx P (Yk1 l):=by
 intro g args S v S' hc
 unfold Yk1 at hc
 split at hc
 ·rename_i f a c
  induction l with
  |nil=>cases hc
  |cons e l ih=>
   simp only[Yf5]at hc
   split at hc
   ·split at hc
    ·rename_i r hr
     cases hc
     exact h e Ysj _ _ _ _ _ hr
    ·exact ih (fun e he=>h e (Ysh _ he)) hc
   ·exact ih (fun e he=>h e (Ysh _ he)) hc
 ·cases hc
def Zy7(tb:List (Nat×O))(L:List Zl0)(E:List Ent):Za3:=Zd9 (Zw6 tb L) (Yk1 E)
structure Zap (P:Program) (tb:List (Nat×O)) (L:List Zl0) (E:List Ent):Prop where
 p:∀e∈L,Ypw P tb e
 e:∀e∈E,Zbx P (Zna e)
theorem Zap.call{tb:List (Nat×O)}{L:List Zl0}{E:List Ent}(h:Zap P tb L E):Zbx P (Zy7 tb L E):=(Zvb h.p).or (Yf6 h.e)
theorem Zap.nil{tb:List (Nat×O)}:Zap P tb [] []:=⟨fun _ h=>(by cases h),fun _ h=>(by cases h)⟩
structure Zld (P:Program) (tbl:Nat→Option Zee) (G:Nat):Prop where
 m:P.follows .mixedOrders=true
 e:Zek P
 t:Zut P tbl
 g:P.globals.size=G
theorem Zap.addP{tbl:Nat→Option Zee}{fuel d:Nat}(hP:Zld P tbl G){tb:List (Nat×O)}{L:List Zl0}{E:List Ent}(h:Zap P tb L E){e:Zl0}(he:e.ok tb G (Zgp (Zy7 tb L E) tbl fuel d)=true):Zap P tb (e::L) E:=
 ⟨fun e' hm=>by
  rcases Yss.1 hm with rfl|hm
  ·exact Zl0.pure (Zjx hP.m hP.e hP.t h.call fuel d) (by rw[hP.g];exact he)
  ·exact h.p e' hm,h.e⟩
theorem Zap.addE{tbl:Nat→Option Zee}{fuel d:Nat}(hP:Zld P tbl G){tb:List (Nat×O)}{L:List Zl0}{E:List Ent}(h:Zap P tb L E){e:Ent}(he:e.ok G (Zgp (Zy7 tb L E) tbl fuel d)=true):Zap P tb L (e::E):=
 ⟨h.p,fun e' hm=>by
  rcases Yss.1 hm with rfl|hm
  ·exact Zyo (Zjx hP.m hP.e hP.t h.call fuel d) (by rw[hP.g];exact he)
  ·exact h.e e' hm⟩
def Yht(tb:List (Nat×O))(G:Nat)(tbl:Nat→Option Zee)(L:List Zl0)(E:List Ent):Bool:=match L with
 |[]=>false
 |e::t=>e.ok tb G (Zgp (Zy7 tb t E) tbl 5000 40)
def Yb7(tb:List (Nat×O))(G:Nat)(tbl:Nat→Option Zee)(L:List Zl0)(E:List Ent):Bool:=match E with
 |[]=>false
 |e::t=>e.ok G (Zgp (Zy7 tb L t) tbl 5000 40)
theorem Zap.p1{P:Program}{tbl:Nat→Option Zee}{G:Nat}(hP:Zld P tbl G){tb:List (Nat×O)}{L:List Zl0}{E:List Ent}(h:Zap P tb L.tail E)(he:Yht tb G tbl L E=true):Zap P tb L E:=by
 cases L with
 |nil=>exact h
 |cons e t=>exact Zap.addP hP h he
theorem Zap.e1{P:Program}{tbl:Nat→Option Zee}{G:Nat}(hP:Zld P tbl G){tb:List (Nat×O)}{L:List Zl0}{E:List Ent}(h:Zap P tb L E.tail)(he:Yb7 tb G tbl L E=true):Zap P tb L E:=by
 cases E with
 |nil=>exact h
 |cons e t=>exact Zap.addE hP h he
section
variable {call:Za3} {f:Nat} {ro:Option Nat} {a b c:Zae} {fr:Fr} {st:St}
end
theorem Ym3{a b:Nat}:Nat.blt a b=decide (a<b):=by
 cases h:Nat.blt a b
 ·symm;simp only[decide_eq_false_iff_not];intro hc;rw[show Nat.blt a b=true from Yvj hc]at h;cases h
 ·symm;simp only[decide_eq_true_eq];exact Yt7 (Ysr h)
theorem Ym4{a b:Nat}:Nat.ble a b=decide (a≤b):=by
 cases h:Nat.ble a b
 ·symm;simp only[decide_eq_false_iff_not];intro hc;rw[Yvj hc]at h;cases h
 ·symm;simp only[decide_eq_true_eq];exact Ysr h
theorem Zai{n:Int}(h1: -9223372036854775808≤n)(h2:n<9223372036854775808):Zar .i64 n=n:=by
 rw[Zdd]
 simp[IntKind.wrap,IntKind.bits,IntKind.signed]
 omega
theorem Zye{k a b}:Zdm .add k a b=some (.int k (Zar k (a+b))):=rfl
theorem Zx3{k a b}:Zdm .sub k a b=some (.int k (Zar k (a-b))):=rfl
theorem Zx8{k a b}:Zdm .mul k a b=some (.int k (Zar k (a*b))):=rfl
theorem Zx6{k a b}(h:¬b=0):Zdm .quo k a b=some (.int k (Zar k (a.tdiv b))):=by simp[Zdm,h]
theorem Zx5{k a b}(h:¬b=0):Zdm .rem k a b=some (.int k (a.tmod b)):=by simp[Zdm,h]
theorem Zyd{k a b}:Zdm .eql k a b=some (.bool (a==b)):=rfl
theorem Zx7{k a b}:Zdm .neq k a b=some (.bool (a !=b)):=rfl
theorem Zx9{k a b}:Zdm .lss k a b=some (.bool (decide (a<b))):=rfl
theorem Zya{k a b}:Zdm .leq k a b=some (.bool (decide (a≤b))):=rfl
theorem Zyb{k a b}:Zdm .gtr k a b=some (.bool (decide (a > b))):=rfl
theorem Zyc{k a b}:Zdm .geq k a b=some (.bool (decide (a≥b))):=rfl
theorem Yj3(x):mop (.mov x)=Zmr x:=rfl
theorem Ye9(a b c):mop (.pick a b c)=Zg1 a b c:=rfl
theorem Ya8(a b):mop (.alloc a b)=Zhx a b:=rfl
theorem Yj7(a b):mop (.box a b)=Zmu a b:=rfl
theorem Ya7(a b):mop (.build a b)=Zeo a b:=rfl
theorem Zxm(a b c d e):mop (.bslice a b c d e)=Ze3 a b c d e:=rfl
theorem Yfa(a b):mop (.load a b)=Zin a b:=rfl
theorem Yaz(a b c):mop (.store a b c)=Zfb a b c:=rfl
theorem Ya1(a):mop (.nilck a)=Zf7 a:=rfl
theorem Yj8(a b c d e):mop (.bin a b c d e)=Zmv a b c d e:=rfl
theorem Ym6(a b):mop (.un a b)=Ztg a b:=rfl
theorem Zt1(a b):mop (.convInt a b)=Zdx a b:=rfl
theorem Zxf(a b c):mop (.mkfunc a b c)=Ze1 a b c:=rfl
theorem Ya4(a b):mop (.faddr a b)=Zf9 a b:=rfl
theorem Ya3(a b c):mop (.field a b c)=Zf8 a b c:=rfl
theorem Zre(a b c d):mop (.iaddrArr a b c d)=Zb8 a b c d:=rfl
theorem Zty(a b c):mop (.iaddrSl a b c)=Zda a b c:=rfl
theorem Ztz(a b):mop (.extract a b)=Zdw a b:=rfl
theorem Yj4(a b):mop (.len a b)=Zfh a b:=rfl
theorem Yfc(a b):mop (.call a b)=Zei a b:=rfl
structure Yn7 (r:Option (V×St)) (v:V):Prop where
 ex:∃s,r=some (v,s)∧s.w=[]
theorem Zyh{u v:V}{s:St}:Yn7 (some (u,s)) v↔u=v∧s.w=[]:=
 ⟨fun ⟨_,h1,h2⟩=>by simp only[Yro,Yrs]at h1;exact⟨h1.1,h1.2▸h2⟩,fun ⟨h1,h2⟩=>⟨s,by rw[h1],h2⟩⟩
attribute [simp]
 Yj3 Ye9 Ya8 Yj7 Ya7 Zxm Yfa Yaz Ya1 Yj8 Ym6 Zt1 Zxf Ya4 Ya3 Zre Zty Ztz Yj4 Yfc
 Zmr Zg1 Zhx Zmu Zeo Ze3 Zin Zf7 Zmv Ztg Zdx Ze1 Zf9 Zf8 Zb8 Zdw Zei
 Zef wantedV Src.ev T.get_set resV Zqw Zac Yps Zye Zx3 Zx8 Zx6 Zx5 Zyd Zx7 Zx9 Zya Zyb Zyc Zbr unV Zh5 evOpt Zfe Zn2 Zam V.cells V.one St.alloc St.write St.row Zai Ym3 Ym4 Zfm Zcp MOp.silent Zvp apartOk Zav Zav.go Zav.chk FP.free Zpu Nat.testBit Zyh base
end Go.Mx

