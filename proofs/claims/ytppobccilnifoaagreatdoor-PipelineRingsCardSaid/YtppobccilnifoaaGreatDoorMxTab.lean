/-
  Calls that are known: a table of runs over small heaps stands in for the runs themselves.
-/
import Derived.Test.YtppobccilnifoaaGreatDoorMxDraw5
import Derived.Below
import Derived.CallsIn
set_option linter.all false
namespace Go.Mx
open Go
def boolEq:Bool→Bool→Bool
 |true,b=>b
 |false,true=>false
 |false,false=>true
def ikNum:IntKind→Nat
 |.i8=>0|.i16=>1|.i32=>2|.i64=>3|.u8=>4|.u16=>5|.u32=>6|.u64=>7
def intEq:Int→Int→Bool
 |.ofNat a,b=>match b with
  |.ofNat b=>Nat.beq a b
  |.negSucc _=>false
 |.negSucc a,b=>match b with
  |.ofNat _=>false
  |.negSucc b=>Nat.beq a b
def strEq:List UInt8→List UInt8→Bool
 |[],l=>match l with
  |[]=>true
  |_::_=>false
 |a::xs,l=>match l with
  |[]=>false
  |b::ys=>match Nat.beq a.toNat b.toNat with
   |true=>strEq xs ys
   |false=>false
def onatEq:Option Nat→Option Nat→Bool
 |none,b=>match b with
  |none=>true
  |some _=>false
 |some a,b=>match b with
  |none=>false
  |some b=>Nat.beq a b
theorem boolEq_eq{a b:Bool}(h:boolEq a b=true):a=b:=by cases a<;>cases b<;>simp_all [boolEq]
theorem natEq_eq{a b:Nat}(h:Nat.beq a b=true):a=b:=Nat.eq_of_beq_eq_true h
theorem ikEq_eq{a b:IntKind}(h:Nat.beq (ikNum a) (ikNum b)=true):a=b:=by cases a<;>cases b<;>first|rfl|(exact absurd h (by decide))
theorem intEq_eq{a b:Int}(h:intEq a b=true):a=b:=by
 cases a<;>cases b<;>simp only[intEq,Bool.false_eq_true]at h
 ·rw[natEq_eq h]
 ·rw[natEq_eq h]
theorem strEq_eq:∀{a b:List UInt8},strEq a b=true→a=b
 |[],[],_=>rfl
 |[],_::_,h=>by simp[strEq]at h
 |_::_,[],h=>by simp[strEq]at h
 |a::xs,b::ys,h=>by
  simp only[strEq]at h
  split at h
  ·rename_i e
   rw[strEq_eq h,UInt8.toNat_inj.1 (natEq_eq e)]
  ·cases h
theorem onatEq_eq{a b:Option Nat}(h:onatEq a b=true):a=b:=by
 cases a<;>cases b<;>simp only[onatEq,Bool.false_eq_true]at h
 ·rfl
 ·rw[natEq_eq h]
def fkNum:FloatKind→Nat
 |.f32=>0|.f64=>1
theorem fkEq_eq{a b:FloatKind}(h:Nat.beq (fkNum a) (fkNum b)=true):a=b:=by cases a<;>cases b<;>first|rfl|(exact absurd h (by decide))
def V.isBool(x:Bool):V→Bool|.bool y=>boolEq x y|_=>false
def V.isInt(k:IntKind)(n:Int):V→Bool|.int k' n'=>(match Nat.beq (ikNum k) (ikNum k')with|true=>intEq n n'|false=>false)|_=>false
def V.isFlt(k:FloatKind)(n:Nat):V→Bool|.flt k' n'=>(match Nat.beq (fkNum k) (fkNum k')with|true=>Nat.beq n n'|false=>false)|_=>false
def V.isStr(s:List UInt8):V→Bool|.str t=>strEq s t|_=>false
def V.isNilptr:V→Bool|.nilptr=>true|_=>false
def V.isPtr(i o:Nat):V→Bool|.ptr i' o'=>(match Nat.beq i i' with|true=>Nat.beq o o'|false=>false)|_=>false
def V.isNilslice:V→Bool|.nilslice=>true|_=>false
def V.isSlice(i o l:Nat)(c:Option Nat)(z:Nat):V→Bool|.slice i' o' l' c' z'=>Nat.beq i i'&&Nat.beq o o'&&Nat.beq l l'&&onatEq c c'&&Nat.beq z z'|_=>false
def V.isEmpty:V→Bool|.empty=>true|_=>false
def V.isNilmap:V→Bool|.nilmap=>true|_=>false
def V.isMap(i:Nat):V→Bool|.map j=>Nat.beq i j|_=>false
def V.isNilchan:V→Bool|.nilchan=>true|_=>false
def V.isChan(i:Nat):V→Bool|.chan j=>Nat.beq i j|_=>false
def V.isYield(i:Nat):V→Bool|.yield j=>Nat.beq i j|_=>false
def V.isNilfunc:V→Bool|.nilfunc=>true|_=>false
def V.isNiliface:V→Bool|.niliface=>true|_=>false
mutual
def V.beq:V→V→Bool
 |.bool x,b=>b.isBool x
 |.int k n,b=>b.isInt k n
 |.flt k n,b=>b.isFlt k n
 |.str s,b=>b.isStr s
 |.nilptr,b=>b.isNilptr
 |.ptr i o,b=>b.isPtr i o
 |.nilslice,b=>b.isNilslice
 |.slice i o l c z,b=>b.isSlice i o l c z
 |.empty,b=>b.isEmpty
 |.nilmap,b=>b.isNilmap
 |.map i,b=>b.isMap i
 |.nilchan,b=>b.isNilchan
 |.chan i,b=>b.isChan i
 |.func f a c,b=>match b with
  |.func f' a' c'=>Nat.beq f f'&&V.beqs a a'&&V.beqs c c'
  |_=>false
 |.yield i,b=>b.isYield i
 |.nilfunc,b=>b.isNilfunc
 |.iface t v,b=>match b with
  |.iface t' v'=>Nat.beq t t'&&V.beq v v'
  |_=>false
 |.niliface,b=>b.isNiliface
 |.agg l,b=>match b with
  |.agg l'=>V.beqs l l'
  |_=>false
 |.tup l,b=>match b with
  |.tup l'=>V.beqs l l'
  |_=>false
def V.beqs:List V→List V→Bool
 |[],l=>match l with
  |[]=>true
  |_::_=>false
 |a::xs,l=>match l with
  |[]=>false
  |b::ys=>match V.beq a b with
   |true=>V.beqs xs ys
   |false=>false
end
mutual
theorem V.beq_eq:∀(a b:V),V.beq a b=true→a=b
 |.bool x,b,h=>by cases b<;>simp only[V.beq,V.isBool,Bool.false_eq_true]at h;rw[boolEq_eq h]
 |.int k n,b,h=>by
  cases b<;>simp only[V.beq,V.isInt,Bool.false_eq_true]at h
  split at h
  ·rename_i e;rw[ikEq_eq e,intEq_eq h]
  ·cases h
 |.flt k n,b,h=>by
  cases b<;>simp only[V.beq,V.isFlt,Bool.false_eq_true]at h
  split at h
  ·rename_i e;rw[fkEq_eq e,natEq_eq h]
  ·cases h
 |.str s,b,h=>by cases b<;>simp only[V.beq,V.isStr,Bool.false_eq_true]at h;rw[strEq_eq h]
 |.nilptr,b,h=>by cases b<;>simp only[V.beq,V.isNilptr,Bool.false_eq_true]at h;rfl
 |.ptr i o,b,h=>by
  cases b<;>simp only[V.beq,V.isPtr,Bool.false_eq_true]at h
  split at h
  ·rename_i e;rw[natEq_eq e,natEq_eq h]
  ·cases h
 |.nilslice,b,h=>by cases b<;>simp only[V.beq,V.isNilslice,Bool.false_eq_true]at h;rfl
 |.slice i o l c z,b,h=>by
  cases b<;>simp only[V.beq,V.isSlice,Bool.false_eq_true,Bool.and_eq_true]at h
  obtain⟨⟨⟨⟨h1,h2⟩,h3⟩,h4⟩,h5⟩:=h
  rw[natEq_eq h1,natEq_eq h2,natEq_eq h3,onatEq_eq h4,natEq_eq h5]
 |.empty,b,h=>by cases b<;>simp only[V.beq,V.isEmpty,Bool.false_eq_true]at h;rfl
 |.nilmap,b,h=>by cases b<;>simp only[V.beq,V.isNilmap,Bool.false_eq_true]at h;rfl
 |.map i,b,h=>by cases b<;>simp only[V.beq,V.isMap,Bool.false_eq_true]at h;rw[natEq_eq h]
 |.nilchan,b,h=>by cases b<;>simp only[V.beq,V.isNilchan,Bool.false_eq_true]at h;rfl
 |.chan i,b,h=>by cases b<;>simp only[V.beq,V.isChan,Bool.false_eq_true]at h;rw[natEq_eq h]
 |.func f a c,b,h=>by
  cases b<;>simp only[V.beq,Bool.false_eq_true,Bool.and_eq_true]at h
  obtain⟨⟨h1,h2⟩,h3⟩:=h
  rw[natEq_eq h1,V.beqs_eq _ _ h2,V.beqs_eq _ _ h3]
 |.yield i,b,h=>by cases b<;>simp only[V.beq,V.isYield,Bool.false_eq_true]at h;rw[natEq_eq h]
 |.nilfunc,b,h=>by cases b<;>simp only[V.beq,V.isNilfunc,Bool.false_eq_true]at h;rfl
 |.iface t v,b,h=>by
  cases b<;>simp only[V.beq,Bool.false_eq_true,Bool.and_eq_true]at h
  rw[natEq_eq h.1,V.beq_eq _ _ h.2]
 |.niliface,b,h=>by cases b<;>simp only[V.beq,V.isNiliface,Bool.false_eq_true]at h;rfl
 |.agg l,b,h=>by cases b<;>simp only[V.beq,Bool.false_eq_true]at h;rw[V.beqs_eq _ _ h]
 |.tup l,b,h=>by cases b<;>simp only[V.beq,Bool.false_eq_true]at h;rw[V.beqs_eq _ _ h]
theorem V.beqs_eq:∀(a b:List V),V.beqs a b=true→a=b
 |[],[],_=>rfl
 |[],_::_,h=>by simp[V.beqs]at h
 |_::_,[],h=>by simp[V.beqs]at h
 |a::xs,b::ys,h=>by
  simp only[V.beqs]at h
  split at h
  ·rename_i e;rw[V.beq_eq a b e,V.beqs_eq xs ys h]
  ·cases h
end
def esEq:List (V×V)→List (V×V)→Bool
 |[],l=>match l with
  |[]=>true
  |_::_=>false
 |(k,v)::xs,l=>match l with
  |[]=>false
  |(k',v')::ys=>V.beq k k'&&V.beq v v'&&esEq xs ys
theorem esEq_eq:∀{a b:List (V×V)},esEq a b=true→a=b
 |[],[],_=>rfl
 |[],_::_,h=>by simp[esEq]at h
 |_::_,[],h=>by simp[esEq]at h
 |(k,v)::xs,(k',v')::ys,h=>by
  simp only[esEq,Bool.and_eq_true]at h
  rw[V.beq_eq _ _ h.1.1,V.beq_eq _ _ h.1.2,esEq_eq h.2]
def O.beq:O→O→Bool
 |.cells c e rw,b=>match b with
  |.cells c' e' rw'=>Nat.beq e e'&&boolEq rw rw'&&V.beqs c c'
  |_=>false
 |.map es,b=>match b with
  |.map es'=>esEq es es'
  |_=>false
 |.chan cap buf,b=>match b with
  |.chan cap' buf'=>Nat.beq cap cap'&&V.beqs buf buf'
  |_=>false
 |.siter s pos,b=>match b with
  |.siter s' pos'=>strEq s s'&&Nat.beq pos pos'
  |_=>false
 |.defs o,b=>match b with
  |.defs o'=>boolEq o o'
  |_=>false
 |.loop _,_=>false
 |.dead,b=>match b with
  |.dead=>true
  |_=>false
theorem O.beq_eq{a b:O}(h:O.beq a b=true):a=b:=by
 cases a<;>simp only[O.beq,Bool.false_eq_true]at h<;>cases b<;>simp only[Bool.false_eq_true,Bool.and_eq_true]at h
 ·obtain⟨⟨h1,h2⟩,h3⟩:=h;rw[natEq_eq h1,boolEq_eq h2,V.beqs_eq _ _ h3]
 ·rw[esEq_eq h]
 ·rw[natEq_eq h.1,V.beqs_eq _ _ h.2]
 ·rw[strEq_eq h.1,natEq_eq h.2]
 ·rw[boolEq_eq h]
 ·rfl
def oEq:Option O→O→Bool
 |some a,b=>O.beq a b
 |none,_=>false
theorem oEq_eq{a:Option O}{b:O}(h:oEq a b=true):a=some b:=by
 cases a with
 |none=>cases h
 |some a=>rw[O.beq_eq h]
def vEq:Option V→V→Bool
 |some a,b=>V.beq a b
 |none,_=>false
theorem vEq_eq{a:Option V}{b:V}(h:vEq a b=true):a=some b:=by
 cases a with
 |none=>cases h
 |some a=>rw[V.beq_eq _ _ h]
def vsEq:Option (List V)→List V→Bool
 |some a,b=>V.beqs a b
 |none,_=>false
theorem vsEq_eq{a:Option (List V)}{b:List V}(h:vsEq a b=true):a=some b:=by
 cases a with
 |none=>cases h
 |some a=>rw[V.beqs_eq _ _ h]
mutual
def V.free:V→Bool
 |.ptr ..|.slice ..|.map _|.chan _|.yield _=>false
 |.func _ a c=>V.frees a&&V.frees c
 |.iface _ v=>V.free v
 |.agg l=>V.frees l
 |.tup l=>V.frees l
 |_=>true
def V.frees:List V→Bool
 |[]=>true
 |v::vs=>V.free v&&V.frees vs
end
mutual
theorem V.free_ren{ρ:Nat→Option Nat}:∀(v:V),V.free v=true→V.ren ρ v=some v
 |.bool _,_=>rfl
 |.int _ _,_=>rfl
 |.flt _ _,_=>rfl
 |.str _,_=>rfl
 |.nilptr,_=>rfl
 |.ptr _ _,h=>by simp[V.free]at h
 |.nilslice,_=>rfl
 |.slice _ _ _ _ _,h=>by simp[V.free]at h
 |.empty,_=>rfl
 |.nilmap,_=>rfl
 |.map _,h=>by simp[V.free]at h
 |.nilchan,_=>rfl
 |.chan _,h=>by simp[V.free]at h
 |.func f a c,h=>by
  simp only[V.free,Bool.and_eq_true]at h
  simp only[V.ren,V.frees_ren a h.1,V.frees_ren c h.2]
 |.yield _,h=>by simp[V.free]at h
 |.nilfunc,_=>rfl
 |.iface t v,h=>by
  simp only[V.free]at h
  simp only[V.ren,V.free_ren v h]
 |.niliface,_=>rfl
 |.agg l,h=>by
  simp only[V.free]at h
  simp only[V.ren,V.frees_ren l h]
 |.tup l,h=>by
  simp only[V.free]at h
  simp only[V.ren,V.frees_ren l h]
theorem V.frees_ren{ρ:Nat→Option Nat}:∀(l:List V),V.frees l=true→V.rens ρ l=some l
 |[],_=>rfl
 |v::vs,h=>by
  simp only[V.frees,Bool.and_eq_true]at h
  simp only[V.rens,V.free_ren v h.1,V.frees_ren vs h.2]
end
def deadT:Nat→T O
 |0=>.nil
 |n+1=>(deadT n).set n .dead
theorem deadT_get:∀(n i:Nat),i<n→(deadT n).get i=some .dead
 |0,i,h=>by omega
 |n+1,i,h=>by
  simp only[deadT,T.get_set]
  by_cases e:i=n
  ·rw[if_pos e]
  ·rw[if_neg e];exact deadT_get n i (by omega)
def base(G:Nat):St:=⟨deadT G,G,[]⟩
def lk:List (Nat×O)→Nat→Option O
 |[],_=>none
 |(j,o)::l,i=>match Nat.beq j i with
  |true=>some o
  |false=>lk l i
def setAll(h:T O):List (Nat×O)→T O
 |[]=>h
 |(j,o)::l=>(setAll h l).set j o
theorem setAll_get(h:T O):∀(l:List (Nat×O)) (i:Nat),(setAll h l).get i=match lk l i with|some o=>some o|none=>h.get i
 |[],i=>rfl
 |(j,o)::l,i=>by
  simp only[setAll,T.get_set,lk]
  by_cases e:i=j
  ·subst e
   rw[if_pos rfl,Nat.beq_refl _]
  ·rw[if_neg e]
   have:Nat.beq j i=false:=by
    cases hb:Nat.beq j i with
    |false=>rfl
    |true=>exact absurd (Nat.eq_of_beq_eq_true hb).symm e
   rw[this]
   exact setAll_get h l i
theorem lk_mem:∀{l:List (Nat×O)} {i:Nat} {o:O},lk l i=some o→(i,o)∈l
 |(j,o')::l,i,o,h=>by
  simp only[lk]at h
  split at h
  ·rename_i e
   have:=natEq_eq e
   simp only[Option.some.injEq]at h
   subst h;subst this;exact List.mem_cons_self
  ·exact List.mem_cons_of_mem _ (lk_mem h)
theorem lk_none:∀{l:List (Nat×O)} {i:Nat},lk l i=none→∀p∈l,p.1≠i
 |[],_,_,p,hp=>by cases hp
 |(j,o')::l,i,h,p,hp=>by
  simp only[lk]at h
  split at h
  ·cases h
  ·rename_i e
   rcases List.mem_cons.1 hp with rfl|hp
   ·intro hc
    simp only at hc
    subst hc
    have:Nat.beq j j=true:=Nat.beq_refl _
    rw[this]at e;cases e
   ·exact lk_none h p hp
theorem lk_some{l:List (Nat×O)}{i:Nat}{o:O}(h:(i,o)∈l):∃o',lk l i=some o':=by
 cases hc:lk l i with
 |some o'=>exact⟨o',rfl⟩
 |none=>exact absurd rfl (lk_none hc _ h)
def memN(i:Nat):List Nat→Bool
 |[]=>false
 |j::l=>match Nat.beq j i with
  |true=>true
  |false=>memN i l
theorem memN_iff{i:Nat}:∀{l:List Nat},memN i l=true↔i∈l
 |[]=>by simp[memN]
 |j::l=>by
  simp only[memN]
  split
  ·rename_i e;simp[natEq_eq e]
  ·rename_i e
   have:i≠j:=by
    rintro rfl
    have:Nat.beq i i=true:=Nat.beq_refl _
    rw[this]at e;cases e
   simp[memN_iff,this]
structure PEnt where
 f:Nat
 args:List V
 v:V
def PEnt.ok(e:PEnt)(G:Nat)(call:CallT):Bool:=
 match call (.func e.f [] []) e.args (base G)with
 |some (v,s)=>match s.w with
  |[]=>V.beq v e.v&&V.free e.v&&V.frees e.args&&Nat.ble G s.n
  |_=>false
 |none=>false
def Pure(P:Program)(e:PEnt):Prop:=∀S,SemOk P (.func e.f [] []) e.args S e.v S
theorem PEnt.pure{P:Program}{call:CallT}(hc:CallOk P call){e:PEnt}(h:e.ok P.globals.size call=true):Pure P e:=by
 unfold PEnt.ok at h
 split at h
 ·rename_i v s hcall
  split at h
  ·rename_i hw
   simp only[Bool.and_eq_true]at h
   obtain⟨⟨⟨h1,h2⟩,h3⟩,h4⟩:=h
   have hv:=V.beq_eq _ _ h1
   subst hv
   intro S μ w Gv xs hh hG hx
   have hn:P.globals.size≤S.n:=by
    apply Nat.le_of_not_lt
    intro hlt
    obtain⟨t,ht⟩:=hh.glob S.n hlt
    have:=(hh.dom _ _ ht).1
    omega
   have F:Framed P (fun i=>if i<P.globals.size then some i else none) (fun i=>if i<P.globals.size then some i else none) [] (base P.globals.size) s S S:={
    dom:=fun i i' hi=>by
     split at hi
     ·rename_i hlt;simp only[Option.some.injEq]at hi;subst hi
      exact⟨hlt,by omega⟩
     ·cases hi
    inj:=fun i j i' hi hj=>by
     split at hi<;>split at hj<;>simp_all
    glob:=fun g hg=>by simp[hg]
    obj:=fun i i' hi=>by
     split at hi
     ·rename_i hlt
      exact⟨.dead,.dead,deadT_get _ _ hlt,.inl rfl,.inr rfl⟩
     ·cases hi
    old:=fun _ _=>rfl
    new:=fun i i' hi hr=>by
     have:P.globals.size≤i:=hi
     rw[if_neg (by omega)]at hr;cases hr
    ninj:=fun i j i' hi _ hr _=>by
     have:P.globals.size≤i:=hi
     rw[if_neg (by omega)]at hr;cases hr
    full:=fun i' h1 h2=>by omega
    nle:=Nat.le_refl _
    w0:=rfl
    W1:=fun i i' hi _=>by rw[hw]at hi;cases hi
    W2:=fun j hj=>by cases hj
    wl:=rfl
    keep:=fun _ _ _=>rfl
    wr:=fun i i' hi _=>by rw[hw]at hi;cases hi
    obn:=fun i i' hi hr=>by
     have:P.globals.size≤i:=hi
     rw[if_neg (by omega)]at hr;cases hr}
   exact(SemOk.frame (hc _ _ _ _ _ hcall) F (V.free_ren _ (by rfl)) (V.frees_ren _ h3) (V.free_ren _ h2)) μ w Gv xs hh hG hx
  ·cases h
 ·cases h
def pFind:List PEnt→Nat→List V→Option V
 |[],_,_=>none
 |e::l,f,args=>match Nat.beq e.f f with
  |true=>match V.beqs e.args args with
   |true=>some e.v
   |false=>pFind l f args
  |false=>pFind l f args
def pCall(l:List PEnt):CallT
 |.func f [] [],args,st=>match pFind l f args with
  |some v=>some (v,st)
  |none=>none
 |_,_,_=>none
theorem pFind_mem:∀{l:List PEnt} {f:Nat} {args:List V} {v:V},pFind l f args=some v→∃e∈l,e.f=f∧e.args=args∧e.v=v
 |[],_,_,_,h=>by cases h
 |e::l,f,args,v,h=>by
  simp only[pFind]at h
  split at h
  ·rename_i e1
   split at h
   ·rename_i e2
    simp only[Option.some.injEq]at h
    exact⟨e,List.mem_cons_self,natEq_eq e1,V.beqs_eq _ _ e2,h⟩
   ·obtain⟨e',h1,h2⟩:=pFind_mem h;exact⟨e',List.mem_cons_of_mem _ h1,h2⟩
  ·obtain⟨e',h1,h2⟩:=pFind_mem h;exact⟨e',List.mem_cons_of_mem _ h1,h2⟩
theorem pCall_ok{P:Program}{l:List PEnt}(h:∀e∈l,Pure P e):CallOk P (pCall l):=by
 intro g args st v st' hc
 unfold pCall at hc
 split at hc
 ·rename_i f
  split at hc
  ·rename_i u hu
   simp only[Option.some.injEq,Prod.mk.injEq]at hc
   obtain⟨rfl,rfl⟩:=hc
   obtain⟨e,h1,rfl,rfl,rfl⟩:=pFind_mem hu
   exact h e h1 st
  ·cases hc
 ·cases hc
structure Ent where
 f:Nat
 first:List V
 caps:List V
 args:List V
 part:List (Nat×O)
 n:Nat
 v:V
 kept:List (Nat×O)
 wrs:List (Nat×O)
def Ent.st(e:Ent)(G:Nat):St:=⟨setAll (deadT G) e.part,e.n,[]⟩
def sig(G:Nat)(part:List (Nat×O))(i:Nat):Option Nat:=
 match Nat.blt i G with
 |true=>some i
 |false=>match lk part i with
  |some _=>some i
  |none=>none
def idx(i:Nat):List (Nat×O)→Nat→Option Nat
 |[],_=>none
 |(k,_)::l,m=>match Nat.beq k i with
  |true=>some m
  |false=>idx i l (m+1)
def rho(G:Nat)(part:List (Nat×O))(n:Nat)(kept:List (Nat×O))(i:Nat):Option Nat:=
 match Nat.blt i n with
 |true=>sig G part i
 |false=>idx i kept n
def numFrom:List (Nat×O)→Nat→List (Nat×O)
 |[],_=>[]
 |(_,o)::l,m=>(m,o)::numFrom l (m+1)
def objOk(ρ:Nat→Option Nat)(s:St)(i:Nat)(o':O):Bool:=
 match s.h.get i with
 |some o=>match o' with
  |.dead=>true
  |o'=>oEq (o.ren ρ) o'
 |none=>false
def keptOk(ρ:Nat→Option Nat)(s:St)(n:Nat):List (Nat×O)→Nat→Bool
 |[],_=>true
 |(k,o)::l,m=>onatEq (ρ k) (some m)&&Nat.ble n k&&Nat.blt k s.n&&objOk ρ s k o&&keptOk ρ s n l (m+1)
def Ent.chk(e:Ent)(G:Nat)(v:V)(s:St):Bool:=
 Nat.ble G e.n&&Nat.ble e.n s.n&&(e.part.all fun p=>Nat.blt p.1 e.n&&oEq (p.2.ren (sig G e.part)) p.2)&&
 vsEq (V.rens (sig G e.part) e.first) e.first&&vsEq (V.rens (sig G e.part) e.caps) e.caps&&vsEq (V.rens (sig G e.part) e.args) e.args&&
 vEq (V.ren (rho G e.part e.n e.kept) v) e.v&&
 keptOk (rho G e.part e.n e.kept) s e.n e.kept e.n&&
 (s.w.all fun i=>match sig G e.part i with|some _=>memN i (e.wrs.map (·.1))|none=>true)&&
 (e.wrs.all fun p=>memN p.1 s.w&&onatEq (sig G e.part p.1) (some p.1)&&objOk (rho G e.part e.n e.kept) s p.1 p.2)
def Ent.ok(e:Ent)(G:Nat)(call:CallT):Bool:=
 match call (.func e.f e.first e.caps) e.args (e.st G)with
 |some (v,s)=>e.chk G v s
 |none=>false
def partIn(S:St):List (Nat×O)→Bool
 |[]=>true
 |(i,o)::l=>match oEq (S.h.get i) o with
  |true=>partIn S l
  |false=>false
def Ent.out(e:Ent)(S:St):St:=⟨setAll (setAll S.h e.wrs) (numFrom e.kept e.n),e.n+e.kept.length,e.wrs.map (·.1)++S.w⟩
def entCall(e:Ent):CallT
 |.func f a c,args,S=>match Nat.beq e.f f with
  |true=>match V.beqs e.args args&&V.beqs e.first a&&V.beqs e.caps c&&Nat.beq S.n e.n&&partIn S e.part with
   |true=>some (e.v,e.out S)
   |false=>none
  |false=>none
 |_,_,_=>none
theorem partIn_get{S:St}:∀{l:List (Nat×O)},partIn S l=true→∀p∈l,S.h.get p.1=some p.2
 |[],_,p,hp=>by cases hp
 |(i,o)::l,h,p,hp=>by
  simp only[partIn]at h
  split at h
  ·rename_i e
   rcases List.mem_cons.1 hp with rfl|hp
   ·exact oEq_eq e
   ·exact partIn_get h p hp
  ·cases h
theorem idx_spec{i:Nat}:∀{l:List (Nat×O)} {m i':Nat},idx i l m=some i'→m≤i'∧i'<m+l.length∧∃o,l[i'-m]?=some (i,o)
 |[],m,i',h=>by cases h
 |(k,o)::l,m,i',h=>by
  simp only[idx]at h
  split at h
  ·rename_i e
   simp only[Option.some.injEq]at h;subst h
   have:=natEq_eq e;subst this
   exact⟨Nat.le_refl _,by simp,o,by simp⟩
  ·obtain⟨h1,h2,o',h3⟩:=idx_spec h
   refine⟨by omega,by simp;omega,o',?_⟩
   rw[show i'-m=(i'-(m+1))+1 by omega]
   simpa using h3
theorem numFrom_lk:∀{l:List (Nat×O)} {m j:Nat} {p:Nat×O},l[j]?=some p→lk (numFrom l m) (m+j)=some p.2
 |[],m,j,p,h=>by simp at h
 |(k,o)::l,m,0,p,h=>by
  simp at h;subst h
  simp[numFrom,lk]
 |(k,o)::l,m,j+1,p,h=>by
  simp only[numFrom,lk]
  have:Nat.beq m (m+(j+1))=false:=by
   cases hb:Nat.beq m (m+(j+1))with
   |false=>rfl
   |true=>have:=natEq_eq hb;omega
  rw[this,show m+(j+1)=(m+1)+j by omega]
  exact numFrom_lk (by simpa using h)
theorem numFrom_none:∀{l:List (Nat×O)} {m i:Nat},i<m→lk (numFrom l m) i=none
 |[],_,_,_=>rfl
 |(k,o)::l,m,i,h=>by
  simp only[numFrom,lk]
  have:Nat.beq m i=false:=by
   cases hb:Nat.beq m i with
   |false=>rfl
   |true=>have:=natEq_eq hb;omega
  rw[this]
  exact numFrom_none (by omega)
theorem keptOk_get{ρ:Nat→Option Nat}{s:St}{n:Nat}:∀{l:List (Nat×O)} {m:Nat},keptOk ρ s n l m=true→∀{j:Nat} {p:Nat×O},l[j]?=some p→ρ p.1=some (m+j)∧n≤p.1∧p.1<s.n∧objOk ρ s p.1 p.2=true
 |[],m,_,j,p,h=>by simp at h
 |(k,o)::l,m,h,j,p,hj=>by
  simp only[keptOk,Bool.and_eq_true]at h
  obtain⟨⟨⟨⟨h1,h2⟩,h3⟩,h4⟩,h5⟩:=h
  cases j with
  |zero=>
   simp at hj;subst hj
   exact⟨onatEq_eq h1,Nat.le_of_ble_eq_true h2,Nat.lt_of_succ_le (Nat.le_of_ble_eq_true h3),h4⟩
  |succ j=>
   obtain⟨q1,q2⟩:=keptOk_get h5 (j:=j) (by simpa using hj)
   exact⟨by rw[q1];congr 1;omega,q2⟩
theorem objOk_spec{ρ:Nat→Option Nat}{s:St}{i:Nat}{o':O}(h:objOk ρ s i o'=true):∃o,s.h.get i=some o∧(o'=.dead∨o.ren ρ=some o'):=by
 unfold objOk at h
 split at h
 ·rename_i o ho
  refine⟨o,ho,?_⟩
  split at h
  ·exact .inl rfl
  ·exact .inr (oEq_eq h)
 ·cases h
theorem sig_spec{G:Nat}{part:List (Nat×O)}{i i':Nat}(h:sig G part i=some i'):i'=i∧(i<G∨∃o,lk part i=some o):=by
 unfold sig at h
 split at h
 ·rename_i e
  simp only[Option.some.injEq]at h
  exact⟨h.symm,.inl (Nat.lt_of_succ_le (Nat.le_of_ble_eq_true e))⟩
 ·split at h
  ·rename_i o ho
   simp only[Option.some.injEq]at h
   exact⟨h.symm,.inr ⟨o,ho⟩⟩
  ·cases h
theorem entCall_ok{P:Program}{call:CallT}(hcall:CallOk P call){e:Ent}(h:e.ok P.globals.size call=true):CallOk P (entCall e):=by
 intro g args S v S' hc
 unfold entCall at hc
 split at hc
 ·rename_i f a c
  split at hc
  ·rename_i hf
   have hf:=natEq_eq hf
   subst hf
   split at hc
   ·rename_i hcond
    simp only[Bool.and_eq_true]at hcond
    obtain⟨⟨⟨⟨c1,c2⟩,c3⟩,c4⟩,c5⟩:=hcond
    have c1:=V.beqs_eq _ _ c1
    have c2:=V.beqs_eq _ _ c2
    have c3:=V.beqs_eq _ _ c3
    have c4:=natEq_eq c4
    have c5:=partIn_get c5
    simp only[Option.some.injEq,Prod.mk.injEq]at hc
    obtain⟨rfl,rfl⟩:=hc
    subst c1;subst c2;subst c3
    unfold Ent.ok at h
    split at h
    ·rename_i v0 s hrun
     unfold Ent.chk at h
     simp only[Bool.and_eq_true,List.all_eq_true]at h
     obtain⟨⟨⟨⟨⟨⟨⟨⟨⟨k1,k2⟩,k3⟩,k4⟩,k5⟩,k6⟩,k7⟩,k8⟩,k9⟩,k10⟩:=h
     have k1:=Nat.le_of_ble_eq_true k1
     have k2:=Nat.le_of_ble_eq_true k2
     have hpart:∀i o,lk e.part i=some o→i<e.n∧o.ren (sig P.globals.size e.part)=some o∧S.h.get i=some o:=fun i o ho=>by
      have hm:=lk_mem ho
      obtain⟨q1,q2⟩:=k3 _ hm
      exact⟨Nat.lt_of_succ_le (Nat.le_of_ble_eq_true q1),oEq_eq q2,c5 _ hm⟩
     have hρn:∀i,e.n≤i→rho P.globals.size e.part e.n e.kept i=idx i e.kept e.n:=fun i hi=>by
      unfold rho
      have:Nat.blt i e.n=false:=by
       cases hb:Nat.blt i e.n with
       |false=>rfl
       |true=>have:=Nat.lt_of_succ_le (Nat.le_of_ble_eq_true hb);omega
      rw[this]
     have hkept:∀j p,e.kept[j]?=some p→rho P.globals.size e.part e.n e.kept p.1=some (e.n+j)∧e.n≤p.1∧p.1<s.n∧objOk (rho P.globals.size e.part e.n e.kept) s p.1 p.2=true:=fun j p hj=>keptOk_get k8 hj
     have hlkn:∀j,j<e.n→(e.out S).h.get j=match lk e.wrs j with|some o=>some o|none=>S.h.get j:=fun j hj=>by
      show (setAll (setAll S.h e.wrs) (numFrom e.kept e.n)).get j=_
      rw[setAll_get,numFrom_none hj,setAll_get]
     have F:Framed P (sig P.globals.size e.part) (rho P.globals.size e.part e.n e.kept) (e.wrs.map (·.1)) (e.st P.globals.size) s S (e.out S):={
      dom:=fun i i' hi=>by
       obtain⟨rfl,hor⟩:=sig_spec hi
       have:i'<e.n:=by
        rcases hor with h|⟨o,ho⟩
        ·omega
        ·exact(hpart _ _ ho).1
       exact⟨this,by omega⟩
      inj:=fun i j i' hi hj=>by rw[←(sig_spec hi).1,←(sig_spec hj).1]
      glob:=fun g hg=>by
       unfold sig
       have:Nat.blt g P.globals.size=true:=Nat.ble_eq_true_of_le hg
       rw[this]
      obj:=fun i i' hi=>by
       obtain⟨rfl,hor⟩:=sig_spec hi
       cases hl:lk e.part i' with
       |some o=>
        obtain⟨q1,q2,q3⟩:=hpart _ _ hl
        refine⟨o,o,?_,.inr (.inl q2),.inl q3⟩
        show (setAll (deadT P.globals.size) e.part).get i'=_
        rw[setAll_get,hl]
       |none=>
        have hg:i'<P.globals.size:=by
         rcases hor with h|⟨o,ho⟩
         ·exact h
         ·rw[hl]at ho;cases ho
        refine⟨.dead,.dead,?_,.inl rfl,.inr rfl⟩
        show (setAll (deadT P.globals.size) e.part).get i'=_
        rw[setAll_get,hl]
        exact deadT_get _ _ hg
      old:=fun i hi=>by
       have:Nat.blt i e.n=true:=Nat.ble_eq_true_of_le hi
       unfold rho;rw[this]
      new:=fun i i' hi hr=>by
       rw[hρn i hi]at hr
       obtain⟨q1,q2,o,q3⟩:=idx_spec hr
       obtain⟨_,_,r3,_⟩:=hkept _ _ q3
       exact⟨by omega,q2,r3⟩
      ninj:=fun i j i' hi hj hri hrj=>by
       rw[hρn i hi]at hri
       rw[hρn j hj]at hrj
       obtain⟨_,_,o,q3⟩:=idx_spec hri
       obtain⟨_,_,o',q3'⟩:=idx_spec hrj
       rw[q3]at q3'
       cases q3';rfl
      full:=fun i' h1 h2=>by
       have h2':i'<e.n+e.kept.length:=h2
       obtain⟨p,hp⟩:∃p,e.kept[i'-e.n]?=some p:=⟨_,List.getElem?_eq_getElem (by omega)⟩
       obtain⟨r1,r2,_,_⟩:=hkept _ _ hp
       exact⟨p.1,r2,by rw[r1];congr 1;omega⟩
      nle:=by show S.n≤e.n+e.kept.length;omega
      w0:=rfl
      W1:=fun i i' hi hs=>by
       obtain⟨rfl,_⟩:=sig_spec hs
       have:=k9 _ hi
       rw[hs]at this
       exact memN_iff.1 this
      W2:=fun j hj=>by
       obtain⟨p,hp,rfl⟩:=List.mem_map.1 hj
       obtain⟨⟨q1,q2⟩,_⟩:=k10 _ hp
       exact⟨p.1,memN_iff.1 q1,onatEq_eq q2⟩
      wl:=rfl
      keep:=fun j hj hn=>by
       rw[hlkn j (by omega)]
       cases hl:lk e.wrs j with
       |none=>rfl
       |some o=>exact absurd (List.mem_map.2 ⟨_,lk_mem hl,rfl⟩) hn
      wr:=fun i i' hi hs=>by
       obtain⟨rfl,hor⟩:=sig_spec hs
       have hlt:i'<e.n:=by
        rcases hor with h|⟨o,ho⟩
        ·omega
        ·exact(hpart _ _ ho).1
       have:=k9 _ hi
       rw[hs]at this
       obtain⟨p,hp,hpe⟩:=List.mem_map.1 (memN_iff.1 this)
       obtain⟨o',ho'⟩:=lk_some (l:=e.wrs) (i:=i') (o:=p.2) (by rw[←hpe];exact hp)
       obtain⟨_,q3⟩:=k10 _ (lk_mem ho')
       obtain⟨o,r1,r2⟩:=objOk_spec q3
       exact⟨o,o',r1,by rw[hlkn _ hlt,ho'],r2⟩
      obn:=fun i i' hi hr=>by
       rw[hρn i hi]at hr
       obtain⟨q1,q2,o,q3⟩:=idx_spec hr
       obtain⟨_,_,_,r4⟩:=hkept _ _ q3
       obtain⟨o2,t1,t2⟩:=objOk_spec r4
       refine⟨o2,o,t1,?_,t2⟩
       show (setAll (setAll S.h e.wrs) (numFrom e.kept e.n)).get i'=_
       have:=numFrom_lk (m:=e.n) q3
       rw[show e.n+(i'-e.n)=i' by omega]at this
       rw[setAll_get,this]}
     refine SemOk.frame (hcall _ _ _ _ _ hrun) F ?_ (vsEq_eq k6) (vEq_eq k7)
     simp only[V.ren,vsEq_eq k4,vsEq_eq k5]
    ·cases h
   ·cases hc
  ·cases hc
 ·cases hc
def mcallX(x:CallT)(tbl:Nat→Option MFunc)(fuel:Nat):Nat→CallT
 |0=>x
 |d+1=>orCall x (callStep tbl (mcode (mcallX x tbl fuel d) fuel))
theorem mcallX_ok{P:Program}{tbl:Nat→Option MFunc}(hm:P.follows .mixedOrders=true)(hE:ExtsOk P)(ht:TableOk P tbl){x:CallT}(hx:CallOk P x)(fuel:Nat):∀d,CallOk P (mcallX x tbl fuel d)
 |0=>hx
 |d+1=>by
  have ih:=mcallX_ok hm hE ht hx fuel d
  exact hx.or (callStep_ok ht (code_ok ih hE (draw_ok hm hE ih) (sel_ok ih hE) (range_ok ih) fuel))
def eFind:List Ent→Nat→List V→List V→List V→St→Option (V×St)
 |[],_,_,_,_,_=>none
 |e::l,f,a,c,args,S=>match Nat.beq e.f f with
  |true=>match entCall e (.func f a c) args S with
   |some r=>some r
   |none=>eFind l f a c args S
  |false=>eFind l f a c args S
def eCall(l:List Ent):CallT
 |.func f a c,args,S=>eFind l f a c args S
 |_,_,_=>none
theorem eCall_ok{P:Program}{l:List Ent}(h:∀e∈l,CallOk P (entCall e)):CallOk P (eCall l):=by
 intro g args S v S' hc
 unfold eCall at hc
 split at hc
 ·rename_i f a c
  induction l with
  |nil=>cases hc
  |cons e l ih=>
   simp only[eFind]at hc
   split at hc
   ·split at hc
    ·rename_i r hr
     cases hc
     exact h e List.mem_cons_self _ _ _ _ _ hr
    ·exact ih (fun e he=>h e (List.mem_cons_of_mem _ he)) hc
   ·exact ih (fun e he=>h e (List.mem_cons_of_mem _ he)) hc
 ·cases hc
def xCall(L:List PEnt)(E:List Ent):CallT:=orCall (pCall L) (eCall E)
structure TabOk (P:Program) (L:List PEnt) (E:List Ent):Prop where
 p:∀e∈L,Pure P e
 e:∀e∈E,CallOk P (entCall e)
theorem TabOk.call{P:Program}{L:List PEnt}{E:List Ent}(h:TabOk P L E):CallOk P (xCall L E):=(pCall_ok h.p).or (eCall_ok h.e)
theorem TabOk.nil{P:Program}:TabOk P [] []:=⟨fun _ h=>(by cases h),fun _ h=>(by cases h)⟩
structure ProgOk (P:Program) (tbl:Nat→Option MFunc) (G:Nat):Prop where
 m:P.follows .mixedOrders=true
 e:ExtsOk P
 t:TableOk P tbl
 g:P.globals.size=G
theorem TabOk.addP{P:Program}{tbl:Nat→Option MFunc}{G fuel d:Nat}(hP:ProgOk P tbl G){L:List PEnt}{E:List Ent}(h:TabOk P L E){e:PEnt}(he:e.ok G (mcallX (xCall L E) tbl fuel d)=true):TabOk P (e::L) E:=
 ⟨fun e' hm=>by
  rcases List.mem_cons.1 hm with rfl|hm
  ·exact PEnt.pure (mcallX_ok hP.m hP.e hP.t h.call fuel d) (by rw[hP.g];exact he)
  ·exact h.p e' hm,h.e⟩
theorem TabOk.addE{P:Program}{tbl:Nat→Option MFunc}{G fuel d:Nat}(hP:ProgOk P tbl G){L:List PEnt}{E:List Ent}(h:TabOk P L E){e:Ent}(he:e.ok G (mcallX (xCall L E) tbl fuel d)=true):TabOk P L (e::E):=
 ⟨h.p,fun e' hm=>by
  rcases List.mem_cons.1 hm with rfl|hm
  ·exact entCall_ok (mcallX_ok hP.m hP.e hP.t h.call fuel d) (by rw[hP.g];exact he)
  ·exact h.e e' hm⟩
end Go.Mx
namespace Go.Mx
open Go
section
variable {call:CallT} {f:Nat} {ro:Option Nat} {a b c:MCode} {fr:Fr} {st:St}
end
theorem natBlt{a b:Nat}:Nat.blt a b=decide (a<b):=by
 cases h:Nat.blt a b
 ·symm;simp only[decide_eq_false_iff_not];intro hc;rw[show Nat.blt a b=true from Nat.ble_eq_true_of_le hc]at h;cases h
 ·symm;simp only[decide_eq_true_eq];exact Nat.lt_of_succ_le (Nat.le_of_ble_eq_true h)
theorem natBle{a b:Nat}:Nat.ble a b=decide (a≤b):=by
 cases h:Nat.ble a b
 ·symm;simp only[decide_eq_false_iff_not];intro hc;rw[Nat.ble_eq_true_of_le hc]at h;cases h
 ·symm;simp only[decide_eq_true_eq];exact Nat.le_of_ble_eq_true h
theorem wrapF_i64{n:Int}(h1: -9223372036854775808≤n)(h2:n<9223372036854775808):wrapF .i64 n=n:=by
 rw[wrapF_eq]
 simp[IntKind.wrap,IntKind.bits,IntKind.signed]
 omega
theorem intBin_add{k a b}:intBin .add k a b=some (.int k (wrapF k (a+b))):=rfl
theorem intBin_sub{k a b}:intBin .sub k a b=some (.int k (wrapF k (a-b))):=rfl
theorem intBin_mul{k a b}:intBin .mul k a b=some (.int k (wrapF k (a*b))):=rfl
theorem intBin_quo{k a b}(h:¬b=0):intBin .quo k a b=some (.int k (wrapF k (a.tdiv b))):=by simp[intBin,h]
theorem intBin_rem{k a b}(h:¬b=0):intBin .rem k a b=some (.int k (a.tmod b)):=by simp[intBin,h]
theorem intBin_eql{k a b}:intBin .eql k a b=some (.bool (a==b)):=rfl
theorem intBin_neq{k a b}:intBin .neq k a b=some (.bool (a !=b)):=rfl
theorem intBin_lss{k a b}:intBin .lss k a b=some (.bool (decide (a<b))):=rfl
theorem intBin_leq{k a b}:intBin .leq k a b=some (.bool (decide (a≤b))):=rfl
theorem intBin_gtr{k a b}:intBin .gtr k a b=some (.bool (decide (a > b))):=rfl
theorem intBin_geq{k a b}:intBin .geq k a b=some (.bool (decide (a≥b))):=rfl
theorem mop_mov(x):mop (.mov x)=op_mov x:=rfl
theorem mop_pick(a b c):mop (.pick a b c)=op_pick a b c:=rfl
theorem mop_alloc(a b):mop (.alloc a b)=op_alloc a b:=rfl
theorem mop_box(a b):mop (.box a b)=op_box a b:=rfl
theorem mop_build(a b):mop (.build a b)=op_build a b:=rfl
theorem mop_bslice(a b c d e):mop (.bslice a b c d e)=op_bslice a b c d e:=rfl
theorem mop_load(a b):mop (.load a b)=op_load a b:=rfl
theorem mop_store(a b c):mop (.store a b c)=op_store a b c:=rfl
theorem mop_nilck(a):mop (.nilck a)=op_nilck a:=rfl
theorem mop_bin(a b c d e):mop (.bin a b c d e)=op_bin a b c d e:=rfl
theorem mop_un(a b):mop (.un a b)=op_un a b:=rfl
theorem mop_convInt(a b):mop (.convInt a b)=op_convInt a b:=rfl
theorem mop_mkfunc(a b c):mop (.mkfunc a b c)=op_mkfunc a b c:=rfl
theorem mop_faddr(a b):mop (.faddr a b)=op_faddr a b:=rfl
theorem mop_field(a b c):mop (.field a b c)=op_field a b c:=rfl
theorem mop_iaddrArr(a b c d):mop (.iaddrArr a b c d)=op_iaddrArr a b c d:=rfl
theorem mop_iaddrSl(a b c):mop (.iaddrSl a b c)=op_iaddrSl a b c:=rfl
theorem mop_extract(a b):mop (.extract a b)=op_extract a b:=rfl
theorem mop_len(a b):mop (.len a b)=op_len a b:=rfl
theorem mop_call(a b):mop (.call a b)=op_call a b:=rfl
structure Gives (r:Option (V×St)) (v:V):Prop where
 ex:∃s,r=some (v,s)∧s.w=[]
theorem gives_some{u v:V}{s:St}:Gives (some (u,s)) v↔u=v∧s.w=[]:=
 ⟨fun ⟨_,h1,h2⟩=>by simp only[Option.some.injEq,Prod.mk.injEq]at h1;exact⟨h1.1,h1.2▸h2⟩,fun ⟨h1,h2⟩=>⟨s,by rw[h1],h2⟩⟩
theorem Pure.of_run{P:Program}{call:CallT}(hc:CallOk P call){G:Nat}(hG:P.globals.size=G){f:Nat}{args:List V}{v:V}(h:Gives (call (.func f [] []) args (base G)) v)(ha:V.frees args=true)(hv:V.free v=true):Pure P ⟨f,args,v⟩:=by
 subst hG
 obtain⟨s,hcall,hw⟩:=h.ex
 ·intro S μ w Gv xs hh hGv hx
  have hn:P.globals.size≤S.n:=by
   apply Nat.le_of_not_lt
   intro hlt
   obtain⟨t,ht⟩:=hh.glob S.n hlt
   have:=(hh.dom _ _ ht).1
   omega
  have F:Framed P (fun i=>if i<P.globals.size then some i else none) (fun i=>if i<P.globals.size then some i else none) [] (base P.globals.size) s S S:={
   dom:=fun i i' hi=>by
    split at hi
    ·rename_i hlt;simp only[Option.some.injEq]at hi;subst hi
     exact⟨hlt,by omega⟩
    ·cases hi
   inj:=fun i j i' hi hj=>by
    split at hi<;>split at hj<;>simp_all
   glob:=fun g hg=>by simp[hg]
   obj:=fun i i' hi=>by
    split at hi
    ·rename_i hlt
     exact⟨.dead,.dead,deadT_get _ _ hlt,.inl rfl,.inr rfl⟩
    ·cases hi
   old:=fun _ _=>rfl
   new:=fun i i' hi hr=>by
    have:P.globals.size≤i:=hi
    rw[if_neg (by omega)]at hr;cases hr
   ninj:=fun i j i' hi _ hr _=>by
    have:P.globals.size≤i:=hi
    rw[if_neg (by omega)]at hr;cases hr
   full:=fun i' h1 h2=>by omega
   nle:=Nat.le_refl _
   w0:=rfl
   W1:=fun i i' hi _=>by rw[hw]at hi;cases hi
   W2:=fun j hj=>by cases hj
   wl:=rfl
   keep:=fun _ _ _=>rfl
   wr:=fun i i' hi _=>by rw[hw]at hi;cases hi
   obn:=fun i i' hi hr=>by
    have:P.globals.size≤i:=hi
    rw[if_neg (by omega)]at hr;cases hr}
  exact(SemOk.frame (hc _ _ _ _ _ hcall) F (V.free_ren _ (by rfl)) (V.frees_ren _ ha) (V.free_ren _ hv)) μ w Gv xs hh hGv hx
attribute [simp]
 mop_mov mop_pick mop_alloc mop_box mop_build mop_bslice mop_load mop_store mop_nilck mop_bin mop_un mop_convInt mop_mkfunc mop_faddr mop_field mop_iaddrArr mop_iaddrSl mop_extract mop_len mop_call
 op_mov op_pick op_alloc op_box op_build op_bslice op_load op_nilck op_bin op_un op_convInt op_mkfunc op_faddr op_field op_iaddrArr op_extract op_call
 setRegs wantedV Src.ev T.get_set resV resOf oldIds binV intBin_add intBin_sub intBin_mul intBin_quo intBin_rem intBin_eql intBin_neq intBin_lss intBin_leq intBin_gtr intBin_geq strBin unV evAll evOpt evParts fillV partV V.cells V.one St.alloc St.write St.row wrapF_i64 natBlt natBle noteId footOf MOp.silent loadId apartOk pairsOk pairsOk.go pairsOk.chk FP.free meets Nat.testBit gives_some base
end Go.Mx
namespace Go.Mx
open Go
structure GEnt where
 f:Nat
 args:List V
 v:V
 kept:List (Nat×O)
def O.free:O→Bool
 |.cells c _ _=>V.frees c
 |.dead=>true
 |_=>false
theorem O.free_ren{ρ:Nat→Option Nat}{o:O}(h:o.free=true):o.ren ρ=some o:=by
 cases o<;>simp only[O.free,Bool.false_eq_true]at h
 ·simp only[O.ren,V.frees_ren _ h]
 ·rfl
def keptG(G:Nat)(s:St)(full:List (Nat×O)):List (Nat×O)→Nat→Bool
 |[],_=>true
 |(k,o)::l,m=>onatEq (idx k full 0) (some m)&&Nat.ble G k&&Nat.blt k s.n&&oEq (s.h.get k) o&&o.free&&keptG G s full l (m+1)
def GEnt.ok(e:GEnt)(G:Nat)(call:CallT):Bool:=
 match call (.func e.f [] []) e.args (base G)with
 |some (v,s)=>match s.w with
  |[]=>vEq (V.ren (fun i=>match Nat.ble G i with|true=>idx i e.kept 0|false=>none) v) e.v&&keptG G s e.kept e.kept 0&&V.frees e.args&&Nat.ble G s.n
  |_=>false
 |none=>false
end Go.Mx
namespace Go.Mx
open Go
theorem base_hrel{P:Program}{W:World}(hW:P.globals.size≤W.heap.size):HRel P (fun i=>if i<P.globals.size then some ⟨i,0,0⟩ else none) W (base P.globals.size):=by
 refine⟨fun i l hl=>?_,fun i l hl=>?_,fun i j l l' o o' hi hj hne ho ho' hw hlv=>?_,fun g hg=>⟨0,by simp[hg]⟩⟩
 ·split at hl
  ·rename_i h;simp only[Option.some.injEq]at hl;subst hl
   exact⟨h,by simp only;omega⟩
  ·cases hl
 ·split at hl
  ·rename_i h
   exact⟨.dead,deadT_get _ _ h,trivial⟩
  ·cases hl
 ·split at hi
  ·rename_i h
   have h2:(base P.globals.size).h.get i=some .dead:=deadT_get _ _ h
   rw[h2]at ho;cases ho;simp[O.wr]at hw
  ·cases hi
end Go.Mx
