/-
  Calls that are known: a table of runs over small heaps stands in for the runs themselves.
-/
import Derived.Test.YtlbophlgohokkaaGreatDoorMxDraw5
import Derived.Below
import Derived.CallsIn
set_option linter.all false
namespace Go.Mx
open Go
variable {G i:Nat} {P:Program}
def Zr2:Bool→Bool→Bool
 |true,b=>b
 |false,true=>false
 |false,false=>true
def Yfa:IntKind→Nat
 |.i8=>0|.i16=>1|.i32=>2|.i64=>3|.u8=>4|.u16=>5|.u32=>6|.u64=>7
def Yjw:Int→Int→Bool
 |.ofNat a,b=>match b with
  |.ofNat b=>Nat.beq a b
  |.negSucc _=>false
 |.negSucc a,b=>match b with
  |.ofNat _=>false
  |.negSucc b=>Nat.beq a b
def Zsn:List UInt8→List UInt8→Bool
 |[],l=>match l with
  |[]=>true
  |_::_=>false
 |a::xs,l=>match l with
  |[]=>false
  |b::ys=>match Nat.beq a.toNat b.toNat with
   |true=>Zsn xs ys
   |false=>false
def Zqy:Option Nat→Option Nat→Bool
 |none,b=>match b with
  |none=>true
  |some _=>false
 |some a,b=>match b with
  |none=>false
  |some b=>Nat.beq a b
theorem Znm{a b:Bool}(h:Zr2 a b=true):a=b:=by cases a<;>cases b<;>simp_all [Zr2]
theorem Za5{a b:Nat}(h:Nat.beq a b=true):a=b:=Nat.eq_of_beq_eq_true h
theorem Yjy{a b:IntKind}(h:Nat.beq (Yfa a) (Yfa b)=true):a=b:=by cases a<;>cases b<;>first|rfl|(exact absurd h (by decide))
theorem Ye8{a b:Int}(h:Yjw a b=true):a=b:=by
 cases a<;>cases b<;>simp only[Yjw,Bool.false_eq_true]at h
 ·rw[Za5 h]
 ·rw[Za5 h]
theorem Zo4:∀{a b:List UInt8},Zsn a b=true→a=b
 |[],[],_=>rfl
 |[],_::_,h=>by simp[Zsn]at h
 |_::_,[],h=>by simp[Zsn]at h
 |a::xs,b::ys,h=>by
  simp only[Zsn]at h
  split at h
  ·rename_i e
   rw[Zo4 h,UInt8.toNat_inj.1 (Za5 e)]
  ·cases h
theorem Zmt{a b:Option Nat}(h:Zqy a b=true):a=b:=by
 cases a<;>cases b<;>simp only[Zqy,Bool.false_eq_true]at h
 ·rfl
 ·rw[Za5 h]
def Yfh:FloatKind→Nat
 |.f32=>0|.f64=>1
theorem Yj2{a b:FloatKind}(h:Nat.beq (Yfh a) (Yfh b)=true):a=b:=by cases a<;>cases b<;>first|rfl|(exact absurd h (by decide))
def V.isBool(x:Bool):V→Bool|.bool y=>Zr2 x y|_=>false
def V.isInt(k:IntKind)(n:Int):V→Bool|.int k' n'=>(match Nat.beq (Yfa k) (Yfa k')with|true=>Yjw n n'|false=>false)|_=>false
def V.isFlt(k:FloatKind)(n:Nat):V→Bool|.flt k' n'=>(match Nat.beq (Yfh k) (Yfh k')with|true=>Nat.beq n n'|false=>false)|_=>false
def V.isStr(s:List UInt8):V→Bool|.str t=>Zsn s t|_=>false
def V.isNilptr:V→Bool|.nilptr=>true|_=>false
def V.isPtr(i o:Nat):V→Bool|.ptr i' o'=>(match Nat.beq i i' with|true=>Nat.beq o o'|false=>false)|_=>false
def V.isNilslice:V→Bool|.nilslice=>true|_=>false
def V.isSlice(i o l:Nat)(c:Option Nat)(z:Nat):V→Bool|.slice i' o' l' c' z'=>Nat.beq i i'&&Nat.beq o o'&&Nat.beq l l'&&Zqy c c'&&Nat.beq z z'|_=>false
def V.isEmpty:V→Bool|.empty=>true|_=>false
def V.isNilmap:V→Bool|.nilmap=>true|_=>false
def V.isMap(i:Nat):V→Bool|.map j=>Nat.beq i j|_=>false
def V.isNilchan:V→Bool|.nilchan=>true|_=>false
def V.isChan(i:Nat):V→Bool|.chan j=>Nat.beq i j|_=>false
def V.isYield(i:Nat):V→Bool|.yield j=>Nat.beq i j|_=>false
def V.isNilfunc:V→Bool|.nilfunc=>true|_=>false
def V.isNiliface:V→Bool|.niliface=>true|_=>false
mutual
def V.beq:V→V→Bool
 |.bool x,b=>b.isBool x
 |.int k n,b=>b.isInt k n
 |.flt k n,b=>b.isFlt k n
 |.str s,b=>b.isStr s
 |.nilptr,b=>b.isNilptr
 |.ptr i o,b=>b.isPtr i o
 |.nilslice,b=>b.isNilslice
 |.slice i o l c z,b=>b.isSlice i o l c z
 |.empty,b=>b.isEmpty
 |.nilmap,b=>b.isNilmap
 |.map i,b=>b.isMap i
 |.nilchan,b=>b.isNilchan
 |.chan i,b=>b.isChan i
 |.func f a c,b=>match b with
  |.func f' a' c'=>Nat.beq f f'&&V.beqs a a'&&V.beqs c c'
  |_=>false
 |.yield i,b=>b.isYield i
 |.nilfunc,b=>b.isNilfunc
 |.iface t v,b=>match b with
  |.iface t' v'=>Nat.beq t t'&&V.beq v v'
  |_=>false
 |.niliface,b=>b.isNiliface
 |.agg l,b=>match b with
  |.agg l'=>V.beqs l l'
  |_=>false
 |.tup l,b=>match b with
  |.tup l'=>V.beqs l l'
  |_=>false
def V.beqs:List V→List V→Bool
 |[],l=>match l with
  |[]=>true
  |_::_=>false
 |a::xs,l=>match l with
  |[]=>false
  |b::ys=>match V.beq a b with
   |true=>V.beqs xs ys
   |false=>false
end
mutual
theorem V.beq_eq:∀(a b:V),V.beq a b=true→a=b
 |.bool x,b,h=>by cases b<;>simp only[V.beq,V.isBool,Bool.false_eq_true]at h;rw[Znm h]
 |.int k n,b,h=>by
  cases b<;>simp only[V.beq,V.isInt,Bool.false_eq_true]at h
  split at h
  ·rename_i e;rw[Yjy e,Ye8 h]
  ·cases h
 |.flt k n,b,h=>by
  cases b<;>simp only[V.beq,V.isFlt,Bool.false_eq_true]at h
  split at h
  ·rename_i e;rw[Yj2 e,Za5 h]
  ·cases h
 |.str s,b,h=>by cases b<;>simp only[V.beq,V.isStr,Bool.false_eq_true]at h;rw[Zo4 h]
 |.nilptr,b,h=>by cases b<;>simp only[V.beq,V.isNilptr,Bool.false_eq_true]at h;rfl
 |.ptr i o,b,h=>by
  cases b<;>simp only[V.beq,V.isPtr,Bool.false_eq_true]at h
  split at h
  ·rename_i e;rw[Za5 e,Za5 h]
  ·cases h
 |.nilslice,b,h=>by cases b<;>simp only[V.beq,V.isNilslice,Bool.false_eq_true]at h;rfl
 |.slice i o l c z,b,h=>by
  cases b<;>simp only[V.beq,V.isSlice,Bool.false_eq_true,Bool.and_eq_true]at h
  obtain⟨⟨⟨⟨h1,h2⟩,h3⟩,h4⟩,h5⟩:=h
  rw[Za5 h1,Za5 h2,Za5 h3,Zmt h4,Za5 h5]
 |.empty,b,h=>by cases b<;>simp only[V.beq,V.isEmpty,Bool.false_eq_true]at h;rfl
 |.nilmap,b,h=>by cases b<;>simp only[V.beq,V.isNilmap,Bool.false_eq_true]at h;rfl
 |.map i,b,h=>by cases b<;>simp only[V.beq,V.isMap,Bool.false_eq_true]at h;rw[Za5 h]
 |.nilchan,b,h=>by cases b<;>simp only[V.beq,V.isNilchan,Bool.false_eq_true]at h;rfl
 |.chan i,b,h=>by cases b<;>simp only[V.beq,V.isChan,Bool.false_eq_true]at h;rw[Za5 h]
 |.func f a c,b,h=>by
  cases b<;>simp only[V.beq,Bool.false_eq_true,Bool.and_eq_true]at h
  obtain⟨⟨h1,h2⟩,h3⟩:=h
  rw[Za5 h1,V.beqs_eq _ _ h2,V.beqs_eq _ _ h3]
 |.yield i,b,h=>by cases b<;>simp only[V.beq,V.isYield,Bool.false_eq_true]at h;rw[Za5 h]
 |.nilfunc,b,h=>by cases b<;>simp only[V.beq,V.isNilfunc,Bool.false_eq_true]at h;rfl
 |.iface t v,b,h=>by
  cases b<;>simp only[V.beq,Bool.false_eq_true,Bool.and_eq_true]at h
  rw[Za5 h.1,V.beq_eq _ _ h.2]
 |.niliface,b,h=>by cases b<;>simp only[V.beq,V.isNiliface,Bool.false_eq_true]at h;rfl
 |.agg l,b,h=>by cases b<;>simp only[V.beq,Bool.false_eq_true]at h;rw[V.beqs_eq _ _ h]
 |.tup l,b,h=>by cases b<;>simp only[V.beq,Bool.false_eq_true]at h;rw[V.beqs_eq _ _ h]
theorem V.beqs_eq:∀(a b:List V),V.beqs a b=true→a=b
 |[],[],_=>rfl
 |[],_::_,h=>by simp[V.beqs]at h
 |_::_,[],h=>by simp[V.beqs]at h
 |a::xs,b::ys,h=>by
  simp only[V.beqs]at h
  split at h
  ·rename_i e;rw[V.beq_eq a b e,V.beqs_eq xs ys h]
  ·cases h
end
def Ylh:List (V×V)→List (V×V)→Bool
 |[],l=>match l with
  |[]=>true
  |_::_=>false
 |(k,v)::xs,l=>match l with
  |[]=>false
  |(k',v')::ys=>V.beq k k'&&V.beq v v'&&Ylh xs ys
theorem Ybw:∀{a b:List (V×V)},Ylh a b=true→a=b
 |[],[],_=>rfl
 |[],_::_,h=>by simp[Ylh]at h
 |_::_,[],h=>by simp[Ylh]at h
 |(k,v)::xs,(k',v')::ys,h=>by
  simp only[Ylh,Bool.and_eq_true]at h
  rw[V.beq_eq _ _ h.1.1,V.beq_eq _ _ h.1.2,Ybw h.2]
def O.beq:O→O→Bool
 |.cells c e rw,b=>match b with
  |.cells c' e' rw'=>Nat.beq e e'&&Zr2 rw rw'&&V.beqs c c'
  |_=>false
 |.map es,b=>match b with
  |.map es'=>Ylh es es'
  |_=>false
 |.chan cap buf,b=>match b with
  |.chan cap' buf'=>Nat.beq cap cap'&&V.beqs buf buf'
  |_=>false
 |.siter s pos,b=>match b with
  |.siter s' pos'=>Zsn s s'&&Nat.beq pos pos'
  |_=>false
 |.defs o,b=>match b with
  |.defs o'=>Zr2 o o'
  |_=>false
 |.loop _,_=>false
 |.dead,b=>match b with
  |.dead=>true
  |_=>false
theorem O.beq_eq{a b:O}(h:O.beq a b=true):a=b:=by
 cases a<;>simp only[O.beq,Bool.false_eq_true]at h<;>cases b<;>simp only[Bool.false_eq_true,Bool.and_eq_true]at h
 ·obtain⟨⟨h1,h2⟩,h3⟩:=h;rw[Za5 h1,Znm h2,V.beqs_eq _ _ h3]
 ·rw[Ybw h]
 ·rw[Za5 h.1,V.beqs_eq _ _ h.2]
 ·rw[Zo4 h.1,Za5 h.2]
 ·rw[Znm h]
 ·rfl
def oEq:Option O→O→Bool
 |some a,b=>O.beq a b
 |none,_=>false
theorem Zz8{a:Option O}{b:O}(h:oEq a b=true):a=some b:=by
 cases a with
 |none=>cases h
 |some a=>rw[O.beq_eq h]
def vEq:Option V→V→Bool
 |some a,b=>V.beq a b
 |none,_=>false
theorem Ylp{a:Option V}{b:V}(h:vEq a b=true):a=some b:=by
 cases a with
 |none=>cases h
 |some a=>rw[V.beq_eq _ _ h]
def Ync:Option (List V)→List V→Bool
 |some a,b=>V.beqs a b
 |none,_=>false
theorem Zsg{a:Option (List V)}{b:List V}(h:Ync a b=true):a=some b:=by
 cases a with
 |none=>cases h
 |some a=>rw[V.beqs_eq _ _ h]
mutual
def V.free:V→Bool
 |.ptr ..|.slice ..|.map _|.chan _|.yield _=>false
 |.func _ a c=>V.frees a&&V.frees c
 |.iface _ v=>V.free v
 |.agg l=>V.frees l
 |.tup l=>V.frees l
 |_=>true
def V.frees:List V→Bool
 |[]=>true
 |v::vs=>V.free v&&V.frees vs
end
mutual
theorem V.free_ren{ρ:Nat→Option Nat}:∀(v:V),V.free v=true→V.ren ρ v=some v
 |.bool _,_=>rfl
 |.int _ _,_=>rfl
 |.flt _ _,_=>rfl
 |.str _,_=>rfl
 |.nilptr,_=>rfl
 |.ptr _ _,h=>by simp[V.free]at h
 |.nilslice,_=>rfl
 |.slice _ _ _ _ _,h=>by simp[V.free]at h
 |.empty,_=>rfl
 |.nilmap,_=>rfl
 |.map _,h=>by simp[V.free]at h
 |.nilchan,_=>rfl
 |.chan _,h=>by simp[V.free]at h
 |.func f a c,h=>by
  simp only[V.free,Bool.and_eq_true]at h
  simp only[V.ren,V.frees_ren a h.1,V.frees_ren c h.2]
 |.yield _,h=>by simp[V.free]at h
 |.nilfunc,_=>rfl
 |.iface t v,h=>by
  simp only[V.free]at h
  simp only[V.ren,V.free_ren v h]
 |.niliface,_=>rfl
 |.agg l,h=>by
  simp only[V.free]at h
  simp only[V.ren,V.frees_ren l h]
 |.tup l,h=>by
  simp only[V.free]at h
  simp only[V.ren,V.frees_ren l h]
theorem V.frees_ren{ρ:Nat→Option Nat}:∀(l:List V),V.frees l=true→V.rens ρ l=some l
 |[],_=>rfl
 |v::vs,h=>by
  simp only[V.frees,Bool.and_eq_true]at h
  simp only[V.rens,V.free_ren v h.1,V.frees_ren vs h.2]
end
def Zlg:Nat→T O
 |0=>.nil
 |n+1=>(Zlg n).set n .dead
theorem Zj3:∀(n i:Nat),i<n→(Zlg n).get i=some .dead
 |0,i,h=>by omega
 |n+1,i,h=>by
  simp only[Zlg,T.get_set]
  by_cases e:i=n
  ·rw[if_pos e]
  ·rw[if_neg e];exact Zj3 n i (by omega)
def base(G:Nat):St:=⟨Zlg G,G,[]⟩
def lk:List (Nat×O)→Nat→Option O
 |[],_=>none
 |(j,o)::l,i=>match Nat.beq j i with
  |true=>some o
  |false=>lk l i
def Zd7(h:T O):List (Nat×O)→T O
 |[]=>h
 |(j,o)::l=>(Zd7 h l).set j o
theorem Zcb(h:T O):∀(l:List (Nat×O)) (i:Nat),(Zd7 h l).get i=match lk l i with|some o=>some o|none=>h.get i
 |[],i=>rfl
 |(j,o)::l,i=>by
  simp only[Zd7,T.get_set,lk]
  by_cases e:i=j
  ·subst e
   rw[if_pos rfl,Nat.beq_refl _]
  ·rw[if_neg e]
   have:Nat.beq j i=false:=by
    cases hb:Nat.beq j i with
    |false=>rfl
    |true=>exact absurd (Nat.eq_of_beq_eq_true hb).symm e
   rw[this]
   exact Zcb h l i
theorem Zrb:∀{l:List (Nat×O)} {i:Nat} {o:O},lk l i=some o→(i,o)∈l
 |(j,o')::l,i,o,h=>by
  simp only[lk]at h
  split at h
  ·rename_i e
   have:=Za5 e
   simp only[Option.some.injEq]at h
   subst h;subst this;exact List.mem_cons_self
  ·exact List.mem_cons_of_mem _ (Zrb h)
theorem Ya5:∀{l:List (Nat×O)} {i:Nat},lk l i=none→∀p∈l,p.1≠i
 |[],_,_,p,hp=>by cases hp
 |(j,o')::l,i,h,p,hp=>by
  simp only[lk]at h
  split at h
  ·cases h
  ·rename_i e
   rcases List.mem_cons.1 hp with rfl|hp
   ·intro hc
    simp only at hc
    subst hc
    have:Nat.beq j j=true:=Nat.beq_refl _
    rw[this]at e;cases e
   ·exact Ya5 h p hp
theorem Yjn{l:List (Nat×O)}{i:Nat}{o:O}(h:(i,o)∈l):∃o',lk l i=some o':=by
 cases hc:lk l i with
 |some o'=>exact⟨o',rfl⟩
 |none=>exact absurd rfl (Ya5 hc _ h)
def Yji(i:Nat):List Nat→Bool
 |[]=>false
 |j::l=>match Nat.beq j i with
  |true=>true
  |false=>Yji i l
theorem Zju{i:Nat}:∀{l:List Nat},Yji i l=true↔i∈l
 |[]=>by simp[Yji]
 |j::l=>by
  simp only[Yji]
  split
  ·rename_i e;simp[Za5 e]
  ·rename_i e
   have:i≠j:=by
    rintro rfl
    have:Nat.beq i i=true:=Nat.beq_refl _
    rw[this]at e;cases e
   simp[Zju,this]
structure Zly where
 f:Nat
 args:List V
 v:V
def O.tab:O→Bool
 |.cells c _ false=>V.frees c
 |_=>false
def Zqf(G:Nat):List (Nat×O)→Bool
 |[]=>true
 |(i,o)::l=>Nat.blt i G&&o.tab&&Zqf G l
theorem O.tab_ren{ρ:Nat→Option Nat}{o:O}(h:o.tab=true):o.ren ρ=some o:=by
 cases o with
 |cells c e rw=>
  cases rw with
  |true=>cases h
  |false=>simp only[O.ren,V.frees_ren c h]
 |_=>cases h
theorem Zl9{G:Nat}:∀{l:List (Nat×O)},Zqf G l=true→∀{i:Nat} {o:O},lk l i=some o→i<G∧o.tab=true
 |(j,o')::l,h,i,o,ho=>by
  simp only[Zqf,Bool.and_eq_true]at h
  simp only[lk]at ho
  split at ho
  ·rename_i e
   simp only[Option.some.injEq]at ho
   rw[←Za5 e,←ho]
   exact⟨Nat.lt_of_succ_le (Nat.le_of_ble_eq_true h.1.1),h.1.2⟩
  ·exact Zl9 h.2 ho
def Zr3(G:Nat)(tb:List (Nat×O)):St:=⟨Zd7 (Zlg G) tb,G,[]⟩
def Zk2(S:St):List (Nat×O)→Bool
 |[]=>true
 |(i,o)::l=>match oEq (S.h.get i) o with
  |true=>Zk2 S l
  |false=>false
theorem Zkp{S:St}:∀{l:List (Nat×O)},Zk2 S l=true→∀p∈l,S.h.get p.1=some p.2
 |[],_,p,hp=>by cases hp
 |(i,o)::l,h,p,hp=>by
  simp only[Zk2]at h
  split at h
  ·rename_i e
   rcases List.mem_cons.1 hp with rfl|hp
   ·exact Zz8 e
   ·exact Zkp h p hp
  ·cases h
def Zly.ok(e:Zly)(tb:List (Nat×O))(G:Nat)(call:Za1):Bool:=
 match call (.func e.f [] []) e.args (Zr3 G tb)with
 |some (v,s)=>match s.w with
  |[]=>V.beq v e.v&&V.free e.v&&V.frees e.args&&Nat.ble G s.n&&Zqf G tb
  |_=>false
 |none=>false
def Yo1(P:Program)(tb:List (Nat×O))(e:Zly):Prop:=∀S,Zk2 S tb=true→Zyr P (.func e.f [] []) e.args S e.v S
theorem Zly.pure{call:Za1}(hc:Zbz P call){tb:List (Nat×O)}{e:Zly}(h:e.ok tb P.globals.size call=true):Yo1 P tb e:=by
 unfold Zly.ok at h
 split at h
 ·rename_i v s hcall
  split at h
  ·rename_i hw
   simp only[Bool.and_eq_true]at h
   obtain⟨⟨⟨⟨h1,h2⟩,h3⟩,h4⟩,h5⟩:=h
   have hv:=V.beq_eq _ _ h1
   subst hv
   intro S hpart μ w Gv xs hh hG hx
   have hpart:=Zkp hpart
   have hn:P.globals.size≤S.n:=by
    apply Nat.le_of_not_lt
    intro hlt
    obtain⟨t,ht⟩:=hh.glob S.n hlt
    have:=(hh.dom _ _ ht).1
    omega
   have F:Zns P (fun i=>if i<P.globals.size then some i else none) (fun i=>if i<P.globals.size then some i else none) [] (Zr3 P.globals.size tb) s S S:={
    dom:=fun i i' hi=>by
     split at hi
     ·rename_i hlt;simp only[Option.some.injEq]at hi;subst hi
      exact⟨hlt,by omega⟩
     ·cases hi
    inj:=fun i j i' hi hj=>by
     split at hi<;>split at hj<;>simp_all
    glob:=fun g hg=>by simp[hg]
    obj:=fun i i' hi=>by
     split at hi
     ·rename_i hlt
      simp only[Option.some.injEq]at hi;subst hi
      cases hl:lk tb i with
      |some o=>
       refine⟨o,o,?_,.inr (.inl (O.tab_ren (Zl9 h5 hl).2)),.inl (hpart _ (Zrb hl))⟩
       show (Zd7 (Zlg P.globals.size) tb).get i=_
       rw[Zcb,hl]
      |none=>
       refine⟨.dead,.dead,?_,.inl rfl,.inr rfl⟩
       show (Zd7 (Zlg P.globals.size) tb).get i=_
       rw[Zcb,hl]
       exact Zj3 _ _ hlt
     ·cases hi
    old:=fun _ _=>rfl
    new:=fun i i' hi hr=>by
     have:P.globals.size≤i:=hi
     rw[if_neg (by omega)]at hr;cases hr
    ninj:=fun i j i' hi _ hr _=>by
     have:P.globals.size≤i:=hi
     rw[if_neg (by omega)]at hr;cases hr
    full:=fun i' h1 h2=>by omega
    nle:=Nat.le_refl _
    w0:=rfl
    W1:=fun i i' hi _=>by rw[hw]at hi;cases hi
    W2:=fun j hj=>by cases hj
    wl:=rfl
    keep:=fun _ _ _=>rfl
    wr:=fun i i' hi _=>by rw[hw]at hi;cases hi
    obn:=fun i i' hi hr=>by
     have:P.globals.size≤i:=hi
     rw[if_neg (by omega)]at hr;cases hr}
   exact(Zyr.frame (hc _ _ _ _ _ hcall) F (V.free_ren _ (by rfl)) (V.frees_ren _ h3) (V.free_ren _ h2)) μ w Gv xs hh hG hx
  ·cases h
 ·cases h
def Zwr:List Zly→Nat→List V→Option V
 |[],_,_=>none
 |e::l,f,args=>match Nat.beq e.f f with
  |true=>match V.beqs e.args args with
   |true=>some e.v
   |false=>Zwr l f args
  |false=>Zwr l f args
def Zws(tb:List (Nat×O))(l:List Zly):Za1
 |.func f [] [],args,st=>match Zwr l f args with
  |some v=>match Zk2 st tb with
   |true=>some (v,st)
   |false=>none
  |none=>none
 |_,_,_=>none
theorem Zmk:∀{l:List Zly} {f:Nat} {args:List V} {v:V},Zwr l f args=some v→∃e∈l,e.f=f∧e.args=args∧e.v=v
 |[],_,_,_,h=>by cases h
 |e::l,f,args,v,h=>by
  simp only[Zwr]at h
  split at h
  ·rename_i e1
   split at h
   ·rename_i e2
    simp only[Option.some.injEq]at h
    exact⟨e,List.mem_cons_self,Za5 e1,V.beqs_eq _ _ e2,h⟩
   ·obtain⟨e',h1,h2⟩:=Zmk h;exact⟨e',List.mem_cons_of_mem _ h1,h2⟩
  ·obtain⟨e',h1,h2⟩:=Zmk h;exact⟨e',List.mem_cons_of_mem _ h1,h2⟩
theorem Zuz{tb:List (Nat×O)}{l:List Zly}(h:∀e∈l,Yo1 P tb e):Zbz P (Zws tb l):=by
 intro g args st v st' hc
 unfold Zws at hc
 split at hc
 ·rename_i f
  split at hc
  ·rename_i u hu
   split at hc
   ·rename_i hp
    simp only[Option.some.injEq,Prod.mk.injEq]at hc
    obtain⟨rfl,rfl⟩:=hc
    obtain⟨e,h1,rfl,rfl,rfl⟩:=Zmk hu
    exact h e h1 st hp
   ·cases hc
  ·cases hc
 ·cases hc
structure Ent where
 f:Nat
 first:List V
 caps:List V
 args:List V
 part:List (Nat×O)
 n:Nat
 v:V
 kept:List (Nat×O)
 wrs:List (Nat×O)
def Ent.st(e:Ent)(G:Nat):St:=⟨Zd7 (Zlg G) e.part,e.n,[]⟩
def sig(G:Nat)(part:List (Nat×O))(i:Nat):Option Nat:=
 match Nat.blt i G with
 |true=>some i
 |false=>match lk part i with
  |some _=>some i
  |none=>none
def idx(i:Nat):List (Nat×O)→Nat→Option Nat
 |[],_=>none
 |(k,_)::l,m=>match Nat.beq k i with
  |true=>some m
  |false=>idx i l (m+1)
def rho(G:Nat)(part:List (Nat×O))(n:Nat)(kept:List (Nat×O))(i:Nat):Option Nat:=
 match Nat.blt i n with
 |true=>sig G part i
 |false=>idx i kept n
def Zgb:List (Nat×O)→Nat→List (Nat×O)
 |[],_=>[]
 |(_,o)::l,m=>(m,o)::Zgb l (m+1)
def Zww(ρ:Nat→Option Nat)(s:St)(i:Nat)(o':O):Bool:=
 match s.h.get i with
 |some o=>match o' with
  |.dead=>true
  |o'=>oEq (o.ren ρ) o'
 |none=>false
def Zvg(ρ:Nat→Option Nat)(s:St)(n:Nat):List (Nat×O)→Nat→Bool
 |[],_=>true
 |(k,o)::l,m=>Zqy (ρ k) (some m)&&Nat.ble n k&&Nat.blt k s.n&&Zww ρ s k o&&Zvg ρ s n l (m+1)
def Ent.chk(e:Ent)(G:Nat)(v:V)(s:St):Bool:=
 Nat.ble G e.n&&Nat.ble e.n s.n&&(e.part.all fun p=>Nat.blt p.1 e.n&&oEq (p.2.ren (sig G e.part)) p.2)&&
 Ync (V.rens (sig G e.part) e.first) e.first&&Ync (V.rens (sig G e.part) e.caps) e.caps&&Ync (V.rens (sig G e.part) e.args) e.args&&
 vEq (V.ren (rho G e.part e.n e.kept) v) e.v&&
 Zvg (rho G e.part e.n e.kept) s e.n e.kept e.n&&
 (s.w.all fun i=>match sig G e.part i with|some _=>Yji i (e.wrs.map (·.1))|none=>true)&&
 (e.wrs.all fun p=>Yji p.1 s.w&&Zqy (sig G e.part p.1) (some p.1)&&Zww (rho G e.part e.n e.kept) s p.1 p.2)
def Ent.ok(e:Ent)(G:Nat)(call:Za1):Bool:=
 match call (.func e.f e.first e.caps) e.args (e.st G)with
 |some (v,s)=>e.chk G v s
 |none=>false
def Ent.out(e:Ent)(S:St):St:=⟨Zd7 (Zd7 S.h e.wrs) (Zgb e.kept e.n),e.n+e.kept.length,e.wrs.map (·.1)++S.w⟩
def Zm7(e:Ent):Za1
 |.func f a c,args,S=>match Nat.beq e.f f with
  |true=>match V.beqs e.args args&&V.beqs e.first a&&V.beqs e.caps c&&Nat.beq S.n e.n&&Zk2 S e.part with
   |true=>some (e.v,e.out S)
   |false=>none
  |false=>none
 |_,_,_=>none
theorem Zjx{i:Nat}:∀{l:List (Nat×O)} {m i':Nat},idx i l m=some i'→m≤i'∧i'<m+l.length∧∃o,l[i'-m]?=some (i,o)
 |[],m,i',h=>by cases h
 |(k,o)::l,m,i',h=>by
  simp only[idx]at h
  split at h
  ·rename_i e
   simp only[Option.some.injEq]at h;subst h
   have:=Za5 e;subst this
   exact⟨Nat.le_refl _,by simp,o,by simp⟩
  ·obtain⟨h1,h2,o',h3⟩:=Zjx h
   refine⟨by omega,by simp;omega,o',?_⟩
   rw[show i'-m=(i'-(m+1))+1 by omega]
   simpa using h3
theorem Zog:∀{l:List (Nat×O)} {m j:Nat} {p:Nat×O},l[j]?=some p→lk (Zgb l m) (m+j)=some p.2
 |[],m,j,p,h=>by simp at h
 |(k,o)::l,m,0,p,h=>by
  simp at h;subst h
  simp[Zgb,lk]
 |(k,o)::l,m,j+1,p,h=>by
  simp only[Zgb,lk]
  have:Nat.beq m (m+(j+1))=false:=by
   cases hb:Nat.beq m (m+(j+1))with
   |false=>rfl
   |true=>have:=Za5 hb;omega
  rw[this,show m+(j+1)=(m+1)+j by omega]
  exact Zog (by simpa using h)
theorem Zk4:∀{l:List (Nat×O)} {m i:Nat},i<m→lk (Zgb l m) i=none
 |[],_,_,_=>rfl
 |(k,o)::l,m,i,h=>by
  simp only[Zgb,lk]
  have:Nat.beq m i=false:=by
   cases hb:Nat.beq m i with
   |false=>rfl
   |true=>have:=Za5 hb;omega
  rw[this]
  exact Zk4 (by omega)
theorem Zok{ρ:Nat→Option Nat}{s:St}{n:Nat}:∀{l:List (Nat×O)} {m:Nat},Zvg ρ s n l m=true→∀{j:Nat} {p:Nat×O},l[j]?=some p→ρ p.1=some (m+j)∧n≤p.1∧p.1<s.n∧Zww ρ s p.1 p.2=true
 |[],m,_,j,p,h=>by simp at h
 |(k,o)::l,m,h,j,p,hj=>by
  simp only[Zvg,Bool.and_eq_true]at h
  obtain⟨⟨⟨⟨h1,h2⟩,h3⟩,h4⟩,h5⟩:=h
  cases j with
  |zero=>
   simp at hj;subst hj
   exact⟨Zmt h1,Nat.le_of_ble_eq_true h2,Nat.lt_of_succ_le (Nat.le_of_ble_eq_true h3),h4⟩
  |succ j=>
   obtain⟨q1,q2⟩:=Zok h5 (j:=j) (by simpa using hj)
   exact⟨by rw[q1];congr 1;omega,q2⟩
theorem Zof{ρ:Nat→Option Nat}{s:St}{o':O}(h:Zww ρ s i o'=true):∃o,s.h.get i=some o∧(o'=.dead∨o.ren ρ=some o'):=by
 unfold Zww at h
 split at h
 ·rename_i o ho
  refine⟨o,ho,?_⟩
  split at h
  ·exact .inl rfl
  ·exact .inr (Zz8 h)
 ·cases h
theorem Zhl{part:List (Nat×O)}{i':Nat}(h:sig G part i=some i'):i'=i∧(i<G∨∃o,lk part i=some o):=by
 unfold sig at h
 split at h
 ·rename_i e
  simp only[Option.some.injEq]at h
  exact⟨h.symm,.inl (Nat.lt_of_succ_le (Nat.le_of_ble_eq_true e))⟩
 ·split at h
  ·rename_i o ho
   simp only[Option.some.injEq]at h
   exact⟨h.symm,.inr ⟨o,ho⟩⟩
  ·cases h
theorem Zya{call:Za1}(hcall:Zbz P call){e:Ent}(h:e.ok P.globals.size call=true):Zbz P (Zm7 e):=by
 intro g args S v S' hc
 unfold Zm7 at hc
 split at hc
 ·rename_i f a c
  split at hc
  ·rename_i hf
   have hf:=Za5 hf
   subst hf
   split at hc
   ·rename_i hcond
    simp only[Bool.and_eq_true]at hcond
    obtain⟨⟨⟨⟨c1,c2⟩,c3⟩,c4⟩,c5⟩:=hcond
    have c1:=V.beqs_eq _ _ c1
    have c2:=V.beqs_eq _ _ c2
    have c3:=V.beqs_eq _ _ c3
    have c4:=Za5 c4
    have c5:=Zkp c5
    simp only[Option.some.injEq,Prod.mk.injEq]at hc
    obtain⟨rfl,rfl⟩:=hc
    subst c1;subst c2;subst c3
    unfold Ent.ok at h
    split at h
    ·rename_i v0 s hrun
     unfold Ent.chk at h
     simp only[Bool.and_eq_true,List.all_eq_true]at h
     obtain⟨⟨⟨⟨⟨⟨⟨⟨⟨k1,k2⟩,k3⟩,k4⟩,k5⟩,k6⟩,k7⟩,k8⟩,k9⟩,k10⟩:=h
     have k1:=Nat.le_of_ble_eq_true k1
     have k2:=Nat.le_of_ble_eq_true k2
     have hpart:∀i o,lk e.part i=some o→i<e.n∧o.ren (sig P.globals.size e.part)=some o∧S.h.get i=some o:=fun i o ho=>by
      have hm:=Zrb ho
      obtain⟨q1,q2⟩:=k3 _ hm
      exact⟨Nat.lt_of_succ_le (Nat.le_of_ble_eq_true q1),Zz8 q2,c5 _ hm⟩
     have hρn:∀i,e.n≤i→rho P.globals.size e.part e.n e.kept i=idx i e.kept e.n:=fun i hi=>by
      unfold rho
      have:Nat.blt i e.n=false:=by
       cases hb:Nat.blt i e.n with
       |false=>rfl
       |true=>have:=Nat.lt_of_succ_le (Nat.le_of_ble_eq_true hb);omega
      rw[this]
     have hkept:∀j p,e.kept[j]?=some p→rho P.globals.size e.part e.n e.kept p.1=some (e.n+j)∧e.n≤p.1∧p.1<s.n∧Zww (rho P.globals.size e.part e.n e.kept) s p.1 p.2=true:=fun j p hj=>Zok k8 hj
     have hlkn:∀j,j<e.n→(e.out S).h.get j=match lk e.wrs j with|some o=>some o|none=>S.h.get j:=fun j hj=>by
      show (Zd7 (Zd7 S.h e.wrs) (Zgb e.kept e.n)).get j=_
      rw[Zcb,Zk4 hj,Zcb]
     have F:Zns P (sig P.globals.size e.part) (rho P.globals.size e.part e.n e.kept) (e.wrs.map (·.1)) (e.st P.globals.size) s S (e.out S):={
      dom:=fun i i' hi=>by
       obtain⟨rfl,hor⟩:=Zhl hi
       have:i'<e.n:=by
        rcases hor with h|⟨o,ho⟩
        ·omega
        ·exact(hpart _ _ ho).1
       exact⟨this,by omega⟩
      inj:=fun i j i' hi hj=>by rw[←(Zhl hi).1,←(Zhl hj).1]
      glob:=fun g hg=>by
       unfold sig
       have:Nat.blt g P.globals.size=true:=Nat.ble_eq_true_of_le hg
       rw[this]
      obj:=fun i i' hi=>by
       obtain⟨rfl,hor⟩:=Zhl hi
       cases hl:lk e.part i' with
       |some o=>
        obtain⟨q1,q2,q3⟩:=hpart _ _ hl
        refine⟨o,o,?_,.inr (.inl q2),.inl q3⟩
        show (Zd7 (Zlg P.globals.size) e.part).get i'=_
        rw[Zcb,hl]
       |none=>
        have hg:i'<P.globals.size:=by
         rcases hor with h|⟨o,ho⟩
         ·exact h
         ·rw[hl]at ho;cases ho
        refine⟨.dead,.dead,?_,.inl rfl,.inr rfl⟩
        show (Zd7 (Zlg P.globals.size) e.part).get i'=_
        rw[Zcb,hl]
        exact Zj3 _ _ hg
      old:=fun i hi=>by
       have:Nat.blt i e.n=true:=Nat.ble_eq_true_of_le hi
       unfold rho;rw[this]
      new:=fun i i' hi hr=>by
       rw[hρn i hi]at hr
       obtain⟨q1,q2,o,q3⟩:=Zjx hr
       obtain⟨_,_,r3,_⟩:=hkept _ _ q3
       exact⟨by omega,q2,r3⟩
      ninj:=fun i j i' hi hj hri hrj=>by
       rw[hρn i hi]at hri
       rw[hρn j hj]at hrj
       obtain⟨_,_,o,q3⟩:=Zjx hri
       obtain⟨_,_,o',q3'⟩:=Zjx hrj
       rw[q3]at q3'
       cases q3';rfl
      full:=fun i' h1 h2=>by
       have h2':i'<e.n+e.kept.length:=h2
       obtain⟨p,hp⟩:∃p,e.kept[i'-e.n]?=some p:=⟨_,List.getElem?_eq_getElem (by omega)⟩
       obtain⟨r1,r2,_,_⟩:=hkept _ _ hp
       exact⟨p.1,r2,by rw[r1];congr 1;omega⟩
      nle:=by show S.n≤e.n+e.kept.length;omega
      w0:=rfl
      W1:=fun i i' hi hs=>by
       obtain⟨rfl,_⟩:=Zhl hs
       have:=k9 _ hi
       rw[hs]at this
       exact Zju.1 this
      W2:=fun j hj=>by
       obtain⟨p,hp,rfl⟩:=List.mem_map.1 hj
       obtain⟨⟨q1,q2⟩,_⟩:=k10 _ hp
       exact⟨p.1,Zju.1 q1,Zmt q2⟩
      wl:=rfl
      keep:=fun j hj hn=>by
       rw[hlkn j (by omega)]
       cases hl:lk e.wrs j with
       |none=>rfl
       |some o=>exact absurd (List.mem_map.2 ⟨_,Zrb hl,rfl⟩) hn
      wr:=fun i i' hi hs=>by
       obtain⟨rfl,hor⟩:=Zhl hs
       have hlt:i'<e.n:=by
        rcases hor with h|⟨o,ho⟩
        ·omega
        ·exact(hpart _ _ ho).1
       have:=k9 _ hi
       rw[hs]at this
       obtain⟨p,hp,hpe⟩:=List.mem_map.1 (Zju.1 this)
       obtain⟨o',ho'⟩:=Yjn (l:=e.wrs) (i:=i') (o:=p.2) (by rw[←hpe];exact hp)
       obtain⟨_,q3⟩:=k10 _ (Zrb ho')
       obtain⟨o,r1,r2⟩:=Zof q3
       exact⟨o,o',r1,by rw[hlkn _ hlt,ho'],r2⟩
      obn:=fun i i' hi hr=>by
       rw[hρn i hi]at hr
       obtain⟨q1,q2,o,q3⟩:=Zjx hr
       obtain⟨_,_,_,r4⟩:=hkept _ _ q3
       obtain⟨o2,t1,t2⟩:=Zof r4
       refine⟨o2,o,t1,?_,t2⟩
       show (Zd7 (Zd7 S.h e.wrs) (Zgb e.kept e.n)).get i'=_
       have:=Zog (m:=e.n) q3
       rw[show e.n+(i'-e.n)=i' by omega]at this
       rw[Zcb,this]}
     refine Zyr.frame (hcall _ _ _ _ _ hrun) F ?_ (Zsg k6) (Ylp k7)
     simp only[V.ren,Zsg k4,Zsg k5]
    ·cases h
   ·cases hc
  ·cases hc
 ·cases hc
def Zgo(x:Za1)(tbl:Nat→Option Zee)(fuel:Nat):Nat→Za1
 |0=>x
 |d+1=>Zd9 x (Zcl tbl (Zbg (Zgo x tbl fuel d) fuel))
theorem Zjv{P:Program}{tbl:Nat→Option Zee}(hm:P.follows .mixedOrders=true)(hE:Zei P)(ht:Zue P tbl){x:Za1}(hx:Zbz P x)(fuel:Nat):∀d,Zbz P (Zgo x tbl fuel d)
 |0=>hx
 |d+1=>by
  have ih:=Zjv hm hE ht hx fuel d
  exact hx.or (Zt6 ht (Ych ih hE (Ybz hm hE ih) (Ygr ih hE) (Zut ih) fuel))
def Yfn:List Ent→Nat→List V→List V→List V→St→Option (V×St)
 |[],_,_,_,_,_=>none
 |e::l,f,a,c,args,S=>match Nat.beq e.f f with
  |true=>match Zm7 e (.func f a c) args S with
   |some r=>some r
   |none=>Yfn l f a c args S
  |false=>Yfn l f a c args S
def Yj8(l:List Ent):Za1
 |.func f a c,args,S=>Yfn l f a c args S
 |_,_,_=>none
theorem Yfo{l:List Ent}(h:∀e∈l,Zbz P (Zm7 e)):Zbz P (Yj8 l):=by
 intro g args S v S' hc
 unfold Yj8 at hc
 split at hc
 ·rename_i f a c
  induction l with
  |nil=>cases hc
  |cons e l ih=>
   simp only[Yfn]at hc
   split at hc
   ·split at hc
    ·rename_i r hr
     cases hc
     exact h e List.mem_cons_self _ _ _ _ _ hr
    ·exact ih (fun e he=>h e (List.mem_cons_of_mem _ he)) hc
   ·exact ih (fun e he=>h e (List.mem_cons_of_mem _ he)) hc
 ·cases hc
def Zyv(tb:List (Nat×O))(L:List Zly)(E:List Ent):Za1:=Zd9 (Zws tb L) (Yj8 E)
structure Zao (P:Program) (tb:List (Nat×O)) (L:List Zly) (E:List Ent):Prop where
 p:∀e∈L,Yo1 P tb e
 e:∀e∈E,Zbz P (Zm7 e)
theorem Zao.call{tb:List (Nat×O)}{L:List Zly}{E:List Ent}(h:Zao P tb L E):Zbz P (Zyv tb L E):=(Zuz h.p).or (Yfo h.e)
theorem Zao.nil{tb:List (Nat×O)}:Zao P tb [] []:=⟨fun _ h=>(by cases h),fun _ h=>(by cases h)⟩
structure Zla (P:Program) (tbl:Nat→Option Zee) (G:Nat):Prop where
 m:P.follows .mixedOrders=true
 e:Zei P
 t:Zue P tbl
 g:P.globals.size=G
theorem Zao.addP{tbl:Nat→Option Zee}{fuel d:Nat}(hP:Zla P tbl G){tb:List (Nat×O)}{L:List Zly}{E:List Ent}(h:Zao P tb L E){e:Zly}(he:e.ok tb G (Zgo (Zyv tb L E) tbl fuel d)=true):Zao P tb (e::L) E:=
 ⟨fun e' hm=>by
  rcases List.mem_cons.1 hm with rfl|hm
  ·exact Zly.pure (Zjv hP.m hP.e hP.t h.call fuel d) (by rw[hP.g];exact he)
  ·exact h.p e' hm,h.e⟩
theorem Zao.addE{tbl:Nat→Option Zee}{fuel d:Nat}(hP:Zla P tbl G){tb:List (Nat×O)}{L:List Zly}{E:List Ent}(h:Zao P tb L E){e:Ent}(he:e.ok G (Zgo (Zyv tb L E) tbl fuel d)=true):Zao P tb L (e::E):=
 ⟨h.p,fun e' hm=>by
  rcases List.mem_cons.1 hm with rfl|hm
  ·exact Zya (Zjv hP.m hP.e hP.t h.call fuel d) (by rw[hP.g];exact he)
  ·exact h.e e' hm⟩
def Yg2(tb:List (Nat×O))(G:Nat)(tbl:Nat→Option Zee)(L:List Zly)(E:List Ent):Bool:=match L with
 |[]=>false
 |e::t=>e.ok tb G (Zgo (Zyv tb t E) tbl 5000 40)
def Ybl(tb:List (Nat×O))(G:Nat)(tbl:Nat→Option Zee)(L:List Zly)(E:List Ent):Bool:=match E with
 |[]=>false
 |e::t=>e.ok G (Zgo (Zyv tb L t) tbl 5000 40)
theorem Zao.p1{P:Program}{tbl:Nat→Option Zee}{G:Nat}(hP:Zla P tbl G){tb:List (Nat×O)}{L:List Zly}{E:List Ent}(h:Zao P tb L.tail E)(he:Yg2 tb G tbl L E=true):Zao P tb L E:=by
 cases L with
 |nil=>exact h
 |cons e t=>exact Zao.addP hP h he
theorem Zao.e1{P:Program}{tbl:Nat→Option Zee}{G:Nat}(hP:Zla P tbl G){tb:List (Nat×O)}{L:List Zly}{E:List Ent}(h:Zao P tb L E.tail)(he:Ybl tb G tbl L E=true):Zao P tb L E:=by
 cases E with
 |nil=>exact h
 |cons e t=>exact Zao.addE hP h he
end Go.Mx
namespace Go.Mx
open Go
section
variable {call:Za1} {f:Nat} {ro:Option Nat} {a b c:Zae} {fr:Fr} {st:St}
end
theorem Yl9{a b:Nat}:Nat.blt a b=decide (a<b):=by
 cases h:Nat.blt a b
 ·symm;simp only[decide_eq_false_iff_not];intro hc;rw[show Nat.blt a b=true from Nat.ble_eq_true_of_le hc]at h;cases h
 ·symm;simp only[decide_eq_true_eq];exact Nat.lt_of_succ_le (Nat.le_of_ble_eq_true h)
theorem Yma{a b:Nat}:Nat.ble a b=decide (a≤b):=by
 cases h:Nat.ble a b
 ·symm;simp only[decide_eq_false_iff_not];intro hc;rw[Nat.ble_eq_true_of_le hc]at h;cases h
 ·symm;simp only[decide_eq_true_eq];exact Nat.le_of_ble_eq_true h
theorem Zai{n:Int}(h1: -9223372036854775808≤n)(h2:n<9223372036854775808):Zap .i64 n=n:=by
 rw[Zdc]
 simp[IntKind.wrap,IntKind.bits,IntKind.signed]
 omega
theorem Zx0{k a b}:Zdl .add k a b=some (.int k (Zap k (a+b))):=rfl
theorem Zxp{k a b}:Zdl .sub k a b=some (.int k (Zap k (a-b))):=rfl
theorem Zxu{k a b}:Zdl .mul k a b=some (.int k (Zap k (a*b))):=rfl
theorem Zxs{k a b}(h:¬b=0):Zdl .quo k a b=some (.int k (Zap k (a.tdiv b))):=by simp[Zdl,h]
theorem Zxr{k a b}(h:¬b=0):Zdl .rem k a b=some (.int k (a.tmod b)):=by simp[Zdl,h]
theorem Zxz{k a b}:Zdl .eql k a b=some (.bool (a==b)):=rfl
theorem Zxt{k a b}:Zdl .neq k a b=some (.bool (a !=b)):=rfl
theorem Zxv{k a b}:Zdl .lss k a b=some (.bool (decide (a<b))):=rfl
theorem Zxw{k a b}:Zdl .leq k a b=some (.bool (decide (a≤b))):=rfl
theorem Zxx{k a b}:Zdl .gtr k a b=some (.bool (decide (a > b))):=rfl
theorem Zxy{k a b}:Zdl .geq k a b=some (.bool (decide (a≥b))):=rfl
theorem Yja(x):mop (.mov x)=Zmo x:=rfl
theorem Yes(a b c):mop (.pick a b c)=Zgx a b c:=rfl
theorem Yar(a b):mop (.alloc a b)=Zhs a b:=rfl
theorem Yje(a b):mop (.box a b)=Zmr a b:=rfl
theorem Yaq(a b):mop (.build a b)=Zem a b:=rfl
theorem Zw9(a b c d e):mop (.bslice a b c d e)=Ze2 a b c d e:=rfl
theorem Yet(a b):mop (.load a b)=Zii a b:=rfl
theorem Yai(a b c):mop (.store a b c)=Zfb a b c:=rfl
theorem Yak(a):mop (.nilck a)=Zf6 a:=rfl
theorem Yjf(a b c d e):mop (.bin a b c d e)=Zms a b c d e:=rfl
theorem Ymc(a b):mop (.un a b)=Zs2 a b:=rfl
theorem Ztn(a b):mop (.convInt a b)=Zdw a b:=rfl
theorem Zw2(a b c):mop (.mkfunc a b c)=Ze0 a b c:=rfl
theorem Yan(a b):mop (.faddr a b)=Zf9 a b:=rfl
theorem Yam(a b c):mop (.field a b c)=Zf8 a b c:=rfl
theorem Zq6(a b c d):mop (.iaddrArr a b c d)=Zb6 a b c d:=rfl
theorem Ztk(a b c):mop (.iaddrSl a b c)=Zc9 a b c:=rfl
theorem Ztl(a b):mop (.extract a b)=Zdv a b:=rfl
theorem Yjb(a b):mop (.len a b)=Zfi a b:=rfl
theorem Yev(a b):mop (.call a b)=Zeg a b:=rfl
structure Ynb (r:Option (V×St)) (v:V):Prop where
 ex:∃s,r=some (v,s)∧s.w=[]
theorem Zx3{u v:V}{s:St}:Ynb (some (u,s)) v↔u=v∧s.w=[]:=
 ⟨fun ⟨_,h1,h2⟩=>by simp only[Option.some.injEq,Prod.mk.injEq]at h1;exact⟨h1.1,h1.2▸h2⟩,fun ⟨h1,h2⟩=>⟨s,by rw[h1],h2⟩⟩
attribute [simp]
 Yja Yes Yar Yje Yaq Zw9 Yet Yai Yak Yjf Ymc Ztn Zw2 Yan Yam Zq6 Ztk Ztl Yjb Yev
 Zmo Zgx Zhs Zmr Zem Ze2 Zii Zf6 Zms Zs2 Zdw Ze0 Zf9 Zf8 Zb6 Zdv Zeg
 Zef wantedV Src.ev T.get_set resV Zql Zaa Yoy Zx0 Zxp Zxu Zxs Zxr Zxz Zxt Zxv Zxw Zxx Zxy Zbs unV Zh0 evOpt Zff Znw Zam V.cells V.one St.alloc St.write St.row Zai Yl9 Yma Zfn Zcn MOp.silent Zve apartOk Zau Zau.go Zau.chk FP.free Zto Nat.testBit Zx3 base
end Go.Mx

