/-Calls that are known-/
import Derived.Test.YtgnadghjglamaaaGreatDoorMxDraw5
import Derived.Below
import Derived.CallsIn
set_option linter.all false
namespace Go.Mx
open Go
variable {G i:Nat} {P:Program}
def Zr6:Bool→Bool→Bool
 |true,b=>b
 |false,true=>false
 |false,false=>true
def Yf2:IntKind→Nat
 |.i8=>0|.i16=>1|.i32=>2|.i64=>3|.u8=>4|.u16=>5|.u32=>6|.u64=>7
def Ykj:Int→Int→Bool
 |.ofNat a,b=>match b with
  |.ofNat b=>Nat.beq a b
  |.negSucc _=>false
 |.negSucc a,b=>match b with
  |.ofNat _=>false
  |.negSucc b=>Nat.beq a b
def Zsr:List UInt8→List UInt8→Bool
 |[],l=>match l with
  |[]=>true
  |_::_=>false
 |a::xs,l=>match l with
  |[]=>false
  |b::ys=>match Nat.beq a.toNat b.toNat with
   |true=>Zsr xs ys
   |false=>false
def Zq0:Option Nat→Option Nat→Bool
 |none,b=>match b with
  |none=>true
  |some _=>false
 |some a,b=>match b with
  |none=>false
  |some b=>Nat.beq a b
def Znt{a b:Bool}(h:Zr6 a b=true):a=b:=by cases a<;>cases b<;>simp_all [Zr6]
def Za3{a b:Nat}(h:Nat.beq a b=true):a=b:=Yvh h
def Ykm{a b:IntKind}(h:Nat.beq (Yf2 a) (Yf2 b)=true):a=b:=by cases a<;>cases b<;>first|rfl|(exact absurd h (by decide))
def Yf0{a b:Int}(h:Ykj a b=true):a=b:=by
 cases a<;>cases b<;>simp only[Ykj,Yr3]at h
 ·rw[Za3 h]
 ·rw[Za3 h]
def Zpd:∀{a b:List UInt8},Zsr a b=true→a=b
 |[],[],_=>rfl
 |[],_::_,h=>by simp[Zsr]at h
 |_::_,[],h=>by simp[Zsr]at h
 |a::xs,b::ys,h=>by
  simp only[Zsr]at h
  split at h
  ·rename_i e
   rw[Zpd h,UInt8.toNat_inj.1 (Za3 e)]
  ·cases h
def Zmz{a b:Option Nat}(h:Zq0 a b=true):a=b:=by
 cases a<;>cases b<;>simp only[Zq0,Yr3]at h
 ·rfl
 ·rw[Za3 h]
def Zyp:FloatKind→Nat
 |.f32=>0|.f64=>1
def Ycn{a b:FloatKind}(h:Nat.beq (Zyp a) (Zyp b)=true):a=b:=by cases a<;>cases b<;>first|rfl|(exact absurd h (by decide))
def V.isBool(x:Bool):V→Bool|.bool y=>Zr6 x y|_=>false
def V.isInt(k:IntKind)(n:Int):V→Bool|.int k' n'=>(match Nat.beq (Yf2 k) (Yf2 k')with|true=>Ykj n n'|false=>false)|_=>false
def V.isFlt(k:FloatKind)(n:Nat):V→Bool|.flt k' n'=>(match Nat.beq (Zyp k) (Zyp k')with|true=>Nat.beq n n'|false=>false)|_=>false
def V.isCpl(k:FloatKind)(m n:Nat):V→Bool|.cpl k' m' n'=>(match Nat.beq (Zyp k) (Zyp k')with|true=>Nat.beq m m'&&Nat.beq n n'|false=>false)|_=>false
def V.isStr(s:List UInt8):V→Bool|.str t=>Zsr s t|_=>false
def V.isNilptr:V→Bool|.nilptr=>true|_=>false
def V.isPtr(i o:Nat):V→Bool|.ptr i' o'=>(match Nat.beq i i' with|true=>Nat.beq o o'|false=>false)|_=>false
def V.isNilslice:V→Bool|.nilslice=>true|_=>false
def V.isSlice(i o l:Nat)(c:Option Nat)(z:Nat):V→Bool|.slice i' o' l' c' z'=>Nat.beq i i'&&Nat.beq o o'&&Nat.beq l l'&&Zq0 c c'&&Nat.beq z z'|_=>false
def V.isEmpty:V→Bool|.empty=>true|_=>false
def V.isNilmap:V→Bool|.nilmap=>true|_=>false
def V.isMap(i:Nat):V→Bool|.map j=>Nat.beq i j|_=>false
def V.isNilchan:V→Bool|.nilchan=>true|_=>false
def V.isChan(i:Nat):V→Bool|.chan j=>Nat.beq i j|_=>false
def V.isYield(i:Nat):V→Bool|.yield j=>Nat.beq i j|_=>false
def V.isNilfunc:V→Bool|.nilfunc=>true|_=>false
def V.isNiliface:V→Bool|.niliface=>true|_=>false
mutual
def V.beq:V→V→Bool
 |.bool x,b=>b.isBool x
 |.int k n,b=>b.isInt k n
 |.flt k n,b=>b.isFlt k n
 |.cpl k m n,b=>b.isCpl k m n
 |.str s,b=>b.isStr s
 |.nilptr,b=>b.isNilptr
 |.ptr i o,b=>b.isPtr i o
 |.nilslice,b=>b.isNilslice
 |.slice i o l c z,b=>b.isSlice i o l c z
 |.empty,b=>b.isEmpty
 |.nilmap,b=>b.isNilmap
 |.map i,b=>b.isMap i
 |.nilchan,b=>b.isNilchan
 |.chan i,b=>b.isChan i
 |.func f a c,b=>match b with
  |.func f' a' c'=>Nat.beq f f'&&V.beqs a a'&&V.beqs c c'
  |_=>false
 |.yield i,b=>b.isYield i
 |.nilfunc,b=>b.isNilfunc
 |.iface t v,b=>match b with
  |.iface t' v'=>Nat.beq t t'&&V.beq v v'
  |_=>false
 |.niliface,b=>b.isNiliface
 |.agg l,b=>match b with
  |.agg l'=>V.beqs l l'
  |_=>false
 |.tup l,b=>match b with
  |.tup l'=>V.beqs l l'
  |_=>false
def V.beqs:List V→List V→Bool
 |[],l=>match l with
  |[]=>true
  |_::_=>false
 |a::xs,l=>match l with
  |[]=>false
  |b::ys=>match V.beq a b with
   |true=>V.beqs xs ys
   |false=>false
end
mutual
def V.beq_eq:∀(a b:V),V.beq a b=true→a=b
 |.bool x,b,h=>by cases b<;>simp only[V.beq,V.isBool,Yr3]at h;rw[Znt h]
 |.int k n,b,h=>by
  cases b<;>simp only[V.beq,V.isInt,Yr3]at h
  split at h
  ·rename_i e;rw[Ykm e,Yf0 h]
  ·cases h
 |.flt k n,b,h=>by
  cases b<;>simp only[V.beq,V.isFlt,Yr3]at h
  split at h
  ·rename_i e;rw[Ycn e,Za3 h]
  ·cases h
 |.cpl k m n,b,h=>by
  cases b<;>simp only[V.beq,V.isCpl,Yr3]at h
  split at h
  ·rename_i e
   rw[Ysd]at h
   rw[Ycn e,Za3 h.1,Za3 h.2]
  ·cases h
 |.str s,b,h=>by cases b<;>simp only[V.beq,V.isStr,Yr3]at h;rw[Zpd h]
 |.nilptr,b,h=>by cases b<;>simp only[V.beq,V.isNilptr,Yr3]at h;rfl
 |.ptr i o,b,h=>by
  cases b<;>simp only[V.beq,V.isPtr,Yr3]at h
  split at h
  ·rename_i e;rw[Za3 e,Za3 h]
  ·cases h
 |.nilslice,b,h=>by cases b<;>simp only[V.beq,V.isNilslice,Yr3]at h;rfl
 |.slice i o l c z,b,h=>by
  cases b<;>simp only[V.beq,V.isSlice,Yr3,Ysd]at h
  obtain⟨⟨⟨⟨h1,h2⟩,h3⟩,h4⟩,h5⟩:=h
  rw[Za3 h1,Za3 h2,Za3 h3,Zmz h4,Za3 h5]
 |.empty,b,h=>by cases b<;>simp only[V.beq,V.isEmpty,Yr3]at h;rfl
 |.nilmap,b,h=>by cases b<;>simp only[V.beq,V.isNilmap,Yr3]at h;rfl
 |.map i,b,h=>by cases b<;>simp only[V.beq,V.isMap,Yr3]at h;rw[Za3 h]
 |.nilchan,b,h=>by cases b<;>simp only[V.beq,V.isNilchan,Yr3]at h;rfl
 |.chan i,b,h=>by cases b<;>simp only[V.beq,V.isChan,Yr3]at h;rw[Za3 h]
 |.func f a c,b,h=>by
  cases b<;>simp only[V.beq,Yr3,Ysd]at h
  obtain⟨⟨h1,h2⟩,h3⟩:=h
  rw[Za3 h1,V.beqs_eq _ _ h2,V.beqs_eq _ _ h3]
 |.yield i,b,h=>by cases b<;>simp only[V.beq,V.isYield,Yr3]at h;rw[Za3 h]
 |.nilfunc,b,h=>by cases b<;>simp only[V.beq,V.isNilfunc,Yr3]at h;rfl
 |.iface t v,b,h=>by
  cases b<;>simp only[V.beq,Yr3,Ysd]at h
  rw[Za3 h.1,V.beq_eq _ _ h.2]
 |.niliface,b,h=>by cases b<;>simp only[V.beq,V.isNiliface,Yr3]at h;rfl
 |.agg l,b,h=>by cases b<;>simp only[V.beq,Yr3]at h;rw[V.beqs_eq _ _ h]
 |.tup l,b,h=>by cases b<;>simp only[V.beq,Yr3]at h;rw[V.beqs_eq _ _ h]
def V.beqs_eq:∀(a b:List V),V.beqs a b=true→a=b
 |[],[],_=>rfl
 |[],_::_,h=>by simp[V.beqs]at h
 |_::_,[],h=>by simp[V.beqs]at h
 |a::xs,b::ys,h=>by
  simp only[V.beqs]at h
  split at h
  ·rename_i e;rw[V.beq_eq a b e,V.beqs_eq xs ys h]
  ·cases h
end
def Ylv:List (V×V)→List (V×V)→Bool
 |[],l=>match l with
  |[]=>true
  |_::_=>false
 |(k,v)::xs,l=>match l with
  |[]=>false
  |(k',v')::ys=>V.beq k k'&&V.beq v v'&&Ylv xs ys
def Ycr:∀{a b:List (V×V)},Ylv a b=true→a=b
 |[],[],_=>rfl
 |[],_::_,h=>by simp[Ylv]at h
 |_::_,[],h=>by simp[Ylv]at h
 |(k,v)::xs,(k',v')::ys,h=>by
  simp only[Ylv,Ysd]at h
  rw[V.beq_eq _ _ h.1.1,V.beq_eq _ _ h.1.2,Ycr h.2]
def O.beq:O→O→Bool
 |.cells c e rw,b=>match b with
  |.cells c' e' rw'=>Nat.beq e e'&&Zr6 rw rw'&&V.beqs c c'
  |_=>false
 |.map es,b=>match b with
  |.map es'=>Ylv es es'
  |_=>false
 |.chan cap buf,b=>match b with
  |.chan cap' buf'=>Nat.beq cap cap'&&V.beqs buf buf'
  |_=>false
 |.siter s pos,b=>match b with
  |.siter s' pos'=>Zsr s s'&&Nat.beq pos pos'
  |_=>false
 |.defs o,b=>match b with
  |.defs o'=>Zr6 o o'
  |_=>false
 |.loop _,_=>false
 |.dead,b=>match b with
  |.dead=>true
  |_=>false
def O.beq_eq{a b:O}(h:O.beq a b=true):a=b:=by
 cases a<;>simp only[O.beq,Yr3]at h<;>cases b<;>simp only[Yr3,Ysd]at h
 ·obtain⟨⟨h1,h2⟩,h3⟩:=h;rw[Za3 h1,Znt h2,V.beqs_eq _ _ h3]
 ·rw[Ycr h]
 ·rw[Za3 h.1,V.beqs_eq _ _ h.2]
 ·rw[Zpd h.1,Za3 h.2]
 ·rw[Znt h]
 ·rfl
def oEq:Option O→O→Bool
 |some a,b=>O.beq a b
 |none,_=>false
def Yaz{a:Option O}{b:O}(h:oEq a b=true):a=some b:=by
 cases a with
 |none=>cases h
 |some a=>rw[O.beq_eq h]
def vEq:Option V→V→Bool
 |some a,b=>V.beq a b
 |none,_=>false
def Yl1{a:Option V}{b:V}(h:vEq a b=true):a=some b:=by
 cases a with
 |none=>cases h
 |some a=>rw[V.beq_eq _ _ h]
def Ynu:Option (List V)→List V→Bool
 |some a,b=>V.beqs a b
 |none,_=>false
def Zsk{a:Option (List V)}{b:List V}(h:Ynu a b=true):a=some b:=by
 cases a with
 |none=>cases h
 |some a=>rw[V.beqs_eq _ _ h]
mutual
def V.free:V→Bool
 |.ptr ..|.slice ..|.map _|.chan _|.yield _=>false
 |.func _ a c=>V.frees a&&V.frees c
 |.iface _ v=>V.free v
 |.agg l=>V.frees l
 |.tup l=>V.frees l
 |_=>true
def V.frees:List V→Bool
 |[]=>true
 |v::vs=>V.free v&&V.frees vs
end
mutual
def V.free_ren{ρ:Nat→Option Nat}:∀(v:V),V.free v=true→V.ren ρ v=some v
 |.bool _,_=>rfl
 |.int _ _,_=>rfl
 |.flt _ _,_=>rfl
 |.cpl _ _ _,_=>rfl
 |.str _,_=>rfl
 |.nilptr,_=>rfl
 |.ptr _ _,h=>by simp[V.free]at h
 |.nilslice,_=>rfl
 |.slice _ _ _ _ _,h=>by simp[V.free]at h
 |.empty,_=>rfl
 |.nilmap,_=>rfl
 |.map _,h=>by simp[V.free]at h
 |.nilchan,_=>rfl
 |.chan _,h=>by simp[V.free]at h
 |.func f a c,h=>by
  simp only[V.free,Ysd]at h
  simp only[V.ren,V.frees_ren a h.1,V.frees_ren c h.2]
 |.yield _,h=>by simp[V.free]at h
 |.nilfunc,_=>rfl
 |.iface t v,h=>by
  simp only[V.free]at h
  simp only[V.ren,V.free_ren v h]
 |.niliface,_=>rfl
 |.agg l,h=>by
  simp only[V.free]at h
  simp only[V.ren,V.frees_ren l h]
 |.tup l,h=>by
  simp only[V.free]at h
  simp only[V.ren,V.frees_ren l h]
def V.frees_ren{ρ:Nat→Option Nat}:∀(l:List V),V.frees l=true→V.rens ρ l=some l
 |[],_=>rfl
 |v::vs,h=>by
  simp only[V.frees,Ysd]at h
  simp only[V.rens,V.free_ren v h.1,V.frees_ren vs h.2]
end
def Zlj:Nat→T O
 |0=>.nil
 |n+1=>(Zlj n).set n .dead
def Zkd:∀(n i:Nat),i<n→(Zlj n).get i=some .dead
 |0,i,h=>by omega
 |n+1,i,h=>by
  simp only[Zlj,T.get_set]
  by_cases e:i=n
  ·rw[Yrw e]
  ·rw[Yrt e];exact Zkd n i (by omega)
def base(G:Nat):St:=⟨Zlj G,G,[]⟩
def lk:List (Nat×O)→Nat→Option O
 |[],_=>none
 |(j,o)::l,i=>match Nat.beq j i with
  |true=>some o
  |false=>lk l i
def Zec(h:T O):List (Nat×O)→T O
 |[]=>h
 |(j,o)::l=>(Zec h l).set j o
def Zcf(h:T O):∀(l:List (Nat×O)) (i:Nat),(Zec h l).get i=match lk l i with|some o=>some o|none=>h.get i
 |[],i=>rfl
 |(j,o)::l,i=>by
  simp only[Zec,T.get_set,lk]
  by_cases e:i=j
  ·subst e
   rw[Yrw rfl,Nat.beq_refl _]
  ·rw[Yrt e]
   have:Nat.beq j i=false:=by
    cases hb:Nat.beq j i with
    |false=>rfl
    |true=>exact absurd (Yvh hb).symm e
   rw[this]
   exact Zcf h l i
def Zrd:∀{l:List (Nat×O)} {i:Nat} {o:O},lk l i=some o→(i,o)∈l
 |(j,o')::l,i,o,h=>by
  simp only[lk]at h
  split at h
  ·rename_i e
   have:=Za3 e
   simp only[Yrs]at h
   subst h;subst this;exact Yst
  ·exact Ysj _ (Zrd h)
def Yb0:∀{l:List (Nat×O)} {i:Nat},lk l i=none→∀p∈l,p.1≠i
 |[],_,_,p,hp=>by cases hp
 |(j,o')::l,i,h,p,hp=>by
  simp only[lk]at h
  split at h
  ·cases h
  ·rename_i e
   rcases Yss.1 hp with rfl|hp
   ·intro hc
    simp only at hc
    subst hc
    have:Nat.beq j j=true:=Nat.beq_refl _
    rw[this]at e;cases e
   ·exact Yb0 h p hp
def Ykb{l:List (Nat×O)}{i:Nat}{o:O}(h:(i,o)∈l):∃o',lk l i=some o':=by
 cases hc:lk l i with
 |some o'=>exact⟨o',rfl⟩
 |none=>exact absurd rfl (Yb0 hc _ h)
def Yj6(i:Nat):List Nat→Bool
 |[]=>false
 |j::l=>match Nat.beq j i with
  |true=>true
  |false=>Yj6 i l
def Zj1{i:Nat}:∀{l:List Nat},Yj6 i l=true↔i∈l
 |[]=>by simp[Yj6]
 |j::l=>by
  simp only[Yj6]
  split
  ·rename_i e;simp[Za3 e]
  ·rename_i e
   have:i≠j:=by
    rintro rfl
    have:Nat.beq i i=true:=Nat.beq_refl _
    rw[this]at e;cases e
   simp[Zj1,this]
structure Zl4 where
 f:Nat
 args:List V
 v:V
def O.tab:O→Bool
 |.cells c _ false=>V.frees c
 |_=>false
def Zql(G:Nat):List (Nat×O)→Bool
 |[]=>true
 |(i,o)::l=>Nat.blt i G&&o.tab&&Zql G l
def O.tab_ren{ρ:Nat→Option Nat}{o:O}(h:o.tab=true):o.ren ρ=some o:=by
 cases o with
 |cells c e rw=>
  cases rw with
  |true=>cases h
  |false=>simp only[O.ren,V.frees_ren c h]
 |_=>cases h
def Zmd{G:Nat}:∀{l:List (Nat×O)},Zql G l=true→∀{i:Nat} {o:O},lk l i=some o→i<G∧o.tab=true
 |(j,o')::l,h,i,o,ho=>by
  simp only[Zql,Ysd]at h
  simp only[lk]at ho
  split at ho
  ·rename_i e
   simp only[Yrs]at ho
   rw[←Za3 e,←ho]
   exact⟨Yue (Ysx h.1.1),h.1.2⟩
  ·exact Zmd h.2 ho
def Zr8(G:Nat)(tb:List (Nat×O)):St:=⟨Zec (Zlj G) tb,G,[]⟩
def Zla(S:St):List (Nat×O)→Bool
 |[]=>true
 |(i,o)::l=>match oEq (S.h.get i) o with
  |true=>Zla S l
  |false=>false
def Zkv{S:St}:∀{l:List (Nat×O)},Zla S l=true→∀p∈l,S.h.get p.1=some p.2
 |[],_,p,hp=>by cases hp
 |(i,o)::l,h,p,hp=>by
  simp only[Zla]at h
  split at h
  ·rename_i e
   rcases Yss.1 hp with rfl|hp
   ·exact Yaz e
   ·exact Zkv h p hp
  ·cases h
def Zl4.ok(e:Zl4)(tb:List (Nat×O))(G:Nat)(call:Za1):Bool:=
 match call (.func e.f [] []) e.args (Zr8 G tb)with
 |some (v,s)=>match s.w with
  |[]=>V.beq v e.v&&V.free e.v&&V.frees e.args&&Nat.ble G s.n&&Zql G tb
  |_=>false
 |none=>false
def Ypv(P:Program)(tb:List (Nat×O))(e:Zl4):Prop:=∀S,Zla S tb=true→Zzg P (.func e.f [] []) e.args S e.v S
def Zl4.pure{call:Za1}(hc:Zbx P call){tb:List (Nat×O)}{e:Zl4}(h:e.ok tb P.globals.size call=true):Ypv P tb e:=by
 unfold Zl4.ok at h
 split at h
 ·rename_i v s hcall
  split at h
  ·rename_i hw
   simp only[Ysd]at h
   obtain⟨⟨⟨⟨h1,h2⟩,h3⟩,h4⟩,h5⟩:=h
   have hv:=V.beq_eq _ _ h1
   subst hv
   intro S hpart μ w Gv xs hh hG hx
   have hpart:=Zkv hpart
   have hn:P.globals.size≤S.n:=by
    apply Ytr
    intro hlt
    obtain⟨t,ht⟩:=hh.glob S.n hlt
    have:=(hh.dom _ _ ht).1
    omega
   have F:Zn0 P (fun i=>if i<P.globals.size then some i else none) (fun i=>if i<P.globals.size then some i else none) [] (Zr8 P.globals.size tb) s S S:={
    dom:=fun i i' hi=>by
     split at hi
     ·rename_i hlt;simp only[Yrs]at hi;subst hi
      exact⟨hlt,by omega⟩
     ·cases hi
    inj:=fun i j i' hi hj=>by
     split at hi<;>split at hj<;>simp_all
    glob:=fun g hg=>by simp[hg]
    obj:=fun i i' hi=>by
     split at hi
     ·rename_i hlt
      simp only[Yrs]at hi;subst hi
      cases hl:lk tb i with
      |some o=>
       refine⟨o,o,?_,.inr (.inl (O.tab_ren (Zmd h5 hl).2)),.inl (hpart _ (Zrd hl))⟩
       show (Zec (Zlj P.globals.size) tb).get i=_
       rw[Zcf,hl]
      |none=>
       refine⟨.dead,.dead,?_,.inl rfl,.inr rfl⟩
       show (Zec (Zlj P.globals.size) tb).get i=_
       rw[Zcf,hl]
       exact Zkd _ _ hlt
     ·cases hi
    old:=fun _ _=>rfl
    new:=fun i i' hi hr=>by
     have:P.globals.size≤i:=hi
     rw[Yrt (by omega)]at hr;cases hr
    ninj:=fun i j i' hi _ hr _=>by
     have:P.globals.size≤i:=hi
     rw[Yrt (by omega)]at hr;cases hr
    full:=fun i' h1 h2=>by omega
    nle:=Yru _
    w0:=rfl
    W1:=fun i i' hi _=>by rw[hw]at hi;cases hi
    W2:=fun j hj=>by cases hj
    wl:=rfl
    keep:=fun _ _ _=>rfl
    wr:=fun i i' hi _=>by rw[hw]at hi;cases hi
    obn:=fun i i' hi hr=>by
     have:P.globals.size≤i:=hi
     rw[Yrt (by omega)]at hr;cases hr}
   exact(Zzg.frame (hc _ _ _ _ _ hcall) F (V.free_ren _ (by rfl)) (V.frees_ren _ h3) (V.free_ren _ h2)) μ w Gv xs hh hG hx
  ·cases h
 ·cases h
def Zxc:List Zl4→Nat→List V→Option V
 |[],_,_=>none
 |e::l,f,args=>match Nat.beq e.f f with
  |true=>match V.beqs e.args args with
   |true=>some e.v
   |false=>Zxc l f args
  |false=>Zxc l f args
def Zxd(tb:List (Nat×O))(l:List Zl4):Za1
 |.func f [] [],args,st=>match Zxc l f args with
  |some v=>match Zla st tb with
   |true=>some (v,st)
   |false=>none
  |none=>none
 |_,_,_=>none
def Zmo:∀{l:List Zl4} {f:Nat} {args:List V} {v:V},Zxc l f args=some v→∃e∈l,e.f=f∧e.args=args∧e.v=v
 |[],_,_,_,h=>by cases h
 |e::l,f,args,v,h=>by
  simp only[Zxc]at h
  split at h
  ·rename_i e1
   split at h
   ·rename_i e2
    simp only[Yrs]at h
    exact⟨e,Yst,Za3 e1,V.beqs_eq _ _ e2,h⟩
   ·obtain⟨e',h1,h2⟩:=Zmo h;exact⟨e',Ysj _ h1,h2⟩
  ·obtain⟨e',h1,h2⟩:=Zmo h;exact⟨e',Ysj _ h1,h2⟩
def Zve{tb:List (Nat×O)}{l:List Zl4}(h:∀e∈l,Ypv P tb e):Zbx P (Zxd tb l):=by
 intro g args st v st' hc
 unfold Zxd at hc
 split at hc
 ·rename_i f
  split at hc
  ·rename_i u hu
   split at hc
   ·rename_i hp
    simp only[Yrs,Yrv]at hc
    obtain⟨rfl,rfl⟩:=hc
    obtain⟨e,h1,rfl,rfl,rfl⟩:=Zmo hu
    exact h e h1 st hp
   ·cases hc
  ·cases hc
 ·cases hc
structure Ent where
 f:Nat
 first:List V
 caps:List V
 args:List V
 part:List (Nat×O)
 n:Nat
 v:V
 kept:List (Nat×O)
 wrs:List (Nat×O)
def Ent.st(e:Ent)(G:Nat):St:=⟨Zec (Zlj G) e.part,e.n,[]⟩
def sig(G:Nat)(part:List (Nat×O))(i:Nat):Option Nat:=
 match Nat.blt i G with
 |true=>some i
 |false=>match lk part i with
  |some _=>some i
  |none=>none
def idx(i:Nat):List (Nat×O)→Nat→Option Nat
 |[],_=>none
 |(k,_)::l,m=>match Nat.beq k i with
  |true=>some m
  |false=>idx i l (m+1)
def rho(G:Nat)(part:List (Nat×O))(n:Nat)(kept:List (Nat×O))(i:Nat):Option Nat:=
 match Nat.blt i n with
 |true=>sig G part i
 |false=>idx i kept n
def Zgd:List (Nat×O)→Nat→List (Nat×O)
 |[],_=>[]
 |(_,o)::l,m=>(m,o)::Zgd l (m+1)
def Zxh(ρ:Nat→Option Nat)(s:St)(i:Nat)(o':O):Bool:=
 match s.h.get i with
 |some o=>match o' with
  |.dead=>true
  |o'=>oEq (o.ren ρ) o'
 |none=>false
def Zvx(ρ:Nat→Option Nat)(s:St)(n:Nat):List (Nat×O)→Nat→Bool
 |[],_=>true
 |(k,o)::l,m=>Zq0 (ρ k) (some m)&&Nat.ble n k&&Nat.blt k s.n&&Zxh ρ s k o&&Zvx ρ s n l (m+1)
def Ent.chk(e:Ent)(G:Nat)(v:V)(s:St):Bool:=
 Nat.ble G e.n&&Nat.ble e.n s.n&&(e.part.all fun p=>Nat.blt p.1 e.n&&oEq (p.2.ren (sig G e.part)) p.2)&&
 Ynu (V.rens (sig G e.part) e.first) e.first&&Ynu (V.rens (sig G e.part) e.caps) e.caps&&Ynu (V.rens (sig G e.part) e.args) e.args&&
 vEq (V.ren (rho G e.part e.n e.kept) v) e.v&&
 Zvx (rho G e.part e.n e.kept) s e.n e.kept e.n&&
 (s.w.all fun i=>match sig G e.part i with|some _=>Yj6 i (e.wrs.map (·.1))|none=>true)&&
 (e.wrs.all fun p=>Yj6 p.1 s.w&&Zq0 (sig G e.part p.1) (some p.1)&&Zxh (rho G e.part e.n e.kept) s p.1 p.2)
def Ent.ok(e:Ent)(G:Nat)(call:Za1):Bool:=
 match call (.func e.f e.first e.caps) e.args (e.st G)with
 |some (v,s)=>e.chk G v s
 |none=>false
def Ent.out(e:Ent)(S:St):St:=⟨Zec (Zec S.h e.wrs) (Zgd e.kept e.n),e.n+e.kept.length,e.wrs.map (·.1)++S.w⟩
def Zne(e:Ent):Za1
 |.func f a c,args,S=>match Nat.beq e.f f with
  |true=>match V.beqs e.args args&&V.beqs e.first a&&V.beqs e.caps c&&Nat.beq S.n e.n&&Zla S e.part with
   |true=>some (e.v,e.out S)
   |false=>none
  |false=>none
 |_,_,_=>none
def Zj5{i:Nat}:∀{l:List (Nat×O)} {m i':Nat},idx i l m=some i'→m≤i'∧i'<m+l.length∧∃o,l[i'-m]?=some (i,o)
 |[],m,i',h=>by cases h
 |(k,o)::l,m,i',h=>by
  simp only[idx]at h
  split at h
  ·rename_i e
   simp only[Yrs]at h;subst h
   have:=Za3 e;subst this
   exact⟨Yru _,by simp,o,by simp⟩
  ·obtain⟨h1,h2,o',h3⟩:=Zj5 h
   refine⟨by omega,by simp;omega,o',?_⟩
   rw[show i'-m=(i'-(m+1))+1 by omega]
   simpa using h3
def Zoq:∀{l:List (Nat×O)} {m j:Nat} {p:Nat×O},l[j]?=some p→lk (Zgd l m) (m+j)=some p.2
 |[],m,j,p,h=>by simp at h
 |(k,o)::l,m,0,p,h=>by
  simp at h;subst h
  simp[Zgd,lk]
 |(k,o)::l,m,j+1,p,h=>by
  simp only[Zgd,lk]
  have:Nat.beq m (m+(j+1))=false:=by
   cases hb:Nat.beq m (m+(j+1))with
   |false=>rfl
   |true=>have:=Za3 hb;omega
  rw[this,show m+(j+1)=(m+1)+j by omega]
  exact Zoq (by simpa using h)
def Zlb:∀{l:List (Nat×O)} {m i:Nat},i<m→lk (Zgd l m) i=none
 |[],_,_,_=>rfl
 |(k,o)::l,m,i,h=>by
  simp only[Zgd,lk]
  have:Nat.beq m i=false:=by
   cases hb:Nat.beq m i with
   |false=>rfl
   |true=>have:=Za3 hb;omega
  rw[this]
  exact Zlb (by omega)
def Zou{ρ:Nat→Option Nat}{s:St}{n:Nat}:∀{l:List (Nat×O)} {m:Nat},Zvx ρ s n l m=true→∀{j:Nat} {p:Nat×O},l[j]?=some p→ρ p.1=some (m+j)∧n≤p.1∧p.1<s.n∧Zxh ρ s p.1 p.2=true
 |[],m,_,j,p,h=>by simp at h
 |(k,o)::l,m,h,j,p,hj=>by
  simp only[Zvx,Ysd]at h
  obtain⟨⟨⟨⟨h1,h2⟩,h3⟩,h4⟩,h5⟩:=h
  cases j with
  |zero=>
   simp at hj;subst hj
   exact⟨Zmz h1,Ysx h2,Yue (Ysx h3),h4⟩
  |succ j=>
   obtain⟨q1,q2⟩:=Zou h5 (j:=j) (by simpa using hj)
   exact⟨by rw[q1];congr 1;omega,q2⟩
def Zop{ρ:Nat→Option Nat}{s:St}{o':O}(h:Zxh ρ s i o'=true):∃o,s.h.get i=some o∧(o'=.dead∨o.ren ρ=some o'):=by
 unfold Zxh at h
 split at h
 ·rename_i o ho
  refine⟨o,ho,?_⟩
  split at h
  ·exact .inl rfl
  ·exact .inr (Yaz h)
 ·cases h
def Zht{part:List (Nat×O)}{i':Nat}(h:sig G part i=some i'):i'=i∧(i<G∨∃o,lk part i=some o):=by
 unfold sig at h
 split at h
 ·rename_i e
  simp only[Yrs]at h
  exact⟨h.symm,.inl (Yue (Ysx e))⟩
 ·split at h
  ·rename_i o ho
   simp only[Yrs]at h
   exact⟨h.symm,.inr ⟨o,ho⟩⟩
  ·cases h
def Zyy{call:Za1}(hcall:Zbx P call){e:Ent}(h:e.ok P.globals.size call=true):Zbx P (Zne e):=by
 intro g args S v S' hc
 unfold Zne at hc
 split at hc
 ·rename_i f a c
  split at hc
  ·rename_i hf
   have hf:=Za3 hf
   subst hf
   split at hc
   ·rename_i hcond
    simp only[Ysd]at hcond
    obtain⟨⟨⟨⟨c1,c2⟩,c3⟩,c4⟩,c5⟩:=hcond
    have c1:=V.beqs_eq _ _ c1
    have c2:=V.beqs_eq _ _ c2
    have c3:=V.beqs_eq _ _ c3
    have c4:=Za3 c4
    have c5:=Zkv c5
    simp only[Yrs,Yrv]at hc
    obtain⟨rfl,rfl⟩:=hc
    subst c1;subst c2;subst c3
    unfold Ent.ok at h
    split at h
    ·rename_i v0 s hrun
     unfold Ent.chk at h
     simp only[Ysd,Ys5]at h
     obtain⟨⟨⟨⟨⟨⟨⟨⟨⟨k1,k2⟩,k3⟩,k4⟩,k5⟩,k6⟩,k7⟩,k8⟩,k9⟩,k10⟩:=h
     have k1:=Ysx k1
     have k2:=Ysx k2
     have hpart:∀i o,lk e.part i=some o→i<e.n∧o.ren (sig P.globals.size e.part)=some o∧S.h.get i=some o:=fun i o ho=>by
      have hm:=Zrd ho
      obtain⟨q1,q2⟩:=k3 _ hm
      exact⟨Yue (Ysx q1),Yaz q2,c5 _ hm⟩
     have hρn:∀i,e.n≤i→rho P.globals.size e.part e.n e.kept i=idx i e.kept e.n:=fun i hi=>by
      unfold rho
      have:Nat.blt i e.n=false:=by
       cases hb:Nat.blt i e.n with
       |false=>rfl
       |true=>have:=Yue (Ysx hb);omega
      rw[this]
     have hkept:∀j p,e.kept[j]?=some p→rho P.globals.size e.part e.n e.kept p.1=some (e.n+j)∧e.n≤p.1∧p.1<s.n∧Zxh (rho P.globals.size e.part e.n e.kept) s p.1 p.2=true:=fun j p hj=>Zou k8 hj
     have hlkn:∀j,j<e.n→(e.out S).h.get j=match lk e.wrs j with|some o=>some o|none=>S.h.get j:=fun j hj=>by
      show (Zec (Zec S.h e.wrs) (Zgd e.kept e.n)).get j=_
      rw[Zcf,Zlb hj,Zcf]
     have F:Zn0 P (sig P.globals.size e.part) (rho P.globals.size e.part e.n e.kept) (e.wrs.map (·.1)) (e.st P.globals.size) s S (e.out S):={
      dom:=fun i i' hi=>by
       obtain⟨rfl,hor⟩:=Zht hi
       have:i'<e.n:=by
        rcases hor with h|⟨o,ho⟩
        ·omega
        ·exact(hpart _ _ ho).1
       exact⟨this,by omega⟩
      inj:=fun i j i' hi hj=>by rw[←(Zht hi).1,←(Zht hj).1]
      glob:=fun g hg=>by
       unfold sig
       have:Nat.blt g P.globals.size=true:=Yvj hg
       rw[this]
      obj:=fun i i' hi=>by
       obtain⟨rfl,hor⟩:=Zht hi
       cases hl:lk e.part i' with
       |some o=>
        obtain⟨q1,q2,q3⟩:=hpart _ _ hl
        refine⟨o,o,?_,.inr (.inl q2),.inl q3⟩
        show (Zec (Zlj P.globals.size) e.part).get i'=_
        rw[Zcf,hl]
       |none=>
        have hg:i'<P.globals.size:=by
         rcases hor with h|⟨o,ho⟩
         ·exact h
         ·rw[hl]at ho;cases ho
        refine⟨.dead,.dead,?_,.inl rfl,.inr rfl⟩
        show (Zec (Zlj P.globals.size) e.part).get i'=_
        rw[Zcf,hl]
        exact Zkd _ _ hg
      old:=fun i hi=>by
       have:Nat.blt i e.n=true:=Yvj hi
       unfold rho;rw[this]
      new:=fun i i' hi hr=>by
       rw[hρn i hi]at hr
       obtain⟨q1,q2,o,q3⟩:=Zj5 hr
       obtain⟨_,_,r3,_⟩:=hkept _ _ q3
       exact⟨by omega,q2,r3⟩
      ninj:=fun i j i' hi hj hri hrj=>by
       rw[hρn i hi]at hri
       rw[hρn j hj]at hrj
       obtain⟨_,_,o,q3⟩:=Zj5 hri
       obtain⟨_,_,o',q3'⟩:=Zj5 hrj
       rw[q3]at q3'
       cases q3';rfl
      full:=fun i' h1 h2=>by
       have h2':i'<e.n+e.kept.length:=h2
       obtain⟨p,hp⟩:∃p,e.kept[i'-e.n]?=some p:=⟨_,Yrx (by omega)⟩
       obtain⟨r1,r2,_,_⟩:=hkept _ _ hp
       exact⟨p.1,r2,by rw[r1];congr 1;omega⟩
      nle:=by show S.n≤e.n+e.kept.length;omega
      w0:=rfl
      W1:=fun i i' hi hs=>by
       obtain⟨rfl,_⟩:=Zht hs
       have:=k9 _ hi
       rw[hs]at this
       exact Zj1.1 this
      W2:=fun j hj=>by
       obtain⟨p,hp,rfl⟩:=Ytq.1 hj
       obtain⟨⟨q1,q2⟩,_⟩:=k10 _ hp
       exact⟨p.1,Zj1.1 q1,Zmz q2⟩
      wl:=rfl
      keep:=fun j hj hn=>by
       rw[hlkn j (by omega)]
       cases hl:lk e.wrs j with
       |none=>rfl
       |some o=>exact absurd (Ytq.2 ⟨_,Zrd hl,rfl⟩) hn
      wr:=fun i i' hi hs=>by
       obtain⟨rfl,hor⟩:=Zht hs
       have hlt:i'<e.n:=by
        rcases hor with h|⟨o,ho⟩
        ·omega
        ·exact(hpart _ _ ho).1
       have:=k9 _ hi
       rw[hs]at this
       obtain⟨p,hp,hpe⟩:=Ytq.1 (Zj1.1 this)
       obtain⟨o',ho'⟩:=Ykb (l:=e.wrs) (i:=i') (o:=p.2) (by rw[←hpe];exact hp)
       obtain⟨_,q3⟩:=k10 _ (Zrd ho')
       obtain⟨o,r1,r2⟩:=Zop q3
       exact⟨o,o',r1,by rw[hlkn _ hlt,ho'],r2⟩
      obn:=fun i i' hi hr=>by
       rw[hρn i hi]at hr
       obtain⟨q1,q2,o,q3⟩:=Zj5 hr
       obtain⟨_,_,_,r4⟩:=hkept _ _ q3
       obtain⟨o2,t1,t2⟩:=Zop r4
       refine⟨o2,o,t1,?_,t2⟩
       show (Zec (Zec S.h e.wrs) (Zgd e.kept e.n)).get i'=_
       have:=Zoq (m:=e.n) q3
       rw[show e.n+(i'-e.n)=i' by omega]at this
       rw[Zcf,this]}
     refine Zzg.frame (hcall _ _ _ _ _ hrun) F ?_ (Zsk k6) (Yl1 k7)
     simp only[V.ren,Zsk k4,Zsk k5]
    ·cases h
   ·cases hc
  ·cases hc
 ·cases hc
def Zgr(x:Za1)(tbl:Nat→Option Zej)(fuel:Nat):Nat→Za1
 |0=>x
 |d+1=>Zee x (Zcq tbl (Zbh (Zgr x tbl fuel d) fuel))
def Zj3{P:Program}{tbl:Nat→Option Zej}(hm:P.follows .mixedOrders=true)(hE:Zeo P)(ht:Zus P tbl){x:Za1}(hx:Zbx P x)(fuel:Nat):∀d,Zbx P (Zgr x tbl fuel d)
 |0=>hx
 |d+1=>by
  have ih:=Zj3 hm hE ht hx fuel d
  exact hx.or (Zuk ht (Ydd ih hE (Yct hm hE ih) (Yhh ih hE) (Zu6 ih) fuel))
def Ygd:List Ent→Nat→List V→List V→List V→St→Option (V×St)
 |[],_,_,_,_,_=>none
 |e::l,f,a,c,args,S=>match Nat.beq e.f f with
  |true=>match Zne e (.func f a c) args S with
   |some r=>some r
   |none=>Ygd l f a c args S
  |false=>Ygd l f a c args S
def Ykx(l:List Ent):Za1
 |.func f a c,args,S=>Ygd l f a c args S
 |_,_,_=>none
def Yge{l:List Ent}(h:∀e∈l,Zbx P (Zne e)):Zbx P (Ykx l):=by
 intro g args S v S' hc
 unfold Ykx at hc
 split at hc
 ·rename_i f a c
  induction l with
  |nil=>cases hc
  |cons e l ih=>
   simp only[Ygd]at hc
   split at hc
   ·split at hc
    ·rename_i r hr
     cases hc
     exact h e Yst _ _ _ _ _ hr
    ·exact ih (fun e he=>h e (Ysj _ he)) hc
   ·exact ih (fun e he=>h e (Ysj _ he)) hc
 ·cases hc
def Zzi(tb:List (Nat×O))(L:List Zl4)(E:List Ent):Za1:=Zee (Zxd tb L) (Ykx E)
structure Zad (P:Program) (tb:List (Nat×O)) (L:List Zl4) (E:List Ent):Prop where
 p:∀e∈L,Ypv P tb e
 e:∀e∈E,Zbx P (Zne e)
def Zad.call{tb:List (Nat×O)}{L:List Zl4}{E:List Ent}(h:Zad P tb L E):Zbx P (Zzi tb L E):=(Zve h.p).or (Yge h.e)
def Zad.nil{tb:List (Nat×O)}:Zad P tb [] []:=⟨fun _ h=>(by cases h),fun _ h=>(by cases h)⟩
structure Zlg (P:Program) (tbl:Nat→Option Zej) (G:Nat):Prop where
 m:P.follows .mixedOrders=true
 e:Zeo P
 t:Zus P tbl
 g:P.globals.size=G
def Zad.addP{tbl:Nat→Option Zej}{fuel d:Nat}(hP:Zlg P tbl G){tb:List (Nat×O)}{L:List Zl4}{E:List Ent}(h:Zad P tb L E){e:Zl4}(he:e.ok tb G (Zgr (Zzi tb L E) tbl fuel d)=true):Zad P tb (e::L) E:=
 ⟨fun e' hm=>by
  rcases Yss.1 hm with rfl|hm
  ·exact Zl4.pure (Zj3 hP.m hP.e hP.t h.call fuel d) (by rw[hP.g];exact he)
  ·exact h.p e' hm,h.e⟩
def Zad.addE{tbl:Nat→Option Zej}{fuel d:Nat}(hP:Zlg P tbl G){tb:List (Nat×O)}{L:List Zl4}{E:List Ent}(h:Zad P tb L E){e:Ent}(he:e.ok G (Zgr (Zzi tb L E) tbl fuel d)=true):Zad P tb L (e::E):=
 ⟨h.p,fun e' hm=>by
  rcases Yss.1 hm with rfl|hm
  ·exact Zyy (Zj3 hP.m hP.e hP.t h.call fuel d) (by rw[hP.g];exact he)
  ·exact h.e e' hm⟩
def Yht(tb:List (Nat×O))(G:Nat)(tbl:Nat→Option Zej)(L:List Zl4)(E:List Ent):Bool:=match L with
 |[]=>false
 |e::t=>e.ok tb G (Zgr (Zzi tb t E) tbl 5000 40)
def Ycf(tb:List (Nat×O))(G:Nat)(tbl:Nat→Option Zej)(L:List Zl4)(E:List Ent):Bool:=match E with
 |[]=>false
 |e::t=>e.ok G (Zgr (Zzi tb L t) tbl 5000 40)
def Zad.p1{P:Program}{tbl:Nat→Option Zej}{G:Nat}(hP:Zlg P tbl G){tb:List (Nat×O)}{L:List Zl4}{E:List Ent}(h:Zad P tb L.tail E)(he:Yht tb G tbl L E=true):Zad P tb L E:=by
 cases L with
 |nil=>exact h
 |cons e t=>exact Zad.addP hP h he
def Zad.e1{P:Program}{tbl:Nat→Option Zej}{G:Nat}(hP:Zlg P tbl G){tb:List (Nat×O)}{L:List Zl4}{E:List Ent}(h:Zad P tb L E.tail)(he:Ycf tb G tbl L E=true):Zad P tb L E:=by
 cases E with
 |nil=>exact h
 |cons e t=>exact Zad.addE hP h he
section
variable {call:Za1} {f:Nat} {ro:Option Nat} {a b c:Zaw} {fr:Fr} {st:St}
end
def Ymo{a b:Nat}:Nat.blt a b=decide (a<b):=by
 cases h:Nat.blt a b
 ·symm;simp only[decide_eq_false_iff_not];intro hc;rw[show Nat.blt a b=true from Yvj hc]at h;cases h
 ·symm;simp only[decide_eq_true_eq];exact Yue (Ysx h)
def Ymp{a b:Nat}:Nat.ble a b=decide (a≤b):=by
 cases h:Nat.ble a b
 ·symm;simp only[decide_eq_false_iff_not];intro hc;rw[Yvj hc]at h;cases h
 ·symm;simp only[decide_eq_true_eq];exact Ysx h
def Zah{n:Int}(h1: -9223372036854775808≤n)(h2:n<9223372036854775808):Zap .i64 n=n:=by
 rw[Zdg]
 simp[IntKind.wrap,IntKind.bits,IntKind.signed]
 omega
def Zyj{k a b}:Zdo .add k a b=some (.int k (Zap k (a+b))):=rfl
def Zx8{k a b}:Zdo .sub k a b=some (.int k (Zap k (a-b))):=rfl
def Zyd{k a b}:Zdo .mul k a b=some (.int k (Zap k (a*b))):=rfl
def Zyb{k a b}(h:¬b=0):Zdo .quo k a b=some (.int k (Zap k (a.tdiv b))):=by simp[Zdo,h]
def Zya{k a b}(h:¬b=0):Zdo .rem k a b=some (.int k (a.tmod b)):=by simp[Zdo,h]
def Zyi{k a b}:Zdo .eql k a b=some (.bool (a==b)):=rfl
def Zyc{k a b}:Zdo .neq k a b=some (.bool (a !=b)):=rfl
def Zye{k a b}:Zdo .lss k a b=some (.bool (decide (a<b))):=rfl
def Zyf{k a b}:Zdo .leq k a b=some (.bool (decide (a≤b))):=rfl
def Zyg{k a b}:Zdo .gtr k a b=some (.bool (decide (a > b))):=rfl
def Zyh{k a b}:Zdo .geq k a b=some (.bool (decide (a≥b))):=rfl
def Yjy(x):mop (.mov x)=Zms x:=rfl
def Yfo(a b c):mop (.pick a b c)=Zgz a b c:=rfl
def Ybm(a b):mop (.alloc a b)=Zhz a b:=rfl
def Yj2(a b):mop (.box a b)=Zmx a b:=rfl
def Ybl(a b):mop (.build a b)=Zer a b:=rfl
def Zxt(a b c d e):mop (.bslice a b c d e)=Ze1 a b c d e:=rfl
def Yfp(a b):mop (.load a b)=Zip a b:=rfl
def Ybd(a b c):mop (.store a b c)=Zfb a b c:=rfl
def Ybf(a):mop (.nilck a)=Zf8 a:=rfl
def Yj3(a b c d e):mop (.bin a b c d e)=Zmy a b c d e:=rfl
def Ymr(a b):mop (.un a b)=Zta a b:=rfl
def Ztx(a b):mop (.convInt a b)=Zd0 a b:=rfl
def Zxm(a b c):mop (.mkfunc a b c)=Zez a b c:=rfl
def Ybi(a b):mop (.faddr a b)=Zgb a b:=rfl
def Ybh(a b c):mop (.field a b c)=Zga a b c:=rfl
def Zq7(a b c d):mop (.iaddrArr a b c d)=Zca a b c d:=rfl
def Ztu(a b c):mop (.iaddrSl a b c)=Zde a b c:=rfl
def Ztv(a b):mop (.extract a b)=Zdz a b:=rfl
def Yjz(a b):mop (.len a b)=Zfh a b:=rfl
def Yfr(a b):mop (.call a b)=Zem a b:=rfl
structure Yns (r:Option (V×St)) (v:V):Prop where
 ex:∃s,r=some (v,s)∧s.w=[]
def Zym{u v:V}{s:St}:Yns (some (u,s)) v↔u=v∧s.w=[]:=
 ⟨fun ⟨_,h1,h2⟩=>by simp only[Yrs,Yrv]at h1;exact⟨h1.1,h1.2▸h2⟩,fun ⟨h1,h2⟩=>⟨s,by rw[h1],h2⟩⟩
attribute [simp]
 Yjy Yfo Ybm Yj2 Ybl Zxt Yfp Ybd Ybf Yj3 Ymr Ztx Zxm Ybi Ybh Zq7 Ztu Ztv Yjz Yfr
 Zms Zgz Zhz Zmx Zer Ze1 Zip Zf8 Zmy Zta Zd0 Zez Zgb Zga Zca Zdz Zem
 Zek wantedV Src.ev T.get_set resV Zqr Zae Ypl Zyj Zx8 Zyd Zyb Zya Zyi Zyc Zye Zyf Zyg Zyh Zbo unV Zhd evOpt Zfe Zn5 Zaj V.cells V.one St.alloc St.write St.row Zah Ymo Ymp Zfm Zcr MOp.silent Zvv apartOk Zal Zal.go Zal.chk FP.free Zj2 Nat.testBit Zym base
end Go.Mx

