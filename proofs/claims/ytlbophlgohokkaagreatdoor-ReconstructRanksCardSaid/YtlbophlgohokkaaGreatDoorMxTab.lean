/-
  Calls that are known: a table of runs over small heaps stands in for the runs themselves.
-/
import Derived.Test.YtlbophlgohokkaaGreatDoorMxDraw5
import Derived.Below
import Derived.CallsIn
set_option linter.all false
namespace Go.Mx
open Go
variable {G i:Nat} {P:Program}
def Zq4:Bool→Bool→Bool
 |true,b=>b
 |false,true=>false
 |false,false=>true
def Ydu:IntKind→Nat
 |.i8=>0|.i16=>1|.i32=>2|.i64=>3|.u8=>4|.u16=>5|.u32=>6|.u64=>7
def Yia:Int→Int→Bool
 |.ofNat a,b=>match b with
  |.ofNat b=>Nat.beq a b
  |.negSucc _=>false
 |.negSucc a,b=>match b with
  |.ofNat _=>false
  |.negSucc b=>Nat.beq a b
def Zrl:List UInt8→List UInt8→Bool
 |[],l=>match l with
  |[]=>true
  |_::_=>false
 |a::xs,l=>match l with
  |[]=>false
  |b::ys=>match Nat.beq a.toNat b.toNat with
   |true=>Zrl xs ys
   |false=>false
def Zp1:Option Nat→Option Nat→Bool
 |none,b=>match b with
  |none=>true
  |some _=>false
 |some a,b=>match b with
  |none=>false
  |some b=>Nat.beq a b
theorem Zmn{a b:Bool}(h:Zq4 a b=true):a=b:=by cases a<;>cases b<;>simp_all [Zq4]
theorem Zaz{a b:Nat}(h:Nat.beq a b=true):a=b:=Ysp h
theorem Yic{a b:IntKind}(h:Nat.beq (Ydu a) (Ydu b)=true):a=b:=by cases a<;>cases b<;>first|rfl|(exact absurd h (by decide))
theorem Yds{a b:Int}(h:Yia a b=true):a=b:=by
 cases a<;>cases b<;>simp only[Yia,Ypa]at h
 ·rw[Zaz h]
 ·rw[Zaz h]
theorem Zn8:∀{a b:List UInt8},Zrl a b=true→a=b
 |[],[],_=>rfl
 |[],_::_,h=>by simp[Zrl]at h
 |_::_,[],h=>by simp[Zrl]at h
 |a::xs,b::ys,h=>by
  simp only[Zrl]at h
  split at h
  ·rename_i e
   rw[Zn8 h,UInt8.toNat_inj.1 (Zaz e)]
  ·cases h
theorem Zlz{a b:Option Nat}(h:Zp1 a b=true):a=b:=by
 cases a<;>cases b<;>simp only[Zp1,Ypa]at h
 ·rfl
 ·rw[Zaz h]
def Yd0:FloatKind→Nat
 |.f32=>0|.f64=>1
theorem Yij{a b:FloatKind}(h:Nat.beq (Yd0 a) (Yd0 b)=true):a=b:=by cases a<;>cases b<;>first|rfl|(exact absurd h (by decide))
def V.isBool(x:Bool):V→Bool|.bool y=>Zq4 x y|_=>false
def V.isInt(k:IntKind)(n:Int):V→Bool|.int k' n'=>(match Nat.beq (Ydu k) (Ydu k')with|true=>Yia n n'|false=>false)|_=>false
def V.isFlt(k:FloatKind)(n:Nat):V→Bool|.flt k' n'=>(match Nat.beq (Yd0 k) (Yd0 k')with|true=>Nat.beq n n'|false=>false)|_=>false
def V.isStr(s:List UInt8):V→Bool|.str t=>Zrl s t|_=>false
def V.isNilptr:V→Bool|.nilptr=>true|_=>false
def V.isPtr(i o:Nat):V→Bool|.ptr i' o'=>(match Nat.beq i i' with|true=>Nat.beq o o'|false=>false)|_=>false
def V.isNilslice:V→Bool|.nilslice=>true|_=>false
def V.isSlice(i o l:Nat)(c:Option Nat)(z:Nat):V→Bool|.slice i' o' l' c' z'=>Nat.beq i i'&&Nat.beq o o'&&Nat.beq l l'&&Zp1 c c'&&Nat.beq z z'|_=>false
def V.isEmpty:V→Bool|.empty=>true|_=>false
def V.isNilmap:V→Bool|.nilmap=>true|_=>false
def V.isMap(i:Nat):V→Bool|.map j=>Nat.beq i j|_=>false
def V.isNilchan:V→Bool|.nilchan=>true|_=>false
def V.isChan(i:Nat):V→Bool|.chan j=>Nat.beq i j|_=>false
def V.isYield(i:Nat):V→Bool|.yield j=>Nat.beq i j|_=>false
def V.isNilfunc:V→Bool|.nilfunc=>true|_=>false
def V.isNiliface:V→Bool|.niliface=>true|_=>false
mutual
def V.beq:V→V→Bool
 |.bool x,b=>b.isBool x
 |.int k n,b=>b.isInt k n
 |.flt k n,b=>b.isFlt k n
 |.str s,b=>b.isStr s
 |.nilptr,b=>b.isNilptr
 |.ptr i o,b=>b.isPtr i o
 |.nilslice,b=>b.isNilslice
 |.slice i o l c z,b=>b.isSlice i o l c z
 |.empty,b=>b.isEmpty
 |.nilmap,b=>b.isNilmap
 |.map i,b=>b.isMap i
 |.nilchan,b=>b.isNilchan
 |.chan i,b=>b.isChan i
 |.func f a c,b=>match b with
  |.func f' a' c'=>Nat.beq f f'&&V.beqs a a'&&V.beqs c c'
  |_=>false
 |.yield i,b=>b.isYield i
 |.nilfunc,b=>b.isNilfunc
 |.iface t v,b=>match b with
  |.iface t' v'=>Nat.beq t t'&&V.beq v v'
  |_=>false
 |.niliface,b=>b.isNiliface
 |.agg l,b=>match b with
  |.agg l'=>V.beqs l l'
  |_=>false
 |.tup l,b=>match b with
  |.tup l'=>V.beqs l l'
  |_=>false
def V.beqs:List V→List V→Bool
 |[],l=>match l with
  |[]=>true
  |_::_=>false
 |a::xs,l=>match l with
  |[]=>false
  |b::ys=>match V.beq a b with
   |true=>V.beqs xs ys
   |false=>false
end
mutual
theorem V.beq_eq:∀(a b:V),V.beq a b=true→a=b
 |.bool x,b,h=>by cases b<;>simp only[V.beq,V.isBool,Ypa]at h;rw[Zmn h]
 |.int k n,b,h=>by
  cases b<;>simp only[V.beq,V.isInt,Ypa]at h
  split at h
  ·rename_i e;rw[Yic e,Yds h]
  ·cases h
 |.flt k n,b,h=>by
  cases b<;>simp only[V.beq,V.isFlt,Ypa]at h
  split at h
  ·rename_i e;rw[Yij e,Zaz h]
  ·cases h
 |.str s,b,h=>by cases b<;>simp only[V.beq,V.isStr,Ypa]at h;rw[Zn8 h]
 |.nilptr,b,h=>by cases b<;>simp only[V.beq,V.isNilptr,Ypa]at h;rfl
 |.ptr i o,b,h=>by
  cases b<;>simp only[V.beq,V.isPtr,Ypa]at h
  split at h
  ·rename_i e;rw[Zaz e,Zaz h]
  ·cases h
 |.nilslice,b,h=>by cases b<;>simp only[V.beq,V.isNilslice,Ypa]at h;rfl
 |.slice i o l c z,b,h=>by
  cases b<;>simp only[V.beq,V.isSlice,Ypa,Ypj]at h
  obtain⟨⟨⟨⟨h1,h2⟩,h3⟩,h4⟩,h5⟩:=h
  rw[Zaz h1,Zaz h2,Zaz h3,Zlz h4,Zaz h5]
 |.empty,b,h=>by cases b<;>simp only[V.beq,V.isEmpty,Ypa]at h;rfl
 |.nilmap,b,h=>by cases b<;>simp only[V.beq,V.isNilmap,Ypa]at h;rfl
 |.map i,b,h=>by cases b<;>simp only[V.beq,V.isMap,Ypa]at h;rw[Zaz h]
 |.nilchan,b,h=>by cases b<;>simp only[V.beq,V.isNilchan,Ypa]at h;rfl
 |.chan i,b,h=>by cases b<;>simp only[V.beq,V.isChan,Ypa]at h;rw[Zaz h]
 |.func f a c,b,h=>by
  cases b<;>simp only[V.beq,Ypa,Ypj]at h
  obtain⟨⟨h1,h2⟩,h3⟩:=h
  rw[Zaz h1,V.beqs_eq _ _ h2,V.beqs_eq _ _ h3]
 |.yield i,b,h=>by cases b<;>simp only[V.beq,V.isYield,Ypa]at h;rw[Zaz h]
 |.nilfunc,b,h=>by cases b<;>simp only[V.beq,V.isNilfunc,Ypa]at h;rfl
 |.iface t v,b,h=>by
  cases b<;>simp only[V.beq,Ypa,Ypj]at h
  rw[Zaz h.1,V.beq_eq _ _ h.2]
 |.niliface,b,h=>by cases b<;>simp only[V.beq,V.isNiliface,Ypa]at h;rfl
 |.agg l,b,h=>by cases b<;>simp only[V.beq,Ypa]at h;rw[V.beqs_eq _ _ h]
 |.tup l,b,h=>by cases b<;>simp only[V.beq,Ypa]at h;rw[V.beqs_eq _ _ h]
theorem V.beqs_eq:∀(a b:List V),V.beqs a b=true→a=b
 |[],[],_=>rfl
 |[],_::_,h=>by simp[V.beqs]at h
 |_::_,[],h=>by simp[V.beqs]at h
 |a::xs,b::ys,h=>by
  simp only[V.beqs]at h
  split at h
  ·rename_i e;rw[V.beq_eq a b e,V.beqs_eq xs ys h]
  ·cases h
end
def Yjp:List (V×V)→List (V×V)→Bool
 |[],l=>match l with
  |[]=>true
  |_::_=>false
 |(k,v)::xs,l=>match l with
  |[]=>false
  |(k',v')::ys=>V.beq k k'&&V.beq v v'&&Yjp xs ys
theorem Yaj:∀{a b:List (V×V)},Yjp a b=true→a=b
 |[],[],_=>rfl
 |[],_::_,h=>by simp[Yjp]at h
 |_::_,[],h=>by simp[Yjp]at h
 |(k,v)::xs,(k',v')::ys,h=>by
  simp only[Yjp,Ypj]at h
  rw[V.beq_eq _ _ h.1.1,V.beq_eq _ _ h.1.2,Yaj h.2]
def O.beq:O→O→Bool
 |.cells c e rw,b=>match b with
  |.cells c' e' rw'=>Nat.beq e e'&&Zq4 rw rw'&&V.beqs c c'
  |_=>false
 |.map es,b=>match b with
  |.map es'=>Yjp es es'
  |_=>false
 |.chan cap buf,b=>match b with
  |.chan cap' buf'=>Nat.beq cap cap'&&V.beqs buf buf'
  |_=>false
 |.siter s pos,b=>match b with
  |.siter s' pos'=>Zrl s s'&&Nat.beq pos pos'
  |_=>false
 |.defs o,b=>match b with
  |.defs o'=>Zq4 o o'
  |_=>false
 |.loop _,_=>false
 |.dead,b=>match b with
  |.dead=>true
  |_=>false
theorem O.beq_eq{a b:O}(h:O.beq a b=true):a=b:=by
 cases a<;>simp only[O.beq,Ypa]at h<;>cases b<;>simp only[Ypa,Ypj]at h
 ·obtain⟨⟨h1,h2⟩,h3⟩:=h;rw[Zaz h1,Zmn h2,V.beqs_eq _ _ h3]
 ·rw[Yaj h]
 ·rw[Zaz h.1,V.beqs_eq _ _ h.2]
 ·rw[Zn8 h.1,Zaz h.2]
 ·rw[Zmn h]
 ·rfl
def oEq:Option O→O→Bool
 |some a,b=>O.beq a b
 |none,_=>false
theorem Zy4{a:Option O}{b:O}(h:oEq a b=true):a=some b:=by
 cases a with
 |none=>cases h
 |some a=>rw[O.beq_eq h]
def vEq:Option V→V→Bool
 |some a,b=>V.beq a b
 |none,_=>false
theorem Yjw{a:Option V}{b:V}(h:vEq a b=true):a=some b:=by
 cases a with
 |none=>cases h
 |some a=>rw[V.beq_eq _ _ h]
def Yll:Option (List V)→List V→Bool
 |some a,b=>V.beqs a b
 |none,_=>false
theorem Zrg{a:Option (List V)}{b:List V}(h:Yll a b=true):a=some b:=by
 cases a with
 |none=>cases h
 |some a=>rw[V.beqs_eq _ _ h]
mutual
def V.free:V→Bool
 |.ptr ..|.slice ..|.map _|.chan _|.yield _=>false
 |.func _ a c=>V.frees a&&V.frees c
 |.iface _ v=>V.free v
 |.agg l=>V.frees l
 |.tup l=>V.frees l
 |_=>true
def V.frees:List V→Bool
 |[]=>true
 |v::vs=>V.free v&&V.frees vs
end
mutual
theorem V.free_ren{ρ:Nat→Option Nat}:∀(v:V),V.free v=true→V.ren ρ v=some v
 |.bool _,_=>rfl
 |.int _ _,_=>rfl
 |.flt _ _,_=>rfl
 |.str _,_=>rfl
 |.nilptr,_=>rfl
 |.ptr _ _,h=>by simp[V.free]at h
 |.nilslice,_=>rfl
 |.slice _ _ _ _ _,h=>by simp[V.free]at h
 |.empty,_=>rfl
 |.nilmap,_=>rfl
 |.map _,h=>by simp[V.free]at h
 |.nilchan,_=>rfl
 |.chan _,h=>by simp[V.free]at h
 |.func f a c,h=>by
  simp only[V.free,Ypj]at h
  simp only[V.ren,V.frees_ren a h.1,V.frees_ren c h.2]
 |.yield _,h=>by simp[V.free]at h
 |.nilfunc,_=>rfl
 |.iface t v,h=>by
  simp only[V.free]at h
  simp only[V.ren,V.free_ren v h]
 |.niliface,_=>rfl
 |.agg l,h=>by
  simp only[V.free]at h
  simp only[V.ren,V.frees_ren l h]
 |.tup l,h=>by
  simp only[V.free]at h
  simp only[V.ren,V.frees_ren l h]
theorem V.frees_ren{ρ:Nat→Option Nat}:∀(l:List V),V.frees l=true→V.rens ρ l=some l
 |[],_=>rfl
 |v::vs,h=>by
  simp only[V.frees,Ypj]at h
  simp only[V.rens,V.free_ren v h.1,V.frees_ren vs h.2]
end
def Zkn:Nat→T O
 |0=>.nil
 |n+1=>(Zkn n).set n .dead
theorem Zjh:∀(n i:Nat),i<n→(Zkn n).get i=some .dead
 |0,i,h=>by omega
 |n+1,i,h=>by
  simp only[Zkn,T.get_set]
  by_cases e:i=n
  ·rw[Yo4 e]
  ·rw[Yo0 e];exact Zjh n i (by omega)
def base(G:Nat):St:=⟨Zkn G,G,[]⟩
def lk:List (Nat×O)→Nat→Option O
 |[],_=>none
 |(j,o)::l,i=>match Nat.beq j i with
  |true=>some o
  |false=>lk l i
def Zd2(h:T O):List (Nat×O)→T O
 |[]=>h
 |(j,o)::l=>(Zd2 h l).set j o
theorem Zb5(h:T O):∀(l:List (Nat×O)) (i:Nat),(Zd2 h l).get i=match lk l i with|some o=>some o|none=>h.get i
 |[],i=>rfl
 |(j,o)::l,i=>by
  simp only[Zd2,T.get_set,lk]
  by_cases e:i=j
  ·subst e
   rw[Yo4 rfl,Nat.beq_refl _]
  ·rw[Yo0 e]
   have:Nat.beq j i=false:=by
    cases hb:Nat.beq j i with
    |false=>rfl
    |true=>exact absurd (Ysp hb).symm e
   rw[this]
   exact Zb5 h l i
theorem Zqe:∀{l:List (Nat×O)} {i:Nat} {o:O},lk l i=some o→(i,o)∈l
 |(j,o')::l,i,o,h=>by
  simp only[lk]at h
  split at h
  ·rename_i e
   have:=Zaz e
   simp only[Yox]at h
   subst h;subst this;exact Ypw
  ·exact Ypo _ (Zqe h)
theorem Zzy:∀{l:List (Nat×O)} {i:Nat},lk l i=none→∀p∈l,p.1≠i
 |[],_,_,p,hp=>by cases hp
 |(j,o')::l,i,h,p,hp=>by
  simp only[lk]at h
  split at h
  ·cases h
  ·rename_i e
   rcases Ypy.1 hp with rfl|hp
   ·intro hc
    simp only at hc
    subst hc
    have:Nat.beq j j=true:=Nat.beq_refl _
    rw[this]at e;cases e
   ·exact Zzy h p hp
theorem Yh2{l:List (Nat×O)}{i:Nat}{o:O}(h:(i,o)∈l):∃o',lk l i=some o':=by
 cases hc:lk l i with
 |some o'=>exact⟨o',rfl⟩
 |none=>exact absurd rfl (Zzy hc _ h)
def Yhv(i:Nat):List Nat→Bool
 |[]=>false
 |j::l=>match Nat.beq j i with
  |true=>true
  |false=>Yhv i l
theorem Zi9{i:Nat}:∀{l:List Nat},Yhv i l=true↔i∈l
 |[]=>by simp[Yhv]
 |j::l=>by
  simp only[Yhv]
  split
  ·rename_i e;simp[Zaz e]
  ·rename_i e
   have:i≠j:=by
    rintro rfl
    have:Nat.beq i i=true:=Nat.beq_refl _
    rw[this]at e;cases e
   simp[Zi9,this]
structure Zk6 where
 f:Nat
 args:List V
 v:V
def O.tab:O→Bool
 |.cells c _ false=>V.frees c
 |_=>false
def Zpj(G:Nat):List (Nat×O)→Bool
 |[]=>true
 |(i,o)::l=>Nat.blt i G&&o.tab&&Zpj G l
theorem O.tab_ren{ρ:Nat→Option Nat}{o:O}(h:o.tab=true):o.ren ρ=some o:=by
 cases o with
 |cells c e rw=>
  cases rw with
  |true=>cases h
  |false=>simp only[O.ren,V.frees_ren c h]
 |_=>cases h
theorem Zlg{G:Nat}:∀{l:List (Nat×O)},Zpj G l=true→∀{i:Nat} {o:O},lk l i=some o→i<G∧o.tab=true
 |(j,o')::l,h,i,o,ho=>by
  simp only[Zpj,Ypj]at h
  simp only[lk]at ho
  split at ho
  ·rename_i e
   simp only[Yox]at ho
   rw[←Zaz e,←ho]
   exact⟨Yrj (Yp1 h.1.1),h.1.2⟩
  ·exact Zlg h.2 ho
def Zq6(G:Nat)(tb:List (Nat×O)):St:=⟨Zd2 (Zkn G) tb,G,[]⟩
def Zj8(S:St):List (Nat×O)→Bool
 |[]=>true
 |(i,o)::l=>match oEq (S.h.get i) o with
  |true=>Zj8 S l
  |false=>false
theorem Zjz{S:St}:∀{l:List (Nat×O)},Zj8 S l=true→∀p∈l,S.h.get p.1=some p.2
 |[],_,p,hp=>by cases hp
 |(i,o)::l,h,p,hp=>by
  simp only[Zj8]at h
  split at h
  ·rename_i e
   rcases Ypy.1 hp with rfl|hp
   ·exact Zy4 e
   ·exact Zjz h p hp
  ·cases h
def Zk6.ok(e:Zk6)(tb:List (Nat×O))(G:Nat)(call:Zay):Bool:=
 match call (.func e.f [] []) e.args (Zq6 G tb)with
 |some (v,s)=>match s.w with
  |[]=>V.beq v e.v&&V.free e.v&&V.frees e.args&&Nat.ble G s.n&&Zpj G tb
  |_=>false
 |none=>false
def Ym6(P:Program)(tb:List (Nat×O))(e:Zk6):Prop:=∀S,Zj8 S tb=true→Zxq P (.func e.f [] []) e.args S e.v S
theorem Zk6.pure{call:Zay}(hc:Zbn P call){tb:List (Nat×O)}{e:Zk6}(h:e.ok tb P.globals.size call=true):Ym6 P tb e:=by
 unfold Zk6.ok at h
 split at h
 ·rename_i v s hcall
  split at h
  ·rename_i hw
   simp only[Ypj]at h
   obtain⟨⟨⟨⟨h1,h2⟩,h3⟩,h4⟩,h5⟩:=h
   have hv:=V.beq_eq _ _ h1
   subst hv
   intro S hpart μ w Gv xs hh hG hx
   have hpart:=Zjz hpart
   have hn:P.globals.size≤S.n:=by
    apply Yqv
    intro hlt
    obtain⟨t,ht⟩:=hh.glob S.n hlt
    have:=(hh.dom _ _ ht).1
    omega
   have F:Zms P (fun i=>if i<P.globals.size then some i else none) (fun i=>if i<P.globals.size then some i else none) [] (Zq6 P.globals.size tb) s S S:={
    dom:=fun i i' hi=>by
     split at hi
     ·rename_i hlt;simp only[Yox]at hi;subst hi
      exact⟨hlt,by omega⟩
     ·cases hi
    inj:=fun i j i' hi hj=>by
     split at hi<;>split at hj<;>simp_all
    glob:=fun g hg=>by simp[hg]
    obj:=fun i i' hi=>by
     split at hi
     ·rename_i hlt
      simp only[Yox]at hi;subst hi
      cases hl:lk tb i with
      |some o=>
       refine⟨o,o,?_,.inr (.inl (O.tab_ren (Zlg h5 hl).2)),.inl (hpart _ (Zqe hl))⟩
       show (Zd2 (Zkn P.globals.size) tb).get i=_
       rw[Zb5,hl]
      |none=>
       refine⟨.dead,.dead,?_,.inl rfl,.inr rfl⟩
       show (Zd2 (Zkn P.globals.size) tb).get i=_
       rw[Zb5,hl]
       exact Zjh _ _ hlt
     ·cases hi
    old:=fun _ _=>rfl
    new:=fun i i' hi hr=>by
     have:P.globals.size≤i:=hi
     rw[Yo0 (by omega)]at hr;cases hr
    ninj:=fun i j i' hi _ hr _=>by
     have:P.globals.size≤i:=hi
     rw[Yo0 (by omega)]at hr;cases hr
    full:=fun i' h1 h2=>by omega
    nle:=Yoy _
    w0:=rfl
    W1:=fun i i' hi _=>by rw[hw]at hi;cases hi
    W2:=fun j hj=>by cases hj
    wl:=rfl
    keep:=fun _ _ _=>rfl
    wr:=fun i i' hi _=>by rw[hw]at hi;cases hi
    obn:=fun i i' hi hr=>by
     have:P.globals.size≤i:=hi
     rw[Yo0 (by omega)]at hr;cases hr}
   exact(Zxq.frame (hc _ _ _ _ _ hcall) F (V.free_ren _ (by rfl)) (V.frees_ren _ h3) (V.free_ren _ h2)) μ w Gv xs hh hG hx
  ·cases h
 ·cases h
def Zvo:List Zk6→Nat→List V→Option V
 |[],_,_=>none
 |e::l,f,args=>match Nat.beq e.f f with
  |true=>match V.beqs e.args args with
   |true=>some e.v
   |false=>Zvo l f args
  |false=>Zvo l f args
def Zvp(tb:List (Nat×O))(l:List Zk6):Zay
 |.func f [] [],args,st=>match Zvo l f args with
  |some v=>match Zj8 st tb with
   |true=>some (v,st)
   |false=>none
  |none=>none
 |_,_,_=>none
theorem Zlp:∀{l:List Zk6} {f:Nat} {args:List V} {v:V},Zvo l f args=some v→∃e∈l,e.f=f∧e.args=args∧e.v=v
 |[],_,_,_,h=>by cases h
 |e::l,f,args,v,h=>by
  simp only[Zvo]at h
  split at h
  ·rename_i e1
   split at h
   ·rename_i e2
    simp only[Yox]at h
    exact⟨e,Ypw,Zaz e1,V.beqs_eq _ _ e2,h⟩
   ·obtain⟨e',h1,h2⟩:=Zlp h;exact⟨e',Ypo _ h1,h2⟩
  ·obtain⟨e',h1,h2⟩:=Zlp h;exact⟨e',Ypo _ h1,h2⟩
theorem Ztw{tb:List (Nat×O)}{l:List Zk6}(h:∀e∈l,Ym6 P tb e):Zbn P (Zvp tb l):=by
 intro g args st v st' hc
 unfold Zvp at hc
 split at hc
 ·rename_i f
  split at hc
  ·rename_i u hu
   split at hc
   ·rename_i hp
    simp only[Yox,Yo1]at hc
    obtain⟨rfl,rfl⟩:=hc
    obtain⟨e,h1,rfl,rfl,rfl⟩:=Zlp hu
    exact h e h1 st hp
   ·cases hc
  ·cases hc
 ·cases hc
structure Ent where
 f:Nat
 first:List V
 caps:List V
 args:List V
 part:List (Nat×O)
 n:Nat
 v:V
 kept:List (Nat×O)
 wrs:List (Nat×O)
def Ent.st(e:Ent)(G:Nat):St:=⟨Zd2 (Zkn G) e.part,e.n,[]⟩
def sig(G:Nat)(part:List (Nat×O))(i:Nat):Option Nat:=
 match Nat.blt i G with
 |true=>some i
 |false=>match lk part i with
  |some _=>some i
  |none=>none
def idx(i:Nat):List (Nat×O)→Nat→Option Nat
 |[],_=>none
 |(k,_)::l,m=>match Nat.beq k i with
  |true=>some m
  |false=>idx i l (m+1)
def rho(G:Nat)(part:List (Nat×O))(n:Nat)(kept:List (Nat×O))(i:Nat):Option Nat:=
 match Nat.blt i n with
 |true=>sig G part i
 |false=>idx i kept n
def Zfz:List (Nat×O)→Nat→List (Nat×O)
 |[],_=>[]
 |(_,o)::l,m=>(m,o)::Zfz l (m+1)
def Zvu(ρ:Nat→Option Nat)(s:St)(i:Nat)(o':O):Bool:=
 match s.h.get i with
 |some o=>match o' with
  |.dead=>true
  |o'=>oEq (o.ren ρ) o'
 |none=>false
def Zuc(ρ:Nat→Option Nat)(s:St)(n:Nat):List (Nat×O)→Nat→Bool
 |[],_=>true
 |(k,o)::l,m=>Zp1 (ρ k) (some m)&&Nat.ble n k&&Nat.blt k s.n&&Zvu ρ s k o&&Zuc ρ s n l (m+1)
def Ent.chk(e:Ent)(G:Nat)(v:V)(s:St):Bool:=
 Nat.ble G e.n&&Nat.ble e.n s.n&&(e.part.all fun p=>Nat.blt p.1 e.n&&oEq (p.2.ren (sig G e.part)) p.2)&&
 Yll (V.rens (sig G e.part) e.first) e.first&&Yll (V.rens (sig G e.part) e.caps) e.caps&&Yll (V.rens (sig G e.part) e.args) e.args&&
 vEq (V.ren (rho G e.part e.n e.kept) v) e.v&&
 Zuc (rho G e.part e.n e.kept) s e.n e.kept e.n&&
 (s.w.all fun i=>match sig G e.part i with|some _=>Yhv i (e.wrs.map (·.1))|none=>true)&&
 (e.wrs.all fun p=>Yhv p.1 s.w&&Zp1 (sig G e.part p.1) (some p.1)&&Zvu (rho G e.part e.n e.kept) s p.1 p.2)
def Ent.ok(e:Ent)(G:Nat)(call:Zay):Bool:=
 match call (.func e.f e.first e.caps) e.args (e.st G)with
 |some (v,s)=>e.chk G v s
 |none=>false
def Ent.out(e:Ent)(S:St):St:=⟨Zd2 (Zd2 S.h e.wrs) (Zfz e.kept e.n),e.n+e.kept.length,e.wrs.map (·.1)++S.w⟩
def Zmc(e:Ent):Zay
 |.func f a c,args,S=>match Nat.beq e.f f with
  |true=>match V.beqs e.args args&&V.beqs e.first a&&V.beqs e.caps c&&Nat.beq S.n e.n&&Zj8 S e.part with
   |true=>some (e.v,e.out S)
   |false=>none
  |false=>none
 |_,_,_=>none
theorem Zjc{i:Nat}:∀{l:List (Nat×O)} {m i':Nat},idx i l m=some i'→m≤i'∧i'<m+l.length∧∃o,l[i'-m]?=some (i,o)
 |[],m,i',h=>by cases h
 |(k,o)::l,m,i',h=>by
  simp only[idx]at h
  split at h
  ·rename_i e
   simp only[Yox]at h;subst h
   have:=Zaz e;subst this
   exact⟨Yoy _,by simp,o,by simp⟩
  ·obtain⟨h1,h2,o',h3⟩:=Zjc h
   refine⟨by omega,by simp;omega,o',?_⟩
   rw[show i'-m=(i'-(m+1))+1 by omega]
   simpa using h3
theorem Znn:∀{l:List (Nat×O)} {m j:Nat} {p:Nat×O},l[j]?=some p→lk (Zfz l m) (m+j)=some p.2
 |[],m,j,p,h=>by simp at h
 |(k,o)::l,m,0,p,h=>by
  simp at h;subst h
  simp[Zfz,lk]
 |(k,o)::l,m,j+1,p,h=>by
  simp only[Zfz,lk]
  have:Nat.beq m (m+(j+1))=false:=by
   cases hb:Nat.beq m (m+(j+1))with
   |false=>rfl
   |true=>have:=Zaz hb;omega
  rw[this,show m+(j+1)=(m+1)+j by omega]
  exact Znn (by simpa using h)
theorem Zj9:∀{l:List (Nat×O)} {m i:Nat},i<m→lk (Zfz l m) i=none
 |[],_,_,_=>rfl
 |(k,o)::l,m,i,h=>by
  simp only[Zfz,lk]
  have:Nat.beq m i=false:=by
   cases hb:Nat.beq m i with
   |false=>rfl
   |true=>have:=Zaz hb;omega
  rw[this]
  exact Zj9 (by omega)
theorem Znr{ρ:Nat→Option Nat}{s:St}{n:Nat}:∀{l:List (Nat×O)} {m:Nat},Zuc ρ s n l m=true→∀{j:Nat} {p:Nat×O},l[j]?=some p→ρ p.1=some (m+j)∧n≤p.1∧p.1<s.n∧Zvu ρ s p.1 p.2=true
 |[],m,_,j,p,h=>by simp at h
 |(k,o)::l,m,h,j,p,hj=>by
  simp only[Zuc,Ypj]at h
  obtain⟨⟨⟨⟨h1,h2⟩,h3⟩,h4⟩,h5⟩:=h
  cases j with
  |zero=>
   simp at hj;subst hj
   exact⟨Zlz h1,Yp1 h2,Yrj (Yp1 h3),h4⟩
  |succ j=>
   obtain⟨q1,q2⟩:=Znr h5 (j:=j) (by simpa using hj)
   exact⟨by rw[q1];congr 1;omega,q2⟩
theorem Znm{ρ:Nat→Option Nat}{s:St}{o':O}(h:Zvu ρ s i o'=true):∃o,s.h.get i=some o∧(o'=.dead∨o.ren ρ=some o'):=by
 unfold Zvu at h
 split at h
 ·rename_i o ho
  refine⟨o,ho,?_⟩
  split at h
  ·exact .inl rfl
  ·exact .inr (Zy4 h)
 ·cases h
theorem Zg7{part:List (Nat×O)}{i':Nat}(h:sig G part i=some i'):i'=i∧(i<G∨∃o,lk part i=some o):=by
 unfold sig at h
 split at h
 ·rename_i e
  simp only[Yox]at h
  exact⟨h.symm,.inl (Yrj (Yp1 e))⟩
 ·split at h
  ·rename_i o ho
   simp only[Yox]at h
   exact⟨h.symm,.inr ⟨o,ho⟩⟩
  ·cases h
theorem Zw8{call:Zay}(hcall:Zbn P call){e:Ent}(h:e.ok P.globals.size call=true):Zbn P (Zmc e):=by
 intro g args S v S' hc
 unfold Zmc at hc
 split at hc
 ·rename_i f a c
  split at hc
  ·rename_i hf
   have hf:=Zaz hf
   subst hf
   split at hc
   ·rename_i hcond
    simp only[Ypj]at hcond
    obtain⟨⟨⟨⟨c1,c2⟩,c3⟩,c4⟩,c5⟩:=hcond
    have c1:=V.beqs_eq _ _ c1
    have c2:=V.beqs_eq _ _ c2
    have c3:=V.beqs_eq _ _ c3
    have c4:=Zaz c4
    have c5:=Zjz c5
    simp only[Yox,Yo1]at hc
    obtain⟨rfl,rfl⟩:=hc
    subst c1;subst c2;subst c3
    unfold Ent.ok at h
    split at h
    ·rename_i v0 s hrun
     unfold Ent.chk at h
     simp only[Ypj,Ypv]at h
     obtain⟨⟨⟨⟨⟨⟨⟨⟨⟨k1,k2⟩,k3⟩,k4⟩,k5⟩,k6⟩,k7⟩,k8⟩,k9⟩,k10⟩:=h
     have k1:=Yp1 k1
     have k2:=Yp1 k2
     have hpart:∀i o,lk e.part i=some o→i<e.n∧o.ren (sig P.globals.size e.part)=some o∧S.h.get i=some o:=fun i o ho=>by
      have hm:=Zqe ho
      obtain⟨q1,q2⟩:=k3 _ hm
      exact⟨Yrj (Yp1 q1),Zy4 q2,c5 _ hm⟩
     have hρn:∀i,e.n≤i→rho P.globals.size e.part e.n e.kept i=idx i e.kept e.n:=fun i hi=>by
      unfold rho
      have:Nat.blt i e.n=false:=by
       cases hb:Nat.blt i e.n with
       |false=>rfl
       |true=>have:=Yrj (Yp1 hb);omega
      rw[this]
     have hkept:∀j p,e.kept[j]?=some p→rho P.globals.size e.part e.n e.kept p.1=some (e.n+j)∧e.n≤p.1∧p.1<s.n∧Zvu (rho P.globals.size e.part e.n e.kept) s p.1 p.2=true:=fun j p hj=>Znr k8 hj
     have hlkn:∀j,j<e.n→(e.out S).h.get j=match lk e.wrs j with|some o=>some o|none=>S.h.get j:=fun j hj=>by
      show (Zd2 (Zd2 S.h e.wrs) (Zfz e.kept e.n)).get j=_
      rw[Zb5,Zj9 hj,Zb5]
     have F:Zms P (sig P.globals.size e.part) (rho P.globals.size e.part e.n e.kept) (e.wrs.map (·.1)) (e.st P.globals.size) s S (e.out S):={
      dom:=fun i i' hi=>by
       obtain⟨rfl,hor⟩:=Zg7 hi
       have:i'<e.n:=by
        rcases hor with h|⟨o,ho⟩
        ·omega
        ·exact(hpart _ _ ho).1
       exact⟨this,by omega⟩
      inj:=fun i j i' hi hj=>by rw[←(Zg7 hi).1,←(Zg7 hj).1]
      glob:=fun g hg=>by
       unfold sig
       have:Nat.blt g P.globals.size=true:=Ysr hg
       rw[this]
      obj:=fun i i' hi=>by
       obtain⟨rfl,hor⟩:=Zg7 hi
       cases hl:lk e.part i' with
       |some o=>
        obtain⟨q1,q2,q3⟩:=hpart _ _ hl
        refine⟨o,o,?_,.inr (.inl q2),.inl q3⟩
        show (Zd2 (Zkn P.globals.size) e.part).get i'=_
        rw[Zb5,hl]
       |none=>
        have hg:i'<P.globals.size:=by
         rcases hor with h|⟨o,ho⟩
         ·exact h
         ·rw[hl]at ho;cases ho
        refine⟨.dead,.dead,?_,.inl rfl,.inr rfl⟩
        show (Zd2 (Zkn P.globals.size) e.part).get i'=_
        rw[Zb5,hl]
        exact Zjh _ _ hg
      old:=fun i hi=>by
       have:Nat.blt i e.n=true:=Ysr hi
       unfold rho;rw[this]
      new:=fun i i' hi hr=>by
       rw[hρn i hi]at hr
       obtain⟨q1,q2,o,q3⟩:=Zjc hr
       obtain⟨_,_,r3,_⟩:=hkept _ _ q3
       exact⟨by omega,q2,r3⟩
      ninj:=fun i j i' hi hj hri hrj=>by
       rw[hρn i hi]at hri
       rw[hρn j hj]at hrj
       obtain⟨_,_,o,q3⟩:=Zjc hri
       obtain⟨_,_,o',q3'⟩:=Zjc hrj
       rw[q3]at q3'
       cases q3';rfl
      full:=fun i' h1 h2=>by
       have h2':i'<e.n+e.kept.length:=h2
       obtain⟨p,hp⟩:∃p,e.kept[i'-e.n]?=some p:=⟨_,Yo2 (by omega)⟩
       obtain⟨r1,r2,_,_⟩:=hkept _ _ hp
       exact⟨p.1,r2,by rw[r1];congr 1;omega⟩
      nle:=by show S.n≤e.n+e.kept.length;omega
      w0:=rfl
      W1:=fun i i' hi hs=>by
       obtain⟨rfl,_⟩:=Zg7 hs
       have:=k9 _ hi
       rw[hs]at this
       exact Zi9.1 this
      W2:=fun j hj=>by
       obtain⟨p,hp,rfl⟩:=Yql.1 hj
       obtain⟨⟨q1,q2⟩,_⟩:=k10 _ hp
       exact⟨p.1,Zi9.1 q1,Zlz q2⟩
      wl:=rfl
      keep:=fun j hj hn=>by
       rw[hlkn j (by omega)]
       cases hl:lk e.wrs j with
       |none=>rfl
       |some o=>exact absurd (Yql.2 ⟨_,Zqe hl,rfl⟩) hn
      wr:=fun i i' hi hs=>by
       obtain⟨rfl,hor⟩:=Zg7 hs
       have hlt:i'<e.n:=by
        rcases hor with h|⟨o,ho⟩
        ·omega
        ·exact(hpart _ _ ho).1
       have:=k9 _ hi
       rw[hs]at this
       obtain⟨p,hp,hpe⟩:=Yql.1 (Zi9.1 this)
       obtain⟨o',ho'⟩:=Yh2 (l:=e.wrs) (i:=i') (o:=p.2) (by rw[←hpe];exact hp)
       obtain⟨_,q3⟩:=k10 _ (Zqe ho')
       obtain⟨o,r1,r2⟩:=Znm q3
       exact⟨o,o',r1,by rw[hlkn _ hlt,ho'],r2⟩
      obn:=fun i i' hi hr=>by
       rw[hρn i hi]at hr
       obtain⟨q1,q2,o,q3⟩:=Zjc hr
       obtain⟨_,_,_,r4⟩:=hkept _ _ q3
       obtain⟨o2,t1,t2⟩:=Znm r4
       refine⟨o2,o,t1,?_,t2⟩
       show (Zd2 (Zd2 S.h e.wrs) (Zfz e.kept e.n)).get i'=_
       have:=Znn (m:=e.n) q3
       rw[show e.n+(i'-e.n)=i' by omega]at this
       rw[Zb5,this]}
     refine Zxq.frame (hcall _ _ _ _ _ hrun) F ?_ (Zrg k6) (Yjw k7)
     simp only[V.ren,Zrg k4,Zrg k5]
    ·cases h
   ·cases hc
  ·cases hc
 ·cases hc
def Zf8(x:Zay)(tbl:Nat→Option Zd8)(fuel:Nat):Nat→Zay
 |0=>x
 |d+1=>Zdm x (Zcg tbl (Zbe (Zf8 x tbl fuel d) fuel))
theorem Zja{P:Program}{tbl:Nat→Option Zd8}(hm:P.follows .mixedOrders=true)(hE:Zeb P)(ht:Zs9 P tbl){x:Zay}(hx:Zbn P x)(fuel:Nat):∀d,Zbn P (Zf8 x tbl fuel d)
 |0=>hx
 |d+1=>by
  have ih:=Zja hm hE ht hx fuel d
  exact hx.or (Zs0 ht (Ya4 ih hE (Yan hm hE ih) (Yfb ih hE) (Zto ih) fuel))
def Yd6:List Ent→Nat→List V→List V→List V→St→Option (V×St)
 |[],_,_,_,_,_=>none
 |e::l,f,a,c,args,S=>match Nat.beq e.f f with
  |true=>match Zmc e (.func f a c) args S with
   |some r=>some r
   |none=>Yd6 l f a c args S
  |false=>Yd6 l f a c args S
def Yir(l:List Ent):Zay
 |.func f a c,args,S=>Yd6 l f a c args S
 |_,_,_=>none
theorem Yd7{l:List Ent}(h:∀e∈l,Zbn P (Zmc e)):Zbn P (Yir l):=by
 intro g args S v S' hc
 unfold Yir at hc
 split at hc
 ·rename_i f a c
  induction l with
  |nil=>cases hc
  |cons e l ih=>
   simp only[Yd6]at hc
   split at hc
   ·split at hc
    ·rename_i r hr
     cases hc
     exact h e Ypw _ _ _ _ _ hr
    ·exact ih (fun e he=>h e (Ypo _ he)) hc
   ·exact ih (fun e he=>h e (Ypo _ he)) hc
 ·cases hc
def Zxu(tb:List (Nat×O))(L:List Zk6)(E:List Ent):Zay:=Zdm (Zvp tb L) (Yir E)
structure Zam (P:Program) (tb:List (Nat×O)) (L:List Zk6) (E:List Ent):Prop where
 p:∀e∈L,Ym6 P tb e
 e:∀e∈E,Zbn P (Zmc e)
theorem Zam.call{tb:List (Nat×O)}{L:List Zk6}{E:List Ent}(h:Zam P tb L E):Zbn P (Zxu tb L E):=(Ztw h.p).or (Yd7 h.e)
theorem Zam.nil{tb:List (Nat×O)}:Zam P tb [] []:=⟨fun _ h=>(by cases h),fun _ h=>(by cases h)⟩
structure Zkh (P:Program) (tbl:Nat→Option Zd8) (G:Nat):Prop where
 m:P.follows .mixedOrders=true
 e:Zeb P
 t:Zs9 P tbl
 g:P.globals.size=G
theorem Zam.addP{tbl:Nat→Option Zd8}{fuel d:Nat}(hP:Zkh P tbl G){tb:List (Nat×O)}{L:List Zk6}{E:List Ent}(h:Zam P tb L E){e:Zk6}(he:e.ok tb G (Zf8 (Zxu tb L E) tbl fuel d)=true):Zam P tb (e::L) E:=
 ⟨fun e' hm=>by
  rcases Ypy.1 hm with rfl|hm
  ·exact Zk6.pure (Zja hP.m hP.e hP.t h.call fuel d) (by rw[hP.g];exact he)
  ·exact h.p e' hm,h.e⟩
theorem Zam.addE{tbl:Nat→Option Zd8}{fuel d:Nat}(hP:Zkh P tbl G){tb:List (Nat×O)}{L:List Zk6}{E:List Ent}(h:Zam P tb L E){e:Ent}(he:e.ok G (Zf8 (Zxu tb L E) tbl fuel d)=true):Zam P tb L (e::E):=
 ⟨h.p,fun e' hm=>by
  rcases Ypy.1 hm with rfl|hm
  ·exact Zw8 (Zja hP.m hP.e hP.t h.call fuel d) (by rw[hP.g];exact he)
  ·exact h.e e' hm⟩
def Yfn(tb:List (Nat×O))(G:Nat)(tbl:Nat→Option Zd8)(L:List Zk6)(E:List Ent):Bool:=match L with
 |[]=>false
 |e::t=>e.ok tb G (Zf8 (Zxu tb t E) tbl 5000 40)
def Yac(tb:List (Nat×O))(G:Nat)(tbl:Nat→Option Zd8)(L:List Zk6)(E:List Ent):Bool:=match E with
 |[]=>false
 |e::t=>e.ok G (Zf8 (Zxu tb L t) tbl 5000 40)
theorem Zam.p1{P:Program}{tbl:Nat→Option Zd8}{G:Nat}(hP:Zkh P tbl G){tb:List (Nat×O)}{L:List Zk6}{E:List Ent}(h:Zam P tb L.tail E)(he:Yfn tb G tbl L E=true):Zam P tb L E:=by
 cases L with
 |nil=>exact h
 |cons e t=>exact Zam.addP hP h he
theorem Zam.e1{P:Program}{tbl:Nat→Option Zd8}{G:Nat}(hP:Zkh P tbl G){tb:List (Nat×O)}{L:List Zk6}{E:List Ent}(h:Zam P tb L E.tail)(he:Yac tb G tbl L E=true):Zam P tb L E:=by
 cases E with
 |nil=>exact h
 |cons e t=>exact Zam.addE hP h he
section
variable {call:Zay} {f:Nat} {ro:Option Nat} {a b c:Zae} {fr:Fr} {st:St}
end
theorem Ykg{a b:Nat}:Nat.blt a b=decide (a<b):=by
 cases h:Nat.blt a b
 ·symm;simp only[decide_eq_false_iff_not];intro hc;rw[show Nat.blt a b=true from Ysr hc]at h;cases h
 ·symm;simp only[decide_eq_true_eq];exact Yrj (Yp1 h)
theorem Ykh{a b:Nat}:Nat.ble a b=decide (a≤b):=by
 cases h:Nat.ble a b
 ·symm;simp only[decide_eq_false_iff_not];intro hc;rw[Ysr hc]at h;cases h
 ·symm;simp only[decide_eq_true_eq];exact Yp1 h
theorem Zai{n:Int}(h1: -9223372036854775808≤n)(h2:n<9223372036854775808):Zaq .i64 n=n:=by
 rw[Zdy]
 simp[IntKind.wrap,IntKind.bits,IntKind.signed]
 omega
theorem Zwx{k a b}:Zdf .add k a b=some (.int k (Zaq k (a+b))):=rfl
theorem Zwm{k a b}:Zdf .sub k a b=some (.int k (Zaq k (a-b))):=rfl
theorem Zwr{k a b}:Zdf .mul k a b=some (.int k (Zaq k (a*b))):=rfl
theorem Zwp{k a b}(h:¬b=0):Zdf .quo k a b=some (.int k (Zaq k (a.tdiv b))):=by simp[Zdf,h]
theorem Zwo{k a b}(h:¬b=0):Zdf .rem k a b=some (.int k (a.tmod b)):=by simp[Zdf,h]
theorem Zww{k a b}:Zdf .eql k a b=some (.bool (a==b)):=rfl
theorem Zwq{k a b}:Zdf .neq k a b=some (.bool (a !=b)):=rfl
theorem Zws{k a b}:Zdf .lss k a b=some (.bool (decide (a<b))):=rfl
theorem Zwt{k a b}:Zdf .leq k a b=some (.bool (decide (a≤b))):=rfl
theorem Zwu{k a b}:Zdf .gtr k a b=some (.bool (decide (a > b))):=rfl
theorem Zwv{k a b}:Zdf .geq k a b=some (.bool (decide (a≥b))):=rfl
theorem Yhn(x):mop (.mov x)=Zlu x:=rfl
theorem Yda(a b c):mop (.pick a b c)=Zgi a b c:=rfl
theorem Zzm(a b):mop (.alloc a b)=Zhc a b:=rfl
theorem Yhr(a b):mop (.box a b)=Zlx a b:=rfl
theorem Zzl(a b):mop (.build a b)=Zef a b:=rfl
theorem Zv6(a b c d e):mop (.bslice a b c d e)=Zes a b c d e:=rfl
theorem Ydb(a b):mop (.load a b)=Zh3 a b:=rfl
theorem Zzd(a b c):mop (.store a b c)=Ze0 a b c:=rfl
theorem Zzf(a):mop (.nilck a)=Zfu a:=rfl
theorem Yhs(a b c d e):mop (.bin a b c d e)=Zly a b c d e:=rfl
theorem Ykj(a b):mop (.un a b)=Zrz a b:=rfl
theorem Zsj(a b):mop (.convInt a b)=Zdu a b:=rfl
theorem Zvz(a b c):mop (.mkfunc a b c)=Zep a b c:=rfl
theorem Zzi(a b):mop (.faddr a b)=Zfx a b:=rfl
theorem Zzh(a b c):mop (.field a b c)=Zfw a b c:=rfl
theorem Zp9(a b c d):mop (.iaddrArr a b c d)=Zcu a b c d:=rfl
theorem Zsg(a b c):mop (.iaddrSl a b c)=Zc4 a b c:=rfl
theorem Zsh(a b):mop (.extract a b)=Zdt a b:=rfl
theorem Yho(a b):mop (.len a b)=Ze7 a b:=rfl
theorem Ydd(a b):mop (.call a b)=Zea a b:=rfl
structure Ylk (r:Option (V×St)) (v:V):Prop where
 ex:∃s,r=some (v,s)∧s.w=[]
theorem Zw0{u v:V}{s:St}:Ylk (some (u,s)) v↔u=v∧s.w=[]:=
 ⟨fun ⟨_,h1,h2⟩=>by simp only[Yox,Yo1]at h1;exact⟨h1.1,h1.2▸h2⟩,fun ⟨h1,h2⟩=>⟨s,by rw[h1],h2⟩⟩
attribute [simp]
 Yhn Yda Zzm Yhr Zzl Zv6 Ydb Zzd Zzf Yhs Ykj Zsj Zvz Zzi Zzh Zp9 Zsg Zsh Yho Ydd
 Zlu Zgi Zhc Zlx Zef Zes Zh3 Zfu Zly Zrz Zdu Zep Zfx Zfw Zcu Zdt Zea
 Zd9 wantedV Src.ev T.get_set resV Zps Zaa Ym4 Zwx Zwm Zwr Zwp Zwo Zww Zwq Zws Zwt Zwu Zwv Zbm unV Zhh evOpt Ze3 Zmy Zal V.cells V.one St.alloc St.write St.row Zai Ykg Ykh Ze9 Zch MOp.silent Zt9 apartOk Zap Zap.go Zap.chk FP.free Zsk Nat.testBit Zw0 base
end Go.Mx

