/-Calls that are known-/
import Derived.Test.YtkfkpkejgchcpaaGreatDoorMxDraw2
import Derived.Test.YtkfkpkejgchcpaaGreatDoorMxFrame
import Derived.Below
import Derived.CallsIn
set_option linter.all false
namespace Go.Mx
open Go
variable {G i:Nat} {P:Program}
def Zsc:Bool→Bool→Bool
 |true,b=>b
 |false,true=>false
 |false,false=>true
def Yge:IntKind→Nat
 |.i8=>0|.i16=>1|.i32=>2|.i64=>3|.u8=>4|.u16=>5|.u32=>6|.u64=>7
def Yk0:Int→Int→Bool
 |.ofNat a,b=>match b with
  |.ofNat b=>Nat.beq a b
  |.negSucc _=>false
 |.negSucc a,b=>match b with
  |.ofNat _=>false
  |.negSucc b=>Nat.beq a b
def Zsu:List UInt8→List UInt8→Bool
 |[],l=>match l with
  |[]=>true
  |_::_=>false
 |a::xs,l=>match l with
  |[]=>false
  |b::ys=>match Nat.beq a.toNat b.toNat with
   |true=>Zsu xs ys
   |false=>false
def Zq6:Option Nat→Option Nat→Bool
 |none,b=>match b with
  |none=>true
  |some _=>false
 |some a,b=>match b with
  |none=>false
  |some b=>Nat.beq a b
def Znr{a b:Bool}(h:Zsc a b=true):a=b:=by cases a<;>cases b<;>simp_all [Zsc]
def Za2{a b:Nat}(h:Nat.beq a b=true):a=b:=Yvu h
def Yk2{a b:IntKind}(h:Nat.beq (Yge a) (Yge b)=true):a=b:=by cases a<;>cases b<;>first|rfl|(exact absurd h (by decide))
def Ygb{a b:Int}(h:Yk0 a b=true):a=b:=by
 cases a<;>cases b<;>simp only[Yk0,Yse]at h
 ·rw[Za2 h]
 ·rw[Za2 h]
def Zpc:∀{a b:List UInt8},Zsu a b=true→a=b
 |[],[],_=>rfl
 |[],_::_,h=>by simp[Zsu]at h
 |_::_,[],h=>by simp[Zsu]at h
 |a::xs,b::ys,h=>by
  simp only[Zsu]at h
  split at h
  ·rename_i e
   rw[Zpc h,UInt8.toNat_inj.1 (Za2 e)]
  ·cases h
def Zmw{a b:Option Nat}(h:Zq6 a b=true):a=b:=by
 cases a<;>cases b<;>simp only[Zq6,Yse]at h
 ·rfl
 ·rw[Za2 h]
def Ygl:FloatKind→Nat
 |.f32=>0|.f64=>1
def Yk6{a b:FloatKind}(h:Nat.beq (Ygl a) (Ygl b)=true):a=b:=by cases a<;>cases b<;>first|rfl|(exact absurd h (by decide))
def V.isBool(x:Bool):V→Bool|.bool y=>Zsc x y|_=>false
def V.isInt(k:IntKind)(n:Int):V→Bool|.int k' n'=>(match Nat.beq (Yge k) (Yge k')with|true=>Yk0 n n'|false=>false)|_=>false
def V.isFlt(k:FloatKind)(n:Nat):V→Bool|.flt k' n'=>(match Nat.beq (Ygl k) (Ygl k')with|true=>Nat.beq n n'|false=>false)|_=>false
def V.isStr(s:List UInt8):V→Bool|.str t=>Zsu s t|_=>false
def V.isNilptr:V→Bool|.nilptr=>true|_=>false
def V.isPtr(i o:Nat):V→Bool|.ptr i' o'=>(match Nat.beq i i' with|true=>Nat.beq o o'|false=>false)|_=>false
def V.isNilslice:V→Bool|.nilslice=>true|_=>false
def V.isSlice(i o l:Nat)(c:Option Nat)(z:Nat):V→Bool|.slice i' o' l' c' z'=>Nat.beq i i'&&Nat.beq o o'&&Nat.beq l l'&&Zq6 c c'&&Nat.beq z z'|_=>false
def V.isEmpty:V→Bool|.empty=>true|_=>false
def V.isNilmap:V→Bool|.nilmap=>true|_=>false
def V.isMap(i:Nat):V→Bool|.map j=>Nat.beq i j|_=>false
def V.isNilchan:V→Bool|.nilchan=>true|_=>false
def V.isChan(i:Nat):V→Bool|.chan j=>Nat.beq i j|_=>false
def V.isYield(i:Nat):V→Bool|.yield j=>Nat.beq i j|_=>false
def V.isNilfunc:V→Bool|.nilfunc=>true|_=>false
def V.isNiliface:V→Bool|.niliface=>true|_=>false
mutual
def V.beq:V→V→Bool
 |.bool x,b=>b.isBool x
 |.int k n,b=>b.isInt k n
 |.flt k n,b=>b.isFlt k n
 |.str s,b=>b.isStr s
 |.nilptr,b=>b.isNilptr
 |.ptr i o,b=>b.isPtr i o
 |.nilslice,b=>b.isNilslice
 |.slice i o l c z,b=>b.isSlice i o l c z
 |.empty,b=>b.isEmpty
 |.nilmap,b=>b.isNilmap
 |.map i,b=>b.isMap i
 |.nilchan,b=>b.isNilchan
 |.chan i,b=>b.isChan i
 |.func f a c,b=>match b with
  |.func f' a' c'=>Nat.beq f f'&&V.beqs a a'&&V.beqs c c'
  |_=>false
 |.yield i,b=>b.isYield i
 |.nilfunc,b=>b.isNilfunc
 |.iface t v,b=>match b with
  |.iface t' v'=>Nat.beq t t'&&V.beq v v'
  |_=>false
 |.niliface,b=>b.isNiliface
 |.agg l,b=>match b with
  |.agg l'=>V.beqs l l'
  |_=>false
 |.tup l,b=>match b with
  |.tup l'=>V.beqs l l'
  |_=>false
def V.beqs:List V→List V→Bool
 |[],l=>match l with
  |[]=>true
  |_::_=>false
 |a::xs,l=>match l with
  |[]=>false
  |b::ys=>match V.beq a b with
   |true=>V.beqs xs ys
   |false=>false
end
mutual
def V.beq_eq:∀(a b:V),V.beq a b=true→a=b
 |.bool x,b,h=>by cases b<;>simp only[V.beq,V.isBool,Yse]at h;rw[Znr h]
 |.int k n,b,h=>by
  cases b<;>simp only[V.beq,V.isInt,Yse]at h
  split at h
  ·rename_i e;rw[Yk2 e,Ygb h]
  ·cases h
 |.flt k n,b,h=>by
  cases b<;>simp only[V.beq,V.isFlt,Yse]at h
  split at h
  ·rename_i e;rw[Yk6 e,Za2 h]
  ·cases h
 |.str s,b,h=>by cases b<;>simp only[V.beq,V.isStr,Yse]at h;rw[Zpc h]
 |.nilptr,b,h=>by cases b<;>simp only[V.beq,V.isNilptr,Yse]at h;rfl
 |.ptr i o,b,h=>by
  cases b<;>simp only[V.beq,V.isPtr,Yse]at h
  split at h
  ·rename_i e;rw[Za2 e,Za2 h]
  ·cases h
 |.nilslice,b,h=>by cases b<;>simp only[V.beq,V.isNilslice,Yse]at h;rfl
 |.slice i o l c z,b,h=>by
  cases b<;>simp only[V.beq,V.isSlice,Yse,Ysp]at h
  obtain⟨⟨⟨⟨h1,h2⟩,h3⟩,h4⟩,h5⟩:=h
  rw[Za2 h1,Za2 h2,Za2 h3,Zmw h4,Za2 h5]
 |.empty,b,h=>by cases b<;>simp only[V.beq,V.isEmpty,Yse]at h;rfl
 |.nilmap,b,h=>by cases b<;>simp only[V.beq,V.isNilmap,Yse]at h;rfl
 |.map i,b,h=>by cases b<;>simp only[V.beq,V.isMap,Yse]at h;rw[Za2 h]
 |.nilchan,b,h=>by cases b<;>simp only[V.beq,V.isNilchan,Yse]at h;rfl
 |.chan i,b,h=>by cases b<;>simp only[V.beq,V.isChan,Yse]at h;rw[Za2 h]
 |.func f a c,b,h=>by
  cases b<;>simp only[V.beq,Yse,Ysp]at h
  obtain⟨⟨h1,h2⟩,h3⟩:=h
  rw[Za2 h1,V.beqs_eq _ _ h2,V.beqs_eq _ _ h3]
 |.yield i,b,h=>by cases b<;>simp only[V.beq,V.isYield,Yse]at h;rw[Za2 h]
 |.nilfunc,b,h=>by cases b<;>simp only[V.beq,V.isNilfunc,Yse]at h;rfl
 |.iface t v,b,h=>by
  cases b<;>simp only[V.beq,Yse,Ysp]at h
  rw[Za2 h.1,V.beq_eq _ _ h.2]
 |.niliface,b,h=>by cases b<;>simp only[V.beq,V.isNiliface,Yse]at h;rfl
 |.agg l,b,h=>by cases b<;>simp only[V.beq,Yse]at h;rw[V.beqs_eq _ _ h]
 |.tup l,b,h=>by cases b<;>simp only[V.beq,Yse]at h;rw[V.beqs_eq _ _ h]
def V.beqs_eq:∀(a b:List V),V.beqs a b=true→a=b
 |[],[],_=>rfl
 |[],_::_,h=>by simp[V.beqs]at h
 |_::_,[],h=>by simp[V.beqs]at h
 |a::xs,b::ys,h=>by
  simp only[V.beqs]at h
  split at h
  ·rename_i e;rw[V.beq_eq a b e,V.beqs_eq xs ys h]
  ·cases h
end
def Yl8:List (V×V)→List (V×V)→Bool
 |[],l=>match l with
  |[]=>true
  |_::_=>false
 |(k,v)::xs,l=>match l with
  |[]=>false
  |(k',v')::ys=>V.beq k k'&&V.beq v v'&&Yl8 xs ys
def Ycw:∀{a b:List (V×V)},Yl8 a b=true→a=b
 |[],[],_=>rfl
 |[],_::_,h=>by simp[Yl8]at h
 |_::_,[],h=>by simp[Yl8]at h
 |(k,v)::xs,(k',v')::ys,h=>by
  simp only[Yl8,Ysp]at h
  rw[V.beq_eq _ _ h.1.1,V.beq_eq _ _ h.1.2,Ycw h.2]
def O.beq:O→O→Bool
 |.cells c e rw,b=>match b with
  |.cells c' e' rw'=>Nat.beq e e'&&Zsc rw rw'&&V.beqs c c'
  |_=>false
 |.map es,b=>match b with
  |.map es'=>Yl8 es es'
  |_=>false
 |.chan cap buf,b=>match b with
  |.chan cap' buf'=>Nat.beq cap cap'&&V.beqs buf buf'
  |_=>false
 |.siter s pos,b=>match b with
  |.siter s' pos'=>Zsu s s'&&Nat.beq pos pos'
  |_=>false
 |.defs o,b=>match b with
  |.defs o'=>Zsc o o'
  |_=>false
 |.loop _,_=>false
 |.dead,b=>match b with
  |.dead=>true
  |_=>false
def O.beq_eq{a b:O}(h:O.beq a b=true):a=b:=by
 cases a<;>simp only[O.beq,Yse]at h<;>cases b<;>simp only[Yse,Ysp]at h
 ·obtain⟨⟨h1,h2⟩,h3⟩:=h;rw[Za2 h1,Znr h2,V.beqs_eq _ _ h3]
 ·rw[Ycw h]
 ·rw[Za2 h.1,V.beqs_eq _ _ h.2]
 ·rw[Zpc h.1,Za2 h.2]
 ·rw[Znr h]
 ·rfl
def oEq:Option O→O→Bool
 |some a,b=>O.beq a b
 |none,_=>false
def Ya5{a:Option O}{b:O}(h:oEq a b=true):a=some b:=by
 cases a with
 |none=>cases h
 |some a=>rw[O.beq_eq h]
def vEq:Option V→V→Bool
 |some a,b=>V.beq a b
 |none,_=>false
def Ymf{a:Option V}{b:V}(h:vEq a b=true):a=some b:=by
 cases a with
 |none=>cases h
 |some a=>rw[V.beq_eq _ _ h]
def Yod:Option (List V)→List V→Bool
 |some a,b=>V.beqs a b
 |none,_=>false
def Zso{a:Option (List V)}{b:List V}(h:Yod a b=true):a=some b:=by
 cases a with
 |none=>cases h
 |some a=>rw[V.beqs_eq _ _ h]
mutual
def V.free:V→Bool
 |.ptr ..|.slice ..|.map _|.chan _|.yield _=>false
 |.func _ a c=>V.frees a&&V.frees c
 |.iface _ v=>V.free v
 |.agg l=>V.frees l
 |.tup l=>V.frees l
 |_=>true
def V.frees:List V→Bool
 |[]=>true
 |v::vs=>V.free v&&V.frees vs
end
mutual
def V.free_ren{ρ:Nat→Option Nat}:∀(v:V),V.free v=true→V.ren ρ v=some v
 |.bool _,_=>rfl
 |.int _ _,_=>rfl
 |.flt _ _,_=>rfl
 |.str _,_=>rfl
 |.nilptr,_=>rfl
 |.ptr _ _,h=>by simp[V.free]at h
 |.nilslice,_=>rfl
 |.slice _ _ _ _ _,h=>by simp[V.free]at h
 |.empty,_=>rfl
 |.nilmap,_=>rfl
 |.map _,h=>by simp[V.free]at h
 |.nilchan,_=>rfl
 |.chan _,h=>by simp[V.free]at h
 |.func f a c,h=>by
  simp only[V.free,Ysp]at h
  simp only[V.ren,V.frees_ren a h.1,V.frees_ren c h.2]
 |.yield _,h=>by simp[V.free]at h
 |.nilfunc,_=>rfl
 |.iface t v,h=>by
  simp only[V.free]at h
  simp only[V.ren,V.free_ren v h]
 |.niliface,_=>rfl
 |.agg l,h=>by
  simp only[V.free]at h
  simp only[V.ren,V.frees_ren l h]
 |.tup l,h=>by
  simp only[V.free]at h
  simp only[V.ren,V.frees_ren l h]
def V.frees_ren{ρ:Nat→Option Nat}:∀(l:List V),V.frees l=true→V.rens ρ l=some l
 |[],_=>rfl
 |v::vs,h=>by
  simp only[V.frees,Ysp]at h
  simp only[V.rens,V.free_ren v h.1,V.frees_ren vs h.2]
end
def Zli:Nat→T O
 |0=>.nil
 |n+1=>(Zli n).set n .dead
def Zj3:∀(n i:Nat),i<n→(Zli n).get i=some .dead
 |0,i,h=>by omega
 |n+1,i,h=>by
  simp only[Zli,T.get_set]
  by_cases e:i=n
  ·rw[Yr6 e]
  ·rw[Yr3 e];exact Zj3 n i (by omega)
def base(G:Nat):St:=⟨Zli G,G,[]⟩
def lk:List (Nat×O)→Nat→Option O
 |[],_=>none
 |(j,o)::l,i=>match Nat.beq j i with
  |true=>some o
  |false=>lk l i
def Zeb(h:T O):List (Nat×O)→T O
 |[]=>h
 |(j,o)::l=>(Zeb h l).set j o
def Zcb(h:T O):∀(l:List (Nat×O)) (i:Nat),(Zeb h l).get i=match lk l i with|some o=>some o|none=>h.get i
 |[],i=>rfl
 |(j,o)::l,i=>by
  simp only[Zeb,T.get_set,lk]
  by_cases e:i=j
  ·subst e
   rw[Yr6 rfl,Nat.beq_refl _]
  ·rw[Yr3 e]
   have:Nat.beq j i=false:=by
    cases hb:Nat.beq j i with
    |false=>rfl
    |true=>exact absurd (Yvu hb).symm e
   rw[this]
   exact Zcb h l i
def Zrj:∀{l:List (Nat×O)} {i:Nat} {o:O},lk l i=some o→(i,o)∈l
 |(j,o')::l,i,o,h=>by
  simp only[lk]at h
  split at h
  ·rename_i e
   have:=Za2 e
   simp only[Yr1]at h
   subst h;subst this;exact Ys0
  ·exact Ysu _ (Zrj h)
def Yb6:∀{l:List (Nat×O)} {i:Nat},lk l i=none→∀p∈l,p.1≠i
 |[],_,_,p,hp=>by cases hp
 |(j,o')::l,i,h,p,hp=>by
  simp only[lk]at h
  split at h
  ·cases h
  ·rename_i e
   rcases Ysz.1 hp with rfl|hp
   ·intro hc
    simp only at hc
    subst hc
    have:Nat.beq j j=true:=Nat.beq_refl _
    rw[this]at e;cases e
   ·exact Yb6 h p hp
def Ykt{l:List (Nat×O)}{i:Nat}{o:O}(h:(i,o)∈l):∃o',lk l i=some o':=by
 cases hc:lk l i with
 |some o'=>exact⟨o',rfl⟩
 |none=>exact absurd rfl (Yb6 hc _ h)
def Ykp(i:Nat):List Nat→Bool
 |[]=>false
 |j::l=>match Nat.beq j i with
  |true=>true
  |false=>Ykp i l
def Zjs{i:Nat}:∀{l:List Nat},Ykp i l=true↔i∈l
 |[]=>by simp[Ykp]
 |j::l=>by
  simp only[Ykp]
  split
  ·rename_i e;simp[Za2 e]
  ·rename_i e
   have:i≠j:=by
    rintro rfl
    have:Nat.beq i i=true:=Nat.beq_refl _
    rw[this]at e;cases e
   simp[Zjs,this]
structure Zlz where
 f:Nat
 args:List V
 v:V
def O.tab:O→Bool
 |.cells c _ false=>V.frees c
 |_=>false
def Zqq(G:Nat):List (Nat×O)→Bool
 |[]=>true
 |(i,o)::l=>Nat.blt i G&&o.tab&&Zqq G l
def O.tab_ren{ρ:Nat→Option Nat}{o:O}(h:o.tab=true):o.ren ρ=some o:=by
 cases o with
 |cells c e rw=>
  cases rw with
  |true=>cases h
  |false=>simp only[O.ren,V.frees_ren c h]
 |_=>cases h
def Zl8{G:Nat}:∀{l:List (Nat×O)},Zqq G l=true→∀{i:Nat} {o:O},lk l i=some o→i<G∧o.tab=true
 |(j,o')::l,h,i,o,ho=>by
  simp only[Zqq,Ysp]at h
  simp only[lk]at ho
  split at ho
  ·rename_i e
   simp only[Yr1]at ho
   rw[←Za2 e,←ho]
   exact⟨Yun (Ys5 h.1.1),h.1.2⟩
  ·exact Zl8 h.2 ho
def Zse(G:Nat)(tb:List (Nat×O)):St:=⟨Zeb (Zli G) tb,G,[]⟩
def Zk6(S:St):List (Nat×O)→Bool
 |[]=>true
 |(i,o)::l=>match oEq (S.h.get i) o with
  |true=>Zk6 S l
  |false=>false
def Zkq{S:St}:∀{l:List (Nat×O)},Zk6 S l=true→∀p∈l,S.h.get p.1=some p.2
 |[],_,p,hp=>by cases hp
 |(i,o)::l,h,p,hp=>by
  simp only[Zk6]at h
  split at h
  ·rename_i e
   rcases Ysz.1 hp with rfl|hp
   ·exact Ya5 e
   ·exact Zkq h p hp
  ·cases h
def Zlz.ok(e:Zlz)(tb:List (Nat×O))(G:Nat)(call:Za1):Bool:=
 match call (.func e.f [] []) e.args (Zse G tb)with
 |some (v,s)=>match s.w with
  |[]=>V.beq v e.v&&V.free e.v&&V.frees e.args&&Nat.ble G s.n&&Zqq G tb
  |_=>false
 |none=>false
def Yp6(P:Program)(tb:List (Nat×O))(e:Zlz):Prop:=∀S,Zk6 S tb=true→Zzb P (.func e.f [] []) e.args S e.v S
def Zlz.pure{call:Za1}(hc:Zbw P call){tb:List (Nat×O)}{e:Zlz}(h:e.ok tb P.globals.size call=true):Yp6 P tb e:=by
 unfold Zlz.ok at h
 split at h
 ·rename_i v s hcall
  split at h
  ·rename_i hw
   simp only[Ysp]at h
   obtain⟨⟨⟨⟨h1,h2⟩,h3⟩,h4⟩,h5⟩:=h
   have hv:=V.beq_eq _ _ h1
   subst hv
   intro S hpart μ w Gv xs hh hG hx
   have hpart:=Zkq hpart
   have hn:P.globals.size≤S.n:=by
    apply Yto
    intro hlt
    obtain⟨t,ht⟩:=hh.glob S.n hlt
    have:=(hh.dom _ _ ht).1
    omega
   have F:Znx P (fun i=>if i<P.globals.size then some i else none) (fun i=>if i<P.globals.size then some i else none) [] (Zse P.globals.size tb) s S S:={
    dom:=fun i i' hi=>by
     split at hi
     ·rename_i hlt;simp only[Yr1]at hi;subst hi
      exact⟨hlt,by omega⟩
     ·cases hi
    inj:=fun i j i' hi hj=>by
     split at hi<;>split at hj<;>simp_all
    glob:=fun g hg=>by simp[hg]
    obj:=fun i i' hi=>by
     split at hi
     ·rename_i hlt
      simp only[Yr1]at hi;subst hi
      cases hl:lk tb i with
      |some o=>
       refine⟨o,o,?_,.inr (.inl (O.tab_ren (Zl8 h5 hl).2)),.inl (hpart _ (Zrj hl))⟩
       show (Zeb (Zli P.globals.size) tb).get i=_
       rw[Zcb,hl]
      |none=>
       refine⟨.dead,.dead,?_,.inl rfl,.inr rfl⟩
       show (Zeb (Zli P.globals.size) tb).get i=_
       rw[Zcb,hl]
       exact Zj3 _ _ hlt
     ·cases hi
    old:=fun _ _=>rfl
    new:=fun i i' hi hr=>by
     have:P.globals.size≤i:=hi
     rw[Yr3 (by omega)]at hr;cases hr
    ninj:=fun i j i' hi _ hr _=>by
     have:P.globals.size≤i:=hi
     rw[Yr3 (by omega)]at hr;cases hr
    full:=fun i' h1 h2=>by omega
    nle:=Yr4 _
    w0:=rfl
    W1:=fun i i' hi _=>by rw[hw]at hi;cases hi
    W2:=fun j hj=>by cases hj
    wl:=rfl
    keep:=fun _ _ _=>rfl
    wr:=fun i i' hi _=>by rw[hw]at hi;cases hi
    obn:=fun i i' hi hr=>by
     have:P.globals.size≤i:=hi
     rw[Yr3 (by omega)]at hr;cases hr}
   exact(Zzb.frame (hc _ _ _ _ _ hcall) F (V.free_ren _ (by rfl)) (V.frees_ren _ h3) (V.free_ren _ h2)) μ w Gv xs hh hG hx
  ·cases h
 ·cases h
def Zxb:List Zlz→Nat→List V→Option V
 |[],_,_=>none
 |e::l,f,args=>match Nat.beq e.f f with
  |true=>match V.beqs e.args args with
   |true=>some e.v
   |false=>Zxb l f args
  |false=>Zxb l f args
def Zxc(tb:List (Nat×O))(l:List Zlz):Za1
 |.func f [] [],args,st=>match Zxb l f args with
  |some v=>match Zk6 st tb with
   |true=>some (v,st)
   |false=>none
  |none=>none
 |_,_,_=>none
def Zmm:∀{l:List Zlz} {f:Nat} {args:List V} {v:V},Zxb l f args=some v→∃e∈l,e.f=f∧e.args=args∧e.v=v
 |[],_,_,_,h=>by cases h
 |e::l,f,args,v,h=>by
  simp only[Zxb]at h
  split at h
  ·rename_i e1
   split at h
   ·rename_i e2
    simp only[Yr1]at h
    exact⟨e,Ys0,Za2 e1,V.beqs_eq _ _ e2,h⟩
   ·obtain⟨e',h1,h2⟩:=Zmm h;exact⟨e',Ysu _ h1,h2⟩
  ·obtain⟨e',h1,h2⟩:=Zmm h;exact⟨e',Ysu _ h1,h2⟩
def Zvj{tb:List (Nat×O)}{l:List Zlz}(h:∀e∈l,Yp6 P tb e):Zbw P (Zxc tb l):=by
 intro g args st v st' hc
 unfold Zxc at hc
 split at hc
 ·rename_i f
  split at hc
  ·rename_i u hu
   split at hc
   ·rename_i hp
    simp only[Yr1,Yr5]at hc
    obtain⟨rfl,rfl⟩:=hc
    obtain⟨e,h1,rfl,rfl,rfl⟩:=Zmm hu
    exact h e h1 st hp
   ·cases hc
  ·cases hc
 ·cases hc
structure Ent where
 f:Nat
 first:List V
 caps:List V
 args:List V
 part:List (Nat×O)
 n:Nat
 v:V
 kept:List (Nat×O)
 wrs:List (Nat×O)
def Ent.st(e:Ent)(G:Nat):St:=⟨Zeb (Zli G) e.part,e.n,[]⟩
def sig(G:Nat)(part:List (Nat×O))(i:Nat):Option Nat:=
 match Nat.blt i G with
 |true=>some i
 |false=>match lk part i with
  |some _=>some i
  |none=>none
def idx(i:Nat):List (Nat×O)→Nat→Option Nat
 |[],_=>none
 |(k,_)::l,m=>match Nat.beq k i with
  |true=>some m
  |false=>idx i l (m+1)
def rho(G:Nat)(part:List (Nat×O))(n:Nat)(kept:List (Nat×O))(i:Nat):Option Nat:=
 match Nat.blt i n with
 |true=>sig G part i
 |false=>idx i kept n
def Zf6:List (Nat×O)→Nat→List (Nat×O)
 |[],_=>[]
 |(_,o)::l,m=>(m,o)::Zf6 l (m+1)
def Zxj(ρ:Nat→Option Nat)(s:St)(i:Nat)(o':O):Bool:=
 match s.h.get i with
 |some o=>match o' with
  |.dead=>true
  |o'=>oEq (o.ren ρ) o'
 |none=>false
def Zvz(ρ:Nat→Option Nat)(s:St)(n:Nat):List (Nat×O)→Nat→Bool
 |[],_=>true
 |(k,o)::l,m=>Zq6 (ρ k) (some m)&&Nat.ble n k&&Nat.blt k s.n&&Zxj ρ s k o&&Zvz ρ s n l (m+1)
def Ent.chk(e:Ent)(G:Nat)(v:V)(s:St):Bool:=
 Nat.ble G e.n&&Nat.ble e.n s.n&&(e.part.all fun p=>Nat.blt p.1 e.n&&oEq (p.2.ren (sig G e.part)) p.2)&&
 Yod (V.rens (sig G e.part) e.first) e.first&&Yod (V.rens (sig G e.part) e.caps) e.caps&&Yod (V.rens (sig G e.part) e.args) e.args&&
 vEq (V.ren (rho G e.part e.n e.kept) v) e.v&&
 Zvz (rho G e.part e.n e.kept) s e.n e.kept e.n&&
 (s.w.all fun i=>match sig G e.part i with|some _=>Ykp i (e.wrs.map (·.1))|none=>true)&&
 (e.wrs.all fun p=>Ykp p.1 s.w&&Zq6 (sig G e.part p.1) (some p.1)&&Zxj (rho G e.part e.n e.kept) s p.1 p.2)
def Ent.ok(e:Ent)(G:Nat)(call:Za1):Bool:=
 match call (.func e.f e.first e.caps) e.args (e.st G)with
 |some (v,s)=>e.chk G v s
 |none=>false
def Ent.out(e:Ent)(S:St):St:=⟨Zeb (Zeb S.h e.wrs) (Zf6 e.kept e.n),e.n+e.kept.length,e.wrs.map (·.1)++S.w⟩
def Znb(e:Ent):Za1
 |.func f a c,args,S=>match Nat.beq e.f f with
  |true=>match V.beqs e.args args&&V.beqs e.first a&&V.beqs e.caps c&&Nat.beq S.n e.n&&Zk6 S e.part with
   |true=>some (e.v,e.out S)
   |false=>none
  |false=>none
 |_,_,_=>none
def Zjv{i:Nat}:∀{l:List (Nat×O)} {m i':Nat},idx i l m=some i'→m≤i'∧i'<m+l.length∧∃o,l[i'-m]?=some (i,o)
 |[],m,i',h=>by cases h
 |(k,o)::l,m,i',h=>by
  simp only[idx]at h
  split at h
  ·rename_i e
   simp only[Yr1]at h;subst h
   have:=Za2 e;subst this
   exact⟨Yr4 _,by simp,o,by simp⟩
  ·obtain⟨h1,h2,o',h3⟩:=Zjv h
   refine⟨by omega,by simp;omega,o',?_⟩
   rw[show i'-m=(i'-(m+1))+1 by omega]
   simpa using h3
def Zoo:∀{l:List (Nat×O)} {m j:Nat} {p:Nat×O},l[j]?=some p→lk (Zf6 l m) (m+j)=some p.2
 |[],m,j,p,h=>by simp at h
 |(k,o)::l,m,0,p,h=>by
  simp at h;subst h
  simp[Zf6,lk]
 |(k,o)::l,m,j+1,p,h=>by
  simp only[Zf6,lk]
  have:Nat.beq m (m+(j+1))=false:=by
   cases hb:Nat.beq m (m+(j+1))with
   |false=>rfl
   |true=>have:=Za2 hb;omega
  rw[this,show m+(j+1)=(m+1)+j by omega]
  exact Zoo (by simpa using h)
def Zk7:∀{l:List (Nat×O)} {m i:Nat},i<m→lk (Zf6 l m) i=none
 |[],_,_,_=>rfl
 |(k,o)::l,m,i,h=>by
  simp only[Zf6,lk]
  have:Nat.beq m i=false:=by
   cases hb:Nat.beq m i with
   |false=>rfl
   |true=>have:=Za2 hb;omega
  rw[this]
  exact Zk7 (by omega)
def Zou{ρ:Nat→Option Nat}{s:St}{n:Nat}:∀{l:List (Nat×O)} {m:Nat},Zvz ρ s n l m=true→∀{j:Nat} {p:Nat×O},l[j]?=some p→ρ p.1=some (m+j)∧n≤p.1∧p.1<s.n∧Zxj ρ s p.1 p.2=true
 |[],m,_,j,p,h=>by simp at h
 |(k,o)::l,m,h,j,p,hj=>by
  simp only[Zvz,Ysp]at h
  obtain⟨⟨⟨⟨h1,h2⟩,h3⟩,h4⟩,h5⟩:=h
  cases j with
  |zero=>
   simp at hj;subst hj
   exact⟨Zmw h1,Ys5 h2,Yun (Ys5 h3),h4⟩
  |succ j=>
   obtain⟨q1,q2⟩:=Zou h5 (j:=j) (by simpa using hj)
   exact⟨by rw[q1];congr 1;omega,q2⟩
def Zon{ρ:Nat→Option Nat}{s:St}{o':O}(h:Zxj ρ s i o'=true):∃o,s.h.get i=some o∧(o'=.dead∨o.ren ρ=some o'):=by
 unfold Zxj at h
 split at h
 ·rename_i o ho
  refine⟨o,ho,?_⟩
  split at h
  ·exact .inl rfl
  ·exact .inr (Ya5 h)
 ·cases h
def Zhm{part:List (Nat×O)}{i':Nat}(h:sig G part i=some i'):i'=i∧(i<G∨∃o,lk part i=some o):=by
 unfold sig at h
 split at h
 ·rename_i e
  simp only[Yr1]at h
  exact⟨h.symm,.inl (Yun (Ys5 e))⟩
 ·split at h
  ·rename_i o ho
   simp only[Yr1]at h
   exact⟨h.symm,.inr ⟨o,ho⟩⟩
  ·cases h
def Zyv{call:Za1}(hcall:Zbw P call){e:Ent}(h:e.ok P.globals.size call=true):Zbw P (Znb e):=by
 intro g args S v S' hc
 unfold Znb at hc
 split at hc
 ·rename_i f a c
  split at hc
  ·rename_i hf
   have hf:=Za2 hf
   subst hf
   split at hc
   ·rename_i hcond
    simp only[Ysp]at hcond
    obtain⟨⟨⟨⟨c1,c2⟩,c3⟩,c4⟩,c5⟩:=hcond
    have c1:=V.beqs_eq _ _ c1
    have c2:=V.beqs_eq _ _ c2
    have c3:=V.beqs_eq _ _ c3
    have c4:=Za2 c4
    have c5:=Zkq c5
    simp only[Yr1,Yr5]at hc
    obtain⟨rfl,rfl⟩:=hc
    subst c1;subst c2;subst c3
    unfold Ent.ok at h
    split at h
    ·rename_i v0 s hrun
     unfold Ent.chk at h
     simp only[Ysp,Ys4]at h
     obtain⟨⟨⟨⟨⟨⟨⟨⟨⟨k1,k2⟩,k3⟩,k4⟩,k5⟩,k6⟩,k7⟩,k8⟩,k9⟩,k10⟩:=h
     have k1:=Ys5 k1
     have k2:=Ys5 k2
     have hpart:∀i o,lk e.part i=some o→i<e.n∧o.ren (sig P.globals.size e.part)=some o∧S.h.get i=some o:=fun i o ho=>by
      have hm:=Zrj ho
      obtain⟨q1,q2⟩:=k3 _ hm
      exact⟨Yun (Ys5 q1),Ya5 q2,c5 _ hm⟩
     have hρn:∀i,e.n≤i→rho P.globals.size e.part e.n e.kept i=idx i e.kept e.n:=fun i hi=>by
      unfold rho
      have:Nat.blt i e.n=false:=by
       cases hb:Nat.blt i e.n with
       |false=>rfl
       |true=>have:=Yun (Ys5 hb);omega
      rw[this]
     have hkept:∀j p,e.kept[j]?=some p→rho P.globals.size e.part e.n e.kept p.1=some (e.n+j)∧e.n≤p.1∧p.1<s.n∧Zxj (rho P.globals.size e.part e.n e.kept) s p.1 p.2=true:=fun j p hj=>Zou k8 hj
     have hlkn:∀j,j<e.n→(e.out S).h.get j=match lk e.wrs j with|some o=>some o|none=>S.h.get j:=fun j hj=>by
      show (Zeb (Zeb S.h e.wrs) (Zf6 e.kept e.n)).get j=_
      rw[Zcb,Zk7 hj,Zcb]
     have F:Znx P (sig P.globals.size e.part) (rho P.globals.size e.part e.n e.kept) (e.wrs.map (·.1)) (e.st P.globals.size) s S (e.out S):={
      dom:=fun i i' hi=>by
       obtain⟨rfl,hor⟩:=Zhm hi
       have:i'<e.n:=by
        rcases hor with h|⟨o,ho⟩
        ·omega
        ·exact(hpart _ _ ho).1
       exact⟨this,by omega⟩
      inj:=fun i j i' hi hj=>by rw[←(Zhm hi).1,←(Zhm hj).1]
      glob:=fun g hg=>by
       unfold sig
       have:Nat.blt g P.globals.size=true:=Yvw hg
       rw[this]
      obj:=fun i i' hi=>by
       obtain⟨rfl,hor⟩:=Zhm hi
       cases hl:lk e.part i' with
       |some o=>
        obtain⟨q1,q2,q3⟩:=hpart _ _ hl
        refine⟨o,o,?_,.inr (.inl q2),.inl q3⟩
        show (Zeb (Zli P.globals.size) e.part).get i'=_
        rw[Zcb,hl]
       |none=>
        have hg:i'<P.globals.size:=by
         rcases hor with h|⟨o,ho⟩
         ·exact h
         ·rw[hl]at ho;cases ho
        refine⟨.dead,.dead,?_,.inl rfl,.inr rfl⟩
        show (Zeb (Zli P.globals.size) e.part).get i'=_
        rw[Zcb,hl]
        exact Zj3 _ _ hg
      old:=fun i hi=>by
       have:Nat.blt i e.n=true:=Yvw hi
       unfold rho;rw[this]
      new:=fun i i' hi hr=>by
       rw[hρn i hi]at hr
       obtain⟨q1,q2,o,q3⟩:=Zjv hr
       obtain⟨_,_,r3,_⟩:=hkept _ _ q3
       exact⟨by omega,q2,r3⟩
      ninj:=fun i j i' hi hj hri hrj=>by
       rw[hρn i hi]at hri
       rw[hρn j hj]at hrj
       obtain⟨_,_,o,q3⟩:=Zjv hri
       obtain⟨_,_,o',q3'⟩:=Zjv hrj
       rw[q3]at q3'
       cases q3';rfl
      full:=fun i' h1 h2=>by
       have h2':i'<e.n+e.kept.length:=h2
       obtain⟨p,hp⟩:∃p,e.kept[i'-e.n]?=some p:=⟨_,Yr7 (by omega)⟩
       obtain⟨r1,r2,_,_⟩:=hkept _ _ hp
       exact⟨p.1,r2,by rw[r1];congr 1;omega⟩
      nle:=by show S.n≤e.n+e.kept.length;omega
      w0:=rfl
      W1:=fun i i' hi hs=>by
       obtain⟨rfl,_⟩:=Zhm hs
       have:=k9 _ hi
       rw[hs]at this
       exact Zjs.1 this
      W2:=fun j hj=>by
       obtain⟨p,hp,rfl⟩:=Yt1.1 hj
       obtain⟨⟨q1,q2⟩,_⟩:=k10 _ hp
       exact⟨p.1,Zjs.1 q1,Zmw q2⟩
      wl:=rfl
      keep:=fun j hj hn=>by
       rw[hlkn j (by omega)]
       cases hl:lk e.wrs j with
       |none=>rfl
       |some o=>exact absurd (Yt1.2 ⟨_,Zrj hl,rfl⟩) hn
      wr:=fun i i' hi hs=>by
       obtain⟨rfl,hor⟩:=Zhm hs
       have hlt:i'<e.n:=by
        rcases hor with h|⟨o,ho⟩
        ·omega
        ·exact(hpart _ _ ho).1
       have:=k9 _ hi
       rw[hs]at this
       obtain⟨p,hp,hpe⟩:=Yt1.1 (Zjs.1 this)
       obtain⟨o',ho'⟩:=Ykt (l:=e.wrs) (i:=i') (o:=p.2) (by rw[←hpe];exact hp)
       obtain⟨_,q3⟩:=k10 _ (Zrj ho')
       obtain⟨o,r1,r2⟩:=Zon q3
       exact⟨o,o',r1,by rw[hlkn _ hlt,ho'],r2⟩
      obn:=fun i i' hi hr=>by
       rw[hρn i hi]at hr
       obtain⟨q1,q2,o,q3⟩:=Zjv hr
       obtain⟨_,_,_,r4⟩:=hkept _ _ q3
       obtain⟨o2,t1,t2⟩:=Zon r4
       refine⟨o2,o,t1,?_,t2⟩
       show (Zeb (Zeb S.h e.wrs) (Zf6 e.kept e.n)).get i'=_
       have:=Zoo (m:=e.n) q3
       rw[show e.n+(i'-e.n)=i' by omega]at this
       rw[Zcb,this]}
     refine Zzb.frame (hcall _ _ _ _ _ hrun) F ?_ (Zso k6) (Ymf k7)
     simp only[V.ren,Zso k4,Zso k5]
    ·cases h
   ·cases hc
  ·cases hc
 ·cases hc
def Zgl(x:Za1)(tbl:Nat→Option Zeh)(fuel:Nat):Nat→Za1
 |0=>x
 |d+1=>Zed x (Zcs tbl (Zbd (Zgl x tbl fuel d) fuel))
def Zjt{P:Program}{tbl:Nat→Option Zeh}(hm:P.follows .mixedOrders=true)(hE:Zel P)(ht:Zuw P tbl){x:Za1}(hx:Zbw P x)(fuel:Nat):∀d,Zbw P (Zgl x tbl fuel d)
 |0=>hx
 |d+1=>by
  have ih:=Zjt hm hE ht hx fuel d
  exact hx.or (Zuj ht (Ydg ih hE (Ycy hm hE ih) (Yhv ih hE) (Zvd ih) fuel))
def Ygr:List Ent→Nat→List V→List V→List V→St→Option (V×St)
 |[],_,_,_,_,_=>none
 |e::l,f,a,c,args,S=>match Nat.beq e.f f with
  |true=>match Znb e (.func f a c) args S with
   |some r=>some r
   |none=>Ygr l f a c args S
  |false=>Ygr l f a c args S
def Ylc(l:List Ent):Za1
 |.func f a c,args,S=>Ygr l f a c args S
 |_,_,_=>none
def Ygs{l:List Ent}(h:∀e∈l,Zbw P (Znb e)):Zbw P (Ylc l):=by
 intro g args S v S' hc
 unfold Ylc at hc
 split at hc
 ·rename_i f a c
  induction l with
  |nil=>cases hc
  |cons e l ih=>
   simp only[Ygr]at hc
   split at hc
   ·split at hc
    ·rename_i r hr
     cases hc
     exact h e Ys0 _ _ _ _ _ hr
    ·exact ih (fun e he=>h e (Ysu _ he)) hc
   ·exact ih (fun e he=>h e (Ysu _ he)) hc
 ·cases hc
def Zzf(tb:List (Nat×O))(L:List Zlz)(E:List Ent):Za1:=Zed (Zxc tb L) (Ylc E)
structure Zbk (P:Program) (tb:List (Nat×O)) (L:List Zlz) (E:List Ent):Prop where
 p:∀e∈L,Yp6 P tb e
 e:∀e∈E,Zbw P (Znb e)
def Zbk.call{tb:List (Nat×O)}{L:List Zlz}{E:List Ent}(h:Zbk P tb L E):Zbw P (Zzf tb L E):=(Zvj h.p).or (Ygs h.e)
def Zbk.nil{tb:List (Nat×O)}:Zbk P tb [] []:=⟨fun _ h=>(by cases h),fun _ h=>(by cases h)⟩
structure Zlc (P:Program) (tbl:Nat→Option Zeh) (G:Nat):Prop where
 m:P.follows .mixedOrders=true
 e:Zel P
 t:Zuw P tbl
 g:P.globals.size=G
def Zbk.addP{tbl:Nat→Option Zeh}{fuel d:Nat}(hP:Zlc P tbl G){tb:List (Nat×O)}{L:List Zlz}{E:List Ent}(h:Zbk P tb L E){e:Zlz}(he:e.ok tb G (Zgl (Zzf tb L E) tbl fuel d)=true):Zbk P tb (e::L) E:=
 ⟨fun e' hm=>by
  rcases Ysz.1 hm with rfl|hm
  ·exact Zlz.pure (Zjt hP.m hP.e hP.t h.call fuel d) (by rw[hP.g];exact he)
  ·exact h.p e' hm,h.e⟩
def Zbk.addE{tbl:Nat→Option Zeh}{fuel d:Nat}(hP:Zlc P tbl G){tb:List (Nat×O)}{L:List Zlz}{E:List Ent}(h:Zbk P tb L E){e:Ent}(he:e.ok G (Zgl (Zzf tb L E) tbl fuel d)=true):Zbk P tb L (e::E):=
 ⟨h.p,fun e' hm=>by
  rcases Ysz.1 hm with rfl|hm
  ·exact Zyv (Zjt hP.m hP.e hP.t h.call fuel d) (by rw[hP.g];exact he)
  ·exact h.e e' hm⟩
def Yic(tb:List (Nat×O))(G:Nat)(tbl:Nat→Option Zeh)(L:List Zlz)(E:List Ent):Bool:=match L with
 |[]=>false
 |e::t=>e.ok tb G (Zgl (Zzf tb t E) tbl 5000 40)
def Ycn(tb:List (Nat×O))(G:Nat)(tbl:Nat→Option Zeh)(L:List Zlz)(E:List Ent):Bool:=match E with
 |[]=>false
 |e::t=>e.ok G (Zgl (Zzf tb L t) tbl 5000 40)
def Zbk.p1{P:Program}{tbl:Nat→Option Zeh}{G:Nat}(hP:Zlc P tbl G){tb:List (Nat×O)}{L:List Zlz}{E:List Ent}(h:Zbk P tb L.tail E)(he:Yic tb G tbl L E=true):Zbk P tb L E:=by
 cases L with
 |nil=>exact h
 |cons e t=>exact Zbk.addP hP h he
def Zbk.e1{P:Program}{tbl:Nat→Option Zeh}{G:Nat}(hP:Zlc P tbl G){tb:List (Nat×O)}{L:List Zlz}{E:List Ent}(h:Zbk P tb L E.tail)(he:Ycn tb G tbl L E=true):Zbk P tb L E:=by
 cases E with
 |nil=>exact h
 |cons e t=>exact Zbk.addE hP h he
section
variable {call:Za1} {f:Nat} {ro:Option Nat} {a b c:Zah} {fr:Fr} {st:St}
end
def Ym7{a b:Nat}:Nat.blt a b=decide (a<b):=by
 cases h:Nat.blt a b
 ·symm;simp only[decide_eq_false_iff_not];intro hc;rw[show Nat.blt a b=true from Yvw hc]at h;cases h
 ·symm;simp only[decide_eq_true_eq];exact Yun (Ys5 h)
def Ym8{a b:Nat}:Nat.ble a b=decide (a≤b):=by
 cases h:Nat.ble a b
 ·symm;simp only[decide_eq_false_iff_not];intro hc;rw[Yvw hc]at h;cases h
 ·symm;simp only[decide_eq_true_eq];exact Ys5 h
def Zak{n:Int}(h1: -9223372036854775808≤n)(h2:n<9223372036854775808):Zap .i64 n=n:=by
 rw[Zdh]
 simp[IntKind.wrap,IntKind.bits,IntKind.signed]
 omega
def Zym{k a b}:Zdp .add k a b=some (.int k (Zap k (a+b))):=rfl
def Zyb{k a b}:Zdp .sub k a b=some (.int k (Zap k (a-b))):=rfl
def Zyg{k a b}:Zdp .mul k a b=some (.int k (Zap k (a*b))):=rfl
def Zye{k a b}(h:¬b=0):Zdp .quo k a b=some (.int k (Zap k (a.tdiv b))):=by simp[Zdp,h]
def Zyd{k a b}(h:¬b=0):Zdp .rem k a b=some (.int k (a.tmod b)):=by simp[Zdp,h]
def Zyl{k a b}:Zdp .eql k a b=some (.bool (a==b)):=rfl
def Zyf{k a b}:Zdp .neq k a b=some (.bool (a !=b)):=rfl
def Zyh{k a b}:Zdp .lss k a b=some (.bool (decide (a<b))):=rfl
def Zyi{k a b}:Zdp .leq k a b=some (.bool (decide (a≤b))):=rfl
def Zyj{k a b}:Zdp .gtr k a b=some (.bool (decide (a > b))):=rfl
def Zyk{k a b}:Zdp .geq k a b=some (.bool (decide (a≥b))):=rfl
def Ykg(x):mop (.mov x)=Zmr x:=rfl
def Yfv(a b c):mop (.pick a b c)=Zgv a b c:=rfl
def Ybo(a b):mop (.alloc a b)=Zhs a b:=rfl
def Ykk(a b):mop (.box a b)=Zmu a b:=rfl
def Ybn(a b):mop (.build a b)=Zep a b:=rfl
def Zxv(a b c d e):mop (.bslice a b c d e)=Zez a b c d e:=rfl
def Yfw(a b):mop (.load a b)=Zih a b:=rfl
def Ybf(a b c):mop (.store a b c)=Ze9 a b c:=rfl
def Ybh(a):mop (.nilck a)=Zf2 a:=rfl
def Ykl(a b c d e):mop (.bin a b c d e)=Zmv a b c d e:=rfl
def Ynb(a b):mop (.un a b)=Ztc a b:=rfl
def Zty(a b):mop (.convInt a b)=Zd1 a b:=rfl
def Zxo(a b c):mop (.mkfunc a b c)=Zex a b c:=rfl
def Ybk(a b):mop (.faddr a b)=Zf4 a b:=rfl
def Ybj(a b c):mop (.field a b c)=Zf3 a b c:=rfl
def Zre(a b c d):mop (.iaddrArr a b c d)=Zb6 a b c d:=rfl
def Ztv(a b c):mop (.iaddrSl a b c)=Zdf a b c:=rfl
def Ztw(a b):mop (.extract a b)=Zd0 a b:=rfl
def Ykh(a b):mop (.len a b)=Zfi a b:=rfl
def Yfy(a b):mop (.call a b)=Zej a b:=rfl
structure Yoc (r:Option (V×St)) (v:V):Prop where
 ex:∃s,r=some (v,s)∧s.w=[]
def Zyp{u v:V}{s:St}:Yoc (some (u,s)) v↔u=v∧s.w=[]:=
 ⟨fun ⟨_,h1,h2⟩=>by simp only[Yr1,Yr5]at h1;exact⟨h1.1,h1.2▸h2⟩,fun ⟨h1,h2⟩=>⟨s,by rw[h1],h2⟩⟩
attribute [simp]
 Ykg Yfv Ybo Ykk Ybn Zxv Yfw Ybf Ybh Ykl Ynb Zty Zxo Ybk Ybj Zre Ztv Ztw Ykh Yfy
 Zmr Zgv Zhs Zmu Zep Zez Zih Zf2 Zmv Ztc Zd1 Zex Zf4 Zf3 Zb6 Zd0 Zej
 Zei wantedV Src.ev T.get_set resV Zqw Zad Yp2 Zym Zyb Zyg Zye Zyd Zyl Zyf Zyh Zyi Zyj Zyk Zbh unV Zhz evOpt Zfe Zn1 Zam V.cells V.one St.alloc St.write St.row Zak Ym7 Ym8 Zg1 Zct MOp.silent Zvw apartOk Zao Zao.go Zao.chk FP.free Zpv Nat.testBit Zyp base
end Go.Mx

