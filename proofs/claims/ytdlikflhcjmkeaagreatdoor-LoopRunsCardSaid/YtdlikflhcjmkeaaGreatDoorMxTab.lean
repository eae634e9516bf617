/-Calls that are known-/
import Derived.Test.YtdlikflhcjmkeaaGreatDoorMxDraw5
import Derived.Below
import Derived.CallsIn
set_option linter.all false
namespace Go.Mx
open Go
variable {G i:Nat} {P:Program}
def Zrm:Bool→Bool→Bool
 |true,b=>b
 |false,true=>false
 |false,false=>true
def Yev:IntKind→Nat
 |.i8=>0|.i16=>1|.i32=>2|.i64=>3|.u8=>4|.u16=>5|.u32=>6|.u64=>7
def Yjd:Int→Int→Bool
 |.ofNat a,b=>match b with
  |.ofNat b=>Nat.beq a b
  |.negSucc _=>false
 |.negSucc a,b=>match b with
  |.ofNat _=>false
  |.negSucc b=>Nat.beq a b
def Zr3:List UInt8→List UInt8→Bool
 |[],l=>match l with
  |[]=>true
  |_::_=>false
 |a::xs,l=>match l with
  |[]=>false
  |b::ys=>match Nat.beq a.toNat b.toNat with
   |true=>Zr3 xs ys
   |false=>false
def Zqj:Option Nat→Option Nat→Bool
 |none,b=>match b with
  |none=>true
  |some _=>false
 |some a,b=>match b with
  |none=>false
  |some b=>Nat.beq a b
def Znc{a b:Bool}(h:Zrm a b=true):a=b:=by cases a<;>cases b<;>simp_all [Zrm]
def Za1{a b:Nat}(h:Nat.beq a b=true):a=b:=Yt0 h
def Yjf{a b:IntKind}(h:Nat.beq (Yev a) (Yev b)=true):a=b:=by cases a<;>cases b<;>first|rfl|(exact absurd h (by decide))
def Yet{a b:Int}(h:Yjd a b=true):a=b:=by
 cases a<;>cases b<;>simp only[Yjd,Yqm]at h
 ·rw[Za1 h]
 ·rw[Za1 h]
def Zor:∀{a b:List UInt8},Zr3 a b=true→a=b
 |[],[],_=>rfl
 |[],_::_,h=>by simp[Zr3]at h
 |_::_,[],h=>by simp[Zr3]at h
 |a::xs,b::ys,h=>by
  simp only[Zr3]at h
  split at h
  ·rename_i e
   rw[Zor h,UInt8.toNat_inj.1 (Za1 e)]
  ·cases h
def Zmk{a b:Option Nat}(h:Zqj a b=true):a=b:=by
 cases a<;>cases b<;>simp only[Zqj,Yqm]at h
 ·rfl
 ·rw[Za1 h]
def Zxt:FloatKind→Nat
 |.f32=>0|.f64=>1
def Ybj{a b:FloatKind}(h:Nat.beq (Zxt a) (Zxt b)=true):a=b:=by cases a<;>cases b<;>first|rfl|(exact absurd h (by decide))
def V.isBool(x:Bool):V→Bool|.bool y=>Zrm x y|_=>false
def V.isInt(k:IntKind)(n:Int):V→Bool|.int k' n'=>(match Nat.beq (Yev k) (Yev k')with|true=>Yjd n n'|false=>false)|_=>false
def V.isFlt(k:FloatKind)(n:Nat):V→Bool|.flt k' n'=>(match Nat.beq (Zxt k) (Zxt k')with|true=>Nat.beq n n'|false=>false)|_=>false
def V.isCpl(k:FloatKind)(m n:Nat):V→Bool|.cpl k' m' n'=>(match Nat.beq (Zxt k) (Zxt k')with|true=>Nat.beq m m'&&Nat.beq n n'|false=>false)|_=>false
def V.isStr(s:List UInt8):V→Bool|.str t=>Zr3 s t|_=>false
def V.isNilptr:V→Bool|.nilptr=>true|_=>false
def V.isPtr(i o:Nat):V→Bool|.ptr i' o'=>(match Nat.beq i i' with|true=>Nat.beq o o'|false=>false)|_=>false
def V.isNilslice:V→Bool|.nilslice=>true|_=>false
def V.isSlice(i o l:Nat)(c:Option Nat)(z:Nat):V→Bool|.slice i' o' l' c' z'=>Nat.beq i i'&&Nat.beq o o'&&Nat.beq l l'&&Zqj c c'&&Nat.beq z z'|_=>false
def V.isEmpty:V→Bool|.empty=>true|_=>false
def V.isNilmap:V→Bool|.nilmap=>true|_=>false
def V.isMap(i:Nat):V→Bool|.map j=>Nat.beq i j|_=>false
def V.isNilchan:V→Bool|.nilchan=>true|_=>false
def V.isChan(i:Nat):V→Bool|.chan j=>Nat.beq i j|_=>false
def V.isYield(i:Nat):V→Bool|.yield j=>Nat.beq i j|_=>false
def V.isNilfunc:V→Bool|.nilfunc=>true|_=>false
def V.isNiliface:V→Bool|.niliface=>true|_=>false
mutual
def V.beq:V→V→Bool
 |.bool x,b=>b.isBool x
 |.int k n,b=>b.isInt k n
 |.flt k n,b=>b.isFlt k n
 |.cpl k m n,b=>b.isCpl k m n
 |.str s,b=>b.isStr s
 |.nilptr,b=>b.isNilptr
 |.ptr i o,b=>b.isPtr i o
 |.nilslice,b=>b.isNilslice
 |.slice i o l c z,b=>b.isSlice i o l c z
 |.empty,b=>b.isEmpty
 |.nilmap,b=>b.isNilmap
 |.map i,b=>b.isMap i
 |.nilchan,b=>b.isNilchan
 |.chan i,b=>b.isChan i
 |.func f a c,b=>match b with
  |.func f' a' c'=>Nat.beq f f'&&V.beqs a a'&&V.beqs c c'
  |_=>false
 |.yield i,b=>b.isYield i
 |.nilfunc,b=>b.isNilfunc
 |.iface t v,b=>match b with
  |.iface t' v'=>Nat.beq t t'&&V.beq v v'
  |_=>false
 |.niliface,b=>b.isNiliface
 |.agg l,b=>match b with
  |.agg l'=>V.beqs l l'
  |_=>false
 |.tup l,b=>match b with
  |.tup l'=>V.beqs l l'
  |_=>false
def V.beqs:List V→List V→Bool
 |[],l=>match l with
  |[]=>true
  |_::_=>false
 |a::xs,l=>match l with
  |[]=>false
  |b::ys=>match V.beq a b with
   |true=>V.beqs xs ys
   |false=>false
end
mutual
def V.beq_eq:∀(a b:V),V.beq a b=true→a=b
 |.bool x,b,h=>by cases b<;>simp only[V.beq,V.isBool,Yqm]at h;rw[Znc h]
 |.int k n,b,h=>by
  cases b<;>simp only[V.beq,V.isInt,Yqm]at h
  split at h
  ·rename_i e;rw[Yjf e,Yet h]
  ·cases h
 |.flt k n,b,h=>by
  cases b<;>simp only[V.beq,V.isFlt,Yqm]at h
  split at h
  ·rename_i e;rw[Ybj e,Za1 h]
  ·cases h
 |.cpl k m n,b,h=>by
  cases b<;>simp only[V.beq,V.isCpl,Yqm]at h
  split at h
  ·rename_i e
   rw[Yq1]at h
   rw[Ybj e,Za1 h.1,Za1 h.2]
  ·cases h
 |.str s,b,h=>by cases b<;>simp only[V.beq,V.isStr,Yqm]at h;rw[Zor h]
 |.nilptr,b,h=>by cases b<;>simp only[V.beq,V.isNilptr,Yqm]at h;rfl
 |.ptr i o,b,h=>by
  cases b<;>simp only[V.beq,V.isPtr,Yqm]at h
  split at h
  ·rename_i e;rw[Za1 e,Za1 h]
  ·cases h
 |.nilslice,b,h=>by cases b<;>simp only[V.beq,V.isNilslice,Yqm]at h;rfl
 |.slice i o l c z,b,h=>by
  cases b<;>simp only[V.beq,V.isSlice,Yqm,Yq1]at h
  obtain⟨⟨⟨⟨h1,h2⟩,h3⟩,h4⟩,h5⟩:=h
  rw[Za1 h1,Za1 h2,Za1 h3,Zmk h4,Za1 h5]
 |.empty,b,h=>by cases b<;>simp only[V.beq,V.isEmpty,Yqm]at h;rfl
 |.nilmap,b,h=>by cases b<;>simp only[V.beq,V.isNilmap,Yqm]at h;rfl
 |.map i,b,h=>by cases b<;>simp only[V.beq,V.isMap,Yqm]at h;rw[Za1 h]
 |.nilchan,b,h=>by cases b<;>simp only[V.beq,V.isNilchan,Yqm]at h;rfl
 |.chan i,b,h=>by cases b<;>simp only[V.beq,V.isChan,Yqm]at h;rw[Za1 h]
 |.func f a c,b,h=>by
  cases b<;>simp only[V.beq,Yqm,Yq1]at h
  obtain⟨⟨h1,h2⟩,h3⟩:=h
  rw[Za1 h1,V.beqs_eq _ _ h2,V.beqs_eq _ _ h3]
 |.yield i,b,h=>by cases b<;>simp only[V.beq,V.isYield,Yqm]at h;rw[Za1 h]
 |.nilfunc,b,h=>by cases b<;>simp only[V.beq,V.isNilfunc,Yqm]at h;rfl
 |.iface t v,b,h=>by
  cases b<;>simp only[V.beq,Yqm,Yq1]at h
  rw[Za1 h.1,V.beq_eq _ _ h.2]
 |.niliface,b,h=>by cases b<;>simp only[V.beq,V.isNiliface,Yqm]at h;rfl
 |.agg l,b,h=>by cases b<;>simp only[V.beq,Yqm]at h;rw[V.beqs_eq _ _ h]
 |.tup l,b,h=>by cases b<;>simp only[V.beq,Yqm]at h;rw[V.beqs_eq _ _ h]
def V.beqs_eq:∀(a b:List V),V.beqs a b=true→a=b
 |[],[],_=>rfl
 |[],_::_,h=>by simp[V.beqs]at h
 |_::_,[],h=>by simp[V.beqs]at h
 |a::xs,b::ys,h=>by
  simp only[V.beqs]at h
  split at h
  ·rename_i e;rw[V.beq_eq a b e,V.beqs_eq xs ys h]
  ·cases h
end
def Ykt:List (V×V)→List (V×V)→Bool
 |[],l=>match l with
  |[]=>true
  |_::_=>false
 |(k,v)::xs,l=>match l with
  |[]=>false
  |(k',v')::ys=>V.beq k k'&&V.beq v v'&&Ykt xs ys
def Ybq:∀{a b:List (V×V)},Ykt a b=true→a=b
 |[],[],_=>rfl
 |[],_::_,h=>by simp[Ykt]at h
 |_::_,[],h=>by simp[Ykt]at h
 |(k,v)::xs,(k',v')::ys,h=>by
  simp only[Ykt,Yq1]at h
  rw[V.beq_eq _ _ h.1.1,V.beq_eq _ _ h.1.2,Ybq h.2]
def O.beq:O→O→Bool
 |.cells c e rw,b=>match b with
  |.cells c' e' rw'=>Nat.beq e e'&&Zrm rw rw'&&V.beqs c c'
  |_=>false
 |.map es,b=>match b with
  |.map es'=>Ykt es es'
  |_=>false
 |.chan cap buf,b=>match b with
  |.chan cap' buf'=>Nat.beq cap cap'&&V.beqs buf buf'
  |_=>false
 |.siter s pos,b=>match b with
  |.siter s' pos'=>Zr3 s s'&&Nat.beq pos pos'
  |_=>false
 |.defs o,b=>match b with
  |.defs o'=>Zrm o o'
  |_=>false
 |.loop _,_=>false
 |.dead,b=>match b with
  |.dead=>true
  |_=>false
def O.beq_eq{a b:O}(h:O.beq a b=true):a=b:=by
 cases a<;>simp only[O.beq,Yqm]at h<;>cases b<;>simp only[Yqm,Yq1]at h
 ·obtain⟨⟨h1,h2⟩,h3⟩:=h;rw[Za1 h1,Znc h2,V.beqs_eq _ _ h3]
 ·rw[Ybq h]
 ·rw[Za1 h.1,V.beqs_eq _ _ h.2]
 ·rw[Zor h.1,Za1 h.2]
 ·rw[Znc h]
 ·rfl
def oEq:Option O→O→Bool
 |some a,b=>O.beq a b
 |none,_=>false
def Zzx{a:Option O}{b:O}(h:oEq a b=true):a=some b:=by
 cases a with
 |none=>cases h
 |some a=>rw[O.beq_eq h]
def vEq:Option V→V→Bool
 |some a,b=>V.beq a b
 |none,_=>false
def Yk1{a:Option V}{b:V}(h:vEq a b=true):a=some b:=by
 cases a with
 |none=>cases h
 |some a=>rw[V.beq_eq _ _ h]
def Ymn:Option (List V)→List V→Bool
 |some a,b=>V.beqs a b
 |none,_=>false
def Zrx{a:Option (List V)}{b:List V}(h:Ymn a b=true):a=some b:=by
 cases a with
 |none=>cases h
 |some a=>rw[V.beqs_eq _ _ h]
mutual
def V.free:V→Bool
 |.ptr ..|.slice ..|.map _|.chan _|.yield _=>false
 |.func _ a c=>V.frees a&&V.frees c
 |.iface _ v=>V.free v
 |.agg l=>V.frees l
 |.tup l=>V.frees l
 |_=>true
def V.frees:List V→Bool
 |[]=>true
 |v::vs=>V.free v&&V.frees vs
end
mutual
def V.free_ren{ρ:Nat→Option Nat}:∀(v:V),V.free v=true→V.ren ρ v=some v
 |.bool _,_=>rfl
 |.int _ _,_=>rfl
 |.flt _ _,_=>rfl
 |.cpl _ _ _,_=>rfl
 |.str _,_=>rfl
 |.nilptr,_=>rfl
 |.ptr _ _,h=>by simp[V.free]at h
 |.nilslice,_=>rfl
 |.slice _ _ _ _ _,h=>by simp[V.free]at h
 |.empty,_=>rfl
 |.nilmap,_=>rfl
 |.map _,h=>by simp[V.free]at h
 |.nilchan,_=>rfl
 |.chan _,h=>by simp[V.free]at h
 |.func f a c,h=>by
  simp only[V.free,Yq1]at h
  simp only[V.ren,V.frees_ren a h.1,V.frees_ren c h.2]
 |.yield _,h=>by simp[V.free]at h
 |.nilfunc,_=>rfl
 |.iface t v,h=>by
  simp only[V.free]at h
  simp only[V.ren,V.free_ren v h]
 |.niliface,_=>rfl
 |.agg l,h=>by
  simp only[V.free]at h
  simp only[V.ren,V.frees_ren l h]
 |.tup l,h=>by
  simp only[V.free]at h
  simp only[V.ren,V.frees_ren l h]
def V.frees_ren{ρ:Nat→Option Nat}:∀(l:List V),V.frees l=true→V.rens ρ l=some l
 |[],_=>rfl
 |v::vs,h=>by
  simp only[V.frees,Yq1]at h
  simp only[V.rens,V.free_ren v h.1,V.frees_ren vs h.2]
end
def Zk7:Nat→T O
 |0=>.nil
 |n+1=>(Zk7 n).set n .dead
def Zjy:∀(n i:Nat),i<n→(Zk7 n).get i=some .dead
 |0,i,h=>by omega
 |n+1,i,h=>by
  simp only[Zk7,T.get_set]
  by_cases e:i=n
  ·rw[Yqi e]
  ·rw[Yqe e];exact Zjy n i (by omega)
def base(G:Nat):St:=⟨Zk7 G,G,[]⟩
def lk:List (Nat×O)→Nat→Option O
 |[],_=>none
 |(j,o)::l,i=>match Nat.beq j i with
  |true=>some o
  |false=>lk l i
def Zd7(h:T O):List (Nat×O)→T O
 |[]=>h
 |(j,o)::l=>(Zd7 h l).set j o
def Zca(h:T O):∀(l:List (Nat×O)) (i:Nat),(Zd7 h l).get i=match lk l i with|some o=>some o|none=>h.get i
 |[],i=>rfl
 |(j,o)::l,i=>by
  simp only[Zd7,T.get_set,lk]
  by_cases e:i=j
  ·subst e
   rw[Yqi rfl,Nat.beq_refl _]
  ·rw[Yqe e]
   have:Nat.beq j i=false:=by
    cases hb:Nat.beq j i with
    |false=>rfl
    |true=>exact absurd (Yt0 hb).symm e
   rw[this]
   exact Zca h l i
def Zqv:∀{l:List (Nat×O)} {i:Nat} {o:O},lk l i=some o→(i,o)∈l
 |(j,o')::l,i,o,h=>by
  simp only[lk]at h
  split at h
  ·rename_i e
   have:=Za1 e
   simp only[Yqc]at h
   subst h;subst this;exact Yq8
  ·exact Yq6 _ (Zqv h)
def Yax:∀{l:List (Nat×O)} {i:Nat},lk l i=none→∀p∈l,p.1≠i
 |[],_,_,p,hp=>by cases hp
 |(j,o')::l,i,h,p,hp=>by
  simp only[lk]at h
  split at h
  ·cases h
  ·rename_i e
   rcases Yrd.1 hp with rfl|hp
   ·intro hc
    simp only at hc
    subst hc
    have:Nat.beq j j=true:=Nat.beq_refl _
    rw[this]at e;cases e
   ·exact Yax h p hp
def Yi6{l:List (Nat×O)}{i:Nat}{o:O}(h:(i,o)∈l):∃o',lk l i=some o':=by
 cases hc:lk l i with
 |some o'=>exact⟨o',rfl⟩
 |none=>exact absurd rfl (Yax hc _ h)
def Yi1(i:Nat):List Nat→Bool
 |[]=>false
 |j::l=>match Nat.beq j i with
  |true=>true
  |false=>Yi1 i l
def Zjq{i:Nat}:∀{l:List Nat},Yi1 i l=true↔i∈l
 |[]=>by simp[Yi1]
 |j::l=>by
  simp only[Yi1]
  split
  ·rename_i e;simp[Za1 e]
  ·rename_i e
   have:i≠j:=by
    rintro rfl
    have:Nat.beq i i=true:=Nat.beq_refl _
    rw[this]at e;cases e
   simp[Zjq,this]
structure Zlq where
 f:Nat
 args:List V
 v:V
def O.tab:O→Bool
 |.cells c _ false=>V.frees c
 |_=>false
def Zp2(G:Nat):List (Nat×O)→Bool
 |[]=>true
 |(i,o)::l=>Nat.blt i G&&o.tab&&Zp2 G l
def O.tab_ren{ρ:Nat→Option Nat}{o:O}(h:o.tab=true):o.ren ρ=some o:=by
 cases o with
 |cells c e rw=>
  cases rw with
  |true=>cases h
  |false=>simp only[O.ren,V.frees_ren c h]
 |_=>cases h
def Zlz{G:Nat}:∀{l:List (Nat×O)},Zp2 G l=true→∀{i:Nat} {o:O},lk l i=some o→i<G∧o.tab=true
 |(j,o')::l,h,i,o,ho=>by
  simp only[Zp2,Yq1]at h
  simp only[lk]at ho
  split at ho
  ·rename_i e
   simp only[Yqc]at ho
   rw[←Za1 e,←ho]
   exact⟨Ysr (Yrg h.1.1),h.1.2⟩
  ·exact Zlz h.2 ho
def Zpo(G:Nat)(tb:List (Nat×O)):St:=⟨Zd7 (Zk7 G) tb,G,[]⟩
def Zkv(S:St):List (Nat×O)→Bool
 |[]=>true
 |(i,o)::l=>match oEq (S.h.get i) o with
  |true=>Zkv S l
  |false=>false
def Zkg{S:St}:∀{l:List (Nat×O)},Zkv S l=true→∀p∈l,S.h.get p.1=some p.2
 |[],_,p,hp=>by cases hp
 |(i,o)::l,h,p,hp=>by
  simp only[Zkv]at h
  split at h
  ·rename_i e
   rcases Yrd.1 hp with rfl|hp
   ·exact Zzx e
   ·exact Zkg h p hp
  ·cases h
def Zlq.ok(e:Zlq)(tb:List (Nat×O))(G:Nat)(call:Za0):Bool:=
 match call (.func e.f [] []) e.args (Zpo G tb)with
 |some (v,s)=>match s.w with
  |[]=>V.beq v e.v&&V.free e.v&&V.frees e.args&&Nat.ble G s.n&&Zp2 G tb
  |_=>false
 |none=>false
def Yoe(P:Program)(tb:List (Nat×O))(e:Zlq):Prop:=∀S,Zkv S tb=true→Zyg P (.func e.f [] []) e.args S e.v S
def Zlq.pure{call:Za0}(hc:Zbv P call){tb:List (Nat×O)}{e:Zlq}(h:e.ok tb P.globals.size call=true):Yoe P tb e:=by
 unfold Zlq.ok at h
 split at h
 ·rename_i v s hcall
  split at h
  ·rename_i hw
   simp only[Yq1]at h
   obtain⟨⟨⟨⟨h1,h2⟩,h3⟩,h4⟩,h5⟩:=h
   have hv:=V.beq_eq _ _ h1
   subst hv
   intro S hpart μ w Gv xs hh hG hx
   have hpart:=Zkg hpart
   have hn:P.globals.size≤S.n:=by
    apply Yr7
    intro hlt
    obtain⟨t,ht⟩:=hh.glob S.n hlt
    have:=(hh.dom _ _ ht).1
    omega
   have F:Znh P (fun i=>if i<P.globals.size then some i else none) (fun i=>if i<P.globals.size then some i else none) [] (Zpo P.globals.size tb) s S S:={
    dom:=fun i i' hi=>by
     split at hi
     ·rename_i hlt;simp only[Yqc]at hi;subst hi
      exact⟨hlt,by omega⟩
     ·cases hi
    inj:=fun i j i' hi hj=>by
     split at hi<;>split at hj<;>simp_all
    glob:=fun g hg=>by simp[hg]
    obj:=fun i i' hi=>by
     split at hi
     ·rename_i hlt
      simp only[Yqc]at hi;subst hi
      cases hl:lk tb i with
      |some o=>
       refine⟨o,o,?_,.inr (.inl (O.tab_ren (Zlz h5 hl).2)),.inl (hpart _ (Zqv hl))⟩
       show (Zd7 (Zk7 P.globals.size) tb).get i=_
       rw[Zca,hl]
      |none=>
       refine⟨.dead,.dead,?_,.inl rfl,.inr rfl⟩
       show (Zd7 (Zk7 P.globals.size) tb).get i=_
       rw[Zca,hl]
       exact Zjy _ _ hlt
     ·cases hi
    old:=fun _ _=>rfl
    new:=fun i i' hi hr=>by
     have:P.globals.size≤i:=hi
     rw[Yqe (by omega)]at hr;cases hr
    ninj:=fun i j i' hi _ hr _=>by
     have:P.globals.size≤i:=hi
     rw[Yqe (by omega)]at hr;cases hr
    full:=fun i' h1 h2=>by omega
    nle:=Yqg _
    w0:=rfl
    W1:=fun i i' hi _=>by rw[hw]at hi;cases hi
    W2:=fun j hj=>by cases hj
    wl:=rfl
    keep:=fun _ _ _=>rfl
    wr:=fun i i' hi _=>by rw[hw]at hi;cases hi
    obn:=fun i i' hi hr=>by
     have:P.globals.size≤i:=hi
     rw[Yqe (by omega)]at hr;cases hr}
   exact(Zyg.frame (hc _ _ _ _ _ hcall) F (V.free_ren _ (by rfl)) (V.frees_ren _ h3) (V.free_ren _ h2)) μ w Gv xs hh hG hx
  ·cases h
 ·cases h
def Zwg:List Zlq→Nat→List V→Option V
 |[],_,_=>none
 |e::l,f,args=>match Nat.beq e.f f with
  |true=>match V.beqs e.args args with
   |true=>some e.v
   |false=>Zwg l f args
  |false=>Zwg l f args
def Zwh(tb:List (Nat×O))(l:List Zlq):Za0
 |.func f [] [],args,st=>match Zwg l f args with
  |some v=>match Zkv st tb with
   |true=>some (v,st)
   |false=>none
  |none=>none
 |_,_,_=>none
def Zl9:∀{l:List Zlq} {f:Nat} {args:List V} {v:V},Zwg l f args=some v→∃e∈l,e.f=f∧e.args=args∧e.v=v
 |[],_,_,_,h=>by cases h
 |e::l,f,args,v,h=>by
  simp only[Zwg]at h
  split at h
  ·rename_i e1
   split at h
   ·rename_i e2
    simp only[Yqc]at h
    exact⟨e,Yq8,Za1 e1,V.beqs_eq _ _ e2,h⟩
   ·obtain⟨e',h1,h2⟩:=Zl9 h;exact⟨e',Yq6 _ h1,h2⟩
  ·obtain⟨e',h1,h2⟩:=Zl9 h;exact⟨e',Yq6 _ h1,h2⟩
def Zuj{tb:List (Nat×O)}{l:List Zlq}(h:∀e∈l,Yoe P tb e):Zbv P (Zwh tb l):=by
 intro g args st v st' hc
 unfold Zwh at hc
 split at hc
 ·rename_i f
  split at hc
  ·rename_i u hu
   split at hc
   ·rename_i hp
    simp only[Yqc,Yqf]at hc
    obtain⟨rfl,rfl⟩:=hc
    obtain⟨e,h1,rfl,rfl,rfl⟩:=Zl9 hu
    exact h e h1 st hp
   ·cases hc
  ·cases hc
 ·cases hc
structure Ent where
 f:Nat
 first:List V
 caps:List V
 args:List V
 part:List (Nat×O)
 n:Nat
 v:V
 kept:List (Nat×O)
 wrs:List (Nat×O)
def Ent.st(e:Ent)(G:Nat):St:=⟨Zd7 (Zk7 G) e.part,e.n,[]⟩
def sig(G:Nat)(part:List (Nat×O))(i:Nat):Option Nat:=
 match Nat.blt i G with
 |true=>some i
 |false=>match lk part i with
  |some _=>some i
  |none=>none
def idx(i:Nat):List (Nat×O)→Nat→Option Nat
 |[],_=>none
 |(k,_)::l,m=>match Nat.beq k i with
  |true=>some m
  |false=>idx i l (m+1)
def rho(G:Nat)(part:List (Nat×O))(n:Nat)(kept:List (Nat×O))(i:Nat):Option Nat:=
 match Nat.blt i n with
 |true=>sig G part i
 |false=>idx i kept n
def Zf6:List (Nat×O)→Nat→List (Nat×O)
 |[],_=>[]
 |(_,o)::l,m=>(m,o)::Zf6 l (m+1)
def Zwl(ρ:Nat→Option Nat)(s:St)(i:Nat)(o':O):Bool:=
 match s.h.get i with
 |some o=>match o' with
  |.dead=>true
  |o'=>oEq (o.ren ρ) o'
 |none=>false
def Zu0(ρ:Nat→Option Nat)(s:St)(n:Nat):List (Nat×O)→Nat→Bool
 |[],_=>true
 |(k,o)::l,m=>Zqj (ρ k) (some m)&&Nat.ble n k&&Nat.blt k s.n&&Zwl ρ s k o&&Zu0 ρ s n l (m+1)
def Ent.chk(e:Ent)(G:Nat)(v:V)(s:St):Bool:=
 Nat.ble G e.n&&Nat.ble e.n s.n&&(e.part.all fun p=>Nat.blt p.1 e.n&&oEq (p.2.ren (sig G e.part)) p.2)&&
 Ymn (V.rens (sig G e.part) e.first) e.first&&Ymn (V.rens (sig G e.part) e.caps) e.caps&&Ymn (V.rens (sig G e.part) e.args) e.args&&
 vEq (V.ren (rho G e.part e.n e.kept) v) e.v&&
 Zu0 (rho G e.part e.n e.kept) s e.n e.kept e.n&&
 (s.w.all fun i=>match sig G e.part i with|some _=>Yi1 i (e.wrs.map (·.1))|none=>true)&&
 (e.wrs.all fun p=>Yi1 p.1 s.w&&Zqj (sig G e.part p.1) (some p.1)&&Zwl (rho G e.part e.n e.kept) s p.1 p.2)
def Ent.ok(e:Ent)(G:Nat)(call:Za0):Bool:=
 match call (.func e.f e.first e.caps) e.args (e.st G)with
 |some (v,s)=>e.chk G v s
 |none=>false
def Ent.out(e:Ent)(S:St):St:=⟨Zd7 (Zd7 S.h e.wrs) (Zf6 e.kept e.n),e.n+e.kept.length,e.wrs.map (·.1)++S.w⟩
def Zmx(e:Ent):Za0
 |.func f a c,args,S=>match Nat.beq e.f f with
  |true=>match V.beqs e.args args&&V.beqs e.first a&&V.beqs e.caps c&&Nat.beq S.n e.n&&Zkv S e.part with
   |true=>some (e.v,e.out S)
   |false=>none
  |false=>none
 |_,_,_=>none
def Zjt{i:Nat}:∀{l:List (Nat×O)} {m i':Nat},idx i l m=some i'→m≤i'∧i'<m+l.length∧∃o,l[i'-m]?=some (i,o)
 |[],m,i',h=>by cases h
 |(k,o)::l,m,i',h=>by
  simp only[idx]at h
  split at h
  ·rename_i e
   simp only[Yqc]at h;subst h
   have:=Za1 e;subst this
   exact⟨Yqg _,by simp,o,by simp⟩
  ·obtain⟨h1,h2,o',h3⟩:=Zjt h
   refine⟨by omega,by simp;omega,o',?_⟩
   rw[show i'-m=(i'-(m+1))+1 by omega]
   simpa using h3
def Zn7:∀{l:List (Nat×O)} {m j:Nat} {p:Nat×O},l[j]?=some p→lk (Zf6 l m) (m+j)=some p.2
 |[],m,j,p,h=>by simp at h
 |(k,o)::l,m,0,p,h=>by
  simp at h;subst h
  simp[Zf6,lk]
 |(k,o)::l,m,j+1,p,h=>by
  simp only[Zf6,lk]
  have:Nat.beq m (m+(j+1))=false:=by
   cases hb:Nat.beq m (m+(j+1))with
   |false=>rfl
   |true=>have:=Za1 hb;omega
  rw[this,show m+(j+1)=(m+1)+j by omega]
  exact Zn7 (by simpa using h)
def Zkx:∀{l:List (Nat×O)} {m i:Nat},i<m→lk (Zf6 l m) i=none
 |[],_,_,_=>rfl
 |(k,o)::l,m,i,h=>by
  simp only[Zf6,lk]
  have:Nat.beq m i=false:=by
   cases hb:Nat.beq m i with
   |false=>rfl
   |true=>have:=Za1 hb;omega
  rw[this]
  exact Zkx (by omega)
def Zob{ρ:Nat→Option Nat}{s:St}{n:Nat}:∀{l:List (Nat×O)} {m:Nat},Zu0 ρ s n l m=true→∀{j:Nat} {p:Nat×O},l[j]?=some p→ρ p.1=some (m+j)∧n≤p.1∧p.1<s.n∧Zwl ρ s p.1 p.2=true
 |[],m,_,j,p,h=>by simp at h
 |(k,o)::l,m,h,j,p,hj=>by
  simp only[Zu0,Yq1]at h
  obtain⟨⟨⟨⟨h1,h2⟩,h3⟩,h4⟩,h5⟩:=h
  cases j with
  |zero=>
   simp at hj;subst hj
   exact⟨Zmk h1,Yrg h2,Ysr (Yrg h3),h4⟩
  |succ j=>
   obtain⟨q1,q2⟩:=Zob h5 (j:=j) (by simpa using hj)
   exact⟨by rw[q1];congr 1;omega,q2⟩
def Zn6{ρ:Nat→Option Nat}{s:St}{o':O}(h:Zwl ρ s i o'=true):∃o,s.h.get i=some o∧(o'=.dead∨o.ren ρ=some o'):=by
 unfold Zwl at h
 split at h
 ·rename_i o ho
  refine⟨o,ho,?_⟩
  split at h
  ·exact .inl rfl
  ·exact .inr (Zzx h)
 ·cases h
def Zhi{part:List (Nat×O)}{i':Nat}(h:sig G part i=some i'):i'=i∧(i<G∨∃o,lk part i=some o):=by
 unfold sig at h
 split at h
 ·rename_i e
  simp only[Yqc]at h
  exact⟨h.symm,.inl (Ysr (Yrg e))⟩
 ·split at h
  ·rename_i o ho
   simp only[Yqc]at h
   exact⟨h.symm,.inr ⟨o,ho⟩⟩
  ·cases h
def Zx0{call:Za0}(hcall:Zbv P call){e:Ent}(h:e.ok P.globals.size call=true):Zbv P (Zmx e):=by
 intro g args S v S' hc
 unfold Zmx at hc
 split at hc
 ·rename_i f a c
  split at hc
  ·rename_i hf
   have hf:=Za1 hf
   subst hf
   split at hc
   ·rename_i hcond
    simp only[Yq1]at hcond
    obtain⟨⟨⟨⟨c1,c2⟩,c3⟩,c4⟩,c5⟩:=hcond
    have c1:=V.beqs_eq _ _ c1
    have c2:=V.beqs_eq _ _ c2
    have c3:=V.beqs_eq _ _ c3
    have c4:=Za1 c4
    have c5:=Zkg c5
    simp only[Yqc,Yqf]at hc
    obtain⟨rfl,rfl⟩:=hc
    subst c1;subst c2;subst c3
    unfold Ent.ok at h
    split at h
    ·rename_i v0 s hrun
     unfold Ent.chk at h
     simp only[Yq1,Yrs]at h
     obtain⟨⟨⟨⟨⟨⟨⟨⟨⟨k1,k2⟩,k3⟩,k4⟩,k5⟩,k6⟩,k7⟩,k8⟩,k9⟩,k10⟩:=h
     have k1:=Yrg k1
     have k2:=Yrg k2
     have hpart:∀i o,lk e.part i=some o→i<e.n∧o.ren (sig P.globals.size e.part)=some o∧S.h.get i=some o:=fun i o ho=>by
      have hm:=Zqv ho
      obtain⟨q1,q2⟩:=k3 _ hm
      exact⟨Ysr (Yrg q1),Zzx q2,c5 _ hm⟩
     have hρn:∀i,e.n≤i→rho P.globals.size e.part e.n e.kept i=idx i e.kept e.n:=fun i hi=>by
      unfold rho
      have:Nat.blt i e.n=false:=by
       cases hb:Nat.blt i e.n with
       |false=>rfl
       |true=>have:=Ysr (Yrg hb);omega
      rw[this]
     have hkept:∀j p,e.kept[j]?=some p→rho P.globals.size e.part e.n e.kept p.1=some (e.n+j)∧e.n≤p.1∧p.1<s.n∧Zwl (rho P.globals.size e.part e.n e.kept) s p.1 p.2=true:=fun j p hj=>Zob k8 hj
     have hlkn:∀j,j<e.n→(e.out S).h.get j=match lk e.wrs j with|some o=>some o|none=>S.h.get j:=fun j hj=>by
      show (Zd7 (Zd7 S.h e.wrs) (Zf6 e.kept e.n)).get j=_
      rw[Zca,Zkx hj,Zca]
     have F:Znh P (sig P.globals.size e.part) (rho P.globals.size e.part e.n e.kept) (e.wrs.map (·.1)) (e.st P.globals.size) s S (e.out S):={
      dom:=fun i i' hi=>by
       obtain⟨rfl,hor⟩:=Zhi hi
       have:i'<e.n:=by
        rcases hor with h|⟨o,ho⟩
        ·omega
        ·exact(hpart _ _ ho).1
       exact⟨this,by omega⟩
      inj:=fun i j i' hi hj=>by rw[←(Zhi hi).1,←(Zhi hj).1]
      glob:=fun g hg=>by
       unfold sig
       have:Nat.blt g P.globals.size=true:=Yt2 hg
       rw[this]
      obj:=fun i i' hi=>by
       obtain⟨rfl,hor⟩:=Zhi hi
       cases hl:lk e.part i' with
       |some o=>
        obtain⟨q1,q2,q3⟩:=hpart _ _ hl
        refine⟨o,o,?_,.inr (.inl q2),.inl q3⟩
        show (Zd7 (Zk7 P.globals.size) e.part).get i'=_
        rw[Zca,hl]
       |none=>
        have hg:i'<P.globals.size:=by
         rcases hor with h|⟨o,ho⟩
         ·exact h
         ·rw[hl]at ho;cases ho
        refine⟨.dead,.dead,?_,.inl rfl,.inr rfl⟩
        show (Zd7 (Zk7 P.globals.size) e.part).get i'=_
        rw[Zca,hl]
        exact Zjy _ _ hg
      old:=fun i hi=>by
       have:Nat.blt i e.n=true:=Yt2 hi
       unfold rho;rw[this]
      new:=fun i i' hi hr=>by
       rw[hρn i hi]at hr
       obtain⟨q1,q2,o,q3⟩:=Zjt hr
       obtain⟨_,_,r3,_⟩:=hkept _ _ q3
       exact⟨by omega,q2,r3⟩
      ninj:=fun i j i' hi hj hri hrj=>by
       rw[hρn i hi]at hri
       rw[hρn j hj]at hrj
       obtain⟨_,_,o,q3⟩:=Zjt hri
       obtain⟨_,_,o',q3'⟩:=Zjt hrj
       rw[q3]at q3'
       cases q3';rfl
      full:=fun i' h1 h2=>by
       have h2':i'<e.n+e.kept.length:=h2
       obtain⟨p,hp⟩:∃p,e.kept[i'-e.n]?=some p:=⟨_,Yqh (by omega)⟩
       obtain⟨r1,r2,_,_⟩:=hkept _ _ hp
       exact⟨p.1,r2,by rw[r1];congr 1;omega⟩
      nle:=by show S.n≤e.n+e.kept.length;omega
      w0:=rfl
      W1:=fun i i' hi hs=>by
       obtain⟨rfl,_⟩:=Zhi hs
       have:=k9 _ hi
       rw[hs]at this
       exact Zjq.1 this
      W2:=fun j hj=>by
       obtain⟨p,hp,rfl⟩:=Yts.1 hj
       obtain⟨⟨q1,q2⟩,_⟩:=k10 _ hp
       exact⟨p.1,Zjq.1 q1,Zmk q2⟩
      wl:=rfl
      keep:=fun j hj hn=>by
       rw[hlkn j (by omega)]
       cases hl:lk e.wrs j with
       |none=>rfl
       |some o=>exact absurd (Yts.2 ⟨_,Zqv hl,rfl⟩) hn
      wr:=fun i i' hi hs=>by
       obtain⟨rfl,hor⟩:=Zhi hs
       have hlt:i'<e.n:=by
        rcases hor with h|⟨o,ho⟩
        ·omega
        ·exact(hpart _ _ ho).1
       have:=k9 _ hi
       rw[hs]at this
       obtain⟨p,hp,hpe⟩:=Yts.1 (Zjq.1 this)
       obtain⟨o',ho'⟩:=Yi6 (l:=e.wrs) (i:=i') (o:=p.2) (by rw[←hpe];exact hp)
       obtain⟨_,q3⟩:=k10 _ (Zqv ho')
       obtain⟨o,r1,r2⟩:=Zn6 q3
       exact⟨o,o',r1,by rw[hlkn _ hlt,ho'],r2⟩
      obn:=fun i i' hi hr=>by
       rw[hρn i hi]at hr
       obtain⟨q1,q2,o,q3⟩:=Zjt hr
       obtain⟨_,_,_,r4⟩:=hkept _ _ q3
       obtain⟨o2,t1,t2⟩:=Zn6 r4
       refine⟨o2,o,t1,?_,t2⟩
       show (Zd7 (Zd7 S.h e.wrs) (Zf6 e.kept e.n)).get i'=_
       have:=Zn7 (m:=e.n) q3
       rw[show e.n+(i'-e.n)=i' by omega]at this
       rw[Zca,this]}
     refine Zyg.frame (hcall _ _ _ _ _ hrun) F ?_ (Zrx k6) (Yk1 k7)
     simp only[V.ren,Zrx k4,Zrx k5]
    ·cases h
   ·cases hc
  ·cases hc
 ·cases hc
def Zgl(x:Za0)(tbl:Nat→Option Zee)(fuel:Nat):Nat→Za0
 |0=>x
 |d+1=>Zd9 x (Zcl tbl (Zbe (Zgl x tbl fuel d) fuel))
def Zjr{P:Program}{tbl:Nat→Option Zee}(hm:P.follows .mixedOrders=true)(hE:Zej P)(ht:Ztw P tbl){x:Za0}(hx:Zbv P x)(fuel:Nat):∀d,Zbv P (Zgl x tbl fuel d)
 |0=>hx
 |d+1=>by
  have ih:=Zjr hm hE ht hx fuel d
  exact hx.or (Ztn ht (Ycb ih hE (Ybs hm hE ih) (Yf6 ih hE) (Zud ih) fuel))
def Ye5:List Ent→Nat→List V→List V→List V→St→Option (V×St)
 |[],_,_,_,_,_=>none
 |e::l,f,a,c,args,S=>match Nat.beq e.f f with
  |true=>match Zmx e (.func f a c) args S with
   |some r=>some r
   |none=>Ye5 l f a c args S
  |false=>Ye5 l f a c args S
def Yjs(l:List Ent):Za0
 |.func f a c,args,S=>Ye5 l f a c args S
 |_,_,_=>none
def Ye6{l:List Ent}(h:∀e∈l,Zbv P (Zmx e)):Zbv P (Yjs l):=by
 intro g args S v S' hc
 unfold Yjs at hc
 split at hc
 ·rename_i f a c
  induction l with
  |nil=>cases hc
  |cons e l ih=>
   simp only[Ye5]at hc
   split at hc
   ·split at hc
    ·rename_i r hr
     cases hc
     exact h e Yq8 _ _ _ _ _ hr
    ·exact ih (fun e he=>h e (Yq6 _ he)) hc
   ·exact ih (fun e he=>h e (Yq6 _ he)) hc
 ·cases hc
def Zyj(tb:List (Nat×O))(L:List Zlq)(E:List Ent):Za0:=Zd9 (Zwh tb L) (Yjs E)
structure Zaf (P:Program) (tb:List (Nat×O)) (L:List Zlq) (E:List Ent):Prop where
 p:∀e∈L,Yoe P tb e
 e:∀e∈E,Zbv P (Zmx e)
def Zaf.call{tb:List (Nat×O)}{L:List Zlq}{E:List Ent}(h:Zaf P tb L E):Zbv P (Zyj tb L E):=(Zuj h.p).or (Ye6 h.e)
def Zaf.nil{tb:List (Nat×O)}:Zaf P tb [] []:=⟨fun _ h=>(by cases h),fun _ h=>(by cases h)⟩
structure Zk3 (P:Program) (tbl:Nat→Option Zee) (G:Nat):Prop where
 m:P.follows .mixedOrders=true
 e:Zej P
 t:Ztw P tbl
 g:P.globals.size=G
def Zaf.addP{tbl:Nat→Option Zee}{fuel d:Nat}(hP:Zk3 P tbl G){tb:List (Nat×O)}{L:List Zlq}{E:List Ent}(h:Zaf P tb L E){e:Zlq}(he:e.ok tb G (Zgl (Zyj tb L E) tbl fuel d)=true):Zaf P tb (e::L) E:=
 ⟨fun e' hm=>by
  rcases Yrd.1 hm with rfl|hm
  ·exact Zlq.pure (Zjr hP.m hP.e hP.t h.call fuel d) (by rw[hP.g];exact he)
  ·exact h.p e' hm,h.e⟩
def Zaf.addE{tbl:Nat→Option Zee}{fuel d:Nat}(hP:Zk3 P tbl G){tb:List (Nat×O)}{L:List Zlq}{E:List Ent}(h:Zaf P tb L E){e:Ent}(he:e.ok G (Zgl (Zyj tb L E) tbl fuel d)=true):Zaf P tb L (e::E):=
 ⟨h.p,fun e' hm=>by
  rcases Yrd.1 hm with rfl|hm
  ·exact Zx0 (Zjr hP.m hP.e hP.t h.call fuel d) (by rw[hP.g];exact he)
  ·exact h.e e' hm⟩
def Ygl(tb:List (Nat×O))(G:Nat)(tbl:Nat→Option Zee)(L:List Zlq)(E:List Ent):Bool:=match L with
 |[]=>false
 |e::t=>e.ok tb G (Zgl (Zyj tb t E) tbl 5000 40)
def Ybc(tb:List (Nat×O))(G:Nat)(tbl:Nat→Option Zee)(L:List Zlq)(E:List Ent):Bool:=match E with
 |[]=>false
 |e::t=>e.ok G (Zgl (Zyj tb L t) tbl 5000 40)
def Zaf.p1{P:Program}{tbl:Nat→Option Zee}{G:Nat}(hP:Zk3 P tbl G){tb:List (Nat×O)}{L:List Zlq}{E:List Ent}(h:Zaf P tb L.tail E)(he:Ygl tb G tbl L E=true):Zaf P tb L E:=by
 cases L with
 |nil=>exact h
 |cons e t=>exact Zaf.addP hP h he
def Zaf.e1{P:Program}{tbl:Nat→Option Zee}{G:Nat}(hP:Zk3 P tbl G){tb:List (Nat×O)}{L:List Zlq}{E:List Ent}(h:Zaf P tb L E.tail)(he:Ybc tb G tbl L E=true):Zaf P tb L E:=by
 cases E with
 |nil=>exact h
 |cons e t=>exact Zaf.addE hP h he
section
variable {call:Za0} {f:Nat} {ro:Option Nat} {a b c:Zaz} {fr:Fr} {st:St}
end
def Yln{a b:Nat}:Nat.blt a b=decide (a<b):=by
 cases h:Nat.blt a b
 ·symm;simp only[decide_eq_false_iff_not];intro hc;rw[show Nat.blt a b=true from Yt2 hc]at h;cases h
 ·symm;simp only[decide_eq_true_eq];exact Ysr (Yrg h)
def Ylo{a b:Nat}:Nat.ble a b=decide (a≤b):=by
 cases h:Nat.ble a b
 ·symm;simp only[decide_eq_false_iff_not];intro hc;rw[Yt2 hc]at h;cases h
 ·symm;simp only[decide_eq_true_eq];exact Yrg h
def Zag{n:Int}(h1: -9223372036854775808≤n)(h2:n<9223372036854775808):Zao .i64 n=n:=by
 rw[Zde]
 simp[IntKind.wrap,IntKind.bits,IntKind.signed]
 omega
def Zxo{k a b}:Zdm .add k a b=some (.int k (Zao k (a+b))):=rfl
def Zxd{k a b}:Zdm .sub k a b=some (.int k (Zao k (a-b))):=rfl
def Zxi{k a b}:Zdm .mul k a b=some (.int k (Zao k (a*b))):=rfl
def Zxg{k a b}(h:¬b=0):Zdm .quo k a b=some (.int k (Zao k (a.tdiv b))):=by simp[Zdm,h]
def Zxf{k a b}(h:¬b=0):Zdm .rem k a b=some (.int k (a.tmod b)):=by simp[Zdm,h]
def Zxn{k a b}:Zdm .eql k a b=some (.bool (a==b)):=rfl
def Zxh{k a b}:Zdm .neq k a b=some (.bool (a !=b)):=rfl
def Zxj{k a b}:Zdm .lss k a b=some (.bool (decide (a<b))):=rfl
def Zxk{k a b}:Zdm .leq k a b=some (.bool (decide (a≤b))):=rfl
def Zxl{k a b}:Zdm .gtr k a b=some (.bool (decide (a > b))):=rfl
def Zxm{k a b}:Zdm .geq k a b=some (.bool (decide (a≥b))):=rfl
def Yit(x):mop (.mov x)=Zmd x:=rfl
def Yeg(a b c):mop (.pick a b c)=Zgt a b c:=rfl
def Yak(a b):mop (.alloc a b)=Zhp a b:=rfl
def Yix(a b):mop (.box a b)=Zmi a b:=rfl
def Yaj(a b):mop (.build a b)=Zem a b:=rfl
def Zwx(a b c d e):mop (.bslice a b c d e)=Zex a b c d e:=rfl
def Yeh(a b):mop (.load a b)=Zig a b:=rfl
def Yab(a b c):mop (.store a b c)=Ze5 a b c:=rfl
def Yad(a):mop (.nilck a)=Zf1 a:=rfl
def Yiy(a b c d e):mop (.bin a b c d e)=Zmj a b c d e:=rfl
def Ylq(a b):mop (.un a b)=Zsk a b:=rfl
def Zs5(a b):mop (.convInt a b)=Zdx a b:=rfl
def Zwq(a b c):mop (.mkfunc a b c)=Zev a b c:=rfl
def Yag(a b):mop (.faddr a b)=Zf4 a b:=rfl
def Yaf(a b c):mop (.field a b c)=Zf3 a b c:=rfl
def Zqq(a b c d):mop (.iaddrArr a b c d)=Zb5 a b c d:=rfl
def Zs2(a b c):mop (.iaddrSl a b c)=Zdc a b c:=rfl
def Zs3(a b):mop (.extract a b)=Zdw a b:=rfl
def Yiu(a b):mop (.len a b)=Zfd a b:=rfl
def Yej(a b):mop (.call a b)=Zeg a b:=rfl
structure Yml (r:Option (V×St)) (v:V):Prop where
 ex:∃s,r=some (v,s)∧s.w=[]
def Zxr{u v:V}{s:St}:Yml (some (u,s)) v↔u=v∧s.w=[]:=
 ⟨fun ⟨_,h1,h2⟩=>by simp only[Yqc,Yqf]at h1;exact⟨h1.1,h1.2▸h2⟩,fun ⟨h1,h2⟩=>⟨s,by rw[h1],h2⟩⟩
attribute [simp]
 Yit Yeg Yak Yix Yaj Zwx Yeh Yab Yad Yiy Ylq Zs5 Zwq Yag Yaf Zqq Zs2 Zs3 Yiu Yej
 Zmd Zgt Zhp Zmi Zem Zex Zig Zf1 Zmj Zsk Zdx Zev Zf4 Zf3 Zb5 Zdw Zeg
 Zef wantedV Src.ev T.get_set resV Zqa Zac Yob Zxo Zxd Zxi Zxg Zxf Zxn Zxh Zxj Zxk Zxl Zxm Zbk unV Zhw evOpt Ze9 Znl Zah V.cells V.one St.alloc St.write St.row Zag Yln Ylo Zfi Zcm MOp.silent Zuy apartOk Zam Zam.go Zam.chk FP.free Zs6 Nat.testBit Zxr base
end Go.Mx

