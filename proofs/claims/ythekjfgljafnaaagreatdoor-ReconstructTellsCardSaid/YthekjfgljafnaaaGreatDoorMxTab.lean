/-Calls that are known-/
import Derived.Test.YthekjfgljafnaaaGreatDoorMxDraw2
import Derived.Test.YthekjfgljafnaaaGreatDoorMxFrame
import Derived.Below
import Derived.CallsIn
set_option linter.all false
namespace Go.Mx
open Go
variable {G i:Nat} {P:Program}
def Zth:Bool→Bool→Bool
 |true,b=>b
 |false,true=>false
 |false,false=>true
def Yig:IntKind→Nat
 |.i8=>0|.i16=>1|.i32=>2|.i64=>3|.u8=>4|.u16=>5|.u32=>6|.u64=>7
def Ynu:Int→Int→Bool
 |.ofNat a,b=>match b with
  |.ofNat b=>Nat.beq a b
  |.negSucc _=>false
 |.negSucc a,b=>match b with
  |.ofNat _=>false
  |.negSucc b=>Nat.beq a b
def Zt3:List UInt8→List UInt8→Bool
 |[],l=>match l with
  |[]=>true
  |_::_=>false
 |a::xs,l=>match l with
  |[]=>false
  |b::ys=>match Nat.beq a.toNat b.toNat with
   |true=>Zt3 xs ys
   |false=>false
def Zsd:Option Nat→Option Nat→Bool
 |none,b=>match b with
  |none=>true
  |some _=>false
 |some a,b=>match b with
  |none=>false
  |some b=>Nat.beq a b
def Zop{a b:Bool}(h:Zth a b=true):a=b:=by cases a<;>cases b<;>simp_all [Zth]
def Za5{a b:Nat}(h:Nat.beq a b=true):a=b:=Yzw h
def Ynw{a b:IntKind}(h:Nat.beq (Yig a) (Yig b)=true):a=b:=by cases a<;>cases b<;>first|rfl|(exact absurd h (by decide))
def Yie{a b:Int}(h:Ynu a b=true):a=b:=by
 cases a<;>cases b<;>simp only[Ynu,Ywi]at h
 ·rw[Za5 h]
 ·rw[Za5 h]
def Zqh:∀{a b:List UInt8},Zt3 a b=true→a=b
 |[],[],_=>rfl
 |[],_::_,h=>by simp[Zt3]at h
 |_::_,[],h=>by simp[Zt3]at h
 |a::xs,b::ys,h=>by
  simp only[Zt3]at h
  split at h
  ·rename_i e
   rw[Zqh h,UInt8.toNat_inj.1 (Za5 e)]
  ·cases h
def Zns{a b:Option Nat}(h:Zsd a b=true):a=b:=by
 cases a<;>cases b<;>simp only[Zsd,Ywi]at h
 ·rfl
 ·rw[Za5 h]
def Yin:FloatKind→Nat
 |.f32=>0|.f64=>1
def Yn3{a b:FloatKind}(h:Nat.beq (Yin a) (Yin b)=true):a=b:=by cases a<;>cases b<;>first|rfl|(exact absurd h (by decide))
def V.isBool(x:Bool):V→Bool|.bool y=>Zth x y|_=>false
def V.isInt(k:IntKind)(n:Int):V→Bool|.int k' n'=>(match Nat.beq (Yig k) (Yig k')with|true=>Ynu n n'|false=>false)|_=>false
def V.isFlt(k:FloatKind)(n:Nat):V→Bool|.flt k' n'=>(match Nat.beq (Yin k) (Yin k')with|true=>Nat.beq n n'|false=>false)|_=>false
def V.isStr(s:List UInt8):V→Bool|.str t=>Zt3 s t|_=>false
def V.isNilptr:V→Bool|.nilptr=>true|_=>false
def V.isPtr(i o:Nat):V→Bool|.ptr i' o'=>(match Nat.beq i i' with|true=>Nat.beq o o'|false=>false)|_=>false
def V.isNilslice:V→Bool|.nilslice=>true|_=>false
def V.isSlice(i o l:Nat)(c:Option Nat)(z:Nat):V→Bool|.slice i' o' l' c' z'=>Nat.beq i i'&&Nat.beq o o'&&Nat.beq l l'&&Zsd c c'&&Nat.beq z z'|_=>false
def V.isEmpty:V→Bool|.empty=>true|_=>false
def V.isNilmap:V→Bool|.nilmap=>true|_=>false
def V.isMap(i:Nat):V→Bool|.map j=>Nat.beq i j|_=>false
def V.isNilchan:V→Bool|.nilchan=>true|_=>false
def V.isChan(i:Nat):V→Bool|.chan j=>Nat.beq i j|_=>false
def V.isYield(i:Nat):V→Bool|.yield j=>Nat.beq i j|_=>false
def V.isNilfunc:V→Bool|.nilfunc=>true|_=>false
def V.isNiliface:V→Bool|.niliface=>true|_=>false
mutual
def V.beq:V→V→Bool
 |.bool x,b=>b.isBool x
 |.int k n,b=>b.isInt k n
 |.flt k n,b=>b.isFlt k n
 |.str s,b=>b.isStr s
 |.nilptr,b=>b.isNilptr
 |.ptr i o,b=>b.isPtr i o
 |.nilslice,b=>b.isNilslice
 |.slice i o l c z,b=>b.isSlice i o l c z
 |.empty,b=>b.isEmpty
 |.nilmap,b=>b.isNilmap
 |.map i,b=>b.isMap i
 |.nilchan,b=>b.isNilchan
 |.chan i,b=>b.isChan i
 |.func f a c,b=>match b with
  |.func f' a' c'=>Nat.beq f f'&&V.beqs a a'&&V.beqs c c'
  |_=>false
 |.yield i,b=>b.isYield i
 |.nilfunc,b=>b.isNilfunc
 |.iface t v,b=>match b with
  |.iface t' v'=>Nat.beq t t'&&V.beq v v'
  |_=>false
 |.niliface,b=>b.isNiliface
 |.agg l,b=>match b with
  |.agg l'=>V.beqs l l'
  |_=>false
 |.tup l,b=>match b with
  |.tup l'=>V.beqs l l'
  |_=>false
def V.beqs:List V→List V→Bool
 |[],l=>match l with
  |[]=>true
  |_::_=>false
 |a::xs,l=>match l with
  |[]=>false
  |b::ys=>match V.beq a b with
   |true=>V.beqs xs ys
   |false=>false
end
mutual
def V.beq_eq:∀(a b:V),V.beq a b=true→a=b
 |.bool x,b,h=>by cases b<;>simp only[V.beq,V.isBool,Ywi]at h;rw[Zop h]
 |.int k n,b,h=>by
  cases b<;>simp only[V.beq,V.isInt,Ywi]at h
  split at h
  ·rename_i e;rw[Ynw e,Yie h]
  ·cases h
 |.flt k n,b,h=>by
  cases b<;>simp only[V.beq,V.isFlt,Ywi]at h
  split at h
  ·rename_i e;rw[Yn3 e,Za5 h]
  ·cases h
 |.str s,b,h=>by cases b<;>simp only[V.beq,V.isStr,Ywi]at h;rw[Zqh h]
 |.nilptr,b,h=>by cases b<;>simp only[V.beq,V.isNilptr,Ywi]at h;rfl
 |.ptr i o,b,h=>by
  cases b<;>simp only[V.beq,V.isPtr,Ywi]at h
  split at h
  ·rename_i e;rw[Za5 e,Za5 h]
  ·cases h
 |.nilslice,b,h=>by cases b<;>simp only[V.beq,V.isNilslice,Ywi]at h;rfl
 |.slice i o l c z,b,h=>by
  cases b<;>simp only[V.beq,V.isSlice,Ywi,Ywo]at h
  obtain⟨⟨⟨⟨h1,h2⟩,h3⟩,h4⟩,h5⟩:=h
  rw[Za5 h1,Za5 h2,Za5 h3,Zns h4,Za5 h5]
 |.empty,b,h=>by cases b<;>simp only[V.beq,V.isEmpty,Ywi]at h;rfl
 |.nilmap,b,h=>by cases b<;>simp only[V.beq,V.isNilmap,Ywi]at h;rfl
 |.map i,b,h=>by cases b<;>simp only[V.beq,V.isMap,Ywi]at h;rw[Za5 h]
 |.nilchan,b,h=>by cases b<;>simp only[V.beq,V.isNilchan,Ywi]at h;rfl
 |.chan i,b,h=>by cases b<;>simp only[V.beq,V.isChan,Ywi]at h;rw[Za5 h]
 |.func f a c,b,h=>by
  cases b<;>simp only[V.beq,Ywi,Ywo]at h
  obtain⟨⟨h1,h2⟩,h3⟩:=h
  rw[Za5 h1,V.beqs_eq _ _ h2,V.beqs_eq _ _ h3]
 |.yield i,b,h=>by cases b<;>simp only[V.beq,V.isYield,Ywi]at h;rw[Za5 h]
 |.nilfunc,b,h=>by cases b<;>simp only[V.beq,V.isNilfunc,Ywi]at h;rfl
 |.iface t v,b,h=>by
  cases b<;>simp only[V.beq,Ywi,Ywo]at h
  rw[Za5 h.1,V.beq_eq _ _ h.2]
 |.niliface,b,h=>by cases b<;>simp only[V.beq,V.isNiliface,Ywi]at h;rfl
 |.agg l,b,h=>by cases b<;>simp only[V.beq,Ywi]at h;rw[V.beqs_eq _ _ h]
 |.tup l,b,h=>by cases b<;>simp only[V.beq,Ywi]at h;rw[V.beqs_eq _ _ h]
def V.beqs_eq:∀(a b:List V),V.beqs a b=true→a=b
 |[],[],_=>rfl
 |[],_::_,h=>by simp[V.beqs]at h
 |_::_,[],h=>by simp[V.beqs]at h
 |a::xs,b::ys,h=>by
  simp only[V.beqs]at h
  split at h
  ·rename_i e;rw[V.beq_eq a b e,V.beqs_eq xs ys h]
  ·cases h
end
def Ypq:List (V×V)→List (V×V)→Bool
 |[],l=>match l with
  |[]=>true
  |_::_=>false
 |(k,v)::xs,l=>match l with
  |[]=>false
  |(k',v')::ys=>V.beq k k'&&V.beq v v'&&Ypq xs ys
def Yel:∀{a b:List (V×V)},Ypq a b=true→a=b
 |[],[],_=>rfl
 |[],_::_,h=>by simp[Ypq]at h
 |_::_,[],h=>by simp[Ypq]at h
 |(k,v)::xs,(k',v')::ys,h=>by
  simp only[Ypq,Ywo]at h
  rw[V.beq_eq _ _ h.1.1,V.beq_eq _ _ h.1.2,Yel h.2]
def O.beq:O→O→Bool
 |.cells c e rw,b=>match b with
  |.cells c' e' rw'=>Nat.beq e e'&&Zth rw rw'&&V.beqs c c'
  |_=>false
 |.map es,b=>match b with
  |.map es'=>Ypq es es'
  |_=>false
 |.chan cap buf,b=>match b with
  |.chan cap' buf'=>Nat.beq cap cap'&&V.beqs buf buf'
  |_=>false
 |.siter s pos,b=>match b with
  |.siter s' pos'=>Zt3 s s'&&Nat.beq pos pos'
  |_=>false
 |.defs o,b=>match b with
  |.defs o'=>Zth o o'
  |_=>false
 |.loop _,_=>false
 |.dead,b=>match b with
  |.dead=>true
  |_=>false
def O.beq_eq{a b:O}(h:O.beq a b=true):a=b:=by
 cases a<;>simp only[O.beq,Ywi]at h<;>cases b<;>simp only[Ywi,Ywo]at h
 ·obtain⟨⟨h1,h2⟩,h3⟩:=h;rw[Za5 h1,Zop h2,V.beqs_eq _ _ h3]
 ·rw[Yel h]
 ·rw[Za5 h.1,V.beqs_eq _ _ h.2]
 ·rw[Zqh h.1,Za5 h.2]
 ·rw[Zop h]
 ·rfl
def oEq:Option O→O→Bool
 |some a,b=>O.beq a b
 |none,_=>false
def Yct{a:Option O}{b:O}(h:oEq a b=true):a=some b:=by
 cases a with
 |none=>cases h
 |some a=>rw[O.beq_eq h]
def vEq:Option V→V→Bool
 |some a,b=>V.beq a b
 |none,_=>false
def Ypy{a:Option V}{b:V}(h:vEq a b=true):a=some b:=by
 cases a with
 |none=>cases h
 |some a=>rw[V.beq_eq _ _ h]
def Yr6:Option (List V)→List V→Bool
 |some a,b=>V.beqs a b
 |none,_=>false
def Ztw{a:Option (List V)}{b:List V}(h:Yr6 a b=true):a=some b:=by
 cases a with
 |none=>cases h
 |some a=>rw[V.beqs_eq _ _ h]
mutual
def V.free:V→Bool
 |.ptr ..|.slice ..|.map _|.chan _|.yield _=>false
 |.func _ a c=>V.frees a&&V.frees c
 |.iface _ v=>V.free v
 |.agg l=>V.frees l
 |.tup l=>V.frees l
 |_=>true
def V.frees:List V→Bool
 |[]=>true
 |v::vs=>V.free v&&V.frees vs
end
mutual
def V.free_ren{ρ:Nat→Option Nat}:∀(v:V),V.free v=true→V.ren ρ v=some v
 |.bool _,_=>rfl
 |.int _ _,_=>rfl
 |.flt _ _,_=>rfl
 |.str _,_=>rfl
 |.nilptr,_=>rfl
 |.ptr _ _,h=>by simp[V.free]at h
 |.nilslice,_=>rfl
 |.slice _ _ _ _ _,h=>by simp[V.free]at h
 |.empty,_=>rfl
 |.nilmap,_=>rfl
 |.map _,h=>by simp[V.free]at h
 |.nilchan,_=>rfl
 |.chan _,h=>by simp[V.free]at h
 |.func f a c,h=>by
  simp only[V.free,Ywo]at h
  simp only[V.ren,V.frees_ren a h.1,V.frees_ren c h.2]
 |.yield _,h=>by simp[V.free]at h
 |.nilfunc,_=>rfl
 |.iface t v,h=>by
  simp only[V.free]at h
  simp only[V.ren,V.free_ren v h]
 |.niliface,_=>rfl
 |.agg l,h=>by
  simp only[V.free]at h
  simp only[V.ren,V.frees_ren l h]
 |.tup l,h=>by
  simp only[V.free]at h
  simp only[V.ren,V.frees_ren l h]
def V.frees_ren{ρ:Nat→Option Nat}:∀(l:List V),V.frees l=true→V.rens ρ l=some l
 |[],_=>rfl
 |v::vs,h=>by
  simp only[V.frees,Ywo]at h
  simp only[V.rens,V.free_ren v h.1,V.frees_ren vs h.2]
end
def Zl8:Nat→T O
 |0=>.nil
 |n+1=>(Zl8 n).set n .dead
def Zkv:∀(n i:Nat),i<n→(Zl8 n).get i=some .dead
 |0,i,h=>by omega
 |n+1,i,h=>by
  simp only[Zl8,T.get_set]
  by_cases e:i=n
  ·rw[Yv6 e]
  ·rw[Yv4 e];exact Zkv n i (by omega)
def base(G:Nat):St:=⟨Zl8 G,G,[]⟩
def lk:List (Nat×O)→Nat→Option O
 |[],_=>none
 |(j,o)::l,i=>match Nat.beq j i with
  |true=>some o
  |false=>lk l i
def Zep(h:T O):List (Nat×O)→T O
 |[]=>h
 |(j,o)::l=>(Zep h l).set j o
def Zcn(h:T O):∀(l:List (Nat×O)) (i:Nat),(Zep h l).get i=match lk l i with|some o=>some o|none=>h.get i
 |[],i=>rfl
 |(j,o)::l,i=>by
  simp only[Zep,T.get_set,lk]
  by_cases e:i=j
  ·subst e
   rw[Yv6 rfl,Nat.beq_refl _]
  ·rw[Yv4 e]
   have:Nat.beq j i=false:=by
    cases hb:Nat.beq j i with
    |false=>rfl
    |true=>exact absurd (Yzw hb).symm e
   rw[this]
   exact Zcn h l i
def Zsp:∀{l:List (Nat×O)} {i:Nat} {o:O},lk l i=some o→(i,o)∈l
 |(j,o')::l,i,o,h=>by
  simp only[lk]at h
  split at h
  ·rename_i e
   have:=Za5 e
   simp only[Yv3]at h
   subst h;subst this;exact Yw6
  ·exact Yw2 _ (Zsp h)
def Ydn:∀{l:List (Nat×O)} {i:Nat},lk l i=none→∀p∈l,p.1≠i
 |[],_,_,p,hp=>by cases hp
 |(j,o')::l,i,h,p,hp=>by
  simp only[lk]at h
  split at h
  ·cases h
  ·rename_i e
   rcases Yxa.1 hp with rfl|hp
   ·intro hc
    simp only at hc
    subst hc
    have:Nat.beq j j=true:=Nat.beq_refl _
    rw[this]at e;cases e
   ·exact Ydn h p hp
def Ynf{l:List (Nat×O)}{i:Nat}{o:O}(h:(i,o)∈l):∃o',lk l i=some o':=by
 cases hc:lk l i with
 |some o'=>exact⟨o',rfl⟩
 |none=>exact absurd rfl (Ydn hc _ h)
def Ym8(i:Nat):List Nat→Bool
 |[]=>false
 |j::l=>match Nat.beq j i with
  |true=>true
  |false=>Ym8 i l
def Zkg{i:Nat}:∀{l:List Nat},Ym8 i l=true↔i∈l
 |[]=>by simp[Ym8]
 |j::l=>by
  simp only[Ym8]
  split
  ·rename_i e;simp[Za5 e]
  ·rename_i e
   have:i≠j:=by
    rintro rfl
    have:Nat.beq i i=true:=Nat.beq_refl _
    rw[this]at e;cases e
   simp[Zkg,this]
structure Zmr where
 f:Nat
 args:List V
 v:V
def O.tab:O→Bool
 |.cells c _ false=>V.frees c
 |_=>false
def Zru(G:Nat):List (Nat×O)→Bool
 |[]=>true
 |(i,o)::l=>Nat.blt i G&&o.tab&&Zru G l
def O.tab_ren{ρ:Nat→Option Nat}{o:O}(h:o.tab=true):o.ren ρ=some o:=by
 cases o with
 |cells c e rw=>
  cases rw with
  |true=>cases h
  |false=>simp only[O.ren,V.frees_ren c h]
 |_=>cases h
def Zm3{G:Nat}:∀{l:List (Nat×O)},Zru G l=true→∀{i:Nat} {o:O},lk l i=some o→i<G∧o.tab=true
 |(j,o')::l,h,i,o,ho=>by
  simp only[Zru,Ywo]at h
  simp only[lk]at ho
  split at ho
  ·rename_i e
   simp only[Yv3]at ho
   rw[←Za5 e,←ho]
   exact⟨Yy1 (Yxb h.1.1),h.1.2⟩
  ·exact Zm3 h.2 ho
def Zti(G:Nat)(tb:List (Nat×O)):St:=⟨Zep (Zl8 G) tb,G,[]⟩
def Zlv(S:St):List (Nat×O)→Bool
 |[]=>true
 |(i,o)::l=>match oEq (S.h.get i) o with
  |true=>Zlv S l
  |false=>false
def Zlf{S:St}:∀{l:List (Nat×O)},Zlv S l=true→∀p∈l,S.h.get p.1=some p.2
 |[],_,p,hp=>by cases hp
 |(i,o)::l,h,p,hp=>by
  simp only[Zlv]at h
  split at h
  ·rename_i e
   rcases Yxa.1 hp with rfl|hp
   ·exact Yct e
   ·exact Zlf h p hp
  ·cases h
def Zmr.ok(e:Zmr)(tb:List (Nat×O))(G:Nat)(call:Za4):Bool:=
 match call (.func e.f [] []) e.args (Zti G tb)with
 |some (v,s)=>match s.w with
  |[]=>V.beq v e.v&&V.free e.v&&V.frees e.args&&Nat.ble G s.n&&Zru G tb
  |_=>false
 |none=>false
def Yt6(P:Program)(tb:List (Nat×O))(e:Zmr):Prop:=∀S,Zlv S tb=true→Yar P (.func e.f [] []) e.args S e.v S
def Zmr.pure{call:Za4}(hc:Zbx P call){tb:List (Nat×O)}{e:Zmr}(h:e.ok tb P.globals.size call=true):Yt6 P tb e:=by
 unfold Zmr.ok at h
 split at h
 ·rename_i v s hcall
  split at h
  ·rename_i hw
   simp only[Ywo]at h
   obtain⟨⟨⟨⟨h1,h2⟩,h3⟩,h4⟩,h5⟩:=h
   have hv:=V.beq_eq _ _ h1
   subst hv
   intro S hpart μ w Gv xs hh hG hx
   have hpart:=Zlf hpart
   have hn:P.globals.size≤S.n:=by
    apply Yyc
    intro hlt
    obtain⟨t,ht⟩:=hh.glob S.n hlt
    have:=(hh.dom _ _ ht).1
    omega
   have F:Zoz P (fun i=>if i<P.globals.size then some i else none) (fun i=>if i<P.globals.size then some i else none) [] (Zti P.globals.size tb) s S S:={
    dom:=fun i i' hi=>by
     split at hi
     ·rename_i hlt;simp only[Yv3]at hi;subst hi
      exact⟨hlt,by omega⟩
     ·cases hi
    inj:=fun i j i' hi hj=>by
     split at hi<;>split at hj<;>simp_all
    glob:=fun g hg=>by simp[hg]
    obj:=fun i i' hi=>by
     split at hi
     ·rename_i hlt
      simp only[Yv3]at hi;subst hi
      cases hl:lk tb i with
      |some o=>
       refine⟨o,o,?_,.inr (.inl (O.tab_ren (Zm3 h5 hl).2)),.inl (hpart _ (Zsp hl))⟩
       show (Zep (Zl8 P.globals.size) tb).get i=_
       rw[Zcn,hl]
      |none=>
       refine⟨.dead,.dead,?_,.inl rfl,.inr rfl⟩
       show (Zep (Zl8 P.globals.size) tb).get i=_
       rw[Zcn,hl]
       exact Zkv _ _ hlt
     ·cases hi
    old:=fun _ _=>rfl
    new:=fun i i' hi hr=>by
     have:P.globals.size≤i:=hi
     rw[Yv4 (by omega)]at hr;cases hr
    ninj:=fun i j i' hi _ hr _=>by
     have:P.globals.size≤i:=hi
     rw[Yv4 (by omega)]at hr;cases hr
    full:=fun i' h1 h2=>by omega
    nle:=Yv5 _
    w0:=rfl
    W1:=fun i i' hi _=>by rw[hw]at hi;cases hi
    W2:=fun j hj=>by cases hj
    wl:=rfl
    keep:=fun _ _ _=>rfl
    wr:=fun i i' hi _=>by rw[hw]at hi;cases hi
    obn:=fun i i' hi hr=>by
     have:P.globals.size≤i:=hi
     rw[Yv4 (by omega)]at hr;cases hr}
   exact(Yar.frame (hc _ _ _ _ _ hcall) F (V.free_ren _ (by rfl)) (V.frees_ren _ h3) (V.free_ren _ h2)) μ w Gv xs hh hG hx
  ·cases h
 ·cases h
def Zyt:List Zmr→Nat→List V→Option V
 |[],_,_=>none
 |e::l,f,args=>match Nat.beq e.f f with
  |true=>match V.beqs e.args args with
   |true=>some e.v
   |false=>Zyt l f args
  |false=>Zyt l f args
def Zyu(tb:List (Nat×O))(l:List Zmr):Za4
 |.func f [] [],args,st=>match Zyt l f args with
  |some v=>match Zlv st tb with
   |true=>some (v,st)
   |false=>none
  |none=>none
 |_,_,_=>none
def Znj:∀{l:List Zmr} {f:Nat} {args:List V} {v:V},Zyt l f args=some v→∃e∈l,e.f=f∧e.args=args∧e.v=v
 |[],_,_,_,h=>by cases h
 |e::l,f,args,v,h=>by
  simp only[Zyt]at h
  split at h
  ·rename_i e1
   split at h
   ·rename_i e2
    simp only[Yv3]at h
    exact⟨e,Yw6,Za5 e1,V.beqs_eq _ _ e2,h⟩
   ·obtain⟨e',h1,h2⟩:=Znj h;exact⟨e',Yw2 _ h1,h2⟩
  ·obtain⟨e',h1,h2⟩:=Znj h;exact⟨e',Yw2 _ h1,h2⟩
def Zwq{tb:List (Nat×O)}{l:List Zmr}(h:∀e∈l,Yt6 P tb e):Zbx P (Zyu tb l):=by
 intro g args st v st' hc
 unfold Zyu at hc
 split at hc
 ·rename_i f
  split at hc
  ·rename_i u hu
   split at hc
   ·rename_i hp
    simp only[Yv3,Ywa]at hc
    obtain⟨rfl,rfl⟩:=hc
    obtain⟨e,h1,rfl,rfl,rfl⟩:=Znj hu
    exact h e h1 st hp
   ·cases hc
  ·cases hc
 ·cases hc
structure Ent where
 f:Nat
 first:List V
 caps:List V
 args:List V
 part:List (Nat×O)
 n:Nat
 v:V
 kept:List (Nat×O)
 wrs:List (Nat×O)
def Ent.st(e:Ent)(G:Nat):St:=⟨Zep (Zl8 G) e.part,e.n,[]⟩
def sig(G:Nat)(part:List (Nat×O))(i:Nat):Option Nat:=
 match Nat.blt i G with
 |true=>some i
 |false=>match lk part i with
  |some _=>some i
  |none=>none
def idx(i:Nat):List (Nat×O)→Nat→Option Nat
 |[],_=>none
 |(k,_)::l,m=>match Nat.beq k i with
  |true=>some m
  |false=>idx i l (m+1)
def rho(G:Nat)(part:List (Nat×O))(n:Nat)(kept:List (Nat×O))(i:Nat):Option Nat:=
 match Nat.blt i n with
 |true=>sig G part i
 |false=>idx i kept n
def Zgz:List (Nat×O)→Nat→List (Nat×O)
 |[],_=>[]
 |(_,o)::l,m=>(m,o)::Zgz l (m+1)
def Zyy(ρ:Nat→Option Nat)(s:St)(i:Nat)(o':O):Bool:=
 match s.h.get i with
 |some o=>match o' with
  |.dead=>true
  |o'=>oEq (o.ren ρ) o'
 |none=>false
def Zxb(ρ:Nat→Option Nat)(s:St)(n:Nat):List (Nat×O)→Nat→Bool
 |[],_=>true
 |(k,o)::l,m=>Zsd (ρ k) (some m)&&Nat.ble n k&&Nat.blt k s.n&&Zyy ρ s k o&&Zxb ρ s n l (m+1)
def Ent.chk(e:Ent)(G:Nat)(v:V)(s:St):Bool:=
 Nat.ble G e.n&&Nat.ble e.n s.n&&(e.part.all fun p=>Nat.blt p.1 e.n&&oEq (p.2.ren (sig G e.part)) p.2)&&
 Yr6 (V.rens (sig G e.part) e.first) e.first&&Yr6 (V.rens (sig G e.part) e.caps) e.caps&&Yr6 (V.rens (sig G e.part) e.args) e.args&&
 vEq (V.ren (rho G e.part e.n e.kept) v) e.v&&
 Zxb (rho G e.part e.n e.kept) s e.n e.kept e.n&&
 (s.w.all fun i=>match sig G e.part i with|some _=>Ym8 i (e.wrs.map (·.1))|none=>true)&&
 (e.wrs.all fun p=>Ym8 p.1 s.w&&Zsd (sig G e.part p.1) (some p.1)&&Zyy (rho G e.part e.n e.kept) s p.1 p.2)
def Ent.ok(e:Ent)(G:Nat)(call:Za4):Bool:=
 match call (.func e.f e.first e.caps) e.args (e.st G)with
 |some (v,s)=>e.chk G v s
 |none=>false
def Ent.out(e:Ent)(S:St):St:=⟨Zep (Zep S.h e.wrs) (Zgz e.kept e.n),e.n+e.kept.length,e.wrs.map (·.1)++S.w⟩
def Zn6(e:Ent):Za4
 |.func f a c,args,S=>match Nat.beq e.f f with
  |true=>match V.beqs e.args args&&V.beqs e.first a&&V.beqs e.caps c&&Nat.beq S.n e.n&&Zlv S e.part with
   |true=>some (e.v,e.out S)
   |false=>none
  |false=>none
 |_,_,_=>none
def Zkm{i:Nat}:∀{l:List (Nat×O)} {m i':Nat},idx i l m=some i'→m≤i'∧i'<m+l.length∧∃o,l[i'-m]?=some (i,o)
 |[],m,i',h=>by cases h
 |(k,o)::l,m,i',h=>by
  simp only[idx]at h
  split at h
  ·rename_i e
   simp only[Yv3]at h;subst h
   have:=Za5 e;subst this
   exact⟨Yv5 _,by simp,o,by simp⟩
  ·obtain⟨h1,h2,o',h3⟩:=Zkm h
   refine⟨by omega,by simp;omega,o',?_⟩
   rw[show i'-m=(i'-(m+1))+1 by omega]
   simpa using h3
def Zpp:∀{l:List (Nat×O)} {m j:Nat} {p:Nat×O},l[j]?=some p→lk (Zgz l m) (m+j)=some p.2
 |[],m,j,p,h=>by simp at h
 |(k,o)::l,m,0,p,h=>by
  simp at h;subst h
  simp[Zgz,lk]
 |(k,o)::l,m,j+1,p,h=>by
  simp only[Zgz,lk]
  have:Nat.beq m (m+(j+1))=false:=by
   cases hb:Nat.beq m (m+(j+1))with
   |false=>rfl
   |true=>have:=Za5 hb;omega
  rw[this,show m+(j+1)=(m+1)+j by omega]
  exact Zpp (by simpa using h)
def Zlw:∀{l:List (Nat×O)} {m i:Nat},i<m→lk (Zgz l m) i=none
 |[],_,_,_=>rfl
 |(k,o)::l,m,i,h=>by
  simp only[Zgz,lk]
  have:Nat.beq m i=false:=by
   cases hb:Nat.beq m i with
   |false=>rfl
   |true=>have:=Za5 hb;omega
  rw[this]
  exact Zlw (by omega)
def Zpt{ρ:Nat→Option Nat}{s:St}{n:Nat}:∀{l:List (Nat×O)} {m:Nat},Zxb ρ s n l m=true→∀{j:Nat} {p:Nat×O},l[j]?=some p→ρ p.1=some (m+j)∧n≤p.1∧p.1<s.n∧Zyy ρ s p.1 p.2=true
 |[],m,_,j,p,h=>by simp at h
 |(k,o)::l,m,h,j,p,hj=>by
  simp only[Zxb,Ywo]at h
  obtain⟨⟨⟨⟨h1,h2⟩,h3⟩,h4⟩,h5⟩:=h
  cases j with
  |zero=>
   simp at hj;subst hj
   exact⟨Zns h1,Yxb h2,Yy1 (Yxb h3),h4⟩
  |succ j=>
   obtain⟨q1,q2⟩:=Zpt h5 (j:=j) (by simpa using hj)
   exact⟨by rw[q1];congr 1;omega,q2⟩
def Zpo{ρ:Nat→Option Nat}{s:St}{o':O}(h:Zyy ρ s i o'=true):∃o,s.h.get i=some o∧(o'=.dead∨o.ren ρ=some o'):=by
 unfold Zyy at h
 split at h
 ·rename_i o ho
  refine⟨o,ho,?_⟩
  split at h
  ·exact .inl rfl
  ·exact .inr (Yct h)
 ·cases h
def Zib{part:List (Nat×O)}{i':Nat}(h:sig G part i=some i'):i'=i∧(i<G∨∃o,lk part i=some o):=by
 unfold sig at h
 split at h
 ·rename_i e
  simp only[Yv3]at h
  exact⟨h.symm,.inl (Yy1 (Yxb e))⟩
 ·split at h
  ·rename_i o ho
   simp only[Yv3]at h
   exact⟨h.symm,.inr ⟨o,ho⟩⟩
  ·cases h
def Yac{call:Za4}(hcall:Zbx P call){e:Ent}(h:e.ok P.globals.size call=true):Zbx P (Zn6 e):=by
 intro g args S v S' hc
 unfold Zn6 at hc
 split at hc
 ·rename_i f a c
  split at hc
  ·rename_i hf
   have hf:=Za5 hf
   subst hf
   split at hc
   ·rename_i hcond
    simp only[Ywo]at hcond
    obtain⟨⟨⟨⟨c1,c2⟩,c3⟩,c4⟩,c5⟩:=hcond
    have c1:=V.beqs_eq _ _ c1
    have c2:=V.beqs_eq _ _ c2
    have c3:=V.beqs_eq _ _ c3
    have c4:=Za5 c4
    have c5:=Zlf c5
    simp only[Yv3,Ywa]at hc
    obtain⟨rfl,rfl⟩:=hc
    subst c1;subst c2;subst c3
    unfold Ent.ok at h
    split at h
    ·rename_i v0 s hrun
     unfold Ent.chk at h
     simp only[Ywo,Yw1]at h
     obtain⟨⟨⟨⟨⟨⟨⟨⟨⟨k1,k2⟩,k3⟩,k4⟩,k5⟩,k6⟩,k7⟩,k8⟩,k9⟩,k10⟩:=h
     have k1:=Yxb k1
     have k2:=Yxb k2
     have hpart:∀i o,lk e.part i=some o→i<e.n∧o.ren (sig P.globals.size e.part)=some o∧S.h.get i=some o:=fun i o ho=>by
      have hm:=Zsp ho
      obtain⟨q1,q2⟩:=k3 _ hm
      exact⟨Yy1 (Yxb q1),Yct q2,c5 _ hm⟩
     have hρn:∀i,e.n≤i→rho P.globals.size e.part e.n e.kept i=idx i e.kept e.n:=fun i hi=>by
      unfold rho
      have:Nat.blt i e.n=false:=by
       cases hb:Nat.blt i e.n with
       |false=>rfl
       |true=>have:=Yy1 (Yxb hb);omega
      rw[this]
     have hkept:∀j p,e.kept[j]?=some p→rho P.globals.size e.part e.n e.kept p.1=some (e.n+j)∧e.n≤p.1∧p.1<s.n∧Zyy (rho P.globals.size e.part e.n e.kept) s p.1 p.2=true:=fun j p hj=>Zpt k8 hj
     have hlkn:∀j,j<e.n→(e.out S).h.get j=match lk e.wrs j with|some o=>some o|none=>S.h.get j:=fun j hj=>by
      show (Zep (Zep S.h e.wrs) (Zgz e.kept e.n)).get j=_
      rw[Zcn,Zlw hj,Zcn]
     have F:Zoz P (sig P.globals.size e.part) (rho P.globals.size e.part e.n e.kept) (e.wrs.map (·.1)) (e.st P.globals.size) s S (e.out S):={
      dom:=fun i i' hi=>by
       obtain⟨rfl,hor⟩:=Zib hi
       have:i'<e.n:=by
        rcases hor with h|⟨o,ho⟩
        ·omega
        ·exact(hpart _ _ ho).1
       exact⟨this,by omega⟩
      inj:=fun i j i' hi hj=>by rw[←(Zib hi).1,←(Zib hj).1]
      glob:=fun g hg=>by
       unfold sig
       have:Nat.blt g P.globals.size=true:=Yzy hg
       rw[this]
      obj:=fun i i' hi=>by
       obtain⟨rfl,hor⟩:=Zib hi
       cases hl:lk e.part i' with
       |some o=>
        obtain⟨q1,q2,q3⟩:=hpart _ _ hl
        refine⟨o,o,?_,.inr (.inl q2),.inl q3⟩
        show (Zep (Zl8 P.globals.size) e.part).get i'=_
        rw[Zcn,hl]
       |none=>
        have hg:i'<P.globals.size:=by
         rcases hor with h|⟨o,ho⟩
         ·exact h
         ·rw[hl]at ho;cases ho
        refine⟨.dead,.dead,?_,.inl rfl,.inr rfl⟩
        show (Zep (Zl8 P.globals.size) e.part).get i'=_
        rw[Zcn,hl]
        exact Zkv _ _ hg
      old:=fun i hi=>by
       have:Nat.blt i e.n=true:=Yzy hi
       unfold rho;rw[this]
      new:=fun i i' hi hr=>by
       rw[hρn i hi]at hr
       obtain⟨q1,q2,o,q3⟩:=Zkm hr
       obtain⟨_,_,r3,_⟩:=hkept _ _ q3
       exact⟨by omega,q2,r3⟩
      ninj:=fun i j i' hi hj hri hrj=>by
       rw[hρn i hi]at hri
       rw[hρn j hj]at hrj
       obtain⟨_,_,o,q3⟩:=Zkm hri
       obtain⟨_,_,o',q3'⟩:=Zkm hrj
       rw[q3]at q3'
       cases q3';rfl
      full:=fun i' h1 h2=>by
       have h2':i'<e.n+e.kept.length:=h2
       obtain⟨p,hp⟩:∃p,e.kept[i'-e.n]?=some p:=⟨_,Yv9 (by omega)⟩
       obtain⟨r1,r2,_,_⟩:=hkept _ _ hp
       exact⟨p.1,r2,by rw[r1];congr 1;omega⟩
      nle:=by show S.n≤e.n+e.kept.length;omega
      w0:=rfl
      W1:=fun i i' hi hs=>by
       obtain⟨rfl,_⟩:=Zib hs
       have:=k9 _ hi
       rw[hs]at this
       exact Zkg.1 this
      W2:=fun j hj=>by
       obtain⟨p,hp,rfl⟩:=Ywv.1 hj
       obtain⟨⟨q1,q2⟩,_⟩:=k10 _ hp
       exact⟨p.1,Zkg.1 q1,Zns q2⟩
      wl:=rfl
      keep:=fun j hj hn=>by
       rw[hlkn j (by omega)]
       cases hl:lk e.wrs j with
       |none=>rfl
       |some o=>exact absurd (Ywv.2 ⟨_,Zsp hl,rfl⟩) hn
      wr:=fun i i' hi hs=>by
       obtain⟨rfl,hor⟩:=Zib hs
       have hlt:i'<e.n:=by
        rcases hor with h|⟨o,ho⟩
        ·omega
        ·exact(hpart _ _ ho).1
       have:=k9 _ hi
       rw[hs]at this
       obtain⟨p,hp,hpe⟩:=Ywv.1 (Zkg.1 this)
       obtain⟨o',ho'⟩:=Ynf (l:=e.wrs) (i:=i') (o:=p.2) (by rw[←hpe];exact hp)
       obtain⟨_,q3⟩:=k10 _ (Zsp ho')
       obtain⟨o,r1,r2⟩:=Zpo q3
       exact⟨o,o',r1,by rw[hlkn _ hlt,ho'],r2⟩
      obn:=fun i i' hi hr=>by
       rw[hρn i hi]at hr
       obtain⟨q1,q2,o,q3⟩:=Zkm hr
       obtain⟨_,_,_,r4⟩:=hkept _ _ q3
       obtain⟨o2,t1,t2⟩:=Zpo r4
       refine⟨o2,o,t1,?_,t2⟩
       show (Zep (Zep S.h e.wrs) (Zgz e.kept e.n)).get i'=_
       have:=Zpp (m:=e.n) q3
       rw[show e.n+(i'-e.n)=i' by omega]at this
       rw[Zcn,this]}
     refine Yar.frame (hcall _ _ _ _ _ hrun) F ?_ (Ztw k6) (Ypy k7)
     simp only[V.ren,Ztw k4,Ztw k5]
    ·cases h
   ·cases hc
  ·cases hc
 ·cases hc
def Zhe(x:Za4)(tbl:Nat→Option Zev)(fuel:Nat):Nat→Za4
 |0=>x
 |d+1=>Zer x (Zcz tbl (Zbh (Zhe x tbl fuel d) fuel))
def Zki{P:Program}{tbl:Nat→Option Zev}(hm:P.follows .mixedOrders=true)(hE:Zez P)(ht:Zv2 P tbl){x:Za4}(hx:Zbx P x)(fuel:Nat):∀d,Zbx P (Zhe x tbl fuel d)
 |0=>hx
 |d+1=>by
  have ih:=Zki hm hE ht hx fuel d
  exact hx.or (Zvt ht (Yfa ih hE (Yeo hm hE ih) (Yjy ih hE) (Zwh ih) fuel))
def Yit:List Ent→Nat→List V→List V→List V→St→Option (V×St)
 |[],_,_,_,_,_=>none
 |e::l,f,a,c,args,S=>match Nat.beq e.f f with
  |true=>match Zn6 e (.func f a c) args S with
   |some r=>some r
   |none=>Yit l f a c args S
  |false=>Yit l f a c args S
def Yof(l:List Ent):Za4
 |.func f a c,args,S=>Yit l f a c args S
 |_,_,_=>none
def Yiu{l:List Ent}(h:∀e∈l,Zbx P (Zn6 e)):Zbx P (Yof l):=by
 intro g args S v S' hc
 unfold Yof at hc
 split at hc
 ·rename_i f a c
  induction l with
  |nil=>cases hc
  |cons e l ih=>
   simp only[Yit]at hc
   split at hc
   ·split at hc
    ·rename_i r hr
     cases hc
     exact h e Yw6 _ _ _ _ _ hr
    ·exact ih (fun e he=>h e (Yw2 _ he)) hc
   ·exact ih (fun e he=>h e (Yw2 _ he)) hc
 ·cases hc
def Yaz(tb:List (Nat×O))(L:List Zmr)(E:List Ent):Za4:=Zer (Zyu tb L) (Yof E)
structure Zap (P:Program) (tb:List (Nat×O)) (L:List Zmr) (E:List Ent):Prop where
 p:∀e∈L,Yt6 P tb e
 e:∀e∈E,Zbx P (Zn6 e)
def Zap.call{tb:List (Nat×O)}{L:List Zmr}{E:List Ent}(h:Zap P tb L E):Zbx P (Yaz tb L E):=(Zwq h.p).or (Yiu h.e)
def Zap.nil{tb:List (Nat×O)}:Zap P tb [] []:=⟨fun _ h=>(by cases h),fun _ h=>(by cases h)⟩
structure Zl2 (P:Program) (tbl:Nat→Option Zev) (G:Nat):Prop where
 m:P.follows .mixedOrders=true
 e:Zez P
 t:Zv2 P tbl
 g:P.globals.size=G
def Zap.addP{tbl:Nat→Option Zev}{fuel d:Nat}(hP:Zl2 P tbl G){tb:List (Nat×O)}{L:List Zmr}{E:List Ent}(h:Zap P tb L E){e:Zmr}(he:e.ok tb G (Zhe (Yaz tb L E) tbl fuel d)=true):Zap P tb (e::L) E:=
 ⟨fun e' hm=>by
  rcases Yxa.1 hm with rfl|hm
  ·exact Zmr.pure (Zki hP.m hP.e hP.t h.call fuel d) (by rw[hP.g];exact he)
  ·exact h.p e' hm,h.e⟩
def Zap.addE{tbl:Nat→Option Zev}{fuel d:Nat}(hP:Zl2 P tbl G){tb:List (Nat×O)}{L:List Zmr}{E:List Ent}(h:Zap P tb L E){e:Ent}(he:e.ok G (Zhe (Yaz tb L E) tbl fuel d)=true):Zap P tb L (e::E):=
 ⟨h.p,fun e' hm=>by
  rcases Yxa.1 hm with rfl|hm
  ·exact Yac (Zki hP.m hP.e hP.t h.call fuel d) (by rw[hP.g];exact he)
  ·exact h.e e' hm⟩
def Ykj(tb:List (Nat×O))(G:Nat)(tbl:Nat→Option Zev)(L:List Zmr)(E:List Ent):Bool:=match L with
 |[]=>false
 |e::t=>e.ok tb G (Zhe (Yaz tb t E) tbl 5000 40)
def Yd9(tb:List (Nat×O))(G:Nat)(tbl:Nat→Option Zev)(L:List Zmr)(E:List Ent):Bool:=match E with
 |[]=>false
 |e::t=>e.ok G (Zhe (Yaz tb L t) tbl 5000 40)
def Zap.p1{P:Program}{tbl:Nat→Option Zev}{G:Nat}(hP:Zl2 P tbl G){tb:List (Nat×O)}{L:List Zmr}{E:List Ent}(h:Zap P tb L.tail E)(he:Ykj tb G tbl L E=true):Zap P tb L E:=by
 cases L with
 |nil=>exact h
 |cons e t=>exact Zap.addP hP h he
def Zap.e1{P:Program}{tbl:Nat→Option Zev}{G:Nat}(hP:Zl2 P tbl G){tb:List (Nat×O)}{L:List Zmr}{E:List Ent}(h:Zap P tb L E.tail)(he:Yd9 tb G tbl L E=true):Zap P tb L E:=by
 cases E with
 |nil=>exact h
 |cons e t=>exact Zap.addE hP h he
section
variable {call:Za4} {f:Nat} {ro:Option Nat} {a b c:Zaw} {fr:Fr} {st:St}
end
def Yqs{a b:Nat}:Nat.blt a b=decide (a<b):=by
 cases h:Nat.blt a b
 ·symm;simp only[decide_eq_false_iff_not];intro hc;rw[show Nat.blt a b=true from Yzy hc]at h;cases h
 ·symm;simp only[decide_eq_true_eq];exact Yy1 (Yxb h)
def Yqt{a b:Nat}:Nat.ble a b=decide (a≤b):=by
 cases h:Nat.ble a b
 ·symm;simp only[decide_eq_false_iff_not];intro hc;rw[Yzy hc]at h;cases h
 ·symm;simp only[decide_eq_true_eq];exact Yxb h
def Zaj{n:Int}(h1: -9223372036854775808≤n)(h2:n<9223372036854775808):Zar .i64 n=n:=by
 rw[Zdr]
 simp[IntKind.wrap,IntKind.bits,IntKind.signed]
 omega
def Zz2{k a b}:Zd0 .add k a b=some (.int k (Zar k (a+b))):=rfl
def Zzr{k a b}:Zd0 .sub k a b=some (.int k (Zar k (a-b))):=rfl
def Zzw{k a b}:Zd0 .mul k a b=some (.int k (Zar k (a*b))):=rfl
def Zzu{k a b}(h:¬b=0):Zd0 .quo k a b=some (.int k (Zar k (a.tdiv b))):=by simp[Zd0,h]
def Zzt{k a b}(h:¬b=0):Zd0 .rem k a b=some (.int k (a.tmod b)):=by simp[Zd0,h]
def Zz1{k a b}:Zd0 .eql k a b=some (.bool (a==b)):=rfl
def Zzv{k a b}:Zd0 .neq k a b=some (.bool (a !=b)):=rfl
def Zzx{k a b}:Zd0 .lss k a b=some (.bool (decide (a<b))):=rfl
def Zzy{k a b}:Zd0 .leq k a b=some (.bool (decide (a≤b))):=rfl
def Zzz{k a b}:Zd0 .gtr k a b=some (.bool (decide (a > b))):=rfl
def Zz0{k a b}:Zd0 .geq k a b=some (.bool (decide (a≥b))):=rfl
def Ym0(x):mop (.mov x)=Znn x:=rfl
def Yhr(a b c):mop (.pick a b c)=Zhp a b c:=rfl
def Ydb(a b):mop (.alloc a b)=Zii a b:=rfl
def Ym4(a b):mop (.box a b)=Znq a b:=rfl
def Yda(a b):mop (.build a b)=Ze3 a b:=rfl
def Zza(a b c d e):mop (.bslice a b c d e)=Zfi a b c d e:=rfl
def Yhs(a b):mop (.load a b)=Zi6 a b:=rfl
def Yc2(a b c):mop (.store a b c)=Zfr a b c:=rfl
def Yc4(a):mop (.nilck a)=Zgu a:=rfl
def Ym5(a b c d e):mop (.bin a b c d e)=Znr a b c d e:=rfl
def Yqv(a b):mop (.un a b)=Zuj a b:=rfl
def Zu4(a b):mop (.convInt a b)=Zed a b:=rfl
def Zy3(a b c):mop (.mkfunc a b c)=Zfg a b c:=rfl
def Yc7(a b):mop (.faddr a b)=Zgx a b:=rfl
def Yc6(a b c):mop (.field a b c)=Zgw a b c:=rfl
def Zsk(a b c d):mop (.iaddrArr a b c d)=Zcg a b c d:=rfl
def Zu1(a b c):mop (.iaddrSl a b c)=Zdo a b c:=rfl
def Zu2(a b):mop (.extract a b)=Zec a b:=rfl
def Ym1(a b):mop (.len a b)=Zf2 a b:=rfl
def Yhu(a b):mop (.call a b)=Zex a b:=rfl
structure Yr5 (r:Option (V×St)) (v:V):Prop where
 ex:∃s,r=some (v,s)∧s.w=[]
def Zz5{u v:V}{s:St}:Yr5 (some (u,s)) v↔u=v∧s.w=[]:=
 ⟨fun ⟨_,h1,h2⟩=>by simp only[Yv3,Ywa]at h1;exact⟨h1.1,h1.2▸h2⟩,fun ⟨h1,h2⟩=>⟨s,by rw[h1],h2⟩⟩
attribute [simp]
 Ym0 Yhr Ydb Ym4 Yda Zza Yhs Yc2 Yc4 Ym5 Yqv Zu4 Zy3 Yc7 Yc6 Zsk Zu1 Zu2 Ym1 Yhu
 Znn Zhp Zii Znq Ze3 Zfi Zi6 Zgu Znr Zuj Zed Zfg Zgx Zgw Zcg Zec Zex
 Zew wantedV Src.ev T.get_set resV Zr2 Zaa Yt2 Zz2 Zzr Zzw Zzu Zzt Zz1 Zzv Zzx Zzy Zzz Zz0 Zbm unV Ziq evOpt Zfw Zo5 Zak V.cells V.one St.alloc St.write St.row Zaj Yqs Yqt Zf7 Zc1 MOp.silent Zw6 apartOk Zao Zao.go Zao.chk FP.free Zqy Nat.testBit Zz5 base
end Go.Mx

