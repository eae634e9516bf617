/-Calls that are known-/
import Derived.Test.YtalhlaaapkpkiaaGreatDoorMxDraw5
import Derived.Below
import Derived.CallsIn
set_option linter.all false
namespace Go.Mx
open Go
variable {G i:Nat} {P:Program}
def Zsw:Bool→Bool→Bool
 |true,b=>b
 |false,true=>false
 |false,false=>true
def Yg7:IntKind→Nat
 |.i8=>0|.i16=>1|.i32=>2|.i64=>3|.u8=>4|.u16=>5|.u32=>6|.u64=>7
def Yly:Int→Int→Bool
 |.ofNat a,b=>match b with
  |.ofNat b=>Nat.beq a b
  |.negSucc _=>false
 |.negSucc a,b=>match b with
  |.ofNat _=>false
  |.negSucc b=>Nat.beq a b
def Ztg:List UInt8→List UInt8→Bool
 |[],l=>match l with
  |[]=>true
  |_::_=>false
 |a::xs,l=>match l with
  |[]=>false
  |b::ys=>match Nat.beq a.toNat b.toNat with
   |true=>Ztg xs ys
   |false=>false
def Zrn:Option Nat→Option Nat→Bool
 |none,b=>match b with
  |none=>true
  |some _=>false
 |some a,b=>match b with
  |none=>false
  |some b=>Nat.beq a b
def Zn8{a b:Bool}(h:Zsw a b=true):a=b:=by cases a<;>cases b<;>simp_all [Zsw]
def Za2{a b:Nat}(h:Nat.beq a b=true):a=b:=Ywx h
def Yl0{a b:IntKind}(h:Nat.beq (Yg7 a) (Yg7 b)=true):a=b:=by cases a<;>cases b<;>first|rfl|(exact absurd h (by decide))
def Yg2{a b:Int}(h:Yly a b=true):a=b:=by
 cases a<;>cases b<;>simp only[Yly,Ytj]at h
 ·rw[Za2 h]
 ·rw[Za2 h]
def Zpv:∀{a b:List UInt8},Ztg a b=true→a=b
 |[],[],_=>rfl
 |[],_::_,h=>by simp[Ztg]at h
 |_::_,[],h=>by simp[Ztg]at h
 |a::xs,b::ys,h=>by
  simp only[Ztg]at h
  split at h
  ·rename_i e
   rw[Zpv h,UInt8.toNat_inj.1 (Za2 e)]
  ·cases h
def Znf{a b:Option Nat}(h:Zrn a b=true):a=b:=by
 cases a<;>cases b<;>simp only[Zrn,Ytj]at h
 ·rfl
 ·rw[Za2 h]
def Yhe:FloatKind→Nat
 |.f32=>0|.f64=>1
def Yl4{a b:FloatKind}(h:Nat.beq (Yhe a) (Yhe b)=true):a=b:=by cases a<;>cases b<;>first|rfl|(exact absurd h (by decide))
def V.isBool(x:Bool):V→Bool|.bool y=>Zsw x y|_=>false
def V.isInt(k:IntKind)(n:Int):V→Bool|.int k' n'=>(match Nat.beq (Yg7 k) (Yg7 k')with|true=>Yly n n'|false=>false)|_=>false
def V.isFlt(k:FloatKind)(n:Nat):V→Bool|.flt k' n'=>(match Nat.beq (Yhe k) (Yhe k')with|true=>Nat.beq n n'|false=>false)|_=>false
def V.isStr(s:List UInt8):V→Bool|.str t=>Ztg s t|_=>false
def V.isNilptr:V→Bool|.nilptr=>true|_=>false
def V.isPtr(i o:Nat):V→Bool|.ptr i' o'=>(match Nat.beq i i' with|true=>Nat.beq o o'|false=>false)|_=>false
def V.isNilslice:V→Bool|.nilslice=>true|_=>false
def V.isSlice(i o l:Nat)(c:Option Nat)(z:Nat):V→Bool|.slice i' o' l' c' z'=>Nat.beq i i'&&Nat.beq o o'&&Nat.beq l l'&&Zrn c c'&&Nat.beq z z'|_=>false
def V.isEmpty:V→Bool|.empty=>true|_=>false
def V.isNilmap:V→Bool|.nilmap=>true|_=>false
def V.isMap(i:Nat):V→Bool|.map j=>Nat.beq i j|_=>false
def V.isNilchan:V→Bool|.nilchan=>true|_=>false
def V.isChan(i:Nat):V→Bool|.chan j=>Nat.beq i j|_=>false
def V.isYield(i:Nat):V→Bool|.yield j=>Nat.beq i j|_=>false
def V.isNilfunc:V→Bool|.nilfunc=>true|_=>false
def V.isNiliface:V→Bool|.niliface=>true|_=>false
mutual
def V.beq:V→V→Bool
 |.bool x,b=>b.isBool x
 |.int k n,b=>b.isInt k n
 |.flt k n,b=>b.isFlt k n
 |.str s,b=>b.isStr s
 |.nilptr,b=>b.isNilptr
 |.ptr i o,b=>b.isPtr i o
 |.nilslice,b=>b.isNilslice
 |.slice i o l c z,b=>b.isSlice i o l c z
 |.empty,b=>b.isEmpty
 |.nilmap,b=>b.isNilmap
 |.map i,b=>b.isMap i
 |.nilchan,b=>b.isNilchan
 |.chan i,b=>b.isChan i
 |.func f a c,b=>match b with
  |.func f' a' c'=>Nat.beq f f'&&V.beqs a a'&&V.beqs c c'
  |_=>false
 |.yield i,b=>b.isYield i
 |.nilfunc,b=>b.isNilfunc
 |.iface t v,b=>match b with
  |.iface t' v'=>Nat.beq t t'&&V.beq v v'
  |_=>false
 |.niliface,b=>b.isNiliface
 |.agg l,b=>match b with
  |.agg l'=>V.beqs l l'
  |_=>false
 |.tup l,b=>match b with
  |.tup l'=>V.beqs l l'
  |_=>false
def V.beqs:List V→List V→Bool
 |[],l=>match l with
  |[]=>true
  |_::_=>false
 |a::xs,l=>match l with
  |[]=>false
  |b::ys=>match V.beq a b with
   |true=>V.beqs xs ys
   |false=>false
end
mutual
def V.beq_eq:∀(a b:V),V.beq a b=true→a=b
 |.bool x,b,h=>by cases b<;>simp only[V.beq,V.isBool,Ytj]at h;rw[Zn8 h]
 |.int k n,b,h=>by
  cases b<;>simp only[V.beq,V.isInt,Ytj]at h
  split at h
  ·rename_i e;rw[Yl0 e,Yg2 h]
  ·cases h
 |.flt k n,b,h=>by
  cases b<;>simp only[V.beq,V.isFlt,Ytj]at h
  split at h
  ·rename_i e;rw[Yl4 e,Za2 h]
  ·cases h
 |.str s,b,h=>by cases b<;>simp only[V.beq,V.isStr,Ytj]at h;rw[Zpv h]
 |.nilptr,b,h=>by cases b<;>simp only[V.beq,V.isNilptr,Ytj]at h;rfl
 |.ptr i o,b,h=>by
  cases b<;>simp only[V.beq,V.isPtr,Ytj]at h
  split at h
  ·rename_i e;rw[Za2 e,Za2 h]
  ·cases h
 |.nilslice,b,h=>by cases b<;>simp only[V.beq,V.isNilslice,Ytj]at h;rfl
 |.slice i o l c z,b,h=>by
  cases b<;>simp only[V.beq,V.isSlice,Ytj,Ytt]at h
  obtain⟨⟨⟨⟨h1,h2⟩,h3⟩,h4⟩,h5⟩:=h
  rw[Za2 h1,Za2 h2,Za2 h3,Znf h4,Za2 h5]
 |.empty,b,h=>by cases b<;>simp only[V.beq,V.isEmpty,Ytj]at h;rfl
 |.nilmap,b,h=>by cases b<;>simp only[V.beq,V.isNilmap,Ytj]at h;rfl
 |.map i,b,h=>by cases b<;>simp only[V.beq,V.isMap,Ytj]at h;rw[Za2 h]
 |.nilchan,b,h=>by cases b<;>simp only[V.beq,V.isNilchan,Ytj]at h;rfl
 |.chan i,b,h=>by cases b<;>simp only[V.beq,V.isChan,Ytj]at h;rw[Za2 h]
 |.func f a c,b,h=>by
  cases b<;>simp only[V.beq,Ytj,Ytt]at h
  obtain⟨⟨h1,h2⟩,h3⟩:=h
  rw[Za2 h1,V.beqs_eq _ _ h2,V.beqs_eq _ _ h3]
 |.yield i,b,h=>by cases b<;>simp only[V.beq,V.isYield,Ytj]at h;rw[Za2 h]
 |.nilfunc,b,h=>by cases b<;>simp only[V.beq,V.isNilfunc,Ytj]at h;rfl
 |.iface t v,b,h=>by
  cases b<;>simp only[V.beq,Ytj,Ytt]at h
  rw[Za2 h.1,V.beq_eq _ _ h.2]
 |.niliface,b,h=>by cases b<;>simp only[V.beq,V.isNiliface,Ytj]at h;rfl
 |.agg l,b,h=>by cases b<;>simp only[V.beq,Ytj]at h;rw[V.beqs_eq _ _ h]
 |.tup l,b,h=>by cases b<;>simp only[V.beq,Ytj]at h;rw[V.beqs_eq _ _ h]
def V.beqs_eq:∀(a b:List V),V.beqs a b=true→a=b
 |[],[],_=>rfl
 |[],_::_,h=>by simp[V.beqs]at h
 |_::_,[],h=>by simp[V.beqs]at h
 |a::xs,b::ys,h=>by
  simp only[V.beqs]at h
  split at h
  ·rename_i e;rw[V.beq_eq a b e,V.beqs_eq xs ys h]
  ·cases h
end
def Ym8:List (V×V)→List (V×V)→Bool
 |[],l=>match l with
  |[]=>true
  |_::_=>false
 |(k,v)::xs,l=>match l with
  |[]=>false
  |(k',v')::ys=>V.beq k k'&&V.beq v v'&&Ym8 xs ys
def Ydr:∀{a b:List (V×V)},Ym8 a b=true→a=b
 |[],[],_=>rfl
 |[],_::_,h=>by simp[Ym8]at h
 |_::_,[],h=>by simp[Ym8]at h
 |(k,v)::xs,(k',v')::ys,h=>by
  simp only[Ym8,Ytt]at h
  rw[V.beq_eq _ _ h.1.1,V.beq_eq _ _ h.1.2,Ydr h.2]
def O.beq:O→O→Bool
 |.cells c e rw,b=>match b with
  |.cells c' e' rw'=>Nat.beq e e'&&Zsw rw rw'&&V.beqs c c'
  |_=>false
 |.map es,b=>match b with
  |.map es'=>Ym8 es es'
  |_=>false
 |.chan cap buf,b=>match b with
  |.chan cap' buf'=>Nat.beq cap cap'&&V.beqs buf buf'
  |_=>false
 |.siter s pos,b=>match b with
  |.siter s' pos'=>Ztg s s'&&Nat.beq pos pos'
  |_=>false
 |.defs o,b=>match b with
  |.defs o'=>Zsw o o'
  |_=>false
 |.loop _,_=>false
 |.dead,b=>match b with
  |.dead=>true
  |_=>false
def O.beq_eq{a b:O}(h:O.beq a b=true):a=b:=by
 cases a<;>simp only[O.beq,Ytj]at h<;>cases b<;>simp only[Ytj,Ytt]at h
 ·obtain⟨⟨h1,h2⟩,h3⟩:=h;rw[Za2 h1,Zn8 h2,V.beqs_eq _ _ h3]
 ·rw[Ydr h]
 ·rw[Za2 h.1,V.beqs_eq _ _ h.2]
 ·rw[Zpv h.1,Za2 h.2]
 ·rw[Zn8 h]
 ·rfl
def oEq:Option O→O→Bool
 |some a,b=>O.beq a b
 |none,_=>false
def Ybw{a:Option O}{b:O}(h:oEq a b=true):a=some b:=by
 cases a with
 |none=>cases h
 |some a=>rw[O.beq_eq h]
def vEq:Option V→V→Bool
 |some a,b=>V.beq a b
 |none,_=>false
def Yne{a:Option V}{b:V}(h:vEq a b=true):a=some b:=by
 cases a with
 |none=>cases h
 |some a=>rw[V.beq_eq _ _ h]
def Ypd:Option (List V)→List V→Bool
 |some a,b=>V.beqs a b
 |none,_=>false
def Zs9{a:Option (List V)}{b:List V}(h:Ypd a b=true):a=some b:=by
 cases a with
 |none=>cases h
 |some a=>rw[V.beqs_eq _ _ h]
mutual
def V.free:V→Bool
 |.ptr ..|.slice ..|.map _|.chan _|.yield _=>false
 |.func _ a c=>V.frees a&&V.frees c
 |.iface _ v=>V.free v
 |.agg l=>V.frees l
 |.tup l=>V.frees l
 |_=>true
def V.frees:List V→Bool
 |[]=>true
 |v::vs=>V.free v&&V.frees vs
end
mutual
def V.free_ren{ρ:Nat→Option Nat}:∀(v:V),V.free v=true→V.ren ρ v=some v
 |.bool _,_=>rfl
 |.int _ _,_=>rfl
 |.flt _ _,_=>rfl
 |.str _,_=>rfl
 |.nilptr,_=>rfl
 |.ptr _ _,h=>by simp[V.free]at h
 |.nilslice,_=>rfl
 |.slice _ _ _ _ _,h=>by simp[V.free]at h
 |.empty,_=>rfl
 |.nilmap,_=>rfl
 |.map _,h=>by simp[V.free]at h
 |.nilchan,_=>rfl
 |.chan _,h=>by simp[V.free]at h
 |.func f a c,h=>by
  simp only[V.free,Ytt]at h
  simp only[V.ren,V.frees_ren a h.1,V.frees_ren c h.2]
 |.yield _,h=>by simp[V.free]at h
 |.nilfunc,_=>rfl
 |.iface t v,h=>by
  simp only[V.free]at h
  simp only[V.ren,V.free_ren v h]
 |.niliface,_=>rfl
 |.agg l,h=>by
  simp only[V.free]at h
  simp only[V.ren,V.frees_ren l h]
 |.tup l,h=>by
  simp only[V.free]at h
  simp only[V.ren,V.frees_ren l h]
def V.frees_ren{ρ:Nat→Option Nat}:∀(l:List V),V.frees l=true→V.rens ρ l=some l
 |[],_=>rfl
 |v::vs,h=>by
  simp only[V.frees,Ytt]at h
  simp only[V.rens,V.free_ren v h.1,V.frees_ren vs h.2]
end
def Zlt:Nat→T O
 |0=>.nil
 |n+1=>(Zlt n).set n .dead
def Zka:∀(n i:Nat),i<n→(Zlt n).get i=some .dead
 |0,i,h=>by omega
 |n+1,i,h=>by
  simp only[Zlt,T.get_set]
  by_cases e:i=n
  ·rw[Ys8 e]
  ·rw[Ys5 e];exact Zka n i (by omega)
def base(G:Nat):St:=⟨Zlt G,G,[]⟩
def lk:List (Nat×O)→Nat→Option O
 |[],_=>none
 |(j,o)::l,i=>match Nat.beq j i with
  |true=>some o
  |false=>lk l i
def Zec(h:T O):List (Nat×O)→T O
 |[]=>h
 |(j,o)::l=>(Zec h l).set j o
def Zce(h:T O):∀(l:List (Nat×O)) (i:Nat),(Zec h l).get i=match lk l i with|some o=>some o|none=>h.get i
 |[],i=>rfl
 |(j,o)::l,i=>by
  simp only[Zec,T.get_set,lk]
  by_cases e:i=j
  ·subst e
   rw[Ys8 rfl,Nat.beq_refl _]
  ·rw[Ys5 e]
   have:Nat.beq j i=false:=by
    cases hb:Nat.beq j i with
    |false=>rfl
    |true=>exact absurd (Ywx hb).symm e
   rw[this]
   exact Zce h l i
def Zr0:∀{l:List (Nat×O)} {i:Nat} {o:O},lk l i=some o→(i,o)∈l
 |(j,o')::l,i,o,h=>by
  simp only[lk]at h
  split at h
  ·rename_i e
   have:=Za2 e
   simp only[Ys3]at h
   subst h;subst this;exact Yt2
  ·exact Ytv _ (Zr0 h)
def Ycy:∀{l:List (Nat×O)} {i:Nat},lk l i=none→∀p∈l,p.1≠i
 |[],_,_,p,hp=>by cases hp
 |(j,o')::l,i,h,p,hp=>by
  simp only[lk]at h
  split at h
  ·cases h
  ·rename_i e
   rcases Yt1.1 hp with rfl|hp
   ·intro hc
    simp only at hc
    subst hc
    have:Nat.beq j j=true:=Nat.beq_refl _
    rw[this]at e;cases e
   ·exact Ycy h p hp
def Ylr{l:List (Nat×O)}{i:Nat}{o:O}(h:(i,o)∈l):∃o',lk l i=some o':=by
 cases hc:lk l i with
 |some o'=>exact⟨o',rfl⟩
 |none=>exact absurd rfl (Ycy hc _ h)
def Yln(i:Nat):List Nat→Bool
 |[]=>false
 |j::l=>match Nat.beq j i with
  |true=>true
  |false=>Yln i l
def Zjx{i:Nat}:∀{l:List Nat},Yln i l=true↔i∈l
 |[]=>by simp[Yln]
 |j::l=>by
  simp only[Yln]
  split
  ·rename_i e;simp[Za2 e]
  ·rename_i e
   have:i≠j:=by
    rintro rfl
    have:Nat.beq i i=true:=Nat.beq_refl _
    rw[this]at e;cases e
   simp[Zjx,this]
structure Zmg where
 f:Nat
 args:List V
 v:V
def O.tab:O→Bool
 |.cells c _ false=>V.frees c
 |_=>false
def Zq6(G:Nat):List (Nat×O)→Bool
 |[]=>true
 |(i,o)::l=>Nat.blt i G&&o.tab&&Zq6 G l
def O.tab_ren{ρ:Nat→Option Nat}{o:O}(h:o.tab=true):o.ren ρ=some o:=by
 cases o with
 |cells c e rw=>
  cases rw with
  |true=>cases h
  |false=>simp only[O.ren,V.frees_ren c h]
 |_=>cases h
def Zmq{G:Nat}:∀{l:List (Nat×O)},Zq6 G l=true→∀{i:Nat} {o:O},lk l i=some o→i<G∧o.tab=true
 |(j,o')::l,h,i,o,ho=>by
  simp only[Zq6,Ytt]at h
  simp only[lk]at ho
  split at ho
  ·rename_i e
   simp only[Ys3]at ho
   rw[←Za2 e,←ho]
   exact⟨Yvq (Yt9 h.1.1),h.1.2⟩
  ·exact Zmq h.2 ho
def Zsy(G:Nat)(tb:List (Nat×O)):St:=⟨Zec (Zlt G) tb,G,[]⟩
def Zld(S:St):List (Nat×O)→Bool
 |[]=>true
 |(i,o)::l=>match oEq (S.h.get i) o with
  |true=>Zld S l
  |false=>false
def Zkv{S:St}:∀{l:List (Nat×O)},Zld S l=true→∀p∈l,S.h.get p.1=some p.2
 |[],_,p,hp=>by cases hp
 |(i,o)::l,h,p,hp=>by
  simp only[Zld]at h
  split at h
  ·rename_i e
   rcases Yt1.1 hp with rfl|hp
   ·exact Ybw e
   ·exact Zkv h p hp
  ·cases h
def Zmg.ok(e:Zmg)(tb:List (Nat×O))(G:Nat)(call:Za1):Bool:=
 match call (.func e.f [] []) e.args (Zsy G tb)with
 |some (v,s)=>match s.w with
  |[]=>V.beq v e.v&&V.free e.v&&V.frees e.args&&Nat.ble G s.n&&Zq6 G tb
  |_=>false
 |none=>false
def Yq8(P:Program)(tb:List (Nat×O))(e:Zmg):Prop:=∀S,Zld S tb=true→Zz5 P (.func e.f [] []) e.args S e.v S
def Zmg.pure{call:Za1}(hc:Zbw P call){tb:List (Nat×O)}{e:Zmg}(h:e.ok tb P.globals.size call=true):Yq8 P tb e:=by
 unfold Zmg.ok at h
 split at h
 ·rename_i v s hcall
  split at h
  ·rename_i hw
   simp only[Ytt]at h
   obtain⟨⟨⟨⟨h1,h2⟩,h3⟩,h4⟩,h5⟩:=h
   have hv:=V.beq_eq _ _ h1
   subst hv
   intro S hpart μ w Gv xs hh hG hx
   have hpart:=Zkv hpart
   have hn:P.globals.size≤S.n:=by
    apply Yu0
    intro hlt
    obtain⟨t,ht⟩:=hh.glob S.n hlt
    have:=(hh.dom _ _ ht).1
    omega
   have F:Zoe P (fun i=>if i<P.globals.size then some i else none) (fun i=>if i<P.globals.size then some i else none) [] (Zsy P.globals.size tb) s S S:={
    dom:=fun i i' hi=>by
     split at hi
     ·rename_i hlt;simp only[Ys3]at hi;subst hi
      exact⟨hlt,by omega⟩
     ·cases hi
    inj:=fun i j i' hi hj=>by
     split at hi<;>split at hj<;>simp_all
    glob:=fun g hg=>by simp[hg]
    obj:=fun i i' hi=>by
     split at hi
     ·rename_i hlt
      simp only[Ys3]at hi;subst hi
      cases hl:lk tb i with
      |some o=>
       refine⟨o,o,?_,.inr (.inl (O.tab_ren (Zmq h5 hl).2)),.inl (hpart _ (Zr0 hl))⟩
       show (Zec (Zlt P.globals.size) tb).get i=_
       rw[Zce,hl]
      |none=>
       refine⟨.dead,.dead,?_,.inl rfl,.inr rfl⟩
       show (Zec (Zlt P.globals.size) tb).get i=_
       rw[Zce,hl]
       exact Zka _ _ hlt
     ·cases hi
    old:=fun _ _=>rfl
    new:=fun i i' hi hr=>by
     have:P.globals.size≤i:=hi
     rw[Ys5 (by omega)]at hr;cases hr
    ninj:=fun i j i' hi _ hr _=>by
     have:P.globals.size≤i:=hi
     rw[Ys5 (by omega)]at hr;cases hr
    full:=fun i' h1 h2=>by omega
    nle:=Ys6 _
    w0:=rfl
    W1:=fun i i' hi _=>by rw[hw]at hi;cases hi
    W2:=fun j hj=>by cases hj
    wl:=rfl
    keep:=fun _ _ _=>rfl
    wr:=fun i i' hi _=>by rw[hw]at hi;cases hi
    obn:=fun i i' hi hr=>by
     have:P.globals.size≤i:=hi
     rw[Ys5 (by omega)]at hr;cases hr}
   exact(Zz5.frame (hc _ _ _ _ _ hcall) F (V.free_ren _ (by rfl)) (V.frees_ren _ h3) (V.free_ren _ h2)) μ w Gv xs hh hG hx
  ·cases h
 ·cases h
def Zx4:List Zmg→Nat→List V→Option V
 |[],_,_=>none
 |e::l,f,args=>match Nat.beq e.f f with
  |true=>match V.beqs e.args args with
   |true=>some e.v
   |false=>Zx4 l f args
  |false=>Zx4 l f args
def Zx5(tb:List (Nat×O))(l:List Zmg):Za1
 |.func f [] [],args,st=>match Zx4 l f args with
  |some v=>match Zld st tb with
   |true=>some (v,st)
   |false=>none
  |none=>none
 |_,_,_=>none
def Zm6:∀{l:List Zmg} {f:Nat} {args:List V} {v:V},Zx4 l f args=some v→∃e∈l,e.f=f∧e.args=args∧e.v=v
 |[],_,_,_,h=>by cases h
 |e::l,f,args,v,h=>by
  simp only[Zx4]at h
  split at h
  ·rename_i e1
   split at h
   ·rename_i e2
    simp only[Ys3]at h
    exact⟨e,Yt2,Za2 e1,V.beqs_eq _ _ e2,h⟩
   ·obtain⟨e',h1,h2⟩:=Zm6 h;exact⟨e',Ytv _ h1,h2⟩
  ·obtain⟨e',h1,h2⟩:=Zm6 h;exact⟨e',Ytv _ h1,h2⟩
def Zv8{tb:List (Nat×O)}{l:List Zmg}(h:∀e∈l,Yq8 P tb e):Zbw P (Zx5 tb l):=by
 intro g args st v st' hc
 unfold Zx5 at hc
 split at hc
 ·rename_i f
  split at hc
  ·rename_i u hu
   split at hc
   ·rename_i hp
    simp only[Ys3,Ys7]at hc
    obtain⟨rfl,rfl⟩:=hc
    obtain⟨e,h1,rfl,rfl,rfl⟩:=Zm6 hu
    exact h e h1 st hp
   ·cases hc
  ·cases hc
 ·cases hc
structure Ent where
 f:Nat
 first:List V
 caps:List V
 args:List V
 part:List (Nat×O)
 n:Nat
 v:V
 kept:List (Nat×O)
 wrs:List (Nat×O)
def Ent.st(e:Ent)(G:Nat):St:=⟨Zec (Zlt G) e.part,e.n,[]⟩
def sig(G:Nat)(part:List (Nat×O))(i:Nat):Option Nat:=
 match Nat.blt i G with
 |true=>some i
 |false=>match lk part i with
  |some _=>some i
  |none=>none
def idx(i:Nat):List (Nat×O)→Nat→Option Nat
 |[],_=>none
 |(k,_)::l,m=>match Nat.beq k i with
  |true=>some m
  |false=>idx i l (m+1)
def rho(G:Nat)(part:List (Nat×O))(n:Nat)(kept:List (Nat×O))(i:Nat):Option Nat:=
 match Nat.blt i n with
 |true=>sig G part i
 |false=>idx i kept n
def Zgb:List (Nat×O)→Nat→List (Nat×O)
 |[],_=>[]
 |(_,o)::l,m=>(m,o)::Zgb l (m+1)
def Zyd(ρ:Nat→Option Nat)(s:St)(i:Nat)(o':O):Bool:=
 match s.h.get i with
 |some o=>match o' with
  |.dead=>true
  |o'=>oEq (o.ren ρ) o'
 |none=>false
def Zwr(ρ:Nat→Option Nat)(s:St)(n:Nat):List (Nat×O)→Nat→Bool
 |[],_=>true
 |(k,o)::l,m=>Zrn (ρ k) (some m)&&Nat.ble n k&&Nat.blt k s.n&&Zyd ρ s k o&&Zwr ρ s n l (m+1)
def Ent.chk(e:Ent)(G:Nat)(v:V)(s:St):Bool:=
 Nat.ble G e.n&&Nat.ble e.n s.n&&(e.part.all fun p=>Nat.blt p.1 e.n&&oEq (p.2.ren (sig G e.part)) p.2)&&
 Ypd (V.rens (sig G e.part) e.first) e.first&&Ypd (V.rens (sig G e.part) e.caps) e.caps&&Ypd (V.rens (sig G e.part) e.args) e.args&&
 vEq (V.ren (rho G e.part e.n e.kept) v) e.v&&
 Zwr (rho G e.part e.n e.kept) s e.n e.kept e.n&&
 (s.w.all fun i=>match sig G e.part i with|some _=>Yln i (e.wrs.map (·.1))|none=>true)&&
 (e.wrs.all fun p=>Yln p.1 s.w&&Zrn (sig G e.part p.1) (some p.1)&&Zyd (rho G e.part e.n e.kept) s p.1 p.2)
def Ent.ok(e:Ent)(G:Nat)(call:Za1):Bool:=
 match call (.func e.f e.first e.caps) e.args (e.st G)with
 |some (v,s)=>e.chk G v s
 |none=>false
def Ent.out(e:Ent)(S:St):St:=⟨Zec (Zec S.h e.wrs) (Zgb e.kept e.n),e.n+e.kept.length,e.wrs.map (·.1)++S.w⟩
def Znt(e:Ent):Za1
 |.func f a c,args,S=>match Nat.beq e.f f with
  |true=>match V.beqs e.args args&&V.beqs e.first a&&V.beqs e.caps c&&Nat.beq S.n e.n&&Zld S e.part with
   |true=>some (e.v,e.out S)
   |false=>none
  |false=>none
 |_,_,_=>none
def Zj0{i:Nat}:∀{l:List (Nat×O)} {m i':Nat},idx i l m=some i'→m≤i'∧i'<m+l.length∧∃o,l[i'-m]?=some (i,o)
 |[],m,i',h=>by cases h
 |(k,o)::l,m,i',h=>by
  simp only[idx]at h
  split at h
  ·rename_i e
   simp only[Ys3]at h;subst h
   have:=Za2 e;subst this
   exact⟨Ys6 _,by simp,o,by simp⟩
  ·obtain⟨h1,h2,o',h3⟩:=Zj0 h
   refine⟨by omega,by simp;omega,o',?_⟩
   rw[show i'-m=(i'-(m+1))+1 by omega]
   simpa using h3
def Zo5:∀{l:List (Nat×O)} {m j:Nat} {p:Nat×O},l[j]?=some p→lk (Zgb l m) (m+j)=some p.2
 |[],m,j,p,h=>by simp at h
 |(k,o)::l,m,0,p,h=>by
  simp at h;subst h
  simp[Zgb,lk]
 |(k,o)::l,m,j+1,p,h=>by
  simp only[Zgb,lk]
  have:Nat.beq m (m+(j+1))=false:=by
   cases hb:Nat.beq m (m+(j+1))with
   |false=>rfl
   |true=>have:=Za2 hb;omega
  rw[this,show m+(j+1)=(m+1)+j by omega]
  exact Zo5 (by simpa using h)
def Zle:∀{l:List (Nat×O)} {m i:Nat},i<m→lk (Zgb l m) i=none
 |[],_,_,_=>rfl
 |(k,o)::l,m,i,h=>by
  simp only[Zgb,lk]
  have:Nat.beq m i=false:=by
   cases hb:Nat.beq m i with
   |false=>rfl
   |true=>have:=Za2 hb;omega
  rw[this]
  exact Zle (by omega)
def Zpa{ρ:Nat→Option Nat}{s:St}{n:Nat}:∀{l:List (Nat×O)} {m:Nat},Zwr ρ s n l m=true→∀{j:Nat} {p:Nat×O},l[j]?=some p→ρ p.1=some (m+j)∧n≤p.1∧p.1<s.n∧Zyd ρ s p.1 p.2=true
 |[],m,_,j,p,h=>by simp at h
 |(k,o)::l,m,h,j,p,hj=>by
  simp only[Zwr,Ytt]at h
  obtain⟨⟨⟨⟨h1,h2⟩,h3⟩,h4⟩,h5⟩:=h
  cases j with
  |zero=>
   simp at hj;subst hj
   exact⟨Znf h1,Yt9 h2,Yvq (Yt9 h3),h4⟩
  |succ j=>
   obtain⟨q1,q2⟩:=Zpa h5 (j:=j) (by simpa using hj)
   exact⟨by rw[q1];congr 1;omega,q2⟩
def Zo4{ρ:Nat→Option Nat}{s:St}{o':O}(h:Zyd ρ s i o'=true):∃o,s.h.get i=some o∧(o'=.dead∨o.ren ρ=some o'):=by
 unfold Zyd at h
 split at h
 ·rename_i o ho
  refine⟨o,ho,?_⟩
  split at h
  ·exact .inl rfl
  ·exact .inr (Ybw h)
 ·cases h
def Zhr{part:List (Nat×O)}{i':Nat}(h:sig G part i=some i'):i'=i∧(i<G∨∃o,lk part i=some o):=by
 unfold sig at h
 split at h
 ·rename_i e
  simp only[Ys3]at h
  exact⟨h.symm,.inl (Yvq (Yt9 e))⟩
 ·split at h
  ·rename_i o ho
   simp only[Ys3]at h
   exact⟨h.symm,.inr ⟨o,ho⟩⟩
  ·cases h
def Zzq{call:Za1}(hcall:Zbw P call){e:Ent}(h:e.ok P.globals.size call=true):Zbw P (Znt e):=by
 intro g args S v S' hc
 unfold Znt at hc
 split at hc
 ·rename_i f a c
  split at hc
  ·rename_i hf
   have hf:=Za2 hf
   subst hf
   split at hc
   ·rename_i hcond
    simp only[Ytt]at hcond
    obtain⟨⟨⟨⟨c1,c2⟩,c3⟩,c4⟩,c5⟩:=hcond
    have c1:=V.beqs_eq _ _ c1
    have c2:=V.beqs_eq _ _ c2
    have c3:=V.beqs_eq _ _ c3
    have c4:=Za2 c4
    have c5:=Zkv c5
    simp only[Ys3,Ys7]at hc
    obtain⟨rfl,rfl⟩:=hc
    subst c1;subst c2;subst c3
    unfold Ent.ok at h
    split at h
    ·rename_i v0 s hrun
     unfold Ent.chk at h
     simp only[Ytt,Yt8]at h
     obtain⟨⟨⟨⟨⟨⟨⟨⟨⟨k1,k2⟩,k3⟩,k4⟩,k5⟩,k6⟩,k7⟩,k8⟩,k9⟩,k10⟩:=h
     have k1:=Yt9 k1
     have k2:=Yt9 k2
     have hpart:∀i o,lk e.part i=some o→i<e.n∧o.ren (sig P.globals.size e.part)=some o∧S.h.get i=some o:=fun i o ho=>by
      have hm:=Zr0 ho
      obtain⟨q1,q2⟩:=k3 _ hm
      exact⟨Yvq (Yt9 q1),Ybw q2,c5 _ hm⟩
     have hρn:∀i,e.n≤i→rho P.globals.size e.part e.n e.kept i=idx i e.kept e.n:=fun i hi=>by
      unfold rho
      have:Nat.blt i e.n=false:=by
       cases hb:Nat.blt i e.n with
       |false=>rfl
       |true=>have:=Yvq (Yt9 hb);omega
      rw[this]
     have hkept:∀j p,e.kept[j]?=some p→rho P.globals.size e.part e.n e.kept p.1=some (e.n+j)∧e.n≤p.1∧p.1<s.n∧Zyd (rho P.globals.size e.part e.n e.kept) s p.1 p.2=true:=fun j p hj=>Zpa k8 hj
     have hlkn:∀j,j<e.n→(e.out S).h.get j=match lk e.wrs j with|some o=>some o|none=>S.h.get j:=fun j hj=>by
      show (Zec (Zec S.h e.wrs) (Zgb e.kept e.n)).get j=_
      rw[Zce,Zle hj,Zce]
     have F:Zoe P (sig P.globals.size e.part) (rho P.globals.size e.part e.n e.kept) (e.wrs.map (·.1)) (e.st P.globals.size) s S (e.out S):={
      dom:=fun i i' hi=>by
       obtain⟨rfl,hor⟩:=Zhr hi
       have:i'<e.n:=by
        rcases hor with h|⟨o,ho⟩
        ·omega
        ·exact(hpart _ _ ho).1
       exact⟨this,by omega⟩
      inj:=fun i j i' hi hj=>by rw[←(Zhr hi).1,←(Zhr hj).1]
      glob:=fun g hg=>by
       unfold sig
       have:Nat.blt g P.globals.size=true:=Ywz hg
       rw[this]
      obj:=fun i i' hi=>by
       obtain⟨rfl,hor⟩:=Zhr hi
       cases hl:lk e.part i' with
       |some o=>
        obtain⟨q1,q2,q3⟩:=hpart _ _ hl
        refine⟨o,o,?_,.inr (.inl q2),.inl q3⟩
        show (Zec (Zlt P.globals.size) e.part).get i'=_
        rw[Zce,hl]
       |none=>
        have hg:i'<P.globals.size:=by
         rcases hor with h|⟨o,ho⟩
         ·exact h
         ·rw[hl]at ho;cases ho
        refine⟨.dead,.dead,?_,.inl rfl,.inr rfl⟩
        show (Zec (Zlt P.globals.size) e.part).get i'=_
        rw[Zce,hl]
        exact Zka _ _ hg
      old:=fun i hi=>by
       have:Nat.blt i e.n=true:=Ywz hi
       unfold rho;rw[this]
      new:=fun i i' hi hr=>by
       rw[hρn i hi]at hr
       obtain⟨q1,q2,o,q3⟩:=Zj0 hr
       obtain⟨_,_,r3,_⟩:=hkept _ _ q3
       exact⟨by omega,q2,r3⟩
      ninj:=fun i j i' hi hj hri hrj=>by
       rw[hρn i hi]at hri
       rw[hρn j hj]at hrj
       obtain⟨_,_,o,q3⟩:=Zj0 hri
       obtain⟨_,_,o',q3'⟩:=Zj0 hrj
       rw[q3]at q3'
       cases q3';rfl
      full:=fun i' h1 h2=>by
       have h2':i'<e.n+e.kept.length:=h2
       obtain⟨p,hp⟩:∃p,e.kept[i'-e.n]?=some p:=⟨_,Yta (by omega)⟩
       obtain⟨r1,r2,_,_⟩:=hkept _ _ hp
       exact⟨p.1,r2,by rw[r1];congr 1;omega⟩
      nle:=by show S.n≤e.n+e.kept.length;omega
      w0:=rfl
      W1:=fun i i' hi hs=>by
       obtain⟨rfl,_⟩:=Zhr hs
       have:=k9 _ hi
       rw[hs]at this
       exact Zjx.1 this
      W2:=fun j hj=>by
       obtain⟨p,hp,rfl⟩:=Yup.1 hj
       obtain⟨⟨q1,q2⟩,_⟩:=k10 _ hp
       exact⟨p.1,Zjx.1 q1,Znf q2⟩
      wl:=rfl
      keep:=fun j hj hn=>by
       rw[hlkn j (by omega)]
       cases hl:lk e.wrs j with
       |none=>rfl
       |some o=>exact absurd (Yup.2 ⟨_,Zr0 hl,rfl⟩) hn
      wr:=fun i i' hi hs=>by
       obtain⟨rfl,hor⟩:=Zhr hs
       have hlt:i'<e.n:=by
        rcases hor with h|⟨o,ho⟩
        ·omega
        ·exact(hpart _ _ ho).1
       have:=k9 _ hi
       rw[hs]at this
       obtain⟨p,hp,hpe⟩:=Yup.1 (Zjx.1 this)
       obtain⟨o',ho'⟩:=Ylr (l:=e.wrs) (i:=i') (o:=p.2) (by rw[←hpe];exact hp)
       obtain⟨_,q3⟩:=k10 _ (Zr0 ho')
       obtain⟨o,r1,r2⟩:=Zo4 q3
       exact⟨o,o',r1,by rw[hlkn _ hlt,ho'],r2⟩
      obn:=fun i i' hi hr=>by
       rw[hρn i hi]at hr
       obtain⟨q1,q2,o,q3⟩:=Zj0 hr
       obtain⟨_,_,_,r4⟩:=hkept _ _ q3
       obtain⟨o2,t1,t2⟩:=Zo4 r4
       refine⟨o2,o,t1,?_,t2⟩
       show (Zec (Zec S.h e.wrs) (Zgb e.kept e.n)).get i'=_
       have:=Zo5 (m:=e.n) q3
       rw[show e.n+(i'-e.n)=i' by omega]at this
       rw[Zce,this]}
     refine Zz5.frame (hcall _ _ _ _ _ hrun) F ?_ (Zs9 k6) (Yne k7)
     simp only[V.ren,Zs9 k4,Zs9 k5]
    ·cases h
   ·cases hc
  ·cases hc
 ·cases hc
def Zgq(x:Za1)(tbl:Nat→Option Zei)(fuel:Nat):Nat→Za1
 |0=>x
 |d+1=>Zee x (Zcr tbl (Zbd (Zgq x tbl fuel d) fuel))
def Zjy{P:Program}{tbl:Nat→Option Zei}(hm:P.follows .mixedOrders=true)(hE:Zem P)(ht:Zvh P tbl){x:Za1}(hx:Zbw P x)(fuel:Nat):∀d,Zbw P (Zgq x tbl fuel d)
 |0=>hx
 |d+1=>by
  have ih:=Zjy hm hE ht hx fuel d
  exact hx.or (Zu7 ht (Yea ih hE (Ydt hm hE ih) (Yiq ih hE) (Zv2 ih) fuel))
def Yhk:List Ent→Nat→List V→List V→List V→St→Option (V×St)
 |[],_,_,_,_,_=>none
 |e::l,f,a,c,args,S=>match Nat.beq e.f f with
  |true=>match Znt e (.func f a c) args S with
   |some r=>some r
   |none=>Yhk l f a c args S
  |false=>Yhk l f a c args S
def Ymb(l:List Ent):Za1
 |.func f a c,args,S=>Yhk l f a c args S
 |_,_,_=>none
def Yhl{l:List Ent}(h:∀e∈l,Zbw P (Znt e)):Zbw P (Ymb l):=by
 intro g args S v S' hc
 unfold Ymb at hc
 split at hc
 ·rename_i f a c
  induction l with
  |nil=>cases hc
  |cons e l ih=>
   simp only[Yhk]at hc
   split at hc
   ·split at hc
    ·rename_i r hr
     cases hc
     exact h e Yt2 _ _ _ _ _ hr
    ·exact ih (fun e he=>h e (Ytv _ he)) hc
   ·exact ih (fun e he=>h e (Ytv _ he)) hc
 ·cases hc
def Zz9(tb:List (Nat×O))(L:List Zmg)(E:List Ent):Za1:=Zee (Zx5 tb L) (Ymb E)
structure Zbk (P:Program) (tb:List (Nat×O)) (L:List Zmg) (E:List Ent):Prop where
 p:∀e∈L,Yq8 P tb e
 e:∀e∈E,Zbw P (Znt e)
def Zbk.call{tb:List (Nat×O)}{L:List Zmg}{E:List Ent}(h:Zbk P tb L E):Zbw P (Zz9 tb L E):=(Zv8 h.p).or (Yhl h.e)
def Zbk.nil{tb:List (Nat×O)}:Zbk P tb [] []:=⟨fun _ h=>(by cases h),fun _ h=>(by cases h)⟩
structure Zln (P:Program) (tbl:Nat→Option Zei) (G:Nat):Prop where
 m:P.follows .mixedOrders=true
 e:Zem P
 t:Zvh P tbl
 g:P.globals.size=G
def Zbk.addP{tbl:Nat→Option Zei}{fuel d:Nat}(hP:Zln P tbl G){tb:List (Nat×O)}{L:List Zmg}{E:List Ent}(h:Zbk P tb L E){e:Zmg}(he:e.ok tb G (Zgq (Zz9 tb L E) tbl fuel d)=true):Zbk P tb (e::L) E:=
 ⟨fun e' hm=>by
  rcases Yt1.1 hm with rfl|hm
  ·exact Zmg.pure (Zjy hP.m hP.e hP.t h.call fuel d) (by rw[hP.g];exact he)
  ·exact h.p e' hm,h.e⟩
def Zbk.addE{tbl:Nat→Option Zei}{fuel d:Nat}(hP:Zln P tbl G){tb:List (Nat×O)}{L:List Zmg}{E:List Ent}(h:Zbk P tb L E){e:Ent}(he:e.ok G (Zgq (Zz9 tb L E) tbl fuel d)=true):Zbk P tb L (e::E):=
 ⟨h.p,fun e' hm=>by
  rcases Yt1.1 hm with rfl|hm
  ·exact Zzq (Zjy hP.m hP.e hP.t h.call fuel d) (by rw[hP.g];exact he)
  ·exact h.e e' hm⟩
def Yi6(tb:List (Nat×O))(G:Nat)(tbl:Nat→Option Zei)(L:List Zmg)(E:List Ent):Bool:=match L with
 |[]=>false
 |e::t=>e.ok tb G (Zgq (Zz9 tb t E) tbl 5000 40)
def Ydg(tb:List (Nat×O))(G:Nat)(tbl:Nat→Option Zei)(L:List Zmg)(E:List Ent):Bool:=match E with
 |[]=>false
 |e::t=>e.ok G (Zgq (Zz9 tb L t) tbl 5000 40)
def Zbk.p1{P:Program}{tbl:Nat→Option Zei}{G:Nat}(hP:Zln P tbl G){tb:List (Nat×O)}{L:List Zmg}{E:List Ent}(h:Zbk P tb L.tail E)(he:Yi6 tb G tbl L E=true):Zbk P tb L E:=by
 cases L with
 |nil=>exact h
 |cons e t=>exact Zbk.addP hP h he
def Zbk.e1{P:Program}{tbl:Nat→Option Zei}{G:Nat}(hP:Zln P tbl G){tb:List (Nat×O)}{L:List Zmg}{E:List Ent}(h:Zbk P tb L E.tail)(he:Ydg tb G tbl L E=true):Zbk P tb L E:=by
 cases E with
 |nil=>exact h
 |cons e t=>exact Zbk.addE hP h he
section
variable {call:Za1} {f:Nat} {ro:Option Nat} {a b c:Zav} {fr:Fr} {st:St}
end
def Yn6{a b:Nat}:Nat.blt a b=decide (a<b):=by
 cases h:Nat.blt a b
 ·symm;simp only[decide_eq_false_iff_not];intro hc;rw[show Nat.blt a b=true from Ywz hc]at h;cases h
 ·symm;simp only[decide_eq_true_eq];exact Yvq (Yt9 h)
def Yn7{a b:Nat}:Nat.ble a b=decide (a≤b):=by
 cases h:Nat.ble a b
 ·symm;simp only[decide_eq_false_iff_not];intro hc;rw[Ywz hc]at h;cases h
 ·symm;simp only[decide_eq_true_eq];exact Yt9 h
def Zaj{n:Int}(h1: -9223372036854775808≤n)(h2:n<9223372036854775808):Zaq .i64 n=n:=by
 rw[Zdh]
 simp[IntKind.wrap,IntKind.bits,IntKind.signed]
 omega
def Zzg{k a b}:Zdq .add k a b=some (.int k (Zaq k (a+b))):=rfl
def Zy5{k a b}:Zdq .sub k a b=some (.int k (Zaq k (a-b))):=rfl
def Zza{k a b}:Zdq .mul k a b=some (.int k (Zaq k (a*b))):=rfl
def Zy8{k a b}(h:¬b=0):Zdq .quo k a b=some (.int k (Zaq k (a.tdiv b))):=by simp[Zdq,h]
def Zy7{k a b}(h:¬b=0):Zdq .rem k a b=some (.int k (a.tmod b)):=by simp[Zdq,h]
def Zzf{k a b}:Zdq .eql k a b=some (.bool (a==b)):=rfl
def Zy9{k a b}:Zdq .neq k a b=some (.bool (a !=b)):=rfl
def Zzb{k a b}:Zdq .lss k a b=some (.bool (decide (a<b))):=rfl
def Zzc{k a b}:Zdq .leq k a b=some (.bool (decide (a≤b))):=rfl
def Zzd{k a b}:Zdq .gtr k a b=some (.bool (decide (a > b))):=rfl
def Zze{k a b}:Zdq .geq k a b=some (.bool (decide (a≥b))):=rfl
def Yle(x):mop (.mov x)=Zna x:=rfl
def Ygk(a b c):mop (.pick a b c)=Zg1 a b c:=rfl
def Ycf(a b):mop (.alloc a b)=Zhx a b:=rfl
def Yli(a b):mop (.box a b)=Znd a b:=rfl
def Yce(a b):mop (.build a b)=Zeq a b:=rfl
def Zyp(a b c d e):mop (.bslice a b c d e)=Ze0 a b c d e:=rfl
def Ygl(a b):mop (.load a b)=Zio a b:=rfl
def Yb6(a b c):mop (.store a b c)=Ze7 a b c:=rfl
def Yb8(a):mop (.nilck a)=Zf7 a:=rfl
def Ylj(a b c d e):mop (.bin a b c d e)=Zne a b c d e:=rfl
def Yn9(a b):mop (.un a b)=Ztz a b:=rfl
def Zum(a b):mop (.convInt a b)=Zd1 a b:=rfl
def Zyi(a b c):mop (.mkfunc a b c)=Zey a b c:=rfl
def Ycb(a b):mop (.faddr a b)=Zf9 a b:=rfl
def Yca(a b c):mop (.field a b c)=Zf8 a b c:=rfl
def Zrv(a b c d):mop (.iaddrArr a b c d)=Zb9 a b c d:=rfl
def Zuj(a b c):mop (.iaddrSl a b c)=Zde a b c:=rfl
def Zuk(a b):mop (.extract a b)=Zd0 a b:=rfl
def Ylf(a b):mop (.len a b)=Zfh a b:=rfl
def Ygn(a b):mop (.call a b)=Zek a b:=rfl
structure Ypc (r:Option (V×St)) (v:V):Prop where
 ex:∃s,r=some (v,s)∧s.w=[]
def Zzk{u v:V}{s:St}:Ypc (some (u,s)) v↔u=v∧s.w=[]:=
 ⟨fun ⟨_,h1,h2⟩=>by simp only[Ys3,Ys7]at h1;exact⟨h1.1,h1.2▸h2⟩,fun ⟨h1,h2⟩=>⟨s,by rw[h1],h2⟩⟩
attribute [simp]
 Yle Ygk Ycf Yli Yce Zyp Ygl Yb6 Yb8 Ylj Yn9 Zum Zyi Ycb Yca Zrv Zuj Zuk Ylf Ygn
 Zna Zg1 Zhx Znd Zeq Ze0 Zio Zf7 Zne Ztz Zd1 Zey Zf9 Zf8 Zb9 Zd0 Zek
 Zej wantedV Src.ev T.get_set resV Zrd Zac Yq4 Zzg Zy5 Zza Zy8 Zy7 Zzf Zy9 Zzb Zzc Zzd Zze Zbe unV Zh5 evOpt Zfb Zoi Zal V.cells V.one St.alloc St.write St.row Zaj Yn6 Yn7 Zg6 Zcs MOp.silent Zwo apartOk Zan Zan.go Zan.chk FP.free Zqc Nat.testBit Zzk base
end Go.Mx

