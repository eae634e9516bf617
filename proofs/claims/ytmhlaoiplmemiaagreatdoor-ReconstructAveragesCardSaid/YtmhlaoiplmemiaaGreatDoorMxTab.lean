/-Calls that are known-/
import Derived.Test.YtmhlaoiplmemiaaGreatDoorMxDraw2
import Derived.Test.YtmhlaoiplmemiaaGreatDoorMxFrame
import Derived.Below
import Derived.CallsIn
set_option linter.all false
namespace Go.Mx
open Go
variable {G i:Nat} {P:Program}
def Zs2:Bool→Bool→Bool
 |true,b=>b
 |false,true=>false
 |false,false=>true
def Yhu:IntKind→Nat
 |.i8=>0|.i16=>1|.i32=>2|.i64=>3|.u8=>4|.u16=>5|.u32=>6|.u64=>7
def Ymr:Int→Int→Bool
 |.ofNat a,b=>match b with
  |.ofNat b=>Nat.beq a b
  |.negSucc _=>false
 |.negSucc a,b=>match b with
  |.ofNat _=>false
  |.negSucc b=>Nat.beq a b
def Ztq:List UInt8→List UInt8→Bool
 |[],l=>match l with
  |[]=>true
  |_::_=>false
 |a::xs,l=>match l with
  |[]=>false
  |b::ys=>match Nat.beq a.toNat b.toNat with
   |true=>Ztq xs ys
   |false=>false
def Zrx:Option Nat→Option Nat→Bool
 |none,b=>match b with
  |none=>true
  |some _=>false
 |some a,b=>match b with
  |none=>false
  |some b=>Nat.beq a b
def Zob{a b:Bool}(h:Zs2 a b=true):a=b:=by cases a<;>cases b<;>simp_all [Zs2]
def Za2{a b:Nat}(h:Nat.beq a b=true):a=b:=Yyh h
def Ymt{a b:IntKind}(h:Nat.beq (Yhu a) (Yhu b)=true):a=b:=by cases a<;>cases b<;>first|rfl|(exact absurd h (by decide))
def Yhs{a b:Int}(h:Ymr a b=true):a=b:=by
 cases a<;>cases b<;>simp only[Ymr,Yu5]at h
 ·rw[Za2 h]
 ·rw[Za2 h]
def Zp2:∀{a b:List UInt8},Ztq a b=true→a=b
 |[],[],_=>rfl
 |[],_::_,h=>by simp[Ztq]at h
 |_::_,[],h=>by simp[Ztq]at h
 |a::xs,b::ys,h=>by
  simp only[Ztq]at h
  split at h
  ·rename_i e
   rw[Zp2 h,UInt8.toNat_inj.1 (Za2 e)]
  ·cases h
def Zne{a b:Option Nat}(h:Zrx a b=true):a=b:=by
 cases a<;>cases b<;>simp only[Zrx,Yu5]at h
 ·rfl
 ·rw[Za2 h]
def Yh0:FloatKind→Nat
 |.f32=>0|.f64=>1
def Ym0{a b:FloatKind}(h:Nat.beq (Yh0 a) (Yh0 b)=true):a=b:=by cases a<;>cases b<;>first|rfl|(exact absurd h (by decide))
def V.isBool(x:Bool):V→Bool|.bool y=>Zs2 x y|_=>false
def V.isInt(k:IntKind)(n:Int):V→Bool|.int k' n'=>(match Nat.beq (Yhu k) (Yhu k')with|true=>Ymr n n'|false=>false)|_=>false
def V.isFlt(k:FloatKind)(n:Nat):V→Bool|.flt k' n'=>(match Nat.beq (Yh0 k) (Yh0 k')with|true=>Nat.beq n n'|false=>false)|_=>false
def V.isStr(s:List UInt8):V→Bool|.str t=>Ztq s t|_=>false
def V.isNilptr:V→Bool|.nilptr=>true|_=>false
def V.isPtr(i o:Nat):V→Bool|.ptr i' o'=>(match Nat.beq i i' with|true=>Nat.beq o o'|false=>false)|_=>false
def V.isNilslice:V→Bool|.nilslice=>true|_=>false
def V.isSlice(i o l:Nat)(c:Option Nat)(z:Nat):V→Bool|.slice i' o' l' c' z'=>Nat.beq i i'&&Nat.beq o o'&&Nat.beq l l'&&Zrx c c'&&Nat.beq z z'|_=>false
def V.isEmpty:V→Bool|.empty=>true|_=>false
def V.isNilmap:V→Bool|.nilmap=>true|_=>false
def V.isMap(i:Nat):V→Bool|.map j=>Nat.beq i j|_=>false
def V.isNilchan:V→Bool|.nilchan=>true|_=>false
def V.isChan(i:Nat):V→Bool|.chan j=>Nat.beq i j|_=>false
def V.isYield(i:Nat):V→Bool|.yield j=>Nat.beq i j|_=>false
def V.isNilfunc:V→Bool|.nilfunc=>true|_=>false
def V.isNiliface:V→Bool|.niliface=>true|_=>false
mutual
def V.beq:V→V→Bool
 |.bool x,b=>b.isBool x
 |.int k n,b=>b.isInt k n
 |.flt k n,b=>b.isFlt k n
 |.str s,b=>b.isStr s
 |.nilptr,b=>b.isNilptr
 |.ptr i o,b=>b.isPtr i o
 |.nilslice,b=>b.isNilslice
 |.slice i o l c z,b=>b.isSlice i o l c z
 |.empty,b=>b.isEmpty
 |.nilmap,b=>b.isNilmap
 |.map i,b=>b.isMap i
 |.nilchan,b=>b.isNilchan
 |.chan i,b=>b.isChan i
 |.func f a c,b=>match b with
  |.func f' a' c'=>Nat.beq f f'&&V.beqs a a'&&V.beqs c c'
  |_=>false
 |.yield i,b=>b.isYield i
 |.nilfunc,b=>b.isNilfunc
 |.iface t v,b=>match b with
  |.iface t' v'=>Nat.beq t t'&&V.beq v v'
  |_=>false
 |.niliface,b=>b.isNiliface
 |.agg l,b=>match b with
  |.agg l'=>V.beqs l l'
  |_=>false
 |.tup l,b=>match b with
  |.tup l'=>V.beqs l l'
  |_=>false
def V.beqs:List V→List V→Bool
 |[],l=>match l with
  |[]=>true
  |_::_=>false
 |a::xs,l=>match l with
  |[]=>false
  |b::ys=>match V.beq a b with
   |true=>V.beqs xs ys
   |false=>false
end
mutual
def V.beq_eq:∀(a b:V),V.beq a b=true→a=b
 |.bool x,b,h=>by cases b<;>simp only[V.beq,V.isBool,Yu5]at h;rw[Zob h]
 |.int k n,b,h=>by
  cases b<;>simp only[V.beq,V.isInt,Yu5]at h
  split at h
  ·rename_i e;rw[Ymt e,Yhs h]
  ·cases h
 |.flt k n,b,h=>by
  cases b<;>simp only[V.beq,V.isFlt,Yu5]at h
  split at h
  ·rename_i e;rw[Ym0 e,Za2 h]
  ·cases h
 |.str s,b,h=>by cases b<;>simp only[V.beq,V.isStr,Yu5]at h;rw[Zp2 h]
 |.nilptr,b,h=>by cases b<;>simp only[V.beq,V.isNilptr,Yu5]at h;rfl
 |.ptr i o,b,h=>by
  cases b<;>simp only[V.beq,V.isPtr,Yu5]at h
  split at h
  ·rename_i e;rw[Za2 e,Za2 h]
  ·cases h
 |.nilslice,b,h=>by cases b<;>simp only[V.beq,V.isNilslice,Yu5]at h;rfl
 |.slice i o l c z,b,h=>by
  cases b<;>simp only[V.beq,V.isSlice,Yu5,Yu4]at h
  obtain⟨⟨⟨⟨h1,h2⟩,h3⟩,h4⟩,h5⟩:=h
  rw[Za2 h1,Za2 h2,Za2 h3,Zne h4,Za2 h5]
 |.empty,b,h=>by cases b<;>simp only[V.beq,V.isEmpty,Yu5]at h;rfl
 |.nilmap,b,h=>by cases b<;>simp only[V.beq,V.isNilmap,Yu5]at h;rfl
 |.map i,b,h=>by cases b<;>simp only[V.beq,V.isMap,Yu5]at h;rw[Za2 h]
 |.nilchan,b,h=>by cases b<;>simp only[V.beq,V.isNilchan,Yu5]at h;rfl
 |.chan i,b,h=>by cases b<;>simp only[V.beq,V.isChan,Yu5]at h;rw[Za2 h]
 |.func f a c,b,h=>by
  cases b<;>simp only[V.beq,Yu5,Yu4]at h
  obtain⟨⟨h1,h2⟩,h3⟩:=h
  rw[Za2 h1,V.beqs_eq _ _ h2,V.beqs_eq _ _ h3]
 |.yield i,b,h=>by cases b<;>simp only[V.beq,V.isYield,Yu5]at h;rw[Za2 h]
 |.nilfunc,b,h=>by cases b<;>simp only[V.beq,V.isNilfunc,Yu5]at h;rfl
 |.iface t v,b,h=>by
  cases b<;>simp only[V.beq,Yu5,Yu4]at h
  rw[Za2 h.1,V.beq_eq _ _ h.2]
 |.niliface,b,h=>by cases b<;>simp only[V.beq,V.isNiliface,Yu5]at h;rfl
 |.agg l,b,h=>by cases b<;>simp only[V.beq,Yu5]at h;rw[V.beqs_eq _ _ h]
 |.tup l,b,h=>by cases b<;>simp only[V.beq,Yu5]at h;rw[V.beqs_eq _ _ h]
def V.beqs_eq:∀(a b:List V),V.beqs a b=true→a=b
 |[],[],_=>rfl
 |[],_::_,h=>by simp[V.beqs]at h
 |_::_,[],h=>by simp[V.beqs]at h
 |a::xs,b::ys,h=>by
  simp only[V.beqs]at h
  split at h
  ·rename_i e;rw[V.beq_eq a b e,V.beqs_eq xs ys h]
  ·cases h
end
def Yok:List (V×V)→List (V×V)→Bool
 |[],l=>match l with
  |[]=>true
  |_::_=>false
 |(k,v)::xs,l=>match l with
  |[]=>false
  |(k',v')::ys=>V.beq k k'&&V.beq v v'&&Yok xs ys
def Ydx:∀{a b:List (V×V)},Yok a b=true→a=b
 |[],[],_=>rfl
 |[],_::_,h=>by simp[Yok]at h
 |_::_,[],h=>by simp[Yok]at h
 |(k,v)::xs,(k',v')::ys,h=>by
  simp only[Yok,Yu4]at h
  rw[V.beq_eq _ _ h.1.1,V.beq_eq _ _ h.1.2,Ydx h.2]
def O.beq:O→O→Bool
 |.cells c e rw,b=>match b with
  |.cells c' e' rw'=>Nat.beq e e'&&Zs2 rw rw'&&V.beqs c c'
  |_=>false
 |.map es,b=>match b with
  |.map es'=>Yok es es'
  |_=>false
 |.chan cap buf,b=>match b with
  |.chan cap' buf'=>Nat.beq cap cap'&&V.beqs buf buf'
  |_=>false
 |.siter s pos,b=>match b with
  |.siter s' pos'=>Ztq s s'&&Nat.beq pos pos'
  |_=>false
 |.defs o,b=>match b with
  |.defs o'=>Zs2 o o'
  |_=>false
 |.loop _,_=>false
 |.dead,b=>match b with
  |.dead=>true
  |_=>false
def O.beq_eq{a b:O}(h:O.beq a b=true):a=b:=by
 cases a<;>simp only[O.beq,Yu5]at h<;>cases b<;>simp only[Yu5,Yu4]at h
 ·obtain⟨⟨h1,h2⟩,h3⟩:=h;rw[Za2 h1,Zob h2,V.beqs_eq _ _ h3]
 ·rw[Ydx h]
 ·rw[Za2 h.1,V.beqs_eq _ _ h.2]
 ·rw[Zp2 h.1,Za2 h.2]
 ·rw[Zob h]
 ·rfl
def oEq:Option O→O→Bool
 |some a,b=>O.beq a b
 |none,_=>false
def Yb6{a:Option O}{b:O}(h:oEq a b=true):a=some b:=by
 cases a with
 |none=>cases h
 |some a=>rw[O.beq_eq h]
def vEq:Option V→V→Bool
 |some a,b=>V.beq a b
 |none,_=>false
def Yot{a:Option V}{b:V}(h:vEq a b=true):a=some b:=by
 cases a with
 |none=>cases h
 |some a=>rw[V.beq_eq _ _ h]
def Yqw:Option (List V)→List V→Bool
 |some a,b=>V.beqs a b
 |none,_=>false
def Ztg{a:Option (List V)}{b:List V}(h:Yqw a b=true):a=some b:=by
 cases a with
 |none=>cases h
 |some a=>rw[V.beqs_eq _ _ h]
mutual
def V.free:V→Bool
 |.ptr ..|.slice ..|.map _|.chan _|.yield _=>false
 |.func _ a c=>V.frees a&&V.frees c
 |.iface _ v=>V.free v
 |.agg l=>V.frees l
 |.tup l=>V.frees l
 |_=>true
def V.frees:List V→Bool
 |[]=>true
 |v::vs=>V.free v&&V.frees vs
end
mutual
def V.free_ren{ρ:Nat→Option Nat}:∀(v:V),V.free v=true→V.ren ρ v=some v
 |.bool _,_=>rfl
 |.int _ _,_=>rfl
 |.flt _ _,_=>rfl
 |.str _,_=>rfl
 |.nilptr,_=>rfl
 |.ptr _ _,h=>by simp[V.free]at h
 |.nilslice,_=>rfl
 |.slice _ _ _ _ _,h=>by simp[V.free]at h
 |.empty,_=>rfl
 |.nilmap,_=>rfl
 |.map _,h=>by simp[V.free]at h
 |.nilchan,_=>rfl
 |.chan _,h=>by simp[V.free]at h
 |.func f a c,h=>by
  simp only[V.free,Yu4]at h
  simp only[V.ren,V.frees_ren a h.1,V.frees_ren c h.2]
 |.yield _,h=>by simp[V.free]at h
 |.nilfunc,_=>rfl
 |.iface t v,h=>by
  simp only[V.free]at h
  simp only[V.ren,V.free_ren v h]
 |.niliface,_=>rfl
 |.agg l,h=>by
  simp only[V.free]at h
  simp only[V.ren,V.frees_ren l h]
 |.tup l,h=>by
  simp only[V.free]at h
  simp only[V.ren,V.frees_ren l h]
def V.frees_ren{ρ:Nat→Option Nat}:∀(l:List V),V.frees l=true→V.rens ρ l=some l
 |[],_=>rfl
 |v::vs,h=>by
  simp only[V.frees,Yu4]at h
  simp only[V.rens,V.free_ren v h.1,V.frees_ren vs h.2]
end
def Zlw:Nat→T O
 |0=>.nil
 |n+1=>(Zlw n).set n .dead
def Zkf:∀(n i:Nat),i<n→(Zlw n).get i=some .dead
 |0,i,h=>by omega
 |n+1,i,h=>by
  simp only[Zlw,T.get_set]
  by_cases e:i=n
  ·rw[Yuu e]
  ·rw[Yur e];exact Zkf n i (by omega)
def base(G:Nat):St:=⟨Zlw G,G,[]⟩
def lk:List (Nat×O)→Nat→Option O
 |[],_=>none
 |(j,o)::l,i=>match Nat.beq j i with
  |true=>some o
  |false=>lk l i
def Zef(h:T O):List (Nat×O)→T O
 |[]=>h
 |(j,o)::l=>(Zef h l).set j o
def Zcf(h:T O):∀(l:List (Nat×O)) (i:Nat),(Zef h l).get i=match lk l i with|some o=>some o|none=>h.get i
 |[],i=>rfl
 |(j,o)::l,i=>by
  simp only[Zef,T.get_set,lk]
  by_cases e:i=j
  ·subst e
   rw[Yuu rfl,Nat.beq_refl _]
  ·rw[Yur e]
   have:Nat.beq j i=false:=by
    cases hb:Nat.beq j i with
    |false=>rfl
    |true=>exact absurd (Yyh hb).symm e
   rw[this]
   exact Zcf h l i
def Zsa:∀{l:List (Nat×O)} {i:Nat} {o:O},lk l i=some o→(i,o)∈l
 |(j,o')::l,i,o,h=>by
  simp only[lk]at h
  split at h
  ·rename_i e
   have:=Za2 e
   simp only[Yup]at h
   subst h;subst this;exact Yvg
  ·exact Yu1 _ (Zsa h)
def Yc2:∀{l:List (Nat×O)} {i:Nat},lk l i=none→∀p∈l,p.1≠i
 |[],_,_,p,hp=>by cases hp
 |(j,o')::l,i,h,p,hp=>by
  simp only[lk]at h
  split at h
  ·cases h
  ·rename_i e
   rcases Yvt.1 hp with rfl|hp
   ·intro hc
    simp only at hc
    subst hc
    have:Nat.beq j j=true:=Nat.beq_refl _
    rw[this]at e;cases e
   ·exact Yc2 h p hp
def Ymi{l:List (Nat×O)}{i:Nat}{o:O}(h:(i,o)∈l):∃o',lk l i=some o':=by
 cases hc:lk l i with
 |some o'=>exact⟨o',rfl⟩
 |none=>exact absurd rfl (Yc2 hc _ h)
def Ymc(i:Nat):List Nat→Bool
 |[]=>false
 |j::l=>match Nat.beq j i with
  |true=>true
  |false=>Ymc i l
def Zj3{i:Nat}:∀{l:List Nat},Ymc i l=true↔i∈l
 |[]=>by simp[Ymc]
 |j::l=>by
  simp only[Ymc]
  split
  ·rename_i e;simp[Za2 e]
  ·rename_i e
   have:i≠j:=by
    rintro rfl
    have:Nat.beq i i=true:=Nat.beq_refl _
    rw[this]at e;cases e
   simp[Zj3,this]
structure Zmf where
 f:Nat
 args:List V
 v:V
def O.tab:O→Bool
 |.cells c _ false=>V.frees c
 |_=>false
def Zra(G:Nat):List (Nat×O)→Bool
 |[]=>true
 |(i,o)::l=>Nat.blt i G&&o.tab&&Zra G l
def O.tab_ren{ρ:Nat→Option Nat}{o:O}(h:o.tab=true):o.ren ρ=some o:=by
 cases o with
 |cells c e rw=>
  cases rw with
  |true=>cases h
  |false=>simp only[O.ren,V.frees_ren c h]
 |_=>cases h
def Zmq{G:Nat}:∀{l:List (Nat×O)},Zra G l=true→∀{i:Nat} {o:O},lk l i=some o→i<G∧o.tab=true
 |(j,o')::l,h,i,o,ho=>by
  simp only[Zra,Yu4]at h
  simp only[lk]at ho
  split at ho
  ·rename_i e
   simp only[Yup]at ho
   rw[←Za2 e,←ho]
   exact⟨Yxh (Yvw h.1.1),h.1.2⟩
  ·exact Zmq h.2 ho
def Zs3(G:Nat)(tb:List (Nat×O)):St:=⟨Zef (Zlw G) tb,G,[]⟩
def Zli(S:St):List (Nat×O)→Bool
 |[]=>true
 |(i,o)::l=>match oEq (S.h.get i) o with
  |true=>Zli S l
  |false=>false
def Zk2{S:St}:∀{l:List (Nat×O)},Zli S l=true→∀p∈l,S.h.get p.1=some p.2
 |[],_,p,hp=>by cases hp
 |(i,o)::l,h,p,hp=>by
  simp only[Zli]at h
  split at h
  ·rename_i e
   rcases Yvt.1 hp with rfl|hp
   ·exact Yb6 e
   ·exact Zk2 h p hp
  ·cases h
def Zmf.ok(e:Zmf)(tb:List (Nat×O))(G:Nat)(call:Za1):Bool:=
 match call (.func e.f [] []) e.args (Zs3 G tb)with
 |some (v,s)=>match s.w with
  |[]=>V.beq v e.v&&V.free e.v&&V.frees e.args&&Nat.ble G s.n&&Zra G tb
  |_=>false
 |none=>false
def Ysv(P:Program)(tb:List (Nat×O))(e:Zmf):Prop:=∀S,Zli S tb=true→Zz5 P (.func e.f [] []) e.args S e.v S
def Zmf.pure{call:Za1}(hc:Zbx P call){tb:List (Nat×O)}{e:Zmf}(h:e.ok tb P.globals.size call=true):Ysv P tb e:=by
 unfold Zmf.ok at h
 split at h
 ·rename_i v s hcall
  split at h
  ·rename_i hw
   simp only[Yu4]at h
   obtain⟨⟨⟨⟨h1,h2⟩,h3⟩,h4⟩,h5⟩:=h
   have hv:=V.beq_eq _ _ h1
   subst hv
   intro S hpart μ w Gv xs hh hG hx
   have hpart:=Zk2 hpart
   have hn:P.globals.size≤S.n:=by
    apply Ywu
    intro hlt
    obtain⟨t,ht⟩:=hh.glob S.n hlt
    have:=(hh.dom _ _ ht).1
    omega
   have F:Zoj P (fun i=>if i<P.globals.size then some i else none) (fun i=>if i<P.globals.size then some i else none) [] (Zs3 P.globals.size tb) s S S:={
    dom:=fun i i' hi=>by
     split at hi
     ·rename_i hlt;simp only[Yup]at hi;subst hi
      exact⟨hlt,by omega⟩
     ·cases hi
    inj:=fun i j i' hi hj=>by
     split at hi<;>split at hj<;>simp_all
    glob:=fun g hg=>by simp[hg]
    obj:=fun i i' hi=>by
     split at hi
     ·rename_i hlt
      simp only[Yup]at hi;subst hi
      cases hl:lk tb i with
      |some o=>
       refine⟨o,o,?_,.inr (.inl (O.tab_ren (Zmq h5 hl).2)),.inl (hpart _ (Zsa hl))⟩
       show (Zef (Zlw P.globals.size) tb).get i=_
       rw[Zcf,hl]
      |none=>
       refine⟨.dead,.dead,?_,.inl rfl,.inr rfl⟩
       show (Zef (Zlw P.globals.size) tb).get i=_
       rw[Zcf,hl]
       exact Zkf _ _ hlt
     ·cases hi
    old:=fun _ _=>rfl
    new:=fun i i' hi hr=>by
     have:P.globals.size≤i:=hi
     rw[Yur (by omega)]at hr;cases hr
    ninj:=fun i j i' hi _ hr _=>by
     have:P.globals.size≤i:=hi
     rw[Yur (by omega)]at hr;cases hr
    full:=fun i' h1 h2=>by omega
    nle:=Yus _
    w0:=rfl
    W1:=fun i i' hi _=>by rw[hw]at hi;cases hi
    W2:=fun j hj=>by cases hj
    wl:=rfl
    keep:=fun _ _ _=>rfl
    wr:=fun i i' hi _=>by rw[hw]at hi;cases hi
    obn:=fun i i' hi hr=>by
     have:P.globals.size≤i:=hi
     rw[Yur (by omega)]at hr;cases hr}
   exact(Zz5.frame (hc _ _ _ _ _ hcall) F (V.free_ren _ (by rfl)) (V.frees_ren _ h3) (V.free_ren _ h2)) μ w Gv xs hh hG hx
  ·cases h
 ·cases h
def Zx7:List Zmf→Nat→List V→Option V
 |[],_,_=>none
 |e::l,f,args=>match Nat.beq e.f f with
  |true=>match V.beqs e.args args with
   |true=>some e.v
   |false=>Zx7 l f args
  |false=>Zx7 l f args
def Zx8(tb:List (Nat×O))(l:List Zmf):Za1
 |.func f [] [],args,st=>match Zx7 l f args with
  |some v=>match Zli st tb with
   |true=>some (v,st)
   |false=>none
  |none=>none
 |_,_,_=>none
def Zm5:∀{l:List Zmf} {f:Nat} {args:List V} {v:V},Zx7 l f args=some v→∃e∈l,e.f=f∧e.args=args∧e.v=v
 |[],_,_,_,h=>by cases h
 |e::l,f,args,v,h=>by
  simp only[Zx7]at h
  split at h
  ·rename_i e1
   split at h
   ·rename_i e2
    simp only[Yup]at h
    exact⟨e,Yvg,Za2 e1,V.beqs_eq _ _ e2,h⟩
   ·obtain⟨e',h1,h2⟩:=Zm5 h;exact⟨e',Yu1 _ h1,h2⟩
  ·obtain⟨e',h1,h2⟩:=Zm5 h;exact⟨e',Yu1 _ h1,h2⟩
def Zv9{tb:List (Nat×O)}{l:List Zmf}(h:∀e∈l,Ysv P tb e):Zbx P (Zx8 tb l):=by
 intro g args st v st' hc
 unfold Zx8 at hc
 split at hc
 ·rename_i f
  split at hc
  ·rename_i u hu
   split at hc
   ·rename_i hp
    simp only[Yup,Yuv]at hc
    obtain⟨rfl,rfl⟩:=hc
    obtain⟨e,h1,rfl,rfl,rfl⟩:=Zm5 hu
    exact h e h1 st hp
   ·cases hc
  ·cases hc
 ·cases hc
structure Ent where
 f:Nat
 first:List V
 caps:List V
 args:List V
 part:List (Nat×O)
 n:Nat
 v:V
 kept:List (Nat×O)
 wrs:List (Nat×O)
def Ent.st(e:Ent)(G:Nat):St:=⟨Zef (Zlw G) e.part,e.n,[]⟩
def sig(G:Nat)(part:List (Nat×O))(i:Nat):Option Nat:=
 match Nat.blt i G with
 |true=>some i
 |false=>match lk part i with
  |some _=>some i
  |none=>none
def idx(i:Nat):List (Nat×O)→Nat→Option Nat
 |[],_=>none
 |(k,_)::l,m=>match Nat.beq k i with
  |true=>some m
  |false=>idx i l (m+1)
def rho(G:Nat)(part:List (Nat×O))(n:Nat)(kept:List (Nat×O))(i:Nat):Option Nat:=
 match Nat.blt i n with
 |true=>sig G part i
 |false=>idx i kept n
def Zgp:List (Nat×O)→Nat→List (Nat×O)
 |[],_=>[]
 |(_,o)::l,m=>(m,o)::Zgp l (m+1)
def Zyc(ρ:Nat→Option Nat)(s:St)(i:Nat)(o':O):Bool:=
 match s.h.get i with
 |some o=>match o' with
  |.dead=>true
  |o'=>oEq (o.ren ρ) o'
 |none=>false
def Zwo(ρ:Nat→Option Nat)(s:St)(n:Nat):List (Nat×O)→Nat→Bool
 |[],_=>true
 |(k,o)::l,m=>Zrx (ρ k) (some m)&&Nat.ble n k&&Nat.blt k s.n&&Zyc ρ s k o&&Zwo ρ s n l (m+1)
def Ent.chk(e:Ent)(G:Nat)(v:V)(s:St):Bool:=
 Nat.ble G e.n&&Nat.ble e.n s.n&&(e.part.all fun p=>Nat.blt p.1 e.n&&oEq (p.2.ren (sig G e.part)) p.2)&&
 Yqw (V.rens (sig G e.part) e.first) e.first&&Yqw (V.rens (sig G e.part) e.caps) e.caps&&Yqw (V.rens (sig G e.part) e.args) e.args&&
 vEq (V.ren (rho G e.part e.n e.kept) v) e.v&&
 Zwo (rho G e.part e.n e.kept) s e.n e.kept e.n&&
 (s.w.all fun i=>match sig G e.part i with|some _=>Ymc i (e.wrs.map (·.1))|none=>true)&&
 (e.wrs.all fun p=>Ymc p.1 s.w&&Zrx (sig G e.part p.1) (some p.1)&&Zyc (rho G e.part e.n e.kept) s p.1 p.2)
def Ent.ok(e:Ent)(G:Nat)(call:Za1):Bool:=
 match call (.func e.f e.first e.caps) e.args (e.st G)with
 |some (v,s)=>e.chk G v s
 |none=>false
def Ent.out(e:Ent)(S:St):St:=⟨Zef (Zef S.h e.wrs) (Zgp e.kept e.n),e.n+e.kept.length,e.wrs.map (·.1)++S.w⟩
def Znw(e:Ent):Za1
 |.func f a c,args,S=>match Nat.beq e.f f with
  |true=>match V.beqs e.args args&&V.beqs e.first a&&V.beqs e.caps c&&Nat.beq S.n e.n&&Zli S e.part with
   |true=>some (e.v,e.out S)
   |false=>none
  |false=>none
 |_,_,_=>none
def Zj7{i:Nat}:∀{l:List (Nat×O)} {m i':Nat},idx i l m=some i'→m≤i'∧i'<m+l.length∧∃o,l[i'-m]?=some (i,o)
 |[],m,i',h=>by cases h
 |(k,o)::l,m,i',h=>by
  simp only[idx]at h
  split at h
  ·rename_i e
   simp only[Yup]at h;subst h
   have:=Za2 e;subst this
   exact⟨Yus _,by simp,o,by simp⟩
  ·obtain⟨h1,h2,o',h3⟩:=Zj7 h
   refine⟨by omega,by simp;omega,o',?_⟩
   rw[show i'-m=(i'-(m+1))+1 by omega]
   simpa using h3
def Zpc:∀{l:List (Nat×O)} {m j:Nat} {p:Nat×O},l[j]?=some p→lk (Zgp l m) (m+j)=some p.2
 |[],m,j,p,h=>by simp at h
 |(k,o)::l,m,0,p,h=>by
  simp at h;subst h
  simp[Zgp,lk]
 |(k,o)::l,m,j+1,p,h=>by
  simp only[Zgp,lk]
  have:Nat.beq m (m+(j+1))=false:=by
   cases hb:Nat.beq m (m+(j+1))with
   |false=>rfl
   |true=>have:=Za2 hb;omega
  rw[this,show m+(j+1)=(m+1)+j by omega]
  exact Zpc (by simpa using h)
def Zlj:∀{l:List (Nat×O)} {m i:Nat},i<m→lk (Zgp l m) i=none
 |[],_,_,_=>rfl
 |(k,o)::l,m,i,h=>by
  simp only[Zgp,lk]
  have:Nat.beq m i=false:=by
   cases hb:Nat.beq m i with
   |false=>rfl
   |true=>have:=Za2 hb;omega
  rw[this]
  exact Zlj (by omega)
def Zph{ρ:Nat→Option Nat}{s:St}{n:Nat}:∀{l:List (Nat×O)} {m:Nat},Zwo ρ s n l m=true→∀{j:Nat} {p:Nat×O},l[j]?=some p→ρ p.1=some (m+j)∧n≤p.1∧p.1<s.n∧Zyc ρ s p.1 p.2=true
 |[],m,_,j,p,h=>by simp at h
 |(k,o)::l,m,h,j,p,hj=>by
  simp only[Zwo,Yu4]at h
  obtain⟨⟨⟨⟨h1,h2⟩,h3⟩,h4⟩,h5⟩:=h
  cases j with
  |zero=>
   simp at hj;subst hj
   exact⟨Zne h1,Yvw h2,Yxh (Yvw h3),h4⟩
  |succ j=>
   obtain⟨q1,q2⟩:=Zph h5 (j:=j) (by simpa using hj)
   exact⟨by rw[q1];congr 1;omega,q2⟩
def Zpb{ρ:Nat→Option Nat}{s:St}{o':O}(h:Zyc ρ s i o'=true):∃o,s.h.get i=some o∧(o'=.dead∨o.ren ρ=some o'):=by
 unfold Zyc at h
 split at h
 ·rename_i o ho
  refine⟨o,ho,?_⟩
  split at h
  ·exact .inl rfl
  ·exact .inr (Yb6 h)
 ·cases h
def Zhz{part:List (Nat×O)}{i':Nat}(h:sig G part i=some i'):i'=i∧(i<G∨∃o,lk part i=some o):=by
 unfold sig at h
 split at h
 ·rename_i e
  simp only[Yup]at h
  exact⟨h.symm,.inl (Yxh (Yvw e))⟩
 ·split at h
  ·rename_i o ho
   simp only[Yup]at h
   exact⟨h.symm,.inr ⟨o,ho⟩⟩
  ·cases h
def Zzs{call:Za1}(hcall:Zbx P call){e:Ent}(h:e.ok P.globals.size call=true):Zbx P (Znw e):=by
 intro g args S v S' hc
 unfold Znw at hc
 split at hc
 ·rename_i f a c
  split at hc
  ·rename_i hf
   have hf:=Za2 hf
   subst hf
   split at hc
   ·rename_i hcond
    simp only[Yu4]at hcond
    obtain⟨⟨⟨⟨c1,c2⟩,c3⟩,c4⟩,c5⟩:=hcond
    have c1:=V.beqs_eq _ _ c1
    have c2:=V.beqs_eq _ _ c2
    have c3:=V.beqs_eq _ _ c3
    have c4:=Za2 c4
    have c5:=Zk2 c5
    simp only[Yup,Yuv]at hc
    obtain⟨rfl,rfl⟩:=hc
    subst c1;subst c2;subst c3
    unfold Ent.ok at h
    split at h
    ·rename_i v0 s hrun
     unfold Ent.chk at h
     simp only[Yu4,Yvk]at h
     obtain⟨⟨⟨⟨⟨⟨⟨⟨⟨k1,k2⟩,k3⟩,k4⟩,k5⟩,k6⟩,k7⟩,k8⟩,k9⟩,k10⟩:=h
     have k1:=Yvw k1
     have k2:=Yvw k2
     have hpart:∀i o,lk e.part i=some o→i<e.n∧o.ren (sig P.globals.size e.part)=some o∧S.h.get i=some o:=fun i o ho=>by
      have hm:=Zsa ho
      obtain⟨q1,q2⟩:=k3 _ hm
      exact⟨Yxh (Yvw q1),Yb6 q2,c5 _ hm⟩
     have hρn:∀i,e.n≤i→rho P.globals.size e.part e.n e.kept i=idx i e.kept e.n:=fun i hi=>by
      unfold rho
      have:Nat.blt i e.n=false:=by
       cases hb:Nat.blt i e.n with
       |false=>rfl
       |true=>have:=Yxh (Yvw hb);omega
      rw[this]
     have hkept:∀j p,e.kept[j]?=some p→rho P.globals.size e.part e.n e.kept p.1=some (e.n+j)∧e.n≤p.1∧p.1<s.n∧Zyc (rho P.globals.size e.part e.n e.kept) s p.1 p.2=true:=fun j p hj=>Zph k8 hj
     have hlkn:∀j,j<e.n→(e.out S).h.get j=match lk e.wrs j with|some o=>some o|none=>S.h.get j:=fun j hj=>by
      show (Zef (Zef S.h e.wrs) (Zgp e.kept e.n)).get j=_
      rw[Zcf,Zlj hj,Zcf]
     have F:Zoj P (sig P.globals.size e.part) (rho P.globals.size e.part e.n e.kept) (e.wrs.map (·.1)) (e.st P.globals.size) s S (e.out S):={
      dom:=fun i i' hi=>by
       obtain⟨rfl,hor⟩:=Zhz hi
       have:i'<e.n:=by
        rcases hor with h|⟨o,ho⟩
        ·omega
        ·exact(hpart _ _ ho).1
       exact⟨this,by omega⟩
      inj:=fun i j i' hi hj=>by rw[←(Zhz hi).1,←(Zhz hj).1]
      glob:=fun g hg=>by
       unfold sig
       have:Nat.blt g P.globals.size=true:=Yyj hg
       rw[this]
      obj:=fun i i' hi=>by
       obtain⟨rfl,hor⟩:=Zhz hi
       cases hl:lk e.part i' with
       |some o=>
        obtain⟨q1,q2,q3⟩:=hpart _ _ hl
        refine⟨o,o,?_,.inr (.inl q2),.inl q3⟩
        show (Zef (Zlw P.globals.size) e.part).get i'=_
        rw[Zcf,hl]
       |none=>
        have hg:i'<P.globals.size:=by
         rcases hor with h|⟨o,ho⟩
         ·exact h
         ·rw[hl]at ho;cases ho
        refine⟨.dead,.dead,?_,.inl rfl,.inr rfl⟩
        show (Zef (Zlw P.globals.size) e.part).get i'=_
        rw[Zcf,hl]
        exact Zkf _ _ hg
      old:=fun i hi=>by
       have:Nat.blt i e.n=true:=Yyj hi
       unfold rho;rw[this]
      new:=fun i i' hi hr=>by
       rw[hρn i hi]at hr
       obtain⟨q1,q2,o,q3⟩:=Zj7 hr
       obtain⟨_,_,r3,_⟩:=hkept _ _ q3
       exact⟨by omega,q2,r3⟩
      ninj:=fun i j i' hi hj hri hrj=>by
       rw[hρn i hi]at hri
       rw[hρn j hj]at hrj
       obtain⟨_,_,o,q3⟩:=Zj7 hri
       obtain⟨_,_,o',q3'⟩:=Zj7 hrj
       rw[q3]at q3'
       cases q3';rfl
      full:=fun i' h1 h2=>by
       have h2':i'<e.n+e.kept.length:=h2
       obtain⟨p,hp⟩:∃p,e.kept[i'-e.n]?=some p:=⟨_,Yut (by omega)⟩
       obtain⟨r1,r2,_,_⟩:=hkept _ _ hp
       exact⟨p.1,r2,by rw[r1];congr 1;omega⟩
      nle:=by show S.n≤e.n+e.kept.length;omega
      w0:=rfl
      W1:=fun i i' hi hs=>by
       obtain⟨rfl,_⟩:=Zhz hs
       have:=k9 _ hi
       rw[hs]at this
       exact Zj3.1 this
      W2:=fun j hj=>by
       obtain⟨p,hp,rfl⟩:=Yvb.1 hj
       obtain⟨⟨q1,q2⟩,_⟩:=k10 _ hp
       exact⟨p.1,Zj3.1 q1,Zne q2⟩
      wl:=rfl
      keep:=fun j hj hn=>by
       rw[hlkn j (by omega)]
       cases hl:lk e.wrs j with
       |none=>rfl
       |some o=>exact absurd (Yvb.2 ⟨_,Zsa hl,rfl⟩) hn
      wr:=fun i i' hi hs=>by
       obtain⟨rfl,hor⟩:=Zhz hs
       have hlt:i'<e.n:=by
        rcases hor with h|⟨o,ho⟩
        ·omega
        ·exact(hpart _ _ ho).1
       have:=k9 _ hi
       rw[hs]at this
       obtain⟨p,hp,hpe⟩:=Yvb.1 (Zj3.1 this)
       obtain⟨o',ho'⟩:=Ymi (l:=e.wrs) (i:=i') (o:=p.2) (by rw[←hpe];exact hp)
       obtain⟨_,q3⟩:=k10 _ (Zsa ho')
       obtain⟨o,r1,r2⟩:=Zpb q3
       exact⟨o,o',r1,by rw[hlkn _ hlt,ho'],r2⟩
      obn:=fun i i' hi hr=>by
       rw[hρn i hi]at hr
       obtain⟨q1,q2,o,q3⟩:=Zj7 hr
       obtain⟨_,_,_,r4⟩:=hkept _ _ q3
       obtain⟨o2,t1,t2⟩:=Zpb r4
       refine⟨o2,o,t1,?_,t2⟩
       show (Zef (Zef S.h e.wrs) (Zgp e.kept e.n)).get i'=_
       have:=Zpc (m:=e.n) q3
       rw[show e.n+(i'-e.n)=i' by omega]at this
       rw[Zcf,this]}
     refine Zz5.frame (hcall _ _ _ _ _ hrun) F ?_ (Ztg k6) (Yot k7)
     simp only[V.ren,Ztg k4,Ztg k5]
    ·cases h
   ·cases hc
  ·cases hc
 ·cases hc
def Zg3(x:Za1)(tbl:Nat→Option Zem)(fuel:Nat):Nat→Za1
 |0=>x
 |d+1=>Zeh x (Zcr tbl (Zbg (Zg3 x tbl fuel d) fuel))
def Zj4{P:Program}{tbl:Nat→Option Zem}(hm:P.follows .mixedOrders=true)(hE:Zeq P)(ht:Zvm P tbl){x:Za1}(hx:Zbx P x)(fuel:Nat):∀d,Zbx P (Zg3 x tbl fuel d)
 |0=>hx
 |d+1=>by
  have ih:=Zj4 hm hE ht hx fuel d
  exact hx.or (Zvc ht (Yeh ih hE (Ydz hm hE ih) (Yja ih hE) (Zv4 ih) fuel))
def Yh7:List Ent→Nat→List V→List V→List V→St→Option (V×St)
 |[],_,_,_,_,_=>none
 |e::l,f,a,c,args,S=>match Nat.beq e.f f with
  |true=>match Znw e (.func f a c) args S with
   |some r=>some r
   |none=>Yh7 l f a c args S
  |false=>Yh7 l f a c args S
def Yna(l:List Ent):Za1
 |.func f a c,args,S=>Yh7 l f a c args S
 |_,_,_=>none
def Yh8{l:List Ent}(h:∀e∈l,Zbx P (Znw e)):Zbx P (Yna l):=by
 intro g args S v S' hc
 unfold Yna at hc
 split at hc
 ·rename_i f a c
  induction l with
  |nil=>cases hc
  |cons e l ih=>
   simp only[Yh7]at hc
   split at hc
   ·split at hc
    ·rename_i r hr
     cases hc
     exact h e Yvg _ _ _ _ _ hr
    ·exact ih (fun e he=>h e (Yu1 _ he)) hc
   ·exact ih (fun e he=>h e (Yu1 _ he)) hc
 ·cases hc
def Yaf(tb:List (Nat×O))(L:List Zmf)(E:List Ent):Za1:=Zeh (Zx8 tb L) (Yna E)
structure Zan (P:Program) (tb:List (Nat×O)) (L:List Zmf) (E:List Ent):Prop where
 p:∀e∈L,Ysv P tb e
 e:∀e∈E,Zbx P (Znw e)
def Zan.call{tb:List (Nat×O)}{L:List Zmf}{E:List Ent}(h:Zan P tb L E):Zbx P (Yaf tb L E):=(Zv9 h.p).or (Yh8 h.e)
def Zan.nil{tb:List (Nat×O)}:Zan P tb [] []:=⟨fun _ h=>(by cases h),fun _ h=>(by cases h)⟩
structure Zlq (P:Program) (tbl:Nat→Option Zem) (G:Nat):Prop where
 m:P.follows .mixedOrders=true
 e:Zeq P
 t:Zvm P tbl
 g:P.globals.size=G
def Zan.addP{tbl:Nat→Option Zem}{fuel d:Nat}(hP:Zlq P tbl G){tb:List (Nat×O)}{L:List Zmf}{E:List Ent}(h:Zan P tb L E){e:Zmf}(he:e.ok tb G (Zg3 (Yaf tb L E) tbl fuel d)=true):Zan P tb (e::L) E:=
 ⟨fun e' hm=>by
  rcases Yvt.1 hm with rfl|hm
  ·exact Zmf.pure (Zj4 hP.m hP.e hP.t h.call fuel d) (by rw[hP.g];exact he)
  ·exact h.p e' hm,h.e⟩
def Zan.addE{tbl:Nat→Option Zem}{fuel d:Nat}(hP:Zlq P tbl G){tb:List (Nat×O)}{L:List Zmf}{E:List Ent}(h:Zan P tb L E){e:Ent}(he:e.ok G (Zg3 (Yaf tb L E) tbl fuel d)=true):Zan P tb L (e::E):=
 ⟨h.p,fun e' hm=>by
  rcases Yvt.1 hm with rfl|hm
  ·exact Zzs (Zj4 hP.m hP.e hP.t h.call fuel d) (by rw[hP.g];exact he)
  ·exact h.e e' hm⟩
def Yju(tb:List (Nat×O))(G:Nat)(tbl:Nat→Option Zem)(L:List Zmf)(E:List Ent):Bool:=match L with
 |[]=>false
 |e::t=>e.ok tb G (Zg3 (Yaf tb t E) tbl 5000 40)
def Ydi(tb:List (Nat×O))(G:Nat)(tbl:Nat→Option Zem)(L:List Zmf)(E:List Ent):Bool:=match E with
 |[]=>false
 |e::t=>e.ok G (Zg3 (Yaf tb L t) tbl 5000 40)
def Zan.p1{P:Program}{tbl:Nat→Option Zem}{G:Nat}(hP:Zlq P tbl G){tb:List (Nat×O)}{L:List Zmf}{E:List Ent}(h:Zan P tb L.tail E)(he:Yju tb G tbl L E=true):Zan P tb L E:=by
 cases L with
 |nil=>exact h
 |cons e t=>exact Zan.addP hP h he
def Zan.e1{P:Program}{tbl:Nat→Option Zem}{G:Nat}(hP:Zlq P tbl G){tb:List (Nat×O)}{L:List Zmf}{E:List Ent}(h:Zan P tb L E.tail)(he:Ydi tb G tbl L E=true):Zan P tb L E:=by
 cases E with
 |nil=>exact h
 |cons e t=>exact Zan.addE hP h he
section
variable {call:Za1} {f:Nat} {ro:Option Nat} {a b c:Zaw} {fr:Fr} {st:St}
end
def Ypg{a b:Nat}:Nat.blt a b=decide (a<b):=by
 cases h:Nat.blt a b
 ·symm;simp only[decide_eq_false_iff_not];intro hc;rw[show Nat.blt a b=true from Yyj hc]at h;cases h
 ·symm;simp only[decide_eq_true_eq];exact Yxh (Yvw h)
def Yph{a b:Nat}:Nat.ble a b=decide (a≤b):=by
 cases h:Nat.ble a b
 ·symm;simp only[decide_eq_false_iff_not];intro hc;rw[Yyj hc]at h;cases h
 ·symm;simp only[decide_eq_true_eq];exact Yvw h
def Zai{n:Int}(h1: -9223372036854775808≤n)(h2:n<9223372036854775808):Zao .i64 n=n:=by
 rw[Zdi]
 simp[IntKind.wrap,IntKind.bits,IntKind.signed]
 omega
def Zzh{k a b}:Zdq .add k a b=some (.int k (Zao k (a+b))):=rfl
def Zy6{k a b}:Zdq .sub k a b=some (.int k (Zao k (a-b))):=rfl
def Zzb{k a b}:Zdq .mul k a b=some (.int k (Zao k (a*b))):=rfl
def Zy9{k a b}(h:¬b=0):Zdq .quo k a b=some (.int k (Zao k (a.tdiv b))):=by simp[Zdq,h]
def Zy8{k a b}(h:¬b=0):Zdq .rem k a b=some (.int k (a.tmod b)):=by simp[Zdq,h]
def Zzg{k a b}:Zdq .eql k a b=some (.bool (a==b)):=rfl
def Zza{k a b}:Zdq .neq k a b=some (.bool (a !=b)):=rfl
def Zzc{k a b}:Zdq .lss k a b=some (.bool (decide (a<b))):=rfl
def Zzd{k a b}:Zdq .leq k a b=some (.bool (decide (a≤b))):=rfl
def Zze{k a b}:Zdq .gtr k a b=some (.bool (decide (a > b))):=rfl
def Zzf{k a b}:Zdq .geq k a b=some (.bool (decide (a≥b))):=rfl
def Yl4(x):mop (.mov x)=Zm9 x:=rfl
def Yg5(a b c):mop (.pick a b c)=Zhc a b c:=rfl
def Ycp(a b):mop (.alloc a b)=Zh5 a b:=rfl
def Yl8(a b):mop (.box a b)=Znc a b:=rfl
def Yco(a b):mop (.build a b)=Zeu a b:=rfl
def Zyo(a b c d e):mop (.bslice a b c d e)=Ze9 a b c d e:=rfl
def Yg6(a b):mop (.load a b)=Ziu a b:=rfl
def Ycg(a b c):mop (.store a b c)=Zfj a b c:=rfl
def Yci(a):mop (.nilck a)=Zgk a:=rfl
def Yl9(a b c d e):mop (.bin a b c d e)=Znd a b c d e:=rfl
def Ypj(a b):mop (.un a b)=Zt7 a b:=rfl
def Zus(a b):mop (.convInt a b)=Zd4 a b:=rfl
def Zyh(a b c):mop (.mkfunc a b c)=Ze7 a b c:=rfl
def Ycl(a b):mop (.faddr a b)=Zgn a b:=rfl
def Yck(a b c):mop (.field a b c)=Zgm a b c:=rfl
def Zr4(a b c d):mop (.iaddrArr a b c d)=Zca a b c d:=rfl
def Zup(a b c):mop (.iaddrSl a b c)=Zdf a b c:=rfl
def Zuq(a b):mop (.extract a b)=Zd3 a b:=rfl
def Yl5(a b):mop (.len a b)=Zfq a b:=rfl
def Yg8(a b):mop (.call a b)=Zeo a b:=rfl
structure Yqu (r:Option (V×St)) (v:V):Prop where
 ex:∃s,r=some (v,s)∧s.w=[]
def Zzk{u v:V}{s:St}:Yqu (some (u,s)) v↔u=v∧s.w=[]:=
 ⟨fun ⟨_,h1,h2⟩=>by simp only[Yup,Yuv]at h1;exact⟨h1.1,h1.2▸h2⟩,fun ⟨h1,h2⟩=>⟨s,by rw[h1],h2⟩⟩
attribute [simp]
 Yl4 Yg5 Ycp Yl8 Yco Zyo Yg6 Ycg Yci Yl9 Ypj Zus Zyh Ycl Yck Zr4 Zup Zuq Yl5 Yg8
 Zm9 Zhc Zh5 Znc Zeu Ze9 Ziu Zgk Znd Zt7 Zd4 Ze7 Zgn Zgm Zca Zd3 Zeo
 Zen wantedV Src.ev T.get_set resV Zrm oldIds Yss Zzh Zy6 Zzb Zy9 Zy8 Zzg Zza Zzc Zzd Zze Zzf Zbm unV Zie evOpt Zfm Zoo Zaj V.cells V.one St.alloc St.write St.row Zai Ypg Yph Zfv Zcs MOp.silent Zwk apartOk Zam Zam.go Zam.chk FP.free Znj Nat.testBit Zzk base
end Go.Mx

