/-Calls that are known-/
import Derived.Test.YtgnadghjglamaaaGreatDoorMxDraw2
import Derived.Test.YtgnadghjglamaaaGreatDoorMxFrame
import Derived.Below
import Derived.CallsIn
set_option linter.all false
namespace Go.Mx
open Go
variable {G i:Nat} {P:Program}
def Po:Bool->Bool->Bool
 |true,b=>b
 |false,true=>false
 |false,false=>true
def Tr:IntKind->Nat
 |.i8=>0|.i16=>1|.i32=>2|.i64=>3|.u8=>4|.u16=>5|.u32=>6|.u64=>7
def Ykj:Int->Int->Bool
 |.ofNat a,b=>match b with
  |.ofNat b=>Nat.beq a b
  |.negSucc _=>false
 |.negSucc a,b=>match b with
  |.ofNat _=>false
  |.negSucc b=>Nat.beq a b
def JF:List UInt8->List UInt8->Bool
 |[],l=>match l with
  |[]=>true
  |_::_=>false
 |a::xs,l=>match l with
  |[]=>false
  |b::ys=>match Nat.beq a.toNat b.toNat with
   |true=>JF xs ys
   |false=>false
def Pp:Option Nat->Option Nat->Bool
 |none,b=>match b with
  |none=>true
  |some _=>false
 |some a,b=>match b with
  |none=>false
  |some b=>Nat.beq a b
def Znt{a b:Bool}(h:Po a b=true):a=b:=by cases a<;>cases b<;>simp_all [Po]
def jl{a b:Nat}(h:Nat.beq a b=true):a=b:=SD h
def Ykm{a b:IntKind}(h:Nat.beq (Tr a) (Tr b)=true):a=b:=by cases a<;>cases b<;>first|rfl|(exact absurd h (by decide))
def Yf0{a b:Int}(h:Ykj a b=true):a=b:=by
 cases a<;>cases b<;>simp only[Ykj,gV]at h
 ·rw[jl h]
 ·rw[jl h]
def Zpd:∀{a b:List UInt8},JF a b=true->a=b
 |[],[],_=>rfl
 |[],_::_,h=>by simp[JF]at h
 |_::_,[],h=>by simp[JF]at h
 |a::xs,b::ys,h=>by
  simp only[JF]at h
  split at h
  ·rename_i e
   rw[Zpd h,UInt8.toNat_inj.1 (jl e)]
  ·cases h
def Zmz{a b:Option Nat}(h:Pp a b=true):a=b:=by
 cases a<;>cases b<;>simp only[Pp,gV]at h
 ·rfl
 ·rw[jl h]
def Ml:FloatKind->Nat
 |.f32=>0|.f64=>1
def Ycn{a b:FloatKind}(h:Nat.beq (Ml a) (Ml b)=true):a=b:=by cases a<;>cases b<;>first|rfl|(exact absurd h (by decide))
def V.isBool(x:Bool):V->Bool|.bool y=>Po x y|_=>false
def V.isInt(k:IntKind)(n:Int):V->Bool|.int k' n'=>(match Nat.beq (Tr k) (Tr k')with|true=>Ykj n n'|false=>false)|_=>false
def V.yd(k:FloatKind)(n:Nat):V->Bool|.kg k' n'=>(match Nat.beq (Ml k) (Ml k')with|true=>Nat.beq n n'|false=>false)|_=>false
def V.Ef(k:FloatKind)(m n:Nat):V->Bool|.rO k' m' n'=>(match Nat.beq (Ml k) (Ml k')with|true=>Nat.beq m m'&&Nat.beq n n'|false=>false)|_=>false
def V.isStr(s:List UInt8):V->Bool|.str t=>JF s t|_=>false
def V.tk:V->Bool|.zgi=>true|_=>false
def V.Eg(i o:Nat):V->Bool|.ptr i' o'=>(match Nat.beq i i' with|true=>Nat.beq o o'|false=>false)|_=>false
def V.oA:V->Bool|.aa=>true|_=>false
def V.isSlice(i o l:Nat)(c:Option Nat)(z:Nat):V->Bool|.slice i' o' l' c' z'=>Nat.beq i i'&&Nat.beq o o'&&Nat.beq l l'&&Pp c c'&&Nat.beq z z'|_=>false
def V.isEmpty:V->Bool|.empty=>true|_=>false
def V.uN:V->Bool|.bV=>true|_=>false
def V.Eh(i:Nat):V->Bool|.map j=>Nat.beq i j|_=>false
def V.pV:V->Bool|.bX=>true|_=>false
def V.isChan(i:Nat):V->Bool|.chan j=>Nat.beq i j|_=>false
def V.wO(i:Nat):V->Bool|.yield j=>Nat.beq i j|_=>false
def V.pW:V->Bool|.bY=>true|_=>false
def V.oB:V->Bool|.aX=>true|_=>false
mutual
def V.beq:V->V->Bool
 |.bool x,b=>b.isBool x
 |.int k n,b=>b.isInt k n
 |.kg k n,b=>b.yd k n
 |.rO k m n,b=>b.Ef k m n
 |.str s,b=>b.isStr s
 |.zgi,b=>b.tk
 |.ptr i o,b=>b.Eg i o
 |.aa,b=>b.oA
 |.slice i o l c z,b=>b.isSlice i o l c z
 |.empty,b=>b.isEmpty
 |.bV,b=>b.uN
 |.map i,b=>b.Eh i
 |.bX,b=>b.pV
 |.chan i,b=>b.isChan i
 |.func f a c,b=>match b with
  |.func f' a' c'=>Nat.beq f f'&&V.i_ a a'&&V.i_ c c'
  |_=>false
 |.yield i,b=>b.wO i
 |.bY,b=>b.pW
 |.iface t v,b=>match b with
  |.iface t' v'=>Nat.beq t t'&&V.beq v v'
  |_=>false
 |.aX,b=>b.oB
 |.agg l,b=>match b with
  |.agg l'=>V.i_ l l'
  |_=>false
 |.aS l,b=>match b with
  |.aS l'=>V.i_ l l'
  |_=>false
def V.i_:List V->List V->Bool
 |[],l=>match l with
  |[]=>true
  |_::_=>false
 |a::xs,l=>match l with
  |[]=>false
  |b::ys=>match V.beq a b with
   |true=>V.i_ xs ys
   |false=>false
end
mutual
def V.beq_eq:∀(a b:V),V.beq a b=true->a=b
 |.bool x,b,h=>by cases b<;>simp only[V.beq,V.isBool,gV]at h;rw[Znt h]
 |.int k n,b,h=>by
  cases b<;>simp only[V.beq,V.isInt,gV]at h
  split at h
  ·rename_i e;rw[Ykm e,Yf0 h]
  ·cases h
 |.kg k n,b,h=>by
  cases b<;>simp only[V.beq,V.yd,gV]at h
  split at h
  ·rename_i e;rw[Ycn e,jl h]
  ·cases h
 |.rO k m n,b,h=>by
  cases b<;>simp only[V.beq,V.Ef,gV]at h
  split at h
  ·rename_i e
   rw[ji]at h
   rw[Ycn e,jl h.1,jl h.2]
  ·cases h
 |.str s,b,h=>by cases b<;>simp only[V.beq,V.isStr,gV]at h;rw[Zpd h]
 |.zgi,b,h=>by cases b<;>simp only[V.beq,V.tk,gV]at h;rfl
 |.ptr i o,b,h=>by
  cases b<;>simp only[V.beq,V.Eg,gV]at h
  split at h
  ·rename_i e;rw[jl e,jl h]
  ·cases h
 |.aa,b,h=>by cases b<;>simp only[V.beq,V.oA,gV]at h;rfl
 |.slice i o l c z,b,h=>by
  cases b<;>simp only[V.beq,V.isSlice,gV,ji]at h
  obtain⟨⟨⟨⟨h1,h2⟩,h3⟩,h4⟩,h5⟩:=h
  rw[jl h1,jl h2,jl h3,Zmz h4,jl h5]
 |.empty,b,h=>by cases b<;>simp only[V.beq,V.isEmpty,gV]at h;rfl
 |.bV,b,h=>by cases b<;>simp only[V.beq,V.uN,gV]at h;rfl
 |.map i,b,h=>by cases b<;>simp only[V.beq,V.Eh,gV]at h;rw[jl h]
 |.bX,b,h=>by cases b<;>simp only[V.beq,V.pV,gV]at h;rfl
 |.chan i,b,h=>by cases b<;>simp only[V.beq,V.isChan,gV]at h;rw[jl h]
 |.func f a c,b,h=>by
  cases b<;>simp only[V.beq,gV,ji]at h
  obtain⟨⟨h1,h2⟩,h3⟩:=h
  rw[jl h1,V.dt _ _ h2,V.dt _ _ h3]
 |.yield i,b,h=>by cases b<;>simp only[V.beq,V.wO,gV]at h;rw[jl h]
 |.bY,b,h=>by cases b<;>simp only[V.beq,V.pW,gV]at h;rfl
 |.iface t v,b,h=>by
  cases b<;>simp only[V.beq,gV,ji]at h
  rw[jl h.1,V.beq_eq _ _ h.2]
 |.aX,b,h=>by cases b<;>simp only[V.beq,V.oB,gV]at h;rfl
 |.agg l,b,h=>by cases b<;>simp only[V.beq,gV]at h;rw[V.dt _ _ h]
 |.aS l,b,h=>by cases b<;>simp only[V.beq,gV]at h;rw[V.dt _ _ h]
def V.dt:∀(a b:List V),V.i_ a b=true->a=b
 |[],[],_=>rfl
 |[],_::_,h=>by simp[V.i_]at h
 |_::_,[],h=>by simp[V.i_]at h
 |a::xs,b::ys,h=>by
  simp only[V.i_]at h
  split at h
  ·rename_i e;rw[V.beq_eq a b e,V.dt xs ys h]
  ·cases h
end
def Mm:List (V×V)->List (V×V)->Bool
 |[],l=>match l with
  |[]=>true
  |_::_=>false
 |(k,v)::xs,l=>match l with
  |[]=>false
  |(k',v')::ys=>V.beq k k'&&V.beq v v'&&Mm xs ys
def Ycr:∀{a b:List (V×V)},Mm a b=true->a=b
 |[],[],_=>rfl
 |[],_::_,h=>by simp[Mm]at h
 |_::_,[],h=>by simp[Mm]at h
 |(k,v)::xs,(k',v')::ys,h=>by
  simp only[Mm,ji]at h
  rw[V.beq_eq _ _ h.1.1,V.beq_eq _ _ h.1.2,Ycr h.2]
def O.beq:O->O->Bool
 |.cells c e rw,b=>match b with
  |.cells c' e' BW=>Nat.beq e e'&&Po rw BW&&V.i_ c c'
  |_=>false
 |.map es,b=>match b with
  |.map es'=>Mm es es'
  |_=>false
 |.chan cap buf,b=>match b with
  |.chan cap' qO=>Nat.beq cap cap'&&V.i_ buf qO
  |_=>false
 |.eP s pos,b=>match b with
  |.eP s' pos'=>JF s s'&&Nat.beq pos pos'
  |_=>false
 |.defs o,b=>match b with
  |.defs o'=>Po o o'
  |_=>false
 |.loop _,_=>false
 |.dead,b=>match b with
  |.dead=>true
  |_=>false
def O.beq_eq{a b:O}(h:O.beq a b=true):a=b:=by
 cases a<;>simp only[O.beq,gV]at h<;>cases b<;>simp only[gV,ji]at h
 ·obtain⟨⟨h1,h2⟩,h3⟩:=h;rw[jl h1,Znt h2,V.dt _ _ h3]
 ·rw[Ycr h]
 ·rw[jl h.1,V.dt _ _ h.2]
 ·rw[Zpd h.1,jl h.2]
 ·rw[Znt h]
 ·rfl
def Mn:Option O->O->Bool
 |some a,b=>O.beq a b
 |none,_=>false
def Yaz{a:Option O}{b:O}(h:Mn a b=true):a=some b:=by
 cases a with
 |none=>cases h
 |some a=>rw[O.beq_eq h]
def vEq:Option V->V->Bool
 |some a,b=>V.beq a b
 |none,_=>false
def Yl1{a:Option V}{b:V}(h:vEq a b=true):a=some b:=by
 cases a with
 |none=>cases h
 |some a=>rw[V.beq_eq _ _ h]
def Ts:Option (List V)->List V->Bool
 |some a,b=>V.i_ a b
 |none,_=>false
def Zsk{a:Option (List V)}{b:List V}(h:Ts a b=true):a=some b:=by
 cases a with
 |none=>cases h
 |some a=>rw[V.dt _ _ h]
mutual
def V.free:V->Bool
 |.ptr ..|.slice ..|.map _|.chan _|.yield _=>false
 |.func _ a c=>V.jO a&&V.jO c
 |.iface _ v=>V.free v
 |.agg l=>V.jO l
 |.aS l=>V.jO l
 |_=>true
def V.jO:List V->Bool
 |[]=>true
 |v::vs=>V.free v&&V.jO vs
end
mutual
def V.jP{ρ:Nat->Option Nat}:∀(v:V),V.free v=true->V.cj ρ v=some v
 |.bool _,_=>rfl
 |.int _ _,_=>rfl
 |.kg _ _,_=>rfl
 |.rO _ _ _,_=>rfl
 |.str _,_=>rfl
 |.zgi,_=>rfl
 |.ptr _ _,h=>by simp[V.free]at h
 |.aa,_=>rfl
 |.slice _ _ _ _ _,h=>by simp[V.free]at h
 |.empty,_=>rfl
 |.bV,_=>rfl
 |.map _,h=>by simp[V.free]at h
 |.bX,_=>rfl
 |.chan _,h=>by simp[V.free]at h
 |.func f a c,h=>by
  simp only[V.free,ji]at h
  simp only[V.cj,V.dX a h.1,V.dX c h.2]
 |.yield _,h=>by simp[V.free]at h
 |.bY,_=>rfl
 |.iface t v,h=>by
  simp only[V.free]at h
  simp only[V.cj,V.jP v h]
 |.aX,_=>rfl
 |.agg l,h=>by
  simp only[V.free]at h
  simp only[V.cj,V.dX l h]
 |.aS l,h=>by
  simp only[V.free]at h
  simp only[V.cj,V.dX l h]
def V.dX{ρ:Nat->Option Nat}:∀(l:List V),V.jO l=true->V.eH ρ l=some l
 |[],_=>rfl
 |v::vs,h=>by
  simp only[V.jO,ji]at h
  simp only[V.eH,V.jP v h.1,V.dX vs h.2]
end
def yv:Nat->T O
 |0=>.nil
 |n+1=>(yv n).set n .dead
def S4:∀(n i:Nat),i<n->(yv n).get i=some .dead
 |0,i,h=>by omega
 |n+1,i,h=>by
  simp only[yv,T.aj]
  by_cases e:i=n
  ·rw[aQ e]
  ·rw[aA e];exact S4 n i (by omega)
def base(G:Nat):St:=⟨yv G,G,[]⟩
def lk:List (Nat×O)->Nat->Option O
 |[],_=>none
 |(j,o)::l,i=>match Nat.beq j i with
  |true=>some o
  |false=>lk l i
def sZ(h:T O):List (Nat×O)->T O
 |[]=>h
 |(j,o)::l=>(sZ h l).set j o
def Bg(h:T O):∀(l:List (Nat×O)) (i:Nat),(sZ h l).get i=match lk l i with|some o=>some o|none=>h.get i
 |[],i=>rfl
 |(j,o)::l,i=>by
  simp only[sZ,T.aj,lk]
  by_cases e:i=j
  ·subst e
   rw[aQ rfl,Nat.beq_refl _]
  ·rw[aA e]
   have:Nat.beq j i=false:=by
    cases hb:Nat.beq j i with
    |false=>rfl
    |true=>exact absurd (SD hb).symm e
   rw[this]
   exact Bg h l i
def Pq:∀{l:List (Nat×O)} {i:Nat} {o:O},lk l i=some o->(i,o)∈l
 |(j,o')::l,i,o,h=>by
  simp only[lk]at h
  split at h
  ·rename_i e
   have:=jl e
   simp only[au]at h
   subst h;subst this;exact oM
  ·exact mD _ (Pq h)
def Yb0:∀{l:List (Nat×O)} {i:Nat},lk l i=none->∀p∈l,p.1≠i
 |[],_,_,p,hp=>by cases hp
 |(j,o')::l,i,h,p,hp=>by
  simp only[lk]at h
  split at h
  ·cases h
  ·rename_i e
   rcases ku.1 hp with rfl|hp
   ·intro hc
    simp only at hc
    subst hc
    have:Nat.beq j j=true:=Nat.beq_refl _
    rw[this]at e;cases e
   ·exact Yb0 h p hp
def Ykb{l:List (Nat×O)}{i:Nat}{o:O}(h:(i,o)∈l):∃o',lk l i=some o':=by
 cases hc:lk l i with
 |some o'=>exact⟨o',rfl⟩
 |none=>exact absurd rfl (Yb0 hc _ h)
def JG(i:Nat):List Nat->Bool
 |[]=>false
 |j::l=>match Nat.beq j i with
  |true=>true
  |false=>JG i l
def Pr{i:Nat}:∀{l:List Nat},JG i l=true↔i∈l
 |[]=>by simp[JG]
 |j::l=>by
  simp only[JG]
  split
  ·rename_i e;simp[jl e]
  ·rename_i e
   have:i≠j:=by
    rintro rfl
    have:Nat.beq i i=true:=Nat.beq_refl _
    rw[this]at e;cases e
   simp[Pr,this]
structure mw where
 f:Nat
 args:List V
 v:V
def O.tab:O->Bool
 |.cells c _ false=>V.jO c
 |_=>false
def OD(G:Nat):List (Nat×O)->Bool
 |[]=>true
 |(i,o)::l=>Nat.blt i G&&o.tab&&OD G l
def O.CE{ρ:Nat->Option Nat}{o:O}(h:o.tab=true):o.cj ρ=some o:=by
 cases o with
 |cells c e rw=>
  cases rw with
  |true=>cases h
  |false=>simp only[O.cj,V.dX c h]
 |_=>cases h
def Zmd{G:Nat}:∀{l:List (Nat×O)},OD G l=true->∀{i:Nat} {o:O},lk l i=some o->i<G/\o.tab=true
 |(j,o')::l,h,i,o,ho=>by
  simp only[OD,ji]at h
  simp only[lk]at ho
  split at ho
  ·rename_i e
   simp only[au]at ho
   rw[<-jl e,<-ho]
   exact⟨B1 (uY h.1.1),h.1.2⟩
  ·exact Zmd h.2 ho
def D6(G:Nat)(tb:List (Nat×O)):St:=⟨sZ (yv G) tb,G,[]⟩
def Ei(S:St):List (Nat×O)->Bool
 |[]=>true
 |(i,o)::l=>match Mn (S.h.get i) o with
  |true=>Ei S l
  |false=>false
def Zkv{S:St}:∀{l:List (Nat×O)},Ei S l=true->∀p∈l,S.h.get p.1=some p.2
 |[],_,p,hp=>by cases hp
 |(i,o)::l,h,p,hp=>by
  simp only[Ei]at h
  split at h
  ·rename_i e
   rcases ku.1 hp with rfl|hp
   ·exact Yaz e
   ·exact Zkv h p hp
  ·cases h
def mw.ok(e:mw)(tb:List (Nat×O))(G:Nat)(call:cM):Bool:=
 match call (.func e.f [] []) e.args (D6 G tb)with
 |some (v,s)=>match s.w with
  |[]=>V.beq v e.v&&V.free e.v&&V.jO e.args&&Nat.ble G s.n&&OD G tb
  |_=>false
 |none=>false
def Ypv(P:Program)(tb:List (Nat×O))(e:mw):Prop:=∀S,Ei S tb=true->LY P (.func e.f [] []) e.args S e.v S
def mw.pure{call:cM}(hc:js P call){tb:List (Nat×O)}{e:mw}(h:e.ok tb P.globals.size call=true):Ypv P tb e:=by
 unfold mw.ok at h
 split at h
 ·rename_i v s b_
  split at h
  ·rename_i hw
   simp only[ji]at h
   obtain⟨⟨⟨⟨h1,h2⟩,h3⟩,h4⟩,h5⟩:=h
   have hv:=V.beq_eq _ _ h1
   subst hv
   intro S e_ μ w Gv xs hh hG hx
   have e_:=Zkv e_
   have hn:P.globals.size<=S.n:=by
    apply yl
    intro aP
    obtain⟨t,ht⟩:=hh.ij S.n aP
    have:=(hh.dc _ _ ht).1
    omega
   have F:Jr P (fun i=>if i<P.globals.size then some i else none) (fun i=>if i<P.globals.size then some i else none) [] (D6 P.globals.size tb) s S S:={
    dc:=fun i i' hi=>by
     split at hi
     ·rename_i aP;simp only[au]at hi;subst hi
      exact⟨aP,by omega⟩
     ·cases hi
    inj:=fun i j i' hi hj=>by
     split at hi<;>split at hj<;>simp_all
    ij:=fun g hg=>by simp[hg]
    obj:=fun i i' hi=>by
     split at hi
     ·rename_i aP
      simp only[au]at hi;subst hi
      cases hl:lk tb i with
      |some o=>
       refine⟨o,o,?_,.inr (.inl (O.CE (Zmd h5 hl).2)),.inl (e_ _ (Pq hl))⟩
       show (sZ (yv P.globals.size) tb).get i=_
       rw[Bg,hl]
      |none=>
       refine⟨.dead,.dead,?_,.inl rfl,.inr rfl⟩
       show (sZ (yv P.globals.size) tb).get i=_
       rw[Bg,hl]
       exact S4 _ _ aP
     ·cases hi
    old:=fun _ _=>rfl
    new:=fun i i' hi hr=>by
     have:P.globals.size<=i:=hi
     rw[aA (by omega)]at hr;cases hr
    Js:=fun i j i' hi _ hr _=>by
     have:P.globals.size<=i:=hi
     rw[aA (by omega)]at hr;cases hr
    full:=fun i' h1 h2=>by omega
    iT:=aZ _
    w0:=rfl
    W1:=fun i i' hi _=>by rw[hw]at hi;cases hi
    W2:=fun j hj=>by cases hj
    wl:=rfl
    ah:=fun _ _ _=>rfl
    wr:=fun i i' hi _=>by rw[hw]at hi;cases hi
    obn:=fun i i' hi hr=>by
     have:P.globals.size<=i:=hi
     rw[aA (by omega)]at hr;cases hr}
   exact(LY.frame (hc _ _ _ _ _ b_) F (V.jP _ (by rfl)) (V.dX _ h3) (V.jP _ h2)) μ w Gv xs hh hG hx
  ·cases h
 ·cases h
def Mo:List mw->Nat->List V->Option V
 |[],_,_=>none
 |e::l,f,args=>match Nat.beq e.f f with
  |true=>match V.i_ e.args args with
   |true=>some e.v
   |false=>Mo l f args
  |false=>Mo l f args
def Mp(tb:List (Nat×O))(l:List mw):cM
 |.func f [] [],args,st=>match Mo l f args with
  |some v=>match Ei st tb with
   |true=>some (v,st)
   |false=>none
  |none=>none
 |_,_,_=>none
def Zmo:∀{l:List mw} {f:Nat} {args:List V} {v:V},Mo l f args=some v->∃e∈l,e.f=f/\e.args=args/\e.v=v
 |[],_,_,_,h=>by cases h
 |e::l,f,args,v,h=>by
  simp only[Mo]at h
  split at h
  ·rename_i e1
   split at h
   ·rename_i e2
    simp only[au]at h
    exact⟨e,oM,jl e1,V.dt _ _ e2,h⟩
   ·obtain⟨e',h1,h2⟩:=Zmo h;exact⟨e',mD _ h1,h2⟩
  ·obtain⟨e',h1,h2⟩:=Zmo h;exact⟨e',mD _ h1,h2⟩
def Zve{tb:List (Nat×O)}{l:List mw}(h:∀e∈l,Ypv P tb e):js P (Mp tb l):=by
 intro g args st v aB hc
 unfold Mp at hc
 split at hc
 ·rename_i f
  split at hc
  ·rename_i u hu
   split at hc
   ·rename_i hp
    simp only[au,bj]at hc
    obtain⟨rfl,rfl⟩:=hc
    obtain⟨e,h1,rfl,rfl,rfl⟩:=Zmo hu
    exact h e h1 st hp
   ·cases hc
  ·cases hc
 ·cases hc
structure kf where
 f:Nat
 first:List V
 gD:List V
 args:List V
 part:List (Nat×O)
 n:Nat
 v:V
 kept:List (Nat×O)
 Bq:List (Nat×O)
def kf.st(e:kf)(G:Nat):St:=⟨sZ (yv G) e.part,e.n,[]⟩
def sig(G:Nat)(part:List (Nat×O))(i:Nat):Option Nat:=
 match Nat.blt i G with
 |true=>some i
 |false=>match lk part i with
  |some _=>some i
  |none=>none
def idx(i:Nat):List (Nat×O)->Nat->Option Nat
 |[],_=>none
 |(k,_)::l,m=>match Nat.beq k i with
  |true=>some m
  |false=>idx i l (m+1)
def CF(G:Nat)(part:List (Nat×O))(n:Nat)(kept:List (Nat×O))(i:Nat):Option Nat:=
 match Nat.blt i n with
 |true=>sig G part i
 |false=>idx i kept n
def CG:List (Nat×O)->Nat->List (Nat×O)
 |[],_=>[]
 |(_,o)::l,m=>(m,o)::CG l (m+1)
def Mq(ρ:Nat->Option Nat)(s:St)(i:Nat)(o':O):Bool:=
 match s.h.get i with
 |some o=>match o' with
  |.dead=>true
  |o'=>Mn (o.cj ρ) o'
 |none=>false
def Tt(ρ:Nat->Option Nat)(s:St)(n:Nat):List (Nat×O)->Nat->Bool
 |[],_=>true
 |(k,o)::l,m=>Pp (ρ k) (some m)&&Nat.ble n k&&Nat.blt k s.n&&Mq ρ s k o&&Tt ρ s n l (m+1)
def kf.bZ(e:kf)(G:Nat)(v:V)(s:St):Bool:=
 Nat.ble G e.n&&Nat.ble e.n s.n&&(e.part.all fun p=>Nat.blt p.1 e.n&&Mn (p.2.cj (sig G e.part)) p.2)&&
 Ts (V.eH (sig G e.part) e.first) e.first&&Ts (V.eH (sig G e.part) e.gD) e.gD&&Ts (V.eH (sig G e.part) e.args) e.args&&
 vEq (V.cj (CF G e.part e.n e.kept) v) e.v&&
 Tt (CF G e.part e.n e.kept) s e.n e.kept e.n&&
 (s.w.all fun i=>match sig G e.part i with|some _=>JG i (e.Bq.map (·.1))|none=>true)&&
 (e.Bq.all fun p=>JG p.1 s.w&&Pp (sig G e.part p.1) (some p.1)&&Mq (CF G e.part e.n e.kept) s p.1 p.2)
def kf.ok(e:kf)(G:Nat)(call:cM):Bool:=
 match call (.func e.f e.first e.gD) e.args (e.st G)with
 |some (v,s)=>e.bZ G v s
 |none=>false
def kf.out(e:kf)(S:St):St:=⟨sZ (sZ S.h e.Bq) (CG e.kept e.n),e.n+e.kept.length,e.Bq.map (·.1)++S.w⟩
def Ps(e:kf):cM
 |.func f a c,args,S=>match Nat.beq e.f f with
  |true=>match V.i_ e.args args&&V.i_ e.first a&&V.i_ e.gD c&&Nat.beq S.n e.n&&Ei S e.part with
   |true=>some (e.v,e.out S)
   |false=>none
  |false=>none
 |_,_,_=>none
def Pt{i:Nat}:∀{l:List (Nat×O)} {m i':Nat},idx i l m=some i'->m<=i'/\i'<m+l.length/\∃o,l[i'-m]?=some (i,o)
 |[],m,i',h=>by cases h
 |(k,o)::l,m,i',h=>by
  simp only[idx]at h
  split at h
  ·rename_i e
   simp only[au]at h;subst h
   have:=jl e;subst this
   exact⟨aZ _,by simp,o,by simp⟩
  ·obtain⟨h1,h2,o',h3⟩:=Pt h
   refine⟨by omega,by simp;omega,o',?_⟩
   rw[show i'-m=(i'-(m+1))+1 by omega]
   simpa using h3
def Zoq:∀{l:List (Nat×O)} {m j:Nat} {p:Nat×O},l[j]?=some p->lk (CG l m) (m+j)=some p.2
 |[],m,j,p,h=>by simp at h
 |(k,o)::l,m,0,p,h=>by
  simp at h;subst h
  simp[CG,lk]
 |(k,o)::l,m,j+1,p,h=>by
  simp only[CG,lk]
  have:Nat.beq m (m+(j+1))=false:=by
   cases hb:Nat.beq m (m+(j+1))with
   |false=>rfl
   |true=>have:=jl hb;omega
  rw[this,show m+(j+1)=(m+1)+j by omega]
  exact Zoq (by simpa using h)
def Zlb:∀{l:List (Nat×O)} {m i:Nat},i<m->lk (CG l m) i=none
 |[],_,_,_=>rfl
 |(k,o)::l,m,i,h=>by
  simp only[CG,lk]
  have:Nat.beq m i=false:=by
   cases hb:Nat.beq m i with
   |false=>rfl
   |true=>have:=jl hb;omega
  rw[this]
  exact Zlb (by omega)
def Zou{ρ:Nat->Option Nat}{s:St}{n:Nat}:∀{l:List (Nat×O)} {m:Nat},Tt ρ s n l m=true->∀{j:Nat} {p:Nat×O},l[j]?=some p->ρ p.1=some (m+j)/\n<=p.1/\p.1<s.n/\Mq ρ s p.1 p.2=true
 |[],m,_,j,p,h=>by simp at h
 |(k,o)::l,m,h,j,p,hj=>by
  simp only[Tt,ji]at h
  obtain⟨⟨⟨⟨h1,h2⟩,h3⟩,h4⟩,h5⟩:=h
  cases j with
  |zero=>
   simp at hj;subst hj
   exact⟨Zmz h1,uY h2,B1 (uY h3),h4⟩
  |succ j=>
   obtain⟨q1,q2⟩:=Zou h5 (j:=j) (by simpa using hj)
   exact⟨by rw[q1];congr 1;omega,q2⟩
def Zop{ρ:Nat->Option Nat}{s:St}{o':O}(h:Mq ρ s i o'=true):∃o,s.h.get i=some o/\(o'=.dead\/o.cj ρ=some o'):=by
 unfold Mq at h
 split at h
 ·rename_i o ho
  refine⟨o,ho,?_⟩
  split at h
  ·exact .inl rfl
  ·exact .inr (Yaz h)
 ·cases h
def Mr{part:List (Nat×O)}{i':Nat}(h:sig G part i=some i'):i'=i/\(i<G\/∃o,lk part i=some o):=by
 unfold sig at h
 split at h
 ·rename_i e
  simp only[au]at h
  exact⟨h.symm,.inl (B1 (uY e))⟩
 ·split at h
  ·rename_i o ho
   simp only[au]at h
   exact⟨h.symm,.inr ⟨o,ho⟩⟩
  ·cases h
def Zyy{call:cM}(b_:js P call){e:kf}(h:e.ok P.globals.size call=true):js P (Ps e):=by
 intro g args S v S' hc
 unfold Ps at hc
 split at hc
 ·rename_i f a c
  split at hc
  ·rename_i hf
   have hf:=jl hf
   subst hf
   split at hc
   ·rename_i cW
    simp only[ji]at cW
    obtain⟨⟨⟨⟨c1,c2⟩,c3⟩,c4⟩,c5⟩:=cW
    have c1:=V.dt _ _ c1
    have c2:=V.dt _ _ c2
    have c3:=V.dt _ _ c3
    have c4:=jl c4
    have c5:=Zkv c5
    simp only[au,bj]at hc
    obtain⟨rfl,rfl⟩:=hc
    subst c1;subst c2;subst c3
    unfold kf.ok at h
    split at h
    ·rename_i v0 s bL
     unfold kf.bZ at h
     simp only[ji,sN]at h
     obtain⟨⟨⟨⟨⟨⟨⟨⟨⟨k1,k2⟩,k3⟩,k4⟩,k5⟩,k6⟩,k7⟩,k8⟩,k9⟩,k10⟩:=h
     have k1:=uY k1
     have k2:=uY k2
     have e_:∀i o,lk e.part i=some o->i<e.n/\o.cj (sig P.globals.size e.part)=some o/\S.h.get i=some o:=fun i o ho=>by
      have hm:=Pq ho
      obtain⟨q1,q2⟩:=k3 _ hm
      exact⟨B1 (uY q1),Yaz q2,c5 _ hm⟩
     have Tu:∀i,e.n<=i->CF P.globals.size e.part e.n e.kept i=idx i e.kept e.n:=fun i hi=>by
      unfold CF
      have:Nat.blt i e.n=false:=by
       cases hb:Nat.blt i e.n with
       |false=>rfl
       |true=>have:=B1 (uY hb);omega
      rw[this]
     have Ad:∀j p,e.kept[j]?=some p->CF P.globals.size e.part e.n e.kept p.1=some (e.n+j)/\e.n<=p.1/\p.1<s.n/\Mq (CF P.globals.size e.part e.n e.kept) s p.1 p.2=true:=fun j p hj=>Zou k8 hj
     have Pv:∀j,j<e.n->(e.out S).h.get j=match lk e.Bq j with|some o=>some o|none=>S.h.get j:=fun j hj=>by
      show (sZ (sZ S.h e.Bq) (CG e.kept e.n)).get j=_
      rw[Bg,Zlb hj,Bg]
     have F:Jr P (sig P.globals.size e.part) (CF P.globals.size e.part e.n e.kept) (e.Bq.map (·.1)) (e.st P.globals.size) s S (e.out S):={
      dc:=fun i i' hi=>by
       obtain⟨rfl,Ma⟩:=Mr hi
       have:i'<e.n:=by
        rcases Ma with h|⟨o,ho⟩
        ·omega
        ·exact(e_ _ _ ho).1
       exact⟨this,by omega⟩
      inj:=fun i j i' hi hj=>by rw[<-(Mr hi).1,<-(Mr hj).1]
      ij:=fun g hg=>by
       unfold sig
       have:Nat.blt g P.globals.size=true:=SK hg
       rw[this]
      obj:=fun i i' hi=>by
       obtain⟨rfl,Ma⟩:=Mr hi
       cases hl:lk e.part i' with
       |some o=>
        obtain⟨q1,q2,q3⟩:=e_ _ _ hl
        refine⟨o,o,?_,.inr (.inl q2),.inl q3⟩
        show (sZ (yv P.globals.size) e.part).get i'=_
        rw[Bg,hl]
       |none=>
        have hg:i'<P.globals.size:=by
         rcases Ma with h|⟨o,ho⟩
         ·exact h
         ·rw[hl]at ho;cases ho
        refine⟨.dead,.dead,?_,.inl rfl,.inr rfl⟩
        show (sZ (yv P.globals.size) e.part).get i'=_
        rw[Bg,hl]
        exact S4 _ _ hg
      old:=fun i hi=>by
       have:Nat.blt i e.n=true:=SK hi
       unfold CF;rw[this]
      new:=fun i i' hi hr=>by
       rw[Tu i hi]at hr
       obtain⟨q1,q2,o,q3⟩:=Pt hr
       obtain⟨_,_,r3,_⟩:=Ad _ _ q3
       exact⟨by omega,q2,r3⟩
      Js:=fun i j i' hi hj LZ hrj=>by
       rw[Tu i hi]at LZ
       rw[Tu j hj]at hrj
       obtain⟨_,_,o,q3⟩:=Pt LZ
       obtain⟨_,_,o',SZ⟩:=Pt hrj
       rw[q3]at SZ
       cases SZ;rfl
      full:=fun i' h1 h2=>by
       have l_:i'<e.n+e.kept.length:=h2
       obtain⟨p,hp⟩:∃p,e.kept[i'-e.n]?=some p:=⟨_,eA (by omega)⟩
       obtain⟨r1,r2,_,_⟩:=Ad _ _ hp
       exact⟨p.1,r2,by rw[r1];congr 1;omega⟩
      iT:=by show S.n<=e.n+e.kept.length;omega
      w0:=rfl
      W1:=fun i i' hi hs=>by
       obtain⟨rfl,_⟩:=Mr hs
       have:=k9 _ hi
       rw[hs]at this
       exact Pr.1 this
      W2:=fun j hj=>by
       obtain⟨p,hp,rfl⟩:=AG.1 hj
       obtain⟨⟨q1,q2⟩,_⟩:=k10 _ hp
       exact⟨p.1,Pr.1 q1,Zmz q2⟩
      wl:=rfl
      ah:=fun j hj hn=>by
       rw[Pv j (by omega)]
       cases hl:lk e.Bq j with
       |none=>rfl
       |some o=>exact absurd (AG.2 ⟨_,Pq hl,rfl⟩) hn
      wr:=fun i i' hi hs=>by
       obtain⟨rfl,Ma⟩:=Mr hs
       have aP:i'<e.n:=by
        rcases Ma with h|⟨o,ho⟩
        ·omega
        ·exact(e_ _ _ ho).1
       have:=k9 _ hi
       rw[hs]at this
       obtain⟨p,hp,Pw⟩:=AG.1 (Pr.1 this)
       obtain⟨o',wA⟩:=Ykb (l:=e.Bq) (i:=i') (o:=p.2) (by rw[<-Pw];exact hp)
       obtain⟨_,q3⟩:=k10 _ (Pq wA)
       obtain⟨o,r1,r2⟩:=Zop q3
       exact⟨o,o',r1,by rw[Pv _ aP,wA],r2⟩
      obn:=fun i i' hi hr=>by
       rw[Tu i hi]at hr
       obtain⟨q1,q2,o,q3⟩:=Pt hr
       obtain⟨_,_,_,r4⟩:=Ad _ _ q3
       obtain⟨o2,t1,t2⟩:=Zop r4
       refine⟨o2,o,t1,?_,t2⟩
       show (sZ (sZ S.h e.Bq) (CG e.kept e.n)).get i'=_
       have:=Zoq (m:=e.n) q3
       rw[show e.n+(i'-e.n)=i' by omega]at this
       rw[Bg,this]}
     refine LY.frame (b_ _ _ _ _ _ bL) F ?_ (Zsk k6) (Yl1 k7)
     simp only[V.cj,Zsk k4,Zsk k5]
    ·cases h
   ·cases hc
  ·cases hc
 ·cases hc
def yu(x:cM)(dN:Nat->Option lC)(fuel:Nat):Nat->cM
 |0=>x
 |d+1=>sY x (xw dN (dV (yu x dN fuel d) fuel))
def S3{P:Program}{dN:Nat->Option lC}(hm:P.follows .mixedOrders=true)(hE:tN P)(ht:Zus P dN){x:cM}(hx:js P x)(fuel:Nat):∀d,js P (yu x dN fuel d)
 |0=>hx
 |d+1=>by
  have ih:=S3 hm hE ht hx fuel d
  exact hx.or (Zuk ht (Ydd ih hE (Yct hm hE ih) (Yhh ih hE) (Zu6 ih) fuel))
def Tv:List kf->Nat->List V->List V->List V->St->Option (V×St)
 |[],_,_,_,_,_=>none
 |e::l,f,a,c,args,S=>match Nat.beq e.f f with
  |true=>match Ps e (.func f a c) args S with
   |some r=>some r
   |none=>Tv l f a c args S
  |false=>Tv l f a c args S
def Ykx(l:List kf):cM
 |.func f a c,args,S=>Tv l f a c args S
 |_,_,_=>none
def Yge{l:List kf}(h:∀e∈l,js P (Ps e)):js P (Ykx l):=by
 intro g args S v S' hc
 unfold Ykx at hc
 split at hc
 ·rename_i f a c
  induction l with
  |nil=>cases hc
  |cons e l ih=>
   simp only[Tv]at hc
   split at hc
   ·split at hc
    ·rename_i r hr
     cases hc
     exact h e oM _ _ _ _ _ hr
    ·exact ih (fun e he=>h e (mD _ he)) hc
   ·exact ih (fun e he=>h e (mD _ he)) hc
 ·cases hc
def Px(tb:List (Nat×O))(L:List mw)(E:List kf):cM:=sY (Mp tb L) (Ykx E)
structure ar (P:Program) (tb:List (Nat×O)) (L:List mw) (E:List kf):Prop where
 p:∀e∈L,Ypv P tb e
 e:∀e∈E,js P (Ps e)
def ar.call{tb:List (Nat×O)}{L:List mw}{E:List kf}(h:ar P tb L E):js P (Px tb L E):=(Zve h.p).or (Yge h.e)
def ar.nil{tb:List (Nat×O)}:ar P tb [] []:=⟨fun _ h=>(by cases h),fun _ h=>(by cases h)⟩
structure Dd (P:Program) (dN:Nat->Option lC) (G:Nat):Prop where
 m:P.follows .mixedOrders=true
 e:tN P
 t:Zus P dN
 g:P.globals.size=G
def ar.zd4{dN:Nat->Option lC}{fuel d:Nat}(hP:Dd P dN G){tb:List (Nat×O)}{L:List mw}{E:List kf}(h:ar P tb L E){e:mw}(he:e.ok tb G (yu (Px tb L E) dN fuel d)=true):ar P tb (e::L) E:=
 ⟨fun e' hm=>by
  rcases ku.1 hm with rfl|hm
  ·exact mw.pure (S3 hP.m hP.e hP.t h.call fuel d) (by rw[hP.g];exact he)
  ·exact h.p e' hm,h.e⟩
def ar.zd5{dN:Nat->Option lC}{fuel d:Nat}(hP:Dd P dN G){tb:List (Nat×O)}{L:List mw}{E:List kf}(h:ar P tb L E){e:kf}(he:e.ok G (yu (Px tb L E) dN fuel d)=true):ar P tb L (e::E):=
 ⟨h.p,fun e' hm=>by
  rcases ku.1 hm with rfl|hm
  ·exact Zyy (S3 hP.m hP.e hP.t h.call fuel d) (by rw[hP.g];exact he)
  ·exact h.e e' hm⟩
def Yht(tb:List (Nat×O))(G:Nat)(dN:Nat->Option lC)(L:List mw)(E:List kf):Bool:=match L with
 |[]=>false
 |e::t=>e.ok tb G (yu (Px tb t E) dN 5000 40)
def Ycf(tb:List (Nat×O))(G:Nat)(dN:Nat->Option lC)(L:List mw)(E:List kf):Bool:=match E with
 |[]=>false
 |e::t=>e.ok G (yu (Px tb L t) dN 5000 40)
def ar.p1{P:Program}{dN:Nat->Option lC}{G:Nat}(hP:Dd P dN G){tb:List (Nat×O)}{L:List mw}{E:List kf}(h:ar P tb L.tail E)(he:Yht tb G dN L E=true):ar P tb L E:=by
 cases L with
 |nil=>exact h
 |cons e t=>exact ar.zd4 hP h he
def ar.e1{P:Program}{dN:Nat->Option lC}{G:Nat}(hP:Dd P dN G){tb:List (Nat×O)}{L:List mw}{E:List kf}(h:ar P tb L E.tail)(he:Ycf tb G dN L E=true):ar P tb L E:=by
 cases E with
 |nil=>exact h
 |cons e t=>exact ar.zd5 hP h he
section
variable {call:cM} {f:Nat} {ro:Option Nat} {a b c:cF} {fr:Fr} {st:St}
end
def Ymo{a b:Nat}:Nat.blt a b=decide (a<b):=by
 cases h:Nat.blt a b
 ·symm;simp only[decide_eq_false_iff_not];intro hc;rw[show Nat.blt a b=true from SK hc]at h;cases h
 ·symm;simp only[decide_eq_true_eq];exact B1 (uY h)
def Ymp{a b:Nat}:Nat.ble a b=decide (a<=b):=by
 cases h:Nat.ble a b
 ·symm;simp only[decide_eq_false_iff_not];intro hc;rw[SK hc]at h;cases h
 ·symm;simp only[decide_eq_true_eq];exact uY h
def cL{n:Int}(h1: -9223372036854775808<=n)(h2:n<9223372036854775808):bn .i64 n=n:=by
 rw[zB]
 simp[IntKind.wrap,IntKind.bits,IntKind.signed]
 omega
def Zyj{k a b}:qT .add k a b=some (.int k (bn k (a+b))):=rfl
def Zx8{k a b}:qT .sub k a b=some (.int k (bn k (a-b))):=rfl
def Zyd{k a b}:qT .mul k a b=some (.int k (bn k (a*b))):=rfl
def Zyb{k a b}(h:¬b=0):qT .quo k a b=some (.int k (bn k (a.tdiv b))):=by simp[qT,h]
def Zya{k a b}(h:¬b=0):qT .rem k a b=some (.int k (a.tmod b)):=by simp[qT,h]
def Zyi{k a b}:qT .eql k a b=some (.bool (a==b)):=rfl
def Zyc{k a b}:qT .neq k a b=some (.bool (a !=b)):=rfl
def Zye{k a b}:qT .lss k a b=some (.bool (decide (a<b))):=rfl
def Zyf{k a b}:qT .leq k a b=some (.bool (decide (a<=b))):=rfl
def Zyg{k a b}:qT .gtr k a b=some (.bool (decide (a > b))):=rfl
def Zyh{k a b}:qT .geq k a b=some (.bool (decide (a≥b))):=rfl
def Yjy(x):cG (.pe x)=I1 x:=rfl
def Yfo(a b c):cG (.pick a b c)=DN a b c:=rfl
def Ybm(a b):cG (.alloc a b)=LM a b:=rfl
def Yj2(a b):cG (.box a b)=I3 a b:=rfl
def Ybl(a b):cG (.build a b)=Ca a b:=rfl
def Zxt(a b c d e):cG (.kP a b c d e)=I4 a b c d e:=rfl
def Yfp(a b):cG (.load a b)=Zip a b:=rfl
def Ybd(a b c):cG (.store a b c)=DO a b c:=rfl
def Ybf(a):cG (.nV a)=I5 a:=rfl
def Yj3(a b c d e):cG (.bin a b c d e)=I6 a b c d e:=rfl
def Ymr(a b):cG (.un a b)=I7 a b:=rfl
def Ztx(a b):cG (.dr a b)=I8 a b:=rfl
def Zxm(a b c):cG (.nX a b c)=Ja a b c:=rfl
def Ybi(a b):cG (.sO a b)=Jb a b:=rfl
def Ybh(a b c):cG (.field a b c)=Jc a b c:=rfl
def Zq7(a b c d):cG (.il a b c d)=Cc a b c d:=rfl
def Ztu(a b c):cG (.iI a b c)=DR a b c:=rfl
def Ztv(a b):cG (.extract a b)=Jg a b:=rfl
def Yjz(a b):cG (.len a b)=xE a b:=rfl
def Yfr(a b):cG (.call a b)=yt a b:=rfl
structure Yns (r:Option (V×St)) (v:V):Prop where
 ex:∃s,r=some (v,s)/\s.w=[]
def Zym{u v:V}{s:St}:Yns (some (u,s)) v↔u=v/\s.w=[]:=
 ⟨fun ⟨_,h1,h2⟩=>by simp only[au,bj]at h1;exact⟨h1.1,h1.2▸h2⟩,fun ⟨h1,h2⟩=>⟨s,by rw[h1],h2⟩⟩
attribute [simp]
 Yjy Yfo Ybm Yj2 Ybl Zxt Yfp Ybd Ybf Yj3 Ymr Ztx Zxm Ybi Ybh Zq7 Ztu Ztv Yjz Yfr
 I1 DN LM I3 Ca I4 Zip I5 I6 I7 I8 Ja Jb Jc Cc Jg yt
 yg bW Src.ev T.aj ic Dx aD Ypl Zyj Zx8 Zyd Zyb Zya Zyi Zyc Zye Zyf Zyg Zyh iX unV tY aC A9 A8 aJ V.cells V.one St.alloc St.write St.row cL Ymo Ymp xr oU gF.nY SP iG bU bU.go bU.bZ FP.free vY Nat.testBit Zym base
end Go.Mx

