/-Calls that are known-/
import Derived.Test.YtlfdeoomaccciaaGreatDoorMxDraw2
import Derived.Test.YtlfdeoomaccciaaGreatDoorMxFrame
import Derived.Below
import Derived.CallsIn
set_option linter.all false
namespace Go.Mx
open Go
variable {G i:Nat} {P:Program}
def My:Bool->Bool->Bool
 |true,b=>b
 |false,true=>false
 |false,false=>true
def QV:IntKind->Nat
 |.i8=>0|.i16=>1|.i32=>2|.i64=>3|.u8=>4|.u16=>5|.u32=>6|.u64=>7
def XJ:Int->Int->Bool
 |.ofNat a,b=>match b with
  |.ofNat b=>Nat.beq a b
  |.negSucc _=>false
 |.negSucc a,b=>match b with
  |.ofNat _=>false
  |.negSucc b=>Nat.beq a b
def Ho:List UInt8->List UInt8->Bool
 |[],l=>match l with
  |[]=>true
  |_::_=>false
 |a::xs,l=>match l with
  |[]=>false
  |b::ys=>match Nat.beq a.toNat b.toNat with
   |true=>Ho xs ys
   |false=>false
def Mz:Option Nat->Option Nat->Bool
 |none,b=>match b with
  |none=>true
  |some _=>false
 |some a,b=>match b with
  |none=>false
  |some b=>Nat.beq a b
def XK{a b:Bool}(h:My a b=true):a=b:=by cases a<;>cases b<;>simp_all [My]
def jD{a b:Nat}(h:Nat.beq a b=true):a=b:=P6 h
def Yog{a b:IntKind}(h:Nat.beq (QV a) (QV b)=true):a=b:=by cases a<;>cases b<;>first|rfl|(exact absurd h (by decide))
def Yis{a b:Int}(h:XJ a b=true):a=b:=by
 cases a<;>cases b<;>simp only[XJ,fI]at h
 ·rw[jD h]
 ·rw[jD h]
def XL:∀{a b:List UInt8},Ho a b=true->a=b
 |[],[],_=>rfl
 |[],_::_,h=>by simp[Ho]at h
 |_::_,[],h=>by simp[Ho]at h
 |a::xs,b::ys,h=>by
  simp only[Ho]at h
  split at h
  ·rename_i e
   rw[XL h,UInt8.toNat_inj.1 (jD e)]
  ·cases h
def XM{a b:Option Nat}(h:Mz a b=true):a=b:=by
 cases a<;>cases b<;>simp only[Mz,fI]at h
 ·rfl
 ·rw[jD h]
def QW:FloatKind->Nat
 |.f32=>0|.f64=>1
def Yon{a b:FloatKind}(h:Nat.beq (QW a) (QW b)=true):a=b:=by cases a<;>cases b<;>first|rfl|(exact absurd h (by decide))
def V.isBool(x:Bool):V->Bool|.bool y=>My x y|_=>false
def V.isInt(k:IntKind)(n:Int):V->Bool|.int k' n'=>(match Nat.beq (QV k) (QV k')with|true=>XJ n n'|false=>false)|_=>false
def V.EM(k:FloatKind)(n:Nat):V->Bool|.vi k' n'=>(match Nat.beq (QW k) (QW k')with|true=>Nat.beq n n'|false=>false)|_=>false
def V.isStr(s:List UInt8):V->Bool|.str t=>Ho s t|_=>false
def V.tS:V->Bool|.bF=>true|_=>false
def V.EN(i o:Nat):V->Bool|.ptr i' o'=>(match Nat.beq i i' with|true=>Nat.beq o o'|false=>false)|_=>false
def V.oO:V->Bool|.aa=>true|_=>false
def V.isSlice(i o l:Nat)(c:Option Nat)(z:Nat):V->Bool|.slice i' o' l' c' z'=>Nat.beq i i'&&Nat.beq o o'&&Nat.beq l l'&&Mz c c'&&Nat.beq z z'|_=>false
def V.isEmpty:V->Bool|.empty=>true|_=>false
def V.tU:V->Bool|.bN=>true|_=>false
def V.EO(i:Nat):V->Bool|.map j=>Nat.beq i j|_=>false
def V.qq:V->Bool|.bP=>true|_=>false
def V.isChan(i:Nat):V->Bool|.chan j=>Nat.beq i j|_=>false
def V.xE(i:Nat):V->Bool|.yield j=>Nat.beq i j|_=>false
def V.qt:V->Bool|.bQ=>true|_=>false
def V.oP:V->Bool|.aY=>true|_=>false
mutual
def V.beq:V->V->Bool
 |.bool x,b=>b.isBool x
 |.int k n,b=>b.isInt k n
 |.vi k n,b=>b.EM k n
 |.str s,b=>b.isStr s
 |.bF,b=>b.tS
 |.ptr i o,b=>b.EN i o
 |.aa,b=>b.oO
 |.slice i o l c z,b=>b.isSlice i o l c z
 |.empty,b=>b.isEmpty
 |.bN,b=>b.tU
 |.map i,b=>b.EO i
 |.bP,b=>b.qq
 |.chan i,b=>b.isChan i
 |.func f a c,b=>match b with
  |.func f' a' c'=>Nat.beq f f'&&V.iT a a'&&V.iT c c'
  |_=>false
 |.yield i,b=>b.xE i
 |.bQ,b=>b.qt
 |.iface t v,b=>match b with
  |.iface t' v'=>Nat.beq t t'&&V.beq v v'
  |_=>false
 |.aY,b=>b.oP
 |.agg l,b=>match b with
  |.agg l'=>V.iT l l'
  |_=>false
 |.aV l,b=>match b with
  |.aV l'=>V.iT l l'
  |_=>false
def V.iT:List V->List V->Bool
 |[],l=>match l with
  |[]=>true
  |_::_=>false
 |a::xs,l=>match l with
  |[]=>false
  |b::ys=>match V.beq a b with
   |true=>V.iT xs ys
   |false=>false
end
mutual
def V.beq_eq:∀(a b:V),V.beq a b=true->a=b
 |.bool x,b,h=>by cases b<;>simp only[V.beq,V.isBool,fI]at h;rw[XK h]
 |.int k n,b,h=>by
  cases b<;>simp only[V.beq,V.isInt,fI]at h
  split at h
  ·rename_i e;rw[Yog e,Yis h]
  ·cases h
 |.vi k n,b,h=>by
  cases b<;>simp only[V.beq,V.EM,fI]at h
  split at h
  ·rename_i e;rw[Yon e,jD h]
  ·cases h
 |.str s,b,h=>by cases b<;>simp only[V.beq,V.isStr,fI]at h;rw[XL h]
 |.bF,b,h=>by cases b<;>simp only[V.beq,V.tS,fI]at h;rfl
 |.ptr i o,b,h=>by
  cases b<;>simp only[V.beq,V.EN,fI]at h
  split at h
  ·rename_i e;rw[jD e,jD h]
  ·cases h
 |.aa,b,h=>by cases b<;>simp only[V.beq,V.oO,fI]at h;rfl
 |.slice i o l c z,b,h=>by
  cases b<;>simp only[V.beq,V.isSlice,fI,iy]at h
  obtain⟨⟨⟨⟨h1,h2⟩,h3⟩,h4⟩,h5⟩:=h
  rw[jD h1,jD h2,jD h3,XM h4,jD h5]
 |.empty,b,h=>by cases b<;>simp only[V.beq,V.isEmpty,fI]at h;rfl
 |.bN,b,h=>by cases b<;>simp only[V.beq,V.tU,fI]at h;rfl
 |.map i,b,h=>by cases b<;>simp only[V.beq,V.EO,fI]at h;rw[jD h]
 |.bP,b,h=>by cases b<;>simp only[V.beq,V.qq,fI]at h;rfl
 |.chan i,b,h=>by cases b<;>simp only[V.beq,V.isChan,fI]at h;rw[jD h]
 |.func f a c,b,h=>by
  cases b<;>simp only[V.beq,fI,iy]at h
  obtain⟨⟨h1,h2⟩,h3⟩:=h
  rw[jD h1,V.di _ _ h2,V.di _ _ h3]
 |.yield i,b,h=>by cases b<;>simp only[V.beq,V.xE,fI]at h;rw[jD h]
 |.bQ,b,h=>by cases b<;>simp only[V.beq,V.qt,fI]at h;rfl
 |.iface t v,b,h=>by
  cases b<;>simp only[V.beq,fI,iy]at h
  rw[jD h.1,V.beq_eq _ _ h.2]
 |.aY,b,h=>by cases b<;>simp only[V.beq,V.oP,fI]at h;rfl
 |.agg l,b,h=>by cases b<;>simp only[V.beq,fI]at h;rw[V.di _ _ h]
 |.aV l,b,h=>by cases b<;>simp only[V.beq,fI]at h;rw[V.di _ _ h]
def V.di:∀(a b:List V),V.iT a b=true->a=b
 |[],[],_=>rfl
 |[],_::_,h=>by simp[V.iT]at h
 |_::_,[],h=>by simp[V.iT]at h
 |a::xs,b::ys,h=>by
  simp only[V.iT]at h
  split at h
  ·rename_i e;rw[V.beq_eq a b e,V.di xs ys h]
  ·cases h
end
def JT:List (V×V)->List (V×V)->Bool
 |[],l=>match l with
  |[]=>true
  |_::_=>false
 |(k,v)::xs,l=>match l with
  |[]=>false
  |(k',v')::ys=>V.beq k k'&&V.beq v v'&&JT xs ys
def Yek:∀{a b:List (V×V)},JT a b=true->a=b
 |[],[],_=>rfl
 |[],_::_,h=>by simp[JT]at h
 |_::_,[],h=>by simp[JT]at h
 |(k,v)::xs,(k',v')::ys,h=>by
  simp only[JT,iy]at h
  rw[V.beq_eq _ _ h.1.1,V.beq_eq _ _ h.1.2,Yek h.2]
def O.beq:O->O->Bool
 |.cells c e rw,b=>match b with
  |.cells c' e' pn=>Nat.beq e e'&&My rw pn&&V.iT c c'
  |_=>false
 |.map es,b=>match b with
  |.map gZ=>JT es gZ
  |_=>false
 |.chan cap buf,b=>match b with
  |.chan cap' Cj=>Nat.beq cap cap'&&V.iT buf Cj
  |_=>false
 |.eC s pos,b=>match b with
  |.eC s' pos'=>Ho s s'&&Nat.beq pos pos'
  |_=>false
 |.defs o,b=>match b with
  |.defs o'=>My o o'
  |_=>false
 |.loop _,_=>false
 |.dead,b=>match b with
  |.dead=>true
  |_=>false
def O.beq_eq{a b:O}(h:O.beq a b=true):a=b:=by
 cases a<;>simp only[O.beq,fI]at h<;>cases b<;>simp only[fI,iy]at h
 ·obtain⟨⟨h1,h2⟩,h3⟩:=h;rw[jD h1,XK h2,V.di _ _ h3]
 ·rw[Yek h]
 ·rw[jD h.1,V.di _ _ h.2]
 ·rw[XL h.1,jD h.2]
 ·rw[XK h]
 ·rfl
def Jz:Option O->O->Bool
 |some a,b=>O.beq a b
 |none,_=>false
def XN{a:Option O}{b:O}(h:Jz a b=true):a=some b:=by
 cases a with
 |none=>cases h
 |some a=>rw[O.beq_eq h]
def vEq:Option V->V->Bool
 |some a,b=>V.beq a b
 |none,_=>false
def Yql{a:Option V}{b:V}(h:vEq a b=true):a=some b:=by
 cases a with
 |none=>cases h
 |some a=>rw[V.beq_eq _ _ h]
def QX:Option (List V)->List V->Bool
 |some a,b=>V.iT a b
 |none,_=>false
def XO{a:Option (List V)}{b:List V}(h:QX a b=true):a=some b:=by
 cases a with
 |none=>cases h
 |some a=>rw[V.di _ _ h]
mutual
def V.free:V->Bool
 |.ptr ..|.slice ..|.map _|.chan _|.yield _=>false
 |.func _ a c=>V.jQ a&&V.jQ c
 |.iface _ v=>V.free v
 |.agg l=>V.jQ l
 |.aV l=>V.jQ l
 |_=>true
def V.jQ:List V->Bool
 |[]=>true
 |v::vs=>V.free v&&V.jQ vs
end
mutual
def V.jR{ρ:Nat->Option Nat}:∀(v:V),V.free v=true->V.bV ρ v=some v
 |.bool _,_=>rfl
 |.int _ _,_=>rfl
 |.vi _ _,_=>rfl
 |.str _,_=>rfl
 |.bF,_=>rfl
 |.ptr _ _,h=>by simp[V.free]at h
 |.aa,_=>rfl
 |.slice _ _ _ _ _,h=>by simp[V.free]at h
 |.empty,_=>rfl
 |.bN,_=>rfl
 |.map _,h=>by simp[V.free]at h
 |.bP,_=>rfl
 |.chan _,h=>by simp[V.free]at h
 |.func f a c,h=>by
  simp only[V.free,iy]at h
  simp only[V.bV,V.dM a h.1,V.dM c h.2]
 |.yield _,h=>by simp[V.free]at h
 |.bQ,_=>rfl
 |.iface t v,h=>by
  simp only[V.free]at h
  simp only[V.bV,V.jR v h]
 |.aY,_=>rfl
 |.agg l,h=>by
  simp only[V.free]at h
  simp only[V.bV,V.dM l h]
 |.aV l,h=>by
  simp only[V.free]at h
  simp only[V.bV,V.dM l h]
def V.dM{ρ:Nat->Option Nat}:∀(l:List V),V.jQ l=true->V.eh ρ l=some l
 |[],_=>rfl
 |v::vs,h=>by
  simp only[V.jQ,iy]at h
  simp only[V.eh,V.jR v h.1,V.dM vs h.2]
end
def yP:Nat->T O
 |0=>.nil
 |n+1=>(yP n).set n .dead
def PM:∀(n i:Nat),i<n->(yP n).get i=some .dead
 |0,i,h=>by omega
 |n+1,i,h=>by
  simp only[yP,T.ag]
  by_cases e:i=n
  ·rw[ay e]
  ·rw[ak e];exact PM n i (by omega)
def base(G:Nat):St:=⟨yP G,G,[]⟩
def lk:List (Nat×O)->Nat->Option O
 |[],_=>none
 |(j,o)::l,i=>match Nat.beq j i with
  |true=>some o
  |false=>lk l i
def tm(h:T O):List (Nat×O)->T O
 |[]=>h
 |(j,o)::l=>(tm h l).set j o
def Bb(h:T O):∀(l:List (Nat×O)) (i:Nat),(tm h l).get i=match lk l i with|some o=>some o|none=>h.get i
 |[],i=>rfl
 |(j,o)::l,i=>by
  simp only[tm,T.ag,lk]
  by_cases e:i=j
  ·subst e
   rw[ay rfl,Nat.beq_refl _]
  ·rw[ak e]
   have:Nat.beq j i=false:=by
    cases hb:Nat.beq j i with
    |false=>rfl
    |true=>exact absurd (P6 hb).symm e
   rw[this]
   exact Bb h l i
def MA:∀{l:List (Nat×O)} {i:Nat} {o:O},lk l i=some o->(i,o)∈l
 |(j,o')::l,i,o,h=>by
  simp only[lk]at h
  split at h
  ·rename_i e
   have:=jD e
   simp only[aq]at h
   subst h;subst this;exact nR
  ·exact nS _ (MA h)
def Ydu:∀{l:List (Nat×O)} {i:Nat},lk l i=none->∀p∈l,p.1≠i
 |[],_,_,p,hp=>by cases hp
 |(j,o')::l,i,h,p,hp=>by
  simp only[lk]at h
  split at h
  ·cases h
  ·rename_i e
   rcases kv.1 hp with rfl|hp
   ·intro hc
    simp only at hc
    subst hc
    have:Nat.beq j j=true:=Nat.beq_refl _
    rw[this]at e;cases e
   ·exact Ydu h p hp
def Yn6{l:List (Nat×O)}{i:Nat}{o:O}(h:(i,o)∈l):∃o',lk l i=some o':=by
 cases hc:lk l i with
 |some o'=>exact⟨o',rfl⟩
 |none=>exact absurd rfl (Ydu hc _ h)
def FA(i:Nat):List Nat->Bool
 |[]=>false
 |j::l=>match Nat.beq j i with
  |true=>true
  |false=>FA i l
def Ko{i:Nat}:∀{l:List Nat},FA i l=true↔i∈l
 |[]=>by simp[FA]
 |j::l=>by
  simp only[FA]
  split
  ·rename_i e;simp[jD e]
  ·rename_i e
   have:i≠j:=by
    rintro rfl
    have:Nat.beq i i=true:=Nat.beq_refl _
    rw[this]at e;cases e
   simp[Ko,this]
structure mF where
 f:Nat
 args:List V
 v:V
def O.XP:O->Bool
 |.cells c _ false=>V.jQ c
 |_=>false
def KG(G:Nat):List (Nat×O)->Bool
 |[]=>true
 |(i,o)::l=>Nat.blt i G&&o.XP&&KG G l
def O.C2{ρ:Nat->Option Nat}{o:O}(h:o.XP=true):o.bV ρ=some o:=by
 cases o with
 |cells c e rw=>
  cases rw with
  |true=>cases h
  |false=>simp only[O.bV,V.dM c h]
 |_=>cases h
def Vm{G:Nat}:∀{l:List (Nat×O)},KG G l=true->∀{i:Nat} {o:O},lk l i=some o->i<G/\o.XP=true
 |(j,o')::l,h,i,o,ho=>by
  simp only[KG,iy]at h
  simp only[lk]at ho
  split at ho
  ·rename_i e
   simp only[aq]at ho
   rw[<-jD e,<-ho]
   exact⟨Cm (vo h.1.1),h.1.2⟩
  ·exact Vm h.2 ho
def DN(G:Nat)(tb:List (Nat×O)):St:=⟨tm (yP G) tb,G,[]⟩
def En(S:St):List (Nat×O)->Bool
 |[]=>true
 |(i,o)::l=>match Jz (S.h.get i) o with
  |true=>En S l
  |false=>false
def XQ{S:St}:∀{l:List (Nat×O)},En S l=true->∀p∈l,S.h.get p.1=some p.2
 |[],_,p,hp=>by cases hp
 |(i,o)::l,h,p,hp=>by
  simp only[En]at h
  split at h
  ·rename_i e
   rcases kv.1 hp with rfl|hp
   ·exact XN e
   ·exact XQ h p hp
  ·cases h
def mF.ok(e:mF)(tb:List (Nat×O))(G:Nat)(call:cD):Bool:=
 match call (.func e.f [] []) e.args (DN G tb)with
 |some (v,s)=>match s.w with
  |[]=>V.beq v e.v&&V.free e.v&&V.jQ e.args&&Nat.ble G s.n&&KG G tb
  |_=>false
 |none=>false
def XR(P:Program)(tb:List (Nat×O))(e:mF):Prop:=∀S,En S tb=true->JB P (.func e.f [] []) e.args S e.v S
def mF.pure{call:cD}(hc:jv P call){tb:List (Nat×O)}{e:mF}(h:e.ok tb P.globals.size call=true):XR P tb e:=by
 unfold mF.ok at h
 split at h
 ·rename_i v s bY
  split at h
  ·rename_i hw
   simp only[iy]at h
   obtain⟨⟨⟨⟨h1,h2⟩,h3⟩,h4⟩,h5⟩:=h
   have hv:=V.beq_eq _ _ h1
   subst hv
   intro S eL μ w Gv xs hh hG hx
   have eL:=XQ eL
   have hn:P.globals.size<=S.n:=by
    apply yY
    intro ax
    obtain⟨t,ht⟩:=hh.gU S.n ax
    have:=(hh.c_ _ _ ht).1
    omega
   have F:GY P (fun i=>if i<P.globals.size then some i else none) (fun i=>if i<P.globals.size then some i else none) [] (DN P.globals.size tb) s S S:={
    c_:=fun i i' hi=>by
     split at hi
     ·rename_i ax;simp only[aq]at hi;subst hi
      exact⟨ax,by omega⟩
     ·cases hi
    inj:=fun i j i' hi hj=>by
     split at hi<;>split at hj<;>simp_all
    gU:=fun g hg=>by simp[hg]
    obj:=fun i i' hi=>by
     split at hi
     ·rename_i ax
      simp only[aq]at hi;subst hi
      cases hl:lk tb i with
      |some o=>
       refine⟨o,o,?_,.inr (.inl (O.C2 (Vm h5 hl).2)),.inl (eL _ (MA hl))⟩
       show (tm (yP P.globals.size) tb).get i=_
       rw[Bb,hl]
      |none=>
       refine⟨.dead,.dead,?_,.inl rfl,.inr rfl⟩
       show (tm (yP P.globals.size) tb).get i=_
       rw[Bb,hl]
       exact PM _ _ ax
     ·cases hi
    old:=fun _ _=>rfl
    new:=fun i i' hi hr=>by
     have:P.globals.size<=i:=hi
     rw[ak (by omega)]at hr;cases hr
    GZ:=fun i j i' hi _ hr _=>by
     have:P.globals.size<=i:=hi
     rw[ak (by omega)]at hr;cases hr
    full:=fun i' h1 h2=>by omega
    fh:=aQ _
    w0:=rfl
    W1:=fun i i' hi _=>by rw[hw]at hi;cases hi
    W2:=fun j hj=>by cases hj
    wl:=rfl
    ae:=fun _ _ _=>rfl
    wr:=fun i i' hi _=>by rw[hw]at hi;cases hi
    WJ:=fun i i' hi hr=>by
     have:P.globals.size<=i:=hi
     rw[ak (by omega)]at hr;cases hr}
   exact(JB.frame (hc _ _ _ _ _ bY) F (V.jR _ (by rfl)) (V.dM _ h3) (V.jR _ h2)) μ w Gv xs hh hG hx
  ·cases h
 ·cases h
def Jy:List mF->Nat->List V->Option V
 |[],_,_=>none
 |e::l,f,args=>match Nat.beq e.f f with
  |true=>match V.iT e.args args with
   |true=>some e.v
   |false=>Jy l f args
  |false=>Jy l f args
def Jx(tb:List (Nat×O))(l:List mF):cD
 |.func f [] [],args,st=>match Jy l f args with
  |some v=>match En st tb with
   |true=>some (v,st)
   |false=>none
  |none=>none
 |_,_,_=>none
def XT:∀{l:List mF} {f:Nat} {args:List V} {v:V},Jy l f args=some v->∃e∈l,e.f=f/\e.args=args/\e.v=v
 |[],_,_,_,h=>by cases h
 |e::l,f,args,v,h=>by
  simp only[Jy]at h
  split at h
  ·rename_i e1
   split at h
   ·rename_i e2
    simp only[aq]at h
    exact⟨e,nR,jD e1,V.di _ _ e2,h⟩
   ·obtain⟨e',h1,h2⟩:=XT h;exact⟨e',nS _ h1,h2⟩
  ·obtain⟨e',h1,h2⟩:=XT h;exact⟨e',nS _ h1,h2⟩
def Zw3{tb:List (Nat×O)}{l:List mF}(h:∀e∈l,XR P tb e):jv P (Jx tb l):=by
 intro g args st v az hc
 unfold Jx at hc
 split at hc
 ·rename_i f
  split at hc
  ·rename_i u hu
   split at hc
   ·rename_i hp
    simp only[aq,bs]at hc
    obtain⟨rfl,rfl⟩:=hc
    obtain⟨e,h1,rfl,rfl,rfl⟩:=XT hu
    exact h e h1 st hp
   ·cases hc
  ·cases hc
 ·cases hc
structure ke where
 f:Nat
 first:List V
 gl:List V
 args:List V
 part:List (Nat×O)
 n:Nat
 v:V
 kept:List (Nat×O)
 BL:List (Nat×O)
def ke.st(e:ke)(G:Nat):St:=⟨tm (yP G) e.part,e.n,[]⟩
def sig(G:Nat)(part:List (Nat×O))(i:Nat):Option Nat:=
 match Nat.blt i G with
 |true=>some i
 |false=>match lk part i with
  |some _=>some i
  |none=>none
def idx(i:Nat):List (Nat×O)->Nat->Option Nat
 |[],_=>none
 |(k,_)::l,m=>match Nat.beq k i with
  |true=>some m
  |false=>idx i l (m+1)
def C3(G:Nat)(part:List (Nat×O))(n:Nat)(kept:List (Nat×O))(i:Nat):Option Nat:=
 match Nat.blt i n with
 |true=>sig G part i
 |false=>idx i kept n
def C4:List (Nat×O)->Nat->List (Nat×O)
 |[],_=>[]
 |(_,o)::l,m=>(m,o)::C4 l (m+1)
def JU(ρ:Nat->Option Nat)(s:St)(i:Nat)(o':O):Bool:=
 match s.h.get i with
 |some o=>match o' with
  |.dead=>true
  |o'=>Jz (o.bV ρ) o'
 |none=>false
def QY(ρ:Nat->Option Nat)(s:St)(n:Nat):List (Nat×O)->Nat->Bool
 |[],_=>true
 |(k,o)::l,m=>Mz (ρ k) (some m)&&Nat.ble n k&&Nat.blt k s.n&&JU ρ s k o&&QY ρ s n l (m+1)
def ke.cv(e:ke)(G:Nat)(v:V)(s:St):Bool:=
 Nat.ble G e.n&&Nat.ble e.n s.n&&(e.part.all fun p=>Nat.blt p.1 e.n&&Jz (p.2.bV (sig G e.part)) p.2)&&
 QX (V.eh (sig G e.part) e.first) e.first&&QX (V.eh (sig G e.part) e.gl) e.gl&&QX (V.eh (sig G e.part) e.args) e.args&&
 vEq (V.bV (C3 G e.part e.n e.kept) v) e.v&&
 QY (C3 G e.part e.n e.kept) s e.n e.kept e.n&&
 (s.w.all fun i=>match sig G e.part i with|some _=>FA i (e.BL.map (·.1))|none=>true)&&
 (e.BL.all fun p=>FA p.1 s.w&&Mz (sig G e.part p.1) (some p.1)&&JU (C3 G e.part e.n e.kept) s p.1 p.2)
def ke.ok(e:ke)(G:Nat)(call:cD):Bool:=
 match call (.func e.f e.first e.gl) e.args (e.st G)with
 |some (v,s)=>e.cv G v s
 |none=>false
def ke.out(e:ke)(S:St):St:=⟨tm (tm S.h e.BL) (C4 e.kept e.n),e.n+e.kept.length,e.BL.map (·.1)++S.w⟩
def MB(e:ke):cD
 |.func f a c,args,S=>match Nat.beq e.f f with
  |true=>match V.iT e.args args&&V.iT e.first a&&V.iT e.gl c&&Nat.beq S.n e.n&&En S e.part with
   |true=>some (e.v,e.out S)
   |false=>none
  |false=>none
 |_,_,_=>none
def MC{i:Nat}:∀{l:List (Nat×O)} {m i':Nat},idx i l m=some i'->m<=i'/\i'<m+l.length/\∃o,l[i'-m]?=some (i,o)
 |[],m,i',h=>by cases h
 |(k,o)::l,m,i',h=>by
  simp only[idx]at h
  split at h
  ·rename_i e
   simp only[aq]at h;subst h
   have:=jD e;subst this
   exact⟨aQ _,by simp,o,by simp⟩
  ·obtain⟨h1,h2,o',h3⟩:=MC h
   refine⟨by omega,by simp;omega,o',?_⟩
   rw[show i'-m=(i'-(m+1))+1 by omega]
   simpa using h3
def Zpy:∀{l:List (Nat×O)} {m j:Nat} {p:Nat×O},l[j]?=some p->lk (C4 l m) (m+j)=some p.2
 |[],m,j,p,h=>by simp at h
 |(k,o)::l,m,0,p,h=>by
  simp at h;subst h
  simp[C4,lk]
 |(k,o)::l,m,j+1,p,h=>by
  simp only[C4,lk]
  have:Nat.beq m (m+(j+1))=false:=by
   cases hb:Nat.beq m (m+(j+1))with
   |false=>rfl
   |true=>have:=jD hb;omega
  rw[this,show m+(j+1)=(m+1)+j by omega]
  exact Zpy (by simpa using h)
def Zlz:∀{l:List (Nat×O)} {m i:Nat},i<m->lk (C4 l m) i=none
 |[],_,_,_=>rfl
 |(k,o)::l,m,i,h=>by
  simp only[C4,lk]
  have:Nat.beq m i=false:=by
   cases hb:Nat.beq m i with
   |false=>rfl
   |true=>have:=jD hb;omega
  rw[this]
  exact Zlz (by omega)
def Zp5{ρ:Nat->Option Nat}{s:St}{n:Nat}:∀{l:List (Nat×O)} {m:Nat},QY ρ s n l m=true->∀{j:Nat} {p:Nat×O},l[j]?=some p->ρ p.1=some (m+j)/\n<=p.1/\p.1<s.n/\JU ρ s p.1 p.2=true
 |[],m,_,j,p,h=>by simp at h
 |(k,o)::l,m,h,j,p,hj=>by
  simp only[QY,iy]at h
  obtain⟨⟨⟨⟨h1,h2⟩,h3⟩,h4⟩,h5⟩:=h
  cases j with
  |zero=>
   simp at hj;subst hj
   exact⟨XM h1,vo h2,Cm (vo h3),h4⟩
  |succ j=>
   obtain⟨q1,q2⟩:=Zp5 h5 (j:=j) (by simpa using hj)
   exact⟨by rw[q1];congr 1;omega,q2⟩
def Zpx{ρ:Nat->Option Nat}{s:St}{o':O}(h:JU ρ s i o'=true):∃o,s.h.get i=some o/\(o'=.dead\/o.bV ρ=some o'):=by
 unfold JU at h
 split at h
 ·rename_i o ho
  refine⟨o,ho,?_⟩
  split at h
  ·exact .inl rfl
  ·exact .inr (XN h)
 ·cases h
def JV{part:List (Nat×O)}{i':Nat}(h:sig G part i=some i'):i'=i/\(i<G\/∃o,lk part i=some o):=by
 unfold sig at h
 split at h
 ·rename_i e
  simp only[aq]at h
  exact⟨h.symm,.inl (Cm (vo e))⟩
 ·split at h
  ·rename_i o ho
   simp only[aq]at h
   exact⟨h.symm,.inr ⟨o,ho⟩⟩
  ·cases h
def Yar{call:cD}(bY:jv P call){e:ke}(h:e.ok P.globals.size call=true):jv P (MB e):=by
 intro g args S v S' hc
 unfold MB at hc
 split at hc
 ·rename_i f a c
  split at hc
  ·rename_i hf
   have hf:=jD hf
   subst hf
   split at hc
   ·rename_i cL
    simp only[iy]at cL
    obtain⟨⟨⟨⟨c1,c2⟩,c3⟩,c4⟩,c5⟩:=cL
    have c1:=V.di _ _ c1
    have c2:=V.di _ _ c2
    have c3:=V.di _ _ c3
    have c4:=jD c4
    have c5:=XQ c5
    simp only[aq,bs]at hc
    obtain⟨rfl,rfl⟩:=hc
    subst c1;subst c2;subst c3
    unfold ke.ok at h
    split at h
    ·rename_i v0 s bM
     unfold ke.cv at h
     simp only[iy,l7]at h
     obtain⟨⟨⟨⟨⟨⟨⟨⟨⟨k1,k2⟩,k3⟩,k4⟩,k5⟩,k6⟩,k7⟩,k8⟩,k9⟩,k10⟩:=h
     have k1:=vo k1
     have k2:=vo k2
     have eL:∀i o,lk e.part i=some o->i<e.n/\o.bV (sig P.globals.size e.part)=some o/\S.h.get i=some o:=fun i o ho=>by
      have hm:=MA ho
      obtain⟨q1,q2⟩:=k3 _ hm
      exact⟨Cm (vo q1),XN q2,c5 _ hm⟩
     have QZ:∀i,e.n<=i->C3 P.globals.size e.part e.n e.kept i=idx i e.kept e.n:=fun i hi=>by
      unfold C3
      have:Nat.blt i e.n=false:=by
       cases hb:Nat.blt i e.n with
       |false=>rfl
       |true=>have:=Cm (vo hb);omega
      rw[this]
     have AD:∀j p,e.kept[j]?=some p->C3 P.globals.size e.part e.n e.kept p.1=some (e.n+j)/\e.n<=p.1/\p.1<s.n/\JU (C3 P.globals.size e.part e.n e.kept) s p.1 p.2=true:=fun j p hj=>Zp5 k8 hj
     have MD:∀j,j<e.n->(e.out S).h.get j=match lk e.BL j with|some o=>some o|none=>S.h.get j:=fun j hj=>by
      show (tm (tm S.h e.BL) (C4 e.kept e.n)).get j=_
      rw[Bb,Zlz hj,Bb]
     have F:GY P (sig P.globals.size e.part) (C3 P.globals.size e.part e.n e.kept) (e.BL.map (·.1)) (e.st P.globals.size) s S (e.out S):={
      c_:=fun i i' hi=>by
       obtain⟨rfl,JD⟩:=JV hi
       have:i'<e.n:=by
        rcases JD with h|⟨o,ho⟩
        ·omega
        ·exact(eL _ _ ho).1
       exact⟨this,by omega⟩
      inj:=fun i j i' hi hj=>by rw[<-(JV hi).1,<-(JV hj).1]
      gU:=fun g hg=>by
       unfold sig
       have:Nat.blt g P.globals.size=true:=P8 hg
       rw[this]
      obj:=fun i i' hi=>by
       obtain⟨rfl,JD⟩:=JV hi
       cases hl:lk e.part i' with
       |some o=>
        obtain⟨q1,q2,q3⟩:=eL _ _ hl
        refine⟨o,o,?_,.inr (.inl q2),.inl q3⟩
        show (tm (yP P.globals.size) e.part).get i'=_
        rw[Bb,hl]
       |none=>
        have hg:i'<P.globals.size:=by
         rcases JD with h|⟨o,ho⟩
         ·exact h
         ·rw[hl]at ho;cases ho
        refine⟨.dead,.dead,?_,.inl rfl,.inr rfl⟩
        show (tm (yP P.globals.size) e.part).get i'=_
        rw[Bb,hl]
        exact PM _ _ hg
      old:=fun i hi=>by
       have:Nat.blt i e.n=true:=P8 hi
       unfold C3;rw[this]
      new:=fun i i' hi hr=>by
       rw[QZ i hi]at hr
       obtain⟨q1,q2,o,q3⟩:=MC hr
       obtain⟨_,_,r3,_⟩:=AD _ _ q3
       exact⟨by omega,q2,r3⟩
      GZ:=fun i j i' hi hj JC hrj=>by
       rw[QZ i hi]at JC
       rw[QZ j hj]at hrj
       obtain⟨_,_,o,q3⟩:=MC JC
       obtain⟨_,_,o',DT⟩:=MC hrj
       rw[q3]at DT
       cases DT;rfl
      full:=fun i' h1 h2=>by
       have mq:i'<e.n+e.kept.length:=h2
       obtain⟨p,hp⟩:∃p,e.kept[i'-e.n]?=some p:=⟨_,c9 (by omega)⟩
       obtain⟨r1,r2,_,_⟩:=AD _ _ hp
       exact⟨p.1,r2,by rw[r1];congr 1;omega⟩
      fh:=by show S.n<=e.n+e.kept.length;omega
      w0:=rfl
      W1:=fun i i' hi hs=>by
       obtain⟨rfl,_⟩:=JV hs
       have:=k9 _ hi
       rw[hs]at this
       exact Ko.1 this
      W2:=fun j hj=>by
       obtain⟨p,hp,rfl⟩:=fv.1 hj
       obtain⟨⟨q1,q2⟩,_⟩:=k10 _ hp
       exact⟨p.1,Ko.1 q1,XM q2⟩
      wl:=rfl
      ae:=fun j hj hn=>by
       rw[MD j (by omega)]
       cases hl:lk e.BL j with
       |none=>rfl
       |some o=>exact absurd (fv.2 ⟨_,MA hl,rfl⟩) hn
      wr:=fun i i' hi hs=>by
       obtain⟨rfl,JD⟩:=JV hs
       have ax:i'<e.n:=by
        rcases JD with h|⟨o,ho⟩
        ·omega
        ·exact(eL _ _ ho).1
       have:=k9 _ hi
       rw[hs]at this
       obtain⟨p,hp,Bf⟩:=fv.1 (Ko.1 this)
       obtain⟨o',wY⟩:=Yn6 (l:=e.BL) (i:=i') (o:=p.2) (by rw[<-Bf];exact hp)
       obtain⟨_,q3⟩:=k10 _ (MA wY)
       obtain⟨o,r1,r2⟩:=Zpx q3
       exact⟨o,o',r1,by rw[MD _ ax,wY],r2⟩
      WJ:=fun i i' hi hr=>by
       rw[QZ i hi]at hr
       obtain⟨q1,q2,o,q3⟩:=MC hr
       obtain⟨_,_,_,r4⟩:=AD _ _ q3
       obtain⟨o2,t1,t2⟩:=Zpx r4
       refine⟨o2,o,t1,?_,t2⟩
       show (tm (tm S.h e.BL) (C4 e.kept e.n)).get i'=_
       have:=Zpy (m:=e.n) q3
       rw[show e.n+(i'-e.n)=i' by omega]at this
       rw[Bb,this]}
     refine JB.frame (bY _ _ _ _ _ bM) F ?_ (XO k6) (Yql k7)
     simp only[V.bV,XO k4,XO k5]
    ·cases h
   ·cases hc
  ·cases hc
 ·cases hc
def yO(x:cD)(dE:Nat->Option lF)(fuel:Nat):Nat->cD
 |0=>x
 |d+1=>sX x (yb dE (dK (yO x dE fuel d) fuel))
def PL{P:Program}{dE:Nat->Option lF}(hm:P.follows .mixedOrders=true)(hE:ue P)(ht:WS P dE){x:cD}(hx:jv P x)(fuel:Nat):∀d,jv P (yO x dE fuel d)
 |0=>hx
 |d+1=>by
  have ih:=PL hm hE ht hx fuel d
  exact hx.or (Zwa ht (Yff ih hE (Yeq hm hE ih) (Ykj ih hE) (Zwx ih) fuel))
def Q0:List ke->Nat->List V->List V->List V->St->Option (V×St)
 |[],_,_,_,_,_=>none
 |e::l,f,a,c,args,S=>match Nat.beq e.f f with
  |true=>match MB e (.func f a c) args S with
   |some r=>some r
   |none=>Q0 l f a c args S
  |false=>Q0 l f a c args S
def XU(l:List ke):cD
 |.func f a c,args,S=>Q0 l f a c args S
 |_,_,_=>none
def Yi7{l:List ke}(h:∀e∈l,jv P (MB e)):jv P (XU l):=by
 intro g args S v S' hc
 unfold XU at hc
 split at hc
 ·rename_i f a c
  induction l with
  |nil=>cases hc
  |cons e l ih=>
   simp only[Q0]at hc
   split at hc
   ·split at hc
    ·rename_i r hr
     cases hc
     exact h e nR _ _ _ _ _ hr
    ·exact ih (fun e he=>h e (nS _ he)) hc
   ·exact ih (fun e he=>h e (nS _ he)) hc
 ·cases hc
def ME(tb:List (Nat×O))(L:List mF)(E:List ke):cD:=sX (Jx tb L) (XU E)
structure aZ (P:Program) (tb:List (Nat×O)) (L:List mF) (E:List ke):Prop where
 p:∀e∈L,XR P tb e
 e:∀e∈E,jv P (MB e)
def aZ.call{tb:List (Nat×O)}{L:List mF}{E:List ke}(h:aZ P tb L E):jv P (ME tb L E):=(Zw3 h.p).or (Yi7 h.e)
def aZ.nil{tb:List (Nat×O)}:aZ P tb [] []:=⟨fun _ h=>(by cases h),fun _ h=>(by cases h)⟩
structure DD (P:Program) (dE:Nat->Option lF) (G:Nat):Prop where
 m:P.follows .mixedOrders=true
 e:ue P
 t:WS P dE
 g:P.globals.size=G
def aZ.XV{dE:Nat->Option lF}{fuel d:Nat}(hP:DD P dE G){tb:List (Nat×O)}{L:List mF}{E:List ke}(h:aZ P tb L E){e:mF}(he:e.ok tb G (yO (ME tb L E) dE fuel d)=true):aZ P tb (e::L) E:=
 ⟨fun e' hm=>by
  rcases kv.1 hm with rfl|hm
  ·exact mF.pure (PL hP.m hP.e hP.t h.call fuel d) (by rw[hP.g];exact he)
  ·exact h.p e' hm,h.e⟩
def aZ.XW{dE:Nat->Option lF}{fuel d:Nat}(hP:DD P dE G){tb:List (Nat×O)}{L:List mF}{E:List ke}(h:aZ P tb L E){e:ke}(he:e.ok G (yO (ME tb L E) dE fuel d)=true):aZ P tb L (e::E):=
 ⟨h.p,fun e' hm=>by
  rcases kv.1 hm with rfl|hm
  ·exact Yar (PL hP.m hP.e hP.t h.call fuel d) (by rw[hP.g];exact he)
  ·exact h.e e' hm⟩
def Yk0(tb:List (Nat×O))(G:Nat)(dE:Nat->Option lF)(L:List mF)(E:List ke):Bool:=match L with
 |[]=>false
 |e::t=>e.ok tb G (yO (ME tb t E) dE 5000 40)
def Yeb(tb:List (Nat×O))(G:Nat)(dE:Nat->Option lF)(L:List mF)(E:List ke):Bool:=match E with
 |[]=>false
 |e::t=>e.ok G (yO (ME tb L t) dE 5000 40)
def aZ.p1{P:Program}{dE:Nat->Option lF}{G:Nat}(hP:DD P dE G){tb:List (Nat×O)}{L:List mF}{E:List ke}(h:aZ P tb L.tail E)(he:Yk0 tb G dE L E=true):aZ P tb L E:=by
 cases L with
 |nil=>exact h
 |cons e t=>exact aZ.XV hP h he
def aZ.e1{P:Program}{dE:Nat->Option lF}{G:Nat}(hP:DD P dE G){tb:List (Nat×O)}{L:List mF}{E:List ke}(h:aZ P tb L E.tail)(he:Yeb tb G dE L E=true):aZ P tb L E:=by
 cases E with
 |nil=>exact h
 |cons e t=>exact aZ.XW hP h he
section
variable {call:cD} {f:Nat} {ro:Option Nat} {a b c:bO} {fr:Fr} {st:St}
end
def Yre{a b:Nat}:Nat.blt a b=decide (a<b):=by
 cases h:Nat.blt a b
 ·symm;simp only[decide_eq_false_iff_not];intro hc;rw[show Nat.blt a b=true from P8 hc]at h;cases h
 ·symm;simp only[decide_eq_true_eq];exact Cm (vo h)
def Yrf{a b:Nat}:Nat.ble a b=decide (a<=b):=by
 cases h:Nat.ble a b
 ·symm;simp only[decide_eq_false_iff_not];intro hc;rw[P8 hc]at h;cases h
 ·symm;simp only[decide_eq_true_eq];exact vo h
def cA{n:Int}(h1: -9223372036854775808<=n)(h2:n<9223372036854775808):bl .i64 n=n:=by
 rw[zZ]
 simp[IntKind.wrap,IntKind.bits,IntKind.signed]
 omega
def Yah{k a b}:ra .add k a b=some (.int k (bl k (a+b))):=rfl
def Zz6{k a b}:ra .sub k a b=some (.int k (bl k (a-b))):=rfl
def Yab{k a b}:ra .mul k a b=some (.int k (bl k (a*b))):=rfl
def Zz9{k a b}(h:¬b=0):ra .quo k a b=some (.int k (bl k (a.tdiv b))):=by simp[ra,h]
def Zz8{k a b}(h:¬b=0):ra .rem k a b=some (.int k (a.tmod b)):=by simp[ra,h]
def Yag{k a b}:ra .eql k a b=some (.bool (a==b)):=rfl
def Yaa{k a b}:ra .neq k a b=some (.bool (a !=b)):=rfl
def Yac{k a b}:ra .lss k a b=some (.bool (decide (a<b))):=rfl
def Yad{k a b}:ra .leq k a b=some (.bool (decide (a<=b))):=rfl
def Yae{k a b}:ra .gtr k a b=some (.bool (decide (a > b))):=rfl
def Yaf{k a b}:ra .geq k a b=some (.bool (decide (a≥b))):=rfl
def Ynp(x):cj (.km x)=Gq x:=rfl
def Yh5(a b c):cj (.pick a b c)=Eb a b c:=rfl
def Ydi(a b):cj (.alloc a b)=Jk a b:=rfl
def Ynt(a b):cj (.box a b)=Gs a b:=rfl
def Ydh(a b):cj (.build a b)=Cu a b:=rfl
def Zzo(a b c d e):cj (.fG a b c d e)=Gt a b c d e:=rfl
def Yh6(a b):cj (.load a b)=Gu a b:=rfl
def Yc9(a b c):cj (.store a b c)=Ec a b c:=rfl
def Ydb(a):cj (.oh a)=Gw a:=rfl
def Ynu(a b c d e):cj (.bin a b c d e)=Gx a b c d e:=rfl
def Yrh(a b):cj (.un a b)=Gy a b:=rfl
def Zvm(a b):cj (.cP a b)=Gz a b:=rfl
def Zzh(a b c):cj (.ot a b c)=GB a b c:=rfl
def Yde(a b):cj (.ja a b)=GC a b:=rfl
def Ydd(a b c):cj (.field a b c)=GD a b c:=rfl
def Zs4(a b c d):cj (.gY a b c d)=Cw a b c d:=rfl
def Zvj(a b c):cj (.e_ a b c)=Ef a b c:=rfl
def Zvk(a b):cj (.extract a b)=GI a b:=rfl
def Ynq(a b):cj (.len a b)=ym a b:=rfl
def Yh8(a b):cj (.call a b)=zc a b:=rfl
structure Ysv (r:Option (V×St)) (v:V):Prop where
 ex:∃s,r=some (v,s)/\s.w=[]
def Yak{u v:V}{s:St}:Ysv (some (u,s)) v↔u=v/\s.w=[]:=
 ⟨fun ⟨_,h1,h2⟩=>by simp only[aq,bs]at h1;exact⟨h1.1,h1.2▸h2⟩,fun ⟨h1,h2⟩=>⟨s,by rw[h1],h2⟩⟩
attribute [simp]
 Ynp Yh5 Ydi Ynt Ydh Zzo Yh6 Yc9 Ydb Ynu Yrh Zvm Zzh Yde Ydd Zs4 Zvj Zvk Ynq Yh8
 Gq Eb Jk Gs Cu Gt Gu Gw Gx Gy Gz GB GC GD Cw GI zc
 zd bR Src.ev T.ag fz Ei av V0 Yah Zz6 Yab Zz9 Zz8 Yag Yaa Yac Yad Yae Yaf g_ V1 uF aC Bo Bn aO V.cells V.one St.alloc St.write St.row cA Yre Yrf vD po gk.oz Qf jK ct ct.go ct.cv FP.free CB Nat.testBit Yak base
end Go.Mx

