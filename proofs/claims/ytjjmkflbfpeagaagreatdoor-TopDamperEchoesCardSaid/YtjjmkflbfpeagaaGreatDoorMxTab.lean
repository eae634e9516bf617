/-Calls that are known-/
import Derived.Test.YtjjmkflbfpeagaaGreatDoorMxDraw4
import Derived.Test.YtjjmkflbfpeagaaGreatDoorMxFrame
import Derived.Below
import Derived.CallsIn
set_option linter.all false
namespace Go.Mx
open Go
variable {G i:Nat} {P:Program}
def JO:Bool->Bool->Bool
 |true,b=>b
 |false,true=>false
 |false,false=>true
def NV:IntKind->Nat
 |.i8=>0|.i16=>1|.i32=>2|.i64=>3|.u8=>4|.u16=>5|.u32=>6|.u64=>7
def Ts:Int->Int->Bool
 |.ofNat a,b=>match b with
  |.ofNat b=>Nat.beq a b
  |.negSucc _=>false
 |.negSucc a,b=>match b with
  |.ofNat _=>false
  |.negSucc b=>Nat.beq a b
def Et:List UInt8->List UInt8->Bool
 |[],l=>match l with
  |[]=>true
  |_::_=>false
 |a::xs,l=>match l with
  |[]=>false
  |b::ys=>match Nat.beq a.toNat b.toNat with
   |true=>Et xs ys
   |false=>false
def JP:Option Nat->Option Nat->Bool
 |none,b=>match b with
  |none=>true
  |some _=>false
 |some a,b=>match b with
  |none=>false
  |some b=>Nat.beq a b
def Tt{a b:Bool}(h:JO a b=true):a=b:=by cases a<;>cases b<;>simp_all [JO]
def iE{a b:Nat}(h:Nat.beq a b=true):a=b:=M4 h
def Yk5{a b:IntKind}(h:Nat.beq (NV a) (NV b)=true):a=b:=by cases a<;>cases b<;>first|rfl|(exact absurd h (by decide))
def Ygc{a b:Int}(h:Ts a b=true):a=b:=by
 cases a<;>cases b<;>simp only[Ts,fY]at h
 ·rw[iE h]
 ·rw[iE h]
def Tu:∀{a b:List UInt8},Et a b=true->a=b
 |[],[],_=>rfl
 |[],_::_,h=>by simp[Et]at h
 |_::_,[],h=>by simp[Et]at h
 |a::xs,b::ys,h=>by
  simp only[Et]at h
  split at h
  ·rename_i e
   rw[Tu h,UInt8.toNat_inj.1 (iE e)]
  ·cases h
def Tv{a b:Option Nat}(h:JP a b=true):a=b:=by
 cases a<;>cases b<;>simp only[JP,fY]at h
 ·rfl
 ·rw[iE h]
def G6:FloatKind->Nat
 |.f32=>0|.f64=>1
def Ycy{a b:FloatKind}(h:Nat.beq (G6 a) (G6 b)=true):a=b:=by cases a<;>cases b<;>first|rfl|(exact absurd h (by decide))
def V.isBool(x:Bool):V->Bool|.bool y=>JO x y|_=>false
def V.isInt(k:IntKind)(n:Int):V->Bool|.int k' n'=>(match Nat.beq (NV k) (NV k')with|true=>Ts n n'|false=>false)|_=>false
def V.uo(k:FloatKind)(n:Nat):V->Bool|.jM k' n'=>(match Nat.beq (G6 k) (G6 k')with|true=>Nat.beq n n'|false=>false)|_=>false
def V.Cj(k:FloatKind)(m n:Nat):V->Bool|.rp k' m' n'=>(match Nat.beq (G6 k) (G6 k')with|true=>Nat.beq m m'&&Nat.beq n n'|false=>false)|_=>false
def V.isStr(s:List UInt8):V->Bool|.str t=>Et s t|_=>false
def V.qQ:V->Bool|.bF=>true|_=>false
def V.Ck(i o:Nat):V->Bool|.ptr i' o'=>(match Nat.beq i i' with|true=>Nat.beq o o'|false=>false)|_=>false
def V.mW:V->Bool|.aa=>true|_=>false
def V.isSlice(i o l:Nat)(c:Option Nat)(z:Nat):V->Bool|.slice i' o' l' c' z'=>Nat.beq i i'&&Nat.beq o o'&&Nat.beq l l'&&JP c c'&&Nat.beq z z'|_=>false
def V.isEmpty:V->Bool|.empty=>true|_=>false
def V.qR:V->Bool|.bL=>true|_=>false
def V.Cl(i:Nat):V->Bool|.map j=>Nat.beq i j|_=>false
def V.oJ:V->Bool|.bO=>true|_=>false
def V.isChan(i:Nat):V->Bool|.chan j=>Nat.beq i j|_=>false
def V.uP(i:Nat):V->Bool|.yield j=>Nat.beq i j|_=>false
def V.oK:V->Bool|.bP=>true|_=>false
def V.mX:V->Bool|.aZ=>true|_=>false
mutual
def V.beq:V->V->Bool
 |.bool x,b=>b.isBool x
 |.int k n,b=>b.isInt k n
 |.jM k n,b=>b.uo k n
 |.rp k m n,b=>b.Cj k m n
 |.str s,b=>b.isStr s
 |.bF,b=>b.qQ
 |.ptr i o,b=>b.Ck i o
 |.aa,b=>b.mW
 |.slice i o l c z,b=>b.isSlice i o l c z
 |.empty,b=>b.isEmpty
 |.bL,b=>b.qR
 |.map i,b=>b.Cl i
 |.bO,b=>b.oJ
 |.chan i,b=>b.isChan i
 |.func f a c,b=>match b with
  |.func f' a' c'=>Nat.beq f f'&&V.iw a a'&&V.iw c c'
  |_=>false
 |.yield i,b=>b.uP i
 |.bP,b=>b.oK
 |.iface t v,b=>match b with
  |.iface t' v'=>Nat.beq t t'&&V.beq v v'
  |_=>false
 |.aZ,b=>b.mX
 |.agg l,b=>match b with
  |.agg l'=>V.iw l l'
  |_=>false
 |.aY l,b=>match b with
  |.aY l'=>V.iw l l'
  |_=>false
def V.iw:List V->List V->Bool
 |[],l=>match l with
  |[]=>true
  |_::_=>false
 |a::xs,l=>match l with
  |[]=>false
  |b::ys=>match V.beq a b with
   |true=>V.iw xs ys
   |false=>false
end
mutual
def V.beq_eq:∀(a b:V),V.beq a b=true->a=b
 |.bool x,b,h=>by cases b<;>simp only[V.beq,V.isBool,fY]at h;rw[Tt h]
 |.int k n,b,h=>by
  cases b<;>simp only[V.beq,V.isInt,fY]at h
  split at h
  ·rename_i e;rw[Yk5 e,Ygc h]
  ·cases h
 |.jM k n,b,h=>by
  cases b<;>simp only[V.beq,V.uo,fY]at h
  split at h
  ·rename_i e;rw[Ycy e,iE h]
  ·cases h
 |.rp k m n,b,h=>by
  cases b<;>simp only[V.beq,V.Cj,fY]at h
  split at h
  ·rename_i e
   rw[iS]at h
   rw[Ycy e,iE h.1,iE h.2]
  ·cases h
 |.str s,b,h=>by cases b<;>simp only[V.beq,V.isStr,fY]at h;rw[Tu h]
 |.bF,b,h=>by cases b<;>simp only[V.beq,V.qQ,fY]at h;rfl
 |.ptr i o,b,h=>by
  cases b<;>simp only[V.beq,V.Ck,fY]at h
  split at h
  ·rename_i e;rw[iE e,iE h]
  ·cases h
 |.aa,b,h=>by cases b<;>simp only[V.beq,V.mW,fY]at h;rfl
 |.slice i o l c z,b,h=>by
  cases b<;>simp only[V.beq,V.isSlice,fY,iS]at h
  obtain⟨⟨⟨⟨h1,h2⟩,h3⟩,h4⟩,h5⟩:=h
  rw[iE h1,iE h2,iE h3,Tv h4,iE h5]
 |.empty,b,h=>by cases b<;>simp only[V.beq,V.isEmpty,fY]at h;rfl
 |.bL,b,h=>by cases b<;>simp only[V.beq,V.qR,fY]at h;rfl
 |.map i,b,h=>by cases b<;>simp only[V.beq,V.Cl,fY]at h;rw[iE h]
 |.bO,b,h=>by cases b<;>simp only[V.beq,V.oJ,fY]at h;rfl
 |.chan i,b,h=>by cases b<;>simp only[V.beq,V.isChan,fY]at h;rw[iE h]
 |.func f a c,b,h=>by
  cases b<;>simp only[V.beq,fY,iS]at h
  obtain⟨⟨h1,h2⟩,h3⟩:=h
  rw[iE h1,V.dc _ _ h2,V.dc _ _ h3]
 |.yield i,b,h=>by cases b<;>simp only[V.beq,V.uP,fY]at h;rw[iE h]
 |.bP,b,h=>by cases b<;>simp only[V.beq,V.oK,fY]at h;rfl
 |.iface t v,b,h=>by
  cases b<;>simp only[V.beq,fY,iS]at h
  rw[iE h.1,V.beq_eq _ _ h.2]
 |.aZ,b,h=>by cases b<;>simp only[V.beq,V.mX,fY]at h;rfl
 |.agg l,b,h=>by cases b<;>simp only[V.beq,fY]at h;rw[V.dc _ _ h]
 |.aY l,b,h=>by cases b<;>simp only[V.beq,fY]at h;rw[V.dc _ _ h]
def V.dc:∀(a b:List V),V.iw a b=true->a=b
 |[],[],_=>rfl
 |[],_::_,h=>by simp[V.iw]at h
 |_::_,[],h=>by simp[V.iw]at h
 |a::xs,b::ys,h=>by
  simp only[V.iw]at h
  split at h
  ·rename_i e;rw[V.beq_eq a b e,V.dc xs ys h]
  ·cases h
end
def G7:List (V×V)->List (V×V)->Bool
 |[],l=>match l with
  |[]=>true
  |_::_=>false
 |(k,v)::xs,l=>match l with
  |[]=>false
  |(k',v')::ys=>V.beq k k'&&V.beq v v'&&G7 xs ys
def Yc3:∀{a b:List (V×V)},G7 a b=true->a=b
 |[],[],_=>rfl
 |[],_::_,h=>by simp[G7]at h
 |_::_,[],h=>by simp[G7]at h
 |(k,v)::xs,(k',v')::ys,h=>by
  simp only[G7,iS]at h
  rw[V.beq_eq _ _ h.1.1,V.beq_eq _ _ h.1.2,Yc3 h.2]
def O.beq:O->O->Bool
 |.cells c e rw,b=>match b with
  |.cells c' e' AA=>Nat.beq e e'&&JO rw AA&&V.iw c c'
  |_=>false
 |.map es,b=>match b with
  |.map e_=>G7 es e_
  |_=>false
 |.chan cap buf,b=>match b with
  |.chan cap' pe=>Nat.beq cap cap'&&V.iw buf pe
  |_=>false
 |.gh m,b=>match b with
  |.gh m'=>Nat.beq m m'
  |_=>false
 |.ef s pos,b=>match b with
  |.ef s' pos'=>Et s s'&&Nat.beq pos pos'
  |_=>false
 |.defs o,b=>match b with
  |.defs o'=>JO o o'
  |_=>false
 |.loop _,_=>false
 |.dead,b=>match b with
  |.dead=>true
  |_=>false
def O.beq_eq{a b:O}(h:O.beq a b=true):a=b:=by
 cases a<;>simp only[O.beq,fY]at h<;>cases b<;>simp only[fY,iS]at h
 ·obtain⟨⟨h1,h2⟩,h3⟩:=h;rw[iE h1,Tt h2,V.dc _ _ h3]
 ·rw[Yc3 h]
 ·rw[iE h.1,V.dc _ _ h.2]
 ·rw[Tu h.1,iE h.2]
 ·rw[iE h]
 ·rw[Tt h]
 ·rfl
def G8:Option O->O->Bool
 |some a,b=>O.beq a b
 |none,_=>false
def Tw{a:Option O}{b:O}(h:G8 a b=true):a=some b:=by
 cases a with
 |none=>cases h
 |some a=>rw[O.beq_eq h]
def vEq:Option V->V->Bool
 |some a,b=>V.beq a b
 |none,_=>false
def Ymp{a:Option V}{b:V}(h:vEq a b=true):a=some b:=by
 cases a with
 |none=>cases h
 |some a=>rw[V.beq_eq _ _ h]
def NX:Option (List V)->List V->Bool
 |some a,b=>V.iw a b
 |none,_=>false
def Ty{a:Option (List V)}{b:List V}(h:NX a b=true):a=some b:=by
 cases a with
 |none=>cases h
 |some a=>rw[V.dc _ _ h]
mutual
def V.free:V->Bool
 |.ptr ..|.slice ..|.map _|.chan _|.yield _=>false
 |.func _ a c=>V.ji a&&V.ji c
 |.iface _ v=>V.free v
 |.agg l=>V.ji l
 |.aY l=>V.ji l
 |_=>true
def V.ji:List V->Bool
 |[]=>true
 |v::vs=>V.free v&&V.ji vs
end
mutual
def V.jj{ρ:Nat->Option Nat}:∀(v:V),V.free v=true->V.bQ ρ v=some v
 |.bool _,_=>rfl
 |.int _ _,_=>rfl
 |.jM _ _,_=>rfl
 |.rp _ _ _,_=>rfl
 |.str _,_=>rfl
 |.bF,_=>rfl
 |.ptr _ _,h=>by simp[V.free]at h
 |.aa,_=>rfl
 |.slice _ _ _ _ _,h=>by simp[V.free]at h
 |.empty,_=>rfl
 |.bL,_=>rfl
 |.map _,h=>by simp[V.free]at h
 |.bO,_=>rfl
 |.chan _,h=>by simp[V.free]at h
 |.func f a c,h=>by
  simp only[V.free,iS]at h
  simp only[V.bQ,V.dK a h.1,V.dK c h.2]
 |.yield _,h=>by simp[V.free]at h
 |.bP,_=>rfl
 |.iface t v,h=>by
  simp only[V.free]at h
  simp only[V.bQ,V.jj v h]
 |.aZ,_=>rfl
 |.agg l,h=>by
  simp only[V.free]at h
  simp only[V.bQ,V.dK l h]
 |.aY l,h=>by
  simp only[V.free]at h
  simp only[V.bQ,V.dK l h]
def V.dK{ρ:Nat->Option Nat}:∀(l:List V),V.ji l=true->V.dZ ρ l=some l
 |[],_=>rfl
 |v::vs,h=>by
  simp only[V.ji,iS]at h
  simp only[V.dZ,V.jj v h.1,V.dK vs h.2]
end
def wR:Nat->T O
 |0=>.nil
 |n+1=>(wR n).set n .dead
def NY:∀(n i:Nat),i<n->(wR n).get i=some .dead
 |0,i,h=>by omega
 |n+1,i,h=>by
  simp only[wR,T.ai]
  by_cases e:i=n
  ·rw[aJ e]
  ·rw[aq e];exact NY n i (by omega)
def base(G:Nat):St:=⟨wR G,G,[]⟩
def lk:List (Nat×O)->Nat->Option O
 |[],_=>none
 |(j,o)::l,i=>match Nat.beq j i with
  |true=>some o
  |false=>lk l i
def qS(h:T O):List (Nat×O)->T O
 |[]=>h
 |(j,o)::l=>(qS h l).set j o
def zL(h:T O):∀(l:List (Nat×O)) (i:Nat),(qS h l).get i=match lk l i with|some o=>some o|none=>h.get i
 |[],i=>rfl
 |(j,o)::l,i=>by
  simp only[qS,T.ai,lk]
  by_cases e:i=j
  ·subst e
   rw[aJ rfl,Nat.beq_refl _]
  ·rw[aq e]
   have:Nat.beq j i=false:=by
    cases hb:Nat.beq j i with
    |false=>rfl
    |true=>exact absurd (M4 hb).symm e
   rw[this]
   exact zL h l i
def JQ:∀{l:List (Nat×O)} {i:Nat} {o:O},lk l i=some o->(i,o)∈l
 |(j,o')::l,i,o,h=>by
  simp only[lk]at h
  split at h
  ·rename_i e
   have:=iE e
   simp only[ak]at h
   subst h;subst this;exact nT
  ·exact nt _ (JQ h)
def Yca:∀{l:List (Nat×O)} {i:Nat},lk l i=none->∀p∈l,p.1≠i
 |[],_,_,p,hp=>by cases hp
 |(j,o')::l,i,h,p,hp=>by
  simp only[lk]at h
  split at h
  ·cases h
  ·rename_i e
   rcases jy.1 hp with rfl|hp
   ·intro hc
    simp only at hc
    subst hc
    have:Nat.beq j j=true:=Nat.beq_refl _
    rw[this]at e;cases e
   ·exact Yca h p hp
def Ykw{l:List (Nat×O)}{i:Nat}{o:O}(h:(i,o)∈l):∃o',lk l i=some o':=by
 cases hc:lk l i with
 |some o'=>exact⟨o',rfl⟩
 |none=>exact absurd rfl (Yca hc _ h)
def Eu(i:Nat):List Nat->Bool
 |[]=>false
 |j::l=>match Nat.beq j i with
  |true=>true
  |false=>Eu i l
def JR{i:Nat}:∀{l:List Nat},Eu i l=true↔i∈l
 |[]=>by simp[Eu]
 |j::l=>by
  simp only[Eu]
  split
  ·rename_i e;simp[iE e]
  ·rename_i e
   have:i≠j:=by
    rintro rfl
    have:Nat.beq i i=true:=Nat.beq_refl _
    rw[this]at e;cases e
   simp[JR,this]
structure lB where
 f:Nat
 args:List V
 v:V
def O.Tz:O->Bool
 |.cells c _ false=>V.ji c
 |_=>false
def JS(G:Nat):List (Nat×O)->Bool
 |[]=>true
 |(i,o)::l=>Nat.blt i G&&o.Tz&&JS G l
def O.AV{ρ:Nat->Option Nat}{o:O}(h:o.Tz=true):o.bQ ρ=some o:=by
 cases o with
 |cells c e rw=>
  cases rw with
  |true=>cases h
  |false=>simp only[O.bQ,V.dK c h]
 |_=>cases h
def TA{G:Nat}:∀{l:List (Nat×O)},JS G l=true->∀{i:Nat} {o:O},lk l i=some o->i<G/\o.Tz=true
 |(j,o')::l,h,i,o,ho=>by
  simp only[JS,iS]at h
  simp only[lk]at ho
  split at ho
  ·rename_i e
   simp only[ak]at ho
   rw[<-iE e,<-ho]
   exact⟨Al (sL h.1.1),h.1.2⟩
  ·exact TA h.2 ho
def AW(G:Nat)(tb:List (Nat×O)):St:=⟨qS (wR G) tb,G,[]⟩
def Cm(S:St):List (Nat×O)->Bool
 |[]=>true
 |(i,o)::l=>match G8 (S.h.get i) o with
  |true=>Cm S l
  |false=>false
def TC{S:St}:∀{l:List (Nat×O)},Cm S l=true->∀p∈l,S.h.get p.1=some p.2
 |[],_,p,hp=>by cases hp
 |(i,o)::l,h,p,hp=>by
  simp only[Cm]at h
  split at h
  ·rename_i e
   rcases jy.1 hp with rfl|hp
   ·exact Tw e
   ·exact TC h p hp
  ·cases h
def lB.ok(e:lB)(tb:List (Nat×O))(G:Nat)(call:cH):Bool:=
 match call (.func e.f [] []) e.args (AW G tb)with
 |some (v,s)=>match s.w with
  |[]=>V.beq v e.v&&V.free e.v&&V.ji e.args&&Nat.ble G s.n&&JS G tb
  |_=>false
 |none=>false
def TD(P:Program)(tb:List (Nat×O))(e:lB):Prop:=∀S,Cm S tb=true->GR P (.func e.f [] []) e.args S e.v S
def lB.pure{call:cH}(hc:iO P call){tb:List (Nat×O)}{e:lB}(h:e.ok tb P.globals.size call=true):TD P tb e:=by
 unfold lB.ok at h
 split at h
 ·rename_i v s bR
  split at h
  ·rename_i hw
   simp only[iS]at h
   obtain⟨⟨⟨⟨h1,h2⟩,h3⟩,h4⟩,h5⟩:=h
   have hv:=V.beq_eq _ _ h1
   subst hv
   intro S eE μ w Gv xs hh hG hx
   have eE:=TC eE
   have hn:P.globals.size<=S.n:=by
    apply wB
    intro aO
    obtain⟨t,ht⟩:=hh.gj S.n aO
    have:=(hh.cU _ _ ht).1
    omega
   have F:D6 P (fun i=>if i<P.globals.size then some i else none) (fun i=>if i<P.globals.size then some i else none) [] (AW P.globals.size tb) s S S:={
    cU:=fun i i' hi=>by
     split at hi
     ·rename_i aO;simp only[ak]at hi;subst hi
      exact⟨aO,by omega⟩
     ·cases hi
    inj:=fun i j i' hi hj=>by
     split at hi<;>split at hj<;>simp_all
    gj:=fun g hg=>by simp[hg]
    obj:=fun i i' hi=>by
     split at hi
     ·rename_i aO
      simp only[ak]at hi;subst hi
      cases hl:lk tb i with
      |some o=>
       refine⟨o,o,?_,.inr (.inl (O.AV (TA h5 hl).2)),.inl (eE _ (JQ hl))⟩
       show (qS (wR P.globals.size) tb).get i=_
       rw[zL,hl]
      |none=>
       refine⟨.dead,.dead,?_,.inl rfl,.inr rfl⟩
       show (qS (wR P.globals.size) tb).get i=_
       rw[zL,hl]
       exact NY _ _ aO
     ·cases hi
    old:=fun _ _=>rfl
    new:=fun i i' hi hr=>by
     have:P.globals.size<=i:=hi
     rw[aq (by omega)]at hr;cases hr
    D7:=fun i j i' hi _ hr _=>by
     have:P.globals.size<=i:=hi
     rw[aq (by omega)]at hr;cases hr
    full:=fun i' h1 h2=>by omega
    gJ:=aR _
    w0:=rfl
    W1:=fun i i' hi _=>by rw[hw]at hi;cases hi
    W2:=fun j hj=>by cases hj
    wl:=rfl
    ae:=fun _ _ _=>rfl
    wr:=fun i i' hi _=>by rw[hw]at hi;cases hi
    Sy:=fun i i' hi hr=>by
     have:P.globals.size<=i:=hi
     rw[aq (by omega)]at hr;cases hr}
   exact(GR.frame (hc _ _ _ _ _ bR) F (V.jj _ (by rfl)) (V.dK _ h3) (V.jj _ h2)) μ w Gv xs hh hG hx
  ·cases h
 ·cases h
def G9:List lB->Nat->List V->Option V
 |[],_,_=>none
 |e::l,f,args=>match Nat.beq e.f f with
  |true=>match V.iw e.args args with
   |true=>some e.v
   |false=>G9 l f args
  |false=>G9 l f args
def Ha(tb:List (Nat×O))(l:List lB):cH
 |.func f [] [],args,st=>match G9 l f args with
  |some v=>match Cm st tb with
   |true=>some (v,st)
   |false=>none
  |none=>none
 |_,_,_=>none
def TE:∀{l:List lB} {f:Nat} {args:List V} {v:V},G9 l f args=some v->∃e∈l,e.f=f/\e.args=args/\e.v=v
 |[],_,_,_,h=>by cases h
 |e::l,f,args,v,h=>by
  simp only[G9]at h
  split at h
  ·rename_i e1
   split at h
   ·rename_i e2
    simp only[ak]at h
    exact⟨e,nT,iE e1,V.dc _ _ e2,h⟩
   ·obtain⟨e',h1,h2⟩:=TE h;exact⟨e',nt _ h1,h2⟩
  ·obtain⟨e',h1,h2⟩:=TE h;exact⟨e',nt _ h1,h2⟩
def Wy{tb:List (Nat×O)}{l:List lB}(h:∀e∈l,TD P tb e):iO P (Ha tb l):=by
 intro g args st v ax hc
 unfold Ha at hc
 split at hc
 ·rename_i f
  split at hc
  ·rename_i u hu
   split at hc
   ·rename_i hp
    simp only[ak,bh]at hc
    obtain⟨rfl,rfl⟩:=hc
    obtain⟨e,h1,rfl,rfl,rfl⟩:=TE hu
    exact h e h1 st hp
   ·cases hc
  ·cases hc
 ·cases hc
structure jG where
 f:Nat
 first:List V
 fT:List V
 args:List V
 part:List (Nat×O)
 n:Nat
 v:V
 kept:List (Nat×O)
 zM:List (Nat×O)
def jG.st(e:jG)(G:Nat):St:=⟨qS (wR G) e.part,e.n,[]⟩
def sig(G:Nat)(part:List (Nat×O))(i:Nat):Option Nat:=
 match Nat.blt i G with
 |true=>some i
 |false=>match lk part i with
  |some _=>some i
  |none=>none
def idx(i:Nat):List (Nat×O)->Nat->Option Nat
 |[],_=>none
 |(k,_)::l,m=>match Nat.beq k i with
  |true=>some m
  |false=>idx i l (m+1)
def AX(G:Nat)(part:List (Nat×O))(n:Nat)(kept:List (Nat×O))(i:Nat):Option Nat:=
 match Nat.blt i n with
 |true=>sig G part i
 |false=>idx i kept n
def AY:List (Nat×O)->Nat->List (Nat×O)
 |[],_=>[]
 |(_,o)::l,m=>(m,o)::AY l (m+1)
def Hb(ρ:Nat->Option Nat)(s:St)(i:Nat)(o':O):Bool:=
 match s.h.get i with
 |some o=>match o' with
  |.dead=>true
  |o'=>G8 (o.bQ ρ) o'
 |none=>false
def NZ(ρ:Nat->Option Nat)(s:St)(n:Nat):List (Nat×O)->Nat->Bool
 |[],_=>true
 |(k,o)::l,m=>JP (ρ k) (some m)&&Nat.ble n k&&Nat.blt k s.n&&Hb ρ s k o&&NZ ρ s n l (m+1)
def jG.cG(e:jG)(G:Nat)(v:V)(s:St):Bool:=
 Nat.ble G e.n&&Nat.ble e.n s.n&&(e.part.all fun p=>Nat.blt p.1 e.n&&G8 (p.2.bQ (sig G e.part)) p.2)&&
 NX (V.dZ (sig G e.part) e.first) e.first&&NX (V.dZ (sig G e.part) e.fT) e.fT&&NX (V.dZ (sig G e.part) e.args) e.args&&
 vEq (V.bQ (AX G e.part e.n e.kept) v) e.v&&
 NZ (AX G e.part e.n e.kept) s e.n e.kept e.n&&
 (s.w.all fun i=>match sig G e.part i with|some _=>Eu i (e.zM.map (·.1))|none=>true)&&
 (e.zM.all fun p=>Eu p.1 s.w&&JP (sig G e.part p.1) (some p.1)&&Hb (AX G e.part e.n e.kept) s p.1 p.2)
def jG.ok(e:jG)(G:Nat)(call:cH):Bool:=
 match call (.func e.f e.first e.fT) e.args (e.st G)with
 |some (v,s)=>e.cG G v s
 |none=>false
def jG.out(e:jG)(S:St):St:=⟨qS (qS S.h e.zM) (AY e.kept e.n),e.n+e.kept.length,e.zM.map (·.1)++S.w⟩
def JT(e:jG):cH
 |.func f a c,args,S=>match Nat.beq e.f f with
  |true=>match V.iw e.args args&&V.iw e.first a&&V.iw e.fT c&&Nat.beq S.n e.n&&Cm S e.part with
   |true=>some (e.v,e.out S)
   |false=>none
  |false=>none
 |_,_,_=>none
def JU{i:Nat}:∀{l:List (Nat×O)} {m i':Nat},idx i l m=some i'->m<=i'/\i'<m+l.length/\∃o,l[i'-m]?=some (i,o)
 |[],m,i',h=>by cases h
 |(k,o)::l,m,i',h=>by
  simp only[idx]at h
  split at h
  ·rename_i e
   simp only[ak]at h;subst h
   have:=iE e;subst this
   exact⟨aR _,by simp,o,by simp⟩
  ·obtain⟨h1,h2,o',h3⟩:=JU h
   refine⟨by omega,by simp;omega,o',?_⟩
   rw[show i'-m=(i'-(m+1))+1 by omega]
   simpa using h3
def Zos:∀{l:List (Nat×O)} {m j:Nat} {p:Nat×O},l[j]?=some p->lk (AY l m) (m+j)=some p.2
 |[],m,j,p,h=>by simp at h
 |(k,o)::l,m,0,p,h=>by
  simp at h;subst h
  simp[AY,lk]
 |(k,o)::l,m,j+1,p,h=>by
  simp only[AY,lk]
  have:Nat.beq m (m+(j+1))=false:=by
   cases hb:Nat.beq m (m+(j+1))with
   |false=>rfl
   |true=>have:=iE hb;omega
  rw[this,show m+(j+1)=(m+1)+j by omega]
  exact Zos (by simpa using h)
def Zlm:∀{l:List (Nat×O)} {m i:Nat},i<m->lk (AY l m) i=none
 |[],_,_,_=>rfl
 |(k,o)::l,m,i,h=>by
  simp only[AY,lk]
  have:Nat.beq m i=false:=by
   cases hb:Nat.beq m i with
   |false=>rfl
   |true=>have:=iE hb;omega
  rw[this]
  exact Zlm (by omega)
def Zow{ρ:Nat->Option Nat}{s:St}{n:Nat}:∀{l:List (Nat×O)} {m:Nat},NZ ρ s n l m=true->∀{j:Nat} {p:Nat×O},l[j]?=some p->ρ p.1=some (m+j)/\n<=p.1/\p.1<s.n/\Hb ρ s p.1 p.2=true
 |[],m,_,j,p,h=>by simp at h
 |(k,o)::l,m,h,j,p,hj=>by
  simp only[NZ,iS]at h
  obtain⟨⟨⟨⟨h1,h2⟩,h3⟩,h4⟩,h5⟩:=h
  cases j with
  |zero=>
   simp at hj;subst hj
   exact⟨Tv h1,sL h2,Al (sL h3),h4⟩
  |succ j=>
   obtain⟨q1,q2⟩:=Zow h5 (j:=j) (by simpa using hj)
   exact⟨by rw[q1];congr 1;omega,q2⟩
def Zor{ρ:Nat->Option Nat}{s:St}{o':O}(h:Hb ρ s i o'=true):∃o,s.h.get i=some o/\(o'=.dead\/o.bQ ρ=some o'):=by
 unfold Hb at h
 split at h
 ·rename_i o ho
  refine⟨o,ho,?_⟩
  split at h
  ·exact .inl rfl
  ·exact .inr (Tw h)
 ·cases h
def Hc{part:List (Nat×O)}{i':Nat}(h:sig G part i=some i'):i'=i/\(i<G\/∃o,lk part i=some o):=by
 unfold sig at h
 split at h
 ·rename_i e
  simp only[ak]at h
  exact⟨h.symm,.inl (Al (sL e))⟩
 ·split at h
  ·rename_i o ho
   simp only[ak]at h
   exact⟨h.symm,.inr ⟨o,ho⟩⟩
  ·cases h
def Zy9{call:cH}(bR:iO P call){e:jG}(h:e.ok P.globals.size call=true):iO P (JT e):=by
 intro g args S v S' hc
 unfold JT at hc
 split at hc
 ·rename_i f a c
  split at hc
  ·rename_i hf
   have hf:=iE hf
   subst hf
   split at hc
   ·rename_i cL
    simp only[iS]at cL
    obtain⟨⟨⟨⟨c1,c2⟩,c3⟩,c4⟩,c5⟩:=cL
    have c1:=V.dc _ _ c1
    have c2:=V.dc _ _ c2
    have c3:=V.dc _ _ c3
    have c4:=iE c4
    have c5:=TC c5
    simp only[ak,bh]at hc
    obtain⟨rfl,rfl⟩:=hc
    subst c1;subst c2;subst c3
    unfold jG.ok at h
    split at h
    ·rename_i v0 s bH
     unfold jG.cG at h
     simp only[iS,sJ]at h
     obtain⟨⟨⟨⟨⟨⟨⟨⟨⟨k1,k2⟩,k3⟩,k4⟩,k5⟩,k6⟩,k7⟩,k8⟩,k9⟩,k10⟩:=h
     have k1:=sL k1
     have k2:=sL k2
     have eE:∀i o,lk e.part i=some o->i<e.n/\o.bQ (sig P.globals.size e.part)=some o/\S.h.get i=some o:=fun i o ho=>by
      have hm:=JQ ho
      obtain⟨q1,q2⟩:=k3 _ hm
      exact⟨Al (sL q1),Tw q2,c5 _ hm⟩
     have N6:∀i,e.n<=i->AX P.globals.size e.part e.n e.kept i=idx i e.kept e.n:=fun i hi=>by
      unfold AX
      have:Nat.blt i e.n=false:=by
       cases hb:Nat.blt i e.n with
       |false=>rfl
       |true=>have:=Al (sL hb);omega
      rw[this]
     have yg:∀j p,e.kept[j]?=some p->AX P.globals.size e.part e.n e.kept p.1=some (e.n+j)/\e.n<=p.1/\p.1<s.n/\Hb (AX P.globals.size e.part e.n e.kept) s p.1 p.2=true:=fun j p hj=>Zow k8 hj
     have JV:∀j,j<e.n->(e.out S).h.get j=match lk e.zM j with|some o=>some o|none=>S.h.get j:=fun j hj=>by
      show (qS (qS S.h e.zM) (AY e.kept e.n)).get j=_
      rw[zL,Zlm hj,zL]
     have F:D6 P (sig P.globals.size e.part) (AX P.globals.size e.part e.n e.kept) (e.zM.map (·.1)) (e.st P.globals.size) s S (e.out S):={
      cU:=fun i i' hi=>by
       obtain⟨rfl,GU⟩:=Hc hi
       have:i'<e.n:=by
        rcases GU with h|⟨o,ho⟩
        ·omega
        ·exact(eE _ _ ho).1
       exact⟨this,by omega⟩
      inj:=fun i j i' hi hj=>by rw[<-(Hc hi).1,<-(Hc hj).1]
      gj:=fun g hg=>by
       unfold sig
       have:Nat.blt g P.globals.size=true:=Nb hg
       rw[this]
      obj:=fun i i' hi=>by
       obtain⟨rfl,GU⟩:=Hc hi
       cases hl:lk e.part i' with
       |some o=>
        obtain⟨q1,q2,q3⟩:=eE _ _ hl
        refine⟨o,o,?_,.inr (.inl q2),.inl q3⟩
        show (qS (wR P.globals.size) e.part).get i'=_
        rw[zL,hl]
       |none=>
        have hg:i'<P.globals.size:=by
         rcases GU with h|⟨o,ho⟩
         ·exact h
         ·rw[hl]at ho;cases ho
        refine⟨.dead,.dead,?_,.inl rfl,.inr rfl⟩
        show (qS (wR P.globals.size) e.part).get i'=_
        rw[zL,hl]
        exact NY _ _ hg
      old:=fun i hi=>by
       have:Nat.blt i e.n=true:=Nb hi
       unfold AX;rw[this]
      new:=fun i i' hi hr=>by
       rw[N6 i hi]at hr
       obtain⟨q1,q2,o,q3⟩:=JU hr
       obtain⟨_,_,r3,_⟩:=yg _ _ q3
       exact⟨by omega,q2,r3⟩
      D7:=fun i j i' hi hj GS hrj=>by
       rw[N6 i hi]at GS
       rw[N6 j hj]at hrj
       obtain⟨_,_,o,q3⟩:=JU GS
       obtain⟨_,_,o',Nt⟩:=JU hrj
       rw[q3]at Nt
       cases Nt;rfl
      full:=fun i' h1 h2=>by
       have ks:i'<e.n+e.kept.length:=h2
       obtain⟨p,hp⟩:∃p,e.kept[i'-e.n]?=some p:=⟨_,dT (by omega)⟩
       obtain⟨r1,r2,_,_⟩:=yg _ _ hp
       exact⟨p.1,r2,by rw[r1];congr 1;omega⟩
      gJ:=by show S.n<=e.n+e.kept.length;omega
      w0:=rfl
      W1:=fun i i' hi hs=>by
       obtain⟨rfl,_⟩:=Hc hs
       have:=k9 _ hi
       rw[hs]at this
       exact JR.1 this
      W2:=fun j hj=>by
       obtain⟨p,hp,rfl⟩:=tV.1 hj
       obtain⟨⟨q1,q2⟩,_⟩:=k10 _ hp
       exact⟨p.1,JR.1 q1,Tv q2⟩
      wl:=rfl
      ae:=fun j hj hn=>by
       rw[JV j (by omega)]
       cases hl:lk e.zM j with
       |none=>rfl
       |some o=>exact absurd (tV.2 ⟨_,JQ hl,rfl⟩) hn
      wr:=fun i i' hi hs=>by
       obtain⟨rfl,GU⟩:=Hc hs
       have aO:i'<e.n:=by
        rcases GU with h|⟨o,ho⟩
        ·omega
        ·exact(eE _ _ ho).1
       have:=k9 _ hi
       rw[hs]at this
       obtain⟨p,hp,JW⟩:=tV.1 (JR.1 this)
       obtain⟨o',ux⟩:=Ykw (l:=e.zM) (i:=i') (o:=p.2) (by rw[<-JW];exact hp)
       obtain⟨_,q3⟩:=k10 _ (JQ ux)
       obtain⟨o,r1,r2⟩:=Zor q3
       exact⟨o,o',r1,by rw[JV _ aO,ux],r2⟩
      Sy:=fun i i' hi hr=>by
       rw[N6 i hi]at hr
       obtain⟨q1,q2,o,q3⟩:=JU hr
       obtain⟨_,_,_,r4⟩:=yg _ _ q3
       obtain⟨o2,t1,t2⟩:=Zor r4
       refine⟨o2,o,t1,?_,t2⟩
       show (qS (qS S.h e.zM) (AY e.kept e.n)).get i'=_
       have:=Zos (m:=e.n) q3
       rw[show e.n+(i'-e.n)=i' by omega]at this
       rw[zL,this]}
     refine GR.frame (bR _ _ _ _ _ bH) F ?_ (Ty k6) (Ymp k7)
     simp only[V.bQ,Ty k4,Ty k5]
    ·cases h
   ·cases hc
  ·cases hc
 ·cases hc
def wQ(x:cH)(dw:Nat->Option jX)(fuel:Nat):Nat->cH
 |0=>x
 |d+1=>qG x (vE dw (dH (wQ x dw fuel d) fuel))
def Oa{P:Program}{dw:Nat->Option jX}(hm:P.follows .mixedOrders=true)(hE:rn P)(ht:SH P dw){x:cH}(hx:iO P x)(fuel:Nat):∀d,iO P (wQ x dw fuel d)
 |0=>hx
 |d+1=>by
  have ih:=Oa hm hE ht hx fuel d
  exact hx.or (Zun ht (Yu ih hE (YV hm hE ih) (Zh ih hE) (Zb ih) fuel))
def Ob:List jG->Nat->List V->List V->List V->St->Option (V×St)
 |[],_,_,_,_,_=>none
 |e::l,f,a,c,args,S=>match Nat.beq e.f f with
  |true=>match JT e (.func f a c) args S with
   |some r=>some r
   |none=>Ob l f a c args S
  |false=>Ob l f a c args S
def TF(l:List jG):cH
 |.func f a c,args,S=>Ob l f a c args S
 |_,_,_=>none
def Ygp{l:List jG}(h:∀e∈l,iO P (JT e)):iO P (TF l):=by
 intro g args S v S' hc
 unfold TF at hc
 split at hc
 ·rename_i f a c
  induction l with
  |nil=>cases hc
  |cons e l ih=>
   simp only[Ob]at hc
   split at hc
   ·split at hc
    ·rename_i r hr
     cases hc
     exact h e nT _ _ _ _ _ hr
    ·exact ih (fun e he=>h e (nt _ he)) hc
   ·exact ih (fun e he=>h e (nt _ he)) hc
 ·cases hc
def JX(tb:List (Nat×O))(L:List lB)(E:List jG):cH:=qG (Ha tb L) (TF E)
structure b_ (P:Program) (tb:List (Nat×O)) (L:List lB) (E:List jG):Prop where
 p:∀e∈L,TD P tb e
 e:∀e∈E,iO P (JT e)
def b_.call{tb:List (Nat×O)}{L:List lB}{E:List jG}(h:b_ P tb L E):iO P (JX tb L E):=(Wy h.p).or (Ygp h.e)
def b_.nil{tb:List (Nat×O)}:b_ P tb [] []:=⟨fun _ h=>(by cases h),fun _ h=>(by cases h)⟩
structure Bu (P:Program) (dw:Nat->Option jX) (G:Nat):Prop where
 m:P.follows .mixedOrders=true
 e:rn P
 t:SH P dw
 g:P.globals.size=G
def b_.TG{dw:Nat->Option jX}{fuel d:Nat}(hP:Bu P dw G){tb:List (Nat×O)}{L:List lB}{E:List jG}(h:b_ P tb L E){e:lB}(he:e.ok tb G (wQ (JX tb L E) dw fuel d)=true):b_ P tb (e::L) E:=
 ⟨fun e' hm=>by
  rcases jy.1 hm with rfl|hm
  ·exact lB.pure (Oa hP.m hP.e hP.t h.call fuel d) (by rw[hP.g];exact he)
  ·exact h.p e' hm,h.e⟩
def b_.TH{dw:Nat->Option jX}{fuel d:Nat}(hP:Bu P dw G){tb:List (Nat×O)}{L:List lB}{E:List jG}(h:b_ P tb L E){e:jG}(he:e.ok G (wQ (JX tb L E) dw fuel d)=true):b_ P tb L (e::E):=
 ⟨h.p,fun e' hm=>by
  rcases jy.1 hm with rfl|hm
  ·exact Zy9 (Oa hP.m hP.e hP.t h.call fuel d) (by rw[hP.g];exact he)
  ·exact h.e e' hm⟩
def Yh5(tb:List (Nat×O))(G:Nat)(dw:Nat->Option jX)(L:List lB)(E:List jG):Bool:=match L with
 |[]=>false
 |e::t=>e.ok tb G (wQ (JX tb t E) dw 5000 40)
def Ycr(tb:List (Nat×O))(G:Nat)(dw:Nat->Option jX)(L:List lB)(E:List jG):Bool:=match E with
 |[]=>false
 |e::t=>e.ok G (wQ (JX tb L t) dw 5000 40)
def b_.p1{P:Program}{dw:Nat->Option jX}{G:Nat}(hP:Bu P dw G){tb:List (Nat×O)}{L:List lB}{E:List jG}(h:b_ P tb L.tail E)(he:Yh5 tb G dw L E=true):b_ P tb L E:=by
 cases L with
 |nil=>exact h
 |cons e t=>exact b_.TG hP h he
def b_.e1{P:Program}{dw:Nat->Option jX}{G:Nat}(hP:Bu P dw G){tb:List (Nat×O)}{L:List lB}{E:List jG}(h:b_ P tb L E.tail)(he:Ycr tb G dw L E=true):b_ P tb L E:=by
 cases E with
 |nil=>exact h
 |cons e t=>exact b_.TH hP h he
section
variable {call:cH} {f:Nat} {ro:Option Nat} {a b c:cj} {fr:Fr} {st:St}
end
def Ynf{a b:Nat}:Nat.blt a b=decide (a<b):=by
 cases h:Nat.blt a b
 ·symm;simp only[decide_eq_false_iff_not];intro hc;rw[show Nat.blt a b=true from Nb hc]at h;cases h
 ·symm;simp only[decide_eq_true_eq];exact Al (sL h)
def Yng{a b:Nat}:Nat.ble a b=decide (a<=b):=by
 cases h:Nat.ble a b
 ·symm;simp only[decide_eq_false_iff_not];intro hc;rw[Nb hc]at h;cases h
 ·symm;simp only[decide_eq_true_eq];exact sL h
def cb{n:Int}(h1: -9223372036854775808<=n)(h2:n<9223372036854775808):bb .i64 n=n:=by
 rw[xF]
 simp[IntKind.wrap,IntKind.bits,IntKind.signed]
 omega
def Zyv{k a b}:pn .add k a b=some (.int k (bb k (a+b))):=rfl
def Zyk{k a b}:pn .sub k a b=some (.int k (bb k (a-b))):=rfl
def Zyp{k a b}:pn .mul k a b=some (.int k (bb k (a*b))):=rfl
def Zyn{k a b}(h:¬b=0):pn .quo k a b=some (.int k (bb k (a.tdiv b))):=by simp[pn,h]
def Zym{k a b}(h:¬b=0):pn .rem k a b=some (.int k (a.tmod b)):=by simp[pn,h]
def Zyu{k a b}:pn .eql k a b=some (.bool (a==b)):=rfl
def Zyo{k a b}:pn .neq k a b=some (.bool (a !=b)):=rfl
def Zyq{k a b}:pn .lss k a b=some (.bool (decide (a<b))):=rfl
def Zyr{k a b}:pn .leq k a b=some (.bool (decide (a<=b))):=rfl
def Zys{k a b}:pn .gtr k a b=some (.bool (decide (a > b))):=rfl
def Zyt{k a b}:pn .geq k a b=some (.bool (decide (a≥b))):=rfl
def Ykj(x):bX (.mF x)=Dy x:=rfl
def Yfz(a b c):bX (.pick a b c)=BR a b c:=rfl
def Ybx(a b):bX (.alloc a b)=GF a b:=rfl
def Ykn(a b):bX (.box a b)=Dz a b:=rfl
def Ybw(a b):bX (.build a b)=Au a b:=rfl
def Zx4(a b c d e):bX (.mH a b c d e)=DC a b c d e:=rfl
def Yf0(a b):bX (.load a b)=DD a b:=rfl
def Ybo(a b c):bX (.store a b c)=BS a b c:=rfl
def Ybq(a):bX (.mI a)=DE a:=rfl
def Yko(a b c d e):bX (.bin a b c d e)=DF a b c d e:=rfl
def Yni(a b):bX (.un a b)=DG a b:=rfl
def Zt2(a b):bX (.cR a b)=DH a b:=rfl
def Zxx(a b c):bX (.mL a b c)=DJ a b c:=rfl
def Ybt(a b):bX (.og a b)=DK a b:=rfl
def Ybs(a b c):bX (.field a b c)=DL a b c:=rfl
def Zrf(a b c d):bX (.gg a b c d)=Aw a b c d:=rfl
def Ztz(a b c):bX (.c_ a b c)=BV a b c:=rfl
def Zt0(a b):bX (.extract a b)=DP a b:=rfl
def Ykk(a b):bX (.len a b)=vC a b:=rfl
def Yf2(a b):bX (.call a b)=wI a b:=rfl
structure Yok (r:Option (V×St)) (v:V):Prop where
 ex:∃s,r=some (v,s)/\s.w=[]
def Zyy{u v:V}{s:St}:Yok (some (u,s)) v↔u=v/\s.w=[]:=
 ⟨fun ⟨_,h1,h2⟩=>by simp only[ak,bh]at h1;exact⟨h1.1,h1.2▸h2⟩,fun ⟨h1,h2⟩=>⟨s,by rw[h1],h2⟩⟩
attribute [simp]
 Ykj Yfz Ybx Ykn Ybw Zx4 Yf0 Ybo Ybq Yko Yni Zt2 Zxx Ybt Ybs Zrf Ztz Zt0 Ykk Yf2
 Dy BR GF Dz Au DC DD DE DF DG DH DJ DK DL Aw DP wI
 wJ bM Src.ev T.ai gm B0 aB R8 Zyv Zyk Zyp Zyn Zym Zyu Zyo Zyq Zyr Zys Zyt iC R9 rA az zu zt aL V.cells V.one St.alloc St.write St.row cb Ynf Yng vD nw fS.mM Ni gO cD cD.go cD.cG FP.free t_ Nat.testBit Zyy base
end Go.Mx

