/-Calls that are known-/
import Derived.Test.YteojhfjdbpdolaaGreatDoorMxDraw2
import Derived.Test.YteojhfjdbpdolaaGreatDoorMxFrame
import Derived.Below
import Derived.CallsIn
set_option linter.all false
namespace Go.Mx
open Go
variable {G i:Nat} {P:Program}
def Mt:Bool->Bool->Bool
 |true,b=>b
 |false,true=>false
 |false,false=>true
def Q6:IntKind->Nat
 |.i8=>0|.i16=>1|.i32=>2|.i64=>3|.u8=>4|.u16=>5|.u32=>6|.u64=>7
def XW:Int->Int->Bool
 |.ofNat a,b=>match b with
  |.ofNat b=>Nat.beq a b
  |.negSucc _=>false
 |.negSucc a,b=>match b with
  |.ofNat _=>false
  |.negSucc b=>Nat.beq a b
def Hk:List UInt8->List UInt8->Bool
 |[],l=>match l with
  |[]=>true
  |_::_=>false
 |a::xs,l=>match l with
  |[]=>false
  |b::ys=>match Nat.beq a.toNat b.toNat with
   |true=>Hk xs ys
   |false=>false
def Mv:Option Nat->Option Nat->Bool
 |none,b=>match b with
  |none=>true
  |some _=>false
 |some a,b=>match b with
  |none=>false
  |some b=>Nat.beq a b
def XX{a b:Bool}(h:Mt a b=true):a=b:=by cases a<;>cases b<;>simp_all [Mt]
def jM{a b:Nat}(h:Nat.beq a b=true):a=b:=Qj h
def Yp7{a b:IntKind}(h:Nat.beq (Q6 a) (Q6 b)=true):a=b:=by cases a<;>cases b<;>first|rfl|(exact absurd h (by decide))
def Yj9{a b:Int}(h:XW a b=true):a=b:=by
 cases a<;>cases b<;>simp only[XW,fH]at h
 ·rw[jM h]
 ·rw[jM h]
def XY:∀{a b:List UInt8},Hk a b=true->a=b
 |[],[],_=>rfl
 |[],_::_,h=>by simp[Hk]at h
 |_::_,[],h=>by simp[Hk]at h
 |a::xs,b::ys,h=>by
  simp only[Hk]at h
  split at h
  ·rename_i e
   rw[XY h,UInt8.toNat_inj.1 (jM e)]
  ·cases h
def XZ{a b:Option Nat}(h:Mv a b=true):a=b:=by
 cases a<;>cases b<;>simp only[Mv,fH]at h
 ·rfl
 ·rw[jM h]
def Q7:FloatKind->Nat
 |.f32=>0|.f64=>1
def Yqe{a b:FloatKind}(h:Nat.beq (Q7 a) (Q7 b)=true):a=b:=by cases a<;>cases b<;>first|rfl|(exact absurd h (by decide))
def V.isBool(x:Bool):V->Bool|.bool y=>Mt x y|_=>false
def V.isInt(k:IntKind)(n:Int):V->Bool|.int k' n'=>(match Nat.beq (Q6 k) (Q6 k')with|true=>XW n n'|false=>false)|_=>false
def V.EK(k:FloatKind)(n:Nat):V->Bool|.vf k' n'=>(match Nat.beq (Q7 k) (Q7 k')with|true=>Nat.beq n n'|false=>false)|_=>false
def V.isStr(s:List UInt8):V->Bool|.str t=>Hk s t|_=>false
def V.tH:V->Bool|.bF=>true|_=>false
def V.EL(i o:Nat):V->Bool|.ptr i' o'=>(match Nat.beq i i' with|true=>Nat.beq o o'|false=>false)|_=>false
def V.oD:V->Bool|.aa=>true|_=>false
def V.isSlice(i o l:Nat)(c:Option Nat)(z:Nat):V->Bool|.slice i' o' l' c' z'=>Nat.beq i i'&&Nat.beq o o'&&Nat.beq l l'&&Mv c c'&&Nat.beq z z'|_=>false
def V.isEmpty:V->Bool|.empty=>true|_=>false
def V.tI:V->Bool|.bN=>true|_=>false
def V.EM(i:Nat):V->Bool|.map j=>Nat.beq i j|_=>false
def V.qi:V->Bool|.bR=>true|_=>false
def V.isChan(i:Nat):V->Bool|.chan j=>Nat.beq i j|_=>false
def V.xE(i:Nat):V->Bool|.yield j=>Nat.beq i j|_=>false
def V.qj:V->Bool|.bD=>true|_=>false
def V.oF:V->Bool|.a_=>true|_=>false
mutual
def V.beq:V->V->Bool
 |.bool x,b=>b.isBool x
 |.int k n,b=>b.isInt k n
 |.vf k n,b=>b.EK k n
 |.str s,b=>b.isStr s
 |.bF,b=>b.tH
 |.ptr i o,b=>b.EL i o
 |.aa,b=>b.oD
 |.slice i o l c z,b=>b.isSlice i o l c z
 |.empty,b=>b.isEmpty
 |.bN,b=>b.tI
 |.map i,b=>b.EM i
 |.bR,b=>b.qi
 |.chan i,b=>b.isChan i
 |.func f a c,b=>match b with
  |.func f' a' c'=>Nat.beq f f'&&V.iK a a'&&V.iK c c'
  |_=>false
 |.yield i,b=>b.xE i
 |.bD,b=>b.qj
 |.iface t v,b=>match b with
  |.iface t' v'=>Nat.beq t t'&&V.beq v v'
  |_=>false
 |.a_,b=>b.oF
 |.agg l,b=>match b with
  |.agg l'=>V.iK l l'
  |_=>false
 |.aX l,b=>match b with
  |.aX l'=>V.iK l l'
  |_=>false
def V.iK:List V->List V->Bool
 |[],l=>match l with
  |[]=>true
  |_::_=>false
 |a::xs,l=>match l with
  |[]=>false
  |b::ys=>match V.beq a b with
   |true=>V.iK xs ys
   |false=>false
end
mutual
def V.beq_eq:∀(a b:V),V.beq a b=true->a=b
 |.bool x,b,h=>by cases b<;>simp only[V.beq,V.isBool,fH]at h;rw[XX h]
 |.int k n,b,h=>by
  cases b<;>simp only[V.beq,V.isInt,fH]at h
  split at h
  ·rename_i e;rw[Yp7 e,Yj9 h]
  ·cases h
 |.vf k n,b,h=>by
  cases b<;>simp only[V.beq,V.EK,fH]at h
  split at h
  ·rename_i e;rw[Yqe e,jM h]
  ·cases h
 |.str s,b,h=>by cases b<;>simp only[V.beq,V.isStr,fH]at h;rw[XY h]
 |.bF,b,h=>by cases b<;>simp only[V.beq,V.tH,fH]at h;rfl
 |.ptr i o,b,h=>by
  cases b<;>simp only[V.beq,V.EL,fH]at h
  split at h
  ·rename_i e;rw[jM e,jM h]
  ·cases h
 |.aa,b,h=>by cases b<;>simp only[V.beq,V.oD,fH]at h;rfl
 |.slice i o l c z,b,h=>by
  cases b<;>simp only[V.beq,V.isSlice,fH,iE]at h
  obtain⟨⟨⟨⟨h1,h2⟩,h3⟩,h4⟩,h5⟩:=h
  rw[jM h1,jM h2,jM h3,XZ h4,jM h5]
 |.empty,b,h=>by cases b<;>simp only[V.beq,V.isEmpty,fH]at h;rfl
 |.bN,b,h=>by cases b<;>simp only[V.beq,V.tI,fH]at h;rfl
 |.map i,b,h=>by cases b<;>simp only[V.beq,V.EM,fH]at h;rw[jM h]
 |.bR,b,h=>by cases b<;>simp only[V.beq,V.qi,fH]at h;rfl
 |.chan i,b,h=>by cases b<;>simp only[V.beq,V.isChan,fH]at h;rw[jM h]
 |.func f a c,b,h=>by
  cases b<;>simp only[V.beq,fH,iE]at h
  obtain⟨⟨h1,h2⟩,h3⟩:=h
  rw[jM h1,V.di _ _ h2,V.di _ _ h3]
 |.yield i,b,h=>by cases b<;>simp only[V.beq,V.xE,fH]at h;rw[jM h]
 |.bD,b,h=>by cases b<;>simp only[V.beq,V.qj,fH]at h;rfl
 |.iface t v,b,h=>by
  cases b<;>simp only[V.beq,fH,iE]at h
  rw[jM h.1,V.beq_eq _ _ h.2]
 |.a_,b,h=>by cases b<;>simp only[V.beq,V.oF,fH]at h;rfl
 |.agg l,b,h=>by cases b<;>simp only[V.beq,fH]at h;rw[V.di _ _ h]
 |.aX l,b,h=>by cases b<;>simp only[V.beq,fH]at h;rw[V.di _ _ h]
def V.di:∀(a b:List V),V.iK a b=true->a=b
 |[],[],_=>rfl
 |[],_::_,h=>by simp[V.iK]at h
 |_::_,[],h=>by simp[V.iK]at h
 |a::xs,b::ys,h=>by
  simp only[V.iK]at h
  split at h
  ·rename_i e;rw[V.beq_eq a b e,V.di xs ys h]
  ·cases h
end
def JQ:List (V×V)->List (V×V)->Bool
 |[],l=>match l with
  |[]=>true
  |_::_=>false
 |(k,v)::xs,l=>match l with
  |[]=>false
  |(k',v')::ys=>V.beq k k'&&V.beq v v'&&JQ xs ys
def Yf8:∀{a b:List (V×V)},JQ a b=true->a=b
 |[],[],_=>rfl
 |[],_::_,h=>by simp[JQ]at h
 |_::_,[],h=>by simp[JQ]at h
 |(k,v)::xs,(k',v')::ys,h=>by
  simp only[JQ,iE]at h
  rw[V.beq_eq _ _ h.1.1,V.beq_eq _ _ h.1.2,Yf8 h.2]
def O.beq:O->O->Bool
 |.cells c e rw,b=>match b with
  |.cells c' e' pO=>Nat.beq e e'&&Mt rw pO&&V.iK c c'
  |_=>false
 |.map es,b=>match b with
  |.map gJ=>JQ es gJ
  |_=>false
 |.chan cap buf,b=>match b with
  |.chan cap' Cj=>Nat.beq cap cap'&&V.iK buf Cj
  |_=>false
 |.eG s pos,b=>match b with
  |.eG s' pos'=>Hk s s'&&Nat.beq pos pos'
  |_=>false
 |.defs o,b=>match b with
  |.defs o'=>Mt o o'
  |_=>false
 |.loop _,_=>false
 |.dead,b=>match b with
  |.dead=>true
  |_=>false
def O.beq_eq{a b:O}(h:O.beq a b=true):a=b:=by
 cases a<;>simp only[O.beq,fH]at h<;>cases b<;>simp only[fH,iE]at h
 ·obtain⟨⟨h1,h2⟩,h3⟩:=h;rw[jM h1,XX h2,V.di _ _ h3]
 ·rw[Yf8 h]
 ·rw[jM h.1,V.di _ _ h.2]
 ·rw[XY h.1,jM h.2]
 ·rw[XX h]
 ·rfl
def Jx:Option O->O->Bool
 |some a,b=>O.beq a b
 |none,_=>false
def X0{a:Option O}{b:O}(h:Jx a b=true):a=some b:=by
 cases a with
 |none=>cases h
 |some a=>rw[O.beq_eq h]
def vEq:Option V->V->Bool
 |some a,b=>V.beq a b
 |none,_=>false
def Yr1{a:Option V}{b:V}(h:vEq a b=true):a=some b:=by
 cases a with
 |none=>cases h
 |some a=>rw[V.beq_eq _ _ h]
def Q8:Option (List V)->List V->Bool
 |some a,b=>V.iK a b
 |none,_=>false
def X7{a:Option (List V)}{b:List V}(h:Q8 a b=true):a=some b:=by
 cases a with
 |none=>cases h
 |some a=>rw[V.di _ _ h]
mutual
def V.free:V->Bool
 |.ptr ..|.slice ..|.map _|.chan _|.yield _=>false
 |.func _ a c=>V.jN a&&V.jN c
 |.iface _ v=>V.free v
 |.agg l=>V.jN l
 |.aX l=>V.jN l
 |_=>true
def V.jN:List V->Bool
 |[]=>true
 |v::vs=>V.free v&&V.jN vs
end
mutual
def V.jO{ρ:Nat->Option Nat}:∀(v:V),V.free v=true->V.bV ρ v=some v
 |.bool _,_=>rfl
 |.int _ _,_=>rfl
 |.vf _ _,_=>rfl
 |.str _,_=>rfl
 |.bF,_=>rfl
 |.ptr _ _,h=>by simp[V.free]at h
 |.aa,_=>rfl
 |.slice _ _ _ _ _,h=>by simp[V.free]at h
 |.empty,_=>rfl
 |.bN,_=>rfl
 |.map _,h=>by simp[V.free]at h
 |.bR,_=>rfl
 |.chan _,h=>by simp[V.free]at h
 |.func f a c,h=>by
  simp only[V.free,iE]at h
  simp only[V.bV,V.dX a h.1,V.dX c h.2]
 |.yield _,h=>by simp[V.free]at h
 |.bD,_=>rfl
 |.iface t v,h=>by
  simp only[V.free]at h
  simp only[V.bV,V.jO v h]
 |.a_,_=>rfl
 |.agg l,h=>by
  simp only[V.free]at h
  simp only[V.bV,V.dX l h]
 |.aX l,h=>by
  simp only[V.free]at h
  simp only[V.bV,V.dX l h]
def V.dX{ρ:Nat->Option Nat}:∀(l:List V),V.jN l=true->V.eA ρ l=some l
 |[],_=>rfl
 |v::vs,h=>by
  simp only[V.jN,iE]at h
  simp only[V.eA,V.jO v h.1,V.dX vs h.2]
end
def zo:Nat->T O
 |0=>.nil
 |n+1=>(zo n).set n .dead
def Q9:∀(n i:Nat),i<n->(zo n).get i=some .dead
 |0,i,h=>by omega
 |n+1,i,h=>by
  simp only[zo,T.ag]
  by_cases e:i=n
  ·rw[av e]
  ·rw[ak e];exact Q9 n i (by omega)
def base(G:Nat):St:=⟨zo G,G,[]⟩
def lk:List (Nat×O)->Nat->Option O
 |[],_=>none
 |(j,o)::l,i=>match Nat.beq j i with
  |true=>some o
  |false=>lk l i
def tJ(h:T O):List (Nat×O)->T O
 |[]=>h
 |(j,o)::l=>(tJ h l).set j o
def BM(h:T O):∀(l:List (Nat×O)) (i:Nat),(tJ h l).get i=match lk l i with|some o=>some o|none=>h.get i
 |[],i=>rfl
 |(j,o)::l,i=>by
  simp only[tJ,T.ag,lk]
  by_cases e:i=j
  ·subst e
   rw[av rfl,Nat.beq_refl _]
  ·rw[ak e]
   have:Nat.beq j i=false:=by
    cases hb:Nat.beq j i with
    |false=>rfl
    |true=>exact absurd (Qj hb).symm e
   rw[this]
   exact BM h l i
def Mw:∀{l:List (Nat×O)} {i:Nat} {o:O},lk l i=some o->(i,o)∈l
 |(j,o')::l,i,o,h=>by
  simp only[lk]at h
  split at h
  ·rename_i e
   have:=jM e
   simp only[al]at h
   subst h;subst this;exact ph
  ·exact oU _ (Mw h)
def Yfb:∀{l:List (Nat×O)} {i:Nat},lk l i=none->∀p∈l,p.1≠i
 |[],_,_,p,hp=>by cases hp
 |(j,o')::l,i,h,p,hp=>by
  simp only[lk]at h
  split at h
  ·cases h
  ·rename_i e
   rcases kW.1 hp with rfl|hp
   ·intro hc
    simp only at hc
    subst hc
    have:Nat.beq j j=true:=Nat.beq_refl _
    rw[this]at e;cases e
   ·exact Yfb h p hp
def Ypq{l:List (Nat×O)}{i:Nat}{o:O}(h:(i,o)∈l):∃o',lk l i=some o':=by
 cases hc:lk l i with
 |some o'=>exact⟨o',rfl⟩
 |none=>exact absurd rfl (Yfb hc _ h)
def He(i:Nat):List Nat->Bool
 |[]=>false
 |j::l=>match Nat.beq j i with
  |true=>true
  |false=>He i l
def Mf{i:Nat}:∀{l:List Nat},He i l=true↔i∈l
 |[]=>by simp[He]
 |j::l=>by
  simp only[He]
  split
  ·rename_i e;simp[jM e]
  ·rename_i e
   have:i≠j:=by
    rintro rfl
    have:Nat.beq i i=true:=Nat.beq_refl _
    rw[this]at e;cases e
   simp[Mf,this]
structure mS where
 f:Nat
 args:List V
 v:V
def O.X8:O->Bool
 |.cells c _ false=>V.jN c
 |_=>false
def My(G:Nat):List (Nat×O)->Bool
 |[]=>true
 |(i,o)::l=>Nat.blt i G&&o.X8&&My G l
def O.C5{ρ:Nat->Option Nat}{o:O}(h:o.X8=true):o.bV ρ=some o:=by
 cases o with
 |cells c e rw=>
  cases rw with
  |true=>cases h
  |false=>simp only[O.bV,V.dX c h]
 |_=>cases h
def X9{G:Nat}:∀{l:List (Nat×O)},My G l=true->∀{i:Nat} {o:O},lk l i=some o->i<G/\o.X8=true
 |(j,o')::l,h,i,o,ho=>by
  simp only[My,iE]at h
  simp only[lk]at ho
  split at ho
  ·rename_i e
   simp only[al]at ho
   rw[<-jM e,<-ho]
   exact⟨Cm (vo h.1.1),h.1.2⟩
  ·exact X9 h.2 ho
def EN(G:Nat)(tb:List (Nat×O)):St:=⟨tJ (zo G) tb,G,[]⟩
def Eo(S:St):List (Nat×O)->Bool
 |[]=>true
 |(i,o)::l=>match Jx (S.h.get i) o with
  |true=>Eo S l
  |false=>false
def Ya{S:St}:∀{l:List (Nat×O)},Eo S l=true->∀p∈l,S.h.get p.1=some p.2
 |[],_,p,hp=>by cases hp
 |(i,o)::l,h,p,hp=>by
  simp only[Eo]at h
  split at h
  ·rename_i e
   rcases kW.1 hp with rfl|hp
   ·exact X0 e
   ·exact Ya h p hp
  ·cases h
def mS.ok(e:mS)(tb:List (Nat×O))(G:Nat)(call:cI):Bool:=
 match call (.func e.f [] []) e.args (EN G tb)with
 |some (v,s)=>match s.w with
  |[]=>V.beq v e.v&&V.free e.v&&V.jN e.args&&Nat.ble G s.n&&My G tb
  |_=>false
 |none=>false
def Yb(P:Program)(tb:List (Nat×O))(e:mS):Prop:=∀S,Eo S tb=true->Jz P (.func e.f [] []) e.args S e.v S
def mS.pure{call:cI}(hc:jm P call){tb:List (Nat×O)}{e:mS}(h:e.ok tb P.globals.size call=true):Yb P tb e:=by
 unfold mS.ok at h
 split at h
 ·rename_i v s bZ
  split at h
  ·rename_i hw
   simp only[iE]at h
   obtain⟨⟨⟨⟨h1,h2⟩,h3⟩,h4⟩,h5⟩:=h
   have hv:=V.beq_eq _ _ h1
   subst hv
   intro S eP μ w Gv xs hh hG hx
   have eP:=Ya eP
   have hn:P.globals.size<=S.n:=by
    apply yX
    intro ay
    obtain⟨t,ht⟩:=hh.gK S.n ay
    have:=(hh.dc _ _ ht).1
    omega
   have F:GU P (fun i=>if i<P.globals.size then some i else none) (fun i=>if i<P.globals.size then some i else none) [] (EN P.globals.size tb) s S S:={
    dc:=fun i i' hi=>by
     split at hi
     ·rename_i ay;simp only[al]at hi;subst hi
      exact⟨ay,by omega⟩
     ·cases hi
    inj:=fun i j i' hi hj=>by
     split at hi<;>split at hj<;>simp_all
    gK:=fun g hg=>by simp[hg]
    obj:=fun i i' hi=>by
     split at hi
     ·rename_i ay
      simp only[al]at hi;subst hi
      cases hl:lk tb i with
      |some o=>
       refine⟨o,o,?_,.inr (.inl (O.C5 (X9 h5 hl).2)),.inl (eP _ (Mw hl))⟩
       show (tJ (zo P.globals.size) tb).get i=_
       rw[BM,hl]
      |none=>
       refine⟨.dead,.dead,?_,.inl rfl,.inr rfl⟩
       show (tJ (zo P.globals.size) tb).get i=_
       rw[BM,hl]
       exact Q9 _ _ ay
     ·cases hi
    old:=fun _ _=>rfl
    new:=fun i i' hi hr=>by
     have:P.globals.size<=i:=hi
     rw[ak (by omega)]at hr;cases hr
    GV:=fun i j i' hi _ hr _=>by
     have:P.globals.size<=i:=hi
     rw[ak (by omega)]at hr;cases hr
    full:=fun i' h1 h2=>by omega
    fx:=aM _
    w0:=rfl
    W1:=fun i i' hi _=>by rw[hw]at hi;cases hi
    W2:=fun j hj=>by cases hj
    wl:=rfl
    ae:=fun _ _ _=>rfl
    wr:=fun i i' hi _=>by rw[hw]at hi;cases hi
    WW:=fun i i' hi hr=>by
     have:P.globals.size<=i:=hi
     rw[ak (by omega)]at hr;cases hr}
   exact(Jz.frame (hc _ _ _ _ _ bZ) F (V.jO _ (by rfl)) (V.dX _ h3) (V.jO _ h2)) μ w Gv xs hh hG hx
  ·cases h
 ·cases h
def Jw:List mS->Nat->List V->Option V
 |[],_,_=>none
 |e::l,f,args=>match Nat.beq e.f f with
  |true=>match V.iK e.args args with
   |true=>some e.v
   |false=>Jw l f args
  |false=>Jw l f args
def Jv(tb:List (Nat×O))(l:List mS):cI
 |.func f [] [],args,st=>match Jw l f args with
  |some v=>match Eo st tb with
   |true=>some (v,st)
   |false=>none
  |none=>none
 |_,_,_=>none
def Yc:∀{l:List mS} {f:Nat} {args:List V} {v:V},Jw l f args=some v->∃e∈l,e.f=f/\e.args=args/\e.v=v
 |[],_,_,_,h=>by cases h
 |e::l,f,args,v,h=>by
  simp only[Jw]at h
  split at h
  ·rename_i e1
   split at h
   ·rename_i e2
    simp only[al]at h
    exact⟨e,ph,jM e1,V.di _ _ e2,h⟩
   ·obtain⟨e',h1,h2⟩:=Yc h;exact⟨e',oU _ h1,h2⟩
  ·obtain⟨e',h1,h2⟩:=Yc h;exact⟨e',oU _ h1,h2⟩
def Zx7{tb:List (Nat×O)}{l:List mS}(h:∀e∈l,Yb P tb e):jm P (Jv tb l):=by
 intro g args st v aC hc
 unfold Jv at hc
 split at hc
 ·rename_i f
  split at hc
  ·rename_i u hu
   split at hc
   ·rename_i hp
    simp only[al,bu]at hc
    obtain⟨rfl,rfl⟩:=hc
    obtain⟨e,h1,rfl,rfl,rfl⟩:=Yc hu
    exact h e h1 st hp
   ·cases hc
  ·cases hc
 ·cases hc
structure km where
 f:Nat
 first:List V
 gj:List V
 args:List V
 part:List (Nat×O)
 n:Nat
 v:V
 kept:List (Nat×O)
 BN:List (Nat×O)
def km.st(e:km)(G:Nat):St:=⟨tJ (zo G) e.part,e.n,[]⟩
def sig(G:Nat)(part:List (Nat×O))(i:Nat):Option Nat:=
 match Nat.blt i G with
 |true=>some i
 |false=>match lk part i with
  |some _=>some i
  |none=>none
def idx(i:Nat):List (Nat×O)->Nat->Option Nat
 |[],_=>none
 |(k,_)::l,m=>match Nat.beq k i with
  |true=>some m
  |false=>idx i l (m+1)
def C6(G:Nat)(part:List (Nat×O))(n:Nat)(kept:List (Nat×O))(i:Nat):Option Nat:=
 match Nat.blt i n with
 |true=>sig G part i
 |false=>idx i kept n
def C7:List (Nat×O)->Nat->List (Nat×O)
 |[],_=>[]
 |(_,o)::l,m=>(m,o)::C7 l (m+1)
def JR(ρ:Nat->Option Nat)(s:St)(i:Nat)(o':O):Bool:=
 match s.h.get i with
 |some o=>match o' with
  |.dead=>true
  |o'=>Jx (o.bV ρ) o'
 |none=>false
def Ra(ρ:Nat->Option Nat)(s:St)(n:Nat):List (Nat×O)->Nat->Bool
 |[],_=>true
 |(k,o)::l,m=>Mv (ρ k) (some m)&&Nat.ble n k&&Nat.blt k s.n&&JR ρ s k o&&Ra ρ s n l (m+1)
def km.cv(e:km)(G:Nat)(v:V)(s:St):Bool:=
 Nat.ble G e.n&&Nat.ble e.n s.n&&(e.part.all fun p=>Nat.blt p.1 e.n&&Jx (p.2.bV (sig G e.part)) p.2)&&
 Q8 (V.eA (sig G e.part) e.first) e.first&&Q8 (V.eA (sig G e.part) e.gj) e.gj&&Q8 (V.eA (sig G e.part) e.args) e.args&&
 vEq (V.bV (C6 G e.part e.n e.kept) v) e.v&&
 Ra (C6 G e.part e.n e.kept) s e.n e.kept e.n&&
 (s.w.all fun i=>match sig G e.part i with|some _=>He i (e.BN.map (·.1))|none=>true)&&
 (e.BN.all fun p=>He p.1 s.w&&Mv (sig G e.part p.1) (some p.1)&&JR (C6 G e.part e.n e.kept) s p.1 p.2)
def km.ok(e:km)(G:Nat)(call:cI):Bool:=
 match call (.func e.f e.first e.gj) e.args (e.st G)with
 |some (v,s)=>e.cv G v s
 |none=>false
def km.out(e:km)(S:St):St:=⟨tJ (tJ S.h e.BN) (C7 e.kept e.n),e.n+e.kept.length,e.BN.map (·.1)++S.w⟩
def Mz(e:km):cI
 |.func f a c,args,S=>match Nat.beq e.f f with
  |true=>match V.iK e.args args&&V.iK e.first a&&V.iK e.gj c&&Nat.beq S.n e.n&&Eo S e.part with
   |true=>some (e.v,e.out S)
   |false=>none
  |false=>none
 |_,_,_=>none
def MA{i:Nat}:∀{l:List (Nat×O)} {m i':Nat},idx i l m=some i'->m<=i'/\i'<m+l.length/\∃o,l[i'-m]?=some (i,o)
 |[],m,i',h=>by cases h
 |(k,o)::l,m,i',h=>by
  simp only[idx]at h
  split at h
  ·rename_i e
   simp only[al]at h;subst h
   have:=jM e;subst this
   exact⟨aM _,by simp,o,by simp⟩
  ·obtain⟨h1,h2,o',h3⟩:=MA h
   refine⟨by omega,by simp;omega,o',?_⟩
   rw[show i'-m=(i'-(m+1))+1 by omega]
   simpa using h3
def Zqq:∀{l:List (Nat×O)} {m j:Nat} {p:Nat×O},l[j]?=some p->lk (C7 l m) (m+j)=some p.2
 |[],m,j,p,h=>by simp at h
 |(k,o)::l,m,0,p,h=>by
  simp at h;subst h
  simp[C7,lk]
 |(k,o)::l,m,j+1,p,h=>by
  simp only[C7,lk]
  have:Nat.beq m (m+(j+1))=false:=by
   cases hb:Nat.beq m (m+(j+1))with
   |false=>rfl
   |true=>have:=jM hb;omega
  rw[this,show m+(j+1)=(m+1)+j by omega]
  exact Zqq (by simpa using h)
def Zmn:∀{l:List (Nat×O)} {m i:Nat},i<m->lk (C7 l m) i=none
 |[],_,_,_=>rfl
 |(k,o)::l,m,i,h=>by
  simp only[C7,lk]
  have:Nat.beq m i=false:=by
   cases hb:Nat.beq m i with
   |false=>rfl
   |true=>have:=jM hb;omega
  rw[this]
  exact Zmn (by omega)
def Zqw{ρ:Nat->Option Nat}{s:St}{n:Nat}:∀{l:List (Nat×O)} {m:Nat},Ra ρ s n l m=true->∀{j:Nat} {p:Nat×O},l[j]?=some p->ρ p.1=some (m+j)/\n<=p.1/\p.1<s.n/\JR ρ s p.1 p.2=true
 |[],m,_,j,p,h=>by simp at h
 |(k,o)::l,m,h,j,p,hj=>by
  simp only[Ra,iE]at h
  obtain⟨⟨⟨⟨h1,h2⟩,h3⟩,h4⟩,h5⟩:=h
  cases j with
  |zero=>
   simp at hj;subst hj
   exact⟨XZ h1,vo h2,Cm (vo h3),h4⟩
  |succ j=>
   obtain⟨q1,q2⟩:=Zqw h5 (j:=j) (by simpa using hj)
   exact⟨by rw[q1];congr 1;omega,q2⟩
def Zqp{ρ:Nat->Option Nat}{s:St}{o':O}(h:JR ρ s i o'=true):∃o,s.h.get i=some o/\(o'=.dead\/o.bV ρ=some o'):=by
 unfold JR at h
 split at h
 ·rename_i o ho
  refine⟨o,ho,?_⟩
  split at h
  ·exact .inl rfl
  ·exact .inr (X0 h)
 ·cases h
def JS{part:List (Nat×O)}{i':Nat}(h:sig G part i=some i'):i'=i/\(i<G\/∃o,lk part i=some o):=by
 unfold sig at h
 split at h
 ·rename_i e
  simp only[al]at h
  exact⟨h.symm,.inl (Cm (vo e))⟩
 ·split at h
  ·rename_i o ho
   simp only[al]at h
   exact⟨h.symm,.inr ⟨o,ho⟩⟩
  ·cases h
def Ybv{call:cI}(bZ:jm P call){e:km}(h:e.ok P.globals.size call=true):jm P (Mz e):=by
 intro g args S v S' hc
 unfold Mz at hc
 split at hc
 ·rename_i f a c
  split at hc
  ·rename_i hf
   have hf:=jM hf
   subst hf
   split at hc
   ·rename_i cP
    simp only[iE]at cP
    obtain⟨⟨⟨⟨c1,c2⟩,c3⟩,c4⟩,c5⟩:=cP
    have c1:=V.di _ _ c1
    have c2:=V.di _ _ c2
    have c3:=V.di _ _ c3
    have c4:=jM c4
    have c5:=Ya c5
    simp only[al,bu]at hc
    obtain⟨rfl,rfl⟩:=hc
    subst c1;subst c2;subst c3
    unfold km.ok at h
    split at h
    ·rename_i v0 s bO
     unfold km.cv at h
     simp only[iE,lB]at h
     obtain⟨⟨⟨⟨⟨⟨⟨⟨⟨k1,k2⟩,k3⟩,k4⟩,k5⟩,k6⟩,k7⟩,k8⟩,k9⟩,k10⟩:=h
     have k1:=vo k1
     have k2:=vo k2
     have eP:∀i o,lk e.part i=some o->i<e.n/\o.bV (sig P.globals.size e.part)=some o/\S.h.get i=some o:=fun i o ho=>by
      have hm:=Mw ho
      obtain⟨q1,q2⟩:=k3 _ hm
      exact⟨Cm (vo q1),X0 q2,c5 _ hm⟩
     have Rb:∀i,e.n<=i->C6 P.globals.size e.part e.n e.kept i=idx i e.kept e.n:=fun i hi=>by
      unfold C6
      have:Nat.blt i e.n=false:=by
       cases hb:Nat.blt i e.n with
       |false=>rfl
       |true=>have:=Cm (vo hb);omega
      rw[this]
     have AH:∀j p,e.kept[j]?=some p->C6 P.globals.size e.part e.n e.kept p.1=some (e.n+j)/\e.n<=p.1/\p.1<s.n/\JR (C6 P.globals.size e.part e.n e.kept) s p.1 p.2=true:=fun j p hj=>Zqw k8 hj
     have MB:∀j,j<e.n->(e.out S).h.get j=match lk e.BN j with|some o=>some o|none=>S.h.get j:=fun j hj=>by
      show (tJ (tJ S.h e.BN) (C7 e.kept e.n)).get j=_
      rw[BM,Zmn hj,BM]
     have F:GU P (sig P.globals.size e.part) (C6 P.globals.size e.part e.n e.kept) (e.BN.map (·.1)) (e.st P.globals.size) s S (e.out S):={
      dc:=fun i i' hi=>by
       obtain⟨rfl,JB⟩:=JS hi
       have:i'<e.n:=by
        rcases JB with h|⟨o,ho⟩
        ·omega
        ·exact(eP _ _ ho).1
       exact⟨this,by omega⟩
      inj:=fun i j i' hi hj=>by rw[<-(JS hi).1,<-(JS hj).1]
      gK:=fun g hg=>by
       unfold sig
       have:Nat.blt g P.globals.size=true:=Qm hg
       rw[this]
      obj:=fun i i' hi=>by
       obtain⟨rfl,JB⟩:=JS hi
       cases hl:lk e.part i' with
       |some o=>
        obtain⟨q1,q2,q3⟩:=eP _ _ hl
        refine⟨o,o,?_,.inr (.inl q2),.inl q3⟩
        show (tJ (zo P.globals.size) e.part).get i'=_
        rw[BM,hl]
       |none=>
        have hg:i'<P.globals.size:=by
         rcases JB with h|⟨o,ho⟩
         ·exact h
         ·rw[hl]at ho;cases ho
        refine⟨.dead,.dead,?_,.inl rfl,.inr rfl⟩
        show (tJ (zo P.globals.size) e.part).get i'=_
        rw[BM,hl]
        exact Q9 _ _ hg
      old:=fun i hi=>by
       have:Nat.blt i e.n=true:=Qm hi
       unfold C6;rw[this]
      new:=fun i i' hi hr=>by
       rw[Rb i hi]at hr
       obtain⟨q1,q2,o,q3⟩:=MA hr
       obtain⟨_,_,r3,_⟩:=AH _ _ q3
       exact⟨by omega,q2,r3⟩
      GV:=fun i j i' hi hj JA hrj=>by
       rw[Rb i hi]at JA
       rw[Rb j hj]at hrj
       obtain⟨_,_,o,q3⟩:=MA JA
       obtain⟨_,_,o',DP⟩:=MA hrj
       rw[q3]at DP
       cases DP;rfl
      full:=fun i' h1 h2=>by
       have kI:i'<e.n+e.kept.length:=h2
       obtain⟨p,hp⟩:∃p,e.kept[i'-e.n]?=some p:=⟨_,cy (by omega)⟩
       obtain⟨r1,r2,_,_⟩:=AH _ _ hp
       exact⟨p.1,r2,by rw[r1];congr 1;omega⟩
      fx:=by show S.n<=e.n+e.kept.length;omega
      w0:=rfl
      W1:=fun i i' hi hs=>by
       obtain⟨rfl,_⟩:=JS hs
       have:=k9 _ hi
       rw[hs]at this
       exact Mf.1 this
      W2:=fun j hj=>by
       obtain⟨p,hp,rfl⟩:=dt.1 hj
       obtain⟨⟨q1,q2⟩,_⟩:=k10 _ hp
       exact⟨p.1,Mf.1 q1,XZ q2⟩
      wl:=rfl
      ae:=fun j hj hn=>by
       rw[MB j (by omega)]
       cases hl:lk e.BN j with
       |none=>rfl
       |some o=>exact absurd (dt.2 ⟨_,Mw hl,rfl⟩) hn
      wr:=fun i i' hi hs=>by
       obtain⟨rfl,JB⟩:=JS hs
       have ay:i'<e.n:=by
        rcases JB with h|⟨o,ho⟩
        ·omega
        ·exact(eP _ _ ho).1
       have:=k9 _ hi
       rw[hs]at this
       obtain⟨p,hp,A8⟩:=dt.1 (Mf.1 this)
       obtain⟨o',xe⟩:=Ypq (l:=e.BN) (i:=i') (o:=p.2) (by rw[<-A8];exact hp)
       obtain⟨_,q3⟩:=k10 _ (Mw xe)
       obtain⟨o,r1,r2⟩:=Zqp q3
       exact⟨o,o',r1,by rw[MB _ ay,xe],r2⟩
      WW:=fun i i' hi hr=>by
       rw[Rb i hi]at hr
       obtain⟨q1,q2,o,q3⟩:=MA hr
       obtain⟨_,_,_,r4⟩:=AH _ _ q3
       obtain⟨o2,t1,t2⟩:=Zqp r4
       refine⟨o2,o,t1,?_,t2⟩
       show (tJ (tJ S.h e.BN) (C7 e.kept e.n)).get i'=_
       have:=Zqq (m:=e.n) q3
       rw[show e.n+(i'-e.n)=i' by omega]at this
       rw[BM,this]}
     refine Jz.frame (bZ _ _ _ _ _ bO) F ?_ (X7 k6) (Yr1 k7)
     simp only[V.bV,X7 k4,X7 k5]
    ·cases h
   ·cases hc
  ·cases hc
 ·cases hc
def zk(x:cI)(dK:Nat->Option lC)(fuel:Nat):Nat->cI
 |0=>x
 |d+1=>ti x (yr dK (dW (zk x dK fuel d) fuel))
def Rc{P:Program}{dK:Nat->Option lC}(hm:P.follows .mixedOrders=true)(hE:uy P)(ht:Xc P dK){x:cI}(hx:jm P x)(fuel:Nat):∀d,jm P (zk x dK fuel d)
 |0=>hx
 |d+1=>by
  have ih:=Rc hm hE ht hx fuel d
  exact hx.or (Zw4 ht (Yg0 ih hE (Ygc hm hE ih) (Yl4 ih hE) (Zxz ih) fuel))
def Re:List km->Nat->List V->List V->List V->St->Option (V×St)
 |[],_,_,_,_,_=>none
 |e::l,f,a,c,args,S=>match Nat.beq e.f f with
  |true=>match Mz e (.func f a c) args S with
   |some r=>some r
   |none=>Re l f a c args S
  |false=>Re l f a c args S
def Yd(l:List km):cI
 |.func f a c,args,S=>Re l f a c args S
 |_,_,_=>none
def Yko{l:List km}(h:∀e∈l,jm P (Mz e)):jm P (Yd l):=by
 intro g args S v S' hc
 unfold Yd at hc
 split at hc
 ·rename_i f a c
  induction l with
  |nil=>cases hc
  |cons e l ih=>
   simp only[Re]at hc
   split at hc
   ·split at hc
    ·rename_i r hr
     cases hc
     exact h e ph _ _ _ _ _ hr
    ·exact ih (fun e he=>h e (oU _ he)) hc
   ·exact ih (fun e he=>h e (oU _ he)) hc
 ·cases hc
def MC(tb:List (Nat×O))(L:List mS)(E:List km):cI:=ti (Jv tb L) (Yd E)
structure aZ (P:Program) (tb:List (Nat×O)) (L:List mS) (E:List km):Prop where
 p:∀e∈L,Yb P tb e
 e:∀e∈E,jm P (Mz e)
def aZ.call{tb:List (Nat×O)}{L:List mS}{E:List km}(h:aZ P tb L E):jm P (MC tb L E):=(Zx7 h.p).or (Yko h.e)
def aZ.nil{tb:List (Nat×O)}:aZ P tb [] []:=⟨fun _ h=>(by cases h),fun _ h=>(by cases h)⟩
structure DF (P:Program) (dK:Nat->Option lC) (G:Nat):Prop where
 m:P.follows .mixedOrders=true
 e:uy P
 t:Xc P dK
 g:P.globals.size=G
def aZ.Ye{dK:Nat->Option lC}{fuel d:Nat}(hP:DF P dK G){tb:List (Nat×O)}{L:List mS}{E:List km}(h:aZ P tb L E){e:mS}(he:e.ok tb G (zk (MC tb L E) dK fuel d)=true):aZ P tb (e::L) E:=
 ⟨fun e' hm=>by
  rcases kW.1 hm with rfl|hm
  ·exact mS.pure (Rc hP.m hP.e hP.t h.call fuel d) (by rw[hP.g];exact he)
  ·exact h.p e' hm,h.e⟩
def aZ.Yf{dK:Nat->Option lC}{fuel d:Nat}(hP:DF P dK G){tb:List (Nat×O)}{L:List mS}{E:List km}(h:aZ P tb L E){e:km}(he:e.ok G (zk (MC tb L E) dK fuel d)=true):aZ P tb L (e::E):=
 ⟨h.p,fun e' hm=>by
  rcases kW.1 hm with rfl|hm
  ·exact Ybv (Rc hP.m hP.e hP.t h.call fuel d) (by rw[hP.g];exact he)
  ·exact h.e e' hm⟩
def Ymr(tb:List (Nat×O))(G:Nat)(dK:Nat->Option lC)(L:List mS)(E:List km):Bool:=match L with
 |[]=>false
 |e::t=>e.ok tb G (zk (MC tb t E) dK 5000 40)
def Yfv(tb:List (Nat×O))(G:Nat)(dK:Nat->Option lC)(L:List mS)(E:List km):Bool:=match E with
 |[]=>false
 |e::t=>e.ok G (zk (MC tb L t) dK 5000 40)
def aZ.p1{P:Program}{dK:Nat->Option lC}{G:Nat}(hP:DF P dK G){tb:List (Nat×O)}{L:List mS}{E:List km}(h:aZ P tb L.tail E)(he:Ymr tb G dK L E=true):aZ P tb L E:=by
 cases L with
 |nil=>exact h
 |cons e t=>exact aZ.Ye hP h he
def aZ.e1{P:Program}{dK:Nat->Option lC}{G:Nat}(hP:DF P dK G){tb:List (Nat×O)}{L:List mS}{E:List km}(h:aZ P tb L E.tail)(he:Yfv tb G dK L E=true):aZ P tb L E:=by
 cases E with
 |nil=>exact h
 |cons e t=>exact aZ.Yf hP h he
section
variable {call:cI} {f:Nat} {ro:Option Nat} {a b c:bU} {fr:Fr} {st:St}
end
def Ysz{a b:Nat}:Nat.blt a b=decide (a<b):=by
 cases h:Nat.blt a b
 ·symm;simp only[decide_eq_false_iff_not];intro hc;rw[show Nat.blt a b=true from Qm hc]at h;cases h
 ·symm;simp only[decide_eq_true_eq];exact Cm (vo h)
def Ys0{a b:Nat}:Nat.ble a b=decide (a<=b):=by
 cases h:Nat.ble a b
 ·symm;simp only[decide_eq_false_iff_not];intro hc;rw[Qm hc]at h;cases h
 ·symm;simp only[decide_eq_true_eq];exact vo h
def cD{n:Int}(h1: -9223372036854775808<=n)(h2:n<9223372036854775808):bj .i64 n=n:=by
 rw[Ab]
 simp[IntKind.wrap,IntKind.bits,IntKind.signed]
 omega
def Ybk{k a b}:rf .add k a b=some (.int k (bj k (a+b))):=rfl
def Ya9{k a b}:rf .sub k a b=some (.int k (bj k (a-b))):=rfl
def Ybe{k a b}:rf .mul k a b=some (.int k (bj k (a*b))):=rfl
def Ybc{k a b}(h:¬b=0):rf .quo k a b=some (.int k (bj k (a.tdiv b))):=by simp[rf,h]
def Ybb{k a b}(h:¬b=0):rf .rem k a b=some (.int k (a.tmod b)):=by simp[rf,h]
def Ybj{k a b}:rf .eql k a b=some (.bool (a==b)):=rfl
def Ybd{k a b}:rf .neq k a b=some (.bool (a !=b)):=rfl
def Ybf{k a b}:rf .lss k a b=some (.bool (decide (a<b))):=rfl
def Ybg{k a b}:rf .leq k a b=some (.bool (decide (a<=b))):=rfl
def Ybh{k a b}:rf .gtr k a b=some (.bool (decide (a > b))):=rfl
def Ybi{k a b}:rf .geq k a b=some (.bool (decide (a≥b))):=rfl
def Ypb(x):cm (.kh x)=Gk x:=rfl
def Yjl(a b c):cm (.pick a b c)=Ec a b c:=rfl
def Yex(a b):cm (.alloc a b)=Ji a b:=rfl
def Ypf(a b):cm (.box a b)=Gl a b:=rfl
def Yew(a b):cm (.build a b)=Cu a b:=rfl
def Yas(a b c d e):cm (.eN a b c d e)=Gm a b c d e:=rfl
def Yjm(a b):cm (.load a b)=Gn a b:=rfl
def Yeo(a b c):cm (.store a b c)=Ed a b c:=rfl
def Yeq(a):cm (.nZ a)=Gp a:=rfl
def Ypg(a b c d e):cm (.bin a b c d e)=Gq a b c d e:=rfl
def Ys2(a b):cm (.un a b)=Gs a b:=rfl
def Zwb(a b):cm (.cW a b)=Gt a b:=rfl
def Yal(a b c):cm (.ja a b c)=Gw a b c:=rfl
def Yet(a b):cm (.iP a b)=Gx a b:=rfl
def Yes(a b c):cm (.field a b c)=Gy a b c:=rfl
def Ztq(a b c d):cm (.gI a b c d)=Cw a b c d:=rfl
def Zv8(a b c):cm (.fg a b c)=Eg a b c:=rfl
def Zv9(a b):cm (.extract a b)=GC a b:=rfl
def Ypc(a b):cm (.len a b)=yp a b:=rfl
def Yjo(a b):cm (.call a b)=zd a b:=rfl
structure Yum (r:Option (V×St)) (v:V):Prop where
 ex:∃s,r=some (v,s)/\s.w=[]
def Ybo{u v:V}{s:St}:Yum (some (u,s)) v↔u=v/\s.w=[]:=
 ⟨fun ⟨_,h1,h2⟩=>by simp only[al,bu]at h1;exact⟨h1.1,h1.2▸h2⟩,fun ⟨h1,h2⟩=>⟨s,by rw[h1],h2⟩⟩
attribute [simp]
 Ypb Yjl Yex Ypf Yew Yas Yjm Yeo Yeq Ypg Ys2 Zwb Yal Yet Yes Ztq Zv8 Zv9 Ypc Yjo
 Gk Ec Ji Gl Cu Gm Gn Gp Gq Gs Gt Gw Gx Gy Cw GC zd
 ze bS Src.ev T.ag gS Ej ax Wc Ybk Ya9 Ybe Ybc Ybb Ybj Ybd Ybf Ybg Ybh Ybi gL Wd uw aB Bo Bn aO V.cells V.one St.alloc St.write St.row cD Ysz Ys0 uW oY gh.oa Qs jH ct ct.go ct.cv FP.free CB Nat.testBit Ybo base
end Go.Mx

