/-
  Calls that are known: a table of runs over small heaps stands in for the runs themselves.
-/
import Derived.Test.YtlbophlgohokkaaGreatDoorMxDraw2
import Derived.Test.YtlbophlgohokkaaGreatDoorMxFrame
import Derived.Below
import Derived.CallsIn
set_option linter.all false
namespace Go.Mx
open Go
variable {G i:Nat} {P:Program}
def G0:Bool->Bool->Bool
 |true,b=>b
 |false,true=>false
 |false,false=>true
def Kw:IntKind->Nat
 |.i8=>0|.i16=>1|.i32=>2|.i64=>3|.u8=>4|.u16=>5|.u32=>6|.u64=>7
def PS:Int->Int->Bool
 |.ofNat a,b=>match b with
  |.ofNat b=>Nat.beq a b
  |.negSucc _=>false
 |.negSucc a,b=>match b with
  |.ofNat _=>false
  |.negSucc b=>Nat.beq a b
def Cj:List UInt8->List UInt8->Bool
 |[],l=>match l with
  |[]=>true
  |_::_=>false
 |a::xs,l=>match l with
  |[]=>false
  |b::ys=>match Nat.beq a.toNat b.toNat with
   |true=>Cj xs ys
   |false=>false
def G5:Option Nat->Option Nat->Bool
 |none,b=>match b with
  |none=>true
  |some _=>false
 |some a,b=>match b with
  |none=>false
  |some b=>Nat.beq a b
theorem PT{a b:Bool}(h:G0 a b=true):a=b:=by cases a<;>cases b<;>simp_all [G0]
theorem iH{a b:Nat}(h:Nat.beq a b=true):a=b:=JF h
theorem Ylz{a b:IntKind}(h:Nat.beq (Kw a) (Kw b)=true):a=b:=by cases a<;>cases b<;>first|rfl|(exact absurd h (by decide))
theorem Yg4{a b:Int}(h:PS a b=true):a=b:=by
 cases a<;>cases b<;>simp only[PS,eL]at h
 ·rw[iH h]
 ·rw[iH h]
theorem PU:∀{a b:List UInt8},Cj a b=true->a=b
 |[],[],_=>rfl
 |[],_::_,h=>by simp[Cj]at h
 |_::_,[],h=>by simp[Cj]at h
 |a::xs,b::ys,h=>by
  simp only[Cj]at h
  split at h
  ·rename_i e
   rw[PU h,UInt8.toNat_inj.1 (iH e)]
  ·cases h
theorem PV{a b:Option Nat}(h:G5 a b=true):a=b:=by
 cases a<;>cases b<;>simp only[G5,eL]at h
 ·rfl
 ·rw[iH h]
def Kx:FloatKind->Nat
 |.f32=>0|.f64=>1
theorem Yl6{a b:FloatKind}(h:Nat.beq (Kx a) (Kx b)=true):a=b:=by cases a<;>cases b<;>first|rfl|(exact absurd h (by decide))
def V.isBool(x:Bool):V->Bool|.bool y=>G0 x y|_=>false
def V.isInt(k:IntKind)(n:Int):V->Bool|.int k' n'=>(match Nat.beq (Kw k) (Kw k')with|true=>PS n n'|false=>false)|_=>false
def V.Ar(k:FloatKind)(n:Nat):V->Bool|.qf k' n'=>(match Nat.beq (Kx k) (Kx k')with|true=>Nat.beq n n'|false=>false)|_=>false
def V.isStr(s:List UInt8):V->Bool|.str t=>Cj s t|_=>false
def V.pd:V->Bool|.bG=>true|_=>false
def V.As(i o:Nat):V->Bool|.ptr i' o'=>(match Nat.beq i i' with|true=>Nat.beq o o'|false=>false)|_=>false
def V.kR:V->Bool|.aa=>true|_=>false
def V.isSlice(i o l:Nat)(c:Option Nat)(z:Nat):V->Bool|.slice i' o' l' c' z'=>Nat.beq i i'&&Nat.beq o o'&&Nat.beq l l'&&G5 c c'&&Nat.beq z z'|_=>false
def V.isEmpty:V->Bool|.empty=>true|_=>false
def V.pe:V->Bool|.bM=>true|_=>false
def V.At(i:Nat):V->Bool|.map j=>Nat.beq i j|_=>false
def V.mL:V->Bool|.bO=>true|_=>false
def V.isChan(i:Nat):V->Bool|.chan j=>Nat.beq i j|_=>false
def V.rQ(i:Nat):V->Bool|.yield j=>Nat.beq i j|_=>false
def V.mM:V->Bool|.bg=>true|_=>false
def V.kV:V->Bool|.aR=>true|_=>false
mutual
def V.beq:V->V->Bool
 |.bool x,b=>b.isBool x
 |.int k n,b=>b.isInt k n
 |.qf k n,b=>b.Ar k n
 |.str s,b=>b.isStr s
 |.bG,b=>b.pd
 |.ptr i o,b=>b.As i o
 |.aa,b=>b.kR
 |.slice i o l c z,b=>b.isSlice i o l c z
 |.empty,b=>b.isEmpty
 |.bM,b=>b.pe
 |.map i,b=>b.At i
 |.bO,b=>b.mL
 |.chan i,b=>b.isChan i
 |.func f a c,b=>match b with
  |.func f' a' c'=>Nat.beq f f'&&V.gE a a'&&V.gE c c'
  |_=>false
 |.yield i,b=>b.rQ i
 |.bg,b=>b.mM
 |.iface t v,b=>match b with
  |.iface t' v'=>Nat.beq t t'&&V.beq v v'
  |_=>false
 |.aR,b=>b.kV
 |.agg l,b=>match b with
  |.agg l'=>V.gE l l'
  |_=>false
 |.bb l,b=>match b with
  |.bb l'=>V.gE l l'
  |_=>false
def V.gE:List V->List V->Bool
 |[],l=>match l with
  |[]=>true
  |_::_=>false
 |a::xs,l=>match l with
  |[]=>false
  |b::ys=>match V.beq a b with
   |true=>V.gE xs ys
   |false=>false
end
mutual
theorem V.beq_eq:∀(a b:V),V.beq a b=true->a=b
 |.bool x,b,h=>by cases b<;>simp only[V.beq,V.isBool,eL]at h;rw[PT h]
 |.int k n,b,h=>by
  cases b<;>simp only[V.beq,V.isInt,eL]at h
  split at h
  ·rename_i e;rw[Ylz e,Yg4 h]
  ·cases h
 |.qf k n,b,h=>by
  cases b<;>simp only[V.beq,V.Ar,eL]at h
  split at h
  ·rename_i e;rw[Yl6 e,iH h]
  ·cases h
 |.str s,b,h=>by cases b<;>simp only[V.beq,V.isStr,eL]at h;rw[PU h]
 |.bG,b,h=>by cases b<;>simp only[V.beq,V.pd,eL]at h;rfl
 |.ptr i o,b,h=>by
  cases b<;>simp only[V.beq,V.As,eL]at h
  split at h
  ·rename_i e;rw[iH e,iH h]
  ·cases h
 |.aa,b,h=>by cases b<;>simp only[V.beq,V.kR,eL]at h;rfl
 |.slice i o l c z,b,h=>by
  cases b<;>simp only[V.beq,V.isSlice,eL,iB]at h
  obtain⟨⟨⟨⟨h1,h2⟩,h3⟩,h4⟩,h5⟩:=h
  rw[iH h1,iH h2,iH h3,PV h4,iH h5]
 |.empty,b,h=>by cases b<;>simp only[V.beq,V.isEmpty,eL]at h;rfl
 |.bM,b,h=>by cases b<;>simp only[V.beq,V.pe,eL]at h;rfl
 |.map i,b,h=>by cases b<;>simp only[V.beq,V.At,eL]at h;rw[iH h]
 |.bO,b,h=>by cases b<;>simp only[V.beq,V.mL,eL]at h;rfl
 |.chan i,b,h=>by cases b<;>simp only[V.beq,V.isChan,eL]at h;rw[iH h]
 |.func f a c,b,h=>by
  cases b<;>simp only[V.beq,eL,iB]at h
  obtain⟨⟨h1,h2⟩,h3⟩:=h
  rw[iH h1,V.cQ _ _ h2,V.cQ _ _ h3]
 |.yield i,b,h=>by cases b<;>simp only[V.beq,V.rQ,eL]at h;rw[iH h]
 |.bg,b,h=>by cases b<;>simp only[V.beq,V.mM,eL]at h;rfl
 |.iface t v,b,h=>by
  cases b<;>simp only[V.beq,eL,iB]at h
  rw[iH h.1,V.beq_eq _ _ h.2]
 |.aR,b,h=>by cases b<;>simp only[V.beq,V.kV,eL]at h;rfl
 |.agg l,b,h=>by cases b<;>simp only[V.beq,eL]at h;rw[V.cQ _ _ h]
 |.bb l,b,h=>by cases b<;>simp only[V.beq,eL]at h;rw[V.cQ _ _ h]
theorem V.cQ:∀(a b:List V),V.gE a b=true->a=b
 |[],[],_=>rfl
 |[],_::_,h=>by simp[V.gE]at h
 |_::_,[],h=>by simp[V.gE]at h
 |a::xs,b::ys,h=>by
  simp only[V.gE]at h
  split at h
  ·rename_i e;rw[V.beq_eq a b e,V.cQ xs ys h]
  ·cases h
end
def EE:List (V×V)->List (V×V)->Bool
 |[],l=>match l with
  |[]=>true
  |_::_=>false
 |(k,v)::xs,l=>match l with
  |[]=>false
  |(k',v')::ys=>V.beq k k'&&V.beq v v'&&EE xs ys
theorem VF:∀{a b:List (V×V)},EE a b=true->a=b
 |[],[],_=>rfl
 |[],_::_,h=>by simp[EE]at h
 |_::_,[],h=>by simp[EE]at h
 |(k,v)::xs,(k',v')::ys,h=>by
  simp only[EE,iB]at h
  rw[V.beq_eq _ _ h.1.1,V.beq_eq _ _ h.1.2,VF h.2]
def O.beq:O->O->Bool
 |.cells c e rw,b=>match b with
  |.cells c' e' oD=>Nat.beq e e'&&G0 rw oD&&V.gE c c'
  |_=>false
 |.map es,b=>match b with
  |.map fS=>EE es fS
  |_=>false
 |.chan cap buf,b=>match b with
  |.chan cap' nc=>Nat.beq cap cap'&&V.gE buf nc
  |_=>false
 |.dV s pos,b=>match b with
  |.dV s' pos'=>Cj s s'&&Nat.beq pos pos'
  |_=>false
 |.defs o,b=>match b with
  |.defs o'=>G0 o o'
  |_=>false
 |.loop _,_=>false
 |.dead,b=>match b with
  |.dead=>true
  |_=>false
theorem O.beq_eq{a b:O}(h:O.beq a b=true):a=b:=by
 cases a<;>simp only[O.beq,eL]at h<;>cases b<;>simp only[eL,iB]at h
 ·obtain⟨⟨h1,h2⟩,h3⟩:=h;rw[iH h1,PT h2,V.cQ _ _ h3]
 ·rw[VF h]
 ·rw[iH h.1,V.cQ _ _ h.2]
 ·rw[PU h.1,iH h.2]
 ·rw[PT h]
 ·rfl
def Ed:Option O->O->Bool
 |some a,b=>O.beq a b
 |none,_=>false
theorem PW{a:Option O}{b:O}(h:Ed a b=true):a=some b:=by
 cases a with
 |none=>cases h
 |some a=>rw[O.beq_eq h]
def VG:Option V->V->Bool
 |some a,b=>V.beq a b
 |none,_=>false
theorem Ynq{a:Option V}{b:V}(h:VG a b=true):a=some b:=by
 cases a with
 |none=>cases h
 |some a=>rw[V.beq_eq _ _ h]
def Ky:Option (List V)->List V->Bool
 |some a,b=>V.gE a b
 |none,_=>false
theorem PX{a:Option (List V)}{b:List V}(h:Ky a b=true):a=some b:=by
 cases a with
 |none=>cases h
 |some a=>rw[V.cQ _ _ h]
mutual
def V.free:V->Bool
 |.ptr ..|.slice ..|.map _|.chan _|.yield _=>false
 |.func _ a c=>V.iI a&&V.iI c
 |.iface _ v=>V.free v
 |.agg l=>V.iI l
 |.bb l=>V.iI l
 |_=>true
def V.iI:List V->Bool
 |[]=>true
 |v::vs=>V.free v&&V.iI vs
end
mutual
theorem V.iJ{ρ:Nat->Option Nat}:∀(v:V),V.free v=true->V.bS ρ v=some v
 |.bool _,_=>rfl
 |.int _ _,_=>rfl
 |.qf _ _,_=>rfl
 |.str _,_=>rfl
 |.bG,_=>rfl
 |.ptr _ _,h=>by simp[V.free]at h
 |.aa,_=>rfl
 |.slice _ _ _ _ _,h=>by simp[V.free]at h
 |.empty,_=>rfl
 |.bM,_=>rfl
 |.map _,h=>by simp[V.free]at h
 |.bO,_=>rfl
 |.chan _,h=>by simp[V.free]at h
 |.func f a c,h=>by
  simp only[V.free,iB]at h
  simp only[V.bS,V.dG a h.1,V.dG c h.2]
 |.yield _,h=>by simp[V.free]at h
 |.bg,_=>rfl
 |.iface t v,h=>by
  simp only[V.free]at h
  simp only[V.bS,V.iJ v h]
 |.aR,_=>rfl
 |.agg l,h=>by
  simp only[V.free]at h
  simp only[V.bS,V.dG l h]
 |.bb l,h=>by
  simp only[V.free]at h
  simp only[V.bS,V.dG l h]
theorem V.dG{ρ:Nat->Option Nat}:∀(l:List V),V.iI l=true->V.dS ρ l=some l
 |[],_=>rfl
 |v::vs,h=>by
  simp only[V.iI,iB]at h
  simp only[V.dS,V.iJ v h.1,V.dG vs h.2]
end
def tS:Nat->T O
 |0=>.nil
 |n+1=>(tS n).set n .dead
theorem Kz:∀(n i:Nat),i<n->(tS n).get i=some .dead
 |0,i,h=>by omega
 |n+1,i,h=>by
  simp only[tS,T.ah]
  by_cases e:i=n
  ·rw[aF e]
  ·rw[ar e];exact Kz n i (by omega)
def base(G:Nat):St:=⟨tS G,G,[]⟩
def lk:List (Nat×O)->Nat->Option O
 |[],_=>none
 |(j,o)::l,i=>match Nat.beq j i with
  |true=>some o
  |false=>lk l i
def pg(h:T O):List (Nat×O)->T O
 |[]=>h
 |(j,o)::l=>(pg h l).set j o
theorem xo(h:T O):∀(l:List (Nat×O)) (i:Nat),(pg h l).get i=match lk l i with|some o=>some o|none=>h.get i
 |[],i=>rfl
 |(j,o)::l,i=>by
  simp only[pg,T.ah,lk]
  by_cases e:i=j
  ·subst e
   rw[aF rfl,Nat.beq_refl _]
  ·rw[ar e]
   have:Nat.beq j i=false:=by
    cases hb:Nat.beq j i with
    |false=>rfl
    |true=>exact absurd (JF hb).symm e
   rw[this]
   exact xo h l i
theorem G6:∀{l:List (Nat×O)} {i:Nat} {o:O},lk l i=some o->(i,o)∈l
 |(j,o')::l,i,o,h=>by
  simp only[lk]at h
  split at h
  ·rename_i e
   have:=iH e
   simp only[ai]at h
   subst h;subst this;exact mS
  ·exact mr _ (G6 h)
theorem VH:∀{l:List (Nat×O)} {i:Nat},lk l i=none->∀p∈l,p.1≠i
 |[],_,_,p,hp=>by cases hp
 |(j,o')::l,i,h,p,hp=>by
  simp only[lk]at h
  split at h
  ·cases h
  ·rename_i e
   rcases jN.1 hp with rfl|hp
   ·intro hc
    simp only at hc
    subst hc
    have:Nat.beq j j=true:=Nat.beq_refl _
    rw[this]at e;cases e
   ·exact VH h p hp
theorem Yln{l:List (Nat×O)}{i:Nat}{o:O}(h:(i,o)∈l):∃o',lk l i=some o':=by
 cases hc:lk l i with
 |some o'=>exact⟨o',rfl⟩
 |none=>exact absurd rfl (VH hc _ h)
def AW(i:Nat):List Nat->Bool
 |[]=>false
 |j::l=>match Nat.beq j i with
  |true=>true
  |false=>AW i l
theorem Fi{i:Nat}:∀{l:List Nat},AW i l=true↔i∈l
 |[]=>by simp[AW]
 |j::l=>by
  simp only[AW]
  split
  ·rename_i e;simp[iH e]
  ·rename_i e
   have:i≠j:=by
    rintro rfl
    have:Nat.beq i i=true:=Nat.beq_refl _
    rw[this]at e;cases e
   simp[Fi,this]
structure jM where
 f:Nat
 args:List V
 v:V
def O.PY:O->Bool
 |.cells c _ false=>V.iI c
 |_=>false
def G7(G:Nat):List (Nat×O)->Bool
 |[]=>true
 |(i,o)::l=>Nat.blt i G&&o.PY&&G7 G l
theorem O.yK{ρ:Nat->Option Nat}{o:O}(h:o.PY=true):o.bS ρ=some o:=by
 cases o with
 |cells c e rw=>
  cases rw with
  |true=>cases h
  |false=>simp only[O.bS,V.dG c h]
 |_=>cases h
theorem PZ{G:Nat}:∀{l:List (Nat×O)},G7 G l=true->∀{i:Nat} {o:O},lk l i=some o->i<G/\o.PY=true
 |(j,o')::l,h,i,o,ho=>by
  simp only[G7,iB]at h
  simp only[lk]at ho
  split at ho
  ·rename_i e
   simp only[ai]at ho
   rw[<-iH e,<-ho]
   exact⟨xX (sL h.1.1),h.1.2⟩
  ·exact PZ h.2 ho
def Au(G:Nat)(tb:List (Nat×O)):St:=⟨pg (tS G) tb,G,[]⟩
def zZ(S:St):List (Nat×O)->Bool
 |[]=>true
 |(i,o)::l=>match Ed (S.h.get i) o with
  |true=>zZ S l
  |false=>false
theorem P0{S:St}:∀{l:List (Nat×O)},zZ S l=true->∀p∈l,S.h.get p.1=some p.2
 |[],_,p,hp=>by cases hp
 |(i,o)::l,h,p,hp=>by
  simp only[zZ]at h
  split at h
  ·rename_i e
   rcases jN.1 hp with rfl|hp
   ·exact PW e
   ·exact P0 h p hp
  ·cases h
def jM.ok(e:jM)(tb:List (Nat×O))(G:Nat)(call:cA):Bool:=
 match call (.func e.f [] []) e.args (Au G tb)with
 |some (v,s)=>match s.w with
  |[]=>V.beq v e.v&&V.free e.v&&V.iI e.args&&Nat.ble G s.n&&G7 G tb
  |_=>false
 |none=>false
def P1(P:Program)(tb:List (Nat×O))(e:jM):Prop:=∀S,zZ S tb=true->Ef P (.func e.f [] []) e.args S e.v S
theorem jM.pure{call:cA}(hc:ik P call){tb:List (Nat×O)}{e:jM}(h:e.ok tb P.globals.size call=true):P1 P tb e:=by
 unfold jM.ok at h
 split at h
 ·rename_i v s bQ
  split at h
  ·rename_i hw
   simp only[iB]at h
   obtain⟨⟨⟨⟨h1,h2⟩,h3⟩,h4⟩,h5⟩:=h
   have hv:=V.beq_eq _ _ h1
   subst hv
   intro S ed μ w Gv xs hh hG hx
   have ed:=P0 ed
   have hn:P.globals.size<=S.n:=by
    apply tA
    intro aB
    obtain⟨t,ht⟩:=hh.fE S.n aB
    have:=(hh.cK _ _ ht).1
    omega
   have F:BY P (fun i=>if i<P.globals.size then some i else none) (fun i=>if i<P.globals.size then some i else none) [] (Au P.globals.size tb) s S S:={
    cK:=fun i i' hi=>by
     split at hi
     ·rename_i aB;simp only[ai]at hi;subst hi
      exact⟨aB,by omega⟩
     ·cases hi
    inj:=fun i j i' hi hj=>by
     split at hi<;>split at hj<;>simp_all
    fE:=fun g hg=>by simp[hg]
    obj:=fun i i' hi=>by
     split at hi
     ·rename_i aB
      simp only[ai]at hi;subst hi
      cases hl:lk tb i with
      |some o=>
       refine⟨o,o,?_,.inr (.inl (O.yK (PZ h5 hl).2)),.inl (ed _ (G6 hl))⟩
       show (pg (tS P.globals.size) tb).get i=_
       rw[xo,hl]
      |none=>
       refine⟨.dead,.dead,?_,.inl rfl,.inr rfl⟩
       show (pg (tS P.globals.size) tb).get i=_
       rw[xo,hl]
       exact Kz _ _ aB
     ·cases hi
    old:=fun _ _=>rfl
    new:=fun i i' hi hr=>by
     have:P.globals.size<=i:=hi
     rw[ar (by omega)]at hr;cases hr
    BZ:=fun i j i' hi _ hr _=>by
     have:P.globals.size<=i:=hi
     rw[ar (by omega)]at hr;cases hr
    full:=fun i' h1 h2=>by omega
    fi:=aV _
    w0:=rfl
    W1:=fun i i' hi _=>by rw[hw]at hi;cases hi
    W2:=fun j hj=>by cases hj
    wl:=rfl
    ad:=fun _ _ _=>rfl
    wr:=fun i i' hi _=>by rw[hw]at hi;cases hi
    OS:=fun i i' hi hr=>by
     have:P.globals.size<=i:=hi
     rw[ar (by omega)]at hr;cases hr}
   exact(Ef.frame (hc _ _ _ _ _ bQ) F (V.iJ _ (by rfl)) (V.dG _ h3) (V.iJ _ h2)) μ w Gv xs hh hG hx
  ·cases h
 ·cases h
def Ec:List jM->Nat->List V->Option V
 |[],_,_=>none
 |e::l,f,args=>match Nat.beq e.f f with
  |true=>match V.gE e.args args with
   |true=>some e.v
   |false=>Ec l f args
  |false=>Ec l f args
def Eb(tb:List (Nat×O))(l:List jM):cA
 |.func f [] [],args,st=>match Ec l f args with
  |some v=>match zZ st tb with
   |true=>some (v,st)
   |false=>none
  |none=>none
 |_,_,_=>none
theorem P2:∀{l:List jM} {f:Nat} {args:List V} {v:V},Ec l f args=some v->∃e∈l,e.f=f/\e.args=args/\e.v=v
 |[],_,_,_,h=>by cases h
 |e::l,f,args,v,h=>by
  simp only[Ec]at h
  split at h
  ·rename_i e1
   split at h
   ·rename_i e2
    simp only[ai]at h
    exact⟨e,mS,iH e1,V.cQ _ _ e2,h⟩
   ·obtain⟨e',h1,h2⟩:=P2 h;exact⟨e',mr _ h1,h2⟩
  ·obtain⟨e',h1,h2⟩:=P2 h;exact⟨e',mr _ h1,h2⟩
theorem SW{tb:List (Nat×O)}{l:List jM}(h:∀e∈l,P1 P tb e):ik P (Eb tb l):=by
 intro g args st v av hc
 unfold Eb at hc
 split at hc
 ·rename_i f
  split at hc
  ·rename_i u hu
   split at hc
   ·rename_i hp
    simp only[ai,bo]at hc
    obtain⟨rfl,rfl⟩:=hc
    obtain⟨e,h1,rfl,rfl,rfl⟩:=P2 hu
    exact h e h1 st hp
   ·cases hc
  ·cases hc
 ·cases hc
structure iN where
 f:Nat
 first:List V
 fC:List V
 args:List V
 part:List (Nat×O)
 n:Nat
 v:V
 kept:List (Nat×O)
 xp:List (Nat×O)
def iN.st(e:iN)(G:Nat):St:=⟨pg (tS G) e.part,e.n,[]⟩
def sig(G:Nat)(part:List (Nat×O))(i:Nat):Option Nat:=
 match Nat.blt i G with
 |true=>some i
 |false=>match lk part i with
  |some _=>some i
  |none=>none
def idx(i:Nat):List (Nat×O)->Nat->Option Nat
 |[],_=>none
 |(k,_)::l,m=>match Nat.beq k i with
  |true=>some m
  |false=>idx i l (m+1)
def yL(G:Nat)(part:List (Nat×O))(n:Nat)(kept:List (Nat×O))(i:Nat):Option Nat:=
 match Nat.blt i n with
 |true=>sig G part i
 |false=>idx i kept n
def yM:List (Nat×O)->Nat->List (Nat×O)
 |[],_=>[]
 |(_,o)::l,m=>(m,o)::yM l (m+1)
def EF(ρ:Nat->Option Nat)(s:St)(i:Nat)(o':O):Bool:=
 match s.h.get i with
 |some o=>match o' with
  |.dead=>true
  |o'=>Ed (o.bS ρ) o'
 |none=>false
def KC(ρ:Nat->Option Nat)(s:St)(n:Nat):List (Nat×O)->Nat->Bool
 |[],_=>true
 |(k,o)::l,m=>G5 (ρ k) (some m)&&Nat.ble n k&&Nat.blt k s.n&&EF ρ s k o&&KC ρ s n l (m+1)
def iN.dp(e:iN)(G:Nat)(v:V)(s:St):Bool:=
 Nat.ble G e.n&&Nat.ble e.n s.n&&(e.part.all fun p=>Nat.blt p.1 e.n&&Ed (p.2.bS (sig G e.part)) p.2)&&
 Ky (V.dS (sig G e.part) e.first) e.first&&Ky (V.dS (sig G e.part) e.fC) e.fC&&Ky (V.dS (sig G e.part) e.args) e.args&&
 VG (V.bS (yL G e.part e.n e.kept) v) e.v&&
 KC (yL G e.part e.n e.kept) s e.n e.kept e.n&&
 (s.w.all fun i=>match sig G e.part i with|some _=>AW i (e.xp.map (·.1))|none=>true)&&
 (e.xp.all fun p=>AW p.1 s.w&&G5 (sig G e.part p.1) (some p.1)&&EF (yL G e.part e.n e.kept) s p.1 p.2)
def iN.ok(e:iN)(G:Nat)(call:cA):Bool:=
 match call (.func e.f e.first e.fC) e.args (e.st G)with
 |some (v,s)=>e.dp G v s
 |none=>false
def iN.out(e:iN)(S:St):St:=⟨pg (pg S.h e.xp) (yM e.kept e.n),e.n+e.kept.length,e.xp.map (·.1)++S.w⟩
def G8(e:iN):cA
 |.func f a c,args,S=>match Nat.beq e.f f with
  |true=>match V.gE e.args args&&V.gE e.first a&&V.gE e.fC c&&Nat.beq S.n e.n&&zZ S e.part with
   |true=>some (e.v,e.out S)
   |false=>none
  |false=>none
 |_,_,_=>none
theorem G9{i:Nat}:∀{l:List (Nat×O)} {m i':Nat},idx i l m=some i'->m<=i'/\i'<m+l.length/\∃o,l[i'-m]?=some (i,o)
 |[],m,i',h=>by cases h
 |(k,o)::l,m,i',h=>by
  simp only[idx]at h
  split at h
  ·rename_i e
   simp only[ai]at h;subst h
   have:=iH e;subst this
   exact⟨aV _,by simp,o,by simp⟩
  ·obtain⟨h1,h2,o',h3⟩:=G9 h
   refine⟨by omega,by simp;omega,o',?_⟩
   rw[show i'-m=(i'-(m+1))+1 by omega]
   simpa using h3
theorem VI:∀{l:List (Nat×O)} {m j:Nat} {p:Nat×O},l[j]?=some p->lk (yM l m) (m+j)=some p.2
 |[],m,j,p,h=>by simp at h
 |(k,o)::l,m,0,p,h=>by
  simp at h;subst h
  simp[yM,lk]
 |(k,o)::l,m,j+1,p,h=>by
  simp only[yM,lk]
  have:Nat.beq m (m+(j+1))=false:=by
   cases hb:Nat.beq m (m+(j+1))with
   |false=>rfl
   |true=>have:=iH hb;omega
  rw[this,show m+(j+1)=(m+1)+j by omega]
  exact VI (by simpa using h)
theorem VJ:∀{l:List (Nat×O)} {m i:Nat},i<m->lk (yM l m) i=none
 |[],_,_,_=>rfl
 |(k,o)::l,m,i,h=>by
  simp only[yM,lk]
  have:Nat.beq m i=false:=by
   cases hb:Nat.beq m i with
   |false=>rfl
   |true=>have:=iH hb;omega
  rw[this]
  exact VJ (by omega)
theorem VK{ρ:Nat->Option Nat}{s:St}{n:Nat}:∀{l:List (Nat×O)} {m:Nat},KC ρ s n l m=true->∀{j:Nat} {p:Nat×O},l[j]?=some p->ρ p.1=some (m+j)/\n<=p.1/\p.1<s.n/\EF ρ s p.1 p.2=true
 |[],m,_,j,p,h=>by simp at h
 |(k,o)::l,m,h,j,p,hj=>by
  simp only[KC,iB]at h
  obtain⟨⟨⟨⟨h1,h2⟩,h3⟩,h4⟩,h5⟩:=h
  cases j with
  |zero=>
   simp at hj;subst hj
   exact⟨PV h1,sL h2,xX (sL h3),h4⟩
  |succ j=>
   obtain⟨q1,q2⟩:=VK h5 (j:=j) (by simpa using hj)
   exact⟨by rw[q1];congr 1;omega,q2⟩
theorem VL{ρ:Nat->Option Nat}{s:St}{o':O}(h:EF ρ s i o'=true):∃o,s.h.get i=some o/\(o'=.dead\/o.bS ρ=some o'):=by
 unfold EF at h
 split at h
 ·rename_i o ho
  refine⟨o,ho,?_⟩
  split at h
  ·exact .inl rfl
  ·exact .inr (PW h)
 ·cases h
theorem EG{part:List (Nat×O)}{i':Nat}(h:sig G part i=some i'):i'=i/\(i<G\/∃o,lk part i=some o):=by
 unfold sig at h
 split at h
 ·rename_i e
  simp only[ai]at h
  exact⟨h.symm,.inl (xX (sL e))⟩
 ·split at h
  ·rename_i o ho
   simp only[ai]at h
   exact⟨h.symm,.inr ⟨o,ho⟩⟩
  ·cases h
theorem Zzi{call:cA}(bQ:ik P call){e:iN}(h:e.ok P.globals.size call=true):ik P (G8 e):=by
 intro g args S v S' hc
 unfold G8 at hc
 split at hc
 ·rename_i f a c
  split at hc
  ·rename_i hf
   have hf:=iH hf
   subst hf
   split at hc
   ·rename_i cG
    simp only[iB]at cG
    obtain⟨⟨⟨⟨c1,c2⟩,c3⟩,c4⟩,c5⟩:=cG
    have c1:=V.cQ _ _ c1
    have c2:=V.cQ _ _ c2
    have c3:=V.cQ _ _ c3
    have c4:=iH c4
    have c5:=P0 c5
    simp only[ai,bo]at hc
    obtain⟨rfl,rfl⟩:=hc
    subst c1;subst c2;subst c3
    unfold iN.ok at h
    split at h
    ·rename_i v0 s bI
     unfold iN.dp at h
     simp only[iB,lM]at h
     obtain⟨⟨⟨⟨⟨⟨⟨⟨⟨k1,k2⟩,k3⟩,k4⟩,k5⟩,k6⟩,k7⟩,k8⟩,k9⟩,k10⟩:=h
     have k1:=sL k1
     have k2:=sL k2
     have ed:∀i o,lk e.part i=some o->i<e.n/\o.bS (sig P.globals.size e.part)=some o/\S.h.get i=some o:=fun i o ho=>by
      have hm:=G6 ho
      obtain⟨q1,q2⟩:=k3 _ hm
      exact⟨xX (sL q1),PW q2,c5 _ hm⟩
     have KD:∀i,e.n<=i->yL P.globals.size e.part e.n e.kept i=idx i e.kept e.n:=fun i hi=>by
      unfold yL
      have:Nat.blt i e.n=false:=by
       cases hb:Nat.blt i e.n with
       |false=>rfl
       |true=>have:=xX (sL hb);omega
      rw[this]
     have vK:∀j p,e.kept[j]?=some p->yL P.globals.size e.part e.n e.kept p.1=some (e.n+j)/\e.n<=p.1/\p.1<s.n/\EF (yL P.globals.size e.part e.n e.kept) s p.1 p.2=true:=fun j p hj=>VK k8 hj
     have Ha:∀j,j<e.n->(e.out S).h.get j=match lk e.xp j with|some o=>some o|none=>S.h.get j:=fun j hj=>by
      show (pg (pg S.h e.xp) (yM e.kept e.n)).get j=_
      rw[xo,VJ hj,xo]
     have F:BY P (sig P.globals.size e.part) (yL P.globals.size e.part e.n e.kept) (e.xp.map (·.1)) (e.st P.globals.size) s S (e.out S):={
      cK:=fun i i' hi=>by
       obtain⟨rfl,Ei⟩:=EG hi
       have:i'<e.n:=by
        rcases Ei with h|⟨o,ho⟩
        ·omega
        ·exact(ed _ _ ho).1
       exact⟨this,by omega⟩
      inj:=fun i j i' hi hj=>by rw[<-(EG hi).1,<-(EG hj).1]
      fE:=fun g hg=>by
       unfold sig
       have:Nat.blt g P.globals.size=true:=JH hg
       rw[this]
      obj:=fun i i' hi=>by
       obtain⟨rfl,Ei⟩:=EG hi
       cases hl:lk e.part i' with
       |some o=>
        obtain⟨q1,q2,q3⟩:=ed _ _ hl
        refine⟨o,o,?_,.inr (.inl q2),.inl q3⟩
        show (pg (tS P.globals.size) e.part).get i'=_
        rw[xo,hl]
       |none=>
        have hg:i'<P.globals.size:=by
         rcases Ei with h|⟨o,ho⟩
         ·exact h
         ·rw[hl]at ho;cases ho
        refine⟨.dead,.dead,?_,.inl rfl,.inr rfl⟩
        show (pg (tS P.globals.size) e.part).get i'=_
        rw[xo,hl]
        exact Kz _ _ hg
      old:=fun i hi=>by
       have:Nat.blt i e.n=true:=JH hi
       unfold yL;rw[this]
      new:=fun i i' hi hr=>by
       rw[KD i hi]at hr
       obtain⟨q1,q2,o,q3⟩:=G9 hr
       obtain⟨_,_,r3,_⟩:=vK _ _ q3
       exact⟨by omega,q2,r3⟩
      BZ:=fun i j i' hi hj Eh VM=>by
       rw[KD i hi]at Eh
       rw[KD j hj]at VM
       obtain⟨_,_,o,q3⟩:=G9 Eh
       obtain⟨_,_,o',zv⟩:=G9 VM
       rw[q3]at zv
       cases zv;rfl
      full:=fun i' h1 h2=>by
       have jF:i'<e.n+e.kept.length:=h2
       obtain⟨p,hp⟩:∃p,e.kept[i'-e.n]?=some p:=⟨_,cW (by omega)⟩
       obtain⟨r1,r2,_,_⟩:=vK _ _ hp
       exact⟨p.1,r2,by rw[r1];congr 1;omega⟩
      fi:=by show S.n<=e.n+e.kept.length;omega
      w0:=rfl
      W1:=fun i i' hi hs=>by
       obtain⟨rfl,_⟩:=EG hs
       have:=k9 _ hi
       rw[hs]at this
       exact Fi.1 this
      W2:=fun j hj=>by
       obtain⟨p,hp,rfl⟩:=jk.1 hj
       obtain⟨⟨q1,q2⟩,_⟩:=k10 _ hp
       exact⟨p.1,Fi.1 q1,PV q2⟩
      wl:=rfl
      ad:=fun j hj hn=>by
       rw[Ha j (by omega)]
       cases hl:lk e.xp j with
       |none=>rfl
       |some o=>exact absurd (jk.2 ⟨_,G6 hl,rfl⟩) hn
      wr:=fun i i' hi hs=>by
       obtain⟨rfl,Ei⟩:=EG hs
       have aB:i'<e.n:=by
        rcases Ei with h|⟨o,ho⟩
        ·omega
        ·exact(ed _ _ ho).1
       have:=k9 _ hi
       rw[hs]at this
       obtain⟨p,hp,wH⟩:=jk.1 (Fi.1 this)
       obtain⟨o',rl⟩:=Yln (l:=e.xp) (i:=i') (o:=p.2) (by rw[<-wH];exact hp)
       obtain⟨_,q3⟩:=k10 _ (G6 rl)
       obtain⟨o,r1,r2⟩:=VL q3
       exact⟨o,o',r1,by rw[Ha _ aB,rl],r2⟩
      OS:=fun i i' hi hr=>by
       rw[KD i hi]at hr
       obtain⟨q1,q2,o,q3⟩:=G9 hr
       obtain⟨_,_,_,r4⟩:=vK _ _ q3
       obtain⟨o2,t1,t2⟩:=VL r4
       refine⟨o2,o,t1,?_,t2⟩
       show (pg (pg S.h e.xp) (yM e.kept e.n)).get i'=_
       have:=VI (m:=e.n) q3
       rw[show e.n+(i'-e.n)=i' by omega]at this
       rw[xo,this]}
     refine Ef.frame (bQ _ _ _ _ _ bI) F ?_ (PX k6) (Ynq k7)
     simp only[V.bS,PX k4,PX k5]
    ·cases h
   ·cases hc
  ·cases hc
 ·cases hc
def tQ(x:cA)(dm:Nat->Option ji)(fuel:Nat):Nat->cA
 |0=>x
 |d+1=>oK x (sS dm (dE (tQ x dm fuel d) fuel))
theorem KE{P:Program}{dm:Nat->Option ji}(hm:P.follows .mixedOrders=true)(hE:pr P)(ht:O4 P dm){x:cA}(hx:ik P x)(fuel:Nat):∀d,ik P (tQ x dm fuel d)
 |0=>hx
 |d+1=>by
  have ih:=KE hm hE ht hx fuel d
  exact hx.or (Zu2 ht (Vs ih hE (Ug hm hE ih) (UB ih hE) (Uu ih) fuel))
def KF:List iN->Nat->List V->List V->List V->St->Option (V×St)
 |[],_,_,_,_,_=>none
 |e::l,f,a,c,args,S=>match Nat.beq e.f f with
  |true=>match G8 e (.func f a c) args S with
   |some r=>some r
   |none=>KF l f a c args S
  |false=>KF l f a c args S
def P3(l:List iN):cA
 |.func f a c,args,S=>KF l f a c args S
 |_,_,_=>none
theorem Yhk{l:List iN}(h:∀e∈l,ik P (G8 e)):ik P (P3 l):=by
 intro g args S v S' hc
 unfold P3 at hc
 split at hc
 ·rename_i f a c
  induction l with
  |nil=>cases hc
  |cons e l ih=>
   simp only[KF]at hc
   split at hc
   ·split at hc
    ·rename_i r hr
     cases hc
     exact h e mS _ _ _ _ _ hr
    ·exact ih (fun e he=>h e (mr _ he)) hc
   ·exact ih (fun e he=>h e (mr _ he)) hc
 ·cases hc
def Hb(tb:List (Nat×O))(L:List jM)(E:List iN):cA:=oK (Eb tb L) (P3 E)
structure cy (P:Program) (tb:List (Nat×O)) (L:List jM) (E:List iN):Prop where
 p:∀e∈L,P1 P tb e
 e:∀e∈E,ik P (G8 e)
theorem cy.call{tb:List (Nat×O)}{L:List jM}{E:List iN}(h:cy P tb L E):ik P (Hb tb L E):=(SW h.p).or (Yhk h.e)
theorem cy.nil{tb:List (Nat×O)}:cy P tb [] []:=⟨fun _ h=>(by cases h),fun _ h=>(by cases h)⟩
structure zj (P:Program) (dm:Nat->Option ji) (G:Nat):Prop where
 m:P.follows .mixedOrders=true
 e:pr P
 t:O4 P dm
 g:P.globals.size=G
theorem cy.P4{dm:Nat->Option ji}{fuel d:Nat}(hP:zj P dm G){tb:List (Nat×O)}{L:List jM}{E:List iN}(h:cy P tb L E){e:jM}(he:e.ok tb G (tQ (Hb tb L E) dm fuel d)=true):cy P tb (e::L) E:=
 ⟨fun e' hm=>by
  rcases jN.1 hm with rfl|hm
  ·exact jM.pure (KE hP.m hP.e hP.t h.call fuel d) (by rw[hP.g];exact he)
  ·exact h.p e' hm,h.e⟩
theorem cy.P5{dm:Nat->Option ji}{fuel d:Nat}(hP:zj P dm G){tb:List (Nat×O)}{L:List jM}{E:List iN}(h:cy P tb L E){e:iN}(he:e.ok G (tQ (Hb tb L E) dm fuel d)=true):cy P tb L (e::E):=
 ⟨h.p,fun e' hm=>by
  rcases jN.1 hm with rfl|hm
  ·exact Zzi (KE hP.m hP.e hP.t h.call fuel d) (by rw[hP.g];exact he)
  ·exact h.e e' hm⟩
def SS(tb:List (Nat×O))(G:Nat)(dm:Nat->Option ji)(L:List jM)(E:List iN):Bool:=match L with
 |[]=>false
 |e::t=>e.ok tb G (tQ (Hb tb t E) dm 5000 40)
def SU(tb:List (Nat×O))(G:Nat)(dm:Nat->Option ji)(L:List jM)(E:List iN):Bool:=match E with
 |[]=>false
 |e::t=>e.ok G (tQ (Hb tb L t) dm 5000 40)
theorem cy.p1{P:Program}{dm:Nat->Option ji}{G:Nat}(hP:zj P dm G){tb:List (Nat×O)}{L:List jM}{E:List iN}(h:cy P tb L.tail E)(he:SS tb G dm L E=true):cy P tb L E:=by
 cases L with
 |nil=>exact h
 |cons e t=>exact cy.P4 hP h he
theorem cy.e1{P:Program}{dm:Nat->Option ji}{G:Nat}(hP:zj P dm G){tb:List (Nat×O)}{L:List jM}{E:List iN}(h:cy P tb L E.tail)(he:SU tb G dm L E=true):cy P tb L E:=by
 cases E with
 |nil=>exact h
 |cons e t=>exact cy.P5 hP h he
section
variable {call:cA} {f:Nat} {ro:Option Nat} {a b c:aq} {fr:Fr} {st:St}
end
theorem Yod{a b:Nat}:Nat.blt a b=decide (a<b):=by
 cases h:Nat.blt a b
 ·symm;simp only[decide_eq_false_iff_not];intro hc;rw[show Nat.blt a b=true from JH hc]at h;cases h
 ·symm;simp only[decide_eq_true_eq];exact xX (sL h)
theorem Yoe{a b:Nat}:Nat.ble a b=decide (a<=b):=by
 cases h:Nat.ble a b
 ·symm;simp only[decide_eq_false_iff_not];intro hc;rw[JH hc]at h;cases h
 ·symm;simp only[decide_eq_true_eq];exact sL h
theorem ct{n:Int}(h1: -9223372036854775808<=n)(h2:n<9223372036854775808):bk .i64 n=n:=by
 rw[uO]
 simp[IntKind.wrap,IntKind.bits,IntKind.signed]
 omega
theorem Zy7{k a b}:nk .add k a b=some (.int k (bk k (a+b))):=rfl
theorem Zyw{k a b}:nk .sub k a b=some (.int k (bk k (a-b))):=rfl
theorem Zy1{k a b}:nk .mul k a b=some (.int k (bk k (a*b))):=rfl
theorem Zyz{k a b}(h:¬b=0):nk .quo k a b=some (.int k (bk k (a.tdiv b))):=by simp[nk,h]
theorem Zyy{k a b}(h:¬b=0):nk .rem k a b=some (.int k (a.tmod b)):=by simp[nk,h]
theorem Zy6{k a b}:nk .eql k a b=some (.bool (a==b)):=rfl
theorem Zy0{k a b}:nk .neq k a b=some (.bool (a !=b)):=rfl
theorem Zy2{k a b}:nk .lss k a b=some (.bool (decide (a<b))):=rfl
theorem Zy3{k a b}:nk .leq k a b=some (.bool (decide (a<=b))):=rfl
theorem Zy4{k a b}:nk .gtr k a b=some (.bool (decide (a > b))):=rfl
theorem Zy5{k a b}:nk .geq k a b=some (.bool (decide (a≥b))):=rfl
theorem Yk9(x):bZ (.aZ x)=Bv x:=rfl
theorem Ygm(a b c):bZ (.pick a b c)=zM a b c:=rfl
theorem Yb9(a b):bZ (.alloc a b)=DU a b:=rfl
theorem Yld(a b):bZ (.box a b)=Bw a b:=rfl
theorem Yb8(a b):bZ (.build a b)=yd a b:=rfl
theorem Zyf(a b c d e):bZ (.aY a b c d e)=Bx a b c d e:=rfl
theorem Ygn(a b):bZ (.load a b)=By a b:=rfl
theorem Yb0(a b c):bZ (.store a b c)=zN a b c:=rfl
theorem Yb2(a):bZ (.fv a)=Bz a:=rfl
theorem Yle(a b c d e):bZ (.bin a b c d e)=BA a b c d e:=rfl
theorem Yog(a b):bZ (.un a b)=BB a b:=rfl
theorem Zue(a b):bZ (.ba a b)=BC a b:=rfl
theorem Zx8(a b c):bZ (.cI a b c)=BE a b c:=rfl
theorem Yb5(a b):bZ (.ec a b)=BF a b:=rfl
theorem Yb4(a b c):bZ (.field a b c)=BG a b c:=rfl
theorem Zrs(a b c d):bZ (.bY a b c d)=yf a b c d:=rfl
theorem Zub(a b c):bZ (.aI a b c)=zQ a b c:=rfl
theorem Zuc(a b):bZ (.extract a b)=BK a b:=rfl
theorem Yla(a b):bZ (.len a b)=sP a b:=rfl
theorem Ygp(a b):bZ (.call a b)=tH a b:=rfl
structure VN (r:Option (V×St)) (v:V):Prop where
 ex:∃s,r=some (v,s)/\s.w=[]
theorem Zza{u v:V}{s:St}:VN (some (u,s)) v↔u=v/\s.w=[]:=
 ⟨fun ⟨_,h1,h2⟩=>by simp only[ai,bo]at h1;exact⟨h1.1,h1.2▸h2⟩,fun ⟨h1,h2⟩=>⟨s,by rw[h1],h2⟩⟩
attribute [simp]
 Yk9 Ygm Yb9 Yld Yb8 Zyf Ygn Yb0 Yb2 Yle Yog Zue Zx8 Yb5 Yb4 Zrs Zub Zuc Yla Ygp
 Bv zM DU Bw yd Bx By Bz BA BB BC BE BF BG yf BK tH
 tI bP Src.ev T.ah fU zU au Ob Zy7 Zyw Zy1 Zyz Zyy Zy6 Zy0 Zy2 Zy3 Zy4 Zy5 fM Oc pJ ay wS wR aO V.cells V.one St.alloc St.write St.row ct Yod Yoe qo lE gp.km JN iC dn dn.go dn.dp FP.free BN Nat.testBit Zza base
end Go.Mx

