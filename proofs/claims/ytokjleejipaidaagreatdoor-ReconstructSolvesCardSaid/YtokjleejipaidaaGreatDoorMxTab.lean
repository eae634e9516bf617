/-Calls that are known-/
import Derived.Test.YtokjleejipaidaaGreatDoorMxDraw3
import Derived.Test.YtokjleejipaidaaGreatDoorMxFrame
import Derived.Below
import Derived.CallsIn
set_option linter.all false
namespace Go.Mx
open Go
variable {G i:Nat} {P:Program}
def M8:Bool->Bool->Bool
 |true,b=>b
 |false,true=>false
 |false,false=>true
def RH:IntKind->Nat
 |.i8=>0|.i16=>1|.i32=>2|.i64=>3|.u8=>4|.u16=>5|.u32=>6|.u64=>7
def Yk:Int->Int->Bool
 |.ofNat a,b=>match b with
  |.ofNat b=>Nat.beq a b
  |.negSucc _=>false
 |.negSucc a,b=>match b with
  |.ofNat _=>false
  |.negSucc b=>Nat.beq a b
def HW:List UInt8->List UInt8->Bool
 |[],l=>match l with
  |[]=>true
  |_::_=>false
 |a::xs,l=>match l with
  |[]=>false
  |b::ys=>match Nat.beq a.toNat b.toNat with
   |true=>HW xs ys
   |false=>false
def M9:Option Nat->Option Nat->Bool
 |none,b=>match b with
  |none=>true
  |some _=>false
 |some a,b=>match b with
  |none=>false
  |some b=>Nat.beq a b
def Yl{a b:Bool}(h:M8 a b=true):a=b:=by cases a<;>cases b<;>simp_all [M8]
def jQ{a b:Nat}(h:Nat.beq a b=true):a=b:=QU h
def Yp5{a b:IntKind}(h:Nat.beq (RH a) (RH b)=true):a=b:=by cases a<;>cases b<;>first|rfl|(exact absurd h (by decide))
def Yj6{a b:Int}(h:Yk a b=true):a=b:=by
 cases a<;>cases b<;>simp only[Yk,fL]at h
 ·rw[jQ h]
 ·rw[jQ h]
def Ym:∀{a b:List UInt8},HW a b=true->a=b
 |[],[],_=>rfl
 |[],_::_,h=>by simp[HW]at h
 |_::_,[],h=>by simp[HW]at h
 |a::xs,b::ys,h=>by
  simp only[HW]at h
  split at h
  ·rename_i e
   rw[Ym h,UInt8.toNat_inj.1 (jQ e)]
  ·cases h
def Yn{a b:Option Nat}(h:M9 a b=true):a=b:=by
 cases a<;>cases b<;>simp only[M9,fL]at h
 ·rfl
 ·rw[jQ h]
def RI:FloatKind->Nat
 |.f32=>0|.f64=>1
def Yqc{a b:FloatKind}(h:Nat.beq (RI a) (RI b)=true):a=b:=by cases a<;>cases b<;>first|rfl|(exact absurd h (by decide))
def V.isBool(x:Bool):V->Bool|.bool y=>M8 x y|_=>false
def V.isInt(k:IntKind)(n:Int):V->Bool|.int k' n'=>(match Nat.beq (RH k) (RH k')with|true=>Yk n n'|false=>false)|_=>false
def V.FG(k:FloatKind)(n:Nat):V->Bool|.vN k' n'=>(match Nat.beq (RI k) (RI k')with|true=>Nat.beq n n'|false=>false)|_=>false
def V.isStr(s:List UInt8):V->Bool|.str t=>HW s t|_=>false
def V.uy:V->Bool|.bF=>true|_=>false
def V.FH(i o:Nat):V->Bool|.ptr i' o'=>(match Nat.beq i i' with|true=>Nat.beq o o'|false=>false)|_=>false
def V.o_:V->Bool|.aa=>true|_=>false
def V.isSlice(i o l:Nat)(c:Option Nat)(z:Nat):V->Bool|.slice i' o' l' c' z'=>Nat.beq i i'&&Nat.beq o o'&&Nat.beq l l'&&M9 c c'&&Nat.beq z z'|_=>false
def V.isEmpty:V->Bool|.empty=>true|_=>false
def V.uz:V->Bool|.bP=>true|_=>false
def V.FI(i:Nat):V->Bool|.map j=>Nat.beq i j|_=>false
def V.qJ:V->Bool|.bR=>true|_=>false
def V.isChan(i:Nat):V->Bool|.chan j=>Nat.beq i j|_=>false
def V.yf(i:Nat):V->Bool|.yield j=>Nat.beq i j|_=>false
def V.qK:V->Bool|.bS=>true|_=>false
def V.pc:V->Bool|.aY=>true|_=>false
mutual
def V.beq:V->V->Bool
 |.bool x,b=>b.isBool x
 |.int k n,b=>b.isInt k n
 |.vN k n,b=>b.FG k n
 |.str s,b=>b.isStr s
 |.bF,b=>b.uy
 |.ptr i o,b=>b.FH i o
 |.aa,b=>b.o_
 |.slice i o l c z,b=>b.isSlice i o l c z
 |.empty,b=>b.isEmpty
 |.bP,b=>b.uz
 |.map i,b=>b.FI i
 |.bR,b=>b.qJ
 |.chan i,b=>b.isChan i
 |.func f a c,b=>match b with
  |.func f' a' c'=>Nat.beq f f'&&V.iQ a a'&&V.iQ c c'
  |_=>false
 |.yield i,b=>b.yf i
 |.bS,b=>b.qK
 |.iface t v,b=>match b with
  |.iface t' v'=>Nat.beq t t'&&V.beq v v'
  |_=>false
 |.aY,b=>b.pc
 |.agg l,b=>match b with
  |.agg l'=>V.iQ l l'
  |_=>false
 |.aV l,b=>match b with
  |.aV l'=>V.iQ l l'
  |_=>false
def V.iQ:List V->List V->Bool
 |[],l=>match l with
  |[]=>true
  |_::_=>false
 |a::xs,l=>match l with
  |[]=>false
  |b::ys=>match V.beq a b with
   |true=>V.iQ xs ys
   |false=>false
end
mutual
def V.beq_eq:∀(a b:V),V.beq a b=true->a=b
 |.bool x,b,h=>by cases b<;>simp only[V.beq,V.isBool,fL]at h;rw[Yl h]
 |.int k n,b,h=>by
  cases b<;>simp only[V.beq,V.isInt,fL]at h
  split at h
  ·rename_i e;rw[Yp5 e,Yj6 h]
  ·cases h
 |.vN k n,b,h=>by
  cases b<;>simp only[V.beq,V.FG,fL]at h
  split at h
  ·rename_i e;rw[Yqc e,jQ h]
  ·cases h
 |.str s,b,h=>by cases b<;>simp only[V.beq,V.isStr,fL]at h;rw[Ym h]
 |.bF,b,h=>by cases b<;>simp only[V.beq,V.uy,fL]at h;rfl
 |.ptr i o,b,h=>by
  cases b<;>simp only[V.beq,V.FH,fL]at h
  split at h
  ·rename_i e;rw[jQ e,jQ h]
  ·cases h
 |.aa,b,h=>by cases b<;>simp only[V.beq,V.o_,fL]at h;rfl
 |.slice i o l c z,b,h=>by
  cases b<;>simp only[V.beq,V.isSlice,fL,iz]at h
  obtain⟨⟨⟨⟨h1,h2⟩,h3⟩,h4⟩,h5⟩:=h
  rw[jQ h1,jQ h2,jQ h3,Yn h4,jQ h5]
 |.empty,b,h=>by cases b<;>simp only[V.beq,V.isEmpty,fL]at h;rfl
 |.bP,b,h=>by cases b<;>simp only[V.beq,V.uz,fL]at h;rfl
 |.map i,b,h=>by cases b<;>simp only[V.beq,V.FI,fL]at h;rw[jQ h]
 |.bR,b,h=>by cases b<;>simp only[V.beq,V.qJ,fL]at h;rfl
 |.chan i,b,h=>by cases b<;>simp only[V.beq,V.isChan,fL]at h;rw[jQ h]
 |.func f a c,b,h=>by
  cases b<;>simp only[V.beq,fL,iz]at h
  obtain⟨⟨h1,h2⟩,h3⟩:=h
  rw[jQ h1,V.di _ _ h2,V.di _ _ h3]
 |.yield i,b,h=>by cases b<;>simp only[V.beq,V.yf,fL]at h;rw[jQ h]
 |.bS,b,h=>by cases b<;>simp only[V.beq,V.qK,fL]at h;rfl
 |.iface t v,b,h=>by
  cases b<;>simp only[V.beq,fL,iz]at h
  rw[jQ h.1,V.beq_eq _ _ h.2]
 |.aY,b,h=>by cases b<;>simp only[V.beq,V.pc,fL]at h;rfl
 |.agg l,b,h=>by cases b<;>simp only[V.beq,fL]at h;rw[V.di _ _ h]
 |.aV l,b,h=>by cases b<;>simp only[V.beq,fL]at h;rw[V.di _ _ h]
def V.di:∀(a b:List V),V.iQ a b=true->a=b
 |[],[],_=>rfl
 |[],_::_,h=>by simp[V.iQ]at h
 |_::_,[],h=>by simp[V.iQ]at h
 |a::xs,b::ys,h=>by
  simp only[V.iQ]at h
  split at h
  ·rename_i e;rw[V.beq_eq a b e,V.di xs ys h]
  ·cases h
end
def Ku:List (V×V)->List (V×V)->Bool
 |[],l=>match l with
  |[]=>true
  |_::_=>false
 |(k,v)::xs,l=>match l with
  |[]=>false
  |(k',v')::ys=>V.beq k k'&&V.beq v v'&&Ku xs ys
def Yf0:∀{a b:List (V×V)},Ku a b=true->a=b
 |[],[],_=>rfl
 |[],_::_,h=>by simp[Ku]at h
 |_::_,[],h=>by simp[Ku]at h
 |(k,v)::xs,(k',v')::ys,h=>by
  simp only[Ku,iz]at h
  rw[V.beq_eq _ _ h.1.1,V.beq_eq _ _ h.1.2,Yf0 h.2]
def O.beq:O->O->Bool
 |.cells c e rw,b=>match b with
  |.cells c' e' mP=>Nat.beq e e'&&M8 rw mP&&V.iQ c c'
  |_=>false
 |.map es,b=>match b with
  |.map ib=>Ku es ib
  |_=>false
 |.chan cap buf,b=>match b with
  |.chan cap' CO=>Nat.beq cap cap'&&V.iQ buf CO
  |_=>false
 |.eD s pos,b=>match b with
  |.eD s' pos'=>HW s s'&&Nat.beq pos pos'
  |_=>false
 |.defs o,b=>match b with
  |.defs o'=>M8 o o'
  |_=>false
 |.loop _,_=>false
 |.dead,b=>match b with
  |.dead=>true
  |_=>false
def O.beq_eq{a b:O}(h:O.beq a b=true):a=b:=by
 cases a<;>simp only[O.beq,fL]at h<;>cases b<;>simp only[fL,iz]at h
 ·obtain⟨⟨h1,h2⟩,h3⟩:=h;rw[jQ h1,Yl h2,V.di _ _ h3]
 ·rw[Yf0 h]
 ·rw[jQ h.1,V.di _ _ h.2]
 ·rw[Ym h.1,jQ h.2]
 ·rw[Yl h]
 ·rfl
def J9:Option O->O->Bool
 |some a,b=>O.beq a b
 |none,_=>false
def Yo{a:Option O}{b:O}(h:J9 a b=true):a=some b:=by
 cases a with
 |none=>cases h
 |some a=>rw[O.beq_eq h]
def vEq:Option V->V->Bool
 |some a,b=>V.beq a b
 |none,_=>false
def Yr9{a:Option V}{b:V}(h:vEq a b=true):a=some b:=by
 cases a with
 |none=>cases h
 |some a=>rw[V.beq_eq _ _ h]
def RJ:Option (List V)->List V->Bool
 |some a,b=>V.iQ a b
 |none,_=>false
def Yp{a:Option (List V)}{b:List V}(h:RJ a b=true):a=some b:=by
 cases a with
 |none=>cases h
 |some a=>rw[V.di _ _ h]
mutual
def V.free:V->Bool
 |.ptr ..|.slice ..|.map _|.chan _|.yield _=>false
 |.func _ a c=>V.jR a&&V.jR c
 |.iface _ v=>V.free v
 |.agg l=>V.jR l
 |.aV l=>V.jR l
 |_=>true
def V.jR:List V->Bool
 |[]=>true
 |v::vs=>V.free v&&V.jR vs
end
mutual
def V.jS{ρ:Nat->Option Nat}:∀(v:V),V.free v=true->V.bW ρ v=some v
 |.bool _,_=>rfl
 |.int _ _,_=>rfl
 |.vN _ _,_=>rfl
 |.str _,_=>rfl
 |.bF,_=>rfl
 |.ptr _ _,h=>by simp[V.free]at h
 |.aa,_=>rfl
 |.slice _ _ _ _ _,h=>by simp[V.free]at h
 |.empty,_=>rfl
 |.bP,_=>rfl
 |.map _,h=>by simp[V.free]at h
 |.bR,_=>rfl
 |.chan _,h=>by simp[V.free]at h
 |.func f a c,h=>by
  simp only[V.free,iz]at h
  simp only[V.bW,V.dR a h.1,V.dR c h.2]
 |.yield _,h=>by simp[V.free]at h
 |.bS,_=>rfl
 |.iface t v,h=>by
  simp only[V.free]at h
  simp only[V.bW,V.jS v h]
 |.aY,_=>rfl
 |.agg l,h=>by
  simp only[V.free]at h
  simp only[V.bW,V.dR l h]
 |.aV l,h=>by
  simp only[V.free]at h
  simp only[V.bW,V.dR l h]
def V.dR{ρ:Nat->Option Nat}:∀(l:List V),V.jR l=true->V.ew ρ l=some l
 |[],_=>rfl
 |v::vs,h=>by
  simp only[V.jR,iz]at h
  simp only[V.ew,V.jS v h.1,V.dR vs h.2]
end
def zS:Nat->T O
 |0=>.nil
 |n+1=>(zS n).set n .dead
def RK:∀(n i:Nat),i<n->(zS n).get i=some .dead
 |0,i,h=>by omega
 |n+1,i,h=>by
  simp only[zS,T.ag]
  by_cases e:i=n
  ·rw[ax e]
  ·rw[ak e];exact RK n i (by omega)
def base(G:Nat):St:=⟨zS G,G,[]⟩
def lk:List (Nat×O)->Nat->Option O
 |[],_=>none
 |(j,o)::l,i=>match Nat.beq j i with
  |true=>some o
  |false=>lk l i
def uA(h:T O):List (Nat×O)->T O
 |[]=>h
 |(j,o)::l=>(uA h l).set j o
def Cg(h:T O):∀(l:List (Nat×O)) (i:Nat),(uA h l).get i=match lk l i with|some o=>some o|none=>h.get i
 |[],i=>rfl
 |(j,o)::l,i=>by
  simp only[uA,T.ag,lk]
  by_cases e:i=j
  ·subst e
   rw[ax rfl,Nat.beq_refl _]
  ·rw[ak e]
   have:Nat.beq j i=false:=by
    cases hb:Nat.beq j i with
    |false=>rfl
    |true=>exact absurd (QU hb).symm e
   rw[this]
   exact Cg h l i
def Na:∀{l:List (Nat×O)} {i:Nat} {o:O},lk l i=some o->(i,o)∈l
 |(j,o')::l,i,o,h=>by
  simp only[lk]at h
  split at h
  ·rename_i e
   have:=jQ e
   simp only[an]at h
   subst h;subst this;exact pR
  ·exact pG _ (Na h)
def Ye6:∀{l:List (Nat×O)} {i:Nat},lk l i=none->∀p∈l,p.1≠i
 |[],_,_,p,hp=>by cases hp
 |(j,o')::l,i,h,p,hp=>by
  simp only[lk]at h
  split at h
  ·cases h
  ·rename_i e
   rcases ku.1 hp with rfl|hp
   ·intro hc
    simp only at hc
    subst hc
    have:Nat.beq j j=true:=Nat.beq_refl _
    rw[this]at e;cases e
   ·exact Ye6 h p hp
def Ypr{l:List (Nat×O)}{i:Nat}{o:O}(h:(i,o)∈l):∃o',lk l i=some o':=by
 cases hc:lk l i with
 |some o'=>exact⟨o',rfl⟩
 |none=>exact absurd rfl (Ye6 hc _ h)
def Gj(i:Nat):List Nat->Bool
 |[]=>false
 |j::l=>match Nat.beq j i with
  |true=>true
  |false=>Gj i l
def La{i:Nat}:∀{l:List Nat},Gj i l=true↔i∈l
 |[]=>by simp[Gj]
 |j::l=>by
  simp only[Gj]
  split
  ·rename_i e;simp[jQ e]
  ·rename_i e
   have:i≠j:=by
    rintro rfl
    have:Nat.beq i i=true:=Nat.beq_refl _
    rw[this]at e;cases e
   simp[La,this]
structure mI where
 f:Nat
 args:List V
 v:V
def O.Yq:O->Bool
 |.cells c _ false=>V.jR c
 |_=>false
def Nb(G:Nat):List (Nat×O)->Bool
 |[]=>true
 |(i,o)::l=>Nat.blt i G&&o.Yq&&Nb G l
def O.Dz{ρ:Nat->Option Nat}{o:O}(h:o.Yq=true):o.bW ρ=some o:=by
 cases o with
 |cells c e rw=>
  cases rw with
  |true=>cases h
  |false=>simp only[O.bW,V.dR c h]
 |_=>cases h
def Yr{G:Nat}:∀{l:List (Nat×O)},Nb G l=true->∀{i:Nat} {o:O},lk l i=some o->i<G/\o.Yq=true
 |(j,o')::l,h,i,o,ho=>by
  simp only[Nb,iz]at h
  simp only[lk]at ho
  split at ho
  ·rename_i e
   simp only[an]at ho
   rw[<-jQ e,<-ho]
   exact⟨CP (vU h.1.1),h.1.2⟩
  ·exact Yr h.2 ho
def FJ(G:Nat)(tb:List (Nat×O)):St:=⟨uA (zS G) tb,G,[]⟩
def Fh(S:St):List (Nat×O)->Bool
 |[]=>true
 |(i,o)::l=>match J9 (S.h.get i) o with
  |true=>Fh S l
  |false=>false
def Ys{S:St}:∀{l:List (Nat×O)},Fh S l=true->∀p∈l,S.h.get p.1=some p.2
 |[],_,p,hp=>by cases hp
 |(i,o)::l,h,p,hp=>by
  simp only[Fh]at h
  split at h
  ·rename_i e
   rcases ku.1 hp with rfl|hp
   ·exact Yo e
   ·exact Ys h p hp
  ·cases h
def mI.ok(e:mI)(tb:List (Nat×O))(G:Nat)(call:cH):Bool:=
 match call (.func e.f [] []) e.args (FJ G tb)with
 |some (v,s)=>match s.w with
  |[]=>V.beq v e.v&&V.free e.v&&V.jR e.args&&Nat.ble G s.n&&Nb G tb
  |_=>false
 |none=>false
def Yt(P:Program)(tb:List (Nat×O))(e:mI):Prop:=∀S,Fh S tb=true->Kb P (.func e.f [] []) e.args S e.v S
def mI.pure{call:cH}(hc:js P call){tb:List (Nat×O)}{e:mI}(h:e.ok tb P.globals.size call=true):Yt P tb e:=by
 unfold mI.ok at h
 split at h
 ·rename_i v s b_
  split at h
  ·rename_i hw
   simp only[iz]at h
   obtain⟨⟨⟨⟨h1,h2⟩,h3⟩,h4⟩,h5⟩:=h
   have hv:=V.beq_eq _ _ h1
   subst hv
   intro S eL μ w Gv xs hh hG hx
   have eL:=Ys eL
   have hn:P.globals.size<=S.n:=by
    apply zB
    intro au
    obtain⟨t,ht⟩:=hh.ic S.n au
    have:=(hh.c_ _ _ ht).1
    omega
   have F:HF P (fun i=>if i<P.globals.size then some i else none) (fun i=>if i<P.globals.size then some i else none) [] (FJ P.globals.size tb) s S S:={
    c_:=fun i i' hi=>by
     split at hi
     ·rename_i au;simp only[an]at hi;subst hi
      exact⟨au,by omega⟩
     ·cases hi
    inj:=fun i j i' hi hj=>by
     split at hi<;>split at hj<;>simp_all
    ic:=fun g hg=>by simp[hg]
    obj:=fun i i' hi=>by
     split at hi
     ·rename_i au
      simp only[an]at hi;subst hi
      cases hl:lk tb i with
      |some o=>
       refine⟨o,o,?_,.inr (.inl (O.Dz (Yr h5 hl).2)),.inl (eL _ (Na hl))⟩
       show (uA (zS P.globals.size) tb).get i=_
       rw[Cg,hl]
      |none=>
       refine⟨.dead,.dead,?_,.inl rfl,.inr rfl⟩
       show (uA (zS P.globals.size) tb).get i=_
       rw[Cg,hl]
       exact RK _ _ au
     ·cases hi
    old:=fun _ _=>rfl
    new:=fun i i' hi hr=>by
     have:P.globals.size<=i:=hi
     rw[ak (by omega)]at hr;cases hr
    HG:=fun i j i' hi _ hr _=>by
     have:P.globals.size<=i:=hi
     rw[ak (by omega)]at hr;cases hr
    full:=fun i' h1 h2=>by omega
    fk:=aO _
    w0:=rfl
    W1:=fun i i' hi _=>by rw[hw]at hi;cases hi
    W2:=fun j hj=>by cases hj
    wl:=rfl
    ad:=fun _ _ _=>rfl
    wr:=fun i i' hi _=>by rw[hw]at hi;cases hi
    Xu:=fun i i' hi hr=>by
     have:P.globals.size<=i:=hi
     rw[ak (by omega)]at hr;cases hr}
   exact(Kb.frame (hc _ _ _ _ _ b_) F (V.jS _ (by rfl)) (V.dR _ h3) (V.jS _ h2)) μ w Gv xs hh hG hx
  ·cases h
 ·cases h
def J8:List mI->Nat->List V->Option V
 |[],_,_=>none
 |e::l,f,args=>match Nat.beq e.f f with
  |true=>match V.iQ e.args args with
   |true=>some e.v
   |false=>J8 l f args
  |false=>J8 l f args
def J7(tb:List (Nat×O))(l:List mI):cH
 |.func f [] [],args,st=>match J8 l f args with
  |some v=>match Fh st tb with
   |true=>some (v,st)
   |false=>none
  |none=>none
 |_,_,_=>none
def Yu:∀{l:List mI} {f:Nat} {args:List V} {v:V},J8 l f args=some v->∃e∈l,e.f=f/\e.args=args/\e.v=v
 |[],_,_,_,h=>by cases h
 |e::l,f,args,v,h=>by
  simp only[J8]at h
  split at h
  ·rename_i e1
   split at h
   ·rename_i e2
    simp only[an]at h
    exact⟨e,pR,jQ e1,V.di _ _ e2,h⟩
   ·obtain⟨e',h1,h2⟩:=Yu h;exact⟨e',pG _ h1,h2⟩
  ·obtain⟨e',h1,h2⟩:=Yu h;exact⟨e',pG _ h1,h2⟩
def Zx1{tb:List (Nat×O)}{l:List mI}(h:∀e∈l,Yt P tb e):js P (J7 tb l):=by
 intro g args st v aA hc
 unfold J7 at hc
 split at hc
 ·rename_i f
  split at hc
  ·rename_i u hu
   split at hc
   ·rename_i hp
    simp only[an,bs]at hc
    obtain⟨rfl,rfl⟩:=hc
    obtain⟨e,h1,rfl,rfl,rfl⟩:=Yu hu
    exact h e h1 st hp
   ·cases hc
  ·cases hc
 ·cases hc
structure kc where
 f:Nat
 first:List V
 gp:List V
 args:List V
 part:List (Nat×O)
 n:Nat
 v:V
 kept:List (Nat×O)
 Ch:List (Nat×O)
def kc.st(e:kc)(G:Nat):St:=⟨uA (zS G) e.part,e.n,[]⟩
def sig(G:Nat)(part:List (Nat×O))(i:Nat):Option Nat:=
 match Nat.blt i G with
 |true=>some i
 |false=>match lk part i with
  |some _=>some i
  |none=>none
def idx(i:Nat):List (Nat×O)->Nat->Option Nat
 |[],_=>none
 |(k,_)::l,m=>match Nat.beq k i with
  |true=>some m
  |false=>idx i l (m+1)
def DC(G:Nat)(part:List (Nat×O))(n:Nat)(kept:List (Nat×O))(i:Nat):Option Nat:=
 match Nat.blt i n with
 |true=>sig G part i
 |false=>idx i kept n
def DD:List (Nat×O)->Nat->List (Nat×O)
 |[],_=>[]
 |(_,o)::l,m=>(m,o)::DD l (m+1)
def Kv(ρ:Nat->Option Nat)(s:St)(i:Nat)(o':O):Bool:=
 match s.h.get i with
 |some o=>match o' with
  |.dead=>true
  |o'=>J9 (o.bW ρ) o'
 |none=>false
def RL(ρ:Nat->Option Nat)(s:St)(n:Nat):List (Nat×O)->Nat->Bool
 |[],_=>true
 |(k,o)::l,m=>M9 (ρ k) (some m)&&Nat.ble n k&&Nat.blt k s.n&&Kv ρ s k o&&RL ρ s n l (m+1)
def kc.cr(e:kc)(G:Nat)(v:V)(s:St):Bool:=
 Nat.ble G e.n&&Nat.ble e.n s.n&&(e.part.all fun p=>Nat.blt p.1 e.n&&J9 (p.2.bW (sig G e.part)) p.2)&&
 RJ (V.ew (sig G e.part) e.first) e.first&&RJ (V.ew (sig G e.part) e.gp) e.gp&&RJ (V.ew (sig G e.part) e.args) e.args&&
 vEq (V.bW (DC G e.part e.n e.kept) v) e.v&&
 RL (DC G e.part e.n e.kept) s e.n e.kept e.n&&
 (s.w.all fun i=>match sig G e.part i with|some _=>Gj i (e.Ch.map (·.1))|none=>true)&&
 (e.Ch.all fun p=>Gj p.1 s.w&&M9 (sig G e.part p.1) (some p.1)&&Kv (DC G e.part e.n e.kept) s p.1 p.2)
def kc.ok(e:kc)(G:Nat)(call:cH):Bool:=
 match call (.func e.f e.first e.gp) e.args (e.st G)with
 |some (v,s)=>e.cr G v s
 |none=>false
def kc.out(e:kc)(S:St):St:=⟨uA (uA S.h e.Ch) (DD e.kept e.n),e.n+e.kept.length,e.Ch.map (·.1)++S.w⟩
def Nc(e:kc):cH
 |.func f a c,args,S=>match Nat.beq e.f f with
  |true=>match V.iQ e.args args&&V.iQ e.first a&&V.iQ e.gp c&&Nat.beq S.n e.n&&Fh S e.part with
   |true=>some (e.v,e.out S)
   |false=>none
  |false=>none
 |_,_,_=>none
def Nd{i:Nat}:∀{l:List (Nat×O)} {m i':Nat},idx i l m=some i'->m<=i'/\i'<m+l.length/\∃o,l[i'-m]?=some (i,o)
 |[],m,i',h=>by cases h
 |(k,o)::l,m,i',h=>by
  simp only[idx]at h
  split at h
  ·rename_i e
   simp only[an]at h;subst h
   have:=jQ e;subst this
   exact⟨aO _,by simp,o,by simp⟩
  ·obtain⟨h1,h2,o',h3⟩:=Nd h
   refine⟨by omega,by simp;omega,o',?_⟩
   rw[show i'-m=(i'-(m+1))+1 by omega]
   simpa using h3
def Zql:∀{l:List (Nat×O)} {m j:Nat} {p:Nat×O},l[j]?=some p->lk (DD l m) (m+j)=some p.2
 |[],m,j,p,h=>by simp at h
 |(k,o)::l,m,0,p,h=>by
  simp at h;subst h
  simp[DD,lk]
 |(k,o)::l,m,j+1,p,h=>by
  simp only[DD,lk]
  have:Nat.beq m (m+(j+1))=false:=by
   cases hb:Nat.beq m (m+(j+1))with
   |false=>rfl
   |true=>have:=jQ hb;omega
  rw[this,show m+(j+1)=(m+1)+j by omega]
  exact Zql (by simpa using h)
def Zmk:∀{l:List (Nat×O)} {m i:Nat},i<m->lk (DD l m) i=none
 |[],_,_,_=>rfl
 |(k,o)::l,m,i,h=>by
  simp only[DD,lk]
  have:Nat.beq m i=false:=by
   cases hb:Nat.beq m i with
   |false=>rfl
   |true=>have:=jQ hb;omega
  rw[this]
  exact Zmk (by omega)
def Zqr{ρ:Nat->Option Nat}{s:St}{n:Nat}:∀{l:List (Nat×O)} {m:Nat},RL ρ s n l m=true->∀{j:Nat} {p:Nat×O},l[j]?=some p->ρ p.1=some (m+j)/\n<=p.1/\p.1<s.n/\Kv ρ s p.1 p.2=true
 |[],m,_,j,p,h=>by simp at h
 |(k,o)::l,m,h,j,p,hj=>by
  simp only[RL,iz]at h
  obtain⟨⟨⟨⟨h1,h2⟩,h3⟩,h4⟩,h5⟩:=h
  cases j with
  |zero=>
   simp at hj;subst hj
   exact⟨Yn h1,vU h2,CP (vU h3),h4⟩
  |succ j=>
   obtain⟨q1,q2⟩:=Zqr h5 (j:=j) (by simpa using hj)
   exact⟨by rw[q1];congr 1;omega,q2⟩
def Zqk{ρ:Nat->Option Nat}{s:St}{o':O}(h:Kv ρ s i o'=true):∃o,s.h.get i=some o/\(o'=.dead\/o.bW ρ=some o'):=by
 unfold Kv at h
 split at h
 ·rename_i o ho
  refine⟨o,ho,?_⟩
  split at h
  ·exact .inl rfl
  ·exact .inr (Yo h)
 ·cases h
def Zip{part:List (Nat×O)}{i':Nat}(h:sig G part i=some i'):i'=i/\(i<G\/∃o,lk part i=some o):=by
 unfold sig at h
 split at h
 ·rename_i e
  simp only[an]at h
  exact⟨h.symm,.inl (CP (vU e))⟩
 ·split at h
  ·rename_i o ho
   simp only[an]at h
   exact⟨h.symm,.inr ⟨o,ho⟩⟩
  ·cases h
def Ybq{call:cH}(b_:js P call){e:kc}(h:e.ok P.globals.size call=true):js P (Nc e):=by
 intro g args S v S' hc
 unfold Nc at hc
 split at hc
 ·rename_i f a c
  split at hc
  ·rename_i hf
   have hf:=jQ hf
   subst hf
   split at hc
   ·rename_i cM
    simp only[iz]at cM
    obtain⟨⟨⟨⟨c1,c2⟩,c3⟩,c4⟩,c5⟩:=cM
    have c1:=V.di _ _ c1
    have c2:=V.di _ _ c2
    have c3:=V.di _ _ c3
    have c4:=jQ c4
    have c5:=Ys c5
    simp only[an,bs]at hc
    obtain⟨rfl,rfl⟩:=hc
    subst c1;subst c2;subst c3
    unfold kc.ok at h
    split at h
    ·rename_i v0 s bQ
     unfold kc.cr at h
     simp only[iz,me]at h
     obtain⟨⟨⟨⟨⟨⟨⟨⟨⟨k1,k2⟩,k3⟩,k4⟩,k5⟩,k6⟩,k7⟩,k8⟩,k9⟩,k10⟩:=h
     have k1:=vU k1
     have k2:=vU k2
     have eL:∀i o,lk e.part i=some o->i<e.n/\o.bW (sig P.globals.size e.part)=some o/\S.h.get i=some o:=fun i o ho=>by
      have hm:=Na ho
      obtain⟨q1,q2⟩:=k3 _ hm
      exact⟨CP (vU q1),Yo q2,c5 _ hm⟩
     have RM:∀i,e.n<=i->DC P.globals.size e.part e.n e.kept i=idx i e.kept e.n:=fun i hi=>by
      unfold DC
      have:Nat.blt i e.n=false:=by
       cases hb:Nat.blt i e.n with
       |false=>rfl
       |true=>have:=CP (vU hb);omega
      rw[this]
     have A5:∀j p,e.kept[j]?=some p->DC P.globals.size e.part e.n e.kept p.1=some (e.n+j)/\e.n<=p.1/\p.1<s.n/\Kv (DC P.globals.size e.part e.n e.kept) s p.1 p.2=true:=fun j p hj=>Zqr k8 hj
     have Nf:∀j,j<e.n->(e.out S).h.get j=match lk e.Ch j with|some o=>some o|none=>S.h.get j:=fun j hj=>by
      show (uA (uA S.h e.Ch) (DD e.kept e.n)).get j=_
      rw[Cg,Zmk hj,Cg]
     have F:HF P (sig P.globals.size e.part) (DC P.globals.size e.part e.n e.kept) (e.Ch.map (·.1)) (e.st P.globals.size) s S (e.out S):={
      c_:=fun i i' hi=>by
       obtain⟨rfl,Ke⟩:=Zip hi
       have:i'<e.n:=by
        rcases Ke with h|⟨o,ho⟩
        ·omega
        ·exact(eL _ _ ho).1
       exact⟨this,by omega⟩
      inj:=fun i j i' hi hj=>by rw[<-(Zip hi).1,<-(Zip hj).1]
      ic:=fun g hg=>by
       unfold sig
       have:Nat.blt g P.globals.size=true:=QW hg
       rw[this]
      obj:=fun i i' hi=>by
       obtain⟨rfl,Ke⟩:=Zip hi
       cases hl:lk e.part i' with
       |some o=>
        obtain⟨q1,q2,q3⟩:=eL _ _ hl
        refine⟨o,o,?_,.inr (.inl q2),.inl q3⟩
        show (uA (zS P.globals.size) e.part).get i'=_
        rw[Cg,hl]
       |none=>
        have hg:i'<P.globals.size:=by
         rcases Ke with h|⟨o,ho⟩
         ·exact h
         ·rw[hl]at ho;cases ho
        refine⟨.dead,.dead,?_,.inl rfl,.inr rfl⟩
        show (uA (zS P.globals.size) e.part).get i'=_
        rw[Cg,hl]
        exact RK _ _ hg
      old:=fun i hi=>by
       have:Nat.blt i e.n=true:=QW hi
       unfold DC;rw[this]
      new:=fun i i' hi hr=>by
       rw[RM i hi]at hr
       obtain⟨q1,q2,o,q3⟩:=Nd hr
       obtain⟨_,_,r3,_⟩:=A5 _ _ q3
       exact⟨by omega,q2,r3⟩
      HG:=fun i j i' hi hj Kd hrj=>by
       rw[RM i hi]at Kd
       rw[RM j hj]at hrj
       obtain⟨_,_,o,q3⟩:=Nd Kd
       obtain⟨_,_,o',Eu⟩:=Nd hrj
       rw[q3]at Eu
       cases Eu;rfl
      full:=fun i' h1 h2=>by
       have mB:i'<e.n+e.kept.length:=h2
       obtain⟨p,hp⟩:∃p,e.kept[i'-e.n]?=some p:=⟨_,cF (by omega)⟩
       obtain⟨r1,r2,_,_⟩:=A5 _ _ hp
       exact⟨p.1,r2,by rw[r1];congr 1;omega⟩
      fk:=by show S.n<=e.n+e.kept.length;omega
      w0:=rfl
      W1:=fun i i' hi hs=>by
       obtain⟨rfl,_⟩:=Zip hs
       have:=k9 _ hi
       rw[hs]at this
       exact La.1 this
      W2:=fun j hj=>by
       obtain⟨p,hp,rfl⟩:=eC.1 hj
       obtain⟨⟨q1,q2⟩,_⟩:=k10 _ hp
       exact⟨p.1,La.1 q1,Yn q2⟩
      wl:=rfl
      ad:=fun j hj hn=>by
       rw[Nf j (by omega)]
       cases hl:lk e.Ch j with
       |none=>rfl
       |some o=>exact absurd (eC.2 ⟨_,Na hl,rfl⟩) hn
      wr:=fun i i' hi hs=>by
       obtain⟨rfl,Ke⟩:=Zip hs
       have au:i'<e.n:=by
        rcases Ke with h|⟨o,ho⟩
        ·omega
        ·exact(eL _ _ ho).1
       have:=k9 _ hi
       rw[hs]at this
       obtain⟨p,hp,BF⟩:=eC.1 (La.1 this)
       obtain⟨o',xL⟩:=Ypr (l:=e.Ch) (i:=i') (o:=p.2) (by rw[<-BF];exact hp)
       obtain⟨_,q3⟩:=k10 _ (Na xL)
       obtain⟨o,r1,r2⟩:=Zqk q3
       exact⟨o,o',r1,by rw[Nf _ au,xL],r2⟩
      Xu:=fun i i' hi hr=>by
       rw[RM i hi]at hr
       obtain⟨q1,q2,o,q3⟩:=Nd hr
       obtain⟨_,_,_,r4⟩:=A5 _ _ q3
       obtain⟨o2,t1,t2⟩:=Zqk r4
       refine⟨o2,o,t1,?_,t2⟩
       show (uA (uA S.h e.Ch) (DD e.kept e.n)).get i'=_
       have:=Zql (m:=e.n) q3
       rw[show e.n+(i'-e.n)=i' by omega]at this
       rw[Cg,this]}
     refine Kb.frame (b_ _ _ _ _ _ bQ) F ?_ (Yp k6) (Yr9 k7)
     simp only[V.bW,Yp k4,Yp k5]
    ·cases h
   ·cases hc
  ·cases hc
 ·cases hc
def zO(x:cH)(dJ:Nat->Option lA)(fuel:Nat):Nat->cH
 |0=>x
 |d+1=>tk x (yV dJ (dP (zO x dJ fuel d) fuel))
def RN{P:Program}{dJ:Nat->Option lA}(hm:P.follows .mixedOrders=true)(hE:uJ P)(ht:XB P dJ){x:cH}(hx:js P x)(fuel:Nat):∀d,js P (zO x dJ fuel d)
 |0=>hx
 |d+1=>by
  have ih:=RN hm hE ht hx fuel d
  exact hx.or (Zw6 ht (Ygt ih hE (Yf6 hm hE ih) (Yly ih hE) (Zxu ih) fuel))
def RO:List kc->Nat->List V->List V->List V->St->Option (V×St)
 |[],_,_,_,_,_=>none
 |e::l,f,a,c,args,S=>match Nat.beq e.f f with
  |true=>match Nc e (.func f a c) args S with
   |some r=>some r
   |none=>RO l f a c args S
  |false=>RO l f a c args S
def Yv(l:List kc):cH
 |.func f a c,args,S=>RO l f a c args S
 |_,_,_=>none
def Ykm{l:List kc}(h:∀e∈l,js P (Nc e)):js P (Yv l):=by
 intro g args S v S' hc
 unfold Yv at hc
 split at hc
 ·rename_i f a c
  induction l with
  |nil=>cases hc
  |cons e l ih=>
   simp only[RO]at hc
   split at hc
   ·split at hc
    ·rename_i r hr
     cases hc
     exact h e pR _ _ _ _ _ hr
    ·exact ih (fun e he=>h e (pG _ he)) hc
   ·exact ih (fun e he=>h e (pG _ he)) hc
 ·cases hc
def Ng(tb:List (Nat×O))(L:List mI)(E:List kc):cH:=tk (J7 tb L) (Yv E)
structure aZ (P:Program) (tb:List (Nat×O)) (L:List mI) (E:List kc):Prop where
 p:∀e∈L,Yt P tb e
 e:∀e∈E,js P (Nc e)
def aZ.call{tb:List (Nat×O)}{L:List mI}{E:List kc}(h:aZ P tb L E):js P (Ng tb L E):=(Zx1 h.p).or (Ykm h.e)
def aZ.nil{tb:List (Nat×O)}:aZ P tb [] []:=⟨fun _ h=>(by cases h),fun _ h=>(by cases h)⟩
structure Ef (P:Program) (dJ:Nat->Option lA) (G:Nat):Prop where
 m:P.follows .mixedOrders=true
 e:uJ P
 t:XB P dJ
 g:P.globals.size=G
def aZ.Yw{dJ:Nat->Option lA}{fuel d:Nat}(hP:Ef P dJ G){tb:List (Nat×O)}{L:List mI}{E:List kc}(h:aZ P tb L E){e:mI}(he:e.ok tb G (zO (Ng tb L E) dJ fuel d)=true):aZ P tb (e::L) E:=
 ⟨fun e' hm=>by
  rcases ku.1 hm with rfl|hm
  ·exact mI.pure (RN hP.m hP.e hP.t h.call fuel d) (by rw[hP.g];exact he)
  ·exact h.p e' hm,h.e⟩
def aZ.Yx{dJ:Nat->Option lA}{fuel d:Nat}(hP:Ef P dJ G){tb:List (Nat×O)}{L:List mI}{E:List kc}(h:aZ P tb L E){e:kc}(he:e.ok G (zO (Ng tb L E) dJ fuel d)=true):aZ P tb L (e::E):=
 ⟨h.p,fun e' hm=>by
  rcases ku.1 hm with rfl|hm
  ·exact Ybq (RN hP.m hP.e hP.t h.call fuel d) (by rw[hP.g];exact he)
  ·exact h.e e' hm⟩
def Ymg(tb:List (Nat×O))(G:Nat)(dJ:Nat->Option lA)(L:List mI)(E:List kc):Bool:=match L with
 |[]=>false
 |e::t=>e.ok tb G (zO (Ng tb t E) dJ 5000 40)
def Yfo(tb:List (Nat×O))(G:Nat)(dJ:Nat->Option lA)(L:List mI)(E:List kc):Bool:=match E with
 |[]=>false
 |e::t=>e.ok G (zO (Ng tb L t) dJ 5000 40)
def aZ.p1{P:Program}{dJ:Nat->Option lA}{G:Nat}(hP:Ef P dJ G){tb:List (Nat×O)}{L:List mI}{E:List kc}(h:aZ P tb L.tail E)(he:Ymg tb G dJ L E=true):aZ P tb L E:=by
 cases L with
 |nil=>exact h
 |cons e t=>exact aZ.Yw hP h he
def aZ.e1{P:Program}{dJ:Nat->Option lA}{G:Nat}(hP:Ef P dJ G){tb:List (Nat×O)}{L:List mI}{E:List kc}(h:aZ P tb L E.tail)(he:Yfo tb G dJ L E=true):aZ P tb L E:=by
 cases E with
 |nil=>exact h
 |cons e t=>exact aZ.Yx hP h he
section
variable {call:cH} {f:Nat} {ro:Option Nat} {a b c:bN} {fr:Fr} {st:St}
end
def Ys0{a b:Nat}:Nat.blt a b=decide (a<b):=by
 cases h:Nat.blt a b
 ·symm;simp only[decide_eq_false_iff_not];intro hc;rw[show Nat.blt a b=true from QW hc]at h;cases h
 ·symm;simp only[decide_eq_true_eq];exact CP (vU h)
def Ys1{a b:Nat}:Nat.ble a b=decide (a<=b):=by
 cases h:Nat.ble a b
 ·symm;simp only[decide_eq_false_iff_not];intro hc;rw[QW hc]at h;cases h
 ·symm;simp only[decide_eq_true_eq];exact vU h
def cE{n:Int}(h1: -9223372036854775808<=n)(h2:n<9223372036854775808):bh .i64 n=n:=by
 rw[AB]
 simp[IntKind.wrap,IntKind.bits,IntKind.signed]
 omega
def Ybf{k a b}:rN .add k a b=some (.int k (bh k (a+b))):=rfl
def Ya4{k a b}:rN .sub k a b=some (.int k (bh k (a-b))):=rfl
def Ya9{k a b}:rN .mul k a b=some (.int k (bh k (a*b))):=rfl
def Ya7{k a b}(h:¬b=0):rN .quo k a b=some (.int k (bh k (a.tdiv b))):=by simp[rN,h]
def Ya6{k a b}(h:¬b=0):rN .rem k a b=some (.int k (a.tmod b)):=by simp[rN,h]
def Ybe{k a b}:rN .eql k a b=some (.bool (a==b)):=rfl
def Ya8{k a b}:rN .neq k a b=some (.bool (a !=b)):=rfl
def Yba{k a b}:rN .lss k a b=some (.bool (decide (a<b))):=rfl
def Ybb{k a b}:rN .leq k a b=some (.bool (decide (a<=b))):=rfl
def Ybc{k a b}:rN .gtr k a b=some (.bool (decide (a > b))):=rfl
def Ybd{k a b}:rN .geq k a b=some (.bool (decide (a≥b))):=rfl
def Ypa(x):cv (.jF x)=Hd x:=rfl
def Yjj(a b c):cv (.pick a b c)=ES a b c:=rfl
def Yer(a b):cv (.alloc a b)=JU a b:=rfl
def Ype(a b):cv (.box a b)=He a b:=rfl
def Yeq(a b):cv (.build a b)=CZ a b:=rfl
def Yan(a b c d e):cv (.eh a b c d e)=Hf a b c d e:=rfl
def Yjk(a b):cv (.load a b)=Hg a b:=rfl
def Yei(a b c):cv (.store a b c)=ET a b c:=rfl
def Yek(a):cv (.oH a)=Hh a:=rfl
def Ypf(a b c d e):cv (.bin a b c d e)=Hi a b c d e:=rfl
def Ys3(a b):cv (.un a b)=Hj a b:=rfl
def Zwi(a b):cv (.cR a b)=Hk a b:=rfl
def Yag(a b c):cv (.oK a b c)=Hm a b c:=rfl
def Yen(a b):cv (.i_ a b)=Hn a b:=rfl
def Yem(a b c):cv (.field a b c)=Ho a b c:=rfl
def Zty(a b c d):cv (.h_ a b c d)=C1 a b c d:=rfl
def Zwf(a b c):cv (.dh a b c)=EW a b c:=rfl
def Zwg(a b):cv (.extract a b)=Hs a b:=rfl
def Ypb(a b):cv (.len a b)=yS a b:=rfl
def Yjm(a b):cv (.call a b)=zH a b:=rfl
structure Yuh (r:Option (V×St)) (v:V):Prop where
 ex:∃s,r=some (v,s)/\s.w=[]
def Ybj{u v:V}{s:St}:Yuh (some (u,s)) v↔u=v/\s.w=[]:=
 ⟨fun ⟨_,h1,h2⟩=>by simp only[an,bs]at h1;exact⟨h1.1,h1.2▸h2⟩,fun ⟨h1,h2⟩=>⟨s,by rw[h1],h2⟩⟩
attribute [simp]
 Ypa Yjj Yer Ype Yeq Yan Yjk Yei Yek Ypf Ys3 Zwi Yag Yen Yem Zty Zwf Zwg Ypb Yjm
 Hd ES JU He CZ Hf Hg Hh Hi Hj Hk Hm Hn Ho C1 Hs zH
 zJ bU Src.ev T.ag fB Fa ar WJ Ybf Ya4 Ya9 Ya7 Ya6 Ybe Ya8 Yba Ybb Ybc Ybd gE WK uX aB BV BU aR V.cells V.one St.alloc St.write St.row cE Ys0 Ys1 vZ pH gm.oM Q3 jK cn cn.go cn.cr FP.free C4 Nat.testBit Ybj base
end Go.Mx

