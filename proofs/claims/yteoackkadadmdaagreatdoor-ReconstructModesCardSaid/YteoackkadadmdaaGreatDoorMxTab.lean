/-Calls that are known-/
import Derived.Test.YteoackkadadmdaaGreatDoorMxDraw3
import Derived.Test.YteoackkadadmdaaGreatDoorMxFrame
import Derived.Below
import Derived.CallsIn
set_option linter.all false
namespace Go.Mx
open Go
variable {G i:Nat} {P:Program}
def Ln:Bool->Bool->Bool
 |true,b=>b
 |false,true=>false
 |false,false=>true
def Pn:IntKind->Nat
 |.i8=>0|.i16=>1|.i32=>2|.i64=>3|.u8=>4|.u16=>5|.u32=>6|.u64=>7
def Vu:Int->Int->Bool
 |.ofNat a,b=>match b with
  |.ofNat b=>Nat.beq a b
  |.negSucc _=>false
 |.negSucc a,b=>match b with
  |.ofNat _=>false
  |.negSucc b=>Nat.beq a b
def GC:List UInt8->List UInt8->Bool
 |[],l=>match l with
  |[]=>true
  |_::_=>false
 |a::xs,l=>match l with
  |[]=>false
  |b::ys=>match Nat.beq a.toNat b.toNat with
   |true=>GC xs ys
   |false=>false
def Lo:Option Nat->Option Nat->Bool
 |none,b=>match b with
  |none=>true
  |some _=>false
 |some a,b=>match b with
  |none=>false
  |some b=>Nat.beq a b
def Vv{a b:Bool}(h:Ln a b=true):a=b:=by cases a<;>cases b<;>simp_all [Ln]
def jA{a b:Nat}(h:Nat.beq a b=true):a=b:=Ou h
def Ynz{a b:IntKind}(h:Nat.beq (Pn a) (Pn b)=true):a=b:=by cases a<;>cases b<;>first|rfl|(exact absurd h (by decide))
def Yij{a b:Int}(h:Vu a b=true):a=b:=by
 cases a<;>cases b<;>simp only[Vu,fF]at h
 ·rw[jA h]
 ·rw[jA h]
def Vw:∀{a b:List UInt8},GC a b=true->a=b
 |[],[],_=>rfl
 |[],_::_,h=>by simp[GC]at h
 |_::_,[],h=>by simp[GC]at h
 |a::xs,b::ys,h=>by
  simp only[GC]at h
  split at h
  ·rename_i e
   rw[Vw h,UInt8.toNat_inj.1 (jA e)]
  ·cases h
def Vx{a b:Option Nat}(h:Lo a b=true):a=b:=by
 cases a<;>cases b<;>simp only[Lo,fF]at h
 ·rfl
 ·rw[jA h]
def Po:FloatKind->Nat
 |.f32=>0|.f64=>1
def Yn7{a b:FloatKind}(h:Nat.beq (Po a) (Po b)=true):a=b:=by cases a<;>cases b<;>first|rfl|(exact absurd h (by decide))
def V.isBool(x:Bool):V->Bool|.bool y=>Ln x y|_=>false
def V.isInt(k:IntKind)(n:Int):V->Bool|.int k' n'=>(match Nat.beq (Pn k) (Pn k')with|true=>Vu n n'|false=>false)|_=>false
def V.Ef(k:FloatKind)(n:Nat):V->Bool|.uB k' n'=>(match Nat.beq (Po k) (Po k')with|true=>Nat.beq n n'|false=>false)|_=>false
def V.isStr(s:List UInt8):V->Bool|.str t=>GC s t|_=>false
def V.tg:V->Bool|.bN=>true|_=>false
def V.Eg(i o:Nat):V->Bool|.ptr i' o'=>(match Nat.beq i i' with|true=>Nat.beq o o'|false=>false)|_=>false
def V.nU:V->Bool|.aa=>true|_=>false
def V.isSlice(i o l:Nat)(c:Option Nat)(z:Nat):V->Bool|.slice i' o' l' c' z'=>Nat.beq i i'&&Nat.beq o o'&&Nat.beq l l'&&Lo c c'&&Nat.beq z z'|_=>false
def V.isEmpty:V->Bool|.empty=>true|_=>false
def V.th:V->Bool|.bW=>true|_=>false
def V.Eh(i:Nat):V->Bool|.map j=>Nat.beq i j|_=>false
def V.pP:V->Bool|.bZ=>true|_=>false
def V.isChan(i:Nat):V->Bool|.chan j=>Nat.beq i j|_=>false
def V.xd(i:Nat):V->Bool|.yield j=>Nat.beq i j|_=>false
def V.pQ:V->Bool|.bs=>true|_=>false
def V.nV:V->Bool|.aY=>true|_=>false
mutual
def V.beq:V->V->Bool
 |.bool x,b=>b.isBool x
 |.int k n,b=>b.isInt k n
 |.uB k n,b=>b.Ef k n
 |.str s,b=>b.isStr s
 |.bN,b=>b.tg
 |.ptr i o,b=>b.Eg i o
 |.aa,b=>b.nU
 |.slice i o l c z,b=>b.isSlice i o l c z
 |.empty,b=>b.isEmpty
 |.bW,b=>b.th
 |.map i,b=>b.Eh i
 |.bZ,b=>b.pP
 |.chan i,b=>b.isChan i
 |.func f a c,b=>match b with
  |.func f' a' c'=>Nat.beq f f'&&V.iG a a'&&V.iG c c'
  |_=>false
 |.yield i,b=>b.xd i
 |.bs,b=>b.pQ
 |.iface t v,b=>match b with
  |.iface t' v'=>Nat.beq t t'&&V.beq v v'
  |_=>false
 |.aY,b=>b.nV
 |.agg l,b=>match b with
  |.agg l'=>V.iG l l'
  |_=>false
 |.bg l,b=>match b with
  |.bg l'=>V.iG l l'
  |_=>false
def V.iG:List V->List V->Bool
 |[],l=>match l with
  |[]=>true
  |_::_=>false
 |a::xs,l=>match l with
  |[]=>false
  |b::ys=>match V.beq a b with
   |true=>V.iG xs ys
   |false=>false
end
mutual
def V.beq_eq:∀(a b:V),V.beq a b=true->a=b
 |.bool x,b,h=>by cases b<;>simp only[V.beq,V.isBool,fF]at h;rw[Vv h]
 |.int k n,b,h=>by
  cases b<;>simp only[V.beq,V.isInt,fF]at h
  split at h
  ·rename_i e;rw[Ynz e,Yij h]
  ·cases h
 |.uB k n,b,h=>by
  cases b<;>simp only[V.beq,V.Ef,fF]at h
  split at h
  ·rename_i e;rw[Yn7 e,jA h]
  ·cases h
 |.str s,b,h=>by cases b<;>simp only[V.beq,V.isStr,fF]at h;rw[Vw h]
 |.bN,b,h=>by cases b<;>simp only[V.beq,V.tg,fF]at h;rfl
 |.ptr i o,b,h=>by
  cases b<;>simp only[V.beq,V.Eg,fF]at h
  split at h
  ·rename_i e;rw[jA e,jA h]
  ·cases h
 |.aa,b,h=>by cases b<;>simp only[V.beq,V.nU,fF]at h;rfl
 |.slice i o l c z,b,h=>by
  cases b<;>simp only[V.beq,V.isSlice,fF,ib]at h
  obtain⟨⟨⟨⟨h1,h2⟩,h3⟩,h4⟩,h5⟩:=h
  rw[jA h1,jA h2,jA h3,Vx h4,jA h5]
 |.empty,b,h=>by cases b<;>simp only[V.beq,V.isEmpty,fF]at h;rfl
 |.bW,b,h=>by cases b<;>simp only[V.beq,V.th,fF]at h;rfl
 |.map i,b,h=>by cases b<;>simp only[V.beq,V.Eh,fF]at h;rw[jA h]
 |.bZ,b,h=>by cases b<;>simp only[V.beq,V.pP,fF]at h;rfl
 |.chan i,b,h=>by cases b<;>simp only[V.beq,V.isChan,fF]at h;rw[jA h]
 |.func f a c,b,h=>by
  cases b<;>simp only[V.beq,fF,ib]at h
  obtain⟨⟨h1,h2⟩,h3⟩:=h
  rw[jA h1,V.dk _ _ h2,V.dk _ _ h3]
 |.yield i,b,h=>by cases b<;>simp only[V.beq,V.xd,fF]at h;rw[jA h]
 |.bs,b,h=>by cases b<;>simp only[V.beq,V.pQ,fF]at h;rfl
 |.iface t v,b,h=>by
  cases b<;>simp only[V.beq,fF,ib]at h
  rw[jA h.1,V.beq_eq _ _ h.2]
 |.aY,b,h=>by cases b<;>simp only[V.beq,V.nV,fF]at h;rfl
 |.agg l,b,h=>by cases b<;>simp only[V.beq,fF]at h;rw[V.dk _ _ h]
 |.bg l,b,h=>by cases b<;>simp only[V.beq,fF]at h;rw[V.dk _ _ h]
def V.dk:∀(a b:List V),V.iG a b=true->a=b
 |[],[],_=>rfl
 |[],_::_,h=>by simp[V.iG]at h
 |_::_,[],h=>by simp[V.iG]at h
 |a::xs,b::ys,h=>by
  simp only[V.iG]at h
  split at h
  ·rename_i e;rw[V.beq_eq a b e,V.dk xs ys h]
  ·cases h
end
def I4:List (V×V)->List (V×V)->Bool
 |[],l=>match l with
  |[]=>true
  |_::_=>false
 |(k,v)::xs,l=>match l with
  |[]=>false
  |(k',v')::ys=>V.beq k k'&&V.beq v v'&&I4 xs ys
def Yej:∀{a b:List (V×V)},I4 a b=true->a=b
 |[],[],_=>rfl
 |[],_::_,h=>by simp[I4]at h
 |_::_,[],h=>by simp[I4]at h
 |(k,v)::xs,(k',v')::ys,h=>by
  simp only[I4,ib]at h
  rw[V.beq_eq _ _ h.1.1,V.beq_eq _ _ h.1.2,Yej h.2]
def O.beq:O->O->Bool
 |.cells c e rw,b=>match b with
  |.cells c' e' oC=>Nat.beq e e'&&Ln rw oC&&V.iG c c'
  |_=>false
 |.map es,b=>match b with
  |.map gJ=>I4 es gJ
  |_=>false
 |.chan cap buf,b=>match b with
  |.chan cap' BJ=>Nat.beq cap cap'&&V.iG buf BJ
  |_=>false
 |.ew s pos,b=>match b with
  |.ew s' pos'=>GC s s'&&Nat.beq pos pos'
  |_=>false
 |.defs o,b=>match b with
  |.defs o'=>Ln o o'
  |_=>false
 |.loop _,_=>false
 |.dead,b=>match b with
  |.dead=>true
  |_=>false
def O.beq_eq{a b:O}(h:O.beq a b=true):a=b:=by
 cases a<;>simp only[O.beq,fF]at h<;>cases b<;>simp only[fF,ib]at h
 ·obtain⟨⟨h1,h2⟩,h3⟩:=h;rw[jA h1,Vv h2,V.dk _ _ h3]
 ·rw[Yej h]
 ·rw[jA h.1,V.dk _ _ h.2]
 ·rw[Vw h.1,jA h.2]
 ·rw[Vv h]
 ·rfl
def IH:Option O->O->Bool
 |some a,b=>O.beq a b
 |none,_=>false
def Vy{a:Option O}{b:O}(h:IH a b=true):a=some b:=by
 cases a with
 |none=>cases h
 |some a=>rw[O.beq_eq h]
def vEq:Option V->V->Bool
 |some a,b=>V.beq a b
 |none,_=>false
def Ypy{a:Option V}{b:V}(h:vEq a b=true):a=some b:=by
 cases a with
 |none=>cases h
 |some a=>rw[V.beq_eq _ _ h]
def Pp:Option (List V)->List V->Bool
 |some a,b=>V.iG a b
 |none,_=>false
def Vz{a:Option (List V)}{b:List V}(h:Pp a b=true):a=some b:=by
 cases a with
 |none=>cases h
 |some a=>rw[V.dk _ _ h]
mutual
def V.free:V->Bool
 |.ptr ..|.slice ..|.map _|.chan _|.yield _=>false
 |.func _ a c=>V.jB a&&V.jB c
 |.iface _ v=>V.free v
 |.agg l=>V.jB l
 |.bg l=>V.jB l
 |_=>true
def V.jB:List V->Bool
 |[]=>true
 |v::vs=>V.free v&&V.jB vs
end
mutual
def V.jC{ρ:Nat->Option Nat}:∀(v:V),V.free v=true->V.cg ρ v=some v
 |.bool _,_=>rfl
 |.int _ _,_=>rfl
 |.uB _ _,_=>rfl
 |.str _,_=>rfl
 |.bN,_=>rfl
 |.ptr _ _,h=>by simp[V.free]at h
 |.aa,_=>rfl
 |.slice _ _ _ _ _,h=>by simp[V.free]at h
 |.empty,_=>rfl
 |.bW,_=>rfl
 |.map _,h=>by simp[V.free]at h
 |.bZ,_=>rfl
 |.chan _,h=>by simp[V.free]at h
 |.func f a c,h=>by
  simp only[V.free,ib]at h
  simp only[V.cg,V.dM a h.1,V.dM c h.2]
 |.yield _,h=>by simp[V.free]at h
 |.bs,_=>rfl
 |.iface t v,h=>by
  simp only[V.free]at h
  simp only[V.cg,V.jC v h]
 |.aY,_=>rfl
 |.agg l,h=>by
  simp only[V.free]at h
  simp only[V.cg,V.dM l h]
 |.bg l,h=>by
  simp only[V.free]at h
  simp only[V.cg,V.dM l h]
def V.dM{ρ:Nat->Option Nat}:∀(l:List V),V.jB l=true->V.eg ρ l=some l
 |[],_=>rfl
 |v::vs,h=>by
  simp only[V.jB,ib]at h
  simp only[V.eg,V.jC v h.1,V.dM vs h.2]
end
def yD:Nat->T O
 |0=>.nil
 |n+1=>(yD n).set n .dead
def Pq:∀(n i:Nat),i<n->(yD n).get i=some .dead
 |0,i,h=>by omega
 |n+1,i,h=>by
  simp only[yD,T.ag]
  by_cases e:i=n
  ·rw[aF e]
  ·rw[ar e];exact Pq n i (by omega)
def base(G:Nat):St:=⟨yD G,G,[]⟩
def lk:List (Nat×O)->Nat->Option O
 |[],_=>none
 |(j,o)::l,i=>match Nat.beq j i with
  |true=>some o
  |false=>lk l i
def ti(h:T O):List (Nat×O)->T O
 |[]=>h
 |(j,o)::l=>(ti h l).set j o
def Ba(h:T O):∀(l:List (Nat×O)) (i:Nat),(ti h l).get i=match lk l i with|some o=>some o|none=>h.get i
 |[],i=>rfl
 |(j,o)::l,i=>by
  simp only[ti,T.ag,lk]
  by_cases e:i=j
  ·subst e
   rw[aF rfl,Nat.beq_refl _]
  ·rw[ar e]
   have:Nat.beq j i=false:=by
    cases hb:Nat.beq j i with
    |false=>rfl
    |true=>exact absurd (Ou hb).symm e
   rw[this]
   exact Ba h l i
def Lp:∀{l:List (Nat×O)} {i:Nat} {o:O},lk l i=some o->(i,o)∈l
 |(j,o')::l,i,o,h=>by
  simp only[lk]at h
  split at h
  ·rename_i e
   have:=jA e
   simp only[al]at h
   subst h;subst this;exact pn
  ·exact o9 _ (Lp h)
def Ydm:∀{l:List (Nat×O)} {i:Nat},lk l i=none->∀p∈l,p.1≠i
 |[],_,_,p,hp=>by cases hp
 |(j,o')::l,i,h,p,hp=>by
  simp only[lk]at h
  split at h
  ·cases h
  ·rename_i e
   rcases kv.1 hp with rfl|hp
   ·intro hc
    simp only at hc
    subst hc
    have:Nat.beq j j=true:=Nat.beq_refl _
    rw[this]at e;cases e
   ·exact Ydm h p hp
def Ynp{l:List (Nat×O)}{i:Nat}{o:O}(h:(i,o)∈l):∃o',lk l i=some o':=by
 cases hc:lk l i with
 |some o'=>exact⟨o',rfl⟩
 |none=>exact absurd rfl (Ydm hc _ h)
def EW(i:Nat):List Nat->Bool
 |[]=>false
 |j::l=>match Nat.beq j i with
  |true=>true
  |false=>EW i l
def JG{i:Nat}:∀{l:List Nat},EW i l=true↔i∈l
 |[]=>by simp[EW]
 |j::l=>by
  simp only[EW]
  split
  ·rename_i e;simp[jA e]
  ·rename_i e
   have:i≠j:=by
    rintro rfl
    have:Nat.beq i i=true:=Nat.beq_refl _
    rw[this]at e;cases e
   simp[JG,this]
structure mb where
 f:Nat
 args:List V
 v:V
def O.VA:O->Bool
 |.cells c _ false=>V.jB c
 |_=>false
def Lq(G:Nat):List (Nat×O)->Bool
 |[]=>true
 |(i,o)::l=>Nat.blt i G&&o.VA&&Lq G l
def O.Cu{ρ:Nat->Option Nat}{o:O}(h:o.VA=true):o.cg ρ=some o:=by
 cases o with
 |cells c e rw=>
  cases rw with
  |true=>cases h
  |false=>simp only[O.cg,V.dM c h]
 |_=>cases h
def VB{G:Nat}:∀{l:List (Nat×O)},Lq G l=true->∀{i:Nat} {o:O},lk l i=some o->i<G/\o.VA=true
 |(j,o')::l,h,i,o,ho=>by
  simp only[Lq,ib]at h
  simp only[lk]at ho
  split at ho
  ·rename_i e
   simp only[al]at ho
   rw[<-jA e,<-ho]
   exact⟨BN (uF h.1.1),h.1.2⟩
  ·exact VB h.2 ho
def Ei(G:Nat)(tb:List (Nat×O)):St:=⟨ti (yD G) tb,G,[]⟩
def DO(S:St):List (Nat×O)->Bool
 |[]=>true
 |(i,o)::l=>match IH (S.h.get i) o with
  |true=>DO S l
  |false=>false
def VC{S:St}:∀{l:List (Nat×O)},DO S l=true->∀p∈l,S.h.get p.1=some p.2
 |[],_,p,hp=>by cases hp
 |(i,o)::l,h,p,hp=>by
  simp only[DO]at h
  split at h
  ·rename_i e
   rcases kv.1 hp with rfl|hp
   ·exact Vy e
   ·exact VC h p hp
  ·cases h
def mb.ok(e:mb)(tb:List (Nat×O))(G:Nat)(call:cG):Bool:=
 match call (.func e.f [] []) e.args (Ei G tb)with
 |some (v,s)=>match s.w with
  |[]=>V.beq v e.v&&V.free e.v&&V.jB e.args&&Nat.ble G s.n&&Lq G tb
  |_=>false
 |none=>false
def VD(P:Program)(tb:List (Nat×O))(e:mb):Prop:=∀S,DO S tb=true->IJ P (.func e.f [] []) e.args S e.v S
def mb.pure{call:cG}(hc:ji P call){tb:List (Nat×O)}{e:mb}(h:e.ok tb P.globals.size call=true):VD P tb e:=by
 unfold mb.ok at h
 split at h
 ·rename_i v s cj
  split at h
  ·rename_i hw
   simp only[ib]at h
   obtain⟨⟨⟨⟨h1,h2⟩,h3⟩,h4⟩,h5⟩:=h
   have hv:=V.beq_eq _ _ h1
   subst hv
   intro S eJ μ w Gv xs hh hG hx
   have eJ:=VC eJ
   have hn:P.globals.size<=S.n:=by
    apply yp
    intro ay
    obtain⟨t,ht⟩:=hh.gK S.n ay
    have:=(hh.df _ _ ht).1
    omega
   have F:Gl P (fun i=>if i<P.globals.size then some i else none) (fun i=>if i<P.globals.size then some i else none) [] (Ei P.globals.size tb) s S S:={
    df:=fun i i' hi=>by
     split at hi
     ·rename_i ay;simp only[al]at hi;subst hi
      exact⟨ay,by omega⟩
     ·cases hi
    inj:=fun i j i' hi hj=>by
     split at hi<;>split at hj<;>simp_all
    gK:=fun g hg=>by simp[hg]
    obj:=fun i i' hi=>by
     split at hi
     ·rename_i ay
      simp only[al]at hi;subst hi
      cases hl:lk tb i with
      |some o=>
       refine⟨o,o,?_,.inr (.inl (O.Cu (VB h5 hl).2)),.inl (eJ _ (Lp hl))⟩
       show (ti (yD P.globals.size) tb).get i=_
       rw[Ba,hl]
      |none=>
       refine⟨.dead,.dead,?_,.inl rfl,.inr rfl⟩
       show (ti (yD P.globals.size) tb).get i=_
       rw[Ba,hl]
       exact Pq _ _ ay
     ·cases hi
    old:=fun _ _=>rfl
    new:=fun i i' hi hr=>by
     have:P.globals.size<=i:=hi
     rw[ar (by omega)]at hr;cases hr
    Gm:=fun i j i' hi _ hr _=>by
     have:P.globals.size<=i:=hi
     rw[ar (by omega)]at hr;cases hr
    full:=fun i' h1 h2=>by omega
    fi:=aW _
    w0:=rfl
    W1:=fun i i' hi _=>by rw[hw]at hi;cases hi
    W2:=fun j hj=>by cases hj
    wl:=rfl
    ae:=fun _ _ _=>rfl
    wr:=fun i i' hi _=>by rw[hw]at hi;cases hi
    UF:=fun i i' hi hr=>by
     have:P.globals.size<=i:=hi
     rw[ar (by omega)]at hr;cases hr}
   exact(IJ.frame (hc _ _ _ _ _ cj) F (V.jC _ (by rfl)) (V.dM _ h3) (V.jC _ h2)) μ w Gv xs hh hG hx
  ·cases h
 ·cases h
def IG:List mb->Nat->List V->Option V
 |[],_,_=>none
 |e::l,f,args=>match Nat.beq e.f f with
  |true=>match V.iG e.args args with
   |true=>some e.v
   |false=>IG l f args
  |false=>IG l f args
def IF(tb:List (Nat×O))(l:List mb):cG
 |.func f [] [],args,st=>match IG l f args with
  |some v=>match DO st tb with
   |true=>some (v,st)
   |false=>none
  |none=>none
 |_,_,_=>none
def VE:∀{l:List mb} {f:Nat} {args:List V} {v:V},IG l f args=some v->∃e∈l,e.f=f/\e.args=args/\e.v=v
 |[],_,_,_,h=>by cases h
 |e::l,f,args,v,h=>by
  simp only[IG]at h
  split at h
  ·rename_i e1
   split at h
   ·rename_i e2
    simp only[al]at h
    exact⟨e,pn,jA e1,V.dk _ _ e2,h⟩
   ·obtain⟨e',h1,h2⟩:=VE h;exact⟨e',o9 _ h1,h2⟩
  ·obtain⟨e',h1,h2⟩:=VE h;exact⟨e',o9 _ h1,h2⟩
def Y6{tb:List (Nat×O)}{l:List mb}(h:∀e∈l,VD P tb e):ji P (IF tb l):=by
 intro g args st v aB hc
 unfold IF at hc
 split at hc
 ·rename_i f
  split at hc
  ·rename_i u hu
   split at hc
   ·rename_i hp
    simp only[al,bF]at hc
    obtain⟨rfl,rfl⟩:=hc
    obtain⟨e,h1,rfl,rfl,rfl⟩:=VE hu
    exact h e h1 st hp
   ·cases hc
  ·cases hc
 ·cases hc
structure jO where
 f:Nat
 first:List V
 fY:List V
 args:List V
 part:List (Nat×O)
 n:Nat
 v:V
 kept:List (Nat×O)
 Bb:List (Nat×O)
def jO.st(e:jO)(G:Nat):St:=⟨ti (yD G) e.part,e.n,[]⟩
def sig(G:Nat)(part:List (Nat×O))(i:Nat):Option Nat:=
 match Nat.blt i G with
 |true=>some i
 |false=>match lk part i with
  |some _=>some i
  |none=>none
def idx(i:Nat):List (Nat×O)->Nat->Option Nat
 |[],_=>none
 |(k,_)::l,m=>match Nat.beq k i with
  |true=>some m
  |false=>idx i l (m+1)
def Cv(G:Nat)(part:List (Nat×O))(n:Nat)(kept:List (Nat×O))(i:Nat):Option Nat:=
 match Nat.blt i n with
 |true=>sig G part i
 |false=>idx i kept n
def Cw:List (Nat×O)->Nat->List (Nat×O)
 |[],_=>[]
 |(_,o)::l,m=>(m,o)::Cw l (m+1)
def I5(ρ:Nat->Option Nat)(s:St)(i:Nat)(o':O):Bool:=
 match s.h.get i with
 |some o=>match o' with
  |.dead=>true
  |o'=>IH (o.cg ρ) o'
 |none=>false
def Pr(ρ:Nat->Option Nat)(s:St)(n:Nat):List (Nat×O)->Nat->Bool
 |[],_=>true
 |(k,o)::l,m=>Lo (ρ k) (some m)&&Nat.ble n k&&Nat.blt k s.n&&I5 ρ s k o&&Pr ρ s n l (m+1)
def jO.cB(e:jO)(G:Nat)(v:V)(s:St):Bool:=
 Nat.ble G e.n&&Nat.ble e.n s.n&&(e.part.all fun p=>Nat.blt p.1 e.n&&IH (p.2.cg (sig G e.part)) p.2)&&
 Pp (V.eg (sig G e.part) e.first) e.first&&Pp (V.eg (sig G e.part) e.fY) e.fY&&Pp (V.eg (sig G e.part) e.args) e.args&&
 vEq (V.cg (Cv G e.part e.n e.kept) v) e.v&&
 Pr (Cv G e.part e.n e.kept) s e.n e.kept e.n&&
 (s.w.all fun i=>match sig G e.part i with|some _=>EW i (e.Bb.map (·.1))|none=>true)&&
 (e.Bb.all fun p=>EW p.1 s.w&&Lo (sig G e.part p.1) (some p.1)&&I5 (Cv G e.part e.n e.kept) s p.1 p.2)
def jO.ok(e:jO)(G:Nat)(call:cG):Bool:=
 match call (.func e.f e.first e.fY) e.args (e.st G)with
 |some (v,s)=>e.cB G v s
 |none=>false
def jO.out(e:jO)(S:St):St:=⟨ti (ti S.h e.Bb) (Cw e.kept e.n),e.n+e.kept.length,e.Bb.map (·.1)++S.w⟩
def Lr(e:jO):cG
 |.func f a c,args,S=>match Nat.beq e.f f with
  |true=>match V.iG e.args args&&V.iG e.first a&&V.iG e.fY c&&Nat.beq S.n e.n&&DO S e.part with
   |true=>some (e.v,e.out S)
   |false=>none
  |false=>none
 |_,_,_=>none
def Ls{i:Nat}:∀{l:List (Nat×O)} {m i':Nat},idx i l m=some i'->m<=i'/\i'<m+l.length/\∃o,l[i'-m]?=some (i,o)
 |[],m,i',h=>by cases h
 |(k,o)::l,m,i',h=>by
  simp only[idx]at h
  split at h
  ·rename_i e
   simp only[al]at h;subst h
   have:=jA e;subst this
   exact⟨aW _,by simp,o,by simp⟩
  ·obtain⟨h1,h2,o',h3⟩:=Ls h
   refine⟨by omega,by simp;omega,o',?_⟩
   rw[show i'-m=(i'-(m+1))+1 by omega]
   simpa using h3
def Zpv:∀{l:List (Nat×O)} {m j:Nat} {p:Nat×O},l[j]?=some p->lk (Cw l m) (m+j)=some p.2
 |[],m,j,p,h=>by simp at h
 |(k,o)::l,m,0,p,h=>by
  simp at h;subst h
  simp[Cw,lk]
 |(k,o)::l,m,j+1,p,h=>by
  simp only[Cw,lk]
  have:Nat.beq m (m+(j+1))=false:=by
   cases hb:Nat.beq m (m+(j+1))with
   |false=>rfl
   |true=>have:=jA hb;omega
  rw[this,show m+(j+1)=(m+1)+j by omega]
  exact Zpv (by simpa using h)
def Zlv:∀{l:List (Nat×O)} {m i:Nat},i<m->lk (Cw l m) i=none
 |[],_,_,_=>rfl
 |(k,o)::l,m,i,h=>by
  simp only[Cw,lk]
  have:Nat.beq m i=false:=by
   cases hb:Nat.beq m i with
   |false=>rfl
   |true=>have:=jA hb;omega
  rw[this]
  exact Zlv (by omega)
def Zp1{ρ:Nat->Option Nat}{s:St}{n:Nat}:∀{l:List (Nat×O)} {m:Nat},Pr ρ s n l m=true->∀{j:Nat} {p:Nat×O},l[j]?=some p->ρ p.1=some (m+j)/\n<=p.1/\p.1<s.n/\I5 ρ s p.1 p.2=true
 |[],m,_,j,p,h=>by simp at h
 |(k,o)::l,m,h,j,p,hj=>by
  simp only[Pr,ib]at h
  obtain⟨⟨⟨⟨h1,h2⟩,h3⟩,h4⟩,h5⟩:=h
  cases j with
  |zero=>
   simp at hj;subst hj
   exact⟨Vx h1,uF h2,BN (uF h3),h4⟩
  |succ j=>
   obtain⟨q1,q2⟩:=Zp1 h5 (j:=j) (by simpa using hj)
   exact⟨by rw[q1];congr 1;omega,q2⟩
def Zpu{ρ:Nat->Option Nat}{s:St}{o':O}(h:I5 ρ s i o'=true):∃o,s.h.get i=some o/\(o'=.dead\/o.cg ρ=some o'):=by
 unfold I5 at h
 split at h
 ·rename_i o ho
  refine⟨o,ho,?_⟩
  split at h
  ·exact .inl rfl
  ·exact .inr (Vy h)
 ·cases h
def I6{part:List (Nat×O)}{i':Nat}(h:sig G part i=some i'):i'=i/\(i<G\/∃o,lk part i=some o):=by
 unfold sig at h
 split at h
 ·rename_i e
  simp only[al]at h
  exact⟨h.symm,.inl (BN (uF e))⟩
 ·split at h
  ·rename_i o ho
   simp only[al]at h
   exact⟨h.symm,.inr ⟨o,ho⟩⟩
  ·cases h
def Yad{call:cG}(cj:ji P call){e:jO}(h:e.ok P.globals.size call=true):ji P (Lr e):=by
 intro g args S v S' hc
 unfold Lr at hc
 split at hc
 ·rename_i f a c
  split at hc
  ·rename_i hf
   have hf:=jA hf
   subst hf
   split at hc
   ·rename_i cM
    simp only[ib]at cM
    obtain⟨⟨⟨⟨c1,c2⟩,c3⟩,c4⟩,c5⟩:=cM
    have c1:=V.dk _ _ c1
    have c2:=V.dk _ _ c2
    have c3:=V.dk _ _ c3
    have c4:=jA c4
    have c5:=VC c5
    simp only[al,bF]at hc
    obtain⟨rfl,rfl⟩:=hc
    subst c1;subst c2;subst c3
    unfold jO.ok at h
    split at h
    ·rename_i v0 s bX
     unfold jO.cB at h
     simp only[ib,lA]at h
     obtain⟨⟨⟨⟨⟨⟨⟨⟨⟨k1,k2⟩,k3⟩,k4⟩,k5⟩,k6⟩,k7⟩,k8⟩,k9⟩,k10⟩:=h
     have k1:=uF k1
     have k2:=uF k2
     have eJ:∀i o,lk e.part i=some o->i<e.n/\o.cg (sig P.globals.size e.part)=some o/\S.h.get i=some o:=fun i o ho=>by
      have hm:=Lp ho
      obtain⟨q1,q2⟩:=k3 _ hm
      exact⟨BN (uF q1),Vy q2,c5 _ hm⟩
     have Ps:∀i,e.n<=i->Cv P.globals.size e.part e.n e.kept i=idx i e.kept e.n:=fun i hi=>by
      unfold Cv
      have:Nat.blt i e.n=false:=by
       cases hb:Nat.blt i e.n with
       |false=>rfl
       |true=>have:=BN (uF hb);omega
      rw[this]
     have zX:∀j p,e.kept[j]?=some p->Cv P.globals.size e.part e.n e.kept p.1=some (e.n+j)/\e.n<=p.1/\p.1<s.n/\I5 (Cv P.globals.size e.part e.n e.kept) s p.1 p.2=true:=fun j p hj=>Zp1 k8 hj
     have Lt:∀j,j<e.n->(e.out S).h.get j=match lk e.Bb j with|some o=>some o|none=>S.h.get j:=fun j hj=>by
      show (ti (ti S.h e.Bb) (Cw e.kept e.n)).get j=_
      rw[Ba,Zlv hj,Ba]
     have F:Gl P (sig P.globals.size e.part) (Cv P.globals.size e.part e.n e.kept) (e.Bb.map (·.1)) (e.st P.globals.size) s S (e.out S):={
      df:=fun i i' hi=>by
       obtain⟨rfl,IM⟩:=I6 hi
       have:i'<e.n:=by
        rcases IM with h|⟨o,ho⟩
        ·omega
        ·exact(eJ _ _ ho).1
       exact⟨this,by omega⟩
      inj:=fun i j i' hi hj=>by rw[<-(I6 hi).1,<-(I6 hj).1]
      gK:=fun g hg=>by
       unfold sig
       have:Nat.blt g P.globals.size=true:=Ow hg
       rw[this]
      obj:=fun i i' hi=>by
       obtain⟨rfl,IM⟩:=I6 hi
       cases hl:lk e.part i' with
       |some o=>
        obtain⟨q1,q2,q3⟩:=eJ _ _ hl
        refine⟨o,o,?_,.inr (.inl q2),.inl q3⟩
        show (ti (yD P.globals.size) e.part).get i'=_
        rw[Ba,hl]
       |none=>
        have hg:i'<P.globals.size:=by
         rcases IM with h|⟨o,ho⟩
         ·exact h
         ·rw[hl]at ho;cases ho
        refine⟨.dead,.dead,?_,.inl rfl,.inr rfl⟩
        show (ti (yD P.globals.size) e.part).get i'=_
        rw[Ba,hl]
        exact Pq _ _ hg
      old:=fun i hi=>by
       have:Nat.blt i e.n=true:=Ow hi
       unfold Cv;rw[this]
      new:=fun i i' hi hr=>by
       rw[Ps i hi]at hr
       obtain⟨q1,q2,o,q3⟩:=Ls hr
       obtain⟨_,_,r3,_⟩:=zX _ _ q3
       exact⟨by omega,q2,r3⟩
      Gm:=fun i j i' hi hj IL hrj=>by
       rw[Ps i hi]at IL
       rw[Ps j hj]at hrj
       obtain⟨_,_,o,q3⟩:=Ls IL
       obtain⟨_,_,o',Dk⟩:=Ls hrj
       rw[q3]at Dk
       cases Dk;rfl
      full:=fun i' h1 h2=>by
       have lO:i'<e.n+e.kept.length:=h2
       obtain⟨p,hp⟩:∃p,e.kept[i'-e.n]?=some p:=⟨_,cZ (by omega)⟩
       obtain⟨r1,r2,_,_⟩:=zX _ _ hp
       exact⟨p.1,r2,by rw[r1];congr 1;omega⟩
      fi:=by show S.n<=e.n+e.kept.length;omega
      w0:=rfl
      W1:=fun i i' hi hs=>by
       obtain⟨rfl,_⟩:=I6 hs
       have:=k9 _ hi
       rw[hs]at this
       exact JG.1 this
      W2:=fun j hj=>by
       obtain⟨p,hp,rfl⟩:=eM.1 hj
       obtain⟨⟨q1,q2⟩,_⟩:=k10 _ hp
       exact⟨p.1,JG.1 q1,Vx q2⟩
      wl:=rfl
      ae:=fun j hj hn=>by
       rw[Lt j (by omega)]
       cases hl:lk e.Bb j with
       |none=>rfl
       |some o=>exact absurd (eM.2 ⟨_,Lp hl,rfl⟩) hn
      wr:=fun i i' hi hs=>by
       obtain⟨rfl,IM⟩:=I6 hs
       have ay:i'<e.n:=by
        rcases IM with h|⟨o,ho⟩
        ·omega
        ·exact(eJ _ _ ho).1
       have:=k9 _ hi
       rw[hs]at this
       obtain⟨p,hp,AE⟩:=eM.1 (JG.1 this)
       obtain⟨o',wH⟩:=Ynp (l:=e.Bb) (i:=i') (o:=p.2) (by rw[<-AE];exact hp)
       obtain⟨_,q3⟩:=k10 _ (Lp wH)
       obtain⟨o,r1,r2⟩:=Zpu q3
       exact⟨o,o',r1,by rw[Lt _ ay,wH],r2⟩
      UF:=fun i i' hi hr=>by
       rw[Ps i hi]at hr
       obtain⟨q1,q2,o,q3⟩:=Ls hr
       obtain⟨_,_,_,r4⟩:=zX _ _ q3
       obtain⟨o2,t1,t2⟩:=Zpu r4
       refine⟨o2,o,t1,?_,t2⟩
       show (ti (ti S.h e.Bb) (Cw e.kept e.n)).get i'=_
       have:=Zpv (m:=e.n) q3
       rw[show e.n+(i'-e.n)=i' by omega]at this
       rw[Ba,this]}
     refine IJ.frame (cj _ _ _ _ _ bX) F ?_ (Vz k6) (Ypy k7)
     simp only[V.cg,Vz k4,Vz k5]
    ·cases h
   ·cases hc
  ·cases hc
 ·cases hc
def yA(x:cG)(dG:Nat->Option ku)(fuel:Nat):Nat->cG
 |0=>x
 |d+1=>rP x (xN dG (dL (yA x dG fuel d) fuel))
def Pt{P:Program}{dG:Nat->Option ku}(hm:P.follows .mixedOrders=true)(hE:tC P)(ht:UM P dG){x:cG}(hx:ji P x)(fuel:Nat):∀d,ji P (yA x dG fuel d)
 |0=>hx
 |d+1=>by
  have ih:=Pt hm hE ht hx fuel d
  exact hx.or (Zvt ht (Yfb ih hE (Lb hm hE ih) (Yj4 ih hE) (Zwh ih) fuel))
def Pv:List jO->Nat->List V->List V->List V->St->Option (V×St)
 |[],_,_,_,_,_=>none
 |e::l,f,a,c,args,S=>match Nat.beq e.f f with
  |true=>match Lr e (.func f a c) args S with
   |some r=>some r
   |none=>Pv l f a c args S
  |false=>Pv l f a c args S
def VF(l:List jO):cG
 |.func f a c,args,S=>Pv l f a c args S
 |_,_,_=>none
def Yiy{l:List jO}(h:∀e∈l,ji P (Lr e)):ji P (VF l):=by
 intro g args S v S' hc
 unfold VF at hc
 split at hc
 ·rename_i f a c
  induction l with
  |nil=>cases hc
  |cons e l ih=>
   simp only[Pv]at hc
   split at hc
   ·split at hc
    ·rename_i r hr
     cases hc
     exact h e pn _ _ _ _ _ hr
    ·exact ih (fun e he=>h e (o9 _ he)) hc
   ·exact ih (fun e he=>h e (o9 _ he)) hc
 ·cases hc
def Lu(tb:List (Nat×O))(L:List mb)(E:List jO):cG:=rP (IF tb L) (VF E)
structure bk (P:Program) (tb:List (Nat×O)) (L:List mb) (E:List jO):Prop where
 p:∀e∈L,VD P tb e
 e:∀e∈E,ji P (Lr e)
def bk.call{tb:List (Nat×O)}{L:List mb}{E:List jO}(h:bk P tb L E):ji P (Lu tb L E):=(Y6 h.p).or (Yiy h.e)
def bk.nil{tb:List (Nat×O)}:bk P tb [] []:=⟨fun _ h=>(by cases h),fun _ h=>(by cases h)⟩
structure C6 (P:Program) (dG:Nat->Option ku) (G:Nat):Prop where
 m:P.follows .mixedOrders=true
 e:tC P
 t:UM P dG
 g:P.globals.size=G
def bk.VG{dG:Nat->Option ku}{fuel d:Nat}(hP:C6 P dG G){tb:List (Nat×O)}{L:List mb}{E:List jO}(h:bk P tb L E){e:mb}(he:e.ok tb G (yA (Lu tb L E) dG fuel d)=true):bk P tb (e::L) E:=
 ⟨fun e' hm=>by
  rcases kv.1 hm with rfl|hm
  ·exact mb.pure (Pt hP.m hP.e hP.t h.call fuel d) (by rw[hP.g];exact he)
  ·exact h.p e' hm,h.e⟩
def bk.VH{dG:Nat->Option ku}{fuel d:Nat}(hP:C6 P dG G){tb:List (Nat×O)}{L:List mb}{E:List jO}(h:bk P tb L E){e:jO}(he:e.ok G (yA (Lu tb L E) dG fuel d)=true):bk P tb L (e::E):=
 ⟨h.p,fun e' hm=>by
  rcases kv.1 hm with rfl|hm
  ·exact Yad (Pt hP.m hP.e hP.t h.call fuel d) (by rw[hP.g];exact he)
  ·exact h.e e' hm⟩
def Y3(tb:List (Nat×O))(G:Nat)(dG:Nat->Option ku)(L:List mb)(E:List jO):Bool:=match L with
 |[]=>false
 |e::t=>e.ok tb G (yA (Lu tb t E) dG 5000 40)
def Y4(tb:List (Nat×O))(G:Nat)(dG:Nat->Option ku)(L:List mb)(E:List jO):Bool:=match E with
 |[]=>false
 |e::t=>e.ok G (yA (Lu tb L t) dG 5000 40)
def bk.p1{P:Program}{dG:Nat->Option ku}{G:Nat}(hP:C6 P dG G){tb:List (Nat×O)}{L:List mb}{E:List jO}(h:bk P tb L.tail E)(he:Y3 tb G dG L E=true):bk P tb L E:=by
 cases L with
 |nil=>exact h
 |cons e t=>exact bk.VG hP h he
def bk.e1{P:Program}{dG:Nat->Option ku}{G:Nat}(hP:C6 P dG G){tb:List (Nat×O)}{L:List mb}{E:List jO}(h:bk P tb L E.tail)(he:Y4 tb G dG L E=true):bk P tb L E:=by
 cases E with
 |nil=>exact h
 |cons e t=>exact bk.VH hP h he
section
variable {call:cG} {f:Nat} {ro:Option Nat} {a b c:av} {fr:Fr} {st:St}
end
def Yqn{a b:Nat}:Nat.blt a b=decide (a<b):=by
 cases h:Nat.blt a b
 ·symm;simp only[decide_eq_false_iff_not];intro hc;rw[show Nat.blt a b=true from Ow hc]at h;cases h
 ·symm;simp only[decide_eq_true_eq];exact BN (uF h)
def Yqo{a b:Nat}:Nat.ble a b=decide (a<=b):=by
 cases h:Nat.ble a b
 ·symm;simp only[decide_eq_false_iff_not];intro hc;rw[Ow hc]at h;cases h
 ·symm;simp only[decide_eq_true_eq];exact uF h
def cF{n:Int}(h1: -9223372036854775808<=n)(h2:n<9223372036854775808):bu .i64 n=n:=by
 rw[zq]
 simp[IntKind.wrap,IntKind.bits,IntKind.signed]
 omega
def Zz3{k a b}:qx .add k a b=some (.int k (bu k (a+b))):=rfl
def Zzs{k a b}:qx .sub k a b=some (.int k (bu k (a-b))):=rfl
def Zzx{k a b}:qx .mul k a b=some (.int k (bu k (a*b))):=rfl
def Zzv{k a b}(h:¬b=0):qx .quo k a b=some (.int k (bu k (a.tdiv b))):=by simp[qx,h]
def Zzu{k a b}(h:¬b=0):qx .rem k a b=some (.int k (a.tmod b)):=by simp[qx,h]
def Zz2{k a b}:qx .eql k a b=some (.bool (a==b)):=rfl
def Zzw{k a b}:qx .neq k a b=some (.bool (a !=b)):=rfl
def Zzy{k a b}:qx .lss k a b=some (.bool (decide (a<b))):=rfl
def Zzz{k a b}:qx .leq k a b=some (.bool (decide (a<=b))):=rfl
def Zz0{k a b}:qx .gtr k a b=some (.bool (decide (a > b))):=rfl
def Zz1{k a b}:qx .geq k a b=some (.bool (decide (a≥b))):=rfl
def Ym7(x):ct (.ba x)=FR x:=rfl
def Yhv(a b c):ct (.pick a b c)=DD a b c:=rfl
def Yc6(a b):ct (.alloc a b)=It a b:=rfl
def Ynb(a b):ct (.box a b)=FT a b:=rfl
def Yc5(a b):ct (.build a b)=BV a b:=rfl
def Zza(a b c d e):ct (.aV a b c d e)=FU a b c d e:=rfl
def Yhw(a b):ct (.load a b)=FV a b:=rfl
def Ycx(a b c):ct (.store a b c)=DE a b c:=rfl
def Ycz(a):ct (.fR a)=FW a:=rfl
def Ync(a b c d e):ct (.bin a b c d e)=FX a b c d e:=rfl
def Yqq(a b):ct (.un a b)=FY a b:=rfl
def Zvb(a b):ct (.bj a b)=FZ a b:=rfl
def Zy3(a b c):ct (.cP a b c)=F3 a b c:=rfl
def Yc2(a b):ct (.eI a b)=F4 a b:=rfl
def Yc1(a b c):ct (.field a b c)=F5 a b c:=rfl
def Zss(a b c d):ct (.cr a b c d)=BX a b c d:=rfl
def Zu8(a b c):ct (.aU a b c)=DH a b c:=rfl
def Zu9(a b):ct (.extract a b)=F9 a b:=rfl
def Ym8(a b):ct (.len a b)=xL a b:=rfl
def Yhy(a b):ct (.call a b)=yv a b:=rfl
structure Yr8 (r:Option (V×St)) (v:V):Prop where
 ex:∃s,r=some (v,s)/\s.w=[]
def Zz6{u v:V}{s:St}:Yr8 (some (u,s)) v↔u=v/\s.w=[]:=
 ⟨fun ⟨_,h1,h2⟩=>by simp only[al,bF]at h1;exact⟨h1.1,h1.2▸h2⟩,fun ⟨h1,h2⟩=>⟨s,by rw[h1],h2⟩⟩
attribute [simp]
 Ym7 Yhv Yc6 Ynb Yc5 Zza Yhw Ycx Ycz Ync Yqq Zvb Zy3 Yc2 Yc1 Zss Zu8 Zu9 Ym8 Yhy
 FR DD It FT BV FU FV FW FX FY FZ F3 F4 F5 BX F9 yv
 yw b_ Src.ev T.ag fw DK ax T0 Zz3 Zzs Zzx Zzv Zzu Zz2 Zzw Zzy Zzz Zz0 Zz1 gO T1 tN aC AN AM aS V.cells V.one St.alloc St.write St.row cF Yqn Yqo uN oF fX.nJ OC js cA cA.go cA.cB FP.free B1 Nat.testBit Zz6 base
end Go.Mx

