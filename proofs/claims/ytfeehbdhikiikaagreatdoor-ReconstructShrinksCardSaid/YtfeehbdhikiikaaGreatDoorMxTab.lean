/-Calls that are known-/
import Derived.Test.YtfeehbdhikiikaaGreatDoorMxDraw5
import Derived.Below
import Derived.CallsIn
set_option linter.all false
namespace Go.Mx
open Go
variable{d fuel i':Nat}{ρ:Nat->Option Nat}{s:St}
variable {G i:Nat} {P:Program}
def Qn:Bool->Bool->Bool
 |true,b=>b
 |false,true=>false
 |false,false=>true
def UP:IntKind->Nat
 |.i8=>0|.i16=>1|.i32=>2|.i64=>3|.u8=>4|.u16=>5|.u32=>6|.u64=>7
def Ysy:Int->Int->Bool
 |.ofNat a,b=>match b with
  |.ofNat b=>Nat.beq a b
  |.negSucc _=>false
 |.negSucc a,b=>match b with
  |.ofNat _=>false
  |.negSucc b=>Nat.beq a b
def J5:List UInt8->List UInt8->Bool
 |[],l=>match l with
  |[]=>true
  |_::_=>false
 |a::xs,l=>match l with
  |[]=>false
  |b::ys=>match Nat.beq a.toNat b.toNat with
   |true=>J5 xs ys
   |false=>false
def Qo:Option Nat->Option Nat->Bool
 |none,b=>match b with
  |none=>true
  |some _=>false
 |some a,b=>match b with
  |none=>false
  |some b=>Nat.beq a b
def Zqd{a b:Bool}(h:Qn a b=true):a=b:=by cases a<;>cases b<;>simp_all [Qn]
def me{a b:Nat}(h:Nat.beq a b=true):a=b:=TT h
def Ys0{a b:IntKind}(h:Nat.beq (UP a) (UP b)=true):a=b:=by cases a<;>cases b<;>first|rfl|(exact absurd h (by decide))
def Ymf{a b:Int}(h:Ysy a b=true):a=b:=by
 cases a<;>cases b<;>simp only[Ysy,iE]at h
 ·rw[me h]
 rw[me h]
def Zsj:∀{a b:List UInt8},J5 a b=true->a=b
 |[],[],_=>rfl
 |[],_::_,h=>by simp[J5]at h
 |_::_,[],h=>by simp[J5]at h
 |a::xs,b::ys,h=>by
  simp only[J5]at h
  split at h
  ·rename_i e
   rw[Zsj h,UInt8.toNat_inj.1 (me e)]
  ·cases h
def Zpf{a b:Option Nat}(h:Qo a b=true):a=b:=by
 cases a<;>cases b<;>simp only[Qo,iE]at h
 ·rfl
 rw[me h]
def UQ:FloatKind->Nat
 |.f32=>0|.f64=>1
def Ys6{a b:FloatKind}(h:Nat.beq (UQ a) (UQ b)=true):a=b:=by cases a<;>cases b<;>first|rfl|(exact absurd h (by decide))
def V.isBool(x:Bool):V->Bool|.bool y=>Qn x y|_=>false
def V.isInt(k:IntKind)(n:Int):V->Bool|.int k' n'=>(match Nat.beq (UP k) (UP k')with|true=>Ysy n n'|false=>false)|_=>false
def V.Hu(k:FloatKind)(n:Nat):V->Bool|.xn k' n'=>(match Nat.beq (UQ k) (UQ k')with|true=>Nat.beq n n'|false=>false)|_=>false
def V.isStr(s:List UInt8):V->Bool|.str t=>J5 s t|_=>false
def V.vG:V->Bool|.bP=>true|_=>false
def V.Hv(i o:Nat):V->Bool|.ptr i' o'=>(match Nat.beq i i' with|true=>Nat.beq o o'|false=>false)|_=>false
def V.qi:V->Bool|.aa=>true|_=>false
def V.isSlice(i o l:Nat)(c:Option Nat)(z:Nat):V->Bool|.slice i' o' l' c' z'=>Nat.beq i i'&&Nat.beq o o'&&Nat.beq l l'&&Qo c c'&&Nat.beq z z'|_=>false
def V.isEmpty:V->Bool|.empty=>true|_=>false
def V.vH:V->Bool|.bW=>true|_=>false
def V.Hw(i:Nat):V->Bool|.map j=>Nat.beq i j|_=>false
def V.sI:V->Bool|.bZ=>true|_=>false
def V.isChan(i:Nat):V->Bool|.chan j=>Nat.beq i j|_=>false
def V.zo(i:Nat):V->Bool|.yield j=>Nat.beq i j|_=>false
def V.sJ:V->Bool|.b_=>true|_=>false
def V.qj:V->Bool|.aZ=>true|_=>false
mutual
def V.beq:V->V->Bool
 |.bool x,b=>b.isBool x
 |.int k n,b=>b.isInt k n
 |.xn k n,b=>b.Hu k n
 |.str s,b=>b.isStr s
 |.bP,b=>b.vG
 |.ptr i o,b=>b.Hv i o
 |.aa,b=>b.qi
 |.slice i o l c z,b=>b.isSlice i o l c z
 |.empty,b=>b.isEmpty
 |.bW,b=>b.vH
 |.map i,b=>b.Hw i
 |.bZ,b=>b.sI
 |.chan i,b=>b.isChan i
 |.func f a c,b=>match b with
  |.func f' a' c'=>Nat.beq f f'&&V.jM a a'&&V.jM c c'
  |_=>false
 |.yield i,b=>b.zo i
 |.b_,b=>b.sJ
 |.iface t v,b=>match b with
  |.iface t' v'=>Nat.beq t t'&&V.beq v v'
  |_=>false
 |.aZ,b=>b.qj
 |.agg l,b=>match b with
  |.agg l'=>V.jM l l'
  |_=>false
 |.aU l,b=>match b with
  |.aU l'=>V.jM l l'
  |_=>false
def V.jM:List V->List V->Bool
 |[],l=>match l with
  |[]=>true
  |_::_=>false
 |a::xs,l=>match l with
  |[]=>false
  |b::ys=>match V.beq a b with
   |true=>V.jM xs ys
   |false=>false
end
mutual
def V.beq_eq:∀(a b:V),V.beq a b=true->a=b
 |.bool x,b,h=>by cases b<;>simp only[V.beq,V.isBool,iE]at h;rw[Zqd h]
 |.int k n,b,h=>by
  cases b<;>simp only[V.beq,V.isInt,iE]at h
  split at h
  ·rename_i e;rw[Ys0 e,Ymf h]
  ·cases h
 |.xn k n,b,h=>by
  cases b<;>simp only[V.beq,V.Hu,iE]at h
  split at h
  ·rename_i e;rw[Ys6 e,me h]
  ·cases h
 |.str s,b,h=>by cases b<;>simp only[V.beq,V.isStr,iE]at h;rw[Zsj h]
 |.bP,b,h=>by cases b<;>simp only[V.beq,V.vG,iE]at h;rfl
 |.ptr i o,b,h=>by
  cases b<;>simp only[V.beq,V.Hv,iE]at h
  split at h
  ·rename_i e;rw[me e,me h]
  ·cases h
 |.aa,b,h=>by cases b<;>simp only[V.beq,V.qi,iE]at h;rfl
 |.slice i o l c z,b,h=>by
  cases b<;>simp only[V.beq,V.isSlice,iE,gV]at h
  obtain⟨⟨⟨⟨h1,h2⟩,h3⟩,h4⟩,h5⟩:=h
  rw[me h1,me h2,me h3,Zpf h4,me h5]
 |.empty,b,h=>by cases b<;>simp only[V.beq,V.isEmpty,iE]at h;rfl
 |.bW,b,h=>by cases b<;>simp only[V.beq,V.vH,iE]at h;rfl
 |.map i,b,h=>by cases b<;>simp only[V.beq,V.Hw,iE]at h;rw[me h]
 |.bZ,b,h=>by cases b<;>simp only[V.beq,V.sI,iE]at h;rfl
 |.chan i,b,h=>by cases b<;>simp only[V.beq,V.isChan,iE]at h;rw[me h]
 |.func f a c,b,h=>by
  cases b<;>simp only[V.beq,iE,gV]at h
  obtain⟨⟨h1,h2⟩,h3⟩:=h
  rw[me h1,V.dH _ _ h2,V.dH _ _ h3]
 |.yield i,b,h=>by cases b<;>simp only[V.beq,V.zo,iE]at h;rw[me h]
 |.b_,b,h=>by cases b<;>simp only[V.beq,V.sJ,iE]at h;rfl
 |.iface t v,b,h=>by
  cases b<;>simp only[V.beq,iE,gV]at h
  rw[me h.1,V.beq_eq _ _ h.2]
 |.aZ,b,h=>by cases b<;>simp only[V.beq,V.qj,iE]at h;rfl
 |.agg l,b,h=>by cases b<;>simp only[V.beq,iE]at h;rw[V.dH _ _ h]
 |.aU l,b,h=>by cases b<;>simp only[V.beq,iE]at h;rw[V.dH _ _ h]
def V.dH:∀(a b:List V),V.jM a b=true->a=b
 |[],[],_=>rfl
 |[],_::_,h=>by simp[V.jM]at h
 |_::_,[],h=>by simp[V.jM]at h
 |a::xs,b::ys,h=>by
  simp only[V.jM]at h
  split at h
  ·rename_i e;rw[V.beq_eq a b e,V.dH xs ys h]
  ·cases h
end
def MZ:List (V×V)->List (V×V)->Bool
 |[],l=>match l with
  |[]=>true
  |_::_=>false
 |(k,v)::xs,l=>match l with
  |[]=>false
  |(k',v')::ys=>V.beq k k'&&V.beq v v'&&MZ xs ys
def Yh5:∀{a b:List (V×V)},MZ a b=true->a=b
 |[],[],_=>rfl
 |[],_::_,h=>by simp[MZ]at h
 |_::_,[],h=>by simp[MZ]at h
 |(k,v)::xs,(k',v')::ys,h=>by
  simp only[MZ,gV]at h
  rw[V.beq_eq _ _ h.1.1,V.beq_eq _ _ h.1.2,Yh5 h.2]
def O.beq:O->O->Bool
 |.cells c e rw,b=>match b with
  |.cells c' e' sO=>Nat.beq e e'&&Qn rw sO&&V.jM c c'
  |_=>false
 |.map es,b=>match b with
  |.map jd=>MZ es jd
  |_=>false
 |.chan cap buf,b=>match b with
  |.chan cap' Er=>Nat.beq cap cap'&&V.jM buf Er
  |_=>false
 |.fm s pos,b=>match b with
  |.fm s' pos'=>J5 s s'&&Nat.beq pos pos'
  |_=>false
 |.defs o,b=>match b with
  |.defs o'=>Qn o o'
  |_=>false
 |.loop _,_=>false
 |.dead,b=>match b with
  |.dead=>true
  |_=>false
def O.beq_eq{a b:O}(h:O.beq a b=true):a=b:=by
 cases a<;>simp only[O.beq,iE]at h<;>cases b<;>simp only[iE,gV]at h
 ·obtain⟨⟨h1,h2⟩,h3⟩:=h;rw[me h1,Zqd h2,V.dH _ _ h3]
 ·rw[Yh5 h]
 ·rw[me h.1,V.dH _ _ h.2]
 ·rw[Zsj h.1,me h.2]
 ·rw[Zqd h]
 rfl
def MD:Option O->O->Bool
 |some a,b=>O.beq a b
 |none,_=>false
def Ygh{a:Option O}{b:O}(h:MD a b=true):a=some b:=by
 cases a with
 |none=>cases h
 |some a=>rw[O.beq_eq h]
def vEq:Option V->V->Bool
 |some a,b=>V.beq a b
 |none,_=>false
def Yvh{a:Option V}{b:V}(h:vEq a b=true):a=some b:=by
 cases a with
 |none=>cases h
 |some a=>rw[V.beq_eq _ _ h]
def UR:Option (List V)->List V->Bool
 |some a,b=>V.jM a b
 |none,_=>false
def Zwf{a:Option (List V)}{b:List V}(h:UR a b=true):a=some b:=by
 cases a with
 |none=>cases h
 |some a=>rw[V.dH _ _ h]
mutual
def V.free:V->Bool
 |.ptr ..|.slice ..|.map _|.chan _|.yield _=>false
 |.func _ a c=>V.my a&&V.my c
 |.iface _ v=>V.free v
 |.agg l=>V.my l
 |.aU l=>V.my l
 |_=>true
def V.my:List V->Bool
 |[]=>true
 |v::vs=>V.free v&&V.my vs
end
mutual
def V.mA{ρ:Nat->Option Nat}:∀(v:V),V.free v=true->V.cm ρ v=some v
 |.bool _,_=>rfl
 |.int _ _,_=>rfl
 |.xn _ _,_=>rfl
 |.str _,_=>rfl
 |.bP,_=>rfl
 |.ptr _ _,h=>by simp[V.free]at h
 |.aa,_=>rfl
 |.slice _ _ _ _ _,h=>by simp[V.free]at h
 |.empty,_=>rfl
 |.bW,_=>rfl
 |.map _,h=>by simp[V.free]at h
 |.bZ,_=>rfl
 |.chan _,h=>by simp[V.free]at h
 |.func f a c,h=>by
  simp only[V.free,gV]at h
  simp only[V.cm,V.eK a h.1,V.eK c h.2]
 |.yield _,h=>by simp[V.free]at h
 |.b_,_=>rfl
 |.iface t v,h=>by
  simp only[V.free]at h
  simp only[V.cm,V.mA v h]
 |.aZ,_=>rfl
 |.agg l,h=>by
  simp only[V.free]at h
  simp only[V.cm,V.eK l h]
 |.aU l,h=>by
  simp only[V.free]at h
  simp only[V.cm,V.eK l h]
def V.eK{ρ:Nat->Option Nat}:∀(l:List V),V.my l=true->V.fg ρ l=some l
 |[],_=>rfl
 |v::vs,h=>by
  simp only[V.my,gV]at h
  simp only[V.fg,V.mA v h.1,V.eK vs h.2]
end
def AW:Nat->T O
 |0=>.nil
 |n+1=>(AW n).set n .dead
def Uj:∀(n i:Nat),i<n->(AW n).get i=some .dead
 |0,i,h=>by omega
 |n+1,i,h=>by
  simp only[AW,T.ag]
  by_cases e:i=n
  ·rw[av e]
  ·rw[ak e];exact Uj n i (by omega)
def base(G:Nat):St:=⟨AW G,G,[]⟩
def lk:List (Nat×O)->Nat->Option O
 |[],_=>none
 |(j,o)::l,i=>match Nat.beq j i with
  |true=>some o
  |false=>lk l i
def vo(h:T O):List (Nat×O)->T O
 |[]=>h
 |(j,o)::l=>(vo h l).set j o
def DC(h:T O):∀(l:List (Nat×O)) (i:Nat),(vo h l).get i=match lk l i with|some o=>some o|none=>h.get i
 |[],i=>rfl
 |(j,o)::l,i=>by
  simp only[vo,T.ag,lk]
  by_cases e:i=j
  ·subst e
   rw[av rfl,Nat.beq_refl _]
  ·rw[ak e]
   have:Nat.beq j i=false:=by
    cases hb:Nat.beq j i with
    |false=>rfl
    |true=>exact absurd (TT hb).symm e
   rw[this]
   exact DC h l i
def Qp:∀{l:List (Nat×O)} {i:Nat} {o:O},lk l i=some o->(i,o)∈l
 |(j,o')::l,i,o,h=>by
  simp only[lk]at h
  split at h
  ·rename_i e
   have:=me e
   simp only[ar]at h
   subst h;subst this;exact oa
  ·exact pA _ (Qp h)
def Yhc:∀{l:List (Nat×O)} {i:Nat},lk l i=none->∀p∈l,p.1≠i
 |[],_,_,p,hp=>by cases hp
 |(j,o')::l,i,h,p,hp=>by
  simp only[lk]at h
  split at h
  ·cases h
  ·rename_i e
   rcases iP.1 hp with rfl|hp
   ·intro hc
    simp only at hc
    subst hc
    have:Nat.beq j j=true:=Nat.beq_refl _
    rw[this]at e;cases e
   ·exact Yhc h p hp
def Ysl{l:List (Nat×O)}{i:Nat}{o:O}(h:(i,o)∈l):∃o',lk l i=some o':=by
 cases hc:lk l i with
 |some o'=>exact⟨o',rfl⟩
 |none=>exact absurd rfl (Yhc hc _ h)
def Ie(i:Nat):List Nat->Bool
 |[]=>false
 |j::l=>match Nat.beq j i with
  |true=>true
  |false=>Ie i l
def Nt{i:Nat}:∀{l:List Nat},Ie i l=true↔i∈l
 |[]=>by simp[Ie]
 |j::l=>by
  simp only[Ie]
  split
  ·rename_i e;simp[me e]
  ·rename_i e
   have:i≠j:=by
    rintro rfl
    have:Nat.beq i i=true:=Nat.beq_refl _
    rw[this]at e;cases e
   simp[Nt,this]
structure n_ where
 f:Nat
 args:List V
 v:V
def O.tab:O->Bool
 |.cells c _ false=>V.my c
 |_=>false
def Pv(G:Nat):List (Nat×O)->Bool
 |[]=>true
 |(i,o)::l=>Nat.blt i G&&o.tab&&Pv G l
def O.Fj{o:O}(h:o.tab=true):o.cm ρ=some o:=by
 cases o with
 |cells c e rw=>
  cases rw with
  |true=>cases h
  |false=>simp only[O.cm,V.eK c h]
 |_=>cases h
def Zon{G:Nat}:∀{l:List (Nat×O)},Pv G l=true->∀{i:Nat} {o:O},lk l i=some o->i<G/\o.tab=true
 |(j,o')::l,h,i,o,ho=>by
  simp only[Pv,gV]at h
  simp only[lk]at ho
  split at ho
  ·rename_i e
   simp only[ar]at ho
   rw[<-me e,<-ho]
   exact⟨Eu (xw h.1.1),h.1.2⟩
  ·exact Zon h.2 ho
def GZ(G:Nat)(tb:List (Nat×O)):St:=⟨vo (AW G) tb,G,[]⟩
def GP(S:St):List (Nat×O)->Bool
 |[]=>true
 |(i,o)::l=>match MD (S.h.get i) o with
  |true=>GP S l
  |false=>false
def Zmt{S:St}:∀{l:List (Nat×O)},GP S l=true->∀p∈l,S.h.get p.1=some p.2
 |[],_,p,hp=>by cases hp
 |(i,o)::l,h,p,hp=>by
  simp only[GP]at h
  split at h
  ·rename_i e
   rcases iP.1 hp with rfl|hp
   ·exact Ygh e
   ·exact Zmt h p hp
  ·cases h
def n_.ok(e:n_)(tb:List (Nat×O))(G:Nat)(call:cQ):Bool:=
 match call (.func e.f [] []) e.args (GZ G tb)with
 |some (v,s)=>match s.w with
  |[]=>V.beq v e.v&&V.free e.v&&V.my e.args&&Nat.ble G s.n&&Pv G tb
  |_=>false
 |none=>false
def Xak(P:Program)(tb:List (Nat×O))(e:n_):Prop:=∀S,GP S tb=true->MG P (.func e.f [] []) e.args S e.v S
def n_.pure{call:cQ}(hc:kK P call){tb:List (Nat×O)}{e:n_}(h:e.ok tb P.globals.size call=true):Xak P tb e:=by
 unfold n_.ok at h;split at h
 ·rename_i v s cA;split at h
  ·rename_i hw;simp only[gV]at h;obtain⟨⟨⟨⟨h1,h2⟩,h3⟩,h4⟩,h5⟩:=h;have hv:=V.beq_eq _ _ h1;subst hv;intro S fJ μ w Gv xs hh hG hx;have fJ:=Zmt fJ;have hn:P.globals.size<=S.n:=by apply AK;intro aD;obtain⟨t,ht⟩:=hh.je S.n aD;have:=(hh.dw _ _ ht).1;omega
   have F:JM P (fun i=>if i<P.globals.size then some i else none) (fun i=>if i<P.globals.size then some i else none) [] (GZ P.globals.size tb) s S S:={
    dw:=fun i i' hi=>by
     split at hi
     ·rename_i aD;simp only[ar]at hi;subst hi
      exact⟨aD,by omega⟩
     ·cases hi
    inj:=fun i j i' hi hj=>by
     split at hi<;>split at hj<;>simp_all
    je:=fun g hg=>by simp[hg]
    obj:=fun i i' hi=>by
     split at hi
     ·rename_i aD
      simp only[ar]at hi;subst hi
      cases hl:lk tb i with
      |some o=>
       refine⟨o,o,?_,.inr (.inl (O.Fj (Zon h5 hl).2)),.inl (fJ _ (Qp hl))⟩
       show (vo (AW P.globals.size) tb).get i=_
       rw[DC,hl]
      |none=>
       refine⟨.dead,.dead,?_,.inl rfl,.inr rfl⟩
       show (vo (AW P.globals.size) tb).get i=_
       rw[DC,hl]
       exact Uj _ _ aD
     ·cases hi
    old:=fun _ _=>rfl
    new:=fun i i' hi hr=>by
     have:P.globals.size<=i:=hi
     rw[ak (by omega)]at hr;cases hr
    JN:=fun i j i' hi _ hr _=>by
     have:P.globals.size<=i:=hi
     rw[ak (by omega)]at hr;cases hr
    full:=fun i' h1 h2=>by omega
    iy:=aN _
    w0:=rfl
    W1:=fun i i' hi _=>by rw[hw]at hi;cases hi
    W2:=fun j hj=>by cases hj
    wl:=rfl
    ad:=fun _ _ _=>rfl
    wr:=fun i i' hi _=>by rw[hw]at hi;cases hi
    obn:=fun i i' hi hr=>by have:P.globals.size<=i:=hi;rw[ak (by omega)]at hr;cases hr};exact(MG.frame (hc _ _ _ _ _ cA) F (V.mA _ (by rfl)) (V.eK _ h3) (V.mA _ h2)) μ w Gv xs hh hG hx
  cases h
 cases h
def MC:List n_->Nat->List V->Option V
 |[],_,_=>none
 |e::l,f,args=>match Nat.beq e.f f with
  |true=>match V.jM e.args args with
   |true=>some e.v
   |false=>MC l f args
  |false=>MC l f args
def MB(tb:List (Nat×O))(l:List n_):cQ
 |.func f [] [],args,st=>match MC l f args with
  |some v=>match GP st tb with
   |true=>some (v,st)
   |false=>none
  |none=>none
 |_,_,_=>none
def Zo6:∀{l:List n_} {f:Nat} {args:List V} {v:V},MC l f args=some v->∃e∈l,e.f=f/\e.args=args/\e.v=v
 |[],_,_,_,h=>by cases h
 |e::l,f,args,v,h=>by
  simp only[MC]at h
  split at h
  ·rename_i e1
   split at h
   ·rename_i e2
    simp only[ar]at h
    exact⟨e,oa,me e1,V.dH _ _ e2,h⟩
   ·obtain⟨e',h1,h2⟩:=Zo6 h;exact⟨e',pA _ h1,h2⟩
  ·obtain⟨e',h1,h2⟩:=Zo6 h;exact⟨e',pA _ h1,h2⟩
def Zzz{tb:List (Nat×O)}{l:List n_}(h:∀e∈l,Xak P tb e):kK P (MB tb l):=by
 intro g args st v aB hc;unfold MB at hc;split at hc
 ·rename_i f;split at hc
  ·rename_i u hu;split at hc
   ·rename_i hp;simp only[ar,bB]at hc;obtain⟨rfl,rfl⟩:=hc;obtain⟨e,h1,rfl,rfl,rfl⟩:=Zo6 hu;exact h e h1 st hp
   cases hc
  cases hc
 cases hc
structure mM where
 f:Nat
 first:List V
 iI:List V
 args:List V
 part:List (Nat×O)
 n:Nat
 v:V
 kept:List (Nat×O)
 DL:List (Nat×O)
def mM.st(e:mM)(G:Nat):St:=⟨vo (AW G) e.part,e.n,[]⟩
def sig(G:Nat)(part:List (Nat×O))(i:Nat):Option Nat:=
 match Nat.blt i G with
 |true=>some i
 |false=>match lk part i with
  |some _=>some i
  |none=>none
def idx(i:Nat):List (Nat×O)->Nat->Option Nat
 |[],_=>none
 |(k,_)::l,m=>match Nat.beq k i with
  |true=>some m
  |false=>idx i l (m+1)
def Fk(G:Nat)(part:List (Nat×O))(n:Nat)(kept:List (Nat×O))(i:Nat):Option Nat:=
 match Nat.blt i n with
 |true=>sig G part i
 |false=>idx i kept n
def Fl:List (Nat×O)->Nat->List (Nat×O)
 |[],_=>[]
 |(_,o)::l,m=>(m,o)::Fl l (m+1)
def M0(ρ:Nat->Option Nat)(s:St)(i:Nat)(o':O):Bool:=
 match s.h.get i with
 |some o=>match o' with
  |.dead=>true
  |o'=>MD (o.cm ρ) o'
 |none=>false
def US(ρ:Nat->Option Nat)(s:St)(n:Nat):List (Nat×O)->Nat->Bool
 |[],_=>true
 |(k,o)::l,m=>Qo (ρ k) (some m)&&Nat.ble n k&&Nat.blt k s.n&&M0 ρ s k o&&US ρ s n l (m+1)
def mM.c_(e:mM)(G:Nat)(v:V)(s:St):Bool:=
 Nat.ble G e.n&&Nat.ble e.n s.n&&(e.part.all fun p=>Nat.blt p.1 e.n&&MD (p.2.cm (sig G e.part)) p.2)&&
 UR (V.fg (sig G e.part) e.first) e.first&&UR (V.fg (sig G e.part) e.iI) e.iI&&UR (V.fg (sig G e.part) e.args) e.args&&
 vEq (V.cm (Fk G e.part e.n e.kept) v) e.v&&
 US (Fk G e.part e.n e.kept) s e.n e.kept e.n&&
 (s.w.all fun i=>match sig G e.part i with|some _=>Ie i (e.DL.map (·.1))|none=>true)&&
 (e.DL.all fun p=>Ie p.1 s.w&&Qo (sig G e.part p.1) (some p.1)&&M0 (Fk G e.part e.n e.kept) s p.1 p.2)
def mM.ok(e:mM)(G:Nat)(call:cQ):Bool:=
 match call (.func e.f e.first e.iI) e.args (e.st G)with
 |some (v,s)=>e.c_ G v s
 |none=>false
def mM.out(e:mM)(S:St):St:=⟨vo (vo S.h e.DL) (Fl e.kept e.n),e.n+e.kept.length,e.DL.map (·.1)++S.w⟩
def Qq(e:mM):cQ
 |.func f a c,args,S=>match Nat.beq e.f f with
  |true=>match V.jM e.args args&&V.jM e.first a&&V.jM e.iI c&&Nat.beq S.n e.n&&GP S e.part with
   |true=>some (e.v,e.out S)
   |false=>none
  |false=>none
 |_,_,_=>none
def Qr{i:Nat}:∀{l:List (Nat×O)} {m i':Nat},idx i l m=some i'->m<=i'/\i'<m+l.length/\∃o,l[i'-m]?=some (i,o)
 |[],m,i',h=>by cases h
 |(k,o)::l,m,i',h=>by
  simp only[idx]at h
  split at h
  ·rename_i e
   simp only[ar]at h;subst h
   have:=me e;subst this
   exact⟨aN _,by simp,o,by simp⟩
  ·obtain⟨h1,h2,o',h3⟩:=Qr h
   refine⟨by omega,by simp;omega,o',?_⟩
   rw[show i'-m=(i'-(m+1))+1 by omega]
   simpa using h3
def Zrm:∀{l:List (Nat×O)} {m j:Nat} {p:Nat×O},l[j]?=some p->lk (Fl l m) (m+j)=some p.2
 |[],m,j,p,h=>by simp at h
 |(k,o)::l,m,0,p,h=>by
  simp at h;subst h
  simp[Fl,lk]
 |(k,o)::l,m,j+1,p,h=>by
  simp only[Fl,lk]
  have:Nat.beq m (m+(j+1))=false:=by
   cases hb:Nat.beq m (m+(j+1))with
   |false=>rfl
   |true=>have:=me hb;omega
  rw[this,show m+(j+1)=(m+1)+j by omega]
  exact Zrm (by simpa using h)
def Znb:∀{l:List (Nat×O)} {m i:Nat},i<m->lk (Fl l m) i=none
 |[],_,_,_=>rfl
 |(k,o)::l,m,i,h=>by
  simp only[Fl,lk]
  have:Nat.beq m i=false:=by
   cases hb:Nat.beq m i with
   |false=>rfl
   |true=>have:=me hb;omega
  rw[this]
  exact Znb (by omega)
def Zrs{ρ:Nat->Option Nat}{s:St}{n:Nat}:∀{l:List (Nat×O)} {m:Nat},US ρ s n l m=true->∀{j:Nat} {p:Nat×O},l[j]?=some p->ρ p.1=some (m+j)/\n<=p.1/\p.1<s.n/\M0 ρ s p.1 p.2=true
 |[],m,_,j,p,h=>by simp at h
 |(k,o)::l,m,h,j,p,hj=>by
  simp only[US,gV]at h
  obtain⟨⟨⟨⟨h1,h2⟩,h3⟩,h4⟩,h5⟩:=h
  cases j with
  |zero=>
   simp at hj;subst hj
   exact⟨Zpf h1,xw h2,Eu (xw h3),h4⟩
  |succ j=>
   obtain⟨q1,q2⟩:=Zrs h5 (j:=j) (by simpa using hj)
   exact⟨by rw[q1];congr 1;omega,q2⟩
def Zrl{o':O}(h:M0 ρ s i o'=true):∃o,s.h.get i=some o/\(o'=.dead\/o.cm ρ=some o'):=by
 unfold M0 at h;split at h
 ·rename_i o ho;refine⟨o,ho,?_⟩;split at h
  ·exact .inl rfl
  exact .inr (Ygh h)
 cases h
def M3{part:List (Nat×O)}(h:sig G part i=some i'):i'=i/\(i<G\/∃o,lk part i=some o):=by
 unfold sig at h;split at h
 ·rename_i e;simp only[ar]at h;exact⟨h.symm,.inl (Eu (xw e))⟩
 split at h
 ·rename_i o ho;simp only[ar]at h;exact⟨h.symm,.inr ⟨o,ho⟩⟩
 cases h
def Yd4{call:cQ}(cA:kK P call){e:mM}(h:e.ok P.globals.size call=true):kK P (Qq e):=by
 intro g args S v S' hc;unfold Qq at hc;split at hc
 ·rename_i f a c;split at hc
  ·rename_i hf;have hf:=me hf;subst hf;split at hc
   ·rename_i df;simp only[gV]at df;obtain⟨⟨⟨⟨c1,c2⟩,c3⟩,c4⟩,c5⟩:=df;have c1:=V.dH _ _ c1;have c2:=V.dH _ _ c2;have c3:=V.dH _ _ c3;have c4:=me c4;have c5:=Zmt c5;simp only[ar,bB]at hc;obtain⟨rfl,rfl⟩:=hc;subst c1;subst c2;subst c3;unfold mM.ok at h;split at h
    ·rename_i v0 s bY;unfold mM.c_ at h;simp only[gV,kJ]at h;obtain⟨⟨⟨⟨⟨⟨⟨⟨⟨k1,k2⟩,k3⟩,k4⟩,k5⟩,k6⟩,k7⟩,k8⟩,k9⟩,k10⟩:=h;have k1:=xw k1;have k2:=xw k2;have fJ:∀i o,lk e.part i=some o->i<e.n/\o.cm (sig P.globals.size e.part)=some o/\S.h.get i=some o:=fun i o ho=>by have hm:=Qp ho;obtain⟨q1,q2⟩:=k3 _ hm;exact⟨Eu (xw q1),Ygh q2,c5 _ hm⟩
     have UT:∀i,e.n<=i->Fk P.globals.size e.part e.n e.kept i=idx i e.kept e.n:=fun i hi=>by
      unfold Fk;have:Nat.blt i e.n=false:=by
       cases hb:Nat.blt i e.n with
       |false=>rfl
       |true=>have:=Eu (xw hb);omega
      rw[this]
     have Ct:∀j p,e.kept[j]?=some p->Fk P.globals.size e.part e.n e.kept p.1=some (e.n+j)/\e.n<=p.1/\p.1<s.n/\M0 (Fk P.globals.size e.part e.n e.kept) s p.1 p.2=true:=fun j p hj=>Zrs k8 hj;have Qs:∀j,j<e.n->(e.out S).h.get j=match lk e.DL j with|some o=>some o|none=>S.h.get j:=fun j hj=>by show (vo (vo S.h e.DL) (Fl e.kept e.n)).get j=_;rw[DC,Znb hj,DC]
     have F:JM P (sig P.globals.size e.part) (Fk P.globals.size e.part e.n e.kept) (e.DL.map (·.1)) (e.st P.globals.size) s S (e.out S):={
      dw:=fun i i' hi=>by
       obtain⟨rfl,MI⟩:=M3 hi
       have:i'<e.n:=by
        rcases MI with h|⟨o,ho⟩
        ·omega
        ·exact(fJ _ _ ho).1
       exact⟨this,by omega⟩
      inj:=fun i j i' hi hj=>by rw[<-(M3 hi).1,<-(M3 hj).1]
      je:=fun g hg=>by
       unfold sig
       have:Nat.blt g P.globals.size=true:=TV hg
       rw[this]
      obj:=fun i i' hi=>by
       obtain⟨rfl,MI⟩:=M3 hi
       cases hl:lk e.part i' with
       |some o=>
        obtain⟨q1,q2,q3⟩:=fJ _ _ hl
        refine⟨o,o,?_,.inr (.inl q2),.inl q3⟩
        show (vo (AW P.globals.size) e.part).get i'=_
        rw[DC,hl]
       |none=>
        have hg:i'<P.globals.size:=by
         rcases MI with h|⟨o,ho⟩
         ·exact h
         ·rw[hl]at ho;cases ho
        refine⟨.dead,.dead,?_,.inl rfl,.inr rfl⟩
        show (vo (AW P.globals.size) e.part).get i'=_
        rw[DC,hl]
        exact Uj _ _ hg
      old:=fun i hi=>by
       have:Nat.blt i e.n=true:=TV hi
       unfold Fk;rw[this]
      new:=fun i i' hi hr=>by
       rw[UT i hi]at hr
       obtain⟨q1,q2,o,q3⟩:=Qr hr
       obtain⟨_,_,r3,_⟩:=Ct _ _ q3
       exact⟨by omega,q2,r3⟩
      JN:=fun i j i' hi hj MH hrj=>by
       rw[UT i hi]at MH
       rw[UT j hj]at hrj
       obtain⟨_,_,o,q3⟩:=Qr MH
       obtain⟨_,_,o',LM⟩:=Qr hrj
       rw[q3]at LM
       cases LM;rfl
      full:=fun i' h1 h2=>by
       have mX:i'<e.n+e.kept.length:=h2
       obtain⟨p,hp⟩:∃p,e.kept[i'-e.n]?=some p:=⟨_,cj (by omega)⟩
       obtain⟨r1,r2,_,_⟩:=Ct _ _ hp
       exact⟨p.1,r2,by rw[r1];congr 1;omega⟩
      iy:=by show S.n<=e.n+e.kept.length;omega
      w0:=rfl
      W1:=fun i i' hi hs=>by
       obtain⟨rfl,_⟩:=M3 hs
       have:=k9 _ hi
       rw[hs]at this
       exact Nt.1 this
      W2:=fun j hj=>by
       obtain⟨p,hp,rfl⟩:=bO.1 hj
       obtain⟨⟨q1,q2⟩,_⟩:=k10 _ hp
       exact⟨p.1,Nt.1 q1,Zpf q2⟩
      wl:=rfl
      ad:=fun j hj hn=>by
       rw[Qs j (by omega)]
       cases hl:lk e.DL j with
       |none=>rfl
       |some o=>exact absurd (bO.2 ⟨_,Qp hl,rfl⟩) hn
      wr:=fun i i' hi hs=>by
       obtain⟨rfl,MI⟩:=M3 hs
       have aD:i'<e.n:=by
        rcases MI with h|⟨o,ho⟩
        ·omega
        ·exact(fJ _ _ ho).1
       have:=k9 _ hi
       rw[hs]at this
       obtain⟨p,hp,Gf⟩:=bO.1 (Nt.1 this)
       obtain⟨o',yU⟩:=Ysl (l:=e.DL) (i:=i') (o:=p.2) (by rw[<-Gf];exact hp)
       obtain⟨_,q3⟩:=k10 _ (Qp yU)
       obtain⟨o,r1,r2⟩:=Zrl q3
       exact⟨o,o',r1,by rw[Qs _ aD,yU],r2⟩
      obn:=fun i i' hi hr=>by rw[UT i hi]at hr;obtain⟨q1,q2,o,q3⟩:=Qr hr;obtain⟨_,_,_,r4⟩:=Ct _ _ q3;obtain⟨o2,t1,t2⟩:=Zrl r4;refine⟨o2,o,t1,?_,t2⟩;show (vo (vo S.h e.DL) (Fl e.kept e.n)).get i'=_;have:=Zrm (m:=e.n) q3;rw[show e.n+(i'-e.n)=i' by omega]at this;rw[DC,this]};refine MG.frame (cA _ _ _ _ _ bY) F ?_ (Zwf k6) (Yvh k7);simp only[V.cm,Zwf k4,Zwf k5]
    cases h
   cases hc
  cases hc
 cases hc
def AV(x:cQ)(eg:Nat->Option nD)(fuel:Nat):Nat->cQ
 |0=>x
 |d+1=>uD x (Ai eg (eJ (AV x eg fuel d) fuel))
def Ui{P:Program}{eg:Nat->Option nD}(hm:P.follows .mixedOrders=true)(hE:vS P)(ht:Zy1 P eg){x:cQ}(hx:kK P x)(fuel:Nat):∀d,kK P (AV x eg fuel d)
 |0=>hx
 |d+1=>by
  have ih:=Ui hm hE ht hx fuel d
  exact hx.or (Zyt ht (Yi2 ih hE (Yh9 hm hE ih) (Yob ih hE) (Zzn ih) fuel))
def UU:List mM->Nat->List V->List V->List V->St->Option (V×St)
 |[],_,_,_,_,_=>none
 |e::l,f,a,c,args,S=>match Nat.beq e.f f with
  |true=>match Qq e (.func f a c) args S with
   |some r=>some r
   |none=>UU l f a c args S
  |false=>UU l f a c args S
def Ytf(l:List mM):cQ
 |.func f a c,args,S=>UU l f a c args S
 |_,_,_=>none
def Ymu{l:List mM}(h:∀e∈l,kK P (Qq e)):kK P (Ytf l):=by
 intro g args S v S' hc;unfold Ytf at hc;split at hc
 ·rename_i f a c;induction l with
  |nil=>cases hc
  |cons e l ih=>
   simp only[UU]at hc;split at hc
   ·split at hc
    ·rename_i r hr;cases hc;exact h e oa _ _ _ _ _ hr
    exact ih (fun e he=>h e (pA _ he)) hc
   exact ih (fun e he=>h e (pA _ he)) hc
 cases hc
def Qt(tb:List (Nat×O))(L:List n_)(E:List mM):cQ:=uD (MB tb L) (Ytf E)
structure a_ (P:Program) (tb:List (Nat×O)) (L:List n_) (E:List mM):Prop where
 p:∀e∈L,Xak P tb e
 e:∀e∈E,kK P (Qq e)
def a_.call{tb:List (Nat×O)}{L:List n_}{E:List mM}(h:a_ P tb L E):kK P (Qt tb L E):=(Zzz h.p).or (Ymu h.e)
def a_.nil{tb:List (Nat×O)}:a_ P tb [] []:=⟨fun _ h=>(by cases h),fun _ h=>(by cases h)⟩
structure FQ (P:Program) (eg:Nat->Option nD) (G:Nat):Prop where
 m:P.follows .mixedOrders=true
 e:vS P
 t:Zy1 P eg
 g:P.globals.size=G
def a_.zaA{eg:Nat->Option nD}(hP:FQ P eg G){tb:List (Nat×O)}{L:List n_}{E:List mM}(h:a_ P tb L E){e:n_}(he:e.ok tb G (AV (Qt tb L E) eg fuel d)=true):a_ P tb (e::L) E:=
 ⟨fun e' hm=>by
  rcases iP.1 hm with rfl|hm
  ·exact n_.pure (Ui hP.m hP.e hP.t h.call fuel d) (by rw[hP.g];exact he)
  ·exact h.p e' hm,h.e⟩
def a_.zaB{eg:Nat->Option nD}(hP:FQ P eg G){tb:List (Nat×O)}{L:List n_}{E:List mM}(h:a_ P tb L E){e:mM}(he:e.ok G (AV (Qt tb L E) eg fuel d)=true):a_ P tb L (e::E):=
 ⟨h.p,fun e' hm=>by
  rcases iP.1 hm with rfl|hm
  ·exact Yd4 (Ui hP.m hP.e hP.t h.call fuel d) (by rw[hP.g];exact he)
  ·exact h.e e' hm⟩
def Yox(tb:List (Nat×O))(G:Nat)(eg:Nat->Option nD)(L:List n_)(E:List mM):Bool:=match L with
 |[]=>false
 |e::t=>e.ok tb G (AV (Qt tb t E) eg 5000 40)
def Yhv(tb:List (Nat×O))(G:Nat)(eg:Nat->Option nD)(L:List n_)(E:List mM):Bool:=match E with
 |[]=>false
 |e::t=>e.ok G (AV (Qt tb L t) eg 5000 40)
def a_.p1{P:Program}{eg:Nat->Option nD}{G:Nat}(hP:FQ P eg G){tb:List (Nat×O)}{L:List n_}{E:List mM}(h:a_ P tb L.tail E)(he:Yox tb G eg L E=true):a_ P tb L E:=by
 cases L with
 |nil=>exact h
 |cons e t=>exact a_.zaA hP h he
def a_.e1{P:Program}{eg:Nat->Option nD}{G:Nat}(hP:FQ P eg G){tb:List (Nat×O)}{L:List n_}{E:List mM}(h:a_ P tb L E.tail)(he:Yhv tb G eg L E=true):a_ P tb L E:=by
 cases E with
 |nil=>exact h
 |cons e t=>exact a_.zaB hP h he
section
variable {call:cQ} {f:Nat} {ro:Option Nat} {a b c:ct} {fr:Fr} {st:St}
end
def Ywl{a b:Nat}:Nat.blt a b=decide (a<b):=by
 cases h:Nat.blt a b
 ·symm;simp only[decide_eq_false_iff_not];intro hc;rw[show Nat.blt a b=true from TV hc]at h;cases h
 symm;simp only[decide_eq_true_eq];exact Eu (xw h)
def Ywm{a b:Nat}:Nat.ble a b=decide (a<=b):=by
 cases h:Nat.ble a b
 ·symm;simp only[decide_eq_false_iff_not];intro hc;rw[TV hc]at h;cases h
 symm;simp only[decide_eq_true_eq];exact xw h
def cN{n:Int}(h1: -9223372036854775808<=n)(h2:n<9223372036854775808):bn .i64 n=n:=by rw[BP];simp[IntKind.wrap,IntKind.bits,IntKind.signed];omega
def Ydv{k a b}:tF .add k a b=some (.int k (bn k (a+b))):=rfl
def Ydk{k a b}:tF .sub k a b=some (.int k (bn k (a-b))):=rfl
def Ydp{k a b}:tF .mul k a b=some (.int k (bn k (a*b))):=rfl
def Ydn{k a b}(h:¬b=0):tF .quo k a b=some (.int k (bn k (a.tdiv b))):=by simp[tF,h]
def Ydm{k a b}(h:¬b=0):tF .rem k a b=some (.int k (a.tmod b)):=by simp[tF,h]
def Ydu{k a b}:tF .eql k a b=some (.bool (a==b)):=rfl
def Ydo{k a b}:tF .neq k a b=some (.bool (a !=b)):=rfl
def Ydq{k a b}:tF .lss k a b=some (.bool (decide (a<b))):=rfl
def Ydr{k a b}:tF .leq k a b=some (.bool (decide (a<=b))):=rfl
def Yds{k a b}:tF .gtr k a b=some (.bool (decide (a > b))):=rfl
def Ydt{k a b}:tF .geq k a b=some (.bool (decide (a≥b))):=rfl
def Yr4(x):cH (.pP x)=Jl x:=rfl
def Ylp(a b c):cH (.pick a b c)=GC a b c:=rfl
def Ygz(a b):cH (.alloc a b)=Mn a b:=rfl
def Yr8(a b):cH (.box a b)=Jm a b:=rfl
def Ygy(a b):cH (.build a b)=EC a b:=rfl
def Yc2(a b c d e):cH (.gg a b c d e)=Jn a b c d e:=rfl
def Ylq(a b):cH (.load a b)=Jo a b:=rfl
def Ygq(a b c):cH (.store a b c)=GD a b c:=rfl
def Ygs(a):cH (.pQ a)=Jp a:=rfl
def Yr9(a b c d e):cH (.bin a b c d e)=Jq a b c d e:=rfl
def Ywo(a b):cH (.un a b)=Jr a b:=rfl
def Zxx(a b):cH (.dG a b)=Js a b:=rfl
def Ycv(a b c):cH (.pS a b c)=Ju a b c:=rfl
def Ygv(a b):cH (.iZ a b)=Jv a b:=rfl
def Ygu(a b c):cH (.field a b c)=Jw a b c:=rfl
def Zu0(a b c d):cH (.i_ a b c d)=EE a b c d:=rfl
def Zxu(a b c):cH (.bF a b c)=GH a b c:=rfl
def Zxv(a b):cH (.extract a b)=JA a b:=rfl
def Yr5(a b):cH (.len a b)=Ag a b:=rfl
def Yls(a b):cH (.call a b)=AQ a b:=rfl
structure Yyd (r:Option (V×St)) (v:V):Prop where
 ex:∃s,r=some (v,s)/\s.w=[]
def Ydy{u v:V}:Yyd (some (u,s)) v↔u=v/\s.w=[]:=
 ⟨fun ⟨_,h1,h2⟩=>by simp only[ar,bB]at h1;exact⟨h1.1,h1.2▸h2⟩,fun ⟨h1,h2⟩=>⟨s,by rw[h1],h2⟩⟩
attribute [simp]
 Yr4 Ylp Ygz Yr8 Ygy Yc2 Ylq Ygq Ygs Yr9 Ywo Zxx Ycv Ygv Ygu Zu0 Zxu Zxv Yr5 Yls
 Jl GC Mn Jm EC Jn Jo Jp Jq Jr Js Ju Jv Jw EE JA AQ
 AR cf Src.ev T.ag gF GL az Xae Ydv Ydk Ydp Ydn Ydm Ydu Ydo Ydq Ydr Yds Ydt jJ unV wu aC Dk Dj aS V.cells V.one St.alloc St.write St.row cN Ywl Ywm xh q9 iH.pV T1 l7 c9 c9.go c9.c_ FP.free EH Nat.testBit Ydy base
end Go.Mx

