/-Calls that are known-/
import Derived.Test.YtlbnjhhebffhdaaGreatDoorMxDraw2
import Derived.Test.YtlbnjhhebffhdaaGreatDoorMxFrame
import Derived.Below
import Derived.CallsIn
set_option linter.all false
namespace Go.Mx
open Go
variable {G i:Nat} {P:Program}
def Pr:Bool->Bool->Bool
 |true,b=>b
 |false,true=>false
 |false,false=>true
def T4:IntKind->Nat
 |.i8=>0|.i16=>1|.i32=>2|.i64=>3|.u8=>4|.u16=>5|.u32=>6|.u64=>7
def Ynv:Int->Int->Bool
 |.ofNat a,b=>match b with
  |.ofNat b=>Nat.beq a b
  |.negSucc _=>false
 |.negSucc a,b=>match b with
  |.ofNat _=>false
  |.negSucc b=>Nat.beq a b
def JG:List UInt8->List UInt8->Bool
 |[],l=>match l with
  |[]=>true
  |_::_=>false
 |a::xs,l=>match l with
  |[]=>false
  |b::ys=>match Nat.beq a.toNat b.toNat with
   |true=>JG xs ys
   |false=>false
def Ps:Option Nat->Option Nat->Bool
 |none,b=>match b with
  |none=>true
  |some _=>false
 |some a,b=>match b with
  |none=>false
  |some b=>Nat.beq a b
def Zor{a b:Bool}(h:Pr a b=true):a=b:=by cases a<;>cases b<;>simp_all [Pr]
def iU{a b:Nat}(h:Nat.beq a b=true):a=b:=Tb h
def Ynx{a b:IntKind}(h:Nat.beq (T4 a) (T4 b)=true):a=b:=by cases a<;>cases b<;>first|rfl|(exact absurd h (by decide))
def Yiv{a b:Int}(h:Ynv a b=true):a=b:=by
 cases a<;>cases b<;>simp only[Ynv,gj]at h
 ·rw[iU h]
 ·rw[iU h]
def Zqc:∀{a b:List UInt8},JG a b=true->a=b
 |[],[],_=>rfl
 |[],_::_,h=>by simp[JG]at h
 |_::_,[],h=>by simp[JG]at h
 |a::xs,b::ys,h=>by
  simp only[JG]at h
  split at h
  ·rename_i e
   rw[Zqc h,UInt8.toNat_inj.1 (iU e)]
  ·cases h
def Zny{a b:Option Nat}(h:Ps a b=true):a=b:=by
 cases a<;>cases b<;>simp only[Ps,gj]at h
 ·rfl
 ·rw[iU h]
def Ms:FloatKind->Nat
 |.f32=>0|.f64=>1
def Yfa{a b:FloatKind}(h:Nat.beq (Ms a) (Ms b)=true):a=b:=by cases a<;>cases b<;>first|rfl|(exact absurd h (by decide))
def V.isBool(x:Bool):V->Bool|.bool y=>Pr x y|_=>false
def V.isInt(k:IntKind)(n:Int):V->Bool|.int k' n'=>(match Nat.beq (T4 k) (T4 k')with|true=>Ynv n n'|false=>false)|_=>false
def V.vJ(k:FloatKind)(n:Nat):V->Bool|.jM k' n'=>(match Nat.beq (Ms k) (Ms k')with|true=>Nat.beq n n'|false=>false)|_=>false
def V.Eg(k:FloatKind)(m n:Nat):V->Bool|.rp k' m' n'=>(match Nat.beq (Ms k) (Ms k')with|true=>Nat.beq m m'&&Nat.beq n n'|false=>false)|_=>false
def V.isStr(s:List UInt8):V->Bool|.str t=>JG s t|_=>false
def V.sK:V->Bool|.bO=>true|_=>false
def V.Eh(i o:Nat):V->Bool|.ptr i' o'=>(match Nat.beq i i' with|true=>Nat.beq o o'|false=>false)|_=>false
def V.nQ:V->Bool|.ziA=>true|_=>false
def V.isSlice(i o l:Nat)(c:Option Nat)(z:Nat):V->Bool|.slice i' o' l' c' z'=>Nat.beq i i'&&Nat.beq o o'&&Nat.beq l l'&&Ps c c'&&Nat.beq z z'|_=>false
def V.isEmpty:V->Bool|.empty=>true|_=>false
def V.sL:V->Bool|.bU=>true|_=>false
def V.Ei(i:Nat):V->Bool|.map j=>Nat.beq i j|_=>false
def V.pC:V->Bool|.bV=>true|_=>false
def V.isChan(i:Nat):V->Bool|.chan j=>Nat.beq i j|_=>false
def V.ziQ(i:Nat):V->Bool|.yield j=>Nat.beq i j|_=>false
def V.pD:V->Bool|.bW=>true|_=>false
def V.zgB:V->Bool|.bh=>true|_=>false
mutual
def V.beq:V->V->Bool
 |.bool x,b=>b.isBool x
 |.int k n,b=>b.isInt k n
 |.jM k n,b=>b.vJ k n
 |.rp k m n,b=>b.Eg k m n
 |.str s,b=>b.isStr s
 |.bO,b=>b.sK
 |.ptr i o,b=>b.Eh i o
 |.ziA,b=>b.nQ
 |.slice i o l c z,b=>b.isSlice i o l c z
 |.empty,b=>b.isEmpty
 |.bU,b=>b.sL
 |.map i,b=>b.Ei i
 |.bV,b=>b.pC
 |.chan i,b=>b.isChan i
 |.func f a c,b=>match b with
  |.func f' a' c'=>Nat.beq f f'&&V.iI a a'&&V.iI c c'
  |_=>false
 |.yield i,b=>b.ziQ i
 |.bW,b=>b.pD
 |.iface t v,b=>match b with
  |.iface t' v'=>Nat.beq t t'&&V.beq v v'
  |_=>false
 |.bh,b=>b.zgB
 |.agg l,b=>match b with
  |.agg l'=>V.iI l l'
  |_=>false
 |.aX l,b=>match b with
  |.aX l'=>V.iI l l'
  |_=>false
def V.iI:List V->List V->Bool
 |[],l=>match l with
  |[]=>true
  |_::_=>false
 |a::xs,l=>match l with
  |[]=>false
  |b::ys=>match V.beq a b with
   |true=>V.iI xs ys
   |false=>false
end
mutual
def V.beq_eq:∀(a b:V),V.beq a b=true->a=b
 |.bool x,b,h=>by cases b<;>simp only[V.beq,V.isBool,gj]at h;rw[Zor h]
 |.int k n,b,h=>by
  cases b<;>simp only[V.beq,V.isInt,gj]at h
  split at h
  ·rename_i e;rw[Ynx e,Yiv h]
  ·cases h
 |.jM k n,b,h=>by
  cases b<;>simp only[V.beq,V.vJ,gj]at h
  split at h
  ·rename_i e;rw[Yfa e,iU h]
  ·cases h
 |.rp k m n,b,h=>by
  cases b<;>simp only[V.beq,V.Eg,gj]at h
  split at h
  ·rename_i e
   rw[jc]at h
   rw[Yfa e,iU h.1,iU h.2]
  ·cases h
 |.str s,b,h=>by cases b<;>simp only[V.beq,V.isStr,gj]at h;rw[Zqc h]
 |.bO,b,h=>by cases b<;>simp only[V.beq,V.sK,gj]at h;rfl
 |.ptr i o,b,h=>by
  cases b<;>simp only[V.beq,V.Eh,gj]at h
  split at h
  ·rename_i e;rw[iU e,iU h]
  ·cases h
 |.ziA,b,h=>by cases b<;>simp only[V.beq,V.nQ,gj]at h;rfl
 |.slice i o l c z,b,h=>by
  cases b<;>simp only[V.beq,V.isSlice,gj,jc]at h
  obtain⟨⟨⟨⟨h1,h2⟩,h3⟩,h4⟩,h5⟩:=h
  rw[iU h1,iU h2,iU h3,Zny h4,iU h5]
 |.empty,b,h=>by cases b<;>simp only[V.beq,V.isEmpty,gj]at h;rfl
 |.bU,b,h=>by cases b<;>simp only[V.beq,V.sL,gj]at h;rfl
 |.map i,b,h=>by cases b<;>simp only[V.beq,V.Ei,gj]at h;rw[iU h]
 |.bV,b,h=>by cases b<;>simp only[V.beq,V.pC,gj]at h;rfl
 |.chan i,b,h=>by cases b<;>simp only[V.beq,V.isChan,gj]at h;rw[iU h]
 |.func f a c,b,h=>by
  cases b<;>simp only[V.beq,gj,jc]at h
  obtain⟨⟨h1,h2⟩,h3⟩:=h
  rw[iU h1,V.dm _ _ h2,V.dm _ _ h3]
 |.yield i,b,h=>by cases b<;>simp only[V.beq,V.ziQ,gj]at h;rw[iU h]
 |.bW,b,h=>by cases b<;>simp only[V.beq,V.pD,gj]at h;rfl
 |.iface t v,b,h=>by
  cases b<;>simp only[V.beq,gj,jc]at h
  rw[iU h.1,V.beq_eq _ _ h.2]
 |.bh,b,h=>by cases b<;>simp only[V.beq,V.zgB,gj]at h;rfl
 |.agg l,b,h=>by cases b<;>simp only[V.beq,gj]at h;rw[V.dm _ _ h]
 |.aX l,b,h=>by cases b<;>simp only[V.beq,gj]at h;rw[V.dm _ _ h]
def V.dm:∀(a b:List V),V.iI a b=true->a=b
 |[],[],_=>rfl
 |[],_::_,h=>by simp[V.iI]at h
 |_::_,[],h=>by simp[V.iI]at h
 |a::xs,b::ys,h=>by
  simp only[V.iI]at h
  split at h
  ·rename_i e;rw[V.beq_eq a b e,V.dm xs ys h]
  ·cases h
end
def Mt:List (V×V)->List (V×V)->Bool
 |[],l=>match l with
  |[]=>true
  |_::_=>false
 |(k,v)::xs,l=>match l with
  |[]=>false
  |(k',v')::ys=>V.beq k k'&&V.beq v v'&&Mt xs ys
def Yfg:∀{a b:List (V×V)},Mt a b=true->a=b
 |[],[],_=>rfl
 |[],_::_,h=>by simp[Mt]at h
 |_::_,[],h=>by simp[Mt]at h
 |(k,v)::xs,(k',v')::ys,h=>by
  simp only[Mt,jc]at h
  rw[V.beq_eq _ _ h.1.1,V.beq_eq _ _ h.1.2,Yfg h.2]
def O.beq:O->O->Bool
 |.cells c e rw,b=>match b with
  |.cells c' e' yL=>Nat.beq e e'&&Pr rw yL&&V.iI c c'
  |_=>false
 |.map es,b=>match b with
  |.map es'=>Mt es es'
  |_=>false
 |.chan cap buf,b=>match b with
  |.chan zjb zgF=>Nat.beq cap zjb&&V.iI buf zgF
  |_=>false
 |.eK s pos,b=>match b with
  |.eK s' pos'=>JG s s'&&Nat.beq pos pos'
  |_=>false
 |.defs o,b=>match b with
  |.defs o'=>Pr o o'
  |_=>false
 |.loop _,_=>false
 |.dead,b=>match b with
  |.dead=>true
  |_=>false
def O.beq_eq{a b:O}(h:O.beq a b=true):a=b:=by
 cases a<;>simp only[O.beq,gj]at h<;>cases b<;>simp only[gj,jc]at h
 ·obtain⟨⟨h1,h2⟩,h3⟩:=h;rw[iU h1,Zor h2,V.dm _ _ h3]
 ·rw[Yfg h]
 ·rw[iU h.1,V.dm _ _ h.2]
 ·rw[Zqc h.1,iU h.2]
 ·rw[Zor h]
 ·rfl
def LX:Option O->O->Bool
 |some a,b=>O.beq a b
 |none,_=>false
def Ydd{a:Option O}{b:O}(h:LX a b=true):a=some b:=by
 cases a with
 |none=>cases h
 |some a=>rw[O.beq_eq h]
def vEq:Option V->V->Bool
 |some a,b=>V.beq a b
 |none,_=>false
def Ypv{a:Option V}{b:V}(h:vEq a b=true):a=some b:=by
 cases a with
 |none=>cases h
 |some a=>rw[V.beq_eq _ _ h]
def T5:Option (List V)->List V->Bool
 |some a,b=>V.iI a b
 |none,_=>false
def Ztx{a:Option (List V)}{b:List V}(h:T5 a b=true):a=some b:=by
 cases a with
 |none=>cases h
 |some a=>rw[V.dm _ _ h]
mutual
def V.free:V->Bool
 |.ptr ..|.slice ..|.map _|.chan _|.yield _=>false
 |.func _ a c=>V.jv a&&V.jv c
 |.iface _ v=>V.free v
 |.agg l=>V.jv l
 |.aX l=>V.jv l
 |_=>true
def V.jv:List V->Bool
 |[]=>true
 |v::vs=>V.free v&&V.jv vs
end
mutual
def V.jw{ρ:Nat->Option Nat}:∀(v:V),V.free v=true->V.bZ ρ v=some v
 |.bool _,_=>rfl
 |.int _ _,_=>rfl
 |.jM _ _,_=>rfl
 |.rp _ _ _,_=>rfl
 |.str _,_=>rfl
 |.bO,_=>rfl
 |.ptr _ _,h=>by simp[V.free]at h
 |.ziA,_=>rfl
 |.slice _ _ _ _ _,h=>by simp[V.free]at h
 |.empty,_=>rfl
 |.bU,_=>rfl
 |.map _,h=>by simp[V.free]at h
 |.bV,_=>rfl
 |.chan _,h=>by simp[V.free]at h
 |.func f a c,h=>by
  simp only[V.free,jc]at h
  simp only[V.bZ,V.dV a h.1,V.dV c h.2]
 |.yield _,h=>by simp[V.free]at h
 |.bW,_=>rfl
 |.iface t v,h=>by
  simp only[V.free]at h
  simp only[V.bZ,V.jw v h]
 |.bh,_=>rfl
 |.agg l,h=>by
  simp only[V.free]at h
  simp only[V.bZ,V.dV l h]
 |.aX l,h=>by
  simp only[V.free]at h
  simp only[V.bZ,V.dV l h]
def V.dV{ρ:Nat->Option Nat}:∀(l:List V),V.jv l=true->V.eF ρ l=some l
 |[],_=>rfl
 |v::vs,h=>by
  simp only[V.jv,jc]at h
  simp only[V.eF,V.jw v h.1,V.dV vs h.2]
end
def yf:Nat->T O
 |0=>.nil
 |n+1=>(yf n).set n .dead
def TF:∀(n i:Nat),i<n->(yf n).get i=some .dead
 |0,i,h=>by omega
 |n+1,i,h=>by
  simp only[yf,T.al]
  by_cases e:i=n
  ·rw[aR e]
  ·rw[aA e];exact TF n i (by omega)
def base(G:Nat):St:=⟨yf G,G,[]⟩
def lk:List (Nat×O)->Nat->Option O
 |[],_=>none
 |(j,o)::l,i=>match Nat.beq j i with
  |true=>some o
  |false=>lk l i
def sD(h:T O):List (Nat×O)->T O
 |[]=>h
 |(j,o)::l=>(sD h l).set j o
def Be(h:T O):∀(l:List (Nat×O)) (i:Nat),(sD h l).get i=match lk l i with|some o=>some o|none=>h.get i
 |[],i=>rfl
 |(j,o)::l,i=>by
  simp only[sD,T.al,lk]
  by_cases e:i=j
  ·subst e
   rw[aR rfl,Nat.beq_refl _]
  ·rw[aA e]
   have:Nat.beq j i=false:=by
    cases hb:Nat.beq j i with
    |false=>rfl
    |true=>exact absurd (Tb hb).symm e
   rw[this]
   exact Be h l i
def Pt:∀{l:List (Nat×O)} {i:Nat} {o:O},lk l i=some o->(i,o)∈l
 |(j,o')::l,i,o,h=>by
  simp only[lk]at h
  split at h
  ·rename_i e
   have:=iU e
   simp only[au]at h
   subst h;subst this;exact oV
  ·exact oY _ (Pt h)
def Yej:∀{l:List (Nat×O)} {i:Nat},lk l i=none->∀p∈l,p.1≠i
 |[],_,_,p,hp=>by cases hp
 |(j,o')::l,i,h,p,hp=>by
  simp only[lk]at h
  split at h
  ·cases h
  ·rename_i e
   rcases kV.1 hp with rfl|hp
   ·intro hc
    simp only at hc
    subst hc
    have:Nat.beq j j=true:=Nat.beq_refl _
    rw[this]at e;cases e
   ·exact Yej h p hp
def Ynm{l:List (Nat×O)}{i:Nat}{o:O}(h:(i,o)∈l):∃o',lk l i=some o':=by
 cases hc:lk l i with
 |some o'=>exact⟨o',rfl⟩
 |none=>exact absurd rfl (Yej hc _ h)
def JH(i:Nat):List Nat->Bool
 |[]=>false
 |j::l=>match Nat.beq j i with
  |true=>true
  |false=>JH i l
def Pv{i:Nat}:∀{l:List Nat},JH i l=true↔i∈l
 |[]=>by simp[JH]
 |j::l=>by
  simp only[JH]
  split
  ·rename_i e;simp[iU e]
  ·rename_i e
   have:i≠j:=by
    rintro rfl
    have:Nat.beq i i=true:=Nat.beq_refl _
    rw[this]at e;cases e
   simp[Pv,this]
structure lH where
 f:Nat
 args:List V
 v:V
def O.tab:O->Bool
 |.cells c _ false=>V.jv c
 |_=>false
def OL(G:Nat):List (Nat×O)->Bool
 |[]=>true
 |(i,o)::l=>Nat.blt i G&&o.tab&&OL G l
def O.CE{ρ:Nat->Option Nat}{o:O}(h:o.tab=true):o.bZ ρ=some o:=by
 cases o with
 |cells c e rw=>
  cases rw with
  |true=>cases h
  |false=>simp only[O.bZ,V.dV c h]
 |_=>cases h
def Zna{G:Nat}:∀{l:List (Nat×O)},OL G l=true->∀{i:Nat} {o:O},lk l i=some o->i<G/\o.tab=true
 |(j,o')::l,h,i,o,ho=>by
  simp only[OL,jc]at h
  simp only[lk]at ho
  split at ho
  ·rename_i e
   simp only[au]at ho
   rw[<-iU e,<-ho]
   exact⟨BS (wZ h.1.1),h.1.2⟩
  ·exact Zna h.2 ho
def Cu(G:Nat)(tb:List (Nat×O)):St:=⟨sD (yf G) tb,G,[]⟩
def Zl8(S:St):List (Nat×O)->Bool
 |[]=>true
 |(i,o)::l=>match LX (S.h.get i) o with
  |true=>Zl8 S l
  |false=>false
def Zlq{S:St}:∀{l:List (Nat×O)},Zl8 S l=true->∀p∈l,S.h.get p.1=some p.2
 |[],_,p,hp=>by cases hp
 |(i,o)::l,h,p,hp=>by
  simp only[Zl8]at h
  split at h
  ·rename_i e
   rcases kV.1 hp with rfl|hp
   ·exact Ydd e
   ·exact Zlq h p hp
  ·cases h
def lH.ok(e:lH)(tb:List (Nat×O))(G:Nat)(call:cP):Bool:=
 match call (.func e.f [] []) e.args (Cu G tb)with
 |some (v,s)=>match s.w with
  |[]=>V.beq v e.v&&V.free e.v&&V.jv e.args&&Nat.ble G s.n&&OL G tb
  |_=>false
 |none=>false
def Yto(P:Program)(tb:List (Nat×O))(e:lH):Prop:=∀S,Zl8 S tb=true->Me P (.func e.f [] []) e.args S e.v S
def lH.pure{call:cP}(hc:i_ P call){tb:List (Nat×O)}{e:lH}(h:e.ok tb P.globals.size call=true):Yto P tb e:=by
 unfold lH.ok at h
 split at h
 ·rename_i v s bY
  split at h
  ·rename_i hw
   simp only[jc]at h
   obtain⟨⟨⟨⟨h1,h2⟩,h3⟩,h4⟩,h5⟩:=h
   have hv:=V.beq_eq _ _ h1
   subst hv
   intro S fe μ w Gv xs hh hG hx
   have fe:=Zlq fe
   have hn:P.globals.size<=S.n:=by
    apply vD
    intro aW
    obtain⟨t,ht⟩:=hh.zgj S.n aW
    have:=(hh.dom _ _ ht).1
    omega
   have F:Jm P (fun i=>if i<P.globals.size then some i else none) (fun i=>if i<P.globals.size then some i else none) [] (Cu P.globals.size tb) s S S:={
    dom:=fun i i' hi=>by
     split at hi
     ·rename_i aW;simp only[au]at hi;subst hi
      exact⟨aW,by omega⟩
     ·cases hi
    inj:=fun i j i' hi hj=>by
     split at hi<;>split at hj<;>simp_all
    zgj:=fun g hg=>by simp[hg]
    obj:=fun i i' hi=>by
     split at hi
     ·rename_i aW
      simp only[au]at hi;subst hi
      cases hl:lk tb i with
      |some o=>
       refine⟨o,o,?_,.inr (.inl (O.CE (Zna h5 hl).2)),.inl (fe _ (Pt hl))⟩
       show (sD (yf P.globals.size) tb).get i=_
       rw[Be,hl]
      |none=>
       refine⟨.dead,.dead,?_,.inl rfl,.inr rfl⟩
       show (sD (yf P.globals.size) tb).get i=_
       rw[Be,hl]
       exact TF _ _ aW
     ·cases hi
    old:=fun _ _=>rfl
    new:=fun i i' hi hr=>by
     have:P.globals.size<=i:=hi
     rw[aA (by omega)]at hr;cases hr
    Jn:=fun i j i' hi _ hr _=>by
     have:P.globals.size<=i:=hi
     rw[aA (by omega)]at hr;cases hr
    full:=fun i' h1 h2=>by omega
    gW:=Yv5 _
    w0:=rfl
    W1:=fun i i' hi _=>by rw[hw]at hi;cases hi
    W2:=fun j hj=>by cases hj
    wl:=rfl
    ai:=fun _ _ _=>rfl
    wr:=fun i i' hi _=>by rw[hw]at hi;cases hi
    obn:=fun i i' hi hr=>by
     have:P.globals.size<=i:=hi
     rw[aA (by omega)]at hr;cases hr}
   exact(Me.frame (hc _ _ _ _ _ bY) F (V.jw _ (by rfl)) (V.dV _ h3) (V.jw _ h2)) μ w Gv xs hh hG hx
  ·cases h
 ·cases h
def LW:List lH->Nat->List V->Option V
 |[],_,_=>none
 |e::l,f,args=>match Nat.beq e.f f with
  |true=>match V.iI e.args args with
   |true=>some e.v
   |false=>LW l f args
  |false=>LW l f args
def LV(tb:List (Nat×O))(l:List lH):cP
 |.func f [] [],args,st=>match LW l f args with
  |some v=>match Zl8 st tb with
   |true=>some (v,st)
   |false=>none
  |none=>none
 |_,_,_=>none
def Znn:∀{l:List lH} {f:Nat} {args:List V} {v:V},LW l f args=some v->∃e∈l,e.f=f/\e.args=args/\e.v=v
 |[],_,_,_,h=>by cases h
 |e::l,f,args,v,h=>by
  simp only[LW]at h
  split at h
  ·rename_i e1
   split at h
   ·rename_i e2
    simp only[au]at h
    exact⟨e,oV,iU e1,V.dm _ _ e2,h⟩
   ·obtain⟨e',h1,h2⟩:=Znn h;exact⟨e',oY _ h1,h2⟩
  ·obtain⟨e',h1,h2⟩:=Znn h;exact⟨e',oY _ h1,h2⟩
def Zw8{tb:List (Nat×O)}{l:List lH}(h:∀e∈l,Yto P tb e):i_ P (LV tb l):=by
 intro g args st v st' hc
 unfold LV at hc
 split at hc
 ·rename_i f
  split at hc
  ·rename_i u hu
   split at hc
   ·rename_i hp
    simp only[au,bE]at hc
    obtain⟨rfl,rfl⟩:=hc
    obtain⟨e,h1,rfl,rfl,rfl⟩:=Znn hu
    exact h e h1 st hp
   ·cases hc
  ·cases hc
 ·cases hc
structure jL where
 f:Nat
 first:List V
 f_:List V
 args:List V
 part:List (Nat×O)
 n:Nat
 v:V
 kept:List (Nat×O)
 Bl:List (Nat×O)
def jL.st(e:jL)(G:Nat):St:=⟨sD (yf G) e.part,e.n,[]⟩
def sig(G:Nat)(part:List (Nat×O))(i:Nat):Option Nat:=
 match Nat.blt i G with
 |true=>some i
 |false=>match lk part i with
  |some _=>some i
  |none=>none
def idx(i:Nat):List (Nat×O)->Nat->Option Nat
 |[],_=>none
 |(k,_)::l,m=>match Nat.beq k i with
  |true=>some m
  |false=>idx i l (m+1)
def rho(G:Nat)(part:List (Nat×O))(n:Nat)(kept:List (Nat×O))(i:Nat):Option Nat:=
 match Nat.blt i n with
 |true=>sig G part i
 |false=>idx i kept n
def CG:List (Nat×O)->Nat->List (Nat×O)
 |[],_=>[]
 |(_,o)::l,m=>(m,o)::CG l (m+1)
def Mv(ρ:Nat->Option Nat)(s:St)(i:Nat)(o':O):Bool:=
 match s.h.get i with
 |some o=>match o' with
  |.dead=>true
  |o'=>LX (o.bZ ρ) o'
 |none=>false
def T6(ρ:Nat->Option Nat)(s:St)(n:Nat):List (Nat×O)->Nat->Bool
 |[],_=>true
 |(k,o)::l,m=>Ps (ρ k) (some m)&&Nat.ble n k&&Nat.blt k s.n&&Mv ρ s k o&&T6 ρ s n l (m+1)
def jL.chk(e:jL)(G:Nat)(v:V)(s:St):Bool:=
 Nat.ble G e.n&&Nat.ble e.n s.n&&(e.part.all fun p=>Nat.blt p.1 e.n&&LX (p.2.bZ (sig G e.part)) p.2)&&
 T5 (V.eF (sig G e.part) e.first) e.first&&T5 (V.eF (sig G e.part) e.f_) e.f_&&T5 (V.eF (sig G e.part) e.args) e.args&&
 vEq (V.bZ (rho G e.part e.n e.kept) v) e.v&&
 T6 (rho G e.part e.n e.kept) s e.n e.kept e.n&&
 (s.w.all fun i=>match sig G e.part i with|some _=>JH i (e.Bl.map (·.1))|none=>true)&&
 (e.Bl.all fun p=>JH p.1 s.w&&Ps (sig G e.part p.1) (some p.1)&&Mv (rho G e.part e.n e.kept) s p.1 p.2)
def jL.ok(e:jL)(G:Nat)(call:cP):Bool:=
 match call (.func e.f e.first e.f_) e.args (e.st G)with
 |some (v,s)=>e.chk G v s
 |none=>false
def jL.out(e:jL)(S:St):St:=⟨sD (sD S.h e.Bl) (CG e.kept e.n),e.n+e.kept.length,e.Bl.map (·.1)++S.w⟩
def Pw(e:jL):cP
 |.func f a c,args,S=>match Nat.beq e.f f with
  |true=>match V.iI e.args args&&V.iI e.first a&&V.iI e.f_ c&&Nat.beq S.n e.n&&Zl8 S e.part with
   |true=>some (e.v,e.out S)
   |false=>none
  |false=>none
 |_,_,_=>none
def Px{i:Nat}:∀{l:List (Nat×O)} {m i':Nat},idx i l m=some i'->m<=i'/\i'<m+l.length/\∃o,l[i'-m]?=some (i,o)
 |[],m,i',h=>by cases h
 |(k,o)::l,m,i',h=>by
  simp only[idx]at h
  split at h
  ·rename_i e
   simp only[au]at h;subst h
   have:=iU e;subst this
   exact⟨Yv5 _,by simp,o,by simp⟩
  ·obtain⟨h1,h2,o',h3⟩:=Px h
   refine⟨by omega,by simp;omega,o',?_⟩
   rw[show i'-m=(i'-(m+1))+1 by omega]
   simpa using h3
def Zpn:∀{l:List (Nat×O)} {m j:Nat} {p:Nat×O},l[j]?=some p->lk (CG l m) (m+j)=some p.2
 |[],m,j,p,h=>by simp at h
 |(k,o)::l,m,0,p,h=>by
  simp at h;subst h
  simp[CG,lk]
 |(k,o)::l,m,j+1,p,h=>by
  simp only[CG,lk]
  have:Nat.beq m (m+(j+1))=false:=by
   cases hb:Nat.beq m (m+(j+1))with
   |false=>rfl
   |true=>have:=iU hb;omega
  rw[this,show m+(j+1)=(m+1)+j by omega]
  exact Zpn (by simpa using h)
def Zma:∀{l:List (Nat×O)} {m i:Nat},i<m->lk (CG l m) i=none
 |[],_,_,_=>rfl
 |(k,o)::l,m,i,h=>by
  simp only[CG,lk]
  have:Nat.beq m i=false:=by
   cases hb:Nat.beq m i with
   |false=>rfl
   |true=>have:=iU hb;omega
  rw[this]
  exact Zma (by omega)
def Zpr{ρ:Nat->Option Nat}{s:St}{n:Nat}:∀{l:List (Nat×O)} {m:Nat},T6 ρ s n l m=true->∀{j:Nat} {p:Nat×O},l[j]?=some p->ρ p.1=some (m+j)/\n<=p.1/\p.1<s.n/\Mv ρ s p.1 p.2=true
 |[],m,_,j,p,h=>by simp at h
 |(k,o)::l,m,h,j,p,hj=>by
  simp only[T6,jc]at h
  obtain⟨⟨⟨⟨h1,h2⟩,h3⟩,h4⟩,h5⟩:=h
  cases j with
  |zero=>
   simp at hj;subst hj
   exact⟨Zny h1,wZ h2,BS (wZ h3),h4⟩
  |succ j=>
   obtain⟨q1,q2⟩:=Zpr h5 (j:=j) (by simpa using hj)
   exact⟨by rw[q1];congr 1;omega,q2⟩
def Zpm{ρ:Nat->Option Nat}{s:St}{o':O}(h:Mv ρ s i o'=true):∃o,s.h.get i=some o/\(o'=.dead\/o.bZ ρ=some o'):=by
 unfold Mv at h
 split at h
 ·rename_i o ho
  refine⟨o,ho,?_⟩
  split at h
  ·exact .inl rfl
  ·exact .inr (Ydd h)
 ·cases h
def Mw{part:List (Nat×O)}{i':Nat}(h:sig G part i=some i'):i'=i/\(i<G\/∃o,lk part i=some o):=by
 unfold sig at h
 split at h
 ·rename_i e
  simp only[au]at h
  exact⟨h.symm,.inl (BS (wZ e))⟩
 ·split at h
  ·rename_i o ho
   simp only[au]at h
   exact⟨h.symm,.inr ⟨o,ho⟩⟩
  ·cases h
def Ya1{call:cP}(bY:i_ P call){e:jL}(h:e.ok P.globals.size call=true):i_ P (Pw e):=by
 intro g args S v S' hc
 unfold Pw at hc
 split at hc
 ·rename_i f a c
  split at hc
  ·rename_i hf
   have hf:=iU hf
   subst hf
   split at hc
   ·rename_i cZ
    simp only[jc]at cZ
    obtain⟨⟨⟨⟨c1,c2⟩,c3⟩,c4⟩,c5⟩:=cZ
    have c1:=V.dm _ _ c1
    have c2:=V.dm _ _ c2
    have c3:=V.dm _ _ c3
    have c4:=iU c4
    have c5:=Zlq c5
    simp only[au,bE]at hc
    obtain⟨rfl,rfl⟩:=hc
    subst c1;subst c2;subst c3
    unfold jL.ok at h
    split at h
    ·rename_i v0 s bQ
     unfold jL.chk at h
     simp only[jc,uv]at h
     obtain⟨⟨⟨⟨⟨⟨⟨⟨⟨k1,k2⟩,k3⟩,k4⟩,k5⟩,k6⟩,k7⟩,k8⟩,k9⟩,k10⟩:=h
     have k1:=wZ k1
     have k2:=wZ k2
     have fe:∀i o,lk e.part i=some o->i<e.n/\o.bZ (sig P.globals.size e.part)=some o/\S.h.get i=some o:=fun i o ho=>by
      have hm:=Pt ho
      obtain⟨q1,q2⟩:=k3 _ hm
      exact⟨BS (wZ q1),Ydd q2,c5 _ hm⟩
     have T7:∀i,e.n<=i->rho P.globals.size e.part e.n e.kept i=idx i e.kept e.n:=fun i hi=>by
      unfold rho
      have:Nat.blt i e.n=false:=by
       cases hb:Nat.blt i e.n with
       |false=>rfl
       |true=>have:=BS (wZ hb);omega
      rw[this]
     have zW:∀j p,e.kept[j]?=some p->rho P.globals.size e.part e.n e.kept p.1=some (e.n+j)/\e.n<=p.1/\p.1<s.n/\Mv (rho P.globals.size e.part e.n e.kept) s p.1 p.2=true:=fun j p hj=>Zpr k8 hj
     have Py:∀j,j<e.n->(e.out S).h.get j=match lk e.Bl j with|some o=>some o|none=>S.h.get j:=fun j hj=>by
      show (sD (sD S.h e.Bl) (CG e.kept e.n)).get j=_
      rw[Be,Zma hj,Be]
     have F:Jm P (sig P.globals.size e.part) (rho P.globals.size e.part e.n e.kept) (e.Bl.map (·.1)) (e.st P.globals.size) s S (e.out S):={
      dom:=fun i i' hi=>by
       obtain⟨rfl,Mf⟩:=Mw hi
       have:i'<e.n:=by
        rcases Mf with h|⟨o,ho⟩
        ·omega
        ·exact(fe _ _ ho).1
       exact⟨this,by omega⟩
      inj:=fun i j i' hi hj=>by rw[<-(Mw hi).1,<-(Mw hj).1]
      zgj:=fun g hg=>by
       unfold sig
       have:Nat.blt g P.globals.size=true:=Td hg
       rw[this]
      obj:=fun i i' hi=>by
       obtain⟨rfl,Mf⟩:=Mw hi
       cases hl:lk e.part i' with
       |some o=>
        obtain⟨q1,q2,q3⟩:=fe _ _ hl
        refine⟨o,o,?_,.inr (.inl q2),.inl q3⟩
        show (sD (yf P.globals.size) e.part).get i'=_
        rw[Be,hl]
       |none=>
        have hg:i'<P.globals.size:=by
         rcases Mf with h|⟨o,ho⟩
         ·exact h
         ·rw[hl]at ho;cases ho
        refine⟨.dead,.dead,?_,.inl rfl,.inr rfl⟩
        show (sD (yf P.globals.size) e.part).get i'=_
        rw[Be,hl]
        exact TF _ _ hg
      old:=fun i hi=>by
       have:Nat.blt i e.n=true:=Td hi
       unfold rho;rw[this]
      new:=fun i i' hi hr=>by
       rw[T7 i hi]at hr
       obtain⟨q1,q2,o,q3⟩:=Px hr
       obtain⟨_,_,r3,_⟩:=zW _ _ q3
       exact⟨by omega,q2,r3⟩
      Jn:=fun i j i' hi hj LZ hrj=>by
       rw[T7 i hi]at LZ
       rw[T7 j hj]at hrj
       obtain⟨_,_,o,q3⟩:=Px LZ
       obtain⟨_,_,o',TC⟩:=Px hrj
       rw[q3]at TC
       cases TC;rfl
      full:=fun i' h1 h2=>by
       have h2':i'<e.n+e.kept.length:=h2
       obtain⟨p,hp⟩:∃p,e.kept[i'-e.n]?=some p:=⟨_,Yv8 (by omega)⟩
       obtain⟨r1,r2,_,_⟩:=zW _ _ hp
       exact⟨p.1,r2,by rw[r1];congr 1;omega⟩
      gW:=by show S.n<=e.n+e.kept.length;omega
      w0:=rfl
      W1:=fun i i' hi hs=>by
       obtain⟨rfl,_⟩:=Mw hs
       have:=k9 _ hi
       rw[hs]at this
       exact Pv.1 this
      W2:=fun j hj=>by
       obtain⟨p,hp,rfl⟩:=vo.1 hj
       obtain⟨⟨q1,q2⟩,_⟩:=k10 _ hp
       exact⟨p.1,Pv.1 q1,Zny q2⟩
      wl:=rfl
      ai:=fun j hj hn=>by
       rw[Py j (by omega)]
       cases hl:lk e.Bl j with
       |none=>rfl
       |some o=>exact absurd (vo.2 ⟨_,Pt hl,rfl⟩) hn
      wr:=fun i i' hi hs=>by
       obtain⟨rfl,Mf⟩:=Mw hs
       have aW:i'<e.n:=by
        rcases Mf with h|⟨o,ho⟩
        ·omega
        ·exact(fe _ _ ho).1
       have:=k9 _ hi
       rw[hs]at this
       obtain⟨p,hp,Pz⟩:=vo.1 (Pv.1 this)
       obtain⟨o',vM⟩:=Ynm (l:=e.Bl) (i:=i') (o:=p.2) (by rw[<-Pz];exact hp)
       obtain⟨_,q3⟩:=k10 _ (Pt vM)
       obtain⟨o,r1,r2⟩:=Zpm q3
       exact⟨o,o',r1,by rw[Py _ aW,vM],r2⟩
      obn:=fun i i' hi hr=>by
       rw[T7 i hi]at hr
       obtain⟨q1,q2,o,q3⟩:=Px hr
       obtain⟨_,_,_,r4⟩:=zW _ _ q3
       obtain⟨o2,t1,t2⟩:=Zpm r4
       refine⟨o2,o,t1,?_,t2⟩
       show (sD (sD S.h e.Bl) (CG e.kept e.n)).get i'=_
       have:=Zpn (m:=e.n) q3
       rw[show e.n+(i'-e.n)=i' by omega]at this
       rw[Be,this]}
     refine Me.frame (bY _ _ _ _ _ bQ) F ?_ (Ztx k6) (Ypv k7)
     simp only[V.bZ,Ztx k4,Ztx k5]
    ·cases h
   ·cases hc
  ·cases hc
 ·cases hc
def x_(x:cP)(dL:Nat->Option kp)(fuel:Nat):Nat->cP
 |0=>x
 |d+1=>rZ x (xg dL (dS (x_ x dL fuel d) fuel))
def Ts{P:Program}{dL:Nat->Option kp}(hm:P.follows .mixedOrders=true)(hE:tE P)(ht:Zwe P dL){x:cP}(hx:i_ P x)(fuel:Nat):∀d,i_ P (x_ x dL fuel d)
 |0=>hx
 |d+1=>by
  have ih:=Ts hm hE ht hx fuel d
  exact hx.or (Zv3 ht (Yf1 ih hE (Yfi hm hE ih) (Yko ih hE) (Zw2 ih) fuel))
def T8:List jL->Nat->List V->List V->List V->St->Option (V×St)
 |[],_,_,_,_,_=>none
 |e::l,f,a,c,args,S=>match Nat.beq e.f f with
  |true=>match Pw e (.func f a c) args S with
   |some r=>some r
   |none=>T8 l f a c args S
  |false=>T8 l f a c args S
def Yod(l:List jL):cP
 |.func f a c,args,S=>T8 l f a c args S
 |_,_,_=>none
def Yi9{l:List jL}(h:∀e∈l,i_ P (Pw e)):i_ P (Yod l):=by
 intro g args S v S' hc
 unfold Yod at hc
 split at hc
 ·rename_i f a c
  induction l with
  |nil=>cases hc
  |cons e l ih=>
   simp only[T8]at hc
   split at hc
   ·split at hc
    ·rename_i r hr
     cases hc
     exact h e oV _ _ _ _ _ hr
    ·exact ih (fun e he=>h e (oY _ he)) hc
   ·exact ih (fun e he=>h e (oY _ he)) hc
 ·cases hc
def PA(tb:List (Nat×O))(L:List lH)(E:List jL):cP:=rZ (LV tb L) (Yod E)
structure ar (P:Program) (tb:List (Nat×O)) (L:List lH) (E:List jL):Prop where
 p:∀e∈L,Yto P tb e
 e:∀e∈E,i_ P (Pw e)
def ar.call{tb:List (Nat×O)}{L:List lH}{E:List jL}(h:ar P tb L E):i_ P (PA tb L E):=(Zw8 h.p).or (Yi9 h.e)
def ar.nil{tb:List (Nat×O)}:ar P tb [] []:=⟨fun _ h=>(by cases h),fun _ h=>(by cases h)⟩
structure C7 (P:Program) (dL:Nat->Option kp) (G:Nat):Prop where
 m:P.follows .mixedOrders=true
 e:tE P
 t:Zwe P dL
 g:P.globals.size=G
def ar.zem{dL:Nat->Option kp}{fuel d:Nat}(hP:C7 P dL G){tb:List (Nat×O)}{L:List lH}{E:List jL}(h:ar P tb L E){e:lH}(he:e.ok tb G (x_ (PA tb L E) dL fuel d)=true):ar P tb (e::L) E:=
 ⟨fun e' hm=>by
  rcases kV.1 hm with rfl|hm
  ·exact lH.pure (Ts hP.m hP.e hP.t h.call fuel d) (by rw[hP.g];exact he)
  ·exact h.p e' hm,h.e⟩
def ar.zen{dL:Nat->Option kp}{fuel d:Nat}(hP:C7 P dL G){tb:List (Nat×O)}{L:List lH}{E:List jL}(h:ar P tb L E){e:jL}(he:e.ok G (x_ (PA tb L E) dL fuel d)=true):ar P tb L (e::E):=
 ⟨h.p,fun e' hm=>by
  rcases kV.1 hm with rfl|hm
  ·exact Ya1 (Ts hP.m hP.e hP.t h.call fuel d) (by rw[hP.g];exact he)
  ·exact h.e e' hm⟩
def Yk5(tb:List (Nat×O))(G:Nat)(dL:Nat->Option kp)(L:List lH)(E:List jL):Bool:=match L with
 |[]=>false
 |e::t=>e.ok tb G (x_ (PA tb t E) dL 5000 40)
def Ye1(tb:List (Nat×O))(G:Nat)(dL:Nat->Option kp)(L:List lH)(E:List jL):Bool:=match E with
 |[]=>false
 |e::t=>e.ok G (x_ (PA tb L t) dL 5000 40)
def ar.p1{P:Program}{dL:Nat->Option kp}{G:Nat}(hP:C7 P dL G){tb:List (Nat×O)}{L:List lH}{E:List jL}(h:ar P tb L.tail E)(he:Yk5 tb G dL L E=true):ar P tb L E:=by
 cases L with
 |nil=>exact h
 |cons e t=>exact ar.zem hP h he
def ar.e1{P:Program}{dL:Nat->Option kp}{G:Nat}(hP:C7 P dL G){tb:List (Nat×O)}{L:List lH}{E:List jL}(h:ar P tb L E.tail)(he:Ye1 tb G dL L E=true):ar P tb L E:=by
 cases E with
 |nil=>exact h
 |cons e t=>exact ar.zen hP h he
section
variable {call:cP} {f:Nat} {ro:Option Nat} {a b c:cC} {fr:Fr} {st:St}
end
def Yqo{a b:Nat}:Nat.blt a b=decide (a<b):=by
 cases h:Nat.blt a b
 ·symm;simp only[decide_eq_false_iff_not];intro hc;rw[show Nat.blt a b=true from Td hc]at h;cases h
 ·symm;simp only[decide_eq_true_eq];exact BS (wZ h)
def Yqp{a b:Nat}:Nat.ble a b=decide (a<=b):=by
 cases h:Nat.ble a b
 ·symm;simp only[decide_eq_false_iff_not];intro hc;rw[Td hc]at h;cases h
 ·symm;simp only[decide_eq_true_eq];exact wZ h
def cH{n:Int}(h1: -9223372036854775808<=n)(h2:n<9223372036854775808):bA .i64 n=n:=by
 rw[zj]
 simp[IntKind.wrap,IntKind.bits,IntKind.signed]
 omega
def Yak{k a b}:qG .add k a b=some (.int k (bA k (a+b))):=rfl
def Zz9{k a b}:qG .sub k a b=some (.int k (bA k (a-b))):=rfl
def Yae{k a b}:qG .mul k a b=some (.int k (bA k (a*b))):=rfl
def Yac{k a b}(h:¬b=0):qG .quo k a b=some (.int k (bA k (a.tdiv b))):=by simp[qG,h]
def Yab{k a b}(h:¬b=0):qG .rem k a b=some (.int k (a.tmod b)):=by simp[qG,h]
def Yaj{k a b}:qG .eql k a b=some (.bool (a==b)):=rfl
def Yad{k a b}:qG .neq k a b=some (.bool (a !=b)):=rfl
def Yaf{k a b}:qG .lss k a b=some (.bool (decide (a<b))):=rfl
def Yag{k a b}:qG .leq k a b=some (.bool (decide (a<=b))):=rfl
def Yah{k a b}:qG .gtr k a b=some (.bool (decide (a > b))):=rfl
def Yai{k a b}:qG .geq k a b=some (.bool (decide (a≥b))):=rfl
def Ym9(x):cJ (.kv x)=IJ x:=rfl
def Yij(a b c):cJ (.pick a b c)=DJ a b c:=rfl
def Yd4(a b):cJ (.alloc a b)=LG a b:=rfl
def Ynd(a b):cJ (.box a b)=IK a b:=rfl
def Yd3(a b):cJ (.build a b)=B1 a b:=rfl
def Zzt(a b c d e):cJ (.kb a b c d e)=IL a b c d e:=rfl
def Yik(a b):cJ (.load a b)=IM a b:=rfl
def Ydv(a b c):cJ (.store a b c)=DK a b c:=rfl
def Ydx(a):cJ (.nj a)=IN a:=rfl
def Yne(a b c d e):cJ (.bin a b c d e)=IP a b c d e:=rfl
def Yqr(a b):cJ (.un a b)=IQ a b:=rfl
def Zvc(a b):cJ (.zig a b)=IS a b:=rfl
def Zzm(a b c):cJ (.np a b c)=IU a b c:=rfl
def Yd0(a b):cJ (.ky a b)=IV a b:=rfl
def Ydz(a b c):cJ (.field a b c)=IW a b c:=rfl
def Zsk(a b c d):cJ (.dB a b c d)=B3 a b c d:=rfl
def Zu9(a b c):cJ (.ft a b c)=DN a b c:=rfl
def Zva(a b):cJ (.extract a b)=I1 a b:=rfl
def Yna(a b):cJ (.len a b)=xd a b:=rfl
def Yim(a b):cJ (.call a b)=xX a b:=rfl
structure Yrs (r:Option (V×St)) (v:V):Prop where
 ex:∃s,r=some (v,s)/\s.w=[]
def Yan{u v:V}{s:St}:Yrs (some (u,s)) v↔u=v/\s.w=[]:=
 ⟨fun ⟨_,h1,h2⟩=>by simp only[au,bE]at h1;exact⟨h1.1,h1.2▸h2⟩,fun ⟨h1,h2⟩=>⟨s,by rw[h1],h2⟩⟩
attribute [simp]
 Ym9 Yij Yd4 Ynd Yd3 Zzt Yik Ydv Ydx Yne Yqr Zvc Zzm Yd0 Ydz Zsk Zu9 Zva Yna Yim
 IJ DJ LG IK B1 IL IM IN IP IQ IS IU IV IW B3 I1 xX
 xY bX Src.ev T.al gJ DS aL Ytk Yak Zz9 Yae Yac Yab Yaj Yad Yaf Yag Yah Yai iF unV tB aH AT AS aI V.cells V.one St.alloc St.write St.row cH Yqo Yqp xe Zcy fZ.nt Tj gY b_ b_.go b_.chk FP.free I6 Nat.testBit Yan base
end Go.Mx

