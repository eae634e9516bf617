/-
  Calls that are known: a table of runs over small heaps stands in for the runs themselves.
-/
import Derived.Test.YtlbophlgohokkaaGreatDoorMxDraw2
import Derived.Test.YtlbophlgohokkaaGreatDoorMxFrame
import Derived.Below
import Derived.CallsIn
set_option linter.all false
namespace Go.Mx
open Go
variable {G i:Nat} {P:Program}
def Jb:Bool->Bool->Bool
 |true,b=>b
 |false,true=>false
 |false,false=>true
def MI:IntKind->Nat
 |.i8=>0|.i16=>1|.i32=>2|.i64=>3|.u8=>4|.u16=>5|.u32=>6|.u64=>7
def SV:Int->Int->Bool
 |.ofNat a,b=>match b with
  |.ofNat b=>Nat.beq a b
  |.negSucc _=>false
 |.negSucc a,b=>match b with
  |.ofNat _=>false
  |.negSucc b=>Nat.beq a b
def DZ:List UInt8->List UInt8->Bool
 |[],l=>match l with
  |[]=>true
  |_::_=>false
 |a::xs,l=>match l with
  |[]=>false
  |b::ys=>match Nat.beq a.toNat b.toNat with
   |true=>DZ xs ys
   |false=>false
def Jc:Option Nat->Option Nat->Bool
 |none,b=>match b with
  |none=>true
  |some _=>false
 |some a,b=>match b with
  |none=>false
  |some b=>Nat.beq a b
theorem SW{a b:Bool}(h:Jb a b=true):a=b:=by cases a<;>cases b<;>simp_all [Jb]
theorem iP{a b:Nat}(h:Nat.beq a b=true):a=b:=LG h
theorem Ylg{a b:IntKind}(h:Nat.beq (MI a) (MI b)=true):a=b:=by cases a<;>cases b<;>first|rfl|(exact absurd h (by decide))
theorem Yge{a b:Int}(h:SV a b=true):a=b:=by
 cases a<;>cases b<;>simp only[SV,fx]at h
 ·rw[iP h]
 ·rw[iP h]
theorem SX:∀{a b:List UInt8},DZ a b=true->a=b
 |[],[],_=>rfl
 |[],_::_,h=>by simp[DZ]at h
 |_::_,[],h=>by simp[DZ]at h
 |a::xs,b::ys,h=>by
  simp only[DZ]at h
  split at h
  ·rename_i e
   rw[SX h,UInt8.toNat_inj.1 (iP e)]
  ·cases h
theorem SY{a b:Option Nat}(h:Jc a b=true):a=b:=by
 cases a<;>cases b<;>simp only[Jc,fx]at h
 ·rfl
 ·rw[iP h]
def MJ:FloatKind->Nat
 |.f32=>0|.f64=>1
theorem Ylp{a b:FloatKind}(h:Nat.beq (MJ a) (MJ b)=true):a=b:=by cases a<;>cases b<;>first|rfl|(exact absurd h (by decide))
def V.isBool(x:Bool):V->Bool|.bool y=>Jb x y|_=>false
def V.isInt(k:IntKind)(n:Int):V->Bool|.int k' n'=>(match Nat.beq (MI k) (MI k')with|true=>SV n n'|false=>false)|_=>false
def V.B4(k:FloatKind)(n:Nat):V->Bool|.rM k' n'=>(match Nat.beq (MJ k) (MJ k')with|true=>Nat.beq n n'|false=>false)|_=>false
def V.isStr(s:List UInt8):V->Bool|.str t=>DZ s t|_=>false
def V.qT:V->Bool|.bD=>true|_=>false
def V.B5(i o:Nat):V->Bool|.ptr i' o'=>(match Nat.beq i i' with|true=>Nat.beq o o'|false=>false)|_=>false
def V.my:V->Bool|.aa=>true|_=>false
def V.isSlice(i o l:Nat)(c:Option Nat)(z:Nat):V->Bool|.slice i' o' l' c' z'=>Nat.beq i i'&&Nat.beq o o'&&Nat.beq l l'&&Jc c c'&&Nat.beq z z'|_=>false
def V.isEmpty:V->Bool|.empty=>true|_=>false
def V.qU:V->Bool|.bH=>true|_=>false
def V.B6(i:Nat):V->Bool|.map j=>Nat.beq i j|_=>false
def V.nS:V->Bool|.bN=>true|_=>false
def V.isChan(i:Nat):V->Bool|.chan j=>Nat.beq i j|_=>false
def V.uy(i:Nat):V->Bool|.yield j=>Nat.beq i j|_=>false
def V.nT:V->Bool|.aG=>true|_=>false
def V.mA:V->Bool|.aP=>true|_=>false
mutual
def V.beq:V->V->Bool
 |.bool x,b=>b.isBool x
 |.int k n,b=>b.isInt k n
 |.rM k n,b=>b.B4 k n
 |.str s,b=>b.isStr s
 |.bD,b=>b.qT
 |.ptr i o,b=>b.B5 i o
 |.aa,b=>b.my
 |.slice i o l c z,b=>b.isSlice i o l c z
 |.empty,b=>b.isEmpty
 |.bH,b=>b.qU
 |.map i,b=>b.B6 i
 |.bN,b=>b.nS
 |.chan i,b=>b.isChan i
 |.func f a c,b=>match b with
  |.func f' a' c'=>Nat.beq f f'&&V.gO a a'&&V.gO c c'
  |_=>false
 |.yield i,b=>b.uy i
 |.aG,b=>b.nT
 |.iface t v,b=>match b with
  |.iface t' v'=>Nat.beq t t'&&V.beq v v'
  |_=>false
 |.aP,b=>b.mA
 |.agg l,b=>match b with
  |.agg l'=>V.gO l l'
  |_=>false
 |.aZ l,b=>match b with
  |.aZ l'=>V.gO l l'
  |_=>false
def V.gO:List V->List V->Bool
 |[],l=>match l with
  |[]=>true
  |_::_=>false
 |a::xs,l=>match l with
  |[]=>false
  |b::ys=>match V.beq a b with
   |true=>V.gO xs ys
   |false=>false
end
mutual
theorem V.beq_eq:∀(a b:V),V.beq a b=true->a=b
 |.bool x,b,h=>by cases b<;>simp only[V.beq,V.isBool,fx]at h;rw[SW h]
 |.int k n,b,h=>by
  cases b<;>simp only[V.beq,V.isInt,fx]at h
  split at h
  ·rename_i e;rw[Ylg e,Yge h]
  ·cases h
 |.rM k n,b,h=>by
  cases b<;>simp only[V.beq,V.B4,fx]at h
  split at h
  ·rename_i e;rw[Ylp e,iP h]
  ·cases h
 |.str s,b,h=>by cases b<;>simp only[V.beq,V.isStr,fx]at h;rw[SX h]
 |.bD,b,h=>by cases b<;>simp only[V.beq,V.qT,fx]at h;rfl
 |.ptr i o,b,h=>by
  cases b<;>simp only[V.beq,V.B5,fx]at h
  split at h
  ·rename_i e;rw[iP e,iP h]
  ·cases h
 |.aa,b,h=>by cases b<;>simp only[V.beq,V.my,fx]at h;rfl
 |.slice i o l c z,b,h=>by
  cases b<;>simp only[V.beq,V.isSlice,fx,gW]at h
  obtain⟨⟨⟨⟨h1,h2⟩,h3⟩,h4⟩,h5⟩:=h
  rw[iP h1,iP h2,iP h3,SY h4,iP h5]
 |.empty,b,h=>by cases b<;>simp only[V.beq,V.isEmpty,fx]at h;rfl
 |.bH,b,h=>by cases b<;>simp only[V.beq,V.qU,fx]at h;rfl
 |.map i,b,h=>by cases b<;>simp only[V.beq,V.B6,fx]at h;rw[iP h]
 |.bN,b,h=>by cases b<;>simp only[V.beq,V.nS,fx]at h;rfl
 |.chan i,b,h=>by cases b<;>simp only[V.beq,V.isChan,fx]at h;rw[iP h]
 |.func f a c,b,h=>by
  cases b<;>simp only[V.beq,fx,gW]at h
  obtain⟨⟨h1,h2⟩,h3⟩:=h
  rw[iP h1,V.cL _ _ h2,V.cL _ _ h3]
 |.yield i,b,h=>by cases b<;>simp only[V.beq,V.uy,fx]at h;rw[iP h]
 |.aG,b,h=>by cases b<;>simp only[V.beq,V.nT,fx]at h;rfl
 |.iface t v,b,h=>by
  cases b<;>simp only[V.beq,fx,gW]at h
  rw[iP h.1,V.beq_eq _ _ h.2]
 |.aP,b,h=>by cases b<;>simp only[V.beq,V.mA,fx]at h;rfl
 |.agg l,b,h=>by cases b<;>simp only[V.beq,fx]at h;rw[V.cL _ _ h]
 |.aZ l,b,h=>by cases b<;>simp only[V.beq,fx]at h;rw[V.cL _ _ h]
theorem V.cL:∀(a b:List V),V.gO a b=true->a=b
 |[],[],_=>rfl
 |[],_::_,h=>by simp[V.gO]at h
 |_::_,[],h=>by simp[V.gO]at h
 |a::xs,b::ys,h=>by
  simp only[V.gO]at h
  split at h
  ·rename_i e;rw[V.beq_eq a b e,V.cL xs ys h]
  ·cases h
end
def GJ:List (V×V)->List (V×V)->Bool
 |[],l=>match l with
  |[]=>true
  |_::_=>false
 |(k,v)::xs,l=>match l with
  |[]=>false
  |(k',v')::ys=>V.beq k k'&&V.beq v v'&&GJ xs ys
theorem YH:∀{a b:List (V×V)},GJ a b=true->a=b
 |[],[],_=>rfl
 |[],_::_,h=>by simp[GJ]at h
 |_::_,[],h=>by simp[GJ]at h
 |(k,v)::xs,(k',v')::ys,h=>by
  simp only[GJ,gW]at h
  rw[V.beq_eq _ _ h.1.1,V.beq_eq _ _ h.1.2,YH h.2]
def O.beq:O->O->Bool
 |.cells c e rw,b=>match b with
  |.cells c' e' vf=>Nat.beq e e'&&Jb rw vf&&V.gO c c'
  |_=>false
 |.map es,b=>match b with
  |.map fP=>GJ es fP
  |_=>false
 |.chan cap buf,b=>match b with
  |.chan D3 oE=>Nat.beq cap D3&&V.gO buf oE
  |_=>false
 |.dT s pos,b=>match b with
  |.dT s' pos'=>DZ s s'&&Nat.beq pos pos'
  |_=>false
 |.defs o,b=>match b with
  |.defs o'=>Jb o o'
  |_=>false
 |.loop _,_=>false
 |.dead,b=>match b with
  |.dead=>true
  |_=>false
theorem O.beq_eq{a b:O}(h:O.beq a b=true):a=b:=by
 cases a<;>simp only[O.beq,fx]at h<;>cases b<;>simp only[fx,gW]at h
 ·obtain⟨⟨h1,h2⟩,h3⟩:=h;rw[iP h1,SW h2,V.cL _ _ h3]
 ·rw[YH h]
 ·rw[iP h.1,V.cL _ _ h.2]
 ·rw[SX h.1,iP h.2]
 ·rw[SW h]
 ·rfl
def Gj:Option O->O->Bool
 |some a,b=>O.beq a b
 |none,_=>false
theorem SZ{a:Option O}{b:O}(h:Gj a b=true):a=some b:=by
 cases a with
 |none=>cases h
 |some a=>rw[O.beq_eq h]
def YI:Option V->V->Bool
 |some a,b=>V.beq a b
 |none,_=>false
theorem Ync{a:Option V}{b:V}(h:YI a b=true):a=some b:=by
 cases a with
 |none=>cases h
 |some a=>rw[V.beq_eq _ _ h]
def MK:Option (List V)->List V->Bool
 |some a,b=>V.gO a b
 |none,_=>false
theorem S0{a:Option (List V)}{b:List V}(h:MK a b=true):a=some b:=by
 cases a with
 |none=>cases h
 |some a=>rw[V.cL _ _ h]
mutual
def V.free:V->Bool
 |.ptr ..|.slice ..|.map _|.chan _|.yield _=>false
 |.func _ a c=>V.iQ a&&V.iQ c
 |.iface _ v=>V.free v
 |.agg l=>V.iQ l
 |.aZ l=>V.iQ l
 |_=>true
def V.iQ:List V->Bool
 |[]=>true
 |v::vs=>V.free v&&V.iQ vs
end
mutual
theorem V.iR{ρ:Nat->Option Nat}:∀(v:V),V.free v=true->V.bU ρ v=some v
 |.bool _,_=>rfl
 |.int _ _,_=>rfl
 |.rM _ _,_=>rfl
 |.str _,_=>rfl
 |.bD,_=>rfl
 |.ptr _ _,h=>by simp[V.free]at h
 |.aa,_=>rfl
 |.slice _ _ _ _ _,h=>by simp[V.free]at h
 |.empty,_=>rfl
 |.bH,_=>rfl
 |.map _,h=>by simp[V.free]at h
 |.bN,_=>rfl
 |.chan _,h=>by simp[V.free]at h
 |.func f a c,h=>by
  simp only[V.free,gW]at h
  simp only[V.bU,V.dq a h.1,V.dq c h.2]
 |.yield _,h=>by simp[V.free]at h
 |.aG,_=>rfl
 |.iface t v,h=>by
  simp only[V.free]at h
  simp only[V.bU,V.iR v h]
 |.aP,_=>rfl
 |.agg l,h=>by
  simp only[V.free]at h
  simp only[V.bU,V.dq l h]
 |.aZ l,h=>by
  simp only[V.free]at h
  simp only[V.bU,V.dq l h]
theorem V.dq{ρ:Nat->Option Nat}:∀(l:List V),V.iQ l=true->V.dM ρ l=some l
 |[],_=>rfl
 |v::vs,h=>by
  simp only[V.iQ,gW]at h
  simp only[V.dM,V.iR v h.1,V.dq vs h.2]
end
def wi:Nat->T O
 |0=>.nil
 |n+1=>(wi n).set n .dead
theorem ML:∀(n i:Nat),i<n->(wi n).get i=some .dead
 |0,i,h=>by omega
 |n+1,i,h=>by
  simp only[wi,T.ai]
  by_cases e:i=n
  ·rw[aF e]
  ·rw[au e];exact ML n i (by omega)
def base(G:Nat):St:=⟨wi G,G,[]⟩
def lk:List (Nat×O)->Nat->Option O
 |[],_=>none
 |(j,o)::l,i=>match Nat.beq j i with
  |true=>some o
  |false=>lk l i
def qV(h:T O):List (Nat×O)->T O
 |[]=>h
 |(j,o)::l=>(qV h l).set j o
theorem zh(h:T O):∀(l:List (Nat×O)) (i:Nat),(qV h l).get i=match lk l i with|some o=>some o|none=>h.get i
 |[],i=>rfl
 |(j,o)::l,i=>by
  simp only[qV,T.ai,lk]
  by_cases e:i=j
  ·subst e
   rw[aF rfl,Nat.beq_refl _]
  ·rw[au e]
   have:Nat.beq j i=false:=by
    cases hb:Nat.beq j i with
    |false=>rfl
    |true=>exact absurd (LG hb).symm e
   rw[this]
   exact zh h l i
theorem Jd:∀{l:List (Nat×O)} {i:Nat} {o:O},lk l i=some o->(i,o)∈l
 |(j,o')::l,i,o,h=>by
  simp only[lk]at h
  split at h
  ·rename_i e
   have:=iP e
   simp only[aj]at h
   subst h;subst this;exact jk
  ·exact iz _ (Jd h)
theorem YJ:∀{l:List (Nat×O)} {i:Nat},lk l i=none->∀p∈l,p.1≠i
 |[],_,_,p,hp=>by cases hp
 |(j,o')::l,i,h,p,hp=>by
  simp only[lk]at h
  split at h
  ·cases h
  ·rename_i e
   rcases kb.1 hp with rfl|hp
   ·intro hc
    simp only at hc
    subst hc
    have:Nat.beq j j=true:=Nat.beq_refl _
    rw[this]at e;cases e
   ·exact YJ h p hp
theorem Yk7{l:List (Nat×O)}{i:Nat}{o:O}(h:(i,o)∈l):∃o',lk l i=some o':=by
 cases hc:lk l i with
 |some o'=>exact⟨o',rfl⟩
 |none=>exact absurd rfl (YJ hc _ h)
def D4(i:Nat):List Nat->Bool
 |[]=>false
 |j::l=>match Nat.beq j i with
  |true=>true
  |false=>D4 i l
theorem Je{i:Nat}:∀{l:List Nat},D4 i l=true↔i∈l
 |[]=>by simp[D4]
 |j::l=>by
  simp only[D4]
  split
  ·rename_i e;simp[iP e]
  ·rename_i e
   have:i≠j:=by
    rintro rfl
    have:Nat.beq i i=true:=Nat.beq_refl _
    rw[this]at e;cases e
   simp[Je,this]
structure ka where
 f:Nat
 args:List V
 v:V
def O.S3:O->Bool
 |.cells c _ false=>V.iQ c
 |_=>false
def Jf(G:Nat):List (Nat×O)->Bool
 |[]=>true
 |(i,o)::l=>Nat.blt i G&&o.S3&&Jf G l
theorem O.Av{ρ:Nat->Option Nat}{o:O}(h:o.S3=true):o.bU ρ=some o:=by
 cases o with
 |cells c e rw=>
  cases rw with
  |true=>cases h
  |false=>simp only[O.bU,V.dq c h]
 |_=>cases h
theorem S4{G:Nat}:∀{l:List (Nat×O)},Jf G l=true->∀{i:Nat} {o:O},lk l i=some o->i<G/\o.S3=true
 |(j,o')::l,h,i,o,ho=>by
  simp only[Jf,gW]at h
  simp only[lk]at ho
  split at ho
  ·rename_i e
   simp only[aj]at ho
   rw[<-iP e,<-ho]
   exact⟨zD (uS h.1.1),h.1.2⟩
  ·exact S4 h.2 ho
def B7(G:Nat)(tb:List (Nat×O)):St:=⟨qV (wi G) tb,G,[]⟩
def BH(S:St):List (Nat×O)->Bool
 |[]=>true
 |(i,o)::l=>match Gj (S.h.get i) o with
  |true=>BH S l
  |false=>false
theorem S5{S:St}:∀{l:List (Nat×O)},BH S l=true->∀p∈l,S.h.get p.1=some p.2
 |[],_,p,hp=>by cases hp
 |(i,o)::l,h,p,hp=>by
  simp only[BH]at h
  split at h
  ·rename_i e
   rcases kb.1 hp with rfl|hp
   ·exact SZ e
   ·exact S5 h p hp
  ·cases h
def ka.ok(e:ka)(tb:List (Nat×O))(G:Nat)(call:cm):Bool:=
 match call (.func e.f [] []) e.args (B7 G tb)with
 |some (v,s)=>match s.w with
  |[]=>V.beq v e.v&&V.free e.v&&V.iQ e.args&&Nat.ble G s.n&&Jf G tb
  |_=>false
 |none=>false
def S6(P:Program)(tb:List (Nat×O))(e:ka):Prop:=∀S,BH S tb=true->Gl P (.func e.f [] []) e.args S e.v S
theorem ka.pure{call:cm}(hc:ix P call){tb:List (Nat×O)}{e:ka}(h:e.ok tb P.globals.size call=true):S6 P tb e:=by
 unfold ka.ok at h
 split at h
 ·rename_i v s bR
  split at h
  ·rename_i hw
   simp only[gW]at h
   obtain⟨⟨⟨⟨h1,h2⟩,h3⟩,h4⟩,h5⟩:=h
   have hv:=V.beq_eq _ _ h1
   subst hv
   intro S eh μ w Gv xs hh hG hx
   have eh:=S5 eh
   have hn:P.globals.size<=S.n:=by
    apply vN
    intro aD
    obtain⟨t,ht⟩:=hh.fF S.n aD
    have:=(hh.cG _ _ ht).1
    omega
   have F:DE P (fun i=>if i<P.globals.size then some i else none) (fun i=>if i<P.globals.size then some i else none) [] (B7 P.globals.size tb) s S S:={
    cG:=fun i i' hi=>by
     split at hi
     ·rename_i aD;simp only[aj]at hi;subst hi
      exact⟨aD,by omega⟩
     ·cases hi
    inj:=fun i j i' hi hj=>by
     split at hi<;>split at hj<;>simp_all
    fF:=fun g hg=>by simp[hg]
    obj:=fun i i' hi=>by
     split at hi
     ·rename_i aD
      simp only[aj]at hi;subst hi
      cases hl:lk tb i with
      |some o=>
       refine⟨o,o,?_,.inr (.inl (O.Av (S4 h5 hl).2)),.inl (eh _ (Jd hl))⟩
       show (qV (wi P.globals.size) tb).get i=_
       rw[zh,hl]
      |none=>
       refine⟨.dead,.dead,?_,.inl rfl,.inr rfl⟩
       show (qV (wi P.globals.size) tb).get i=_
       rw[zh,hl]
       exact ML _ _ aD
     ·cases hi
    old:=fun _ _=>rfl
    new:=fun i i' hi hr=>by
     have:P.globals.size<=i:=hi
     rw[au (by omega)]at hr;cases hr
    DF:=fun i j i' hi _ hr _=>by
     have:P.globals.size<=i:=hi
     rw[au (by omega)]at hr;cases hr
    full:=fun i' h1 h2=>by omega
    eX:=aS _
    w0:=rfl
    W1:=fun i i' hi _=>by rw[hw]at hi;cases hi
    W2:=fun j hj=>by cases hj
    wl:=rfl
    ae:=fun _ _ _=>rfl
    wr:=fun i i' hi _=>by rw[hw]at hi;cases hi
    RL:=fun i i' hi hr=>by
     have:P.globals.size<=i:=hi
     rw[au (by omega)]at hr;cases hr}
   exact(Gl.frame (hc _ _ _ _ _ bR) F (V.iR _ (by rfl)) (V.dq _ h3) (V.iR _ h2)) μ w Gv xs hh hG hx
  ·cases h
 ·cases h
def Gi:List ka->Nat->List V->Option V
 |[],_,_=>none
 |e::l,f,args=>match Nat.beq e.f f with
  |true=>match V.gO e.args args with
   |true=>some e.v
   |false=>Gi l f args
  |false=>Gi l f args
def Gh(tb:List (Nat×O))(l:List ka):cm
 |.func f [] [],args,st=>match Gi l f args with
  |some v=>match BH st tb with
   |true=>some (v,st)
   |false=>none
  |none=>none
 |_,_,_=>none
theorem S7:∀{l:List ka} {f:Nat} {args:List V} {v:V},Gi l f args=some v->∃e∈l,e.f=f/\e.args=args/\e.v=v
 |[],_,_,_,h=>by cases h
 |e::l,f,args,v,h=>by
  simp only[Gi]at h
  split at h
  ·rename_i e1
   split at h
   ·rename_i e2
    simp only[aj]at h
    exact⟨e,jk,iP e1,V.cL _ _ e2,h⟩
   ·obtain⟨e',h1,h2⟩:=S7 h;exact⟨e',iz _ h1,h2⟩
  ·obtain⟨e',h1,h2⟩:=S7 h;exact⟨e',iz _ h1,h2⟩
theorem Wl{tb:List (Nat×O)}{l:List ka}(h:∀e∈l,S6 P tb e):ix P (Gh tb l):=by
 intro g args st v av hc
 unfold Gh at hc
 split at hc
 ·rename_i f
  split at hc
  ·rename_i u hu
   split at hc
   ·rename_i hp
    simp only[aj,bq]at hc
    obtain⟨rfl,rfl⟩:=hc
    obtain⟨e,h1,rfl,rfl,rfl⟩:=S7 hu
    exact h e h1 st hp
   ·cases hc
  ·cases hc
 ·cases hc
structure je where
 f:Nat
 first:List V
 fE:List V
 args:List V
 part:List (Nat×O)
 n:Nat
 v:V
 kept:List (Nat×O)
 zi:List (Nat×O)
def je.st(e:je)(G:Nat):St:=⟨qV (wi G) e.part,e.n,[]⟩
def sig(G:Nat)(part:List (Nat×O))(i:Nat):Option Nat:=
 match Nat.blt i G with
 |true=>some i
 |false=>match lk part i with
  |some _=>some i
  |none=>none
def idx(i:Nat):List (Nat×O)->Nat->Option Nat
 |[],_=>none
 |(k,_)::l,m=>match Nat.beq k i with
  |true=>some m
  |false=>idx i l (m+1)
def Aw(G:Nat)(part:List (Nat×O))(n:Nat)(kept:List (Nat×O))(i:Nat):Option Nat:=
 match Nat.blt i n with
 |true=>sig G part i
 |false=>idx i kept n
def Ax:List (Nat×O)->Nat->List (Nat×O)
 |[],_=>[]
 |(_,o)::l,m=>(m,o)::Ax l (m+1)
def GK(ρ:Nat->Option Nat)(s:St)(i:Nat)(o':O):Bool:=
 match s.h.get i with
 |some o=>match o' with
  |.dead=>true
  |o'=>Gj (o.bU ρ) o'
 |none=>false
def MM(ρ:Nat->Option Nat)(s:St)(n:Nat):List (Nat×O)->Nat->Bool
 |[],_=>true
 |(k,o)::l,m=>Jc (ρ k) (some m)&&Nat.ble n k&&Nat.blt k s.n&&GK ρ s k o&&MM ρ s n l (m+1)
def je.dB(e:je)(G:Nat)(v:V)(s:St):Bool:=
 Nat.ble G e.n&&Nat.ble e.n s.n&&(e.part.all fun p=>Nat.blt p.1 e.n&&Gj (p.2.bU (sig G e.part)) p.2)&&
 MK (V.dM (sig G e.part) e.first) e.first&&MK (V.dM (sig G e.part) e.fE) e.fE&&MK (V.dM (sig G e.part) e.args) e.args&&
 YI (V.bU (Aw G e.part e.n e.kept) v) e.v&&
 MM (Aw G e.part e.n e.kept) s e.n e.kept e.n&&
 (s.w.all fun i=>match sig G e.part i with|some _=>D4 i (e.zi.map (·.1))|none=>true)&&
 (e.zi.all fun p=>D4 p.1 s.w&&Jc (sig G e.part p.1) (some p.1)&&GK (Aw G e.part e.n e.kept) s p.1 p.2)
def je.ok(e:je)(G:Nat)(call:cm):Bool:=
 match call (.func e.f e.first e.fE) e.args (e.st G)with
 |some (v,s)=>e.dB G v s
 |none=>false
def je.out(e:je)(S:St):St:=⟨qV (qV S.h e.zi) (Ax e.kept e.n),e.n+e.kept.length,e.zi.map (·.1)++S.w⟩
def Jg(e:je):cm
 |.func f a c,args,S=>match Nat.beq e.f f with
  |true=>match V.gO e.args args&&V.gO e.first a&&V.gO e.fE c&&Nat.beq S.n e.n&&BH S e.part with
   |true=>some (e.v,e.out S)
   |false=>none
  |false=>none
 |_,_,_=>none
theorem Jh{i:Nat}:∀{l:List (Nat×O)} {m i':Nat},idx i l m=some i'->m<=i'/\i'<m+l.length/\∃o,l[i'-m]?=some (i,o)
 |[],m,i',h=>by cases h
 |(k,o)::l,m,i',h=>by
  simp only[idx]at h
  split at h
  ·rename_i e
   simp only[aj]at h;subst h
   have:=iP e;subst this
   exact⟨aS _,by simp,o,by simp⟩
  ·obtain⟨h1,h2,o',h3⟩:=Jh h
   refine⟨by omega,by simp;omega,o',?_⟩
   rw[show i'-m=(i'-(m+1))+1 by omega]
   simpa using h3
theorem YK:∀{l:List (Nat×O)} {m j:Nat} {p:Nat×O},l[j]?=some p->lk (Ax l m) (m+j)=some p.2
 |[],m,j,p,h=>by simp at h
 |(k,o)::l,m,0,p,h=>by
  simp at h;subst h
  simp[Ax,lk]
 |(k,o)::l,m,j+1,p,h=>by
  simp only[Ax,lk]
  have:Nat.beq m (m+(j+1))=false:=by
   cases hb:Nat.beq m (m+(j+1))with
   |false=>rfl
   |true=>have:=iP hb;omega
  rw[this,show m+(j+1)=(m+1)+j by omega]
  exact YK (by simpa using h)
theorem YL:∀{l:List (Nat×O)} {m i:Nat},i<m->lk (Ax l m) i=none
 |[],_,_,_=>rfl
 |(k,o)::l,m,i,h=>by
  simp only[Ax,lk]
  have:Nat.beq m i=false:=by
   cases hb:Nat.beq m i with
   |false=>rfl
   |true=>have:=iP hb;omega
  rw[this]
  exact YL (by omega)
theorem YM{ρ:Nat->Option Nat}{s:St}{n:Nat}:∀{l:List (Nat×O)} {m:Nat},MM ρ s n l m=true->∀{j:Nat} {p:Nat×O},l[j]?=some p->ρ p.1=some (m+j)/\n<=p.1/\p.1<s.n/\GK ρ s p.1 p.2=true
 |[],m,_,j,p,h=>by simp at h
 |(k,o)::l,m,h,j,p,hj=>by
  simp only[MM,gW]at h
  obtain⟨⟨⟨⟨h1,h2⟩,h3⟩,h4⟩,h5⟩:=h
  cases j with
  |zero=>
   simp at hj;subst hj
   exact⟨SY h1,uS h2,zD (uS h3),h4⟩
  |succ j=>
   obtain⟨q1,q2⟩:=YM h5 (j:=j) (by simpa using hj)
   exact⟨by rw[q1];congr 1;omega,q2⟩
theorem YN{ρ:Nat->Option Nat}{s:St}{o':O}(h:GK ρ s i o'=true):∃o,s.h.get i=some o/\(o'=.dead\/o.bU ρ=some o'):=by
 unfold GK at h
 split at h
 ·rename_i o ho
  refine⟨o,ho,?_⟩
  split at h
  ·exact .inl rfl
  ·exact .inr (SZ h)
 ·cases h
theorem GL{part:List (Nat×O)}{i':Nat}(h:sig G part i=some i'):i'=i/\(i<G\/∃o,lk part i=some o):=by
 unfold sig at h
 split at h
 ·rename_i e
  simp only[aj]at h
  exact⟨h.symm,.inl (zD (uS e))⟩
 ·split at h
  ·rename_i o ho
   simp only[aj]at h
   exact⟨h.symm,.inr ⟨o,ho⟩⟩
  ·cases h
theorem Zy1{call:cm}(bR:ix P call){e:je}(h:e.ok P.globals.size call=true):ix P (Jg e):=by
 intro g args S v S' hc
 unfold Jg at hc
 split at hc
 ·rename_i f a c
  split at hc
  ·rename_i hf
   have hf:=iP hf
   subst hf
   split at hc
   ·rename_i cD
    simp only[gW]at cD
    obtain⟨⟨⟨⟨c1,c2⟩,c3⟩,c4⟩,c5⟩:=cD
    have c1:=V.cL _ _ c1
    have c2:=V.cL _ _ c2
    have c3:=V.cL _ _ c3
    have c4:=iP c4
    have c5:=S5 c5
    simp only[aj,bq]at hc
    obtain⟨rfl,rfl⟩:=hc
    subst c1;subst c2;subst c3
    unfold je.ok at h
    split at h
    ·rename_i v0 s bI
     unfold je.dB at h
     simp only[gW,m8]at h
     obtain⟨⟨⟨⟨⟨⟨⟨⟨⟨k1,k2⟩,k3⟩,k4⟩,k5⟩,k6⟩,k7⟩,k8⟩,k9⟩,k10⟩:=h
     have k1:=uS k1
     have k2:=uS k2
     have eh:∀i o,lk e.part i=some o->i<e.n/\o.bU (sig P.globals.size e.part)=some o/\S.h.get i=some o:=fun i o ho=>by
      have hm:=Jd ho
      obtain⟨q1,q2⟩:=k3 _ hm
      exact⟨zD (uS q1),SZ q2,c5 _ hm⟩
     have MN:∀i,e.n<=i->Aw P.globals.size e.part e.n e.kept i=idx i e.kept e.n:=fun i hi=>by
      unfold Aw
      have:Nat.blt i e.n=false:=by
       cases hb:Nat.blt i e.n with
       |false=>rfl
       |true=>have:=zD (uS hb);omega
      rw[this]
     have xM:∀j p,e.kept[j]?=some p->Aw P.globals.size e.part e.n e.kept p.1=some (e.n+j)/\e.n<=p.1/\p.1<s.n/\GK (Aw P.globals.size e.part e.n e.kept) s p.1 p.2=true:=fun j p hj=>YM k8 hj
     have Ji:∀j,j<e.n->(e.out S).h.get j=match lk e.zi j with|some o=>some o|none=>S.h.get j:=fun j hj=>by
      show (qV (qV S.h e.zi) (Ax e.kept e.n)).get j=_
      rw[zh,YL hj,zh]
     have F:DE P (sig P.globals.size e.part) (Aw P.globals.size e.part e.n e.kept) (e.zi.map (·.1)) (e.st P.globals.size) s S (e.out S):={
      cG:=fun i i' hi=>by
       obtain⟨rfl,Gp⟩:=GL hi
       have:i'<e.n:=by
        rcases Gp with h|⟨o,ho⟩
        ·omega
        ·exact(eh _ _ ho).1
       exact⟨this,by omega⟩
      inj:=fun i j i' hi hj=>by rw[<-(GL hi).1,<-(GL hj).1]
      fF:=fun g hg=>by
       unfold sig
       have:Nat.blt g P.globals.size=true:=LI hg
       rw[this]
      obj:=fun i i' hi=>by
       obtain⟨rfl,Gp⟩:=GL hi
       cases hl:lk e.part i' with
       |some o=>
        obtain⟨q1,q2,q3⟩:=eh _ _ hl
        refine⟨o,o,?_,.inr (.inl q2),.inl q3⟩
        show (qV (wi P.globals.size) e.part).get i'=_
        rw[zh,hl]
       |none=>
        have hg:i'<P.globals.size:=by
         rcases Gp with h|⟨o,ho⟩
         ·exact h
         ·rw[hl]at ho;cases ho
        refine⟨.dead,.dead,?_,.inl rfl,.inr rfl⟩
        show (qV (wi P.globals.size) e.part).get i'=_
        rw[zh,hl]
        exact ML _ _ hg
      old:=fun i hi=>by
       have:Nat.blt i e.n=true:=LI hi
       unfold Aw;rw[this]
      new:=fun i i' hi hr=>by
       rw[MN i hi]at hr
       obtain⟨q1,q2,o,q3⟩:=Jh hr
       obtain⟨_,_,r3,_⟩:=xM _ _ q3
       exact⟨by omega,q2,r3⟩
      DF:=fun i j i' hi hj Gn YO=>by
       rw[MN i hi]at Gn
       rw[MN j hj]at YO
       obtain⟨_,_,o,q3⟩:=Jh Gn
       obtain⟨_,_,o',Me⟩:=Jh YO
       rw[q3]at Me
       cases Me;rfl
      full:=fun i' h1 h2=>by
       have jT:i'<e.n+e.kept.length:=h2
       obtain⟨p,hp⟩:∃p,e.kept[i'-e.n]?=some p:=⟨_,dk (by omega)⟩
       obtain⟨r1,r2,_,_⟩:=xM _ _ hp
       exact⟨p.1,r2,by rw[r1];congr 1;omega⟩
      eX:=by show S.n<=e.n+e.kept.length;omega
      w0:=rfl
      W1:=fun i i' hi hs=>by
       obtain⟨rfl,_⟩:=GL hs
       have:=k9 _ hi
       rw[hs]at this
       exact Je.1 this
      W2:=fun j hj=>by
       obtain⟨p,hp,rfl⟩:=iy.1 hj
       obtain⟨⟨q1,q2⟩,_⟩:=k10 _ hp
       exact⟨p.1,Je.1 q1,SY q2⟩
      wl:=rfl
      ae:=fun j hj hn=>by
       rw[Ji j (by omega)]
       cases hl:lk e.zi j with
       |none=>rfl
       |some o=>exact absurd (iy.2 ⟨_,Jd hl,rfl⟩) hn
      wr:=fun i i' hi hs=>by
       obtain⟨rfl,Gp⟩:=GL hs
       have aD:i'<e.n:=by
        rcases Gp with h|⟨o,ho⟩
        ·omega
        ·exact(eh _ _ ho).1
       have:=k9 _ hi
       rw[hs]at this
       obtain⟨p,hp,Jj⟩:=iy.1 (Je.1 this)
       obtain⟨o',tL⟩:=Yk7 (l:=e.zi) (i:=i') (o:=p.2) (by rw[<-Jj];exact hp)
       obtain⟨_,q3⟩:=k10 _ (Jd tL)
       obtain⟨o,r1,r2⟩:=YN q3
       exact⟨o,o',r1,by rw[Ji _ aD,tL],r2⟩
      RL:=fun i i' hi hr=>by
       rw[MN i hi]at hr
       obtain⟨q1,q2,o,q3⟩:=Jh hr
       obtain⟨_,_,_,r4⟩:=xM _ _ q3
       obtain⟨o2,t1,t2⟩:=YN r4
       refine⟨o2,o,t1,?_,t2⟩
       show (qV (qV S.h e.zi) (Ax e.kept e.n)).get i'=_
       have:=YK (m:=e.n) q3
       rw[show e.n+(i'-e.n)=i' by omega]at this
       rw[zh,this]}
     refine Gl.frame (bR _ _ _ _ _ bI) F ?_ (S0 k6) (Ync k7)
     simp only[V.bU,S0 k4,S0 k5]
    ·cases h
   ·cases hc
  ·cases hc
 ·cases hc
def we(x:cm)(dc:Nat->Option jE)(fuel:Nat):Nat->cm
 |0=>x
 |d+1=>qB x (u_ dc (dn (we x dc fuel d) fuel))
theorem MO{P:Program}{dc:Nat->Option jE}(hm:P.follows .mixedOrders=true)(hE:rm P)(ht:RX P dc){x:cm}(hx:ix P x)(fuel:Nat):∀d,ix P (we x dc fuel d)
 |0=>hx
 |d+1=>by
  have ih:=MO hm hE ht hx fuel d
  exact hx.or (Zuv ht (Yt ih hE (Xg hm hE ih) (XB ih hE) (Xu ih) fuel))
def MP:List je->Nat->List V->List V->List V->St->Option (V×St)
 |[],_,_,_,_,_=>none
 |e::l,f,a,c,args,S=>match Nat.beq e.f f with
  |true=>match Jg e (.func f a c) args S with
   |some r=>some r
   |none=>MP l f a c args S
  |false=>MP l f a c args S
def S8(l:List je):cm
 |.func f a c,args,S=>MP l f a c args S
 |_,_,_=>none
theorem Ygu{l:List je}(h:∀e∈l,ix P (Jg e)):ix P (S8 l):=by
 intro g args S v S' hc
 unfold S8 at hc
 split at hc
 ·rename_i f a c
  induction l with
  |nil=>cases hc
  |cons e l ih=>
   simp only[MP]at hc
   split at hc
   ·split at hc
    ·rename_i r hr
     cases hc
     exact h e jk _ _ _ _ _ hr
    ·exact ih (fun e he=>h e (iz _ he)) hc
   ·exact ih (fun e he=>h e (iz _ he)) hc
 ·cases hc
def Jk(tb:List (Nat×O))(L:List ka)(E:List je):cm:=qB (Gh tb L) (S8 E)
structure bf (P:Program) (tb:List (Nat×O)) (L:List ka) (E:List je):Prop where
 p:∀e∈L,S6 P tb e
 e:∀e∈E,ix P (Jg e)
theorem bf.call{tb:List (Nat×O)}{L:List ka}{E:List je}(h:bf P tb L E):ix P (Jk tb L E):=(Wl h.p).or (Ygu h.e)
theorem bf.nil{tb:List (Nat×O)}:bf P tb [] []:=⟨fun _ h=>(by cases h),fun _ h=>(by cases h)⟩
structure A5 (P:Program) (dc:Nat->Option jE) (G:Nat):Prop where
 m:P.follows .mixedOrders=true
 e:rm P
 t:RX P dc
 g:P.globals.size=G
theorem bf.S9{dc:Nat->Option jE}{fuel d:Nat}(hP:A5 P dc G){tb:List (Nat×O)}{L:List ka}{E:List je}(h:bf P tb L E){e:ka}(he:e.ok tb G (we (Jk tb L E) dc fuel d)=true):bf P tb (e::L) E:=
 ⟨fun e' hm=>by
  rcases kb.1 hm with rfl|hm
  ·exact ka.pure (MO hP.m hP.e hP.t h.call fuel d) (by rw[hP.g];exact he)
  ·exact h.p e' hm,h.e⟩
theorem bf.Ta{dc:Nat->Option jE}{fuel d:Nat}(hP:A5 P dc G){tb:List (Nat×O)}{L:List ka}{E:List je}(h:bf P tb L E){e:je}(he:e.ok G (we (Jk tb L E) dc fuel d)=true):bf P tb L (e::E):=
 ⟨h.p,fun e' hm=>by
  rcases kb.1 hm with rfl|hm
  ·exact Zy1 (MO hP.m hP.e hP.t h.call fuel d) (by rw[hP.g];exact he)
  ·exact h.e e' hm⟩
def Wh(tb:List (Nat×O))(G:Nat)(dc:Nat->Option jE)(L:List ka)(E:List je):Bool:=match L with
 |[]=>false
 |e::t=>e.ok tb G (we (Jk tb t E) dc 5000 40)
def Wj(tb:List (Nat×O))(G:Nat)(dc:Nat->Option jE)(L:List ka)(E:List je):Bool:=match E with
 |[]=>false
 |e::t=>e.ok G (we (Jk tb L t) dc 5000 40)
theorem bf.p1{P:Program}{dc:Nat->Option jE}{G:Nat}(hP:A5 P dc G){tb:List (Nat×O)}{L:List ka}{E:List je}(h:bf P tb L.tail E)(he:Wh tb G dc L E=true):bf P tb L E:=by
 cases L with
 |nil=>exact h
 |cons e t=>exact bf.S9 hP h he
theorem bf.e1{P:Program}{dc:Nat->Option jE}{G:Nat}(hP:A5 P dc G){tb:List (Nat×O)}{L:List ka}{E:List je}(h:bf P tb L E.tail)(he:Wj tb G dc L E=true):bf P tb L E:=by
 cases E with
 |nil=>exact h
 |cons e t=>exact bf.Ta hP h he
section
variable {call:cm} {f:Nat} {ro:Option Nat} {a b c:aq} {fr:Fr} {st:St}
end
theorem Yn1{a b:Nat}:Nat.blt a b=decide (a<b):=by
 cases h:Nat.blt a b
 ·symm;simp only[decide_eq_false_iff_not];intro hc;rw[show Nat.blt a b=true from LI hc]at h;cases h
 ·symm;simp only[decide_eq_true_eq];exact zD (uS h)
theorem Yn2{a b:Nat}:Nat.ble a b=decide (a<=b):=by
 cases h:Nat.ble a b
 ·symm;simp only[decide_eq_false_iff_not];intro hc;rw[LI hc]at h;cases h
 ·symm;simp only[decide_eq_true_eq];exact uS h
theorem cj{n:Int}(h1: -9223372036854775808<=n)(h2:n<9223372036854775808):bn .i64 n=n:=by
 rw[xa]
 simp[IntKind.wrap,IntKind.bits,IntKind.signed]
 omega
theorem Zyq{k a b}:oJ .add k a b=some (.int k (bn k (a+b))):=rfl
theorem Zyf{k a b}:oJ .sub k a b=some (.int k (bn k (a-b))):=rfl
theorem Zyk{k a b}:oJ .mul k a b=some (.int k (bn k (a*b))):=rfl
theorem Zyi{k a b}(h:¬b=0):oJ .quo k a b=some (.int k (bn k (a.tdiv b))):=by simp[oJ,h]
theorem Zyh{k a b}(h:¬b=0):oJ .rem k a b=some (.int k (a.tmod b)):=by simp[oJ,h]
theorem Zyp{k a b}:oJ .eql k a b=some (.bool (a==b)):=rfl
theorem Zyj{k a b}:oJ .neq k a b=some (.bool (a !=b)):=rfl
theorem Zyl{k a b}:oJ .lss k a b=some (.bool (decide (a<b))):=rfl
theorem Zym{k a b}:oJ .leq k a b=some (.bool (decide (a<=b))):=rfl
theorem Zyn{k a b}:oJ .gtr k a b=some (.bool (decide (a > b))):=rfl
theorem Zyo{k a b}:oJ .geq k a b=some (.bool (decide (a≥b))):=rfl
theorem Yks(x):bZ (.aY x)=C5 x:=rfl
theorem Yft(a b c):bZ (.pick a b c)=Bs a b c:=rfl
theorem Ybq(a b):bZ (.alloc a b)=F0 a b:=rfl
theorem Ykw(a b):bZ (.box a b)=C6 a b:=rfl
theorem Ybp(a b):bZ (.build a b)=zM a b:=rfl
theorem Zxy(a b c d e):bZ (.aO a b c d e)=C7 a b c d e:=rfl
theorem Yfu(a b):bZ (.load a b)=C8 a b:=rfl
theorem Ybh(a b c):bZ (.store a b c)=Bt a b c:=rfl
theorem Ybj(a):bZ (.fy a)=C9 a:=rfl
theorem Ykx(a b c d e):bZ (.bin a b c d e)=Da a b c d e:=rfl
theorem Yn4(a b):bZ (.un a b)=Db a b:=rfl
theorem Zt8(a b):bZ (.bb a b)=Dc a b:=rfl
theorem Zxr(a b c):bZ (.bM a b c)=De a b c:=rfl
theorem Ybm(a b):bZ (.de a b)=Df a b:=rfl
theorem Ybl(a b c):bZ (.field a b c)=Dh a b c:=rfl
theorem Zrq(a b c d):bZ (.dG a b c d)=zO a b c d:=rfl
theorem Zt5(a b c):bZ (.aN a b c)=Bw a b c:=rfl
theorem Zt6(a b):bZ (.extract a b)=Dm a b:=rfl
theorem Ykt(a b):bZ (.len a b)=uY a b:=rfl
theorem Yfw(a b):bZ (.call a b)=vV a b:=rfl
structure YP (r:Option (V×St)) (v:V):Prop where
 ex:∃s,r=some (v,s)/\s.w=[]
theorem Zyt{u v:V}{s:St}:YP (some (u,s)) v↔u=v/\s.w=[]:=
 ⟨fun ⟨_,h1,h2⟩=>by simp only[aj,bq]at h1;exact⟨h1.1,h1.2▸h2⟩,fun ⟨h1,h2⟩=>⟨s,by rw[h1],h2⟩⟩
attribute [simp]
 Yks Yft Ybq Ykw Ybp Zxy Yfu Ybh Ybj Ykx Yn4 Zt8 Zxr Ybm Ybl Zrq Zt5 Zt6 Ykt Yfw
 C5 Bs F0 C6 zM C7 C8 C9 Da Db Dc De Df Dh zO Dm vV
 vW bP Src.ev T.ai fT BB ad Q6 Zyq Zyf Zyk Zyi Zyh Zyp Zyj Zyl Zym Zyn Zyo gj Q7 rj ay yJ yI aU V.cells V.one St.alloc St.write St.row cj Yn1 Yn2 uZ mL gG.l8 LN iG dw dw.go dw.dB FP.free zQ Nat.testBit Zyt base
end Go.Mx

