/-Calls that are known-/
import Derived.Test.YtgccnjdneojagaaGreatDoorMxDraw4
import Derived.Below
import Derived.CallsIn
set_option linter.all false
namespace Go.Mx
open Go
variable {G i:Nat} {P:Program}
def PF:Bool->Bool->Bool
 |true,b=>b
 |false,true=>false
 |false,false=>true
def UE:IntKind->Nat
 |.i8=>0|.i16=>1|.i32=>2|.i64=>3|.u8=>4|.u16=>5|.u32=>6|.u64=>7
def Yua:Int->Int->Bool
 |.ofNat a,b=>match b with
  |.ofNat b=>Nat.beq a b
  |.negSucc _=>false
 |.negSucc a,b=>match b with
  |.ofNat _=>false
  |.negSucc b=>Nat.beq a b
def JQ:List UInt8->List UInt8->Bool
 |[],l=>match l with
  |[]=>true
  |_::_=>false
 |a::xs,l=>match l with
  |[]=>false
  |b::ys=>match Nat.beq a.toNat b.toNat with
   |true=>JQ xs ys
   |false=>false
def PG:Option Nat->Option Nat->Bool
 |none,b=>match b with
  |none=>true
  |some _=>false
 |some a,b=>match b with
  |none=>false
  |some b=>Nat.beq a b
def Zqz{a b:Bool}(h:PF a b=true):a=b:=by cases a<;>cases b<;>simp_all [PF]
def k_{a b:Nat}(h:Nat.beq a b=true):a=b:=TV h
def Yuc{a b:IntKind}(h:Nat.beq (UE a) (UE b)=true):a=b:=by cases a<;>cases b<;>first|rfl|(exact absurd h (by decide))
def Ynl{a b:Int}(h:Yua a b=true):a=b:=by
 cases a<;>cases b<;>simp only[Yua,ix]at h
 ·rw[k_ h]
 rw[k_ h]
def Zsz:∀{a b:List UInt8},JQ a b=true->a=b
 |[],[],_=>rfl
 |[],_::_,h=>by simp[JQ]at h
 |_::_,[],h=>by simp[JQ]at h
 |a::xs,b::ys,h=>by
  simp only[JQ]at h
  split at h
  ·rename_i e
   rw[Zsz h,UInt8.toNat_inj.1 (k_ e)]
  ·cases h
def Zpx{a b:Option Nat}(h:PG a b=true):a=b:=by
 cases a<;>cases b<;>simp only[PG,ix]at h
 ·rfl
 rw[k_ h]
def UF:FloatKind->Nat
 |.f32=>0|.f64=>1
def Yui{a b:FloatKind}(h:Nat.beq (UF a) (UF b)=true):a=b:=by cases a<;>cases b<;>first|rfl|(exact absurd h (by decide))
def V.isBool(x:Bool):V->Bool|.bool y=>PF x y|_=>false
def V.isInt(k:IntKind)(n:Int):V->Bool|.int k' n'=>(match Nat.beq (UE k) (UE k')with|true=>Yua n n'|false=>false)|_=>false
def V.GU(k:FloatKind)(n:Nat):V->Bool|.xy k' n'=>(match Nat.beq (UF k) (UF k')with|true=>Nat.beq n n'|false=>false)|_=>false
def V.isStr(s:List UInt8):V->Bool|.str t=>JQ s t|_=>false
def V.vW:V->Bool|.bM=>true|_=>false
def V.GV(i o:Nat):V->Bool|.ptr i' o'=>(match Nat.beq i i' with|true=>Nat.beq o o'|false=>false)|_=>false
def V.qg:V->Bool|.aa=>true|_=>false
def V.isSlice(i o l:Nat)(c:Option Nat)(z:Nat):V->Bool|.slice i' o' l' c' z'=>Nat.beq i i'&&Nat.beq o o'&&Nat.beq l l'&&PG c c'&&Nat.beq z z'|_=>false
def V.isEmpty:V->Bool|.empty=>true|_=>false
def V.vY:V->Bool|.bV=>true|_=>false
def V.GW(i:Nat):V->Bool|.map j=>Nat.beq i j|_=>false
def V.sO:V->Bool|.bW=>true|_=>false
def V.isChan(i:Nat):V->Bool|.chan j=>Nat.beq i j|_=>false
def V.zq(i:Nat):V->Bool|.yield j=>Nat.beq i j|_=>false
def V.sP:V->Bool|.bY=>true|_=>false
def V.qh:V->Bool|.bb=>true|_=>false
mutual
def V.beq:V->V->Bool
 |.bool x,b=>b.isBool x
 |.int k n,b=>b.isInt k n
 |.xy k n,b=>b.GU k n
 |.str s,b=>b.isStr s
 |.bM,b=>b.vW
 |.ptr i o,b=>b.GV i o
 |.aa,b=>b.qg
 |.slice i o l c z,b=>b.isSlice i o l c z
 |.empty,b=>b.isEmpty
 |.bV,b=>b.vY
 |.map i,b=>b.GW i
 |.bW,b=>b.sO
 |.chan i,b=>b.isChan i
 |.func f a c,b=>match b with
  |.func f' a' c'=>Nat.beq f f'&&V.jI a a'&&V.jI c c'
  |_=>false
 |.yield i,b=>b.zq i
 |.bY,b=>b.sP
 |.iface t v,b=>match b with
  |.iface t' v'=>Nat.beq t t'&&V.beq v v'
  |_=>false
 |.bb,b=>b.qh
 |.agg l,b=>match b with
  |.agg l'=>V.jI l l'
  |_=>false
 |.aX l,b=>match b with
  |.aX l'=>V.jI l l'
  |_=>false
def V.jI:List V->List V->Bool
 |[],l=>match l with
  |[]=>true
  |_::_=>false
 |a::xs,l=>match l with
  |[]=>false
  |b::ys=>match V.beq a b with
   |true=>V.jI xs ys
   |false=>false
end
mutual
def V.beq_eq:∀(a b:V),V.beq a b=true->a=b
 |.bool x,b,h=>by cases b<;>simp only[V.beq,V.isBool,ix]at h;rw[Zqz h]
 |.int k n,b,h=>by
  cases b<;>simp only[V.beq,V.isInt,ix]at h
  split at h
  ·rename_i e;rw[Yuc e,Ynl h]
  ·cases h
 |.xy k n,b,h=>by
  cases b<;>simp only[V.beq,V.GU,ix]at h
  split at h
  ·rename_i e;rw[Yui e,k_ h]
  ·cases h
 |.str s,b,h=>by cases b<;>simp only[V.beq,V.isStr,ix]at h;rw[Zsz h]
 |.bM,b,h=>by cases b<;>simp only[V.beq,V.vW,ix]at h;rfl
 |.ptr i o,b,h=>by
  cases b<;>simp only[V.beq,V.GV,ix]at h
  split at h
  ·rename_i e;rw[k_ e,k_ h]
  ·cases h
 |.aa,b,h=>by cases b<;>simp only[V.beq,V.qg,ix]at h;rfl
 |.slice i o l c z,b,h=>by
  cases b<;>simp only[V.beq,V.isSlice,ix,fW]at h
  obtain⟨⟨⟨⟨h1,h2⟩,h3⟩,h4⟩,h5⟩:=h
  rw[k_ h1,k_ h2,k_ h3,Zpx h4,k_ h5]
 |.empty,b,h=>by cases b<;>simp only[V.beq,V.isEmpty,ix]at h;rfl
 |.bV,b,h=>by cases b<;>simp only[V.beq,V.vY,ix]at h;rfl
 |.map i,b,h=>by cases b<;>simp only[V.beq,V.GW,ix]at h;rw[k_ h]
 |.bW,b,h=>by cases b<;>simp only[V.beq,V.sO,ix]at h;rfl
 |.chan i,b,h=>by cases b<;>simp only[V.beq,V.isChan,ix]at h;rw[k_ h]
 |.func f a c,b,h=>by
  cases b<;>simp only[V.beq,ix,fW]at h
  obtain⟨⟨h1,h2⟩,h3⟩:=h
  rw[k_ h1,V.dG _ _ h2,V.dG _ _ h3]
 |.yield i,b,h=>by cases b<;>simp only[V.beq,V.zq,ix]at h;rw[k_ h]
 |.bY,b,h=>by cases b<;>simp only[V.beq,V.sP,ix]at h;rfl
 |.iface t v,b,h=>by
  cases b<;>simp only[V.beq,ix,fW]at h
  rw[k_ h.1,V.beq_eq _ _ h.2]
 |.bb,b,h=>by cases b<;>simp only[V.beq,V.qh,ix]at h;rfl
 |.agg l,b,h=>by cases b<;>simp only[V.beq,ix]at h;rw[V.dG _ _ h]
 |.aX l,b,h=>by cases b<;>simp only[V.beq,ix]at h;rw[V.dG _ _ h]
def V.dG:∀(a b:List V),V.jI a b=true->a=b
 |[],[],_=>rfl
 |[],_::_,h=>by simp[V.jI]at h
 |_::_,[],h=>by simp[V.jI]at h
 |a::xs,b::ys,h=>by
  simp only[V.jI]at h
  split at h
  ·rename_i e;rw[V.beq_eq a b e,V.dG xs ys h]
  ·cases h
end
def MA:List (V×V)->List (V×V)->Bool
 |[],l=>match l with
  |[]=>true
  |_::_=>false
 |(k,v)::xs,l=>match l with
  |[]=>false
  |(k',v')::ys=>V.beq k k'&&V.beq v v'&&MA xs ys
def Yi6:∀{a b:List (V×V)},MA a b=true->a=b
 |[],[],_=>rfl
 |[],_::_,h=>by simp[MA]at h
 |_::_,[],h=>by simp[MA]at h
 |(k,v)::xs,(k',v')::ys,h=>by
  simp only[MA,fW]at h
  rw[V.beq_eq _ _ h.1.1,V.beq_eq _ _ h.1.2,Yi6 h.2]
def O.beq:O->O->Bool
 |.cells c e rw,b=>match b with
  |.cells c' e' rj=>Nat.beq e e'&&PF rw rj&&V.jI c c'
  |_=>false
 |.map es,b=>match b with
  |.map iQ=>MA es iQ
  |_=>false
 |.chan cap buf,b=>match b with
  |.chan cap' Es=>Nat.beq cap cap'&&V.jI buf Es
  |_=>false
 |.fe s pos,b=>match b with
  |.fe s' pos'=>JQ s s'&&Nat.beq pos pos'
  |_=>false
 |.defs o,b=>match b with
  |.defs o'=>PF o o'
  |_=>false
 |.loop _,_=>false
 |.dead,b=>match b with
  |.dead=>true
  |_=>false
def O.beq_eq{a b:O}(h:O.beq a b=true):a=b:=by
 cases a<;>simp only[O.beq,ix]at h<;>cases b<;>simp only[ix,fW]at h
 ·obtain⟨⟨h1,h2⟩,h3⟩:=h;rw[k_ h1,Zqz h2,V.dG _ _ h3]
 ·rw[Yi6 h]
 ·rw[k_ h.1,V.dG _ _ h.2]
 ·rw[Zsz h.1,k_ h.2]
 ·rw[Zqz h]
 rfl
def Mf:Option O->O->Bool
 |some a,b=>O.beq a b
 |none,_=>false
def Yg5{a:Option O}{b:O}(h:Mf a b=true):a=some b:=by
 cases a with
 |none=>cases h
 |some a=>rw[O.beq_eq h]
def vEq:Option V->V->Bool
 |some a,b=>V.beq a b
 |none,_=>false
def Ywh{a:Option V}{b:V}(h:vEq a b=true):a=some b:=by
 cases a with
 |none=>cases h
 |some a=>rw[V.beq_eq _ _ h]
def UG:Option (List V)->List V->Bool
 |some a,b=>V.jI a b
 |none,_=>false
def Zw2{a:Option (List V)}{b:List V}(h:UG a b=true):a=some b:=by
 cases a with
 |none=>cases h
 |some a=>rw[V.dG _ _ h]
mutual
def V.free:V->Bool
 |.ptr ..|.slice ..|.map _|.chan _|.yield _=>false
 |.func _ a c=>V.lZ a&&V.lZ c
 |.iface _ v=>V.free v
 |.agg l=>V.lZ l
 |.aX l=>V.lZ l
 |_=>true
def V.lZ:List V->Bool
 |[]=>true
 |v::vs=>V.free v&&V.lZ vs
end
mutual
def V.l7{ρ:Nat->Option Nat}:∀(v:V),V.free v=true->V.cj ρ v=some v
 |.bool _,_=>rfl
 |.int _ _,_=>rfl
 |.xy _ _,_=>rfl
 |.str _,_=>rfl
 |.bM,_=>rfl
 |.ptr _ _,h=>by simp[V.free]at h
 |.aa,_=>rfl
 |.slice _ _ _ _ _,h=>by simp[V.free]at h
 |.empty,_=>rfl
 |.bV,_=>rfl
 |.map _,h=>by simp[V.free]at h
 |.bW,_=>rfl
 |.chan _,h=>by simp[V.free]at h
 |.func f a c,h=>by
  simp only[V.free,fW]at h
  simp only[V.cj,V.eG a h.1,V.eG c h.2]
 |.yield _,h=>by simp[V.free]at h
 |.bY,_=>rfl
 |.iface t v,h=>by
  simp only[V.free]at h
  simp only[V.cj,V.l7 v h]
 |.bb,_=>rfl
 |.agg l,h=>by
  simp only[V.free]at h
  simp only[V.cj,V.eG l h]
 |.aX l,h=>by
  simp only[V.free]at h
  simp only[V.cj,V.eG l h]
def V.eG{ρ:Nat->Option Nat}:∀(l:List V),V.lZ l=true->V.eZ ρ l=some l
 |[],_=>rfl
 |v::vs,h=>by
  simp only[V.lZ,fW]at h
  simp only[V.eZ,V.l7 v h.1,V.eG vs h.2]
end
def AE:Nat->T O
 |0=>.nil
 |n+1=>(AE n).set n .dead
def TF:∀(n i:Nat),i<n->(AE n).get i=some .dead
 |0,i,h=>by omega
 |n+1,i,h=>by
  simp only[AE,T.ag]
  by_cases e:i=n
  ·rw[av e]
  ·rw[ak e];exact TF n i (by omega)
def base(G:Nat):St:=⟨AE G,G,[]⟩
def lk:List (Nat×O)->Nat->Option O
 |[],_=>none
 |(j,o)::l,i=>match Nat.beq j i with
  |true=>some o
  |false=>lk l i
def vA(h:T O):List (Nat×O)->T O
 |[]=>h
 |(j,o)::l=>(vA h l).set j o
def Db(h:T O):∀(l:List (Nat×O)) (i:Nat),(vA h l).get i=match lk l i with|some o=>some o|none=>h.get i
 |[],i=>rfl
 |(j,o)::l,i=>by
  simp only[vA,T.ag,lk]
  by_cases e:i=j
  ·subst e
   rw[av rfl,Nat.beq_refl _]
  ·rw[ak e]
   have:Nat.beq j i=false:=by
    cases hb:Nat.beq j i with
    |false=>rfl
    |true=>exact absurd (TV hb).symm e
   rw[this]
   exact Db h l i
def PH:∀{l:List (Nat×O)} {i:Nat} {o:O},lk l i=some o->(i,o)∈l
 |(j,o')::l,i,o,h=>by
  simp only[lk]at h
  split at h
  ·rename_i e
   have:=k_ e
   simp only[au]at h
   subst h;subst this;exact rI
  ·exact ri _ (PH h)
def Yh3:∀{l:List (Nat×O)} {i:Nat},lk l i=none->∀p∈l,p.1≠i
 |[],_,_,p,hp=>by cases hp
 |(j,o')::l,i,h,p,hp=>by
  simp only[lk]at h
  split at h
  ·cases h
  ·rename_i e
   rcases ky.1 hp with rfl|hp
   ·intro hc
    simp only at hc
    subst hc
    have:Nat.beq j j=true:=Nat.beq_refl _
    rw[this]at e;cases e
   ·exact Yh3 h p hp
def Ytr{l:List (Nat×O)}{i:Nat}{o:O}(h:(i,o)∈l):∃o',lk l i=some o':=by
 cases hc:lk l i with
 |some o'=>exact⟨o',rfl⟩
 |none=>exact absurd rfl (Yh3 hc _ h)
def HR(i:Nat):List Nat->Bool
 |[]=>false
 |j::l=>match Nat.beq j i with
  |true=>true
  |false=>HR i l
def Na{i:Nat}:∀{l:List Nat},HR i l=true↔i∈l
 |[]=>by simp[HR]
 |j::l=>by
  simp only[HR]
  split
  ·rename_i e;simp[k_ e]
  ·rename_i e
   have:i≠j:=by
    rintro rfl
    have:Nat.beq i i=true:=Nat.beq_refl _
    rw[this]at e;cases e
   simp[Na,this]
structure nZ where
 f:Nat
 args:List V
 v:V
def O.tab:O->Bool
 |.cells c _ false=>V.lZ c
 |_=>false
def Om(G:Nat):List (Nat×O)->Bool
 |[]=>true
 |(i,o)::l=>Nat.blt i G&&o.tab&&Om G l
def O.Fa{ρ:Nat->Option Nat}{o:O}(h:o.tab=true):o.cj ρ=some o:=by
 cases o with
 |cells c e rw=>
  cases rw with
  |true=>cases h
  |false=>simp only[O.cj,V.eG c h]
 |_=>cases h
def Zo7{G:Nat}:∀{l:List (Nat×O)},Om G l=true->∀{i:Nat} {o:O},lk l i=some o->i<G/\o.tab=true
 |(j,o')::l,h,i,o,ho=>by
  simp only[Om,fW]at h
  simp only[lk]at ho
  split at ho
  ·rename_i e
   simp only[au]at ho
   rw[<-k_ e,<-ho]
   exact⟨Et (zZ h.1.1),h.1.2⟩
  ·exact Zo7 h.2 ho
def Ga(G:Nat)(tb:List (Nat×O)):St:=⟨vA (AE G) tb,G,[]⟩
def GF(S:St):List (Nat×O)->Bool
 |[]=>true
 |(i,o)::l=>match Mf (S.h.get i) o with
  |true=>GF S l
  |false=>false
def Znc{S:St}:∀{l:List (Nat×O)},GF S l=true->∀p∈l,S.h.get p.1=some p.2
 |[],_,p,hp=>by cases hp
 |(i,o)::l,h,p,hp=>by
  simp only[GF]at h
  split at h
  ·rename_i e
   rcases ky.1 hp with rfl|hp
   ·exact Yg5 e
   ·exact Znc h p hp
  ·cases h
def nZ.ok(e:nZ)(tb:List (Nat×O))(G:Nat)(call:cO):Bool:=
 match call (.func e.f [] []) e.args (Ga G tb)with
 |some (v,s)=>match s.w with
  |[]=>V.beq v e.v&&V.free e.v&&V.lZ e.args&&Nat.ble G s.n&&Om G tb
  |_=>false
 |none=>false
def Xa6(P:Program)(tb:List (Nat×O))(e:nZ):Prop:=∀S,GF S tb=true->Mh P (.func e.f [] []) e.args S e.v S
def nZ.pure{call:cO}(hc:kI P call){tb:List (Nat×O)}{e:nZ}(h:e.ok tb P.globals.size call=true):Xa6 P tb e:=by
 unfold nZ.ok at h;split at h
 ·rename_i v s cv;split at h
  ·rename_i hw;simp only[fW]at h;obtain⟨⟨⟨⟨h1,h2⟩,h3⟩,h4⟩,h5⟩:=h;have hv:=V.beq_eq _ _ h1;subst hv;intro S fu μ w Gv xs hh hG hx;have fu:=Znc fu;have hn:P.globals.size<=S.n:=by apply AG;intro aE;obtain⟨t,ht⟩:=hh.iO S.n aE;have:=(hh.dq _ _ ht).1;omega
   have F:JA P (fun i=>if i<P.globals.size then some i else none) (fun i=>if i<P.globals.size then some i else none) [] (Ga P.globals.size tb) s S S:={
    dq:=fun i i' hi=>by
     split at hi
     ·rename_i aE;simp only[au]at hi;subst hi
      exact⟨aE,by omega⟩
     ·cases hi
    inj:=fun i j i' hi hj=>by
     split at hi<;>split at hj<;>simp_all
    iO:=fun g hg=>by simp[hg]
    obj:=fun i i' hi=>by
     split at hi
     ·rename_i aE
      simp only[au]at hi;subst hi
      cases hl:lk tb i with
      |some o=>
       refine⟨o,o,?_,.inr (.inl (O.Fa (Zo7 h5 hl).2)),.inl (fu _ (PH hl))⟩
       show (vA (AE P.globals.size) tb).get i=_
       rw[Db,hl]
      |none=>
       refine⟨.dead,.dead,?_,.inl rfl,.inr rfl⟩
       show (vA (AE P.globals.size) tb).get i=_
       rw[Db,hl]
       exact TF _ _ aE
     ·cases hi
    old:=fun _ _=>rfl
    new:=fun i i' hi hr=>by
     have:P.globals.size<=i:=hi
     rw[ak (by omega)]at hr;cases hr
    JB:=fun i j i' hi _ hr _=>by
     have:P.globals.size<=i:=hi
     rw[ak (by omega)]at hr;cases hr
    full:=fun i' h1 h2=>by omega
    ij:=aM _
    w0:=rfl
    W1:=fun i i' hi _=>by rw[hw]at hi;cases hi
    W2:=fun j hj=>by cases hj
    wl:=rfl
    ad:=fun _ _ _=>rfl
    wr:=fun i i' hi _=>by rw[hw]at hi;cases hi
    obn:=fun i i' hi hr=>by have:P.globals.size<=i:=hi;rw[ak (by omega)]at hr;cases hr};exact(Mh.frame (hc _ _ _ _ _ cv) F (V.l7 _ (by rfl)) (V.eG _ h3) (V.l7 _ h2)) μ w Gv xs hh hG hx
  cases h
 cases h
def Me:List nZ->Nat->List V->Option V
 |[],_,_=>none
 |e::l,f,args=>match Nat.beq e.f f with
  |true=>match V.jI e.args args with
   |true=>some e.v
   |false=>Me l f args
  |false=>Me l f args
def Md(tb:List (Nat×O))(l:List nZ):cO
 |.func f [] [],args,st=>match Me l f args with
  |some v=>match GF st tb with
   |true=>some (v,st)
   |false=>none
  |none=>none
 |_,_,_=>none
def Zpo:∀{l:List nZ} {f:Nat} {args:List V} {v:V},Me l f args=some v->∃e∈l,e.f=f/\e.args=args/\e.v=v
 |[],_,_,_,h=>by cases h
 |e::l,f,args,v,h=>by
  simp only[Me]at h
  split at h
  ·rename_i e1
   split at h
   ·rename_i e2
    simp only[au]at h
    exact⟨e,rI,k_ e1,V.dG _ _ e2,h⟩
   ·obtain⟨e',h1,h2⟩:=Zpo h;exact⟨e',ri _ h1,h2⟩
  ·obtain⟨e',h1,h2⟩:=Zpo h;exact⟨e',ri _ h1,h2⟩
def Yah{tb:List (Nat×O)}{l:List nZ}(h:∀e∈l,Xa6 P tb e):kI P (Md tb l):=by
 intro g args st v aB hc;unfold Md at hc;split at hc
 ·rename_i f;split at hc
  ·rename_i u hu;split at hc
   ·rename_i hp;simp only[au,bD]at hc;obtain⟨rfl,rfl⟩:=hc;obtain⟨e,h1,rfl,rfl,rfl⟩:=Zpo hu;exact h e h1 st hp
   cases hc
  cases hc
 cases hc
structure mE where
 f:Nat
 first:List V
 iA:List V
 args:List V
 part:List (Nat×O)
 n:Nat
 v:V
 kept:List (Nat×O)
 DK:List (Nat×O)
def mE.st(e:mE)(G:Nat):St:=⟨vA (AE G) e.part,e.n,[]⟩
def sig(G:Nat)(part:List (Nat×O))(i:Nat):Option Nat:=
 match Nat.blt i G with
 |true=>some i
 |false=>match lk part i with
  |some _=>some i
  |none=>none
def idx(i:Nat):List (Nat×O)->Nat->Option Nat
 |[],_=>none
 |(k,_)::l,m=>match Nat.beq k i with
  |true=>some m
  |false=>idx i l (m+1)
def Fb(G:Nat)(part:List (Nat×O))(n:Nat)(kept:List (Nat×O))(i:Nat):Option Nat:=
 match Nat.blt i n with
 |true=>sig G part i
 |false=>idx i kept n
def Fe:List (Nat×O)->Nat->List (Nat×O)
 |[],_=>[]
 |(_,o)::l,m=>(m,o)::Fe l (m+1)
def MB(ρ:Nat->Option Nat)(s:St)(i:Nat)(o':O):Bool:=
 match s.h.get i with
 |some o=>match o' with
  |.dead=>true
  |o'=>Mf (o.cj ρ) o'
 |none=>false
def UH(ρ:Nat->Option Nat)(s:St)(n:Nat):List (Nat×O)->Nat->Bool
 |[],_=>true
 |(k,o)::l,m=>PG (ρ k) (some m)&&Nat.ble n k&&Nat.blt k s.n&&MB ρ s k o&&UH ρ s n l (m+1)
def mE.dw(e:mE)(G:Nat)(v:V)(s:St):Bool:=
 Nat.ble G e.n&&Nat.ble e.n s.n&&(e.part.all fun p=>Nat.blt p.1 e.n&&Mf (p.2.cj (sig G e.part)) p.2)&&
 UG (V.eZ (sig G e.part) e.first) e.first&&UG (V.eZ (sig G e.part) e.iA) e.iA&&UG (V.eZ (sig G e.part) e.args) e.args&&
 vEq (V.cj (Fb G e.part e.n e.kept) v) e.v&&
 UH (Fb G e.part e.n e.kept) s e.n e.kept e.n&&
 (s.w.all fun i=>match sig G e.part i with|some _=>HR i (e.DK.map (·.1))|none=>true)&&
 (e.DK.all fun p=>HR p.1 s.w&&PG (sig G e.part p.1) (some p.1)&&MB (Fb G e.part e.n e.kept) s p.1 p.2)
def mE.ok(e:mE)(G:Nat)(call:cO):Bool:=
 match call (.func e.f e.first e.iA) e.args (e.st G)with
 |some (v,s)=>e.dw G v s
 |none=>false
def mE.out(e:mE)(S:St):St:=⟨vA (vA S.h e.DK) (Fe e.kept e.n),e.n+e.kept.length,e.DK.map (·.1)++S.w⟩
def PI(e:mE):cO
 |.func f a c,args,S=>match Nat.beq e.f f with
  |true=>match V.jI e.args args&&V.jI e.first a&&V.jI e.iA c&&Nat.beq S.n e.n&&GF S e.part with
   |true=>some (e.v,e.out S)
   |false=>none
  |false=>none
 |_,_,_=>none
def PJ{i:Nat}:∀{l:List (Nat×O)} {m i':Nat},idx i l m=some i'->m<=i'/\i'<m+l.length/\∃o,l[i'-m]?=some (i,o)
 |[],m,i',h=>by cases h
 |(k,o)::l,m,i',h=>by
  simp only[idx]at h
  split at h
  ·rename_i e
   simp only[au]at h;subst h
   have:=k_ e;subst this
   exact⟨aM _,by simp,o,by simp⟩
  ·obtain⟨h1,h2,o',h3⟩:=PJ h
   refine⟨by omega,by simp;omega,o',?_⟩
   rw[show i'-m=(i'-(m+1))+1 by omega]
   simpa using h3
def Zr3:∀{l:List (Nat×O)} {m j:Nat} {p:Nat×O},l[j]?=some p->lk (Fe l m) (m+j)=some p.2
 |[],m,j,p,h=>by simp at h
 |(k,o)::l,m,0,p,h=>by
  simp at h;subst h
  simp[Fe,lk]
 |(k,o)::l,m,j+1,p,h=>by
  simp only[Fe,lk]
  have:Nat.beq m (m+(j+1))=false:=by
   cases hb:Nat.beq m (m+(j+1))with
   |false=>rfl
   |true=>have:=k_ hb;omega
  rw[this,show m+(j+1)=(m+1)+j by omega]
  exact Zr3 (by simpa using h)
def Zny:∀{l:List (Nat×O)} {m i:Nat},i<m->lk (Fe l m) i=none
 |[],_,_,_=>rfl
 |(k,o)::l,m,i,h=>by
  simp only[Fe,lk]
  have:Nat.beq m i=false:=by
   cases hb:Nat.beq m i with
   |false=>rfl
   |true=>have:=k_ hb;omega
  rw[this]
  exact Zny (by omega)
def Zr9{ρ:Nat->Option Nat}{s:St}{n:Nat}:∀{l:List (Nat×O)} {m:Nat},UH ρ s n l m=true->∀{j:Nat} {p:Nat×O},l[j]?=some p->ρ p.1=some (m+j)/\n<=p.1/\p.1<s.n/\MB ρ s p.1 p.2=true
 |[],m,_,j,p,h=>by simp at h
 |(k,o)::l,m,h,j,p,hj=>by
  simp only[UH,fW]at h
  obtain⟨⟨⟨⟨h1,h2⟩,h3⟩,h4⟩,h5⟩:=h
  cases j with
  |zero=>
   simp at hj;subst hj
   exact⟨Zpx h1,zZ h2,Et (zZ h3),h4⟩
  |succ j=>
   obtain⟨q1,q2⟩:=Zr9 h5 (j:=j) (by simpa using hj)
   exact⟨by rw[q1];congr 1;omega,q2⟩
def Zr2{ρ:Nat->Option Nat}{s:St}{o':O}(h:MB ρ s i o'=true):∃o,s.h.get i=some o/\(o'=.dead\/o.cj ρ=some o'):=by
 unfold MB at h;split at h
 ·rename_i o ho;refine⟨o,ho,?_⟩;split at h
  ·exact .inl rfl
  exact .inr (Yg5 h)
 cases h
def MC{part:List (Nat×O)}{i':Nat}(h:sig G part i=some i'):i'=i/\(i<G\/∃o,lk part i=some o):=by
 unfold sig at h;split at h
 ·rename_i e;simp only[au]at h;exact⟨h.symm,.inl (Et (zZ e))⟩
 split at h
 ·rename_i o ho;simp only[au]at h;exact⟨h.symm,.inr ⟨o,ho⟩⟩
 cases h
def Yeb{call:cO}(cv:kI P call){e:mE}(h:e.ok P.globals.size call=true):kI P (PI e):=by
 intro g args S v S' hc;unfold PI at hc;split at hc
 ·rename_i f a c;split at hc
  ·rename_i hf;have hf:=k_ hf;subst hf;split at hc
   ·rename_i c9;simp only[fW]at c9;obtain⟨⟨⟨⟨c1,c2⟩,c3⟩,c4⟩,c5⟩:=c9;have c1:=V.dG _ _ c1;have c2:=V.dG _ _ c2;have c3:=V.dG _ _ c3;have c4:=k_ c4;have c5:=Znc c5;simp only[au,bD]at hc;obtain⟨rfl,rfl⟩:=hc;subst c1;subst c2;subst c3;unfold mE.ok at h;split at h
    ·rename_i v0 s bU;unfold mE.dw at h;simp only[fW,iK]at h;obtain⟨⟨⟨⟨⟨⟨⟨⟨⟨k1,k2⟩,k3⟩,k4⟩,k5⟩,k6⟩,k7⟩,k8⟩,k9⟩,k10⟩:=h;have k1:=zZ k1;have k2:=zZ k2;have fu:∀i o,lk e.part i=some o->i<e.n/\o.cj (sig P.globals.size e.part)=some o/\S.h.get i=some o:=fun i o ho=>by have hm:=PH ho;obtain⟨q1,q2⟩:=k3 _ hm;exact⟨Et (zZ q1),Yg5 q2,c5 _ hm⟩
     have UI:∀i,e.n<=i->Fb P.globals.size e.part e.n e.kept i=idx i e.kept e.n:=fun i hi=>by
      unfold Fb;have:Nat.blt i e.n=false:=by
       cases hb:Nat.blt i e.n with
       |false=>rfl
       |true=>have:=Et (zZ hb);omega
      rw[this]
     have B8:∀j p,e.kept[j]?=some p->Fb P.globals.size e.part e.n e.kept p.1=some (e.n+j)/\e.n<=p.1/\p.1<s.n/\MB (Fb P.globals.size e.part e.n e.kept) s p.1 p.2=true:=fun j p hj=>Zr9 k8 hj;have PL:∀j,j<e.n->(e.out S).h.get j=match lk e.DK j with|some o=>some o|none=>S.h.get j:=fun j hj=>by show (vA (vA S.h e.DK) (Fe e.kept e.n)).get j=_;rw[Db,Zny hj,Db]
     have F:JA P (sig P.globals.size e.part) (Fb P.globals.size e.part e.n e.kept) (e.DK.map (·.1)) (e.st P.globals.size) s S (e.out S):={
      dq:=fun i i' hi=>by
       obtain⟨rfl,Mj⟩:=MC hi
       have:i'<e.n:=by
        rcases Mj with h|⟨o,ho⟩
        ·omega
        ·exact(fu _ _ ho).1
       exact⟨this,by omega⟩
      inj:=fun i j i' hi hj=>by rw[<-(MC hi).1,<-(MC hj).1]
      iO:=fun g hg=>by
       unfold sig
       have:Nat.blt g P.globals.size=true:=TQ hg
       rw[this]
      obj:=fun i i' hi=>by
       obtain⟨rfl,Mj⟩:=MC hi
       cases hl:lk e.part i' with
       |some o=>
        obtain⟨q1,q2,q3⟩:=fu _ _ hl
        refine⟨o,o,?_,.inr (.inl q2),.inl q3⟩
        show (vA (AE P.globals.size) e.part).get i'=_
        rw[Db,hl]
       |none=>
        have hg:i'<P.globals.size:=by
         rcases Mj with h|⟨o,ho⟩
         ·exact h
         ·rw[hl]at ho;cases ho
        refine⟨.dead,.dead,?_,.inl rfl,.inr rfl⟩
        show (vA (AE P.globals.size) e.part).get i'=_
        rw[Db,hl]
        exact TF _ _ hg
      old:=fun i hi=>by
       have:Nat.blt i e.n=true:=TQ hi
       unfold Fb;rw[this]
      new:=fun i i' hi hr=>by
       rw[UI i hi]at hr
       obtain⟨q1,q2,o,q3⟩:=PJ hr
       obtain⟨_,_,r3,_⟩:=B8 _ _ q3
       exact⟨by omega,q2,r3⟩
      JB:=fun i j i' hi hj Mi hrj=>by
       rw[UI i hi]at Mi
       rw[UI j hj]at hrj
       obtain⟨_,_,o,q3⟩:=PJ Mi
       obtain⟨_,_,o',Mk⟩:=PJ hrj
       rw[q3]at Mk
       cases Mk;rfl
      full:=fun i' h1 h2=>by
       have mW:i'<e.n+e.kept.length:=h2
       obtain⟨p,hp⟩:∃p,e.kept[i'-e.n]?=some p:=⟨_,ct (by omega)⟩
       obtain⟨r1,r2,_,_⟩:=B8 _ _ hp
       exact⟨p.1,r2,by rw[r1];congr 1;omega⟩
      ij:=by show S.n<=e.n+e.kept.length;omega
      w0:=rfl
      W1:=fun i i' hi hs=>by
       obtain⟨rfl,_⟩:=MC hs
       have:=k9 _ hi
       rw[hs]at this
       exact Na.1 this
      W2:=fun j hj=>by
       obtain⟨p,hp,rfl⟩:=bK.1 hj
       obtain⟨⟨q1,q2⟩,_⟩:=k10 _ hp
       exact⟨p.1,Na.1 q1,Zpx q2⟩
      wl:=rfl
      ad:=fun j hj hn=>by
       rw[PL j (by omega)]
       cases hl:lk e.DK j with
       |none=>rfl
       |some o=>exact absurd (bK.2 ⟨_,PH hl,rfl⟩) hn
      wr:=fun i i' hi hs=>by
       obtain⟨rfl,Mj⟩:=MC hs
       have aE:i'<e.n:=by
        rcases Mj with h|⟨o,ho⟩
        ·omega
        ·exact(fu _ _ ho).1
       have:=k9 _ hi
       rw[hs]at this
       obtain⟨p,hp,GX⟩:=bK.1 (Na.1 this)
       obtain⟨o',yS⟩:=Ytr (l:=e.DK) (i:=i') (o:=p.2) (by rw[<-GX];exact hp)
       obtain⟨_,q3⟩:=k10 _ (PH yS)
       obtain⟨o,r1,r2⟩:=Zr2 q3
       exact⟨o,o',r1,by rw[PL _ aE,yS],r2⟩
      obn:=fun i i' hi hr=>by rw[UI i hi]at hr;obtain⟨q1,q2,o,q3⟩:=PJ hr;obtain⟨_,_,_,r4⟩:=B8 _ _ q3;obtain⟨o2,t1,t2⟩:=Zr2 r4;refine⟨o2,o,t1,?_,t2⟩;show (vA (vA S.h e.DK) (Fe e.kept e.n)).get i'=_;have:=Zr3 (m:=e.n) q3;rw[show e.n+(i'-e.n)=i' by omega]at this;rw[Db,this]};refine Mh.frame (cv _ _ _ _ _ bU) F ?_ (Zw2 k6) (Ywh k7);simp only[V.cj,Zw2 k4,Zw2 k5]
    cases h
   cases hc
  cases hc
 cases hc
def AD(x:cO)(ec:Nat->Option nA)(fuel:Nat):Nat->cO
 |0=>x
 |d+1=>uK x (zV ec (eF (AD x ec fuel d) fuel))
def TE{P:Program}{ec:Nat->Option nA}(hm:P.follows .mixedOrders=true)(hE:wj P)(ht:Zzm P ec){x:cO}(hx:kI P x)(fuel:Nat):∀d,kI P (AD x ec fuel d)
 |0=>hx
 |d+1=>by
  have ih:=TE hm hE ht hx fuel d
  exact hx.or (Zzc ht (Yj2 ih hE (Yjb hm hE ih) (Ypj ih hE) (Zz7 ih) fuel))
def UJ:List mE->Nat->List V->List V->List V->St->Option (V×St)
 |[],_,_,_,_,_=>none
 |e::l,f,a,c,args,S=>match Nat.beq e.f f with
  |true=>match PI e (.func f a c) args S with
   |some r=>some r
   |none=>UJ l f a c args S
  |false=>UJ l f a c args S
def Yus(l:List mE):cO
 |.func f a c,args,S=>UJ l f a c args S
 |_,_,_=>none
def Yn2{l:List mE}(h:∀e∈l,kI P (PI e)):kI P (Yus l):=by
 intro g args S v S' hc;unfold Yus at hc;split at hc
 ·rename_i f a c;induction l with
  |nil=>cases hc
  |cons e l ih=>
   simp only[UJ]at hc;split at hc
   ·split at hc
    ·rename_i r hr;cases hc;exact h e rI _ _ _ _ _ hr
    exact ih (fun e he=>h e (ri _ he)) hc
   exact ih (fun e he=>h e (ri _ he)) hc
 cases hc
def PM(tb:List (Nat×O))(L:List nZ)(E:List mE):cO:=uK (Md tb L) (Yus E)
structure bf (P:Program) (tb:List (Nat×O)) (L:List nZ) (E:List mE):Prop where
 p:∀e∈L,Xa6 P tb e
 e:∀e∈E,kI P (PI e)
def bf.call{tb:List (Nat×O)}{L:List nZ}{E:List mE}(h:bf P tb L E):kI P (PM tb L E):=(Yah h.p).or (Yn2 h.e)
def bf.nil{tb:List (Nat×O)}:bf P tb [] []:=⟨fun _ h=>(by cases h),fun _ h=>(by cases h)⟩
structure FO (P:Program) (ec:Nat->Option nA) (G:Nat):Prop where
 m:P.follows .mixedOrders=true
 e:wj P
 t:Zzm P ec
 g:P.globals.size=G
def bf.zar{ec:Nat->Option nA}{fuel d:Nat}(hP:FO P ec G){tb:List (Nat×O)}{L:List nZ}{E:List mE}(h:bf P tb L E){e:nZ}(he:e.ok tb G (AD (PM tb L E) ec fuel d)=true):bf P tb (e::L) E:=
 ⟨fun e' hm=>by
  rcases ky.1 hm with rfl|hm
  ·exact nZ.pure (TE hP.m hP.e hP.t h.call fuel d) (by rw[hP.g];exact he)
  ·exact h.p e' hm,h.e⟩
def bf.zas{ec:Nat->Option nA}{fuel d:Nat}(hP:FO P ec G){tb:List (Nat×O)}{L:List nZ}{E:List mE}(h:bf P tb L E){e:mE}(he:e.ok G (AD (PM tb L E) ec fuel d)=true):bf P tb L (e::E):=
 ⟨h.p,fun e' hm=>by
  rcases ky.1 hm with rfl|hm
  ·exact Yeb (TE hP.m hP.e hP.t h.call fuel d) (by rw[hP.g];exact he)
  ·exact h.e e' hm⟩
def Yp6(tb:List (Nat×O))(G:Nat)(ec:Nat->Option nA)(L:List nZ)(E:List mE):Bool:=match L with
 |[]=>false
 |e::t=>e.ok tb G (AD (PM tb t E) ec 5000 40)
def Yir(tb:List (Nat×O))(G:Nat)(ec:Nat->Option nA)(L:List nZ)(E:List mE):Bool:=match E with
 |[]=>false
 |e::t=>e.ok G (AD (PM tb L t) ec 5000 40)
def bf.p1{P:Program}{ec:Nat->Option nA}{G:Nat}(hP:FO P ec G){tb:List (Nat×O)}{L:List nZ}{E:List mE}(h:bf P tb L.tail E)(he:Yp6 tb G ec L E=true):bf P tb L E:=by
 cases L with
 |nil=>exact h
 |cons e t=>exact bf.zar hP h he
def bf.e1{P:Program}{ec:Nat->Option nA}{G:Nat}(hP:FO P ec G){tb:List (Nat×O)}{L:List nZ}{E:List mE}(h:bf P tb L E.tail)(he:Yir tb G ec L E=true):bf P tb L E:=by
 cases E with
 |nil=>exact h
 |cons e t=>exact bf.zas hP h he
section
variable {call:cO} {f:Nat} {ro:Option Nat} {a b c:cF} {fr:Fr} {st:St}
end
def Yxh{a b:Nat}:Nat.blt a b=decide (a<b):=by
 cases h:Nat.blt a b
 ·symm;simp only[decide_eq_false_iff_not];intro hc;rw[show Nat.blt a b=true from TQ hc]at h;cases h
 symm;simp only[decide_eq_true_eq];exact Et (zZ h)
def Yxi{a b:Nat}:Nat.ble a b=decide (a<=b):=by
 cases h:Nat.ble a b
 ·symm;simp only[decide_eq_false_iff_not];intro hc;rw[TQ hc]at h;cases h
 symm;simp only[decide_eq_true_eq];exact zZ h
def cL{n:Int}(h1: -9223372036854775808<=n)(h2:n<9223372036854775808):bn .i64 n=n:=by rw[BF];simp[IntKind.wrap,IntKind.bits,IntKind.signed];omega
def Yd1{k a b}:tD .add k a b=some (.int k (bn k (a+b))):=rfl
def Ydq{k a b}:tD .sub k a b=some (.int k (bn k (a-b))):=rfl
def Ydv{k a b}:tD .mul k a b=some (.int k (bn k (a*b))):=rfl
def Ydt{k a b}(h:¬b=0):tD .quo k a b=some (.int k (bn k (a.tdiv b))):=by simp[tD,h]
def Yds{k a b}(h:¬b=0):tD .rem k a b=some (.int k (a.tmod b)):=by simp[tD,h]
def Yd0{k a b}:tD .eql k a b=some (.bool (a==b)):=rfl
def Ydu{k a b}:tD .neq k a b=some (.bool (a !=b)):=rfl
def Ydw{k a b}:tD .lss k a b=some (.bool (decide (a<b))):=rfl
def Ydx{k a b}:tD .leq k a b=some (.bool (decide (a<=b))):=rfl
def Ydy{k a b}:tD .gtr k a b=some (.bool (decide (a > b))):=rfl
def Ydz{k a b}:tD .geq k a b=some (.bool (decide (a≥b))):=rfl
def Ytb(x):cH (.vD x)=I8 x:=rfl
def Ymq(a b c):cH (.pick a b c)=Gp a b c:=rfl
def Yhn(a b):cH (.alloc a b)=LQ a b:=rfl
def Ytf(a b):cH (.box a b)=I9 a b:=rfl
def Yhm(a b):cH (.build a b)=ED a b:=rfl
def Yc9(a b c d e):cH (.mV a b c d e)=Ja a b c d e:=rfl
def Ymr(a b):cH (.load a b)=Jb a b:=rfl
def Yhe(a b c):cH (.store a b c)=Gq a b c:=rfl
def Yhg(a):cH (.pU a)=Jc a:=rfl
def Ytg(a b c d e):cH (.bin a b c d e)=Jd a b c d e:=rfl
def Yxk(a b):cH (.un a b)=Je a b:=rfl
def Zyh(a b):cH (.dE a b)=Jf a b:=rfl
def Yc2(a b c):cH (.pW a b c)=Jh a b c:=rfl
def Yhj(a b):cH (.vE a b)=Ji a b:=rfl
def Yhi(a b c):cH (.field a b c)=Jj a b c:=rfl
def Zvn(a b c d):cH (.iP a b c d)=EF a b c d:=rfl
def Zye(a b c):cH (.jf a b c)=Gu a b c:=rfl
def Zyf(a b):cH (.extract a b)=Jn a b:=rfl
def Ytc(a b):cH (.len a b)=Ab a b:=rfl
def Ymt(a b):cH (.call a b)=AM a b:=rfl
structure Yy4 (r:Option (V×St)) (v:V):Prop where
 ex:∃s,r=some (v,s)/\s.w=[]
def Yd4{u v:V}{s:St}:Yy4 (some (u,s)) v↔u=v/\s.w=[]:=
 ⟨fun ⟨_,h1,h2⟩=>by simp only[au,bD]at h1;exact⟨h1.1,h1.2▸h2⟩,fun ⟨h1,h2⟩=>⟨s,by rw[h1],h2⟩⟩
attribute [simp]
 Ytb Ymq Yhn Ytf Yhm Yc9 Ymr Yhe Yhg Ytg Yxk Zyh Yc2 Yhj Yhi Zvn Zye Zyf Ytc Ymt
 I8 Gp LQ I9 ED Ja Jb Jc Jd Je Jf Jh Ji Jj EF Jn AM
 AN bZ Src.ev T.ag gb Gz ay Xa0 Yd1 Ydq Ydv Ydt Yds Yd0 Ydu Ydw Ydx Ydy Ydz jE unV wH aC Dl Dk aS V.cells V.one St.alloc St.write St.row cL Yxh Yxi Ac q8 iz.pY TZ lG dv dv.go dv.dw FP.free Jq Nat.testBit Yd4 base
end Go.Mx

