/-Calls that are known-/
import Derived.Test.YtnkdakmfipgidaaGreatDoorMxDraw4
import Derived.Below
import Derived.CallsIn
set_option linter.all false
namespace Go.Mx
open Go
variable {G i:Nat} {P:Program}
def PH:Bool->Bool->Bool
 |true,b=>b
 |false,true=>false
 |false,false=>true
def Uu:IntKind->Nat
 |.i8=>0|.i16=>1|.i32=>2|.i64=>3|.u8=>4|.u16=>5|.u32=>6|.u64=>7
def Yr3:Int->Int->Bool
 |.ofNat a,b=>match b with
  |.ofNat b=>Nat.beq a b
  |.negSucc _=>false
 |.negSucc a,b=>match b with
  |.ofNat _=>false
  |.negSucc b=>Nat.beq a b
def JT:List UInt8->List UInt8->Bool
 |[],l=>match l with
  |[]=>true
  |_::_=>false
 |a::xs,l=>match l with
  |[]=>false
  |b::ys=>match Nat.beq a.toNat b.toNat with
   |true=>JT xs ys
   |false=>false
def PI:Option Nat->Option Nat->Bool
 |none,b=>match b with
  |none=>true
  |some _=>false
 |some a,b=>match b with
  |none=>false
  |some b=>Nat.beq a b
def Zp6{a b:Bool}(h:PH a b=true):a=b:=by cases a<;>cases b<;>simp_all [PH]
def kO{a b:Nat}(h:Nat.beq a b=true):a=b:=Tw h
def Yr5{a b:IntKind}(h:Nat.beq (Uu a) (Uu b)=true):a=b:=by cases a<;>cases b<;>first|rfl|(exact absurd h (by decide))
def Ylz{a b:Int}(h:Yr3 a b=true):a=b:=by
 cases a<;>cases b<;>simp only[Yr3,iy]at h
 ·rw[kO h]
 rw[kO h]
def Zrz:∀{a b:List UInt8},JT a b=true->a=b
 |[],[],_=>rfl
 |[],_::_,h=>by simp[JT]at h
 |_::_,[],h=>by simp[JT]at h
 |a::xs,b::ys,h=>by
  simp only[JT]at h
  split at h
  ·rename_i e
   rw[Zrz h,UInt8.toNat_inj.1 (kO e)]
  ·cases h
def Zpd{a b:Option Nat}(h:PI a b=true):a=b:=by
 cases a<;>cases b<;>simp only[PI,iy]at h
 ·rfl
 rw[kO h]
def Uv:FloatKind->Nat
 |.f32=>0|.f64=>1
def Ysc{a b:FloatKind}(h:Nat.beq (Uv a) (Uv b)=true):a=b:=by cases a<;>cases b<;>first|rfl|(exact absurd h (by decide))
def V.isBool(x:Bool):V->Bool|.bool y=>PH x y|_=>false
def V.isInt(k:IntKind)(n:Int):V->Bool|.int k' n'=>(match Nat.beq (Uu k) (Uu k')with|true=>Yr3 n n'|false=>false)|_=>false
def V.Ha(k:FloatKind)(n:Nat):V->Bool|.wK k' n'=>(match Nat.beq (Uv k) (Uv k')with|true=>Nat.beq n n'|false=>false)|_=>false
def V.isStr(s:List UInt8):V->Bool|.str t=>JT s t|_=>false
def V.u_:V->Bool|.bJ=>true|_=>false
def V.Hb(i o:Nat):V->Bool|.ptr i' o'=>(match Nat.beq i i' with|true=>Nat.beq o o'|false=>false)|_=>false
def V.pM:V->Bool|.aa=>true|_=>false
def V.isSlice(i o l:Nat)(c:Option Nat)(z:Nat):V->Bool|.slice i' o' l' c' z'=>Nat.beq i i'&&Nat.beq o o'&&Nat.beq l l'&&PI c c'&&Nat.beq z z'|_=>false
def V.isEmpty:V->Bool|.empty=>true|_=>false
def V.ve:V->Bool|.bQ=>true|_=>false
def V.Hd(i:Nat):V->Bool|.map j=>Nat.beq i j|_=>false
def V.rG:V->Bool|.bR=>true|_=>false
def V.isChan(i:Nat):V->Bool|.chan j=>Nat.beq i j|_=>false
def V.yV(i:Nat):V->Bool|.yield j=>Nat.beq i j|_=>false
def V.rH:V->Bool|.bS=>true|_=>false
def V.pN:V->Bool|.aY=>true|_=>false
mutual
def V.beq:V->V->Bool
 |.bool x,b=>b.isBool x
 |.int k n,b=>b.isInt k n
 |.wK k n,b=>b.Ha k n
 |.str s,b=>b.isStr s
 |.bJ,b=>b.u_
 |.ptr i o,b=>b.Hb i o
 |.aa,b=>b.pM
 |.slice i o l c z,b=>b.isSlice i o l c z
 |.empty,b=>b.isEmpty
 |.bQ,b=>b.ve
 |.map i,b=>b.Hd i
 |.bR,b=>b.rG
 |.chan i,b=>b.isChan i
 |.func f a c,b=>match b with
  |.func f' a' c'=>Nat.beq f f'&&V.jy a a'&&V.jy c c'
  |_=>false
 |.yield i,b=>b.yV i
 |.bS,b=>b.rH
 |.iface t v,b=>match b with
  |.iface t' v'=>Nat.beq t t'&&V.beq v v'
  |_=>false
 |.aY,b=>b.pN
 |.agg l,b=>match b with
  |.agg l'=>V.jy l l'
  |_=>false
 |.aV l,b=>match b with
  |.aV l'=>V.jy l l'
  |_=>false
def V.jy:List V->List V->Bool
 |[],l=>match l with
  |[]=>true
  |_::_=>false
 |a::xs,l=>match l with
  |[]=>false
  |b::ys=>match V.beq a b with
   |true=>V.jy xs ys
   |false=>false
end
mutual
def V.beq_eq:∀(a b:V),V.beq a b=true->a=b
 |.bool x,b,h=>by cases b<;>simp only[V.beq,V.isBool,iy]at h;rw[Zp6 h]
 |.int k n,b,h=>by
  cases b<;>simp only[V.beq,V.isInt,iy]at h
  split at h
  ·rename_i e;rw[Yr5 e,Ylz h]
  ·cases h
 |.wK k n,b,h=>by
  cases b<;>simp only[V.beq,V.Ha,iy]at h
  split at h
  ·rename_i e;rw[Ysc e,kO h]
  ·cases h
 |.str s,b,h=>by cases b<;>simp only[V.beq,V.isStr,iy]at h;rw[Zrz h]
 |.bJ,b,h=>by cases b<;>simp only[V.beq,V.u_,iy]at h;rfl
 |.ptr i o,b,h=>by
  cases b<;>simp only[V.beq,V.Hb,iy]at h
  split at h
  ·rename_i e;rw[kO e,kO h]
  ·cases h
 |.aa,b,h=>by cases b<;>simp only[V.beq,V.pM,iy]at h;rfl
 |.slice i o l c z,b,h=>by
  cases b<;>simp only[V.beq,V.isSlice,iy,gI]at h
  obtain⟨⟨⟨⟨h1,h2⟩,h3⟩,h4⟩,h5⟩:=h
  rw[kO h1,kO h2,kO h3,Zpd h4,kO h5]
 |.empty,b,h=>by cases b<;>simp only[V.beq,V.isEmpty,iy]at h;rfl
 |.bQ,b,h=>by cases b<;>simp only[V.beq,V.ve,iy]at h;rfl
 |.map i,b,h=>by cases b<;>simp only[V.beq,V.Hd,iy]at h;rw[kO h]
 |.bR,b,h=>by cases b<;>simp only[V.beq,V.rG,iy]at h;rfl
 |.chan i,b,h=>by cases b<;>simp only[V.beq,V.isChan,iy]at h;rw[kO h]
 |.func f a c,b,h=>by
  cases b<;>simp only[V.beq,iy,gI]at h
  obtain⟨⟨h1,h2⟩,h3⟩:=h
  rw[kO h1,V.dC _ _ h2,V.dC _ _ h3]
 |.yield i,b,h=>by cases b<;>simp only[V.beq,V.yV,iy]at h;rw[kO h]
 |.bS,b,h=>by cases b<;>simp only[V.beq,V.rH,iy]at h;rfl
 |.iface t v,b,h=>by
  cases b<;>simp only[V.beq,iy,gI]at h
  rw[kO h.1,V.beq_eq _ _ h.2]
 |.aY,b,h=>by cases b<;>simp only[V.beq,V.pN,iy]at h;rfl
 |.agg l,b,h=>by cases b<;>simp only[V.beq,iy]at h;rw[V.dC _ _ h]
 |.aV l,b,h=>by cases b<;>simp only[V.beq,iy]at h;rw[V.dC _ _ h]
def V.dC:∀(a b:List V),V.jy a b=true->a=b
 |[],[],_=>rfl
 |[],_::_,h=>by simp[V.jy]at h
 |_::_,[],h=>by simp[V.jy]at h
 |a::xs,b::ys,h=>by
  simp only[V.jy]at h
  split at h
  ·rename_i e;rw[V.beq_eq a b e,V.dC xs ys h]
  ·cases h
end
def My:List (V×V)->List (V×V)->Bool
 |[],l=>match l with
  |[]=>true
  |_::_=>false
 |(k,v)::xs,l=>match l with
  |[]=>false
  |(k',v')::ys=>V.beq k k'&&V.beq v v'&&My xs ys
def Yho:∀{a b:List (V×V)},My a b=true->a=b
 |[],[],_=>rfl
 |[],_::_,h=>by simp[My]at h
 |_::_,[],h=>by simp[My]at h
 |(k,v)::xs,(k',v')::ys,h=>by
  simp only[My,gI]at h
  rw[V.beq_eq _ _ h.1.1,V.beq_eq _ _ h.1.2,Yho h.2]
def O.beq:O->O->Bool
 |.cells c e rw,b=>match b with
  |.cells c' e' rQ=>Nat.beq e e'&&PH rw rQ&&V.jy c c'
  |_=>false
 |.map es,b=>match b with
  |.map iM=>My es iM
  |_=>false
 |.chan cap buf,b=>match b with
  |.chan cap' Ek=>Nat.beq cap cap'&&V.jy buf Ek
  |_=>false
 |.eL s pos,b=>match b with
  |.eL s' pos'=>JT s s'&&Nat.beq pos pos'
  |_=>false
 |.defs o,b=>match b with
  |.defs o'=>PH o o'
  |_=>false
 |.loop _,_=>false
 |.dead,b=>match b with
  |.dead=>true
  |_=>false
def O.beq_eq{a b:O}(h:O.beq a b=true):a=b:=by
 cases a<;>simp only[O.beq,iy]at h<;>cases b<;>simp only[iy,gI]at h
 ·obtain⟨⟨h1,h2⟩,h3⟩:=h;rw[kO h1,Zp6 h2,V.dC _ _ h3]
 ·rw[Yho h]
 ·rw[kO h.1,V.dC _ _ h.2]
 ·rw[Zrz h.1,kO h.2]
 ·rw[Zp6 h]
 rfl
def Mb:Option O->O->Bool
 |some a,b=>O.beq a b
 |none,_=>false
def Yfs{a:Option O}{b:O}(h:Mb a b=true):a=some b:=by
 cases a with
 |none=>cases h
 |some a=>rw[O.beq_eq h]
def vEq:Option V->V->Bool
 |some a,b=>V.beq a b
 |none,_=>false
def Yuj{a:Option V}{b:V}(h:vEq a b=true):a=some b:=by
 cases a with
 |none=>cases h
 |some a=>rw[V.beq_eq _ _ h]
def Uw:Option (List V)->List V->Bool
 |some a,b=>V.jy a b
 |none,_=>false
def Zv0{a:Option (List V)}{b:List V}(h:Uw a b=true):a=some b:=by
 cases a with
 |none=>cases h
 |some a=>rw[V.dC _ _ h]
mutual
def V.free:V->Bool
 |.ptr ..|.slice ..|.map _|.chan _|.yield _=>false
 |.func _ a c=>V.lf a&&V.lf c
 |.iface _ v=>V.free v
 |.agg l=>V.lf l
 |.aV l=>V.lf l
 |_=>true
def V.lf:List V->Bool
 |[]=>true
 |v::vs=>V.free v&&V.lf vs
end
mutual
def V.lh{ρ:Nat->Option Nat}:∀(v:V),V.free v=true->V.bZ ρ v=some v
 |.bool _,_=>rfl
 |.int _ _,_=>rfl
 |.wK _ _,_=>rfl
 |.str _,_=>rfl
 |.bJ,_=>rfl
 |.ptr _ _,h=>by simp[V.free]at h
 |.aa,_=>rfl
 |.slice _ _ _ _ _,h=>by simp[V.free]at h
 |.empty,_=>rfl
 |.bQ,_=>rfl
 |.map _,h=>by simp[V.free]at h
 |.bR,_=>rfl
 |.chan _,h=>by simp[V.free]at h
 |.func f a c,h=>by
  simp only[V.free,gI]at h
  simp only[V.bZ,V.d_ a h.1,V.d_ c h.2]
 |.yield _,h=>by simp[V.free]at h
 |.bS,_=>rfl
 |.iface t v,h=>by
  simp only[V.free]at h
  simp only[V.bZ,V.lh v h]
 |.aY,_=>rfl
 |.agg l,h=>by
  simp only[V.free]at h
  simp only[V.bZ,V.d_ l h]
 |.aV l,h=>by
  simp only[V.free]at h
  simp only[V.bZ,V.d_ l h]
def V.d_{ρ:Nat->Option Nat}:∀(l:List V),V.lf l=true->V.eI ρ l=some l
 |[],_=>rfl
 |v::vs,h=>by
  simp only[V.lf,gI]at h
  simp only[V.eI,V.lh v h.1,V.d_ vs h.2]
end
def As:Nat->T O
 |0=>.nil
 |n+1=>(As n).set n .dead
def TX:∀(n i:Nat),i<n->(As n).get i=some .dead
 |0,i,h=>by omega
 |n+1,i,h=>by
  simp only[As,T.ae]
  by_cases e:i=n
  ·rw[ar e]
  ·rw[ak e];exact TX n i (by omega)
def base(G:Nat):St:=⟨As G,G,[]⟩
def lk:List (Nat×O)->Nat->Option O
 |[],_=>none
 |(j,o)::l,i=>match Nat.beq j i with
  |true=>some o
  |false=>lk l i
def uQ(h:T O):List (Nat×O)->T O
 |[]=>h
 |(j,o)::l=>(uQ h l).set j o
def Dm(h:T O):∀(l:List (Nat×O)) (i:Nat),(uQ h l).get i=match lk l i with|some o=>some o|none=>h.get i
 |[],i=>rfl
 |(j,o)::l,i=>by
  simp only[uQ,T.ae,lk]
  by_cases e:i=j
  ·subst e
   rw[ar rfl,Nat.beq_refl _]
  ·rw[ak e]
   have:Nat.beq j i=false:=by
    cases hb:Nat.beq j i with
    |false=>rfl
    |true=>exact absurd (Tw hb).symm e
   rw[this]
   exact Dm h l i
def PJ:∀{l:List (Nat×O)} {i:Nat} {o:O},lk l i=some o->(i,o)∈l
 |(j,o')::l,i,o,h=>by
  simp only[lk]at h
  split at h
  ·rename_i e
   have:=kO e
   simp only[aq]at h
   subst h;subst this;exact qQ
  ·exact qz _ (PJ h)
def Ygs:∀{l:List (Nat×O)} {i:Nat},lk l i=none->∀p∈l,p.1≠i
 |[],_,_,p,hp=>by cases hp
 |(j,o')::l,i,h,p,hp=>by
  simp only[lk]at h
  split at h
  ·cases h
  ·rename_i e
   rcases iW.1 hp with rfl|hp
   ·intro hc
    simp only at hc
    subst hc
    have:Nat.beq j j=true:=Nat.beq_refl _
    rw[this]at e;cases e
   ·exact Ygs h p hp
def Yrr{l:List (Nat×O)}{i:Nat}{o:O}(h:(i,o)∈l):∃o',lk l i=some o':=by
 cases hc:lk l i with
 |some o'=>exact⟨o',rfl⟩
 |none=>exact absurd rfl (Ygs hc _ h)
def HQ(i:Nat):List Nat->Bool
 |[]=>false
 |j::l=>match Nat.beq j i with
  |true=>true
  |false=>HQ i l
def M8{i:Nat}:∀{l:List Nat},HQ i l=true↔i∈l
 |[]=>by simp[HQ]
 |j::l=>by
  simp only[HQ]
  split
  ·rename_i e;simp[kO e]
  ·rename_i e
   have:i≠j:=by
    rintro rfl
    have:Nat.beq i i=true:=Nat.beq_refl _
    rw[this]at e;cases e
   simp[M8,this]
structure nP where
 f:Nat
 args:List V
 v:V
def O.tab:O->Bool
 |.cells c _ false=>V.lf c
 |_=>false
def OL(G:Nat):List (Nat×O)->Bool
 |[]=>true
 |(i,o)::l=>Nat.blt i G&&o.tab&&OL G l
def O.Fe{ρ:Nat->Option Nat}{o:O}(h:o.tab=true):o.bZ ρ=some o:=by
 cases o with
 |cells c e rw=>
  cases rw with
  |true=>cases h
  |false=>simp only[O.bZ,V.d_ c h]
 |_=>cases h
def Zok{G:Nat}:∀{l:List (Nat×O)},OL G l=true->∀{i:Nat} {o:O},lk l i=some o->i<G/\o.tab=true
 |(j,o')::l,h,i,o,ho=>by
  simp only[OL,gI]at h
  simp only[lk]at ho
  split at ho
  ·rename_i e
   simp only[aq]at ho
   rw[<-kO e,<-ho]
   exact⟨Eo (wQ h.1.1),h.1.2⟩
  ·exact Zok h.2 ho
def GR(G:Nat)(tb:List (Nat×O)):St:=⟨uQ (As G) tb,G,[]⟩
def GK(S:St):List (Nat×O)->Bool
 |[]=>true
 |(i,o)::l=>match Mb (S.h.get i) o with
  |true=>GK S l
  |false=>false
def Zmp{S:St}:∀{l:List (Nat×O)},GK S l=true->∀p∈l,S.h.get p.1=some p.2
 |[],_,p,hp=>by cases hp
 |(i,o)::l,h,p,hp=>by
  simp only[GK]at h
  split at h
  ·rename_i e
   rcases iW.1 hp with rfl|hp
   ·exact Yfs e
   ·exact Zmp h p hp
  ·cases h
def nP.ok(e:nP)(tb:List (Nat×O))(G:Nat)(call:cM):Bool:=
 match call (.func e.f [] []) e.args (GR G tb)with
 |some (v,s)=>match s.w with
  |[]=>V.beq v e.v&&V.free e.v&&V.lf e.args&&Nat.ble G s.n&&OL G tb
  |_=>false
 |none=>false
def Yze(P:Program)(tb:List (Nat×O))(e:nP):Prop:=∀S,GK S tb=true->Md P (.func e.f [] []) e.args S e.v S
def nP.pure{call:cM}(hc:jZ P call){tb:List (Nat×O)}{e:nP}(h:e.ok tb P.globals.size call=true):Yze P tb e:=by
 unfold nP.ok at h;split at h
 ·rename_i v s cj;split at h
  ·rename_i hw;simp only[gI]at h;obtain⟨⟨⟨⟨h1,h2⟩,h3⟩,h4⟩,h5⟩:=h;have hv:=V.beq_eq _ _ h1;subst hv;intro S fh μ w Gv xs hh hG hx;have fh:=Zmp fh;have hn:P.globals.size<=S.n:=by apply zB;intro aC;obtain⟨t,ht⟩:=hh.iN S.n aC;have:=(hh.dt _ _ ht).1;omega
   have F:Jz P (fun i=>if i<P.globals.size then some i else none) (fun i=>if i<P.globals.size then some i else none) [] (GR P.globals.size tb) s S S:={
    dt:=fun i i' hi=>by
     split at hi
     ·rename_i aC;simp only[aq]at hi;subst hi
      exact⟨aC,by omega⟩
     ·cases hi
    inj:=fun i j i' hi hj=>by
     split at hi<;>split at hj<;>simp_all
    iN:=fun g hg=>by simp[hg]
    obj:=fun i i' hi=>by
     split at hi
     ·rename_i aC
      simp only[aq]at hi;subst hi
      cases hl:lk tb i with
      |some o=>
       refine⟨o,o,?_,.inr (.inl (O.Fe (Zok h5 hl).2)),.inl (fh _ (PJ hl))⟩
       show (uQ (As P.globals.size) tb).get i=_
       rw[Dm,hl]
      |none=>
       refine⟨.dead,.dead,?_,.inl rfl,.inr rfl⟩
       show (uQ (As P.globals.size) tb).get i=_
       rw[Dm,hl]
       exact TX _ _ aC
     ·cases hi
    old:=fun _ _=>rfl
    new:=fun i i' hi hr=>by
     have:P.globals.size<=i:=hi
     rw[ak (by omega)]at hr;cases hr
    JA:=fun i j i' hi _ hr _=>by
     have:P.globals.size<=i:=hi
     rw[ak (by omega)]at hr;cases hr
    full:=fun i' h1 h2=>by omega
    iG:=aO _
    w0:=rfl
    W1:=fun i i' hi _=>by rw[hw]at hi;cases hi
    W2:=fun j hj=>by cases hj
    wl:=rfl
    ad:=fun _ _ _=>rfl
    wr:=fun i i' hi _=>by rw[hw]at hi;cases hi
    obn:=fun i i' hi hr=>by have:P.globals.size<=i:=hi;rw[ak (by omega)]at hr;cases hr};exact(Md.frame (hc _ _ _ _ _ cj) F (V.lh _ (by rfl)) (V.d_ _ h3) (V.lh _ h2)) μ w Gv xs hh hG hx
  cases h
 cases h
def Ma:List nP->Nat->List V->Option V
 |[],_,_=>none
 |e::l,f,args=>match Nat.beq e.f f with
  |true=>match V.jy e.args args with
   |true=>some e.v
   |false=>Ma l f args
  |false=>Ma l f args
def LZ(tb:List (Nat×O))(l:List nP):cM
 |.func f [] [],args,st=>match Ma l f args with
  |some v=>match GK st tb with
   |true=>some (v,st)
   |false=>none
  |none=>none
 |_,_,_=>none
def Zo4:∀{l:List nP} {f:Nat} {args:List V} {v:V},Ma l f args=some v->∃e∈l,e.f=f/\e.args=args/\e.v=v
 |[],_,_,_,h=>by cases h
 |e::l,f,args,v,h=>by
  simp only[Ma]at h
  split at h
  ·rename_i e1
   split at h
   ·rename_i e2
    simp only[aq]at h
    exact⟨e,qQ,kO e1,V.dC _ _ e2,h⟩
   ·obtain⟨e',h1,h2⟩:=Zo4 h;exact⟨e',qz _ h1,h2⟩
  ·obtain⟨e',h1,h2⟩:=Zo4 h;exact⟨e',qz _ h1,h2⟩
def Zy9{tb:List (Nat×O)}{l:List nP}(h:∀e∈l,Yze P tb e):jZ P (LZ tb l):=by
 intro g args st v aA hc;unfold LZ at hc;split at hc
 ·rename_i f;split at hc
  ·rename_i u hu;split at hc
   ·rename_i hp;simp only[aq,bB]at hc;obtain⟨rfl,rfl⟩:=hc;obtain⟨e,h1,rfl,rfl,rfl⟩:=Zo4 hu;exact h e h1 st hp
   cases hc
  cases hc
 cases hc
structure mb where
 f:Nat
 first:List V
 iB:List V
 args:List V
 part:List (Nat×O)
 n:Nat
 v:V
 kept:List (Nat×O)
 Dw:List (Nat×O)
def mb.st(e:mb)(G:Nat):St:=⟨uQ (As G) e.part,e.n,[]⟩
def sig(G:Nat)(part:List (Nat×O))(i:Nat):Option Nat:=
 match Nat.blt i G with
 |true=>some i
 |false=>match lk part i with
  |some _=>some i
  |none=>none
def idx(i:Nat):List (Nat×O)->Nat->Option Nat
 |[],_=>none
 |(k,_)::l,m=>match Nat.beq k i with
  |true=>some m
  |false=>idx i l (m+1)
def Ff(G:Nat)(part:List (Nat×O))(n:Nat)(kept:List (Nat×O))(i:Nat):Option Nat:=
 match Nat.blt i n with
 |true=>sig G part i
 |false=>idx i kept n
def Fg:List (Nat×O)->Nat->List (Nat×O)
 |[],_=>[]
 |(_,o)::l,m=>(m,o)::Fg l (m+1)
def Mz(ρ:Nat->Option Nat)(s:St)(i:Nat)(o':O):Bool:=
 match s.h.get i with
 |some o=>match o' with
  |.dead=>true
  |o'=>Mb (o.bZ ρ) o'
 |none=>false
def Ux(ρ:Nat->Option Nat)(s:St)(n:Nat):List (Nat×O)->Nat->Bool
 |[],_=>true
 |(k,o)::l,m=>PI (ρ k) (some m)&&Nat.ble n k&&Nat.blt k s.n&&Mz ρ s k o&&Ux ρ s n l (m+1)
def mb.cU(e:mb)(G:Nat)(v:V)(s:St):Bool:=
 Nat.ble G e.n&&Nat.ble e.n s.n&&(e.part.all fun p=>Nat.blt p.1 e.n&&Mb (p.2.bZ (sig G e.part)) p.2)&&
 Uw (V.eI (sig G e.part) e.first) e.first&&Uw (V.eI (sig G e.part) e.iB) e.iB&&Uw (V.eI (sig G e.part) e.args) e.args&&
 vEq (V.bZ (Ff G e.part e.n e.kept) v) e.v&&
 Ux (Ff G e.part e.n e.kept) s e.n e.kept e.n&&
 (s.w.all fun i=>match sig G e.part i with|some _=>HQ i (e.Dw.map (·.1))|none=>true)&&
 (e.Dw.all fun p=>HQ p.1 s.w&&PI (sig G e.part p.1) (some p.1)&&Mz (Ff G e.part e.n e.kept) s p.1 p.2)
def mb.ok(e:mb)(G:Nat)(call:cM):Bool:=
 match call (.func e.f e.first e.iB) e.args (e.st G)with
 |some (v,s)=>e.cU G v s
 |none=>false
def mb.out(e:mb)(S:St):St:=⟨uQ (uQ S.h e.Dw) (Fg e.kept e.n),e.n+e.kept.length,e.Dw.map (·.1)++S.w⟩
def PL(e:mb):cM
 |.func f a c,args,S=>match Nat.beq e.f f with
  |true=>match V.jy e.args args&&V.jy e.first a&&V.jy e.iB c&&Nat.beq S.n e.n&&GK S e.part with
   |true=>some (e.v,e.out S)
   |false=>none
  |false=>none
 |_,_,_=>none
def PM{i:Nat}:∀{l:List (Nat×O)} {m i':Nat},idx i l m=some i'->m<=i'/\i'<m+l.length/\∃o,l[i'-m]?=some (i,o)
 |[],m,i',h=>by cases h
 |(k,o)::l,m,i',h=>by
  simp only[idx]at h
  split at h
  ·rename_i e
   simp only[aq]at h;subst h
   have:=kO e;subst this
   exact⟨aO _,by simp,o,by simp⟩
  ·obtain⟨h1,h2,o',h3⟩:=PM h
   refine⟨by omega,by simp;omega,o',?_⟩
   rw[show i'-m=(i'-(m+1))+1 by omega]
   simpa using h3
def Zq8:∀{l:List (Nat×O)} {m j:Nat} {p:Nat×O},l[j]?=some p->lk (Fg l m) (m+j)=some p.2
 |[],m,j,p,h=>by simp at h
 |(k,o)::l,m,0,p,h=>by
  simp at h;subst h
  simp[Fg,lk]
 |(k,o)::l,m,j+1,p,h=>by
  simp only[Fg,lk]
  have:Nat.beq m (m+(j+1))=false:=by
   cases hb:Nat.beq m (m+(j+1))with
   |false=>rfl
   |true=>have:=kO hb;omega
  rw[this,show m+(j+1)=(m+1)+j by omega]
  exact Zq8 (by simpa using h)
def Znb:∀{l:List (Nat×O)} {m i:Nat},i<m->lk (Fg l m) i=none
 |[],_,_,_=>rfl
 |(k,o)::l,m,i,h=>by
  simp only[Fg,lk]
  have:Nat.beq m i=false:=by
   cases hb:Nat.beq m i with
   |false=>rfl
   |true=>have:=kO hb;omega
  rw[this]
  exact Znb (by omega)
def Zrc{ρ:Nat->Option Nat}{s:St}{n:Nat}:∀{l:List (Nat×O)} {m:Nat},Ux ρ s n l m=true->∀{j:Nat} {p:Nat×O},l[j]?=some p->ρ p.1=some (m+j)/\n<=p.1/\p.1<s.n/\Mz ρ s p.1 p.2=true
 |[],m,_,j,p,h=>by simp at h
 |(k,o)::l,m,h,j,p,hj=>by
  simp only[Ux,gI]at h
  obtain⟨⟨⟨⟨h1,h2⟩,h3⟩,h4⟩,h5⟩:=h
  cases j with
  |zero=>
   simp at hj;subst hj
   exact⟨Zpd h1,wQ h2,Eo (wQ h3),h4⟩
  |succ j=>
   obtain⟨q1,q2⟩:=Zrc h5 (j:=j) (by simpa using hj)
   exact⟨by rw[q1];congr 1;omega,q2⟩
def Zq7{ρ:Nat->Option Nat}{s:St}{o':O}(h:Mz ρ s i o'=true):∃o,s.h.get i=some o/\(o'=.dead\/o.bZ ρ=some o'):=by
 unfold Mz at h;split at h
 ·rename_i o ho;refine⟨o,ho,?_⟩;split at h
  ·exact .inl rfl
  exact .inr (Yfs h)
 cases h
def MA{part:List (Nat×O)}{i':Nat}(h:sig G part i=some i'):i'=i/\(i<G\/∃o,lk part i=some o):=by
 unfold sig at h;split at h
 ·rename_i e;simp only[aq]at h;exact⟨h.symm,.inl (Eo (wQ e))⟩
 split at h
 ·rename_i o ho;simp only[aq]at h;exact⟨h.symm,.inr ⟨o,ho⟩⟩
 cases h
def Yc8{call:cM}(cj:jZ P call){e:mb}(h:e.ok P.globals.size call=true):jZ P (PL e):=by
 intro g args S v S' hc;unfold PL at hc;split at hc
 ·rename_i f a c;split at hc
  ·rename_i hf;have hf:=kO hf;subst hf;split at hc
   ·rename_i c_;simp only[gI]at c_;obtain⟨⟨⟨⟨c1,c2⟩,c3⟩,c4⟩,c5⟩:=c_;have c1:=V.dC _ _ c1;have c2:=V.dC _ _ c2;have c3:=V.dC _ _ c3;have c4:=kO c4;have c5:=Zmp c5;simp only[aq,bB]at hc;obtain⟨rfl,rfl⟩:=hc;subst c1;subst c2;subst c3;unfold mb.ok at h;split at h
    ·rename_i v0 s bP;unfold mb.cU at h;simp only[gI,jY]at h;obtain⟨⟨⟨⟨⟨⟨⟨⟨⟨k1,k2⟩,k3⟩,k4⟩,k5⟩,k6⟩,k7⟩,k8⟩,k9⟩,k10⟩:=h;have k1:=wQ k1;have k2:=wQ k2;have fh:∀i o,lk e.part i=some o->i<e.n/\o.bZ (sig P.globals.size e.part)=some o/\S.h.get i=some o:=fun i o ho=>by have hm:=PJ ho;obtain⟨q1,q2⟩:=k3 _ hm;exact⟨Eo (wQ q1),Yfs q2,c5 _ hm⟩
     have Uy:∀i,e.n<=i->Ff P.globals.size e.part e.n e.kept i=idx i e.kept e.n:=fun i hi=>by
      unfold Ff;have:Nat.blt i e.n=false:=by
       cases hb:Nat.blt i e.n with
       |false=>rfl
       |true=>have:=Eo (wQ hb);omega
      rw[this]
     have B6:∀j p,e.kept[j]?=some p->Ff P.globals.size e.part e.n e.kept p.1=some (e.n+j)/\e.n<=p.1/\p.1<s.n/\Mz (Ff P.globals.size e.part e.n e.kept) s p.1 p.2=true:=fun j p hj=>Zrc k8 hj;have PN:∀j,j<e.n->(e.out S).h.get j=match lk e.Dw j with|some o=>some o|none=>S.h.get j:=fun j hj=>by show (uQ (uQ S.h e.Dw) (Fg e.kept e.n)).get j=_;rw[Dm,Znb hj,Dm]
     have F:Jz P (sig P.globals.size e.part) (Ff P.globals.size e.part e.n e.kept) (e.Dw.map (·.1)) (e.st P.globals.size) s S (e.out S):={
      dt:=fun i i' hi=>by
       obtain⟨rfl,Mf⟩:=MA hi
       have:i'<e.n:=by
        rcases Mf with h|⟨o,ho⟩
        ·omega
        ·exact(fh _ _ ho).1
       exact⟨this,by omega⟩
      inj:=fun i j i' hi hj=>by rw[<-(MA hi).1,<-(MA hj).1]
      iN:=fun g hg=>by
       unfold sig
       have:Nat.blt g P.globals.size=true:=Tz hg
       rw[this]
      obj:=fun i i' hi=>by
       obtain⟨rfl,Mf⟩:=MA hi
       cases hl:lk e.part i' with
       |some o=>
        obtain⟨q1,q2,q3⟩:=fh _ _ hl
        refine⟨o,o,?_,.inr (.inl q2),.inl q3⟩
        show (uQ (As P.globals.size) e.part).get i'=_
        rw[Dm,hl]
       |none=>
        have hg:i'<P.globals.size:=by
         rcases Mf with h|⟨o,ho⟩
         ·exact h
         ·rw[hl]at ho;cases ho
        refine⟨.dead,.dead,?_,.inl rfl,.inr rfl⟩
        show (uQ (As P.globals.size) e.part).get i'=_
        rw[Dm,hl]
        exact TX _ _ hg
      old:=fun i hi=>by
       have:Nat.blt i e.n=true:=Tz hi
       unfold Ff;rw[this]
      new:=fun i i' hi hr=>by
       rw[Uy i hi]at hr
       obtain⟨q1,q2,o,q3⟩:=PM hr
       obtain⟨_,_,r3,_⟩:=B6 _ _ q3
       exact⟨by omega,q2,r3⟩
      JA:=fun i j i' hi hj Me hrj=>by
       rw[Uy i hi]at Me
       rw[Uy j hj]at hrj
       obtain⟨_,_,o,q3⟩:=PM Me
       obtain⟨_,_,o',Mg⟩:=PM hrj
       rw[q3]at Mg
       cases Mg;rfl
      full:=fun i' h1 h2=>by
       have mG:i'<e.n+e.kept.length:=h2
       obtain⟨p,hp⟩:∃p,e.kept[i'-e.n]?=some p:=⟨_,bV (by omega)⟩
       obtain⟨r1,r2,_,_⟩:=B6 _ _ hp
       exact⟨p.1,r2,by rw[r1];congr 1;omega⟩
      iG:=by show S.n<=e.n+e.kept.length;omega
      w0:=rfl
      W1:=fun i i' hi hs=>by
       obtain⟨rfl,_⟩:=MA hs
       have:=k9 _ hi
       rw[hs]at this
       exact M8.1 this
      W2:=fun j hj=>by
       obtain⟨p,hp,rfl⟩:=bF.1 hj
       obtain⟨⟨q1,q2⟩,_⟩:=k10 _ hp
       exact⟨p.1,M8.1 q1,Zpd q2⟩
      wl:=rfl
      ad:=fun j hj hn=>by
       rw[PN j (by omega)]
       cases hl:lk e.Dw j with
       |none=>rfl
       |some o=>exact absurd (bF.2 ⟨_,PJ hl,rfl⟩) hn
      wr:=fun i i' hi hs=>by
       obtain⟨rfl,Mf⟩:=MA hs
       have aC:i'<e.n:=by
        rcases Mf with h|⟨o,ho⟩
        ·omega
        ·exact(fh _ _ ho).1
       have:=k9 _ hi
       rw[hs]at this
       obtain⟨p,hp,He⟩:=bF.1 (M8.1 this)
       obtain⟨o',yB⟩:=Yrr (l:=e.Dw) (i:=i') (o:=p.2) (by rw[<-He];exact hp)
       obtain⟨_,q3⟩:=k10 _ (PJ yB)
       obtain⟨o,r1,r2⟩:=Zq7 q3
       exact⟨o,o',r1,by rw[PN _ aC,yB],r2⟩
      obn:=fun i i' hi hr=>by rw[Uy i hi]at hr;obtain⟨q1,q2,o,q3⟩:=PM hr;obtain⟨_,_,_,r4⟩:=B6 _ _ q3;obtain⟨o2,t1,t2⟩:=Zq7 r4;refine⟨o2,o,t1,?_,t2⟩;show (uQ (uQ S.h e.Dw) (Fg e.kept e.n)).get i'=_;have:=Zq8 (m:=e.n) q3;rw[show e.n+(i'-e.n)=i' by omega]at this;rw[Dm,this]};refine Md.frame (cj _ _ _ _ _ bP) F ?_ (Zv0 k6) (Yuj k7);simp only[V.bZ,Zv0 k4,Zv0 k5]
    cases h
   cases hc
  cases hc
 cases hc
def Ah(x:cM)(dV:Nat->Option mV)(fuel:Nat):Nat->cM
 |0=>x
 |d+1=>t_ x (zw dV (dZ (Ah x dV fuel d) fuel))
def To{P:Program}{dV:Nat->Option mV}(hm:P.follows .mixedOrders=true)(hE:vn P)(ht:Zyf P dV){x:cM}(hx:jZ P x)(fuel:Nat):∀d,jZ P (Ah x dV fuel d)
 |0=>hx
 |d+1=>by
  have ih:=To hm hE ht hx fuel d
  exact hx.or (Zx5 ht (Yii ih hE (Yhu hm hE ih) (Ynx ih hE) (Zy0 ih) fuel))
def Uz:List mb->Nat->List V->List V->List V->St->Option (V×St)
 |[],_,_,_,_,_=>none
 |e::l,f,a,c,args,S=>match Nat.beq e.f f with
  |true=>match PL e (.func f a c) args S with
   |some r=>some r
   |none=>Uz l f a c args S
  |false=>Uz l f a c args S
def Ysl(l:List mb):cM
 |.func f a c,args,S=>Uz l f a c args S
 |_,_,_=>none
def Ymh{l:List mb}(h:∀e∈l,jZ P (PL e)):jZ P (Ysl l):=by
 intro g args S v S' hc;unfold Ysl at hc;split at hc
 ·rename_i f a c;induction l with
  |nil=>cases hc
  |cons e l ih=>
   simp only[Uz]at hc;split at hc
   ·split at hc
    ·rename_i r hr;cases hc;exact h e qQ _ _ _ _ _ hr
    exact ih (fun e he=>h e (qz _ he)) hc
   exact ih (fun e he=>h e (qz _ he)) hc
 cases hc
def PO(tb:List (Nat×O))(L:List nP)(E:List mb):cM:=t_ (LZ tb L) (Ysl E)
structure aZ (P:Program) (tb:List (Nat×O)) (L:List nP) (E:List mb):Prop where
 p:∀e∈L,Yze P tb e
 e:∀e∈E,jZ P (PL e)
def aZ.call{tb:List (Nat×O)}{L:List nP}{E:List mb}(h:aZ P tb L E):jZ P (PO tb L E):=(Zy9 h.p).or (Ymh h.e)
def aZ.nil{tb:List (Nat×O)}:aZ P tb [] []:=⟨fun _ h=>(by cases h),fun _ h=>(by cases h)⟩
structure FN (P:Program) (dV:Nat->Option mV) (G:Nat):Prop where
 m:P.follows .mixedOrders=true
 e:vn P
 t:Zyf P dV
 g:P.globals.size=G
def aZ.zap{dV:Nat->Option mV}{fuel d:Nat}(hP:FN P dV G){tb:List (Nat×O)}{L:List nP}{E:List mb}(h:aZ P tb L E){e:nP}(he:e.ok tb G (Ah (PO tb L E) dV fuel d)=true):aZ P tb (e::L) E:=
 ⟨fun e' hm=>by
  rcases iW.1 hm with rfl|hm
  ·exact nP.pure (To hP.m hP.e hP.t h.call fuel d) (by rw[hP.g];exact he)
  ·exact h.p e' hm,h.e⟩
def aZ.zaq{dV:Nat->Option mV}{fuel d:Nat}(hP:FN P dV G){tb:List (Nat×O)}{L:List nP}{E:List mb}(h:aZ P tb L E){e:mb}(he:e.ok G (Ah (PO tb L E) dV fuel d)=true):aZ P tb L (e::E):=
 ⟨h.p,fun e' hm=>by
  rcases iW.1 hm with rfl|hm
  ·exact Yc8 (To hP.m hP.e hP.t h.call fuel d) (by rw[hP.g];exact he)
  ·exact h.e e' hm⟩
def Yol(tb:List (Nat×O))(G:Nat)(dV:Nat->Option mV)(L:List nP)(E:List mb):Bool:=match L with
 |[]=>false
 |e::t=>e.ok tb G (Ah (PO tb t E) dV 5000 40)
def Yhb(tb:List (Nat×O))(G:Nat)(dV:Nat->Option mV)(L:List nP)(E:List mb):Bool:=match E with
 |[]=>false
 |e::t=>e.ok G (Ah (PO tb L t) dV 5000 40)
def aZ.p1{P:Program}{dV:Nat->Option mV}{G:Nat}(hP:FN P dV G){tb:List (Nat×O)}{L:List nP}{E:List mb}(h:aZ P tb L.tail E)(he:Yol tb G dV L E=true):aZ P tb L E:=by
 cases L with
 |nil=>exact h
 |cons e t=>exact aZ.zap hP h he
def aZ.e1{P:Program}{dV:Nat->Option mV}{G:Nat}(hP:FN P dV G){tb:List (Nat×O)}{L:List nP}{E:List mb}(h:aZ P tb L E.tail)(he:Yhb tb G dV L E=true):aZ P tb L E:=by
 cases E with
 |nil=>exact h
 |cons e t=>exact aZ.zaq hP h he
section
variable {call:cM} {f:Nat} {ro:Option Nat} {a b c:bW} {fr:Fr} {st:St}
end
def Yvd{a b:Nat}:Nat.blt a b=decide (a<b):=by
 cases h:Nat.blt a b
 ·symm;simp only[decide_eq_false_iff_not];intro hc;rw[show Nat.blt a b=true from Tz hc]at h;cases h
 symm;simp only[decide_eq_true_eq];exact Eo (wQ h)
def Yve{a b:Nat}:Nat.ble a b=decide (a<=b):=by
 cases h:Nat.ble a b
 ·symm;simp only[decide_eq_false_iff_not];intro hc;rw[Tz hc]at h;cases h
 symm;simp only[decide_eq_true_eq];exact wQ h
def cP{n:Int}(h1: -9223372036854775808<=n)(h2:n<9223372036854775808):bo .i64 n=n:=by rw[Bw];simp[IntKind.wrap,IntKind.bits,IntKind.signed];omega
def Ycy{k a b}:sK .add k a b=some (.int k (bo k (a+b))):=rfl
def Ycn{k a b}:sK .sub k a b=some (.int k (bo k (a-b))):=rfl
def Ycs{k a b}:sK .mul k a b=some (.int k (bo k (a*b))):=rfl
def Ycq{k a b}(h:¬b=0):sK .quo k a b=some (.int k (bo k (a.tdiv b))):=by simp[sK,h]
def Ycp{k a b}(h:¬b=0):sK .rem k a b=some (.int k (a.tmod b)):=by simp[sK,h]
def Ycx{k a b}:sK .eql k a b=some (.bool (a==b)):=rfl
def Ycr{k a b}:sK .neq k a b=some (.bool (a !=b)):=rfl
def Yct{k a b}:sK .lss k a b=some (.bool (decide (a<b))):=rfl
def Ycu{k a b}:sK .leq k a b=some (.bool (decide (a<=b))):=rfl
def Ycv{k a b}:sK .gtr k a b=some (.bool (decide (a > b))):=rfl
def Ycw{k a b}:sK .geq k a b=some (.bool (decide (a≥b))):=rfl
def Yra(x):cC (.m_ x)=I8 x:=rfl
def Yk5(a b c):cC (.pick a b c)=Gw a b c:=rfl
def Yga(a b):cC (.alloc a b)=LL a b:=rfl
def Yre(a b):cC (.box a b)=I9 a b:=rfl
def Yf9(a b):cC (.build a b)=Ey a b:=rfl
def Yb5(a b c d e):cC (.fO a b c d e)=Ja a b c d e:=rfl
def Yk6(a b):cC (.load a b)=Jb a b:=rfl
def Yf1(a b c):cC (.store a b c)=Gx a b c:=rfl
def Yf3(a):cC (.px a)=Jc a:=rfl
def Yrf(a b c d e):cC (.bin a b c d e)=Jd a b c d e:=rfl
def Yvg(a b):cC (.un a b)=Je a b:=rfl
def Zw8(a b):cC (.dB a b)=Jf a b:=rfl
def Yby(a b c):cC (.pz a b c)=Jh a b c:=rfl
def Yf6(a b):cC (.jE a b)=Ji a b:=rfl
def Yf5(a b c):cC (.field a b c)=Jj a b c:=rfl
def Zul(a b c d):cC (.iL a b c d)=EA a b c d:=rfl
def Zw5(a b c):cC (.bG a b c)=GA a b c:=rfl
def Zw6(a b):cC (.extract a b)=Jn a b:=rfl
def Yrb(a b):cC (.len a b)=zE a b:=rfl
def Yk8(a b):cC (.call a b)=An a b:=rfl
structure Yw6 (r:Option (V×St)) (v:V):Prop where
 ex:∃s,r=some (v,s)/\s.w=[]
def Yc1{u v:V}{s:St}:Yw6 (some (u,s)) v↔u=v/\s.w=[]:=
 ⟨fun ⟨_,h1,h2⟩=>by simp only[aq,bB]at h1;exact⟨h1.1,h1.2▸h2⟩,fun ⟨h1,h2⟩=>⟨s,by rw[h1],h2⟩⟩
attribute [simp]
 Yra Yk5 Yga Yre Yf9 Yb5 Yk6 Yf1 Yf3 Yrf Yvg Zw8 Yby Yf6 Yf5 Zul Zw5 Zw6 Yrb Yk8
 I8 Gw LL I9 Ey Ja Jb Jc Jd Je Jf Jh Ji Jj EA Jn An
 Ao bU Src.ev T.ae gg GF ay ZU Ycy Ycn Ycs Ycq Ycp Ycx Ycr Yct Ycu Ycv Ycw jF ZV vL aB C6 C5 aQ V.cells V.one St.alloc St.write St.row cP Yvd Yve wG qm iA.pA TH kJ cQ cQ.go cQ.cU FP.free ED Nat.testBit Yc1 base
end Go.Mx

