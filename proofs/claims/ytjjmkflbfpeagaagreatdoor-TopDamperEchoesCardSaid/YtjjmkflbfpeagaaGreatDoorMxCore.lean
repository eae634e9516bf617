/-The abstract machine M-/
import Derived.RangeFuncLeaves
import Derived.OrdersIn
import Derived.RangeFuncRecord
set_option linter.all false
namespace Go.Mx
abbrev iT:=@Nat.mul_le_mul_left
abbrev oQ:=@Int.mul_le_mul_of_nonneg_left
abbrev nj:=@List.getElem?_append_left
abbrev pV:=@List.eq_nil_of_length_eq_zero
abbrev iB:=@List.cons.injEq
abbrev kp:=@Nat.mul_le_mul_right
abbrev iS:=@Bool.and_eq_true
abbrev fv:=@Nat.pow_succ
abbrev nF:=@List.getElem?_set_self
abbrev kg:=@List.getElem?_take
abbrev ak:=@Option.some.injEq
abbrev aq:=@if_neg
abbrev bf:=@List.length_cons
abbrev aR:=@Nat.le_refl
abbrev bh:=@Prod.mk.injEq
abbrev aJ:=@if_pos
abbrev dT:=@List.getElem?_eq_getElem
abbrev eB:=@List.getElem?_set_ne
abbrev ed:=@Int.natAbs_natCast
abbrev fZ:=@Option.map_eq_some_iff
abbrev gI:=@List.take_of_length_le
abbrev fW:=@List.mem_of_getElem?
abbrev fY:=@Bool.false_eq_true
abbrev gk:=@List.getElem?_drop
abbrev ic:=@Nat.lt_of_lt_of_le
abbrev jC:=@List.getElem?_eq_none
abbrev iy:=@List.length_append
abbrev zo:=@List.getElem?_eq_some_iff
abbrev pk:=@Nat.add_assoc
abbrev w_:=@List.drop_eq_nil_of_le
abbrev sJ:=@List.all_eq_true
abbrev uz:=@Option.some.inj
abbrev rz:=@Nat.div_add_mod
abbrev BO:=@Int.mul_le_mul_of_nonneg_right
abbrev z_:=@Int.tmod_eq_emod_of_nonneg
abbrev xz:=@Array.getElem?_toList
abbrev xA:=@List.length_singleton
abbrev fR:=@Nat.mul_comm
abbrev qu:=@List.getElem?_append_right
abbrev nt:=@List.mem_cons_of_mem
abbrev jH:=@List.length_take
abbrev ko:=@List.getElem?_map
abbrev oh:=@Nat.div_lt_iff_lt_mul
abbrev mr:=@Nat.lt_of_le_of_lt
abbrev nY:=@Nat.pow_le_pow_right
abbrev jL:=@Nat.mul_le_mul
abbrev kl:=@List.mem_append
abbrev gL:=@Nat.pow_add
abbrev jy:=@List.mem_cons
abbrev nT:=@List.mem_cons_self
abbrev nX:=@List.ext_getElem?
abbrev km:=@List.map_cons
abbrev sL:=@Nat.le_of_ble_eq_true
abbrev jF:=@Nat.add_mul
abbrev nU:=@Nat.min_eq_left
abbrev qs:=@List.append_assoc
abbrev jO:=@Nat.mod_lt
abbrev yS:=@Int.tdiv_eq_ediv_of_nonneg
abbrev q9:=@Nat.lt_succ_self
abbrev qZ:=@Nat.lt_of_not_le
abbrev qA:=@Nat.two_pow_pos
abbrev my:=@Nat.mul_add
abbrev tX:=@List.mem_singleton
abbrev yX:=@List.append_nil
abbrev sh:=@Nat.mul_pos
abbrev zp:=@List.length_drop
abbrev yN:=@List.take_length
abbrev tN:=@Nat.zero_le
abbrev Dq:=@Nat.div_div_eq_div_mul
abbrev Al:=@Nat.lt_of_succ_le
abbrev BK:=@Nat.pow_le_pow_left
abbrev Am:=@List.map_toArray
abbrev vW:=@Nat.zero_add
abbrev zq:=@List.getElem?_cons_zero
abbrev sM:=@Nat.div_le_self
abbrev yW:=@List.take_append_drop
abbrev sC:=@Int.natAbs_mul
abbrev vw:=@Nat.mod_eq_of_lt
abbrev qz:=@Nat.le_trans
abbrev BE:=@List.mem_or_eq_of_mem_set
abbrev tQ:=@Int.mul_nonneg
abbrev ri:=@Nat.add_zero
abbrev wB:=@Nat.le_of_not_lt
abbrev qY:=@Int.le_of_lt
abbrev vS:=@List.drop_length
abbrev Dr:=@Array.getD_eq_getD_getElem?
abbrev Gw:=@Array.getElem?_setIfInBounds_ne
abbrev BP:=@List.getElem?_cons_succ
abbrev Bz:=@Int.eq_ofNat_of_zero_le
abbrev tZ:=@Nat.mul_assoc
abbrev Ae:=@List.mem_of_mem_take
abbrev rV:=@List.map_nil
abbrev zd:=@Rat.num_divInt_den
abbrev xC:=@Nat.div_eq_of_lt
abbrev Ds:=@List.drop_eq_getElem_cons
abbrev tV:=@List.mem_map
abbrev Gy:=@Option.ite_none_left_eq_some
abbrev Bw:=@Int.mul_ediv_add_emod
abbrev se:=@Nat.mul_one
abbrev IC:=@Int.ofNat_eq_natCast
abbrev R5:=@Array.all_eq_true_iff_forall_mem
abbrev Gz:=@Int.lt_of_not_ge
abbrev M9:=@Nat.gcd_pos_of_pos_right
abbrev ID:=@List.getElem?_range
abbrev IE:=@Nat.eq_zero_or_pos
abbrev GA:=@Int.natCast_mul
abbrev GB:=@Int.mul_ne_zero
abbrev M4:=@Nat.eq_of_beq_eq_true
abbrev Na:=@List.contains_iff_mem
abbrev An:=@Nat.le_max_right
abbrev Ao:=@List.cons_append
abbrev By:=@Int.emod_lt_of_pos
abbrev Ap:=@Nat.mul_lt_mul''
abbrev vf:=@Nat.pow_pos
abbrev yO:=@List.drop_zero
abbrev zr:=@Int.natAbs_neg
abbrev Aq:=@Option.map_some
abbrev Ar:=@Nat.le_max_left
abbrev zX:=@Nat.div_lt_self
abbrev IF:=@Nat.mul_lt_mul_of_pos_right
abbrev wC:=@Nat.le_succ
abbrev vz:=@Nat.not_lt
abbrev BH:=@Option.getD_some
abbrev BQ:=@Int.le_of_not_gt
abbrev GC:=@Nat.le_div_iff_mul_le
abbrev F9:=@List.getElem?_of_mem
abbrev Bx:=@Int.emod_nonneg
abbrev CP:=@List.take_add_one
abbrev Dt:=@Bool.not_eq_true'
abbrev xD:=@Array.ext'
abbrev GD:=@List.mem_replicate
abbrev Ag:=@Nat.pow_zero
abbrev Du:=@Bool.or_eq_true
abbrev IG:=@Nat.mul_mod_mul_right
abbrev CV:=@List.length_set
abbrev Nb:=@Nat.ble_eq_true_of_le
abbrev Nc:=@List.singleton_append
abbrev R6:=@List.dropLast_concat_getLast
abbrev Nd:=@Nat.mul_div_mul_right
inductive T (α:Type) where
 |nil
 |node (l:T α) (v:Option α) (r:T α)
def T.get{α:Type}:T α->Nat->Option α
 |.nil,_=>none
 |.node l v r,n=>
  match n with
  |0=>v
  |k+1=>match k%2 with
   |0=>l.get (k/2)
   |_=>r.get (k/2)
def T.eW{α:Type}:Nat->T α->Nat->α->T α
 |0,t,_,_=>t
 |f+1,.nil,n,a=>
  match n with
  |0=>.node .nil (some a) .nil
  |k+1=>match k%2 with
   |0=>.node (T.eW f .nil (k/2) a) none .nil
   |_=>.node .nil none (T.eW f .nil (k/2) a)
 |f+1,.node l v r,n,a=>
  match n with
  |0=>.node l (some a) r
  |k+1=>match k%2 with
   |0=>.node (T.eW f l (k/2) a) v r
   |_=>.node l v (T.eW f r (k/2) a)
def T.set{α:Type}(t:T α)(n:Nat)(a:α):T α:=T.eW (n+1) t n a
def T.xE{α:Type}(a:α):∀(f:Nat) (t:T α) (n m:Nat),n<f->(T.eW f t n a).get m=if m=n then some a else t.get m:=by
 intro f
 induction f with
 |zero=>intro t n m h;omega
 |succ f ih=>
  intro t n m h
  cases t with
  |nil=>
   cases n with
   |zero=>
    cases m with
    |zero=>simp[T.eW,T.get]
    |succ j=>simp only[T.eW,T.get];split<;>simp
   |succ k=>
    have hk:k/2<f:=by omega
    have h2:k%2=0\/k%2=1:=by omega
    rcases h2 with h2|h2
    ·cases m with
     |zero=>simp[T.eW,T.get,h2]
     |succ j=>
      have hj:j%2=0\/j%2=1:=by omega
      rcases hj with hj|hj
      ·simp only[T.eW,T.get,h2,hj,ih _ _ _ hk]
       by_cases e:j/2=k/2
       ·have:j=k:=by omega
        simp[this]
       ·have:¬j=k:=by intro e2;exact e (by rw[e2])
        simp[e,this]
      ·have:¬j=k:=by omega
       simp[T.eW,T.get,h2,hj,this]
    ·cases m with
     |zero=>simp[T.eW,T.get,h2]
     |succ j=>
      have hj:j%2=0\/j%2=1:=by omega
      rcases hj with hj|hj
      ·have:¬j=k:=by omega
       simp[T.eW,T.get,h2,hj,this]
      ·simp only[T.eW,T.get,h2,hj,ih _ _ _ hk]
       by_cases e:j/2=k/2
       ·have:j=k:=by omega
        simp[this]
       ·have:¬j=k:=by intro e2;exact e (by rw[e2])
        simp[e,this]
  |node l v r=>
   cases n with
   |zero=>cases m<;>simp[T.eW,T.get]
   |succ k=>
    have hk:k/2<f:=by omega
    have h2:k%2=0\/k%2=1:=by omega
    rcases h2 with h2|h2
    ·cases m with
     |zero=>simp[T.eW,T.get,h2]
     |succ j=>
      have hj:j%2=0\/j%2=1:=by omega
      rcases hj with hj|hj
      ·simp only[T.eW,T.get,h2,hj,ih _ _ _ hk]
       by_cases e:j/2=k/2
       ·have:j=k:=by omega
        simp[this]
       ·have:¬j=k:=by intro e2;exact e (by rw[e2])
        simp[e,this]
      ·have:¬j=k:=by omega
       simp[T.eW,T.get,h2,hj,this]
    ·cases m with
     |zero=>simp[T.eW,T.get,h2]
     |succ j=>
      have hj:j%2=0\/j%2=1:=by omega
      rcases hj with hj|hj
      ·have:¬j=k:=by omega
       simp[T.eW,T.get,h2,hj,this]
      ·simp only[T.eW,T.get,h2,hj,ih _ _ _ hk]
       by_cases e:j/2=k/2
       ·have:j=k:=by omega
        simp[this]
       ·have:¬j=k:=by intro e2;exact e (by rw[e2])
        simp[e,this]
def T.ai{α:Type}(t:T α)(n m:Nat)(a:α):(t.set n a).get m=if m=n then some a else t.get m:=
 T.xE a (n+1) t n m (q9 n)
inductive V where
 |bool (b:Bool)
 |int (k:IntKind) (n:Int)
 |jM (k:FloatKind) (bits:Nat)
 |rp (k:FloatKind) (re im:Nat)
 |str (s:List UInt8)
 |bF
 |ptr (i o:Nat)
 |aa
 |slice (i o len:Nat) (cap:Option Nat) (sz:Nat)
 |empty
 |bL
 |map (i:Nat)
 |bO
 |chan (i:Nat)
 |func (f:FuncId) (first cap:List V)
 |yield (i:Nat)
 |bP
 |iface (t:TypeId) (v:V)
 |aZ
 |agg (l:List V)
 |aY (l:List V)
instance:Inhabited V:=⟨.aY []⟩
def V.cells:V->List V
 |.agg l=>l
 |v=>[v]
def V.one:V->Bool
 |.agg _|.aY _=>false
 |_=>true
inductive Src where
 |tmp (t:Nat)
 |const (v:V)
inductive PK where
 |bool|int|str|ptr|slice|map|func|chan|iface
inductive p_ where
 |cQ (k:PK)
 |node (parts:List (Nat×Option Nat×p_))
inductive jN where
 |int (k:IntKind)
 |str
inductive Ext where
 |mB|mC|same|bV|jY|uj|uk
inductive fS where
 |mF (x:Src)
 |pick (c a b:Src)
 |alloc (zero:List V) (elem:TypeId)
 |box (elem:TypeId) (x:Src)
 |build (zero:List V) (parts:List (Nat×Nat×Src))
 |mH (elem:TypeId) (size len:Nat) (zero:List V) (parts:List (Nat×Nat×Src))
 |load (n:Option Nat) (a:Src)
 |store (n:Nat) (a x:Src)
 |mI (x:Src)
 |bin (op:BinOp) (t:p_) (ng:Bool) (x y:Src)
 |un (op:UnOp) (x:Src)
 |cR (k:IntKind) (x:Src)
 |kW (x:Src)
 |iZ (elem:TypeId) (x:Src)
 |mJ (x:Src)
 |gQ (t:TypeId) (x:Src)
 |mL (f:FuncId) (first fT:List Src)
 |uv
 |oY (bytes:Nat) (n:Src)
 |i_ (elem:TypeId) (size bytes:Nat) (zero:List V) (len cap:Src)
 |cr (x:Src) (lo hi:Option Src)
 |kY (size:Nat) (x:Src) (lo hi mx:Option Src)
 |ja (n size:Nat) (x:Src) (lo hi mx:Option Src)
 |og (off:Nat) (x:Src)
 |field (off:Nat) (n:Option Nat) (x:Src)
 |gg (len size:Nat) (x i:Src)
 |c_ (size:Nat) (x i:Src)
 |oZ (len size:Nat) (n:Option Nat) (x i:Src)
 |bG (x i:Src)
 |lookup (kd:jN) (zero:V) (m k:Src) (ok:Bool)
 |sI (kd:jN) (m k v:Src)
 |Dv (kd:jN) (zero:V) (m k:Src)
 |Dw (m s v:Src)
 |jb (x:Src)
 |o8 (it:Src)
 |rangeMap (x:Src)
 |o9 (it:Src)
 |extract (x:Src) (i:Nat)
 |len (k:Nat) (x:Src)
 |mD (n:Nat)
 |cap (x:Src)
 |mn (args:List Src)
 |mx (args:List Src)
 |append (size bytes:Nat) (elem:TypeId) (zero:List V) (s x:Src)
 |copy (size:Nat) (d s:Src)
 |clear (size:Nat) (zero:List V) (s:Src)
 |call (f:Src) (args:List Src)
 |ext (e:Ext) (args:List Src)
 |Gt (e:Option (TypeId×Nat)) (x:Src)
 |xw (x:Src)
 |Df (e:TypeId) (x n:Src)
 |Dh (op:BinOp) (x y:Src)
 |Dj (k:IntKind) (x:Src)
 |part (im:Bool) (x:Src)
 |stop
structure dk where
 dst:Option Nat
 op:fS
 guard:Option (Nat×Bool)
inductive cj where
 |skip
 |fL (ops:List dk)
 |fy (ops:List dk) (oo:List Nat)
 |vo (dst:Option Nat) (ch:Src) (send:Option Src) (zero:V) (ops:List dk)
 |seq (a b:cj)
 |cond (c:Src) (a b:cj)
 |block (id:Nat) (c:cj)
 |loop (c:cj)
 |o_ (g:Src) (ps:List Nat) (assign body:cj)
 |exit (id:Nat)
 |scope (c:cj)
 |ret
 |stop
inductive Dk where
 |tmp (t:Nat)
 |cell (t:Nat) (n:Option Nat)
structure jX where
 ntmps:Nat
 results:List Dk
 body:cj
inductive Ex where
 |normal
 |exit (id:Nat)
 |ret
structure Yz where
 st:LoopState
 ik:Option Ex
 r:T V
 n:Nat
 ps:List Nat
 assign:cj
 body:cj
 defs:Nat
inductive O where
 |cells (c:List V) (elem:TypeId) (rw:Bool)
 |map (es:List (V×V))
 |chan (cap:Nat) (buf:List V)
 |ef (s:List UInt8) (pos:Nat)
 |gh (m:Nat)
 |loop (l:Yz)
 |defs (R7:Bool)
 |dead
def O.wr:O->Bool
 |.cells _ _ rw=>rw
 |.dead=>false
 |_=>true
def O.live:O->Bool
 |.dead=>false
 |_=>true
structure St where
 h:T O
 n:Nat
 w:List Nat
def St.alloc(st:St)(o:O):St:={st with h:=st.h.set st.n o,n:=st.n+1}
def St.write(st:St)(i:Nat)(o:O):St:={st with h:=st.h.set i o,w:=i::st.w}
structure Fr where
 r:T V
 n:Nat
 marks:List Nat
def Src.ev(r:T V):Src->Option V
 |.tmp t=>r.get t
 |.const v=>some v
def rA(r:T V):List Src->Option (List V)
 |[]=>some []
 |x::xs=>match x.ev r,rA r xs with
  |some v,some vs=>some (v::vs)
  |_,_=>none
def az(r:T V):Option Src->Option (Option V)
 |none=>some none
 |some x=>match x.ev r with
  |some v=>some (some v)
  |none=>none
def aM{α:Type}(c:List α)(o n:Nat):Option (List α):=if o+n<=c.length then some ((c.drop o).take n) else none
def ag{α:Type}(c:List α)(o:Nat)(vs:List α):List α:=c.take o++vs++c.drop (o+vs.length)
def zt(cells:List V):List (Nat×Nat×V)->Option (List V)
 |[]=>some cells
 |(off,size,v)::rest=>
  if v.cells.length=size/\off+size<=cells.length then zt (ag cells off v.cells) rest else none
def zu(r:T V):List (Nat×Nat×Src)->Option (List (Nat×Nat×V))
 |[]=>some []
 |(o,s,x)::rest=>match x.ev r,zu r rest with
  |some v,some vs=>some ((o,s,v)::vs)
  |_,_=>none
def aL(cs:List V)(off:Nat):Option Nat->Option V
 |none=>cs[off]?
 |some n=>match aM cs off n with
  |some l=>some (.agg l)
  |none=>none
def aW(ng:Bool):PK->V->V->Option Bool
 |.bool,.bool a,.bool b=>some (a==b)
 |.int,.int k a,.int k' b=>if k=k' then some (a==b) else none
 |.str,.str a,.str b=>some (a==b)
 |.ptr,.bF,.bF=>some true
 |.ptr,.bF,.ptr _ _=>some false
 |.ptr,.ptr _ _,.bF=>some false
 |.ptr,.ptr i o,.ptr j p=>if i=j/\o=p then some true else none
 |.slice,.aa,.aa=>some true
 |.slice,.aa,.slice ..=>some false
 |.slice,.slice ..,.aa=>some false
 |.slice,.aa,.empty=>some false
 |.slice,.empty,.aa=>some false
 |.map,.bL,.bL=>some true
 |.map,.bL,.map _=>some false
 |.map,.map _,.bL=>some false
 |.func,.bP,.bP=>some true
 |.func,.bP,.func ..=>some false
 |.func,.func ..,.bP=>some false
 |.chan,.bO,.bO=>some true
 |.chan,.bO,.chan _=>some false
 |.chan,.chan _,.bO=>some false
 |.iface,.aZ,.aZ=>if ng then some true else none
 |.iface,.aZ,.iface ..=>some false
 |.iface,.iface ..,.aZ=>some false
 |_,_,_=>none
mutual
def rB(ng:Bool):p_->V->V->Option Bool
 |.cQ k,x,y=>aW ng k x y
 |.node ps,.agg xs,.agg ys=>IH ps xs ys
 |_,_,_=>none
def IH:List (Nat×Option Nat×p_)->List V->List V->Option Bool
 |[],_,_=>some true
 |(off,n,t)::rest,xs,ys=>
  match aL xs off n,aL ys off n with
  |some x,some y=>match rB false t x y with
   |some true=>IH rest xs ys
   |some false=>some false
   |none=>none
  |_,_=>none
end
def bb(k:IntKind)(n:Int):Int:=
 match k,n with
 |.i64,.ofNat a=>match Nat.blt a 9223372036854775808 with
  |true=>.ofNat a
  |false=>IntKind.wrap .i64 (.ofNat a)
 |.i64,.negSucc a=>match Nat.blt a 9223372036854775808 with
  |true=>.negSucc a
  |false=>IntKind.wrap .i64 (.negSucc a)
 |.u64,.ofNat a=>.ofNat (Nat.mod a 18446744073709551616)
 |.u8,.ofNat a=>.ofNat (Nat.mod a 256)
 |.i32,.ofNat a=>match Nat.blt a 2147483648 with
  |true=>.ofNat a
  |false=>IntKind.wrap .i32 (.ofNat a)
 |.u32,.ofNat a=>.ofNat (Nat.mod a 4294967296)
 |k,n=>k.wrap n
def xF(k:IntKind)(n:Int):bb k n=k.wrap n:=by
 unfold bb
 split
 ·rename_i a
  split
  ·rename_i h
   have h':a<9223372036854775808:=Al (sL h)
   simp only[IntKind.wrap,IntKind.bits,IntKind.signed,IC]
   simp;omega
  ·rfl
 ·rename_i a
  split
  ·rename_i h
   have h':a<9223372036854775808:=Al (sL h)
   have e:(Int.negSucc a)= -(a:Int)-1:=by omega
   simp only[IntKind.wrap,IntKind.bits,IntKind.signed,e]
   simp;omega
  ·rfl
 ·rename_i a
  show Int.ofNat (a%18446744073709551616)=_
  simp only[IntKind.wrap,IntKind.bits,IntKind.signed,IC]
  simp
 ·rename_i a
  show Int.ofNat (a%256)=_
  simp only[IntKind.wrap,IntKind.bits,IntKind.signed,IC]
  simp
 ·rename_i a
  split
  ·rename_i h
   have h':a<2147483648:=Al (sL h)
   simp only[IntKind.wrap,IntKind.bits,IntKind.signed,IC]
   simp;omega
  ·rfl
 ·rename_i a
  show Int.ofNat (a%4294967296)=_
  simp only[IntKind.wrap,IntKind.bits,IntKind.signed,IC]
  simp
 ·rfl
def pn(op:BinOp)(k:IntKind)(a b:Int):Option V:=
 match op with
 |.add=>some (.int k (bb k (a+b)))
 |.sub=>some (.int k (bb k (a-b)))
 |.mul=>some (.int k (bb k (a*b)))
 |.quo=>if b=0 then none else some (.int k (bb k (a.tdiv b)))
 |.rem=>if b=0 then none else some (.int k (a.tmod b))
 |.and=>some (.int k (k.wrap (BitVec.ofInt k.bits a&&& BitVec.ofInt k.bits b).toNat))
 |.or=>some (.int k (k.wrap (BitVec.ofInt k.bits a|||BitVec.ofInt k.bits b).toNat))
 |.xor=>some (.int k (k.wrap (BitVec.ofInt k.bits a^^^BitVec.ofInt k.bits b).toNat))
 |.andNot=>some (.int k (k.wrap (BitVec.ofInt k.bits a&&& ~~~ BitVec.ofInt k.bits b).toNat))
 |.eql=>some (.bool (a==b))
 |.neq=>some (.bool (a !=b))
 |.lss=>some (.bool (decide (a<b)))
 |.leq=>some (.bool (decide (a<=b)))
 |.gtr=>some (.bool (decide (a > b)))
 |.geq=>some (.bool (decide (a≥b)))
 |_=>none
def wD(op:BinOp)(k:IntKind)(a b:Int):Option V:=
 if b<0 then none else
  match op with
  |.shl=>some (.int k (k.wrap (a*2^(min b.toNat k.bits))))
  |.shr=>some (.int k (a.fdiv (2^(min b.toNat k.bits))))
  |_=>none
def iC(op:BinOp)(x y:List UInt8):Option V:=
 match op with
 |.add=>if ((x.length+y.length:Nat):Int) > IntKind.i64.max then none else some (.str (x++y))
 |.eql=>some (.bool (x==y))
 |.neq=>some (.bool (!(x==y)))
 |.lss=>some (.bool (Op.bytesLess x y))
 |.leq=>some (.bool (Op.bytesLess x y||x==y))
 |.gtr=>some (.bool (!(Op.bytesLess x y||x==y)))
 |.geq=>some (.bool (!(Op.bytesLess x y)))
 |_=>none
def R8(op:BinOp)(t:p_)(ng:Bool):V->V->Option V
 |.int k a,.int k' b=>
  match op with
  |.shl=>wD .shl k a b
  |.shr=>wD .shr k a b
  |_=>if k=k' then pn op k a b else none
 |.str a,.str b=>iC op a b
 |x,y=>match op with
  |.eql=>match rB ng t x y with
   |some b=>some (.bool b)
   |none=>none
  |.neq=>match rB ng t x y with
   |some b=>some (.bool (!b))
   |none=>none
  |_=>none
def R9:UnOp->V->Option V
 |.neg,.int k n=>some (.int k (k.wrap (0-n)))
 |.xor,.int k n=>some (.int k (k.wrap (BitVec.ofInt k.bits (if k.signed then -1 else k.max)^^^BitVec.ofInt k.bits n).toNat))
 |.not,.bool b=>some (.bool (!b))
 |_,_=>none
def jP(v:V)(y:Nat):Option Nat:=
 match v with
 |.int _ n=>if 0<=n/\n<=(y:Int) then some n.toNat else none
 |_=>none
def dt(v:Option V)(y Sa:Nat):Option Nat:=
 match v with
 |some v=>jP v y
 |none=>some Sa
def St.row(st:St)(i:Nat):Option (List V×TypeId×Bool):=
 match st.h.get i with
 |some (.cells c e rw)=>some (c,e,rw)
 |_=>none
def df(zero:List V)(n:Nat):List V:=(List.range (n*zero.length)).map fun i=>zero.getD (i%zero.length) (.aY [])
def iQ(st:St)(size:Nat):V->Option (Nat×List V)
 |.aa=>some (0,[])
 |.empty=>some (0,[])
 |.slice j p m _ sz=>if sz=size then match st.row j with
   |some (c,_,_)=>match aM c p (m*size)with
    |some l=>some (m,l)
    |none=>none
   |none=>none
  else none
 |.str s=>if size=1 then some (s.length,s.map fun b=>.int .u8 b.toNat) else none
 |_=>none
def zv:Nat:=2^48
def nI(st:St)(size bytes:Nat)(elem:TypeId)(s x:V):Option (V×St):=
 match iQ st size x with
 |none=>none
 |some (n,xs)=>
  match s with
  |.aa=>
   if n=0 then some (.aa,st)
   else if 2*n*bytes<=zv/\size≠0 then some (.slice st.n 0 n none size,st.alloc (.cells xs elem true)) else none
  |.slice i o len cap sz=>
   if n=0 then (if sz=size then some (s,st) else none)
   else if sz≠size\/size=0\/zv<2*(len+n)*bytes then none else
   match st.row i with
   |none=>none
   |some (c,e,rw)=>
    match cap with
    |some k=>
     if len+n<=k then
      (if rw=true/\o+(len+n)*size<=c.length then some (.slice i o (len+n) cap sz,st.write i (.cells (ag c (o+len*size) xs) e rw)) else none)
     else match aM c o (len*size)with
      |some old=>some (.slice st.n 0 (len+n) none size,st.alloc (.cells (old++xs) elem true))
      |none=>none
    |none=>
     if rw=true then
      if o+(len+n)*size<=c.length then some (.slice i o (len+n) none sz,st.write i (.cells (ag c (o+len*size) xs) e rw))
      else if o+len*size=c.length/\e=elem/\o=0 then
       some (.slice st.n 0 (len+n) none size,(st.write i .dead).alloc (.cells (c.drop o++xs) elem true))
      else none
     else none
  |_=>none
def Nf:jN->V->V->Option Bool
 |.int k,.int a x,.int b y=>if a=k/\b=k then some (x==y) else none
 |.str,.str x,.str y=>some (x==y)
 |_,_,_=>none
def eP(kd:jN)(k:V):List (V×V)->Nat->Option (Option (Nat×V))
 |[],_=>some none
 |(a,v)::es,i=>
  match Nf kd k a with
  |some true=>some (some (i,v))
  |some false=>eP kd k es (i+1)
  |none=>none
def jN.fits:jN->V->Bool
 |.int k,.int k' _=>k=k'
 |.str,.str _=>true
 |_,_=>false
def uA:List V->Option V
 |[]=>none
 |[x]=>some x
 |.int k a::.int _ b::rest=>uA (.int k (if b<a then b else a)::rest)
 |_=>none
termination_by l=>l.length
def uB:List V->Option V
 |[]=>none
 |[x]=>some x
 |.int k a::.int _ b::rest=>uB (.int k (if a<b then b else a)::rest)
 |_=>none
termination_by l=>l.length
def vA:V->List V->Option V
 |x,[]=>some x
 |.int k a,.int _ b::rest=>vA (.int k (if b<a then b else a)) rest
 |_,_=>none
def As:List V->Option V
 |[]=>none
 |x::xs=>vA x xs
def wE:V->List V->Option V
 |x,[]=>some x
 |.int k a,.int _ b::rest=>wE (.int k (if a<b then b else a)) rest
 |_,_=>none
def zw:List V->Option V
 |[]=>none
 |x::xs=>wE x xs
def YA:∀(xs:List V) (x:V),vA x xs=uA (x::xs)
 |[],x=>by simp[vA,uA]
 |y::ys,x=>by
  cases x with
  |int k a=>
   cases y with
   |int k' b=>simp only[vA,uA];exact YA ys _
   |_=>simp[vA,uA]
  |_=>simp[vA,uA]
def Ykp(l:List V):As l=uA l:=by
 cases l with
 |nil=>simp[As,uA]
 |cons x xs=>exact YA xs x
def YB:∀(xs:List V) (x:V),wE x xs=uB (x::xs)
 |[],x=>by simp[wE,uB]
 |y::ys,x=>by
  cases x with
  |int k a=>
   cases y with
   |int k' b=>simp only[wE,uB];exact YB ys _
   |_=>simp[wE,uB]
  |_=>simp[wE,uB]
def Yks(l:List V):zw l=uB l:=by
 cases l with
 |nil=>simp[zw,uB]
 |cons x xs=>exact YB xs x
def Dx(c:UInt8):List UInt8->Nat->Int
 |[],_=> -1
 |b::rest,i=>if b==c then (i:Int) else Dx c rest (i+1)
def At:Ext->List V->Option V
 |.mB,[.int .u64 x,.int .u64 y,.int .u64 c]=>if ¬(c=0\/c=1) then none else
   some (.aY [.int .u64 (Int.ofNat ((x.toNat+y.toNat+c.toNat)%2^64)),.int .u64 (Int.ofNat ((x.toNat+y.toNat+c.toNat)/2^64))])
 |.mC,[.int .u64 x,.int .u64 y,.int .u64 b]=>if ¬(b=0\/b=1) then none else
   some (.aY [.int .u64 (Int.ofNat ((x.toNat+2^64-y.toNat-b.toNat)%2^64)),.int .u64 (if x.toNat<y.toNat+b.toNat then 1 else 0)])
 |.bV,[.str s,.int .u8 c]=>some (.int .i64 (Dx c.toNat.toUInt8 s 0))
 |.uj,[.jM .f64 b]=>some (.int .u64 (b:Int))
 |.uk,[.int .u64 n]=>some (.jM .f64 n.toNat)
 |_,_=>none
abbrev cH:=V->List V->St->Option (V×St)
def Ng(op:BinOp)(t:p_)(st:St)(i j:Nat):Option (V×St):=
 match op,t,st.h.get i,st.h.get j with
 |.eql,.cQ .chan,some (.chan ..),some (.chan ..)=>some (.bool (i==j),st)
 |.neq,.cQ .chan,some (.chan ..),some (.chan ..)=>some (.bool (!(i==j)),st)
 |_,_,_,_=>none
abbrev dG:=cH->T V->St->Option (V×St)
def Dy(x:Src):dG:=fun _ r st=>match x.ev r with
  |some v=>some (v,st)
  |none=>none
def BR(c:Src)(a:Src)(b:Src):dG:=fun _ r st=>match c.ev r with
  |some (.bool true)=>match a.ev r with
   |some v=>some (v,st)
   |none=>none
  |some (.bool false)=>match b.ev r with
   |some v=>some (v,st)
   |none=>none
  |_=>none
def GF(zero:List V)(elem:TypeId):dG:=fun _ _ st=>some (.ptr st.n 0,st.alloc (.cells zero elem true))
def Dz(elem:TypeId)(x:Src):dG:=fun _ r st=>match x.ev r with
  |some v=>if v.cells.all V.one then some (.ptr st.n 0,st.alloc (.cells v.cells elem true)) else none
  |none=>none
def Au(zero:List V)(parts:List (Nat×Nat×Src)):dG:=fun _ r st=>match zu r parts with
  |some ps=>match zt zero ps with
   |some l=>some (.agg l,st)
   |none=>none
  |none=>none
def DC(elem:TypeId)(size:Nat)(len:Nat)(zero:List V)(parts:List (Nat×Nat×Src)):dG:=fun _ r st=>match zu r parts with
  |some ps=>match zt zero ps with
   |some l=>if l.all V.one then some (.slice st.n 0 len (some len) size,st.alloc (.cells l elem true)) else none
   |none=>none
  |none=>none
def DD(n:Option Nat)(a:Src):dG:=fun _ r st=>match a.ev r with
  |some (.ptr i o)=>match st.row i with
   |some (c,_,_)=>match aL c o n with
    |some v=>some (v,st)
    |none=>none
   |none=>none
  |_=>none
def BS(n:Nat)(a:Src)(x:Src):dG:=fun _ r st=>match a.ev r,x.ev r with
  |some (.ptr i o),some v=>match st.row i with
   |some (c,e,true)=>if v.cells.length=n/\o+n<=c.length/\v.cells.all V.one=true then some (.aY [],st.write i (.cells (ag c o v.cells) e true)) else none
   |_=>none
  |_,_=>none
def DE(x:Src):dG:=fun _ r st=>match x.ev r with
  |some (.ptr i o)=>some (.ptr i o,st)
  |some (.func f a l)=>some (.func f a l,st)
  |_=>none
def DF(op:BinOp)(t:p_)(ng:Bool)(x:Src)(y:Src):dG:=fun _ r st=>match x.ev r,y.ev r with
  |some (.chan i),some (.chan j)=>Ng op t st i j
  |some a,some b=>match R8 op t ng a b with
   |some v=>some (v,st)
   |none=>none
  |_,_=>none
def DG(op:UnOp)(x:Src):dG:=fun _ r st=>match x.ev r with
  |some a=>match R9 op a with
   |some v=>some (v,st)
   |none=>none
  |none=>none
def DH(k:IntKind)(x:Src):dG:=fun _ r st=>match x.ev r with
  |some (.int _ n)=>some (.int k (bb k n),st)
  |_=>none
def GG(x:Src):dG:=fun _ r st=>match x.ev r with
  |some (.str s)=>some (.str s,st)
  |_=>none
def BT(elem:TypeId)(x:Src):dG:=fun _ r st=>match x.ev r with
  |some (.str s)=>some (.slice st.n 0 s.length none 1,st.alloc (.cells (s.map fun b=>.int .u8 b.toNat) elem true))
  |_=>none
def DI(x:Src):dG:=fun _ r st=>match x.ev r with
  |some .aa=>some (.str [],st)
  |some (.slice i o len _ 1)=>match st.row i with
   |some (c,_,_)=>match aM c o len with
    |some l=>match l.mapM (fun v=>match v with|.int .u8 n=>some (UInt8.ofNat n.toNat)|_=>none)with
     |some s=>some (.str s,st)
     |none=>none
    |none=>none
   |none=>none
  |_=>none
def GH(t:TypeId)(x:Src):dG:=fun _ r st=>match x.ev r with
  |some v=>some (.iface t v,st)
  |none=>none
def DJ(f:FuncId)(first:List Src)(fT:List Src):dG:=fun _ r st=>match rA r first,rA r fT with
  |some a,some l=>some (.func f a l,st)
  |_,_=>none
def GI:dG:=fun _ _ st=>some (.map st.n,st.alloc (.map []))
def BU(bytes:Nat)(n:Src):dG:=fun _ r st=>match n.ev r with
  |some (.int _ k)=>if k<0\/k > IntKind.i64.max\/bytes*k > 2^48-112 then none else some (.chan st.n,st.alloc (.chan k.toNat []))
  |_=>none
def Av(elem:TypeId)(size:Nat)(bytes:Nat)(zero:List V)(len:Src)(cap:Src):dG:=fun _ r st=>match len.ev r,cap.ev r with
  |some (.int _ l),some (.int _ c)=>
   if 0<=l/\l<=c/\bytes*c<=2^47/\c<2^62/\size=zero.length/\size≠0 then
    some (.slice st.n 0 l.toNat (some c.toNat) size,st.alloc (.cells (df zero c.toNat) elem true)) else none
  |_,_=>none
def wF(x:Src)(lo:Option Src)(hi:Option Src):dG:=fun _ r st=>match x.ev r,az r lo,az r hi with
  |some (.str s),some lo,some hi=>
   match dt hi s.length s.length with
   |some h=>match dt lo h 0 with
    |some l=>some (.str ((s.take h).drop l),st)
    |none=>none
   |none=>none
  |_,_,_=>none
def po(size:Nat)(x:Src)(lo:Option Src)(hi:Option Src)(mx:Option Src):dG:=fun _ r st=>match x.ev r,az r lo,az r hi,az r mx with
  |some .aa,some lo,some hi,some mx=>
   match dt mx 0 0 with
   |some _=>match dt hi 0 0 with
    |some _=>match dt lo 0 0 with
     |some _=>if mx.isSome&&hi.isNone then none else some (.aa,st)
     |none=>none
    |none=>none
   |none=>none
  |some .empty,some lo,some hi,some none=>
   match dt hi 0 0 with
   |some _=>match dt lo 0 0 with
    |some _=>some (.empty,st)
    |none=>none
   |none=>none
  |some (.slice i o len (some c) sz),some lo,some hi,some mx=>
   if sz≠size\/(mx.isSome&&hi.isNone) then none else
   match dt mx c c with
   |some m=>match dt hi m len with
    |some h=>match dt lo h 0 with
     |some l=>some (.slice i (if m=l then o else o+l*size) (h-l) (some (m-l)) sz,st)
     |none=>none
    |none=>none
   |none=>none
  |some (.slice i o len none sz),some lo,some hi,some mx=>
   if sz≠size\/size=0\/(mx.isSome&&hi.isNone) then none else
   match st.row i with
   |some (c,_,_)=>
    let k:=max len ((c.length-o)/size)
    match mx with
    |some m=>match jP m k with
     |some m=>match dt hi m len with
      |some h=>match dt lo h 0 with
       |some l=>some (.slice i (if m=l then o else o+l*size) (h-l) (some (m-l)) sz,st)
       |none=>none
      |none=>none
     |none=>none
    |none=>match dt hi k len with
     |some h=>match dt lo h 0 with
      |some l=>if l<k then some (.slice i (o+l*size) (h-l) none sz,st) else some (.empty,st)
      |none=>none
     |none=>none
   |none=>none
  |_,_,_,_=>none
def xG(n:Nat)(size:Nat)(x:Src)(lo:Option Src)(hi:Option Src)(mx:Option Src):dG:=fun _ r st=>match x.ev r,az r lo,az r hi,az r mx with
  |some (.ptr i o),some lo,some hi,some none=>
   match dt hi n n with
   |some h=>match dt lo h 0 with
    |some l=>match st.row i with
     |some (c,_,_)=>if o+n*size<=c.length/\mx.isNone then some (.slice i (if n=l then o else o+l*size) (h-l) (some (n-l)) size,st) else none
     |none=>none
    |none=>none
   |none=>none
  |_,_,_,_=>none
def DK(off:Nat)(x:Src):dG:=fun _ r st=>match x.ev r with
  |some (.ptr i o)=>some (.ptr i (o+off),st)
  |_=>none
def DL(off:Nat)(n:Option Nat)(x:Src):dG:=fun _ r st=>match x.ev r with
  |some (.agg cs)=>match aL cs off n with
   |some v=>some (v,st)
   |none=>none
  |_=>none
def Aw(len:Nat)(size:Nat)(x:Src)(i:Src):dG:=fun _ r st=>match x.ev r,i.ev r with
  |some (.ptr a o),some (.int _ k)=>if 0<=k/\k<(len:Int) then some (.ptr a (o+k.toNat*size),st) else none
  |_,_=>none
def BV(size:Nat)(x:Src)(i:Src):dG:=fun _ r st=>match x.ev r,i.ev r with
  |some (.slice a o len _ _),some (.int _ k)=>if 0<=k/\k<(len:Int) then some (.ptr a (o+k.toNat*size),st) else none
  |_,_=>none
def GJ(len:Nat)(size:Nat)(n:Option Nat)(x:Src)(i:Src):dG:=fun _ r st=>match x.ev r,i.ev r with
  |some (.agg cs),some (.int _ k)=>if 0<=k/\k<(len:Int) then match aL cs (k.toNat*size) n with
    |some v=>some (v,st)
    |none=>none
   else none
  |_,_=>none
def BW(x:Src)(i:Src):dG:=fun _ r st=>match x.ev r,i.ev r with
  |some (.str s),some (.int _ k)=>if 0<=k then match s[k.toNat]? with
    |some b=>some (.int .u8 b.toNat,st)
    |none=>none
   else none
  |_,_=>none
def DM(kd:jN)(zero:V)(m:Src)(k:Src)(ok:Bool):dG:=fun _ r st=>match m.ev r,k.ev r with
  |some m,some k=>
   if kd.fits k then
    match (match m with
     |.bL=>some []
     |.map i=>match st.h.get i with
      |some (.map es)=>some es
      |_=>none
     |_=>none)with
    |some es=>match eP kd k es 0 with
     |some (some (_,v))=>some (if ok then .aY [v,.bool true] else v,st)
     |some none=>some (if ok then .aY [zero,.bool false] else zero,st)
     |none=>none
    |none=>none
   else none
  |_,_=>none
def BX(kd:jN)(m:Src)(k:Src)(v:Src):dG:=fun _ r st=>match m.ev r,k.ev r,v.ev r with
  |some (.map i),some k,some v=>
   if kd.fits k then
    match st.h.get i with
    |some (.map es)=>match eP kd k es 0 with
     |some (some (j,_))=>some (.aY [],st.write i (.map (es.set j (k,v))))
     |some none=>some (.aY [],st.write i (.map (es++[(k,v)])))
     |none=>none
    |_=>none
   else none
  |_,_,_=>none
def YC(kd:jN)(zero:V)(m:Src)(k:Src):dG:=fun _ r st=>match m.ev r,k.ev r with
  |some (.map i),some k=>
   if kd.fits k then
    match st.h.get i with
    |some (.map es)=>match eP kd k es 0 with
     |some (some (j,v))=>some (.aY [v,.int .i64 j],st.write i (.map (es.set j (k,v))))
     |some none=>some (.aY [zero,.int .i64 es.length],st.write i (.map (es++[(k,zero)])))
     |none=>none
    |_=>none
   else none
  |_,_=>none
def Sb(m:Src)(s:Src)(v:Src):dG:=fun _ r st=>match m.ev r,s.ev r,v.ev r with
  |some (.map i),some (.int _ j),some v=>
   match st.h.get i with
   |some (.map es)=>if 0<=j then match es[j.toNat]? with
     |some (k,_)=>some (.aY [],st.write i (.map (es.set j.toNat (k,v))))
     |none=>none
    else none
   |_=>none
  |_,_,_=>none
def DN(x:Src):dG:=fun _ r st=>match x.ev r with
  |some (.str s)=>some (.ptr st.n 0,st.alloc (.ef s 0))
  |_=>none
def DO(it:Src):dG:=fun _ r st=>match it.ev r with
  |some (.ptr i 0)=>match st.h.get i with
   |some (.ef s pos)=>
    if pos<s.length then
     let cw:=Utf8.decode ⟨s.toArray⟩ pos
     some (.aY [.bool true,.int .i64 pos,.int .i32 cw.1],st.write i (.ef s (pos+cw.2)))
    else some (.aY [.bool false],st)
   |_=>none
  |_=>none
def II(x:Src):dG:=fun _ r st=>match x.ev r with
  |some (.map i)=>match st.h.get i with
   |some (.map [])=>some (.ptr st.n 0,st.alloc (.gh i))
   |_=>none
  |_=>none
def IJ(it:Src):dG:=fun _ r st=>match it.ev r with
  |some (.ptr i 0)=>match st.h.get i with
   |some (.gh m)=>match st.h.get m with
    |some (.map [])=>some (.aY [.bool false],st)
    |_=>none
   |_=>none
  |_=>none
def DP(x:Src)(i:Nat):dG:=fun _ r st=>match x.ev r with
  |some (.aY vs)=>match vs[i]? with
   |some v=>some (v,st)
   |none=>none
  |_=>none
def vC(k:Nat)(x:Src):dG:=fun _ r st=>match k,x.ev r with
  |0,some (.str s)=>some (.int .i64 s.length,st)
  |1,some .aa=>some (.int .i64 0,st)
  |1,some .empty=>some (.int .i64 0,st)
  |1,some (.slice _ _ n _ _)=>some (.int .i64 n,st)
  |2,some .bL=>some (.int .i64 0,st)
  |2,some (.map i)=>match st.h.get i with
   |some (.map es)=>some (.int .i64 es.length,st)
   |_=>none
  |_,_=>none
def IK(n:Nat):dG:=fun _ _ st=>some (.int .i64 n,st)
def GK(x:Src):dG:=fun _ r st=>match x.ev r with
  |some .aa=>some (.int .i64 0,st)
  |some (.slice _ _ _ (some c) _)=>some (.int .i64 c,st)
  |_=>none
def wH(args:List Src):dG:=fun _ r st=>match rA r args with
  |some l=>match As l with
   |some v=>some (v,st)
   |none=>none
  |none=>none
def pr(args:List Src):dG:=fun _ r st=>match rA r args with
  |some l=>match zw l with
   |some v=>some (v,st)
   |none=>none
  |none=>none
def Ax(size:Nat)(bytes:Nat)(elem:TypeId)(_:List V)(s:Src)(x:Src):dG:=fun _ r st=>match s.ev r,x.ev r with
  |some s,some x=>nI st size bytes elem s x
  |_,_=>none
def BY(size:Nat)(d:Src)(s:Src):dG:=fun _ r st=>match d.ev r,s.ev r with
  |some d,some s=>match iQ st size s with
   |some (n,xs)=>match d with
    |.aa=>some (.int .i64 0,st)
    |.slice i o len _ sz=>
     if sz≠size\/size=0 then none else
     let k:=min n len
     if k=0 then some (.int .i64 0,st) else
     match st.row i with
     |some (c,e,true)=>if o+k*size<=c.length then some (.int .i64 k,st.write i (.cells (ag c o (xs.take (k*size))) e true)) else none
     |_=>none
    |_=>none
   |none=>none
  |_,_=>none
def GL(size:Nat)(zero:List V)(s:Src):dG:=fun _ r st=>match s.ev r with
  |some .aa=>some (.aY [],st)
  |some .empty=>some (.aY [],st)
  |some (.slice i o len _ sz)=>
   if len=0 then some (.aY [],st) else
   if sz≠size\/size=0\/zero.length≠size then none else
   match st.row i with
   |some (c,e,true)=>if o+len*size<=c.length then some (.aY [],st.write i (.cells (ag c o (df zero len)) e true)) else none
   |_=>none
  |_=>none
def wI(f:Src)(args:List Src):dG:=fun call r st=>match f.ev r,rA r args with
  |some f,some l=>call f l st
  |_,_=>none
def DQ(e:Ext)(args:List Src):dG:=fun _ r st=>match e,rA r args with
  |.same,some [v]=>some (v,st)
  |e,some l=>match At e l with
   |some v=>some (v,st)
   |none=>none
  |_,none=>none
def BZ(e:Option (TypeId×Nat))(x:Src):dG:=fun _ r st=>match x.ev r with
  |some (.ptr i 0)=>match st.row i with
   |some (c,e',true)=>match e with
    |none=>if 0<c.length then some (.ptr i 0,st) else none
    |some (u,z)=>if e'=u/\0<z/\z<=c.length then some (.ptr i 0,st) else none
   |_=>none
  |_=>none
def GM(x:Src):dG:=fun _ r st=>match x.ev r with
  |some (.slice i o len _ _)=>if 0<len then some (.ptr i o,st) else none
  |_=>none
def Nh:V->Option UInt8
 |.int .u8 n=>if 0<=n/\n<256 then some n.toNat.toUInt8 else none
 |_=>none
def DR:List V->Option (List UInt8)
 |[]=>some []
 |v::l=>match Nh v,DR l with
  |some b,some s=>some (b::s)
  |_,_=>none
def GN(e:TypeId)(x n:Src):dG:=fun _ r st=>match x.ev r,n.ev r with
  |some (.ptr i 0),some (.int .i64 k)=>if 0<k/\k<=9223372036854775807 then
    match st.row i with
    |some (c,e',true)=>if e'=e then
      match aM c 0 k.toNat with
      |some xH=>match DR xH with
       |some s=>some (.str s,st.write i (.cells c e' false))
       |none=>none
      |none=>none
     else none
    |_=>none
   else none
  |_,_=>none
def Sd(op:BinOp)(k:FloatKind)(a b:Nat):Option V:=
 match op with
 |.add=>(k.format.add a b).map (V.jM k)
 |.sub=>(k.format.sub a b).map (V.jM k)
 |.mul=>(k.format.mul a b).map (V.jM k)
 |.quo=>(k.format.div a b).map (V.jM k)
 |.eql=>some (.bool (k.format.order a b==some .eq))
 |.neq=>some (.bool (k.format.order a b !=some .eq))
 |.lss=>some (.bool (k.format.order a b==some .lt))
 |.leq=>some (.bool (k.format.order a b==some .lt||k.format.order a b==some .eq))
 |.gtr=>some (.bool (k.format.order a b==some .gt))
 |.geq=>some (.bool (k.format.order a b==some .gt||k.format.order a b==some .eq))
 |_=>none
def IL(op:BinOp)(x:Src)(y:Src):dG:=fun _ r st=>match x.ev r,y.ev r with
  |some (.jM k a),some (.jM k' b)=>if k=k' then match Sd op k a b with
   |some v=>some (v,st)
   |none=>none
   else none
  |_,_=>none
def IM(k:IntKind)(x:Src):dG:=fun _ r st=>match x.ev r with
  |some (.jM s b)=>match (s.decode b).toInt .zero with
   |some n=>if k.min<=n/\n<=k.max then some (.int k n,st) else none
   |none=>none
  |_=>none
def DS(im:Bool)(x:Src):dG:=fun _ r st=>match x.ev r with
  |some (.rp k a b)=>some (.jM k (if im then b else a),st)
  |_=>none
def RS:dG:=fun _ _ _=>none
def bX(op:fS):dG:=fS.casesOn op Dy BR GF Dz Au DC DD BS DE DF DG DH GG BT DI GH DJ GI BU Av wF po xG DK DL Aw BV GJ BW DM BX YC Sb DN DO II IJ DP vC IK GK wH pr Ax BY GL wI DQ BZ GM GN IL IM DS RS
def Fr.put(fr:Fr)(d:Option Nat)(v:V):Option Fr:=
 match d with
 |some d=>if d<fr.n then some {fr with r:=fr.r.set d v} else none
 |none=>some fr
def bM(r:T V):Option (Nat×Bool)->Option Bool
 |none=>some true
 |some (t,want)=>match r.get t with
  |some (.bool b)=>some (b==want)
  |some (.aY _)=>some false
  |_=>none
def zg(call:cH)(o:dk)(next:Fr->St->Option (Fr×St))(fr:Fr)(st:St):Option (Fr×St):=
 match bM fr.r o.guard with
 |some true=>match bX o.op call fr.r st with
  |some (v,ax)=>match fr.put o.dst v with
   |some bB=>next bB ax
   |none=>none
  |none=>none
 |some false=>match fr.put o.dst (.aY [])with
  |some bB=>next bB st
  |none=>none
 |none=>none
def Yp(fr:Fr)(st:St):Option (Fr×St):=some (fr,st)
def dm(call:cH):List dk->Fr->St->Option (Fr×St)
 |[]=>Yp
 |o::rest=>zg call o (dm call rest)
structure FP where
 rd:Option (List Nat)
 wr:List Nat
 lo:Nat
 hi:Nat
def fS.mM:fS->Bool
 |.mF _|.pick ..|.alloc ..|.box ..|.build ..|.mH ..|.mI _|.un ..|.cR ..|.kW _|.iZ ..|.gQ ..|.mL ..|.uv|.oY ..
 |.i_ ..|.cr ..|.og ..|.field ..|.gg ..|.c_ ..|.oZ ..|.bG ..|.jb _|.extract ..|.mD _|.cap _|.mn _|.mx _|.ext ..|.Dh ..|.Dj ..|.part ..=>true
 |.bin .add ..|.bin .sub ..|.bin .mul ..|.bin .quo ..|.bin .rem ..|.bin .lss ..|.bin .leq ..|.bin .gtr ..|.bin .geq ..|.bin .shl ..|.bin .shr ..|.bin .and ..|.bin .or ..|.bin .xor ..|.bin .andNot ..=>true
 |_=>false
def Ni(r:T V):fS->Option Nat
 |.load _ a=>match a.ev r with
  |some (.ptr i _)=>some i
  |_=>none
 |.store _ a _=>match a.ev r with
  |some (.ptr i _)=>some i
  |_=>none
 |_=>none
def nw(r:T V)(op:fS)(ws:List Nat)(lo hi:Nat):FP:=
 if op.mM then ⟨some [],[],lo,hi⟩ else
 match Ni r op with
 |some i=>if Nat.blt i lo then ⟨some [i],ws,lo,hi⟩ else ⟨none,ws,lo,hi⟩
 |none=>⟨none,ws,lo,hi⟩
def vD(i:Nat)(l:List Nat):List Nat:=if l.contains i then l else i::l
def aB(n:Nat):List Nat->List Nat
 |[]=>[]
 |i::l=>if i<n then vD i (aB n l) else aB n l
def zy(call:cH)(o:dk)(next:Fr->St->Option (List FP×Fr×St))(fr:Fr)(st:St):Option (List FP×Fr×St):=
 match bM fr.r o.guard with
 |some true=>match bX o.op call fr.r {st with w:=[]} with
  |some (v,ax)=>match fr.put o.dst v with
   |some bB=>match next bB {ax with w:=aB st.n ax.w++st.w} with
    |some (gl,fr'',st'')=>some (nw fr.r o.op (aB st.n ax.w) st.n ax.n::gl,fr'',st'')
    |none=>none
   |none=>none
  |none=>none
 |some false=>match fr.put o.dst (.aY [])with
  |some bB=>match next bB st with
   |some (gl,fr'',st'')=>some (⟨some [],[],st.n,st.n⟩::gl,fr'',st'')
   |none=>none
  |none=>none
 |none=>none
def YD(fr:Fr)(st:St):Option (List FP×Fr×St):=some ([],fr,st)
def bI(call:cH):List dk->Fr->St->Option (List FP×Fr×St)
 |[]=>YD
 |o::rest=>zy call o (bI call rest)
def t_(a:List Nat):Option (List Nat)->Bool
 |none=>!a.isEmpty
 |some b=>a.any fun i=>b.contains i
def FP.free(a b:FP):Bool:=!(t_ a.wr b.rd||t_ a.wr (some b.wr)||t_ b.wr a.rd||b.wr.any fun i=>Nat.ble a.lo i&&Nat.blt i a.hi)
def cD{α:Type}(p:α->α->Bool)(xs:List α)(oo:List Nat):Bool:=
 go xs oo 0 []
where
 go:List α->List Nat->Nat->List α->Bool
  |[],_,_,_=>true
  |f::fs,ms,j,seen=>
   (cG f (ms.headD 0) (j-1) seen)&&go fs ms.tail (j+1) (f::seen)
 cG (f:α) (m:Nat):Nat->List α->Bool
  |_,[]=>true
  |i,g::gs=>(m.testBit i||p g f)&&cG f m (i-1) gs
def gO(gl:List FP)(oo:List Nat):Bool:=cD FP.free gl oo
def Src.tmps:Src->List Nat
 |.tmp t=>[t]
 |.const _=>[]
def zA:Option Src->List Src
 |none=>[]
 |some s=>[s]
def fS.Ay:fS->List Src
 |.mF x=>[x]
 |.pick c a b=>[c,a,b]
 |.alloc ..=>[]
 |.box _ x=>[x]
 |.build _ ps=>ps.map (·.2.2)
 |.mH _ _ _ _ ps=>ps.map (·.2.2)
 |.load _ a=>[a]
 |.store _ a x=>[a,x]
 |.mI x=>[x]
 |.bin _ _ _ x y=>[x,y]
 |.un _ x=>[x]
 |.cR _ x=>[x]
 |.kW x=>[x]
 |.iZ _ x=>[x]
 |.mJ x=>[x]
 |.gQ _ x=>[x]
 |.mL _ a c=>a++c
 |.uv=>[]
 |.oY _ n=>[n]
 |.i_ _ _ _ _ l c=>[l,c]
 |.cr x lo hi=>x::(zA lo++zA hi)
 |.kY _ x lo hi m=>x::(zA lo++zA hi++zA m)
 |.ja _ _ x lo hi m=>x::(zA lo++zA hi++zA m)
 |.og _ x=>[x]
 |.field _ _ x=>[x]
 |.gg _ _ x i=>[x,i]
 |.c_ _ x i=>[x,i]
 |.oZ _ _ _ x i=>[x,i]
 |.bG x i=>[x,i]
 |.lookup _ _ m k _=>[m,k]
 |.sI _ m k v=>[m,k,v]
 |.Dv _ _ m k=>[m,k]
 |.Dw m s v=>[m,s,v]
 |.jb x=>[x]
 |.o8 x=>[x]
 |.rangeMap x=>[x]
 |.o9 x=>[x]
 |.extract x _=>[x]
 |.len _ x=>[x]
 |.mD _=>[]
 |.cap x=>[x]
 |.mn l=>l
 |.mx l=>l
 |.append _ _ _ _ s x=>[s,x]
 |.copy _ d s=>[d,s]
 |.clear _ _ s=>[s]
 |.call f l=>f::l
 |.ext _ l=>l
 |.Gt _ x=>[x]
 |.xw x=>[x]
 |.Df _ x n=>[x,n]
 |.Dh _ x y=>[x,y]
 |.Dj _ x=>[x]
 |.part _ x=>[x]
 |.stop=>[]
def dk.reads(o:dk):List Nat:=
 (match o.guard with|some (t,_)=>[t]|none=>[])++o.op.Ay.flatMap Src.tmps
def IN(d:Option Nat)(l:List Nat):Bool:=
 match d with
 |some t=>l.contains t
 |none=>false
def M7(a b:dk):Bool:=!(IN a.dst b.reads||IN b.dst a.reads||IN a.dst b.dst.toList)
def Nj(st:St)(i:Nat)(send:Option V)(zero:V):Option (V×St):=
 match st.h.get i,send with
 |some (.chan cap buf),some v=>if buf.length<cap then some (.aY [.int .i64 0,.bool false],st.write i (.chan cap (buf++[v]))) else some (.aY [.int .i64 (-1),.bool false],st)
 |some (.chan cap (v::buf)),none=>some (.aY [.int .i64 0,.bool true,v],st.write i (.chan cap buf))
 |some (.chan _ []),none=>some (.aY [.int .i64 (-1),.bool false,zero],st)
 |_,_=>none
abbrev n_:=Option Nat->cj->Fr->St->Option (Ex×Fr×St)
abbrev uC:=cH->n_->Option Nat->Fr->St->Option (Ex×Fr×St)
def RV:uC:=fun _ _ _ fr st=>some (.normal,fr,st)
def xr(ops:List dk):uC:=fun call _ _ fr st=>match dm call ops fr st with
 |some (bB,ax)=>some (.normal,bB,ax)
 |none=>none
def xp(ops:List dk)(oo:List Nat):uC:=fun call _ _ fr st=>match bI call ops fr st with
 |some (gl,bB,ax)=>match gO gl oo with
  |true=>some (.normal,bB,ax)
  |false=>none
 |none=>none
def xq(dst:Option Nat)(ch:Src)(send:Option Src)(zero:V)(ops:List dk):uC:=fun call _ _ fr st=>
 match ch.ev fr.r,az fr.r send with
 |some (.chan i),some sv=>match Nj st i sv zero with
  |some (v,bU)=>match fr.put dst v with
   |some dE=>match dm call ops dE bU with
    |some (bB,ax)=>some (.normal,bB,ax)
    |none=>none
   |none=>none
  |none=>none
 |_,_=>none
def zh(a b:cj):uC:=fun _ rec ro fr st=>match rec ro a fr st with
 |some (.normal,bB,ax)=>rec ro b bB ax
 |x=>x
def vk(x:Src)(a b:cj):uC:=fun _ rec ro fr st=>match x.ev fr.r with
 |some (.bool true)=>rec ro a fr st
 |some (.bool false)=>rec ro b fr st
 |_=>none
def zi(id:Nat)(c:cj):uC:=fun _ rec ro fr st=>match rec ro c fr st with
 |some (.exit zj,bB,ax)=>match Nat.beq zj id with
  |true=>some (.normal,bB,ax)
  |false=>some (.exit zj,bB,ax)
 |x=>x
def zk(c:cj):uC:=fun _ rec ro fr st=>match rec ro c fr st with
 |some (.normal,bB,ax)=>rec ro (.loop c) bB ax
 |x=>x
def Se(st:St):Option Nat->Option (St×Nat×List Nat)
 |none=>some (st.alloc (.defs true),st.n,[st.n])
 |some l=>match st.h.get l with
  |some (.loop R)=>some (st,R.defs,[])
  |_=>none
def V.GO:V->Bool
 |.yield _=>true
 |_=>false
def Ak(g:Src)(ps:List Nat)(assign body:cj):uC:=fun call _ ro fr st=>
 match g.ev fr.r with
 |none=>none
 |some gv=>
  if gv.GO then none else
  match Se st ro with
  |none=>none
  |some (bU,d,mk)=>
   match call gv [.yield bU.n] (bU.alloc (.loop {st:=.ready,ik:=none,r:=fr.r,n:=fr.n,ps:=ps,assign:=assign,body:=body,defs:=d}))with
   |none=>none
   |some (_,eI)=>
    match eI.h.get bU.n with
    |some (.loop R)=>
     if R.st=.busy then none else
     some (match R.ik with|none=>.normal|some e=>e,{fr with marks:=mk++fr.marks},eI.write bU.n (.loop {R with st:=.exhausted}))
    |_=>none
def Yv(id:Nat):uC:=fun _ _ _ fr st=>some (.exit id,fr,st)
def Yy(c:cj):uC:=fun _ rec ro fr st=>rec ro c fr st
def Yw:uC:=fun _ _ _ fr st=>some (.ret,fr,st)
def Gm:uC:=fun _ _ _ _ _=>none
def kV(c:cj):uC:=cj.casesOn c RV xr xp xq zh vk zi zk Ak Yv Yy Yw Gm
def M1:n_:=fun _ _ _ _=>none
def dH(call:cH):Nat->n_
 |0=>M1
 |f+1=>fun ro c=>kV c call (dH call f) ro
def wJ(r:T V)(i:Nat):List V->T V
 |[]=>r
 |v::vs=>wJ (r.set i v) (i+1) vs
def DT(r:T V)(n:Nat):List Nat->List V->Option (T V)
 |[],[]=>some r
 |p::ps,v::vs=>if p<n then DT (r.set p v) n ps vs else none
 |_,_=>none
def gm(r:T V)(st:St):List Dk->Option (List V)
 |[]=>some []
 |.tmp t::rest=>match r.get t,gm r st rest with
  |some v,some vs=>some (v::vs)
  |_,_=>none
 |.cell t n::rest=>match r.get t,gm r st rest with
  |some (.ptr i o),some vs=>match st.row i with
   |some (c,_,_)=>match aL c o n with
    |some v=>some (v::vs)
    |none=>none
   |none=>none
  |_,_=>none
def shut(st:St):List Nat->Option St
 |[]=>some st
 |d::ds=>match st.h.get d with
  |some (.defs true)=>shut (st.write d (.defs false)) ds
  |_=>none
def IP:Option Ex->LoopState
 |none=>.ready
 |some _=>.done
def rC:Ex->Option Ex
 |.normal=>none
 |e=>some e
def B0:List V->V
 |[v]=>v
 |vs=>.aY vs
def Sf(mf:jX)(st:St):Option (Ex×Fr×St)->Option (V×St)
 |some (.exit _,_,_)=>none
 |some (_,fr,bU)=>match shut bU fr.marks with
  |none=>none
  |some eI=>match gm fr.r eI mf.results with
   |some vs=>some (B0 vs,{eI with w:=aB st.n eI.w++st.w})
   |none=>none
 |none=>none
def Az(mf:jX)(code:n_)(args:List V)(st:St):Option (V×St):=
 if mf.ntmps<args.length then none else
 Sf mf st (code none mf.body {r:=wJ .nil 0 args,n:=mf.ntmps,marks:=[]} {st with w:=[]})
def DU(code:n_)(l:Nat)(args:List V)(st:St):Option (V×St):=
 match st.h.get l with
 |some (.loop R)=>match DT R.r R.n R.ps args with
  |none=>none
  |some r0=>match code (some l) R.assign {r:=r0,n:=R.n,marks:=[]} st with
   |some (.normal,dE,bU)=>match bU.h.get l with
    |some (.loop R1)=>
     if R1.st=.ready then
      match code (some l) R.body dE (bU.write l (.loop {R1 with st:=.busy}))with
      |some (e,_,eI)=>match eI.h.get l with
       |some (.loop R2)=>some (.bool (rC e).isNone,eI.write l (.loop {R2 with st:=IP (rC e),ik:=rC e}))
       |_=>none
      |none=>none
     else none
    |_=>none
   |_=>none
 |_=>none
def vE(dw:Nat->Option jX)(code:n_):cH
 |.func f first fT,args,st=>match dw f with
  |some mf=>Az mf code (first++args++fT) st
  |none=>none
 |.yield l,args,st=>DU code l args st
 |_,_,_=>none
def Sg:cH:=fun _ _ _=>none
end Go.Mx
