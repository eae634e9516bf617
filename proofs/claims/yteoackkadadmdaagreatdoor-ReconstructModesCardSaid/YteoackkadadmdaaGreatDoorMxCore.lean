/-The abstract machine M-/
import Derived.RangeFuncLeaves
import Derived.OrdersIn
import Derived.RangeFuncRecord
set_option linter.all false
namespace Go.Mx
abbrev cm:=@List.mem_of_getElem?
abbrev cZ:=@List.getElem?_eq_getElem
abbrev aF:=@if_pos
abbrev bF:=@Prod.mk.injEq
abbrev dJ:=@Int.natAbs_natCast
abbrev ec:=@List.getElem?_set_ne
abbrev eZ:=@List.take_of_length_le
abbrev fC:=@List.getElem?_eq_none
abbrev fh:=@List.getElem?_drop
abbrev fE:=@Nat.lt_of_lt_of_le
abbrev al:=@Option.some.injEq
abbrev ar:=@if_neg
abbrev aW:=@Nat.le_refl
abbrev bD:=@List.length_cons
abbrev iW:=@Nat.add_mul
abbrev sK:=@Nat.pow_le_pow_right
abbrev kv:=@List.mem_cons
abbrev pk:=@Option.some.inj
abbrev ka:=@Nat.add_zero
abbrev rW:=@Nat.lt_of_le_of_lt
abbrev uF:=@Nat.le_of_ble_eq_true
abbrev my:=@List.map_cons
abbrev py:=@Nat.min_eq_left
abbrev tL:=@List.append_assoc
abbrev iI:=@List.getElem?_set_self
abbrev fF:=@Bool.false_eq_true
abbrev jT:=@Option.map_eq_some_iff
abbrev lE:=@List.getElem?_append_left
abbrev gG:=@List.getElem?_map
abbrev iy:=@List.getElem?_take
abbrev gm:=@List.length_take
abbrev iN:=@List.length_append
abbrev ib:=@Bool.and_eq_true
abbrev eM:=@List.mem_map
abbrev qj:=@List.eq_nil_of_length_eq_zero
abbrev qt:=@Int.mul_le_mul_of_nonneg_left
abbrev oV:=@List.getElem?_append_right
abbrev kg:=@Nat.mul_le_mul_left
abbrev lV:=@Nat.mul_le_mul_right
abbrev iO:=@List.cons.injEq
abbrev gE:=@Nat.pow_succ
abbrev o9:=@List.mem_cons_of_mem
abbrev jP:=@List.length_map
abbrev pz:=@Nat.div_lt_iff_lt_mul
abbrev kb:=@List.mem_append
abbrev lA:=@List.all_eq_true
abbrev nD:=@List.ext_getElem?
abbrev mm:=@List.drop_length
abbrev iX:=@Nat.mul_comm
abbrev pn:=@List.mem_cons_self
abbrev wK:=@Int.natAbs_mul
abbrev xz:=@Option.map_some
abbrev yp:=@Nat.le_of_not_lt
abbrev tO:=@Int.le_of_lt
abbrev AA:=@List.map_congr_left
abbrev FC:=@Array.getD_eq_getD_getElem?
abbrev BK:=@Array.getElem?_toList
abbrev BL:=@List.take_append_drop
abbrev sL:=@Nat.mul_add
abbrev Dq:=@List.getElem?_cons_succ
abbrev rM:=@Option.getD_some
abbrev kQ:=@Nat.pow_add
abbrev y8:=@List.getElem?_eq_some_iff
abbrev tE:=@List.take_add_one
abbrev sM:=@Nat.lt_of_not_le
abbrev kh:=@Nat.mod_lt
abbrev yd:=@List.drop_eq_nil_of_le
abbrev pw:=@Nat.add_assoc
abbrev AK:=@Int.tdiv_eq_ediv_of_nonneg
abbrev sN:=@Nat.two_pow_pos
abbrev wC:=@List.mem_singleton
abbrev uG:=@Nat.lt_succ_self
abbrev ym:=@List.mem_of_mem_take
abbrev tP:=@Nat.div_add_mod
abbrev Dr:=@Int.mul_le_mul_of_nonneg_right
abbrev zk:=@List.length_singleton
abbrev AL:=@List.getElem?_cons_zero
abbrev uH:=@Nat.div_le_self
abbrev wo:=@List.take_length
abbrev zb:=@List.getElem?_of_mem
abbrev uI:=@Nat.mul_le_mul
abbrev xE:=@List.length_drop
abbrev xI:=@Nat.mod_eq_of_lt
abbrev Ds:=@Int.tmod_eq_emod_of_nonneg
abbrev sJ:=@Nat.le_trans
abbrev wL:=@Int.mul_nonneg
abbrev FG:=@List.getElem?_range
abbrev FH:=@Nat.pow_le_pow_left
abbrev yc:=@Nat.mul_one
abbrev Dt:=@Int.le_of_not_gt
abbrev FI:=@Nat.eq_zero_or_pos
abbrev Ik:=@Nat.le_div_iff_mul_le
abbrev BM:=@Bool.false_and
abbrev Om:=@Array.getElem?_setIfInBounds_ne
abbrev zm:=@Nat.pow_pos
abbrev zc:=@Nat.mul_pos
abbrev Du:=@Int.eq_ofNat_of_zero_le
abbrev uJ:=@List.map_nil
abbrev zn:=@List.append_nil
abbrev yh:=@List.length_set
abbrev tH:=@Nat.zero_le
abbrev zo:=@Nat.div_eq_of_lt
abbrev FJ:=@List.drop_eq_getElem_cons
abbrev EZ:=@List.mem_or_eq_of_mem_set
abbrev sH:=@Nat.not_lt
abbrev yb:=@List.mem_range
abbrev Il:=@Option.ite_none_left_eq_some
abbrev Dv:=@Int.mul_ediv_add_emod
abbrev yk:=@List.drop_zero
abbrev uz:=@Nat.le_succ
abbrev xJ:=@Nat.zero_add
abbrev yS:=@Int.natAbs_neg
abbrev FK:=@Nat.div_div_eq_div_mul
abbrev BN:=@Nat.lt_of_succ_le
abbrev BO:=@Nat.le_max_right
abbrev BP:=@List.cons_append
abbrev Dw:=@Int.emod_lt_of_pos
abbrev Dx:=@Rat.num_divInt_den
abbrev BQ:=@Nat.mul_lt_mul''
abbrev BR:=@Nat.le_max_left
abbrev BS:=@Nat.div_lt_self
abbrev Kd:=@Nat.mul_lt_mul_of_pos_right
abbrev Im:=@List.mem_of_mem_drop
abbrev Dy:=@Int.emod_nonneg
abbrev FL:=@Bool.not_eq_true'
abbrev Io:=@List.mem_replicate
abbrev FM:=@Bool.or_eq_true
abbrev Ke:=@Nat.mul_mod_mul_right
abbrev Dz:=@Nat.mul_assoc
abbrev Kg:=@Int.ofNat_eq_natCast
abbrev Ip:=@List.map_toArray
abbrev TX:=@Array.all_eq_true_iff_forall_mem
abbrev Iq:=@Int.lt_of_not_ge
abbrev DC:=@Nat.pow_zero
abbrev Ot:=@Nat.gcd_pos_of_pos_right
abbrev Ir:=@Int.natCast_mul
abbrev Is:=@Int.mul_ne_zero
abbrev Ou:=@Nat.eq_of_beq_eq_true
abbrev Ov:=@List.contains_iff_mem
abbrev Ow:=@Nat.ble_eq_true_of_le
abbrev Ox:=@List.singleton_append
abbrev TY:=@List.dropLast_concat_getLast
abbrev Oy:=@Nat.mul_div_mul_right
inductive T (α:Type) where
 |nil
 |node (l:T α) (v:Option α) (r:T α)
def T.get{α:Type}:T α->Nat->Option α
 |.nil,_=>none
 |.node l v r,n=>
  match n with
  |0=>v
  |k+1=>match k%2 with
   |0=>l.get (k/2)
   |_=>r.get (k/2)
def T.fk{α:Type}:Nat->T α->Nat->α->T α
 |0,t,_,_=>t
 |f+1,.nil,n,a=>
  match n with
  |0=>.node .nil (some a) .nil
  |k+1=>match k%2 with
   |0=>.node (T.fk f .nil (k/2) a) none .nil
   |_=>.node .nil none (T.fk f .nil (k/2) a)
 |f+1,.node l v r,n,a=>
  match n with
  |0=>.node l (some a) r
  |k+1=>match k%2 with
   |0=>.node (T.fk f l (k/2) a) v r
   |_=>.node l v (T.fk f r (k/2) a)
def T.set{α:Type}(t:T α)(n:Nat)(a:α):T α:=T.fk (n+1) t n a
def T.zp{α:Type}(a:α):∀(f:Nat) (t:T α) (n m:Nat),n<f->(T.fk f t n a).get m=if m=n then some a else t.get m:=by
 intro f
 induction f with
 |zero=>intro t n m h;omega
 |succ f ih=>
  intro t n m h
  cases t with
  |nil=>
   cases n with
   |zero=>
    cases m with
    |zero=>simp[T.fk,T.get]
    |succ j=>simp only[T.fk,T.get];split<;>simp
   |succ k=>
    have hk:k/2<f:=by omega
    have h2:k%2=0\/k%2=1:=by omega
    rcases h2 with h2|h2
    ·cases m with
     |zero=>simp[T.fk,T.get,h2]
     |succ j=>
      have hj:j%2=0\/j%2=1:=by omega
      rcases hj with hj|hj
      ·simp only[T.fk,T.get,h2,hj,ih _ _ _ hk]
       by_cases e:j/2=k/2
       ·have:j=k:=by omega
        simp[this]
       ·have:¬j=k:=by intro e2;exact e (by rw[e2])
        simp[e,this]
      ·have:¬j=k:=by omega
       simp[T.fk,T.get,h2,hj,this]
    ·cases m with
     |zero=>simp[T.fk,T.get,h2]
     |succ j=>
      have hj:j%2=0\/j%2=1:=by omega
      rcases hj with hj|hj
      ·have:¬j=k:=by omega
       simp[T.fk,T.get,h2,hj,this]
      ·simp only[T.fk,T.get,h2,hj,ih _ _ _ hk]
       by_cases e:j/2=k/2
       ·have:j=k:=by omega
        simp[this]
       ·have:¬j=k:=by intro e2;exact e (by rw[e2])
        simp[e,this]
  |node l v r=>
   cases n with
   |zero=>cases m<;>simp[T.fk,T.get]
   |succ k=>
    have hk:k/2<f:=by omega
    have h2:k%2=0\/k%2=1:=by omega
    rcases h2 with h2|h2
    ·cases m with
     |zero=>simp[T.fk,T.get,h2]
     |succ j=>
      have hj:j%2=0\/j%2=1:=by omega
      rcases hj with hj|hj
      ·simp only[T.fk,T.get,h2,hj,ih _ _ _ hk]
       by_cases e:j/2=k/2
       ·have:j=k:=by omega
        simp[this]
       ·have:¬j=k:=by intro e2;exact e (by rw[e2])
        simp[e,this]
      ·have:¬j=k:=by omega
       simp[T.fk,T.get,h2,hj,this]
    ·cases m with
     |zero=>simp[T.fk,T.get,h2]
     |succ j=>
      have hj:j%2=0\/j%2=1:=by omega
      rcases hj with hj|hj
      ·have:¬j=k:=by omega
       simp[T.fk,T.get,h2,hj,this]
      ·simp only[T.fk,T.get,h2,hj,ih _ _ _ hk]
       by_cases e:j/2=k/2
       ·have:j=k:=by omega
        simp[this]
       ·have:¬j=k:=by intro e2;exact e (by rw[e2])
        simp[e,this]
def T.ag{α:Type}(t:T α)(n m:Nat)(a:α):(t.set n a).get m=if m=n then some a else t.get m:=
 T.zp a (n+1) t n m (uG n)
inductive V where
 |bool (b:Bool)
 |int (k:IntKind) (n:Int)
 |uB (k:FloatKind) (bits:Nat)
 |str (s:List UInt8)
 |bN
 |ptr (i o:Nat)
 |aa
 |slice (i o len:Nat) (cap:Option Nat) (sz:Nat)
 |empty
 |bW
 |map (i:Nat)
 |bZ
 |chan (i:Nat)
 |func (f:FuncId) (first cap:List V)
 |yield (i:Nat)
 |bs
 |iface (t:TypeId) (v:V)
 |aY
 |agg (l:List V)
 |bg (l:List V)
instance:Inhabited V:=⟨.bg []⟩
def V.cells:V->List V
 |.agg l=>l
 |v=>[v]
def V.one:V->Bool
 |.agg _|.bg _=>false
 |_=>true
inductive Src where
 |tmp (t:Nat)
 |const (v:V)
inductive PK where
 |bool|int|str|ptr|slice|map|func|chan|iface
inductive rU where
 |aM (k:PK)
 |node (parts:List (Nat×Option Nat×rU))
inductive kc where
 |int (k:IntKind)
 |str
inductive Ext where
 |eW|iH|same|bM|kR
inductive fX where
 |ba (x:Src)
 |pick (c a b:Src)
 |alloc (zero:List V) (elem:TypeId)
 |box (elem:TypeId) (x:Src)
 |build (zero:List V) (parts:List (Nat×Nat×Src))
 |aV (elem:TypeId) (size len:Nat) (zero:List V) (parts:List (Nat×Nat×Src))
 |load (n:Option Nat) (a:Src)
 |store (n:Nat) (a x:Src)
 |fR (x:Src)
 |bin (op:BinOp) (t:rU) (ng:Bool) (x y:Src)
 |un (op:UnOp) (x:Src)
 |bj (k:IntKind) (x:Src)
 |qu (x:Src)
 |gI (elem:TypeId) (x:Src)
 |fx (x:Src)
 |e_ (t:TypeId) (x:Src)
 |cP (f:FuncId) (first fY:List Src)
 |wG
 |uK (bytes:Nat) (n:Src)
 |bY (elem:TypeId) (size bytes:Nat) (zero:List V) (len cap:Src)
 |aD (x:Src) (lo hi:Option Src)
 |cQ (size:Nat) (x:Src) (lo hi mx:Option Src)
 |du (n size:Nat) (x:Src) (lo hi mx:Option Src)
 |eI (off:Nat) (x:Src)
 |field (off:Nat) (n:Option Nat) (x:Src)
 |cr (len size:Nat) (x i:Src)
 |aU (size:Nat) (x i:Src)
 |uL (len size:Nat) (n:Option Nat) (x i:Src)
 |aZ (x i:Src)
 |lookup (kd:kc) (zero:V) (m k:Src) (ok:Bool)
 |uD (kd:kc) (m k v:Src)
 |FN (kd:kc) (zero:V) (m k:Src)
 |FO (m s v:Src)
 |jr (x:Src)
 |qm (it:Src)
 |extract (x:Src) (i:Nat)
 |len (k:Nat) (x:Src)
 |uM (n:Nat)
 |cap (x:Src)
 |mn (args:List Src)
 |mx (args:List Src)
 |append (size bytes:Nat) (elem:TypeId) (zero:List V) (s x:Src)
 |copy (size:Nat) (d s:Src)
 |clear (size:Nat) (zero:List V) (s:Src)
 |call (f:Src) (args:List Src)
 |ext (e:Ext) (args:List Src)
 |Ie (e:Option (TypeId×Nat)) (x:Src)
 |wF (x:Src)
 |BI (e:TypeId) (x n:Src)
 |stop
structure dt where
 dst:Option Nat
 op:fX
 guard:Option (Nat×Bool)
inductive av where
 |skip
 |aR (ops:List dt)
 |aX (ops:List dt) (pA:List Nat)
 |xF (dst:Option Nat) (ch:Src) (send:Option Src) (zero:V) (ops:List dt)
 |seq (a b:av)
 |cond (c:Src) (a b:av)
 |block (id:Nat) (c:av)
 |loop (c:av)
 |iV (g:Src) (ps:List Nat) (assign body:av)
 |exit (id:Nat)
 |scope (c:av)
 |ret
 |stop
inductive Df where
 |tmp (t:Nat)
 |cell (t:Nat) (n:Option Nat)
structure ku where
 ntmps:Nat
 results:List Df
 body:av
inductive Ex where
 |normal
 |exit (id:Nat)
 |ret
structure JW where
 st:LoopState
 eQ:Option Ex
 r:T V
 n:Nat
 ps:List Nat
 assign:av
 body:av
 defs:Nat
inductive O where
 |cells (c:List V) (elem:TypeId) (rw:Bool)
 |map (es:List (V×V))
 |chan (cap:Nat) (buf:List V)
 |ew (s:List UInt8) (pos:Nat)
 |loop (l:JW)
 |defs (TZ:Bool)
 |dead
def O.wr:O->Bool
 |.cells _ _ rw=>rw
 |.dead=>false
 |_=>true
def O.live:O->Bool
 |.dead=>false
 |_=>true
structure St where
 h:T O
 n:Nat
 w:List Nat
def St.alloc(st:St)(o:O):St:={st with h:=st.h.set st.n o,n:=st.n+1}
def St.write(st:St)(i:Nat)(o:O):St:={st with h:=st.h.set i o,w:=i::st.w}
structure Fr where
 r:T V
 n:Nat
 marks:List Nat
def Src.ev(r:T V):Src->Option V
 |.tmp t=>r.get t
 |.const v=>some v
def tN(r:T V):List Src->Option (List V)
 |[]=>some []
 |x::xs=>match x.ev r,tN r xs with
  |some v,some vs=>some (v::vs)
  |_,_=>none
def aC(r:T V):Option Src->Option (Option V)
 |none=>some none
 |some x=>match x.ev r with
  |some v=>some (some v)
  |none=>none
def aE{α:Type}(c:List α)(o n:Nat):Option (List α):=if o+n<=c.length then some ((c.drop o).take n) else none
def ad{α:Type}(c:List α)(o:Nat)(vs:List α):List α:=c.take o++vs++c.drop (o+vs.length)
def AM(cells:List V):List (Nat×Nat×V)->Option (List V)
 |[]=>some cells
 |(off,size,v)::rest=>
  if v.cells.length=size/\off+size<=cells.length then AM (ad cells off v.cells) rest else none
def AN(r:T V):List (Nat×Nat×Src)->Option (List (Nat×Nat×V))
 |[]=>some []
 |(o,s,x)::rest=>match x.ev r,AN r rest with
  |some v,some vs=>some ((o,s,v)::vs)
  |_,_=>none
def aS(cs:List V)(off:Nat):Option Nat->Option V
 |none=>cs[off]?
 |some n=>match aE cs off n with
  |some l=>some (.agg l)
  |none=>none
def aI(ng:Bool):PK->V->V->Option Bool
 |.bool,.bool a,.bool b=>some (a==b)
 |.int,.int k a,.int k' b=>if k=k' then some (a==b) else none
 |.str,.str a,.str b=>some (a==b)
 |.ptr,.bN,.bN=>some true
 |.ptr,.bN,.ptr _ _=>some false
 |.ptr,.ptr _ _,.bN=>some false
 |.ptr,.ptr i o,.ptr j p=>if i=j/\o=p then some true else none
 |.slice,.aa,.aa=>some true
 |.slice,.aa,.slice ..=>some false
 |.slice,.slice ..,.aa=>some false
 |.slice,.aa,.empty=>some false
 |.slice,.empty,.aa=>some false
 |.map,.bW,.bW=>some true
 |.map,.bW,.map _=>some false
 |.map,.map _,.bW=>some false
 |.func,.bs,.bs=>some true
 |.func,.bs,.func ..=>some false
 |.func,.func ..,.bs=>some false
 |.chan,.bZ,.bZ=>some true
 |.chan,.bZ,.chan _=>some false
 |.chan,.chan _,.bZ=>some false
 |.iface,.aY,.aY=>if ng then some true else none
 |.iface,.aY,.iface ..=>some false
 |.iface,.iface ..,.aY=>some false
 |_,_,_=>none
mutual
def wM(ng:Bool):rU->V->V->Option Bool
 |.aM k,x,y=>aI ng k x y
 |.node ps,.agg xs,.agg ys=>Kh ps xs ys
 |_,_,_=>none
def Kh:List (Nat×Option Nat×rU)->List V->List V->Option Bool
 |[],_,_=>some true
 |(off,n,t)::rest,xs,ys=>
  match aS xs off n,aS ys off n with
  |some x,some y=>match wM false t x y with
   |some true=>Kh rest xs ys
   |some false=>some false
   |none=>none
  |_,_=>none
end
def bu(k:IntKind)(n:Int):Int:=
 match k,n with
 |.i64,.ofNat a=>match Nat.blt a 9223372036854775808 with
  |true=>.ofNat a
  |false=>IntKind.wrap .i64 (.ofNat a)
 |.i64,.negSucc a=>match Nat.blt a 9223372036854775808 with
  |true=>.negSucc a
  |false=>IntKind.wrap .i64 (.negSucc a)
 |.u64,.ofNat a=>.ofNat (Nat.mod a 18446744073709551616)
 |.u8,.ofNat a=>.ofNat (Nat.mod a 256)
 |.i32,.ofNat a=>match Nat.blt a 2147483648 with
  |true=>.ofNat a
  |false=>IntKind.wrap .i32 (.ofNat a)
 |.u32,.ofNat a=>.ofNat (Nat.mod a 4294967296)
 |k,n=>k.wrap n
def zq(k:IntKind)(n:Int):bu k n=k.wrap n:=by
 unfold bu
 split
 ·rename_i a
  split
  ·rename_i h
   have h':a<9223372036854775808:=BN (uF h)
   simp only[IntKind.wrap,IntKind.bits,IntKind.signed,Kg]
   simp;omega
  ·rfl
 ·rename_i a
  split
  ·rename_i h
   have h':a<9223372036854775808:=BN (uF h)
   have e:(Int.negSucc a)= -(a:Int)-1:=by omega
   simp only[IntKind.wrap,IntKind.bits,IntKind.signed,e]
   simp;omega
  ·rfl
 ·rename_i a
  show Int.ofNat (a%18446744073709551616)=_
  simp only[IntKind.wrap,IntKind.bits,IntKind.signed,Kg]
  simp
 ·rename_i a
  show Int.ofNat (a%256)=_
  simp only[IntKind.wrap,IntKind.bits,IntKind.signed,Kg]
  simp
 ·rename_i a
  split
  ·rename_i h
   have h':a<2147483648:=BN (uF h)
   simp only[IntKind.wrap,IntKind.bits,IntKind.signed,Kg]
   simp;omega
  ·rfl
 ·rename_i a
  show Int.ofNat (a%4294967296)=_
  simp only[IntKind.wrap,IntKind.bits,IntKind.signed,Kg]
  simp
 ·rfl
def qx(op:BinOp)(k:IntKind)(a b:Int):Option V:=
 match op with
 |.add=>some (.int k (bu k (a+b)))
 |.sub=>some (.int k (bu k (a-b)))
 |.mul=>some (.int k (bu k (a*b)))
 |.quo=>if b=0 then none else some (.int k (bu k (a.tdiv b)))
 |.rem=>if b=0 then none else some (.int k (a.tmod b))
 |.and=>some (.int k (k.wrap (BitVec.ofInt k.bits a&&& BitVec.ofInt k.bits b).toNat))
 |.or=>some (.int k (k.wrap (BitVec.ofInt k.bits a|||BitVec.ofInt k.bits b).toNat))
 |.xor=>some (.int k (k.wrap (BitVec.ofInt k.bits a^^^BitVec.ofInt k.bits b).toNat))
 |.andNot=>some (.int k (k.wrap (BitVec.ofInt k.bits a&&& ~~~ BitVec.ofInt k.bits b).toNat))
 |.eql=>some (.bool (a==b))
 |.neq=>some (.bool (a !=b))
 |.lss=>some (.bool (decide (a<b)))
 |.leq=>some (.bool (decide (a<=b)))
 |.gtr=>some (.bool (decide (a > b)))
 |.geq=>some (.bool (decide (a≥b)))
 |_=>none
def yq(op:BinOp)(k:IntKind)(a b:Int):Option V:=
 if b<0 then none else
  match op with
  |.shl=>some (.int k (k.wrap (a*2^(min b.toNat k.bits))))
  |.shr=>some (.int k (a.fdiv (2^(min b.toNat k.bits))))
  |_=>none
def gO(op:BinOp)(x y:List UInt8):Option V:=
 match op with
 |.add=>if ((x.length+y.length:Nat):Int) > IntKind.i64.max then none else some (.str (x++y))
 |.eql=>some (.bool (x==y))
 |.neq=>some (.bool (!(x==y)))
 |.lss=>some (.bool (Op.bytesLess x y))
 |.leq=>some (.bool (Op.bytesLess x y||x==y))
 |.gtr=>some (.bool (!(Op.bytesLess x y||x==y)))
 |.geq=>some (.bool (!(Op.bytesLess x y)))
 |_=>none
def T0(op:BinOp)(t:rU)(ng:Bool):V->V->Option V
 |.int k a,.int k' b=>
  match op with
  |.shl=>yq .shl k a b
  |.shr=>yq .shr k a b
  |_=>if k=k' then qx op k a b else none
 |.str a,.str b=>gO op a b
 |x,y=>match op with
  |.eql=>match wM ng t x y with
   |some b=>some (.bool b)
   |none=>none
  |.neq=>match wM ng t x y with
   |some b=>some (.bool (!b))
   |none=>none
  |_=>none
def T1:UnOp->V->Option V
 |.neg,.int k n=>some (.int k (k.wrap (0-n)))
 |.xor,.int k n=>some (.int k (k.wrap (BitVec.ofInt k.bits (if k.signed then -1 else k.max)^^^BitVec.ofInt k.bits n).toNat))
 |.not,.bool b=>some (.bool (!b))
 |_,_=>none
def ki(v:V)(y:Nat):Option Nat:=
 match v with
 |.int _ n=>if 0<=n/\n<=(y:Int) then some n.toNat else none
 |_=>none
def dB(v:Option V)(y T2:Nat):Option Nat:=
 match v with
 |some v=>ki v y
 |none=>some T2
def St.row(st:St)(i:Nat):Option (List V×TypeId×Bool):=
 match st.h.get i with
 |some (.cells c e rw)=>some (c,e,rw)
 |_=>none
def dr(zero:List V)(n:Nat):List V:=(List.range (n*zero.length)).map fun i=>zero.getD (i%zero.length) (.bg [])
def eD(st:St)(size:Nat):V->Option (Nat×List V)
 |.aa=>some (0,[])
 |.empty=>some (0,[])
 |.slice j p m _ sz=>if sz=size then match st.row j with
   |some (c,_,_)=>match aE c p (m*size)with
    |some l=>some (m,l)
    |none=>none
   |none=>none
  else none
 |.str s=>if size=1 then some (s.length,s.map fun b=>.int .u8 b.toNat) else none
 |_=>none
def tJ:Nat:=2^48
def gj(st:St)(size bytes:Nat)(elem:TypeId)(s x:V):Option (V×St):=
 match eD st size x with
 |none=>none
 |some (n,xs)=>
  match s with
  |.aa=>
   if n=0 then some (.aa,st)
   else if 2*n*bytes<=tJ/\size≠0 then some (.slice st.n 0 n none size,st.alloc (.cells xs elem true)) else none
  |.slice i o len cap sz=>
   if n=0 then (if sz=size then some (s,st) else none)
   else if sz≠size\/size=0\/tJ<2*(len+n)*bytes then none else
   match st.row i with
   |none=>none
   |some (c,e,rw)=>
    match cap with
    |some k=>
     if len+n<=k then
      (if rw=true/\o+(len+n)*size<=c.length then some (.slice i o (len+n) cap sz,st.write i (.cells (ad c (o+len*size) xs) e rw)) else none)
     else match aE c o (len*size)with
      |some old=>some (.slice st.n 0 (len+n) none size,st.alloc (.cells (old++xs) elem true))
      |none=>none
    |none=>
     if rw=true then
      if o+(len+n)*size<=c.length then some (.slice i o (len+n) none sz,st.write i (.cells (ad c (o+len*size) xs) e rw))
      else if o+len*size=c.length/\e=elem/\o=0 then
       some (.slice st.n 0 (len+n) none size,(st.write i .dead).alloc (.cells (c.drop o++xs) elem true))
      else none
     else none
  |_=>none
def Oz:kc->V->V->Option Bool
 |.int k,.int a x,.int b y=>if a=k/\b=k then some (x==y) else none
 |.str,.str x,.str y=>some (x==y)
 |_,_,_=>none
def fb(kd:kc)(k:V):List (V×V)->Nat->Option (Option (Nat×V))
 |[],_=>some none
 |(a,v)::es,i=>
  match Oz kd k a with
  |some true=>some (some (i,v))
  |some false=>fb kd k es (i+1)
  |none=>none
def kc.fits:kc->V->Bool
 |.int k,.int k' _=>k=k'
 |.str,.str _=>true
 |_,_=>false
def wN:List V->Option V
 |[]=>none
 |[x]=>some x
 |.int k a::.int _ b::rest=>wN (.int k (if b<a then b else a)::rest)
 |_=>none
termination_by l=>l.length
def wO:List V->Option V
 |[]=>none
 |[x]=>some x
 |.int k a::.int _ b::rest=>wO (.int k (if a<b then b else a)::rest)
 |_=>none
termination_by l=>l.length
def xK:V->List V->Option V
 |x,[]=>some x
 |.int k a,.int _ b::rest=>xK (.int k (if b<a then b else a)) rest
 |_,_=>none
def BT:List V->Option V
 |[]=>none
 |x::xs=>xK x xs
def yr:V->List V->Option V
 |x,[]=>some x
 |.int k a,.int _ b::rest=>yr (.int k (if a<b then b else a)) rest
 |_,_=>none
def AO:List V->Option V
 |[]=>none
 |x::xs=>yr x xs
def ZN:∀(xs:List V) (x:V),xK x xs=wN (x::xs)
 |[],x=>by simp[xK,wN]
 |y::ys,x=>by
  cases x with
  |int k a=>
   cases y with
   |int k' b=>simp only[xK,wN];exact ZN ys _
   |_=>simp[xK,wN]
  |_=>simp[xK,wN]
def Ynf(l:List V):BT l=wN l:=by
 cases l with
 |nil=>simp[BT,wN]
 |cons x xs=>exact ZN xs x
def ZO:∀(xs:List V) (x:V),yr x xs=wO (x::xs)
 |[],x=>by simp[yr,wO]
 |y::ys,x=>by
  cases x with
  |int k a=>
   cases y with
   |int k' b=>simp only[yr,wO];exact ZO ys _
   |_=>simp[yr,wO]
  |_=>simp[yr,wO]
def Yni(l:List V):AO l=wO l:=by
 cases l with
 |nil=>simp[AO,wO]
 |cons x xs=>exact ZO xs x
def FQ(c:UInt8):List UInt8->Nat->Int
 |[],_=> -1
 |b::rest,i=>if b==c then (i:Int) else FQ c rest (i+1)
def BU:Ext->List V->Option V
 |.eW,[.int .u64 x,.int .u64 y,.int .u64 c]=>if ¬(c=0\/c=1) then none else
   some (.bg [.int .u64 (Int.ofNat ((x.toNat+y.toNat+c.toNat)%2^64)),.int .u64 (Int.ofNat ((x.toNat+y.toNat+c.toNat)/2^64))])
 |.iH,[.int .u64 x,.int .u64 y,.int .u64 b]=>if ¬(b=0\/b=1) then none else
   some (.bg [.int .u64 (Int.ofNat ((x.toNat+2^64-y.toNat-b.toNat)%2^64)),.int .u64 (if x.toNat<y.toNat+b.toNat then 1 else 0)])
 |.bM,[.str s,.int .u8 c]=>some (.int .i64 (FQ c.toNat.toUInt8 s 0))
 |_,_=>none
abbrev cG:=V->List V->St->Option (V×St)
def OA(op:BinOp)(t:rU)(st:St)(i j:Nat):Option (V×St):=
 match op,t,st.h.get i,st.h.get j with
 |.eql,.aM .chan,some (.chan ..),some (.chan ..)=>some (.bool (i==j),st)
 |.neq,.aM .chan,some (.chan ..),some (.chan ..)=>some (.bool (!(i==j)),st)
 |_,_,_,_=>none
abbrev ef:=cG->T V->St->Option (V×St)
def FR(x:Src):ef:=fun _ r st=>match x.ev r with
  |some v=>some (v,st)
  |none=>none
def DD(c:Src)(a:Src)(b:Src):ef:=fun _ r st=>match c.ev r with
  |some (.bool true)=>match a.ev r with
   |some v=>some (v,st)
   |none=>none
  |some (.bool false)=>match b.ev r with
   |some v=>some (v,st)
   |none=>none
  |_=>none
def It(zero:List V)(elem:TypeId):ef:=fun _ _ st=>some (.ptr st.n 0,st.alloc (.cells zero elem true))
def FT(elem:TypeId)(x:Src):ef:=fun _ r st=>match x.ev r with
  |some v=>if v.cells.all V.one then some (.ptr st.n 0,st.alloc (.cells v.cells elem true)) else none
  |none=>none
def BV(zero:List V)(parts:List (Nat×Nat×Src)):ef:=fun _ r st=>match AN r parts with
  |some ps=>match AM zero ps with
   |some l=>some (.agg l,st)
   |none=>none
  |none=>none
def FU(elem:TypeId)(size:Nat)(len:Nat)(zero:List V)(parts:List (Nat×Nat×Src)):ef:=fun _ r st=>match AN r parts with
  |some ps=>match AM zero ps with
   |some l=>if l.all V.one then some (.slice st.n 0 len (some len) size,st.alloc (.cells l elem true)) else none
   |none=>none
  |none=>none
def FV(n:Option Nat)(a:Src):ef:=fun _ r st=>match a.ev r with
  |some (.ptr i o)=>match st.row i with
   |some (c,_,_)=>match aS c o n with
    |some v=>some (v,st)
    |none=>none
   |none=>none
  |_=>none
def DE(n:Nat)(a:Src)(x:Src):ef:=fun _ r st=>match a.ev r,x.ev r with
  |some (.ptr i o),some v=>match st.row i with
   |some (c,e,true)=>if v.cells.length=n/\o+n<=c.length/\v.cells.all V.one=true then some (.bg [],st.write i (.cells (ad c o v.cells) e true)) else none
   |_=>none
  |_,_=>none
def FW(x:Src):ef:=fun _ r st=>match x.ev r with
  |some (.ptr i o)=>some (.ptr i o,st)
  |some (.func f a l)=>some (.func f a l,st)
  |_=>none
def FX(op:BinOp)(t:rU)(ng:Bool)(x:Src)(y:Src):ef:=fun _ r st=>match x.ev r,y.ev r with
  |some (.chan i),some (.chan j)=>OA op t st i j
  |some a,some b=>match T0 op t ng a b with
   |some v=>some (v,st)
   |none=>none
  |_,_=>none
def FY(op:UnOp)(x:Src):ef:=fun _ r st=>match x.ev r with
  |some a=>match T1 op a with
   |some v=>some (v,st)
   |none=>none
  |none=>none
def FZ(k:IntKind)(x:Src):ef:=fun _ r st=>match x.ev r with
  |some (.int _ n)=>some (.int k (bu k n),st)
  |_=>none
def Iu(x:Src):ef:=fun _ r st=>match x.ev r with
  |some (.str s)=>some (.str s,st)
  |_=>none
def DF(elem:TypeId)(x:Src):ef:=fun _ r st=>match x.ev r with
  |some (.str s)=>some (.slice st.n 0 s.length none 1,st.alloc (.cells (s.map fun b=>.int .u8 b.toNat) elem true))
  |_=>none
def F0(x:Src):ef:=fun _ r st=>match x.ev r with
  |some .aa=>some (.str [],st)
  |some (.slice i o len _ 1)=>match st.row i with
   |some (c,_,_)=>match aE c o len with
    |some l=>match l.mapM (fun v=>match v with|.int .u8 n=>some (UInt8.ofNat n.toNat)|_=>none)with
     |some s=>some (.str s,st)
     |none=>none
    |none=>none
   |none=>none
  |_=>none
def Iv(t:TypeId)(x:Src):ef:=fun _ r st=>match x.ev r with
  |some v=>some (.iface t v,st)
  |none=>none
def F3(f:FuncId)(first:List Src)(fY:List Src):ef:=fun _ r st=>match tN r first,tN r fY with
  |some a,some l=>some (.func f a l,st)
  |_,_=>none
def Iw:ef:=fun _ _ st=>some (.map st.n,st.alloc (.map []))
def DG(bytes:Nat)(n:Src):ef:=fun _ r st=>match n.ev r with
  |some (.int _ k)=>if k<0\/k > IntKind.i64.max\/bytes*k > 2^48-112 then none else some (.chan st.n,st.alloc (.chan k.toNat []))
  |_=>none
def BW(elem:TypeId)(size:Nat)(bytes:Nat)(zero:List V)(len:Src)(cap:Src):ef:=fun _ r st=>match len.ev r,cap.ev r with
  |some (.int _ l),some (.int _ c)=>
   if 0<=l/\l<=c/\bytes*c<=2^47/\c<2^62/\size=zero.length/\size≠0 then
    some (.slice st.n 0 l.toNat (some c.toNat) size,st.alloc (.cells (dr zero c.toNat) elem true)) else none
  |_,_=>none
def yt(x:Src)(lo:Option Src)(hi:Option Src):ef:=fun _ r st=>match x.ev r,aC r lo,aC r hi with
  |some (.str s),some lo,some hi=>
   match dB hi s.length s.length with
   |some h=>match dB lo h 0 with
    |some l=>some (.str ((s.take h).drop l),st)
    |none=>none
   |none=>none
  |_,_,_=>none
def pC(size:Nat)(x:Src)(lo:Option Src)(hi:Option Src)(mx:Option Src):ef:=fun _ r st=>match x.ev r,aC r lo,aC r hi,aC r mx with
  |some .aa,some lo,some hi,some mx=>
   match dB mx 0 0 with
   |some _=>match dB hi 0 0 with
    |some _=>match dB lo 0 0 with
     |some _=>if mx.isSome&&hi.isNone then none else some (.aa,st)
     |none=>none
    |none=>none
   |none=>none
  |some .empty,some lo,some hi,some none=>
   match dB hi 0 0 with
   |some _=>match dB lo 0 0 with
    |some _=>some (.empty,st)
    |none=>none
   |none=>none
  |some (.slice i o len (some c) sz),some lo,some hi,some mx=>
   if sz≠size\/(mx.isSome&&hi.isNone) then none else
   match dB mx c c with
   |some m=>match dB hi m len with
    |some h=>match dB lo h 0 with
     |some l=>some (.slice i (if m=l then o else o+l*size) (h-l) (some (m-l)) sz,st)
     |none=>none
    |none=>none
   |none=>none
  |some (.slice i o len none sz),some lo,some hi,some mx=>
   if sz≠size\/size=0\/(mx.isSome&&hi.isNone) then none else
   match st.row i with
   |some (c,_,_)=>
    let k:=max len ((c.length-o)/size)
    match mx with
    |some m=>match ki m k with
     |some m=>match dB hi m len with
      |some h=>match dB lo h 0 with
       |some l=>some (.slice i (if m=l then o else o+l*size) (h-l) (some (m-l)) sz,st)
       |none=>none
      |none=>none
     |none=>none
    |none=>match dB hi k len with
     |some h=>match dB lo h 0 with
      |some l=>if l<k then some (.slice i (o+l*size) (h-l) none sz,st) else some (.empty,st)
      |none=>none
     |none=>none
   |none=>none
  |_,_,_,_=>none
def zr(n:Nat)(size:Nat)(x:Src)(lo:Option Src)(hi:Option Src)(mx:Option Src):ef:=fun _ r st=>match x.ev r,aC r lo,aC r hi,aC r mx with
  |some (.ptr i o),some lo,some hi,some none=>
   match dB hi n n with
   |some h=>match dB lo h 0 with
    |some l=>match st.row i with
     |some (c,_,_)=>if o+n*size<=c.length/\mx.isNone then some (.slice i (if n=l then o else o+l*size) (h-l) (some (n-l)) size,st) else none
     |none=>none
    |none=>none
   |none=>none
  |_,_,_,_=>none
def F4(off:Nat)(x:Src):ef:=fun _ r st=>match x.ev r with
  |some (.ptr i o)=>some (.ptr i (o+off),st)
  |_=>none
def F5(off:Nat)(n:Option Nat)(x:Src):ef:=fun _ r st=>match x.ev r with
  |some (.agg cs)=>match aS cs off n with
   |some v=>some (v,st)
   |none=>none
  |_=>none
def BX(len:Nat)(size:Nat)(x:Src)(i:Src):ef:=fun _ r st=>match x.ev r,i.ev r with
  |some (.ptr a o),some (.int _ k)=>if 0<=k/\k<(len:Int) then some (.ptr a (o+k.toNat*size),st) else none
  |_,_=>none
def DH(size:Nat)(x:Src)(i:Src):ef:=fun _ r st=>match x.ev r,i.ev r with
  |some (.slice a o len _ _),some (.int _ k)=>if 0<=k/\k<(len:Int) then some (.ptr a (o+k.toNat*size),st) else none
  |_,_=>none
def Ix(len:Nat)(size:Nat)(n:Option Nat)(x:Src)(i:Src):ef:=fun _ r st=>match x.ev r,i.ev r with
  |some (.agg cs),some (.int _ k)=>if 0<=k/\k<(len:Int) then match aS cs (k.toNat*size) n with
    |some v=>some (v,st)
    |none=>none
   else none
  |_,_=>none
def DI(x:Src)(i:Src):ef:=fun _ r st=>match x.ev r,i.ev r with
  |some (.str s),some (.int _ k)=>if 0<=k then match s[k.toNat]? with
    |some b=>some (.int .u8 b.toNat,st)
    |none=>none
   else none
  |_,_=>none
def F6(kd:kc)(zero:V)(m:Src)(k:Src)(ok:Bool):ef:=fun _ r st=>match m.ev r,k.ev r with
  |some m,some k=>
   if kd.fits k then
    match (match m with
     |.bW=>some []
     |.map i=>match st.h.get i with
      |some (.map es)=>some es
      |_=>none
     |_=>none)with
    |some es=>match fb kd k es 0 with
     |some (some (_,v))=>some (if ok then .bg [v,.bool true] else v,st)
     |some none=>some (if ok then .bg [zero,.bool false] else zero,st)
     |none=>none
    |none=>none
   else none
  |_,_=>none
def DJ(kd:kc)(m:Src)(k:Src)(v:Src):ef:=fun _ r st=>match m.ev r,k.ev r,v.ev r with
  |some (.map i),some k,some v=>
   if kd.fits k then
    match st.h.get i with
    |some (.map es)=>match fb kd k es 0 with
     |some (some (j,_))=>some (.bg [],st.write i (.map (es.set j (k,v))))
     |some none=>some (.bg [],st.write i (.map (es++[(k,v)])))
     |none=>none
    |_=>none
   else none
  |_,_,_=>none
def ZP(kd:kc)(zero:V)(m:Src)(k:Src):ef:=fun _ r st=>match m.ev r,k.ev r with
  |some (.map i),some k=>
   if kd.fits k then
    match st.h.get i with
    |some (.map es)=>match fb kd k es 0 with
     |some (some (j,v))=>some (.bg [v,.int .i64 j],st.write i (.map (es.set j (k,v))))
     |some none=>some (.bg [zero,.int .i64 es.length],st.write i (.map (es++[(k,zero)])))
     |none=>none
    |_=>none
   else none
  |_,_=>none
def T3(m:Src)(s:Src)(v:Src):ef:=fun _ r st=>match m.ev r,s.ev r,v.ev r with
  |some (.map i),some (.int _ j),some v=>
   match st.h.get i with
   |some (.map es)=>if 0<=j then match es[j.toNat]? with
     |some (k,_)=>some (.bg [],st.write i (.map (es.set j.toNat (k,v))))
     |none=>none
    else none
   |_=>none
  |_,_,_=>none
def F7(x:Src):ef:=fun _ r st=>match x.ev r with
  |some (.str s)=>some (.ptr st.n 0,st.alloc (.ew s 0))
  |_=>none
def F8(it:Src):ef:=fun _ r st=>match it.ev r with
  |some (.ptr i 0)=>match st.h.get i with
   |some (.ew s pos)=>
    if pos<s.length then
     let cw:=Utf8.decode ⟨s.toArray⟩ pos
     some (.bg [.bool true,.int .i64 pos,.int .i32 cw.1],st.write i (.ew s (pos+cw.2)))
    else some (.bg [.bool false],st)
   |_=>none
  |_=>none
def F9(x:Src)(i:Nat):ef:=fun _ r st=>match x.ev r with
  |some (.bg vs)=>match vs[i]? with
   |some v=>some (v,st)
   |none=>none
  |_=>none
def xL(k:Nat)(x:Src):ef:=fun _ r st=>match k,x.ev r with
  |0,some (.str s)=>some (.int .i64 s.length,st)
  |1,some .aa=>some (.int .i64 0,st)
  |1,some .empty=>some (.int .i64 0,st)
  |1,some (.slice _ _ n _ _)=>some (.int .i64 n,st)
  |2,some .bW=>some (.int .i64 0,st)
  |2,some (.map i)=>match st.h.get i with
   |some (.map es)=>some (.int .i64 es.length,st)
   |_=>none
  |_,_=>none
def Ki(n:Nat):ef:=fun _ _ st=>some (.int .i64 n,st)
def Iy(x:Src):ef:=fun _ r st=>match x.ev r with
  |some .aa=>some (.int .i64 0,st)
  |some (.slice _ _ _ (some c) _)=>some (.int .i64 c,st)
  |_=>none
def yu(args:List Src):ef:=fun _ r st=>match tN r args with
  |some l=>match BT l with
   |some v=>some (v,st)
   |none=>none
  |none=>none
def qy(args:List Src):ef:=fun _ r st=>match tN r args with
  |some l=>match AO l with
   |some v=>some (v,st)
   |none=>none
  |none=>none
def BY(size:Nat)(bytes:Nat)(elem:TypeId)(_:List V)(s:Src)(x:Src):ef:=fun _ r st=>match s.ev r,x.ev r with
  |some s,some x=>gj st size bytes elem s x
  |_,_=>none
def BZ(size:Nat)(d:Src)(s:Src):ef:=fun _ r st=>match d.ev r,s.ev r with
  |some d,some s=>match eD st size s with
   |some (n,xs)=>match d with
    |.aa=>some (.int .i64 0,st)
    |.slice i o len _ sz=>
     if sz≠size\/size=0 then none else
     let k:=min n len
     if k=0 then some (.int .i64 0,st) else
     match st.row i with
     |some (c,e,true)=>if o+k*size<=c.length then some (.int .i64 k,st.write i (.cells (ad c o (xs.take (k*size))) e true)) else none
     |_=>none
    |_=>none
   |none=>none
  |_,_=>none
def Iz(size:Nat)(zero:List V)(s:Src):ef:=fun _ r st=>match s.ev r with
  |some .aa=>some (.bg [],st)
  |some .empty=>some (.bg [],st)
  |some (.slice i o len _ sz)=>
   if len=0 then some (.bg [],st) else
   if sz≠size\/size=0\/zero.length≠size then none else
   match st.row i with
   |some (c,e,true)=>if o+len*size<=c.length then some (.bg [],st.write i (.cells (ad c o (dr zero len)) e true)) else none
   |_=>none
  |_=>none
def yv(f:Src)(args:List Src):ef:=fun call r st=>match f.ev r,tN r args with
  |some f,some l=>call f l st
  |_,_=>none
def Ga(e:Ext)(args:List Src):ef:=fun _ r st=>match e,tN r args with
  |.same,some [v]=>some (v,st)
  |e,some l=>match BU e l with
   |some v=>some (v,st)
   |none=>none
  |_,none=>none
def B0(e:Option (TypeId×Nat))(x:Src):ef:=fun _ r st=>match x.ev r with
  |some (.ptr i 0)=>match st.row i with
   |some (c,e',true)=>match e with
    |none=>if 0<c.length then some (.ptr i 0,st) else none
    |some (u,z)=>if e'=u/\0<z/\z<=c.length then some (.ptr i 0,st) else none
   |_=>none
  |_=>none
def IA(x:Src):ef:=fun _ r st=>match x.ev r with
  |some (.slice i o len _ _)=>if 0<len then some (.ptr i o,st) else none
  |_=>none
def OB:V->Option UInt8
 |.int .u8 n=>if 0<=n/\n<256 then some n.toNat.toUInt8 else none
 |_=>none
def Gb:List V->Option (List UInt8)
 |[]=>some []
 |v::l=>match OB v,Gb l with
  |some b,some s=>some (b::s)
  |_,_=>none
def IB(e:TypeId)(x n:Src):ef:=fun _ r st=>match x.ev r,n.ev r with
  |some (.ptr i 0),some (.int .i64 k)=>if 0<k/\k<=9223372036854775807 then
    match st.row i with
    |some (c,e',true)=>if e'=e then
      match aE c 0 k.toNat with
      |some zi=>match Gb zi with
       |some s=>some (.str s,st.write i (.cells c e' false))
       |none=>none
      |none=>none
     else none
    |_=>none
   else none
  |_,_=>none
def T4:ef:=fun _ _ _=>none
def ct(op:fX):ef:=fX.casesOn op FR DD It FT BV FU FV DE FW FX FY FZ Iu DF F0 Iv F3 Iw DG BW yt pC zr F4 F5 BX DH Ix DI F6 DJ ZP T3 F7 F8 F9 xL Ki Iy yu qy BY BZ Iz yv Ga B0 IA IB T4
def Fr.put(fr:Fr)(d:Option Nat)(v:V):Option Fr:=
 match d with
 |some d=>if d<fr.n then some {fr with r:=fr.r.set d v} else none
 |none=>some fr
def b_(r:T V):Option (Nat×Bool)->Option Bool
 |none=>some true
 |some (t,want)=>match r.get t with
  |some (.bool b)=>some (b==want)
  |some (.bg _)=>some false
  |_=>none
def AP(call:cG)(o:dt)(next:Fr->St->Option (Fr×St))(fr:Fr)(st:St):Option (Fr×St):=
 match b_ fr.r o.guard with
 |some true=>match ct o.op call fr.r st with
  |some (v,aB)=>match fr.put o.dst v with
   |some bL=>next bL aB
   |none=>none
  |none=>none
 |some false=>match fr.put o.dst (.bg [])with
  |some bL=>next bL st
  |none=>none
 |none=>none
def ZQ(fr:Fr)(st:St):Option (Fr×St):=some (fr,st)
def dC(call:cG):List dt->Fr->St->Option (Fr×St)
 |[]=>ZQ
 |o::rest=>AP call o (dC call rest)
structure FP where
 rd:Option (List Nat)
 wr:List Nat
 lo:Nat
 hi:Nat
def fX.nJ:fX->Bool
 |.ba _|.pick ..|.alloc ..|.box ..|.build ..|.aV ..|.fR _|.un ..|.bj ..|.qu _|.gI ..|.e_ ..|.cP ..|.wG|.uK ..
 |.bY ..|.aD ..|.eI ..|.field ..|.cr ..|.aU ..|.uL ..|.aZ ..|.jr _|.extract ..|.uM _|.cap _|.mn _|.mx _|.ext ..=>true
 |.bin .add ..|.bin .sub ..|.bin .mul ..|.bin .quo ..|.bin .rem ..|.bin .lss ..|.bin .leq ..|.bin .gtr ..|.bin .geq ..|.bin .shl ..|.bin .shr ..|.bin .and ..|.bin .or ..|.bin .xor ..|.bin .andNot ..=>true
 |_=>false
def OC(r:T V):fX->Option Nat
 |.load _ a=>match a.ev r with
  |some (.ptr i _)=>some i
  |_=>none
 |.store _ a _=>match a.ev r with
  |some (.ptr i _)=>some i
  |_=>none
 |_=>none
def oF(r:T V)(op:fX)(ws:List Nat)(lo hi:Nat):FP:=
 if op.nJ then ⟨some [],[],lo,hi⟩ else
 match OC r op with
 |some i=>if Nat.blt i lo then ⟨some [i],ws,lo,hi⟩ else ⟨none,ws,lo,hi⟩
 |none=>⟨none,ws,lo,hi⟩
def uN(i:Nat)(l:List Nat):List Nat:=if l.contains i then l else i::l
def ax(n:Nat):List Nat->List Nat
 |[]=>[]
 |i::l=>if i<n then uN i (ax n l) else ax n l
def AQ(call:cG)(o:dt)(next:Fr->St->Option (List FP×Fr×St))(fr:Fr)(st:St):Option (List FP×Fr×St):=
 match b_ fr.r o.guard with
 |some true=>match ct o.op call fr.r {st with w:=[]} with
  |some (v,aB)=>match fr.put o.dst v with
   |some bL=>match next bL {aB with w:=ax st.n aB.w++st.w} with
    |some (gS,fr'',st'')=>some (oF fr.r o.op (ax st.n aB.w) st.n aB.n::gS,fr'',st'')
    |none=>none
   |none=>none
  |none=>none
 |some false=>match fr.put o.dst (.bg [])with
  |some bL=>match next bL st with
   |some (gS,fr'',st'')=>some (⟨some [],[],st.n,st.n⟩::gS,fr'',st'')
   |none=>none
  |none=>none
 |none=>none
def ZR(fr:Fr)(st:St):Option (List FP×Fr×St):=some ([],fr,st)
def bS(call:cG):List dt->Fr->St->Option (List FP×Fr×St)
 |[]=>ZR
 |o::rest=>AQ call o (bS call rest)
def B1(a:List Nat):Option (List Nat)->Bool
 |none=>!a.isEmpty
 |some b=>a.any fun i=>b.contains i
def FP.free(a b:FP):Bool:=!(B1 a.wr b.rd||B1 a.wr (some b.wr)||B1 b.wr a.rd||b.wr.any fun i=>Nat.ble a.lo i&&Nat.blt i a.hi)
def cA{α:Type}(p:α->α->Bool)(xs:List α)(pA:List Nat):Bool:=
 go xs pA 0 []
where
 go:List α->List Nat->Nat->List α->Bool
  |[],_,_,_=>true
  |f::fs,ms,j,seen=>
   (cB f (ms.headD 0) (j-1) seen)&&go fs ms.tail (j+1) (f::seen)
 cB (f:α) (m:Nat):Nat->List α->Bool
  |_,[]=>true
  |i,g::gs=>(m.testBit i||p g f)&&cB f m (i-1) gs
def js(gS:List FP)(pA:List Nat):Bool:=cA FP.free gS pA
def Src.tmps:Src->List Nat
 |.tmp t=>[t]
 |.const _=>[]
def AR:Option Src->List Src
 |none=>[]
 |some s=>[s]
def fX.B2:fX->List Src
 |.ba x=>[x]
 |.pick c a b=>[c,a,b]
 |.alloc ..=>[]
 |.box _ x=>[x]
 |.build _ ps=>ps.map (·.2.2)
 |.aV _ _ _ _ ps=>ps.map (·.2.2)
 |.load _ a=>[a]
 |.store _ a x=>[a,x]
 |.fR x=>[x]
 |.bin _ _ _ x y=>[x,y]
 |.un _ x=>[x]
 |.bj _ x=>[x]
 |.qu x=>[x]
 |.gI _ x=>[x]
 |.fx x=>[x]
 |.e_ _ x=>[x]
 |.cP _ a c=>a++c
 |.wG=>[]
 |.uK _ n=>[n]
 |.bY _ _ _ _ l c=>[l,c]
 |.aD x lo hi=>x::(AR lo++AR hi)
 |.cQ _ x lo hi m=>x::(AR lo++AR hi++AR m)
 |.du _ _ x lo hi m=>x::(AR lo++AR hi++AR m)
 |.eI _ x=>[x]
 |.field _ _ x=>[x]
 |.cr _ _ x i=>[x,i]
 |.aU _ x i=>[x,i]
 |.uL _ _ _ x i=>[x,i]
 |.aZ x i=>[x,i]
 |.lookup _ _ m k _=>[m,k]
 |.uD _ m k v=>[m,k,v]
 |.FN _ _ m k=>[m,k]
 |.FO m s v=>[m,s,v]
 |.jr x=>[x]
 |.qm x=>[x]
 |.extract x _=>[x]
 |.len _ x=>[x]
 |.uM _=>[]
 |.cap x=>[x]
 |.mn l=>l
 |.mx l=>l
 |.append _ _ _ _ s x=>[s,x]
 |.copy _ d s=>[d,s]
 |.clear _ _ s=>[s]
 |.call f l=>f::l
 |.ext _ l=>l
 |.Ie _ x=>[x]
 |.wF x=>[x]
 |.BI _ x n=>[x,n]
 |.stop=>[]
def dt.reads(o:dt):List Nat:=
 (match o.guard with|some (t,_)=>[t]|none=>[])++o.op.B2.flatMap Src.tmps
def Kj(d:Option Nat)(l:List Nat):Bool:=
 match d with
 |some t=>l.contains t
 |none=>false
def Ol(a b:dt):Bool:=!(Kj a.dst b.reads||Kj b.dst a.reads||Kj a.dst b.dst.toList)
def T5(st:St)(i:Nat)(send:Option V)(zero:V):Option (V×St):=
 match st.h.get i,send with
 |some (.chan cap buf),some v=>if buf.length<cap then some (.bg [.int .i64 0,.bool false],st.write i (.chan cap (buf++[v]))) else some (.bg [.int .i64 (-1),.bool false],st)
 |some (.chan cap (v::buf)),none=>some (.bg [.int .i64 0,.bool true,v],st.write i (.chan cap buf))
 |some (.chan _ []),none=>some (.bg [.int .i64 (-1),.bool false,zero],st)
 |_,_=>none
abbrev pD:=Option Nat->av->Fr->St->Option (Ex×Fr×St)
abbrev wP:=cG->pD->Option Nat->Fr->St->Option (Ex×Fr×St)
def T6:wP:=fun _ _ _ fr st=>some (.normal,fr,st)
def zt(ops:List dt):wP:=fun call _ _ fr st=>match dC call ops fr st with
 |some (bL,aB)=>some (.normal,bL,aB)
 |none=>none
def zu(ops:List dt)(pA:List Nat):wP:=fun call _ _ fr st=>match bS call ops fr st with
 |some (gS,bL,aB)=>match js gS pA with
  |true=>some (.normal,bL,aB)
  |false=>none
 |none=>none
def AS(dst:Option Nat)(ch:Src)(send:Option Src)(zero:V)(ops:List dt):wP:=fun call _ _ fr st=>
 match ch.ev fr.r,aC fr.r send with
 |some (.chan i),some sv=>match T5 st i sv zero with
  |some (v,cf)=>match fr.put dst v with
   |some dS=>match dC call ops dS cf with
    |some (bL,aB)=>some (.normal,bL,aB)
    |none=>none
   |none=>none
  |none=>none
 |_,_=>none
def AT(a b:av):wP:=fun _ rec ro fr st=>match rec ro a fr st with
 |some (.normal,bL,aB)=>rec ro b bL aB
 |x=>x
def xM(x:Src)(a b:av):wP:=fun _ rec ro fr st=>match x.ev fr.r with
 |some (.bool true)=>rec ro a fr st
 |some (.bool false)=>rec ro b fr st
 |_=>none
def AU(id:Nat)(c:av):wP:=fun _ rec ro fr st=>match rec ro c fr st with
 |some (.exit AV,bL,aB)=>match Nat.beq AV id with
  |true=>some (.normal,bL,aB)
  |false=>some (.exit AV,bL,aB)
 |x=>x
def AW(c:av):wP:=fun _ rec ro fr st=>match rec ro c fr st with
 |some (.normal,bL,aB)=>rec ro (.loop c) bL aB
 |x=>x
def Ob(st:St):Option Nat->Option (St×Nat×List Nat)
 |none=>some (st.alloc (.defs true),st.n,[st.n])
 |some l=>match st.h.get l with
  |some (.loop R)=>some (st,R.defs,[])
  |_=>none
def V.Fo:V->Bool
 |.yield _=>true
 |_=>false
def yY(g:Src)(ps:List Nat)(assign body:av):wP:=fun call _ ro fr st=>
 match g.ev fr.r with
 |none=>none
 |some gv=>
  if gv.Fo then none else
  match Ob st ro with
  |none=>none
  |some (cf,d,mk)=>
   match call gv [.yield cf.n] (cf.alloc (.loop {st:=.ready,eQ:=none,r:=fr.r,n:=fr.n,ps:=ps,assign:=assign,body:=body,defs:=d}))with
   |none=>none
   |some (_,eF)=>
    match eF.h.get cf.n with
    |some (.loop R)=>
     if R.st=.busy then none else
     some (match R.eQ with|none=>.normal|some e=>e,{fr with marks:=mk++fr.marks},eF.write cf.n (.loop {R with st:=.exhausted}))
    |_=>none
def ZS(id:Nat):wP:=fun _ _ _ fr st=>some (.exit id,fr,st)
def ZT(c:av):wP:=fun _ rec ro fr st=>rec ro c fr st
def ZU:wP:=fun _ _ _ fr st=>some (.ret,fr,st)
def IC:wP:=fun _ _ _ _ _=>none
def mA(c:av):wP:=av.casesOn c T6 zt zu AS AT xM AU AW yY ZS ZT ZU IC
def OD:pD:=fun _ _ _ _=>none
def dL(call:cG):Nat->pD
 |0=>OD
 |f+1=>fun ro c=>mA c call (dL call f) ro
def yw(r:T V)(i:Nat):List V->T V
 |[]=>r
 |v::vs=>yw (r.set i v) (i+1) vs
def BC(r:T V)(n:Nat):List Nat->List V->Option (T V)
 |[],[]=>some r
 |p::ps,v::vs=>if p<n then BC (r.set p v) n ps vs else none
 |_,_=>none
def fw(r:T V)(st:St):List Df->Option (List V)
 |[]=>some []
 |.tmp t::rest=>match r.get t,fw r st rest with
  |some v,some vs=>some (v::vs)
  |_,_=>none
 |.cell t n::rest=>match r.get t,fw r st rest with
  |some (.ptr i o),some vs=>match st.row i with
   |some (c,_,_)=>match aS c o n with
    |some v=>some (v::vs)
    |none=>none
   |none=>none
  |_,_=>none
def shut(st:St):List Nat->Option St
 |[]=>some st
 |d::ds=>match st.h.get d with
  |some (.defs true)=>shut (st.write d (.defs false)) ds
  |_=>none
def HR:Option Ex->LoopState
 |none=>.ready
 |some _=>.done
def qg:Ex->Option Ex
 |.normal=>none
 |e=>some e
def DK:List V->V
 |[v]=>v
 |vs=>.bg vs
def T7(mf:ku)(st:St):Option (Ex×Fr×St)->Option (V×St)
 |some (.exit _,_,_)=>none
 |some (_,fr,cf)=>match shut cf fr.marks with
  |none=>none
  |some eF=>match fw fr.r eF mf.results with
   |some vs=>some (DK vs,{eF with w:=ax st.n eF.w++st.w})
   |none=>none
 |none=>none
def B3(mf:ku)(code:pD)(args:List V)(st:St):Option (V×St):=
 if mf.ntmps<args.length then none else
 T7 mf st (code none mf.body {r:=yw .nil 0 args,n:=mf.ntmps,marks:=[]} {st with w:=[]})
def BD(code:pD)(l:Nat)(args:List V)(st:St):Option (V×St):=
 match st.h.get l with
 |some (.loop R)=>match BC R.r R.n R.ps args with
  |none=>none
  |some r0=>match code (some l) R.assign {r:=r0,n:=R.n,marks:=[]} st with
   |some (.normal,dS,cf)=>match cf.h.get l with
    |some (.loop R1)=>
     if R1.st=.ready then
      match code (some l) R.body dS (cf.write l (.loop {R1 with st:=.busy}))with
      |some (e,_,eF)=>match eF.h.get l with
       |some (.loop R2)=>some (.bool (qg e).isNone,eF.write l (.loop {R2 with st:=HR (qg e),eQ:=qg e}))
       |_=>none
      |none=>none
     else none
    |_=>none
   |_=>none
 |_=>none
def xN(dG:Nat->Option ku)(code:pD):cG
 |.func f first fY,args,st=>match dG f with
  |some mf=>B3 mf code (first++args++fY) st
  |none=>none
 |.yield l,args,st=>BD code l args st
 |_,_,_=>none
def T8:cG:=fun _ _ _=>none
end Go.Mx
