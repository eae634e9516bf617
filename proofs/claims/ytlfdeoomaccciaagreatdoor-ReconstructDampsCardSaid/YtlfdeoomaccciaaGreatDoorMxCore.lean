/-The abstract machine M-/
import Derived.RangeFuncLeaves
import Derived.OrdersIn
import Derived.RangeFuncRecord
set_option linter.all false
namespace Go.Mx
abbrev K0:=@Int.ofNat_eq_natCast
abbrev Jd:=@List.map_toArray
abbrev VX:=@Array.all_eq_true_iff_forall_mem
abbrev Je:=@Int.lt_of_not_ge
abbrev DY:=@Nat.pow_zero
abbrev P5:=@Nat.gcd_pos_of_pos_right
abbrev Jf:=@Int.natCast_mul
abbrev Jg:=@Int.mul_ne_zero
abbrev P6:=@Nat.eq_of_beq_eq_true
abbrev P7:=@List.contains_iff_mem
abbrev P8:=@Nat.ble_eq_true_of_le
abbrev P9:=@List.singleton_append
abbrev VY:=@List.dropLast_concat_getLast
abbrev Qa:=@Nat.mul_div_mul_right
abbrev fl:=@List.getElem?_eq_none
abbrev eY:=@Nat.lt_of_lt_of_le
abbrev fg:=@List.getElem?_drop
abbrev gK:=@List.getElem?_set_self
abbrev fI:=@Bool.false_eq_true
abbrev kJ:=@List.getElem?_append_left
abbrev fV:=@List.getElem?_map
abbrev kj:=@Option.map_eq_some_iff
abbrev nU:=@List.getElem?_append_right
abbrev iM:=@List.getElem?_take
abbrev aq:=@Option.some.injEq
abbrev ak:=@if_neg
abbrev aQ:=@Nat.le_refl
abbrev bp:=@List.length_cons
abbrev ay:=@if_pos
abbrev bU:=@List.mem_of_getElem?
abbrev c9:=@List.getElem?_eq_getElem
abbrev bs:=@Prod.mk.injEq
abbrev dW:=@List.getElem?_set_ne
abbrev dC:=@Int.natAbs_natCast
abbrev eZ:=@List.take_of_length_le
abbrev kf:=@Nat.pow_add
abbrev tv:=@List.append_assoc
abbrev pZ:=@Nat.min_eq_left
abbrev nZ:=@List.map_cons
abbrev uz:=@List.mem_singleton
abbrev mP:=@Nat.add_zero
abbrev pe:=@Nat.add_assoc
abbrev qy:=@Nat.two_pow_pos
abbrev zH:=@List.getElem?_eq_some_iff
abbrev uC:=@List.take_add_one
abbrev gG:=@List.length_take
abbrev i_:=@List.length_append
abbrev iy:=@Bool.and_eq_true
abbrev q8:=@List.eq_nil_of_length_eq_zero
abbrev q9:=@Int.mul_le_mul_of_nonneg_left
abbrev kY:=@Nat.mul_le_mul_left
abbrev mr:=@Nat.mul_le_mul_right
abbrev fv:=@List.mem_map
abbrev iY:=@List.cons.injEq
abbrev je:=@List.length_map
abbrev nS:=@List.mem_cons_of_mem
abbrev fZ:=@Nat.pow_succ
abbrev kh:=@List.mem_append
abbrev qc:=@Nat.div_lt_iff_lt_mul
abbrev nR:=@List.mem_cons_self
abbrev l7:=@List.all_eq_true
abbrev oe:=@List.ext_getElem?
abbrev qz:=@Nat.pow_le_pow_right
abbrev jk:=@Nat.mul_comm
abbrev pc:=@Option.some.inj
abbrev iU:=@Nat.add_mul
abbrev pd:=@Option.getD_some
abbrev pg:=@List.drop_length
abbrev kv:=@List.mem_cons
abbrev qx:=@Nat.lt_of_le_of_lt
abbrev vo:=@Nat.le_of_ble_eq_true
abbrev Gg:=@Array.getD_eq_getD_getElem?
abbrev Ck:=@Array.getElem?_toList
abbrev Cl:=@List.take_append_drop
abbrev tA:=@Nat.mul_add
abbrev DZ:=@List.getElem?_cons_succ
abbrev D3:=@Int.eq_ofNat_of_zero_le
abbrev zy:=@List.append_nil
abbrev uw:=@Nat.zero_le
abbrev zU:=@Nat.div_eq_of_lt
abbrev Gh:=@List.drop_eq_getElem_cons
abbrev tn:=@Nat.lt_of_not_le
abbrev kZ:=@Nat.mod_lt
abbrev sQ:=@List.length_set
abbrev xW:=@List.getElem?_of_mem
abbrev Bl:=@Int.tdiv_eq_ediv_of_nonneg
abbrev A7:=@List.mem_or_eq_of_mem_set
abbrev zV:=@List.drop_eq_nil_of_le
abbrev vt:=@Nat.lt_succ_self
abbrev yL:=@List.mem_of_mem_take
abbrev uD:=@Nat.div_add_mod
abbrev D4:=@Int.mul_le_mul_of_nonneg_right
abbrev zW:=@List.length_singleton
abbrev Bm:=@List.getElem?_cons_zero
abbrev vu:=@Nat.div_le_self
abbrev xg:=@List.take_length
abbrev uO:=@Int.natAbs_mul
abbrev x_:=@List.length_drop
abbrev yk:=@Nat.mod_eq_of_lt
abbrev D5:=@Int.tmod_eq_emod_of_nonneg
abbrev tk:=@Nat.le_trans
abbrev xh:=@Int.mul_nonneg
abbrev wS:=@Nat.mul_le_mul
abbrev xV:=@Option.map_some
abbrev yY:=@Nat.le_of_not_lt
abbrev uE:=@Int.le_of_lt
abbrev A6:=@List.map_congr_left
abbrev B4:=@Bool.false_and
abbrev P3:=@Array.getElem?_setIfInBounds_ne
abbrev zX:=@Nat.pow_pos
abbrev IL:=@List.mem_of_mem_drop
abbrev D6:=@Int.emod_nonneg
abbrev Gi:=@Bool.not_eq_true'
abbrev Jh:=@List.mem_replicate
abbrev Gj:=@Bool.or_eq_true
abbrev K3:=@Nat.mul_mod_mul_right
abbrev D7:=@Nat.mul_assoc
abbrev tr:=@Nat.not_lt
abbrev wW:=@List.map_nil
abbrev Ji:=@Option.ite_none_left_eq_some
abbrev wX:=@Nat.zero_add
abbrev D8:=@Int.mul_ediv_add_emod
abbrev yU:=@List.drop_zero
abbrev vw:=@Nat.le_succ
abbrev BZ:=@Rat.num_divInt_den
abbrev IE:=@Nat.mul_lt_mul_of_pos_right
abbrev A3:=@Nat.mul_lt_mul''
abbrev zq:=@List.mem_range
abbrev Gk:=@Nat.div_div_eq_div_mul
abbrev Cm:=@Nat.lt_of_succ_le
abbrev Cn:=@Nat.le_max_right
abbrev Co:=@List.cons_append
abbrev D9:=@Int.emod_lt_of_pos
abbrev Bc:=@Int.natAbs_neg
abbrev Cq:=@Nat.le_max_left
abbrev Cr:=@Nat.div_lt_self
abbrev FF:=@List.getElem?_range
abbrev Gl:=@Nat.pow_le_pow_left
abbrev yZ:=@Nat.mul_one
abbrev yF:=@Nat.mul_pos
abbrev Ea:=@Int.le_of_not_gt
abbrev F4:=@Nat.eq_zero_or_pos
abbrev Jj:=@Nat.le_div_iff_mul_le
inductive T (α:Type) where
 |nil
 |node (l:T α) (v:Option α) (r:T α)
def T.get{α:Type}:T α->Nat->Option α
 |.nil,_=>none
 |.node l v r,n=>
  match n with
  |0=>v
  |k+1=>match k%2 with
   |0=>l.get (k/2)
   |_=>r.get (k/2)
def T.fi{α:Type}:Nat->T α->Nat->α->T α
 |0,t,_,_=>t
 |f+1,.nil,n,a=>
  match n with
  |0=>.node .nil (some a) .nil
  |k+1=>match k%2 with
   |0=>.node (T.fi f .nil (k/2) a) none .nil
   |_=>.node .nil none (T.fi f .nil (k/2) a)
 |f+1,.node l v r,n,a=>
  match n with
  |0=>.node l (some a) r
  |k+1=>match k%2 with
   |0=>.node (T.fi f l (k/2) a) v r
   |_=>.node l v (T.fi f r (k/2) a)
def T.set{α:Type}(t:T α)(n:Nat)(a:α):T α:=T.fi (n+1) t n a
def T.zY{α:Type}(a:α):∀(f:Nat) (t:T α) (n m:Nat),n<f->(T.fi f t n a).get m=if m=n then some a else t.get m:=by
 intro f
 induction f with
 |zero=>intro t n m h;omega
 |succ f ih=>
  intro t n m h
  cases t with
  |nil=>
   cases n with
   |zero=>
    cases m with
    |zero=>simp[T.fi,T.get]
    |succ j=>simp only[T.fi,T.get];split<;>simp
   |succ k=>
    have hk:k/2<f:=by omega
    have h2:k%2=0\/k%2=1:=by omega
    rcases h2 with h2|h2
    ·cases m with
     |zero=>simp[T.fi,T.get,h2]
     |succ j=>
      have hj:j%2=0\/j%2=1:=by omega
      rcases hj with hj|hj
      ·simp only[T.fi,T.get,h2,hj,ih _ _ _ hk]
       by_cases e:j/2=k/2
       ·have:j=k:=by omega
        simp[this]
       ·have:¬j=k:=by intro e2;exact e (by rw[e2])
        simp[e,this]
      ·have:¬j=k:=by omega
       simp[T.fi,T.get,h2,hj,this]
    ·cases m with
     |zero=>simp[T.fi,T.get,h2]
     |succ j=>
      have hj:j%2=0\/j%2=1:=by omega
      rcases hj with hj|hj
      ·have:¬j=k:=by omega
       simp[T.fi,T.get,h2,hj,this]
      ·simp only[T.fi,T.get,h2,hj,ih _ _ _ hk]
       by_cases e:j/2=k/2
       ·have:j=k:=by omega
        simp[this]
       ·have:¬j=k:=by intro e2;exact e (by rw[e2])
        simp[e,this]
  |node l v r=>
   cases n with
   |zero=>cases m<;>simp[T.fi,T.get]
   |succ k=>
    have hk:k/2<f:=by omega
    have h2:k%2=0\/k%2=1:=by omega
    rcases h2 with h2|h2
    ·cases m with
     |zero=>simp[T.fi,T.get,h2]
     |succ j=>
      have hj:j%2=0\/j%2=1:=by omega
      rcases hj with hj|hj
      ·simp only[T.fi,T.get,h2,hj,ih _ _ _ hk]
       by_cases e:j/2=k/2
       ·have:j=k:=by omega
        simp[this]
       ·have:¬j=k:=by intro e2;exact e (by rw[e2])
        simp[e,this]
      ·have:¬j=k:=by omega
       simp[T.fi,T.get,h2,hj,this]
    ·cases m with
     |zero=>simp[T.fi,T.get,h2]
     |succ j=>
      have hj:j%2=0\/j%2=1:=by omega
      rcases hj with hj|hj
      ·have:¬j=k:=by omega
       simp[T.fi,T.get,h2,hj,this]
      ·simp only[T.fi,T.get,h2,hj,ih _ _ _ hk]
       by_cases e:j/2=k/2
       ·have:j=k:=by omega
        simp[this]
       ·have:¬j=k:=by intro e2;exact e (by rw[e2])
        simp[e,this]
def T.ag{α:Type}(t:T α)(n m:Nat)(a:α):(t.set n a).get m=if m=n then some a else t.get m:=
 T.zY a (n+1) t n m (vt n)
inductive V where
 |bool (b:Bool)
 |int (k:IntKind) (n:Int)
 |vi (k:FloatKind) (bits:Nat)
 |str (s:List UInt8)
 |bF
 |ptr (i o:Nat)
 |aa
 |slice (i o len:Nat) (cap:Option Nat) (sz:Nat)
 |empty
 |bN
 |map (i:Nat)
 |bP
 |chan (i:Nat)
 |func (f:FuncId) (first cap:List V)
 |yield (i:Nat)
 |bQ
 |iface (t:TypeId) (v:V)
 |aY
 |agg (l:List V)
 |aV (l:List V)
instance:Inhabited V:=⟨.aV []⟩
def V.cells:V->List V
 |.agg l=>l
 |v=>[v]
def V.one:V->Bool
 |.agg _|.aV _=>false
 |_=>true
inductive Src where
 |tmp (t:Nat)
 |const (v:V)
inductive PK where
 |bool|int|str|ptr|slice|map|func|chan|iface
inductive s_ where
 |bX (k:PK)
 |node (parts:List (Nat×Option Nat×s_))
inductive kV where
 |int (k:IntKind)
 |str
inductive Ext where
 |gI|jB|same|bW|lJ
inductive gk where
 |km (x:Src)
 |pick (c a b:Src)
 |alloc (zero:List V) (elem:TypeId)
 |box (elem:TypeId) (x:Src)
 |build (zero:List V) (parts:List (Nat×Nat×Src))
 |fG (elem:TypeId) (size len:Nat) (zero:List V) (parts:List (Nat×Nat×Src))
 |load (n:Option Nat) (a:Src)
 |store (n:Nat) (a x:Src)
 |oh (x:Src)
 |bin (op:BinOp) (t:s_) (ng:Bool) (x y:Src)
 |un (op:UnOp) (x:Src)
 |cP (k:IntKind) (x:Src)
 |q_ (x:Src)
 |jG (elem:TypeId) (x:Src)
 |oo (x:Src)
 |iz (t:TypeId) (x:Src)
 |ot (f:FuncId) (first gl:List Src)
 |xe
 |vz (bytes:Nat) (n:Src)
 |jH (elem:TypeId) (size bytes:Nat) (zero:List V) (len cap:Src)
 |cg (x:Src) (lo hi:Option Src)
 |mQ (size:Nat) (x:Src) (lo hi mx:Option Src)
 |jI (n size:Nat) (x:Src) (lo hi mx:Option Src)
 |ja (off:Nat) (x:Src)
 |field (off:Nat) (n:Option Nat) (x:Src)
 |gY (len size:Nat) (x i:Src)
 |e_ (size:Nat) (x i:Src)
 |vA (len size:Nat) (n:Option Nat) (x i:Src)
 |bI (x i:Src)
 |lookup (kd:kV) (zero:V) (m k:Src) (ok:Bool)
 |vk (kd:kV) (m k v:Src)
 |Gm (kd:kV) (zero:V) (m k:Src)
 |Gn (m s v:Src)
 |jJ (x:Src)
 |qV (it:Src)
 |extract (x:Src) (i:Nat)
 |len (k:Nat) (x:Src)
 |vC (n:Nat)
 |cap (x:Src)
 |mn (args:List Src)
 |mx (args:List Src)
 |append (size bytes:Nat) (elem:TypeId) (zero:List V) (s x:Src)
 |copy (size:Nat) (d s:Src)
 |clear (size:Nat) (zero:List V) (s:Src)
 |call (f:Src) (args:List Src)
 |ext (e:Ext) (args:List Src)
 |Ja (e:Option (TypeId×Nat)) (x:Src)
 |zQ (x:Src)
 |Gb (e:TypeId) (x n:Src)
 |stop
structure dq where
 dst:Option Nat
 op:gk
 guard:Option (Nat×Bool)
inductive bO where
 |skip
 |dP (ops:List dq)
 |dj (ops:List dq) (qd:List Nat)
 |yh (dst:Option Nat) (ch:Src) (send:Option Src) (zero:V) (ops:List dq)
 |seq (a b:bO)
 |cond (c:Src) (a b:bO)
 |block (id:Nat) (c:bO)
 |loop (c:bO)
 |jf (g:Src) (ps:List Nat) (assign body:bO)
 |exit (id:Nat)
 |scope (c:bO)
 |ret
 |stop
inductive DX where
 |tmp (t:Nat)
 |cell (t:Nat) (n:Option Nat)
structure lF where
 ntmps:Nat
 results:List DX
 body:bO
inductive Ex where
 |normal
 |exit (id:Nat)
 |ret
structure Kr where
 st:LoopState
 eW:Option Ex
 r:T V
 n:Nat
 ps:List Nat
 assign:bO
 body:bO
 defs:Nat
inductive O where
 |cells (c:List V) (elem:TypeId) (rw:Bool)
 |map (es:List (V×V))
 |chan (cap:Nat) (buf:List V)
 |eC (s:List UInt8) (pos:Nat)
 |loop (l:Kr)
 |defs (VZ:Bool)
 |dead
def O.wr:O->Bool
 |.cells _ _ rw=>rw
 |.dead=>false
 |_=>true
def O.live:O->Bool
 |.dead=>false
 |_=>true
structure St where
 h:T O
 n:Nat
 w:List Nat
def St.alloc(st:St)(o:O):St:={st with h:=st.h.set st.n o,n:=st.n+1}
def St.write(st:St)(i:Nat)(o:O):St:={st with h:=st.h.set i o,w:=i::st.w}
structure Fr where
 r:T V
 n:Nat
 marks:List Nat
def Src.ev(r:T V):Src->Option V
 |.tmp t=>r.get t
 |.const v=>some v
def uF(r:T V):List Src->Option (List V)
 |[]=>some []
 |x::xs=>match x.ev r,uF r xs with
  |some v,some vs=>some (v::vs)
  |_,_=>none
def aC(r:T V):Option Src->Option (Option V)
 |none=>some none
 |some x=>match x.ev r with
  |some v=>some (some v)
  |none=>none
def aD{α:Type}(c:List α)(o n:Nat):Option (List α):=if o+n<=c.length then some ((c.drop o).take n) else none
def ad{α:Type}(c:List α)(o:Nat)(vs:List α):List α:=c.take o++vs++c.drop (o+vs.length)
def Bn(cells:List V):List (Nat×Nat×V)->Option (List V)
 |[]=>some cells
 |(off,size,v)::rest=>
  if v.cells.length=size/\off+size<=cells.length then Bn (ad cells off v.cells) rest else none
def Bo(r:T V):List (Nat×Nat×Src)->Option (List (Nat×Nat×V))
 |[]=>some []
 |(o,s,x)::rest=>match x.ev r,Bo r rest with
  |some v,some vs=>some ((o,s,v)::vs)
  |_,_=>none
def aO(cs:List V)(off:Nat):Option Nat->Option V
 |none=>cs[off]?
 |some n=>match aD cs off n with
  |some l=>some (.agg l)
  |none=>none
def aE(ng:Bool):PK->V->V->Option Bool
 |.bool,.bool a,.bool b=>some (a==b)
 |.int,.int k a,.int k' b=>if k=k' then some (a==b) else none
 |.str,.str a,.str b=>some (a==b)
 |.ptr,.bF,.bF=>some true
 |.ptr,.bF,.ptr _ _=>some false
 |.ptr,.ptr _ _,.bF=>some false
 |.ptr,.ptr i o,.ptr j p=>if i=j/\o=p then some true else none
 |.slice,.aa,.aa=>some true
 |.slice,.aa,.slice ..=>some false
 |.slice,.slice ..,.aa=>some false
 |.slice,.aa,.empty=>some false
 |.slice,.empty,.aa=>some false
 |.map,.bN,.bN=>some true
 |.map,.bN,.map _=>some false
 |.map,.map _,.bN=>some false
 |.func,.bQ,.bQ=>some true
 |.func,.bQ,.func ..=>some false
 |.func,.func ..,.bQ=>some false
 |.chan,.bP,.bP=>some true
 |.chan,.bP,.chan _=>some false
 |.chan,.chan _,.bP=>some false
 |.iface,.aY,.aY=>if ng then some true else none
 |.iface,.aY,.iface ..=>some false
 |.iface,.iface ..,.aY=>some false
 |_,_,_=>none
mutual
def xj(ng:Bool):s_->V->V->Option Bool
 |.bX k,x,y=>aE ng k x y
 |.node ps,.agg xs,.agg ys=>K4 ps xs ys
 |_,_,_=>none
def K4:List (Nat×Option Nat×s_)->List V->List V->Option Bool
 |[],_,_=>some true
 |(off,n,t)::rest,xs,ys=>
  match aO xs off n,aO ys off n with
  |some x,some y=>match xj false t x y with
   |some true=>K4 rest xs ys
   |some false=>some false
   |none=>none
  |_,_=>none
end
def bl(k:IntKind)(n:Int):Int:=
 match k,n with
 |.i64,.ofNat a=>match Nat.blt a 9223372036854775808 with
  |true=>.ofNat a
  |false=>IntKind.wrap .i64 (.ofNat a)
 |.i64,.negSucc a=>match Nat.blt a 9223372036854775808 with
  |true=>.negSucc a
  |false=>IntKind.wrap .i64 (.negSucc a)
 |.u64,.ofNat a=>.ofNat (Nat.mod a 18446744073709551616)
 |.u8,.ofNat a=>.ofNat (Nat.mod a 256)
 |.i32,.ofNat a=>match Nat.blt a 2147483648 with
  |true=>.ofNat a
  |false=>IntKind.wrap .i32 (.ofNat a)
 |.u32,.ofNat a=>.ofNat (Nat.mod a 4294967296)
 |k,n=>k.wrap n
def zZ(k:IntKind)(n:Int):bl k n=k.wrap n:=by
 unfold bl
 split
 ·rename_i a
  split
  ·rename_i h
   have h':a<9223372036854775808:=Cm (vo h)
   simp only[IntKind.wrap,IntKind.bits,IntKind.signed,K0]
   simp;omega
  ·rfl
 ·rename_i a
  split
  ·rename_i h
   have h':a<9223372036854775808:=Cm (vo h)
   have e:(Int.negSucc a)= -(a:Int)-1:=by omega
   simp only[IntKind.wrap,IntKind.bits,IntKind.signed,e]
   simp;omega
  ·rfl
 ·rename_i a
  show Int.ofNat (a%18446744073709551616)=_
  simp only[IntKind.wrap,IntKind.bits,IntKind.signed,K0]
  simp
 ·rename_i a
  show Int.ofNat (a%256)=_
  simp only[IntKind.wrap,IntKind.bits,IntKind.signed,K0]
  simp
 ·rename_i a
  split
  ·rename_i h
   have h':a<2147483648:=Cm (vo h)
   simp only[IntKind.wrap,IntKind.bits,IntKind.signed,K0]
   simp;omega
  ·rfl
 ·rename_i a
  show Int.ofNat (a%4294967296)=_
  simp only[IntKind.wrap,IntKind.bits,IntKind.signed,K0]
  simp
 ·rfl
def ra(op:BinOp)(k:IntKind)(a b:Int):Option V:=
 match op with
 |.add=>some (.int k (bl k (a+b)))
 |.sub=>some (.int k (bl k (a-b)))
 |.mul=>some (.int k (bl k (a*b)))
 |.quo=>if b=0 then none else some (.int k (bl k (a.tdiv b)))
 |.rem=>if b=0 then none else some (.int k (a.tmod b))
 |.and=>some (.int k (k.wrap (BitVec.ofInt k.bits a&&& BitVec.ofInt k.bits b).toNat))
 |.or=>some (.int k (k.wrap (BitVec.ofInt k.bits a|||BitVec.ofInt k.bits b).toNat))
 |.xor=>some (.int k (k.wrap (BitVec.ofInt k.bits a^^^BitVec.ofInt k.bits b).toNat))
 |.andNot=>some (.int k (k.wrap (BitVec.ofInt k.bits a&&& ~~~ BitVec.ofInt k.bits b).toNat))
 |.eql=>some (.bool (a==b))
 |.neq=>some (.bool (a !=b))
 |.lss=>some (.bool (decide (a<b)))
 |.leq=>some (.bool (decide (a<=b)))
 |.gtr=>some (.bool (decide (a > b)))
 |.geq=>some (.bool (decide (a≥b)))
 |_=>none
def y8(op:BinOp)(k:IntKind)(a b:Int):Option V:=
 if b<0 then none else
  match op with
  |.shl=>some (.int k (k.wrap (a*2^(min b.toNat k.bits))))
  |.shr=>some (.int k (a.fdiv (2^(min b.toNat k.bits))))
  |_=>none
def g_(op:BinOp)(x y:List UInt8):Option V:=
 match op with
 |.add=>if ((x.length+y.length:Nat):Int) > IntKind.i64.max then none else some (.str (x++y))
 |.eql=>some (.bool (x==y))
 |.neq=>some (.bool (!(x==y)))
 |.lss=>some (.bool (Op.bytesLess x y))
 |.leq=>some (.bool (Op.bytesLess x y||x==y))
 |.gtr=>some (.bool (!(Op.bytesLess x y||x==y)))
 |.geq=>some (.bool (!(Op.bytesLess x y)))
 |_=>none
def V0(op:BinOp)(t:s_)(ng:Bool):V->V->Option V
 |.int k a,.int k' b=>
  match op with
  |.shl=>y8 .shl k a b
  |.shr=>y8 .shr k a b
  |_=>if k=k' then ra op k a b else none
 |.str a,.str b=>g_ op a b
 |x,y=>match op with
  |.eql=>match xj ng t x y with
   |some b=>some (.bool b)
   |none=>none
  |.neq=>match xj ng t x y with
   |some b=>some (.bool (!b))
   |none=>none
  |_=>none
def V1:UnOp->V->Option V
 |.neg,.int k n=>some (.int k (k.wrap (0-n)))
 |.xor,.int k n=>some (.int k (k.wrap (BitVec.ofInt k.bits (if k.signed then -1 else k.max)^^^BitVec.ofInt k.bits n).toNat))
 |.not,.bool b=>some (.bool (!b))
 |_,_=>none
def k_(v:V)(y:Nat):Option Nat:=
 match v with
 |.int _ n=>if 0<=n/\n<=(y:Int) then some n.toNat else none
 |_=>none
def dv(v:Option V)(y V2:Nat):Option Nat:=
 match v with
 |some v=>k_ v y
 |none=>some V2
def St.row(st:St)(i:Nat):Option (List V×TypeId×Bool):=
 match st.h.get i with
 |some (.cells c e rw)=>some (c,e,rw)
 |_=>none
def dp(zero:List V)(n:Nat):List V:=(List.range (n*zero.length)).map fun i=>zero.getD (i%zero.length) (.aV [])
def eA(st:St)(size:Nat):V->Option (Nat×List V)
 |.aa=>some (0,[])
 |.empty=>some (0,[])
 |.slice j p m _ sz=>if sz=size then match st.row j with
   |some (c,_,_)=>match aD c p (m*size)with
    |some l=>some (m,l)
    |none=>none
   |none=>none
  else none
 |.str s=>if size=1 then some (s.length,s.map fun b=>.int .u8 b.toNat) else none
 |_=>none
def uk:Nat:=2^48
def gJ(st:St)(size bytes:Nat)(elem:TypeId)(s x:V):Option (V×St):=
 match eA st size x with
 |none=>none
 |some (n,xs)=>
  match s with
  |.aa=>
   if n=0 then some (.aa,st)
   else if 2*n*bytes<=uk/\size≠0 then some (.slice st.n 0 n none size,st.alloc (.cells xs elem true)) else none
  |.slice i o len cap sz=>
   if n=0 then (if sz=size then some (s,st) else none)
   else if sz≠size\/size=0\/uk<2*(len+n)*bytes then none else
   match st.row i with
   |none=>none
   |some (c,e,rw)=>
    match cap with
    |some k=>
     if len+n<=k then
      (if rw=true/\o+(len+n)*size<=c.length then some (.slice i o (len+n) cap sz,st.write i (.cells (ad c (o+len*size) xs) e rw)) else none)
     else match aD c o (len*size)with
      |some old=>some (.slice st.n 0 (len+n) none size,st.alloc (.cells (old++xs) elem true))
      |none=>none
    |none=>
     if rw=true then
      if o+(len+n)*size<=c.length then some (.slice i o (len+n) none sz,st.write i (.cells (ad c (o+len*size) xs) e rw))
      else if o+len*size=c.length/\e=elem/\o=0 then
       some (.slice st.n 0 (len+n) none size,(st.write i .dead).alloc (.cells (c.drop o++xs) elem true))
      else none
     else none
  |_=>none
def Qc:kV->V->V->Option Bool
 |.int k,.int a x,.int b y=>if a=k/\b=k then some (x==y) else none
 |.str,.str x,.str y=>some (x==y)
 |_,_,_=>none
def fb(kd:kV)(k:V):List (V×V)->Nat->Option (Option (Nat×V))
 |[],_=>some none
 |(a,v)::es,i=>
  match Qc kd k a with
  |some true=>some (some (i,v))
  |some false=>fb kd k es (i+1)
  |none=>none
def kV.fits:kV->V->Bool
 |.int k,.int k' _=>k=k'
 |.str,.str _=>true
 |_,_=>false
def xl:List V->Option V
 |[]=>none
 |[x]=>some x
 |.int k a::.int _ b::rest=>xl (.int k (if b<a then b else a)::rest)
 |_=>none
termination_by l=>l.length
def xm:List V->Option V
 |[]=>none
 |[x]=>some x
 |.int k a::.int _ b::rest=>xm (.int k (if a<b then b else a)::rest)
 |_=>none
termination_by l=>l.length
def yl:V->List V->Option V
 |x,[]=>some x
 |.int k a,.int _ b::rest=>yl (.int k (if b<a then b else a)) rest
 |_,_=>none
def Cs:List V->Option V
 |[]=>none
 |x::xs=>yl x xs
def y_:V->List V->Option V
 |x,[]=>some x
 |.int k a,.int _ b::rest=>y_ (.int k (if a<b then b else a)) rest
 |_,_=>none
def Bp:List V->Option V
 |[]=>none
 |x::xs=>y_ x xs
def Ydl:∀(xs:List V) (x:V),yl x xs=xl (x::xs)
 |[],x=>by simp[yl,xl]
 |y::ys,x=>by
  cases x with
  |int k a=>
   cases y with
   |int k' b=>simp only[yl,xl];exact Ydl ys _
   |_=>simp[yl,xl]
  |_=>simp[yl,xl]
def Ynv(l:List V):Cs l=xl l:=by
 cases l with
 |nil=>simp[Cs,xl]
 |cons x xs=>exact Ydl xs x
def Ydn:∀(xs:List V) (x:V),y_ x xs=xm (x::xs)
 |[],x=>by simp[y_,xm]
 |y::ys,x=>by
  cases x with
  |int k a=>
   cases y with
   |int k' b=>simp only[y_,xm];exact Ydn ys _
   |_=>simp[y_,xm]
  |_=>simp[y_,xm]
def Yny(l:List V):Bp l=xm l:=by
 cases l with
 |nil=>simp[Bp,xm]
 |cons x xs=>exact Ydn xs x
def Gp(c:UInt8):List UInt8->Nat->Int
 |[],_=> -1
 |b::rest,i=>if b==c then (i:Int) else Gp c rest (i+1)
def Ct:Ext->List V->Option V
 |.gI,[.int .u64 x,.int .u64 y,.int .u64 c]=>if ¬(c=0\/c=1) then none else
   some (.aV [.int .u64 (Int.ofNat ((x.toNat+y.toNat+c.toNat)%2^64)),.int .u64 (Int.ofNat ((x.toNat+y.toNat+c.toNat)/2^64))])
 |.jB,[.int .u64 x,.int .u64 y,.int .u64 b]=>if ¬(b=0\/b=1) then none else
   some (.aV [.int .u64 (Int.ofNat ((x.toNat+2^64-y.toNat-b.toNat)%2^64)),.int .u64 (if x.toNat<y.toNat+b.toNat then 1 else 0)])
 |.bW,[.str s,.int .u8 c]=>some (.int .i64 (Gp c.toNat.toUInt8 s 0))
 |_,_=>none
abbrev cD:=V->List V->St->Option (V×St)
def Qd(op:BinOp)(t:s_)(st:St)(i j:Nat):Option (V×St):=
 match op,t,st.h.get i,st.h.get j with
 |.eql,.bX .chan,some (.chan ..),some (.chan ..)=>some (.bool (i==j),st)
 |.neq,.bX .chan,some (.chan ..),some (.chan ..)=>some (.bool (!(i==j)),st)
 |_,_,_,_=>none
abbrev eg:=cD->T V->St->Option (V×St)
def Gq(x:Src):eg:=fun _ r st=>match x.ev r with
  |some v=>some (v,st)
  |none=>none
def Eb(c:Src)(a:Src)(b:Src):eg:=fun _ r st=>match c.ev r with
  |some (.bool true)=>match a.ev r with
   |some v=>some (v,st)
   |none=>none
  |some (.bool false)=>match b.ev r with
   |some v=>some (v,st)
   |none=>none
  |_=>none
def Jk(zero:List V)(elem:TypeId):eg:=fun _ _ st=>some (.ptr st.n 0,st.alloc (.cells zero elem true))
def Gs(elem:TypeId)(x:Src):eg:=fun _ r st=>match x.ev r with
  |some v=>if v.cells.all V.one then some (.ptr st.n 0,st.alloc (.cells v.cells elem true)) else none
  |none=>none
def Cu(zero:List V)(parts:List (Nat×Nat×Src)):eg:=fun _ r st=>match Bo r parts with
  |some ps=>match Bn zero ps with
   |some l=>some (.agg l,st)
   |none=>none
  |none=>none
def Gt(elem:TypeId)(size:Nat)(len:Nat)(zero:List V)(parts:List (Nat×Nat×Src)):eg:=fun _ r st=>match Bo r parts with
  |some ps=>match Bn zero ps with
   |some l=>if l.all V.one then some (.slice st.n 0 len (some len) size,st.alloc (.cells l elem true)) else none
   |none=>none
  |none=>none
def Gu(n:Option Nat)(a:Src):eg:=fun _ r st=>match a.ev r with
  |some (.ptr i o)=>match st.row i with
   |some (c,_,_)=>match aO c o n with
    |some v=>some (v,st)
    |none=>none
   |none=>none
  |_=>none
def Ec(n:Nat)(a:Src)(x:Src):eg:=fun _ r st=>match a.ev r,x.ev r with
  |some (.ptr i o),some v=>match st.row i with
   |some (c,e,true)=>if v.cells.length=n/\o+n<=c.length/\v.cells.all V.one=true then some (.aV [],st.write i (.cells (ad c o v.cells) e true)) else none
   |_=>none
  |_,_=>none
def Gw(x:Src):eg:=fun _ r st=>match x.ev r with
  |some (.ptr i o)=>some (.ptr i o,st)
  |some (.func f a l)=>some (.func f a l,st)
  |_=>none
def Gx(op:BinOp)(t:s_)(ng:Bool)(x:Src)(y:Src):eg:=fun _ r st=>match x.ev r,y.ev r with
  |some (.chan i),some (.chan j)=>Qd op t st i j
  |some a,some b=>match V0 op t ng a b with
   |some v=>some (v,st)
   |none=>none
  |_,_=>none
def Gy(op:UnOp)(x:Src):eg:=fun _ r st=>match x.ev r with
  |some a=>match V1 op a with
   |some v=>some (v,st)
   |none=>none
  |none=>none
def Gz(k:IntKind)(x:Src):eg:=fun _ r st=>match x.ev r with
  |some (.int _ n)=>some (.int k (bl k n),st)
  |_=>none
def Jl(x:Src):eg:=fun _ r st=>match x.ev r with
  |some (.str s)=>some (.str s,st)
  |_=>none
def Ed(elem:TypeId)(x:Src):eg:=fun _ r st=>match x.ev r with
  |some (.str s)=>some (.slice st.n 0 s.length none 1,st.alloc (.cells (s.map fun b=>.int .u8 b.toNat) elem true))
  |_=>none
def GA(x:Src):eg:=fun _ r st=>match x.ev r with
  |some .aa=>some (.str [],st)
  |some (.slice i o len _ 1)=>match st.row i with
   |some (c,_,_)=>match aD c o len with
    |some l=>match l.mapM (fun v=>match v with|.int .u8 n=>some (UInt8.ofNat n.toNat)|_=>none)with
     |some s=>some (.str s,st)
     |none=>none
    |none=>none
   |none=>none
  |_=>none
def Jm(t:TypeId)(x:Src):eg:=fun _ r st=>match x.ev r with
  |some v=>some (.iface t v,st)
  |none=>none
def GB(f:FuncId)(first:List Src)(gl:List Src):eg:=fun _ r st=>match uF r first,uF r gl with
  |some a,some l=>some (.func f a l,st)
  |_,_=>none
def Jn:eg:=fun _ _ st=>some (.map st.n,st.alloc (.map []))
def Ee(bytes:Nat)(n:Src):eg:=fun _ r st=>match n.ev r with
  |some (.int _ k)=>if k<0\/k > IntKind.i64.max\/bytes*k > 2^48-112 then none else some (.chan st.n,st.alloc (.chan k.toNat []))
  |_=>none
def Cv(elem:TypeId)(size:Nat)(bytes:Nat)(zero:List V)(len:Src)(cap:Src):eg:=fun _ r st=>match len.ev r,cap.ev r with
  |some (.int _ l),some (.int _ c)=>
   if 0<=l/\l<=c/\bytes*c<=2^47/\c<2^62/\size=zero.length/\size≠0 then
    some (.slice st.n 0 l.toNat (some c.toNat) size,st.alloc (.cells (dp zero c.toNat) elem true)) else none
  |_,_=>none
def za(x:Src)(lo:Option Src)(hi:Option Src):eg:=fun _ r st=>match x.ev r,aC r lo,aC r hi with
  |some (.str s),some lo,some hi=>
   match dv hi s.length s.length with
   |some h=>match dv lo h 0 with
    |some l=>some (.str ((s.take h).drop l),st)
    |none=>none
   |none=>none
  |_,_,_=>none
def qe(size:Nat)(x:Src)(lo:Option Src)(hi:Option Src)(mx:Option Src):eg:=fun _ r st=>match x.ev r,aC r lo,aC r hi,aC r mx with
  |some .aa,some lo,some hi,some mx=>
   match dv mx 0 0 with
   |some _=>match dv hi 0 0 with
    |some _=>match dv lo 0 0 with
     |some _=>if mx.isSome&&hi.isNone then none else some (.aa,st)
     |none=>none
    |none=>none
   |none=>none
  |some .empty,some lo,some hi,some none=>
   match dv hi 0 0 with
   |some _=>match dv lo 0 0 with
    |some _=>some (.empty,st)
    |none=>none
   |none=>none
  |some (.slice i o len (some c) sz),some lo,some hi,some mx=>
   if sz≠size\/(mx.isSome&&hi.isNone) then none else
   match dv mx c c with
   |some m=>match dv hi m len with
    |some h=>match dv lo h 0 with
     |some l=>some (.slice i (if m=l then o else o+l*size) (h-l) (some (m-l)) sz,st)
     |none=>none
    |none=>none
   |none=>none
  |some (.slice i o len none sz),some lo,some hi,some mx=>
   if sz≠size\/size=0\/(mx.isSome&&hi.isNone) then none else
   match st.row i with
   |some (c,_,_)=>
    let k:=max len ((c.length-o)/size)
    match mx with
    |some m=>match k_ m k with
     |some m=>match dv hi m len with
      |some h=>match dv lo h 0 with
       |some l=>some (.slice i (if m=l then o else o+l*size) (h-l) (some (m-l)) sz,st)
       |none=>none
      |none=>none
     |none=>none
    |none=>match dv hi k len with
     |some h=>match dv lo h 0 with
      |some l=>if l<k then some (.slice i (o+l*size) (h-l) none sz,st) else some (.empty,st)
      |none=>none
     |none=>none
   |none=>none
  |_,_,_,_=>none
def z_(n:Nat)(size:Nat)(x:Src)(lo:Option Src)(hi:Option Src)(mx:Option Src):eg:=fun _ r st=>match x.ev r,aC r lo,aC r hi,aC r mx with
  |some (.ptr i o),some lo,some hi,some none=>
   match dv hi n n with
   |some h=>match dv lo h 0 with
    |some l=>match st.row i with
     |some (c,_,_)=>if o+n*size<=c.length/\mx.isNone then some (.slice i (if n=l then o else o+l*size) (h-l) (some (n-l)) size,st) else none
     |none=>none
    |none=>none
   |none=>none
  |_,_,_,_=>none
def GC(off:Nat)(x:Src):eg:=fun _ r st=>match x.ev r with
  |some (.ptr i o)=>some (.ptr i (o+off),st)
  |_=>none
def GD(off:Nat)(n:Option Nat)(x:Src):eg:=fun _ r st=>match x.ev r with
  |some (.agg cs)=>match aO cs off n with
   |some v=>some (v,st)
   |none=>none
  |_=>none
def Cw(len:Nat)(size:Nat)(x:Src)(i:Src):eg:=fun _ r st=>match x.ev r,i.ev r with
  |some (.ptr a o),some (.int _ k)=>if 0<=k/\k<(len:Int) then some (.ptr a (o+k.toNat*size),st) else none
  |_,_=>none
def Ef(size:Nat)(x:Src)(i:Src):eg:=fun _ r st=>match x.ev r,i.ev r with
  |some (.slice a o len _ _),some (.int _ k)=>if 0<=k/\k<(len:Int) then some (.ptr a (o+k.toNat*size),st) else none
  |_,_=>none
def Jo(len:Nat)(size:Nat)(n:Option Nat)(x:Src)(i:Src):eg:=fun _ r st=>match x.ev r,i.ev r with
  |some (.agg cs),some (.int _ k)=>if 0<=k/\k<(len:Int) then match aO cs (k.toNat*size) n with
    |some v=>some (v,st)
    |none=>none
   else none
  |_,_=>none
def Eg(x:Src)(i:Src):eg:=fun _ r st=>match x.ev r,i.ev r with
  |some (.str s),some (.int _ k)=>if 0<=k then match s[k.toNat]? with
    |some b=>some (.int .u8 b.toNat,st)
    |none=>none
   else none
  |_,_=>none
def GF(kd:kV)(zero:V)(m:Src)(k:Src)(ok:Bool):eg:=fun _ r st=>match m.ev r,k.ev r with
  |some m,some k=>
   if kd.fits k then
    match (match m with
     |.bN=>some []
     |.map i=>match st.h.get i with
      |some (.map es)=>some es
      |_=>none
     |_=>none)with
    |some es=>match fb kd k es 0 with
     |some (some (_,v))=>some (if ok then .aV [v,.bool true] else v,st)
     |some none=>some (if ok then .aV [zero,.bool false] else zero,st)
     |none=>none
    |none=>none
   else none
  |_,_=>none
def Eh(kd:kV)(m:Src)(k:Src)(v:Src):eg:=fun _ r st=>match m.ev r,k.ev r,v.ev r with
  |some (.map i),some k,some v=>
   if kd.fits k then
    match st.h.get i with
    |some (.map es)=>match fb kd k es 0 with
     |some (some (j,_))=>some (.aV [],st.write i (.map (es.set j (k,v))))
     |some none=>some (.aV [],st.write i (.map (es++[(k,v)])))
     |none=>none
    |_=>none
   else none
  |_,_,_=>none
def Zsv(kd:kV)(zero:V)(m:Src)(k:Src):eg:=fun _ r st=>match m.ev r,k.ev r with
  |some (.map i),some k=>
   if kd.fits k then
    match st.h.get i with
    |some (.map es)=>match fb kd k es 0 with
     |some (some (j,v))=>some (.aV [v,.int .i64 j],st.write i (.map (es.set j (k,v))))
     |some none=>some (.aV [zero,.int .i64 es.length],st.write i (.map (es++[(k,zero)])))
     |none=>none
    |_=>none
   else none
  |_,_=>none
def V3(m:Src)(s:Src)(v:Src):eg:=fun _ r st=>match m.ev r,s.ev r,v.ev r with
  |some (.map i),some (.int _ j),some v=>
   match st.h.get i with
   |some (.map es)=>if 0<=j then match es[j.toNat]? with
     |some (k,_)=>some (.aV [],st.write i (.map (es.set j.toNat (k,v))))
     |none=>none
    else none
   |_=>none
  |_,_,_=>none
def GG(x:Src):eg:=fun _ r st=>match x.ev r with
  |some (.str s)=>some (.ptr st.n 0,st.alloc (.eC s 0))
  |_=>none
def GH(it:Src):eg:=fun _ r st=>match it.ev r with
  |some (.ptr i 0)=>match st.h.get i with
   |some (.eC s pos)=>
    if pos<s.length then
     let cw:=Utf8.decode ⟨s.toArray⟩ pos
     some (.aV [.bool true,.int .i64 pos,.int .i32 cw.1],st.write i (.eC s (pos+cw.2)))
    else some (.aV [.bool false],st)
   |_=>none
  |_=>none
def GI(x:Src)(i:Nat):eg:=fun _ r st=>match x.ev r with
  |some (.aV vs)=>match vs[i]? with
   |some v=>some (v,st)
   |none=>none
  |_=>none
def ym(k:Nat)(x:Src):eg:=fun _ r st=>match k,x.ev r with
  |0,some (.str s)=>some (.int .i64 s.length,st)
  |1,some .aa=>some (.int .i64 0,st)
  |1,some .empty=>some (.int .i64 0,st)
  |1,some (.slice _ _ n _ _)=>some (.int .i64 n,st)
  |2,some .bN=>some (.int .i64 0,st)
  |2,some (.map i)=>match st.h.get i with
   |some (.map es)=>some (.int .i64 es.length,st)
   |_=>none
  |_,_=>none
def K6(n:Nat):eg:=fun _ _ st=>some (.int .i64 n,st)
def Jp(x:Src):eg:=fun _ r st=>match x.ev r with
  |some .aa=>some (.int .i64 0,st)
  |some (.slice _ _ _ (some c) _)=>some (.int .i64 c,st)
  |_=>none
def zb(args:List Src):eg:=fun _ r st=>match uF r args with
  |some l=>match Cs l with
   |some v=>some (v,st)
   |none=>none
  |none=>none
def rb(args:List Src):eg:=fun _ r st=>match uF r args with
  |some l=>match Bp l with
   |some v=>some (v,st)
   |none=>none
  |none=>none
def Cy(size:Nat)(bytes:Nat)(elem:TypeId)(_:List V)(s:Src)(x:Src):eg:=fun _ r st=>match s.ev r,x.ev r with
  |some s,some x=>gJ st size bytes elem s x
  |_,_=>none
def Cz(size:Nat)(d:Src)(s:Src):eg:=fun _ r st=>match d.ev r,s.ev r with
  |some d,some s=>match eA st size s with
   |some (n,xs)=>match d with
    |.aa=>some (.int .i64 0,st)
    |.slice i o len _ sz=>
     if sz≠size\/size=0 then none else
     let k:=min n len
     if k=0 then some (.int .i64 0,st) else
     match st.row i with
     |some (c,e,true)=>if o+k*size<=c.length then some (.int .i64 k,st.write i (.cells (ad c o (xs.take (k*size))) e true)) else none
     |_=>none
    |_=>none
   |none=>none
  |_,_=>none
def Jq(size:Nat)(zero:List V)(s:Src):eg:=fun _ r st=>match s.ev r with
  |some .aa=>some (.aV [],st)
  |some .empty=>some (.aV [],st)
  |some (.slice i o len _ sz)=>
   if len=0 then some (.aV [],st) else
   if sz≠size\/size=0\/zero.length≠size then none else
   match st.row i with
   |some (c,e,true)=>if o+len*size<=c.length then some (.aV [],st.write i (.cells (ad c o (dp zero len)) e true)) else none
   |_=>none
  |_=>none
def zc(f:Src)(args:List Src):eg:=fun call r st=>match f.ev r,uF r args with
  |some f,some l=>call f l st
  |_,_=>none
def GJ(e:Ext)(args:List Src):eg:=fun _ r st=>match e,uF r args with
  |.same,some [v]=>some (v,st)
  |e,some l=>match Ct e l with
   |some v=>some (v,st)
   |none=>none
  |_,none=>none
def CA(e:Option (TypeId×Nat))(x:Src):eg:=fun _ r st=>match x.ev r with
  |some (.ptr i 0)=>match st.row i with
   |some (c,e',true)=>match e with
    |none=>if 0<c.length then some (.ptr i 0,st) else none
    |some (u,z)=>if e'=u/\0<z/\z<=c.length then some (.ptr i 0,st) else none
   |_=>none
  |_=>none
def Jr(x:Src):eg:=fun _ r st=>match x.ev r with
  |some (.slice i o len _ _)=>if 0<len then some (.ptr i o,st) else none
  |_=>none
def Qe:V->Option UInt8
 |.int .u8 n=>if 0<=n/\n<256 then some n.toNat.toUInt8 else none
 |_=>none
def GK:List V->Option (List UInt8)
 |[]=>some []
 |v::l=>match Qe v,GK l with
  |some b,some s=>some (b::s)
  |_,_=>none
def Js(e:TypeId)(x n:Src):eg:=fun _ r st=>match x.ev r,n.ev r with
  |some (.ptr i 0),some (.int .i64 k)=>if 0<k/\k<=9223372036854775807 then
    match st.row i with
    |some (c,e',true)=>if e'=e then
      match aD c 0 k.toNat with
      |some Aa=>match GK Aa with
       |some s=>some (.str s,st.write i (.cells c e' false))
       |none=>none
      |none=>none
     else none
    |_=>none
   else none
  |_,_=>none
def V4:eg:=fun _ _ _=>none
def cj(op:gk):eg:=gk.casesOn op Gq Eb Jk Gs Cu Gt Gu Ec Gw Gx Gy Gz Jl Ed GA Jm GB Jn Ee Cv za qe z_ GC GD Cw Ef Jo Eg GF Eh Zsv V3 GG GH GI ym K6 Jp zb rb Cy Cz Jq zc GJ CA Jr Js V4
def Fr.put(fr:Fr)(d:Option Nat)(v:V):Option Fr:=
 match d with
 |some d=>if d<fr.n then some {fr with r:=fr.r.set d v} else none
 |none=>some fr
def bR(r:T V):Option (Nat×Bool)->Option Bool
 |none=>some true
 |some (t,want)=>match r.get t with
  |some (.bool b)=>some (b==want)
  |some (.aV _)=>some false
  |_=>none
def Bq(call:cD)(o:dq)(next:Fr->St->Option (Fr×St))(fr:Fr)(st:St):Option (Fr×St):=
 match bR fr.r o.guard with
 |some true=>match cj o.op call fr.r st with
  |some (v,az)=>match fr.put o.dst v with
   |some bE=>next bE az
   |none=>none
  |none=>none
 |some false=>match fr.put o.dst (.aV [])with
  |some bE=>next bE st
  |none=>none
 |none=>none
def Ykt(fr:Fr)(st:St):Option (Fr×St):=some (fr,st)
def dw(call:cD):List dq->Fr->St->Option (Fr×St)
 |[]=>Ykt
 |o::rest=>Bq call o (dw call rest)
structure FP where
 rd:Option (List Nat)
 wr:List Nat
 lo:Nat
 hi:Nat
def gk.oz:gk->Bool
 |.km _|.pick ..|.alloc ..|.box ..|.build ..|.fG ..|.oh _|.un ..|.cP ..|.q_ _|.jG ..|.iz ..|.ot ..|.xe|.vz ..
 |.jH ..|.cg ..|.ja ..|.field ..|.gY ..|.e_ ..|.vA ..|.bI ..|.jJ _|.extract ..|.vC _|.cap _|.mn _|.mx _|.ext ..=>true
 |.bin .add ..|.bin .sub ..|.bin .mul ..|.bin .quo ..|.bin .rem ..|.bin .lss ..|.bin .leq ..|.bin .gtr ..|.bin .geq ..|.bin .shl ..|.bin .shr ..|.bin .and ..|.bin .or ..|.bin .xor ..|.bin .andNot ..=>true
 |_=>false
def Qf(r:T V):gk->Option Nat
 |.load _ a=>match a.ev r with
  |some (.ptr i _)=>some i
  |_=>none
 |.store _ a _=>match a.ev r with
  |some (.ptr i _)=>some i
  |_=>none
 |_=>none
def po(r:T V)(op:gk)(ws:List Nat)(lo hi:Nat):FP:=
 if op.oz then ⟨some [],[],lo,hi⟩ else
 match Qf r op with
 |some i=>if Nat.blt i lo then ⟨some [i],ws,lo,hi⟩ else ⟨none,ws,lo,hi⟩
 |none=>⟨none,ws,lo,hi⟩
def vD(i:Nat)(l:List Nat):List Nat:=if l.contains i then l else i::l
def av(n:Nat):List Nat->List Nat
 |[]=>[]
 |i::l=>if i<n then vD i (av n l) else av n l
def Br(call:cD)(o:dq)(next:Fr->St->Option (List FP×Fr×St))(fr:Fr)(st:St):Option (List FP×Fr×St):=
 match bR fr.r o.guard with
 |some true=>match cj o.op call fr.r {st with w:=[]} with
  |some (v,az)=>match fr.put o.dst v with
   |some bE=>match next bE {az with w:=av st.n az.w++st.w} with
    |some (h_,fr'',st'')=>some (po fr.r o.op (av st.n az.w) st.n az.n::h_,fr'',st'')
    |none=>none
   |none=>none
  |none=>none
 |some false=>match fr.put o.dst (.aV [])with
  |some bE=>match next bE st with
   |some (h_,fr'',st'')=>some (⟨some [],[],st.n,st.n⟩::h_,fr'',st'')
   |none=>none
  |none=>none
 |none=>none
def Ycu(fr:Fr)(st:St):Option (List FP×Fr×St):=some ([],fr,st)
def bJ(call:cD):List dq->Fr->St->Option (List FP×Fr×St)
 |[]=>Ycu
 |o::rest=>Br call o (bJ call rest)
def CB(a:List Nat):Option (List Nat)->Bool
 |none=>!a.isEmpty
 |some b=>a.any fun i=>b.contains i
def FP.free(a b:FP):Bool:=!(CB a.wr b.rd||CB a.wr (some b.wr)||CB b.wr a.rd||b.wr.any fun i=>Nat.ble a.lo i&&Nat.blt i a.hi)
def ct{α:Type}(p:α->α->Bool)(xs:List α)(qd:List Nat):Bool:=
 go xs qd 0 []
where
 go:List α->List Nat->Nat->List α->Bool
  |[],_,_,_=>true
  |f::fs,ms,j,seen=>
   (cv f (ms.headD 0) (j-1) seen)&&go fs ms.tail (j+1) (f::seen)
 cv (f:α) (m:Nat):Nat->List α->Bool
  |_,[]=>true
  |i,g::gs=>(m.testBit i||p g f)&&cv f m (i-1) gs
def jK(h_:List FP)(qd:List Nat):Bool:=ct FP.free h_ qd
def Src.tmps:Src->List Nat
 |.tmp t=>[t]
 |.const _=>[]
def Bt:Option Src->List Src
 |none=>[]
 |some s=>[s]
def gk.CC:gk->List Src
 |.km x=>[x]
 |.pick c a b=>[c,a,b]
 |.alloc ..=>[]
 |.box _ x=>[x]
 |.build _ ps=>ps.map (·.2.2)
 |.fG _ _ _ _ ps=>ps.map (·.2.2)
 |.load _ a=>[a]
 |.store _ a x=>[a,x]
 |.oh x=>[x]
 |.bin _ _ _ x y=>[x,y]
 |.un _ x=>[x]
 |.cP _ x=>[x]
 |.q_ x=>[x]
 |.jG _ x=>[x]
 |.oo x=>[x]
 |.iz _ x=>[x]
 |.ot _ a c=>a++c
 |.xe=>[]
 |.vz _ n=>[n]
 |.jH _ _ _ _ l c=>[l,c]
 |.cg x lo hi=>x::(Bt lo++Bt hi)
 |.mQ _ x lo hi m=>x::(Bt lo++Bt hi++Bt m)
 |.jI _ _ x lo hi m=>x::(Bt lo++Bt hi++Bt m)
 |.ja _ x=>[x]
 |.field _ _ x=>[x]
 |.gY _ _ x i=>[x,i]
 |.e_ _ x i=>[x,i]
 |.vA _ _ _ x i=>[x,i]
 |.bI x i=>[x,i]
 |.lookup _ _ m k _=>[m,k]
 |.vk _ m k v=>[m,k,v]
 |.Gm _ _ m k=>[m,k]
 |.Gn m s v=>[m,s,v]
 |.jJ x=>[x]
 |.qV x=>[x]
 |.extract x _=>[x]
 |.len _ x=>[x]
 |.vC _=>[]
 |.cap x=>[x]
 |.mn l=>l
 |.mx l=>l
 |.append _ _ _ _ s x=>[s,x]
 |.copy _ d s=>[d,s]
 |.clear _ _ s=>[s]
 |.call f l=>f::l
 |.ext _ l=>l
 |.Ja _ x=>[x]
 |.zQ x=>[x]
 |.Gb _ x n=>[x,n]
 |.stop=>[]
def dq.reads(o:dq):List Nat:=
 (match o.guard with|some (t,_)=>[t]|none=>[])++o.op.CC.flatMap Src.tmps
def K7(d:Option Nat)(l:List Nat):Bool:=
 match d with
 |some t=>l.contains t
 |none=>false
def P2(a b:dq):Bool:=!(K7 a.dst b.reads||K7 b.dst a.reads||K7 a.dst b.dst.toList)
def V5(st:St)(i:Nat)(send:Option V)(zero:V):Option (V×St):=
 match st.h.get i,send with
 |some (.chan cap buf),some v=>if buf.length<cap then some (.aV [.int .i64 0,.bool false],st.write i (.chan cap (buf++[v]))) else some (.aV [.int .i64 (-1),.bool false],st)
 |some (.chan cap (v::buf)),none=>some (.aV [.int .i64 0,.bool true,v],st.write i (.chan cap buf))
 |some (.chan _ []),none=>some (.aV [.int .i64 (-1),.bool false,zero],st)
 |_,_=>none
abbrev qf:=Option Nat->bO->Fr->St->Option (Ex×Fr×St)
abbrev xn:=cD->qf->Option Nat->Fr->St->Option (Ex×Fr×St)
def V6:xn:=fun _ _ _ fr st=>some (.normal,fr,st)
def Ab(ops:List dq):xn:=fun call _ _ fr st=>match dw call ops fr st with
 |some (bE,az)=>some (.normal,bE,az)
 |none=>none
def Ac(ops:List dq)(qd:List Nat):xn:=fun call _ _ fr st=>match bJ call ops fr st with
 |some (h_,bE,az)=>match jK h_ qd with
  |true=>some (.normal,bE,az)
  |false=>none
 |none=>none
def Bu(dst:Option Nat)(ch:Src)(send:Option Src)(zero:V)(ops:List dq):xn:=fun call _ _ fr st=>
 match ch.ev fr.r,aC fr.r send with
 |some (.chan i),some sv=>match V5 st i sv zero with
  |some (v,bS)=>match fr.put dst v with
   |some dT=>match dw call ops dT bS with
    |some (bE,az)=>some (.normal,bE,az)
    |none=>none
   |none=>none
  |none=>none
 |_,_=>none
def Bv(a b:bO):xn:=fun _ rec ro fr st=>match rec ro a fr st with
 |some (.normal,bE,az)=>rec ro b bE az
 |x=>x
def yn(x:Src)(a b:bO):xn:=fun _ rec ro fr st=>match x.ev fr.r with
 |some (.bool true)=>rec ro a fr st
 |some (.bool false)=>rec ro b fr st
 |_=>none
def Bw(id:Nat)(c:bO):xn:=fun _ rec ro fr st=>match rec ro c fr st with
 |some (.exit Bx,bE,az)=>match Nat.beq Bx id with
  |true=>some (.normal,bE,az)
  |false=>some (.exit Bx,bE,az)
 |x=>x
def By(c:bO):xn:=fun _ rec ro fr st=>match rec ro c fr st with
 |some (.normal,bE,az)=>rec ro (.loop c) bE az
 |x=>x
def Qg(st:St):Option Nat->Option (St×Nat×List Nat)
 |none=>some (st.alloc (.defs true),st.n,[st.n])
 |some l=>match st.h.get l with
  |some (.loop R)=>some (st,R.defs,[])
  |_=>none
def V.GL:V->Bool
 |.yield _=>true
 |_=>false
def Ad(g:Src)(ps:List Nat)(assign body:bO):xn:=fun call _ ro fr st=>
 match g.ev fr.r with
 |none=>none
 |some gv=>
  if gv.GL then none else
  match Qg st ro with
  |none=>none
  |some (bS,d,mk)=>
   match call gv [.yield bS.n] (bS.alloc (.loop {st:=.ready,eW:=none,r:=fr.r,n:=fr.n,ps:=ps,assign:=assign,body:=body,defs:=d}))with
   |none=>none
   |some (_,eI)=>
    match eI.h.get bS.n with
    |some (.loop R)=>
     if R.st=.busy then none else
     some (match R.eW with|none=>.normal|some e=>e,{fr with marks:=mk++fr.marks},eI.write bS.n (.loop {R with st:=.exhausted}))
    |_=>none
def Ylh(id:Nat):xn:=fun _ _ _ fr st=>some (.exit id,fr,st)
def Yfm(c:bO):xn:=fun _ rec ro fr st=>rec ro c fr st
def Ysl:xn:=fun _ _ _ fr st=>some (.ret,fr,st)
def Jt:xn:=fun _ _ _ _ _=>none
def mR(c:bO):xn:=bO.casesOn c V6 Ab Ac Bu Bv yn Bw By Ad Ylh Yfm Ysl Jt
def Qh:qf:=fun _ _ _ _=>none
def dK(call:cD):Nat->qf
 |0=>Qh
 |f+1=>fun ro c=>mR c call (dK call f) ro
def zd(r:T V)(i:Nat):List V->T V
 |[]=>r
 |v::vs=>zd (r.set i v) (i+1) vs
def B2(r:T V)(n:Nat):List Nat->List V->Option (T V)
 |[],[]=>some r
 |p::ps,v::vs=>if p<n then B2 (r.set p v) n ps vs else none
 |_,_=>none
def fz(r:T V)(st:St):List DX->Option (List V)
 |[]=>some []
 |.tmp t::rest=>match r.get t,fz r st rest with
  |some v,some vs=>some (v::vs)
  |_,_=>none
 |.cell t n::rest=>match r.get t,fz r st rest with
  |some (.ptr i o),some vs=>match st.row i with
   |some (c,_,_)=>match aO c o n with
    |some v=>some (v::vs)
    |none=>none
   |none=>none
  |_,_=>none
def shut(st:St):List Nat->Option St
 |[]=>some st
 |d::ds=>match st.h.get d with
  |some (.defs true)=>shut (st.write d (.defs false)) ds
  |_=>none
def Ju:Option Ex->LoopState
 |none=>.ready
 |some _=>.done
def re:Ex->Option Ex
 |.normal=>none
 |e=>some e
def Ei:List V->V
 |[v]=>v
 |vs=>.aV vs
def V7(mf:lF)(st:St):Option (Ex×Fr×St)->Option (V×St)
 |some (.exit _,_,_)=>none
 |some (_,fr,bS)=>match shut bS fr.marks with
  |none=>none
  |some eI=>match fz fr.r eI mf.results with
   |some vs=>some (Ei vs,{eI with w:=av st.n eI.w++st.w})
   |none=>none
 |none=>none
def Ca(mf:lF)(code:qf)(args:List V)(st:St):Option (V×St):=
 if mf.ntmps<args.length then none else
 V7 mf st (code none mf.body {r:=zd .nil 0 args,n:=mf.ntmps,marks:=[]} {st with w:=[]})
def CD(code:qf)(l:Nat)(args:List V)(st:St):Option (V×St):=
 match st.h.get l with
 |some (.loop R)=>match B2 R.r R.n R.ps args with
  |none=>none
  |some r0=>match code (some l) R.assign {r:=r0,n:=R.n,marks:=[]} st with
   |some (.normal,dT,bS)=>match bS.h.get l with
    |some (.loop R1)=>
     if R1.st=.ready then
      match code (some l) R.body dT (bS.write l (.loop {R1 with st:=.busy}))with
      |some (e,_,eI)=>match eI.h.get l with
       |some (.loop R2)=>some (.bool (re e).isNone,eI.write l (.loop {R2 with st:=Ju (re e),eW:=re e}))
       |_=>none
      |none=>none
     else none
    |_=>none
   |_=>none
 |_=>none
def yb(dE:Nat->Option lF)(code:qf):cD
 |.func f first gl,args,st=>match dE f with
  |some mf=>Ca mf code (first++args++gl) st
  |none=>none
 |.yield l,args,st=>CD code l args st
 |_,_,_=>none
def V8:cD:=fun _ _ _=>none
end Go.Mx
