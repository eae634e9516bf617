/-
  The abstract machine M: values, heaps by ids, resolved code, and its deterministic run. No theorem on the Go model stands here.
-/
import Derived.RangeFuncLeaves
import Derived.OrdersIn
import Derived.RangeFuncRecord
set_option linter.all false
namespace Go.Mx
abbrev kl:=@Nat.mul_le_mul_right
abbrev iX:=@List.getElem?_map
abbrev iW:=@List.ext_getElem?
abbrev od:=@List.getElem?_append_right
abbrev mi:=@List.drop_eq_nil_of_le
abbrev fJ:=@Nat.pow_succ
abbrev mq:=@Nat.div_lt_iff_lt_mul
abbrev mr:=@List.mem_cons_of_mem
abbrev gX:=@Nat.mul_comm
abbrev mS:=@List.mem_cons_self
abbrev ai:=@Option.some.injEq
abbrev ar:=@if_neg
abbrev aV:=@Nat.le_refl
abbrev bq:=@List.length_cons
abbrev cm:=@List.mem_of_getElem?
abbrev bo:=@Prod.mk.injEq
abbrev cW:=@List.getElem?_eq_getElem
abbrev aF:=@if_pos
abbrev dr:=@List.getElem?_set_ne
abbrev dN:=@Int.natAbs_natCast
abbrev eG:=@List.getElem?_eq_none
abbrev dZ:=@Nat.lt_of_lt_of_le
abbrev fy:=@List.getElem?_set_self
abbrev fN:=@List.take_of_length_le
abbrev eL:=@Bool.false_eq_true
abbrev fe:=@List.getElem?_drop
abbrev iA:=@Option.map_eq_some_iff
abbrev fK:=@List.length_append
abbrev jO:=@List.getElem?_append_left
abbrev gU:=@List.getElem?_take
abbrev nh:=@Int.mul_le_mul_of_nonneg_left
abbrev fL:=@List.cons.injEq
abbrev nU:=@List.eq_nil_of_length_eq_zero
abbrev jc:=@Nat.mul_le_mul_left
abbrev gK:=@List.length_take
abbrev iB:=@Bool.and_eq_true
abbrev uI:=@Array.getElem?_toList
abbrev uJ:=@List.length_singleton
abbrev wM:=@List.getElem?_cons_zero
abbrev qj:=@Nat.div_le_self
abbrev uC:=@List.mem_of_mem_take
abbrev sJ:=@List.append_nil
abbrev wN:=@List.take_append_drop
abbrev q_:=@List.length_set
abbrev uj:=@List.map_congr_left
abbrev sK:=@Nat.mod_eq_of_lt
abbrev oE:=@Nat.pow_le_pow_right
abbrev lM:=@List.all_eq_true
abbrev lP:=@List.drop_length
abbrev nV:=@Nat.lt_of_le_of_lt
abbrev jU:=@List.map_cons
abbrev jk:=@List.mem_map
abbrev jN:=@List.mem_cons
abbrev nT:=@List.append_assoc
abbrev tn:=@List.getElem?_eq_some_iff
abbrev mw:=@Nat.min_eq_left
abbrev jR:=@Nat.add_zero
abbrev jr:=@Nat.pow_add
abbrev jG:=@Nat.add_mul
abbrev sL:=@Nat.le_of_ble_eq_true
abbrev og:=@Option.getD_some
abbrev oF:=@Nat.lt_of_not_le
abbrev jd:=@Nat.mod_lt
abbrev pq:=@Option.some.inj
abbrev wO:=@Int.tdiv_eq_ediv_of_nonneg
abbrev oG:=@Nat.two_pow_pos
abbrev lS:=@Nat.le_trans
abbrev nj:=@Nat.add_assoc
abbrev qk:=@Nat.lt_succ_self
abbrev pw:=@List.mem_append
abbrev pG:=@Nat.div_add_mod
abbrev zA:=@Int.mul_le_mul_of_nonneg_right
abbrev DO:=@Option.ite_none_left_eq_some
abbrev zB:=@Int.mul_ediv_add_emod
abbrev tu:=@List.drop_zero
abbrev Bj:=@Nat.div_div_eq_div_mul
abbrev xX:=@Nat.lt_of_succ_le
abbrev wE:=@Option.map_some
abbrev xY:=@Nat.le_max_right
abbrev xZ:=@List.cons_append
abbrev zC:=@Int.emod_lt_of_pos
abbrev x9:=@Nat.mul_lt_mul''
abbrev zD:=@Int.tmod_eq_emod_of_nonneg
abbrev zl:=@List.mem_or_eq_of_mem_set
abbrev uf:=@List.mem_singleton
abbrev rn:=@Int.mul_nonneg
abbrev q8:=@Int.natAbs_mul
abbrev si:=@List.length_map
abbrev tr:=@List.length_drop
abbrev tA:=@Nat.le_of_not_lt
abbrev pH:=@Int.le_of_lt
abbrev Bk:=@Array.getD_eq_getD_getElem?
abbrev oH:=@Nat.mul_add
abbrev DM:=@Array.getElem?_setIfInBounds_ne
abbrev zE:=@List.getElem?_cons_succ
abbrev zG:=@Int.eq_ofNat_of_zero_le
abbrev sq:=@Int.natAbs_neg
abbrev sM:=@Nat.mul_le_mul
abbrev xP:=@List.getElem?_of_mem
abbrev ql:=@List.map_nil
abbrev qm:=@Nat.zero_add
abbrev wP:=@Rat.num_divInt_den
abbrev pC:=@Nat.zero_le
abbrev uK:=@Nat.div_eq_of_lt
abbrev uv:=@List.take_length
abbrev Bl:=@List.drop_eq_getElem_cons
abbrev wA:=@List.take_add_one
abbrev oo:=@Nat.not_lt
abbrev JE:=@Nat.gcd_pos_of_pos_right
abbrev FK:=@List.getElem?_range
abbrev DP:=@Int.natCast_mul
abbrev DQ:=@Int.mul_ne_zero
abbrev JF:=@Nat.eq_of_beq_eq_true
abbrev JG:=@List.contains_iff_mem
abbrev JH:=@Nat.ble_eq_true_of_le
abbrev JI:=@List.singleton_append
abbrev JJ:=@Nat.mul_div_mul_right
abbrev sN:=@Nat.le_succ
abbrev wm:=@List.mem_range
abbrev x_:=@Nat.le_max_left
abbrev ya:=@Nat.div_lt_self
abbrev FL:=@Nat.mul_lt_mul_of_pos_right
abbrev Bm:=@Nat.pow_le_pow_left
abbrev tk:=@Nat.mul_one
abbrev zH:=@Int.le_of_not_gt
abbrev Bn:=@Nat.eq_zero_or_pos
abbrev DR:=@Nat.le_div_iff_mul_le
abbrev uL:=@Nat.pow_pos
abbrev zJ:=@Int.emod_nonneg
abbrev Bo:=@Bool.not_eq_true'
abbrev Bp:=@List.map_toArray
abbrev Jq:=@List.dropLast_concat_getLast
abbrev uM:=@Array.ext'
abbrev wQ:=@Nat.mul_pos
abbrev DS:=@List.mem_replicate
abbrev Bq:=@Bool.or_eq_true
abbrev FM:=@Nat.mul_mod_mul_right
abbrev zK:=@Nat.mul_assoc
abbrev FN:=@Int.ofNat_eq_natCast
abbrev Br:=@Bool.false_and
abbrev N6:=@Array.all_eq_true_iff_forall_mem
abbrev DT:=@Int.lt_of_not_ge
abbrev zL:=@Nat.pow_zero
inductive T (α:Type) where
 |nil
 |node (l:T α) (v:Option α) (r:T α)
def T.get{α:Type}:T α->Nat->Option α
 |.nil,_=>none
 |.node l v r,n=>
  match n with
  |0=>v
  |k+1=>match k%2 with
   |0=>l.get (k/2)
   |_=>r.get (k/2)
def T.eI{α:Type}:Nat->T α->Nat->α->T α
 |0,t,_,_=>t
 |f+1,.nil,n,a=>
  match n with
  |0=>.node .nil (some a) .nil
  |k+1=>match k%2 with
   |0=>.node (T.eI f .nil (k/2) a) none .nil
   |_=>.node .nil none (T.eI f .nil (k/2) a)
 |f+1,.node l v r,n,a=>
  match n with
  |0=>.node l (some a) r
  |k+1=>match k%2 with
   |0=>.node (T.eI f l (k/2) a) v r
   |_=>.node l v (T.eI f r (k/2) a)
def T.set{α:Type}(t:T α)(n:Nat)(a:α):T α:=T.eI (n+1) t n a
theorem T.uN{α:Type}(a:α):∀(f:Nat) (t:T α) (n m:Nat),n<f->(T.eI f t n a).get m=if m=n then some a else t.get m:=by
 intro f
 induction f with
 |zero=>intro t n m h;omega
 |succ f ih=>
  intro t n m h
  cases t with
  |nil=>
   cases n with
   |zero=>
    cases m with
    |zero=>simp[T.eI,T.get]
    |succ j=>simp only[T.eI,T.get];split<;>simp
   |succ k=>
    have hk:k/2<f:=by omega
    have h2:k%2=0\/k%2=1:=by omega
    rcases h2 with h2|h2
    ·cases m with
     |zero=>simp[T.eI,T.get,h2]
     |succ j=>
      have hj:j%2=0\/j%2=1:=by omega
      rcases hj with hj|hj
      ·simp only[T.eI,T.get,h2,hj,ih _ _ _ hk]
       by_cases e:j/2=k/2
       ·have:j=k:=by omega
        simp[this]
       ·have:¬j=k:=by intro e2;exact e (by rw[e2])
        simp[e,this]
      ·have:¬j=k:=by omega
       simp[T.eI,T.get,h2,hj,this]
    ·cases m with
     |zero=>simp[T.eI,T.get,h2]
     |succ j=>
      have hj:j%2=0\/j%2=1:=by omega
      rcases hj with hj|hj
      ·have:¬j=k:=by omega
       simp[T.eI,T.get,h2,hj,this]
      ·simp only[T.eI,T.get,h2,hj,ih _ _ _ hk]
       by_cases e:j/2=k/2
       ·have:j=k:=by omega
        simp[this]
       ·have:¬j=k:=by intro e2;exact e (by rw[e2])
        simp[e,this]
  |node l v r=>
   cases n with
   |zero=>cases m<;>simp[T.eI,T.get]
   |succ k=>
    have hk:k/2<f:=by omega
    have h2:k%2=0\/k%2=1:=by omega
    rcases h2 with h2|h2
    ·cases m with
     |zero=>simp[T.eI,T.get,h2]
     |succ j=>
      have hj:j%2=0\/j%2=1:=by omega
      rcases hj with hj|hj
      ·simp only[T.eI,T.get,h2,hj,ih _ _ _ hk]
       by_cases e:j/2=k/2
       ·have:j=k:=by omega
        simp[this]
       ·have:¬j=k:=by intro e2;exact e (by rw[e2])
        simp[e,this]
      ·have:¬j=k:=by omega
       simp[T.eI,T.get,h2,hj,this]
    ·cases m with
     |zero=>simp[T.eI,T.get,h2]
     |succ j=>
      have hj:j%2=0\/j%2=1:=by omega
      rcases hj with hj|hj
      ·have:¬j=k:=by omega
       simp[T.eI,T.get,h2,hj,this]
      ·simp only[T.eI,T.get,h2,hj,ih _ _ _ hk]
       by_cases e:j/2=k/2
       ·have:j=k:=by omega
        simp[this]
       ·have:¬j=k:=by intro e2;exact e (by rw[e2])
        simp[e,this]
theorem T.ah{α:Type}(t:T α)(n m:Nat)(a:α):(t.set n a).get m=if m=n then some a else t.get m:=
 T.uN a (n+1) t n m (qk n)
inductive V where
 |bool (b:Bool)
 |int (k:IntKind) (n:Int)
 |qf (k:FloatKind) (bits:Nat)
 |str (s:List UInt8)
 |bG
 |ptr (i o:Nat)
 |aa
 |slice (i o len:Nat) (cap:Option Nat) (sz:Nat)
 |empty
 |bM
 |map (i:Nat)
 |bO
 |chan (i:Nat)
 |func (f:FuncId) (first cap:List V)
 |yield (i:Nat)
 |bg
 |iface (t:TypeId) (v:V)
 |aR
 |agg (l:List V)
 |bb (l:List V)
instance:Inhabited V:=⟨.bb []⟩
def V.cells:V->List V
 |.agg l=>l
 |v=>[v]
def V.one:V->Bool
 |.agg _|.bb _=>false
 |_=>true
inductive Src where
 |tmp (t:Nat)
 |const (v:V)
inductive PK where
 |bool|int|str|ptr|slice|map|func|chan|iface
inductive nS where
 |aH (k:PK)
 |node (parts:List (Nat×Option Nat×nS))
inductive jb where
 |int (k:IntKind)
 |str
inductive Ext where
 |eB|gG|same|bF|js
inductive gp where
 |aZ (x:Src)
 |pick (c a b:Src)
 |alloc (zero:List V) (elem:TypeId)
 |box (elem:TypeId) (x:Src)
 |build (zero:List V) (parts:List (Nat×Nat×Src))
 |aY (elem:TypeId) (size len:Nat) (zero:List V) (parts:List (Nat×Nat×Src))
 |load (n:Option Nat) (a:Src)
 |store (n:Nat) (a x:Src)
 |fv (x:Src)
 |bin (op:BinOp) (t:nS) (ng:Bool) (x y:Src)
 |un (op:UnOp) (x:Src)
 |ba (k:IntKind) (x:Src)
 |jT (x:Src)
 |fR (elem:TypeId) (x:Src)
 |eR (x:Src)
 |eC (t:TypeId) (x:Src)
 |cI (f:FuncId) (first fC:List Src)
 |rj
 |mZ (bytes:Nat) (n:Src)
 |bD (elem:TypeId) (size bytes:Nat) (zero:List V) (len cap:Src)
 |az (x:Src) (lo hi:Option Src)
 |cP (size:Nat) (x:Src) (lo hi mx:Option Src)
 |c_ (n size:Nat) (x:Src) (lo hi mx:Option Src)
 |ec (off:Nat) (x:Src)
 |field (off:Nat) (n:Option Nat) (x:Src)
 |bY (len size:Nat) (x i:Src)
 |aI (size:Nat) (x i:Src)
 |m7 (len size:Nat) (n:Option Nat) (x i:Src)
 |aQ (x i:Src)
 |lookup (kd:jb) (zero:V) (m k:Src) (ok:Bool)
 |qh (kd:jb) (m k v:Src)
 |Bs (kd:jb) (zero:V) (m k:Src)
 |Bt (m s v:Src)
 |iy (x:Src)
 |m8 (it:Src)
 |extract (x:Src) (i:Nat)
 |len (k:Nat) (x:Src)
 |ki (n:Nat)
 |cap (x:Src)
 |mn (args:List Src)
 |mx (args:List Src)
 |append (size bytes:Nat) (elem:TypeId) (zero:List V) (s x:Src)
 |copy (size:Nat) (d s:Src)
 |clear (size:Nat) (zero:List V) (s:Src)
 |call (f:Src) (args:List Src)
 |ext (e:Ext) (args:List Src)
 |DK (e:Option (TypeId×Nat)) (x:Src)
 |ri (x:Src)
 |xV (e:TypeId) (x n:Src)
 |stop
structure du where
 dst:Option Nat
 op:gp
 guard:Option (Nat×Bool)
inductive aq where
 |skip
 |aL (ops:List du)
 |aS (ops:List du) (my:List Nat)
 |sH (dst:Option Nat) (ch:Src) (send:Option Src) (zero:V) (ops:List du)
 |seq (a b:aq)
 |cond (c:Src) (a b:aq)
 |block (id:Nat) (c:aq)
 |loop (c:aq)
 |na (g:Src) (ps:List Nat) (assign body:aq)
 |exit (id:Nat)
 |scope (c:aq)
 |ret
 |stop
inductive Bg where
 |tmp (t:Nat)
 |cell (t:Nat) (n:Option Nat)
structure ji where
 ntmps:Nat
 results:List Bg
 body:aq
inductive Ex where
 |normal
 |exit (id:Nat)
 |ret
structure TM where
 st:LoopState
 gC:Option Ex
 r:T V
 n:Nat
 ps:List Nat
 assign:aq
 body:aq
 defs:Nat
inductive O where
 |cells (c:List V) (elem:TypeId) (rw:Bool)
 |map (es:List (V×V))
 |chan (cap:Nat) (buf:List V)
 |dV (s:List UInt8) (pos:Nat)
 |loop (l:TM)
 |defs (Oa:Bool)
 |dead
def O.wr:O->Bool
 |.cells _ _ rw=>rw
 |.dead=>false
 |_=>true
def O.live:O->Bool
 |.dead=>false
 |_=>true
structure St where
 h:T O
 n:Nat
 w:List Nat
def St.alloc(st:St)(o:O):St:={st with h:=st.h.set st.n o,n:=st.n+1}
def St.write(st:St)(i:Nat)(o:O):St:={st with h:=st.h.set i o,w:=i::st.w}
structure Fr where
 r:T V
 n:Nat
 marks:List Nat
def Src.ev(r:T V):Src->Option V
 |.tmp t=>r.get t
 |.const v=>some v
def pJ(r:T V):List Src->Option (List V)
 |[]=>some []
 |x::xs=>match x.ev r,pJ r xs with
  |some v,some vs=>some (v::vs)
  |_,_=>none
def ay(r:T V):Option Src->Option (Option V)
 |none=>some none
 |some x=>match x.ev r with
  |some v=>some (some v)
  |none=>none
def aM{α:Type}(c:List α)(o n:Nat):Option (List α):=if o+n<=c.length then some ((c.drop o).take n) else none
def ag{α:Type}(c:List α)(o:Nat)(vs:List α):List α:=c.take o++vs++c.drop (o+vs.length)
def wR(cells:List V):List (Nat×Nat×V)->Option (List V)
 |[]=>some cells
 |(off,size,v)::rest=>
  if v.cells.length=size/\off+size<=cells.length then wR (ag cells off v.cells) rest else none
def wS(r:T V):List (Nat×Nat×Src)->Option (List (Nat×Nat×V))
 |[]=>some []
 |(o,s,x)::rest=>match x.ev r,wS r rest with
  |some v,some vs=>some ((o,s,v)::vs)
  |_,_=>none
def aO(cs:List V)(off:Nat):Option Nat->Option V
 |none=>cs[off]?
 |some n=>match aM cs off n with
  |some l=>some (.agg l)
  |none=>none
def dM(ng:Bool):PK->V->V->Option Bool
 |.bool,.bool a,.bool b=>some (a==b)
 |.int,.int k a,.int k' b=>if k=k' then some (a==b) else none
 |.str,.str a,.str b=>some (a==b)
 |.ptr,.bG,.bG=>some true
 |.ptr,.bG,.ptr _ _=>some false
 |.ptr,.ptr _ _,.bG=>some false
 |.ptr,.ptr i o,.ptr j p=>if i=j/\o=p then some true else none
 |.slice,.aa,.aa=>some true
 |.slice,.aa,.slice ..=>some false
 |.slice,.slice ..,.aa=>some false
 |.slice,.aa,.empty=>some false
 |.slice,.empty,.aa=>some false
 |.map,.bM,.bM=>some true
 |.map,.bM,.map _=>some false
 |.map,.map _,.bM=>some false
 |.func,.bg,.bg=>some true
 |.func,.bg,.func ..=>some false
 |.func,.func ..,.bg=>some false
 |.chan,.bO,.bO=>some true
 |.chan,.bO,.chan _=>some false
 |.chan,.chan _,.bO=>some false
 |.iface,.aR,.aR=>if ng then some true else none
 |.iface,.aR,.iface ..=>some false
 |.iface,.iface ..,.aR=>some false
 |_,_,_=>none
mutual
def ry(ng:Bool):nS->V->V->Option Bool
 |.aH k,x,y=>dM ng k x y
 |.node ps,.agg xs,.agg ys=>FO ps xs ys
 |_,_,_=>none
def FO:List (Nat×Option Nat×nS)->List V->List V->Option Bool
 |[],_,_=>some true
 |(off,n,t)::rest,xs,ys=>
  match aO xs off n,aO ys off n with
  |some x,some y=>match ry false t x y with
   |some true=>FO rest xs ys
   |some false=>some false
   |none=>none
  |_,_=>none
end
def bk(k:IntKind)(n:Int):Int:=
 match k,n with
 |.i64,.ofNat a=>match Nat.blt a 9223372036854775808 with
  |true=>.ofNat a
  |false=>IntKind.wrap .i64 (.ofNat a)
 |.i64,.negSucc a=>match Nat.blt a 9223372036854775808 with
  |true=>.negSucc a
  |false=>IntKind.wrap .i64 (.negSucc a)
 |.u64,.ofNat a=>.ofNat (Nat.mod a 18446744073709551616)
 |.u8,.ofNat a=>.ofNat (Nat.mod a 256)
 |.i32,.ofNat a=>match Nat.blt a 2147483648 with
  |true=>.ofNat a
  |false=>IntKind.wrap .i32 (.ofNat a)
 |.u32,.ofNat a=>.ofNat (Nat.mod a 4294967296)
 |k,n=>k.wrap n
theorem uO(k:IntKind)(n:Int):bk k n=k.wrap n:=by
 unfold bk
 split
 ·rename_i a
  split
  ·rename_i h
   have h':a<9223372036854775808:=xX (sL h)
   simp only[IntKind.wrap,IntKind.bits,IntKind.signed,FN]
   simp;omega
  ·rfl
 ·rename_i a
  split
  ·rename_i h
   have h':a<9223372036854775808:=xX (sL h)
   have e:(Int.negSucc a)= -(a:Int)-1:=by omega
   simp only[IntKind.wrap,IntKind.bits,IntKind.signed,e]
   simp;omega
  ·rfl
 ·rename_i a
  show Int.ofNat (a%18446744073709551616)=_
  simp only[IntKind.wrap,IntKind.bits,IntKind.signed,FN]
  simp
 ·rename_i a
  show Int.ofNat (a%256)=_
  simp only[IntKind.wrap,IntKind.bits,IntKind.signed,FN]
  simp
 ·rename_i a
  split
  ·rename_i h
   have h':a<2147483648:=xX (sL h)
   simp only[IntKind.wrap,IntKind.bits,IntKind.signed,FN]
   simp;omega
  ·rfl
 ·rename_i a
  show Int.ofNat (a%4294967296)=_
  simp only[IntKind.wrap,IntKind.bits,IntKind.signed,FN]
  simp
 ·rfl
def nk(op:BinOp)(k:IntKind)(a b:Int):Option V:=
 match op with
 |.add=>some (.int k (bk k (a+b)))
 |.sub=>some (.int k (bk k (a-b)))
 |.mul=>some (.int k (bk k (a*b)))
 |.quo=>if b=0 then none else some (.int k (bk k (a.tdiv b)))
 |.rem=>if b=0 then none else some (.int k (a.tmod b))
 |.and=>some (.int k (k.wrap (BitVec.ofInt k.bits a&&& BitVec.ofInt k.bits b).toNat))
 |.or=>some (.int k (k.wrap (BitVec.ofInt k.bits a|||BitVec.ofInt k.bits b).toNat))
 |.xor=>some (.int k (k.wrap (BitVec.ofInt k.bits a^^^BitVec.ofInt k.bits b).toNat))
 |.andNot=>some (.int k (k.wrap (BitVec.ofInt k.bits a&&& ~~~ BitVec.ofInt k.bits b).toNat))
 |.eql=>some (.bool (a==b))
 |.neq=>some (.bool (a !=b))
 |.lss=>some (.bool (decide (a<b)))
 |.leq=>some (.bool (decide (a<=b)))
 |.gtr=>some (.bool (decide (a > b)))
 |.geq=>some (.bool (decide (a≥b)))
 |_=>none
def tD(op:BinOp)(k:IntKind)(a b:Int):Option V:=
 if b<0 then none else
  match op with
  |.shl=>some (.int k (k.wrap (a*2^(min b.toNat k.bits))))
  |.shr=>some (.int k (a.fdiv (2^(min b.toNat k.bits))))
  |_=>none
def fM(op:BinOp)(x y:List UInt8):Option V:=
 match op with
 |.add=>if ((x.length+y.length:Nat):Int) > IntKind.i64.max then none else some (.str (x++y))
 |.eql=>some (.bool (x==y))
 |.neq=>some (.bool (!(x==y)))
 |.lss=>some (.bool (Op.bytesLess x y))
 |.leq=>some (.bool (Op.bytesLess x y||x==y))
 |.gtr=>some (.bool (!(Op.bytesLess x y||x==y)))
 |.geq=>some (.bool (!(Op.bytesLess x y)))
 |_=>none
def Ob(op:BinOp)(t:nS)(ng:Bool):V->V->Option V
 |.int k a,.int k' b=>
  match op with
  |.shl=>tD .shl k a b
  |.shr=>tD .shr k a b
  |_=>if k=k' then nk op k a b else none
 |.str a,.str b=>fM op a b
 |x,y=>match op with
  |.eql=>match ry ng t x y with
   |some b=>some (.bool b)
   |none=>none
  |.neq=>match ry ng t x y with
   |some b=>some (.bool (!b))
   |none=>none
  |_=>none
def Oc:UnOp->V->Option V
 |.neg,.int k n=>some (.int k (k.wrap (0-n)))
 |.xor,.int k n=>some (.int k (k.wrap (BitVec.ofInt k.bits (if k.signed then -1 else k.max)^^^BitVec.ofInt k.bits n).toNat))
 |.not,.bool b=>some (.bool (!b))
 |_,_=>none
def iP(v:V)(y:Nat):Option Nat:=
 match v with
 |.int _ n=>if 0<=n/\n<=(y:Int) then some n.toNat else none
 |_=>none
def cX(v:Option V)(y Od:Nat):Option Nat:=
 match v with
 |some v=>iP v y
 |none=>some Od
def St.row(st:St)(i:Nat):Option (List V×TypeId×Bool):=
 match st.h.get i with
 |some (.cells c e rw)=>some (c,e,rw)
 |_=>none
def cj(zero:List V)(n:Nat):List V:=(List.range (n*zero.length)).map fun i=>zero.getD (i%zero.length) (.bb [])
def ft(st:St)(size:Nat):V->Option (Nat×List V)
 |.aa=>some (0,[])
 |.empty=>some (0,[])
 |.slice j p m _ sz=>if sz=size then match st.row j with
   |some (c,_,_)=>match aM c p (m*size)with
    |some l=>some (m,l)
    |none=>none
   |none=>none
  else none
 |.str s=>if size=1 then some (s.length,s.map fun b=>.int .u8 b.toNat) else none
 |_=>none
def uP:Nat:=2^48
def jQ(st:St)(size bytes:Nat)(elem:TypeId)(s x:V):Option (V×St):=
 match ft st size x with
 |none=>none
 |some (n,xs)=>
  match s with
  |.aa=>
   if n=0 then some (.aa,st)
   else if (2*n+1000)*bytes<=uP/\size≠0 then some (.slice st.n 0 n none size,st.alloc (.cells xs elem true)) else none
  |.slice i o len cap sz=>
   if n=0 then (if sz=size then some (s,st) else none)
   else if sz≠size\/size=0\/uP<(2*(len+n)+1000)*bytes then none else
   match st.row i with
   |none=>none
   |some (c,e,rw)=>
    match cap with
    |some k=>
     if len+n<=k then
      (if rw=true/\o+(len+n)*size<=c.length then some (.slice i o (len+n) cap sz,st.write i (.cells (ag c (o+len*size) xs) e rw)) else none)
     else match aM c o (len*size)with
      |some old=>some (.slice st.n 0 (len+n) none size,st.alloc (.cells (old++xs) elem true))
      |none=>none
    |none=>
     if rw=true then
      if o+(len+n)*size<=c.length then some (.slice i o (len+n) none sz,st.write i (.cells (ag c (o+len*size) xs) e rw))
      else if o+len*size=c.length/\e=elem/\o=0 then
       some (.slice st.n 0 (len+n) none size,(st.write i .dead).alloc (.cells (c.drop o++xs) elem true))
      else none
     else none
  |_=>none
def JK:jb->V->V->Option Bool
 |.int k,.int a x,.int b y=>if a=k/\b=k then some (x==y) else none
 |.str,.str x,.str y=>some (x==y)
 |_,_,_=>none
def eD(kd:jb)(k:V):List (V×V)->Nat->Option (Option (Nat×V))
 |[],_=>some none
 |(a,v)::es,i=>
  match JK kd k a with
  |some true=>some (some (i,v))
  |some false=>eD kd k es (i+1)
  |none=>none
def jb.fits:jb->V->Bool
 |.int k,.int k' _=>k=k'
 |.str,.str _=>true
 |_,_=>false
def rz:List V->Option V
 |[]=>none
 |[x]=>some x
 |.int k a::.int _ b::rest=>rz (.int k (if b<a then b else a)::rest)
 |_=>none
termination_by l=>l.length
def rA:List V->Option V
 |[]=>none
 |[x]=>some x
 |.int k a::.int _ b::rest=>rA (.int k (if a<b then b else a)::rest)
 |_=>none
termination_by l=>l.length
def sO:V->List V->Option V
 |x,[]=>some x
 |.int k a,.int _ b::rest=>sO (.int k (if b<a then b else a)) rest
 |_,_=>none
def yb:List V->Option V
 |[]=>none
 |x::xs=>sO x xs
def tE:V->List V->Option V
 |x,[]=>some x
 |.int k a,.int _ b::rest=>tE (.int k (if a<b then b else a)) rest
 |_,_=>none
def wU:List V->Option V
 |[]=>none
 |x::xs=>tE x xs
theorem TN:∀(xs:List V) (x:V),sO x xs=rz (x::xs)
 |[],x=>by simp[sO,rz]
 |y::ys,x=>by
  cases x with
  |int k a=>
   cases y with
   |int k' b=>simp only[sO,rz];exact TN ys _
   |_=>simp[sO,rz]
  |_=>simp[sO,rz]
theorem Ylf(l:List V):yb l=rz l:=by
 cases l with
 |nil=>simp[yb,rz]
 |cons x xs=>exact TN xs x
theorem TO:∀(xs:List V) (x:V),tE x xs=rA (x::xs)
 |[],x=>by simp[tE,rA]
 |y::ys,x=>by
  cases x with
  |int k a=>
   cases y with
   |int k' b=>simp only[tE,rA];exact TO ys _
   |_=>simp[tE,rA]
  |_=>simp[tE,rA]
theorem Yli(l:List V):wU l=rA l:=by
 cases l with
 |nil=>simp[wU,rA]
 |cons x xs=>exact TO xs x
def Bu(c:UInt8):List UInt8->Nat->Int
 |[],_=> -1
 |b::rest,i=>if b==c then (i:Int) else Bu c rest (i+1)
def yc:Ext->List V->Option V
 |.eB,[.int .u64 x,.int .u64 y,.int .u64 c]=>if ¬(c=0\/c=1) then none else
   some (.bb [.int .u64 (Int.ofNat ((x.toNat+y.toNat+c.toNat)%2^64)),.int .u64 (Int.ofNat ((x.toNat+y.toNat+c.toNat)/2^64))])
 |.gG,[.int .u64 x,.int .u64 y,.int .u64 b]=>if ¬(b=0\/b=1) then none else
   some (.bb [.int .u64 (Int.ofNat ((x.toNat+2^64-y.toNat-b.toNat)%2^64)),.int .u64 (if x.toNat<y.toNat+b.toNat then 1 else 0)])
 |.bF,[.str s,.int .u8 c]=>some (.int .i64 (Bu c.toNat.toUInt8 s 0))
 |_,_=>none
abbrev cA:=V->List V->St->Option (V×St)
def JL(op:BinOp)(t:nS)(st:St)(i j:Nat):Option (V×St):=
 match op,t,st.h.get i,st.h.get j with
 |.eql,.aH .chan,some (.chan ..),some (.chan ..)=>some (.bool (i==j),st)
 |.neq,.aH .chan,some (.chan ..),some (.chan ..)=>some (.bool (!(i==j)),st)
 |_,_,_,_=>none
abbrev dR:=cA->T V->St->Option (V×St)
def Bv(x:Src):dR:=fun _ r st=>match x.ev r with
  |some v=>some (v,st)
  |none=>none
def zM(c:Src)(a:Src)(b:Src):dR:=fun _ r st=>match c.ev r with
  |some (.bool true)=>match a.ev r with
   |some v=>some (v,st)
   |none=>none
  |some (.bool false)=>match b.ev r with
   |some v=>some (v,st)
   |none=>none
  |_=>none
def DU(zero:List V)(elem:TypeId):dR:=fun _ _ st=>some (.ptr st.n 0,st.alloc (.cells zero elem true))
def Bw(elem:TypeId)(x:Src):dR:=fun _ r st=>match x.ev r with
  |some v=>if v.cells.all V.one then some (.ptr st.n 0,st.alloc (.cells v.cells elem true)) else none
  |none=>none
def yd(zero:List V)(parts:List (Nat×Nat×Src)):dR:=fun _ r st=>match wS r parts with
  |some ps=>match wR zero ps with
   |some l=>some (.agg l,st)
   |none=>none
  |none=>none
def Bx(elem:TypeId)(size:Nat)(len:Nat)(zero:List V)(parts:List (Nat×Nat×Src)):dR:=fun _ r st=>match wS r parts with
  |some ps=>match wR zero ps with
   |some l=>if l.all V.one then some (.slice st.n 0 len (some len) size,st.alloc (.cells l elem true)) else none
   |none=>none
  |none=>none
def By(n:Option Nat)(a:Src):dR:=fun _ r st=>match a.ev r with
  |some (.ptr i o)=>match st.row i with
   |some (c,_,_)=>match aO c o n with
    |some v=>some (v,st)
    |none=>none
   |none=>none
  |_=>none
def zN(n:Nat)(a:Src)(x:Src):dR:=fun _ r st=>match a.ev r,x.ev r with
  |some (.ptr i o),some v=>match st.row i with
   |some (c,e,true)=>if v.cells.length=n/\o+n<=c.length/\v.cells.all V.one=true then some (.bb [],st.write i (.cells (ag c o v.cells) e true)) else none
   |_=>none
  |_,_=>none
def Bz(x:Src):dR:=fun _ r st=>match x.ev r with
  |some (.ptr i o)=>some (.ptr i o,st)
  |some (.func f a l)=>some (.func f a l,st)
  |_=>none
def BA(op:BinOp)(t:nS)(ng:Bool)(x:Src)(y:Src):dR:=fun _ r st=>match x.ev r,y.ev r with
  |some (.chan i),some (.chan j)=>JL op t st i j
  |some a,some b=>match Ob op t ng a b with
   |some v=>some (v,st)
   |none=>none
  |_,_=>none
def BB(op:UnOp)(x:Src):dR:=fun _ r st=>match x.ev r with
  |some a=>match Oc op a with
   |some v=>some (v,st)
   |none=>none
  |none=>none
def BC(k:IntKind)(x:Src):dR:=fun _ r st=>match x.ev r with
  |some (.int _ n)=>some (.int k (bk k n),st)
  |_=>none
def DV(x:Src):dR:=fun _ r st=>match x.ev r with
  |some (.str s)=>some (.str s,st)
  |_=>none
def zO(elem:TypeId)(x:Src):dR:=fun _ r st=>match x.ev r with
  |some (.str s)=>some (.slice st.n 0 s.length none 1,st.alloc (.cells (s.map fun b=>.int .u8 b.toNat) elem true))
  |_=>none
def BD(x:Src):dR:=fun _ r st=>match x.ev r with
  |some .aa=>some (.str [],st)
  |some (.slice i o len _ 1)=>match st.row i with
   |some (c,_,_)=>match aM c o len with
    |some l=>match l.mapM (fun v=>match v with|.int .u8 n=>some (UInt8.ofNat n.toNat)|_=>none)with
     |some s=>some (.str s,st)
     |none=>none
    |none=>none
   |none=>none
  |_=>none
def DW(t:TypeId)(x:Src):dR:=fun _ r st=>match x.ev r with
  |some v=>some (.iface t v,st)
  |none=>none
def BE(f:FuncId)(first:List Src)(fC:List Src):dR:=fun _ r st=>match pJ r first,pJ r fC with
  |some a,some l=>some (.func f a l,st)
  |_,_=>none
def DX:dR:=fun _ _ st=>some (.map st.n,st.alloc (.map []))
def zP(bytes:Nat)(n:Src):dR:=fun _ r st=>match n.ev r with
  |some (.int _ k)=>if k<0\/k > IntKind.i64.max\/bytes*k > 2^48-112 then none else some (.chan st.n,st.alloc (.chan k.toNat []))
  |_=>none
def ye(elem:TypeId)(size:Nat)(bytes:Nat)(zero:List V)(len:Src)(cap:Src):dR:=fun _ r st=>match len.ev r,cap.ev r with
  |some (.int _ l),some (.int _ c)=>
   if 0<=l/\l<=c/\bytes*c<=2^47/\c<2^62/\size=zero.length/\size≠0 then
    some (.slice st.n 0 l.toNat (some c.toNat) size,st.alloc (.cells (cj zero c.toNat) elem true)) else none
  |_,_=>none
def tF(x:Src)(lo:Option Src)(hi:Option Src):dR:=fun _ r st=>match x.ev r,ay r lo,ay r hi with
  |some (.str s),some lo,some hi=>
   match cX hi s.length s.length with
   |some h=>match cX lo h 0 with
    |some l=>some (.str ((s.take h).drop l),st)
    |none=>none
   |none=>none
  |_,_,_=>none
def mA(size:Nat)(x:Src)(lo:Option Src)(hi:Option Src)(mx:Option Src):dR:=fun _ r st=>match x.ev r,ay r lo,ay r hi,ay r mx with
  |some .aa,some lo,some hi,some mx=>
   match cX mx 0 0 with
   |some _=>match cX hi 0 0 with
    |some _=>match cX lo 0 0 with
     |some _=>if mx.isSome&&hi.isNone then none else some (.aa,st)
     |none=>none
    |none=>none
   |none=>none
  |some .empty,some lo,some hi,some none=>
   match cX hi 0 0 with
   |some _=>match cX lo 0 0 with
    |some _=>some (.empty,st)
    |none=>none
   |none=>none
  |some (.slice i o len (some c) sz),some lo,some hi,some mx=>
   if sz≠size\/(mx.isSome&&hi.isNone) then none else
   match cX mx c c with
   |some m=>match cX hi m len with
    |some h=>match cX lo h 0 with
     |some l=>some (.slice i (if m=l then o else o+l*size) (h-l) (some (m-l)) sz,st)
     |none=>none
    |none=>none
   |none=>none
  |some (.slice i o len none sz),some lo,some hi,some mx=>
   if sz≠size\/size=0\/(mx.isSome&&hi.isNone) then none else
   match st.row i with
   |some (c,_,_)=>
    let k:=max len ((c.length-o)/size)
    match mx with
    |some m=>match iP m k with
     |some m=>match cX hi m len with
      |some h=>match cX lo h 0 with
       |some l=>some (.slice i (if m=l then o else o+l*size) (h-l) (some (m-l)) sz,st)
       |none=>none
      |none=>none
     |none=>none
    |none=>match cX hi k len with
     |some h=>match cX lo h 0 with
      |some l=>if l<k then some (.slice i (o+l*size) (h-l) none sz,st) else some (.empty,st)
      |none=>none
     |none=>none
   |none=>none
  |_,_,_,_=>none
def uQ(n:Nat)(size:Nat)(x:Src)(lo:Option Src)(hi:Option Src)(mx:Option Src):dR:=fun _ r st=>match x.ev r,ay r lo,ay r hi,ay r mx with
  |some (.ptr i o),some lo,some hi,some none=>
   match cX hi n n with
   |some h=>match cX lo h 0 with
    |some l=>match st.row i with
     |some (c,_,_)=>if o+n*size<=c.length/\mx.isNone then some (.slice i (if n=l then o else o+l*size) (h-l) (some (n-l)) size,st) else none
     |none=>none
    |none=>none
   |none=>none
  |_,_,_,_=>none
def BF(off:Nat)(x:Src):dR:=fun _ r st=>match x.ev r with
  |some (.ptr i o)=>some (.ptr i (o+off),st)
  |_=>none
def BG(off:Nat)(n:Option Nat)(x:Src):dR:=fun _ r st=>match x.ev r with
  |some (.agg cs)=>match aO cs off n with
   |some v=>some (v,st)
   |none=>none
  |_=>none
def yf(len:Nat)(size:Nat)(x:Src)(i:Src):dR:=fun _ r st=>match x.ev r,i.ev r with
  |some (.ptr a o),some (.int _ k)=>if 0<=k/\k<(len:Int) then some (.ptr a (o+k.toNat*size),st) else none
  |_,_=>none
def zQ(size:Nat)(x:Src)(i:Src):dR:=fun _ r st=>match x.ev r,i.ev r with
  |some (.slice a o len _ _),some (.int _ k)=>if 0<=k/\k<(len:Int) then some (.ptr a (o+k.toNat*size),st) else none
  |_,_=>none
def DY(len:Nat)(size:Nat)(n:Option Nat)(x:Src)(i:Src):dR:=fun _ r st=>match x.ev r,i.ev r with
  |some (.agg cs),some (.int _ k)=>if 0<=k/\k<(len:Int) then match aO cs (k.toNat*size) n with
    |some v=>some (v,st)
    |none=>none
   else none
  |_,_=>none
def zR(x:Src)(i:Src):dR:=fun _ r st=>match x.ev r,i.ev r with
  |some (.str s),some (.int _ k)=>if 0<=k then match s[k.toNat]? with
    |some b=>some (.int .u8 b.toNat,st)
    |none=>none
   else none
  |_,_=>none
def BH(kd:jb)(zero:V)(m:Src)(k:Src)(ok:Bool):dR:=fun _ r st=>match m.ev r,k.ev r with
  |some m,some k=>
   if kd.fits k then
    match (match m with
     |.bM=>some []
     |.map i=>match st.h.get i with
      |some (.map es)=>some es
      |_=>none
     |_=>none)with
    |some es=>match eD kd k es 0 with
     |some (some (_,v))=>some (if ok then .bb [v,.bool true] else v,st)
     |some none=>some (if ok then .bb [zero,.bool false] else zero,st)
     |none=>none
    |none=>none
   else none
  |_,_=>none
def zS(kd:jb)(m:Src)(k:Src)(v:Src):dR:=fun _ r st=>match m.ev r,k.ev r,v.ev r with
  |some (.map i),some k,some v=>
   if kd.fits k then
    match st.h.get i with
    |some (.map es)=>match eD kd k es 0 with
     |some (some (j,_))=>some (.bb [],st.write i (.map (es.set j (k,v))))
     |some none=>some (.bb [],st.write i (.map (es++[(k,v)])))
     |none=>none
    |_=>none
   else none
  |_,_,_=>none
def TQ(kd:jb)(zero:V)(m:Src)(k:Src):dR:=fun _ r st=>match m.ev r,k.ev r with
  |some (.map i),some k=>
   if kd.fits k then
    match st.h.get i with
    |some (.map es)=>match eD kd k es 0 with
     |some (some (j,v))=>some (.bb [v,.int .i64 j],st.write i (.map (es.set j (k,v))))
     |some none=>some (.bb [zero,.int .i64 es.length],st.write i (.map (es++[(k,zero)])))
     |none=>none
    |_=>none
   else none
  |_,_=>none
def Oe(m:Src)(s:Src)(v:Src):dR:=fun _ r st=>match m.ev r,s.ev r,v.ev r with
  |some (.map i),some (.int _ j),some v=>
   match st.h.get i with
   |some (.map es)=>if 0<=j then match es[j.toNat]? with
     |some (k,_)=>some (.bb [],st.write i (.map (es.set j.toNat (k,v))))
     |none=>none
    else none
   |_=>none
  |_,_,_=>none
def BI(x:Src):dR:=fun _ r st=>match x.ev r with
  |some (.str s)=>some (.ptr st.n 0,st.alloc (.dV s 0))
  |_=>none
def BJ(it:Src):dR:=fun _ r st=>match it.ev r with
  |some (.ptr i 0)=>match st.h.get i with
   |some (.dV s pos)=>
    if pos<s.length then
     let cw:=Utf8.decode ⟨s.toArray⟩ pos
     some (.bb [.bool true,.int .i64 pos,.int .i32 cw.1],st.write i (.dV s (pos+cw.2)))
    else some (.bb [.bool false],st)
   |_=>none
  |_=>none
def BK(x:Src)(i:Nat):dR:=fun _ r st=>match x.ev r with
  |some (.bb vs)=>match vs[i]? with
   |some v=>some (v,st)
   |none=>none
  |_=>none
def sP(k:Nat)(x:Src):dR:=fun _ r st=>match k,x.ev r with
  |0,some (.str s)=>some (.int .i64 s.length,st)
  |1,some .aa=>some (.int .i64 0,st)
  |1,some .empty=>some (.int .i64 0,st)
  |1,some (.slice _ _ n _ _)=>some (.int .i64 n,st)
  |2,some .bM=>some (.int .i64 0,st)
  |2,some (.map i)=>match st.h.get i with
   |some (.map es)=>some (.int .i64 es.length,st)
   |_=>none
  |_,_=>none
def FQ(n:Nat):dR:=fun _ _ st=>some (.int .i64 n,st)
def DZ(x:Src):dR:=fun _ r st=>match x.ev r with
  |some .aa=>some (.int .i64 0,st)
  |some (.slice _ _ _ (some c) _)=>some (.int .i64 c,st)
  |_=>none
def tG(args:List Src):dR:=fun _ r st=>match pJ r args with
  |some l=>match yb l with
   |some v=>some (v,st)
   |none=>none
  |none=>none
def np(args:List Src):dR:=fun _ r st=>match pJ r args with
  |some l=>match wU l with
   |some v=>some (v,st)
   |none=>none
  |none=>none
def yg(size:Nat)(bytes:Nat)(elem:TypeId)(_:List V)(s:Src)(x:Src):dR:=fun _ r st=>match s.ev r,x.ev r with
  |some s,some x=>jQ st size bytes elem s x
  |_,_=>none
def wV(size:Nat)(d:Src)(s:Src):dR:=fun _ r st=>match d.ev r,s.ev r with
  |some d,some s=>match ft st size s with
   |some (n,xs)=>match d with
    |.aa=>some (.int .i64 0,st)
    |.slice i o len _ sz=>
     if sz≠size\/size=0 then none else
     let k:=min n len
     if k=0 then some (.int .i64 0,st) else
     match st.row i with
     |some (c,e,true)=>if o+k*size<=c.length then some (.int .i64 k,st.write i (.cells (ag c o (xs.take (k*size))) e true)) else none
     |_=>none
    |_=>none
   |none=>none
  |_,_=>none
def D3(size:Nat)(zero:List V)(s:Src):dR:=fun _ r st=>match s.ev r with
  |some .aa=>some (.bb [],st)
  |some .empty=>some (.bb [],st)
  |some (.slice i o len _ sz)=>
   if len=0 then some (.bb [],st) else
   if sz≠size\/size=0\/zero.length≠size then none else
   match st.row i with
   |some (c,e,true)=>if o+len*size<=c.length then some (.bb [],st.write i (.cells (ag c o (cj zero len)) e true)) else none
   |_=>none
  |_=>none
def tH(f:Src)(args:List Src):dR:=fun call r st=>match f.ev r,pJ r args with
  |some f,some l=>call f l st
  |_,_=>none
def BL(e:Ext)(args:List Src):dR:=fun _ r st=>match e,pJ r args with
  |.same,some [v]=>some (v,st)
  |e,some l=>match yc e l with
   |some v=>some (v,st)
   |none=>none
  |_,none=>none
def zT(e:Option (TypeId×Nat))(x:Src):dR:=fun _ r st=>match x.ev r with
  |some (.ptr i 0)=>match st.row i with
   |some (c,e',true)=>match e with
    |none=>if 0<c.length then some (.ptr i 0,st) else none
    |some (u,z)=>if e'=u/\0<z/\z<=c.length then some (.ptr i 0,st) else none
   |_=>none
  |_=>none
def D4(x:Src):dR:=fun _ r st=>match x.ev r with
  |some (.slice i o len _ _)=>if 0<len then some (.ptr i o,st) else none
  |_=>none
def JM:V->Option UInt8
 |.int .u8 n=>if 0<=n/\n<256 then some n.toNat.toUInt8 else none
 |_=>none
def BM:List V->Option (List UInt8)
 |[]=>some []
 |v::l=>match JM v,BM l with
  |some b,some s=>some (b::s)
  |_,_=>none
def D5(e:TypeId)(x n:Src):dR:=fun _ r st=>match x.ev r,n.ev r with
  |some (.ptr i 0),some (.int .i64 k)=>if 0<k/\k<=9223372036854775807 then
    match st.row i with
    |some (c,e',true)=>if e'=e then
      match aM c 0 k.toNat with
      |some uR=>match BM uR with
       |some s=>some (.str s,st.write i (.cells c e' false))
       |none=>none
      |none=>none
     else none
    |_=>none
   else none
  |_,_=>none
def Of:dR:=fun _ _ _=>none
def bZ(op:gp):dR:=gp.casesOn op Bv zM DU Bw yd Bx By zN Bz BA BB BC DV zO BD DW BE DX zP ye tF mA uQ BF BG yf zQ DY zR BH zS TQ Oe BI BJ BK sP FQ DZ tG np yg wV D3 tH BL zT D4 D5 Of
def Fr.put(fr:Fr)(d:Option Nat)(v:V):Option Fr:=
 match d with
 |some d=>if d<fr.n then some {fr with r:=fr.r.set d v} else none
 |none=>some fr
def bP(r:T V):Option (Nat×Bool)->Option Bool
 |none=>some true
 |some (t,want)=>match r.get t with
  |some (.bool b)=>some (b==want)
  |some (.bb _)=>some false
  |_=>none
def wW(call:cA)(o:du)(next:Fr->St->Option (Fr×St))(fr:Fr)(st:St):Option (Fr×St):=
 match bP fr.r o.guard with
 |some true=>match bZ o.op call fr.r st with
  |some (v,av)=>match fr.put o.dst v with
   |some bE=>next bE av
   |none=>none
  |none=>none
 |some false=>match fr.put o.dst (.bb [])with
  |some bE=>next bE st
  |none=>none
 |none=>none
def TR(fr:Fr)(st:St):Option (Fr×St):=some (fr,st)
def de(call:cA):List du->Fr->St->Option (Fr×St)
 |[]=>TR
 |o::rest=>wW call o (de call rest)
structure FP where
 rd:Option (List Nat)
 wr:List Nat
 lo:Nat
 hi:Nat
def gp.km:gp->Bool
 |.aZ _|.pick ..|.alloc ..|.box ..|.build ..|.aY ..|.fv _|.un ..|.ba ..|.jT _|.fR ..|.eC ..|.cI ..|.rj|.mZ ..
 |.bD ..|.az ..|.ec ..|.field ..|.bY ..|.aI ..|.m7 ..|.aQ ..|.iy _|.extract ..|.ki _|.cap _|.mn _|.mx _|.ext ..=>true
 |.bin .add ..|.bin .sub ..|.bin .mul ..|.bin .quo ..|.bin .rem ..|.bin .lss ..|.bin .leq ..|.bin .gtr ..|.bin .geq ..|.bin .shl ..|.bin .shr ..|.bin .and ..|.bin .or ..|.bin .xor ..|.bin .andNot ..=>true
 |_=>false
def JN(r:T V):gp->Option Nat
 |.load _ a=>match a.ev r with
  |some (.ptr i _)=>some i
  |_=>none
 |.store _ a _=>match a.ev r with
  |some (.ptr i _)=>some i
  |_=>none
 |_=>none
def lE(r:T V)(op:gp)(ws:List Nat)(lo hi:Nat):FP:=
 if op.km then ⟨some [],[],lo,hi⟩ else
 match JN r op with
 |some i=>if Nat.blt i lo then ⟨some [i],ws,lo,hi⟩ else ⟨none,ws,lo,hi⟩
 |none=>⟨none,ws,lo,hi⟩
def qo(i:Nat)(l:List Nat):List Nat:=if l.contains i then l else i::l
def au(n:Nat):List Nat->List Nat
 |[]=>[]
 |i::l=>if i<n then qo i (au n l) else au n l
def wX(call:cA)(o:du)(next:Fr->St->Option (List FP×Fr×St))(fr:Fr)(st:St):Option (List FP×Fr×St):=
 match bP fr.r o.guard with
 |some true=>match bZ o.op call fr.r {st with w:=[]} with
  |some (v,av)=>match fr.put o.dst v with
   |some bE=>match next bE {av with w:=au st.n av.w++st.w} with
    |some (fT,fr'',st'')=>some (lE fr.r o.op (au st.n av.w) st.n av.n::fT,fr'',st'')
    |none=>none
   |none=>none
  |none=>none
 |some false=>match fr.put o.dst (.bb [])with
  |some bE=>match next bE st with
   |some (fT,fr'',st'')=>some (⟨some [],[],st.n,st.n⟩::fT,fr'',st'')
   |none=>none
  |none=>none
 |none=>none
def TS(fr:Fr)(st:St):Option (List FP×Fr×St):=some ([],fr,st)
def bJ(call:cA):List du->Fr->St->Option (List FP×Fr×St)
 |[]=>TS
 |o::rest=>wX call o (bJ call rest)
def BN(a:List Nat):Option (List Nat)->Bool
 |none=>!a.isEmpty
 |some b=>a.any fun i=>b.contains i
def FP.free(a b:FP):Bool:=!(BN a.wr b.rd||BN a.wr (some b.wr)||BN b.wr a.rd||b.wr.any fun i=>Nat.ble a.lo i&&Nat.blt i a.hi)
def dn{α:Type}(p:α->α->Bool)(xs:List α)(my:List Nat):Bool:=
 go xs my 0 []
where
 go:List α->List Nat->Nat->List α->Bool
  |[],_,_,_=>true
  |f::fs,ms,j,seen=>
   (dp f (ms.headD 0) (j-1) seen)&&go fs ms.tail (j+1) (f::seen)
 dp (f:α) (m:Nat):Nat->List α->Bool
  |_,[]=>true
  |i,g::gs=>(m.testBit i||p g f)&&dp f m (i-1) gs
def iC(fT:List FP)(my:List Nat):Bool:=dn FP.free fT my
def Src.tmps:Src->List Nat
 |.tmp t=>[t]
 |.const _=>[]
def wY:Option Src->List Src
 |none=>[]
 |some s=>[s]
def gp.yh:gp->List Src
 |.aZ x=>[x]
 |.pick c a b=>[c,a,b]
 |.alloc ..=>[]
 |.box _ x=>[x]
 |.build _ ps=>ps.map (·.2.2)
 |.aY _ _ _ _ ps=>ps.map (·.2.2)
 |.load _ a=>[a]
 |.store _ a x=>[a,x]
 |.fv x=>[x]
 |.bin _ _ _ x y=>[x,y]
 |.un _ x=>[x]
 |.ba _ x=>[x]
 |.jT x=>[x]
 |.fR _ x=>[x]
 |.eR x=>[x]
 |.eC _ x=>[x]
 |.cI _ a c=>a++c
 |.rj=>[]
 |.mZ _ n=>[n]
 |.bD _ _ _ _ l c=>[l,c]
 |.az x lo hi=>x::(wY lo++wY hi)
 |.cP _ x lo hi m=>x::(wY lo++wY hi++wY m)
 |.c_ _ _ x lo hi m=>x::(wY lo++wY hi++wY m)
 |.ec _ x=>[x]
 |.field _ _ x=>[x]
 |.bY _ _ x i=>[x,i]
 |.aI _ x i=>[x,i]
 |.m7 _ _ _ x i=>[x,i]
 |.aQ x i=>[x,i]
 |.lookup _ _ m k _=>[m,k]
 |.qh _ m k v=>[m,k,v]
 |.Bs _ _ m k=>[m,k]
 |.Bt m s v=>[m,s,v]
 |.iy x=>[x]
 |.m8 x=>[x]
 |.extract x _=>[x]
 |.len _ x=>[x]
 |.ki _=>[]
 |.cap x=>[x]
 |.mn l=>l
 |.mx l=>l
 |.append _ _ _ _ s x=>[s,x]
 |.copy _ d s=>[d,s]
 |.clear _ _ s=>[s]
 |.call f l=>f::l
 |.ext _ l=>l
 |.DK _ x=>[x]
 |.ri x=>[x]
 |.xV _ x n=>[x,n]
 |.stop=>[]
def du.reads(o:du):List Nat:=
 (match o.guard with|some (t,_)=>[t]|none=>[])++o.op.yh.flatMap Src.tmps
def FR(d:Option Nat)(l:List Nat):Bool:=
 match d with
 |some t=>l.contains t
 |none=>false
def JC(a b:du):Bool:=!(FR a.dst b.reads||FR b.dst a.reads||FR a.dst b.dst.toList)
def JO(st:St)(i:Nat)(send:Option V)(zero:V):Option (V×St):=
 match st.h.get i,send with
 |some (.chan cap buf),some v=>if buf.length<cap then some (.bb [.int .i64 0,.bool false],st.write i (.chan cap (buf++[v]))) else some (.bb [.int .i64 (-1),.bool false],st)
 |some (.chan cap (v::buf)),none=>some (.bb [.int .i64 0,.bool true,v],st.write i (.chan cap buf))
 |some (.chan _ []),none=>some (.bb [.int .i64 (-1),.bool false,zero],st)
 |_,_=>none
abbrev mB:=Option Nat->aq->Fr->St->Option (Ex×Fr×St)
abbrev rC:=cA->mB->Option Nat->Fr->St->Option (Ex×Fr×St)
def Og:rC:=fun _ _ _ fr st=>some (.normal,fr,st)
def uS(ops:List du):rC:=fun call _ _ fr st=>match de call ops fr st with
 |some (bE,av)=>some (.normal,bE,av)
 |none=>none
def uT(ops:List du)(my:List Nat):rC:=fun call _ _ fr st=>match bJ call ops fr st with
 |some (fT,bE,av)=>match iC fT my with
  |true=>some (.normal,bE,av)
  |false=>none
 |none=>none
def uU(dst:Option Nat)(ch:Src)(send:Option Src)(zero:V)(ops:List du):rC:=fun call _ _ fr st=>
 match ch.ev fr.r,ay fr.r send with
 |some (.chan i),some sv=>match JO st i sv zero with
  |some (v,bR)=>match fr.put dst v with
   |some dw=>match de call ops dw bR with
    |some (bE,av)=>some (.normal,bE,av)
    |none=>none
   |none=>none
  |none=>none
 |_,_=>none
def wZ(a b:aq):rC:=fun _ rec ro fr st=>match rec ro a fr st with
 |some (.normal,bE,av)=>rec ro b bE av
 |x=>x
def sQ(x:Src)(a b:aq):rC:=fun _ rec ro fr st=>match x.ev fr.r with
 |some (.bool true)=>rec ro a fr st
 |some (.bool false)=>rec ro b fr st
 |_=>none
def w6(id:Nat)(c:aq):rC:=fun _ rec ro fr st=>match rec ro c fr st with
 |some (.exit w_,bE,av)=>match Nat.beq w_ id with
  |true=>some (.normal,bE,av)
  |false=>some (.exit w_,bE,av)
 |x=>x
def xa(c:aq):rC:=fun _ rec ro fr st=>match rec ro c fr st with
 |some (.normal,bE,av)=>rec ro (.loop c) bE av
 |x=>x
def Oh(st:St):Option Nat->Option (St×Nat×List Nat)
 |none=>some (st.alloc (.defs true),st.n,[st.n])
 |some l=>match st.h.get l with
  |some (.loop R)=>some (st,R.defs,[])
  |_=>none
def V.D6:V->Bool
 |.yield _=>true
 |_=>false
def yi(g:Src)(ps:List Nat)(assign body:aq):rC:=fun call _ ro fr st=>
 match g.ev fr.r with
 |none=>none
 |some gv=>
  if gv.D6 then none else
  match Oh st ro with
  |none=>none
  |some (bR,d,mk)=>
   match call gv [.yield bR.n] (bR.alloc (.loop {st:=.ready,gC:=none,r:=fr.r,n:=fr.n,ps:=ps,assign:=assign,body:=body,defs:=d}))with
   |none=>none
   |some (_,eh)=>
    match eh.h.get bR.n with
    |some (.loop R)=>
     if R.st=.busy then none else
     some (match R.gC with|none=>.normal|some e=>e,{fr with marks:=mk++fr.marks},eh.write bR.n (.loop {R with st:=.exhausted}))
    |_=>none
def TT(id:Nat):rC:=fun _ _ _ fr st=>some (.exit id,fr,st)
def TU(c:aq):rC:=fun _ rec ro fr st=>rec ro c fr st
def TV:rC:=fun _ _ _ fr st=>some (.ret,fr,st)
def D7:rC:=fun _ _ _ _ _=>none
def jV(c:aq):rC:=aq.casesOn c Og uS uT uU wZ sQ w6 xa yi TT TU TV D7
def JP:mB:=fun _ _ _ _=>none
def dE(call:cA):Nat->mB
 |0=>JP
 |f+1=>fun ro c=>jV c call (dE call f) ro
def tI(r:T V)(i:Nat):List V->T V
 |[]=>r
 |v::vs=>tI (r.set i v) (i+1) vs
def BO(r:T V)(n:Nat):List Nat->List V->Option (T V)
 |[],[]=>some r
 |p::ps,v::vs=>if p<n then BO (r.set p v) n ps vs else none
 |_,_=>none
def fU(r:T V)(st:St):List Bg->Option (List V)
 |[]=>some []
 |.tmp t::rest=>match r.get t,fU r st rest with
  |some v,some vs=>some (v::vs)
  |_,_=>none
 |.cell t n::rest=>match r.get t,fU r st rest with
  |some (.ptr i o),some vs=>match st.row i with
   |some (c,_,_)=>match aO c o n with
    |some v=>some (v::vs)
    |none=>none
   |none=>none
  |_,_=>none
def shut(st:St):List Nat->Option St
 |[]=>some st
 |d::ds=>match st.h.get d with
  |some (.defs true)=>shut (st.write d (.defs false)) ds
  |_=>none
def FT:Option Ex->LoopState
 |none=>.ready
 |some _=>.done
def pK:Ex->Option Ex
 |.normal=>none
 |e=>some e
def zU:List V->V
 |[v]=>v
 |vs=>.bb vs
def Oi(mf:ji)(st:St):Option (Ex×Fr×St)->Option (V×St)
 |some (.exit _,_,_)=>none
 |some (_,fr,bR)=>match shut bR fr.marks with
  |none=>none
  |some eh=>match fU fr.r eh mf.results with
   |some vs=>some (zU vs,{eh with w:=au st.n eh.w++st.w})
   |none=>none
 |none=>none
def yk(mf:ji)(code:mB)(args:List V)(st:St):Option (V×St):=
 if mf.ntmps<args.length then none else
 Oi mf st (code none mf.body {r:=tI .nil 0 args,n:=mf.ntmps,marks:=[]} {st with w:=[]})
def BP(code:mB)(l:Nat)(args:List V)(st:St):Option (V×St):=
 match st.h.get l with
 |some (.loop R)=>match BO R.r R.n R.ps args with
  |none=>none
  |some r0=>match code (some l) R.assign {r:=r0,n:=R.n,marks:=[]} st with
   |some (.normal,dw,bR)=>match bR.h.get l with
    |some (.loop R1)=>
     if R1.st=.ready then
      match code (some l) R.body dw (bR.write l (.loop {R1 with st:=.busy}))with
      |some (e,_,eh)=>match eh.h.get l with
       |some (.loop R2)=>some (.bool (pK e).isNone,eh.write l (.loop {R2 with st:=FT (pK e),gC:=pK e}))
       |_=>none
      |none=>none
     else none
    |_=>none
   |_=>none
 |_=>none
def sS(dm:Nat->Option ji)(code:mB):cA
 |.func f first fC,args,st=>match dm f with
  |some mf=>yk mf code (first++args++fC) st
  |none=>none
 |.yield l,args,st=>BP code l args st
 |_,_,_=>none
def Oj:cA:=fun _ _ _=>none
end Go.Mx
