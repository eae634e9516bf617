/-
  The abstract machine M: values, heaps by ids, resolved code, and its deterministic run. No theorem on the Go model stands here.
-/
import Derived.RangeFuncLeaves
import Derived.OrdersIn
import Derived.RangeFuncRecord
set_option linter.all false
namespace Go.Mx
abbrev au:=@if_neg
abbrev bq:=@Prod.mk.injEq
abbrev aF:=@if_pos
abbrev dk:=@List.getElem?_eq_getElem
abbrev du:=@List.mem_of_getElem?
abbrev eF:=@List.take_of_length_le
abbrev dm:=@Int.natAbs_natCast
abbrev eI:=@List.getElem?_set_ne
abbrev eY:=@Nat.lt_of_lt_of_le
abbrev gJ:=@List.getElem?_eq_none
abbrev aj:=@Option.some.injEq
abbrev bh:=@List.length_cons
abbrev aS:=@Nat.le_refl
abbrev iE:=@Nat.add_mul
abbrev kg:=@List.map_cons
abbrev kb:=@List.mem_cons
abbrev qw:=@List.append_assoc
abbrev pV:=@List.take_add_one
abbrev og:=@List.drop_length
abbrev nA:=@Nat.min_eq_left
abbrev rQ:=@List.mem_of_mem_take
abbrev p_:=@Option.some.inj
abbrev oa:=@List.length_map
abbrev fx:=@Bool.false_eq_true
abbrev fG:=@List.getElem?_drop
abbrev iF:=@Option.map_eq_some_iff
abbrev fQ:=@List.length_append
abbrev iz:=@List.mem_cons_of_mem
abbrev lX:=@List.getElem?_append_left
abbrev fR:=@List.length_take
abbrev gV:=@List.getElem?_take
abbrev oI:=@Int.mul_le_mul_of_nonneg_left
abbrev jn:=@Nat.mul_le_mul_right
abbrev qa:=@List.eq_nil_of_length_eq_zero
abbrev jo:=@Nat.mul_le_mul_left
abbrev gW:=@Bool.and_eq_true
abbrev lW:=@List.getElem?_set_self
abbrev gK:=@List.cons.injEq
abbrev jk:=@List.mem_cons_self
abbrev jf:=@List.getElem?_map
abbrev pX:=@List.getElem?_append_right
abbrev fL:=@Nat.pow_succ
abbrev nC:=@Nat.div_lt_iff_lt_mul
abbrev gX:=@Nat.mul_comm
abbrev iy:=@List.mem_map
abbrev m7:=@List.ext_getElem?
abbrev qx:=@Nat.pow_le_pow_right
abbrev m8:=@List.all_eq_true
abbrev qc:=@Nat.lt_of_le_of_lt
abbrev re:=@Nat.add_zero
abbrev vN:=@Nat.le_of_not_lt
abbrev rf:=@Int.le_of_lt
abbrev vK:=@List.take_length
abbrev CS:=@Array.getD_eq_getD_getElem?
abbrev qy:=@Nat.mul_add
abbrev FO:=@Array.getElem?_setIfInBounds_ne
abbrev Bh:=@List.getElem?_cons_succ
abbrev Bi:=@Int.eq_ofNat_of_zero_le
abbrev uR:=@Nat.mul_le_mul
abbrev qd:=@Nat.lt_of_not_le
abbrev jH:=@Nat.pow_add
abbrev oF:=@List.mem_append
abbrev jg:=@Nat.mod_lt
abbrev uS:=@Nat.le_of_ble_eq_true
abbrev nD:=@Nat.add_assoc
abbrev yA:=@Int.tdiv_eq_ediv_of_nonneg
abbrev qz:=@Nat.two_pow_pos
abbrev vO:=@List.length_singleton
abbrev yB:=@List.getElem?_eq_some_iff
abbrev wU:=@List.drop_eq_nil_of_le
abbrev rR:=@Nat.lt_succ_self
abbrev ri:=@Nat.div_add_mod
abbrev Bj:=@Int.mul_le_mul_of_nonneg_right
abbrev wV:=@Array.getElem?_toList
abbrev yC:=@List.getElem?_cons_zero
abbrev rS:=@Nat.div_le_self
abbrev p9:=@Nat.le_trans
abbrev vM:=@List.mem_singleton
abbrev uT:=@List.append_nil
abbrev yD:=@List.take_append_drop
abbrev uU:=@Nat.mod_eq_of_lt
abbrev Bk:=@Int.tmod_eq_emod_of_nonneg
abbrev A8:=@List.mem_or_eq_of_mem_set
abbrev tO:=@Int.mul_nonneg
abbrev tP:=@Int.natAbs_mul
abbrev uV:=@Nat.not_lt
abbrev Bb:=@Option.getD_some
abbrev Bl:=@Int.le_of_not_gt
abbrev CT:=@Nat.eq_zero_or_pos
abbrev zB:=@List.mem_range
abbrev FR:=@Nat.le_div_iff_mul_le
abbrev wW:=@Nat.pow_pos
abbrev Bm:=@Int.emod_nonneg
abbrev CU:=@Bool.not_eq_true'
abbrev FT:=@List.getElem?_range
abbrev zC:=@List.getElem?_of_mem
abbrev rT:=@Nat.zero_add
abbrev wX:=@List.length_drop
abbrev wY:=@Nat.div_eq_of_lt
abbrev CV:=@List.drop_eq_getElem_cons
abbrev FU:=@Option.ite_none_left_eq_some
abbrev Bn:=@Int.mul_ediv_add_emod
abbrev wK:=@Option.map_some
abbrev yE:=@List.cons_append
abbrev tQ:=@Nat.zero_le
abbrev CW:=@Nat.div_div_eq_div_mul
abbrev zD:=@Nat.lt_of_succ_le
abbrev Ba:=@List.map_congr_left
abbrev vP:=@List.map_nil
abbrev zE:=@Nat.le_max_right
abbrev Bo:=@Int.emod_lt_of_pos
abbrev Bp:=@Rat.num_divInt_den
abbrev zG:=@Nat.mul_lt_mul''
abbrev uW:=@Nat.le_succ
abbrev yF:=@List.drop_zero
abbrev yG:=@Int.natAbs_neg
abbrev zH:=@Nat.le_max_left
abbrev zJ:=@Nat.div_lt_self
abbrev HM:=@Nat.mul_lt_mul_of_pos_right
abbrev CX:=@Nat.pow_le_pow_left
abbrev vQ:=@Nat.mul_one
abbrev CY:=@List.map_toArray
abbrev wZ:=@Array.ext'
abbrev yH:=@Nat.mul_pos
abbrev FV:=@List.mem_replicate
abbrev CZ:=@Bool.or_eq_true
abbrev HN:=@Nat.mul_mod_mul_right
abbrev C0:=@List.length_set
abbrev Bq:=@Nat.mul_assoc
abbrev HO:=@Int.ofNat_eq_natCast
abbrev C1:=@Bool.false_and
abbrev Q3:=@Array.all_eq_true_iff_forall_mem
abbrev FW:=@Int.lt_of_not_ge
abbrev Br:=@Nat.pow_zero
abbrev LF:=@Nat.gcd_pos_of_pos_right
abbrev FX:=@Int.natCast_mul
abbrev FY:=@Int.mul_ne_zero
abbrev LG:=@Nat.eq_of_beq_eq_true
abbrev LH:=@List.contains_iff_mem
abbrev LI:=@Nat.ble_eq_true_of_le
abbrev LJ:=@List.singleton_append
abbrev Q4:=@List.dropLast_concat_getLast
abbrev LK:=@Nat.mul_div_mul_right
inductive T (α:Type) where
 |nil
 |node (l:T α) (v:Option α) (r:T α)
def T.get{α:Type}:T α->Nat->Option α
 |.nil,_=>none
 |.node l v r,n=>
  match n with
  |0=>v
  |k+1=>match k%2 with
   |0=>l.get (k/2)
   |_=>r.get (k/2)
def T.eN{α:Type}:Nat->T α->Nat->α->T α
 |0,t,_,_=>t
 |f+1,.nil,n,a=>
  match n with
  |0=>.node .nil (some a) .nil
  |k+1=>match k%2 with
   |0=>.node (T.eN f .nil (k/2) a) none .nil
   |_=>.node .nil none (T.eN f .nil (k/2) a)
 |f+1,.node l v r,n,a=>
  match n with
  |0=>.node l (some a) r
  |k+1=>match k%2 with
   |0=>.node (T.eN f l (k/2) a) v r
   |_=>.node l v (T.eN f r (k/2) a)
def T.set{α:Type}(t:T α)(n:Nat)(a:α):T α:=T.eN (n+1) t n a
theorem T.w_{α:Type}(a:α):∀(f:Nat) (t:T α) (n m:Nat),n<f->(T.eN f t n a).get m=if m=n then some a else t.get m:=by
 intro f
 induction f with
 |zero=>intro t n m h;omega
 |succ f ih=>
  intro t n m h
  cases t with
  |nil=>
   cases n with
   |zero=>
    cases m with
    |zero=>simp[T.eN,T.get]
    |succ j=>simp only[T.eN,T.get];split<;>simp
   |succ k=>
    have hk:k/2<f:=by omega
    have h2:k%2=0\/k%2=1:=by omega
    rcases h2 with h2|h2
    ·cases m with
     |zero=>simp[T.eN,T.get,h2]
     |succ j=>
      have hj:j%2=0\/j%2=1:=by omega
      rcases hj with hj|hj
      ·simp only[T.eN,T.get,h2,hj,ih _ _ _ hk]
       by_cases e:j/2=k/2
       ·have:j=k:=by omega
        simp[this]
       ·have:¬j=k:=by intro e2;exact e (by rw[e2])
        simp[e,this]
      ·have:¬j=k:=by omega
       simp[T.eN,T.get,h2,hj,this]
    ·cases m with
     |zero=>simp[T.eN,T.get,h2]
     |succ j=>
      have hj:j%2=0\/j%2=1:=by omega
      rcases hj with hj|hj
      ·have:¬j=k:=by omega
       simp[T.eN,T.get,h2,hj,this]
      ·simp only[T.eN,T.get,h2,hj,ih _ _ _ hk]
       by_cases e:j/2=k/2
       ·have:j=k:=by omega
        simp[this]
       ·have:¬j=k:=by intro e2;exact e (by rw[e2])
        simp[e,this]
  |node l v r=>
   cases n with
   |zero=>cases m<;>simp[T.eN,T.get]
   |succ k=>
    have hk:k/2<f:=by omega
    have h2:k%2=0\/k%2=1:=by omega
    rcases h2 with h2|h2
    ·cases m with
     |zero=>simp[T.eN,T.get,h2]
     |succ j=>
      have hj:j%2=0\/j%2=1:=by omega
      rcases hj with hj|hj
      ·simp only[T.eN,T.get,h2,hj,ih _ _ _ hk]
       by_cases e:j/2=k/2
       ·have:j=k:=by omega
        simp[this]
       ·have:¬j=k:=by intro e2;exact e (by rw[e2])
        simp[e,this]
      ·have:¬j=k:=by omega
       simp[T.eN,T.get,h2,hj,this]
    ·cases m with
     |zero=>simp[T.eN,T.get,h2]
     |succ j=>
      have hj:j%2=0\/j%2=1:=by omega
      rcases hj with hj|hj
      ·have:¬j=k:=by omega
       simp[T.eN,T.get,h2,hj,this]
      ·simp only[T.eN,T.get,h2,hj,ih _ _ _ hk]
       by_cases e:j/2=k/2
       ·have:j=k:=by omega
        simp[this]
       ·have:¬j=k:=by intro e2;exact e (by rw[e2])
        simp[e,this]
theorem T.ai{α:Type}(t:T α)(n m:Nat)(a:α):(t.set n a).get m=if m=n then some a else t.get m:=
 T.w_ a (n+1) t n m (rR n)
inductive V where
 |bool (b:Bool)
 |int (k:IntKind) (n:Int)
 |rM (k:FloatKind) (bits:Nat)
 |str (s:List UInt8)
 |bD
 |ptr (i o:Nat)
 |aa
 |slice (i o len:Nat) (cap:Option Nat) (sz:Nat)
 |empty
 |bH
 |map (i:Nat)
 |bN
 |chan (i:Nat)
 |func (f:FuncId) (first cap:List V)
 |yield (i:Nat)
 |aG
 |iface (t:TypeId) (v:V)
 |aP
 |agg (l:List V)
 |aZ (l:List V)
instance:Inhabited V:=⟨.aZ []⟩
def V.cells:V->List V
 |.agg l=>l
 |v=>[v]
def V.one:V->Bool
 |.agg _|.aZ _=>false
 |_=>true
inductive Src where
 |tmp (t:Nat)
 |const (v:V)
inductive PK where
 |bool|int|str|ptr|slice|map|func|chan|iface
inductive pZ where
 |aI (k:PK)
 |node (parts:List (Nat×Option Nat×pZ))
inductive gU where
 |int (k:IntKind)
 |str
inductive Ext where
 |eJ|gQ|same|bE|jI
inductive gG where
 |aY (x:Src)
 |pick (c a b:Src)
 |alloc (zero:List V) (elem:TypeId)
 |box (elem:TypeId) (x:Src)
 |build (zero:List V) (parts:List (Nat×Nat×Src))
 |aO (elem:TypeId) (size len:Nat) (zero:List V) (parts:List (Nat×Nat×Src))
 |load (n:Option Nat) (a:Src)
 |store (n:Nat) (a x:Src)
 |fy (x:Src)
 |bin (op:BinOp) (t:pZ) (ng:Bool) (x y:Src)
 |un (op:UnOp) (x:Src)
 |bb (k:IntKind) (x:Src)
 |kf (x:Src)
 |fN (elem:TypeId) (x:Src)
 |eZ (x:Src)
 |eK (t:TypeId) (x:Src)
 |bM (f:FuncId) (first fE:List Src)
 |qu
 |oh (bytes:Nat) (n:Src)
 |bO (elem:TypeId) (size bytes:Nat) (zero:List V) (len cap:Src)
 |az (x:Src) (lo hi:Option Src)
 |dX (size:Nat) (x:Src) (lo hi mx:Option Src)
 |cP (n size:Nat) (x:Src) (lo hi mx:Option Src)
 |de (off:Nat) (x:Src)
 |field (off:Nat) (n:Option Nat) (x:Src)
 |dG (len size:Nat) (x i:Src)
 |aN (size:Nat) (x i:Src)
 |oo (len size:Nat) (n:Option Nat) (x i:Src)
 |aQ (x i:Src)
 |lookup (kd:gU) (zero:V) (m k:Src) (ok:Bool)
 |ot (kd:gU) (m k v:Src)
 |C2 (kd:gU) (zero:V) (m k:Src)
 |C3 (m s v:Src)
 |iD (x:Src)
 |oA (it:Src)
 |extract (x:Src) (i:Nat)
 |len (k:Nat) (x:Src)
 |lY (n:Nat)
 |cap (x:Src)
 |mn (args:List Src)
 |mx (args:List Src)
 |append (size bytes:Nat) (elem:TypeId) (zero:List V) (s x:Src)
 |copy (size:Nat) (d s:Src)
 |clear (size:Nat) (zero:List V) (s:Src)
 |call (f:Src) (args:List Src)
 |ext (e:Ext) (args:List Src)
 |FM (e:Option (TypeId×Nat)) (x:Src)
 |tJ (x:Src)
 |zz (e:TypeId) (x n:Src)
 |stop
structure df where
 dst:Option Nat
 op:gG
 guard:Option (Nat×Bool)
inductive aq where
 |skip
 |aM (ops:List df)
 |aV (ops:List df) (nE:List Nat)
 |uP (dst:Option Nat) (ch:Src) (send:Option Src) (zero:V) (ops:List df)
 |seq (a b:aq)
 |cond (c:Src) (a b:aq)
 |block (id:Nat) (c:aq)
 |loop (c:aq)
 |oC (g:Src) (ps:List Nat) (assign body:aq)
 |exit (id:Nat)
 |scope (c:aq)
 |ret
 |stop
inductive CP where
 |tmp (t:Nat)
 |cell (t:Nat) (n:Option Nat)
structure jE where
 ntmps:Nat
 results:List CP
 body:aq
inductive Ex where
 |normal
 |exit (id:Nat)
 |ret
structure WD where
 st:LoopState
 gI:Option Ex
 r:T V
 n:Nat
 ps:List Nat
 assign:aq
 body:aq
 defs:Nat
inductive O where
 |cells (c:List V) (elem:TypeId) (rw:Bool)
 |map (es:List (V×V))
 |chan (cap:Nat) (buf:List V)
 |dT (s:List UInt8) (pos:Nat)
 |loop (l:WD)
 |defs (Q5:Bool)
 |dead
def O.wr:O->Bool
 |.cells _ _ rw=>rw
 |.dead=>false
 |_=>true
def O.live:O->Bool
 |.dead=>false
 |_=>true
structure St where
 h:T O
 n:Nat
 w:List Nat
def St.alloc(st:St)(o:O):St:={st with h:=st.h.set st.n o,n:=st.n+1}
def St.write(st:St)(i:Nat)(o:O):St:={st with h:=st.h.set i o,w:=i::st.w}
structure Fr where
 r:T V
 n:Nat
 marks:List Nat
def Src.ev(r:T V):Src->Option V
 |.tmp t=>r.get t
 |.const v=>some v
def rj(r:T V):List Src->Option (List V)
 |[]=>some []
 |x::xs=>match x.ev r,rj r xs with
  |some v,some vs=>some (v::vs)
  |_,_=>none
def ay(r:T V):Option Src->Option (Option V)
 |none=>some none
 |some x=>match x.ev r with
  |some v=>some (some v)
  |none=>none
def aJ{α:Type}(c:List α)(o n:Nat):Option (List α):=if o+n<=c.length then some ((c.drop o).take n) else none
def ag{α:Type}(c:List α)(o:Nat)(vs:List α):List α:=c.take o++vs++c.drop (o+vs.length)
def yI(cells:List V):List (Nat×Nat×V)->Option (List V)
 |[]=>some cells
 |(off,size,v)::rest=>
  if v.cells.length=size/\off+size<=cells.length then yI (ag cells off v.cells) rest else none
def yJ(r:T V):List (Nat×Nat×Src)->Option (List (Nat×Nat×V))
 |[]=>some []
 |(o,s,x)::rest=>match x.ev r,yJ r rest with
  |some v,some vs=>some ((o,s,v)::vs)
  |_,_=>none
def aU(cs:List V)(off:Nat):Option Nat->Option V
 |none=>cs[off]?
 |some n=>match aJ cs off n with
  |some l=>some (.agg l)
  |none=>none
def dJ(ng:Bool):PK->V->V->Option Bool
 |.bool,.bool a,.bool b=>some (a==b)
 |.int,.int k a,.int k' b=>if k=k' then some (a==b) else none
 |.str,.str a,.str b=>some (a==b)
 |.ptr,.bD,.bD=>some true
 |.ptr,.bD,.ptr _ _=>some false
 |.ptr,.ptr _ _,.bD=>some false
 |.ptr,.ptr i o,.ptr j p=>if i=j/\o=p then some true else none
 |.slice,.aa,.aa=>some true
 |.slice,.aa,.slice ..=>some false
 |.slice,.slice ..,.aa=>some false
 |.slice,.aa,.empty=>some false
 |.slice,.empty,.aa=>some false
 |.map,.bH,.bH=>some true
 |.map,.bH,.map _=>some false
 |.map,.map _,.bH=>some false
 |.func,.aG,.aG=>some true
 |.func,.aG,.func ..=>some false
 |.func,.func ..,.aG=>some false
 |.chan,.bN,.bN=>some true
 |.chan,.bN,.chan _=>some false
 |.chan,.chan _,.bN=>some false
 |.iface,.aP,.aP=>if ng then some true else none
 |.iface,.aP,.iface ..=>some false
 |.iface,.iface ..,.aP=>some false
 |_,_,_=>none
mutual
def tR(ng:Bool):pZ->V->V->Option Bool
 |.aI k,x,y=>dJ ng k x y
 |.node ps,.agg xs,.agg ys=>HP ps xs ys
 |_,_,_=>none
def HP:List (Nat×Option Nat×pZ)->List V->List V->Option Bool
 |[],_,_=>some true
 |(off,n,t)::rest,xs,ys=>
  match aU xs off n,aU ys off n with
  |some x,some y=>match tR false t x y with
   |some true=>HP rest xs ys
   |some false=>some false
   |none=>none
  |_,_=>none
end
def bn(k:IntKind)(n:Int):Int:=
 match k,n with
 |.i64,.ofNat a=>match Nat.blt a 9223372036854775808 with
  |true=>.ofNat a
  |false=>IntKind.wrap .i64 (.ofNat a)
 |.i64,.negSucc a=>match Nat.blt a 9223372036854775808 with
  |true=>.negSucc a
  |false=>IntKind.wrap .i64 (.negSucc a)
 |.u64,.ofNat a=>.ofNat (Nat.mod a 18446744073709551616)
 |.u8,.ofNat a=>.ofNat (Nat.mod a 256)
 |.i32,.ofNat a=>match Nat.blt a 2147483648 with
  |true=>.ofNat a
  |false=>IntKind.wrap .i32 (.ofNat a)
 |.u32,.ofNat a=>.ofNat (Nat.mod a 4294967296)
 |k,n=>k.wrap n
theorem xa(k:IntKind)(n:Int):bn k n=k.wrap n:=by
 unfold bn
 split
 ·rename_i a
  split
  ·rename_i h
   have h':a<9223372036854775808:=zD (uS h)
   simp only[IntKind.wrap,IntKind.bits,IntKind.signed,HO]
   simp;omega
  ·rfl
 ·rename_i a
  split
  ·rename_i h
   have h':a<9223372036854775808:=zD (uS h)
   have e:(Int.negSucc a)= -(a:Int)-1:=by omega
   simp only[IntKind.wrap,IntKind.bits,IntKind.signed,e]
   simp;omega
  ·rfl
 ·rename_i a
  show Int.ofNat (a%18446744073709551616)=_
  simp only[IntKind.wrap,IntKind.bits,IntKind.signed,HO]
  simp
 ·rename_i a
  show Int.ofNat (a%256)=_
  simp only[IntKind.wrap,IntKind.bits,IntKind.signed,HO]
  simp
 ·rename_i a
  split
  ·rename_i h
   have h':a<2147483648:=zD (uS h)
   simp only[IntKind.wrap,IntKind.bits,IntKind.signed,HO]
   simp;omega
  ·rfl
 ·rename_i a
  show Int.ofNat (a%4294967296)=_
  simp only[IntKind.wrap,IntKind.bits,IntKind.signed,HO]
  simp
 ·rfl
def oJ(op:BinOp)(k:IntKind)(a b:Int):Option V:=
 match op with
 |.add=>some (.int k (bn k (a+b)))
 |.sub=>some (.int k (bn k (a-b)))
 |.mul=>some (.int k (bn k (a*b)))
 |.quo=>if b=0 then none else some (.int k (bn k (a.tdiv b)))
 |.rem=>if b=0 then none else some (.int k (a.tmod b))
 |.and=>some (.int k (k.wrap (BitVec.ofInt k.bits a&&& BitVec.ofInt k.bits b).toNat))
 |.or=>some (.int k (k.wrap (BitVec.ofInt k.bits a|||BitVec.ofInt k.bits b).toNat))
 |.xor=>some (.int k (k.wrap (BitVec.ofInt k.bits a^^^BitVec.ofInt k.bits b).toNat))
 |.andNot=>some (.int k (k.wrap (BitVec.ofInt k.bits a&&& ~~~ BitVec.ofInt k.bits b).toNat))
 |.eql=>some (.bool (a==b))
 |.neq=>some (.bool (a !=b))
 |.lss=>some (.bool (decide (a<b)))
 |.leq=>some (.bool (decide (a<=b)))
 |.gtr=>some (.bool (decide (a > b)))
 |.geq=>some (.bool (decide (a≥b)))
 |_=>none
def vR(op:BinOp)(k:IntKind)(a b:Int):Option V:=
 if b<0 then none else
  match op with
  |.shl=>some (.int k (k.wrap (a*2^(min b.toNat k.bits))))
  |.shr=>some (.int k (a.fdiv (2^(min b.toNat k.bits))))
  |_=>none
def gj(op:BinOp)(x y:List UInt8):Option V:=
 match op with
 |.add=>if ((x.length+y.length:Nat):Int) > IntKind.i64.max then none else some (.str (x++y))
 |.eql=>some (.bool (x==y))
 |.neq=>some (.bool (!(x==y)))
 |.lss=>some (.bool (Op.bytesLess x y))
 |.leq=>some (.bool (Op.bytesLess x y||x==y))
 |.gtr=>some (.bool (!(Op.bytesLess x y||x==y)))
 |.geq=>some (.bool (!(Op.bytesLess x y)))
 |_=>none
def Q6(op:BinOp)(t:pZ)(ng:Bool):V->V->Option V
 |.int k a,.int k' b=>
  match op with
  |.shl=>vR .shl k a b
  |.shr=>vR .shr k a b
  |_=>if k=k' then oJ op k a b else none
 |.str a,.str b=>gj op a b
 |x,y=>match op with
  |.eql=>match tR ng t x y with
   |some b=>some (.bool b)
   |none=>none
  |.neq=>match tR ng t x y with
   |some b=>some (.bool (!b))
   |none=>none
  |_=>none
def Q7:UnOp->V->Option V
 |.neg,.int k n=>some (.int k (k.wrap (0-n)))
 |.xor,.int k n=>some (.int k (k.wrap (BitVec.ofInt k.bits (if k.signed then -1 else k.max)^^^BitVec.ofInt k.bits n).toNat))
 |.not,.bool b=>some (.bool (!b))
 |_,_=>none
def jq(v:V)(y:Nat):Option Nat:=
 match v with
 |.int _ n=>if 0<=n/\n<=(y:Int) then some n.toNat else none
 |_=>none
def cR(v:Option V)(y Q8:Nat):Option Nat:=
 match v with
 |some v=>jq v y
 |none=>some Q8
def St.row(st:St)(i:Nat):Option (List V×TypeId×Bool):=
 match st.h.get i with
 |some (.cells c e rw)=>some (c,e,rw)
 |_=>none
def cN(zero:List V)(n:Nat):List V:=(List.range (n*zero.length)).map fun i=>zero.getD (i%zero.length) (.aZ [])
def eC(st:St)(size:Nat):V->Option (Nat×List V)
 |.aa=>some (0,[])
 |.empty=>some (0,[])
 |.slice j p m _ sz=>if sz=size then match st.row j with
   |some (c,_,_)=>match aJ c p (m*size)with
    |some l=>some (m,l)
    |none=>none
   |none=>none
  else none
 |.str s=>if size=1 then some (s.length,s.map fun b=>.int .u8 b.toNat) else none
 |_=>none
def yK:Nat:=2^48
def jQ(st:St)(size bytes:Nat)(elem:TypeId)(s x:V):Option (V×St):=
 match eC st size x with
 |none=>none
 |some (n,xs)=>
  match s with
  |.aa=>
   if n=0 then some (.aa,st)
   else if 2*n*bytes<=yK/\size≠0 then some (.slice st.n 0 n none size,st.alloc (.cells xs elem true)) else none
  |.slice i o len cap sz=>
   if n=0 then (if sz=size then some (s,st) else none)
   else if sz≠size\/size=0\/yK<2*(len+n)*bytes then none else
   match st.row i with
   |none=>none
   |some (c,e,rw)=>
    match cap with
    |some k=>
     if len+n<=k then
      (if rw=true/\o+(len+n)*size<=c.length then some (.slice i o (len+n) cap sz,st.write i (.cells (ag c (o+len*size) xs) e rw)) else none)
     else match aJ c o (len*size)with
      |some old=>some (.slice st.n 0 (len+n) none size,st.alloc (.cells (old++xs) elem true))
      |none=>none
    |none=>
     if rw=true then
      if o+(len+n)*size<=c.length then some (.slice i o (len+n) none sz,st.write i (.cells (ag c (o+len*size) xs) e rw))
      else if o+len*size=c.length/\e=elem/\o=0 then
       some (.slice st.n 0 (len+n) none size,(st.write i .dead).alloc (.cells (c.drop o++xs) elem true))
      else none
     else none
  |_=>none
def FZ:gU->V->V->Option Bool
 |.int k,.int a x,.int b y=>if a=k/\b=k then some (x==y) else none
 |.str,.str x,.str y=>some (x==y)
 |_,_,_=>none
def dV(kd:gU)(k:V):List (V×V)->Nat->Option (Option (Nat×V))
 |[],_=>some none
 |(a,v)::es,i=>
  match FZ kd k a with
  |some true=>some (some (i,v))
  |some false=>dV kd k es (i+1)
  |none=>none
def gU.fits:gU->V->Bool
 |.int k,.int k' _=>k=k'
 |.str,.str _=>true
 |_,_=>false
def tU:List V->Option V
 |[]=>none
 |[x]=>some x
 |.int k a::.int _ b::rest=>tU (.int k (if b<a then b else a)::rest)
 |_=>none
termination_by l=>l.length
def tV:List V->Option V
 |[]=>none
 |[x]=>some x
 |.int k a::.int _ b::rest=>tV (.int k (if a<b then b else a)::rest)
 |_=>none
termination_by l=>l.length
def uX:V->List V->Option V
 |x,[]=>some x
 |.int k a,.int _ b::rest=>uX (.int k (if b<a then b else a)) rest
 |_,_=>none
def zK:List V->Option V
 |[]=>none
 |x::xs=>uX x xs
def vS:V->List V->Option V
 |x,[]=>some x
 |.int k a,.int _ b::rest=>vS (.int k (if a<b then b else a)) rest
 |_,_=>none
def yL:List V->Option V
 |[]=>none
 |x::xs=>vS x xs
theorem WE:∀(xs:List V) (x:V),uX x xs=tU (x::xs)
 |[],x=>by simp[uX,tU]
 |y::ys,x=>by
  cases x with
  |int k a=>
   cases y with
   |int k' b=>simp only[uX,tU];exact WE ys _
   |_=>simp[uX,tU]
  |_=>simp[uX,tU]
theorem Yky(l:List V):zK l=tU l:=by
 cases l with
 |nil=>simp[zK,tU]
 |cons x xs=>exact WE xs x
theorem WG:∀(xs:List V) (x:V),vS x xs=tV (x::xs)
 |[],x=>by simp[vS,tV]
 |y::ys,x=>by
  cases x with
  |int k a=>
   cases y with
   |int k' b=>simp only[vS,tV];exact WG ys _
   |_=>simp[vS,tV]
  |_=>simp[vS,tV]
theorem Yk1(l:List V):yL l=tV l:=by
 cases l with
 |nil=>simp[yL,tV]
 |cons x xs=>exact WG xs x
def C4(c:UInt8):List UInt8->Nat->Int
 |[],_=> -1
 |b::rest,i=>if b==c then (i:Int) else C4 c rest (i+1)
def zL:Ext->List V->Option V
 |.eJ,[.int .u64 x,.int .u64 y,.int .u64 c]=>if ¬(c=0\/c=1) then none else
   some (.aZ [.int .u64 (Int.ofNat ((x.toNat+y.toNat+c.toNat)%2^64)),.int .u64 (Int.ofNat ((x.toNat+y.toNat+c.toNat)/2^64))])
 |.gQ,[.int .u64 x,.int .u64 y,.int .u64 b]=>if ¬(b=0\/b=1) then none else
   some (.aZ [.int .u64 (Int.ofNat ((x.toNat+2^64-y.toNat-b.toNat)%2^64)),.int .u64 (if x.toNat<y.toNat+b.toNat then 1 else 0)])
 |.bE,[.str s,.int .u8 c]=>some (.int .i64 (C4 c.toNat.toUInt8 s 0))
 |_,_=>none
abbrev cm:=V->List V->St->Option (V×St)
def LL(op:BinOp)(t:pZ)(st:St)(i j:Nat):Option (V×St):=
 match op,t,st.h.get i,st.h.get j with
 |.eql,.aI .chan,some (.chan ..),some (.chan ..)=>some (.bool (i==j),st)
 |.neq,.aI .chan,some (.chan ..),some (.chan ..)=>some (.bool (!(i==j)),st)
 |_,_,_,_=>none
abbrev dL:=cm->T V->St->Option (V×St)
def C5(x:Src):dL:=fun _ r st=>match x.ev r with
  |some v=>some (v,st)
  |none=>none
def Bs(c:Src)(a:Src)(b:Src):dL:=fun _ r st=>match c.ev r with
  |some (.bool true)=>match a.ev r with
   |some v=>some (v,st)
   |none=>none
  |some (.bool false)=>match b.ev r with
   |some v=>some (v,st)
   |none=>none
  |_=>none
def F0(zero:List V)(elem:TypeId):dL:=fun _ _ st=>some (.ptr st.n 0,st.alloc (.cells zero elem true))
def C6(elem:TypeId)(x:Src):dL:=fun _ r st=>match x.ev r with
  |some v=>if v.cells.all V.one then some (.ptr st.n 0,st.alloc (.cells v.cells elem true)) else none
  |none=>none
def zM(zero:List V)(parts:List (Nat×Nat×Src)):dL:=fun _ r st=>match yJ r parts with
  |some ps=>match yI zero ps with
   |some l=>some (.agg l,st)
   |none=>none
  |none=>none
def C7(elem:TypeId)(size:Nat)(len:Nat)(zero:List V)(parts:List (Nat×Nat×Src)):dL:=fun _ r st=>match yJ r parts with
  |some ps=>match yI zero ps with
   |some l=>if l.all V.one then some (.slice st.n 0 len (some len) size,st.alloc (.cells l elem true)) else none
   |none=>none
  |none=>none
def C8(n:Option Nat)(a:Src):dL:=fun _ r st=>match a.ev r with
  |some (.ptr i o)=>match st.row i with
   |some (c,_,_)=>match aU c o n with
    |some v=>some (v,st)
    |none=>none
   |none=>none
  |_=>none
def Bt(n:Nat)(a:Src)(x:Src):dL:=fun _ r st=>match a.ev r,x.ev r with
  |some (.ptr i o),some v=>match st.row i with
   |some (c,e,true)=>if v.cells.length=n/\o+n<=c.length/\v.cells.all V.one=true then some (.aZ [],st.write i (.cells (ag c o v.cells) e true)) else none
   |_=>none
  |_,_=>none
def C9(x:Src):dL:=fun _ r st=>match x.ev r with
  |some (.ptr i o)=>some (.ptr i o,st)
  |some (.func f a l)=>some (.func f a l,st)
  |_=>none
def Da(op:BinOp)(t:pZ)(ng:Bool)(x:Src)(y:Src):dL:=fun _ r st=>match x.ev r,y.ev r with
  |some (.chan i),some (.chan j)=>LL op t st i j
  |some a,some b=>match Q6 op t ng a b with
   |some v=>some (v,st)
   |none=>none
  |_,_=>none
def Db(op:UnOp)(x:Src):dL:=fun _ r st=>match x.ev r with
  |some a=>match Q7 op a with
   |some v=>some (v,st)
   |none=>none
  |none=>none
def Dc(k:IntKind)(x:Src):dL:=fun _ r st=>match x.ev r with
  |some (.int _ n)=>some (.int k (bn k n),st)
  |_=>none
def F3(x:Src):dL:=fun _ r st=>match x.ev r with
  |some (.str s)=>some (.str s,st)
  |_=>none
def Bu(elem:TypeId)(x:Src):dL:=fun _ r st=>match x.ev r with
  |some (.str s)=>some (.slice st.n 0 s.length none 1,st.alloc (.cells (s.map fun b=>.int .u8 b.toNat) elem true))
  |_=>none
def Dd(x:Src):dL:=fun _ r st=>match x.ev r with
  |some .aa=>some (.str [],st)
  |some (.slice i o len _ 1)=>match st.row i with
   |some (c,_,_)=>match aJ c o len with
    |some l=>match l.mapM (fun v=>match v with|.int .u8 n=>some (UInt8.ofNat n.toNat)|_=>none)with
     |some s=>some (.str s,st)
     |none=>none
    |none=>none
   |none=>none
  |_=>none
def F4(t:TypeId)(x:Src):dL:=fun _ r st=>match x.ev r with
  |some v=>some (.iface t v,st)
  |none=>none
def De(f:FuncId)(first:List Src)(fE:List Src):dL:=fun _ r st=>match rj r first,rj r fE with
  |some a,some l=>some (.func f a l,st)
  |_,_=>none
def F5:dL:=fun _ _ st=>some (.map st.n,st.alloc (.map []))
def Bv(bytes:Nat)(n:Src):dL:=fun _ r st=>match n.ev r with
  |some (.int _ k)=>if k<0\/k > IntKind.i64.max\/bytes*k > 2^48-112 then none else some (.chan st.n,st.alloc (.chan k.toNat []))
  |_=>none
def zN(elem:TypeId)(size:Nat)(bytes:Nat)(zero:List V)(len:Src)(cap:Src):dL:=fun _ r st=>match len.ev r,cap.ev r with
  |some (.int _ l),some (.int _ c)=>
   if 0<=l/\l<=c/\bytes*c<=2^47/\c<2^62/\size=zero.length/\size≠0 then
    some (.slice st.n 0 l.toNat (some c.toNat) size,st.alloc (.cells (cN zero c.toNat) elem true)) else none
  |_,_=>none
def vT(x:Src)(lo:Option Src)(hi:Option Src):dL:=fun _ r st=>match x.ev r,ay r lo,ay r hi with
  |some (.str s),some lo,some hi=>
   match cR hi s.length s.length with
   |some h=>match cR lo h 0 with
    |some l=>some (.str ((s.take h).drop l),st)
    |none=>none
   |none=>none
  |_,_,_=>none
def oK(size:Nat)(x:Src)(lo:Option Src)(hi:Option Src)(mx:Option Src):dL:=fun _ r st=>match x.ev r,ay r lo,ay r hi,ay r mx with
  |some .aa,some lo,some hi,some mx=>
   match cR mx 0 0 with
   |some _=>match cR hi 0 0 with
    |some _=>match cR lo 0 0 with
     |some _=>if mx.isSome&&hi.isNone then none else some (.aa,st)
     |none=>none
    |none=>none
   |none=>none
  |some .empty,some lo,some hi,some none=>
   match cR hi 0 0 with
   |some _=>match cR lo 0 0 with
    |some _=>some (.empty,st)
    |none=>none
   |none=>none
  |some (.slice i o len (some c) sz),some lo,some hi,some mx=>
   if sz≠size\/(mx.isSome&&hi.isNone) then none else
   match cR mx c c with
   |some m=>match cR hi m len with
    |some h=>match cR lo h 0 with
     |some l=>some (.slice i (if m=l then o else o+l*size) (h-l) (some (m-l)) sz,st)
     |none=>none
    |none=>none
   |none=>none
  |some (.slice i o len none sz),some lo,some hi,some mx=>
   if sz≠size\/size=0\/(mx.isSome&&hi.isNone) then none else
   match st.row i with
   |some (c,_,_)=>
    let k:=max len ((c.length-o)/size)
    match mx with
    |some m=>match jq m k with
     |some m=>match cR hi m len with
      |some h=>match cR lo h 0 with
       |some l=>some (.slice i (if m=l then o else o+l*size) (h-l) (some (m-l)) sz,st)
       |none=>none
      |none=>none
     |none=>none
    |none=>match cR hi k len with
     |some h=>match cR lo h 0 with
      |some l=>if l<k then some (.slice i (o+l*size) (h-l) none sz,st) else some (.empty,st)
      |none=>none
     |none=>none
   |none=>none
  |_,_,_,_=>none
def xb(n:Nat)(size:Nat)(x:Src)(lo:Option Src)(hi:Option Src)(mx:Option Src):dL:=fun _ r st=>match x.ev r,ay r lo,ay r hi,ay r mx with
  |some (.ptr i o),some lo,some hi,some none=>
   match cR hi n n with
   |some h=>match cR lo h 0 with
    |some l=>match st.row i with
     |some (c,_,_)=>if o+n*size<=c.length/\mx.isNone then some (.slice i (if n=l then o else o+l*size) (h-l) (some (n-l)) size,st) else none
     |none=>none
    |none=>none
   |none=>none
  |_,_,_,_=>none
def Df(off:Nat)(x:Src):dL:=fun _ r st=>match x.ev r with
  |some (.ptr i o)=>some (.ptr i (o+off),st)
  |_=>none
def Dh(off:Nat)(n:Option Nat)(x:Src):dL:=fun _ r st=>match x.ev r with
  |some (.agg cs)=>match aU cs off n with
   |some v=>some (v,st)
   |none=>none
  |_=>none
def zO(len:Nat)(size:Nat)(x:Src)(i:Src):dL:=fun _ r st=>match x.ev r,i.ev r with
  |some (.ptr a o),some (.int _ k)=>if 0<=k/\k<(len:Int) then some (.ptr a (o+k.toNat*size),st) else none
  |_,_=>none
def Bw(size:Nat)(x:Src)(i:Src):dL:=fun _ r st=>match x.ev r,i.ev r with
  |some (.slice a o len _ _),some (.int _ k)=>if 0<=k/\k<(len:Int) then some (.ptr a (o+k.toNat*size),st) else none
  |_,_=>none
def F6(len:Nat)(size:Nat)(n:Option Nat)(x:Src)(i:Src):dL:=fun _ r st=>match x.ev r,i.ev r with
  |some (.agg cs),some (.int _ k)=>if 0<=k/\k<(len:Int) then match aU cs (k.toNat*size) n with
    |some v=>some (v,st)
    |none=>none
   else none
  |_,_=>none
def Bx(x:Src)(i:Src):dL:=fun _ r st=>match x.ev r,i.ev r with
  |some (.str s),some (.int _ k)=>if 0<=k then match s[k.toNat]? with
    |some b=>some (.int .u8 b.toNat,st)
    |none=>none
   else none
  |_,_=>none
def Dj(kd:gU)(zero:V)(m:Src)(k:Src)(ok:Bool):dL:=fun _ r st=>match m.ev r,k.ev r with
  |some m,some k=>
   if kd.fits k then
    match (match m with
     |.bH=>some []
     |.map i=>match st.h.get i with
      |some (.map es)=>some es
      |_=>none
     |_=>none)with
    |some es=>match dV kd k es 0 with
     |some (some (_,v))=>some (if ok then .aZ [v,.bool true] else v,st)
     |some none=>some (if ok then .aZ [zero,.bool false] else zero,st)
     |none=>none
    |none=>none
   else none
  |_,_=>none
def By(kd:gU)(m:Src)(k:Src)(v:Src):dL:=fun _ r st=>match m.ev r,k.ev r,v.ev r with
  |some (.map i),some k,some v=>
   if kd.fits k then
    match st.h.get i with
    |some (.map es)=>match dV kd k es 0 with
     |some (some (j,_))=>some (.aZ [],st.write i (.map (es.set j (k,v))))
     |some none=>some (.aZ [],st.write i (.map (es++[(k,v)])))
     |none=>none
    |_=>none
   else none
  |_,_,_=>none
def WH(kd:gU)(zero:V)(m:Src)(k:Src):dL:=fun _ r st=>match m.ev r,k.ev r with
  |some (.map i),some k=>
   if kd.fits k then
    match st.h.get i with
    |some (.map es)=>match dV kd k es 0 with
     |some (some (j,v))=>some (.aZ [v,.int .i64 j],st.write i (.map (es.set j (k,v))))
     |some none=>some (.aZ [zero,.int .i64 es.length],st.write i (.map (es++[(k,zero)])))
     |none=>none
    |_=>none
   else none
  |_,_=>none
def Q9(m:Src)(s:Src)(v:Src):dL:=fun _ r st=>match m.ev r,s.ev r,v.ev r with
  |some (.map i),some (.int _ j),some v=>
   match st.h.get i with
   |some (.map es)=>if 0<=j then match es[j.toNat]? with
     |some (k,_)=>some (.aZ [],st.write i (.map (es.set j.toNat (k,v))))
     |none=>none
    else none
   |_=>none
  |_,_,_=>none
def Dk(x:Src):dL:=fun _ r st=>match x.ev r with
  |some (.str s)=>some (.ptr st.n 0,st.alloc (.dT s 0))
  |_=>none
def Dl(it:Src):dL:=fun _ r st=>match it.ev r with
  |some (.ptr i 0)=>match st.h.get i with
   |some (.dT s pos)=>
    if pos<s.length then
     let cw:=Utf8.decode ⟨s.toArray⟩ pos
     some (.aZ [.bool true,.int .i64 pos,.int .i32 cw.1],st.write i (.dT s (pos+cw.2)))
    else some (.aZ [.bool false],st)
   |_=>none
  |_=>none
def Dm(x:Src)(i:Nat):dL:=fun _ r st=>match x.ev r with
  |some (.aZ vs)=>match vs[i]? with
   |some v=>some (v,st)
   |none=>none
  |_=>none
def uY(k:Nat)(x:Src):dL:=fun _ r st=>match k,x.ev r with
  |0,some (.str s)=>some (.int .i64 s.length,st)
  |1,some .aa=>some (.int .i64 0,st)
  |1,some .empty=>some (.int .i64 0,st)
  |1,some (.slice _ _ n _ _)=>some (.int .i64 n,st)
  |2,some .bH=>some (.int .i64 0,st)
  |2,some (.map i)=>match st.h.get i with
   |some (.map es)=>some (.int .i64 es.length,st)
   |_=>none
  |_,_=>none
def HQ(n:Nat):dL:=fun _ _ st=>some (.int .i64 n,st)
def F7(x:Src):dL:=fun _ r st=>match x.ev r with
  |some .aa=>some (.int .i64 0,st)
  |some (.slice _ _ _ (some c) _)=>some (.int .i64 c,st)
  |_=>none
def vU(args:List Src):dL:=fun _ r st=>match rj r args with
  |some l=>match zK l with
   |some v=>some (v,st)
   |none=>none
  |none=>none
def oL(args:List Src):dL:=fun _ r st=>match rj r args with
  |some l=>match yL l with
   |some v=>some (v,st)
   |none=>none
  |none=>none
def zP(size:Nat)(bytes:Nat)(elem:TypeId)(_:List V)(s:Src)(x:Src):dL:=fun _ r st=>match s.ev r,x.ev r with
  |some s,some x=>jQ st size bytes elem s x
  |_,_=>none
def Bz(size:Nat)(d:Src)(s:Src):dL:=fun _ r st=>match d.ev r,s.ev r with
  |some d,some s=>match eC st size s with
   |some (n,xs)=>match d with
    |.aa=>some (.int .i64 0,st)
    |.slice i o len _ sz=>
     if sz≠size\/size=0 then none else
     let k:=min n len
     if k=0 then some (.int .i64 0,st) else
     match st.row i with
     |some (c,e,true)=>if o+k*size<=c.length then some (.int .i64 k,st.write i (.cells (ag c o (xs.take (k*size))) e true)) else none
     |_=>none
    |_=>none
   |none=>none
  |_,_=>none
def F8(size:Nat)(zero:List V)(s:Src):dL:=fun _ r st=>match s.ev r with
  |some .aa=>some (.aZ [],st)
  |some .empty=>some (.aZ [],st)
  |some (.slice i o len _ sz)=>
   if len=0 then some (.aZ [],st) else
   if sz≠size\/size=0\/zero.length≠size then none else
   match st.row i with
   |some (c,e,true)=>if o+len*size<=c.length then some (.aZ [],st.write i (.cells (ag c o (cN zero len)) e true)) else none
   |_=>none
  |_=>none
def vV(f:Src)(args:List Src):dL:=fun call r st=>match f.ev r,rj r args with
  |some f,some l=>call f l st
  |_,_=>none
def Dp(e:Ext)(args:List Src):dL:=fun _ r st=>match e,rj r args with
  |.same,some [v]=>some (v,st)
  |e,some l=>match zL e l with
   |some v=>some (v,st)
   |none=>none
  |_,none=>none
def BA(e:Option (TypeId×Nat))(x:Src):dL:=fun _ r st=>match x.ev r with
  |some (.ptr i 0)=>match st.row i with
   |some (c,e',true)=>match e with
    |none=>if 0<c.length then some (.ptr i 0,st) else none
    |some (u,z)=>if e'=u/\0<z/\z<=c.length then some (.ptr i 0,st) else none
   |_=>none
  |_=>none
def F9(x:Src):dL:=fun _ r st=>match x.ev r with
  |some (.slice i o len _ _)=>if 0<len then some (.ptr i o,st) else none
  |_=>none
def LM:V->Option UInt8
 |.int .u8 n=>if 0<=n/\n<256 then some n.toNat.toUInt8 else none
 |_=>none
def Dq:List V->Option (List UInt8)
 |[]=>some []
 |v::l=>match LM v,Dq l with
  |some b,some s=>some (b::s)
  |_,_=>none
def Ga(e:TypeId)(x n:Src):dL:=fun _ r st=>match x.ev r,n.ev r with
  |some (.ptr i 0),some (.int .i64 k)=>if 0<k/\k<=9223372036854775807 then
    match st.row i with
    |some (c,e',true)=>if e'=e then
      match aJ c 0 k.toNat with
      |some xc=>match Dq xc with
       |some s=>some (.str s,st.write i (.cells c e' false))
       |none=>none
      |none=>none
     else none
    |_=>none
   else none
  |_,_=>none
def Ra:dL:=fun _ _ _=>none
def bZ(op:gG):dL:=gG.casesOn op C5 Bs F0 C6 zM C7 C8 Bt C9 Da Db Dc F3 Bu Dd F4 De F5 Bv zN vT oK xb Df Dh zO Bw F6 Bx Dj By WH Q9 Dk Dl Dm uY HQ F7 vU oL zP Bz F8 vV Dp BA F9 Ga Ra
def Fr.put(fr:Fr)(d:Option Nat)(v:V):Option Fr:=
 match d with
 |some d=>if d<fr.n then some {fr with r:=fr.r.set d v} else none
 |none=>some fr
def bP(r:T V):Option (Nat×Bool)->Option Bool
 |none=>some true
 |some (t,want)=>match r.get t with
  |some (.bool b)=>some (b==want)
  |some (.aZ _)=>some false
  |_=>none
def yM(call:cm)(o:df)(next:Fr->St->Option (Fr×St))(fr:Fr)(st:St):Option (Fr×St):=
 match bP fr.r o.guard with
 |some true=>match bZ o.op call fr.r st with
  |some (v,av)=>match fr.put o.dst v with
   |some bC=>next bC av
   |none=>none
  |none=>none
 |some false=>match fr.put o.dst (.aZ [])with
  |some bC=>next bC st
  |none=>none
 |none=>none
def WI(fr:Fr)(st:St):Option (Fr×St):=some (fr,st)
def cU(call:cm):List df->Fr->St->Option (Fr×St)
 |[]=>WI
 |o::rest=>yM call o (cU call rest)
structure FP where
 rd:Option (List Nat)
 wr:List Nat
 lo:Nat
 hi:Nat
def gG.l8:gG->Bool
 |.aY _|.pick ..|.alloc ..|.box ..|.build ..|.aO ..|.fy _|.un ..|.bb ..|.kf _|.fN ..|.eK ..|.bM ..|.qu|.oh ..
 |.bO ..|.az ..|.de ..|.field ..|.dG ..|.aN ..|.oo ..|.aQ ..|.iD _|.extract ..|.lY _|.cap _|.mn _|.mx _|.ext ..=>true
 |.bin .add ..|.bin .sub ..|.bin .mul ..|.bin .quo ..|.bin .rem ..|.bin .lss ..|.bin .leq ..|.bin .gtr ..|.bin .geq ..|.bin .shl ..|.bin .shr ..|.bin .and ..|.bin .or ..|.bin .xor ..|.bin .andNot ..=>true
 |_=>false
def LN(r:T V):gG->Option Nat
 |.load _ a=>match a.ev r with
  |some (.ptr i _)=>some i
  |_=>none
 |.store _ a _=>match a.ev r with
  |some (.ptr i _)=>some i
  |_=>none
 |_=>none
def mL(r:T V)(op:gG)(ws:List Nat)(lo hi:Nat):FP:=
 if op.l8 then ⟨some [],[],lo,hi⟩ else
 match LN r op with
 |some i=>if Nat.blt i lo then ⟨some [i],ws,lo,hi⟩ else ⟨none,ws,lo,hi⟩
 |none=>⟨none,ws,lo,hi⟩
def uZ(i:Nat)(l:List Nat):List Nat:=if l.contains i then l else i::l
def ad(n:Nat):List Nat->List Nat
 |[]=>[]
 |i::l=>if i<n then uZ i (ad n l) else ad n l
def yN(call:cm)(o:df)(next:Fr->St->Option (List FP×Fr×St))(fr:Fr)(st:St):Option (List FP×Fr×St):=
 match bP fr.r o.guard with
 |some true=>match bZ o.op call fr.r {st with w:=[]} with
  |some (v,av)=>match fr.put o.dst v with
   |some bC=>match next bC {av with w:=ad st.n av.w++st.w} with
    |some (fS,fr'',st'')=>some (mL fr.r o.op (ad st.n av.w) st.n av.n::fS,fr'',st'')
    |none=>none
   |none=>none
  |none=>none
 |some false=>match fr.put o.dst (.aZ [])with
  |some bC=>match next bC st with
   |some (fS,fr'',st'')=>some (⟨some [],[],st.n,st.n⟩::fS,fr'',st'')
   |none=>none
  |none=>none
 |none=>none
def WJ(fr:Fr)(st:St):Option (List FP×Fr×St):=some ([],fr,st)
def bK(call:cm):List df->Fr->St->Option (List FP×Fr×St)
 |[]=>WJ
 |o::rest=>yN call o (bK call rest)
def zQ(a:List Nat):Option (List Nat)->Bool
 |none=>!a.isEmpty
 |some b=>a.any fun i=>b.contains i
def FP.free(a b:FP):Bool:=!(zQ a.wr b.rd||zQ a.wr (some b.wr)||zQ b.wr a.rd||b.wr.any fun i=>Nat.ble a.lo i&&Nat.blt i a.hi)
def dw{α:Type}(p:α->α->Bool)(xs:List α)(nE:List Nat):Bool:=
 go xs nE 0 []
where
 go:List α->List Nat->Nat->List α->Bool
  |[],_,_,_=>true
  |f::fs,ms,j,seen=>
   (dB f (ms.headD 0) (j-1) seen)&&go fs ms.tail (j+1) (f::seen)
 dB (f:α) (m:Nat):Nat->List α->Bool
  |_,[]=>true
  |i,g::gs=>(m.testBit i||p g f)&&dB f m (i-1) gs
def iG(fS:List FP)(nE:List Nat):Bool:=dw FP.free fS nE
def Src.tmps:Src->List Nat
 |.tmp t=>[t]
 |.const _=>[]
def yO:Option Src->List Src
 |none=>[]
 |some s=>[s]
def gG.zR:gG->List Src
 |.aY x=>[x]
 |.pick c a b=>[c,a,b]
 |.alloc ..=>[]
 |.box _ x=>[x]
 |.build _ ps=>ps.map (·.2.2)
 |.aO _ _ _ _ ps=>ps.map (·.2.2)
 |.load _ a=>[a]
 |.store _ a x=>[a,x]
 |.fy x=>[x]
 |.bin _ _ _ x y=>[x,y]
 |.un _ x=>[x]
 |.bb _ x=>[x]
 |.kf x=>[x]
 |.fN _ x=>[x]
 |.eZ x=>[x]
 |.eK _ x=>[x]
 |.bM _ a c=>a++c
 |.qu=>[]
 |.oh _ n=>[n]
 |.bO _ _ _ _ l c=>[l,c]
 |.az x lo hi=>x::(yO lo++yO hi)
 |.dX _ x lo hi m=>x::(yO lo++yO hi++yO m)
 |.cP _ _ x lo hi m=>x::(yO lo++yO hi++yO m)
 |.de _ x=>[x]
 |.field _ _ x=>[x]
 |.dG _ _ x i=>[x,i]
 |.aN _ x i=>[x,i]
 |.oo _ _ _ x i=>[x,i]
 |.aQ x i=>[x,i]
 |.lookup _ _ m k _=>[m,k]
 |.ot _ m k v=>[m,k,v]
 |.C2 _ _ m k=>[m,k]
 |.C3 m s v=>[m,s,v]
 |.iD x=>[x]
 |.oA x=>[x]
 |.extract x _=>[x]
 |.len _ x=>[x]
 |.lY _=>[]
 |.cap x=>[x]
 |.mn l=>l
 |.mx l=>l
 |.append _ _ _ _ s x=>[s,x]
 |.copy _ d s=>[d,s]
 |.clear _ _ s=>[s]
 |.call f l=>f::l
 |.ext _ l=>l
 |.FM _ x=>[x]
 |.tJ x=>[x]
 |.zz _ x n=>[x,n]
 |.stop=>[]
def df.reads(o:df):List Nat:=
 (match o.guard with|some (t,_)=>[t]|none=>[])++o.op.zR.flatMap Src.tmps
def HR(d:Option Nat)(l:List Nat):Bool:=
 match d with
 |some t=>l.contains t
 |none=>false
def LC(a b:df):Bool:=!(HR a.dst b.reads||HR b.dst a.reads||HR a.dst b.dst.toList)
def LP(st:St)(i:Nat)(send:Option V)(zero:V):Option (V×St):=
 match st.h.get i,send with
 |some (.chan cap buf),some v=>if buf.length<cap then some (.aZ [.int .i64 0,.bool false],st.write i (.chan cap (buf++[v]))) else some (.aZ [.int .i64 (-1),.bool false],st)
 |some (.chan cap (v::buf)),none=>some (.aZ [.int .i64 0,.bool true,v],st.write i (.chan cap buf))
 |some (.chan _ []),none=>some (.aZ [.int .i64 (-1),.bool false,zero],st)
 |_,_=>none
abbrev nF:=Option Nat->aq->Fr->St->Option (Ex×Fr×St)
abbrev tW:=cm->nF->Option Nat->Fr->St->Option (Ex×Fr×St)
def Rb:tW:=fun _ _ _ fr st=>some (.normal,fr,st)
def xd(ops:List df):tW:=fun call _ _ fr st=>match cU call ops fr st with
 |some (bC,av)=>some (.normal,bC,av)
 |none=>none
def xe(ops:List df)(nE:List Nat):tW:=fun call _ _ fr st=>match bK call ops fr st with
 |some (fS,bC,av)=>match iG fS nE with
  |true=>some (.normal,bC,av)
  |false=>none
 |none=>none
def xf(dst:Option Nat)(ch:Src)(send:Option Src)(zero:V)(ops:List df):tW:=fun call _ _ fr st=>
 match ch.ev fr.r,ay fr.r send with
 |some (.chan i),some sv=>match LP st i sv zero with
  |some (v,bS)=>match fr.put dst v with
   |some dh=>match cU call ops dh bS with
    |some (bC,av)=>some (.normal,bC,av)
    |none=>none
   |none=>none
  |none=>none
 |_,_=>none
def yP(a b:aq):tW:=fun _ rec ro fr st=>match rec ro a fr st with
 |some (.normal,bC,av)=>rec ro b bC av
 |x=>x
def u9(x:Src)(a b:aq):tW:=fun _ rec ro fr st=>match x.ev fr.r with
 |some (.bool true)=>rec ro a fr st
 |some (.bool false)=>rec ro b fr st
 |_=>none
def yQ(id:Nat)(c:aq):tW:=fun _ rec ro fr st=>match rec ro c fr st with
 |some (.exit yR,bC,av)=>match Nat.beq yR id with
  |true=>some (.normal,bC,av)
  |false=>some (.exit yR,bC,av)
 |x=>x
def yS(c:aq):tW:=fun _ rec ro fr st=>match rec ro c fr st with
 |some (.normal,bC,av)=>rec ro (.loop c) bC av
 |x=>x
def Rc(st:St):Option Nat->Option (St×Nat×List Nat)
 |none=>some (st.alloc (.defs true),st.n,[st.n])
 |some l=>match st.h.get l with
  |some (.loop R)=>some (st,R.defs,[])
  |_=>none
def V.Gb:V->Bool
 |.yield _=>true
 |_=>false
def zS(g:Src)(ps:List Nat)(assign body:aq):tW:=fun call _ ro fr st=>
 match g.ev fr.r with
 |none=>none
 |some gv=>
  if gv.Gb then none else
  match Rc st ro with
  |none=>none
  |some (bS,d,mk)=>
   match call gv [.yield bS.n] (bS.alloc (.loop {st:=.ready,gI:=none,r:=fr.r,n:=fr.n,ps:=ps,assign:=assign,body:=body,defs:=d}))with
   |none=>none
   |some (_,eD)=>
    match eD.h.get bS.n with
    |some (.loop R)=>
     if R.st=.busy then none else
     some (match R.gI with|none=>.normal|some e=>e,{fr with marks:=mk++fr.marks},eD.write bS.n (.loop {R with st:=.exhausted}))
    |_=>none
def WK(id:Nat):tW:=fun _ _ _ fr st=>some (.exit id,fr,st)
def WL(c:aq):tW:=fun _ rec ro fr st=>rec ro c fr st
def WM:tW:=fun _ _ _ fr st=>some (.ret,fr,st)
def Gc:tW:=fun _ _ _ _ _=>none
def kh(c:aq):tW:=aq.casesOn c Rb xd xe xf yP u9 yQ yS zS WK WL WM Gc
def LQ:nF:=fun _ _ _ _=>none
def dn(call:cm):Nat->nF
 |0=>LQ
 |f+1=>fun ro c=>kh c call (dn call f) ro
def vW(r:T V)(i:Nat):List V->T V
 |[]=>r
 |v::vs=>vW (r.set i v) (i+1) vs
def Dr(r:T V)(n:Nat):List Nat->List V->Option (T V)
 |[],[]=>some r
 |p::ps,v::vs=>if p<n then Dr (r.set p v) n ps vs else none
 |_,_=>none
def fT(r:T V)(st:St):List CP->Option (List V)
 |[]=>some []
 |.tmp t::rest=>match r.get t,fT r st rest with
  |some v,some vs=>some (v::vs)
  |_,_=>none
 |.cell t n::rest=>match r.get t,fT r st rest with
  |some (.ptr i o),some vs=>match st.row i with
   |some (c,_,_)=>match aU c o n with
    |some v=>some (v::vs)
    |none=>none
   |none=>none
  |_,_=>none
def shut(st:St):List Nat->Option St
 |[]=>some st
 |d::ds=>match st.h.get d with
  |some (.defs true)=>shut (st.write d (.defs false)) ds
  |_=>none
def HS:Option Ex->LoopState
 |none=>.ready
 |some _=>.done
def rk:Ex->Option Ex
 |.normal=>none
 |e=>some e
def BB:List V->V
 |[v]=>v
 |vs=>.aZ vs
def Re(mf:jE)(st:St):Option (Ex×Fr×St)->Option (V×St)
 |some (.exit _,_,_)=>none
 |some (_,fr,bS)=>match shut bS fr.marks with
  |none=>none
  |some eD=>match fT fr.r eD mf.results with
   |some vs=>some (BB vs,{eD with w:=ad st.n eD.w++st.w})
   |none=>none
 |none=>none
def zT(mf:jE)(code:nF)(args:List V)(st:St):Option (V×St):=
 if mf.ntmps<args.length then none else
 Re mf st (code none mf.body {r:=vW .nil 0 args,n:=mf.ntmps,marks:=[]} {st with w:=[]})
def Ds(code:nF)(l:Nat)(args:List V)(st:St):Option (V×St):=
 match st.h.get l with
 |some (.loop R)=>match Dr R.r R.n R.ps args with
  |none=>none
  |some r0=>match code (some l) R.assign {r:=r0,n:=R.n,marks:=[]} st with
   |some (.normal,dh,bS)=>match bS.h.get l with
    |some (.loop R1)=>
     if R1.st=.ready then
      match code (some l) R.body dh (bS.write l (.loop {R1 with st:=.busy}))with
      |some (e,_,eD)=>match eD.h.get l with
       |some (.loop R2)=>some (.bool (rk e).isNone,eD.write l (.loop {R2 with st:=HS (rk e),gI:=rk e}))
       |_=>none
      |none=>none
     else none
    |_=>none
   |_=>none
 |_=>none
def u_(dc:Nat->Option jE)(code:nF):cm
 |.func f first fE,args,st=>match dc f with
  |some mf=>zT mf code (first++args++fE) st
  |none=>none
 |.yield l,args,st=>Ds code l args st
 |_,_,_=>none
def Rf:cm:=fun _ _ _=>none
end Go.Mx
