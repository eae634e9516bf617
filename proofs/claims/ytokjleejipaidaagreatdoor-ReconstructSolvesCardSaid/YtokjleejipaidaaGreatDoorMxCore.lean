/-The abstract machine M-/
import Derived.RangeFuncLeaves
import Derived.OrdersIn
import Derived.RangeFuncRecord
set_option linter.all false
namespace Go.Mx
abbrev zq:=@List.drop_zero
abbrev vF:=@Nat.le_succ
abbrev JL:=@Nat.mul_lt_mul_of_pos_right
abbrev BR:=@Nat.mul_lt_mul''
abbrev GY:=@Nat.div_div_eq_div_mul
abbrev CP:=@Nat.lt_of_succ_le
abbrev CQ:=@Nat.le_max_right
abbrev CR:=@List.cons_append
abbrev EH:=@Int.emod_lt_of_pos
abbrev Bz:=@Int.natAbs_neg
abbrev yK:=@List.append_nil
abbrev vA:=@Int.natAbs_mul
abbrev yQ:=@Nat.mod_eq_of_lt
abbrev EI:=@Int.tmod_eq_emod_of_nonneg
abbrev Aw:=@Rat.num_divInt_den
abbrev xO:=@Int.mul_nonneg
abbrev zB:=@Nat.le_of_not_lt
abbrev uY:=@Int.le_of_lt
abbrev GV:=@Array.getD_eq_getD_getElem?
abbrev CS:=@Array.getElem?_toList
abbrev CT:=@List.take_append_drop
abbrev tV:=@Nat.mul_add
abbrev EJ:=@List.getElem?_cons_succ
abbrev EK:=@Int.eq_ofNat_of_zero_le
abbrev yA:=@List.mem_range
abbrev vR:=@List.map_nil
abbrev zn:=@List.length_set
abbrev uN:=@Nat.zero_le
abbrev Ax:=@Nat.div_eq_of_lt
abbrev GZ:=@List.drop_eq_getElem_cons
abbrev Gx:=@List.mem_or_eq_of_mem_set
abbrev CK:=@List.getElem?_range
abbrev tK:=@Nat.not_lt
abbrev JM:=@Option.ite_none_left_eq_some
abbrev xP:=@Nat.zero_add
abbrev EL:=@Int.mul_ediv_add_emod
abbrev JN:=@Int.mul_ne_zero
abbrev QU:=@Nat.eq_of_beq_eq_true
abbrev QV:=@List.contains_iff_mem
abbrev QW:=@Nat.ble_eq_true_of_le
abbrev QX:=@List.singleton_append
abbrev QY:=@Nat.mul_div_mul_right
abbrev CU:=@Nat.le_max_left
abbrev CV:=@Nat.div_lt_self
abbrev G5:=@Nat.pow_le_pow_left
abbrev zp:=@Nat.mul_one
abbrev zr:=@Nat.mul_pos
abbrev EM:=@Int.le_of_not_gt
abbrev G6:=@Nat.eq_zero_or_pos
abbrev GK:=@List.mem_replicate
abbrev JO:=@Nat.le_div_iff_mul_le
abbrev CW:=@Bool.false_and
abbrev QQ:=@Array.getElem?_setIfInBounds_ne
abbrev Ay:=@Nat.pow_pos
abbrev JP:=@List.mem_of_mem_drop
abbrev EN:=@Int.emod_nonneg
abbrev G7:=@Bool.not_eq_true'
abbrev QC:=@List.dropLast_concat_getLast
abbrev G8:=@Bool.or_eq_true
abbrev LQ:=@Nat.mul_mod_mul_right
abbrev EO:=@Nat.mul_assoc
abbrev LR:=@Int.ofNat_eq_natCast
abbrev JQ:=@List.map_toArray
abbrev WH:=@Array.all_eq_true_iff_forall_mem
abbrev JR:=@Int.lt_of_not_ge
abbrev EP:=@Nat.pow_zero
abbrev QZ:=@Nat.gcd_pos_of_pos_right
abbrev JS:=@Int.natCast_mul
abbrev an:=@Option.some.injEq
abbrev ak:=@if_neg
abbrev aO:=@Nat.le_refl
abbrev gY:=@List.length_map
abbrev kO:=@Nat.mul_le_mul_left
abbrev jz:=@Option.getD_some
abbrev gw:=@Nat.pow_succ
abbrev pG:=@List.mem_cons_of_mem
abbrev qh:=@List.drop_eq_nil_of_le
abbrev qs:=@Nat.div_lt_iff_lt_mul
abbrev me:=@List.all_eq_true
abbrev og:=@List.ext_getElem?
abbrev lI:=@List.mem_append
abbrev ax:=@if_pos
abbrev bM:=@List.mem_of_getElem?
abbrev cF:=@List.getElem?_eq_getElem
abbrev bo:=@List.length_cons
abbrev bs:=@Prod.mk.injEq
abbrev dH:=@Int.natAbs_natCast
abbrev fb:=@List.take_of_length_le
abbrev eH:=@List.getElem?_set_ne
abbrev fv:=@List.getElem?_eq_none
abbrev iS:=@List.getElem?_append_left
abbrev e_:=@Nat.lt_of_lt_of_le
abbrev ff:=@List.getElem?_drop
abbrev fm:=@List.getElem?_map
abbrev fL:=@Bool.false_eq_true
abbrev lD:=@List.getElem?_append_right
abbrev kh:=@Option.map_eq_some_iff
abbrev jB:=@List.getElem?_set_self
abbrev eC:=@List.mem_map
abbrev iI:=@List.getElem?_take
abbrev iN:=@List.length_append
abbrev gO:=@List.length_take
abbrev ki:=@Nat.mul_le_mul_right
abbrev iz:=@Bool.and_eq_true
abbrev rm:=@List.eq_nil_of_length_eq_zero
abbrev rI:=@Int.mul_le_mul_of_nonneg_left
abbrev gU:=@List.cons.injEq
abbrev xC:=@List.mem_singleton
abbrev yB:=@List.map_congr_left
abbrev vS:=@Nat.lt_succ_self
abbrev uZ:=@Nat.div_add_mod
abbrev ER:=@Int.mul_le_mul_of_nonneg_right
abbrev Az:=@List.length_singleton
abbrev BS:=@List.getElem?_cons_zero
abbrev vT:=@Nat.div_le_self
abbrev xF:=@List.length_drop
abbrev xE:=@List.take_length
abbrev mJ:=@Option.some.inj
abbrev iX:=@Nat.add_zero
abbrev mK:=@List.drop_length
abbrev rJ:=@Nat.pow_le_pow_right
abbrev pR:=@List.mem_cons_self
abbrev jg:=@Nat.mul_comm
abbrev iY:=@Nat.add_mul
abbrev ku:=@List.mem_cons
abbrev xB:=@List.getElem?_eq_some_iff
abbrev rK:=@Nat.lt_of_le_of_lt
abbrev oL:=@Nat.mul_le_mul
abbrev uR:=@List.getElem?_of_mem
abbrev vU:=@Nat.le_of_ble_eq_true
abbrev mU:=@List.map_cons
abbrev kj:=@Nat.pow_add
abbrev tU:=@List.append_assoc
abbrev qt:=@Nat.min_eq_left
abbrev pF:=@Nat.add_assoc
abbrev rL:=@Nat.two_pow_pos
abbrev uQ:=@List.take_add_one
abbrev tW:=@Nat.lt_of_not_le
abbrev kQ:=@Nat.mod_lt
abbrev ti:=@Option.map_some
abbrev yJ:=@List.mem_of_mem_take
abbrev BT:=@Int.tdiv_eq_ediv_of_nonneg
abbrev p9:=@Nat.le_trans
inductive T (α:Type) where
 |nil
 |node (l:T α) (v:Option α) (r:T α)
def T.get{α:Type}:T α->Nat->Option α
 |.nil,_=>none
 |.node l v r,n=>
  match n with
  |0=>v
  |k+1=>match k%2 with
   |0=>l.get (k/2)
   |_=>r.get (k/2)
def T.fl{α:Type}:Nat->T α->Nat->α->T α
 |0,t,_,_=>t
 |f+1,.nil,n,a=>
  match n with
  |0=>.node .nil (some a) .nil
  |k+1=>match k%2 with
   |0=>.node (T.fl f .nil (k/2) a) none .nil
   |_=>.node .nil none (T.fl f .nil (k/2) a)
 |f+1,.node l v r,n,a=>
  match n with
  |0=>.node l (some a) r
  |k+1=>match k%2 with
   |0=>.node (T.fl f l (k/2) a) v r
   |_=>.node l v (T.fl f r (k/2) a)
def T.set{α:Type}(t:T α)(n:Nat)(a:α):T α:=T.fl (n+1) t n a
def T.AA{α:Type}(a:α):∀(f:Nat) (t:T α) (n m:Nat),n<f->(T.fl f t n a).get m=if m=n then some a else t.get m:=by
 intro f
 induction f with
 |zero=>intro t n m h;omega
 |succ f ih=>
  intro t n m h
  cases t with
  |nil=>
   cases n with
   |zero=>
    cases m with
    |zero=>simp[T.fl,T.get]
    |succ j=>simp only[T.fl,T.get];split<;>simp
   |succ k=>
    have hk:k/2<f:=by omega
    have h2:k%2=0\/k%2=1:=by omega
    rcases h2 with h2|h2
    ·cases m with
     |zero=>simp[T.fl,T.get,h2]
     |succ j=>
      have hj:j%2=0\/j%2=1:=by omega
      rcases hj with hj|hj
      ·simp only[T.fl,T.get,h2,hj,ih _ _ _ hk]
       by_cases e:j/2=k/2
       ·have:j=k:=by omega
        simp[this]
       ·have:¬j=k:=by intro e2;exact e (by rw[e2])
        simp[e,this]
      ·have:¬j=k:=by omega
       simp[T.fl,T.get,h2,hj,this]
    ·cases m with
     |zero=>simp[T.fl,T.get,h2]
     |succ j=>
      have hj:j%2=0\/j%2=1:=by omega
      rcases hj with hj|hj
      ·have:¬j=k:=by omega
       simp[T.fl,T.get,h2,hj,this]
      ·simp only[T.fl,T.get,h2,hj,ih _ _ _ hk]
       by_cases e:j/2=k/2
       ·have:j=k:=by omega
        simp[this]
       ·have:¬j=k:=by intro e2;exact e (by rw[e2])
        simp[e,this]
  |node l v r=>
   cases n with
   |zero=>cases m<;>simp[T.fl,T.get]
   |succ k=>
    have hk:k/2<f:=by omega
    have h2:k%2=0\/k%2=1:=by omega
    rcases h2 with h2|h2
    ·cases m with
     |zero=>simp[T.fl,T.get,h2]
     |succ j=>
      have hj:j%2=0\/j%2=1:=by omega
      rcases hj with hj|hj
      ·simp only[T.fl,T.get,h2,hj,ih _ _ _ hk]
       by_cases e:j/2=k/2
       ·have:j=k:=by omega
        simp[this]
       ·have:¬j=k:=by intro e2;exact e (by rw[e2])
        simp[e,this]
      ·have:¬j=k:=by omega
       simp[T.fl,T.get,h2,hj,this]
    ·cases m with
     |zero=>simp[T.fl,T.get,h2]
     |succ j=>
      have hj:j%2=0\/j%2=1:=by omega
      rcases hj with hj|hj
      ·have:¬j=k:=by omega
       simp[T.fl,T.get,h2,hj,this]
      ·simp only[T.fl,T.get,h2,hj,ih _ _ _ hk]
       by_cases e:j/2=k/2
       ·have:j=k:=by omega
        simp[this]
       ·have:¬j=k:=by intro e2;exact e (by rw[e2])
        simp[e,this]
def T.ag{α:Type}(t:T α)(n m:Nat)(a:α):(t.set n a).get m=if m=n then some a else t.get m:=
 T.AA a (n+1) t n m (vS n)
inductive V where
 |bool (b:Bool)
 |int (k:IntKind) (n:Int)
 |vN (k:FloatKind) (bits:Nat)
 |str (s:List UInt8)
 |bF
 |ptr (i o:Nat)
 |aa
 |slice (i o len:Nat) (cap:Option Nat) (sz:Nat)
 |empty
 |bP
 |map (i:Nat)
 |bR
 |chan (i:Nat)
 |func (f:FuncId) (first cap:List V)
 |yield (i:Nat)
 |bS
 |iface (t:TypeId) (v:V)
 |aY
 |agg (l:List V)
 |aV (l:List V)
instance:Inhabited V:=⟨.aV []⟩
def V.cells:V->List V
 |.agg l=>l
 |v=>[v]
def V.one:V->Bool
 |.agg _|.aV _=>false
 |_=>true
inductive Src where
 |tmp (t:Nat)
 |const (v:V)
inductive PK where
 |bool|int|str|ptr|slice|map|func|chan|iface
inductive tA where
 |bI (k:PK)
 |node (parts:List (Nat×Option Nat×tA))
inductive kK where
 |int (k:IntKind)
 |str
inductive Ext where
 |gW|jy|same|bX|lY
inductive gm where
 |jF (x:Src)
 |pick (c a b:Src)
 |alloc (zero:List V) (elem:TypeId)
 |box (elem:TypeId) (x:Src)
 |build (zero:List V) (parts:List (Nat×Nat×Src))
 |eh (elem:TypeId) (size len:Nat) (zero:List V) (parts:List (Nat×Nat×Src))
 |load (n:Option Nat) (a:Src)
 |store (n:Nat) (a x:Src)
 |oH (x:Src)
 |bin (op:BinOp) (t:tA) (ng:Bool) (x y:Src)
 |un (op:UnOp) (x:Src)
 |cR (k:IntKind) (x:Src)
 |rM (x:Src)
 |jG (elem:TypeId) (x:Src)
 |oJ (x:Src)
 |iy (t:TypeId) (x:Src)
 |oK (f:FuncId) (first gp:List Src)
 |xK
 |vV (bytes:Nat) (n:Src)
 |jH (elem:TypeId) (size bytes:Nat) (zero:List V) (len cap:Src)
 |ct (x:Src) (lo hi:Option Src)
 |mT (size:Nat) (x:Src) (lo hi mx:Option Src)
 |jI (n size:Nat) (x:Src) (lo hi mx:Option Src)
 |i_ (off:Nat) (x:Src)
 |field (off:Nat) (n:Option Nat) (x:Src)
 |h_ (len size:Nat) (x i:Src)
 |dh (size:Nat) (x i:Src)
 |vW (len size:Nat) (n:Option Nat) (x i:Src)
 |bJ (x i:Src)
 |lookup (kd:kK) (zero:V) (m k:Src) (ok:Bool)
 |vP (kd:kK) (m k v:Src)
 |G9 (kd:kK) (zero:V) (m k:Src)
 |Ha (m s v:Src)
 |jJ (x:Src)
 |rD (it:Src)
 |extract (x:Src) (i:Nat)
 |len (k:Nat) (x:Src)
 |vX (n:Nat)
 |cap (x:Src)
 |mn (args:List Src)
 |mx (args:List Src)
 |append (size bytes:Nat) (elem:TypeId) (zero:List V) (s x:Src)
 |copy (size:Nat) (d s:Src)
 |clear (size:Nat) (zero:List V) (s:Src)
 |call (f:Src) (args:List Src)
 |ext (e:Ext) (args:List Src)
 |JG (e:Option (TypeId×Nat)) (x:Src)
 |Ar (x:Src)
 |GO (e:TypeId) (x n:Src)
 |stop
structure dr where
 dst:Option Nat
 op:gm
 guard:Option (Nat×Bool)
inductive bN where
 |skip
 |dN (ops:List dr)
 |dc (ops:List dr) (qu:List Nat)
 |yN (dst:Option Nat) (ch:Src) (send:Option Src) (zero:V) (ops:List dr)
 |seq (a b:bN)
 |cond (c:Src) (a b:bN)
 |block (id:Nat) (c:bN)
 |loop (c:bN)
 |jd (g:Src) (ps:List Nat) (assign body:bN)
 |exit (id:Nat)
 |scope (c:bN)
 |ret
 |stop
inductive Eo where
 |tmp (t:Nat)
 |cell (t:Nat) (n:Option Nat)
structure lA where
 ntmps:Nat
 results:List Eo
 body:bN
inductive Ex where
 |normal
 |exit (id:Nat)
 |ret
structure Lm where
 st:LoopState
 eW:Option Ex
 r:T V
 n:Nat
 ps:List Nat
 assign:bN
 body:bN
 defs:Nat
inductive O where
 |cells (c:List V) (elem:TypeId) (rw:Bool)
 |map (es:List (V×V))
 |chan (cap:Nat) (buf:List V)
 |eD (s:List UInt8) (pos:Nat)
 |loop (l:Lm)
 |defs (WI:Bool)
 |dead
def O.wr:O->Bool
 |.cells _ _ rw=>rw
 |.dead=>false
 |_=>true
def O.live:O->Bool
 |.dead=>false
 |_=>true
structure St where
 h:T O
 n:Nat
 w:List Nat
def St.alloc(st:St)(o:O):St:={st with h:=st.h.set st.n o,n:=st.n+1}
def St.write(st:St)(i:Nat)(o:O):St:={st with h:=st.h.set i o,w:=i::st.w}
structure Fr where
 r:T V
 n:Nat
 marks:List Nat
def Src.ev(r:T V):Src->Option V
 |.tmp t=>r.get t
 |.const v=>some v
def uX(r:T V):List Src->Option (List V)
 |[]=>some []
 |x::xs=>match x.ev r,uX r xs with
  |some v,some vs=>some (v::vs)
  |_,_=>none
def aB(r:T V):Option Src->Option (Option V)
 |none=>some none
 |some x=>match x.ev r with
  |some v=>some (some v)
  |none=>none
def aC{α:Type}(c:List α)(o n:Nat):Option (List α):=if o+n<=c.length then some ((c.drop o).take n) else none
def ae{α:Type}(c:List α)(o:Nat)(vs:List α):List α:=c.take o++vs++c.drop (o+vs.length)
def BU(cells:List V):List (Nat×Nat×V)->Option (List V)
 |[]=>some cells
 |(off,size,v)::rest=>
  if v.cells.length=size/\off+size<=cells.length then BU (ae cells off v.cells) rest else none
def BV(r:T V):List (Nat×Nat×Src)->Option (List (Nat×Nat×V))
 |[]=>some []
 |(o,s,x)::rest=>match x.ev r,BV r rest with
  |some v,some vs=>some ((o,s,v)::vs)
  |_,_=>none
def aR(cs:List V)(off:Nat):Option Nat->Option V
 |none=>cs[off]?
 |some n=>match aC cs off n with
  |some l=>some (.agg l)
  |none=>none
def aJ(ng:Bool):PK->V->V->Option Bool
 |.bool,.bool a,.bool b=>some (a==b)
 |.int,.int k a,.int k' b=>if k=k' then some (a==b) else none
 |.str,.str a,.str b=>some (a==b)
 |.ptr,.bF,.bF=>some true
 |.ptr,.bF,.ptr _ _=>some false
 |.ptr,.ptr _ _,.bF=>some false
 |.ptr,.ptr i o,.ptr j p=>if i=j/\o=p then some true else none
 |.slice,.aa,.aa=>some true
 |.slice,.aa,.slice ..=>some false
 |.slice,.slice ..,.aa=>some false
 |.slice,.aa,.empty=>some false
 |.slice,.empty,.aa=>some false
 |.map,.bP,.bP=>some true
 |.map,.bP,.map _=>some false
 |.map,.map _,.bP=>some false
 |.func,.bS,.bS=>some true
 |.func,.bS,.func ..=>some false
 |.func,.func ..,.bS=>some false
 |.chan,.bR,.bR=>some true
 |.chan,.bR,.chan _=>some false
 |.chan,.chan _,.bR=>some false
 |.iface,.aY,.aY=>if ng then some true else none
 |.iface,.aY,.iface ..=>some false
 |.iface,.iface ..,.aY=>some false
 |_,_,_=>none
mutual
def vY(ng:Bool):tA->V->V->Option Bool
 |.bI k,x,y=>aJ ng k x y
 |.node ps,.agg xs,.agg ys=>JT ps xs ys
 |_,_,_=>none
def JT:List (Nat×Option Nat×tA)->List V->List V->Option Bool
 |[],_,_=>some true
 |(off,n,t)::rest,xs,ys=>
  match aR xs off n,aR ys off n with
  |some x,some y=>match vY false t x y with
   |some true=>JT rest xs ys
   |some false=>some false
   |none=>none
  |_,_=>none
end
def bh(k:IntKind)(n:Int):Int:=
 match k,n with
 |.i64,.ofNat a=>match Nat.blt a 9223372036854775808 with
  |true=>.ofNat a
  |false=>IntKind.wrap .i64 (.ofNat a)
 |.i64,.negSucc a=>match Nat.blt a 9223372036854775808 with
  |true=>.negSucc a
  |false=>IntKind.wrap .i64 (.negSucc a)
 |.u64,.ofNat a=>.ofNat (Nat.mod a 18446744073709551616)
 |.u8,.ofNat a=>.ofNat (Nat.mod a 256)
 |.i32,.ofNat a=>match Nat.blt a 2147483648 with
  |true=>.ofNat a
  |false=>IntKind.wrap .i32 (.ofNat a)
 |.u32,.ofNat a=>.ofNat (Nat.mod a 4294967296)
 |k,n=>k.wrap n
def AB(k:IntKind)(n:Int):bh k n=k.wrap n:=by
 unfold bh
 split
 ·rename_i a
  split
  ·rename_i h
   have h':a<9223372036854775808:=CP (vU h)
   simp only[IntKind.wrap,IntKind.bits,IntKind.signed,LR]
   simp;omega
  ·rfl
 ·rename_i a
  split
  ·rename_i h
   have h':a<9223372036854775808:=CP (vU h)
   have e:(Int.negSucc a)= -(a:Int)-1:=by omega
   simp only[IntKind.wrap,IntKind.bits,IntKind.signed,e]
   simp;omega
  ·rfl
 ·rename_i a
  show Int.ofNat (a%18446744073709551616)=_
  simp only[IntKind.wrap,IntKind.bits,IntKind.signed,LR]
  simp
 ·rename_i a
  show Int.ofNat (a%256)=_
  simp only[IntKind.wrap,IntKind.bits,IntKind.signed,LR]
  simp
 ·rename_i a
  split
  ·rename_i h
   have h':a<2147483648:=CP (vU h)
   simp only[IntKind.wrap,IntKind.bits,IntKind.signed,LR]
   simp;omega
  ·rfl
 ·rename_i a
  show Int.ofNat (a%4294967296)=_
  simp only[IntKind.wrap,IntKind.bits,IntKind.signed,LR]
  simp
 ·rfl
def rN(op:BinOp)(k:IntKind)(a b:Int):Option V:=
 match op with
 |.add=>some (.int k (bh k (a+b)))
 |.sub=>some (.int k (bh k (a-b)))
 |.mul=>some (.int k (bh k (a*b)))
 |.quo=>if b=0 then none else some (.int k (bh k (a.tdiv b)))
 |.rem=>if b=0 then none else some (.int k (a.tmod b))
 |.and=>some (.int k (k.wrap (BitVec.ofInt k.bits a&&& BitVec.ofInt k.bits b).toNat))
 |.or=>some (.int k (k.wrap (BitVec.ofInt k.bits a|||BitVec.ofInt k.bits b).toNat))
 |.xor=>some (.int k (k.wrap (BitVec.ofInt k.bits a^^^BitVec.ofInt k.bits b).toNat))
 |.andNot=>some (.int k (k.wrap (BitVec.ofInt k.bits a&&& ~~~ BitVec.ofInt k.bits b).toNat))
 |.eql=>some (.bool (a==b))
 |.neq=>some (.bool (a !=b))
 |.lss=>some (.bool (decide (a<b)))
 |.leq=>some (.bool (decide (a<=b)))
 |.gtr=>some (.bool (decide (a > b)))
 |.geq=>some (.bool (decide (a≥b)))
 |_=>none
def zC(op:BinOp)(k:IntKind)(a b:Int):Option V:=
 if b<0 then none else
  match op with
  |.shl=>some (.int k (k.wrap (a*2^(min b.toNat k.bits))))
  |.shr=>some (.int k (a.fdiv (2^(min b.toNat k.bits))))
  |_=>none
def gE(op:BinOp)(x y:List UInt8):Option V:=
 match op with
 |.add=>if ((x.length+y.length:Nat):Int) > IntKind.i64.max then none else some (.str (x++y))
 |.eql=>some (.bool (x==y))
 |.neq=>some (.bool (!(x==y)))
 |.lss=>some (.bool (Op.bytesLess x y))
 |.leq=>some (.bool (Op.bytesLess x y||x==y))
 |.gtr=>some (.bool (!(Op.bytesLess x y||x==y)))
 |.geq=>some (.bool (!(Op.bytesLess x y)))
 |_=>none
def WJ(op:BinOp)(t:tA)(ng:Bool):V->V->Option V
 |.int k a,.int k' b=>
  match op with
  |.shl=>zC .shl k a b
  |.shr=>zC .shr k a b
  |_=>if k=k' then rN op k a b else none
 |.str a,.str b=>gE op a b
 |x,y=>match op with
  |.eql=>match vY ng t x y with
   |some b=>some (.bool b)
   |none=>none
  |.neq=>match vY ng t x y with
   |some b=>some (.bool (!b))
   |none=>none
  |_=>none
def WK:UnOp->V->Option V
 |.neg,.int k n=>some (.int k (k.wrap (0-n)))
 |.xor,.int k n=>some (.int k (k.wrap (BitVec.ofInt k.bits (if k.signed then -1 else k.max)^^^BitVec.ofInt k.bits n).toNat))
 |.not,.bool b=>some (.bool (!b))
 |_,_=>none
def kR(v:V)(y:Nat):Option Nat:=
 match v with
 |.int _ n=>if 0<=n/\n<=(y:Int) then some n.toNat else none
 |_=>none
def dB(v:Option V)(y WL:Nat):Option Nat:=
 match v with
 |some v=>kR v y
 |none=>some WL
def St.row(st:St)(i:Nat):Option (List V×TypeId×Bool):=
 match st.h.get i with
 |some (.cells c e rw)=>some (c,e,rw)
 |_=>none
def cW(zero:List V)(n:Nat):List V:=(List.range (n*zero.length)).map fun i=>zero.getD (i%zero.length) (.aV [])
def ef(st:St)(size:Nat):V->Option (Nat×List V)
 |.aa=>some (0,[])
 |.empty=>some (0,[])
 |.slice j p m _ sz=>if sz=size then match st.row j with
   |some (c,_,_)=>match aC c p (m*size)with
    |some l=>some (m,l)
    |none=>none
   |none=>none
  else none
 |.str s=>if size=1 then some (s.length,s.map fun b=>.int .u8 b.toNat) else none
 |_=>none
def uS:Nat:=2^48
def gX(st:St)(size bytes:Nat)(elem:TypeId)(s x:V):Option (V×St):=
 match ef st size x with
 |none=>none
 |some (n,xs)=>
  match s with
  |.aa=>
   if n=0 then some (.aa,st)
   else if 2*n*bytes<=uS/\size≠0 then some (.slice st.n 0 n none size,st.alloc (.cells xs elem true)) else none
  |.slice i o len cap sz=>
   if n=0 then (if sz=size then some (s,st) else none)
   else if sz≠size\/size=0\/uS<2*(len+n)*bytes then none else
   match st.row i with
   |none=>none
   |some (c,e,rw)=>
    match cap with
    |some k=>
     if len+n<=k then
      (if rw=true/\o+(len+n)*size<=c.length then some (.slice i o (len+n) cap sz,st.write i (.cells (ae c (o+len*size) xs) e rw)) else none)
     else match aC c o (len*size)with
      |some old=>some (.slice st.n 0 (len+n) none size,st.alloc (.cells (old++xs) elem true))
      |none=>none
    |none=>
     if rw=true then
      if o+(len+n)*size<=c.length then some (.slice i o (len+n) none sz,st.write i (.cells (ae c (o+len*size) xs) e rw))
      else if o+len*size=c.length/\e=elem/\o=0 then
       some (.slice st.n 0 (len+n) none size,(st.write i .dead).alloc (.cells (c.drop o++xs) elem true))
      else none
     else none
  |_=>none
def Q0:kK->V->V->Option Bool
 |.int k,.int a x,.int b y=>if a=k/\b=k then some (x==y) else none
 |.str,.str x,.str y=>some (x==y)
 |_,_,_=>none
def fi(kd:kK)(k:V):List (V×V)->Nat->Option (Option (Nat×V))
 |[],_=>some none
 |(a,v)::es,i=>
  match Q0 kd k a with
  |some true=>some (some (i,v))
  |some false=>fi kd k es (i+1)
  |none=>none
def kK.fits:kK->V->Bool
 |.int k,.int k' _=>k=k'
 |.str,.str _=>true
 |_,_=>false
def xQ:List V->Option V
 |[]=>none
 |[x]=>some x
 |.int k a::.int _ b::rest=>xQ (.int k (if b<a then b else a)::rest)
 |_=>none
termination_by l=>l.length
def xR:List V->Option V
 |[]=>none
 |[x]=>some x
 |.int k a::.int _ b::rest=>xR (.int k (if a<b then b else a)::rest)
 |_=>none
termination_by l=>l.length
def yR:V->List V->Option V
 |x,[]=>some x
 |.int k a,.int _ b::rest=>yR (.int k (if b<a then b else a)) rest
 |_,_=>none
def CX:List V->Option V
 |[]=>none
 |x::xs=>yR x xs
def zD:V->List V->Option V
 |x,[]=>some x
 |.int k a,.int _ b::rest=>zD (.int k (if a<b then b else a)) rest
 |_,_=>none
def BW:List V->Option V
 |[]=>none
 |x::xs=>zD x xs
def Yeu:∀(xs:List V) (x:V),yR x xs=xQ (x::xs)
 |[],x=>by simp[yR,xQ]
 |y::ys,x=>by
  cases x with
  |int k a=>
   cases y with
   |int k' b=>simp only[yR,xQ];exact Yeu ys _
   |_=>simp[yR,xQ]
  |_=>simp[yR,xQ]
def Ypg(l:List V):CX l=xQ l:=by
 cases l with
 |nil=>simp[CX,xQ]
 |cons x xs=>exact Yeu xs x
def Yex:∀(xs:List V) (x:V),zD x xs=xR (x::xs)
 |[],x=>by simp[zD,xR]
 |y::ys,x=>by
  cases x with
  |int k a=>
   cases y with
   |int k' b=>simp only[zD,xR];exact Yex ys _
   |_=>simp[zD,xR]
  |_=>simp[zD,xR]
def Ypk(l:List V):BW l=xR l:=by
 cases l with
 |nil=>simp[BW,xR]
 |cons x xs=>exact Yex xs x
def Hb(c:UInt8):List UInt8->Nat->Int
 |[],_=> -1
 |b::rest,i=>if b==c then (i:Int) else Hb c rest (i+1)
def CY:Ext->List V->Option V
 |.gW,[.int .u64 x,.int .u64 y,.int .u64 c]=>if ¬(c=0\/c=1) then none else
   some (.aV [.int .u64 (Int.ofNat ((x.toNat+y.toNat+c.toNat)%2^64)),.int .u64 (Int.ofNat ((x.toNat+y.toNat+c.toNat)/2^64))])
 |.jy,[.int .u64 x,.int .u64 y,.int .u64 b]=>if ¬(b=0\/b=1) then none else
   some (.aV [.int .u64 (Int.ofNat ((x.toNat+2^64-y.toNat-b.toNat)%2^64)),.int .u64 (if x.toNat<y.toNat+b.toNat then 1 else 0)])
 |.bX,[.str s,.int .u8 c]=>some (.int .i64 (Hb c.toNat.toUInt8 s 0))
 |_,_=>none
abbrev cH:=V->List V->St->Option (V×St)
def Q1(op:BinOp)(t:tA)(st:St)(i j:Nat):Option (V×St):=
 match op,t,st.h.get i,st.h.get j with
 |.eql,.bI .chan,some (.chan ..),some (.chan ..)=>some (.bool (i==j),st)
 |.neq,.bI .chan,some (.chan ..),some (.chan ..)=>some (.bool (!(i==j)),st)
 |_,_,_,_=>none
abbrev er:=cH->T V->St->Option (V×St)
def Hd(x:Src):er:=fun _ r st=>match x.ev r with
  |some v=>some (v,st)
  |none=>none
def ES(c:Src)(a:Src)(b:Src):er:=fun _ r st=>match c.ev r with
  |some (.bool true)=>match a.ev r with
   |some v=>some (v,st)
   |none=>none
  |some (.bool false)=>match b.ev r with
   |some v=>some (v,st)
   |none=>none
  |_=>none
def JU(zero:List V)(elem:TypeId):er:=fun _ _ st=>some (.ptr st.n 0,st.alloc (.cells zero elem true))
def He(elem:TypeId)(x:Src):er:=fun _ r st=>match x.ev r with
  |some v=>if v.cells.all V.one then some (.ptr st.n 0,st.alloc (.cells v.cells elem true)) else none
  |none=>none
def CZ(zero:List V)(parts:List (Nat×Nat×Src)):er:=fun _ r st=>match BV r parts with
  |some ps=>match BU zero ps with
   |some l=>some (.agg l,st)
   |none=>none
  |none=>none
def Hf(elem:TypeId)(size:Nat)(len:Nat)(zero:List V)(parts:List (Nat×Nat×Src)):er:=fun _ r st=>match BV r parts with
  |some ps=>match BU zero ps with
   |some l=>if l.all V.one then some (.slice st.n 0 len (some len) size,st.alloc (.cells l elem true)) else none
   |none=>none
  |none=>none
def Hg(n:Option Nat)(a:Src):er:=fun _ r st=>match a.ev r with
  |some (.ptr i o)=>match st.row i with
   |some (c,_,_)=>match aR c o n with
    |some v=>some (v,st)
    |none=>none
   |none=>none
  |_=>none
def ET(n:Nat)(a:Src)(x:Src):er:=fun _ r st=>match a.ev r,x.ev r with
  |some (.ptr i o),some v=>match st.row i with
   |some (c,e,true)=>if v.cells.length=n/\o+n<=c.length/\v.cells.all V.one=true then some (.aV [],st.write i (.cells (ae c o v.cells) e true)) else none
   |_=>none
  |_,_=>none
def Hh(x:Src):er:=fun _ r st=>match x.ev r with
  |some (.ptr i o)=>some (.ptr i o,st)
  |some (.func f a l)=>some (.func f a l,st)
  |_=>none
def Hi(op:BinOp)(t:tA)(ng:Bool)(x:Src)(y:Src):er:=fun _ r st=>match x.ev r,y.ev r with
  |some (.chan i),some (.chan j)=>Q1 op t st i j
  |some a,some b=>match WJ op t ng a b with
   |some v=>some (v,st)
   |none=>none
  |_,_=>none
def Hj(op:UnOp)(x:Src):er:=fun _ r st=>match x.ev r with
  |some a=>match WK op a with
   |some v=>some (v,st)
   |none=>none
  |none=>none
def Hk(k:IntKind)(x:Src):er:=fun _ r st=>match x.ev r with
  |some (.int _ n)=>some (.int k (bh k n),st)
  |_=>none
def JV(x:Src):er:=fun _ r st=>match x.ev r with
  |some (.str s)=>some (.str s,st)
  |_=>none
def EU(elem:TypeId)(x:Src):er:=fun _ r st=>match x.ev r with
  |some (.str s)=>some (.slice st.n 0 s.length none 1,st.alloc (.cells (s.map fun b=>.int .u8 b.toNat) elem true))
  |_=>none
def Hl(x:Src):er:=fun _ r st=>match x.ev r with
  |some .aa=>some (.str [],st)
  |some (.slice i o len _ 1)=>match st.row i with
   |some (c,_,_)=>match aC c o len with
    |some l=>match l.mapM (fun v=>match v with|.int .u8 n=>some (UInt8.ofNat n.toNat)|_=>none)with
     |some s=>some (.str s,st)
     |none=>none
    |none=>none
   |none=>none
  |_=>none
def JW(t:TypeId)(x:Src):er:=fun _ r st=>match x.ev r with
  |some v=>some (.iface t v,st)
  |none=>none
def Hm(f:FuncId)(first:List Src)(gp:List Src):er:=fun _ r st=>match uX r first,uX r gp with
  |some a,some l=>some (.func f a l,st)
  |_,_=>none
def JX:er:=fun _ _ st=>some (.map st.n,st.alloc (.map []))
def EV(bytes:Nat)(n:Src):er:=fun _ r st=>match n.ev r with
  |some (.int _ k)=>if k<0\/k > IntKind.i64.max\/bytes*k > 2^48-112 then none else some (.chan st.n,st.alloc (.chan k.toNat []))
  |_=>none
def C0(elem:TypeId)(size:Nat)(bytes:Nat)(zero:List V)(len:Src)(cap:Src):er:=fun _ r st=>match len.ev r,cap.ev r with
  |some (.int _ l),some (.int _ c)=>
   if 0<=l/\l<=c/\bytes*c<=2^47/\c<2^62/\size=zero.length/\size≠0 then
    some (.slice st.n 0 l.toNat (some c.toNat) size,st.alloc (.cells (cW zero c.toNat) elem true)) else none
  |_,_=>none
def zE(x:Src)(lo:Option Src)(hi:Option Src):er:=fun _ r st=>match x.ev r,aB r lo,aB r hi with
  |some (.str s),some lo,some hi=>
   match dB hi s.length s.length with
   |some h=>match dB lo h 0 with
    |some l=>some (.str ((s.take h).drop l),st)
    |none=>none
   |none=>none
  |_,_,_=>none
def qp(size:Nat)(x:Src)(lo:Option Src)(hi:Option Src)(mx:Option Src):er:=fun _ r st=>match x.ev r,aB r lo,aB r hi,aB r mx with
  |some .aa,some lo,some hi,some mx=>
   match dB mx 0 0 with
   |some _=>match dB hi 0 0 with
    |some _=>match dB lo 0 0 with
     |some _=>if mx.isSome&&hi.isNone then none else some (.aa,st)
     |none=>none
    |none=>none
   |none=>none
  |some .empty,some lo,some hi,some none=>
   match dB hi 0 0 with
   |some _=>match dB lo 0 0 with
    |some _=>some (.empty,st)
    |none=>none
   |none=>none
  |some (.slice i o len (some c) sz),some lo,some hi,some mx=>
   if sz≠size\/(mx.isSome&&hi.isNone) then none else
   match dB mx c c with
   |some m=>match dB hi m len with
    |some h=>match dB lo h 0 with
     |some l=>some (.slice i (if m=l then o else o+l*size) (h-l) (some (m-l)) sz,st)
     |none=>none
    |none=>none
   |none=>none
  |some (.slice i o len none sz),some lo,some hi,some mx=>
   if sz≠size\/size=0\/(mx.isSome&&hi.isNone) then none else
   match st.row i with
   |some (c,_,_)=>
    let k:=max len ((c.length-o)/size)
    match mx with
    |some m=>match kR m k with
     |some m=>match dB hi m len with
      |some h=>match dB lo h 0 with
       |some l=>some (.slice i (if m=l then o else o+l*size) (h-l) (some (m-l)) sz,st)
       |none=>none
      |none=>none
     |none=>none
    |none=>match dB hi k len with
     |some h=>match dB lo h 0 with
      |some l=>if l<k then some (.slice i (o+l*size) (h-l) none sz,st) else some (.empty,st)
      |none=>none
     |none=>none
   |none=>none
  |_,_,_,_=>none
def AD(n:Nat)(size:Nat)(x:Src)(lo:Option Src)(hi:Option Src)(mx:Option Src):er:=fun _ r st=>match x.ev r,aB r lo,aB r hi,aB r mx with
  |some (.ptr i o),some lo,some hi,some none=>
   match dB hi n n with
   |some h=>match dB lo h 0 with
    |some l=>match st.row i with
     |some (c,_,_)=>if o+n*size<=c.length/\mx.isNone then some (.slice i (if n=l then o else o+l*size) (h-l) (some (n-l)) size,st) else none
     |none=>none
    |none=>none
   |none=>none
  |_,_,_,_=>none
def Hn(off:Nat)(x:Src):er:=fun _ r st=>match x.ev r with
  |some (.ptr i o)=>some (.ptr i (o+off),st)
  |_=>none
def Ho(off:Nat)(n:Option Nat)(x:Src):er:=fun _ r st=>match x.ev r with
  |some (.agg cs)=>match aR cs off n with
   |some v=>some (v,st)
   |none=>none
  |_=>none
def C1(len:Nat)(size:Nat)(x:Src)(i:Src):er:=fun _ r st=>match x.ev r,i.ev r with
  |some (.ptr a o),some (.int _ k)=>if 0<=k/\k<(len:Int) then some (.ptr a (o+k.toNat*size),st) else none
  |_,_=>none
def EW(size:Nat)(x:Src)(i:Src):er:=fun _ r st=>match x.ev r,i.ev r with
  |some (.slice a o len _ _),some (.int _ k)=>if 0<=k/\k<(len:Int) then some (.ptr a (o+k.toNat*size),st) else none
  |_,_=>none
def JY(len:Nat)(size:Nat)(n:Option Nat)(x:Src)(i:Src):er:=fun _ r st=>match x.ev r,i.ev r with
  |some (.agg cs),some (.int _ k)=>if 0<=k/\k<(len:Int) then match aR cs (k.toNat*size) n with
    |some v=>some (v,st)
    |none=>none
   else none
  |_,_=>none
def EX(x:Src)(i:Src):er:=fun _ r st=>match x.ev r,i.ev r with
  |some (.str s),some (.int _ k)=>if 0<=k then match s[k.toNat]? with
    |some b=>some (.int .u8 b.toNat,st)
    |none=>none
   else none
  |_,_=>none
def Hp(kd:kK)(zero:V)(m:Src)(k:Src)(ok:Bool):er:=fun _ r st=>match m.ev r,k.ev r with
  |some m,some k=>
   if kd.fits k then
    match (match m with
     |.bP=>some []
     |.map i=>match st.h.get i with
      |some (.map es)=>some es
      |_=>none
     |_=>none)with
    |some es=>match fi kd k es 0 with
     |some (some (_,v))=>some (if ok then .aV [v,.bool true] else v,st)
     |some none=>some (if ok then .aV [zero,.bool false] else zero,st)
     |none=>none
    |none=>none
   else none
  |_,_=>none
def EY(kd:kK)(m:Src)(k:Src)(v:Src):er:=fun _ r st=>match m.ev r,k.ev r,v.ev r with
  |some (.map i),some k,some v=>
   if kd.fits k then
    match st.h.get i with
    |some (.map es)=>match fi kd k es 0 with
     |some (some (j,_))=>some (.aV [],st.write i (.map (es.set j (k,v))))
     |some none=>some (.aV [],st.write i (.map (es++[(k,v)])))
     |none=>none
    |_=>none
   else none
  |_,_,_=>none
def Ztp(kd:kK)(zero:V)(m:Src)(k:Src):er:=fun _ r st=>match m.ev r,k.ev r with
  |some (.map i),some k=>
   if kd.fits k then
    match st.h.get i with
    |some (.map es)=>match fi kd k es 0 with
     |some (some (j,v))=>some (.aV [v,.int .i64 j],st.write i (.map (es.set j (k,v))))
     |some none=>some (.aV [zero,.int .i64 es.length],st.write i (.map (es++[(k,zero)])))
     |none=>none
    |_=>none
   else none
  |_,_=>none
def WM(m:Src)(s:Src)(v:Src):er:=fun _ r st=>match m.ev r,s.ev r,v.ev r with
  |some (.map i),some (.int _ j),some v=>
   match st.h.get i with
   |some (.map es)=>if 0<=j then match es[j.toNat]? with
     |some (k,_)=>some (.aV [],st.write i (.map (es.set j.toNat (k,v))))
     |none=>none
    else none
   |_=>none
  |_,_,_=>none
def Hq(x:Src):er:=fun _ r st=>match x.ev r with
  |some (.str s)=>some (.ptr st.n 0,st.alloc (.eD s 0))
  |_=>none
def Hr(it:Src):er:=fun _ r st=>match it.ev r with
  |some (.ptr i 0)=>match st.h.get i with
   |some (.eD s pos)=>
    if pos<s.length then
     let cw:=Utf8.decode ⟨s.toArray⟩ pos
     some (.aV [.bool true,.int .i64 pos,.int .i32 cw.1],st.write i (.eD s (pos+cw.2)))
    else some (.aV [.bool false],st)
   |_=>none
  |_=>none
def Hs(x:Src)(i:Nat):er:=fun _ r st=>match x.ev r with
  |some (.aV vs)=>match vs[i]? with
   |some v=>some (v,st)
   |none=>none
  |_=>none
def yS(k:Nat)(x:Src):er:=fun _ r st=>match k,x.ev r with
  |0,some (.str s)=>some (.int .i64 s.length,st)
  |1,some .aa=>some (.int .i64 0,st)
  |1,some .empty=>some (.int .i64 0,st)
  |1,some (.slice _ _ n _ _)=>some (.int .i64 n,st)
  |2,some .bP=>some (.int .i64 0,st)
  |2,some (.map i)=>match st.h.get i with
   |some (.map es)=>some (.int .i64 es.length,st)
   |_=>none
  |_,_=>none
def LS(n:Nat):er:=fun _ _ st=>some (.int .i64 n,st)
def JZ(x:Src):er:=fun _ r st=>match x.ev r with
  |some .aa=>some (.int .i64 0,st)
  |some (.slice _ _ _ (some c) _)=>some (.int .i64 c,st)
  |_=>none
def zG(args:List Src):er:=fun _ r st=>match uX r args with
  |some l=>match CX l with
   |some v=>some (v,st)
   |none=>none
  |none=>none
def rO(args:List Src):er:=fun _ r st=>match uX r args with
  |some l=>match BW l with
   |some v=>some (v,st)
   |none=>none
  |none=>none
def C2(size:Nat)(bytes:Nat)(elem:TypeId)(_:List V)(s:Src)(x:Src):er:=fun _ r st=>match s.ev r,x.ev r with
  |some s,some x=>gX st size bytes elem s x
  |_,_=>none
def C3(size:Nat)(d:Src)(s:Src):er:=fun _ r st=>match d.ev r,s.ev r with
  |some d,some s=>match ef st size s with
   |some (n,xs)=>match d with
    |.aa=>some (.int .i64 0,st)
    |.slice i o len _ sz=>
     if sz≠size\/size=0 then none else
     let k:=min n len
     if k=0 then some (.int .i64 0,st) else
     match st.row i with
     |some (c,e,true)=>if o+k*size<=c.length then some (.int .i64 k,st.write i (.cells (ae c o (xs.take (k*size))) e true)) else none
     |_=>none
    |_=>none
   |none=>none
  |_,_=>none
def J0(size:Nat)(zero:List V)(s:Src):er:=fun _ r st=>match s.ev r with
  |some .aa=>some (.aV [],st)
  |some .empty=>some (.aV [],st)
  |some (.slice i o len _ sz)=>
   if len=0 then some (.aV [],st) else
   if sz≠size\/size=0\/zero.length≠size then none else
   match st.row i with
   |some (c,e,true)=>if o+len*size<=c.length then some (.aV [],st.write i (.cells (ae c o (cW zero len)) e true)) else none
   |_=>none
  |_=>none
def zH(f:Src)(args:List Src):er:=fun call r st=>match f.ev r,uX r args with
  |some f,some l=>call f l st
  |_,_=>none
def Ht(e:Ext)(args:List Src):er:=fun _ r st=>match e,uX r args with
  |.same,some [v]=>some (v,st)
  |e,some l=>match CY e l with
   |some v=>some (v,st)
   |none=>none
  |_,none=>none
def EZ(e:Option (TypeId×Nat))(x:Src):er:=fun _ r st=>match x.ev r with
  |some (.ptr i 0)=>match st.row i with
   |some (c,e',true)=>match e with
    |none=>if 0<c.length then some (.ptr i 0,st) else none
    |some (u,z)=>if e'=u/\0<z/\z<=c.length then some (.ptr i 0,st) else none
   |_=>none
  |_=>none
def J1(x:Src):er:=fun _ r st=>match x.ev r with
  |some (.slice i o len _ _)=>if 0<len then some (.ptr i o,st) else none
  |_=>none
def Q2:V->Option UInt8
 |.int .u8 n=>if 0<=n/\n<256 then some n.toNat.toUInt8 else none
 |_=>none
def Hu:List V->Option (List UInt8)
 |[]=>some []
 |v::l=>match Q2 v,Hu l with
  |some b,some s=>some (b::s)
  |_,_=>none
def J3(e:TypeId)(x n:Src):er:=fun _ r st=>match x.ev r,n.ev r with
  |some (.ptr i 0),some (.int .i64 k)=>if 0<k/\k<=9223372036854775807 then
    match st.row i with
    |some (c,e',true)=>if e'=e then
      match aC c 0 k.toNat with
      |some Av=>match Hu Av with
       |some s=>some (.str s,st.write i (.cells c e' false))
       |none=>none
      |none=>none
     else none
    |_=>none
   else none
  |_,_=>none
def WN:er:=fun _ _ _=>none
def cv(op:gm):er:=gm.casesOn op Hd ES JU He CZ Hf Hg ET Hh Hi Hj Hk JV EU Hl JW Hm JX EV C0 zE qp AD Hn Ho C1 EW JY EX Hp EY Ztp WM Hq Hr Hs yS LS JZ zG rO C2 C3 J0 zH Ht EZ J1 J3 WN
def Fr.put(fr:Fr)(d:Option Nat)(v:V):Option Fr:=
 match d with
 |some d=>if d<fr.n then some {fr with r:=fr.r.set d v} else none
 |none=>some fr
def bU(r:T V):Option (Nat×Bool)->Option Bool
 |none=>some true
 |some (t,want)=>match r.get t with
  |some (.bool b)=>some (b==want)
  |some (.aV _)=>some false
  |_=>none
def BX(call:cH)(o:dr)(next:Fr->St->Option (Fr×St))(fr:Fr)(st:St):Option (Fr×St):=
 match bU fr.r o.guard with
 |some true=>match cv o.op call fr.r st with
  |some (v,aA)=>match fr.put o.dst v with
   |some bE=>next bE aA
   |none=>none
  |none=>none
 |some false=>match fr.put o.dst (.aV [])with
  |some bE=>next bE st
  |none=>none
 |none=>none
def Yl9(fr:Fr)(st:St):Option (Fr×St):=some (fr,st)
def dC(call:cH):List dr->Fr->St->Option (Fr×St)
 |[]=>Yl9
 |o::rest=>BX call o (dC call rest)
structure FP where
 rd:Option (List Nat)
 wr:List Nat
 lo:Nat
 hi:Nat
def gm.oM:gm->Bool
 |.jF _|.pick ..|.alloc ..|.box ..|.build ..|.eh ..|.oH _|.un ..|.cR ..|.rM _|.jG ..|.iy ..|.oK ..|.xK|.vV ..
 |.jH ..|.ct ..|.i_ ..|.field ..|.h_ ..|.dh ..|.vW ..|.bJ ..|.jJ _|.extract ..|.vX _|.cap _|.mn _|.mx _|.ext ..=>true
 |.bin .add ..|.bin .sub ..|.bin .mul ..|.bin .quo ..|.bin .rem ..|.bin .lss ..|.bin .leq ..|.bin .gtr ..|.bin .geq ..|.bin .shl ..|.bin .shr ..|.bin .and ..|.bin .or ..|.bin .xor ..|.bin .andNot ..=>true
 |_=>false
def Q3(r:T V):gm->Option Nat
 |.load _ a=>match a.ev r with
  |some (.ptr i _)=>some i
  |_=>none
 |.store _ a _=>match a.ev r with
  |some (.ptr i _)=>some i
  |_=>none
 |_=>none
def pH(r:T V)(op:gm)(ws:List Nat)(lo hi:Nat):FP:=
 if op.oM then ⟨some [],[],lo,hi⟩ else
 match Q3 r op with
 |some i=>if Nat.blt i lo then ⟨some [i],ws,lo,hi⟩ else ⟨none,ws,lo,hi⟩
 |none=>⟨none,ws,lo,hi⟩
def vZ(i:Nat)(l:List Nat):List Nat:=if l.contains i then l else i::l
def ar(n:Nat):List Nat->List Nat
 |[]=>[]
 |i::l=>if i<n then vZ i (ar n l) else ar n l
def BY(call:cH)(o:dr)(next:Fr->St->Option (List FP×Fr×St))(fr:Fr)(st:St):Option (List FP×Fr×St):=
 match bU fr.r o.guard with
 |some true=>match cv o.op call fr.r {st with w:=[]} with
  |some (v,aA)=>match fr.put o.dst v with
   |some bE=>match next bE {aA with w:=ar st.n aA.w++st.w} with
    |some (ig,fr'',st'')=>some (pH fr.r o.op (ar st.n aA.w) st.n aA.n::ig,fr'',st'')
    |none=>none
   |none=>none
  |none=>none
 |some false=>match fr.put o.dst (.aV [])with
  |some bE=>match next bE st with
   |some (ig,fr'',st'')=>some (⟨some [],[],st.n,st.n⟩::ig,fr'',st'')
   |none=>none
  |none=>none
 |none=>none
def Yd3(fr:Fr)(st:St):Option (List FP×Fr×St):=some ([],fr,st)
def bK(call:cH):List dr->Fr->St->Option (List FP×Fr×St)
 |[]=>Yd3
 |o::rest=>BY call o (bK call rest)
def C4(a:List Nat):Option (List Nat)->Bool
 |none=>!a.isEmpty
 |some b=>a.any fun i=>b.contains i
def FP.free(a b:FP):Bool:=!(C4 a.wr b.rd||C4 a.wr (some b.wr)||C4 b.wr a.rd||b.wr.any fun i=>Nat.ble a.lo i&&Nat.blt i a.hi)
def cn{α:Type}(p:α->α->Bool)(xs:List α)(qu:List Nat):Bool:=
 go xs qu 0 []
where
 go:List α->List Nat->Nat->List α->Bool
  |[],_,_,_=>true
  |f::fs,ms,j,seen=>
   (cr f (ms.headD 0) (j-1) seen)&&go fs ms.tail (j+1) (f::seen)
 cr (f:α) (m:Nat):Nat->List α->Bool
  |_,[]=>true
  |i,g::gs=>(m.testBit i||p g f)&&cr f m (i-1) gs
def jK(ig:List FP)(qu:List Nat):Bool:=cn FP.free ig qu
def Src.tmps:Src->List Nat
 |.tmp t=>[t]
 |.const _=>[]
def BZ:Option Src->List Src
 |none=>[]
 |some s=>[s]
def gm.C5:gm->List Src
 |.jF x=>[x]
 |.pick c a b=>[c,a,b]
 |.alloc ..=>[]
 |.box _ x=>[x]
 |.build _ ps=>ps.map (·.2.2)
 |.eh _ _ _ _ ps=>ps.map (·.2.2)
 |.load _ a=>[a]
 |.store _ a x=>[a,x]
 |.oH x=>[x]
 |.bin _ _ _ x y=>[x,y]
 |.un _ x=>[x]
 |.cR _ x=>[x]
 |.rM x=>[x]
 |.jG _ x=>[x]
 |.oJ x=>[x]
 |.iy _ x=>[x]
 |.oK _ a c=>a++c
 |.xK=>[]
 |.vV _ n=>[n]
 |.jH _ _ _ _ l c=>[l,c]
 |.ct x lo hi=>x::(BZ lo++BZ hi)
 |.mT _ x lo hi m=>x::(BZ lo++BZ hi++BZ m)
 |.jI _ _ x lo hi m=>x::(BZ lo++BZ hi++BZ m)
 |.i_ _ x=>[x]
 |.field _ _ x=>[x]
 |.h_ _ _ x i=>[x,i]
 |.dh _ x i=>[x,i]
 |.vW _ _ _ x i=>[x,i]
 |.bJ x i=>[x,i]
 |.lookup _ _ m k _=>[m,k]
 |.vP _ m k v=>[m,k,v]
 |.G9 _ _ m k=>[m,k]
 |.Ha m s v=>[m,s,v]
 |.jJ x=>[x]
 |.rD x=>[x]
 |.extract x _=>[x]
 |.len _ x=>[x]
 |.vX _=>[]
 |.cap x=>[x]
 |.mn l=>l
 |.mx l=>l
 |.append _ _ _ _ s x=>[s,x]
 |.copy _ d s=>[d,s]
 |.clear _ _ s=>[s]
 |.call f l=>f::l
 |.ext _ l=>l
 |.JG _ x=>[x]
 |.Ar x=>[x]
 |.GO _ x n=>[x,n]
 |.stop=>[]
def dr.reads(o:dr):List Nat:=
 (match o.guard with|some (t,_)=>[t]|none=>[])++o.op.C5.flatMap Src.tmps
def LU(d:Option Nat)(l:List Nat):Bool:=
 match d with
 |some t=>l.contains t
 |none=>false
def QP(a b:dr):Bool:=!(LU a.dst b.reads||LU b.dst a.reads||LU a.dst b.dst.toList)
def WO(st:St)(i:Nat)(send:Option V)(zero:V):Option (V×St):=
 match st.h.get i,send with
 |some (.chan cap buf),some v=>if buf.length<cap then some (.aV [.int .i64 0,.bool false],st.write i (.chan cap (buf++[v]))) else some (.aV [.int .i64 (-1),.bool false],st)
 |some (.chan cap (v::buf)),none=>some (.aV [.int .i64 0,.bool true,v],st.write i (.chan cap buf))
 |some (.chan _ []),none=>some (.aV [.int .i64 (-1),.bool false,zero],st)
 |_,_=>none
abbrev qx:=Option Nat->bN->Fr->St->Option (Ex×Fr×St)
abbrev xS:=cH->qx->Option Nat->Fr->St->Option (Ex×Fr×St)
def WQ:xS:=fun _ _ _ fr st=>some (.normal,fr,st)
def AE(ops:List dr):xS:=fun call _ _ fr st=>match dC call ops fr st with
 |some (bE,aA)=>some (.normal,bE,aA)
 |none=>none
def AF(ops:List dr)(qu:List Nat):xS:=fun call _ _ fr st=>match bK call ops fr st with
 |some (ig,bE,aA)=>match jK ig qu with
  |true=>some (.normal,bE,aA)
  |false=>none
 |none=>none
def B0(dst:Option Nat)(ch:Src)(send:Option Src)(zero:V)(ops:List dr):xS:=fun call _ _ fr st=>
 match ch.ev fr.r,aB fr.r send with
 |some (.chan i),some sv=>match WO st i sv zero with
  |some (v,bV)=>match fr.put dst v with
   |some dV=>match dC call ops dV bV with
    |some (bE,aA)=>some (.normal,bE,aA)
    |none=>none
   |none=>none
  |none=>none
 |_,_=>none
def B1(a b:bN):xS:=fun _ rec ro fr st=>match rec ro a fr st with
 |some (.normal,bE,aA)=>rec ro b bE aA
 |x=>x
def yU(x:Src)(a b:bN):xS:=fun _ rec ro fr st=>match x.ev fr.r with
 |some (.bool true)=>rec ro a fr st
 |some (.bool false)=>rec ro b fr st
 |_=>none
def B2(id:Nat)(c:bN):xS:=fun _ rec ro fr st=>match rec ro c fr st with
 |some (.exit B3,bE,aA)=>match Nat.beq B3 id with
  |true=>some (.normal,bE,aA)
  |false=>some (.exit B3,bE,aA)
 |x=>x
def B4(c:bN):xS:=fun _ rec ro fr st=>match rec ro c fr st with
 |some (.normal,bE,aA)=>rec ro (.loop c) bE aA
 |x=>x
def Qo(st:St):Option Nat->Option (St×Nat×List Nat)
 |none=>some (st.alloc (.defs true),st.n,[st.n])
 |some l=>match st.h.get l with
  |some (.loop R)=>some (st,R.defs,[])
  |_=>none
def V.Gw:V->Bool
 |.yield _=>true
 |_=>false
def Ab(g:Src)(ps:List Nat)(assign body:bN):xS:=fun call _ ro fr st=>
 match g.ev fr.r with
 |none=>none
 |some gv=>
  if gv.Gw then none else
  match Qo st ro with
  |none=>none
  |some (bV,d,mk)=>
   match call gv [.yield bV.n] (bV.alloc (.loop {st:=.ready,eW:=none,r:=fr.r,n:=fr.n,ps:=ps,assign:=assign,body:=body,defs:=d}))with
   |none=>none
   |some (_,eI)=>
    match eI.h.get bV.n with
    |some (.loop R)=>
     if R.st=.busy then none else
     some (match R.eW with|none=>.normal|some e=>e,{fr with marks:=mk++fr.marks},eI.write bV.n (.loop {R with st:=.exhausted}))
    |_=>none
def Ymx(id:Nat):xS:=fun _ _ _ fr st=>some (.exit id,fr,st)
def Ygy(c:bN):xS:=fun _ rec ro fr st=>rec ro c fr st
def Yt7:xS:=fun _ _ _ fr st=>some (.ret,fr,st)
def J4:xS:=fun _ _ _ _ _=>none
def mV(c:bN):xS:=bN.casesOn c WQ AE AF B0 B1 yU B2 B4 Ab Ymx Ygy Yt7 J4
def Q4:qx:=fun _ _ _ _=>none
def dP(call:cH):Nat->qx
 |0=>Q4
 |f+1=>fun ro c=>mV c call (dP call f) ro
def zJ(r:T V)(i:Nat):List V->T V
 |[]=>r
 |v::vs=>zJ (r.set i v) (i+1) vs
def CB(r:T V)(n:Nat):List Nat->List V->Option (T V)
 |[],[]=>some r
 |p::ps,v::vs=>if p<n then CB (r.set p v) n ps vs else none
 |_,_=>none
def fB(r:T V)(st:St):List Eo->Option (List V)
 |[]=>some []
 |.tmp t::rest=>match r.get t,fB r st rest with
  |some v,some vs=>some (v::vs)
  |_,_=>none
 |.cell t n::rest=>match r.get t,fB r st rest with
  |some (.ptr i o),some vs=>match st.row i with
   |some (c,_,_)=>match aR c o n with
    |some v=>some (v::vs)
    |none=>none
   |none=>none
  |_,_=>none
def shut(st:St):List Nat->Option St
 |[]=>some st
 |d::ds=>match st.h.get d with
  |some (.defs true)=>shut (st.write d (.defs false)) ds
  |_=>none
def Jq:Option Ex->LoopState
 |none=>.ready
 |some _=>.done
def q9:Ex->Option Ex
 |.normal=>none
 |e=>some e
def Fa:List V->V
 |[v]=>v
 |vs=>.aV vs
def WR(mf:lA)(st:St):Option (Ex×Fr×St)->Option (V×St)
 |some (.exit _,_,_)=>none
 |some (_,fr,bV)=>match shut bV fr.marks with
  |none=>none
  |some eI=>match fB fr.r eI mf.results with
   |some vs=>some (Fa vs,{eI with w:=ar st.n eI.w++st.w})
   |none=>none
 |none=>none
def C6(mf:lA)(code:qx)(args:List V)(st:St):Option (V×St):=
 if mf.ntmps<args.length then none else
 WR mf st (code none mf.body {r:=zJ .nil 0 args,n:=mf.ntmps,marks:=[]} {st with w:=[]})
def CC(code:qx)(l:Nat)(args:List V)(st:St):Option (V×St):=
 match st.h.get l with
 |some (.loop R)=>match CB R.r R.n R.ps args with
  |none=>none
  |some r0=>match code (some l) R.assign {r:=r0,n:=R.n,marks:=[]} st with
   |some (.normal,dV,bV)=>match bV.h.get l with
    |some (.loop R1)=>
     if R1.st=.ready then
      match code (some l) R.body dV (bV.write l (.loop {R1 with st:=.busy}))with
      |some (e,_,eI)=>match eI.h.get l with
       |some (.loop R2)=>some (.bool (q9 e).isNone,eI.write l (.loop {R2 with st:=Jq (q9 e),eW:=q9 e}))
       |_=>none
      |none=>none
     else none
    |_=>none
   |_=>none
 |_=>none
def yV(dJ:Nat->Option lA)(code:qx):cH
 |.func f first gp,args,st=>match dJ f with
  |some mf=>C6 mf code (first++args++gp) st
  |none=>none
 |.yield l,args,st=>CC code l args st
 |_,_,_=>none
def WS:cH:=fun _ _ _=>none
end Go.Mx
