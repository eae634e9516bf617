/-The abstract machine M-/
import Derived.RangeFuncLeaves
import Derived.OrdersIn
import Derived.RangeFuncRecord
set_option linter.all false
namespace Go.Mx
abbrev au:=@Option.some.injEq
abbrev ak:=@if_neg
abbrev aM:=@Nat.le_refl
abbrev av:=@if_pos
abbrev ct:=@List.getElem?_eq_getElem
abbrev tB:=@Int.mul_le_mul_of_nonneg_left
abbrev jc:=@List.cons.injEq
abbrev jn:=@List.mem_append
abbrev iL:=@List.mem_range
abbrev gE:=@Nat.add_zero
abbrev pK:=@List.getElem?_of_mem
abbrev im:=@Nat.pow_succ
abbrev oC:=@Nat.lt_of_le_of_lt
abbrev nN:=@List.ext_getElem?
abbrev ri:=@List.mem_cons_of_mem
abbrev bl:=@List.length_cons
abbrev cy:=@List.mem_of_getElem?
abbrev bD:=@Prod.mk.injEq
abbrev bK:=@List.mem_map
abbrev di:=@List.length_map
abbrev ed:=@Int.natAbs_natCast
abbrev eW:=@List.getElem?_set_ne
abbrev fy:=@List.getElem?_eq_none
abbrev fU:=@List.take_of_length_le
abbrev eH:=@List.getElem?_map
abbrev fg:=@Nat.lt_of_lt_of_le
abbrev fJ:=@List.getElem?_drop
abbrev mH:=@List.getElem?_append_left
abbrev fW:=@Bool.and_eq_true
abbrev jW:=@List.getElem?_set_self
abbrev ix:=@Bool.false_eq_true
abbrev jz:=@Nat.mul_le_mul_right
abbrev iI:=@List.length_append
abbrev mP:=@Option.map_eq_some_iff
abbrev ik:=@List.length_take
abbrev il:=@Option.getD_some
abbrev qI:=@List.getElem?_append_right
abbrev iK:=@List.all_eq_true
abbrev jZ:=@List.getElem?_take
abbrev th:=@List.eq_nil_of_length_eq_zero
abbrev lF:=@Nat.mul_le_mul_left
abbrev BA:=@List.drop_eq_nil_of_le
abbrev xC:=@Nat.lt_succ_self
abbrev wI:=@Nat.div_add_mod
abbrev Ge:=@Int.mul_le_mul_of_nonneg_right
abbrev De:=@List.getElem?_cons_zero
abbrev Aq:=@List.map_congr_left
abbrev xD:=@Nat.div_le_self
abbrev yO:=@List.length_drop
abbrev zQ:=@List.append_nil
abbrev Df:=@List.take_append_drop
abbrev su:=@Nat.div_lt_iff_lt_mul
abbrev iZ:=@Nat.le_trans
abbrev rO:=@Nat.pow_le_pow_right
abbrev mI:=@Nat.mul_le_mul
abbrev ky:=@List.mem_cons
abbrev pC:=@Option.some.inj
abbrev kg:=@Nat.mul_comm
abbrev js:=@Nat.add_mul
abbrev rI:=@List.mem_cons_self
abbrev qZ:=@List.drop_length
abbrev yK:=@List.getElem?_eq_some_iff
abbrev qO:=@Option.map_some
abbrev uQ:=@List.append_assoc
abbrev wy:=@List.mem_of_mem_take
abbrev ry:=@Nat.min_eq_left
abbrev mJ:=@Nat.pow_add
abbrev u9:=@List.mem_singleton
abbrev pX:=@List.map_cons
abbrev qP:=@Nat.add_assoc
abbrev wY:=@List.getElem?_range
abbrev s_:=@Nat.two_pow_pos
abbrev zZ:=@Nat.le_of_ble_eq_true
abbrev vC:=@Nat.lt_of_not_le
abbrev m8:=@Nat.mod_lt
abbrev Dh:=@Int.tdiv_eq_ediv_of_nonneg
abbrev Az:=@List.length_singleton
abbrev Dj:=@List.take_length
abbrev C2:=@Nat.mul_lt_mul''
abbrev BB:=@List.drop_zero
abbrev IY:=@Nat.div_div_eq_div_mul
abbrev Et:=@Nat.lt_of_succ_le
abbrev Gb:=@Nat.eq_zero_or_pos
abbrev Eu:=@Nat.le_max_right
abbrev Ev:=@List.cons_append
abbrev Gf:=@Int.emod_lt_of_pos
abbrev zN:=@Nat.mul_pos
abbrev wS:=@Int.natAbs_mul
abbrev z_:=@Nat.mod_eq_of_lt
abbrev Gg:=@Int.tmod_eq_emod_of_nonneg
abbrev FU:=@List.mem_or_eq_of_mem_set
abbrev yY:=@Int.mul_nonneg
abbrev yE:=@Int.natAbs_neg
abbrev AG:=@Nat.le_of_not_lt
abbrev wJ:=@Int.le_of_lt
abbrev IW:=@Array.getD_eq_getD_getElem?
abbrev Ew:=@Array.getElem?_toList
abbrev vF:=@Nat.mul_add
abbrev Gh:=@List.getElem?_cons_succ
abbrev Gi:=@Int.eq_ofNat_of_zero_le
abbrev wx:=@Nat.zero_le
abbrev BC:=@Nat.div_eq_of_lt
abbrev IZ:=@List.drop_eq_getElem_cons
abbrev C1:=@List.take_add_one
abbrev yZ:=@List.map_nil
abbrev LJ:=@Option.ite_none_left_eq_some
abbrev yR:=@Nat.zero_add
abbrev Gj:=@Int.mul_ediv_add_emod
abbrev xf:=@Nat.le_succ
abbrev A3:=@List.length_set
abbrev D8:=@Rat.num_divInt_den
abbrev Ll:=@Nat.mul_lt_mul_of_pos_right
abbrev wz:=@Nat.not_lt
abbrev TO:=@List.contains_iff_mem
abbrev TQ:=@Nat.ble_eq_true_of_le
abbrev TR:=@List.singleton_append
abbrev TS:=@Nat.mul_div_mul_right
abbrev Ey:=@Nat.le_max_left
abbrev Ez:=@Nat.div_lt_self
abbrev I1:=@Nat.pow_le_pow_left
abbrev AH:=@Nat.mul_one
abbrev Gk:=@Int.le_of_not_gt
abbrev Im:=@List.mem_replicate
abbrev LK:=@Nat.le_div_iff_mul_le
abbrev EA:=@Bool.false_and
abbrev TK:=@Array.getElem?_setIfInBounds_ne
abbrev BD:=@Nat.pow_pos
abbrev Gl:=@Int.emod_nonneg
abbrev I3:=@Bool.not_eq_true'
abbrev TT:=@List.dropLast_concat_getLast
abbrev I4:=@Bool.or_eq_true
abbrev Ov:=@Nat.mul_mod_mul_right
abbrev Gm:=@Nat.mul_assoc
abbrev Ow:=@Int.ofNat_eq_natCast
abbrev Ox:=@List.mem_of_mem_drop
abbrev LL:=@List.map_toArray
abbrev Xgt:=@Array.all_eq_true_iff_forall_mem
abbrev LM:=@Int.lt_of_not_ge
abbrev Gn:=@Nat.pow_zero
abbrev TU:=@Nat.gcd_pos_of_pos_right
abbrev LN:=@Int.natCast_mul
abbrev LP:=@Int.mul_ne_zero
abbrev TV:=@Nat.eq_of_beq_eq_true
inductive T (α:Type) where
 |nil
 |node (l:T α) (v:Option α) (r:T α)
def T.get{α:Type}:T α->Nat->Option α
 |.nil,_=>none
 |.node l v r,n=>
  match n with
  |0=>v
  |k+1=>match k%2 with
   |0=>l.get (k/2)
   |_=>r.get (k/2)
def T.fP{α:Type}:Nat->T α->Nat->α->T α
 |0,t,_,_=>t
 |f+1,.nil,n,a=>
  match n with
  |0=>.node .nil (some a) .nil
  |k+1=>match k%2 with
   |0=>.node (T.fP f .nil (k/2) a) none .nil
   |_=>.node .nil none (T.fP f .nil (k/2) a)
 |f+1,.node l v r,n,a=>
  match n with
  |0=>.node l (some a) r
  |k+1=>match k%2 with
   |0=>.node (T.fP f l (k/2) a) v r
   |_=>.node l v (T.fP f r (k/2) a)
def T.set{α:Type}(t:T α)(n:Nat)(a:α):T α:=T.fP (n+1) t n a
def T.BE{α:Type}(a:α):∀(f:Nat) (t:T α) (n m:Nat),n<f->(T.fP f t n a).get m=if m=n then some a else t.get m:=by
 intro f;induction f with
 |zero=>intro t n m h;omega
 |succ f ih=>
  intro t n m h;cases t with
  |nil=>
   cases n with
   |zero=>
    cases m with
    |zero=>simp[T.fP,T.get]
    |succ j=>simp only[T.fP,T.get];split<;>simp
   |succ k=>
    have hk:k/2<f:=by omega
    have h2:k%2=0\/k%2=1:=by omega
    rcases h2 with h2|h2
    ·cases m with
     |zero=>simp[T.fP,T.get,h2]
     |succ j=>
      have hj:j%2=0\/j%2=1:=by omega
      rcases hj with hj|hj
      ·simp only[T.fP,T.get,h2,hj,ih _ _ _ hk];by_cases e:j/2=k/2
       ·have:j=k:=by omega
        simp[this]
       have:¬j=k:=by intro e2;exact e (by rw[e2])
       simp[e,this]
      have:¬j=k:=by omega
      simp[T.fP,T.get,h2,hj,this]
    cases m with
    |zero=>simp[T.fP,T.get,h2]
    |succ j=>
     have hj:j%2=0\/j%2=1:=by omega
     rcases hj with hj|hj
     ·have:¬j=k:=by omega
      simp[T.fP,T.get,h2,hj,this]
     simp only[T.fP,T.get,h2,hj,ih _ _ _ hk];by_cases e:j/2=k/2
     ·have:j=k:=by omega
      simp[this]
     have:¬j=k:=by intro e2;exact e (by rw[e2])
     simp[e,this]
  |node l v r=>
   cases n with
   |zero=>cases m<;>simp[T.fP,T.get]
   |succ k=>
    have hk:k/2<f:=by omega
    have h2:k%2=0\/k%2=1:=by omega
    rcases h2 with h2|h2
    ·cases m with
     |zero=>simp[T.fP,T.get,h2]
     |succ j=>
      have hj:j%2=0\/j%2=1:=by omega
      rcases hj with hj|hj
      ·simp only[T.fP,T.get,h2,hj,ih _ _ _ hk];by_cases e:j/2=k/2
       ·have:j=k:=by omega
        simp[this]
       have:¬j=k:=by intro e2;exact e (by rw[e2])
       simp[e,this]
      have:¬j=k:=by omega
      simp[T.fP,T.get,h2,hj,this]
    cases m with
    |zero=>simp[T.fP,T.get,h2]
    |succ j=>
     have hj:j%2=0\/j%2=1:=by omega
     rcases hj with hj|hj
     ·have:¬j=k:=by omega
      simp[T.fP,T.get,h2,hj,this]
     simp only[T.fP,T.get,h2,hj,ih _ _ _ hk];by_cases e:j/2=k/2
     ·have:j=k:=by omega
      simp[this]
     have:¬j=k:=by intro e2;exact e (by rw[e2])
     simp[e,this]
def T.ag{α:Type}(t:T α)(n m:Nat)(a:α):(t.set n a).get m=if m=n then some a else t.get m:=
 T.BE a (n+1) t n m (xC n)
inductive V where
 |bool (b:Bool)
 |int (k:IntKind) (n:Int)
 |xy (k:FloatKind) (bits:Nat)
 |str (s:List UInt8)
 |bM
 |ptr (i o:Nat)
 |aa
 |slice (i o len:Nat) (cap:Option Nat) (sz:Nat)
 |empty
 |bV
 |map (i:Nat)
 |bW
 |chan (i:Nat)
 |func (f:FuncId) (first cap:List V)
 |yield (i:Nat)
 |bY
 |iface (t:TypeId) (v:V)
 |bb
 |agg (l:List V)
 |aX (l:List V)
instance:Inhabited V:=⟨.aX []⟩
def V.cells:V->List V
 |.agg l=>l
 |v=>[v]
def V.one:V->Bool
 |.agg _|.aX _=>false
 |_=>true
inductive Src where
 |tmp (t:Nat)
 |const (v:V)
inductive PK where
 |bool|int|str|ptr|slice|map|func|chan|iface
inductive uP where
 |fF (k:PK)
 |node (parts:List (Nat×Option Nat×uP))
inductive mZ where
 |int (k:IntKind)
 |str
inductive Ext where
 |pD|pE|same|cr|nH
inductive iz where
 |vD (x:Src)
 |pick (c a b:Src)
 |alloc (zero:List V) (elem:TypeId)
 |box (elem:TypeId) (x:Src)
 |build (zero:List V) (parts:List (Nat×Nat×Src))
 |mV (elem:TypeId) (size len:Nat) (zero:List V) (parts:List (Nat×Nat×Src))
 |load (n:Option Nat) (a:Src)
 |store (n:Nat) (a x:Src)
 |pU (x:Src)
 |bin (op:BinOp) (t:uP) (ng:Bool) (x y:Src)
 |un (op:UnOp) (x:Src)
 |dE (k:IntKind) (x:Src)
 |tC (x:Src)
 |lf (elem:TypeId) (x:Src)
 |pV (x:Src)
 |je (t:TypeId) (x:Src)
 |pW (f:FuncId) (first iA:List Src)
 |yV
 |xE (bytes:Nat) (n:Src)
 |lh (elem:TypeId) (size bytes:Nat) (zero:List V) (len cap:Src)
 |cG (x:Src) (lo hi:Option Src)
 |oH (size:Nat) (x:Src) (lo hi mx:Option Src)
 |lA (n size:Nat) (x:Src) (lo hi mx:Option Src)
 |vE (off:Nat) (x:Src)
 |field (off:Nat) (n:Option Nat) (x:Src)
 |iP (len size:Nat) (x i:Src)
 |jf (size:Nat) (x i:Src)
 |xF (len size:Nat) (n:Option Nat) (x i:Src)
 |bN (x i:Src)
 |lookup (kd:mZ) (zero:V) (m k:Src) (ok:Bool)
 |xA (kd:mZ) (m k v:Src)
 |I5 (kd:mZ) (zero:V) (m k:Src)
 |I6 (m s v:Src)
 |lE (x:Src)
 |tn (it:Src)
 |extract (x:Src) (i:Nat)
 |len (k:Nat) (x:Src)
 |xG (n:Nat)
 |cap (x:Src)
 |mn (args:List Src)
 |mx (args:List Src)
 |append (size bytes:Nat) (elem:TypeId) (zero:List V) (s x:Src)
 |copy (size:Nat) (d s:Src)
 |clear (size:Nat) (zero:List V) (s:Src)
 |call (f:Src) (args:List Src)
 |ext (e:Ext) (args:List Src)
 |LF (e:Option (TypeId×Nat)) (x:Src)
 |Bv (x:Src)
 |IQ (e:TypeId) (x n:Src)
 |stop
structure dP where
 dst:Option Nat
 op:iz
 guard:Option (Nat×Bool)
inductive cF where
 |skip
 |gw (ops:List dP)
 |gK (ops:List dP) (sD:List Nat)
 |zW (dst:Option Nat) (ch:Src) (send:Option Src) (zero:V) (ops:List dP)
 |seq (a b:cF)
 |cond (c:Src) (a b:cF)
 |block (id:Nat) (c:cF)
 |loop (c:cF)
 |jY (g:Src) (ps:List Nat) (assign body:cF)
 |exit (id:Nat)
 |scope (c:cF)
 |ret
 |stop
inductive F3 where
 |tmp (t:Nat)
 |cell (t:Nat) (n:Option Nat)
structure nA where
 ntmps:Nat
 results:List F3
 body:cF
inductive Ex where
 |normal
 |exit (id:Nat)
 |ret
structure Nt where
 st:LoopState
 fz:Option Ex
 r:T V
 n:Nat
 ps:List Nat
 assign:cF
 body:cF
 defs:Nat
inductive O where
 |cells (c:List V) (elem:TypeId) (rw:Bool)
 |map (es:List (V×V))
 |chan (cap:Nat) (buf:List V)
 |fe (s:List UInt8) (pos:Nat)
 |loop (l:Nt)
 |defs (zad:Bool)
 |dead
def O.wr:O->Bool
 |.cells _ _ rw=>rw
 |.dead=>false
 |_=>true
def O.live:O->Bool
 |.dead=>false
 |_=>true
structure St where
 h:T O
 n:Nat
 w:List Nat
def St.alloc(st:St)(o:O):St:={st with h:=st.h.set st.n o,n:=st.n+1}
def St.write(st:St)(i:Nat)(o:O):St:={st with h:=st.h.set i o,w:=i::st.w}
structure Fr where
 r:T V
 n:Nat
 marks:List Nat
def Src.ev(r:T V):Src->Option V
 |.tmp t=>r.get t
 |.const v=>some v
def wH(r:T V):List Src->Option (List V)
 |[]=>some []
 |x::xs=>match x.ev r,wH r xs with
  |some v,some vs=>some (v::vs)
  |_,_=>none
def aC(r:T V):Option Src->Option (Option V)
 |none=>some none
 |some x=>match x.ev r with
  |some v=>some (some v)
  |none=>none
def aP{α:Type}(c:List α)(o n:Nat):Option (List α):=if o+n<=c.length then some ((c.drop o).take n) else none
def ae{α:Type}(c:List α)(o:Nat)(vs:List α):List α:=c.take o++vs++c.drop (o+vs.length)
def Dk(cells:List V):List (Nat×Nat×V)->Option (List V)
 |[]=>some cells
 |(off,size,v)::rest=>
  if v.cells.length=size/\off+size<=cells.length then Dk (ae cells off v.cells) rest else none
def Dl(r:T V):List (Nat×Nat×Src)->Option (List (Nat×Nat×V))
 |[]=>some []
 |(o,s,x)::rest=>match x.ev r,Dl r rest with
  |some v,some vs=>some ((o,s,v)::vs)
  |_,_=>none
def aS(cs:List V)(off:Nat):Option Nat->Option V
 |none=>cs[off]?
 |some n=>match aP cs off n with
  |some l=>some (.agg l)
  |none=>none
def bA(ng:Bool):PK->V->V->Option Bool
 |.bool,.bool a,.bool b=>some (a==b)
 |.int,.int k a,.int k' b=>if k=k' then some (a==b) else none
 |.str,.str a,.str b=>some (a==b)
 |.ptr,.bM,.bM=>some true
 |.ptr,.bM,.ptr _ _=>some false
 |.ptr,.ptr _ _,.bM=>some false
 |.ptr,.ptr i o,.ptr j p=>if i=j/\o=p then some true else none
 |.slice,.aa,.aa=>some true
 |.slice,.aa,.slice ..=>some false
 |.slice,.slice ..,.aa=>some false
 |.slice,.aa,.empty=>some false
 |.slice,.empty,.aa=>some false
 |.map,.bV,.bV=>some true
 |.map,.bV,.map _=>some false
 |.map,.map _,.bV=>some false
 |.func,.bY,.bY=>some true
 |.func,.bY,.func ..=>some false
 |.func,.func ..,.bY=>some false
 |.chan,.bW,.bW=>some true
 |.chan,.bW,.chan _=>some false
 |.chan,.chan _,.bW=>some false
 |.iface,.bb,.bb=>if ng then some true else none
 |.iface,.bb,.iface ..=>some false
 |.iface,.iface ..,.bb=>some false
 |_,_,_=>none
mutual
def y8(ng:Bool):uP->V->V->Option Bool
 |.fF k,x,y=>bA ng k x y
 |.node ps,.agg xs,.agg ys=>Oy ps xs ys
 |_,_,_=>none
def Oy:List (Nat×Option Nat×uP)->List V->List V->Option Bool
 |[],_,_=>some true
 |(off,n,t)::rest,xs,ys=>
  match aS xs off n,aS ys off n with
  |some x,some y=>match y8 false t x y with
   |some true=>Oy rest xs ys
   |some false=>some false
   |none=>none
  |_,_=>none
end
def bn(k:IntKind)(n:Int):Int:=
 match k,n with
 |.i64,.ofNat a=>match Nat.blt a 9223372036854775808 with
  |true=>.ofNat a
  |false=>IntKind.wrap .i64 (.ofNat a)
 |.i64,.negSucc a=>match Nat.blt a 9223372036854775808 with
  |true=>.negSucc a
  |false=>IntKind.wrap .i64 (.negSucc a)
 |.u64,.ofNat a=>.ofNat (Nat.mod a 18446744073709551616)
 |.u8,.ofNat a=>.ofNat (Nat.mod a 256)
 |.i32,.ofNat a=>match Nat.blt a 2147483648 with
  |true=>.ofNat a
  |false=>IntKind.wrap .i32 (.ofNat a)
 |.u32,.ofNat a=>.ofNat (Nat.mod a 4294967296)
 |k,n=>k.wrap n
def BF(k:IntKind)(n:Int):bn k n=k.wrap n:=by
 unfold bn;split
 ·rename_i a;split
  ·rename_i h;have h':a<9223372036854775808:=Et (zZ h);simp only[IntKind.wrap,IntKind.bits,IntKind.signed,Ow];simp;omega
  rfl
 ·rename_i a;split
  ·rename_i h;have h':a<9223372036854775808:=Et (zZ h);have e:(Int.negSucc a)= -(a:Int)-1:=by omega
   simp only[IntKind.wrap,IntKind.bits,IntKind.signed,e];simp;omega
  rfl
 ·rename_i a;show Int.ofNat (a%18446744073709551616)=_;simp only[IntKind.wrap,IntKind.bits,IntKind.signed,Ow];simp
 ·rename_i a;show Int.ofNat (a%256)=_;simp only[IntKind.wrap,IntKind.bits,IntKind.signed,Ow];simp
 ·rename_i a;split
  ·rename_i h;have h':a<2147483648:=Et (zZ h);simp only[IntKind.wrap,IntKind.bits,IntKind.signed,Ow];simp;omega
  rfl
 ·rename_i a;show Int.ofNat (a%4294967296)=_;simp only[IntKind.wrap,IntKind.bits,IntKind.signed,Ow];simp
 rfl
def tD(op:BinOp)(k:IntKind)(a b:Int):Option V:=
 match op with
 |.add=>some (.int k (bn k (a+b)))
 |.sub=>some (.int k (bn k (a-b)))
 |.mul=>some (.int k (bn k (a*b)))
 |.quo=>if b=0 then none else some (.int k (bn k (a.tdiv b)))
 |.rem=>if b=0 then none else some (.int k (a.tmod b))
 |.and=>some (.int k (k.wrap (BitVec.ofInt k.bits a&&& BitVec.ofInt k.bits b).toNat))
 |.or=>some (.int k (k.wrap (BitVec.ofInt k.bits a|||BitVec.ofInt k.bits b).toNat))
 |.xor=>some (.int k (k.wrap (BitVec.ofInt k.bits a^^^BitVec.ofInt k.bits b).toNat))
 |.andNot=>some (.int k (k.wrap (BitVec.ofInt k.bits a&&& ~~~ BitVec.ofInt k.bits b).toNat))
 |.eql=>some (.bool (a==b))
 |.neq=>some (.bool (a !=b))
 |.lss=>some (.bool (decide (a<b)))
 |.leq=>some (.bool (decide (a<=b)))
 |.gtr=>some (.bool (decide (a > b)))
 |.geq=>some (.bool (decide (a≥b)))
 |_=>none
def AI(op:BinOp)(k:IntKind)(a b:Int):Option V:=
 if b<0 then none else
  match op with
  |.shl=>some (.int k (k.wrap (a*2^(min b.toNat k.bits))))
  |.shr=>some (.int k (a.fdiv (2^(min b.toNat k.bits))))
  |_=>none
def jE(op:BinOp)(x y:List UInt8):Option V:=
 match op with
 |.add=>if ((x.length+y.length:Nat):Int) > IntKind.i64.max then none else some (.str (x++y))
 |.eql=>some (.bool (x==y))
 |.neq=>some (.bool (!(x==y)))
 |.lss=>some (.bool (Op.bytesLess x y))
 |.leq=>some (.bool (Op.bytesLess x y||x==y))
 |.gtr=>some (.bool (!(Op.bytesLess x y||x==y)))
 |.geq=>some (.bool (!(Op.bytesLess x y)))
 |_=>none
def Xa0(op:BinOp)(t:uP)(ng:Bool):V->V->Option V
 |.int k a,.int k' b=>
  match op with
  |.shl=>AI .shl k a b
  |.shr=>AI .shr k a b
  |_=>if k=k' then tD op k a b else none
 |.str a,.str b=>jE op a b
 |x,y=>match op with
  |.eql=>match y8 ng t x y with
   |some b=>some (.bool b)
   |none=>none
  |.neq=>match y8 ng t x y with
   |some b=>some (.bool (!b))
   |none=>none
  |_=>none
def unV:UnOp->V->Option V
 |.neg,.int k n=>some (.int k (k.wrap (0-n)))
 |.xor,.int k n=>some (.int k (k.wrap (BitVec.ofInt k.bits (if k.signed then -1 else k.max)^^^BitVec.ofInt k.bits n).toNat))
 |.not,.bool b=>some (.bool (!b))
 |_,_=>none
def m_(v:V)(y:Nat):Option Nat:=
 match v with
 |.int _ n=>if 0<=n/\n<=(y:Int) then some n.toNat else none
 |_=>none
def dW(v:Option V)(y zae:Nat):Option Nat:=
 match v with
 |some v=>m_ v y
 |none=>some zae
def St.row(st:St)(i:Nat):Option (List V×TypeId×Bool):=
 match st.h.get i with
 |some (.cells c e rw)=>some (c,e,rw)
 |_=>none
def cW(zero:List V)(n:Nat):List V:=(List.range (n*zero.length)).map fun i=>zero.getD (i%zero.length) (.aX [])
def fQ(st:St)(size:Nat):V->Option (Nat×List V)
 |.aa=>some (0,[])
 |.empty=>some (0,[])
 |.slice j p m _ sz=>if sz=size then match st.row j with
   |some (c,_,_)=>match aP c p (m*size)with
    |some l=>some (m,l)
    |none=>none
   |none=>none
  else none
 |.str s=>if size=1 then some (s.length,s.map fun b=>.int .u8 b.toNat) else none
 |_=>none
def zR:Nat:=2^48
def oc(st:St)(size bytes:Nat)(elem:TypeId)(s x:V):Option (V×St):=
 match fQ st size x with
 |none=>none
 |some (n,xs)=>
  match s with
  |.aa=>
   if n=0 then some (.aa,st)
   else if 2*n*bytes<=zR/\size≠0 then some (.slice st.n 0 n none size,st.alloc (.cells xs elem true)) else none
  |.slice i o len cap sz=>
   if n=0 then (if sz=size then some (s,st) else none)
   else if sz≠size\/size=0\/zR<2*(len+n)*bytes then none else
   match st.row i with
   |none=>none
   |some (c,e,rw)=>
    match cap with
    |some k=>
     if len+n<=k then
      (if rw=true/\o+(len+n)*size<=c.length then some (.slice i o (len+n) cap sz,st.write i (.cells (ae c (o+len*size) xs) e rw)) else none)
     else match aP c o (len*size)with
      |some old=>some (.slice st.n 0 (len+n) none size,st.alloc (.cells (old++xs) elem true))
      |none=>none
    |none=>
     if rw=true then
      if o+(len+n)*size<=c.length then some (.slice i o (len+n) none sz,st.write i (.cells (ae c (o+len*size) xs) e rw))
      else if o+len*size=c.length/\e=elem/\o=0 then
       some (.slice st.n 0 (len+n) none size,(st.write i .dead).alloc (.cells (c.drop o++xs) elem true))
      else none
     else none
  |_=>none
def TW:mZ->V->V->Option Bool
 |.int k,.int a x,.int b y=>if a=k/\b=k then some (x==y) else none
 |.str,.str x,.str y=>some (x==y)
 |_,_,_=>none
def fK(kd:mZ)(k:V):List (V×V)->Nat->Option (Option (Nat×V))
 |[],_=>some none
 |(a,v)::es,i=>
  match TW kd k a with
  |some true=>some (some (i,v))
  |some false=>fK kd k es (i+1)
  |none=>none
def mZ.fits:mZ->V->Bool
 |.int k,.int k' _=>k=k'
 |.str,.str _=>true
 |_,_=>false
def y_:List V->Option V
 |[]=>none
 |[x]=>some x
 |.int k a::.int _ b::rest=>y_ (.int k (if b<a then b else a)::rest)
 |_=>none
termination_by l=>l.length
def za:List V->Option V
 |[]=>none
 |[x]=>some x
 |.int k a::.int _ b::rest=>za (.int k (if a<b then b else a)::rest)
 |_=>none
termination_by l=>l.length
def Aa:V->List V->Option V
 |x,[]=>some x
 |.int k a,.int _ b::rest=>Aa (.int k (if b<a then b else a)) rest
 |_,_=>none
def EB:List V->Option V
 |[]=>none
 |x::xs=>Aa x xs
def AJ:V->List V->Option V
 |x,[]=>some x
 |.int k a,.int _ b::rest=>AJ (.int k (if a<b then b else a)) rest
 |_,_=>none
def Dm:List V->Option V
 |[]=>none
 |x::xs=>AJ x xs
def Yhq:∀(xs:List V) (x:V),Aa x xs=y_ (x::xs)
 |[],x=>by simp[Aa,y_]
 |y::ys,x=>by
  cases x with
  |int k a=>
   cases y with
   |int k' b=>simp only[Aa,y_];exact Yhq ys _
   |_=>simp[Aa,y_]
  |_=>simp[Aa,y_]
def Yth(l:List V):EB l=y_ l:=by
 cases l with
 |nil=>simp[EB,y_]
 |cons x xs=>exact Yhq xs x
def Yht:∀(xs:List V) (x:V),AJ x xs=za (x::xs)
 |[],x=>by simp[AJ,za]
 |y::ys,x=>by
  cases x with
  |int k a=>
   cases y with
   |int k' b=>simp only[AJ,za];exact Yht ys _
   |_=>simp[AJ,za]
  |_=>simp[AJ,za]
def Ytl(l:List V):Dm l=za l:=by
 cases l with
 |nil=>simp[Dm,za]
 |cons x xs=>exact Yht xs x
def I7(c:UInt8):List UInt8->Nat->Int
 |[],_=> -1
 |b::rest,i=>if b==c then (i:Int) else I7 c rest (i+1)
def EC:Ext->List V->Option V
 |.pD,[.int .u64 x,.int .u64 y,.int .u64 c]=>if ¬(c=0\/c=1) then none else
   some (.aX [.int .u64 (Int.ofNat ((x.toNat+y.toNat+c.toNat)%2^64)),.int .u64 (Int.ofNat ((x.toNat+y.toNat+c.toNat)/2^64))])
 |.pE,[.int .u64 x,.int .u64 y,.int .u64 b]=>if ¬(b=0\/b=1) then none else
   some (.aX [.int .u64 (Int.ofNat ((x.toNat+2^64-y.toNat-b.toNat)%2^64)),.int .u64 (if x.toNat<y.toNat+b.toNat then 1 else 0)])
 |.cr,[.str s,.int .u8 c]=>some (.int .i64 (I7 c.toNat.toUInt8 s 0))
 |_,_=>none
abbrev cO:=V->List V->St->Option (V×St)
def TX(op:BinOp)(t:uP)(st:St)(i j:Nat):Option (V×St):=
 match op,t,st.h.get i,st.h.get j with
 |.eql,.fF .chan,some (.chan ..),some (.chan ..)=>some (.bool (i==j),st)
 |.neq,.fF .chan,some (.chan ..),some (.chan ..)=>some (.bool (!(i==j)),st)
 |_,_,_,_=>none
abbrev eY:=cO->T V->St->Option (V×St)
def I8(x:Src):eY:=fun _ r st=>match x.ev r with
  |some v=>some (v,st)
  |none=>none
def Gp(c:Src)(a:Src)(b:Src):eY:=fun _ r st=>match c.ev r with
  |some (.bool true)=>match a.ev r with
   |some v=>some (v,st)
   |none=>none
  |some (.bool false)=>match b.ev r with
   |some v=>some (v,st)
   |none=>none
  |_=>none
def LQ(zero:List V)(elem:TypeId):eY:=fun _ _ st=>some (.ptr st.n 0,st.alloc (.cells zero elem true))
def I9(elem:TypeId)(x:Src):eY:=fun _ r st=>match x.ev r with
  |some v=>if v.cells.all V.one then some (.ptr st.n 0,st.alloc (.cells v.cells elem true)) else none
  |none=>none
def ED(zero:List V)(parts:List (Nat×Nat×Src)):eY:=fun _ r st=>match Dl r parts with
  |some ps=>match Dk zero ps with
   |some l=>some (.agg l,st)
   |none=>none
  |none=>none
def Ja(elem:TypeId)(size:Nat)(len:Nat)(zero:List V)(parts:List (Nat×Nat×Src)):eY:=fun _ r st=>match Dl r parts with
  |some ps=>match Dk zero ps with
   |some l=>if l.all V.one then some (.slice st.n 0 len (some len) size,st.alloc (.cells l elem true)) else none
   |none=>none
  |none=>none
def Jb(n:Option Nat)(a:Src):eY:=fun _ r st=>match a.ev r with
  |some (.ptr i o)=>match st.row i with
   |some (c,_,_)=>match aS c o n with
    |some v=>some (v,st)
    |none=>none
   |none=>none
  |_=>none
def Gq(n:Nat)(a:Src)(x:Src):eY:=fun _ r st=>match a.ev r,x.ev r with
  |some (.ptr i o),some v=>match st.row i with
   |some (c,e,true)=>if v.cells.length=n/\o+n<=c.length/\v.cells.all V.one=true then some (.aX [],st.write i (.cells (ae c o v.cells) e true)) else none
   |_=>none
  |_,_=>none
def Jc(x:Src):eY:=fun _ r st=>match x.ev r with
  |some (.ptr i o)=>some (.ptr i o,st)
  |some (.func f a l)=>some (.func f a l,st)
  |_=>none
def Jd(op:BinOp)(t:uP)(ng:Bool)(x:Src)(y:Src):eY:=fun _ r st=>match x.ev r,y.ev r with
  |some (.chan i),some (.chan j)=>TX op t st i j
  |some a,some b=>match Xa0 op t ng a b with
   |some v=>some (v,st)
   |none=>none
  |_,_=>none
def Je(op:UnOp)(x:Src):eY:=fun _ r st=>match x.ev r with
  |some a=>match unV op a with
   |some v=>some (v,st)
   |none=>none
  |none=>none
def Jf(k:IntKind)(x:Src):eY:=fun _ r st=>match x.ev r with
  |some (.int _ n)=>some (.int k (bn k n),st)
  |_=>none
def LR(x:Src):eY:=fun _ r st=>match x.ev r with
  |some (.str s)=>some (.str s,st)
  |_=>none
def Gs(elem:TypeId)(x:Src):eY:=fun _ r st=>match x.ev r with
  |some (.str s)=>some (.slice st.n 0 s.length none 1,st.alloc (.cells (s.map fun b=>.int .u8 b.toNat) elem true))
  |_=>none
def Jg(x:Src):eY:=fun _ r st=>match x.ev r with
  |some .aa=>some (.str [],st)
  |some (.slice i o len _ 1)=>match st.row i with
   |some (c,_,_)=>match aP c o len with
    |some l=>match l.mapM (fun v=>match v with|.int .u8 n=>some (UInt8.ofNat n.toNat)|_=>none)with
     |some s=>some (.str s,st)
     |none=>none
    |none=>none
   |none=>none
  |_=>none
def LS(t:TypeId)(x:Src):eY:=fun _ r st=>match x.ev r with
  |some v=>some (.iface t v,st)
  |none=>none
def Jh(f:FuncId)(first:List Src)(iA:List Src):eY:=fun _ r st=>match wH r first,wH r iA with
  |some a,some l=>some (.func f a l,st)
  |_,_=>none
def LU:eY:=fun _ _ st=>some (.map st.n,st.alloc (.map []))
def Gt(bytes:Nat)(n:Src):eY:=fun _ r st=>match n.ev r with
  |some (.int _ k)=>if k<0\/k > IntKind.i64.max\/bytes*k > 2^48-112 then none else some (.chan st.n,st.alloc (.chan k.toNat []))
  |_=>none
def EE(elem:TypeId)(size:Nat)(bytes:Nat)(zero:List V)(len:Src)(cap:Src):eY:=fun _ r st=>match len.ev r,cap.ev r with
  |some (.int _ l),some (.int _ c)=>
   if 0<=l/\l<=c/\bytes*c<=2^47/\c<2^62/\size=zero.length/\size≠0 then
    some (.slice st.n 0 l.toNat (some c.toNat) size,st.alloc (.cells (cW zero c.toNat) elem true)) else none
  |_,_=>none
def AK(x:Src)(lo:Option Src)(hi:Option Src):eY:=fun _ r st=>match x.ev r,aC r lo,aC r hi with
  |some (.str s),some lo,some hi=>
   match dW hi s.length s.length with
   |some h=>match dW lo h 0 with
    |some l=>some (.str ((s.take h).drop l),st)
    |none=>none
   |none=>none
  |_,_,_=>none
def rQ(size:Nat)(x:Src)(lo:Option Src)(hi:Option Src)(mx:Option Src):eY:=fun _ r st=>match x.ev r,aC r lo,aC r hi,aC r mx with
  |some .aa,some lo,some hi,some mx=>
   match dW mx 0 0 with
   |some _=>match dW hi 0 0 with
    |some _=>match dW lo 0 0 with
     |some _=>if mx.isSome&&hi.isNone then none else some (.aa,st)
     |none=>none
    |none=>none
   |none=>none
  |some .empty,some lo,some hi,some none=>
   match dW hi 0 0 with
   |some _=>match dW lo 0 0 with
    |some _=>some (.empty,st)
    |none=>none
   |none=>none
  |some (.slice i o len (some c) sz),some lo,some hi,some mx=>
   if sz≠size\/(mx.isSome&&hi.isNone) then none else
   match dW mx c c with
   |some m=>match dW hi m len with
    |some h=>match dW lo h 0 with
     |some l=>some (.slice i (if m=l then o else o+l*size) (h-l) (some (m-l)) sz,st)
     |none=>none
    |none=>none
   |none=>none
  |some (.slice i o len none sz),some lo,some hi,some mx=>
   if sz≠size\/size=0\/(mx.isSome&&hi.isNone) then none else
   match st.row i with
   |some (c,_,_)=>
    let k:=max len ((c.length-o)/size)
    match mx with
    |some m=>match m_ m k with
     |some m=>match dW hi m len with
      |some h=>match dW lo h 0 with
       |some l=>some (.slice i (if m=l then o else o+l*size) (h-l) (some (m-l)) sz,st)
       |none=>none
      |none=>none
     |none=>none
    |none=>match dW hi k len with
     |some h=>match dW lo h 0 with
      |some l=>if l<k then some (.slice i (o+l*size) (h-l) none sz,st) else some (.empty,st)
      |none=>none
     |none=>none
   |none=>none
  |_,_,_,_=>none
def BG(n:Nat)(size:Nat)(x:Src)(lo:Option Src)(hi:Option Src)(mx:Option Src):eY:=fun _ r st=>match x.ev r,aC r lo,aC r hi,aC r mx with
  |some (.ptr i o),some lo,some hi,some none=>
   match dW hi n n with
   |some h=>match dW lo h 0 with
    |some l=>match st.row i with
     |some (c,_,_)=>if o+n*size<=c.length/\mx.isNone then some (.slice i (if n=l then o else o+l*size) (h-l) (some (n-l)) size,st) else none
     |none=>none
    |none=>none
   |none=>none
  |_,_,_,_=>none
def Ji(off:Nat)(x:Src):eY:=fun _ r st=>match x.ev r with
  |some (.ptr i o)=>some (.ptr i (o+off),st)
  |_=>none
def Jj(off:Nat)(n:Option Nat)(x:Src):eY:=fun _ r st=>match x.ev r with
  |some (.agg cs)=>match aS cs off n with
   |some v=>some (v,st)
   |none=>none
  |_=>none
def EF(len:Nat)(size:Nat)(x:Src)(i:Src):eY:=fun _ r st=>match x.ev r,i.ev r with
  |some (.ptr a o),some (.int _ k)=>if 0<=k/\k<(len:Int) then some (.ptr a (o+k.toNat*size),st) else none
  |_,_=>none
def Gu(size:Nat)(x:Src)(i:Src):eY:=fun _ r st=>match x.ev r,i.ev r with
  |some (.slice a o len _ _),some (.int _ k)=>if 0<=k/\k<(len:Int) then some (.ptr a (o+k.toNat*size),st) else none
  |_,_=>none
def LV(len:Nat)(size:Nat)(n:Option Nat)(x:Src)(i:Src):eY:=fun _ r st=>match x.ev r,i.ev r with
  |some (.agg cs),some (.int _ k)=>if 0<=k/\k<(len:Int) then match aS cs (k.toNat*size) n with
    |some v=>some (v,st)
    |none=>none
   else none
  |_,_=>none
def Gw(x:Src)(i:Src):eY:=fun _ r st=>match x.ev r,i.ev r with
  |some (.str s),some (.int _ k)=>if 0<=k then match s[k.toNat]? with
    |some b=>some (.int .u8 b.toNat,st)
    |none=>none
   else none
  |_,_=>none
def Jk(kd:mZ)(zero:V)(m:Src)(k:Src)(ok:Bool):eY:=fun _ r st=>match m.ev r,k.ev r with
  |some m,some k=>
   if kd.fits k then
    match (match m with
     |.bV=>some []
     |.map i=>match st.h.get i with
      |some (.map es)=>some es
      |_=>none
     |_=>none)with
    |some es=>match fK kd k es 0 with
     |some (some (_,v))=>some (if ok then .aX [v,.bool true] else v,st)
     |some none=>some (if ok then .aX [zero,.bool false] else zero,st)
     |none=>none
    |none=>none
   else none
  |_,_=>none
def Gx(kd:mZ)(m:Src)(k:Src)(v:Src):eY:=fun _ r st=>match m.ev r,k.ev r,v.ev r with
  |some (.map i),some k,some v=>
   if kd.fits k then
    match st.h.get i with
    |some (.map es)=>match fK kd k es 0 with
     |some (some (j,_))=>some (.aX [],st.write i (.map (es.set j (k,v))))
     |some none=>some (.aX [],st.write i (.map (es++[(k,v)])))
     |none=>none
    |_=>none
   else none
  |_,_,_=>none
def Zvb(kd:mZ)(zero:V)(m:Src)(k:Src):eY:=fun _ r st=>match m.ev r,k.ev r with
  |some (.map i),some k=>
   if kd.fits k then
    match st.h.get i with
    |some (.map es)=>match fK kd k es 0 with
     |some (some (j,v))=>some (.aX [v,.int .i64 j],st.write i (.map (es.set j (k,v))))
     |some none=>some (.aX [zero,.int .i64 es.length],st.write i (.map (es++[(k,zero)])))
     |none=>none
    |_=>none
   else none
  |_,_=>none
def Zpu(m:Src)(s:Src)(v:Src):eY:=fun _ r st=>match m.ev r,s.ev r,v.ev r with
  |some (.map i),some (.int _ j),some v=>
   match st.h.get i with
   |some (.map es)=>if 0<=j then match es[j.toNat]? with
     |some (k,_)=>some (.aX [],st.write i (.map (es.set j.toNat (k,v))))
     |none=>none
    else none
   |_=>none
  |_,_,_=>none
def Jl(x:Src):eY:=fun _ r st=>match x.ev r with
  |some (.str s)=>some (.ptr st.n 0,st.alloc (.fe s 0))
  |_=>none
def Jm(it:Src):eY:=fun _ r st=>match it.ev r with
  |some (.ptr i 0)=>match st.h.get i with
   |some (.fe s pos)=>
    if pos<s.length then
     let cw:=Utf8.decode ⟨s.toArray⟩ pos
     some (.aX [.bool true,.int .i64 pos,.int .i32 cw.1],st.write i (.fe s (pos+cw.2)))
    else some (.aX [.bool false],st)
   |_=>none
  |_=>none
def Jn(x:Src)(i:Nat):eY:=fun _ r st=>match x.ev r with
  |some (.aX vs)=>match vs[i]? with
   |some v=>some (v,st)
   |none=>none
  |_=>none
def Ab(k:Nat)(x:Src):eY:=fun _ r st=>match k,x.ev r with
  |0,some (.str s)=>some (.int .i64 s.length,st)
  |1,some .aa=>some (.int .i64 0,st)
  |1,some .empty=>some (.int .i64 0,st)
  |1,some (.slice _ _ n _ _)=>some (.int .i64 n,st)
  |2,some .bV=>some (.int .i64 0,st)
  |2,some (.map i)=>match st.h.get i with
   |some (.map es)=>some (.int .i64 es.length,st)
   |_=>none
  |_,_=>none
def Oz(n:Nat):eY:=fun _ _ st=>some (.int .i64 n,st)
def LW(x:Src):eY:=fun _ r st=>match x.ev r with
  |some .aa=>some (.int .i64 0,st)
  |some (.slice _ _ _ (some c) _)=>some (.int .i64 c,st)
  |_=>none
def AL(args:List Src):eY:=fun _ r st=>match wH r args with
  |some l=>match EB l with
   |some v=>some (v,st)
   |none=>none
  |none=>none
def tE(args:List Src):eY:=fun _ r st=>match wH r args with
  |some l=>match Dm l with
   |some v=>some (v,st)
   |none=>none
  |none=>none
def EG(size:Nat)(bytes:Nat)(elem:TypeId)(_:List V)(s:Src)(x:Src):eY:=fun _ r st=>match s.ev r,x.ev r with
  |some s,some x=>oc st size bytes elem s x
  |_,_=>none
def Dp(size:Nat)(d:Src)(s:Src):eY:=fun _ r st=>match d.ev r,s.ev r with
  |some d,some s=>match fQ st size s with
   |some (n,xs)=>match d with
    |.aa=>some (.int .i64 0,st)
    |.slice i o len _ sz=>
     if sz≠size\/size=0 then none else
     let k:=min n len
     if k=0 then some (.int .i64 0,st) else
     match st.row i with
     |some (c,e,true)=>if o+k*size<=c.length then some (.int .i64 k,st.write i (.cells (ae c o (xs.take (k*size))) e true)) else none
     |_=>none
    |_=>none
   |none=>none
  |_,_=>none
def LX(size:Nat)(zero:List V)(s:Src):eY:=fun _ r st=>match s.ev r with
  |some .aa=>some (.aX [],st)
  |some .empty=>some (.aX [],st)
  |some (.slice i o len _ sz)=>
   if len=0 then some (.aX [],st) else
   if sz≠size\/size=0\/zero.length≠size then none else
   match st.row i with
   |some (c,e,true)=>if o+len*size<=c.length then some (.aX [],st.write i (.cells (ae c o (cW zero len)) e true)) else none
   |_=>none
  |_=>none
def AM(f:Src)(args:List Src):eY:=fun call r st=>match f.ev r,wH r args with
  |some f,some l=>call f l st
  |_,_=>none
def Jo(e:Ext)(args:List Src):eY:=fun _ r st=>match e,wH r args with
  |.same,some [v]=>some (v,st)
  |e,some l=>match EC e l with
   |some v=>some (v,st)
   |none=>none
  |_,none=>none
def Gy(e:Option (TypeId×Nat))(x:Src):eY:=fun _ r st=>match x.ev r with
  |some (.ptr i 0)=>match st.row i with
   |some (c,e',true)=>match e with
    |none=>if 0<c.length then some (.ptr i 0,st) else none
    |some (u,z)=>if e'=u/\0<z/\z<=c.length then some (.ptr i 0,st) else none
   |_=>none
  |_=>none
def LY(x:Src):eY:=fun _ r st=>match x.ev r with
  |some (.slice i o len _ _)=>if 0<len then some (.ptr i o,st) else none
  |_=>none
def TY:V->Option UInt8
 |.int .u8 n=>if 0<=n/\n<256 then some n.toNat.toUInt8 else none
 |_=>none
def Jp:List V->Option (List UInt8)
 |[]=>some []
 |v::l=>match TY v,Jp l with
  |some b,some s=>some (b::s)
  |_,_=>none
def LZ(e:TypeId)(x n:Src):eY:=fun _ r st=>match x.ev r,n.ev r with
  |some (.ptr i 0),some (.int .i64 k)=>if 0<k/\k<=9223372036854775807 then
    match st.row i with
    |some (c,e',true)=>if e'=e then
      match aP c 0 k.toNat with
      |some Bz=>match Jp Bz with
       |some s=>some (.str s,st.write i (.cells c e' false))
       |none=>none
      |none=>none
     else none
    |_=>none
   else none
  |_,_=>none
def Zxw:eY:=fun _ _ _=>none
def cH(op:iz):eY:=iz.casesOn op I8 Gp LQ I9 ED Ja Jb Gq Jc Jd Je Jf LR Gs Jg LS Jh LU Gt EE AK rQ BG Ji Jj EF Gu LV Gw Jk Gx Zvb Zpu Jl Jm Jn Ab Oz LW AL tE EG Dp LX AM Jo Gy LY LZ Zxw
def Fr.put(fr:Fr)(d:Option Nat)(v:V):Option Fr:=
 match d with
 |some d=>if d<fr.n then some {fr with r:=fr.r.set d v} else none
 |none=>some fr
def bZ(r:T V):Option (Nat×Bool)->Option Bool
 |none=>some true
 |some (t,want)=>match r.get t with
  |some (.bool b)=>some (b==want)
  |some (.aX _)=>some false
  |_=>none
def Dq(call:cO)(o:dP)(next:Fr->St->Option (Fr×St))(fr:Fr)(st:St):Option (Fr×St):=
 match bZ fr.r o.guard with
 |some true=>match cH o.op call fr.r st with
  |some (v,aB)=>match fr.put o.dst v with
   |some bJ=>next bJ aB
   |none=>none
  |none=>none
 |some false=>match fr.put o.dst (.aX [])with
  |some bJ=>next bJ st
  |none=>none
 |none=>none
def Ypv(fr:Fr)(st:St):Option (Fr×St):=some (fr,st)
def dX(call:cO):List dP->Fr->St->Option (Fr×St)
 |[]=>Ypv
 |o::rest=>Dq call o (dX call rest)
structure FP where
 rd:Option (List Nat)
 wr:List Nat
 lo:Nat
 hi:Nat
def iz.pY:iz->Bool
 |.vD _|.pick ..|.alloc ..|.box ..|.build ..|.mV ..|.pU _|.un ..|.dE ..|.tC _|.lf ..|.je ..|.pW ..|.yV|.xE ..
 |.lh ..|.cG ..|.vE ..|.field ..|.iP ..|.jf ..|.xF ..|.bN ..|.lE _|.extract ..|.xG _|.cap _|.mn _|.mx _|.ext ..=>true
 |.bin .add ..|.bin .sub ..|.bin .mul ..|.bin .quo ..|.bin .rem ..|.bin .lss ..|.bin .leq ..|.bin .gtr ..|.bin .geq ..|.bin .shl ..|.bin .shr ..|.bin .and ..|.bin .or ..|.bin .xor ..|.bin .andNot ..=>true
 |_=>false
def TZ(r:T V):iz->Option Nat
 |.load _ a=>match a.ev r with
  |some (.ptr i _)=>some i
  |_=>none
 |.store _ a _=>match a.ev r with
  |some (.ptr i _)=>some i
  |_=>none
 |_=>none
def q8(r:T V)(op:iz)(ws:List Nat)(lo hi:Nat):FP:=
 if op.pY then ⟨some [],[],lo,hi⟩ else
 match TZ r op with
 |some i=>if Nat.blt i lo then ⟨some [i],ws,lo,hi⟩ else ⟨none,ws,lo,hi⟩
 |none=>⟨none,ws,lo,hi⟩
def Ac(i:Nat)(l:List Nat):List Nat:=if l.contains i then l else i::l
def ay(n:Nat):List Nat->List Nat
 |[]=>[]
 |i::l=>if i<n then Ac i (ay n l) else ay n l
def Dr(call:cO)(o:dP)(next:Fr->St->Option (List FP×Fr×St))(fr:Fr)(st:St):Option (List FP×Fr×St):=
 match bZ fr.r o.guard with
 |some true=>match cH o.op call fr.r {st with w:=[]} with
  |some (v,aB)=>match fr.put o.dst v with
   |some bJ=>match next bJ {aB with w:=ay st.n aB.w++st.w} with
    |some (iR,fr'',st'')=>some (q8 fr.r o.op (ay st.n aB.w) st.n aB.n::iR,fr'',st'')
    |none=>none
   |none=>none
  |none=>none
 |some false=>match fr.put o.dst (.aX [])with
  |some bJ=>match next bJ st with
   |some (iR,fr'',st'')=>some (⟨some [],[],st.n,st.n⟩::iR,fr'',st'')
   |none=>none
  |none=>none
 |none=>none
def Yg0(fr:Fr)(st:St):Option (List FP×Fr×St):=some ([],fr,st)
def bP(call:cO):List dP->Fr->St->Option (List FP×Fr×St)
 |[]=>Yg0
 |o::rest=>Dr call o (bP call rest)
def Jq(a:List Nat):Option (List Nat)->Bool
 |none=>!a.isEmpty
 |some b=>a.any fun i=>b.contains i
def FP.free(a b:FP):Bool:=!(Jq a.wr b.rd||Jq a.wr (some b.wr)||Jq b.wr a.rd||b.wr.any fun i=>Nat.ble a.lo i&&Nat.blt i a.hi)
def dv{α:Type}(p:α->α->Bool)(xs:List α)(sD:List Nat):Bool:=
 go xs sD 0 []
where
 go:List α->List Nat->Nat->List α->Bool
  |[],_,_,_=>true
  |f::fs,ms,j,seen=>
   (dw f (ms.headD 0) (j-1) seen)&&go fs ms.tail (j+1) (f::seen)
 dw (f:α) (m:Nat):Nat->List α->Bool
  |_,[]=>true
  |i,g::gs=>(m.testBit i||p g f)&&dw f m (i-1) gs
def lG(iR:List FP)(sD:List Nat):Bool:=dv FP.free iR sD
def Src.tmps:Src->List Nat
 |.tmp t=>[t]
 |.const _=>[]
def Ds:Option Src->List Src
 |none=>[]
 |some s=>[s]
def iz.EH:iz->List Src
 |.vD x=>[x]
 |.pick c a b=>[c,a,b]
 |.alloc ..=>[]
 |.box _ x=>[x]
 |.build _ ps=>ps.map (·.2.2)
 |.mV _ _ _ _ ps=>ps.map (·.2.2)
 |.load _ a=>[a]
 |.store _ a x=>[a,x]
 |.pU x=>[x]
 |.bin _ _ _ x y=>[x,y]
 |.un _ x=>[x]
 |.dE _ x=>[x]
 |.tC x=>[x]
 |.lf _ x=>[x]
 |.pV x=>[x]
 |.je _ x=>[x]
 |.pW _ a c=>a++c
 |.yV=>[]
 |.xE _ n=>[n]
 |.lh _ _ _ _ l c=>[l,c]
 |.cG x lo hi=>x::(Ds lo++Ds hi)
 |.oH _ x lo hi m=>x::(Ds lo++Ds hi++Ds m)
 |.lA _ _ x lo hi m=>x::(Ds lo++Ds hi++Ds m)
 |.vE _ x=>[x]
 |.field _ _ x=>[x]
 |.iP _ _ x i=>[x,i]
 |.jf _ x i=>[x,i]
 |.xF _ _ _ x i=>[x,i]
 |.bN x i=>[x,i]
 |.lookup _ _ m k _=>[m,k]
 |.xA _ m k v=>[m,k,v]
 |.I5 _ _ m k=>[m,k]
 |.I6 m s v=>[m,s,v]
 |.lE x=>[x]
 |.tn x=>[x]
 |.extract x _=>[x]
 |.len _ x=>[x]
 |.xG _=>[]
 |.cap x=>[x]
 |.mn l=>l
 |.mx l=>l
 |.append _ _ _ _ s x=>[s,x]
 |.copy _ d s=>[d,s]
 |.clear _ _ s=>[s]
 |.call f l=>f::l
 |.ext _ l=>l
 |.LF _ x=>[x]
 |.Bv x=>[x]
 |.IQ _ x n=>[x,n]
 |.stop=>[]
def dP.reads(o:dP):List Nat:=
 (match o.guard with|some (t,_)=>[t]|none=>[])++o.op.EH.flatMap Src.tmps
def OA(d:Option Nat)(l:List Nat):Bool:=
 match d with
 |some t=>l.contains t
 |none=>false
def TJ(a b:dP):Bool:=!(OA a.dst b.reads||OA b.dst a.reads||OA a.dst b.dst.toList)
def Yzn(st:St)(i:Nat)(send:Option V)(zero:V):Option (V×St):=
 match st.h.get i,send with
 |some (.chan cap buf),some v=>if buf.length<cap then some (.aX [.int .i64 0,.bool false],st.write i (.chan cap (buf++[v]))) else some (.aX [.int .i64 (-1),.bool false],st)
 |some (.chan cap (v::buf)),none=>some (.aX [.int .i64 0,.bool true,v],st.write i (.chan cap buf))
 |some (.chan _ []),none=>some (.aX [.int .i64 (-1),.bool false,zero],st)
 |_,_=>none
abbrev sE:=Option Nat->cF->Fr->St->Option (Ex×Fr×St)
abbrev zb:=cO->sE->Option Nat->Fr->St->Option (Ex×Fr×St)
def Yj6:zb:=fun _ _ _ fr st=>some (.normal,fr,st)
def BH(ops:List dP):zb:=fun call _ _ fr st=>match dX call ops fr st with
 |some (bJ,aB)=>some (.normal,bJ,aB)
 |none=>none
def BI(ops:List dP)(sD:List Nat):zb:=fun call _ _ fr st=>match bP call ops fr st with
 |some (iR,bJ,aB)=>match lG iR sD with
  |true=>some (.normal,bJ,aB)
  |false=>none
 |none=>none
def Dt(dst:Option Nat)(ch:Src)(send:Option Src)(zero:V)(ops:List dP):zb:=fun call _ _ fr st=>
 match ch.ev fr.r,aC fr.r send with
 |some (.chan i),some sv=>match Yzn st i sv zero with
  |some (v,b9)=>match fr.put dst v with
   |some eK=>match dX call ops eK b9 with
    |some (bJ,aB)=>some (.normal,bJ,aB)
    |none=>none
   |none=>none
  |none=>none
 |_,_=>none
def Du(a b:cF):zb:=fun _ rec ro fr st=>match rec ro a fr st with
 |some (.normal,bJ,aB)=>rec ro b bJ aB
 |x=>x
def Ad(x:Src)(a b:cF):zb:=fun _ rec ro fr st=>match x.ev fr.r with
 |some (.bool true)=>rec ro a fr st
 |some (.bool false)=>rec ro b fr st
 |_=>none
def Dv(id:Nat)(c:cF):zb:=fun _ rec ro fr st=>match rec ro c fr st with
 |some (.exit Dw,bJ,aB)=>match Nat.beq Dw id with
  |true=>some (.normal,bJ,aB)
  |false=>some (.exit Dw,bJ,aB)
 |x=>x
def Dx(c:cF):zb:=fun _ rec ro fr st=>match rec ro c fr st with
 |some (.normal,bJ,aB)=>rec ro (.loop c) bJ aB
 |x=>x
def S0(st:St):Option Nat->Option (St×Nat×List Nat)
 |none=>some (st.alloc (.defs true),st.n,[st.n])
 |some l=>match st.h.get l with
  |some (.loop R)=>some (st,R.defs,[])
  |_=>none
def V.Ik:V->Bool
 |.yield _=>true
 |_=>false
def A8(g:Src)(ps:List Nat)(assign body:cF):zb:=fun call _ ro fr st=>
 match g.ev fr.r with
 |none=>none
 |some gv=>
  if gv.Ik then none else
  match S0 st ro with
  |none=>none
  |some (b9,d,mk)=>
   match call gv [.yield b9.n] (b9.alloc (.loop {st:=.ready,fz:=none,r:=fr.r,n:=fr.n,ps:=ps,assign:=assign,body:=body,defs:=d}))with
   |none=>none
   |some (_,fi)=>
    match fi.h.get b9.n with
    |some (.loop R)=>
     if R.st=.busy then none else
     some (match R.fz with|none=>.normal|some e=>e,{fr with marks:=mk++fr.marks},fi.write b9.n (.loop {R with st:=.exhausted}))
    |_=>none
def Yqn(id:Nat):zb:=fun _ _ _ fr st=>some (.exit id,fr,st)
def Yj7(c:cF):zb:=fun _ rec ro fr st=>rec ro c fr st
def Yys:zb:=fun _ _ _ fr st=>some (.ret,fr,st)
def Ma:zb:=fun _ _ _ _ _=>none
def oJ(c:cF):zb:=cF.casesOn c Yj6 BH BI Dt Du Ad Dv Dx A8 Yqn Yj7 Yys Ma
def T0:sE:=fun _ _ _ _=>none
def eF(call:cO):Nat->sE
 |0=>T0
 |f+1=>fun ro c=>oJ c call (eF call f) ro
def AN(r:T V)(i:Nat):List V->T V
 |[]=>r
 |v::vs=>AN (r.set i v) (i+1) vs
def Ea(r:T V)(n:Nat):List Nat->List V->Option (T V)
 |[],[]=>some r
 |p::ps,v::vs=>if p<n then Ea (r.set p v) n ps vs else none
 |_,_=>none
def gb(r:T V)(st:St):List F3->Option (List V)
 |[]=>some []
 |.tmp t::rest=>match r.get t,gb r st rest with
  |some v,some vs=>some (v::vs)
  |_,_=>none
 |.cell t n::rest=>match r.get t,gb r st rest with
  |some (.ptr i o),some vs=>match st.row i with
   |some (c,_,_)=>match aS c o n with
    |some v=>some (v::vs)
    |none=>none
   |none=>none
  |_,_=>none
def shut(st:St):List Nat->Option St
 |[]=>some st
 |d::ds=>match st.h.get d with
  |some (.defs true)=>shut (st.write d (.defs false)) ds
  |_=>none
def Ld:Option Ex->LoopState
 |none=>.ready
 |some _=>.done
def td:Ex->Option Ex
 |.normal=>none
 |e=>some e
def Gz:List V->V
 |[v]=>v
 |vs=>.aX vs
def Zyu(mf:nA)(st:St):Option (Ex×Fr×St)->Option (V×St)
 |some (.exit _,_,_)=>none
 |some (_,fr,b9)=>match shut b9 fr.marks with
  |none=>none
  |some fi=>match gb fr.r fi mf.results with
   |some vs=>some (Gz vs,{fi with w:=ay st.n fi.w++st.w})
   |none=>none
 |none=>none
def Ep(mf:nA)(code:sE)(args:List V)(st:St):Option (V×St):=
 if mf.ntmps<args.length then none else
 Zyu mf st (code none mf.body {r:=AN .nil 0 args,n:=mf.ntmps,marks:=[]} {st with w:=[]})
def Eb(code:sE)(l:Nat)(args:List V)(st:St):Option (V×St):=
 match st.h.get l with
 |some (.loop R)=>match Ea R.r R.n R.ps args with
  |none=>none
  |some r0=>match code (some l) R.assign {r:=r0,n:=R.n,marks:=[]} st with
   |some (.normal,eK,b9)=>match b9.h.get l with
    |some (.loop R1)=>
     if R1.st=.ready then
      match code (some l) R.body eK (b9.write l (.loop {R1 with st:=.busy}))with
      |some (e,_,fi)=>match fi.h.get l with
       |some (.loop R2)=>some (.bool (td e).isNone,fi.write l (.loop {R2 with st:=Ld (td e),fz:=td e}))
       |_=>none
      |none=>none
     else none
    |_=>none
   |_=>none
 |_=>none
def zV(ec:Nat->Option nA)(code:sE):cO
 |.func f first iA,args,st=>match ec f with
  |some mf=>Ep mf code (first++args++iA) st
  |none=>none
 |.yield l,args,st=>Eb code l args st
 |_,_,_=>none
def Zuc:cO:=fun _ _ _=>none
end Go.Mx
