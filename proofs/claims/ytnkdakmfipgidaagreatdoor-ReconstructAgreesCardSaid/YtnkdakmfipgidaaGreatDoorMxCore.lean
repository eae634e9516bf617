/-The abstract machine M-/
import Derived.RangeFuncLeaves
import Derived.OrdersIn
import Derived.RangeFuncRecord
set_option linter.all false
namespace Go.Mx
abbrev mD:=@List.getElem?_set_self
abbrev pY:=@List.getElem?_append_right
abbrev gm:=@List.mem_range
abbrev jL:=@List.getElem?_take
abbrev rS:=@List.eq_nil_of_length_eq_zero
abbrev sI:=@Int.mul_le_mul_of_nonneg_left
abbrev iX:=@List.length_take
abbrev iH:=@List.cons.injEq
abbrev nf:=@Nat.mul_le_mul_right
abbrev mM:=@Nat.mul_le_mul_left
abbrev aq:=@Option.some.injEq
abbrev ak:=@if_neg
abbrev ar:=@if_pos
abbrev bV:=@List.getElem?_eq_getElem
abbrev aO:=@Nat.le_refl
abbrev bk:=@List.length_cons
abbrev cF:=@List.mem_of_getElem?
abbrev bB:=@Prod.mk.injEq
abbrev bF:=@List.mem_map
abbrev cG:=@List.length_map
abbrev eX:=@List.getElem?_set_ne
abbrev eh:=@Int.natAbs_natCast
abbrev fW:=@List.getElem?_eq_none
abbrev gp:=@List.take_of_length_le
abbrev eG:=@List.getElem?_map
abbrev fm:=@Nat.lt_of_lt_of_le
abbrev fF:=@List.getElem?_drop
abbrev mj:=@List.getElem?_append_left
abbrev iy:=@Bool.false_eq_true
abbrev ks:=@Option.map_eq_some_iff
abbrev gI:=@Bool.and_eq_true
abbrev g_:=@Option.getD_some
abbrev jm:=@List.length_append
abbrev rj:=@Nat.min_eq_left
abbrev wB:=@List.mem_of_mem_take
abbrev qe:=@Nat.add_assoc
abbrev rV:=@Nat.two_pow_pos
abbrev uH:=@Nat.lt_of_not_le
abbrev mO:=@Nat.mod_lt
abbrev C2:=@Int.tdiv_eq_ediv_of_nonneg
abbrev Af:=@List.length_singleton
abbrev CB:=@List.mem_or_eq_of_mem_set
abbrev wO:=@Nat.lt_succ_self
abbrev nw:=@List.getElem?_of_mem
abbrev jB:=@List.mem_append
abbrev jY:=@List.all_eq_true
abbrev gE:=@Nat.add_zero
abbrev ix:=@Nat.pow_succ
abbrev iW:=@List.mem_cons
abbrev mC:=@Option.some.inj
abbrev qz:=@List.mem_cons_of_mem
abbrev rk:=@Nat.div_lt_iff_lt_mul
abbrev po:=@Nat.lt_of_le_of_lt
abbrev qW:=@Nat.pow_le_pow_right
abbrev ph:=@List.ext_getElem?
abbrev wj:=@List.getElem?_eq_some_iff
abbrev jO:=@Nat.mul_comm
abbrev pw:=@List.drop_length
abbrev ji:=@Nat.add_mul
abbrev j_:=@Nat.le_trans
abbrev qQ:=@List.mem_cons_self
abbrev nC:=@Nat.mul_le_mul
abbrev qc:=@Option.map_some
abbrev wP:=@List.drop_eq_nil_of_le
abbrev nI:=@List.map_cons
abbrev wQ:=@Nat.le_of_ble_eq_true
abbrev mr:=@Nat.pow_add
abbrev uG:=@List.append_assoc
abbrev uv:=@List.mem_singleton
abbrev yE:=@Nat.zero_add
abbrev Gj:=@Int.mul_ediv_add_emod
abbrev wh:=@Nat.zero_le
abbrev wm:=@Nat.le_succ
abbrev El:=@Nat.eq_zero_or_pos
abbrev K7:=@Nat.mul_lt_mul_of_pos_right
abbrev C3:=@List.take_length
abbrev CK:=@Nat.mul_lt_mul''
abbrev yy:=@Nat.mul_one
abbrev Br:=@List.drop_zero
abbrev vM:=@Nat.div_add_mod
abbrev Gk:=@Int.mul_le_mul_of_nonneg_right
abbrev C4:=@List.getElem?_cons_zero
abbrev wS:=@Nat.div_le_self
abbrev AK:=@List.getElem?_range
abbrev AE:=@List.map_congr_left
abbrev zk:=@List.length_drop
abbrev zB:=@Nat.le_of_not_lt
abbrev zC:=@Nat.mod_eq_of_lt
abbrev Gl:=@Int.tmod_eq_emod_of_nonneg
abbrev AO:=@Rat.num_divInt_den
abbrev yF:=@Int.mul_nonneg
abbrev ye:=@Int.natAbs_mul
abbrev zZ:=@List.append_nil
abbrev vF:=@List.map_nil
abbrev vN:=@Int.le_of_lt
abbrev IV:=@Array.getD_eq_getD_getElem?
abbrev Em:=@Array.getElem?_toList
abbrev En:=@List.take_append_drop
abbrev uI:=@Nat.mul_add
abbrev Gm:=@List.getElem?_cons_succ
abbrev Gn:=@Int.eq_ofNat_of_zero_le
abbrev zV:=@List.length_set
abbrev Bt:=@Nat.div_eq_of_lt
abbrev IY:=@List.drop_eq_getElem_cons
abbrev LG:=@Option.ite_none_left_eq_some
abbrev LH:=@List.map_toArray
abbrev ZS:=@Array.all_eq_true_iff_forall_mem
abbrev LI:=@Int.lt_of_not_ge
abbrev Gp:=@Nat.pow_zero
abbrev Tv:=@Nat.gcd_pos_of_pos_right
abbrev LJ:=@Int.natCast_mul
abbrev Tw:=@Nat.eq_of_beq_eq_true
abbrev Ty:=@List.contains_iff_mem
abbrev Tz:=@Nat.ble_eq_true_of_le
abbrev TA:=@List.singleton_append
abbrev IZ:=@Nat.div_div_eq_div_mul
abbrev Eo:=@Nat.lt_of_succ_le
abbrev DQ:=@List.take_add_one
abbrev wx:=@Nat.not_lt
abbrev Ep:=@Nat.le_max_right
abbrev Er:=@List.cons_append
abbrev Gq:=@Int.emod_lt_of_pos
abbrev CE:=@Int.natAbs_neg
abbrev Es:=@Nat.le_max_left
abbrev Et:=@Nat.div_lt_self
abbrev I1:=@Nat.pow_le_pow_left
abbrev z_:=@Nat.mul_pos
abbrev Gs:=@Int.le_of_not_gt
abbrev Ia:=@List.mem_replicate
abbrev LK:=@Nat.le_div_iff_mul_le
abbrev Eu:=@Bool.false_and
abbrev Tr:=@Array.getElem?_setIfInBounds_ne
abbrev Bu:=@Nat.pow_pos
abbrev Gt:=@Int.emod_nonneg
abbrev I3:=@Bool.not_eq_true'
abbrev TC:=@List.dropLast_concat_getLast
abbrev I4:=@Bool.or_eq_true
abbrev Oj:=@Nat.mul_mod_mul_right
abbrev Gu:=@Nat.mul_assoc
abbrev Ok:=@Int.ofNat_eq_natCast
abbrev Ol:=@List.mem_of_mem_drop
abbrev TD:=@Nat.mul_div_mul_right
inductive T (α:Type) where
 |nil
 |node (l:T α) (v:Option α) (r:T α)
def T.get{α:Type}:T α->Nat->Option α
 |.nil,_=>none
 |.node l v r,n=>
  match n with
  |0=>v
  |k+1=>match k%2 with
   |0=>l.get (k/2)
   |_=>r.get (k/2)
def T.fQ{α:Type}:Nat->T α->Nat->α->T α
 |0,t,_,_=>t
 |f+1,.nil,n,a=>
  match n with
  |0=>.node .nil (some a) .nil
  |k+1=>match k%2 with
   |0=>.node (T.fQ f .nil (k/2) a) none .nil
   |_=>.node .nil none (T.fQ f .nil (k/2) a)
 |f+1,.node l v r,n,a=>
  match n with
  |0=>.node l (some a) r
  |k+1=>match k%2 with
   |0=>.node (T.fQ f l (k/2) a) v r
   |_=>.node l v (T.fQ f r (k/2) a)
def T.set{α:Type}(t:T α)(n:Nat)(a:α):T α:=T.fQ (n+1) t n a
def T.Bv{α:Type}(a:α):∀(f:Nat) (t:T α) (n m:Nat),n<f->(T.fQ f t n a).get m=if m=n then some a else t.get m:=by
 intro f;induction f with
 |zero=>intro t n m h;omega
 |succ f ih=>
  intro t n m h;cases t with
  |nil=>
   cases n with
   |zero=>
    cases m with
    |zero=>simp[T.fQ,T.get]
    |succ j=>simp only[T.fQ,T.get];split<;>simp
   |succ k=>
    have hk:k/2<f:=by omega
    have h2:k%2=0\/k%2=1:=by omega
    rcases h2 with h2|h2
    ·cases m with
     |zero=>simp[T.fQ,T.get,h2]
     |succ j=>
      have hj:j%2=0\/j%2=1:=by omega
      rcases hj with hj|hj
      ·simp only[T.fQ,T.get,h2,hj,ih _ _ _ hk];by_cases e:j/2=k/2
       ·have:j=k:=by omega
        simp[this]
       have:¬j=k:=by intro e2;exact e (by rw[e2])
       simp[e,this]
      have:¬j=k:=by omega
      simp[T.fQ,T.get,h2,hj,this]
    cases m with
    |zero=>simp[T.fQ,T.get,h2]
    |succ j=>
     have hj:j%2=0\/j%2=1:=by omega
     rcases hj with hj|hj
     ·have:¬j=k:=by omega
      simp[T.fQ,T.get,h2,hj,this]
     simp only[T.fQ,T.get,h2,hj,ih _ _ _ hk];by_cases e:j/2=k/2
     ·have:j=k:=by omega
      simp[this]
     have:¬j=k:=by intro e2;exact e (by rw[e2])
     simp[e,this]
  |node l v r=>
   cases n with
   |zero=>cases m<;>simp[T.fQ,T.get]
   |succ k=>
    have hk:k/2<f:=by omega
    have h2:k%2=0\/k%2=1:=by omega
    rcases h2 with h2|h2
    ·cases m with
     |zero=>simp[T.fQ,T.get,h2]
     |succ j=>
      have hj:j%2=0\/j%2=1:=by omega
      rcases hj with hj|hj
      ·simp only[T.fQ,T.get,h2,hj,ih _ _ _ hk];by_cases e:j/2=k/2
       ·have:j=k:=by omega
        simp[this]
       have:¬j=k:=by intro e2;exact e (by rw[e2])
       simp[e,this]
      have:¬j=k:=by omega
      simp[T.fQ,T.get,h2,hj,this]
    cases m with
    |zero=>simp[T.fQ,T.get,h2]
    |succ j=>
     have hj:j%2=0\/j%2=1:=by omega
     rcases hj with hj|hj
     ·have:¬j=k:=by omega
      simp[T.fQ,T.get,h2,hj,this]
     simp only[T.fQ,T.get,h2,hj,ih _ _ _ hk];by_cases e:j/2=k/2
     ·have:j=k:=by omega
      simp[this]
     have:¬j=k:=by intro e2;exact e (by rw[e2])
     simp[e,this]
def T.ae{α:Type}(t:T α)(n m:Nat)(a:α):(t.set n a).get m=if m=n then some a else t.get m:=
 T.Bv a (n+1) t n m (wO n)
inductive V where
 |bool (b:Bool)
 |int (k:IntKind) (n:Int)
 |wK (k:FloatKind) (bits:Nat)
 |str (s:List UInt8)
 |bJ
 |ptr (i o:Nat)
 |aa
 |slice (i o len:Nat) (cap:Option Nat) (sz:Nat)
 |empty
 |bQ
 |map (i:Nat)
 |bR
 |chan (i:Nat)
 |func (f:FuncId) (first cap:List V)
 |yield (i:Nat)
 |bS
 |iface (t:TypeId) (v:V)
 |aY
 |agg (l:List V)
 |aV (l:List V)
instance:Inhabited V:=⟨.aV []⟩
def V.cells:V->List V
 |.agg l=>l
 |v=>[v]
def V.one:V->Bool
 |.agg _|.aV _=>false
 |_=>true
inductive Src where
 |tmp (t:Nat)
 |const (v:V)
inductive PK where
 |bool|int|str|ptr|slice|map|func|chan|iface
inductive uc where
 |cL (k:PK)
 |node (parts:List (Nat×Option Nat×uc))
inductive mK where
 |int (k:IntKind)
 |str
inductive Ext where
 |pc|pd|same|cf|nh
inductive iA where
 |m_ (x:Src)
 |pick (c a b:Src)
 |alloc (zero:List V) (elem:TypeId)
 |box (elem:TypeId) (x:Src)
 |build (zero:List V) (parts:List (Nat×Nat×Src))
 |fO (elem:TypeId) (size len:Nat) (zero:List V) (parts:List (Nat×Nat×Src))
 |load (n:Option Nat) (a:Src)
 |store (n:Nat) (a x:Src)
 |px (x:Src)
 |bin (op:BinOp) (t:uc) (ng:Bool) (x y:Src)
 |un (op:UnOp) (x:Src)
 |dB (k:IntKind) (x:Src)
 |sJ (x:Src)
 |ku (elem:TypeId) (x:Src)
 |py (x:Src)
 |iZ (t:TypeId) (x:Src)
 |pz (f:FuncId) (first iB:List Src)
 |yA
 |wU (bytes:Nat) (n:Src)
 |kv (elem:TypeId) (size bytes:Nat) (zero:List V) (len cap:Src)
 |cB (x:Src) (lo hi:Option Src)
 |oa (size:Nat) (x:Src) (lo hi mx:Option Src)
 |ky (n size:Nat) (x:Src) (lo hi mx:Option Src)
 |jE (off:Nat) (x:Src)
 |field (off:Nat) (n:Option Nat) (x:Src)
 |iL (len size:Nat) (x i:Src)
 |bG (size:Nat) (x i:Src)
 |wV (len size:Nat) (n:Option Nat) (x i:Src)
 |bL (x i:Src)
 |lookup (kd:mK) (zero:V) (m k:Src) (ok:Bool)
 |wM (kd:mK) (m k v:Src)
 |I5 (kd:mK) (zero:V) (m k:Src)
 |I6 (m s v:Src)
 |kI (x:Src)
 |sD (it:Src)
 |extract (x:Src) (i:Nat)
 |len (k:Nat) (x:Src)
 |wW (n:Nat)
 |cap (x:Src)
 |mn (args:List Src)
 |mx (args:List Src)
 |append (size bytes:Nat) (elem:TypeId) (zero:List V) (s x:Src)
 |copy (size:Nat) (d s:Src)
 |clear (size:Nat) (zero:List V) (s:Src)
 |call (f:Src) (args:List Src)
 |ext (e:Ext) (args:List Src)
 |LB (e:Option (TypeId×Nat)) (x:Src)
 |Bm (x:Src)
 |IP (e:TypeId) (x n:Src)
 |stop
structure dK where
 dst:Option Nat
 op:iA
 guard:Option (Nat×Bool)
inductive bW where
 |skip
 |fY (ops:List dK)
 |fN (ops:List dK) (rm:List Nat)
 |zy (dst:Option Nat) (ch:Src) (send:Option Src) (zero:V) (ops:List dK)
 |seq (a b:bW)
 |cond (c:Src) (a b:bW)
 |block (id:Nat) (c:bW)
 |loop (c:bW)
 |jK (g:Src) (ps:List Nat) (assign body:bW)
 |exit (id:Nat)
 |scope (c:bW)
 |ret
 |stop
inductive F5 where
 |tmp (t:Nat)
 |cell (t:Nat) (n:Option Nat)
structure mV where
 ntmps:Nat
 results:List F5
 body:bW
inductive Ex where
 |normal
 |exit (id:Nat)
 |ret
structure Nz where
 st:LoopState
 fu:Option Ex
 r:T V
 n:Nat
 ps:List Nat
 assign:bW
 body:bW
 defs:Nat
inductive O where
 |cells (c:List V) (elem:TypeId) (rw:Bool)
 |map (es:List (V×V))
 |chan (cap:Nat) (buf:List V)
 |eL (s:List UInt8) (pos:Nat)
 |loop (l:Nz)
 |defs (ZT:Bool)
 |dead
def O.wr:O->Bool
 |.cells _ _ rw=>rw
 |.dead=>false
 |_=>true
def O.live:O->Bool
 |.dead=>false
 |_=>true
structure St where
 h:T O
 n:Nat
 w:List Nat
def St.alloc(st:St)(o:O):St:={st with h:=st.h.set st.n o,n:=st.n+1}
def St.write(st:St)(i:Nat)(o:O):St:={st with h:=st.h.set i o,w:=i::st.w}
structure Fr where
 r:T V
 n:Nat
 marks:List Nat
def Src.ev(r:T V):Src->Option V
 |.tmp t=>r.get t
 |.const v=>some v
def vL(r:T V):List Src->Option (List V)
 |[]=>some []
 |x::xs=>match x.ev r,vL r xs with
  |some v,some vs=>some (v::vs)
  |_,_=>none
def aB(r:T V):Option Src->Option (Option V)
 |none=>some none
 |some x=>match x.ev r with
  |some v=>some (some v)
  |none=>none
def aL{α:Type}(c:List α)(o n:Nat):Option (List α):=if o+n<=c.length then some ((c.drop o).take n) else none
def ag{α:Type}(c:List α)(o:Nat)(vs:List α):List α:=c.take o++vs++c.drop (o+vs.length)
def C5(cells:List V):List (Nat×Nat×V)->Option (List V)
 |[]=>some cells
 |(off,size,v)::rest=>
  if v.cells.length=size/\off+size<=cells.length then C5 (ag cells off v.cells) rest else none
def C6(r:T V):List (Nat×Nat×Src)->Option (List (Nat×Nat×V))
 |[]=>some []
 |(o,s,x)::rest=>match x.ev r,C6 r rest with
  |some v,some vs=>some ((o,s,v)::vs)
  |_,_=>none
def aQ(cs:List V)(off:Nat):Option Nat->Option V
 |none=>cs[off]?
 |some n=>match aL cs off n with
  |some l=>some (.agg l)
  |none=>none
def bh(ng:Bool):PK->V->V->Option Bool
 |.bool,.bool a,.bool b=>some (a==b)
 |.int,.int k a,.int k' b=>if k=k' then some (a==b) else none
 |.str,.str a,.str b=>some (a==b)
 |.ptr,.bJ,.bJ=>some true
 |.ptr,.bJ,.ptr _ _=>some false
 |.ptr,.ptr _ _,.bJ=>some false
 |.ptr,.ptr i o,.ptr j p=>if i=j/\o=p then some true else none
 |.slice,.aa,.aa=>some true
 |.slice,.aa,.slice ..=>some false
 |.slice,.slice ..,.aa=>some false
 |.slice,.aa,.empty=>some false
 |.slice,.empty,.aa=>some false
 |.map,.bQ,.bQ=>some true
 |.map,.bQ,.map _=>some false
 |.map,.map _,.bQ=>some false
 |.func,.bS,.bS=>some true
 |.func,.bS,.func ..=>some false
 |.func,.func ..,.bS=>some false
 |.chan,.bR,.bR=>some true
 |.chan,.bR,.chan _=>some false
 |.chan,.chan _,.bR=>some false
 |.iface,.aY,.aY=>if ng then some true else none
 |.iface,.aY,.iface ..=>some false
 |.iface,.iface ..,.aY=>some false
 |_,_,_=>none
mutual
def wI(ng:Bool):uc->V->V->Option Bool
 |.cL k,x,y=>bh ng k x y
 |.node ps,.agg xs,.agg ys=>Lt ps xs ys
 |_,_,_=>none
def Lt:List (Nat×Option Nat×uc)->List V->List V->Option Bool
 |[],_,_=>some true
 |(off,n,t)::rest,xs,ys=>
  match aQ xs off n,aQ ys off n with
  |some x,some y=>match wI false t x y with
   |some true=>Lt rest xs ys
   |some false=>some false
   |none=>none
  |_,_=>none
end
def bo(k:IntKind)(n:Int):Int:=
 match k,n with
 |.i64,.ofNat a=>match Nat.blt a 9223372036854775808 with
  |true=>.ofNat a
  |false=>IntKind.wrap .i64 (.ofNat a)
 |.i64,.negSucc a=>match Nat.blt a 9223372036854775808 with
  |true=>.negSucc a
  |false=>IntKind.wrap .i64 (.negSucc a)
 |.u64,.ofNat a=>.ofNat (Nat.mod a 18446744073709551616)
 |.u8,.ofNat a=>.ofNat (Nat.mod a 256)
 |.i32,.ofNat a=>match Nat.blt a 2147483648 with
  |true=>.ofNat a
  |false=>IntKind.wrap .i32 (.ofNat a)
 |.u32,.ofNat a=>.ofNat (Nat.mod a 4294967296)
 |k,n=>k.wrap n
def Bw(k:IntKind)(n:Int):bo k n=k.wrap n:=by
 unfold bo;split
 ·rename_i a;split
  ·rename_i h;have h':a<9223372036854775808:=Eo (wQ h);simp only[IntKind.wrap,IntKind.bits,IntKind.signed,Ok];simp;omega
  rfl
 ·rename_i a;split
  ·rename_i h;have h':a<9223372036854775808:=Eo (wQ h);have e:(Int.negSucc a)= -(a:Int)-1:=by omega
   simp only[IntKind.wrap,IntKind.bits,IntKind.signed,e];simp;omega
  rfl
 ·rename_i a;show Int.ofNat (a%18446744073709551616)=_;simp only[IntKind.wrap,IntKind.bits,IntKind.signed,Ok];simp
 ·rename_i a;show Int.ofNat (a%256)=_;simp only[IntKind.wrap,IntKind.bits,IntKind.signed,Ok];simp
 ·rename_i a;split
  ·rename_i h;have h':a<2147483648:=Eo (wQ h);simp only[IntKind.wrap,IntKind.bits,IntKind.signed,Ok];simp;omega
  rfl
 ·rename_i a;show Int.ofNat (a%4294967296)=_;simp only[IntKind.wrap,IntKind.bits,IntKind.signed,Ok];simp
 rfl
def sK(op:BinOp)(k:IntKind)(a b:Int):Option V:=
 match op with
 |.add=>some (.int k (bo k (a+b)))
 |.sub=>some (.int k (bo k (a-b)))
 |.mul=>some (.int k (bo k (a*b)))
 |.quo=>if b=0 then none else some (.int k (bo k (a.tdiv b)))
 |.rem=>if b=0 then none else some (.int k (a.tmod b))
 |.and=>some (.int k (k.wrap (BitVec.ofInt k.bits a&&& BitVec.ofInt k.bits b).toNat))
 |.or=>some (.int k (k.wrap (BitVec.ofInt k.bits a|||BitVec.ofInt k.bits b).toNat))
 |.xor=>some (.int k (k.wrap (BitVec.ofInt k.bits a^^^BitVec.ofInt k.bits b).toNat))
 |.andNot=>some (.int k (k.wrap (BitVec.ofInt k.bits a&&& ~~~ BitVec.ofInt k.bits b).toNat))
 |.eql=>some (.bool (a==b))
 |.neq=>some (.bool (a !=b))
 |.lss=>some (.bool (decide (a<b)))
 |.leq=>some (.bool (decide (a<=b)))
 |.gtr=>some (.bool (decide (a > b)))
 |.geq=>some (.bool (decide (a≥b)))
 |_=>none
def Aj(op:BinOp)(k:IntKind)(a b:Int):Option V:=
 if b<0 then none else
  match op with
  |.shl=>some (.int k (k.wrap (a*2^(min b.toNat k.bits))))
  |.shr=>some (.int k (a.fdiv (2^(min b.toNat k.bits))))
  |_=>none
def jF(op:BinOp)(x y:List UInt8):Option V:=
 match op with
 |.add=>if ((x.length+y.length:Nat):Int) > IntKind.i64.max then none else some (.str (x++y))
 |.eql=>some (.bool (x==y))
 |.neq=>some (.bool (!(x==y)))
 |.lss=>some (.bool (Op.bytesLess x y))
 |.leq=>some (.bool (Op.bytesLess x y||x==y))
 |.gtr=>some (.bool (!(Op.bytesLess x y||x==y)))
 |.geq=>some (.bool (!(Op.bytesLess x y)))
 |_=>none
def ZU(op:BinOp)(t:uc)(ng:Bool):V->V->Option V
 |.int k a,.int k' b=>
  match op with
  |.shl=>Aj .shl k a b
  |.shr=>Aj .shr k a b
  |_=>if k=k' then sK op k a b else none
 |.str a,.str b=>jF op a b
 |x,y=>match op with
  |.eql=>match wI ng t x y with
   |some b=>some (.bool b)
   |none=>none
  |.neq=>match wI ng t x y with
   |some b=>some (.bool (!b))
   |none=>none
  |_=>none
def ZV:UnOp->V->Option V
 |.neg,.int k n=>some (.int k (k.wrap (0-n)))
 |.xor,.int k n=>some (.int k (k.wrap (BitVec.ofInt k.bits (if k.signed then -1 else k.max)^^^BitVec.ofInt k.bits n).toNat))
 |.not,.bool b=>some (.bool (!b))
 |_,_=>none
def mP(v:V)(y:Nat):Option Nat:=
 match v with
 |.int _ n=>if 0<=n/\n<=(y:Int) then some n.toNat else none
 |_=>none
def dP(v:Option V)(y ZW:Nat):Option Nat:=
 match v with
 |some v=>mP v y
 |none=>some ZW
def St.row(st:St)(i:Nat):Option (List V×TypeId×Bool):=
 match st.h.get i with
 |some (.cells c e rw)=>some (c,e,rw)
 |_=>none
def dm(zero:List V)(n:Nat):List V:=(List.range (n*zero.length)).map fun i=>zero.getD (i%zero.length) (.aV [])
def gb(st:St)(size:Nat):V->Option (Nat×List V)
 |.aa=>some (0,[])
 |.empty=>some (0,[])
 |.slice j p m _ sz=>if sz=size then match st.row j with
   |some (c,_,_)=>match aL c p (m*size)with
    |some l=>some (m,l)
    |none=>none
   |none=>none
  else none
 |.str s=>if size=1 then some (s.length,s.map fun b=>.int .u8 b.toNat) else none
 |_=>none
def wu:Nat:=2^48
def mm(st:St)(size bytes:Nat)(elem:TypeId)(s x:V):Option (V×St):=
 match gb st size x with
 |none=>none
 |some (n,xs)=>
  match s with
  |.aa=>
   if n=0 then some (.aa,st)
   else if 2*n*bytes<=wu/\size≠0 then some (.slice st.n 0 n none size,st.alloc (.cells xs elem true)) else none
  |.slice i o len cap sz=>
   if n=0 then (if sz=size then some (s,st) else none)
   else if sz≠size\/size=0\/wu<2*(len+n)*bytes then none else
   match st.row i with
   |none=>none
   |some (c,e,rw)=>
    match cap with
    |some k=>
     if len+n<=k then
      (if rw=true/\o+(len+n)*size<=c.length then some (.slice i o (len+n) cap sz,st.write i (.cells (ag c (o+len*size) xs) e rw)) else none)
     else match aL c o (len*size)with
      |some old=>some (.slice st.n 0 (len+n) none size,st.alloc (.cells (old++xs) elem true))
      |none=>none
    |none=>
     if rw=true then
      if o+(len+n)*size<=c.length then some (.slice i o (len+n) none sz,st.write i (.cells (ag c (o+len*size) xs) e rw))
      else if o+len*size=c.length/\e=elem/\o=0 then
       some (.slice st.n 0 (len+n) none size,(st.write i .dead).alloc (.cells (c.drop o++xs) elem true))
      else none
     else none
  |_=>none
def TE:mK->V->V->Option Bool
 |.int k,.int a x,.int b y=>if a=k/\b=k then some (x==y) else none
 |.str,.str x,.str y=>some (x==y)
 |_,_,_=>none
def fI(kd:mK)(k:V):List (V×V)->Nat->Option (Option (Nat×V))
 |[],_=>some none
 |(a,v)::es,i=>
  match TE kd k a with
  |some true=>some (some (i,v))
  |some false=>fI kd k es (i+1)
  |none=>none
def mK.fits:mK->V->Bool
 |.int k,.int k' _=>k=k'
 |.str,.str _=>true
 |_,_=>false
def yG:List V->Option V
 |[]=>none
 |[x]=>some x
 |.int k a::.int _ b::rest=>yG (.int k (if b<a then b else a)::rest)
 |_=>none
termination_by l=>l.length
def yH:List V->Option V
 |[]=>none
 |[x]=>some x
 |.int k a::.int _ b::rest=>yH (.int k (if a<b then b else a)::rest)
 |_=>none
termination_by l=>l.length
def zD:V->List V->Option V
 |x,[]=>some x
 |.int k a,.int _ b::rest=>zD (.int k (if b<a then b else a)) rest
 |_,_=>none
def Ev:List V->Option V
 |[]=>none
 |x::xs=>zD x xs
def Ak:V->List V->Option V
 |x,[]=>some x
 |.int k a,.int _ b::rest=>Ak (.int k (if a<b then b else a)) rest
 |_,_=>none
def C7:List V->Option V
 |[]=>none
 |x::xs=>Ak x xs
def Ygf:∀(xs:List V) (x:V),zD x xs=yG (x::xs)
 |[],x=>by simp[zD,yG]
 |y::ys,x=>by
  cases x with
  |int k a=>
   cases y with
   |int k' b=>simp only[zD,yG];exact Ygf ys _
   |_=>simp[zD,yG]
  |_=>simp[zD,yG]
def Yrg(l:List V):Ev l=yG l:=by
 cases l with
 |nil=>simp[Ev,yG]
 |cons x xs=>exact Ygf xs x
def Ygk:∀(xs:List V) (x:V),Ak x xs=yH (x::xs)
 |[],x=>by simp[Ak,yH]
 |y::ys,x=>by
  cases x with
  |int k a=>
   cases y with
   |int k' b=>simp only[Ak,yH];exact Ygk ys _
   |_=>simp[Ak,yH]
  |_=>simp[Ak,yH]
def Yrl(l:List V):C7 l=yH l:=by
 cases l with
 |nil=>simp[C7,yH]
 |cons x xs=>exact Ygk xs x
def I7(c:UInt8):List UInt8->Nat->Int
 |[],_=> -1
 |b::rest,i=>if b==c then (i:Int) else I7 c rest (i+1)
def Ew:Ext->List V->Option V
 |.pc,[.int .u64 x,.int .u64 y,.int .u64 c]=>if ¬(c=0\/c=1) then none else
   some (.aV [.int .u64 (Int.ofNat ((x.toNat+y.toNat+c.toNat)%2^64)),.int .u64 (Int.ofNat ((x.toNat+y.toNat+c.toNat)/2^64))])
 |.pd,[.int .u64 x,.int .u64 y,.int .u64 b]=>if ¬(b=0\/b=1) then none else
   some (.aV [.int .u64 (Int.ofNat ((x.toNat+2^64-y.toNat-b.toNat)%2^64)),.int .u64 (if x.toNat<y.toNat+b.toNat then 1 else 0)])
 |.cf,[.str s,.int .u8 c]=>some (.int .i64 (I7 c.toNat.toUInt8 s 0))
 |_,_=>none
abbrev cM:=V->List V->St->Option (V×St)
def TF(op:BinOp)(t:uc)(st:St)(i j:Nat):Option (V×St):=
 match op,t,st.h.get i,st.h.get j with
 |.eql,.cL .chan,some (.chan ..),some (.chan ..)=>some (.bool (i==j),st)
 |.neq,.cL .chan,some (.chan ..),some (.chan ..)=>some (.bool (!(i==j)),st)
 |_,_,_,_=>none
abbrev eH:=cM->T V->St->Option (V×St)
def I8(x:Src):eH:=fun _ r st=>match x.ev r with
  |some v=>some (v,st)
  |none=>none
def Gw(c:Src)(a:Src)(b:Src):eH:=fun _ r st=>match c.ev r with
  |some (.bool true)=>match a.ev r with
   |some v=>some (v,st)
   |none=>none
  |some (.bool false)=>match b.ev r with
   |some v=>some (v,st)
   |none=>none
  |_=>none
def LL(zero:List V)(elem:TypeId):eH:=fun _ _ st=>some (.ptr st.n 0,st.alloc (.cells zero elem true))
def I9(elem:TypeId)(x:Src):eH:=fun _ r st=>match x.ev r with
  |some v=>if v.cells.all V.one then some (.ptr st.n 0,st.alloc (.cells v.cells elem true)) else none
  |none=>none
def Ey(zero:List V)(parts:List (Nat×Nat×Src)):eH:=fun _ r st=>match C6 r parts with
  |some ps=>match C5 zero ps with
   |some l=>some (.agg l,st)
   |none=>none
  |none=>none
def Ja(elem:TypeId)(size:Nat)(len:Nat)(zero:List V)(parts:List (Nat×Nat×Src)):eH:=fun _ r st=>match C6 r parts with
  |some ps=>match C5 zero ps with
   |some l=>if l.all V.one then some (.slice st.n 0 len (some len) size,st.alloc (.cells l elem true)) else none
   |none=>none
  |none=>none
def Jb(n:Option Nat)(a:Src):eH:=fun _ r st=>match a.ev r with
  |some (.ptr i o)=>match st.row i with
   |some (c,_,_)=>match aQ c o n with
    |some v=>some (v,st)
    |none=>none
   |none=>none
  |_=>none
def Gx(n:Nat)(a:Src)(x:Src):eH:=fun _ r st=>match a.ev r,x.ev r with
  |some (.ptr i o),some v=>match st.row i with
   |some (c,e,true)=>if v.cells.length=n/\o+n<=c.length/\v.cells.all V.one=true then some (.aV [],st.write i (.cells (ag c o v.cells) e true)) else none
   |_=>none
  |_,_=>none
def Jc(x:Src):eH:=fun _ r st=>match x.ev r with
  |some (.ptr i o)=>some (.ptr i o,st)
  |some (.func f a l)=>some (.func f a l,st)
  |_=>none
def Jd(op:BinOp)(t:uc)(ng:Bool)(x:Src)(y:Src):eH:=fun _ r st=>match x.ev r,y.ev r with
  |some (.chan i),some (.chan j)=>TF op t st i j
  |some a,some b=>match ZU op t ng a b with
   |some v=>some (v,st)
   |none=>none
  |_,_=>none
def Je(op:UnOp)(x:Src):eH:=fun _ r st=>match x.ev r with
  |some a=>match ZV op a with
   |some v=>some (v,st)
   |none=>none
  |none=>none
def Jf(k:IntKind)(x:Src):eH:=fun _ r st=>match x.ev r with
  |some (.int _ n)=>some (.int k (bo k n),st)
  |_=>none
def LM(x:Src):eH:=fun _ r st=>match x.ev r with
  |some (.str s)=>some (.str s,st)
  |_=>none
def Gy(elem:TypeId)(x:Src):eH:=fun _ r st=>match x.ev r with
  |some (.str s)=>some (.slice st.n 0 s.length none 1,st.alloc (.cells (s.map fun b=>.int .u8 b.toNat) elem true))
  |_=>none
def Jg(x:Src):eH:=fun _ r st=>match x.ev r with
  |some .aa=>some (.str [],st)
  |some (.slice i o len _ 1)=>match st.row i with
   |some (c,_,_)=>match aL c o len with
    |some l=>match l.mapM (fun v=>match v with|.int .u8 n=>some (UInt8.ofNat n.toNat)|_=>none)with
     |some s=>some (.str s,st)
     |none=>none
    |none=>none
   |none=>none
  |_=>none
def LN(t:TypeId)(x:Src):eH:=fun _ r st=>match x.ev r with
  |some v=>some (.iface t v,st)
  |none=>none
def Jh(f:FuncId)(first:List Src)(iB:List Src):eH:=fun _ r st=>match vL r first,vL r iB with
  |some a,some l=>some (.func f a l,st)
  |_,_=>none
def LP:eH:=fun _ _ st=>some (.map st.n,st.alloc (.map []))
def Gz(bytes:Nat)(n:Src):eH:=fun _ r st=>match n.ev r with
  |some (.int _ k)=>if k<0\/k > IntKind.i64.max\/bytes*k > 2^48-112 then none else some (.chan st.n,st.alloc (.chan k.toNat []))
  |_=>none
def Ez(elem:TypeId)(size:Nat)(bytes:Nat)(zero:List V)(len:Src)(cap:Src):eH:=fun _ r st=>match len.ev r,cap.ev r with
  |some (.int _ l),some (.int _ c)=>
   if 0<=l/\l<=c/\bytes*c<=2^47/\c<2^62/\size=zero.length/\size≠0 then
    some (.slice st.n 0 l.toNat (some c.toNat) size,st.alloc (.cells (dm zero c.toNat) elem true)) else none
  |_,_=>none
def Al(x:Src)(lo:Option Src)(hi:Option Src):eH:=fun _ r st=>match x.ev r,aB r lo,aB r hi with
  |some (.str s),some lo,some hi=>
   match dP hi s.length s.length with
   |some h=>match dP lo h 0 with
    |some l=>some (.str ((s.take h).drop l),st)
    |none=>none
   |none=>none
  |_,_,_=>none
def qV(size:Nat)(x:Src)(lo:Option Src)(hi:Option Src)(mx:Option Src):eH:=fun _ r st=>match x.ev r,aB r lo,aB r hi,aB r mx with
  |some .aa,some lo,some hi,some mx=>
   match dP mx 0 0 with
   |some _=>match dP hi 0 0 with
    |some _=>match dP lo 0 0 with
     |some _=>if mx.isSome&&hi.isNone then none else some (.aa,st)
     |none=>none
    |none=>none
   |none=>none
  |some .empty,some lo,some hi,some none=>
   match dP hi 0 0 with
   |some _=>match dP lo 0 0 with
    |some _=>some (.empty,st)
    |none=>none
   |none=>none
  |some (.slice i o len (some c) sz),some lo,some hi,some mx=>
   if sz≠size\/(mx.isSome&&hi.isNone) then none else
   match dP mx c c with
   |some m=>match dP hi m len with
    |some h=>match dP lo h 0 with
     |some l=>some (.slice i (if m=l then o else o+l*size) (h-l) (some (m-l)) sz,st)
     |none=>none
    |none=>none
   |none=>none
  |some (.slice i o len none sz),some lo,some hi,some mx=>
   if sz≠size\/size=0\/(mx.isSome&&hi.isNone) then none else
   match st.row i with
   |some (c,_,_)=>
    let k:=max len ((c.length-o)/size)
    match mx with
    |some m=>match mP m k with
     |some m=>match dP hi m len with
      |some h=>match dP lo h 0 with
       |some l=>some (.slice i (if m=l then o else o+l*size) (h-l) (some (m-l)) sz,st)
       |none=>none
      |none=>none
     |none=>none
    |none=>match dP hi k len with
     |some h=>match dP lo h 0 with
      |some l=>if l<k then some (.slice i (o+l*size) (h-l) none sz,st) else some (.empty,st)
      |none=>none
     |none=>none
   |none=>none
  |_,_,_,_=>none
def Bx(n:Nat)(size:Nat)(x:Src)(lo:Option Src)(hi:Option Src)(mx:Option Src):eH:=fun _ r st=>match x.ev r,aB r lo,aB r hi,aB r mx with
  |some (.ptr i o),some lo,some hi,some none=>
   match dP hi n n with
   |some h=>match dP lo h 0 with
    |some l=>match st.row i with
     |some (c,_,_)=>if o+n*size<=c.length/\mx.isNone then some (.slice i (if n=l then o else o+l*size) (h-l) (some (n-l)) size,st) else none
     |none=>none
    |none=>none
   |none=>none
  |_,_,_,_=>none
def Ji(off:Nat)(x:Src):eH:=fun _ r st=>match x.ev r with
  |some (.ptr i o)=>some (.ptr i (o+off),st)
  |_=>none
def Jj(off:Nat)(n:Option Nat)(x:Src):eH:=fun _ r st=>match x.ev r with
  |some (.agg cs)=>match aQ cs off n with
   |some v=>some (v,st)
   |none=>none
  |_=>none
def EA(len:Nat)(size:Nat)(x:Src)(i:Src):eH:=fun _ r st=>match x.ev r,i.ev r with
  |some (.ptr a o),some (.int _ k)=>if 0<=k/\k<(len:Int) then some (.ptr a (o+k.toNat*size),st) else none
  |_,_=>none
def GA(size:Nat)(x:Src)(i:Src):eH:=fun _ r st=>match x.ev r,i.ev r with
  |some (.slice a o len _ _),some (.int _ k)=>if 0<=k/\k<(len:Int) then some (.ptr a (o+k.toNat*size),st) else none
  |_,_=>none
def LQ(len:Nat)(size:Nat)(n:Option Nat)(x:Src)(i:Src):eH:=fun _ r st=>match x.ev r,i.ev r with
  |some (.agg cs),some (.int _ k)=>if 0<=k/\k<(len:Int) then match aQ cs (k.toNat*size) n with
    |some v=>some (v,st)
    |none=>none
   else none
  |_,_=>none
def GB(x:Src)(i:Src):eH:=fun _ r st=>match x.ev r,i.ev r with
  |some (.str s),some (.int _ k)=>if 0<=k then match s[k.toNat]? with
    |some b=>some (.int .u8 b.toNat,st)
    |none=>none
   else none
  |_,_=>none
def Jk(kd:mK)(zero:V)(m:Src)(k:Src)(ok:Bool):eH:=fun _ r st=>match m.ev r,k.ev r with
  |some m,some k=>
   if kd.fits k then
    match (match m with
     |.bQ=>some []
     |.map i=>match st.h.get i with
      |some (.map es)=>some es
      |_=>none
     |_=>none)with
    |some es=>match fI kd k es 0 with
     |some (some (_,v))=>some (if ok then .aV [v,.bool true] else v,st)
     |some none=>some (if ok then .aV [zero,.bool false] else zero,st)
     |none=>none
    |none=>none
   else none
  |_,_=>none
def GC(kd:mK)(m:Src)(k:Src)(v:Src):eH:=fun _ r st=>match m.ev r,k.ev r,v.ev r with
  |some (.map i),some k,some v=>
   if kd.fits k then
    match st.h.get i with
    |some (.map es)=>match fI kd k es 0 with
     |some (some (j,_))=>some (.aV [],st.write i (.map (es.set j (k,v))))
     |some none=>some (.aV [],st.write i (.map (es++[(k,v)])))
     |none=>none
    |_=>none
   else none
  |_,_,_=>none
def Zuc(kd:mK)(zero:V)(m:Src)(k:Src):eH:=fun _ r st=>match m.ev r,k.ev r with
  |some (.map i),some k=>
   if kd.fits k then
    match st.h.get i with
    |some (.map es)=>match fI kd k es 0 with
     |some (some (j,v))=>some (.aV [v,.int .i64 j],st.write i (.map (es.set j (k,v))))
     |some none=>some (.aV [zero,.int .i64 es.length],st.write i (.map (es++[(k,zero)])))
     |none=>none
    |_=>none
   else none
  |_,_=>none
def ZX(m:Src)(s:Src)(v:Src):eH:=fun _ r st=>match m.ev r,s.ev r,v.ev r with
  |some (.map i),some (.int _ j),some v=>
   match st.h.get i with
   |some (.map es)=>if 0<=j then match es[j.toNat]? with
     |some (k,_)=>some (.aV [],st.write i (.map (es.set j.toNat (k,v))))
     |none=>none
    else none
   |_=>none
  |_,_,_=>none
def Jl(x:Src):eH:=fun _ r st=>match x.ev r with
  |some (.str s)=>some (.ptr st.n 0,st.alloc (.eL s 0))
  |_=>none
def Jm(it:Src):eH:=fun _ r st=>match it.ev r with
  |some (.ptr i 0)=>match st.h.get i with
   |some (.eL s pos)=>
    if pos<s.length then
     let cw:=Utf8.decode ⟨s.toArray⟩ pos
     some (.aV [.bool true,.int .i64 pos,.int .i32 cw.1],st.write i (.eL s (pos+cw.2)))
    else some (.aV [.bool false],st)
   |_=>none
  |_=>none
def Jn(x:Src)(i:Nat):eH:=fun _ r st=>match x.ev r with
  |some (.aV vs)=>match vs[i]? with
   |some v=>some (v,st)
   |none=>none
  |_=>none
def zE(k:Nat)(x:Src):eH:=fun _ r st=>match k,x.ev r with
  |0,some (.str s)=>some (.int .i64 s.length,st)
  |1,some .aa=>some (.int .i64 0,st)
  |1,some .empty=>some (.int .i64 0,st)
  |1,some (.slice _ _ n _ _)=>some (.int .i64 n,st)
  |2,some .bQ=>some (.int .i64 0,st)
  |2,some (.map i)=>match st.h.get i with
   |some (.map es)=>some (.int .i64 es.length,st)
   |_=>none
  |_,_=>none
def Om(n:Nat):eH:=fun _ _ st=>some (.int .i64 n,st)
def LR(x:Src):eH:=fun _ r st=>match x.ev r with
  |some .aa=>some (.int .i64 0,st)
  |some (.slice _ _ _ (some c) _)=>some (.int .i64 c,st)
  |_=>none
def Am(args:List Src):eH:=fun _ r st=>match vL r args with
  |some l=>match Ev l with
   |some v=>some (v,st)
   |none=>none
  |none=>none
def sL(args:List Src):eH:=fun _ r st=>match vL r args with
  |some l=>match C7 l with
   |some v=>some (v,st)
   |none=>none
  |none=>none
def EB(size:Nat)(bytes:Nat)(elem:TypeId)(_:List V)(s:Src)(x:Src):eH:=fun _ r st=>match s.ev r,x.ev r with
  |some s,some x=>mm st size bytes elem s x
  |_,_=>none
def EC(size:Nat)(d:Src)(s:Src):eH:=fun _ r st=>match d.ev r,s.ev r with
  |some d,some s=>match gb st size s with
   |some (n,xs)=>match d with
    |.aa=>some (.int .i64 0,st)
    |.slice i o len _ sz=>
     if sz≠size\/size=0 then none else
     let k:=min n len
     if k=0 then some (.int .i64 0,st) else
     match st.row i with
     |some (c,e,true)=>if o+k*size<=c.length then some (.int .i64 k,st.write i (.cells (ag c o (xs.take (k*size))) e true)) else none
     |_=>none
    |_=>none
   |none=>none
  |_,_=>none
def LS(size:Nat)(zero:List V)(s:Src):eH:=fun _ r st=>match s.ev r with
  |some .aa=>some (.aV [],st)
  |some .empty=>some (.aV [],st)
  |some (.slice i o len _ sz)=>
   if len=0 then some (.aV [],st) else
   if sz≠size\/size=0\/zero.length≠size then none else
   match st.row i with
   |some (c,e,true)=>if o+len*size<=c.length then some (.aV [],st.write i (.cells (ag c o (dm zero len)) e true)) else none
   |_=>none
  |_=>none
def An(f:Src)(args:List Src):eH:=fun call r st=>match f.ev r,vL r args with
  |some f,some l=>call f l st
  |_,_=>none
def Jo(e:Ext)(args:List Src):eH:=fun _ r st=>match e,vL r args with
  |.same,some [v]=>some (v,st)
  |e,some l=>match Ew e l with
   |some v=>some (v,st)
   |none=>none
  |_,none=>none
def GD(e:Option (TypeId×Nat))(x:Src):eH:=fun _ r st=>match x.ev r with
  |some (.ptr i 0)=>match st.row i with
   |some (c,e',true)=>match e with
    |none=>if 0<c.length then some (.ptr i 0,st) else none
    |some (u,z)=>if e'=u/\0<z/\z<=c.length then some (.ptr i 0,st) else none
   |_=>none
  |_=>none
def LU(x:Src):eH:=fun _ r st=>match x.ev r with
  |some (.slice i o len _ _)=>if 0<len then some (.ptr i o,st) else none
  |_=>none
def TG:V->Option UInt8
 |.int .u8 n=>if 0<=n/\n<256 then some n.toNat.toUInt8 else none
 |_=>none
def Jp:List V->Option (List UInt8)
 |[]=>some []
 |v::l=>match TG v,Jp l with
  |some b,some s=>some (b::s)
  |_,_=>none
def LV(e:TypeId)(x n:Src):eH:=fun _ r st=>match x.ev r,n.ev r with
  |some (.ptr i 0),some (.int .i64 k)=>if 0<k/\k<=9223372036854775807 then
    match st.row i with
    |some (c,e',true)=>if e'=e then
      match aL c 0 k.toNat with
      |some Bq=>match Jp Bq with
       |some s=>some (.str s,st.write i (.cells c e' false))
       |none=>none
      |none=>none
     else none
    |_=>none
   else none
  |_,_=>none
def ZY:eH:=fun _ _ _=>none
def cC(op:iA):eH:=iA.casesOn op I8 Gw LL I9 Ey Ja Jb Gx Jc Jd Je Jf LM Gy Jg LN Jh LP Gz Ez Al qV Bx Ji Jj EA GA LQ GB Jk GC Zuc ZX Jl Jm Jn zE Om LR Am sL EB EC LS An Jo GD LU LV ZY
def Fr.put(fr:Fr)(d:Option Nat)(v:V):Option Fr:=
 match d with
 |some d=>if d<fr.n then some {fr with r:=fr.r.set d v} else none
 |none=>some fr
def bU(r:T V):Option (Nat×Bool)->Option Bool
 |none=>some true
 |some (t,want)=>match r.get t with
  |some (.bool b)=>some (b==want)
  |some (.aV _)=>some false
  |_=>none
def C8(call:cM)(o:dK)(next:Fr->St->Option (Fr×St))(fr:Fr)(st:St):Option (Fr×St):=
 match bU fr.r o.guard with
 |some true=>match cC o.op call fr.r st with
  |some (v,aA)=>match fr.put o.dst v with
   |some bH=>next bH aA
   |none=>none
  |none=>none
 |some false=>match fr.put o.dst (.aV [])with
  |some bH=>next bH st
  |none=>none
 |none=>none
def Yn8(fr:Fr)(st:St):Option (Fr×St):=some (fr,st)
def dR(call:cM):List dK->Fr->St->Option (Fr×St)
 |[]=>Yn8
 |o::rest=>C8 call o (dR call rest)
structure FP where
 rd:Option (List Nat)
 wr:List Nat
 lo:Nat
 hi:Nat
def iA.pA:iA->Bool
 |.m_ _|.pick ..|.alloc ..|.box ..|.build ..|.fO ..|.px _|.un ..|.dB ..|.sJ _|.ku ..|.iZ ..|.pz ..|.yA|.wU ..
 |.kv ..|.cB ..|.jE ..|.field ..|.iL ..|.bG ..|.wV ..|.bL ..|.kI _|.extract ..|.wW _|.cap _|.mn _|.mx _|.ext ..=>true
 |.bin .add ..|.bin .sub ..|.bin .mul ..|.bin .quo ..|.bin .rem ..|.bin .lss ..|.bin .leq ..|.bin .gtr ..|.bin .geq ..|.bin .shl ..|.bin .shr ..|.bin .and ..|.bin .or ..|.bin .xor ..|.bin .andNot ..=>true
 |_=>false
def TH(r:T V):iA->Option Nat
 |.load _ a=>match a.ev r with
  |some (.ptr i _)=>some i
  |_=>none
 |.store _ a _=>match a.ev r with
  |some (.ptr i _)=>some i
  |_=>none
 |_=>none
def qm(r:T V)(op:iA)(ws:List Nat)(lo hi:Nat):FP:=
 if op.pA then ⟨some [],[],lo,hi⟩ else
 match TH r op with
 |some i=>if Nat.blt i lo then ⟨some [i],ws,lo,hi⟩ else ⟨none,ws,lo,hi⟩
 |none=>⟨none,ws,lo,hi⟩
def wG(i:Nat)(l:List Nat):List Nat:=if l.contains i then l else i::l
def ay(n:Nat):List Nat->List Nat
 |[]=>[]
 |i::l=>if i<n then wG i (ay n l) else ay n l
def C9(call:cM)(o:dK)(next:Fr->St->Option (List FP×Fr×St))(fr:Fr)(st:St):Option (List FP×Fr×St):=
 match bU fr.r o.guard with
 |some true=>match cC o.op call fr.r {st with w:=[]} with
  |some (v,aA)=>match fr.put o.dst v with
   |some bH=>match next bH {aA with w:=ay st.n aA.w++st.w} with
    |some (iO,fr'',st'')=>some (qm fr.r o.op (ay st.n aA.w) st.n aA.n::iO,fr'',st'')
    |none=>none
   |none=>none
  |none=>none
 |some false=>match fr.put o.dst (.aV [])with
  |some bH=>match next bH st with
   |some (iO,fr'',st'')=>some (⟨some [],[],st.n,st.n⟩::iO,fr'',st'')
   |none=>none
  |none=>none
 |none=>none
def Yfn(fr:Fr)(st:St):Option (List FP×Fr×St):=some ([],fr,st)
def bM(call:cM):List dK->Fr->St->Option (List FP×Fr×St)
 |[]=>Yfn
 |o::rest=>C9 call o (bM call rest)
def ED(a:List Nat):Option (List Nat)->Bool
 |none=>!a.isEmpty
 |some b=>a.any fun i=>b.contains i
def FP.free(a b:FP):Bool:=!(ED a.wr b.rd||ED a.wr (some b.wr)||ED b.wr a.rd||b.wr.any fun i=>Nat.ble a.lo i&&Nat.blt i a.hi)
def cQ{α:Type}(p:α->α->Bool)(xs:List α)(rm:List Nat):Bool:=
 go xs rm 0 []
where
 go:List α->List Nat->Nat->List α->Bool
  |[],_,_,_=>true
  |f::fs,ms,j,seen=>
   (cU f (ms.headD 0) (j-1) seen)&&go fs ms.tail (j+1) (f::seen)
 cU (f:α) (m:Nat):Nat->List α->Bool
  |_,[]=>true
  |i,g::gs=>(m.testBit i||p g f)&&cU f m (i-1) gs
def kJ(iO:List FP)(rm:List Nat):Bool:=cQ FP.free iO rm
def Src.tmps:Src->List Nat
 |.tmp t=>[t]
 |.const _=>[]
def Da:Option Src->List Src
 |none=>[]
 |some s=>[s]
def iA.EE:iA->List Src
 |.m_ x=>[x]
 |.pick c a b=>[c,a,b]
 |.alloc ..=>[]
 |.box _ x=>[x]
 |.build _ ps=>ps.map (·.2.2)
 |.fO _ _ _ _ ps=>ps.map (·.2.2)
 |.load _ a=>[a]
 |.store _ a x=>[a,x]
 |.px x=>[x]
 |.bin _ _ _ x y=>[x,y]
 |.un _ x=>[x]
 |.dB _ x=>[x]
 |.sJ x=>[x]
 |.ku _ x=>[x]
 |.py x=>[x]
 |.iZ _ x=>[x]
 |.pz _ a c=>a++c
 |.yA=>[]
 |.wU _ n=>[n]
 |.kv _ _ _ _ l c=>[l,c]
 |.cB x lo hi=>x::(Da lo++Da hi)
 |.oa _ x lo hi m=>x::(Da lo++Da hi++Da m)
 |.ky _ _ x lo hi m=>x::(Da lo++Da hi++Da m)
 |.jE _ x=>[x]
 |.field _ _ x=>[x]
 |.iL _ _ x i=>[x,i]
 |.bG _ x i=>[x,i]
 |.wV _ _ _ x i=>[x,i]
 |.bL x i=>[x,i]
 |.lookup _ _ m k _=>[m,k]
 |.wM _ m k v=>[m,k,v]
 |.I5 _ _ m k=>[m,k]
 |.I6 m s v=>[m,s,v]
 |.kI x=>[x]
 |.sD x=>[x]
 |.extract x _=>[x]
 |.len _ x=>[x]
 |.wW _=>[]
 |.cap x=>[x]
 |.mn l=>l
 |.mx l=>l
 |.append _ _ _ _ s x=>[s,x]
 |.copy _ d s=>[d,s]
 |.clear _ _ s=>[s]
 |.call f l=>f::l
 |.ext _ l=>l
 |.LB _ x=>[x]
 |.Bm x=>[x]
 |.IP _ x n=>[x,n]
 |.stop=>[]
def dK.reads(o:dK):List Nat:=
 (match o.guard with|some (t,_)=>[t]|none=>[])++o.op.EE.flatMap Src.tmps
def On(d:Option Nat)(l:List Nat):Bool:=
 match d with
 |some t=>l.contains t
 |none=>false
def Tq(a b:dK):Bool:=!(On a.dst b.reads||On b.dst a.reads||On a.dst b.dst.toList)
def Z0(st:St)(i:Nat)(send:Option V)(zero:V):Option (V×St):=
 match st.h.get i,send with
 |some (.chan cap buf),some v=>if buf.length<cap then some (.aV [.int .i64 0,.bool false],st.write i (.chan cap (buf++[v]))) else some (.aV [.int .i64 (-1),.bool false],st)
 |some (.chan cap (v::buf)),none=>some (.aV [.int .i64 0,.bool true,v],st.write i (.chan cap buf))
 |some (.chan _ []),none=>some (.aV [.int .i64 (-1),.bool false,zero],st)
 |_,_=>none
abbrev rn:=Option Nat->bW->Fr->St->Option (Ex×Fr×St)
abbrev yI:=cM->rn->Option Nat->Fr->St->Option (Ex×Fr×St)
def Z1:yI:=fun _ _ _ fr st=>some (.normal,fr,st)
def By(ops:List dK):yI:=fun call _ _ fr st=>match dR call ops fr st with
 |some (bH,aA)=>some (.normal,bH,aA)
 |none=>none
def Bz(ops:List dK)(rm:List Nat):yI:=fun call _ _ fr st=>match bM call ops fr st with
 |some (iO,bH,aA)=>match kJ iO rm with
  |true=>some (.normal,bH,aA)
  |false=>none
 |none=>none
def Db(dst:Option Nat)(ch:Src)(send:Option Src)(zero:V)(ops:List dK):yI:=fun call _ _ fr st=>
 match ch.ev fr.r,aB fr.r send with
 |some (.chan i),some sv=>match Z0 st i sv zero with
  |some (v,bX)=>match fr.put dst v with
   |some ef=>match dR call ops ef bX with
    |some (bH,aA)=>some (.normal,bH,aA)
    |none=>none
   |none=>none
  |none=>none
 |_,_=>none
def Dc(a b:bW):yI:=fun _ rec ro fr st=>match rec ro a fr st with
 |some (.normal,bH,aA)=>rec ro b bH aA
 |x=>x
def zG(x:Src)(a b:bW):yI:=fun _ rec ro fr st=>match x.ev fr.r with
 |some (.bool true)=>rec ro a fr st
 |some (.bool false)=>rec ro b fr st
 |_=>none
def Dd(id:Nat)(c:bW):yI:=fun _ rec ro fr st=>match rec ro c fr st with
 |some (.exit De,bH,aA)=>match Nat.beq De id with
  |true=>some (.normal,bH,aA)
  |false=>some (.exit De,bH,aA)
 |x=>x
def Df(c:bW):yI:=fun _ rec ro fr st=>match rec ro c fr st with
 |some (.normal,bH,aA)=>rec ro (.loop c) bH aA
 |x=>x
def SD(st:St):Option Nat->Option (St×Nat×List Nat)
 |none=>some (st.alloc (.defs true),st.n,[st.n])
 |some l=>match st.h.get l with
  |some (.loop R)=>some (st,R.defs,[])
  |_=>none
def V.Io:V->Bool
 |.yield _=>true
 |_=>false
def AP(g:Src)(ps:List Nat)(assign body:bW):yI:=fun call _ ro fr st=>
 match g.ev fr.r with
 |none=>none
 |some gv=>
  if gv.Io then none else
  match SD st ro with
  |none=>none
  |some (bX,d,mk)=>
   match call gv [.yield bX.n] (bX.alloc (.loop {st:=.ready,fu:=none,r:=fr.r,n:=fr.n,ps:=ps,assign:=assign,body:=body,defs:=d}))with
   |none=>none
   |some (_,fb)=>
    match fb.h.get bX.n with
    |some (.loop R)=>
     if R.st=.busy then none else
     some (match R.fu with|none=>.normal|some e=>e,{fr with marks:=mk++fr.marks},fb.write bX.n (.loop {R with st:=.exhausted}))
    |_=>none
def Yo0(id:Nat):yI:=fun _ _ _ fr st=>some (.exit id,fr,st)
def Yip(c:bW):yI:=fun _ rec ro fr st=>rec ro c fr st
def Ywt:yI:=fun _ _ _ fr st=>some (.ret,fr,st)
def LW:yI:=fun _ _ _ _ _=>none
def oc(c:bW):yI:=bW.casesOn c Z1 By Bz Db Dc zG Dd Df AP Yo0 Yip Ywt LW
def TI:rn:=fun _ _ _ _=>none
def dZ(call:cM):Nat->rn
 |0=>TI
 |f+1=>fun ro c=>oc c call (dZ call f) ro
def Ao(r:T V)(i:Nat):List V->T V
 |[]=>r
 |v::vs=>Ao (r.set i v) (i+1) vs
def DT(r:T V)(n:Nat):List Nat->List V->Option (T V)
 |[],[]=>some r
 |p::ps,v::vs=>if p<n then DT (r.set p v) n ps vs else none
 |_,_=>none
def gg(r:T V)(st:St):List F5->Option (List V)
 |[]=>some []
 |.tmp t::rest=>match r.get t,gg r st rest with
  |some v,some vs=>some (v::vs)
  |_,_=>none
 |.cell t n::rest=>match r.get t,gg r st rest with
  |some (.ptr i o),some vs=>match st.row i with
   |some (c,_,_)=>match aQ c o n with
    |some v=>some (v::vs)
    |none=>none
   |none=>none
  |_,_=>none
def shut(st:St):List Nat->Option St
 |[]=>some st
 |d::ds=>match st.h.get d with
  |some (.defs true)=>shut (st.write d (.defs false)) ds
  |_=>none
def Lb:Option Ex->LoopState
 |none=>.ready
 |some _=>.done
def rX:Ex->Option Ex
 |.normal=>none
 |e=>some e
def GF:List V->V
 |[v]=>v
 |vs=>.aV vs
def Z2(mf:mV)(st:St):Option (Ex×Fr×St)->Option (V×St)
 |some (.exit _,_,_)=>none
 |some (_,fr,bX)=>match shut bX fr.marks with
  |none=>none
  |some fb=>match gg fr.r fb mf.results with
   |some vs=>some (GF vs,{fb with w:=ay st.n fb.w++st.w})
   |none=>none
 |none=>none
def Ei(mf:mV)(code:rn)(args:List V)(st:St):Option (V×St):=
 if mf.ntmps<args.length then none else
 Z2 mf st (code none mf.body {r:=Ao .nil 0 args,n:=mf.ntmps,marks:=[]} {st with w:=[]})
def DV(code:rn)(l:Nat)(args:List V)(st:St):Option (V×St):=
 match st.h.get l with
 |some (.loop R)=>match DT R.r R.n R.ps args with
  |none=>none
  |some r0=>match code (some l) R.assign {r:=r0,n:=R.n,marks:=[]} st with
   |some (.normal,ef,bX)=>match bX.h.get l with
    |some (.loop R1)=>
     if R1.st=.ready then
      match code (some l) R.body ef (bX.write l (.loop {R1 with st:=.busy}))with
      |some (e,_,fb)=>match fb.h.get l with
       |some (.loop R2)=>some (.bool (rX e).isNone,fb.write l (.loop {R2 with st:=Lb (rX e),fu:=rX e}))
       |_=>none
      |none=>none
     else none
    |_=>none
   |_=>none
 |_=>none
def zw(dV:Nat->Option mV)(code:rn):cM
 |.func f first iB,args,st=>match dV f with
  |some mf=>Ei mf code (first++args++iB) st
  |none=>none
 |.yield l,args,st=>DV code l args st
 |_,_,_=>none
def Z3:cM:=fun _ _ _=>none
end Go.Mx
