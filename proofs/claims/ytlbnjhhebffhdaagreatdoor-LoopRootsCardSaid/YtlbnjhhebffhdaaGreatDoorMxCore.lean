/-The abstract machine M-/
import Derived.RangeFuncLeaves
import Derived.OrdersIn
import Derived.RangeFuncRecord
set_option linter.all false
namespace Go.Mx
abbrev Xed:=@Rat.den_pos
abbrev Xee:=@List.replicate_succ
abbrev au:=@Option.some.injEq
abbrev aA:=@if_neg
abbrev bC:=@List.length_cons
abbrev Yv5:=@Nat.le_refl
abbrev bE:=@Prod.mk.injEq
abbrev aR:=@if_pos
abbrev Yv8:=@List.getElem?_eq_getElem
abbrev eI:=@List.mem_of_getElem?
abbrev o8:=@List.ext_getElem?
abbrev Yw1:=@List.map_cons
abbrev kV:=@List.mem_cons
abbrev rB:=@List.append_assoc
abbrev xJ:=@List.getElem?_append_left
abbrev oW:=@Nat.min_eq_left
abbrev rL:=@Option.some.inj
abbrev ku:=@Nat.add_mul
abbrev Yw8:=@Nat.pow_add
abbrev mY:=@Nat.add_zero
abbrev eJ:=@List.getElem?_set_ne
abbrev eA:=@Int.natAbs_natCast
abbrev Ywc:=@Option.map_eq_some_iff
abbrev gj:=@Bool.false_eq_true
abbrev gH:=@List.getElem?_drop
abbrev jP:=@List.take_of_length_le
abbrev iL:=@Nat.lt_of_lt_of_le
abbrev iJ:=@List.length_append
abbrev kc:=@List.getElem?_eq_none
abbrev jh:=@Nat.mul_le_mul_left
abbrev qE:=@Int.mul_le_mul_of_nonneg_left
abbrev lM:=@List.getElem?_set_self
abbrev iA:=@List.cons.injEq
abbrev rz:=@List.eq_nil_of_length_eq_zero
abbrev Ywo:=@Nat.pow_le_pow_right
abbrev jc:=@Bool.and_eq_true
abbrev jT:=@List.getElem?_map
abbrev fV:=@Nat.pow_succ
abbrev kW:=@List.getElem?_take
abbrev ot:=@Nat.mul_le_mul_right
abbrev j9:=@List.length_take
abbrev pd:=@Nat.div_lt_iff_lt_mul
abbrev oY:=@List.mem_cons_of_mem
abbrev iz:=@Nat.mul_comm
abbrev oe:=@Nat.lt_of_le_of_lt
abbrev oV:=@List.mem_cons_self
abbrev vO:=@Int.mul_nonneg
abbrev tr:=@Int.le_of_lt
abbrev xD:=@List.drop_length
abbrev IA:=@Array.getD_eq_getD_getElem?
abbrev rX:=@Nat.mul_add
abbrev Lw:=@Array.getElem?_setIfInBounds_ne
abbrev Yx6:=@List.getElem?_cons_succ
abbrev DC:=@Int.eq_ofNat_of_zero_le
abbrev Ig:=@List.getElem?_append_right
abbrev wY:=@Int.natAbs_mul
abbrev wZ:=@Nat.le_of_ble_eq_true
abbrev kf:=@Nat.mod_lt
abbrev oZ:=@Nat.add_assoc
abbrev AL:=@Int.tdiv_eq_ediv_of_nonneg
abbrev tu:=@Nat.lt_succ_self
abbrev Yxf:=@Nat.lt_of_not_le
abbrev rY:=@Nat.two_pow_pos
abbrev oJ:=@Nat.zero_add
abbrev AM:=@List.getElem?_eq_some_iff
abbrev Aw:=@List.mem_or_eq_of_mem_set
abbrev zd:=@List.drop_eq_nil_of_le
abbrev tg:=@List.mem_append
abbrev uv:=@List.all_eq_true
abbrev th:=@Nat.div_le_self
abbrev tA:=@Nat.div_add_mod
abbrev DD:=@Int.mul_le_mul_of_nonneg_right
abbrev ze:=@Array.getElem?_toList
abbrev zf:=@List.length_singleton
abbrev AN:=@List.getElem?_cons_zero
abbrev p9:=@Nat.le_trans
abbrev vD:=@Nat.le_of_not_lt
abbrev AO:=@List.take_append_drop
abbrev tU:=@Nat.mul_le_mul
abbrev w6:=@Nat.mod_eq_of_lt
abbrev DE:=@Int.tmod_eq_emod_of_nonneg
abbrev yW:=@List.mem_singleton
abbrev BQ:=@Nat.div_lt_self
abbrev NT:=@Nat.mul_lt_mul_of_pos_right
abbrev IB:=@Nat.pow_le_pow_left
abbrev xS:=@Nat.le_succ
abbrev xM:=@Nat.mul_pos
abbrev w_:=@Nat.not_lt
abbrev AG:=@Nat.mul_assoc
abbrev C8:=@Option.getD_some
abbrev DF:=@Int.le_of_not_gt
abbrev Ly:=@Nat.le_div_iff_mul_le
abbrev BR:=@List.mem_of_mem_take
abbrev tV:=@List.map_nil
abbrev AA:=@Rat.num_divInt_den
abbrev xL:=@List.length_set
abbrev zg:=@Nat.div_eq_of_lt
abbrev IC:=@List.drop_eq_getElem_cons
abbrev vo:=@List.mem_map
abbrev Lz:=@Option.ite_none_left_eq_some
abbrev DG:=@Int.mul_ediv_add_emod
abbrev tR:=@Nat.zero_le
abbrev AP:=@List.append_nil
abbrev AQ:=@List.length_drop
abbrev At:=@List.take_length
abbrev vu:=@Nat.pow_pos
abbrev ID:=@Nat.div_div_eq_div_mul
abbrev BS:=@Nat.lt_of_succ_le
abbrev BT:=@List.map_toArray
abbrev BU:=@Nat.le_max_right
abbrev BV:=@List.cons_append
abbrev DH:=@Int.emod_lt_of_pos
abbrev BW:=@Nat.mul_lt_mul''
abbrev wP:=@Nat.mul_one
abbrev Au:=@List.drop_zero
abbrev AR:=@Int.natAbs_neg
abbrev BX:=@Option.map_some
abbrev BY:=@Nat.le_max_left
abbrev DI:=@Int.emod_nonneg
abbrev AF:=@Nat.pow_zero
abbrev HQ:=@List.take_add_one
abbrev IE:=@Bool.not_eq_true'
abbrev Dh:=@List.mem_range
abbrev zh:=@Array.ext'
abbrev LA:=@List.mem_replicate
abbrev IF:=@Bool.or_eq_true
abbrev NU:=@Nat.mul_mod_mul_right
abbrev NV:=@Int.ofNat_eq_natCast
abbrev Nd:=@List.getElem?_of_mem
abbrev Yzl:=@Array.all_eq_true_iff_forall_mem
abbrev LC:=@Int.lt_of_not_ge
abbrev Ta:=@Nat.gcd_pos_of_pos_right
abbrev NX:=@List.getElem?_range
abbrev Nj:=@List.map_congr_left
abbrev NY:=@Nat.eq_zero_or_pos
abbrev LD:=@Int.natCast_mul
abbrev Lh:=@List.length_map
abbrev LF:=@Int.mul_ne_zero
abbrev Tb:=@Nat.eq_of_beq_eq_true
abbrev Tc:=@List.contains_iff_mem
abbrev Td:=@Nat.ble_eq_true_of_le
abbrev Te:=@List.singleton_append
abbrev Yzy:=@List.dropLast_concat_getLast
abbrev Tf:=@Nat.mul_div_mul_right
inductive T (α:Type) where
 |nil
 |node (l:T α) (v:Option α) (r:T α)
def T.get{α:Type}:T α->Nat->Option α
 |.nil,_=>none
 |.node l v r,n=>
  match n with
  |0=>v
  |k+1=>match k%2 with
   |0=>l.get (k/2)
   |_=>r.get (k/2)
def T.ziC{α:Type}:Nat->T α->Nat->α->T α
 |0,t,_,_=>t
 |f+1,.nil,n,a=>
  match n with
  |0=>.node .nil (some a) .nil
  |k+1=>match k%2 with
   |0=>.node (T.ziC f .nil (k/2) a) none .nil
   |_=>.node .nil none (T.ziC f .nil (k/2) a)
 |f+1,.node l v r,n,a=>
  match n with
  |0=>.node l (some a) r
  |k+1=>match k%2 with
   |0=>.node (T.ziC f l (k/2) a) v r
   |_=>.node l v (T.ziC f r (k/2) a)
def T.set{α:Type}(t:T α)(n:Nat)(a:α):T α:=T.ziC (n+1) t n a
def T.zi{α:Type}(a:α):∀(f:Nat) (t:T α) (n m:Nat),n<f->(T.ziC f t n a).get m=if m=n then some a else t.get m:=by
 intro f
 induction f with
 |zero=>intro t n m h;omega
 |succ f ih=>
  intro t n m h
  cases t with
  |nil=>
   cases n with
   |zero=>
    cases m with
    |zero=>simp[T.ziC,T.get]
    |succ j=>simp only[T.ziC,T.get];split<;>simp
   |succ k=>
    have hk:k/2<f:=by omega
    have h2:k%2=0\/k%2=1:=by omega
    rcases h2 with h2|h2
    ·cases m with
     |zero=>simp[T.ziC,T.get,h2]
     |succ j=>
      have hj:j%2=0\/j%2=1:=by omega
      rcases hj with hj|hj
      ·simp only[T.ziC,T.get,h2,hj,ih _ _ _ hk]
       by_cases e:j/2=k/2
       ·have:j=k:=by omega
        simp[this]
       ·have:¬j=k:=by intro e2;exact e (by rw[e2])
        simp[e,this]
      ·have:¬j=k:=by omega
       simp[T.ziC,T.get,h2,hj,this]
    ·cases m with
     |zero=>simp[T.ziC,T.get,h2]
     |succ j=>
      have hj:j%2=0\/j%2=1:=by omega
      rcases hj with hj|hj
      ·have:¬j=k:=by omega
       simp[T.ziC,T.get,h2,hj,this]
      ·simp only[T.ziC,T.get,h2,hj,ih _ _ _ hk]
       by_cases e:j/2=k/2
       ·have:j=k:=by omega
        simp[this]
       ·have:¬j=k:=by intro e2;exact e (by rw[e2])
        simp[e,this]
  |node l v r=>
   cases n with
   |zero=>cases m<;>simp[T.ziC,T.get]
   |succ k=>
    have hk:k/2<f:=by omega
    have h2:k%2=0\/k%2=1:=by omega
    rcases h2 with h2|h2
    ·cases m with
     |zero=>simp[T.ziC,T.get,h2]
     |succ j=>
      have hj:j%2=0\/j%2=1:=by omega
      rcases hj with hj|hj
      ·simp only[T.ziC,T.get,h2,hj,ih _ _ _ hk]
       by_cases e:j/2=k/2
       ·have:j=k:=by omega
        simp[this]
       ·have:¬j=k:=by intro e2;exact e (by rw[e2])
        simp[e,this]
      ·have:¬j=k:=by omega
       simp[T.ziC,T.get,h2,hj,this]
    ·cases m with
     |zero=>simp[T.ziC,T.get,h2]
     |succ j=>
      have hj:j%2=0\/j%2=1:=by omega
      rcases hj with hj|hj
      ·have:¬j=k:=by omega
       simp[T.ziC,T.get,h2,hj,this]
      ·simp only[T.ziC,T.get,h2,hj,ih _ _ _ hk]
       by_cases e:j/2=k/2
       ·have:j=k:=by omega
        simp[this]
       ·have:¬j=k:=by intro e2;exact e (by rw[e2])
        simp[e,this]
def T.al{α:Type}(t:T α)(n m:Nat)(a:α):(t.set n a).get m=if m=n then some a else t.get m:=
 T.zi a (n+1) t n m (tu n)
inductive V where
 |bool (b:Bool)
 |int (k:IntKind) (n:Int)
 |jM (k:FloatKind) (bits:Nat)
 |rp (k:FloatKind) (re im:Nat)
 |str (s:List UInt8)
 |bO
 |ptr (i o:Nat)
 |ziA
 |slice (i o len:Nat) (cap:Option Nat) (sz:Nat)
 |empty
 |bU
 |map (i:Nat)
 |bV
 |chan (i:Nat)
 |func (f:FuncId) (first cap:List V)
 |yield (i:Nat)
 |bW
 |iface (t:TypeId) (v:V)
 |bh
 |agg (l:List V)
 |aX (l:List V)
instance:Inhabited V:=⟨.aX []⟩
def V.cells:V->List V
 |.agg l=>l
 |v=>[v]
def V.one:V->Bool
 |.agg _|.aX _=>false
 |_=>true
inductive Src where
 |tmp (t:Nat)
 |const (v:V)
inductive PK where
 |bool|int|str|ptr|slice|map|func|chan|iface
inductive rK where
 |zgf (k:PK)
 |node (parts:List (Nat×Option Nat×rK))
inductive ke where
 |int (k:IntKind)
 |str
inductive Ext where
 |nd|nf|same|zif|zgr|o_|pc
inductive fZ where
 |kv (x:Src)
 |pick (c a b:Src)
 |alloc (zero:List V) (elem:TypeId)
 |box (elem:TypeId) (x:Src)
 |build (zero:List V) (parts:List (Nat×Nat×Src))
 |kb (elem:TypeId) (size len:Nat) (zero:List V) (parts:List (Nat×Nat×Src))
 |load (n:Option Nat) (a:Src)
 |store (n:Nat) (a x:Src)
 |nj (x:Src)
 |bin (op:BinOp) (t:rK) (ng:Bool) (x y:Src)
 |un (op:UnOp) (x:Src)
 |zig (k:IntKind) (x:Src)
 |lX (x:Src)
 |ji (elem:TypeId) (x:Src)
 |nk (x:Src)
 |fm (t:TypeId) (x:Src)
 |np (f:FuncId) (first f_:List Src)
 |vK
 |qf (bytes:Nat) (n:Src)
 |jj (elem:TypeId) (size bytes:Nat) (zero:List V) (len cap:Src)
 |cI (x:Src) (lo hi:Option Src)
 |lY (size:Nat) (x:Src) (lo hi mx:Option Src)
 |zgp (n size:Nat) (x:Src) (lo hi mx:Option Src)
 |ky (off:Nat) (x:Src)
 |field (off:Nat) (n:Option Nat) (x:Src)
 |dB (len size:Nat) (x i:Src)
 |ft (size:Nat) (x i:Src)
 |zgE (len size:Nat) (n:Option Nat) (x i:Src)
 |bP (x i:Src)
 |lookup (kd:ke) (zero:V) (m k:Src) (ok:Bool)
 |uk (kd:ke) (m k v:Src)
 |IG (kd:ke) (zero:V) (m k:Src)
 |IH (m s v:Src)
 |jl (x:Src)
 |qj (it:Src)
 |extract (x:Src) (i:Nat)
 |len (k:Nat) (x:Src)
 |nh (n:Nat)
 |cap (x:Src)
 |mn (args:List Src)
 |mx (args:List Src)
 |append (size bytes:Nat) (elem:TypeId) (zero:List V) (s x:Src)
 |copy (size:Nat) (d s:Src)
 |clear (size:Nat) (zero:List V) (s:Src)
 |call (f:Src) (args:List Src)
 |ext (e:Ext) (args:List Src)
 |Lu (e:Option (TypeId×Nat)) (x:Src)
 |y_ (x:Src)
 |Is (e:TypeId) (x n:Src)
 |It (op:BinOp) (x y:Src)
 |Iu (k:IntKind) (x:Src)
 |part (im:Bool) (x:Src)
 |stop
structure du where
 dst:Option Nat
 op:fZ
 guard:Option (Nat×Bool)
inductive cC where
 |skip
 |fk (ops:List du)
 |eY (ops:List du) (zil:List Nat)
 |wW (dst:Option Nat) (ch:Src) (send:Option Src) (zero:V) (ops:List du)
 |seq (a b:cC)
 |cond (c:Src) (a b:cC)
 |block (id:Nat) (c:cC)
 |loop (c:cC)
 |zim (g:Src) (ps:List Nat) (assign body:cC)
 |exit (id:Nat)
 |scope (c:cC)
 |ret
 |stop
inductive Iw where
 |tmp (t:Nat)
 |cell (t:Nat) (n:Option Nat)
structure kp where
 ntmps:Nat
 results:List Iw
 body:cC
inductive Ex where
 |normal
 |exit (id:Nat)
 |ret
structure Yrr where
 st:LoopState
 iD:Option Ex
 r:T V
 n:Nat
 ps:List Nat
 assign:cC
 body:cC
 defs:Nat
inductive O where
 |cells (c:List V) (elem:TypeId) (rw:Bool)
 |map (es:List (V×V))
 |chan (cap:Nat) (buf:List V)
 |eK (s:List UInt8) (pos:Nat)
 |loop (l:Yrr)
 |defs (zd6:Bool)
 |dead
def O.wr:O->Bool
 |.cells _ _ rw=>rw
 |.dead=>false
 |_=>true
def O.live:O->Bool
 |.dead=>false
 |_=>true
structure St where
 h:T O
 n:Nat
 w:List Nat
def St.alloc(st:St)(o:O):St:={st with h:=st.h.set st.n o,n:=st.n+1}
def St.write(st:St)(i:Nat)(o:O):St:={st with h:=st.h.set i o,w:=i::st.w}
structure Fr where
 r:T V
 n:Nat
 marks:List Nat
def Src.ev(r:T V):Src->Option V
 |.tmp t=>r.get t
 |.const v=>some v
def tB(r:T V):List Src->Option (List V)
 |[]=>some []
 |x::xs=>match x.ev r,tB r xs with
  |some v,some vs=>some (v::vs)
  |_,_=>none
def aH(r:T V):Option Src->Option (Option V)
 |none=>some none
 |some x=>match x.ev r with
  |some v=>some (some v)
  |none=>none
def aK{α:Type}(c:List α)(o n:Nat):Option (List α):=if o+n<=c.length then some ((c.drop o).take n) else none
def aj{α:Type}(c:List α)(o:Nat)(vs:List α):List α:=c.take o++vs++c.drop (o+vs.length)
def AS(cells:List V):List (Nat×Nat×V)->Option (List V)
 |[]=>some cells
 |(off,size,v)::rest=>
  if v.cells.length=size/\off+size<=cells.length then AS (aj cells off v.cells) rest else none
def AT(r:T V):List (Nat×Nat×Src)->Option (List (Nat×Nat×V))
 |[]=>some []
 |(o,s,x)::rest=>match x.ev r,AT r rest with
  |some v,some vs=>some ((o,s,v)::vs)
  |_,_=>none
def aI(cs:List V)(off:Nat):Option Nat->Option V
 |none=>cs[off]?
 |some n=>match aK cs off n with
  |some l=>some (.agg l)
  |none=>none
def a_(ng:Bool):PK->V->V->Option Bool
 |.bool,.bool a,.bool b=>some (a==b)
 |.int,.int k a,.int k' b=>if k=k' then some (a==b) else none
 |.str,.str a,.str b=>some (a==b)
 |.ptr,.bO,.bO=>some true
 |.ptr,.bO,.ptr _ _=>some false
 |.ptr,.ptr _ _,.bO=>some false
 |.ptr,.ptr i o,.ptr j p=>if i=j/\o=p then some true else none
 |.slice,.ziA,.ziA=>some true
 |.slice,.ziA,.slice ..=>some false
 |.slice,.slice ..,.ziA=>some false
 |.slice,.ziA,.empty=>some false
 |.slice,.empty,.ziA=>some false
 |.map,.bU,.bU=>some true
 |.map,.bU,.map _=>some false
 |.map,.map _,.bU=>some false
 |.func,.bW,.bW=>some true
 |.func,.bW,.func ..=>some false
 |.func,.func ..,.bW=>some false
 |.chan,.bV,.bV=>some true
 |.chan,.bV,.chan _=>some false
 |.chan,.chan _,.bV=>some false
 |.iface,.bh,.bh=>if ng then some true else none
 |.iface,.bh,.iface ..=>some false
 |.iface,.iface ..,.bh=>some false
 |_,_,_=>none
mutual
def tC(ng:Bool):rK->V->V->Option Bool
 |.zgf k,x,y=>a_ ng k x y
 |.node ps,.agg xs,.agg ys=>NZ ps xs ys
 |_,_,_=>none
def NZ:List (Nat×Option Nat×rK)->List V->List V->Option Bool
 |[],_,_=>some true
 |(off,n,t)::rest,xs,ys=>
  match aI xs off n,aI ys off n with
  |some x,some y=>match tC false t x y with
   |some true=>NZ rest xs ys
   |some false=>some false
   |none=>none
  |_,_=>none
end
def bA(k:IntKind)(n:Int):Int:=
 match k,n with
 |.i64,.ofNat a=>match Nat.blt a 9223372036854775808 with
  |true=>.ofNat a
  |false=>IntKind.wrap .i64 (.ofNat a)
 |.i64,.negSucc a=>match Nat.blt a 9223372036854775808 with
  |true=>.negSucc a
  |false=>IntKind.wrap .i64 (.negSucc a)
 |.u64,.ofNat a=>.ofNat (Nat.mod a 18446744073709551616)
 |.u8,.ofNat a=>.ofNat (Nat.mod a 256)
 |.i32,.ofNat a=>match Nat.blt a 2147483648 with
  |true=>.ofNat a
  |false=>IntKind.wrap .i32 (.ofNat a)
 |.u32,.ofNat a=>.ofNat (Nat.mod a 4294967296)
 |k,n=>k.wrap n
def zj(k:IntKind)(n:Int):bA k n=k.wrap n:=by
 unfold bA
 split
 ·rename_i a
  split
  ·rename_i h
   have h':a<9223372036854775808:=BS (wZ h)
   simp only[IntKind.wrap,IntKind.bits,IntKind.signed,NV]
   simp;omega
  ·rfl
 ·rename_i a
  split
  ·rename_i h
   have h':a<9223372036854775808:=BS (wZ h)
   have e:(Int.negSucc a)= -(a:Int)-1:=by omega
   simp only[IntKind.wrap,IntKind.bits,IntKind.signed,e]
   simp;omega
  ·rfl
 ·rename_i a
  show Int.ofNat (a%18446744073709551616)=_
  simp only[IntKind.wrap,IntKind.bits,IntKind.signed,NV]
  simp
 ·rename_i a
  show Int.ofNat (a%256)=_
  simp only[IntKind.wrap,IntKind.bits,IntKind.signed,NV]
  simp
 ·rename_i a
  split
  ·rename_i h
   have h':a<2147483648:=BS (wZ h)
   simp only[IntKind.wrap,IntKind.bits,IntKind.signed,NV]
   simp;omega
  ·rfl
 ·rename_i a
  show Int.ofNat (a%4294967296)=_
  simp only[IntKind.wrap,IntKind.bits,IntKind.signed,NV]
  simp
 ·rfl
def qG(op:BinOp)(k:IntKind)(a b:Int):Option V:=
 match op with
 |.add=>some (.int k (bA k (a+b)))
 |.sub=>some (.int k (bA k (a-b)))
 |.mul=>some (.int k (bA k (a*b)))
 |.quo=>if b=0 then none else some (.int k (bA k (a.tdiv b)))
 |.rem=>if b=0 then none else some (.int k (a.tmod b))
 |.and=>some (.int k (k.wrap (BitVec.ofInt k.bits a&&& BitVec.ofInt k.bits b).toNat))
 |.or=>some (.int k (k.wrap (BitVec.ofInt k.bits a|||BitVec.ofInt k.bits b).toNat))
 |.xor=>some (.int k (k.wrap (BitVec.ofInt k.bits a^^^BitVec.ofInt k.bits b).toNat))
 |.andNot=>some (.int k (k.wrap (BitVec.ofInt k.bits a&&& ~~~ BitVec.ofInt k.bits b).toNat))
 |.eql=>some (.bool (a==b))
 |.neq=>some (.bool (a !=b))
 |.lss=>some (.bool (decide (a<b)))
 |.leq=>some (.bool (decide (a<=b)))
 |.gtr=>some (.bool (decide (a > b)))
 |.geq=>some (.bool (decide (a≥b)))
 |_=>none
def xU(op:BinOp)(k:IntKind)(a b:Int):Option V:=
 if b<0 then none else
  match op with
  |.shl=>some (.int k (k.wrap (a*2^(min b.toNat k.bits))))
  |.shr=>some (.int k (a.fdiv (2^(min b.toNat k.bits))))
  |_=>none
def iF(op:BinOp)(x y:List UInt8):Option V:=
 match op with
 |.add=>if ((x.length+y.length:Nat):Int) > IntKind.i64.max then none else some (.str (x++y))
 |.eql=>some (.bool (x==y))
 |.neq=>some (.bool (!(x==y)))
 |.lss=>some (.bool (Op.bytesLess x y))
 |.leq=>some (.bool (Op.bytesLess x y||x==y))
 |.gtr=>some (.bool (!(Op.bytesLess x y||x==y)))
 |.geq=>some (.bool (!(Op.bytesLess x y)))
 |_=>none
def Ytk(op:BinOp)(t:rK)(ng:Bool):V->V->Option V
 |.int k a,.int k' b=>
  match op with
  |.shl=>xU .shl k a b
  |.shr=>xU .shr k a b
  |_=>if k=k' then qG op k a b else none
 |.str a,.str b=>iF op a b
 |x,y=>match op with
  |.eql=>match tC ng t x y with
   |some b=>some (.bool b)
   |none=>none
  |.neq=>match tC ng t x y with
   |some b=>some (.bool (!b))
   |none=>none
  |_=>none
def unV:UnOp->V->Option V
 |.neg,.int k n=>some (.int k (k.wrap (0-n)))
 |.xor,.int k n=>some (.int k (k.wrap (BitVec.ofInt k.bits (if k.signed then -1 else k.max)^^^BitVec.ofInt k.bits n).toNat))
 |.not,.bool b=>some (.bool (!b))
 |_,_=>none
def Zed(v:V)(y:Nat):Option Nat:=
 match v with
 |.int _ n=>if 0<=n/\n<=(y:Int) then some n.toNat else none
 |_=>none
def dG(v:Option V)(y zd7:Nat):Option Nat:=
 match v with
 |some v=>Zed v y
 |none=>some zd7
def St.row(st:St)(i:Nat):Option (List V×TypeId×Bool):=
 match st.h.get i with
 |some (.cells c e rw)=>some (c,e,rw)
 |_=>none
def dr(zero:List V)(n:Nat):List V:=(List.range (n*zero.length)).map fun i=>zero.getD (i%zero.length) (.aX [])
def oL(st:St)(size:Nat):V->Option (Nat×List V)
 |.ziA=>some (0,[])
 |.empty=>some (0,[])
 |.slice j p m _ sz=>if sz=size then match st.row j with
   |some (c,_,_)=>match aK c p (m*size)with
    |some l=>some (m,l)
    |none=>none
   |none=>none
  else none
 |.str s=>if size=1 then some (s.length,s.map fun b=>.int .u8 b.toNat) else none
 |_=>none
def AU:Nat:=2^48
def tf(st:St)(size bytes:Nat)(elem:TypeId)(s x:V):Option (V×St):=
 match oL st size x with
 |none=>none
 |some (n,xs)=>
  match s with
  |.ziA=>
   if n=0 then some (.ziA,st)
   else if 2*n*bytes<=AU/\size≠0 then some (.slice st.n 0 n none size,st.alloc (.cells xs elem true)) else none
  |.slice i o len cap sz=>
   if n=0 then (if sz=size then some (s,st) else none)
   else if sz≠size\/size=0\/AU<2*(len+n)*bytes then none else
   match st.row i with
   |none=>none
   |some (c,e,rw)=>
    match cap with
    |some k=>
     if len+n<=k then
      (if rw=true/\o+(len+n)*size<=c.length then some (.slice i o (len+n) cap sz,st.write i (.cells (aj c (o+len*size) xs) e rw)) else none)
     else match aK c o (len*size)with
      |some old=>some (.slice st.n 0 (len+n) none size,st.alloc (.cells (old++xs) elem true))
      |none=>none
    |none=>
     if rw=true then
      if o+(len+n)*size<=c.length then some (.slice i o (len+n) none sz,st.write i (.cells (aj c (o+len*size) xs) e rw))
      else if o+len*size=c.length/\e=elem/\o=0 then
       some (.slice st.n 0 (len+n) none size,(st.write i .dead).alloc (.cells (c.drop o++xs) elem true))
      else none
     else none
  |_=>none
def Tg:ke->V->V->Option Bool
 |.int k,.int a x,.int b y=>if a=k/\b=k then some (x==y) else none
 |.str,.str x,.str y=>some (x==y)
 |_,_,_=>none
def fw(kd:ke)(k:V):List (V×V)->Nat->Option (Option (Nat×V))
 |[],_=>some none
 |(a,v)::es,i=>
  match Tg kd k a with
  |some true=>some (some (i,v))
  |some false=>fw kd k es (i+1)
  |none=>none
def ke.fits:ke->V->Bool
 |.int k,.int k' _=>k=k'
 |.str,.str _=>true
 |_,_=>false
def vP:List V->Option V
 |[]=>none
 |[x]=>some x
 |.int k a::.int _ b::rest=>vP (.int k (if b<a then b else a)::rest)
 |_=>none
termination_by l=>l.length
def vQ:List V->Option V
 |[]=>none
 |[x]=>some x
 |.int k a::.int _ b::rest=>vQ (.int k (if a<b then b else a)::rest)
 |_=>none
termination_by l=>l.length
def xc:V->List V->Option V
 |x,[]=>some x
 |.int k a,.int _ b::rest=>xc (.int k (if b<a then b else a)) rest
 |_,_=>none
def yY:List V->Option V
 |[]=>none
 |x::xs=>xc x xs
def xV:V->List V->Option V
 |x,[]=>some x
 |.int k a,.int _ b::rest=>xV (.int k (if a<b then b else a)) rest
 |_,_=>none
def xP:List V->Option V
 |[]=>none
 |x::xs=>xV x xs
def Yea:∀(xs:List V) (x:V),xc x xs=vP (x::xs)
 |[],x=>by simp[xc,vP]
 |y::ys,x=>by
  cases x with
  |int k a=>
   cases y with
   |int k' b=>simp only[xc,vP];exact Yea ys _
   |_=>simp[xc,vP]
  |_=>simp[xc,vP]
def Ynf(l:List V):yY l=vP l:=by
 cases l with
 |nil=>simp[yY,vP]
 |cons x xs=>exact Yea xs x
def Yed:∀(xs:List V) (x:V),xV x xs=vQ (x::xs)
 |[],x=>by simp[xV,vQ]
 |y::ys,x=>by
  cases x with
  |int k a=>
   cases y with
   |int k' b=>simp only[xV,vQ];exact Yed ys _
   |_=>simp[xV,vQ]
  |_=>simp[xV,vQ]
def Yni(l:List V):xP l=vQ l:=by
 cases l with
 |nil=>simp[xP,vQ]
 |cons x xs=>exact Yed xs x
def II(c:UInt8):List UInt8->Nat->Int
 |[],_=> -1
 |b::rest,i=>if b==c then (i:Int) else II c rest (i+1)
def BZ:Ext->List V->Option V
 |.nd,[.int .u64 x,.int .u64 y,.int .u64 c]=>if ¬(c=0\/c=1) then none else
   some (.aX [.int .u64 (Int.ofNat ((x.toNat+y.toNat+c.toNat)%2^64)),.int .u64 (Int.ofNat ((x.toNat+y.toNat+c.toNat)/2^64))])
 |.nf,[.int .u64 x,.int .u64 y,.int .u64 b]=>if ¬(b=0\/b=1) then none else
   some (.aX [.int .u64 (Int.ofNat ((x.toNat+2^64-y.toNat-b.toNat)%2^64)),.int .u64 (if x.toNat<y.toNat+b.toNat then 1 else 0)])
 |.zif,[.str s,.int .u8 c]=>some (.int .i64 (II c.toNat.toUInt8 s 0))
 |.o_,[.jM .f64 b]=>some (.int .u64 (b:Int))
 |.pc,[.int .u64 n]=>some (.jM .f64 n.toNat)
 |_,_=>none
abbrev cP:=V->List V->St->Option (V×St)
def Th(op:BinOp)(t:rK)(st:St)(i j:Nat):Option (V×St):=
 match op,t,st.h.get i,st.h.get j with
 |.eql,.zgf .chan,some (.chan ..),some (.chan ..)=>some (.bool (i==j),st)
 |.neq,.zgf .chan,some (.chan ..),some (.chan ..)=>some (.bool (!(i==j)),st)
 |_,_,_,_=>none
abbrev dZ:=cP->T V->St->Option (V×St)
def IJ(x:Src):dZ:=fun _ r st=>match x.ev r with
  |some v=>some (v,st)
  |none=>none
def DJ(c:Src)(a:Src)(b:Src):dZ:=fun _ r st=>match c.ev r with
  |some (.bool true)=>match a.ev r with
   |some v=>some (v,st)
   |none=>none
  |some (.bool false)=>match b.ev r with
   |some v=>some (v,st)
   |none=>none
  |_=>none
def LG(zero:List V)(elem:TypeId):dZ:=fun _ _ st=>some (.ptr st.n 0,st.alloc (.cells zero elem true))
def IK(elem:TypeId)(x:Src):dZ:=fun _ r st=>match x.ev r with
  |some v=>if v.cells.all V.one then some (.ptr st.n 0,st.alloc (.cells v.cells elem true)) else none
  |none=>none
def B1(zero:List V)(parts:List (Nat×Nat×Src)):dZ:=fun _ r st=>match AT r parts with
  |some ps=>match AS zero ps with
   |some l=>some (.agg l,st)
   |none=>none
  |none=>none
def IL(elem:TypeId)(size:Nat)(len:Nat)(zero:List V)(parts:List (Nat×Nat×Src)):dZ:=fun _ r st=>match AT r parts with
  |some ps=>match AS zero ps with
   |some l=>if l.all V.one then some (.slice st.n 0 len (some len) size,st.alloc (.cells l elem true)) else none
   |none=>none
  |none=>none
def IM(n:Option Nat)(a:Src):dZ:=fun _ r st=>match a.ev r with
  |some (.ptr i o)=>match st.row i with
   |some (c,_,_)=>match aI c o n with
    |some v=>some (v,st)
    |none=>none
   |none=>none
  |_=>none
def DK(n:Nat)(a:Src)(x:Src):dZ:=fun _ r st=>match a.ev r,x.ev r with
  |some (.ptr i o),some v=>match st.row i with
   |some (c,e,true)=>if v.cells.length=n/\o+n<=c.length/\v.cells.all V.one=true then some (.aX [],st.write i (.cells (aj c o v.cells) e true)) else none
   |_=>none
  |_,_=>none
def IN(x:Src):dZ:=fun _ r st=>match x.ev r with
  |some (.ptr i o)=>some (.ptr i o,st)
  |some (.func f a l)=>some (.func f a l,st)
  |_=>none
def IP(op:BinOp)(t:rK)(ng:Bool)(x:Src)(y:Src):dZ:=fun _ r st=>match x.ev r,y.ev r with
  |some (.chan i),some (.chan j)=>Th op t st i j
  |some a,some b=>match Ytk op t ng a b with
   |some v=>some (v,st)
   |none=>none
  |_,_=>none
def IQ(op:UnOp)(x:Src):dZ:=fun _ r st=>match x.ev r with
  |some a=>match unV op a with
   |some v=>some (v,st)
   |none=>none
  |none=>none
def IS(k:IntKind)(x:Src):dZ:=fun _ r st=>match x.ev r with
  |some (.int _ n)=>some (.int k (bA k n),st)
  |_=>none
def Ze9(x:Src):dZ:=fun _ r st=>match x.ev r with
  |some (.str s)=>some (.str s,st)
  |_=>none
def DL(elem:TypeId)(x:Src):dZ:=fun _ r st=>match x.ev r with
  |some (.str s)=>some (.slice st.n 0 s.length none 1,st.alloc (.cells (s.map fun b=>.int .u8 b.toNat) elem true))
  |_=>none
def IT(x:Src):dZ:=fun _ r st=>match x.ev r with
  |some .ziA=>some (.str [],st)
  |some (.slice i o len _ 1)=>match st.row i with
   |some (c,_,_)=>match aK c o len with
    |some l=>match l.mapM (fun v=>match v with|.int .u8 n=>some (UInt8.ofNat n.toNat)|_=>none)with
     |some s=>some (.str s,st)
     |none=>none
    |none=>none
   |none=>none
  |_=>none
def LI(t:TypeId)(x:Src):dZ:=fun _ r st=>match x.ev r with
  |some v=>some (.iface t v,st)
  |none=>none
def IU(f:FuncId)(first:List Src)(f_:List Src):dZ:=fun _ r st=>match tB r first,tB r f_ with
  |some a,some l=>some (.func f a l,st)
  |_,_=>none
def LJ:dZ:=fun _ _ st=>some (.map st.n,st.alloc (.map []))
def DM(bytes:Nat)(n:Src):dZ:=fun _ r st=>match n.ev r with
  |some (.int _ k)=>if k<0\/k > IntKind.i64.max\/bytes*k > 2^48-112 then none else some (.chan st.n,st.alloc (.chan k.toNat []))
  |_=>none
def B2(elem:TypeId)(size:Nat)(bytes:Nat)(zero:List V)(len:Src)(cap:Src):dZ:=fun _ r st=>match len.ev r,cap.ev r with
  |some (.int _ l),some (.int _ c)=>
   if 0<=l/\l<=c/\bytes*c<=2^47/\c<2^62/\size=zero.length/\size≠0 then
    some (.slice st.n 0 l.toNat (some c.toNat) size,st.alloc (.cells (dr zero c.toNat) elem true)) else none
  |_,_=>none
def xW(x:Src)(lo:Option Src)(hi:Option Src):dZ:=fun _ r st=>match x.ev r,aH r lo,aH r hi with
  |some (.str s),some lo,some hi=>
   match dG hi s.length s.length with
   |some h=>match dG lo h 0 with
    |some l=>some (.str ((s.take h).drop l),st)
    |none=>none
   |none=>none
  |_,_,_=>none
def qH(size:Nat)(x:Src)(lo:Option Src)(hi:Option Src)(mx:Option Src):dZ:=fun _ r st=>match x.ev r,aH r lo,aH r hi,aH r mx with
  |some .ziA,some lo,some hi,some mx=>
   match dG mx 0 0 with
   |some _=>match dG hi 0 0 with
    |some _=>match dG lo 0 0 with
     |some _=>if mx.isSome&&hi.isNone then none else some (.ziA,st)
     |none=>none
    |none=>none
   |none=>none
  |some .empty,some lo,some hi,some none=>
   match dG hi 0 0 with
   |some _=>match dG lo 0 0 with
    |some _=>some (.empty,st)
    |none=>none
   |none=>none
  |some (.slice i o len (some c) sz),some lo,some hi,some mx=>
   if sz≠size\/(mx.isSome&&hi.isNone) then none else
   match dG mx c c with
   |some m=>match dG hi m len with
    |some h=>match dG lo h 0 with
     |some l=>some (.slice i (if m=l then o else o+l*size) (h-l) (some (m-l)) sz,st)
     |none=>none
    |none=>none
   |none=>none
  |some (.slice i o len none sz),some lo,some hi,some mx=>
   if sz≠size\/size=0\/(mx.isSome&&hi.isNone) then none else
   match st.row i with
   |some (c,_,_)=>
    let k:=max len ((c.length-o)/size)
    match mx with
    |some m=>match Zed m k with
     |some m=>match dG hi m len with
      |some h=>match dG lo h 0 with
       |some l=>some (.slice i (if m=l then o else o+l*size) (h-l) (some (m-l)) sz,st)
       |none=>none
      |none=>none
     |none=>none
    |none=>match dG hi k len with
     |some h=>match dG lo h 0 with
      |some l=>if l<k then some (.slice i (o+l*size) (h-l) none sz,st) else some (.empty,st)
      |none=>none
     |none=>none
   |none=>none
  |_,_,_,_=>none
def zk(n:Nat)(size:Nat)(x:Src)(lo:Option Src)(hi:Option Src)(mx:Option Src):dZ:=fun _ r st=>match x.ev r,aH r lo,aH r hi,aH r mx with
  |some (.ptr i o),some lo,some hi,some none=>
   match dG hi n n with
   |some h=>match dG lo h 0 with
    |some l=>match st.row i with
     |some (c,_,_)=>if o+n*size<=c.length/\mx.isNone then some (.slice i (if n=l then o else o+l*size) (h-l) (some (n-l)) size,st) else none
     |none=>none
    |none=>none
   |none=>none
  |_,_,_,_=>none
def IV(off:Nat)(x:Src):dZ:=fun _ r st=>match x.ev r with
  |some (.ptr i o)=>some (.ptr i (o+off),st)
  |_=>none
def IW(off:Nat)(n:Option Nat)(x:Src):dZ:=fun _ r st=>match x.ev r with
  |some (.agg cs)=>match aI cs off n with
   |some v=>some (v,st)
   |none=>none
  |_=>none
def B3(len:Nat)(size:Nat)(x:Src)(i:Src):dZ:=fun _ r st=>match x.ev r,i.ev r with
  |some (.ptr a o),some (.int _ k)=>if 0<=k/\k<(len:Int) then some (.ptr a (o+k.toNat*size),st) else none
  |_,_=>none
def DN(size:Nat)(x:Src)(i:Src):dZ:=fun _ r st=>match x.ev r,i.ev r with
  |some (.slice a o len _ _),some (.int _ k)=>if 0<=k/\k<(len:Int) then some (.ptr a (o+k.toNat*size),st) else none
  |_,_=>none
def LK(len:Nat)(size:Nat)(n:Option Nat)(x:Src)(i:Src):dZ:=fun _ r st=>match x.ev r,i.ev r with
  |some (.agg cs),some (.int _ k)=>if 0<=k/\k<(len:Int) then match aI cs (k.toNat*size) n with
    |some v=>some (v,st)
    |none=>none
   else none
  |_,_=>none
def DO(x:Src)(i:Src):dZ:=fun _ r st=>match x.ev r,i.ev r with
  |some (.str s),some (.int _ k)=>if 0<=k then match s[k.toNat]? with
    |some b=>some (.int .u8 b.toNat,st)
    |none=>none
   else none
  |_,_=>none
def IX(kd:ke)(zero:V)(m:Src)(k:Src)(ok:Bool):dZ:=fun _ r st=>match m.ev r,k.ev r with
  |some m,some k=>
   if kd.fits k then
    match (match m with
     |.bU=>some []
     |.map i=>match st.h.get i with
      |some (.map es)=>some es
      |_=>none
     |_=>none)with
    |some es=>match fw kd k es 0 with
     |some (some (_,v))=>some (if ok then .aX [v,.bool true] else v,st)
     |some none=>some (if ok then .aX [zero,.bool false] else zero,st)
     |none=>none
    |none=>none
   else none
  |_,_=>none
def DP(kd:ke)(m:Src)(k:Src)(v:Src):dZ:=fun _ r st=>match m.ev r,k.ev r,v.ev r with
  |some (.map i),some k,some v=>
   if kd.fits k then
    match st.h.get i with
    |some (.map es)=>match fw kd k es 0 with
     |some (some (j,_))=>some (.aX [],st.write i (.map (es.set j (k,v))))
     |some none=>some (.aX [],st.write i (.map (es++[(k,v)])))
     |none=>none
    |_=>none
   else none
  |_,_,_=>none
def Zr9(kd:ke)(zero:V)(m:Src)(k:Src):dZ:=fun _ r st=>match m.ev r,k.ev r with
  |some (.map i),some k=>
   if kd.fits k then
    match st.h.get i with
    |some (.map es)=>match fw kd k es 0 with
     |some (some (j,v))=>some (.aX [v,.int .i64 j],st.write i (.map (es.set j (k,v))))
     |some none=>some (.aX [zero,.int .i64 es.length],st.write i (.map (es++[(k,zero)])))
     |none=>none
    |_=>none
   else none
  |_,_=>none
def Znv(m:Src)(s:Src)(v:Src):dZ:=fun _ r st=>match m.ev r,s.ev r,v.ev r with
  |some (.map i),some (.int _ j),some v=>
   match st.h.get i with
   |some (.map es)=>if 0<=j then match es[j.toNat]? with
     |some (k,_)=>some (.aX [],st.write i (.map (es.set j.toNat (k,v))))
     |none=>none
    else none
   |_=>none
  |_,_,_=>none
def IY(x:Src):dZ:=fun _ r st=>match x.ev r with
  |some (.str s)=>some (.ptr st.n 0,st.alloc (.eK s 0))
  |_=>none
def IZ(it:Src):dZ:=fun _ r st=>match it.ev r with
  |some (.ptr i 0)=>match st.h.get i with
   |some (.eK s pos)=>
    if pos<s.length then
     let cw:=Utf8.decode ⟨s.toArray⟩ pos
     some (.aX [.bool true,.int .i64 pos,.int .i32 cw.1],st.write i (.eK s (pos+cw.2)))
    else some (.aX [.bool false],st)
   |_=>none
  |_=>none
def I1(x:Src)(i:Nat):dZ:=fun _ r st=>match x.ev r with
  |some (.aX vs)=>match vs[i]? with
   |some v=>some (v,st)
   |none=>none
  |_=>none
def xd(k:Nat)(x:Src):dZ:=fun _ r st=>match k,x.ev r with
  |0,some (.str s)=>some (.int .i64 s.length,st)
  |1,some .ziA=>some (.int .i64 0,st)
  |1,some .empty=>some (.int .i64 0,st)
  |1,some (.slice _ _ n _ _)=>some (.int .i64 n,st)
  |2,some .bU=>some (.int .i64 0,st)
  |2,some (.map i)=>match st.h.get i with
   |some (.map es)=>some (.int .i64 es.length,st)
   |_=>none
  |_,_=>none
def Oa(n:Nat):dZ:=fun _ _ st=>some (.int .i64 n,st)
def LL(x:Src):dZ:=fun _ r st=>match x.ev r with
  |some .ziA=>some (.int .i64 0,st)
  |some (.slice _ _ _ (some c) _)=>some (.int .i64 c,st)
  |_=>none
def wU(args:List Src):dZ:=fun _ r st=>match tB r args with
  |some l=>match yY l with
   |some v=>some (v,st)
   |none=>none
  |none=>none
def o9(args:List Src):dZ:=fun _ r st=>match tB r args with
  |some l=>match xP l with
   |some v=>some (v,st)
   |none=>none
  |none=>none
def B4(size:Nat)(bytes:Nat)(elem:TypeId)(_:List V)(s:Src)(x:Src):dZ:=fun _ r st=>match s.ev r,x.ev r with
  |some s,some x=>tf st size bytes elem s x
  |_,_=>none
def DQ(size:Nat)(d:Src)(s:Src):dZ:=fun _ r st=>match d.ev r,s.ev r with
  |some d,some s=>match oL st size s with
   |some (n,xs)=>match d with
    |.ziA=>some (.int .i64 0,st)
    |.slice i o len _ sz=>
     if sz≠size\/size=0 then none else
     let k:=min n len
     if k=0 then some (.int .i64 0,st) else
     match st.row i with
     |some (c,e,true)=>if o+k*size<=c.length then some (.int .i64 k,st.write i (.cells (aj c o (xs.take (k*size))) e true)) else none
     |_=>none
    |_=>none
   |none=>none
  |_,_=>none
def LM(size:Nat)(zero:List V)(s:Src):dZ:=fun _ r st=>match s.ev r with
  |some .ziA=>some (.aX [],st)
  |some .empty=>some (.aX [],st)
  |some (.slice i o len _ sz)=>
   if len=0 then some (.aX [],st) else
   if sz≠size\/size=0\/zero.length≠size then none else
   match st.row i with
   |some (c,e,true)=>if o+len*size<=c.length then some (.aX [],st.write i (.cells (aj c o (dr zero len)) e true)) else none
   |_=>none
  |_=>none
def xX(f:Src)(args:List Src):dZ:=fun call r st=>match f.ev r,tB r args with
  |some f,some l=>call f l st
  |_,_=>none
def I3(e:Ext)(args:List Src):dZ:=fun _ r st=>match e,tB r args with
  |.same,some [v]=>some (v,st)
  |e,some l=>match BZ e l with
   |some v=>some (v,st)
   |none=>none
  |_,none=>none
def DR(e:Option (TypeId×Nat))(x:Src):dZ:=fun _ r st=>match x.ev r with
  |some (.ptr i 0)=>match st.row i with
   |some (c,e',true)=>match e with
    |none=>if 0<c.length then some (.ptr i 0,st) else none
    |some (u,z)=>if e'=u/\0<z/\z<=c.length then some (.ptr i 0,st) else none
   |_=>none
  |_=>none
def LN(x:Src):dZ:=fun _ r st=>match x.ev r with
  |some (.slice i o len _ _)=>if 0<len then some (.ptr i o,st) else none
  |_=>none
def Ti:V->Option UInt8
 |.int .u8 n=>if 0<=n/\n<256 then some n.toNat.toUInt8 else none
 |_=>none
def I4:List V->Option (List UInt8)
 |[]=>some []
 |v::l=>match Ti v,I4 l with
  |some b,some s=>some (b::s)
  |_,_=>none
def LP(e:TypeId)(x n:Src):dZ:=fun _ r st=>match x.ev r,n.ev r with
  |some (.ptr i 0),some (.int .i64 k)=>if 0<k/\k<=9223372036854775807 then
    match st.row i with
    |some (c,e',true)=>if e'=e then
      match aK c 0 k.toNat with
      |some seg=>match I4 seg with
       |some s=>some (.str s,st.write i (.cells c e' false))
       |none=>none
      |none=>none
     else none
    |_=>none
   else none
  |_,_=>none
def Ye9(op:BinOp)(k:FloatKind)(a b:Nat):Option V:=
 match op with
 |.add=>(k.format.add a b).map (V.jM k)
 |.sub=>(k.format.sub a b).map (V.jM k)
 |.mul=>(k.format.mul a b).map (V.jM k)
 |.quo=>(k.format.div a b).map (V.jM k)
 |.eql=>some (.bool (k.format.order a b==some .eq))
 |.neq=>some (.bool (k.format.order a b !=some .eq))
 |.lss=>some (.bool (k.format.order a b==some .lt))
 |.leq=>some (.bool (k.format.order a b==some .lt||k.format.order a b==some .eq))
 |.gtr=>some (.bool (k.format.order a b==some .gt))
 |.geq=>some (.bool (k.format.order a b==some .gt||k.format.order a b==some .eq))
 |_=>none
def Ob(op:BinOp)(x:Src)(y:Src):dZ:=fun _ r st=>match x.ev r,y.ev r with
  |some (.jM k a),some (.jM k' b)=>if k=k' then match Ye9 op k a b with
   |some v=>some (v,st)
   |none=>none
   else none
  |_,_=>none
def Oc(k:IntKind)(x:Src):dZ:=fun _ r st=>match x.ev r with
  |some (.jM s b)=>match (s.decode b).toInt .zero with
   |some n=>if k.min<=n/\n<=k.max then some (.int k n,st) else none
   |none=>none
  |_=>none
def I5(im:Bool)(x:Src):dZ:=fun _ r st=>match x.ev r with
  |some (.rp k a b)=>some (.jM k (if im then b else a),st)
  |_=>none
def Zur:dZ:=fun _ _ _=>none
def cJ(op:fZ):dZ:=fZ.casesOn op IJ DJ LG IK B1 IL IM DK IN IP IQ IS Ze9 DL IT LI IU LJ DM B2 xW qH zk IV IW B3 DN LK DO IX DP Zr9 Znv IY IZ I1 xd Oa LL wU o9 B4 DQ LM xX I3 DR LN LP Ob Oc I5 Zur
def Fr.put(fr:Fr)(d:Option Nat)(v:V):Option Fr:=
 match d with
 |some d=>if d<fr.n then some {fr with r:=fr.r.set d v} else none
 |none=>some fr
def bX(r:T V):Option (Nat×Bool)->Option Bool
 |none=>some true
 |some (t,want)=>match r.get t with
  |some (.bool b)=>some (b==want)
  |some (.aX _)=>some false
  |_=>none
def AV(call:cP)(o:du)(next:Fr->St->Option (Fr×St))(fr:Fr)(st:St):Option (Fr×St):=
 match bX fr.r o.guard with
 |some true=>match cJ o.op call fr.r st with
  |some (v,st')=>match fr.put o.dst v with
   |some bL=>next bL st'
   |none=>none
  |none=>none
 |some false=>match fr.put o.dst (.aX [])with
  |some bL=>next bL st
  |none=>none
 |none=>none
def Ykv(fr:Fr)(st:St):Option (Fr×St):=some (fr,st)
def dH(call:cP):List du->Fr->St->Option (Fr×St)
 |[]=>Ykv
 |o::rest=>AV call o (dH call rest)
structure FP where
 rd:Option (List Nat)
 wr:List Nat
 lo:Nat
 hi:Nat
def fZ.nt:fZ->Bool
 |.kv _|.pick ..|.alloc ..|.box ..|.build ..|.kb ..|.nj _|.un ..|.zig ..|.lX _|.ji ..|.fm ..|.np ..|.vK|.qf ..
 |.jj ..|.cI ..|.ky ..|.field ..|.dB ..|.ft ..|.zgE ..|.bP ..|.jl _|.extract ..|.nh _|.cap _|.mn _|.mx _|.ext ..|.It ..|.Iu ..|.part ..=>true
 |.bin .add ..|.bin .sub ..|.bin .mul ..|.bin .quo ..|.bin .rem ..|.bin .lss ..|.bin .leq ..|.bin .gtr ..|.bin .geq ..|.bin .shl ..|.bin .shr ..|.bin .and ..|.bin .or ..|.bin .xor ..|.bin .andNot ..=>true
 |_=>false
def Tj(r:T V):fZ->Option Nat
 |.load _ a=>match a.ev r with
  |some (.ptr i _)=>some i
  |_=>none
 |.store _ a _=>match a.ev r with
  |some (.ptr i _)=>some i
  |_=>none
 |_=>none
def Zcy(r:T V)(op:fZ)(ws:List Nat)(lo hi:Nat):FP:=
 if op.nt then ⟨some [],[],lo,hi⟩ else
 match Tj r op with
 |some i=>if Nat.blt i lo then ⟨some [i],ws,lo,hi⟩ else ⟨none,ws,lo,hi⟩
 |none=>⟨none,ws,lo,hi⟩
def xe(i:Nat)(l:List Nat):List Nat:=if l.contains i then l else i::l
def aL(n:Nat):List Nat->List Nat
 |[]=>[]
 |i::l=>if i<n then xe i (aL n l) else aL n l
def AW(call:cP)(o:du)(next:Fr->St->Option (List FP×Fr×St))(fr:Fr)(st:St):Option (List FP×Fr×St):=
 match bX fr.r o.guard with
 |some true=>match cJ o.op call fr.r {st with w:=[]} with
  |some (v,st')=>match fr.put o.dst v with
   |some bL=>match next bL {st' with w:=aL st.n st'.w++st.w} with
    |some (gI,fr'',st'')=>some (Zcy fr.r o.op (aL st.n st'.w) st.n st'.n::gI,fr'',st'')
    |none=>none
   |none=>none
  |none=>none
 |some false=>match fr.put o.dst (.aX [])with
  |some bL=>match next bL st with
   |some (gI,fr'',st'')=>some (⟨some [],[],st.n,st.n⟩::gI,fr'',st'')
   |none=>none
  |none=>none
 |none=>none
def Yc7(fr:Fr)(st:St):Option (List FP×Fr×St):=some ([],fr,st)
def bR(call:cP):List du->Fr->St->Option (List FP×Fr×St)
 |[]=>Yc7
 |o::rest=>AW call o (bR call rest)
def I6(a:List Nat):Option (List Nat)->Bool
 |none=>!a.isEmpty
 |some b=>a.any fun i=>b.contains i
def FP.free(a b:FP):Bool:=!(I6 a.wr b.rd||I6 a.wr (some b.wr)||I6 b.wr a.rd||b.wr.any fun i=>Nat.ble a.lo i&&Nat.blt i a.hi)
def b_{α:Type}(p:α->α->Bool)(xs:List α)(zil:List Nat):Bool:=
 go xs zil 0 []
where
 go:List α->List Nat->Nat->List α->Bool
  |[],_,_,_=>true
  |f::fs,ms,j,seen=>
   (chk f (ms.headD 0) (j-1) seen)&&go fs ms.tail (j+1) (f::seen)
 chk (f:α) (m:Nat):Nat->List α->Bool
  |_,[]=>true
  |i,g::gs=>(m.testBit i||p g f)&&chk f m (i-1) gs
def gY(gI:List FP)(zil:List Nat):Bool:=b_ FP.free gI zil
def Src.tmps:Src->List Nat
 |.tmp t=>[t]
 |.const _=>[]
def AX:Option Src->List Src
 |none=>[]
 |some s=>[s]
def fZ.B5:fZ->List Src
 |.kv x=>[x]
 |.pick c a b=>[c,a,b]
 |.alloc ..=>[]
 |.box _ x=>[x]
 |.build _ ps=>ps.map (·.2.2)
 |.kb _ _ _ _ ps=>ps.map (·.2.2)
 |.load _ a=>[a]
 |.store _ a x=>[a,x]
 |.nj x=>[x]
 |.bin _ _ _ x y=>[x,y]
 |.un _ x=>[x]
 |.zig _ x=>[x]
 |.lX x=>[x]
 |.ji _ x=>[x]
 |.nk x=>[x]
 |.fm _ x=>[x]
 |.np _ a c=>a++c
 |.vK=>[]
 |.qf _ n=>[n]
 |.jj _ _ _ _ l c=>[l,c]
 |.cI x lo hi=>x::(AX lo++AX hi)
 |.lY _ x lo hi m=>x::(AX lo++AX hi++AX m)
 |.zgp _ _ x lo hi m=>x::(AX lo++AX hi++AX m)
 |.ky _ x=>[x]
 |.field _ _ x=>[x]
 |.dB _ _ x i=>[x,i]
 |.ft _ x i=>[x,i]
 |.zgE _ _ _ x i=>[x,i]
 |.bP x i=>[x,i]
 |.lookup _ _ m k _=>[m,k]
 |.uk _ m k v=>[m,k,v]
 |.IG _ _ m k=>[m,k]
 |.IH m s v=>[m,s,v]
 |.jl x=>[x]
 |.qj x=>[x]
 |.extract x _=>[x]
 |.len _ x=>[x]
 |.nh _=>[]
 |.cap x=>[x]
 |.mn l=>l
 |.mx l=>l
 |.append _ _ _ _ s x=>[s,x]
 |.copy _ d s=>[d,s]
 |.clear _ _ s=>[s]
 |.call f l=>f::l
 |.ext _ l=>l
 |.Lu _ x=>[x]
 |.y_ x=>[x]
 |.Is _ x n=>[x,n]
 |.It _ x y=>[x,y]
 |.Iu _ x=>[x]
 |.part _ x=>[x]
 |.stop=>[]
def du.reads(o:du):List Nat:=
 (match o.guard with|some (t,_)=>[t]|none=>[])++o.op.B5.flatMap Src.tmps
def Od(d:Option Nat)(l:List Nat):Bool:=
 match d with
 |some t=>l.contains t
 |none=>false
def S8(a b:du):Bool:=!(Od a.dst b.reads||Od b.dst a.reads||Od a.dst b.dst.toList)
def Tk(st:St)(i:Nat)(send:Option V)(zero:V):Option (V×St):=
 match st.h.get i,send with
 |some (.chan cap buf),some v=>if buf.length<cap then some (.aX [.int .i64 0,.bool false],st.write i (.chan cap (buf++[v]))) else some (.aX [.int .i64 (-1),.bool false],st)
 |some (.chan cap (v::buf)),none=>some (.aX [.int .i64 0,.bool true,v],st.write i (.chan cap buf))
 |some (.chan _ []),none=>some (.aX [.int .i64 (-1),.bool false,zero],st)
 |_,_=>none
abbrev ph:=Option Nat->cC->Fr->St->Option (Ex×Fr×St)
abbrev Zlg:=cP->ph->Option Nat->Fr->St->Option (Ex×Fr×St)
def Yf8:Zlg:=fun _ _ _ fr st=>some (.normal,fr,st)
def Zok(ops:List du):Zlg:=fun call _ _ fr st=>match dH call ops fr st with
 |some (bL,st')=>some (.normal,bL,st')
 |none=>none
def zn(ops:List du)(zil:List Nat):Zlg:=fun call _ _ fr st=>match bR call ops fr st with
 |some (gI,bL,st')=>match gY gI zil with
  |true=>some (.normal,bL,st')
  |false=>none
 |none=>none
def zo(dst:Option Nat)(ch:Src)(send:Option Src)(zero:V)(ops:List du):Zlg:=fun call _ _ fr st=>
 match ch.ev fr.r,aH fr.r send with
 |some (.chan i),some sv=>match Tk st i sv zero with
  |some (v,cj)=>match fr.put dst v with
   |some dP=>match dH call ops dP cj with
    |some (bL,st')=>some (.normal,bL,st')
    |none=>none
   |none=>none
  |none=>none
 |_,_=>none
def AY(a b:cC):Zlg:=fun _ rec ro fr st=>match rec ro a fr st with
 |some (.normal,bL,st')=>rec ro b bL st'
 |x=>x
def xf(x:Src)(a b:cC):Zlg:=fun _ rec ro fr st=>match x.ev fr.r with
 |some (.bool true)=>rec ro a fr st
 |some (.bool false)=>rec ro b fr st
 |_=>none
def AZ(id:Nat)(c:cC):Zlg:=fun _ rec ro fr st=>match rec ro c fr st with
 |some (.exit id',bL,st')=>match Nat.beq id' id with
  |true=>some (.normal,bL,st')
  |false=>some (.exit id',bL,st')
 |x=>x
def Zi3(c:cC):Zlg:=fun _ rec ro fr st=>match rec ro c fr st with
 |some (.normal,bL,st')=>rec ro (.loop c) bL st'
 |x=>x
def Zuk(st:St):Option Nat->Option (St×Nat×List Nat)
 |none=>some (st.alloc (.defs true),st.n,[st.n])
 |some l=>match st.h.get l with
  |some (.loop R)=>some (st,R.defs,[])
  |_=>none
def V.LQ:V->Bool
 |.yield _=>true
 |_=>false
def B6(g:Src)(ps:List Nat)(assign body:cC):Zlg:=fun call _ ro fr st=>
 match g.ev fr.r with
 |none=>none
 |some gv=>
  if gv.LQ then none else
  match Zuk st ro with
  |none=>none
  |some (cj,d,mk)=>
   match call gv [.yield cj.n] (cj.alloc (.loop {st:=.ready,iD:=none,r:=fr.r,n:=fr.n,ps:=ps,assign:=assign,body:=body,defs:=d}))with
   |none=>none
   |some (_,fh)=>
    match fh.h.get cj.n with
    |some (.loop R)=>
     if R.st=.busy then none else
     some (match R.iD with|none=>.normal|some e=>e,{fr with marks:=mk++fr.marks},fh.write cj.n (.loop {R with st:=.exhausted}))
    |_=>none
def Yli(id:Nat):Zlg:=fun _ _ _ fr st=>some (.exit id,fr,st)
def Yf9(c:cC):Zlg:=fun _ rec ro fr st=>rec ro c fr st
def Yri:Zlg:=fun _ _ _ fr st=>some (.ret,fr,st)
def LR:Zlg:=fun _ _ _ _ _=>none
def lZ(c:cC):Zlg:=cC.casesOn c Yf8 Zok zn zo AY xf AZ Zi3 B6 Yli Yf9 Yri LR
def Tl:ph:=fun _ _ _ _=>none
def dS(call:cP):Nat->ph
 |0=>Tl
 |f+1=>fun ro c=>lZ c call (dS call f) ro
def xY(r:T V)(i:Nat):List V->T V
 |[]=>r
 |v::vs=>xY (r.set i v) (i+1) vs
def I7(r:T V)(n:Nat):List Nat->List V->Option (T V)
 |[],[]=>some r
 |p::ps,v::vs=>if p<n then I7 (r.set p v) n ps vs else none
 |_,_=>none
def gJ(r:T V)(st:St):List Iw->Option (List V)
 |[]=>some []
 |.tmp t::rest=>match r.get t,gJ r st rest with
  |some v,some vs=>some (v::vs)
  |_,_=>none
 |.cell t n::rest=>match r.get t,gJ r st rest with
  |some (.ptr i o),some vs=>match st.row i with
   |some (c,_,_)=>match aI c o n with
    |some v=>some (v::vs)
    |none=>none
   |none=>none
  |_,_=>none
def shut(st:St):List Nat->Option St
 |[]=>some st
 |d::ds=>match st.h.get d with
  |some (.defs true)=>shut (st.write d (.defs false)) ds
  |_=>none
def Oe:Option Ex->LoopState
 |none=>.ready
 |some _=>.done
def Zev:Ex->Option Ex
 |.normal=>none
 |e=>some e
def DS:List V->V
 |[v]=>v
 |vs=>.aX vs
def Zvn(mf:kp)(st:St):Option (Ex×Fr×St)->Option (V×St)
 |some (.exit _,_,_)=>none
 |some (_,fr,cj)=>match shut cj fr.marks with
  |none=>none
  |some fh=>match gJ fr.r fh mf.results with
   |some vs=>some (DS vs,{fh with w:=aL st.n fh.w++st.w})
   |none=>none
 |none=>none
def B7(mf:kp)(code:ph)(args:List V)(st:St):Option (V×St):=
 if mf.ntmps<args.length then none else
 Zvn mf st (code none mf.body {r:=xY .nil 0 args,n:=mf.ntmps,marks:=[]} {st with w:=[]})
def I8(code:ph)(l:Nat)(args:List V)(st:St):Option (V×St):=
 match st.h.get l with
 |some (.loop R)=>match I7 R.r R.n R.ps args with
  |none=>none
  |some r0=>match code (some l) R.assign {r:=r0,n:=R.n,marks:=[]} st with
   |some (.normal,dP,cj)=>match cj.h.get l with
    |some (.loop R1)=>
     if R1.st=.ready then
      match code (some l) R.body dP (cj.write l (.loop {R1 with st:=.busy}))with
      |some (e,_,fh)=>match fh.h.get l with
       |some (.loop R2)=>some (.bool (Zev e).isNone,fh.write l (.loop {R2 with st:=Oe (Zev e),iD:=Zev e}))
       |_=>none
      |none=>none
     else none
    |_=>none
   |_=>none
 |_=>none
def xg(dL:Nat->Option kp)(code:ph):cP
 |.func f first f_,args,st=>match dL f with
  |some mf=>B7 mf code (first++args++f_) st
  |none=>none
 |.yield l,args,st=>I8 code l args st
 |_,_,_=>none
def Zrd:cP:=fun _ _ _=>none
end Go.Mx
