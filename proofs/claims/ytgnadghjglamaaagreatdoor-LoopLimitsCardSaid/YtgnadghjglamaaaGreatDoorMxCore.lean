/-The abstract machine M-/
import Derived.RangeFuncLeaves
import Derived.OrdersIn
import Derived.RangeFuncRecord
set_option linter.all false
namespace Go.Mx
abbrev ig:=@Option.map_eq_some_iff
abbrev eZ:=@List.mem_of_getElem?
abbrev iP:=@List.take_of_length_le
abbrev gV:=@Bool.false_eq_true
abbrev ix:=@List.getElem?_drop
abbrev h_:=@Nat.lt_of_lt_of_le
abbrev mb:=@List.getElem?_eq_none
abbrev kJ:=@List.eq_nil_of_length_eq_zero
abbrev jb:=@List.length_append
abbrev je:=@Nat.mul_le_mul_left
abbrev ak:=@List.length_cons
abbrev au:=@Option.some.injEq
abbrev aA:=@if_neg
abbrev aZ:=@Nat.le_refl
abbrev bj:=@Prod.mk.injEq
abbrev aQ:=@if_pos
abbrev eA:=@List.getElem?_eq_getElem
abbrev eR:=@List.getElem?_set_ne
abbrev eG:=@Int.natAbs_natCast
abbrev rY:=@Option.some.inj
abbrev lF:=@List.map_cons
abbrev kW:=@Nat.mod_lt
abbrev A2:=@Int.tdiv_eq_ediv_of_nonneg
abbrev tO:=@Nat.lt_succ_self
abbrev sN:=@List.all_eq_true
abbrev tV:=@Nat.lt_of_not_le
abbrev sR:=@Nat.two_pow_pos
abbrev nL:=@Nat.mul_add
abbrev A3:=@List.getElem?_eq_some_iff
abbrev qR:=@Int.mul_le_mul_of_nonneg_left
abbrev ky:=@Nat.mul_le_mul_right
abbrev rR:=@List.getElem?_append_left
abbrev ji:=@Bool.and_eq_true
abbrev gC:=@List.cons.injEq
abbrev sI:=@List.getElem?_set_self
abbrev fO:=@Nat.pow_succ
abbrev lX:=@List.getElem?_take
abbrev lW:=@List.length_take
abbrev mD:=@List.mem_cons_of_mem
abbrev gk:=@Nat.mul_comm
abbrev lG:=@Nat.lt_of_le_of_lt
abbrev pK:=@Nat.div_lt_iff_lt_mul
abbrev xg:=@List.getElem?_append_right
abbrev mL:=@List.getElem?_map
abbrev jf:=@Nat.mul_le_mul
abbrev l7:=@List.mem_append
abbrev iF:=@Nat.pow_add
abbrev ku:=@List.mem_cons
abbrev oM:=@List.mem_cons_self
abbrev pc:=@Nat.pow_le_pow_right
abbrev jg:=@Nat.add_mul
abbrev qG:=@List.ext_getElem?
abbrev uY:=@Nat.le_of_ble_eq_true
abbrev sQ:=@List.append_assoc
abbrev pA:=@Nat.min_eq_left
abbrev zu:=@Nat.div_eq_of_lt
abbrev vR:=@List.drop_length
abbrev IT:=@List.drop_eq_getElem_cons
abbrev uA:=@Nat.mul_assoc
abbrev Lv:=@Option.ite_none_left_eq_some
abbrev vW:=@Nat.zero_add
abbrev DF:=@Int.mul_ediv_add_emod
abbrev AJ:=@Rat.num_divInt_den
abbrev A4:=@List.length_drop
abbrev BF:=@List.take_length
abbrev qS:=@Nat.add_assoc
abbrev zv:=@List.drop_eq_nil_of_le
abbrev tW:=@Nat.div_add_mod
abbrev DG:=@Int.mul_le_mul_of_nonneg_right
abbrev xZ:=@List.mem_singleton
abbrev zw:=@Array.getElem?_toList
abbrev zy:=@List.length_singleton
abbrev A5:=@List.getElem?_cons_zero
abbrev uZ:=@Nat.div_le_self
abbrev A6:=@List.take_append_drop
abbrev uI:=@Int.natAbs_mul
abbrev xA:=@Nat.mod_eq_of_lt
abbrev DH:=@Int.tmod_eq_emod_of_nonneg
abbrev Dh:=@List.mem_or_eq_of_mem_set
abbrev wC:=@Int.mul_nonneg
abbrev sF:=@Nat.le_trans
abbrev AG:=@List.mem_map
abbrev yl:=@Nat.le_of_not_lt
abbrev tX:=@Int.le_of_lt
abbrev ID:=@Array.getD_eq_getD_getElem?
abbrev LD:=@Array.getElem?_setIfInBounds_ne
abbrev DI:=@List.getElem?_cons_succ
abbrev DJ:=@Int.eq_ofNat_of_zero_le
abbrev B0:=@List.mem_of_mem_take
abbrev tF:=@Nat.add_zero
abbrev AD:=@List.append_nil
abbrev DK:=@Int.emod_nonneg
abbrev IU:=@Bool.not_eq_true'
abbrev zz:=@Array.ext'
abbrev LG:=@Nat.eq_zero_or_pos
abbrev LH:=@List.mem_replicate
abbrev IV:=@Bool.or_eq_true
abbrev Of:=@Nat.mul_mod_mul_right
abbrev Dm:=@List.length_set
abbrev Og:=@Int.ofNat_eq_natCast
abbrev uH:=@List.map_nil
abbrev tE:=@Nat.mul_one
abbrev tH:=@Nat.mul_pos
abbrev IW:=@Nat.div_div_eq_div_mul
abbrev B1:=@Nat.lt_of_succ_le
abbrev Dq:=@Nat.pow_le_pow_left
abbrev B2:=@List.map_toArray
abbrev B3:=@Nat.le_max_right
abbrev zf:=@List.cons_append
abbrev DL:=@Int.emod_lt_of_pos
abbrev B4:=@Nat.mul_lt_mul''
abbrev xW:=@Nat.zero_le
abbrev AA:=@List.drop_zero
abbrev A7:=@Int.natAbs_neg
abbrev HY:=@List.take_add_one
abbrev B5:=@Option.map_some
abbrev B6:=@Nat.le_max_left
abbrev B7:=@Nat.div_lt_self
abbrev Oh:=@Nat.mul_lt_mul_of_pos_right
abbrev Ar:=@Nat.le_succ
abbrev vU:=@Nat.pow_pos
abbrev xC:=@Nat.not_lt
abbrev DM:=@Int.le_of_not_gt
abbrev LI:=@Nat.le_div_iff_mul_le
abbrev Yva:=@Array.all_eq_true_iff_forall_mem
abbrev LJ:=@Int.lt_of_not_ge
abbrev AH:=@Nat.pow_zero
abbrev SJ:=@Nat.gcd_pos_of_pos_right
abbrev Oi:=@List.getElem?_range
abbrev LK:=@Int.natCast_mul
abbrev LL:=@Int.mul_ne_zero
abbrev SD:=@Nat.eq_of_beq_eq_true
abbrev SF:=@List.contains_iff_mem
abbrev SK:=@Nat.ble_eq_true_of_le
abbrev SL:=@List.singleton_append
abbrev Yvl:=@List.dropLast_concat_getLast
abbrev SM:=@Nat.mul_div_mul_right
abbrev Yxu:=@List.length_map
abbrev Yxv:=@Option.getD_some
abbrev Sa:=@List.mem_range
abbrev Uh:=@List.getElem?_of_mem
abbrev Yzl:=@List.map_congr_left
inductive T (α:Type) where
 |nil
 |node (l:T α) (v:Option α) (r:T α)
def T.get{α:Type}:T α->Nat->Option α
 |.nil,_=>none
 |.node l v r,n=>
  match n with
  |0=>v
  |k+1=>match k%2 with
   |0=>l.get (k/2)
   |_=>r.get (k/2)
def T.fC{α:Type}:Nat->T α->Nat->α->T α
 |0,t,_,_=>t
 |f+1,.nil,n,a=>
  match n with
  |0=>.node .nil (some a) .nil
  |k+1=>match k%2 with
   |0=>.node (T.fC f .nil (k/2) a) none .nil
   |_=>.node .nil none (T.fC f .nil (k/2) a)
 |f+1,.node l v r,n,a=>
  match n with
  |0=>.node l (some a) r
  |k+1=>match k%2 with
   |0=>.node (T.fC f l (k/2) a) v r
   |_=>.node l v (T.fC f r (k/2) a)
def T.set{α:Type}(t:T α)(n:Nat)(a:α):T α:=T.fC (n+1) t n a
def T.zA{α:Type}(a:α):∀(f:Nat) (t:T α) (n m:Nat),n<f->(T.fC f t n a).get m=if m=n then some a else t.get m:=by
 intro f
 induction f with
 |zero=>intro t n m h;omega
 |succ f ih=>
  intro t n m h
  cases t with
  |nil=>
   cases n with
   |zero=>
    cases m with
    |zero=>simp[T.fC,T.get]
    |succ j=>simp only[T.fC,T.get];split<;>simp
   |succ k=>
    have hk:k/2<f:=by omega
    have h2:k%2=0\/k%2=1:=by omega
    rcases h2 with h2|h2
    ·cases m with
     |zero=>simp[T.fC,T.get,h2]
     |succ j=>
      have hj:j%2=0\/j%2=1:=by omega
      rcases hj with hj|hj
      ·simp only[T.fC,T.get,h2,hj,ih _ _ _ hk]
       by_cases e:j/2=k/2
       ·have:j=k:=by omega
        simp[this]
       ·have:¬j=k:=by intro e2;exact e (by rw[e2])
        simp[e,this]
      ·have:¬j=k:=by omega
       simp[T.fC,T.get,h2,hj,this]
    ·cases m with
     |zero=>simp[T.fC,T.get,h2]
     |succ j=>
      have hj:j%2=0\/j%2=1:=by omega
      rcases hj with hj|hj
      ·have:¬j=k:=by omega
       simp[T.fC,T.get,h2,hj,this]
      ·simp only[T.fC,T.get,h2,hj,ih _ _ _ hk]
       by_cases e:j/2=k/2
       ·have:j=k:=by omega
        simp[this]
       ·have:¬j=k:=by intro e2;exact e (by rw[e2])
        simp[e,this]
  |node l v r=>
   cases n with
   |zero=>cases m<;>simp[T.fC,T.get]
   |succ k=>
    have hk:k/2<f:=by omega
    have h2:k%2=0\/k%2=1:=by omega
    rcases h2 with h2|h2
    ·cases m with
     |zero=>simp[T.fC,T.get,h2]
     |succ j=>
      have hj:j%2=0\/j%2=1:=by omega
      rcases hj with hj|hj
      ·simp only[T.fC,T.get,h2,hj,ih _ _ _ hk]
       by_cases e:j/2=k/2
       ·have:j=k:=by omega
        simp[this]
       ·have:¬j=k:=by intro e2;exact e (by rw[e2])
        simp[e,this]
      ·have:¬j=k:=by omega
       simp[T.fC,T.get,h2,hj,this]
    ·cases m with
     |zero=>simp[T.fC,T.get,h2]
     |succ j=>
      have hj:j%2=0\/j%2=1:=by omega
      rcases hj with hj|hj
      ·have:¬j=k:=by omega
       simp[T.fC,T.get,h2,hj,this]
      ·simp only[T.fC,T.get,h2,hj,ih _ _ _ hk]
       by_cases e:j/2=k/2
       ·have:j=k:=by omega
        simp[this]
       ·have:¬j=k:=by intro e2;exact e (by rw[e2])
        simp[e,this]
def T.aj{α:Type}(t:T α)(n m:Nat)(a:α):(t.set n a).get m=if m=n then some a else t.get m:=
 T.zA a (n+1) t n m (tO n)
inductive V where
 |bool (b:Bool)
 |int (k:IntKind) (n:Int)
 |kg (k:FloatKind) (bits:Nat)
 |rO (k:FloatKind) (re im:Nat)
 |str (s:List UInt8)
 |zgi
 |ptr (i o:Nat)
 |aa
 |slice (i o len:Nat) (cap:Option Nat) (sz:Nat)
 |empty
 |bV
 |map (i:Nat)
 |bX
 |chan (i:Nat)
 |func (f:FuncId) (first cap:List V)
 |yield (i:Nat)
 |bY
 |iface (t:TypeId) (v:V)
 |aX
 |agg (l:List V)
 |aS (l:List V)
instance:Inhabited V:=⟨.aS []⟩
def V.cells:V->List V
 |.agg l=>l
 |v=>[v]
def V.one:V->Bool
 |.agg _|.aS _=>false
 |_=>true
inductive Src where
 |tmp (t:Nat)
 |const (v:V)
inductive PK where
 |bool|int|str|ptr|slice|map|func|chan|iface
inductive rX where
 |dm (k:PK)
 |node (parts:List (Nat×Option Nat×rX))
inductive jh where
 |int (k:IntKind)
 |str
inductive Ext where
 |nS|nT|same|cy|lH|pH|pJ
inductive gF where
 |pe (x:Src)
 |pick (c a b:Src)
 |alloc (zero:List V) (elem:TypeId)
 |box (elem:TypeId) (x:Src)
 |build (zero:List V) (parts:List (Nat×Nat×Src))
 |kP (elem:TypeId) (size len:Nat) (zero:List V) (parts:List (Nat×Nat×Src))
 |load (n:Option Nat) (a:Src)
 |store (n:Nat) (a x:Src)
 |nV (x:Src)
 |bin (op:BinOp) (t:rX) (ng:Bool) (x y:Src)
 |un (op:UnOp) (x:Src)
 |dr (k:IntKind) (x:Src)
 |mQ (x:Src)
 |jF (elem:TypeId) (x:Src)
 |nW (x:Src)
 |iH (t:TypeId) (x:Src)
 |nX (f:FuncId) (first gD:List Src)
 |yY
 |qH (bytes:Nat) (n:Src)
 |jG (elem:TypeId) (size bytes:Nat) (zero:List V) (len cap:Src)
 |cH (x:Src) (lo hi:Option Src)
 |mR (size:Nat) (x:Src) (lo hi mx:Option Src)
 |jH (n size:Nat) (x:Src) (lo hi mx:Option Src)
 |sO (off:Nat) (x:Src)
 |field (off:Nat) (n:Option Nat) (x:Src)
 |il (len size:Nat) (x i:Src)
 |iI (size:Nat) (x i:Src)
 |qI (len size:Nat) (n:Option Nat) (x i:Src)
 |bO (x i:Src)
 |lookup (kd:jh) (zero:V) (m k:Src) (ok:Bool)
 |uX (kd:jh) (m k v:Src)
 |IX (kd:jh) (zero:V) (m k:Src)
 |IY (m s v:Src)
 |jI (x:Src)
 |qJ (it:Src)
 |extract (x:Src) (i:Nat)
 |len (k:Nat) (x:Src)
 |nU (n:Nat)
 |cap (x:Src)
 |mn (args:List Src)
 |mx (args:List Src)
 |append (size bytes:Nat) (elem:TypeId) (zero:List V) (s x:Src)
 |copy (size:Nat) (d s:Src)
 |clear (size:Nat) (zero:List V) (s:Src)
 |call (f:Src) (args:List Src)
 |ext (e:Ext) (args:List Src)
 |LB (e:Option (TypeId×Nat)) (x:Src)
 |zr (x:Src)
 |IM (e:TypeId) (x n:Src)
 |IN (op:BinOp) (x y:Src)
 |IP (k:IntKind) (x:Src)
 |part (im:Bool) (x:Src)
 |stop
structure dC where
 dst:Option Nat
 op:gF
 guard:Option (Nat×Bool)
inductive cF where
 |skip
 |reg (ops:List dC)
 |fT (ops:List dC) (pL:List Nat)
 |xy (dst:Option Nat) (ch:Src) (send:Option Src) (zero:V) (ops:List dC)
 |seq (a b:cF)
 |cond (c:Src) (a b:cF)
 |block (id:Nat) (c:cF)
 |loop (c:cF)
 |qK (g:Src) (ps:List Nat) (assign body:cF)
 |exit (id:Nat)
 |scope (c:cF)
 |ret
 |stop
inductive IC where
 |tmp (t:Nat)
 |cell (t:Nat) (n:Option Nat)
structure lC where
 ntmps:Nat
 results:List IC
 body:cF
inductive Ex where
 |normal
 |exit (id:Nat)
 |ret
structure Ynr where
 st:LoopState
 iU:Option Ex
 r:T V
 n:Nat
 ps:List Nat
 assign:cF
 body:cF
 defs:Nat
inductive O where
 |cells (c:List V) (elem:TypeId) (rw:Bool)
 |map (es:List (V×V))
 |chan (cap:Nat) (buf:List V)
 |eP (s:List UInt8) (pos:Nat)
 |loop (l:Ynr)
 |defs (zdR:Bool)
 |dead
def O.wr:O->Bool
 |.cells _ _ rw=>rw
 |.dead=>false
 |_=>true
def O.live:O->Bool
 |.dead=>false
 |_=>true
structure St where
 h:T O
 n:Nat
 w:List Nat
def St.alloc(st:St)(o:O):St:={st with h:=st.h.set st.n o,n:=st.n+1}
def St.write(st:St)(i:Nat)(o:O):St:={st with h:=st.h.set i o,w:=i::st.w}
structure Fr where
 r:T V
 n:Nat
 marks:List Nat
def Src.ev(r:T V):Src->Option V
 |.tmp t=>r.get t
 |.const v=>some v
def tY(r:T V):List Src->Option (List V)
 |[]=>some []
 |x::xs=>match x.ev r,tY r xs with
  |some v,some vs=>some (v::vs)
  |_,_=>none
def aC(r:T V):Option Src->Option (Option V)
 |none=>some none
 |some x=>match x.ev r with
  |some v=>some (some v)
  |none=>none
def aE{α:Type}(c:List α)(o n:Nat):Option (List α):=if o+n<=c.length then some ((c.drop o).take n) else none
def ag{α:Type}(c:List α)(o:Nat)(vs:List α):List α:=c.take o++vs++c.drop (o+vs.length)
def A8(cells:List V):List (Nat×Nat×V)->Option (List V)
 |[]=>some cells
 |(off,size,v)::rest=>
  if v.cells.length=size/\off+size<=cells.length then A8 (ag cells off v.cells) rest else none
def A9(r:T V):List (Nat×Nat×Src)->Option (List (Nat×Nat×V))
 |[]=>some []
 |(o,s,x)::rest=>match x.ev r,A9 r rest with
  |some v,some vs=>some ((o,s,v)::vs)
  |_,_=>none
def aJ(cs:List V)(off:Nat):Option Nat->Option V
 |none=>cs[off]?
 |some n=>match aE cs off n with
  |some l=>some (.agg l)
  |none=>none
def aL(ng:Bool):PK->V->V->Option Bool
 |.bool,.bool a,.bool b=>some (a==b)
 |.int,.int k a,.int k' b=>if k=k' then some (a==b) else none
 |.str,.str a,.str b=>some (a==b)
 |.ptr,.zgi,.zgi=>some true
 |.ptr,.zgi,.ptr _ _=>some false
 |.ptr,.ptr _ _,.zgi=>some false
 |.ptr,.ptr i o,.ptr j p=>if i=j/\o=p then some true else none
 |.slice,.aa,.aa=>some true
 |.slice,.aa,.slice ..=>some false
 |.slice,.slice ..,.aa=>some false
 |.slice,.aa,.empty=>some false
 |.slice,.empty,.aa=>some false
 |.map,.bV,.bV=>some true
 |.map,.bV,.map _=>some false
 |.map,.map _,.bV=>some false
 |.func,.bY,.bY=>some true
 |.func,.bY,.func ..=>some false
 |.func,.func ..,.bY=>some false
 |.chan,.bX,.bX=>some true
 |.chan,.bX,.chan _=>some false
 |.chan,.chan _,.bX=>some false
 |.iface,.aX,.aX=>if ng then some true else none
 |.iface,.aX,.iface ..=>some false
 |.iface,.iface ..,.aX=>some false
 |_,_,_=>none
mutual
def oR(ng:Bool):rX->V->V->Option Bool
 |.dm k,x,y=>aL ng k x y
 |.node ps,.agg xs,.agg ys=>AQ ps xs ys
 |_,_,_=>none
def AQ:List (Nat×Option Nat×rX)->List V->List V->Option Bool
 |[],_,_=>some true
 |(off,n,t)::rest,xs,ys=>
  match aJ xs off n,aJ ys off n with
  |some x,some y=>match oR false t x y with
   |some true=>AQ rest xs ys
   |some false=>some false
   |none=>none
  |_,_=>none
end
def bn(k:IntKind)(n:Int):Int:=
 match k,n with
 |.i64,.ofNat a=>match Nat.blt a 9223372036854775808 with
  |true=>.ofNat a
  |false=>IntKind.wrap .i64 (.ofNat a)
 |.i64,.negSucc a=>match Nat.blt a 9223372036854775808 with
  |true=>.negSucc a
  |false=>IntKind.wrap .i64 (.negSucc a)
 |.u64,.ofNat a=>.ofNat (Nat.mod a 18446744073709551616)
 |.u8,.ofNat a=>.ofNat (Nat.mod a 256)
 |.i32,.ofNat a=>match Nat.blt a 2147483648 with
  |true=>.ofNat a
  |false=>IntKind.wrap .i32 (.ofNat a)
 |.u32,.ofNat a=>.ofNat (Nat.mod a 4294967296)
 |k,n=>k.wrap n
def zB(k:IntKind)(n:Int):bn k n=k.wrap n:=by
 unfold bn
 split
 ·rename_i a
  split
  ·rename_i h
   have h':a<9223372036854775808:=B1 (uY h)
   simp only[IntKind.wrap,IntKind.bits,IntKind.signed,Og]
   simp;omega
  ·rfl
 ·rename_i a
  split
  ·rename_i h
   have h':a<9223372036854775808:=B1 (uY h)
   have e:(Int.negSucc a)= -(a:Int)-1:=by omega
   simp only[IntKind.wrap,IntKind.bits,IntKind.signed,e]
   simp;omega
  ·rfl
 ·rename_i a
  show Int.ofNat (a%18446744073709551616)=_
  simp only[IntKind.wrap,IntKind.bits,IntKind.signed,Og]
  simp
 ·rename_i a
  show Int.ofNat (a%256)=_
  simp only[IntKind.wrap,IntKind.bits,IntKind.signed,Og]
  simp
 ·rename_i a
  split
  ·rename_i h
   have h':a<2147483648:=B1 (uY h)
   simp only[IntKind.wrap,IntKind.bits,IntKind.signed,Og]
   simp;omega
  ·rfl
 ·rename_i a
  show Int.ofNat (a%4294967296)=_
  simp only[IntKind.wrap,IntKind.bits,IntKind.signed,Og]
  simp
 ·rfl
def qT(op:BinOp)(k:IntKind)(a b:Int):Option V:=
 match op with
 |.add=>some (.int k (bn k (a+b)))
 |.sub=>some (.int k (bn k (a-b)))
 |.mul=>some (.int k (bn k (a*b)))
 |.quo=>if b=0 then none else some (.int k (bn k (a.tdiv b)))
 |.rem=>if b=0 then none else some (.int k (a.tmod b))
 |.and=>some (.int k (k.wrap (BitVec.ofInt k.bits a&&& BitVec.ofInt k.bits b).toNat))
 |.or=>some (.int k (k.wrap (BitVec.ofInt k.bits a|||BitVec.ofInt k.bits b).toNat))
 |.xor=>some (.int k (k.wrap (BitVec.ofInt k.bits a^^^BitVec.ofInt k.bits b).toNat))
 |.andNot=>some (.int k (k.wrap (BitVec.ofInt k.bits a&&& ~~~ BitVec.ofInt k.bits b).toNat))
 |.eql=>some (.bool (a==b))
 |.neq=>some (.bool (a !=b))
 |.lss=>some (.bool (decide (a<b)))
 |.leq=>some (.bool (decide (a<=b)))
 |.gtr=>some (.bool (decide (a > b)))
 |.geq=>some (.bool (decide (a≥b)))
 |_=>none
def yo(op:BinOp)(k:IntKind)(a b:Int):Option V:=
 if b<0 then none else
  match op with
  |.shl=>some (.int k (k.wrap (a*2^(min b.toNat k.bits))))
  |.shr=>some (.int k (a.fdiv (2^(min b.toNat k.bits))))
  |_=>none
def iX(op:BinOp)(x y:List UInt8):Option V:=
 match op with
 |.add=>if ((x.length+y.length:Nat):Int) > IntKind.i64.max then none else some (.str (x++y))
 |.eql=>some (.bool (x==y))
 |.neq=>some (.bool (!(x==y)))
 |.lss=>some (.bool (Op.bytesLess x y))
 |.leq=>some (.bool (Op.bytesLess x y||x==y))
 |.gtr=>some (.bool (!(Op.bytesLess x y||x==y)))
 |.geq=>some (.bool (!(Op.bytesLess x y)))
 |_=>none
def Ypl(op:BinOp)(t:rX)(ng:Bool):V->V->Option V
 |.int k a,.int k' b=>
  match op with
  |.shl=>yo .shl k a b
  |.shr=>yo .shr k a b
  |_=>if k=k' then qT op k a b else none
 |.str a,.str b=>iX op a b
 |x,y=>match op with
  |.eql=>match oR ng t x y with
   |some b=>some (.bool b)
   |none=>none
  |.neq=>match oR ng t x y with
   |some b=>some (.bool (!b))
   |none=>none
  |_=>none
def unV:UnOp->V->Option V
 |.neg,.int k n=>some (.int k (k.wrap (0-n)))
 |.xor,.int k n=>some (.int k (k.wrap (BitVec.ofInt k.bits (if k.signed then -1 else k.max)^^^BitVec.ofInt k.bits n).toNat))
 |.not,.bool b=>some (.bool (!b))
 |_,_=>none
def kY(v:V)(y:Nat):Option Nat:=
 match v with
 |.int _ n=>if 0<=n/\n<=(y:Int) then some n.toNat else none
 |_=>none
def dK(v:Option V)(y zdS:Nat):Option Nat:=
 match v with
 |some v=>kY v y
 |none=>some zdS
def St.row(st:St)(i:Nat):Option (List V×TypeId×Bool):=
 match st.h.get i with
 |some (.cells c e rw)=>some (c,e,rw)
 |_=>none
def dw(zero:List V)(n:Nat):List V:=(List.range (n*zero.length)).map fun i=>zero.getD (i%zero.length) (.aS [])
def gp(st:St)(size:Nat):V->Option (Nat×List V)
 |.aa=>some (0,[])
 |.empty=>some (0,[])
 |.slice j p m _ sz=>if sz=size then match st.row j with
   |some (c,_,_)=>match aE c p (m*size)with
    |some l=>some (m,l)
    |none=>none
   |none=>none
  else none
 |.str s=>if size=1 then some (s.length,s.map fun b=>.int .u8 b.toNat) else none
 |_=>none
def yW:Nat:=2^48
def l8(st:St)(size bytes:Nat)(elem:TypeId)(s x:V):Option (V×St):=
 match gp st size x with
 |none=>none
 |some (n,xs)=>
  match s with
  |.aa=>
   if n=0 then some (.aa,st)
   else if 2*n*bytes<=yW/\size≠0 then some (.slice st.n 0 n none size,st.alloc (.cells xs elem true)) else none
  |.slice i o len cap sz=>
   if n=0 then (if sz=size then some (s,st) else none)
   else if sz≠size\/size=0\/yW<2*(len+n)*bytes then none else
   match st.row i with
   |none=>none
   |some (c,e,rw)=>
    match cap with
    |some k=>
     if len+n<=k then
      (if rw=true/\o+(len+n)*size<=c.length then some (.slice i o (len+n) cap sz,st.write i (.cells (ag c (o+len*size) xs) e rw)) else none)
     else match aE c o (len*size)with
      |some old=>some (.slice st.n 0 (len+n) none size,st.alloc (.cells (old++xs) elem true))
      |none=>none
    |none=>
     if rw=true then
      if o+(len+n)*size<=c.length then some (.slice i o (len+n) none sz,st.write i (.cells (ag c (o+len*size) xs) e rw))
      else if o+len*size=c.length/\e=elem/\o=0 then
       some (.slice st.n 0 (len+n) none size,(st.write i .dead).alloc (.cells (c.drop o++xs) elem true))
      else none
     else none
  |_=>none
def Ll:jh->V->V->Option Bool
 |.int k,.int a x,.int b y=>if a=k/\b=k then some (x==y) else none
 |.str,.str x,.str y=>some (x==y)
 |_,_,_=>none
def eM(kd:jh)(k:V):List (V×V)->Nat->Option (Option (Nat×V))
 |[],_=>some none
 |(a,v)::es,i=>
  match Ll kd k a with
  |some true=>some (some (i,v))
  |some false=>eM kd k es (i+1)
  |none=>none
def jh.fits:jh->V->Bool
 |.int k,.int k' _=>k=k'
 |.str,.str _=>true
 |_,_=>false
def wD:List V->Option V
 |[]=>none
 |[x]=>some x
 |.int k a::.int _ b::rest=>wD (.int k (if b<a then b else a)::rest)
 |_=>none
termination_by l=>l.length
def wE:List V->Option V
 |[]=>none
 |[x]=>some x
 |.int k a::.int _ b::rest=>wE (.int k (if a<b then b else a)::rest)
 |_=>none
termination_by l=>l.length
def xD:V->List V->Option V
 |x,[]=>some x
 |.int k a,.int _ b::rest=>xD (.int k (if b<a then b else a)) rest
 |_,_=>none
def B8:List V->Option V
 |[]=>none
 |x::xs=>xD x xs
def yp:V->List V->Option V
 |x,[]=>some x
 |.int k a,.int _ b::rest=>yp (.int k (if a<b then b else a)) rest
 |_,_=>none
def Ba:List V->Option V
 |[]=>none
 |x::xs=>yp x xs
def Ybq:∀(xs:List V) (x:V),xD x xs=wD (x::xs)
 |[],x=>by simp[xD,wD]
 |y::ys,x=>by
  cases x with
  |int k a=>
   cases y with
   |int k' b=>simp only[xD,wD];exact Ybq ys _
   |_=>simp[xD,wD]
  |_=>simp[xD,wD]
def Yj4(l:List V):B8 l=wD l:=by
 cases l with
 |nil=>simp[B8,wD]
 |cons x xs=>exact Ybq xs x
def Ybt:∀(xs:List V) (x:V),yp x xs=wE (x::xs)
 |[],x=>by simp[yp,wE]
 |y::ys,x=>by
  cases x with
  |int k a=>
   cases y with
   |int k' b=>simp only[yp,wE];exact Ybt ys _
   |_=>simp[yp,wE]
  |_=>simp[yp,wE]
def Yj7(l:List V):Ba l=wE l:=by
 cases l with
 |nil=>simp[Ba,wE]
 |cons x xs=>exact Ybt xs x
def IZ(c:UInt8):List UInt8->Nat->Int
 |[],_=> -1
 |b::rest,i=>if b==c then (i:Int) else IZ c rest (i+1)
def B9:Ext->List V->Option V
 |.nS,[.int .u64 x,.int .u64 y,.int .u64 c]=>if ¬(c=0\/c=1) then none else
   some (.aS [.int .u64 (Int.ofNat ((x.toNat+y.toNat+c.toNat)%2^64)),.int .u64 (Int.ofNat ((x.toNat+y.toNat+c.toNat)/2^64))])
 |.nT,[.int .u64 x,.int .u64 y,.int .u64 b]=>if ¬(b=0\/b=1) then none else
   some (.aS [.int .u64 (Int.ofNat ((x.toNat+2^64-y.toNat-b.toNat)%2^64)),.int .u64 (if x.toNat<y.toNat+b.toNat then 1 else 0)])
 |.cy,[.str s,.int .u8 c]=>some (.int .i64 (IZ c.toNat.toUInt8 s 0))
 |.pH,[.kg .f64 b]=>some (.int .u64 (b:Int))
 |.pJ,[.int .u64 n]=>some (.kg .f64 n.toNat)
 |_,_=>none
abbrev cM:=V->List V->St->Option (V×St)
def SN(op:BinOp)(t:rX)(st:St)(i j:Nat):Option (V×St):=
 match op,t,st.h.get i,st.h.get j with
 |.eql,.dm .chan,some (.chan ..),some (.chan ..)=>some (.bool (i==j),st)
 |.neq,.dm .chan,some (.chan ..),some (.chan ..)=>some (.bool (!(i==j)),st)
 |_,_,_,_=>none
abbrev dZ:=cM->T V->St->Option (V×St)
def I1(x:Src):dZ:=fun _ r st=>match x.ev r with
  |some v=>some (v,st)
  |none=>none
def DN(c:Src)(a:Src)(b:Src):dZ:=fun _ r st=>match c.ev r with
  |some (.bool true)=>match a.ev r with
   |some v=>some (v,st)
   |none=>none
  |some (.bool false)=>match b.ev r with
   |some v=>some (v,st)
   |none=>none
  |_=>none
def LM(zero:List V)(elem:TypeId):dZ:=fun _ _ st=>some (.ptr st.n 0,st.alloc (.cells zero elem true))
def I3(elem:TypeId)(x:Src):dZ:=fun _ r st=>match x.ev r with
  |some v=>if v.cells.all V.one then some (.ptr st.n 0,st.alloc (.cells v.cells elem true)) else none
  |none=>none
def Ca(zero:List V)(parts:List (Nat×Nat×Src)):dZ:=fun _ r st=>match A9 r parts with
  |some ps=>match A8 zero ps with
   |some l=>some (.agg l,st)
   |none=>none
  |none=>none
def I4(elem:TypeId)(size:Nat)(len:Nat)(zero:List V)(parts:List (Nat×Nat×Src)):dZ:=fun _ r st=>match A9 r parts with
  |some ps=>match A8 zero ps with
   |some l=>if l.all V.one then some (.slice st.n 0 len (some len) size,st.alloc (.cells l elem true)) else none
   |none=>none
  |none=>none
def Zip(n:Option Nat)(a:Src):dZ:=fun _ r st=>match a.ev r with
  |some (.ptr i o)=>match st.row i with
   |some (c,_,_)=>match aJ c o n with
    |some v=>some (v,st)
    |none=>none
   |none=>none
  |_=>none
def DO(n:Nat)(a:Src)(x:Src):dZ:=fun _ r st=>match a.ev r,x.ev r with
  |some (.ptr i o),some v=>match st.row i with
   |some (c,e,true)=>if v.cells.length=n/\o+n<=c.length/\v.cells.all V.one=true then some (.aS [],st.write i (.cells (ag c o v.cells) e true)) else none
   |_=>none
  |_,_=>none
def I5(x:Src):dZ:=fun _ r st=>match x.ev r with
  |some (.ptr i o)=>some (.ptr i o,st)
  |some (.func f a l)=>some (.func f a l,st)
  |_=>none
def I6(op:BinOp)(t:rX)(ng:Bool)(x:Src)(y:Src):dZ:=fun _ r st=>match x.ev r,y.ev r with
  |some (.chan i),some (.chan j)=>SN op t st i j
  |some a,some b=>match Ypl op t ng a b with
   |some v=>some (v,st)
   |none=>none
  |_,_=>none
def I7(op:UnOp)(x:Src):dZ:=fun _ r st=>match x.ev r with
  |some a=>match unV op a with
   |some v=>some (v,st)
   |none=>none
  |none=>none
def I8(k:IntKind)(x:Src):dZ:=fun _ r st=>match x.ev r with
  |some (.int _ n)=>some (.int k (bn k n),st)
  |_=>none
def LN(x:Src):dZ:=fun _ r st=>match x.ev r with
  |some (.str s)=>some (.str s,st)
  |_=>none
def DP(elem:TypeId)(x:Src):dZ:=fun _ r st=>match x.ev r with
  |some (.str s)=>some (.slice st.n 0 s.length none 1,st.alloc (.cells (s.map fun b=>.int .u8 b.toNat) elem true))
  |_=>none
def I9(x:Src):dZ:=fun _ r st=>match x.ev r with
  |some .aa=>some (.str [],st)
  |some (.slice i o len _ 1)=>match st.row i with
   |some (c,_,_)=>match aE c o len with
    |some l=>match l.mapM (fun v=>match v with|.int .u8 n=>some (UInt8.ofNat n.toNat)|_=>none)with
     |some s=>some (.str s,st)
     |none=>none
    |none=>none
   |none=>none
  |_=>none
def LP(t:TypeId)(x:Src):dZ:=fun _ r st=>match x.ev r with
  |some v=>some (.iface t v,st)
  |none=>none
def Ja(f:FuncId)(first:List Src)(gD:List Src):dZ:=fun _ r st=>match tY r first,tY r gD with
  |some a,some l=>some (.func f a l,st)
  |_,_=>none
def LQ:dZ:=fun _ _ st=>some (.map st.n,st.alloc (.map []))
def DQ(bytes:Nat)(n:Src):dZ:=fun _ r st=>match n.ev r with
  |some (.int _ k)=>if k<0\/k > IntKind.i64.max\/bytes*k > 2^48-112 then none else some (.chan st.n,st.alloc (.chan k.toNat []))
  |_=>none
def Cb(elem:TypeId)(size:Nat)(bytes:Nat)(zero:List V)(len:Src)(cap:Src):dZ:=fun _ r st=>match len.ev r,cap.ev r with
  |some (.int _ l),some (.int _ c)=>
   if 0<=l/\l<=c/\bytes*c<=2^47/\c<2^62/\size=zero.length/\size≠0 then
    some (.slice st.n 0 l.toNat (some c.toNat) size,st.alloc (.cells (dw zero c.toNat) elem true)) else none
  |_,_=>none
def yq(x:Src)(lo:Option Src)(hi:Option Src):dZ:=fun _ r st=>match x.ev r,aC r lo,aC r hi with
  |some (.str s),some lo,some hi=>
   match dK hi s.length s.length with
   |some h=>match dK lo h 0 with
    |some l=>some (.str ((s.take h).drop l),st)
    |none=>none
   |none=>none
  |_,_,_=>none
def qU(size:Nat)(x:Src)(lo:Option Src)(hi:Option Src)(mx:Option Src):dZ:=fun _ r st=>match x.ev r,aC r lo,aC r hi,aC r mx with
  |some .aa,some lo,some hi,some mx=>
   match dK mx 0 0 with
   |some _=>match dK hi 0 0 with
    |some _=>match dK lo 0 0 with
     |some _=>if mx.isSome&&hi.isNone then none else some (.aa,st)
     |none=>none
    |none=>none
   |none=>none
  |some .empty,some lo,some hi,some none=>
   match dK hi 0 0 with
   |some _=>match dK lo 0 0 with
    |some _=>some (.empty,st)
    |none=>none
   |none=>none
  |some (.slice i o len (some c) sz),some lo,some hi,some mx=>
   if sz≠size\/(mx.isSome&&hi.isNone) then none else
   match dK mx c c with
   |some m=>match dK hi m len with
    |some h=>match dK lo h 0 with
     |some l=>some (.slice i (if m=l then o else o+l*size) (h-l) (some (m-l)) sz,st)
     |none=>none
    |none=>none
   |none=>none
  |some (.slice i o len none sz),some lo,some hi,some mx=>
   if sz≠size\/size=0\/(mx.isSome&&hi.isNone) then none else
   match st.row i with
   |some (c,_,_)=>
    let k:=max len ((c.length-o)/size)
    match mx with
    |some m=>match kY m k with
     |some m=>match dK hi m len with
      |some h=>match dK lo h 0 with
       |some l=>some (.slice i (if m=l then o else o+l*size) (h-l) (some (m-l)) sz,st)
       |none=>none
      |none=>none
     |none=>none
    |none=>match dK hi k len with
     |some h=>match dK lo h 0 with
      |some l=>if l<k then some (.slice i (o+l*size) (h-l) none sz,st) else some (.empty,st)
      |none=>none
     |none=>none
   |none=>none
  |_,_,_,_=>none
def zC(n:Nat)(size:Nat)(x:Src)(lo:Option Src)(hi:Option Src)(mx:Option Src):dZ:=fun _ r st=>match x.ev r,aC r lo,aC r hi,aC r mx with
  |some (.ptr i o),some lo,some hi,some none=>
   match dK hi n n with
   |some h=>match dK lo h 0 with
    |some l=>match st.row i with
     |some (c,_,_)=>if o+n*size<=c.length/\mx.isNone then some (.slice i (if n=l then o else o+l*size) (h-l) (some (n-l)) size,st) else none
     |none=>none
    |none=>none
   |none=>none
  |_,_,_,_=>none
def Jb(off:Nat)(x:Src):dZ:=fun _ r st=>match x.ev r with
  |some (.ptr i o)=>some (.ptr i (o+off),st)
  |_=>none
def Jc(off:Nat)(n:Option Nat)(x:Src):dZ:=fun _ r st=>match x.ev r with
  |some (.agg cs)=>match aJ cs off n with
   |some v=>some (v,st)
   |none=>none
  |_=>none
def Cc(len:Nat)(size:Nat)(x:Src)(i:Src):dZ:=fun _ r st=>match x.ev r,i.ev r with
  |some (.ptr a o),some (.int _ k)=>if 0<=k/\k<(len:Int) then some (.ptr a (o+k.toNat*size),st) else none
  |_,_=>none
def DR(size:Nat)(x:Src)(i:Src):dZ:=fun _ r st=>match x.ev r,i.ev r with
  |some (.slice a o len _ _),some (.int _ k)=>if 0<=k/\k<(len:Int) then some (.ptr a (o+k.toNat*size),st) else none
  |_,_=>none
def LR(len:Nat)(size:Nat)(n:Option Nat)(x:Src)(i:Src):dZ:=fun _ r st=>match x.ev r,i.ev r with
  |some (.agg cs),some (.int _ k)=>if 0<=k/\k<(len:Int) then match aJ cs (k.toNat*size) n with
    |some v=>some (v,st)
    |none=>none
   else none
  |_,_=>none
def DS(x:Src)(i:Src):dZ:=fun _ r st=>match x.ev r,i.ev r with
  |some (.str s),some (.int _ k)=>if 0<=k then match s[k.toNat]? with
    |some b=>some (.int .u8 b.toNat,st)
    |none=>none
   else none
  |_,_=>none
def Jd(kd:jh)(zero:V)(m:Src)(k:Src)(ok:Bool):dZ:=fun _ r st=>match m.ev r,k.ev r with
  |some m,some k=>
   if kd.fits k then
    match (match m with
     |.bV=>some []
     |.map i=>match st.h.get i with
      |some (.map es)=>some es
      |_=>none
     |_=>none)with
    |some es=>match eM kd k es 0 with
     |some (some (_,v))=>some (if ok then .aS [v,.bool true] else v,st)
     |some none=>some (if ok then .aS [zero,.bool false] else zero,st)
     |none=>none
    |none=>none
   else none
  |_,_=>none
def DT(kd:jh)(m:Src)(k:Src)(v:Src):dZ:=fun _ r st=>match m.ev r,k.ev r,v.ev r with
  |some (.map i),some k,some v=>
   if kd.fits k then
    match st.h.get i with
    |some (.map es)=>match eM kd k es 0 with
     |some (some (j,_))=>some (.aS [],st.write i (.map (es.set j (k,v))))
     |some none=>some (.aS [],st.write i (.map (es++[(k,v)])))
     |none=>none
    |_=>none
   else none
  |_,_,_=>none
def Zqy(kd:jh)(zero:V)(m:Src)(k:Src):dZ:=fun _ r st=>match m.ev r,k.ev r with
  |some (.map i),some k=>
   if kd.fits k then
    match st.h.get i with
    |some (.map es)=>match eM kd k es 0 with
     |some (some (j,v))=>some (.aS [v,.int .i64 j],st.write i (.map (es.set j (k,v))))
     |some none=>some (.aS [zero,.int .i64 es.length],st.write i (.map (es++[(k,zero)])))
     |none=>none
    |_=>none
   else none
  |_,_=>none
def Zmw(m:Src)(s:Src)(v:Src):dZ:=fun _ r st=>match m.ev r,s.ev r,v.ev r with
  |some (.map i),some (.int _ j),some v=>
   match st.h.get i with
   |some (.map es)=>if 0<=j then match es[j.toNat]? with
     |some (k,_)=>some (.aS [],st.write i (.map (es.set j.toNat (k,v))))
     |none=>none
    else none
   |_=>none
  |_,_,_=>none
def Je(x:Src):dZ:=fun _ r st=>match x.ev r with
  |some (.str s)=>some (.ptr st.n 0,st.alloc (.eP s 0))
  |_=>none
def Jf(it:Src):dZ:=fun _ r st=>match it.ev r with
  |some (.ptr i 0)=>match st.h.get i with
   |some (.eP s pos)=>
    if pos<s.length then
     let cw:=Utf8.decode ⟨s.toArray⟩ pos
     some (.aS [.bool true,.int .i64 pos,.int .i32 cw.1],st.write i (.eP s (pos+cw.2)))
    else some (.aS [.bool false],st)
   |_=>none
  |_=>none
def Jg(x:Src)(i:Nat):dZ:=fun _ r st=>match x.ev r with
  |some (.aS vs)=>match vs[i]? with
   |some v=>some (v,st)
   |none=>none
  |_=>none
def xE(k:Nat)(x:Src):dZ:=fun _ r st=>match k,x.ev r with
  |0,some (.str s)=>some (.int .i64 s.length,st)
  |1,some .aa=>some (.int .i64 0,st)
  |1,some .empty=>some (.int .i64 0,st)
  |1,some (.slice _ _ n _ _)=>some (.int .i64 n,st)
  |2,some .bV=>some (.int .i64 0,st)
  |2,some (.map i)=>match st.h.get i with
   |some (.map es)=>some (.int .i64 es.length,st)
   |_=>none
  |_,_=>none
def Oj(n:Nat):dZ:=fun _ _ st=>some (.int .i64 n,st)
def LS(x:Src):dZ:=fun _ r st=>match x.ev r with
  |some .aa=>some (.int .i64 0,st)
  |some (.slice _ _ _ (some c) _)=>some (.int .i64 c,st)
  |_=>none
def yr(args:List Src):dZ:=fun _ r st=>match tY r args with
  |some l=>match B8 l with
   |some v=>some (v,st)
   |none=>none
  |none=>none
def qV(args:List Src):dZ:=fun _ r st=>match tY r args with
  |some l=>match Ba l with
   |some v=>some (v,st)
   |none=>none
  |none=>none
def Cd(size:Nat)(bytes:Nat)(elem:TypeId)(_:List V)(s:Src)(x:Src):dZ:=fun _ r st=>match s.ev r,x.ev r with
  |some s,some x=>l8 st size bytes elem s x
  |_,_=>none
def DU(size:Nat)(d:Src)(s:Src):dZ:=fun _ r st=>match d.ev r,s.ev r with
  |some d,some s=>match gp st size s with
   |some (n,xs)=>match d with
    |.aa=>some (.int .i64 0,st)
    |.slice i o len _ sz=>
     if sz≠size\/size=0 then none else
     let k:=min n len
     if k=0 then some (.int .i64 0,st) else
     match st.row i with
     |some (c,e,true)=>if o+k*size<=c.length then some (.int .i64 k,st.write i (.cells (ag c o (xs.take (k*size))) e true)) else none
     |_=>none
    |_=>none
   |none=>none
  |_,_=>none
def LU(size:Nat)(zero:List V)(s:Src):dZ:=fun _ r st=>match s.ev r with
  |some .aa=>some (.aS [],st)
  |some .empty=>some (.aS [],st)
  |some (.slice i o len _ sz)=>
   if len=0 then some (.aS [],st) else
   if sz≠size\/size=0\/zero.length≠size then none else
   match st.row i with
   |some (c,e,true)=>if o+len*size<=c.length then some (.aS [],st.write i (.cells (ag c o (dw zero len)) e true)) else none
   |_=>none
  |_=>none
def yt(f:Src)(args:List Src):dZ:=fun call r st=>match f.ev r,tY r args with
  |some f,some l=>call f l st
  |_,_=>none
def Jh(e:Ext)(args:List Src):dZ:=fun _ r st=>match e,tY r args with
  |.same,some [v]=>some (v,st)
  |e,some l=>match B9 e l with
   |some v=>some (v,st)
   |none=>none
  |_,none=>none
def Ce(e:Option (TypeId×Nat))(x:Src):dZ:=fun _ r st=>match x.ev r with
  |some (.ptr i 0)=>match st.row i with
   |some (c,e',true)=>match e with
    |none=>if 0<c.length then some (.ptr i 0,st) else none
    |some (u,z)=>if e'=u/\0<z/\z<=c.length then some (.ptr i 0,st) else none
   |_=>none
  |_=>none
def LV(x:Src):dZ:=fun _ r st=>match x.ev r with
  |some (.slice i o len _ _)=>if 0<len then some (.ptr i o,st) else none
  |_=>none
def SO:V->Option UInt8
 |.int .u8 n=>if 0<=n/\n<256 then some n.toNat.toUInt8 else none
 |_=>none
def Ji:List V->Option (List UInt8)
 |[]=>some []
 |v::l=>match SO v,Ji l with
  |some b,some s=>some (b::s)
  |_,_=>none
def LW(e:TypeId)(x n:Src):dZ:=fun _ r st=>match x.ev r,n.ev r with
  |some (.ptr i 0),some (.int .i64 k)=>if 0<k/\k<=9223372036854775807 then
    match st.row i with
    |some (c,e',true)=>if e'=e then
      match aE c 0 k.toNat with
      |some zm=>match Ji zm with
       |some s=>some (.str s,st.write i (.cells c e' false))
       |none=>none
      |none=>none
     else none
    |_=>none
   else none
  |_,_=>none
def Ycl(op:BinOp)(k:FloatKind)(a b:Nat):Option V:=
 match op with
 |.add=>(k.format.add a b).map (V.kg k)
 |.sub=>(k.format.sub a b).map (V.kg k)
 |.mul=>(k.format.mul a b).map (V.kg k)
 |.quo=>(k.format.div a b).map (V.kg k)
 |.eql=>some (.bool (k.format.order a b==some .eq))
 |.neq=>some (.bool (k.format.order a b !=some .eq))
 |.lss=>some (.bool (k.format.order a b==some .lt))
 |.leq=>some (.bool (k.format.order a b==some .lt||k.format.order a b==some .eq))
 |.gtr=>some (.bool (k.format.order a b==some .gt))
 |.geq=>some (.bool (k.format.order a b==some .gt||k.format.order a b==some .eq))
 |_=>none
def Ok(op:BinOp)(x:Src)(y:Src):dZ:=fun _ r st=>match x.ev r,y.ev r with
  |some (.kg k a),some (.kg k' b)=>if k=k' then match Ycl op k a b with
   |some v=>some (v,st)
   |none=>none
   else none
  |_,_=>none
def Ol(k:IntKind)(x:Src):dZ:=fun _ r st=>match x.ev r with
  |some (.kg s b)=>match (s.decode b).toInt .zero with
   |some n=>if k.min<=n/\n<=k.max then some (.int k n,st) else none
   |none=>none
  |_=>none
def Jj(im:Bool)(x:Src):dZ:=fun _ r st=>match x.ev r with
  |some (.rO k a b)=>some (.kg k (if im then b else a),st)
  |_=>none
def Ztb:dZ:=fun _ _ _=>none
def cG(op:gF):dZ:=gF.casesOn op I1 DN LM I3 Ca I4 Zip DO I5 I6 I7 I8 LN DP I9 LP Ja LQ DQ Cb yq qU zC Jb Jc Cc DR LR DS Jd DT Zqy Zmw Je Jf Jg xE Oj LS yr qV Cd DU LU yt Jh Ce LV LW Ok Ol Jj Ztb
def Fr.put(fr:Fr)(d:Option Nat)(v:V):Option Fr:=
 match d with
 |some d=>if d<fr.n then some {fr with r:=fr.r.set d v} else none
 |none=>some fr
def bW(r:T V):Option (Nat×Bool)->Option Bool
 |none=>some true
 |some (t,want)=>match r.get t with
  |some (.bool b)=>some (b==want)
  |some (.aS _)=>some false
  |_=>none
def AS(call:cM)(o:dC)(next:Fr->St->Option (Fr×St))(fr:Fr)(st:St):Option (Fr×St):=
 match bW fr.r o.guard with
 |some true=>match cG o.op call fr.r st with
  |some (v,aB)=>match fr.put o.dst v with
   |some bG=>next bG aB
   |none=>none
  |none=>none
 |some false=>match fr.put o.dst (.aS [])with
  |some bG=>next bG st
  |none=>none
 |none=>none
def Yhm(fr:Fr)(st:St):Option (Fr×St):=some (fr,st)
def dG(call:cM):List dC->Fr->St->Option (Fr×St)
 |[]=>Yhm
 |o::rest=>AS call o (dG call rest)
structure FP where
 rd:Option (List Nat)
 wr:List Nat
 lo:Nat
 hi:Nat
def gF.nY:gF->Bool
 |.pe _|.pick ..|.alloc ..|.box ..|.build ..|.kP ..|.nV _|.un ..|.dr ..|.mQ _|.jF ..|.iH ..|.nX ..|.yY|.qH ..
 |.jG ..|.cH ..|.sO ..|.field ..|.il ..|.iI ..|.qI ..|.bO ..|.jI _|.extract ..|.nU _|.cap _|.mn _|.mx _|.ext ..|.IN ..|.IP ..|.part ..=>true
 |.bin .add ..|.bin .sub ..|.bin .mul ..|.bin .quo ..|.bin .rem ..|.bin .lss ..|.bin .leq ..|.bin .gtr ..|.bin .geq ..|.bin .shl ..|.bin .shr ..|.bin .and ..|.bin .or ..|.bin .xor ..|.bin .andNot ..=>true
 |_=>false
def SP(r:T V):gF->Option Nat
 |.load _ a=>match a.ev r with
  |some (.ptr i _)=>some i
  |_=>none
 |.store _ a _=>match a.ev r with
  |some (.ptr i _)=>some i
  |_=>none
 |_=>none
def oU(r:T V)(op:gF)(ws:List Nat)(lo hi:Nat):FP:=
 if op.nY then ⟨some [],[],lo,hi⟩ else
 match SP r op with
 |some i=>if Nat.blt i lo then ⟨some [i],ws,lo,hi⟩ else ⟨none,ws,lo,hi⟩
 |none=>⟨none,ws,lo,hi⟩
def xr(i:Nat)(l:List Nat):List Nat:=if l.contains i then l else i::l
def aD(n:Nat):List Nat->List Nat
 |[]=>[]
 |i::l=>if i<n then xr i (aD n l) else aD n l
def Bb(call:cM)(o:dC)(next:Fr->St->Option (List FP×Fr×St))(fr:Fr)(st:St):Option (List FP×Fr×St):=
 match bW fr.r o.guard with
 |some true=>match cG o.op call fr.r {st with w:=[]} with
  |some (v,aB)=>match fr.put o.dst v with
   |some bG=>match next bG {aB with w:=aD st.n aB.w++st.w} with
    |some (iy,fr'',st'')=>some (oU fr.r o.op (aD st.n aB.w) st.n aB.n::iy,fr'',st'')
    |none=>none
   |none=>none
  |none=>none
 |some false=>match fr.put o.dst (.aS [])with
  |some bG=>match next bG st with
   |some (iy,fr'',st'')=>some (⟨some [],[],st.n,st.n⟩::iy,fr'',st'')
   |none=>none
  |none=>none
 |none=>none
def Yat(fr:Fr)(st:St):Option (List FP×Fr×St):=some ([],fr,st)
def bQ(call:cM):List dC->Fr->St->Option (List FP×Fr×St)
 |[]=>Yat
 |o::rest=>Bb call o (bQ call rest)
def vY(a:List Nat):Option (List Nat)->Bool
 |none=>!a.isEmpty
 |some b=>a.any fun i=>b.contains i
def FP.free(a b:FP):Bool:=!(vY a.wr b.rd||vY a.wr (some b.wr)||vY b.wr a.rd||b.wr.any fun i=>Nat.ble a.lo i&&Nat.blt i a.hi)
def bU{α:Type}(p:α->α->Bool)(xs:List α)(pL:List Nat):Bool:=
 go xs pL 0 []
where
 go:List α->List Nat->Nat->List α->Bool
  |[],_,_,_=>true
  |f::fs,ms,j,seen=>
   (bZ f (ms.headD 0) (j-1) seen)&&go fs ms.tail (j+1) (f::seen)
 bZ (f:α) (m:Nat):Nat->List α->Bool
  |_,[]=>true
  |i,g::gs=>(m.testBit i||p g f)&&bZ f m (i-1) gs
def iG(iy:List FP)(pL:List Nat):Bool:=bU FP.free iy pL
def Src.tmps:Src->List Nat
 |.tmp t=>[t]
 |.const _=>[]
def Iu:Option Src->List Src
 |none=>[]
 |some s=>[s]
def gF.Cf:gF->List Src
 |.pe x=>[x]
 |.pick c a b=>[c,a,b]
 |.alloc ..=>[]
 |.box _ x=>[x]
 |.build _ ps=>ps.map (·.2.2)
 |.kP _ _ _ _ ps=>ps.map (·.2.2)
 |.load _ a=>[a]
 |.store _ a x=>[a,x]
 |.nV x=>[x]
 |.bin _ _ _ x y=>[x,y]
 |.un _ x=>[x]
 |.dr _ x=>[x]
 |.mQ x=>[x]
 |.jF _ x=>[x]
 |.nW x=>[x]
 |.iH _ x=>[x]
 |.nX _ a c=>a++c
 |.yY=>[]
 |.qH _ n=>[n]
 |.jG _ _ _ _ l c=>[l,c]
 |.cH x lo hi=>x::(Iu lo++Iu hi)
 |.mR _ x lo hi m=>x::(Iu lo++Iu hi++Iu m)
 |.jH _ _ x lo hi m=>x::(Iu lo++Iu hi++Iu m)
 |.sO _ x=>[x]
 |.field _ _ x=>[x]
 |.il _ _ x i=>[x,i]
 |.iI _ x i=>[x,i]
 |.qI _ _ _ x i=>[x,i]
 |.bO x i=>[x,i]
 |.lookup _ _ m k _=>[m,k]
 |.uX _ m k v=>[m,k,v]
 |.IX _ _ m k=>[m,k]
 |.IY m s v=>[m,s,v]
 |.jI x=>[x]
 |.qJ x=>[x]
 |.extract x _=>[x]
 |.len _ x=>[x]
 |.nU _=>[]
 |.cap x=>[x]
 |.mn l=>l
 |.mx l=>l
 |.append _ _ _ _ s x=>[s,x]
 |.copy _ d s=>[d,s]
 |.clear _ _ s=>[s]
 |.call f l=>f::l
 |.ext _ l=>l
 |.LB _ x=>[x]
 |.zr x=>[x]
 |.IM _ x n=>[x,n]
 |.IN _ x y=>[x,y]
 |.IP _ x=>[x]
 |.part _ x=>[x]
 |.stop=>[]
def dC.reads(o:dC):List Nat:=
 (match o.guard with|some (t,_)=>[t]|none=>[])++o.op.Cf.flatMap Src.tmps
def Om(d:Option Nat)(l:List Nat):Bool:=
 match d with
 |some t=>l.contains t
 |none=>false
def SH(a b:dC):Bool:=!(Om a.dst b.reads||Om b.dst a.reads||Om a.dst b.dst.toList)
def SQ(st:St)(i:Nat)(send:Option V)(zero:V):Option (V×St):=
 match st.h.get i,send with
 |some (.chan cap buf),some v=>if buf.length<cap then some (.aS [.int .i64 0,.bool false],st.write i (.chan cap (buf++[v]))) else some (.aS [.int .i64 (-1),.bool false],st)
 |some (.chan cap (v::buf)),none=>some (.aS [.int .i64 0,.bool true,v],st.write i (.chan cap buf))
 |some (.chan _ []),none=>some (.aS [.int .i64 (-1),.bool false,zero],st)
 |_,_=>none
abbrev pF:=Option Nat->cF->Fr->St->Option (Ex×Fr×St)
abbrev wF:=cM->pF->Option Nat->Fr->St->Option (Ex×Fr×St)
def Ydk:wF:=fun _ _ _ fr st=>some (.normal,fr,st)
def zl(ops:List dC):wF:=fun call _ _ fr st=>match dG call ops fr st with
 |some (bG,aB)=>some (.normal,bG,aB)
 |none=>none
def zj(ops:List dC)(pL:List Nat):wF:=fun call _ _ fr st=>match bQ call ops fr st with
 |some (iy,bG,aB)=>match iG iy pL with
  |true=>some (.normal,bG,aB)
  |false=>none
 |none=>none
def zk(dst:Option Nat)(ch:Src)(send:Option Src)(zero:V)(ops:List dC):wF:=fun call _ _ fr st=>
 match ch.ev fr.r,aC fr.r send with
 |some (.chan i),some sv=>match SQ st i sv zero with
  |some (v,cr)=>match fr.put dst v with
   |some dS=>match dG call ops dS cr with
    |some (bG,aB)=>some (.normal,bG,aB)
    |none=>none
   |none=>none
  |none=>none
 |_,_=>none
def AT(a b:cF):wF:=fun _ rec ro fr st=>match rec ro a fr st with
 |some (.normal,bG,aB)=>rec ro b bG aB
 |x=>x
def xq(x:Src)(a b:cF):wF:=fun _ rec ro fr st=>match x.ev fr.r with
 |some (.bool true)=>rec ro a fr st
 |some (.bool false)=>rec ro b fr st
 |_=>none
def AU(id:Nat)(c:cF):wF:=fun _ rec ro fr st=>match rec ro c fr st with
 |some (.exit AV,bG,aB)=>match Nat.beq AV id with
  |true=>some (.normal,bG,aB)
  |false=>some (.exit AV,bG,aB)
 |x=>x
def AW(c:cF):wF:=fun _ rec ro fr st=>match rec ro c fr st with
 |some (.normal,bG,aB)=>rec ro (.loop c) bG aB
 |x=>x
def Zs5(st:St):Option Nat->Option (St×Nat×List Nat)
 |none=>some (st.alloc (.defs true),st.n,[st.n])
 |some l=>match st.h.get l with
  |some (.loop R)=>some (st,R.defs,[])
  |_=>none
def V.Lw:V->Bool
 |.yield _=>true
 |_=>false
def BU(g:Src)(ps:List Nat)(assign body:cF):wF:=fun call _ ro fr st=>
 match g.ev fr.r with
 |none=>none
 |some gv=>
  if gv.Lw then none else
  match Zs5 st ro with
  |none=>none
  |some (cr,d,mk)=>
   match call gv [.yield cr.n] (cr.alloc (.loop {st:=.ready,iU:=none,r:=fr.r,n:=fr.n,ps:=ps,assign:=assign,body:=body,defs:=d}))with
   |none=>none
   |some (_,fi)=>
    match fi.h.get cr.n with
    |some (.loop R)=>
     if R.st=.busy then none else
     some (match R.iU with|none=>.normal|some e=>e,{fr with marks:=mk++fr.marks},fi.write cr.n (.loop {R with st:=.exhausted}))
    |_=>none
def Yh9(id:Nat):wF:=fun _ _ _ fr st=>some (.exit id,fr,st)
def Ydl(c:cF):wF:=fun _ rec ro fr st=>rec ro c fr st
def Yni:wF:=fun _ _ _ fr st=>some (.ret,fr,st)
def Ls:wF:=fun _ _ _ _ _=>none
def mO(c:cF):wF:=cF.casesOn c Ydk zl zj zk AT xq AU AW BU Yh9 Ydl Yni Ls
def SB:pF:=fun _ _ _ _=>none
def dV(call:cM):Nat->pF
 |0=>SB
 |f+1=>fun ro c=>mO c call (dV call f) ro
def yg(r:T V)(i:Nat):List V->T V
 |[]=>r
 |v::vs=>yg (r.set i v) (i+1) vs
def IH(r:T V)(n:Nat):List Nat->List V->Option (T V)
 |[],[]=>some r
 |p::ps,v::vs=>if p<n then IH (r.set p v) n ps vs else none
 |_,_=>none
def ic(r:T V)(st:St):List IC->Option (List V)
 |[]=>some []
 |.tmp t::rest=>match r.get t,ic r st rest with
  |some v,some vs=>some (v::vs)
  |_,_=>none
 |.cell t n::rest=>match r.get t,ic r st rest with
  |some (.ptr i o),some vs=>match st.row i with
   |some (c,_,_)=>match aJ c o n with
    |some v=>some (v::vs)
    |none=>none
   |none=>none
  |_,_=>none
def shut(st:St):List Nat->Option St
 |[]=>some st
 |d::ds=>match st.h.get d with
  |some (.defs true)=>shut (st.write d (.defs false)) ds
  |_=>none
def Zg8:Option Ex->LoopState
 |none=>.ready
 |some _=>.done
def tQ:Ex->Option Ex
 |.normal=>none
 |e=>some e
def Dx:List V->V
 |[v]=>v
 |vs=>.aS vs
def Zt5(mf:lC)(st:St):Option (Ex×Fr×St)->Option (V×St)
 |some (.exit _,_,_)=>none
 |some (_,fr,cr)=>match shut cr fr.marks with
  |none=>none
  |some fi=>match ic fr.r fi mf.results with
   |some vs=>some (Dx vs,{fi with w:=aD st.n fi.w++st.w})
   |none=>none
 |none=>none
def BY(mf:lC)(code:pF)(args:List V)(st:St):Option (V×St):=
 if mf.ntmps<args.length then none else
 Zt5 mf st (code none mf.body {r:=yg .nil 0 args,n:=mf.ntmps,marks:=[]} {st with w:=[]})
def II(code:pF)(l:Nat)(args:List V)(st:St):Option (V×St):=
 match st.h.get l with
 |some (.loop R)=>match IH R.r R.n R.ps args with
  |none=>none
  |some r0=>match code (some l) R.assign {r:=r0,n:=R.n,marks:=[]} st with
   |some (.normal,dS,cr)=>match cr.h.get l with
    |some (.loop R1)=>
     if R1.st=.ready then
      match code (some l) R.body dS (cr.write l (.loop {R1 with st:=.busy}))with
      |some (e,_,fi)=>match fi.h.get l with
       |some (.loop R2)=>some (.bool (tQ e).isNone,fi.write l (.loop {R2 with st:=Zg8 (tQ e),iU:=tQ e}))
       |_=>none
      |none=>none
     else none
    |_=>none
   |_=>none
 |_=>none
def xw(dN:Nat->Option lC)(code:pF):cM
 |.func f first gD,args,st=>match dN f with
  |some mf=>BY mf code (first++args++gD) st
  |none=>none
 |.yield l,args,st=>II code l args st
 |_,_,_=>none
def Zp5:cM:=fun _ _ _=>none
end Go.Mx
