/-The abstract machine M-/
import Derived.RangeFuncLeaves
import Derived.OrdersIn
import Derived.RangeFuncRecord
set_option linter.all false
namespace Go.Mx
variable{α:Type}
abbrev bB:=@Prod.mk.injEq
abbrev bO:=@List.mem_map
abbrev dT:=@Int.natAbs_natCast
abbrev fk:=@List.getElem?_set_ne
abbrev eH:=@List.getElem?_map
abbrev dL:=@List.length_map
abbrev gm:=@List.take_of_length_le
abbrev gl:=@List.getElem?_eq_none
abbrev fH:=@Nat.lt_of_lt_of_le
abbrev fU:=@List.getElem?_drop
abbrev ar:=@Option.some.injEq
abbrev ak:=@if_neg
abbrev aN:=@Nat.le_refl
abbrev av:=@if_pos
abbrev cj:=@List.getElem?_eq_getElem
abbrev bl:=@List.length_cons
abbrev cP:=@List.mem_of_getElem?
abbrev pT:=@Nat.lt_of_le_of_lt
abbrev rL:=@Nat.pow_le_pow_right
abbrev pM:=@List.ext_getElem?
abbrev iR:=@Nat.add_mul
abbrev px:=@Option.some.inj
abbrev ki:=@Nat.mul_comm
abbrev yL:=@List.getElem?_eq_some_iff
abbrev rE:=@List.drop_length
abbrev oc:=@Nat.mul_le_mul
abbrev qH:=@Option.map_some
abbrev k_:=@List.getElem?_append_left
abbrev iE:=@Bool.false_eq_true
abbrev gV:=@Bool.and_eq_true
abbrev mS:=@Option.map_eq_some_iff
abbrev iU:=@List.length_append
abbrev kg:=@Nat.mul_le_mul_right
abbrev mQ:=@List.getElem?_set_self
abbrev pC:=@List.getElem?_append_right
abbrev iL:=@Option.getD_some
abbrev iV:=@List.length_take
abbrev jZ:=@List.getElem?_take
abbrev tC:=@List.eq_nil_of_length_eq_zero
abbrev tD:=@Int.mul_le_mul_of_nonneg_left
abbrev iS:=@List.mem_append
abbrev mZ:=@Nat.mul_le_mul_left
abbrev nP:=@List.getElem?_of_mem
abbrev kJ:=@List.all_eq_true
abbrev jW:=@List.cons.injEq
abbrev jz:=@List.mem_range
abbrev pA:=@List.mem_cons_of_mem
abbrev iP:=@List.mem_cons
abbrev iD:=@Nat.pow_succ
abbrev og:=@List.mem_singleton
abbrev oa:=@List.mem_cons_self
abbrev iX:=@Nat.add_zero
abbrev rV:=@Nat.div_lt_iff_lt_mul
abbrev Ad:=@Nat.mod_eq_of_lt
abbrev Gq:=@Int.tmod_eq_emod_of_nonneg
abbrev A9:=@Rat.num_divInt_den
abbrev yX:=@Int.mul_nonneg
abbrev AK:=@Nat.le_of_not_lt
abbrev wx:=@Int.le_of_lt
abbrev Ay:=@List.take_length
abbrev I8:=@Array.getD_eq_getD_getElem?
abbrev Es:=@Array.getElem?_toList
abbrev Et:=@List.take_append_drop
abbrev uJ:=@List.append_assoc
abbrev xw:=@Nat.le_of_ble_eq_true
abbrev nI:=@Nat.le_trans
abbrev mT:=@Nat.pow_add
abbrev rP:=@Nat.min_eq_left
abbrev pE:=@Nat.add_assoc
abbrev pU:=@List.map_cons
abbrev sK:=@Nat.two_pow_pos
abbrev u_:=@Nat.lt_of_not_le
abbrev m_:=@Nat.mod_lt
abbrev Dd:=@Int.tdiv_eq_ediv_of_nonneg
abbrev AH:=@List.length_singleton
abbrev CV:=@List.mem_or_eq_of_mem_set
abbrev zD:=@List.getElem?_range
abbrev xx:=@Nat.lt_succ_self
abbrev AG:=@List.mem_of_mem_take
abbrev wy:=@Nat.div_add_mod
abbrev Gs:=@Int.mul_le_mul_of_nonneg_right
abbrev De:=@List.getElem?_cons_zero
abbrev Ax:=@List.map_congr_left
abbrev xy:=@Nat.div_le_self
abbrev wg:=@Int.natAbs_mul
abbrev Df:=@List.drop_eq_nil_of_le
abbrev zO:=@List.append_nil
abbrev yE:=@List.length_set
abbrev zX:=@List.length_drop
abbrev Au:=@Nat.mul_pos
abbrev Gt:=@Int.le_of_not_gt
abbrev Jb:=@Nat.eq_zero_or_pos
abbrev Jc:=@List.mem_replicate
abbrev Mg:=@Nat.le_div_iff_mul_le
abbrev Ei:=@Bool.false_and
abbrev TM:=@Array.getElem?_setIfInBounds_ne
abbrev BM:=@Nat.pow_pos
abbrev Gu:=@Int.emod_nonneg
abbrev Jd:=@Bool.not_eq_true'
abbrev Bi:=@List.take_add_one
abbrev vc:=@Nat.mul_add
abbrev Gw:=@List.getElem?_cons_succ
abbrev Gx:=@Int.eq_ofNat_of_zero_le
abbrev zY:=@Int.natAbs_neg
abbrev xd:=@Nat.zero_add
abbrev BN:=@Nat.div_eq_of_lt
abbrev vY:=@Nat.le_succ
abbrev Je:=@List.drop_eq_getElem_cons
abbrev yY:=@List.map_nil
abbrev Mh:=@Option.ite_none_left_eq_some
abbrev Gy:=@Int.mul_ediv_add_emod
abbrev wX:=@Nat.zero_le
abbrev Mi:=@Nat.mul_lt_mul_of_pos_right
abbrev Dh:=@Nat.mul_lt_mul''
abbrev Bx:=@List.drop_zero
abbrev Jf:=@Nat.div_div_eq_div_mul
abbrev Eu:=@Nat.lt_of_succ_le
abbrev xb:=@Nat.not_lt
abbrev Ev:=@Nat.le_max_right
abbrev Ew:=@List.cons_append
abbrev Gz:=@Int.emod_lt_of_pos
abbrev Ey:=@Nat.le_max_left
abbrev Ez:=@Nat.div_lt_self
abbrev Jg:=@Nat.pow_le_pow_left
abbrev AL:=@Nat.mul_one
abbrev Tq:=@List.dropLast_concat_getLast
abbrev Jh:=@Bool.or_eq_true
abbrev OV:=@Nat.mul_mod_mul_right
abbrev GA:=@Nat.mul_assoc
abbrev OW:=@Int.ofNat_eq_natCast
abbrev OX:=@List.mem_of_mem_drop
abbrev Mj:=@List.map_toArray
abbrev Xgh:=@Array.all_eq_true_iff_forall_mem
abbrev Mk:=@Int.lt_of_not_ge
abbrev GB:=@Nat.pow_zero
abbrev TR:=@Nat.gcd_pos_of_pos_right
abbrev NM:=@List.replicate_succ
abbrev TS:=@Nat.le_mul_of_pos_right
abbrev Ml:=@Int.natCast_mul
abbrev Mm:=@Int.mul_ne_zero
abbrev TT:=@Nat.eq_of_beq_eq_true
abbrev TU:=@List.contains_iff_mem
abbrev TV:=@Nat.ble_eq_true_of_le
abbrev TW:=@List.singleton_append
abbrev TX:=@Nat.mul_div_mul_right
inductive T (α:Type) where
 |nil
 |node (l:T α) (v:Option α) (r:T α)
def T.get{α:Type}:T α->Nat->Option α
 |.nil,_=>none
 |.node l v r,n=>
  match n with
  |0=>v
  |k+1=>match k%2 with
   |0=>l.get (k/2)
   |_=>r.get (k/2)
def T.gk{α:Type}:Nat->T α->Nat->α->T α
 |0,t,_,_=>t
 |f+1,.nil,n,a=>
  match n with
  |0=>.node .nil (some a) .nil
  |k+1=>match k%2 with
   |0=>.node (T.gk f .nil (k/2) a) none .nil
   |_=>.node .nil none (T.gk f .nil (k/2) a)
 |f+1,.node l v r,n,a=>
  match n with
  |0=>.node l (some a) r
  |k+1=>match k%2 with
   |0=>.node (T.gk f l (k/2) a) v r
   |_=>.node l v (T.gk f r (k/2) a)
def T.set(t:T α)(n:Nat)(a:α):T α:=T.gk (n+1) t n a
def T.BO(a:α):∀(f:Nat) (t:T α) (n m:Nat),n<f->(T.gk f t n a).get m=if m=n then some a else t.get m:=by
 intro f;induction f with
 |zero=>intro t n m h;omega
 |succ f ih=>
  intro t n m h;cases t with
  |nil=>
   cases n with
   |zero=>
    cases m with
    |zero=>simp[T.gk,T.get]
    |succ j=>simp only[T.gk,T.get];split<;>simp
   |succ k=>
    have hk:k/2<f:=by omega
    have h2:k%2=0\/k%2=1:=by omega
    rcases h2 with h2|h2
    ·cases m with
     |zero=>simp[T.gk,T.get,h2]
     |succ j=>
      have hj:j%2=0\/j%2=1:=by omega
      rcases hj with hj|hj
      ·simp only[T.gk,T.get,h2,hj,ih _ _ _ hk];by_cases e:j/2=k/2
       ·have:j=k:=by omega
        simp[this]
       have:¬j=k:=by intro e2;exact e (by rw[e2])
       simp[e,this]
      have:¬j=k:=by omega
      simp[T.gk,T.get,h2,hj,this]
    cases m with
    |zero=>simp[T.gk,T.get,h2]
    |succ j=>
     have hj:j%2=0\/j%2=1:=by omega
     rcases hj with hj|hj
     ·have:¬j=k:=by omega
      simp[T.gk,T.get,h2,hj,this]
     simp only[T.gk,T.get,h2,hj,ih _ _ _ hk];by_cases e:j/2=k/2
     ·have:j=k:=by omega
      simp[this]
     have:¬j=k:=by intro e2;exact e (by rw[e2])
     simp[e,this]
  |node l v r=>
   cases n with
   |zero=>cases m<;>simp[T.gk,T.get]
   |succ k=>
    have hk:k/2<f:=by omega
    have h2:k%2=0\/k%2=1:=by omega
    rcases h2 with h2|h2
    ·cases m with
     |zero=>simp[T.gk,T.get,h2]
     |succ j=>
      have hj:j%2=0\/j%2=1:=by omega
      rcases hj with hj|hj
      ·simp only[T.gk,T.get,h2,hj,ih _ _ _ hk];by_cases e:j/2=k/2
       ·have:j=k:=by omega
        simp[this]
       have:¬j=k:=by intro e2;exact e (by rw[e2])
       simp[e,this]
      have:¬j=k:=by omega
      simp[T.gk,T.get,h2,hj,this]
    cases m with
    |zero=>simp[T.gk,T.get,h2]
    |succ j=>
     have hj:j%2=0\/j%2=1:=by omega
     rcases hj with hj|hj
     ·have:¬j=k:=by omega
      simp[T.gk,T.get,h2,hj,this]
     simp only[T.gk,T.get,h2,hj,ih _ _ _ hk];by_cases e:j/2=k/2
     ·have:j=k:=by omega
      simp[this]
     have:¬j=k:=by intro e2;exact e (by rw[e2])
     simp[e,this]
def T.ag(t:T α)(n m:Nat)(a:α):(t.set n a).get m=if m=n then some a else t.get m:=
 T.BO a (n+1) t n m (xx n)
inductive V where
 |bool (b:Bool)
 |int (k:IntKind) (n:Int)
 |xn (k:FloatKind) (bits:Nat)
 |str (s:List UInt8)
 |bP
 |ptr (i o:Nat)
 |aa
 |slice (i o len:Nat) (cap:Option Nat) (sz:Nat)
 |empty
 |bW
 |map (i:Nat)
 |bZ
 |chan (i:Nat)
 |func (f:FuncId) (first cap:List V)
 |yield (i:Nat)
 |b_
 |iface (t:TypeId) (v:V)
 |aZ
 |agg (l:List V)
 |aU (l:List V)
instance:Inhabited V:=⟨.aU []⟩
def V.cells:V->List V
 |.agg l=>l
 |v=>[v]
def V.one:V->Bool
 |.agg _|.aU _=>false
 |_=>true
inductive Src where
 |tmp (t:Nat)
 |const (v:V)
inductive PK where
 |bool|int|str|ptr|slice|map|func|chan|iface
inductive uL where
 |dJ (k:PK)
 |node (parts:List (Nat×Option Nat×uL))
inductive mW where
 |int (k:IntKind)
 |str
inductive Ext where
 |py|pz|same|cn|nK
inductive iH where
 |pP (x:Src)
 |pick (c a b:Src)
 |alloc (zero:List V) (elem:TypeId)
 |box (elem:TypeId) (x:Src)
 |build (zero:List V) (parts:List (Nat×Nat×Src))
 |gg (elem:TypeId) (size len:Nat) (zero:List V) (parts:List (Nat×Nat×Src))
 |load (n:Option Nat) (a:Src)
 |store (n:Nat) (a x:Src)
 |pQ (x:Src)
 |bin (op:BinOp) (t:uL) (ng:Bool) (x y:Src)
 |un (op:UnOp) (x:Src)
 |dG (k:IntKind) (x:Src)
 |tE (x:Src)
 |lK (elem:TypeId) (x:Src)
 |pR (x:Src)
 |jn (t:TypeId) (x:Src)
 |pS (f:FuncId) (first iI:List Src)
 |yS
 |xz (bytes:Nat) (n:Src)
 |lV (elem:TypeId) (size bytes:Nat) (zero:List V) (len cap:Src)
 |cG (x:Src) (lo hi:Option Src)
 |oD (size:Nat) (x:Src) (lo hi mx:Option Src)
 |lY (n size:Nat) (x:Src) (lo hi mx:Option Src)
 |iZ (off:Nat) (x:Src)
 |field (off:Nat) (n:Option Nat) (x:Src)
 |i_ (len size:Nat) (x i:Src)
 |bF (size:Nat) (x i:Src)
 |xA (len size:Nat) (n:Option Nat) (x i:Src)
 |bQ (x i:Src)
 |lookup (kd:mW) (zero:V) (m k:Src) (ok:Bool)
 |xr (kd:mW) (m k v:Src)
 |Ji (kd:mW) (zero:V) (m k:Src)
 |Jj (m s v:Src)
 |lZ (x:Src)
 |tr (it:Src)
 |extract (x:Src) (i:Nat)
 |len (k:Nat) (x:Src)
 |xB (n:Nat)
 |cap (x:Src)
 |mn (args:List Src)
 |mx (args:List Src)
 |append (size bytes:Nat) (elem:TypeId) (zero:List V) (s x:Src)
 |copy (size:Nat) (d s:Src)
 |clear (size:Nat) (zero:List V) (s:Src)
 |call (f:Src) (args:List Src)
 |ext (e:Ext) (args:List Src)
 |Mc (e:Option (TypeId×Nat)) (x:Src)
 |BH (x:Src)
 |I3 (e:TypeId) (x n:Src)
 |stop
structure dS where
 dst:Option Nat
 op:iH
 guard:Option (Nat×Bool)
inductive ct where
 |skip
 |fV (ops:List dS)
 |f_ (ops:List dS) (rW:List Nat)
 |Aa (dst:Option Nat) (ch:Src) (send:Option Src) (zero:V) (ops:List dS)
 |seq (a b:ct)
 |cond (c:Src) (a b:ct)
 |block (id:Nat) (c:ct)
 |loop (c:ct)
 |jY (g:Src) (ps:List Nat) (assign body:ct)
 |exit (id:Nat)
 |scope (c:ct)
 |ret
 |stop
inductive FY where
 |tmp (t:Nat)
 |cell (t:Nat) (n:Option Nat)
structure nD where
 ntmps:Nat
 results:List FY
 body:ct
inductive Ex where
 |normal
 |exit (id:Nat)
 |ret
structure NA where
 st:LoopState
 fN:Option Ex
 r:T V
 n:Nat
 ps:List Nat
 assign:ct
 body:ct
 defs:Nat
inductive O where
 |cells (c:List V) (elem:TypeId) (rw:Bool)
 |map (es:List (V×V))
 |chan (cap:Nat) (buf:List V)
 |fm (s:List UInt8) (pos:Nat)
 |loop (l:NA)
 |defs (zah:Bool)
 |dead
def O.wr:O->Bool
 |.cells _ _ rw=>rw
 |.dead=>false
 |_=>true
def O.live:O->Bool
 |.dead=>false
 |_=>true
structure St where
 h:T O
 n:Nat
 w:List Nat
def St.alloc(st:St)(o:O):St:={st with h:=st.h.set st.n o,n:=st.n+1}
def St.write(st:St)(i:Nat)(o:O):St:={st with h:=st.h.set i o,w:=i::st.w}
structure Fr where
 r:T V
 n:Nat
 marks:List Nat
def Src.ev(r:T V):Src->Option V
 |.tmp t=>r.get t
 |.const v=>some v
def wu(r:T V):List Src->Option (List V)
 |[]=>some []
 |x::xs=>match x.ev r,wu r xs with
  |some v,some vs=>some (v::vs)
  |_,_=>none
def aC(r:T V):Option Src->Option (Option V)
 |none=>some none
 |some x=>match x.ev r with
  |some v=>some (some v)
  |none=>none
def aO(c:List α)(o n:Nat):Option (List α):=if o+n<=c.length then some ((c.drop o).take n) else none
def ae(c:List α)(o:Nat)(vs:List α):List α:=c.take o++vs++c.drop (o+vs.length)
def Dj(cells:List V):List (Nat×Nat×V)->Option (List V)
 |[]=>some cells
 |(off,size,v)::rest=>
  if v.cells.length=size/\off+size<=cells.length then Dj (ae cells off v.cells) rest else none
def Dk(r:T V):List (Nat×Nat×Src)->Option (List (Nat×Nat×V))
 |[]=>some []
 |(o,s,x)::rest=>match x.ev r,Dk r rest with
  |some v,some vs=>some ((o,s,v)::vs)
  |_,_=>none
def aS(cs:List V)(off:Nat):Option Nat->Option V
 |none=>cs[off]?
 |some n=>match aO cs off n with
  |some l=>some (.agg l)
  |none=>none
def bz(ng:Bool):PK->V->V->Option Bool
 |.bool,.bool a,.bool b=>some (a==b)
 |.int,.int k a,.int k' b=>if k=k' then some (a==b) else none
 |.str,.str a,.str b=>some (a==b)
 |.ptr,.bP,.bP=>some true
 |.ptr,.bP,.ptr _ _=>some false
 |.ptr,.ptr _ _,.bP=>some false
 |.ptr,.ptr i o,.ptr j p=>if i=j/\o=p then some true else none
 |.slice,.aa,.aa=>some true
 |.slice,.aa,.slice ..=>some false
 |.slice,.slice ..,.aa=>some false
 |.slice,.aa,.empty=>some false
 |.slice,.empty,.aa=>some false
 |.map,.bW,.bW=>some true
 |.map,.bW,.map _=>some false
 |.map,.map _,.bW=>some false
 |.func,.b_,.b_=>some true
 |.func,.b_,.func ..=>some false
 |.func,.func ..,.b_=>some false
 |.chan,.bZ,.bZ=>some true
 |.chan,.bZ,.chan _=>some false
 |.chan,.chan _,.bZ=>some false
 |.iface,.aZ,.aZ=>if ng then some true else none
 |.iface,.aZ,.iface ..=>some false
 |.iface,.iface ..,.aZ=>some false
 |_,_,_=>none
mutual
def yZ(ng:Bool):uL->V->V->Option Bool
 |.dJ k,x,y=>bz ng k x y
 |.node ps,.agg xs,.agg ys=>OY ps xs ys
 |_,_,_=>none
def OY:List (Nat×Option Nat×uL)->List V->List V->Option Bool
 |[],_,_=>some true
 |(off,n,t)::rest,xs,ys=>
  match aS xs off n,aS ys off n with
  |some x,some y=>match yZ false t x y with
   |some true=>OY rest xs ys
   |some false=>some false
   |none=>none
  |_,_=>none
end
def bn(k:IntKind)(n:Int):Int:=
 match k,n with
 |.i64,.ofNat a=>match Nat.blt a 9223372036854775808 with
  |true=>.ofNat a
  |false=>IntKind.wrap .i64 (.ofNat a)
 |.i64,.negSucc a=>match Nat.blt a 9223372036854775808 with
  |true=>.negSucc a
  |false=>IntKind.wrap .i64 (.negSucc a)
 |.u64,.ofNat a=>.ofNat (Nat.mod a 18446744073709551616)
 |.u8,.ofNat a=>.ofNat (Nat.mod a 256)
 |.i32,.ofNat a=>match Nat.blt a 2147483648 with
  |true=>.ofNat a
  |false=>IntKind.wrap .i32 (.ofNat a)
 |.u32,.ofNat a=>.ofNat (Nat.mod a 4294967296)
 |k,n=>k.wrap n
def BP(k:IntKind)(n:Int):bn k n=k.wrap n:=by
 unfold bn;split
 ·rename_i a;split
  ·rename_i h;have h':a<9223372036854775808:=Eu (xw h);simp only[IntKind.wrap,IntKind.bits,IntKind.signed,OW];simp;omega
  rfl
 ·rename_i a;split
  ·rename_i h;have h':a<9223372036854775808:=Eu (xw h);have e:(Int.negSucc a)= -(a:Int)-1:=by omega
   simp only[IntKind.wrap,IntKind.bits,IntKind.signed,e];simp;omega
  rfl
 ·rename_i a;show Int.ofNat (a%18446744073709551616)=_;simp only[IntKind.wrap,IntKind.bits,IntKind.signed,OW];simp
 ·rename_i a;show Int.ofNat (a%256)=_;simp only[IntKind.wrap,IntKind.bits,IntKind.signed,OW];simp
 ·rename_i a;split
  ·rename_i h;have h':a<2147483648:=Eu (xw h);simp only[IntKind.wrap,IntKind.bits,IntKind.signed,OW];simp;omega
  rfl
 ·rename_i a;show Int.ofNat (a%4294967296)=_;simp only[IntKind.wrap,IntKind.bits,IntKind.signed,OW];simp
 rfl
def tF(op:BinOp)(k:IntKind)(a b:Int):Option V:=
 match op with
 |.add=>some (.int k (bn k (a+b)))
 |.sub=>some (.int k (bn k (a-b)))
 |.mul=>some (.int k (bn k (a*b)))
 |.quo=>if b=0 then none else some (.int k (bn k (a.tdiv b)))
 |.rem=>if b=0 then none else some (.int k (a.tmod b))
 |.and=>some (.int k (k.wrap (BitVec.ofInt k.bits a&&& BitVec.ofInt k.bits b).toNat))
 |.or=>some (.int k (k.wrap (BitVec.ofInt k.bits a|||BitVec.ofInt k.bits b).toNat))
 |.xor=>some (.int k (k.wrap (BitVec.ofInt k.bits a^^^BitVec.ofInt k.bits b).toNat))
 |.andNot=>some (.int k (k.wrap (BitVec.ofInt k.bits a&&& ~~~ BitVec.ofInt k.bits b).toNat))
 |.eql=>some (.bool (a==b))
 |.neq=>some (.bool (a !=b))
 |.lss=>some (.bool (decide (a<b)))
 |.leq=>some (.bool (decide (a<=b)))
 |.gtr=>some (.bool (decide (a > b)))
 |.geq=>some (.bool (decide (a≥b)))
 |_=>none
def AM(op:BinOp)(k:IntKind)(a b:Int):Option V:=
 if b<0 then none else
  match op with
  |.shl=>some (.int k (k.wrap (a*2^(min b.toNat k.bits))))
  |.shr=>some (.int k (a.fdiv (2^(min b.toNat k.bits))))
  |_=>none
def jJ(op:BinOp)(x y:List UInt8):Option V:=
 match op with
 |.add=>if ((x.length+y.length:Nat):Int) > IntKind.i64.max then none else some (.str (x++y))
 |.eql=>some (.bool (x==y))
 |.neq=>some (.bool (!(x==y)))
 |.lss=>some (.bool (Op.bytesLess x y))
 |.leq=>some (.bool (Op.bytesLess x y||x==y))
 |.gtr=>some (.bool (!(Op.bytesLess x y||x==y)))
 |.geq=>some (.bool (!(Op.bytesLess x y)))
 |_=>none
def Xae(op:BinOp)(t:uL)(ng:Bool):V->V->Option V
 |.int k a,.int k' b=>
  match op with
  |.shl=>AM .shl k a b
  |.shr=>AM .shr k a b
  |_=>if k=k' then tF op k a b else none
 |.str a,.str b=>jJ op a b
 |x,y=>match op with
  |.eql=>match yZ ng t x y with
   |some b=>some (.bool b)
   |none=>none
  |.neq=>match yZ ng t x y with
   |some b=>some (.bool (!b))
   |none=>none
  |_=>none
def unV:UnOp->V->Option V
 |.neg,.int k n=>some (.int k (k.wrap (0-n)))
 |.xor,.int k n=>some (.int k (k.wrap (BitVec.ofInt k.bits (if k.signed then -1 else k.max)^^^BitVec.ofInt k.bits n).toNat))
 |.not,.bool b=>some (.bool (!b))
 |_,_=>none
def nh(v:V)(y:Nat):Option Nat:=
 match v with
 |.int _ n=>if 0<=n/\n<=(y:Int) then some n.toNat else none
 |_=>none
def dX(v:Option V)(y zai:Nat):Option Nat:=
 match v with
 |some v=>nh v y
 |none=>some zai
def St.row(st:St)(i:Nat):Option (List V×TypeId×Bool):=
 match st.h.get i with
 |some (.cells c e rw)=>some (c,e,rw)
 |_=>none
def du(zero:List V)(n:Nat):List V:=(List.range (n*zero.length)).map fun i=>zero.getD (i%zero.length) (.aU [])
def fO(st:St)(size:Nat):V->Option (Nat×List V)
 |.aa=>some (0,[])
 |.empty=>some (0,[])
 |.slice j p m _ sz=>if sz=size then match st.row j with
   |some (c,_,_)=>match aO c p (m*size)with
    |some l=>some (m,l)
    |none=>none
   |none=>none
  else none
 |.str s=>if size=1 then some (s.length,s.map fun b=>.int .u8 b.toNat) else none
 |_=>none
def Ae:Nat:=2^48
def mR(st:St)(size bytes:Nat)(elem:TypeId)(s x:V):Option (V×St):=
 match fO st size x with
 |none=>none
 |some (n,xs)=>
  match s with
  |.aa=>
   if n=0 then some (.aa,st)
   else if 2*n*bytes<=Ae/\size≠0 then some (.slice st.n 0 n none size,st.alloc (.cells xs elem true)) else none
  |.slice i o len cap sz=>
   if n=0 then (if sz=size then some (s,st) else none)
   else if sz≠size\/size=0\/Ae<2*(len+n)*bytes then none else
   match st.row i with
   |none=>none
   |some (c,e,rw)=>
    match cap with
    |some k=>
     if len+n<=k then
      (if rw=true/\o+(len+n)*size<=c.length then some (.slice i o (len+n) cap sz,st.write i (.cells (ae c (o+len*size) xs) e rw)) else none)
     else match aO c o (len*size)with
      |some old=>some (.slice st.n 0 (len+n) none size,st.alloc (.cells (old++xs) elem true))
      |none=>none
    |none=>
     if rw=true then
      if o+(len+n)*size<=c.length then some (.slice i o (len+n) none sz,st.write i (.cells (ae c (o+len*size) xs) e rw))
      else if o+len*size=c.length/\e=elem/\o=0 then
       some (.slice st.n 0 (len+n) none size,(st.write i .dead).alloc (.cells (c.drop o++xs) elem true))
      else none
     else none
  |_=>none
def TY:mW->V->V->Option Bool
 |.int k,.int a x,.int b y=>if a=k/\b=k then some (x==y) else none
 |.str,.str x,.str y=>some (x==y)
 |_,_,_=>none
def fY(kd:mW)(k:V):List (V×V)->Nat->Option (Option (Nat×V))
 |[],_=>some none
 |(a,v)::es,i=>
  match TY kd k a with
  |some true=>some (some (i,v))
  |some false=>fY kd k es (i+1)
  |none=>none
def mW.fits:mW->V->Bool
 |.int k,.int k' _=>k=k'
 |.str,.str _=>true
 |_,_=>false
def y8:List V->Option V
 |[]=>none
 |[x]=>some x
 |.int k a::.int _ b::rest=>y8 (.int k (if b<a then b else a)::rest)
 |_=>none
termination_by l=>l.length
def y_:List V->Option V
 |[]=>none
 |[x]=>some x
 |.int k a::.int _ b::rest=>y_ (.int k (if a<b then b else a)::rest)
 |_=>none
termination_by l=>l.length
def Af:V->List V->Option V
 |x,[]=>some x
 |.int k a,.int _ b::rest=>Af (.int k (if b<a then b else a)) rest
 |_,_=>none
def EA:List V->Option V
 |[]=>none
 |x::xs=>Af x xs
def AN:V->List V->Option V
 |x,[]=>some x
 |.int k a,.int _ b::rest=>AN (.int k (if a<b then b else a)) rest
 |_,_=>none
def Dl:List V->Option V
 |[]=>none
 |x::xs=>AN x xs
def Yg2:∀(xs:List V) (x:V),Af x xs=y8 (x::xs)
 |[],x=>by simp[Af,y8]
 |y::ys,x=>by
  cases x with
  |int k a=>
   cases y with
   |int k' b=>simp only[Af,y8];exact Yg2 ys _
   |_=>simp[Af,y8]
  |_=>simp[Af,y8]
def Ysa(l:List V):EA l=y8 l:=by
 cases l with
 |nil=>simp[EA,y8]
 |cons x xs=>exact Yg2 xs x
def Yg5:∀(xs:List V) (x:V),AN x xs=y_ (x::xs)
 |[],x=>by simp[AN,y_]
 |y::ys,x=>by
  cases x with
  |int k a=>
   cases y with
   |int k' b=>simp only[AN,y_];exact Yg5 ys _
   |_=>simp[AN,y_]
  |_=>simp[AN,y_]
def Yse(l:List V):Dl l=y_ l:=by
 cases l with
 |nil=>simp[Dl,y_]
 |cons x xs=>exact Yg5 xs x
def Jk(c:UInt8):List UInt8->Nat->Int
 |[],_=> -1
 |b::rest,i=>if b==c then (i:Int) else Jk c rest (i+1)
def EB:Ext->List V->Option V
 |.py,[.int .u64 x,.int .u64 y,.int .u64 c]=>if ¬(c=0\/c=1) then none else
   some (.aU [.int .u64 (Int.ofNat ((x.toNat+y.toNat+c.toNat)%2^64)),.int .u64 (Int.ofNat ((x.toNat+y.toNat+c.toNat)/2^64))])
 |.pz,[.int .u64 x,.int .u64 y,.int .u64 b]=>if ¬(b=0\/b=1) then none else
   some (.aU [.int .u64 (Int.ofNat ((x.toNat+2^64-y.toNat-b.toNat)%2^64)),.int .u64 (if x.toNat<y.toNat+b.toNat then 1 else 0)])
 |.cn,[.str s,.int .u8 c]=>some (.int .i64 (Jk c.toNat.toUInt8 s 0))
 |_,_=>none
abbrev cQ:=V->List V->St->Option (V×St)
def TZ(op:BinOp)(t:uL)(st:St)(i j:Nat):Option (V×St):=
 match op,t,st.h.get i,st.h.get j with
 |.eql,.dJ .chan,some (.chan ..),some (.chan ..)=>some (.bool (i==j),st)
 |.neq,.dJ .chan,some (.chan ..),some (.chan ..)=>some (.bool (!(i==j)),st)
 |_,_,_,_=>none
abbrev ff:=cQ->T V->St->Option (V×St)
def Jl(x:Src):ff:=fun _ r st=>match x.ev r with
  |some v=>some (v,st)
  |none=>none
def GC(c:Src)(a:Src)(b:Src):ff:=fun _ r st=>match c.ev r with
  |some (.bool true)=>match a.ev r with
   |some v=>some (v,st)
   |none=>none
  |some (.bool false)=>match b.ev r with
   |some v=>some (v,st)
   |none=>none
  |_=>none
def Mn(zero:List V)(elem:TypeId):ff:=fun _ _ st=>some (.ptr st.n 0,st.alloc (.cells zero elem true))
def Jm(elem:TypeId)(x:Src):ff:=fun _ r st=>match x.ev r with
  |some v=>if v.cells.all V.one then some (.ptr st.n 0,st.alloc (.cells v.cells elem true)) else none
  |none=>none
def EC(zero:List V)(parts:List (Nat×Nat×Src)):ff:=fun _ r st=>match Dk r parts with
  |some ps=>match Dj zero ps with
   |some l=>some (.agg l,st)
   |none=>none
  |none=>none
def Jn(elem:TypeId)(size:Nat)(len:Nat)(zero:List V)(parts:List (Nat×Nat×Src)):ff:=fun _ r st=>match Dk r parts with
  |some ps=>match Dj zero ps with
   |some l=>if l.all V.one then some (.slice st.n 0 len (some len) size,st.alloc (.cells l elem true)) else none
   |none=>none
  |none=>none
def Jo(n:Option Nat)(a:Src):ff:=fun _ r st=>match a.ev r with
  |some (.ptr i o)=>match st.row i with
   |some (c,_,_)=>match aS c o n with
    |some v=>some (v,st)
    |none=>none
   |none=>none
  |_=>none
def GD(n:Nat)(a:Src)(x:Src):ff:=fun _ r st=>match a.ev r,x.ev r with
  |some (.ptr i o),some v=>match st.row i with
   |some (c,e,true)=>if v.cells.length=n/\o+n<=c.length/\v.cells.all V.one=true then some (.aU [],st.write i (.cells (ae c o v.cells) e true)) else none
   |_=>none
  |_,_=>none
def Jp(x:Src):ff:=fun _ r st=>match x.ev r with
  |some (.ptr i o)=>some (.ptr i o,st)
  |some (.func f a l)=>some (.func f a l,st)
  |_=>none
def Jq(op:BinOp)(t:uL)(ng:Bool)(x:Src)(y:Src):ff:=fun _ r st=>match x.ev r,y.ev r with
  |some (.chan i),some (.chan j)=>TZ op t st i j
  |some a,some b=>match Xae op t ng a b with
   |some v=>some (v,st)
   |none=>none
  |_,_=>none
def Jr(op:UnOp)(x:Src):ff:=fun _ r st=>match x.ev r with
  |some a=>match unV op a with
   |some v=>some (v,st)
   |none=>none
  |none=>none
def Js(k:IntKind)(x:Src):ff:=fun _ r st=>match x.ev r with
  |some (.int _ n)=>some (.int k (bn k n),st)
  |_=>none
def Mo(x:Src):ff:=fun _ r st=>match x.ev r with
  |some (.str s)=>some (.str s,st)
  |_=>none
def GF(elem:TypeId)(x:Src):ff:=fun _ r st=>match x.ev r with
  |some (.str s)=>some (.slice st.n 0 s.length none 1,st.alloc (.cells (s.map fun b=>.int .u8 b.toNat) elem true))
  |_=>none
def Jt(x:Src):ff:=fun _ r st=>match x.ev r with
  |some .aa=>some (.str [],st)
  |some (.slice i o len _ 1)=>match st.row i with
   |some (c,_,_)=>match aO c o len with
    |some l=>match l.mapM (fun v=>match v with|.int .u8 n=>some (UInt8.ofNat n.toNat)|_=>none)with
     |some s=>some (.str s,st)
     |none=>none
    |none=>none
   |none=>none
  |_=>none
def Mp(t:TypeId)(x:Src):ff:=fun _ r st=>match x.ev r with
  |some v=>some (.iface t v,st)
  |none=>none
def Ju(f:FuncId)(first:List Src)(iI:List Src):ff:=fun _ r st=>match wu r first,wu r iI with
  |some a,some l=>some (.func f a l,st)
  |_,_=>none
def Mq:ff:=fun _ _ st=>some (.map st.n,st.alloc (.map []))
def GG(bytes:Nat)(n:Src):ff:=fun _ r st=>match n.ev r with
  |some (.int _ k)=>if k<0\/k > IntKind.i64.max\/bytes*k > 2^48-112 then none else some (.chan st.n,st.alloc (.chan k.toNat []))
  |_=>none
def ED(elem:TypeId)(size:Nat)(bytes:Nat)(zero:List V)(len:Src)(cap:Src):ff:=fun _ r st=>match len.ev r,cap.ev r with
  |some (.int _ l),some (.int _ c)=>
   if 0<=l/\l<=c/\bytes*c<=2^47/\c<2^62/\size=zero.length/\size≠0 then
    some (.slice st.n 0 l.toNat (some c.toNat) size,st.alloc (.cells (du zero c.toNat) elem true)) else none
  |_,_=>none
def AO(x:Src)(lo:Option Src)(hi:Option Src):ff:=fun _ r st=>match x.ev r,aC r lo,aC r hi with
  |some (.str s),some lo,some hi=>
   match dX hi s.length s.length with
   |some h=>match dX lo h 0 with
    |some l=>some (.str ((s.take h).drop l),st)
    |none=>none
   |none=>none
  |_,_,_=>none
def rX(size:Nat)(x:Src)(lo:Option Src)(hi:Option Src)(mx:Option Src):ff:=fun _ r st=>match x.ev r,aC r lo,aC r hi,aC r mx with
  |some .aa,some lo,some hi,some mx=>
   match dX mx 0 0 with
   |some _=>match dX hi 0 0 with
    |some _=>match dX lo 0 0 with
     |some _=>if mx.isSome&&hi.isNone then none else some (.aa,st)
     |none=>none
    |none=>none
   |none=>none
  |some .empty,some lo,some hi,some none=>
   match dX hi 0 0 with
   |some _=>match dX lo 0 0 with
    |some _=>some (.empty,st)
    |none=>none
   |none=>none
  |some (.slice i o len (some c) sz),some lo,some hi,some mx=>
   if sz≠size\/(mx.isSome&&hi.isNone) then none else
   match dX mx c c with
   |some m=>match dX hi m len with
    |some h=>match dX lo h 0 with
     |some l=>some (.slice i (if m=l then o else o+l*size) (h-l) (some (m-l)) sz,st)
     |none=>none
    |none=>none
   |none=>none
  |some (.slice i o len none sz),some lo,some hi,some mx=>
   if sz≠size\/size=0\/(mx.isSome&&hi.isNone) then none else
   match st.row i with
   |some (c,_,_)=>
    let k:=max len ((c.length-o)/size)
    match mx with
    |some m=>match nh m k with
     |some m=>match dX hi m len with
      |some h=>match dX lo h 0 with
       |some l=>some (.slice i (if m=l then o else o+l*size) (h-l) (some (m-l)) sz,st)
       |none=>none
      |none=>none
     |none=>none
    |none=>match dX hi k len with
     |some h=>match dX lo h 0 with
      |some l=>if l<k then some (.slice i (o+l*size) (h-l) none sz,st) else some (.empty,st)
      |none=>none
     |none=>none
   |none=>none
  |_,_,_,_=>none
def BQ(n:Nat)(size:Nat)(x:Src)(lo:Option Src)(hi:Option Src)(mx:Option Src):ff:=fun _ r st=>match x.ev r,aC r lo,aC r hi,aC r mx with
  |some (.ptr i o),some lo,some hi,some none=>
   match dX hi n n with
   |some h=>match dX lo h 0 with
    |some l=>match st.row i with
     |some (c,_,_)=>if o+n*size<=c.length/\mx.isNone then some (.slice i (if n=l then o else o+l*size) (h-l) (some (n-l)) size,st) else none
     |none=>none
    |none=>none
   |none=>none
  |_,_,_,_=>none
def Jv(off:Nat)(x:Src):ff:=fun _ r st=>match x.ev r with
  |some (.ptr i o)=>some (.ptr i (o+off),st)
  |_=>none
def Jw(off:Nat)(n:Option Nat)(x:Src):ff:=fun _ r st=>match x.ev r with
  |some (.agg cs)=>match aS cs off n with
   |some v=>some (v,st)
   |none=>none
  |_=>none
def EE(len:Nat)(size:Nat)(x:Src)(i:Src):ff:=fun _ r st=>match x.ev r,i.ev r with
  |some (.ptr a o),some (.int _ k)=>if 0<=k/\k<(len:Int) then some (.ptr a (o+k.toNat*size),st) else none
  |_,_=>none
def GH(size:Nat)(x:Src)(i:Src):ff:=fun _ r st=>match x.ev r,i.ev r with
  |some (.slice a o len _ _),some (.int _ k)=>if 0<=k/\k<(len:Int) then some (.ptr a (o+k.toNat*size),st) else none
  |_,_=>none
def Mr(len:Nat)(size:Nat)(n:Option Nat)(x:Src)(i:Src):ff:=fun _ r st=>match x.ev r,i.ev r with
  |some (.agg cs),some (.int _ k)=>if 0<=k/\k<(len:Int) then match aS cs (k.toNat*size) n with
    |some v=>some (v,st)
    |none=>none
   else none
  |_,_=>none
def GI(x:Src)(i:Src):ff:=fun _ r st=>match x.ev r,i.ev r with
  |some (.str s),some (.int _ k)=>if 0<=k then match s[k.toNat]? with
    |some b=>some (.int .u8 b.toNat,st)
    |none=>none
   else none
  |_,_=>none
def Jx(kd:mW)(zero:V)(m:Src)(k:Src)(ok:Bool):ff:=fun _ r st=>match m.ev r,k.ev r with
  |some m,some k=>
   if kd.fits k then
    match (match m with
     |.bW=>some []
     |.map i=>match st.h.get i with
      |some (.map es)=>some es
      |_=>none
     |_=>none)with
    |some es=>match fY kd k es 0 with
     |some (some (_,v))=>some (if ok then .aU [v,.bool true] else v,st)
     |some none=>some (if ok then .aU [zero,.bool false] else zero,st)
     |none=>none
    |none=>none
   else none
  |_,_=>none
def GJ(kd:mW)(m:Src)(k:Src)(v:Src):ff:=fun _ r st=>match m.ev r,k.ev r,v.ev r with
  |some (.map i),some k,some v=>
   if kd.fits k then
    match st.h.get i with
    |some (.map es)=>match fY kd k es 0 with
     |some (some (j,_))=>some (.aU [],st.write i (.map (es.set j (k,v))))
     |some none=>some (.aU [],st.write i (.map (es++[(k,v)])))
     |none=>none
    |_=>none
   else none
  |_,_,_=>none
def Zur(kd:mW)(zero:V)(m:Src)(k:Src):ff:=fun _ r st=>match m.ev r,k.ev r with
  |some (.map i),some k=>
   if kd.fits k then
    match st.h.get i with
    |some (.map es)=>match fY kd k es 0 with
     |some (some (j,v))=>some (.aU [v,.int .i64 j],st.write i (.map (es.set j (k,v))))
     |some none=>some (.aU [zero,.int .i64 es.length],st.write i (.map (es++[(k,zero)])))
     |none=>none
    |_=>none
   else none
  |_,_=>none
def Zpc(m:Src)(s:Src)(v:Src):ff:=fun _ r st=>match m.ev r,s.ev r,v.ev r with
  |some (.map i),some (.int _ j),some v=>
   match st.h.get i with
   |some (.map es)=>if 0<=j then match es[j.toNat]? with
     |some (k,_)=>some (.aU [],st.write i (.map (es.set j.toNat (k,v))))
     |none=>none
    else none
   |_=>none
  |_,_,_=>none
def Jy(x:Src):ff:=fun _ r st=>match x.ev r with
  |some (.str s)=>some (.ptr st.n 0,st.alloc (.fm s 0))
  |_=>none
def Jz(it:Src):ff:=fun _ r st=>match it.ev r with
  |some (.ptr i 0)=>match st.h.get i with
   |some (.fm s pos)=>
    if pos<s.length then
     let cw:=Utf8.decode ⟨s.toArray⟩ pos
     some (.aU [.bool true,.int .i64 pos,.int .i32 cw.1],st.write i (.fm s (pos+cw.2)))
    else some (.aU [.bool false],st)
   |_=>none
  |_=>none
def JA(x:Src)(i:Nat):ff:=fun _ r st=>match x.ev r with
  |some (.aU vs)=>match vs[i]? with
   |some v=>some (v,st)
   |none=>none
  |_=>none
def Ag(k:Nat)(x:Src):ff:=fun _ r st=>match k,x.ev r with
  |0,some (.str s)=>some (.int .i64 s.length,st)
  |1,some .aa=>some (.int .i64 0,st)
  |1,some .empty=>some (.int .i64 0,st)
  |1,some (.slice _ _ n _ _)=>some (.int .i64 n,st)
  |2,some .bW=>some (.int .i64 0,st)
  |2,some (.map i)=>match st.h.get i with
   |some (.map es)=>some (.int .i64 es.length,st)
   |_=>none
  |_,_=>none
def OZ(n:Nat):ff:=fun _ _ st=>some (.int .i64 n,st)
def Ms(x:Src):ff:=fun _ r st=>match x.ev r with
  |some .aa=>some (.int .i64 0,st)
  |some (.slice _ _ _ (some c) _)=>some (.int .i64 c,st)
  |_=>none
def AP(args:List Src):ff:=fun _ r st=>match wu r args with
  |some l=>match EA l with
   |some v=>some (v,st)
   |none=>none
  |none=>none
def tG(args:List Src):ff:=fun _ r st=>match wu r args with
  |some l=>match Dl l with
   |some v=>some (v,st)
   |none=>none
  |none=>none
def EF(size:Nat)(bytes:Nat)(elem:TypeId)(_:List V)(s:Src)(x:Src):ff:=fun _ r st=>match s.ev r,x.ev r with
  |some s,some x=>mR st size bytes elem s x
  |_,_=>none
def EG(size:Nat)(d:Src)(s:Src):ff:=fun _ r st=>match d.ev r,s.ev r with
  |some d,some s=>match fO st size s with
   |some (n,xs)=>match d with
    |.aa=>some (.int .i64 0,st)
    |.slice i o len _ sz=>
     if sz≠size\/size=0 then none else
     let k:=min n len
     if k=0 then some (.int .i64 0,st) else
     match st.row i with
     |some (c,e,true)=>if o+k*size<=c.length then some (.int .i64 k,st.write i (.cells (ae c o (xs.take (k*size))) e true)) else none
     |_=>none
    |_=>none
   |none=>none
  |_,_=>none
def Mt(size:Nat)(zero:List V)(s:Src):ff:=fun _ r st=>match s.ev r with
  |some .aa=>some (.aU [],st)
  |some .empty=>some (.aU [],st)
  |some (.slice i o len _ sz)=>
   if len=0 then some (.aU [],st) else
   if sz≠size\/size=0\/zero.length≠size then none else
   match st.row i with
   |some (c,e,true)=>if o+len*size<=c.length then some (.aU [],st.write i (.cells (ae c o (du zero len)) e true)) else none
   |_=>none
  |_=>none
def AQ(f:Src)(args:List Src):ff:=fun call r st=>match f.ev r,wu r args with
  |some f,some l=>call f l st
  |_,_=>none
def JB(e:Ext)(args:List Src):ff:=fun _ r st=>match e,wu r args with
  |.same,some [v]=>some (v,st)
  |e,some l=>match EB e l with
   |some v=>some (v,st)
   |none=>none
  |_,none=>none
def GK(e:Option (TypeId×Nat))(x:Src):ff:=fun _ r st=>match x.ev r with
  |some (.ptr i 0)=>match st.row i with
   |some (c,e',true)=>match e with
    |none=>if 0<c.length then some (.ptr i 0,st) else none
    |some (u,z)=>if e'=u/\0<z/\z<=c.length then some (.ptr i 0,st) else none
   |_=>none
  |_=>none
def Mv(x:Src):ff:=fun _ r st=>match x.ev r with
  |some (.slice i o len _ _)=>if 0<len then some (.ptr i o,st) else none
  |_=>none
def T0:V->Option UInt8
 |.int .u8 n=>if 0<=n/\n<256 then some n.toNat.toUInt8 else none
 |_=>none
def JC:List V->Option (List UInt8)
 |[]=>some []
 |v::l=>match T0 v,JC l with
  |some b,some s=>some (b::s)
  |_,_=>none
def Mw(e:TypeId)(x n:Src):ff:=fun _ r st=>match x.ev r,n.ev r with
  |some (.ptr i 0),some (.int .i64 k)=>if 0<k/\k<=9223372036854775807 then
    match st.row i with
    |some (c,e',true)=>if e'=e then
      match aO c 0 k.toNat with
      |some BL=>match JC BL with
       |some s=>some (.str s,st.write i (.cells c e' false))
       |none=>none
      |none=>none
     else none
    |_=>none
   else none
  |_,_=>none
def Zxc:ff:=fun _ _ _=>none
def cH(op:iH):ff:=iH.casesOn op Jl GC Mn Jm EC Jn Jo GD Jp Jq Jr Js Mo GF Jt Mp Ju Mq GG ED AO rX BQ Jv Jw EE GH Mr GI Jx GJ Zur Zpc Jy Jz JA Ag OZ Ms AP tG EF EG Mt AQ JB GK Mv Mw Zxc
def Fr.put(fr:Fr)(d:Option Nat)(v:V):Option Fr:=
 match d with
 |some d=>if d<fr.n then some {fr with r:=fr.r.set d v} else none
 |none=>some fr
def cf(r:T V):Option (Nat×Bool)->Option Bool
 |none=>some true
 |some (t,want)=>match r.get t with
  |some (.bool b)=>some (b==want)
  |some (.aU _)=>some false
  |_=>none
def Dm(call:cQ)(o:dS)(next:Fr->St->Option (Fr×St))(fr:Fr)(st:St):Option (Fr×St):=
 match cf fr.r o.guard with
 |some true=>match cH o.op call fr.r st with
  |some (v,aB)=>match fr.put o.dst v with
   |some bK=>next bK aB
   |none=>none
  |none=>none
 |some false=>match fr.put o.dst (.aU [])with
  |some bK=>next bK st
  |none=>none
 |none=>none
def Yon(fr:Fr)(st:St):Option (Fr×St):=some (fr,st)
def dZ(call:cQ):List dS->Fr->St->Option (Fr×St)
 |[]=>Yon
 |o::rest=>Dm call o (dZ call rest)
structure FP where
 rd:Option (List Nat)
 wr:List Nat
 lo:Nat
 hi:Nat
def iH.pV:iH->Bool
 |.pP _|.pick ..|.alloc ..|.box ..|.build ..|.gg ..|.pQ _|.un ..|.dG ..|.tE _|.lK ..|.jn ..|.pS ..|.yS|.xz ..
 |.lV ..|.cG ..|.iZ ..|.field ..|.i_ ..|.bF ..|.xA ..|.bQ ..|.lZ _|.extract ..|.xB _|.cap _|.mn _|.mx _|.ext ..=>true
 |.bin .add ..|.bin .sub ..|.bin .mul ..|.bin .quo ..|.bin .rem ..|.bin .lss ..|.bin .leq ..|.bin .gtr ..|.bin .geq ..|.bin .shl ..|.bin .shr ..|.bin .and ..|.bin .or ..|.bin .xor ..|.bin .andNot ..=>true
 |_=>false
def T1(r:T V):iH->Option Nat
 |.load _ a=>match a.ev r with
  |some (.ptr i _)=>some i
  |_=>none
 |.store _ a _=>match a.ev r with
  |some (.ptr i _)=>some i
  |_=>none
 |_=>none
def q9(r:T V)(op:iH)(ws:List Nat)(lo hi:Nat):FP:=
 if op.pV then ⟨some [],[],lo,hi⟩ else
 match T1 r op with
 |some i=>if Nat.blt i lo then ⟨some [i],ws,lo,hi⟩ else ⟨none,ws,lo,hi⟩
 |none=>⟨none,ws,lo,hi⟩
def xh(i:Nat)(l:List Nat):List Nat:=if l.contains i then l else i::l
def az(n:Nat):List Nat->List Nat
 |[]=>[]
 |i::l=>if i<n then xh i (az n l) else az n l
def Dp(call:cQ)(o:dS)(next:Fr->St->Option (List FP×Fr×St))(fr:Fr)(st:St):Option (List FP×Fr×St):=
 match cf fr.r o.guard with
 |some true=>match cH o.op call fr.r {st with w:=[]} with
  |some (v,aB)=>match fr.put o.dst v with
   |some bK=>match next bK {aB with w:=az st.n aB.w++st.w} with
    |some (jf,fr'',st'')=>some (q9 fr.r o.op (az st.n aB.w) st.n aB.n::jf,fr'',st'')
    |none=>none
   |none=>none
  |none=>none
 |some false=>match fr.put o.dst (.aU [])with
  |some bK=>match next bK st with
   |some (jf,fr'',st'')=>some (⟨some [],[],st.n,st.n⟩::jf,fr'',st'')
   |none=>none
  |none=>none
 |none=>none
def Ygc(fr:Fr)(st:St):Option (List FP×Fr×St):=some ([],fr,st)
def bS(call:cQ):List dS->Fr->St->Option (List FP×Fr×St)
 |[]=>Ygc
 |o::rest=>Dp call o (bS call rest)
def EH(a:List Nat):Option (List Nat)->Bool
 |none=>!a.isEmpty
 |some b=>a.any fun i=>b.contains i
def FP.free(a b:FP):Bool:=!(EH a.wr b.rd||EH a.wr (some b.wr)||EH b.wr a.rd||b.wr.any fun i=>Nat.ble a.lo i&&Nat.blt i a.hi)
def c9(p:α->α->Bool)(xs:List α)(rW:List Nat):Bool:=
 go xs rW 0 []
where
 go:List α->List Nat->Nat->List α->Bool
  |[],_,_,_=>true
  |f::fs,ms,j,seen=>
   (c_ f (ms.headD 0) (j-1) seen)&&go fs ms.tail (j+1) (f::seen)
 c_ (f:α) (m:Nat):Nat->List α->Bool
  |_,[]=>true
  |i,g::gs=>(m.testBit i||p g f)&&c_ f m (i-1) gs
def l7(jf:List FP)(rW:List Nat):Bool:=c9 FP.free jf rW
def Src.tmps:Src->List Nat
 |.tmp t=>[t]
 |.const _=>[]
def Dq:Option Src->List Src
 |none=>[]
 |some s=>[s]
def iH.EI:iH->List Src
 |.pP x=>[x]
 |.pick c a b=>[c,a,b]
 |.alloc ..=>[]
 |.box _ x=>[x]
 |.build _ ps=>ps.map (·.2.2)
 |.gg _ _ _ _ ps=>ps.map (·.2.2)
 |.load _ a=>[a]
 |.store _ a x=>[a,x]
 |.pQ x=>[x]
 |.bin _ _ _ x y=>[x,y]
 |.un _ x=>[x]
 |.dG _ x=>[x]
 |.tE x=>[x]
 |.lK _ x=>[x]
 |.pR x=>[x]
 |.jn _ x=>[x]
 |.pS _ a c=>a++c
 |.yS=>[]
 |.xz _ n=>[n]
 |.lV _ _ _ _ l c=>[l,c]
 |.cG x lo hi=>x::(Dq lo++Dq hi)
 |.oD _ x lo hi m=>x::(Dq lo++Dq hi++Dq m)
 |.lY _ _ x lo hi m=>x::(Dq lo++Dq hi++Dq m)
 |.iZ _ x=>[x]
 |.field _ _ x=>[x]
 |.i_ _ _ x i=>[x,i]
 |.bF _ x i=>[x,i]
 |.xA _ _ _ x i=>[x,i]
 |.bQ x i=>[x,i]
 |.lookup _ _ m k _=>[m,k]
 |.xr _ m k v=>[m,k,v]
 |.Ji _ _ m k=>[m,k]
 |.Jj m s v=>[m,s,v]
 |.lZ x=>[x]
 |.tr x=>[x]
 |.extract x _=>[x]
 |.len _ x=>[x]
 |.xB _=>[]
 |.cap x=>[x]
 |.mn l=>l
 |.mx l=>l
 |.append _ _ _ _ s x=>[s,x]
 |.copy _ d s=>[d,s]
 |.clear _ _ s=>[s]
 |.call f l=>f::l
 |.ext _ l=>l
 |.Mc _ x=>[x]
 |.BH x=>[x]
 |.I3 _ x n=>[x,n]
 |.stop=>[]
def dS.reads(o:dS):List Nat:=
 (match o.guard with|some (t,_)=>[t]|none=>[])++o.op.EI.flatMap Src.tmps
def O0(d:Option Nat)(l:List Nat):Bool:=
 match d with
 |some t=>l.contains t
 |none=>false
def TL(a b:dS):Bool:=!(O0 a.dst b.reads||O0 b.dst a.reads||O0 a.dst b.dst.toList)
def Yyx(st:St)(i:Nat)(send:Option V)(zero:V):Option (V×St):=
 match st.h.get i,send with
 |some (.chan cap buf),some v=>if buf.length<cap then some (.aU [.int .i64 0,.bool false],st.write i (.chan cap (buf++[v]))) else some (.aU [.int .i64 (-1),.bool false],st)
 |some (.chan cap (v::buf)),none=>some (.aU [.int .i64 0,.bool true,v],st.write i (.chan cap buf))
 |some (.chan _ []),none=>some (.aU [.int .i64 (-1),.bool false,zero],st)
 |_,_=>none
abbrev rY:=Option Nat->ct->Fr->St->Option (Ex×Fr×St)
abbrev za:=cQ->rY->Option Nat->Fr->St->Option (Ex×Fr×St)
def Yi7:za:=fun _ _ _ fr st=>some (.normal,fr,st)
def BR(ops:List dS):za:=fun call _ _ fr st=>match dZ call ops fr st with
 |some (bK,aB)=>some (.normal,bK,aB)
 |none=>none
def BS(ops:List dS)(rW:List Nat):za:=fun call _ _ fr st=>match bS call ops fr st with
 |some (jf,bK,aB)=>match l7 jf rW with
  |true=>some (.normal,bK,aB)
  |false=>none
 |none=>none
def Dr(dst:Option Nat)(ch:Src)(send:Option Src)(zero:V)(ops:List dS):za:=fun call _ _ fr st=>
 match ch.ev fr.r,aC fr.r send with
 |some (.chan i),some sv=>match Yyx st i sv zero with
  |some (v,cg)=>match fr.put dst v with
   |some eN=>match dZ call ops eN cg with
    |some (bK,aB)=>some (.normal,bK,aB)
    |none=>none
   |none=>none
  |none=>none
 |_,_=>none
def Ds(a b:ct):za:=fun _ rec ro fr st=>match rec ro a fr st with
 |some (.normal,bK,aB)=>rec ro b bK aB
 |x=>x
def Ah(x:Src)(a b:ct):za:=fun _ rec ro fr st=>match x.ev fr.r with
 |some (.bool true)=>rec ro a fr st
 |some (.bool false)=>rec ro b fr st
 |_=>none
def Dt(id:Nat)(c:ct):za:=fun _ rec ro fr st=>match rec ro c fr st with
 |some (.exit Du,bK,aB)=>match Nat.beq Du id with
  |true=>some (.normal,bK,aB)
  |false=>some (.exit Du,bK,aB)
 |x=>x
def Dv(c:ct):za:=fun _ rec ro fr st=>match rec ro c fr st with
 |some (.normal,bK,aB)=>rec ro (.loop c) bK aB
 |x=>x
def SV(st:St):Option Nat->Option (St×Nat×List Nat)
 |none=>some (st.alloc (.defs true),st.n,[st.n])
 |some l=>match st.h.get l with
  |some (.loop R)=>some (st,R.defs,[])
  |_=>none
def V.Io:V->Bool
 |.yield _=>true
 |_=>false
def Bb(g:Src)(ps:List Nat)(assign body:ct):za:=fun call _ ro fr st=>
 match g.ev fr.r with
 |none=>none
 |some gv=>
  if gv.Io then none else
  match SV st ro with
  |none=>none
  |some (cg,d,mk)=>
   match call gv [.yield cg.n] (cg.alloc (.loop {st:=.ready,fN:=none,r:=fr.r,n:=fr.n,ps:=ps,assign:=assign,body:=body,defs:=d}))with
   |none=>none
   |some (_,fz)=>
    match fz.h.get cg.n with
    |some (.loop R)=>
     if R.st=.busy then none else
     some (match R.fN with|none=>.normal|some e=>e,{fr with marks:=mk++fr.marks},fz.write cg.n (.loop {R with st:=.exhausted}))
    |_=>none
def Ypg(id:Nat):za:=fun _ _ _ fr st=>some (.exit id,fr,st)
def Yi8(c:ct):za:=fun _ rec ro fr st=>rec ro c fr st
def Yx0:za:=fun _ _ _ fr st=>some (.ret,fr,st)
def My:za:=fun _ _ _ _ _=>none
def oE(c:ct):za:=ct.casesOn c Yi7 BR BS Dr Ds Ah Dt Dv Bb Ypg Yi8 Yx0 My
def T2:rY:=fun _ _ _ _=>none
def eJ(call:cQ):Nat->rY
 |0=>T2
 |f+1=>fun ro c=>oE c call (eJ call f) ro
def AR(r:T V)(i:Nat):List V->T V
 |[]=>r
 |v::vs=>AR (r.set i v) (i+1) vs
def DX(r:T V)(n:Nat):List Nat->List V->Option (T V)
 |[],[]=>some r
 |p::ps,v::vs=>if p<n then DX (r.set p v) n ps vs else none
 |_,_=>none
def gF(r:T V)(st:St):List FY->Option (List V)
 |[]=>some []
 |.tmp t::rest=>match r.get t,gF r st rest with
  |some v,some vs=>some (v::vs)
  |_,_=>none
 |.cell t n::rest=>match r.get t,gF r st rest with
  |some (.ptr i o),some vs=>match st.row i with
   |some (c,_,_)=>match aS c o n with
    |some v=>some (v::vs)
    |none=>none
   |none=>none
  |_,_=>none
def shut(st:St):List Nat->Option St
 |[]=>some st
 |d::ds=>match st.h.get d with
  |some (.defs true)=>shut (st.write d (.defs false)) ds
  |_=>none
def Lf:Option Ex->LoopState
 |none=>.ready
 |some _=>.done
def sM:Ex->Option Ex
 |.normal=>none
 |e=>some e
def GL:List V->V
 |[v]=>v
 |vs=>.aU vs
def Zx9(mf:nD)(st:St):Option (Ex×Fr×St)->Option (V×St)
 |some (.exit _,_,_)=>none
 |some (_,fr,cg)=>match shut cg fr.marks with
  |none=>none
  |some fz=>match gF fr.r fz mf.results with
   |some vs=>some (GL vs,{fz with w:=az st.n fz.w++st.w})
   |none=>none
 |none=>none
def EJ(mf:nD)(code:rY)(args:List V)(st:St):Option (V×St):=
 if mf.ntmps<args.length then none else
 Zx9 mf st (code none mf.body {r:=AR .nil 0 args,n:=mf.ntmps,marks:=[]} {st with w:=[]})
def DY(code:rY)(l:Nat)(args:List V)(st:St):Option (V×St):=
 match st.h.get l with
 |some (.loop R)=>match DX R.r R.n R.ps args with
  |none=>none
  |some r0=>match code (some l) R.assign {r:=r0,n:=R.n,marks:=[]} st with
   |some (.normal,eN,cg)=>match cg.h.get l with
    |some (.loop R1)=>
     if R1.st=.ready then
      match code (some l) R.body eN (cg.write l (.loop {R1 with st:=.busy}))with
      |some (e,_,fz)=>match fz.h.get l with
       |some (.loop R2)=>some (.bool (sM e).isNone,fz.write l (.loop {R2 with st:=Lf (sM e),fN:=sM e}))
       |_=>none
      |none=>none
     else none
    |_=>none
   |_=>none
 |_=>none
def Ai(eg:Nat->Option nD)(code:rY):cQ
 |.func f first iI,args,st=>match eg f with
  |some mf=>EJ mf code (first++args++iI) st
  |none=>none
 |.yield l,args,st=>DY code l args st
 |_,_,_=>none
def Zts:cQ:=fun _ _ _=>none
end Go.Mx
