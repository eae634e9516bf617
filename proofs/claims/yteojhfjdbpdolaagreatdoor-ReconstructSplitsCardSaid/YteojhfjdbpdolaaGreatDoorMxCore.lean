/-The abstract machine M-/
import Derived.RangeFuncLeaves
import Derived.OrdersIn
import Derived.RangeFuncRecord
set_option linter.all false
namespace Go.Mx
abbrev F8:=@List.drop_eq_getElem_cons
abbrev F9:=@List.mem_or_eq_of_mem_set
abbrev s_:=@Nat.not_lt
abbrev Jc:=@Option.ite_none_left_eq_some
abbrev xg:=@Nat.zero_add
abbrev DZ:=@Int.mul_ediv_add_emod
abbrev yJ:=@List.drop_zero
abbrev uR:=@Nat.le_succ
abbrev Cd:=@Rat.num_divInt_den
abbrev IS:=@Nat.mul_lt_mul_of_pos_right
abbrev uo:=@Nat.div_add_mod
abbrev D3:=@Int.mul_le_mul_of_nonneg_right
abbrev zY:=@List.length_singleton
abbrev Bl:=@List.getElem?_cons_zero
abbrev wU:=@List.append_nil
abbrev vk:=@Nat.div_le_self
abbrev uf:=@Nat.mul_le_mul
abbrev u9:=@List.mem_range
abbrev u_:=@Int.natAbs_mul
abbrev wM:=@List.length_set
abbrev zA:=@List.map_congr_left
abbrev yn:=@Nat.mod_eq_of_lt
abbrev xU:=@List.take_length
abbrev D4:=@Int.tmod_eq_emod_of_nonneg
abbrev xh:=@Int.mul_nonneg
abbrev yX:=@Nat.le_of_not_lt
abbrev uv:=@Int.le_of_lt
abbrev Ga:=@Array.getD_eq_getD_getElem?
abbrev Ck:=@Array.getElem?_toList
abbrev Cl:=@List.take_append_drop
abbrev tf:=@Nat.mul_add
abbrev D5:=@List.getElem?_cons_succ
abbrev D6:=@Int.eq_ofNat_of_zero_le
abbrev xY:=@Int.natAbs_neg
abbrev tX:=@Nat.zero_le
abbrev zZ:=@Nat.div_eq_of_lt
abbrev D7:=@Nat.mul_assoc
abbrev K6:=@Int.ofNat_eq_natCast
abbrev Jd:=@List.map_toArray
abbrev Wa:=@Array.all_eq_true_iff_forall_mem
abbrev Je:=@Int.lt_of_not_ge
abbrev D8:=@Nat.pow_zero
abbrev Qi:=@Nat.gcd_pos_of_pos_right
abbrev Jf:=@Int.natCast_mul
abbrev Jg:=@Int.mul_ne_zero
abbrev Qj:=@Nat.eq_of_beq_eq_true
abbrev Bg:=@Nat.mul_lt_mul''
abbrev Gb:=@Nat.div_div_eq_div_mul
abbrev Cm:=@Nat.lt_of_succ_le
abbrev DT:=@List.getElem?_range
abbrev yY:=@List.map_nil
abbrev Cn:=@Nat.le_max_right
abbrev Co:=@List.cons_append
abbrev D9:=@Int.emod_lt_of_pos
abbrev Cq:=@Nat.le_max_left
abbrev Cr:=@Nat.div_lt_self
abbrev Gc:=@Nat.pow_le_pow_left
abbrev yZ:=@Nat.mul_one
abbrev yK:=@Nat.mul_pos
abbrev Ea:=@Int.le_of_not_gt
abbrev Gd:=@Nat.eq_zero_or_pos
abbrev Ge:=@List.mem_replicate
abbrev Jh:=@Nat.le_div_iff_mul_le
abbrev Cf:=@Bool.false_and
abbrev Qf:=@Array.getElem?_setIfInBounds_ne
abbrev z_:=@Nat.pow_pos
abbrev IQ:=@List.mem_of_mem_drop
abbrev Eb:=@Int.emod_nonneg
abbrev Gf:=@Bool.not_eq_true'
abbrev Qk:=@List.dropLast_concat_getLast
abbrev Gg:=@Bool.or_eq_true
abbrev K7:=@Nat.mul_mod_mul_right
abbrev Ql:=@List.contains_iff_mem
abbrev Qm:=@Nat.ble_eq_true_of_le
abbrev Qn:=@List.singleton_append
abbrev Qo:=@Nat.mul_div_mul_right
abbrev ki:=@Option.map_eq_some_iff
abbrev iz:=@List.getElem?_take
abbrev iI:=@List.length_append
abbrev fX:=@Option.getD_some
abbrev jB:=@Nat.mul_le_mul_right
abbrev gD:=@List.length_take
abbrev jr:=@Nat.mul_le_mul_left
abbrev qE:=@List.eq_nil_of_length_eq_zero
abbrev rb:=@Int.mul_le_mul_of_nonneg_left
abbrev iE:=@Bool.and_eq_true
abbrev al:=@Option.some.injEq
abbrev ak:=@if_neg
abbrev aM:=@Nat.le_refl
abbrev av:=@if_pos
abbrev cy:=@List.getElem?_eq_getElem
abbrev bo:=@List.length_cons
abbrev cG:=@List.mem_of_getElem?
abbrev bu:=@Prod.mk.injEq
abbrev d_:=@List.getElem?_set_ne
abbrev eJ:=@List.getElem?_eq_none
abbrev dR:=@Int.natAbs_natCast
abbrev fe:=@List.take_of_length_le
abbrev dL:=@List.length_map
abbrev eX:=@Nat.lt_of_lt_of_le
abbrev iM:=@List.getElem?_append_left
abbrev ff:=@List.getElem?_drop
abbrev gG:=@List.getElem?_set_self
abbrev eY:=@List.getElem?_map
abbrev dt:=@List.mem_map
abbrev fH:=@Bool.false_eq_true
abbrev kY:=@List.getElem?_append_right
abbrev wW:=@List.mem_of_mem_take
abbrev py:=@List.map_cons
abbrev tg:=@Nat.lt_of_not_le
abbrev kO:=@Nat.mod_lt
abbrev yC:=@List.drop_eq_nil_of_le
abbrev Bm:=@Int.tdiv_eq_ediv_of_nonneg
abbrev uJ:=@List.take_add_one
abbrev wR:=@List.mem_singleton
abbrev vn:=@Nat.lt_succ_self
abbrev uQ:=@List.length_drop
abbrev iQ:=@List.cons.injEq
abbrev gg:=@Nat.pow_succ
abbrev lA:=@List.ext_getElem?
abbrev oU:=@List.mem_cons_of_mem
abbrev pU:=@Nat.div_lt_iff_lt_mul
abbrev lB:=@List.all_eq_true
abbrev qS:=@Nat.pow_le_pow_right
abbrev ph:=@List.mem_cons_self
abbrev jb:=@Nat.mul_comm
abbrev mE:=@List.mem_append
abbrev oV:=@Option.some.inj
abbrev wP:=@List.getElem?_eq_some_iff
abbrev qP:=@Nat.lt_of_le_of_lt
abbrev iZ:=@Nat.add_mul
abbrev tc:=@List.getElem?_of_mem
abbrev kW:=@List.mem_cons
abbrev kv:=@Nat.add_zero
abbrev vo:=@Nat.le_of_ble_eq_true
abbrev k_:=@Nat.le_trans
abbrev ke:=@Nat.pow_add
abbrev qW:=@List.drop_length
abbrev pL:=@Option.map_some
abbrev pV:=@Nat.min_eq_left
abbrev td:=@List.append_assoc
abbrev oW:=@Nat.add_assoc
abbrev qQ:=@Nat.two_pow_pos
inductive T (α:Type) where
 |nil
 |node (l:T α) (v:Option α) (r:T α)
def T.get{α:Type}:T α->Nat->Option α
 |.nil,_=>none
 |.node l v r,n=>
  match n with
  |0=>v
  |k+1=>match k%2 with
   |0=>l.get (k/2)
   |_=>r.get (k/2)
def T.fm{α:Type}:Nat->T α->Nat->α->T α
 |0,t,_,_=>t
 |f+1,.nil,n,a=>
  match n with
  |0=>.node .nil (some a) .nil
  |k+1=>match k%2 with
   |0=>.node (T.fm f .nil (k/2) a) none .nil
   |_=>.node .nil none (T.fm f .nil (k/2) a)
 |f+1,.node l v r,n,a=>
  match n with
  |0=>.node l (some a) r
  |k+1=>match k%2 with
   |0=>.node (T.fm f l (k/2) a) v r
   |_=>.node l v (T.fm f r (k/2) a)
def T.set{α:Type}(t:T α)(n:Nat)(a:α):T α:=T.fm (n+1) t n a
def T.Aa{α:Type}(a:α):∀(f:Nat) (t:T α) (n m:Nat),n<f->(T.fm f t n a).get m=if m=n then some a else t.get m:=by
 intro f
 induction f with
 |zero=>intro t n m h;omega
 |succ f ih=>
  intro t n m h
  cases t with
  |nil=>
   cases n with
   |zero=>
    cases m with
    |zero=>simp[T.fm,T.get]
    |succ j=>simp only[T.fm,T.get];split<;>simp
   |succ k=>
    have hk:k/2<f:=by omega
    have h2:k%2=0\/k%2=1:=by omega
    rcases h2 with h2|h2
    ·cases m with
     |zero=>simp[T.fm,T.get,h2]
     |succ j=>
      have hj:j%2=0\/j%2=1:=by omega
      rcases hj with hj|hj
      ·simp only[T.fm,T.get,h2,hj,ih _ _ _ hk]
       by_cases e:j/2=k/2
       ·have:j=k:=by omega
        simp[this]
       ·have:¬j=k:=by intro e2;exact e (by rw[e2])
        simp[e,this]
      ·have:¬j=k:=by omega
       simp[T.fm,T.get,h2,hj,this]
    ·cases m with
     |zero=>simp[T.fm,T.get,h2]
     |succ j=>
      have hj:j%2=0\/j%2=1:=by omega
      rcases hj with hj|hj
      ·have:¬j=k:=by omega
       simp[T.fm,T.get,h2,hj,this]
      ·simp only[T.fm,T.get,h2,hj,ih _ _ _ hk]
       by_cases e:j/2=k/2
       ·have:j=k:=by omega
        simp[this]
       ·have:¬j=k:=by intro e2;exact e (by rw[e2])
        simp[e,this]
  |node l v r=>
   cases n with
   |zero=>cases m<;>simp[T.fm,T.get]
   |succ k=>
    have hk:k/2<f:=by omega
    have h2:k%2=0\/k%2=1:=by omega
    rcases h2 with h2|h2
    ·cases m with
     |zero=>simp[T.fm,T.get,h2]
     |succ j=>
      have hj:j%2=0\/j%2=1:=by omega
      rcases hj with hj|hj
      ·simp only[T.fm,T.get,h2,hj,ih _ _ _ hk]
       by_cases e:j/2=k/2
       ·have:j=k:=by omega
        simp[this]
       ·have:¬j=k:=by intro e2;exact e (by rw[e2])
        simp[e,this]
      ·have:¬j=k:=by omega
       simp[T.fm,T.get,h2,hj,this]
    ·cases m with
     |zero=>simp[T.fm,T.get,h2]
     |succ j=>
      have hj:j%2=0\/j%2=1:=by omega
      rcases hj with hj|hj
      ·have:¬j=k:=by omega
       simp[T.fm,T.get,h2,hj,this]
      ·simp only[T.fm,T.get,h2,hj,ih _ _ _ hk]
       by_cases e:j/2=k/2
       ·have:j=k:=by omega
        simp[this]
       ·have:¬j=k:=by intro e2;exact e (by rw[e2])
        simp[e,this]
def T.ag{α:Type}(t:T α)(n m:Nat)(a:α):(t.set n a).get m=if m=n then some a else t.get m:=
 T.Aa a (n+1) t n m (vn n)
inductive V where
 |bool (b:Bool)
 |int (k:IntKind) (n:Int)
 |vf (k:FloatKind) (bits:Nat)
 |str (s:List UInt8)
 |bF
 |ptr (i o:Nat)
 |aa
 |slice (i o len:Nat) (cap:Option Nat) (sz:Nat)
 |empty
 |bN
 |map (i:Nat)
 |bR
 |chan (i:Nat)
 |func (f:FuncId) (first cap:List V)
 |yield (i:Nat)
 |bD
 |iface (t:TypeId) (v:V)
 |a_
 |agg (l:List V)
 |aX (l:List V)
instance:Inhabited V:=⟨.aX []⟩
def V.cells:V->List V
 |.agg l=>l
 |v=>[v]
def V.one:V->Bool
 |.agg _|.aX _=>false
 |_=>true
inductive Src where
 |tmp (t:Nat)
 |const (v:V)
inductive PK where
 |bool|int|str|ptr|slice|map|func|chan|iface
inductive sO where
 |bX (k:PK)
 |node (parts:List (Nat×Option Nat×sO))
inductive kL where
 |int (k:IntKind)
 |str
inductive Ext where
 |gH|jC|same|bW|lE
inductive gh where
 |kh (x:Src)
 |pick (c a b:Src)
 |alloc (zero:List V) (elem:TypeId)
 |box (elem:TypeId) (x:Src)
 |build (zero:List V) (parts:List (Nat×Nat×Src))
 |eN (elem:TypeId) (size len:Nat) (zero:List V) (parts:List (Nat×Nat×Src))
 |load (n:Option Nat) (a:Src)
 |store (n:Nat) (a x:Src)
 |nZ (x:Src)
 |bin (op:BinOp) (t:sO) (ng:Bool) (x y:Src)
 |un (op:UnOp) (x:Src)
 |cW (k:IntKind) (x:Src)
 |re (x:Src)
 |jD (elem:TypeId) (x:Src)
 |n_ (x:Src)
 |g_ (t:TypeId) (x:Src)
 |ja (f:FuncId) (first gj:List Src)
 |xd
 |vt (bytes:Nat) (n:Src)
 |jE (elem:TypeId) (size bytes:Nat) (zero:List V) (len cap:Src)
 |cj (x:Src) (lo hi:Option Src)
 |mK (size:Nat) (x:Src) (lo hi mx:Option Src)
 |jF (n size:Nat) (x:Src) (lo hi mx:Option Src)
 |iP (off:Nat) (x:Src)
 |field (off:Nat) (n:Option Nat) (x:Src)
 |gI (len size:Nat) (x i:Src)
 |fg (size:Nat) (x i:Src)
 |vu (len size:Nat) (n:Option Nat) (x i:Src)
 |bI (x i:Src)
 |lookup (kd:kL) (zero:V) (m k:Src) (ok:Bool)
 |vi (kd:kL) (m k v:Src)
 |Gh (kd:kL) (zero:V) (m k:Src)
 |Gi (m s v:Src)
 |jG (x:Src)
 |qY (it:Src)
 |extract (x:Src) (i:Nat)
 |len (k:Nat) (x:Src)
 |vw (n:Nat)
 |cap (x:Src)
 |mn (args:List Src)
 |mx (args:List Src)
 |append (size bytes:Nat) (elem:TypeId) (zero:List V) (s x:Src)
 |copy (size:Nat) (d s:Src)
 |clear (size:Nat) (zero:List V) (s:Src)
 |call (f:Src) (args:List Src)
 |ext (e:Ext) (args:List Src)
 |I9 (e:Option (TypeId×Nat)) (x:Src)
 |zU (x:Src)
 |F0 (e:TypeId) (x n:Src)
 |stop
structure dw where
 dst:Option Nat
 op:gh
 guard:Option (Nat×Bool)
inductive bU where
 |skip
 |dN (ops:List dw)
 |du (ops:List dw) (pW:List Nat)
 |yl (dst:Option Nat) (ch:Src) (send:Option Src) (zero:V) (ops:List dw)
 |seq (a b:bU)
 |cond (c:Src) (a b:bU)
 |block (id:Nat) (c:bU)
 |loop (c:bU)
 |q8 (g:Src) (ps:List Nat) (assign body:bU)
 |exit (id:Nat)
 |scope (c:bU)
 |ret
 |stop
inductive F4 where
 |tmp (t:Nat)
 |cell (t:Nat) (n:Option Nat)
structure lC where
 ntmps:Nat
 results:List F4
 body:bU
inductive Ex where
 |normal
 |exit (id:Nat)
 |ret
structure Yul where
 st:LoopState
 iH:Option Ex
 r:T V
 n:Nat
 ps:List Nat
 assign:bU
 body:bU
 defs:Nat
inductive O where
 |cells (c:List V) (elem:TypeId) (rw:Bool)
 |map (es:List (V×V))
 |chan (cap:Nat) (buf:List V)
 |eG (s:List UInt8) (pos:Nat)
 |loop (l:Yul)
 |defs (Wb:Bool)
 |dead
def O.wr:O->Bool
 |.cells _ _ rw=>rw
 |.dead=>false
 |_=>true
def O.live:O->Bool
 |.dead=>false
 |_=>true
structure St where
 h:T O
 n:Nat
 w:List Nat
def St.alloc(st:St)(o:O):St:={st with h:=st.h.set st.n o,n:=st.n+1}
def St.write(st:St)(i:Nat)(o:O):St:={st with h:=st.h.set i o,w:=i::st.w}
structure Fr where
 r:T V
 n:Nat
 marks:List Nat
def Src.ev(r:T V):Src->Option V
 |.tmp t=>r.get t
 |.const v=>some v
def uw(r:T V):List Src->Option (List V)
 |[]=>some []
 |x::xs=>match x.ev r,uw r xs with
  |some v,some vs=>some (v::vs)
  |_,_=>none
def aB(r:T V):Option Src->Option (Option V)
 |none=>some none
 |some x=>match x.ev r with
  |some v=>some (some v)
  |none=>none
def aF{α:Type}(c:List α)(o n:Nat):Option (List α):=if o+n<=c.length then some ((c.drop o).take n) else none
def ad{α:Type}(c:List α)(o:Nat)(vs:List α):List α:=c.take o++vs++c.drop (o+vs.length)
def Bn(cells:List V):List (Nat×Nat×V)->Option (List V)
 |[]=>some cells
 |(off,size,v)::rest=>
  if v.cells.length=size/\off+size<=cells.length then Bn (ad cells off v.cells) rest else none
def Bo(r:T V):List (Nat×Nat×Src)->Option (List (Nat×Nat×V))
 |[]=>some []
 |(o,s,x)::rest=>match x.ev r,Bo r rest with
  |some v,some vs=>some ((o,s,v)::vs)
  |_,_=>none
def aO(cs:List V)(off:Nat):Option Nat->Option V
 |none=>cs[off]?
 |some n=>match aF cs off n with
  |some l=>some (.agg l)
  |none=>none
def aG(ng:Bool):PK->V->V->Option Bool
 |.bool,.bool a,.bool b=>some (a==b)
 |.int,.int k a,.int k' b=>if k=k' then some (a==b) else none
 |.str,.str a,.str b=>some (a==b)
 |.ptr,.bF,.bF=>some true
 |.ptr,.bF,.ptr _ _=>some false
 |.ptr,.ptr _ _,.bF=>some false
 |.ptr,.ptr i o,.ptr j p=>if i=j/\o=p then some true else none
 |.slice,.aa,.aa=>some true
 |.slice,.aa,.slice ..=>some false
 |.slice,.slice ..,.aa=>some false
 |.slice,.aa,.empty=>some false
 |.slice,.empty,.aa=>some false
 |.map,.bN,.bN=>some true
 |.map,.bN,.map _=>some false
 |.map,.map _,.bN=>some false
 |.func,.bD,.bD=>some true
 |.func,.bD,.func ..=>some false
 |.func,.func ..,.bD=>some false
 |.chan,.bR,.bR=>some true
 |.chan,.bR,.chan _=>some false
 |.chan,.chan _,.bR=>some false
 |.iface,.a_,.a_=>if ng then some true else none
 |.iface,.a_,.iface ..=>some false
 |.iface,.iface ..,.a_=>some false
 |_,_,_=>none
mutual
def xj(ng:Bool):sO->V->V->Option Bool
 |.bX k,x,y=>aG ng k x y
 |.node ps,.agg xs,.agg ys=>K8 ps xs ys
 |_,_,_=>none
def K8:List (Nat×Option Nat×sO)->List V->List V->Option Bool
 |[],_,_=>some true
 |(off,n,t)::rest,xs,ys=>
  match aO xs off n,aO ys off n with
  |some x,some y=>match xj false t x y with
   |some true=>K8 rest xs ys
   |some false=>some false
   |none=>none
  |_,_=>none
end
def bj(k:IntKind)(n:Int):Int:=
 match k,n with
 |.i64,.ofNat a=>match Nat.blt a 9223372036854775808 with
  |true=>.ofNat a
  |false=>IntKind.wrap .i64 (.ofNat a)
 |.i64,.negSucc a=>match Nat.blt a 9223372036854775808 with
  |true=>.negSucc a
  |false=>IntKind.wrap .i64 (.negSucc a)
 |.u64,.ofNat a=>.ofNat (Nat.mod a 18446744073709551616)
 |.u8,.ofNat a=>.ofNat (Nat.mod a 256)
 |.i32,.ofNat a=>match Nat.blt a 2147483648 with
  |true=>.ofNat a
  |false=>IntKind.wrap .i32 (.ofNat a)
 |.u32,.ofNat a=>.ofNat (Nat.mod a 4294967296)
 |k,n=>k.wrap n
def Ab(k:IntKind)(n:Int):bj k n=k.wrap n:=by
 unfold bj
 split
 ·rename_i a
  split
  ·rename_i h
   have h':a<9223372036854775808:=Cm (vo h)
   simp only[IntKind.wrap,IntKind.bits,IntKind.signed,K6]
   simp;omega
  ·rfl
 ·rename_i a
  split
  ·rename_i h
   have h':a<9223372036854775808:=Cm (vo h)
   have e:(Int.negSucc a)= -(a:Int)-1:=by omega
   simp only[IntKind.wrap,IntKind.bits,IntKind.signed,e]
   simp;omega
  ·rfl
 ·rename_i a
  show Int.ofNat (a%18446744073709551616)=_
  simp only[IntKind.wrap,IntKind.bits,IntKind.signed,K6]
  simp
 ·rename_i a
  show Int.ofNat (a%256)=_
  simp only[IntKind.wrap,IntKind.bits,IntKind.signed,K6]
  simp
 ·rename_i a
  split
  ·rename_i h
   have h':a<2147483648:=Cm (vo h)
   simp only[IntKind.wrap,IntKind.bits,IntKind.signed,K6]
   simp;omega
  ·rfl
 ·rename_i a
  show Int.ofNat (a%4294967296)=_
  simp only[IntKind.wrap,IntKind.bits,IntKind.signed,K6]
  simp
 ·rfl
def rf(op:BinOp)(k:IntKind)(a b:Int):Option V:=
 match op with
 |.add=>some (.int k (bj k (a+b)))
 |.sub=>some (.int k (bj k (a-b)))
 |.mul=>some (.int k (bj k (a*b)))
 |.quo=>if b=0 then none else some (.int k (bj k (a.tdiv b)))
 |.rem=>if b=0 then none else some (.int k (a.tmod b))
 |.and=>some (.int k (k.wrap (BitVec.ofInt k.bits a&&& BitVec.ofInt k.bits b).toNat))
 |.or=>some (.int k (k.wrap (BitVec.ofInt k.bits a|||BitVec.ofInt k.bits b).toNat))
 |.xor=>some (.int k (k.wrap (BitVec.ofInt k.bits a^^^BitVec.ofInt k.bits b).toNat))
 |.andNot=>some (.int k (k.wrap (BitVec.ofInt k.bits a&&& ~~~ BitVec.ofInt k.bits b).toNat))
 |.eql=>some (.bool (a==b))
 |.neq=>some (.bool (a !=b))
 |.lss=>some (.bool (decide (a<b)))
 |.leq=>some (.bool (decide (a<=b)))
 |.gtr=>some (.bool (decide (a > b)))
 |.geq=>some (.bool (decide (a≥b)))
 |_=>none
def y_(op:BinOp)(k:IntKind)(a b:Int):Option V:=
 if b<0 then none else
  match op with
  |.shl=>some (.int k (k.wrap (a*2^(min b.toNat k.bits))))
  |.shr=>some (.int k (a.fdiv (2^(min b.toNat k.bits))))
  |_=>none
def gL(op:BinOp)(x y:List UInt8):Option V:=
 match op with
 |.add=>if ((x.length+y.length:Nat):Int) > IntKind.i64.max then none else some (.str (x++y))
 |.eql=>some (.bool (x==y))
 |.neq=>some (.bool (!(x==y)))
 |.lss=>some (.bool (Op.bytesLess x y))
 |.leq=>some (.bool (Op.bytesLess x y||x==y))
 |.gtr=>some (.bool (!(Op.bytesLess x y||x==y)))
 |.geq=>some (.bool (!(Op.bytesLess x y)))
 |_=>none
def Wc(op:BinOp)(t:sO)(ng:Bool):V->V->Option V
 |.int k a,.int k' b=>
  match op with
  |.shl=>y_ .shl k a b
  |.shr=>y_ .shr k a b
  |_=>if k=k' then rf op k a b else none
 |.str a,.str b=>gL op a b
 |x,y=>match op with
  |.eql=>match xj ng t x y with
   |some b=>some (.bool b)
   |none=>none
  |.neq=>match xj ng t x y with
   |some b=>some (.bool (!b))
   |none=>none
  |_=>none
def Wd:UnOp->V->Option V
 |.neg,.int k n=>some (.int k (k.wrap (0-n)))
 |.xor,.int k n=>some (.int k (k.wrap (BitVec.ofInt k.bits (if k.signed then -1 else k.max)^^^BitVec.ofInt k.bits n).toNat))
 |.not,.bool b=>some (.bool (!b))
 |_,_=>none
def j_(v:V)(y:Nat):Option Nat:=
 match v with
 |.int _ n=>if 0<=n/\n<=(y:Int) then some n.toNat else none
 |_=>none
def dv(v:Option V)(y We:Nat):Option Nat:=
 match v with
 |some v=>j_ v y
 |none=>some We
def St.row(st:St)(i:Nat):Option (List V×TypeId×Bool):=
 match st.h.get i with
 |some (.cells c e rw)=>some (c,e,rw)
 |_=>none
def cU(zero:List V)(n:Nat):List V:=(List.range (n*zero.length)).map fun i=>zero.getD (i%zero.length) (.aX [])
def eL(st:St)(size:Nat):V->Option (Nat×List V)
 |.aa=>some (0,[])
 |.empty=>some (0,[])
 |.slice j p m _ sz=>if sz=size then match st.row j with
   |some (c,_,_)=>match aF c p (m*size)with
    |some l=>some (m,l)
    |none=>none
   |none=>none
  else none
 |.str s=>if size=1 then some (s.length,s.map fun b=>.int .u8 b.toNat) else none
 |_=>none
def tZ:Nat:=2^48
def fY(st:St)(size bytes:Nat)(elem:TypeId)(s x:V):Option (V×St):=
 match eL st size x with
 |none=>none
 |some (n,xs)=>
  match s with
  |.aa=>
   if n=0 then some (.aa,st)
   else if 2*n*bytes<=tZ/\size≠0 then some (.slice st.n 0 n none size,st.alloc (.cells xs elem true)) else none
  |.slice i o len cap sz=>
   if n=0 then (if sz=size then some (s,st) else none)
   else if sz≠size\/size=0\/tZ<2*(len+n)*bytes then none else
   match st.row i with
   |none=>none
   |some (c,e,rw)=>
    match cap with
    |some k=>
     if len+n<=k then
      (if rw=true/\o+(len+n)*size<=c.length then some (.slice i o (len+n) cap sz,st.write i (.cells (ad c (o+len*size) xs) e rw)) else none)
     else match aF c o (len*size)with
      |some old=>some (.slice st.n 0 (len+n) none size,st.alloc (.cells (old++xs) elem true))
      |none=>none
    |none=>
     if rw=true then
      if o+(len+n)*size<=c.length then some (.slice i o (len+n) none sz,st.write i (.cells (ad c (o+len*size) xs) e rw))
      else if o+len*size=c.length/\e=elem/\o=0 then
       some (.slice st.n 0 (len+n) none size,(st.write i .dead).alloc (.cells (c.drop o++xs) elem true))
      else none
     else none
  |_=>none
def Qp:kL->V->V->Option Bool
 |.int k,.int a x,.int b y=>if a=k/\b=k then some (x==y) else none
 |.str,.str x,.str y=>some (x==y)
 |_,_,_=>none
def fi(kd:kL)(k:V):List (V×V)->Nat->Option (Option (Nat×V))
 |[],_=>some none
 |(a,v)::es,i=>
  match Qp kd k a with
  |some true=>some (some (i,v))
  |some false=>fi kd k es (i+1)
  |none=>none
def kL.fits:kL->V->Bool
 |.int k,.int k' _=>k=k'
 |.str,.str _=>true
 |_,_=>false
def xl:List V->Option V
 |[]=>none
 |[x]=>some x
 |.int k a::.int _ b::rest=>xl (.int k (if b<a then b else a)::rest)
 |_=>none
termination_by l=>l.length
def xm:List V->Option V
 |[]=>none
 |[x]=>some x
 |.int k a::.int _ b::rest=>xm (.int k (if a<b then b else a)::rest)
 |_=>none
termination_by l=>l.length
def yo:V->List V->Option V
 |x,[]=>some x
 |.int k a,.int _ b::rest=>yo (.int k (if b<a then b else a)) rest
 |_,_=>none
def Cs:List V->Option V
 |[]=>none
 |x::xs=>yo x xs
def za:V->List V->Option V
 |x,[]=>some x
 |.int k a,.int _ b::rest=>za (.int k (if a<b then b else a)) rest
 |_,_=>none
def Bp:List V->Option V
 |[]=>none
 |x::xs=>za x xs
def Ye0:∀(xs:List V) (x:V),yo x xs=xl (x::xs)
 |[],x=>by simp[yo,xl]
 |y::ys,x=>by
  cases x with
  |int k a=>
   cases y with
   |int k' b=>simp only[yo,xl];exact Ye0 ys _
   |_=>simp[yo,xl]
  |_=>simp[yo,xl]
def Yph(l:List V):Cs l=xl l:=by
 cases l with
 |nil=>simp[Cs,xl]
 |cons x xs=>exact Ye0 xs x
def Ye2:∀(xs:List V) (x:V),za x xs=xm (x::xs)
 |[],x=>by simp[za,xm]
 |y::ys,x=>by
  cases x with
  |int k a=>
   cases y with
   |int k' b=>simp only[za,xm];exact Ye2 ys _
   |_=>simp[za,xm]
  |_=>simp[za,xm]
def Ypk(l:List V):Bp l=xm l:=by
 cases l with
 |nil=>simp[Bp,xm]
 |cons x xs=>exact Ye2 xs x
def Gj(c:UInt8):List UInt8->Nat->Int
 |[],_=> -1
 |b::rest,i=>if b==c then (i:Int) else Gj c rest (i+1)
def Ct:Ext->List V->Option V
 |.gH,[.int .u64 x,.int .u64 y,.int .u64 c]=>if ¬(c=0\/c=1) then none else
   some (.aX [.int .u64 (Int.ofNat ((x.toNat+y.toNat+c.toNat)%2^64)),.int .u64 (Int.ofNat ((x.toNat+y.toNat+c.toNat)/2^64))])
 |.jC,[.int .u64 x,.int .u64 y,.int .u64 b]=>if ¬(b=0\/b=1) then none else
   some (.aX [.int .u64 (Int.ofNat ((x.toNat+2^64-y.toNat-b.toNat)%2^64)),.int .u64 (if x.toNat<y.toNat+b.toNat then 1 else 0)])
 |.bW,[.str s,.int .u8 c]=>some (.int .i64 (Gj c.toNat.toUInt8 s 0))
 |_,_=>none
abbrev cI:=V->List V->St->Option (V×St)
def Qq(op:BinOp)(t:sO)(st:St)(i j:Nat):Option (V×St):=
 match op,t,st.h.get i,st.h.get j with
 |.eql,.bX .chan,some (.chan ..),some (.chan ..)=>some (.bool (i==j),st)
 |.neq,.bX .chan,some (.chan ..),some (.chan ..)=>some (.bool (!(i==j)),st)
 |_,_,_,_=>none
abbrev ew:=cI->T V->St->Option (V×St)
def Gk(x:Src):ew:=fun _ r st=>match x.ev r with
  |some v=>some (v,st)
  |none=>none
def Ec(c:Src)(a:Src)(b:Src):ew:=fun _ r st=>match c.ev r with
  |some (.bool true)=>match a.ev r with
   |some v=>some (v,st)
   |none=>none
  |some (.bool false)=>match b.ev r with
   |some v=>some (v,st)
   |none=>none
  |_=>none
def Ji(zero:List V)(elem:TypeId):ew:=fun _ _ st=>some (.ptr st.n 0,st.alloc (.cells zero elem true))
def Gl(elem:TypeId)(x:Src):ew:=fun _ r st=>match x.ev r with
  |some v=>if v.cells.all V.one then some (.ptr st.n 0,st.alloc (.cells v.cells elem true)) else none
  |none=>none
def Cu(zero:List V)(parts:List (Nat×Nat×Src)):ew:=fun _ r st=>match Bo r parts with
  |some ps=>match Bn zero ps with
   |some l=>some (.agg l,st)
   |none=>none
  |none=>none
def Gm(elem:TypeId)(size:Nat)(len:Nat)(zero:List V)(parts:List (Nat×Nat×Src)):ew:=fun _ r st=>match Bo r parts with
  |some ps=>match Bn zero ps with
   |some l=>if l.all V.one then some (.slice st.n 0 len (some len) size,st.alloc (.cells l elem true)) else none
   |none=>none
  |none=>none
def Gn(n:Option Nat)(a:Src):ew:=fun _ r st=>match a.ev r with
  |some (.ptr i o)=>match st.row i with
   |some (c,_,_)=>match aO c o n with
    |some v=>some (v,st)
    |none=>none
   |none=>none
  |_=>none
def Ed(n:Nat)(a:Src)(x:Src):ew:=fun _ r st=>match a.ev r,x.ev r with
  |some (.ptr i o),some v=>match st.row i with
   |some (c,e,true)=>if v.cells.length=n/\o+n<=c.length/\v.cells.all V.one=true then some (.aX [],st.write i (.cells (ad c o v.cells) e true)) else none
   |_=>none
  |_,_=>none
def Gp(x:Src):ew:=fun _ r st=>match x.ev r with
  |some (.ptr i o)=>some (.ptr i o,st)
  |some (.func f a l)=>some (.func f a l,st)
  |_=>none
def Gq(op:BinOp)(t:sO)(ng:Bool)(x:Src)(y:Src):ew:=fun _ r st=>match x.ev r,y.ev r with
  |some (.chan i),some (.chan j)=>Qq op t st i j
  |some a,some b=>match Wc op t ng a b with
   |some v=>some (v,st)
   |none=>none
  |_,_=>none
def Gs(op:UnOp)(x:Src):ew:=fun _ r st=>match x.ev r with
  |some a=>match Wd op a with
   |some v=>some (v,st)
   |none=>none
  |none=>none
def Gt(k:IntKind)(x:Src):ew:=fun _ r st=>match x.ev r with
  |some (.int _ n)=>some (.int k (bj k n),st)
  |_=>none
def Jj(x:Src):ew:=fun _ r st=>match x.ev r with
  |some (.str s)=>some (.str s,st)
  |_=>none
def Ee(elem:TypeId)(x:Src):ew:=fun _ r st=>match x.ev r with
  |some (.str s)=>some (.slice st.n 0 s.length none 1,st.alloc (.cells (s.map fun b=>.int .u8 b.toNat) elem true))
  |_=>none
def Gu(x:Src):ew:=fun _ r st=>match x.ev r with
  |some .aa=>some (.str [],st)
  |some (.slice i o len _ 1)=>match st.row i with
   |some (c,_,_)=>match aF c o len with
    |some l=>match l.mapM (fun v=>match v with|.int .u8 n=>some (UInt8.ofNat n.toNat)|_=>none)with
     |some s=>some (.str s,st)
     |none=>none
    |none=>none
   |none=>none
  |_=>none
def Jk(t:TypeId)(x:Src):ew:=fun _ r st=>match x.ev r with
  |some v=>some (.iface t v,st)
  |none=>none
def Gw(f:FuncId)(first:List Src)(gj:List Src):ew:=fun _ r st=>match uw r first,uw r gj with
  |some a,some l=>some (.func f a l,st)
  |_,_=>none
def Jl:ew:=fun _ _ st=>some (.map st.n,st.alloc (.map []))
def Ef(bytes:Nat)(n:Src):ew:=fun _ r st=>match n.ev r with
  |some (.int _ k)=>if k<0\/k > IntKind.i64.max\/bytes*k > 2^48-112 then none else some (.chan st.n,st.alloc (.chan k.toNat []))
  |_=>none
def Cv(elem:TypeId)(size:Nat)(bytes:Nat)(zero:List V)(len:Src)(cap:Src):ew:=fun _ r st=>match len.ev r,cap.ev r with
  |some (.int _ l),some (.int _ c)=>
   if 0<=l/\l<=c/\bytes*c<=2^47/\c<2^62/\size=zero.length/\size≠0 then
    some (.slice st.n 0 l.toNat (some c.toNat) size,st.alloc (.cells (cU zero c.toNat) elem true)) else none
  |_,_=>none
def zb(x:Src)(lo:Option Src)(hi:Option Src):ew:=fun _ r st=>match x.ev r,aB r lo,aB r hi with
  |some (.str s),some lo,some hi=>
   match dv hi s.length s.length with
   |some h=>match dv lo h 0 with
    |some l=>some (.str ((s.take h).drop l),st)
    |none=>none
   |none=>none
  |_,_,_=>none
def po(size:Nat)(x:Src)(lo:Option Src)(hi:Option Src)(mx:Option Src):ew:=fun _ r st=>match x.ev r,aB r lo,aB r hi,aB r mx with
  |some .aa,some lo,some hi,some mx=>
   match dv mx 0 0 with
   |some _=>match dv hi 0 0 with
    |some _=>match dv lo 0 0 with
     |some _=>if mx.isSome&&hi.isNone then none else some (.aa,st)
     |none=>none
    |none=>none
   |none=>none
  |some .empty,some lo,some hi,some none=>
   match dv hi 0 0 with
   |some _=>match dv lo 0 0 with
    |some _=>some (.empty,st)
    |none=>none
   |none=>none
  |some (.slice i o len (some c) sz),some lo,some hi,some mx=>
   if sz≠size\/(mx.isSome&&hi.isNone) then none else
   match dv mx c c with
   |some m=>match dv hi m len with
    |some h=>match dv lo h 0 with
     |some l=>some (.slice i (if m=l then o else o+l*size) (h-l) (some (m-l)) sz,st)
     |none=>none
    |none=>none
   |none=>none
  |some (.slice i o len none sz),some lo,some hi,some mx=>
   if sz≠size\/size=0\/(mx.isSome&&hi.isNone) then none else
   match st.row i with
   |some (c,_,_)=>
    let k:=max len ((c.length-o)/size)
    match mx with
    |some m=>match j_ m k with
     |some m=>match dv hi m len with
      |some h=>match dv lo h 0 with
       |some l=>some (.slice i (if m=l then o else o+l*size) (h-l) (some (m-l)) sz,st)
       |none=>none
      |none=>none
     |none=>none
    |none=>match dv hi k len with
     |some h=>match dv lo h 0 with
      |some l=>if l<k then some (.slice i (o+l*size) (h-l) none sz,st) else some (.empty,st)
      |none=>none
     |none=>none
   |none=>none
  |_,_,_,_=>none
def Ac(n:Nat)(size:Nat)(x:Src)(lo:Option Src)(hi:Option Src)(mx:Option Src):ew:=fun _ r st=>match x.ev r,aB r lo,aB r hi,aB r mx with
  |some (.ptr i o),some lo,some hi,some none=>
   match dv hi n n with
   |some h=>match dv lo h 0 with
    |some l=>match st.row i with
     |some (c,_,_)=>if o+n*size<=c.length/\mx.isNone then some (.slice i (if n=l then o else o+l*size) (h-l) (some (n-l)) size,st) else none
     |none=>none
    |none=>none
   |none=>none
  |_,_,_,_=>none
def Gx(off:Nat)(x:Src):ew:=fun _ r st=>match x.ev r with
  |some (.ptr i o)=>some (.ptr i (o+off),st)
  |_=>none
def Gy(off:Nat)(n:Option Nat)(x:Src):ew:=fun _ r st=>match x.ev r with
  |some (.agg cs)=>match aO cs off n with
   |some v=>some (v,st)
   |none=>none
  |_=>none
def Cw(len:Nat)(size:Nat)(x:Src)(i:Src):ew:=fun _ r st=>match x.ev r,i.ev r with
  |some (.ptr a o),some (.int _ k)=>if 0<=k/\k<(len:Int) then some (.ptr a (o+k.toNat*size),st) else none
  |_,_=>none
def Eg(size:Nat)(x:Src)(i:Src):ew:=fun _ r st=>match x.ev r,i.ev r with
  |some (.slice a o len _ _),some (.int _ k)=>if 0<=k/\k<(len:Int) then some (.ptr a (o+k.toNat*size),st) else none
  |_,_=>none
def Jm(len:Nat)(size:Nat)(n:Option Nat)(x:Src)(i:Src):ew:=fun _ r st=>match x.ev r,i.ev r with
  |some (.agg cs),some (.int _ k)=>if 0<=k/\k<(len:Int) then match aO cs (k.toNat*size) n with
    |some v=>some (v,st)
    |none=>none
   else none
  |_,_=>none
def Eh(x:Src)(i:Src):ew:=fun _ r st=>match x.ev r,i.ev r with
  |some (.str s),some (.int _ k)=>if 0<=k then match s[k.toNat]? with
    |some b=>some (.int .u8 b.toNat,st)
    |none=>none
   else none
  |_,_=>none
def Gz(kd:kL)(zero:V)(m:Src)(k:Src)(ok:Bool):ew:=fun _ r st=>match m.ev r,k.ev r with
  |some m,some k=>
   if kd.fits k then
    match (match m with
     |.bN=>some []
     |.map i=>match st.h.get i with
      |some (.map es)=>some es
      |_=>none
     |_=>none)with
    |some es=>match fi kd k es 0 with
     |some (some (_,v))=>some (if ok then .aX [v,.bool true] else v,st)
     |some none=>some (if ok then .aX [zero,.bool false] else zero,st)
     |none=>none
    |none=>none
   else none
  |_,_=>none
def Ei(kd:kL)(m:Src)(k:Src)(v:Src):ew:=fun _ r st=>match m.ev r,k.ev r,v.ev r with
  |some (.map i),some k,some v=>
   if kd.fits k then
    match st.h.get i with
    |some (.map es)=>match fi kd k es 0 with
     |some (some (j,_))=>some (.aX [],st.write i (.map (es.set j (k,v))))
     |some none=>some (.aX [],st.write i (.map (es++[(k,v)])))
     |none=>none
    |_=>none
   else none
  |_,_,_=>none
def Zth(kd:kL)(zero:V)(m:Src)(k:Src):ew:=fun _ r st=>match m.ev r,k.ev r with
  |some (.map i),some k=>
   if kd.fits k then
    match st.h.get i with
    |some (.map es)=>match fi kd k es 0 with
     |some (some (j,v))=>some (.aX [v,.int .i64 j],st.write i (.map (es.set j (k,v))))
     |some none=>some (.aX [zero,.int .i64 es.length],st.write i (.map (es++[(k,zero)])))
     |none=>none
    |_=>none
   else none
  |_,_=>none
def Wf(m:Src)(s:Src)(v:Src):ew:=fun _ r st=>match m.ev r,s.ev r,v.ev r with
  |some (.map i),some (.int _ j),some v=>
   match st.h.get i with
   |some (.map es)=>if 0<=j then match es[j.toNat]? with
     |some (k,_)=>some (.aX [],st.write i (.map (es.set j.toNat (k,v))))
     |none=>none
    else none
   |_=>none
  |_,_,_=>none
def GA(x:Src):ew:=fun _ r st=>match x.ev r with
  |some (.str s)=>some (.ptr st.n 0,st.alloc (.eG s 0))
  |_=>none
def GB(it:Src):ew:=fun _ r st=>match it.ev r with
  |some (.ptr i 0)=>match st.h.get i with
   |some (.eG s pos)=>
    if pos<s.length then
     let cw:=Utf8.decode ⟨s.toArray⟩ pos
     some (.aX [.bool true,.int .i64 pos,.int .i32 cw.1],st.write i (.eG s (pos+cw.2)))
    else some (.aX [.bool false],st)
   |_=>none
  |_=>none
def GC(x:Src)(i:Nat):ew:=fun _ r st=>match x.ev r with
  |some (.aX vs)=>match vs[i]? with
   |some v=>some (v,st)
   |none=>none
  |_=>none
def yp(k:Nat)(x:Src):ew:=fun _ r st=>match k,x.ev r with
  |0,some (.str s)=>some (.int .i64 s.length,st)
  |1,some .aa=>some (.int .i64 0,st)
  |1,some .empty=>some (.int .i64 0,st)
  |1,some (.slice _ _ n _ _)=>some (.int .i64 n,st)
  |2,some .bN=>some (.int .i64 0,st)
  |2,some (.map i)=>match st.h.get i with
   |some (.map es)=>some (.int .i64 es.length,st)
   |_=>none
  |_,_=>none
def K9(n:Nat):ew:=fun _ _ st=>some (.int .i64 n,st)
def Jn(x:Src):ew:=fun _ r st=>match x.ev r with
  |some .aa=>some (.int .i64 0,st)
  |some (.slice _ _ _ (some c) _)=>some (.int .i64 c,st)
  |_=>none
def zc(args:List Src):ew:=fun _ r st=>match uw r args with
  |some l=>match Cs l with
   |some v=>some (v,st)
   |none=>none
  |none=>none
def ri(args:List Src):ew:=fun _ r st=>match uw r args with
  |some l=>match Bp l with
   |some v=>some (v,st)
   |none=>none
  |none=>none
def Cy(size:Nat)(bytes:Nat)(elem:TypeId)(_:List V)(s:Src)(x:Src):ew:=fun _ r st=>match s.ev r,x.ev r with
  |some s,some x=>fY st size bytes elem s x
  |_,_=>none
def Cz(size:Nat)(d:Src)(s:Src):ew:=fun _ r st=>match d.ev r,s.ev r with
  |some d,some s=>match eL st size s with
   |some (n,xs)=>match d with
    |.aa=>some (.int .i64 0,st)
    |.slice i o len _ sz=>
     if sz≠size\/size=0 then none else
     let k:=min n len
     if k=0 then some (.int .i64 0,st) else
     match st.row i with
     |some (c,e,true)=>if o+k*size<=c.length then some (.int .i64 k,st.write i (.cells (ad c o (xs.take (k*size))) e true)) else none
     |_=>none
    |_=>none
   |none=>none
  |_,_=>none
def Jo(size:Nat)(zero:List V)(s:Src):ew:=fun _ r st=>match s.ev r with
  |some .aa=>some (.aX [],st)
  |some .empty=>some (.aX [],st)
  |some (.slice i o len _ sz)=>
   if len=0 then some (.aX [],st) else
   if sz≠size\/size=0\/zero.length≠size then none else
   match st.row i with
   |some (c,e,true)=>if o+len*size<=c.length then some (.aX [],st.write i (.cells (ad c o (cU zero len)) e true)) else none
   |_=>none
  |_=>none
def zd(f:Src)(args:List Src):ew:=fun call r st=>match f.ev r,uw r args with
  |some f,some l=>call f l st
  |_,_=>none
def GD(e:Ext)(args:List Src):ew:=fun _ r st=>match e,uw r args with
  |.same,some [v]=>some (v,st)
  |e,some l=>match Ct e l with
   |some v=>some (v,st)
   |none=>none
  |_,none=>none
def CA(e:Option (TypeId×Nat))(x:Src):ew:=fun _ r st=>match x.ev r with
  |some (.ptr i 0)=>match st.row i with
   |some (c,e',true)=>match e with
    |none=>if 0<c.length then some (.ptr i 0,st) else none
    |some (u,z)=>if e'=u/\0<z/\z<=c.length then some (.ptr i 0,st) else none
   |_=>none
  |_=>none
def Jp(x:Src):ew:=fun _ r st=>match x.ev r with
  |some (.slice i o len _ _)=>if 0<len then some (.ptr i o,st) else none
  |_=>none
def Qr:V->Option UInt8
 |.int .u8 n=>if 0<=n/\n<256 then some n.toNat.toUInt8 else none
 |_=>none
def GF:List V->Option (List UInt8)
 |[]=>some []
 |v::l=>match Qr v,GF l with
  |some b,some s=>some (b::s)
  |_,_=>none
def Jq(e:TypeId)(x n:Src):ew:=fun _ r st=>match x.ev r,n.ev r with
  |some (.ptr i 0),some (.int .i64 k)=>if 0<k/\k<=9223372036854775807 then
    match st.row i with
    |some (c,e',true)=>if e'=e then
      match aF c 0 k.toNat with
      |some Ad=>match GF Ad with
       |some s=>some (.str s,st.write i (.cells c e' false))
       |none=>none
      |none=>none
     else none
    |_=>none
   else none
  |_,_=>none
def Wg:ew:=fun _ _ _=>none
def cm(op:gh):ew:=gh.casesOn op Gk Ec Ji Gl Cu Gm Gn Ed Gp Gq Gs Gt Jj Ee Gu Jk Gw Jl Ef Cv zb po Ac Gx Gy Cw Eg Jm Eh Gz Ei Zth Wf GA GB GC yp K9 Jn zc ri Cy Cz Jo zd GD CA Jp Jq Wg
def Fr.put(fr:Fr)(d:Option Nat)(v:V):Option Fr:=
 match d with
 |some d=>if d<fr.n then some {fr with r:=fr.r.set d v} else none
 |none=>some fr
def bS(r:T V):Option (Nat×Bool)->Option Bool
 |none=>some true
 |some (t,want)=>match r.get t with
  |some (.bool b)=>some (b==want)
  |some (.aX _)=>some false
  |_=>none
def Bq(call:cI)(o:dw)(next:Fr->St->Option (Fr×St))(fr:Fr)(st:St):Option (Fr×St):=
 match bS fr.r o.guard with
 |some true=>match cm o.op call fr.r st with
  |some (v,aC)=>match fr.put o.dst v with
   |some bE=>next bE aC
   |none=>none
  |none=>none
 |some false=>match fr.put o.dst (.aX [])with
  |some bE=>next bE st
  |none=>none
 |none=>none
def Ymg(fr:Fr)(st:St):Option (Fr×St):=some (fr,st)
def dE(call:cI):List dw->Fr->St->Option (Fr×St)
 |[]=>Ymg
 |o::rest=>Bq call o (dE call rest)
structure FP where
 rd:Option (List Nat)
 wr:List Nat
 lo:Nat
 hi:Nat
def gh.oa:gh->Bool
 |.kh _|.pick ..|.alloc ..|.box ..|.build ..|.eN ..|.nZ _|.un ..|.cW ..|.re _|.jD ..|.g_ ..|.ja ..|.xd|.vt ..
 |.jE ..|.cj ..|.iP ..|.field ..|.gI ..|.fg ..|.vu ..|.bI ..|.jG _|.extract ..|.vw _|.cap _|.mn _|.mx _|.ext ..=>true
 |.bin .add ..|.bin .sub ..|.bin .mul ..|.bin .quo ..|.bin .rem ..|.bin .lss ..|.bin .leq ..|.bin .gtr ..|.bin .geq ..|.bin .shl ..|.bin .shr ..|.bin .and ..|.bin .or ..|.bin .xor ..|.bin .andNot ..=>true
 |_=>false
def Qs(r:T V):gh->Option Nat
 |.load _ a=>match a.ev r with
  |some (.ptr i _)=>some i
  |_=>none
 |.store _ a _=>match a.ev r with
  |some (.ptr i _)=>some i
  |_=>none
 |_=>none
def oY(r:T V)(op:gh)(ws:List Nat)(lo hi:Nat):FP:=
 if op.oa then ⟨some [],[],lo,hi⟩ else
 match Qs r op with
 |some i=>if Nat.blt i lo then ⟨some [i],ws,lo,hi⟩ else ⟨none,ws,lo,hi⟩
 |none=>⟨none,ws,lo,hi⟩
def uW(i:Nat)(l:List Nat):List Nat:=if l.contains i then l else i::l
def ax(n:Nat):List Nat->List Nat
 |[]=>[]
 |i::l=>if i<n then uW i (ax n l) else ax n l
def Br(call:cI)(o:dw)(next:Fr->St->Option (List FP×Fr×St))(fr:Fr)(st:St):Option (List FP×Fr×St):=
 match bS fr.r o.guard with
 |some true=>match cm o.op call fr.r {st with w:=[]} with
  |some (v,aC)=>match fr.put o.dst v with
   |some bE=>match next bE {aC with w:=ax st.n aC.w++st.w} with
    |some (gO,fr'',st'')=>some (oY fr.r o.op (ax st.n aC.w) st.n aC.n::gO,fr'',st'')
    |none=>none
   |none=>none
  |none=>none
 |some false=>match fr.put o.dst (.aX [])with
  |some bE=>match next bE st with
   |some (gO,fr'',st'')=>some (⟨some [],[],st.n,st.n⟩::gO,fr'',st'')
   |none=>none
  |none=>none
 |none=>none
def Yd7(fr:Fr)(st:St):Option (List FP×Fr×St):=some ([],fr,st)
def bJ(call:cI):List dw->Fr->St->Option (List FP×Fr×St)
 |[]=>Yd7
 |o::rest=>Br call o (bJ call rest)
def CB(a:List Nat):Option (List Nat)->Bool
 |none=>!a.isEmpty
 |some b=>a.any fun i=>b.contains i
def FP.free(a b:FP):Bool:=!(CB a.wr b.rd||CB a.wr (some b.wr)||CB b.wr a.rd||b.wr.any fun i=>Nat.ble a.lo i&&Nat.blt i a.hi)
def ct{α:Type}(p:α->α->Bool)(xs:List α)(pW:List Nat):Bool:=
 go xs pW 0 []
where
 go:List α->List Nat->Nat->List α->Bool
  |[],_,_,_=>true
  |f::fs,ms,j,seen=>
   (cv f (ms.headD 0) (j-1) seen)&&go fs ms.tail (j+1) (f::seen)
 cv (f:α) (m:Nat):Nat->List α->Bool
  |_,[]=>true
  |i,g::gs=>(m.testBit i||p g f)&&cv f m (i-1) gs
def jH(gO:List FP)(pW:List Nat):Bool:=ct FP.free gO pW
def Src.tmps:Src->List Nat
 |.tmp t=>[t]
 |.const _=>[]
def Bt:Option Src->List Src
 |none=>[]
 |some s=>[s]
def gh.CC:gh->List Src
 |.kh x=>[x]
 |.pick c a b=>[c,a,b]
 |.alloc ..=>[]
 |.box _ x=>[x]
 |.build _ ps=>ps.map (·.2.2)
 |.eN _ _ _ _ ps=>ps.map (·.2.2)
 |.load _ a=>[a]
 |.store _ a x=>[a,x]
 |.nZ x=>[x]
 |.bin _ _ _ x y=>[x,y]
 |.un _ x=>[x]
 |.cW _ x=>[x]
 |.re x=>[x]
 |.jD _ x=>[x]
 |.n_ x=>[x]
 |.g_ _ x=>[x]
 |.ja _ a c=>a++c
 |.xd=>[]
 |.vt _ n=>[n]
 |.jE _ _ _ _ l c=>[l,c]
 |.cj x lo hi=>x::(Bt lo++Bt hi)
 |.mK _ x lo hi m=>x::(Bt lo++Bt hi++Bt m)
 |.jF _ _ x lo hi m=>x::(Bt lo++Bt hi++Bt m)
 |.iP _ x=>[x]
 |.field _ _ x=>[x]
 |.gI _ _ x i=>[x,i]
 |.fg _ x i=>[x,i]
 |.vu _ _ _ x i=>[x,i]
 |.bI x i=>[x,i]
 |.lookup _ _ m k _=>[m,k]
 |.vi _ m k v=>[m,k,v]
 |.Gh _ _ m k=>[m,k]
 |.Gi m s v=>[m,s,v]
 |.jG x=>[x]
 |.qY x=>[x]
 |.extract x _=>[x]
 |.len _ x=>[x]
 |.vw _=>[]
 |.cap x=>[x]
 |.mn l=>l
 |.mx l=>l
 |.append _ _ _ _ s x=>[s,x]
 |.copy _ d s=>[d,s]
 |.clear _ _ s=>[s]
 |.call f l=>f::l
 |.ext _ l=>l
 |.I9 _ x=>[x]
 |.zU x=>[x]
 |.F0 _ x n=>[x,n]
 |.stop=>[]
def dw.reads(o:dw):List Nat:=
 (match o.guard with|some (t,_)=>[t]|none=>[])++o.op.CC.flatMap Src.tmps
def La(d:Option Nat)(l:List Nat):Bool:=
 match d with
 |some t=>l.contains t
 |none=>false
def Qe(a b:dw):Bool:=!(La a.dst b.reads||La b.dst a.reads||La a.dst b.dst.toList)
def Wh(st:St)(i:Nat)(send:Option V)(zero:V):Option (V×St):=
 match st.h.get i,send with
 |some (.chan cap buf),some v=>if buf.length<cap then some (.aX [.int .i64 0,.bool false],st.write i (.chan cap (buf++[v]))) else some (.aX [.int .i64 (-1),.bool false],st)
 |some (.chan cap (v::buf)),none=>some (.aX [.int .i64 0,.bool true,v],st.write i (.chan cap buf))
 |some (.chan _ []),none=>some (.aX [.int .i64 (-1),.bool false,zero],st)
 |_,_=>none
abbrev pX:=Option Nat->bU->Fr->St->Option (Ex×Fr×St)
abbrev xn:=cI->pX->Option Nat->Fr->St->Option (Ex×Fr×St)
def Wj:xn:=fun _ _ _ fr st=>some (.normal,fr,st)
def Ae(ops:List dw):xn:=fun call _ _ fr st=>match dE call ops fr st with
 |some (bE,aC)=>some (.normal,bE,aC)
 |none=>none
def Af(ops:List dw)(pW:List Nat):xn:=fun call _ _ fr st=>match bJ call ops fr st with
 |some (gO,bE,aC)=>match jH gO pW with
  |true=>some (.normal,bE,aC)
  |false=>none
 |none=>none
def Bu(dst:Option Nat)(ch:Src)(send:Option Src)(zero:V)(ops:List dw):xn:=fun call _ _ fr st=>
 match ch.ev fr.r,aB fr.r send with
 |some (.chan i),some sv=>match Wh st i sv zero with
  |some (v,bY)=>match fr.put dst v with
   |some ec=>match dE call ops ec bY with
    |some (bE,aC)=>some (.normal,bE,aC)
    |none=>none
   |none=>none
  |none=>none
 |_,_=>none
def Bv(a b:bU):xn:=fun _ rec ro fr st=>match rec ro a fr st with
 |some (.normal,bE,aC)=>rec ro b bE aC
 |x=>x
def yq(x:Src)(a b:bU):xn:=fun _ rec ro fr st=>match x.ev fr.r with
 |some (.bool true)=>rec ro a fr st
 |some (.bool false)=>rec ro b fr st
 |_=>none
def Bw(id:Nat)(c:bU):xn:=fun _ rec ro fr st=>match rec ro c fr st with
 |some (.exit Bx,bE,aC)=>match Nat.beq Bx id with
  |true=>some (.normal,bE,aC)
  |false=>some (.exit Bx,bE,aC)
 |x=>x
def By(c:bU):xn:=fun _ rec ro fr st=>match rec ro c fr st with
 |some (.normal,bE,aC)=>rec ro (.loop c) bE aC
 |x=>x
def Wk(st:St):Option Nat->Option (St×Nat×List Nat)
 |none=>some (st.alloc (.defs true),st.n,[st.n])
 |some l=>match st.h.get l with
  |some (.loop R)=>some (st,R.defs,[])
  |_=>none
def V.Jr:V->Bool
 |.yield _=>true
 |_=>false
def CD(g:Src)(ps:List Nat)(assign body:bU):xn:=fun call _ ro fr st=>
 match g.ev fr.r with
 |none=>none
 |some gv=>
  if gv.Jr then none else
  match Wk st ro with
  |none=>none
  |some (bY,d,mk)=>
   match call gv [.yield bY.n] (bY.alloc (.loop {st:=.ready,iH:=none,r:=fr.r,n:=fr.n,ps:=ps,assign:=assign,body:=body,defs:=d}))with
   |none=>none
   |some (_,fh)=>
    match fh.h.get bY.n with
    |some (.loop R)=>
     if R.st=.busy then none else
     some (match R.iH with|none=>.normal|some e=>e,{fr with marks:=mk++fr.marks},fh.write bY.n (.loop {R with st:=.exhausted}))
    |_=>none
def Ym4(id:Nat):xn:=fun _ _ _ fr st=>some (.exit id,fr,st)
def Yg5(c:bU):xn:=fun _ rec ro fr st=>rec ro c fr st
def Yuc:xn:=fun _ _ _ fr st=>some (.ret,fr,st)
def Js:xn:=fun _ _ _ _ _=>none
def mL(c:bU):xn:=bU.casesOn c Wj Ae Af Bu Bv yq Bw By CD Ym4 Yg5 Yuc Js
def Qt:pX:=fun _ _ _ _=>none
def dW(call:cI):Nat->pX
 |0=>Qt
 |f+1=>fun ro c=>mL c call (dW call f) ro
def ze(r:T V)(i:Nat):List V->T V
 |[]=>r
 |v::vs=>ze (r.set i v) (i+1) vs
def GG(r:T V)(n:Nat):List Nat->List V->Option (T V)
 |[],[]=>some r
 |p::ps,v::vs=>if p<n then GG (r.set p v) n ps vs else none
 |_,_=>none
def gS(r:T V)(st:St):List F4->Option (List V)
 |[]=>some []
 |.tmp t::rest=>match r.get t,gS r st rest with
  |some v,some vs=>some (v::vs)
  |_,_=>none
 |.cell t n::rest=>match r.get t,gS r st rest with
  |some (.ptr i o),some vs=>match st.row i with
   |some (c,_,_)=>match aO c o n with
    |some v=>some (v::vs)
    |none=>none
   |none=>none
  |_,_=>none
def shut(st:St):List Nat->Option St
 |[]=>some st
 |d::ds=>match st.h.get d with
  |some (.defs true)=>shut (st.write d (.defs false)) ds
  |_=>none
def Lb:Option Ex->LoopState
 |none=>.ready
 |some _=>.done
def ux:Ex->Option Ex
 |.normal=>none
 |e=>some e
def Ej:List V->V
 |[v]=>v
 |vs=>.aX vs
def Wl(mf:lC)(st:St):Option (Ex×Fr×St)->Option (V×St)
 |some (.exit _,_,_)=>none
 |some (_,fr,bY)=>match shut bY fr.marks with
  |none=>none
  |some fh=>match gS fr.r fh mf.results with
   |some vs=>some (Ej vs,{fh with w:=ax st.n fh.w++st.w})
   |none=>none
 |none=>none
def CE(mf:lC)(code:pX)(args:List V)(st:St):Option (V×St):=
 if mf.ntmps<args.length then none else
 Wl mf st (code none mf.body {r:=ze .nil 0 args,n:=mf.ntmps,marks:=[]} {st with w:=[]})
def GH(code:pX)(l:Nat)(args:List V)(st:St):Option (V×St):=
 match st.h.get l with
 |some (.loop R)=>match GG R.r R.n R.ps args with
  |none=>none
  |some r0=>match code (some l) R.assign {r:=r0,n:=R.n,marks:=[]} st with
   |some (.normal,ec,bY)=>match bY.h.get l with
    |some (.loop R1)=>
     if R1.st=.ready then
      match code (some l) R.body ec (bY.write l (.loop {R1 with st:=.busy}))with
      |some (e,_,fh)=>match fh.h.get l with
       |some (.loop R2)=>some (.bool (ux e).isNone,fh.write l (.loop {R2 with st:=Lb (ux e),iH:=ux e}))
       |_=>none
      |none=>none
     else none
    |_=>none
   |_=>none
 |_=>none
def yr(dK:Nat->Option lC)(code:pX):cI
 |.func f first gj,args,st=>match dK f with
  |some mf=>CE mf code (first++args++gj) st
  |none=>none
 |.yield l,args,st=>GH code l args st
 |_,_,_=>none
def Wm:cI:=fun _ _ _=>none
end Go.Mx
