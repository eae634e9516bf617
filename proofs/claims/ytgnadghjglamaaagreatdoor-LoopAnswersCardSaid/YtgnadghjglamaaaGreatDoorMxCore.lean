/-The abstract machine M-/
import Derived.RangeFuncLeaves
import Derived.OrdersIn
import Derived.RangeFuncRecord
set_option linter.all false
namespace Go.Mx
abbrev Yr0:=@Option.map_eq_some_iff
abbrev Yr1:=@List.mem_of_getElem?
abbrev Yr2:=@List.take_of_length_le
abbrev Yr3:=@Bool.false_eq_true
abbrev Yr4:=@List.getElem?_drop
abbrev Yr5:=@Nat.lt_of_lt_of_le
abbrev Yr6:=@List.getElem?_eq_none
abbrev Yr7:=@List.eq_nil_of_length_eq_zero
abbrev Yr8:=@List.length_append
abbrev Yr9:=@Nat.mul_le_mul_left
abbrev Yrr:=@List.length_cons
abbrev Yrs:=@Option.some.injEq
abbrev Yrt:=@if_neg
abbrev Yru:=@Nat.le_refl
abbrev Yrv:=@Prod.mk.injEq
abbrev Yrw:=@if_pos
abbrev Yrx:=@List.getElem?_eq_getElem
abbrev Yry:=@List.getElem?_set_ne
abbrev Yrz:=@Int.natAbs_natCast
abbrev Ys0:=@Option.some.inj
abbrev Ys1:=@List.map_cons
abbrev Ys2:=@Nat.mod_lt
abbrev Ys3:=@Int.tdiv_eq_ediv_of_nonneg
abbrev Ys4:=@Nat.lt_succ_self
abbrev Ys5:=@List.all_eq_true
abbrev Ys6:=@Nat.lt_of_not_le
abbrev Ys7:=@Nat.two_pow_pos
abbrev Ys8:=@Nat.mul_add
abbrev Ys9:=@List.getElem?_eq_some_iff
abbrev Ysa:=@Int.mul_le_mul_of_nonneg_left
abbrev Ysb:=@Nat.mul_le_mul_right
abbrev Ysc:=@List.getElem?_append_left
abbrev Ysd:=@Bool.and_eq_true
abbrev Yse:=@List.cons.injEq
abbrev Ysf:=@List.getElem?_set_self
abbrev Ysg:=@Nat.pow_succ
abbrev Ysh:=@List.getElem?_take
abbrev Ysi:=@List.length_take
abbrev Ysj:=@List.mem_cons_of_mem
abbrev Ysk:=@Nat.mul_comm
abbrev Ysl:=@Nat.lt_of_le_of_lt
abbrev Ysm:=@Nat.div_lt_iff_lt_mul
abbrev Ysn:=@List.getElem?_append_right
abbrev Yso:=@List.getElem?_map
abbrev Ysp:=@Nat.mul_le_mul
abbrev Ysq:=@List.mem_append
abbrev Ysr:=@Nat.pow_add
abbrev Yss:=@List.mem_cons
abbrev Yst:=@List.mem_cons_self
abbrev Ysu:=@Nat.pow_le_pow_right
abbrev Ysv:=@Nat.add_mul
abbrev Ysw:=@List.ext_getElem?
abbrev Ysx:=@Nat.le_of_ble_eq_true
abbrev Ysy:=@List.append_assoc
abbrev Ysz:=@Nat.min_eq_left
abbrev Yt0:=@Nat.div_eq_of_lt
abbrev Yt1:=@List.drop_length
abbrev Yt2:=@List.drop_eq_getElem_cons
abbrev Yt3:=@Nat.mul_assoc
abbrev Yt4:=@Option.ite_none_left_eq_some
abbrev Yt5:=@Nat.zero_add
abbrev Yt6:=@Int.mul_ediv_add_emod
abbrev Yt7:=@Rat.num_divInt_den
abbrev Yt8:=@List.length_drop
abbrev Yt9:=@List.take_length
abbrev Yta:=@Nat.add_assoc
abbrev Ytb:=@List.drop_eq_nil_of_le
abbrev Ytc:=@Nat.div_add_mod
abbrev Ytd:=@Int.mul_le_mul_of_nonneg_right
abbrev Yte:=@List.mem_singleton
abbrev Ytf:=@Array.getElem?_toList
abbrev Ytg:=@List.length_singleton
abbrev Yth:=@List.getElem?_cons_zero
abbrev Yti:=@Nat.div_le_self
abbrev Ytj:=@List.take_append_drop
abbrev Ytk:=@Int.natAbs_mul
abbrev Ytl:=@Nat.mod_eq_of_lt
abbrev Ytm:=@Int.tmod_eq_emod_of_nonneg
abbrev Ytn:=@List.mem_or_eq_of_mem_set
abbrev Yto:=@Int.mul_nonneg
abbrev Ytp:=@Nat.le_trans
abbrev Ytq:=@List.mem_map
abbrev Ytr:=@Nat.le_of_not_lt
abbrev Yts:=@Int.le_of_lt
abbrev Ytt:=@Array.getD_eq_getD_getElem?
abbrev Ytu:=@Array.getElem?_setIfInBounds_ne
abbrev Ytv:=@List.getElem?_cons_succ
abbrev Ytw:=@Int.eq_ofNat_of_zero_le
abbrev Ytx:=@List.mem_of_mem_take
abbrev Yty:=@Nat.add_zero
abbrev Ytz:=@List.append_nil
abbrev Yu0:=@List.getElem?_of_mem
abbrev Yu1:=@Int.emod_nonneg
abbrev Yu2:=@Bool.not_eq_true'
abbrev Yu3:=@Array.ext'
abbrev Yu4:=@Nat.eq_zero_or_pos
abbrev Yu5:=@List.mem_replicate
abbrev Yu6:=@Bool.or_eq_true
abbrev Yu7:=@Nat.mul_mod_mul_right
abbrev Yu8:=@List.length_set
abbrev Yu9:=@Int.ofNat_eq_natCast
abbrev Yua:=@List.map_nil
abbrev Yub:=@Nat.mul_one
abbrev Yuc:=@Nat.mul_pos
abbrev Yud:=@Nat.div_div_eq_div_mul
abbrev Yue:=@Nat.lt_of_succ_le
abbrev Yuf:=@Nat.pow_le_pow_left
abbrev Yug:=@List.length_map
abbrev Yuh:=@List.map_toArray
abbrev Yui:=@Nat.le_max_right
abbrev Yuj:=@List.cons_append
abbrev Yuk:=@Int.emod_lt_of_pos
abbrev Yul:=@Nat.mul_lt_mul''
abbrev Yum:=@Nat.zero_le
abbrev Yun:=@List.drop_zero
abbrev Yuo:=@Int.natAbs_neg
abbrev Yup:=@List.take_add_one
abbrev Yuq:=@Option.map_some
abbrev Yur:=@Nat.le_max_left
abbrev Yus:=@Nat.div_lt_self
abbrev Yut:=@Nat.mul_lt_mul_of_pos_right
abbrev Yuu:=@Nat.le_succ
abbrev Yuv:=@Nat.pow_pos
abbrev Yuw:=@Nat.not_lt
abbrev Yux:=@Option.getD_some
abbrev Yuy:=@Int.le_of_not_gt
abbrev Yuz:=@Nat.le_div_iff_mul_le
abbrev Yva:=@Array.all_eq_true_iff_forall_mem
abbrev Yvb:=@Int.lt_of_not_ge
abbrev Yvc:=@Nat.pow_zero
abbrev Yvd:=@Nat.gcd_pos_of_pos_right
abbrev Yve:=@List.getElem?_range
abbrev Yvf:=@Int.natCast_mul
abbrev Yvg:=@Int.mul_ne_zero
abbrev Yvh:=@Nat.eq_of_beq_eq_true
abbrev Yvi:=@List.contains_iff_mem
abbrev Yvj:=@Nat.ble_eq_true_of_le
abbrev Yvk:=@List.singleton_append
abbrev Yvl:=@List.dropLast_concat_getLast
abbrev Yvm:=@Nat.mul_div_mul_right
inductive T (α:Type) where
 |nil
 |node (l:T α) (v:Option α) (r:T α)
def T.get{α:Type}:T α→Nat→Option α
 |.nil,_=>none
 |.node l v r,n=>
  match n with
  |0=>v
  |k+1=>match k%2 with
   |0=>l.get (k/2)
   |_=>r.get (k/2)
def T.setF{α:Type}:Nat→T α→Nat→α→T α
 |0,t,_,_=>t
 |f+1,.nil,n,a=>
  match n with
  |0=>.node .nil (some a) .nil
  |k+1=>match k%2 with
   |0=>.node (T.setF f .nil (k/2) a) none .nil
   |_=>.node .nil none (T.setF f .nil (k/2) a)
 |f+1,.node l v r,n,a=>
  match n with
  |0=>.node l (some a) r
  |k+1=>match k%2 with
   |0=>.node (T.setF f l (k/2) a) v r
   |_=>.node l v (T.setF f r (k/2) a)
def T.set{α:Type}(t:T α)(n:Nat)(a:α):T α:=T.setF (n+1) t n a
def T.get_setF{α:Type}(a:α):∀(f:Nat) (t:T α) (n m:Nat),n<f→(T.setF f t n a).get m=if m=n then some a else t.get m:=by
 intro f
 induction f with
 |zero=>intro t n m h;omega
 |succ f ih=>
  intro t n m h
  cases t with
  |nil=>
   cases n with
   |zero=>
    cases m with
    |zero=>simp[T.setF,T.get]
    |succ j=>simp only[T.setF,T.get];split<;>simp
   |succ k=>
    have hk:k/2<f:=by omega
    have h2:k%2=0∨k%2=1:=by omega
    rcases h2 with h2|h2
    ·cases m with
     |zero=>simp[T.setF,T.get,h2]
     |succ j=>
      have hj:j%2=0∨j%2=1:=by omega
      rcases hj with hj|hj
      ·simp only[T.setF,T.get,h2,hj,ih _ _ _ hk]
       by_cases e:j/2=k/2
       ·have:j=k:=by omega
        simp[this]
       ·have:¬j=k:=by intro e2;exact e (by rw[e2])
        simp[e,this]
      ·have:¬j=k:=by omega
       simp[T.setF,T.get,h2,hj,this]
    ·cases m with
     |zero=>simp[T.setF,T.get,h2]
     |succ j=>
      have hj:j%2=0∨j%2=1:=by omega
      rcases hj with hj|hj
      ·have:¬j=k:=by omega
       simp[T.setF,T.get,h2,hj,this]
      ·simp only[T.setF,T.get,h2,hj,ih _ _ _ hk]
       by_cases e:j/2=k/2
       ·have:j=k:=by omega
        simp[this]
       ·have:¬j=k:=by intro e2;exact e (by rw[e2])
        simp[e,this]
  |node l v r=>
   cases n with
   |zero=>cases m<;>simp[T.setF,T.get]
   |succ k=>
    have hk:k/2<f:=by omega
    have h2:k%2=0∨k%2=1:=by omega
    rcases h2 with h2|h2
    ·cases m with
     |zero=>simp[T.setF,T.get,h2]
     |succ j=>
      have hj:j%2=0∨j%2=1:=by omega
      rcases hj with hj|hj
      ·simp only[T.setF,T.get,h2,hj,ih _ _ _ hk]
       by_cases e:j/2=k/2
       ·have:j=k:=by omega
        simp[this]
       ·have:¬j=k:=by intro e2;exact e (by rw[e2])
        simp[e,this]
      ·have:¬j=k:=by omega
       simp[T.setF,T.get,h2,hj,this]
    ·cases m with
     |zero=>simp[T.setF,T.get,h2]
     |succ j=>
      have hj:j%2=0∨j%2=1:=by omega
      rcases hj with hj|hj
      ·have:¬j=k:=by omega
       simp[T.setF,T.get,h2,hj,this]
      ·simp only[T.setF,T.get,h2,hj,ih _ _ _ hk]
       by_cases e:j/2=k/2
       ·have:j=k:=by omega
        simp[this]
       ·have:¬j=k:=by intro e2;exact e (by rw[e2])
        simp[e,this]
def T.get_set{α:Type}(t:T α)(n m:Nat)(a:α):(t.set n a).get m=if m=n then some a else t.get m:=
 T.get_setF a (n+1) t n m (Ys4 n)
inductive V where
 |bool (b:Bool)
 |int (k:IntKind) (n:Int)
 |flt (k:FloatKind) (bits:Nat)
 |cpl (k:FloatKind) (re im:Nat)
 |str (s:List UInt8)
 |nilptr
 |ptr (i o:Nat)
 |nilslice
 |slice (i o len:Nat) (cap:Option Nat) (sz:Nat)
 |empty
 |nilmap
 |map (i:Nat)
 |nilchan
 |chan (i:Nat)
 |func (f:FuncId) (first cap:List V)
 |yield (i:Nat)
 |nilfunc
 |iface (t:TypeId) (v:V)
 |niliface
 |agg (l:List V)
 |tup (l:List V)
instance:Inhabited V:=⟨.tup []⟩
def V.cells:V→List V
 |.agg l=>l
 |v=>[v]
def V.one:V→Bool
 |.agg _|.tup _=>false
 |_=>true
inductive Src where
 |tmp (t:Nat)
 |const (v:V)
inductive PK where
 |bool|int|str|ptr|slice|map|func|chan|iface
inductive EqT where
 |prim (k:PK)
 |node (parts:List (Nat×Option Nat×EqT))
inductive Zk3 where
 |int (k:IntKind)
 |str
inductive Ext where
 |add64|sub64|same|indexByteString|indexString|fbits|ffrom
inductive MOp where
 |mov (x:Src)
 |pick (c a b:Src)
 |alloc (zero:List V) (elem:TypeId)
 |box (elem:TypeId) (x:Src)
 |build (zero:List V) (parts:List (Nat×Nat×Src))
 |bslice (elem:TypeId) (size len:Nat) (zero:List V) (parts:List (Nat×Nat×Src))
 |load (n:Option Nat) (a:Src)
 |store (n:Nat) (a x:Src)
 |nilck (x:Src)
 |bin (op:BinOp) (t:EqT) (ng:Bool) (x y:Src)
 |un (op:UnOp) (x:Src)
 |convInt (k:IntKind) (x:Src)
 |convStr (x:Src)
 |strBytes (elem:TypeId) (x:Src)
 |bytesStr (x:Src)
 |mkiface (t:TypeId) (x:Src)
 |mkfunc (f:FuncId) (first caps:List Src)
 |mkmap
 |mkchan (bytes:Nat) (n:Src)
 |mkslice (elem:TypeId) (size bytes:Nat) (zero:List V) (len cap:Src)
 |sliceStr (x:Src) (lo hi:Option Src)
 |sliceSl (size:Nat) (x:Src) (lo hi mx:Option Src)
 |sliceArr (n size:Nat) (x:Src) (lo hi mx:Option Src)
 |faddr (off:Nat) (x:Src)
 |field (off:Nat) (n:Option Nat) (x:Src)
 |iaddrArr (len size:Nat) (x i:Src)
 |iaddrSl (size:Nat) (x i:Src)
 |idxArr (len size:Nat) (n:Option Nat) (x i:Src)
 |idxStr (x i:Src)
 |lookup (kd:Zk3) (zero:V) (m k:Src) (ok:Bool)
 |mapset (kd:Zk3) (m k v:Src)
 |mapent (kd:Zk3) (zero:V) (m k:Src)
 |entset (m s v:Src)
 |rangeStr (x:Src)
 |nextStr (it:Src)
 |extract (x:Src) (i:Nat)
 |len (k:Nat) (x:Src)
 |lenArr (n:Nat)
 |cap (x:Src)
 |mn (args:List Src)
 |mx (args:List Src)
 |append (size bytes:Nat) (elem:TypeId) (zero:List V) (s x:Src)
 |copy (size:Nat) (d s:Src)
 |clear (size:Nat) (zero:List V) (s:Src)
 |call (f:Src) (args:List Src)
 |ext (e:Ext) (args:List Src)
 |uns (e:Option (TypeId×Nat)) (x:Src)
 |sdata (x:Src)
 |ustr (e:TypeId) (x n:Src)
 |fbin (op:BinOp) (x y:Src)
 |fToI (k:IntKind) (x:Src)
 |part (im:Bool) (x:Src)
 |stop
structure Zbc where
 dst:Option Nat
 op:MOp
 guard:Option (Nat×Bool)
inductive Zaw where
 |skip
 |reg (ops:List Zbc)
 |regD (ops:List Zbc) (masks:List Nat)
 |regS (dst:Option Nat) (ch:Src) (send:Option Src) (zero:V) (ops:List Zbc)
 |seq (a b:Zaw)
 |cond (c:Src) (a b:Zaw)
 |block (id:Nat) (c:Zaw)
 |loop (c:Zaw)
 |rangef (g:Src) (ps:List Nat) (assign body:Zaw)
 |exit (id:Nat)
 |scope (c:Zaw)
 |ret
 |stop
inductive Ylt where
 |tmp (t:Nat)
 |cell (t:Nat) (n:Option Nat)
structure Zej where
 ntmps:Nat
 results:List Ylt
 body:Zaw
inductive Ex where
 |normal
 |exit (id:Nat)
 |ret
structure Ynr where
 st:LoopState
 pend:Option Ex
 r:T V
 n:Nat
 ps:List Nat
 assign:Zaw
 body:Zaw
 defs:Nat
inductive O where
 |cells (c:List V) (elem:TypeId) (rw:Bool)
 |map (es:List (V×V))
 |chan (cap:Nat) (buf:List V)
 |siter (s:List UInt8) (pos:Nat)
 |loop (l:Ynr)
 |defs (isOpen:Bool)
 |dead
def O.wr:O→Bool
 |.cells _ _ rw=>rw
 |.dead=>false
 |_=>true
def O.live:O→Bool
 |.dead=>false
 |_=>true
structure St where
 h:T O
 n:Nat
 w:List Nat
def St.alloc(st:St)(o:O):St:={st with h:=st.h.set st.n o,n:=st.n+1}
def St.write(st:St)(i:Nat)(o:O):St:={st with h:=st.h.set i o,w:=i::st.w}
structure Fr where
 r:T V
 n:Nat
 marks:List Nat
def Src.ev(r:T V):Src→Option V
 |.tmp t=>r.get t
 |.const v=>some v
def Zhd(r:T V):List Src→Option (List V)
 |[]=>some []
 |x::xs=>match x.ev r,Zhd r xs with
  |some v,some vs=>some (v::vs)
  |_,_=>none
def evOpt(r:T V):Option Src→Option (Option V)
 |none=>some none
 |some x=>match x.ev r with
  |some v=>some (some v)
  |none=>none
def slc{α:Type}(c:List α)(o n:Nat):Option (List α):=if o+n≤c.length then some ((c.drop o).take n) else none
def splice{α:Type}(c:List α)(o:Nat)(vs:List α):List α:=c.take o++vs++c.drop (o+vs.length)
def Zn5(cells:List V):List (Nat×Nat×V)→Option (List V)
 |[]=>some cells
 |(off,size,v)::rest=>
  if v.cells.length=size∧off+size≤cells.length then Zn5 (splice cells off v.cells) rest else none
def Zfe(r:T V):List (Nat×Nat×Src)→Option (List (Nat×Nat×V))
 |[]=>some []
 |(o,s,x)::rest=>match x.ev r,Zfe r rest with
  |some v,some vs=>some ((o,s,v)::vs)
  |_,_=>none
def Zaj(cs:List V)(off:Nat):Option Nat→Option V
 |none=>cs[off]?
 |some n=>match slc cs off n with
  |some l=>some (.agg l)
  |none=>none
def Zag(ng:Bool):PK→V→V→Option Bool
 |.bool,.bool a,.bool b=>some (a==b)
 |.int,.int k a,.int k' b=>if k=k' then some (a==b) else none
 |.str,.str a,.str b=>some (a==b)
 |.ptr,.nilptr,.nilptr=>some true
 |.ptr,.nilptr,.ptr _ _=>some false
 |.ptr,.ptr _ _,.nilptr=>some false
 |.ptr,.ptr i o,.ptr j p=>if i=j∧o=p then some true else none
 |.slice,.nilslice,.nilslice=>some true
 |.slice,.nilslice,.slice ..=>some false
 |.slice,.slice ..,.nilslice=>some false
 |.slice,.nilslice,.empty=>some false
 |.slice,.empty,.nilslice=>some false
 |.map,.nilmap,.nilmap=>some true
 |.map,.nilmap,.map _=>some false
 |.map,.map _,.nilmap=>some false
 |.func,.nilfunc,.nilfunc=>some true
 |.func,.nilfunc,.func ..=>some false
 |.func,.func ..,.nilfunc=>some false
 |.chan,.nilchan,.nilchan=>some true
 |.chan,.nilchan,.chan _=>some false
 |.chan,.chan _,.nilchan=>some false
 |.iface,.niliface,.niliface=>if ng then some true else none
 |.iface,.niliface,.iface ..=>some false
 |.iface,.iface ..,.niliface=>some false
 |_,_,_=>none
mutual
def eqV(ng:Bool):EqT→V→V→Option Bool
 |.prim k,x,y=>Zag ng k x y
 |.node ps,.agg xs,.agg ys=>Znd ps xs ys
 |_,_,_=>none
def Znd:List (Nat×Option Nat×EqT)→List V→List V→Option Bool
 |[],_,_=>some true
 |(off,n,t)::rest,xs,ys=>
  match Zaj xs off n,Zaj ys off n with
  |some x,some y=>match eqV false t x y with
   |some true=>Znd rest xs ys
   |some false=>some false
   |none=>none
  |_,_=>none
end
def Zap(k:IntKind)(n:Int):Int:=
 match k,n with
 |.i64,.ofNat a=>match Nat.blt a 9223372036854775808 with
  |true=>.ofNat a
  |false=>IntKind.wrap .i64 (.ofNat a)
 |.i64,.negSucc a=>match Nat.blt a 9223372036854775808 with
  |true=>.negSucc a
  |false=>IntKind.wrap .i64 (.negSucc a)
 |.u64,.ofNat a=>.ofNat (Nat.mod a 18446744073709551616)
 |.u8,.ofNat a=>.ofNat (Nat.mod a 256)
 |.i32,.ofNat a=>match Nat.blt a 2147483648 with
  |true=>.ofNat a
  |false=>IntKind.wrap .i32 (.ofNat a)
 |.u32,.ofNat a=>.ofNat (Nat.mod a 4294967296)
 |k,n=>k.wrap n
def Zdg(k:IntKind)(n:Int):Zap k n=k.wrap n:=by
 unfold Zap
 split
 ·rename_i a
  split
  ·rename_i h
   have h':a<9223372036854775808:=Yue (Ysx h)
   simp only[IntKind.wrap,IntKind.bits,IntKind.signed,Yu9]
   simp;omega
  ·rfl
 ·rename_i a
  split
  ·rename_i h
   have h':a<9223372036854775808:=Yue (Ysx h)
   have e:(Int.negSucc a)= -(a:Int)-1:=by omega
   simp only[IntKind.wrap,IntKind.bits,IntKind.signed,e]
   simp;omega
  ·rfl
 ·rename_i a
  show Int.ofNat (a%18446744073709551616)=_
  simp only[IntKind.wrap,IntKind.bits,IntKind.signed,Yu9]
  simp
 ·rename_i a
  show Int.ofNat (a%256)=_
  simp only[IntKind.wrap,IntKind.bits,IntKind.signed,Yu9]
  simp
 ·rename_i a
  split
  ·rename_i h
   have h':a<2147483648:=Yue (Ysx h)
   simp only[IntKind.wrap,IntKind.bits,IntKind.signed,Yu9]
   simp;omega
  ·rfl
 ·rename_i a
  show Int.ofNat (a%4294967296)=_
  simp only[IntKind.wrap,IntKind.bits,IntKind.signed,Yu9]
  simp
 ·rfl
def Zdo(op:BinOp)(k:IntKind)(a b:Int):Option V:=
 match op with
 |.add=>some (.int k (Zap k (a+b)))
 |.sub=>some (.int k (Zap k (a-b)))
 |.mul=>some (.int k (Zap k (a*b)))
 |.quo=>if b=0 then none else some (.int k (Zap k (a.tdiv b)))
 |.rem=>if b=0 then none else some (.int k (a.tmod b))
 |.and=>some (.int k (k.wrap (BitVec.ofInt k.bits a&&& BitVec.ofInt k.bits b).toNat))
 |.or=>some (.int k (k.wrap (BitVec.ofInt k.bits a|||BitVec.ofInt k.bits b).toNat))
 |.xor=>some (.int k (k.wrap (BitVec.ofInt k.bits a^^^BitVec.ofInt k.bits b).toNat))
 |.andNot=>some (.int k (k.wrap (BitVec.ofInt k.bits a&&& ~~~ BitVec.ofInt k.bits b).toNat))
 |.eql=>some (.bool (a==b))
 |.neq=>some (.bool (a !=b))
 |.lss=>some (.bool (decide (a<b)))
 |.leq=>some (.bool (decide (a≤b)))
 |.gtr=>some (.bool (decide (a > b)))
 |.geq=>some (.bool (decide (a≥b)))
 |_=>none
def Zgq(op:BinOp)(k:IntKind)(a b:Int):Option V:=
 if b<0 then none else
  match op with
  |.shl=>some (.int k (k.wrap (a*2^(min b.toNat k.bits))))
  |.shr=>some (.int k (a.fdiv (2^(min b.toNat k.bits))))
  |_=>none
def Zbo(op:BinOp)(x y:List UInt8):Option V:=
 match op with
 |.add=>if ((x.length+y.length:Nat):Int) > IntKind.i64.max then none else some (.str (x++y))
 |.eql=>some (.bool (x==y))
 |.neq=>some (.bool (!(x==y)))
 |.lss=>some (.bool (Op.bytesLess x y))
 |.leq=>some (.bool (Op.bytesLess x y||x==y))
 |.gtr=>some (.bool (!(Op.bytesLess x y||x==y)))
 |.geq=>some (.bool (!(Op.bytesLess x y)))
 |_=>none
def Ypl(op:BinOp)(t:EqT)(ng:Bool):V→V→Option V
 |.int k a,.int k' b=>
  match op with
  |.shl=>Zgq .shl k a b
  |.shr=>Zgq .shr k a b
  |_=>if k=k' then Zdo op k a b else none
 |.str a,.str b=>Zbo op a b
 |x,y=>match op with
  |.eql=>match eqV ng t x y with
   |some b=>some (.bool b)
   |none=>none
  |.neq=>match eqV ng t x y with
   |some b=>some (.bool (!b))
   |none=>none
  |_=>none
def unV:UnOp→V→Option V
 |.neg,.int k n=>some (.int k (k.wrap (0-n)))
 |.xor,.int k n=>some (.int k (k.wrap (BitVec.ofInt k.bits (if k.signed then -1 else k.max)^^^BitVec.ofInt k.bits n).toNat))
 |.not,.bool b=>some (.bool (!b))
 |_,_=>none
def Zd5(v:V)(y:Nat):Option Nat:=
 match v with
 |.int _ n=>if 0≤n∧n≤(y:Int) then some n.toNat else none
 |_=>none
def Zax(v:Option V)(y dflt:Nat):Option Nat:=
 match v with
 |some v=>Zd5 v y
 |none=>some dflt
def St.row(st:St)(i:Nat):Option (List V×TypeId×Bool):=
 match st.h.get i with
 |some (.cells c e rw)=>some (c,e,rw)
 |_=>none
def Zc8(zero:List V)(n:Nat):List V:=(List.range (n*zero.length)).map fun i=>zero.getD (i%zero.length) (.tup [])
def Za0(st:St)(size:Nat):V→Option (Nat×List V)
 |.nilslice=>some (0,[])
 |.empty=>some (0,[])
 |.slice j p m _ sz=>if sz=size then match st.row j with
   |some (c,_,_)=>match slc c p (m*size)with
    |some l=>some (m,l)
    |none=>none
   |none=>none
  else none
 |.str s=>if size=1 then some (s.length,s.map fun b=>.int .u8 b.toNat) else none
 |_=>none
def Zc0:Nat:=2^48
def Zbi(st:St)(size bytes:Nat)(elem:TypeId)(s x:V):Option (V×St):=
 match Za0 st size x with
 |none=>none
 |some (n,xs)=>
  match s with
  |.nilslice=>
   if n=0 then some (.nilslice,st)
   else if 2*n*bytes≤Zc0∧size≠0 then some (.slice st.n 0 n none size,st.alloc (.cells xs elem true)) else none
  |.slice i o len cap sz=>
   if n=0 then (if sz=size then some (s,st) else none)
   else if sz≠size∨size=0∨Zc0<2*(len+n)*bytes then none else
   match st.row i with
   |none=>none
   |some (c,e,rw)=>
    match cap with
    |some k=>
     if len+n≤k then
      (if rw=true∧o+(len+n)*size≤c.length then some (.slice i o (len+n) cap sz,st.write i (.cells (splice c (o+len*size) xs) e rw)) else none)
     else match slc c o (len*size)with
      |some old=>some (.slice st.n 0 (len+n) none size,st.alloc (.cells (old++xs) elem true))
      |none=>none
    |none=>
     if rw=true then
      if o+(len+n)*size≤c.length then some (.slice i o (len+n) none sz,st.write i (.cells (splice c (o+len*size) xs) e rw))
      else if o+len*size=c.length∧e=elem∧o=0 then
       some (.slice st.n 0 (len+n) none size,(st.write i .dead).alloc (.cells (c.drop o++xs) elem true))
      else none
     else none
  |_=>none
def Yfy:Zk3→V→V→Option Bool
 |.int k,.int a x,.int b y=>if a=k∧b=k then some (x==y) else none
 |.str,.str x,.str y=>some (x==y)
 |_,_,_=>none
def findV(kd:Zk3)(k:V):List (V×V)→Nat→Option (Option (Nat×V))
 |[],_=>some none
 |(a,v)::es,i=>
  match Yfy kd k a with
  |some true=>some (some (i,v))
  |some false=>findV kd k es (i+1)
  |none=>none
def Zk3.fits:Zk3→V→Bool
 |.int k,.int k' _=>k=k'
 |.str,.str _=>true
 |_,_=>false
def Zvr:List V→Option V
 |[]=>none
 |[x]=>some x
 |.int k a::.int _ b::rest=>Zvr (.int k (if b<a then b else a)::rest)
 |_=>none
termination_by l=>l.length
def Zvt:List V→Option V
 |[]=>none
 |[x]=>some x
 |.int k a::.int _ b::rest=>Zvt (.int k (if a<b then b else a)::rest)
 |_=>none
termination_by l=>l.length
def Zvs:V→List V→Option V
 |x,[]=>some x
 |.int k a,.int _ b::rest=>Zvs (.int k (if b<a then b else a)) rest
 |_,_=>none
def Yd0:List V→Option V
 |[]=>none
 |x::xs=>Zvs x xs
def Zzh:V→List V→Option V
 |x,[]=>some x
 |.int k a,.int _ b::rest=>Zzh (.int k (if a<b then b else a)) rest
 |_,_=>none
def Yd1:List V→Option V
 |[]=>none
 |x::xs=>Zzh x xs
def Ybq:∀(xs:List V) (x:V),Zvs x xs=Zvr (x::xs)
 |[],x=>by simp[Zvs,Zvr]
 |y::ys,x=>by
  cases x with
  |int k a=>
   cases y with
   |int k' b=>simp only[Zvs,Zvr];exact Ybq ys _
   |_=>simp[Zvs,Zvr]
  |_=>simp[Zvs,Zvr]
def Yj4(l:List V):Yd0 l=Zvr l:=by
 cases l with
 |nil=>simp[Yd0,Zvr]
 |cons x xs=>exact Ybq xs x
def Ybt:∀(xs:List V) (x:V),Zzh x xs=Zvt (x::xs)
 |[],x=>by simp[Zzh,Zvt]
 |y::ys,x=>by
  cases x with
  |int k a=>
   cases y with
   |int k' b=>simp only[Zzh,Zvt];exact Ybt ys _
   |_=>simp[Zzh,Zvt]
  |_=>simp[Zzh,Zvt]
def Yj7(l:List V):Yd1 l=Zvt l:=by
 cases l with
 |nil=>simp[Yd1,Zvt]
 |cons x xs=>exact Ybt xs x
def Ziu(c:UInt8):List UInt8→Nat→Int
 |[],_=> -1
 |b::rest,i=>if b==c then (i:Int) else Ziu c rest (i+1)
def Ygb:Ext→List V→Option V
 |.add64,[.int .u64 x,.int .u64 y,.int .u64 c]=>if ¬(c=0∨c=1) then none else
   some (.tup [.int .u64 (Int.ofNat ((x.toNat+y.toNat+c.toNat)%2^64)),.int .u64 (Int.ofNat ((x.toNat+y.toNat+c.toNat)/2^64))])
 |.sub64,[.int .u64 x,.int .u64 y,.int .u64 b]=>if ¬(b=0∨b=1) then none else
   some (.tup [.int .u64 (Int.ofNat ((x.toNat+2^64-y.toNat-b.toNat)%2^64)),.int .u64 (if x.toNat<y.toNat+b.toNat then 1 else 0)])
 |.indexByteString,[.str s,.int .u8 c]=>some (.int .i64 (Ziu c.toNat.toUInt8 s 0))
 |.fbits,[.flt .f64 b]=>some (.int .u64 (b:Int))
 |.ffrom,[.int .u64 n]=>some (.flt .f64 n.toNat)
 |_,_=>none
abbrev Za1:=V→List V→St→Option (V×St)
def Zwe(op:BinOp)(t:EqT)(st:St)(i j:Nat):Option (V×St):=
 match op,t,st.h.get i,st.h.get j with
 |.eql,.prim .chan,some (.chan ..),some (.chan ..)=>some (.bool (i==j),st)
 |.neq,.prim .chan,some (.chan ..),some (.chan ..)=>some (.bool (!(i==j)),st)
 |_,_,_,_=>none
abbrev OpF:=Za1→T V→St→Option (V×St)
def Zms(x:Src):OpF:=fun _ r st=>match x.ev r with
  |some v=>some (v,st)
  |none=>none
def Zgz(c:Src)(a:Src)(b:Src):OpF:=fun _ r st=>match c.ev r with
  |some (.bool true)=>match a.ev r with
   |some v=>some (v,st)
   |none=>none
  |some (.bool false)=>match b.ev r with
   |some v=>some (v,st)
   |none=>none
  |_=>none
def Zhz(zero:List V)(elem:TypeId):OpF:=fun _ _ st=>some (.ptr st.n 0,st.alloc (.cells zero elem true))
def Zmx(elem:TypeId)(x:Src):OpF:=fun _ r st=>match x.ev r with
  |some v=>if v.cells.all V.one then some (.ptr st.n 0,st.alloc (.cells v.cells elem true)) else none
  |none=>none
def Zer(zero:List V)(parts:List (Nat×Nat×Src)):OpF:=fun _ r st=>match Zfe r parts with
  |some ps=>match Zn5 zero ps with
   |some l=>some (.agg l,st)
   |none=>none
  |none=>none
def Ze1(elem:TypeId)(size:Nat)(len:Nat)(zero:List V)(parts:List (Nat×Nat×Src)):OpF:=fun _ r st=>match Zfe r parts with
  |some ps=>match Zn5 zero ps with
   |some l=>if l.all V.one then some (.slice st.n 0 len (some len) size,st.alloc (.cells l elem true)) else none
   |none=>none
  |none=>none
def Zip(n:Option Nat)(a:Src):OpF:=fun _ r st=>match a.ev r with
  |some (.ptr i o)=>match st.row i with
   |some (c,_,_)=>match Zaj c o n with
    |some v=>some (v,st)
    |none=>none
   |none=>none
  |_=>none
def Zfb(n:Nat)(a:Src)(x:Src):OpF:=fun _ r st=>match a.ev r,x.ev r with
  |some (.ptr i o),some v=>match st.row i with
   |some (c,e,true)=>if v.cells.length=n∧o+n≤c.length∧v.cells.all V.one=true then some (.tup [],st.write i (.cells (splice c o v.cells) e true)) else none
   |_=>none
  |_,_=>none
def Zf8(x:Src):OpF:=fun _ r st=>match x.ev r with
  |some (.ptr i o)=>some (.ptr i o,st)
  |some (.func f a l)=>some (.func f a l,st)
  |_=>none
def Zmy(op:BinOp)(t:EqT)(ng:Bool)(x:Src)(y:Src):OpF:=fun _ r st=>match x.ev r,y.ev r with
  |some (.chan i),some (.chan j)=>Zwe op t st i j
  |some a,some b=>match Ypl op t ng a b with
   |some v=>some (v,st)
   |none=>none
  |_,_=>none
def Zta(op:UnOp)(x:Src):OpF:=fun _ r st=>match x.ev r with
  |some a=>match unV op a with
   |some v=>some (v,st)
   |none=>none
  |none=>none
def Zd0(k:IntKind)(x:Src):OpF:=fun _ r st=>match x.ev r with
  |some (.int _ n)=>some (.int k (Zap k n),st)
  |_=>none
def Zew(x:Src):OpF:=fun _ r st=>match x.ev r with
  |some (.str s)=>some (.str s,st)
  |_=>none
def Zcj(elem:TypeId)(x:Src):OpF:=fun _ r st=>match x.ev r with
  |some (.str s)=>some (.slice st.n 0 s.length none 1,st.alloc (.cells (s.map fun b=>.int .u8 b.toNat) elem true))
  |_=>none
def Zc4(x:Src):OpF:=fun _ r st=>match x.ev r with
  |some .nilslice=>some (.str [],st)
  |some (.slice i o len _ 1)=>match st.row i with
   |some (c,_,_)=>match slc c o len with
    |some l=>match l.mapM (fun v=>match v with|.int .u8 n=>some (UInt8.ofNat n.toNat)|_=>none)with
     |some s=>some (.str s,st)
     |none=>none
    |none=>none
   |none=>none
  |_=>none
def Zev(t:TypeId)(x:Src):OpF:=fun _ r st=>match x.ev r with
  |some v=>some (.iface t v,st)
  |none=>none
def Zez(f:FuncId)(first:List Src)(caps:List Src):OpF:=fun _ r st=>match Zhd r first,Zhd r caps with
  |some a,some l=>some (.func f a l,st)
  |_,_=>none
def Zhx:OpF:=fun _ _ st=>some (.map st.n,st.alloc (.map []))
def Zeg(bytes:Nat)(n:Src):OpF:=fun _ r st=>match n.ev r with
  |some (.int _ k)=>if k<0∨k > IntKind.i64.max∨bytes*k > 2^48-112 then none else some (.chan st.n,st.alloc (.chan k.toNat []))
  |_=>none
def Zcp(elem:TypeId)(size:Nat)(bytes:Nat)(zero:List V)(len:Src)(cap:Src):OpF:=fun _ r st=>match len.ev r,cap.ev r with
  |some (.int _ l),some (.int _ c)=>
   if 0≤l∧l≤c∧bytes*c≤2^47∧c<2^62∧size=zero.length∧size≠0 then
    some (.slice st.n 0 l.toNat (some c.toNat) size,st.alloc (.cells (Zc8 zero c.toNat) elem true)) else none
  |_,_=>none
def Zbn(x:Src)(lo:Option Src)(hi:Option Src):OpF:=fun _ r st=>match x.ev r,evOpt r lo,evOpt r hi with
  |some (.str s),some lo,some hi=>
   match Zax hi s.length s.length with
   |some h=>match Zax lo h 0 with
    |some l=>some (.str ((s.take h).drop l),st)
    |none=>none
   |none=>none
  |_,_,_=>none
def Za6(size:Nat)(x:Src)(lo:Option Src)(hi:Option Src)(mx:Option Src):OpF:=fun _ r st=>match x.ev r,evOpt r lo,evOpt r hi,evOpt r mx with
  |some .nilslice,some lo,some hi,some mx=>
   match Zax mx 0 0 with
   |some _=>match Zax hi 0 0 with
    |some _=>match Zax lo 0 0 with
     |some _=>if mx.isSome&&hi.isNone then none else some (.nilslice,st)
     |none=>none
    |none=>none
   |none=>none
  |some .empty,some lo,some hi,some none=>
   match Zax hi 0 0 with
   |some _=>match Zax lo 0 0 with
    |some _=>some (.empty,st)
    |none=>none
   |none=>none
  |some (.slice i o len (some c) sz),some lo,some hi,some mx=>
   if sz≠size∨(mx.isSome&&hi.isNone) then none else
   match Zax mx c c with
   |some m=>match Zax hi m len with
    |some h=>match Zax lo h 0 with
     |some l=>some (.slice i (if m=l then o else o+l*size) (h-l) (some (m-l)) sz,st)
     |none=>none
    |none=>none
   |none=>none
  |some (.slice i o len none sz),some lo,some hi,some mx=>
   if sz≠size∨size=0∨(mx.isSome&&hi.isNone) then none else
   match st.row i with
   |some (c,_,_)=>
    let k:=max len ((c.length-o)/size)
    match mx with
    |some m=>match Zd5 m k with
     |some m=>match Zax hi m len with
      |some h=>match Zax lo h 0 with
       |some l=>some (.slice i (if m=l then o else o+l*size) (h-l) (some (m-l)) sz,st)
       |none=>none
      |none=>none
     |none=>none
    |none=>match Zax hi k len with
     |some h=>match Zax lo h 0 with
      |some l=>if l<k then some (.slice i (o+l*size) (h-l) none sz,st) else some (.empty,st)
      |none=>none
     |none=>none
   |none=>none
  |_,_,_,_=>none
def Zbv(n:Nat)(size:Nat)(x:Src)(lo:Option Src)(hi:Option Src)(mx:Option Src):OpF:=fun _ r st=>match x.ev r,evOpt r lo,evOpt r hi,evOpt r mx with
  |some (.ptr i o),some lo,some hi,some none=>
   match Zax hi n n with
   |some h=>match Zax lo h 0 with
    |some l=>match st.row i with
     |some (c,_,_)=>if o+n*size≤c.length∧mx.isNone then some (.slice i (if n=l then o else o+l*size) (h-l) (some (n-l)) size,st) else none
     |none=>none
    |none=>none
   |none=>none
  |_,_,_,_=>none
def Zgb(off:Nat)(x:Src):OpF:=fun _ r st=>match x.ev r with
  |some (.ptr i o)=>some (.ptr i (o+off),st)
  |_=>none
def Zga(off:Nat)(n:Option Nat)(x:Src):OpF:=fun _ r st=>match x.ev r with
  |some (.agg cs)=>match Zaj cs off n with
   |some v=>some (v,st)
   |none=>none
  |_=>none
def Zca(len:Nat)(size:Nat)(x:Src)(i:Src):OpF:=fun _ r st=>match x.ev r,i.ev r with
  |some (.ptr a o),some (.int _ k)=>if 0≤k∧k<(len:Int) then some (.ptr a (o+k.toNat*size),st) else none
  |_,_=>none
def Zde(size:Nat)(x:Src)(i:Src):OpF:=fun _ r st=>match x.ev r,i.ev r with
  |some (.slice a o len _ _),some (.int _ k)=>if 0≤k∧k<(len:Int) then some (.ptr a (o+k.toNat*size),st) else none
  |_,_=>none
def Zfi(len:Nat)(size:Nat)(n:Option Nat)(x:Src)(i:Src):OpF:=fun _ r st=>match x.ev r,i.ev r with
  |some (.agg cs),some (.int _ k)=>if 0≤k∧k<(len:Int) then match Zaj cs (k.toNat*size) n with
    |some v=>some (v,st)
    |none=>none
   else none
  |_,_=>none
def Zei(x:Src)(i:Src):OpF:=fun _ r st=>match x.ev r,i.ev r with
  |some (.str s),some (.int _ k)=>if 0≤k then match s[k.toNat]? with
    |some b=>some (.int .u8 b.toNat,st)
    |none=>none
   else none
  |_,_=>none
def Ze0(kd:Zk3)(zero:V)(m:Src)(k:Src)(ok:Bool):OpF:=fun _ r st=>match m.ev r,k.ev r with
  |some m,some k=>
   if kd.fits k then
    match (match m with
     |.nilmap=>some []
     |.map i=>match st.h.get i with
      |some (.map es)=>some es
      |_=>none
     |_=>none)with
    |some es=>match findV kd k es 0 with
     |some (some (_,v))=>some (if ok then .tup [v,.bool true] else v,st)
     |some none=>some (if ok then .tup [zero,.bool false] else zero,st)
     |none=>none
    |none=>none
   else none
  |_,_=>none
def Zeh(kd:Zk3)(m:Src)(k:Src)(v:Src):OpF:=fun _ r st=>match m.ev r,k.ev r,v.ev r with
  |some (.map i),some k,some v=>
   if kd.fits k then
    match st.h.get i with
    |some (.map es)=>match findV kd k es 0 with
     |some (some (j,_))=>some (.tup [],st.write i (.map (es.set j (k,v))))
     |some none=>some (.tup [],st.write i (.map (es++[(k,v)])))
     |none=>none
    |_=>none
   else none
  |_,_,_=>none
def Zqy(kd:Zk3)(zero:V)(m:Src)(k:Src):OpF:=fun _ r st=>match m.ev r,k.ev r with
  |some (.map i),some k=>
   if kd.fits k then
    match st.h.get i with
    |some (.map es)=>match findV kd k es 0 with
     |some (some (j,v))=>some (.tup [v,.int .i64 j],st.write i (.map (es.set j (k,v))))
     |some none=>some (.tup [zero,.int .i64 es.length],st.write i (.map (es++[(k,zero)])))
     |none=>none
    |_=>none
   else none
  |_,_=>none
def Zmw(m:Src)(s:Src)(v:Src):OpF:=fun _ r st=>match m.ev r,s.ev r,v.ev r with
  |some (.map i),some (.int _ j),some v=>
   match st.h.get i with
   |some (.map es)=>if 0≤j then match es[j.toNat]? with
     |some (k,_)=>some (.tup [],st.write i (.map (es.set j.toNat (k,v))))
     |none=>none
    else none
   |_=>none
  |_,_,_=>none
def Zc3(x:Src):OpF:=fun _ r st=>match x.ev r with
  |some (.str s)=>some (.ptr st.n 0,st.alloc (.siter s 0))
  |_=>none
def Zdy(it:Src):OpF:=fun _ r st=>match it.ev r with
  |some (.ptr i 0)=>match st.h.get i with
   |some (.siter s pos)=>
    if pos<s.length then
     let cw:=Utf8.decode ⟨s.toArray⟩ pos
     some (.tup [.bool true,.int .i64 pos,.int .i32 cw.1],st.write i (.siter s (pos+cw.2)))
    else some (.tup [.bool false],st)
   |_=>none
  |_=>none
def Zdz(x:Src)(i:Nat):OpF:=fun _ r st=>match x.ev r with
  |some (.tup vs)=>match vs[i]? with
   |some v=>some (v,st)
   |none=>none
  |_=>none
def Zfh(k:Nat)(x:Src):OpF:=fun _ r st=>match k,x.ev r with
  |0,some (.str s)=>some (.int .i64 s.length,st)
  |1,some .nilslice=>some (.int .i64 0,st)
  |1,some .empty=>some (.int .i64 0,st)
  |1,some (.slice _ _ n _ _)=>some (.int .i64 n,st)
  |2,some .nilmap=>some (.int .i64 0,st)
  |2,some (.map i)=>match st.h.get i with
   |some (.map es)=>some (.int .i64 es.length,st)
   |_=>none
  |_,_=>none
def Zg0(n:Nat):OpF:=fun _ _ st=>some (.int .i64 n,st)
def Zon(x:Src):OpF:=fun _ r st=>match x.ev r with
  |some .nilslice=>some (.int .i64 0,st)
  |some (.slice _ _ _ (some c) _)=>some (.int .i64 c,st)
  |_=>none
def Zjv(args:List Src):OpF:=fun _ r st=>match Zhd r args with
  |some l=>match Yd0 l with
   |some v=>some (v,st)
   |none=>none
  |none=>none
def Zf9(args:List Src):OpF:=fun _ r st=>match Zhd r args with
  |some l=>match Yd1 l with
   |some v=>some (v,st)
   |none=>none
  |none=>none
def Zdm(size:Nat)(bytes:Nat)(elem:TypeId)(_:List V)(s:Src)(x:Src):OpF:=fun _ r st=>match s.ev r,x.ev r with
  |some s,some x=>Zbi st size bytes elem s x
  |_,_=>none
def Zg1(size:Nat)(d:Src)(s:Src):OpF:=fun _ r st=>match d.ev r,s.ev r with
  |some d,some s=>match Za0 st size s with
   |some (n,xs)=>match d with
    |.nilslice=>some (.int .i64 0,st)
    |.slice i o len _ sz=>
     if sz≠size∨size=0 then none else
     let k:=min n len
     if k=0 then some (.int .i64 0,st) else
     match st.row i with
     |some (c,e,true)=>if o+k*size≤c.length then some (.int .i64 k,st.write i (.cells (splice c o (xs.take (k*size))) e true)) else none
     |_=>none
    |_=>none
   |none=>none
  |_,_=>none
def Zhy(size:Nat)(zero:List V)(s:Src):OpF:=fun _ r st=>match s.ev r with
  |some .nilslice=>some (.tup [],st)
  |some .empty=>some (.tup [],st)
  |some (.slice i o len _ sz)=>
   if len=0 then some (.tup [],st) else
   if sz≠size∨size=0∨zero.length≠size then none else
   match st.row i with
   |some (c,e,true)=>if o+len*size≤c.length then some (.tup [],st.write i (.cells (splice c o (Zc8 zero len)) e true)) else none
   |_=>none
  |_=>none
def Zem(f:Src)(args:List Src):OpF:=fun call r st=>match f.ev r,Zhd r args with
  |some f,some l=>call f l st
  |_,_=>none
def Zmv(e:Ext)(args:List Src):OpF:=fun _ r st=>match e,Zhd r args with
  |.same,some [v]=>some (v,st)
  |e,some l=>match Ygb e l with
   |some v=>some (v,st)
   |none=>none
  |_,none=>none
def Zju(e:Option (TypeId×Nat))(x:Src):OpF:=fun _ r st=>match x.ev r with
  |some (.ptr i 0)=>match st.row i with
   |some (c,e',true)=>match e with
    |none=>if 0<c.length then some (.ptr i 0,st) else none
    |some (u,z)=>if e'=u∧0<z∧z≤c.length then some (.ptr i 0,st) else none
   |_=>none
  |_=>none
def Zhw(x:Src):OpF:=fun _ r st=>match x.ev r with
  |some (.slice i o len _ _)=>if 0<len then some (.ptr i o,st) else none
  |_=>none
def Ygy:V→Option UInt8
 |.int .u8 n=>if 0≤n∧n<256 then some n.toNat.toUInt8 else none
 |_=>none
def Znq:List V→Option (List UInt8)
 |[]=>some []
 |v::l=>match Ygy v,Znq l with
  |some b,some s=>some (b::s)
  |_,_=>none
def Zkx(e:TypeId)(x n:Src):OpF:=fun _ r st=>match x.ev r,n.ev r with
  |some (.ptr i 0),some (.int .i64 k)=>if 0<k∧k≤9223372036854775807 then
    match st.row i with
    |some (c,e',true)=>if e'=e then
      match slc c 0 k.toNat with
      |some seg=>match Znq seg with
       |some s=>some (.str s,st.write i (.cells c e' false))
       |none=>none
      |none=>none
     else none
    |_=>none
   else none
  |_,_=>none
def Ycl(op:BinOp)(k:FloatKind)(a b:Nat):Option V:=
 match op with
 |.add=>(k.format.add a b).map (V.flt k)
 |.sub=>(k.format.sub a b).map (V.flt k)
 |.mul=>(k.format.mul a b).map (V.flt k)
 |.quo=>(k.format.div a b).map (V.flt k)
 |.eql=>some (.bool (k.format.order a b==some .eq))
 |.neq=>some (.bool (k.format.order a b !=some .eq))
 |.lss=>some (.bool (k.format.order a b==some .lt))
 |.leq=>some (.bool (k.format.order a b==some .lt||k.format.order a b==some .eq))
 |.gtr=>some (.bool (k.format.order a b==some .gt))
 |.geq=>some (.bool (k.format.order a b==some .gt||k.format.order a b==some .eq))
 |_=>none
def Zmt(op:BinOp)(x:Src)(y:Src):OpF:=fun _ r st=>match x.ev r,y.ev r with
  |some (.flt k a),some (.flt k' b)=>if k=k' then match Ycl op k a b with
   |some v=>some (v,st)
   |none=>none
   else none
  |_,_=>none
def Zmu(k:IntKind)(x:Src):OpF:=fun _ r st=>match x.ev r with
  |some (.flt s b)=>match (s.decode b).toInt .zero with
   |some n=>if k.min≤n∧n≤k.max then some (.int k n,st) else none
   |none=>none
  |_=>none
def Zio(im:Bool)(x:Src):OpF:=fun _ r st=>match x.ev r with
  |some (.cpl k a b)=>some (.flt k (if im then b else a),st)
  |_=>none
def Ztb:OpF:=fun _ _ _=>none
def mop(op:MOp):OpF:=MOp.casesOn op Zms Zgz Zhz Zmx Zer Ze1 Zip Zfb Zf8 Zmy Zta Zd0 Zew Zcj Zc4 Zev Zez Zhx Zeg Zcp Zbn Za6 Zbv Zgb Zga Zca Zde Zfi Zei Ze0 Zeh Zqy Zmw Zc3 Zdy Zdz Zfh Zg0 Zon Zjv Zf9 Zdm Zg1 Zhy Zem Zmv Zju Zhw Zkx Zmt Zmu Zio Ztb
def Fr.put(fr:Fr)(d:Option Nat)(v:V):Option Fr:=
 match d with
 |some d=>if d<fr.n then some {fr with r:=fr.r.set d v} else none
 |none=>some fr
def wantedV(r:T V):Option (Nat×Bool)→Option Bool
 |none=>some true
 |some (t,want)=>match r.get t with
  |some (.bool b)=>some (b==want)
  |some (.tup _)=>some false
  |_=>none
def Zic(call:Za1)(o:Zbc)(next:Fr→St→Option (Fr×St))(fr:Fr)(st:St):Option (Fr×St):=
 match wantedV fr.r o.guard with
 |some true=>match mop o.op call fr.r st with
  |some (v,st')=>match fr.put o.dst v with
   |some fr'=>next fr' st'
   |none=>none
  |none=>none
 |some false=>match fr.put o.dst (.tup [])with
  |some fr'=>next fr' st
  |none=>none
 |none=>none
def Yhm(fr:Fr)(st:St):Option (Fr×St):=some (fr,st)
def mops(call:Za1):List Zbc→Fr→St→Option (Fr×St)
 |[]=>Yhm
 |o::rest=>Zic call o (mops call rest)
structure FP where
 rd:Option (List Nat)
 wr:List Nat
 lo:Nat
 hi:Nat
def MOp.silent:MOp→Bool
 |.mov _|.pick ..|.alloc ..|.box ..|.build ..|.bslice ..|.nilck _|.un ..|.convInt ..|.convStr _|.strBytes ..|.mkiface ..|.mkfunc ..|.mkmap|.mkchan ..
 |.mkslice ..|.sliceStr ..|.faddr ..|.field ..|.iaddrArr ..|.iaddrSl ..|.idxArr ..|.idxStr ..|.rangeStr _|.extract ..|.lenArr _|.cap _|.mn _|.mx _|.ext ..|.fbin ..|.fToI ..|.part ..=>true
 |.bin .add ..|.bin .sub ..|.bin .mul ..|.bin .quo ..|.bin .rem ..|.bin .lss ..|.bin .leq ..|.bin .gtr ..|.bin .geq ..|.bin .shl ..|.bin .shr ..|.bin .and ..|.bin .or ..|.bin .xor ..|.bin .andNot ..=>true
 |_=>false
def Zvv(r:T V):MOp→Option Nat
 |.load _ a=>match a.ev r with
  |some (.ptr i _)=>some i
  |_=>none
 |.store _ a _=>match a.ev r with
  |some (.ptr i _)=>some i
  |_=>none
 |_=>none
def Zcr(r:T V)(op:MOp)(ws:List Nat)(lo hi:Nat):FP:=
 if op.silent then ⟨some [],[],lo,hi⟩ else
 match Zvv r op with
 |some i=>if Nat.blt i lo then ⟨some [i],ws,lo,hi⟩ else ⟨none,ws,lo,hi⟩
 |none=>⟨none,ws,lo,hi⟩
def Zfm(i:Nat)(l:List Nat):List Nat:=if l.contains i then l else i::l
def Zae(n:Nat):List Nat→List Nat
 |[]=>[]
 |i::l=>if i<n then Zfm i (Zae n l) else Zae n l
def Zfd(call:Za1)(o:Zbc)(next:Fr→St→Option (List FP×Fr×St))(fr:Fr)(st:St):Option (List FP×Fr×St):=
 match wantedV fr.r o.guard with
 |some true=>match mop o.op call fr.r {st with w:=[]} with
  |some (v,st')=>match fr.put o.dst v with
   |some fr'=>match next fr' {st' with w:=Zae st.n st'.w++st.w} with
    |some (fps,fr'',st'')=>some (Zcr fr.r o.op (Zae st.n st'.w) st.n st'.n::fps,fr'',st'')
    |none=>none
   |none=>none
  |none=>none
 |some false=>match fr.put o.dst (.tup [])with
  |some fr'=>match next fr' st with
   |some (fps,fr'',st'')=>some (⟨some [],[],st.n,st.n⟩::fps,fr'',st'')
   |none=>none
  |none=>none
 |none=>none
def Yat(fr:Fr)(st:St):Option (List FP×Fr×St):=some ([],fr,st)
def mopsD(call:Za1):List Zbc→Fr→St→Option (List FP×Fr×St)
 |[]=>Yat
 |o::rest=>Zfd call o (mopsD call rest)
def Zj2(a:List Nat):Option (List Nat)→Bool
 |none=>!a.isEmpty
 |some b=>a.any fun i=>b.contains i
def FP.free(a b:FP):Bool:=!(Zj2 a.wr b.rd||Zj2 a.wr (some b.wr)||Zj2 b.wr a.rd||b.wr.any fun i=>Nat.ble a.lo i&&Nat.blt i a.hi)
def Zal{α:Type}(p:α→α→Bool)(xs:List α)(masks:List Nat):Bool:=
 go xs masks 0 []
where
 go:List α→List Nat→Nat→List α→Bool
  |[],_,_,_=>true
  |f::fs,ms,j,seen=>
   (chk f (ms.headD 0) (j-1) seen)&&go fs ms.tail (j+1) (f::seen)
 chk (f:α) (m:Nat):Nat→List α→Bool
  |_,[]=>true
  |i,g::gs=>(m.testBit i||p g f)&&chk f m (i-1) gs
def apartOk(fps:List FP)(masks:List Nat):Bool:=Zal FP.free fps masks
def Src.tmps:Src→List Nat
 |.tmp t=>[t]
 |.const _=>[]
def Ydy:Option Src→List Src
 |none=>[]
 |some s=>[s]
def MOp.srcs:MOp→List Src
 |.mov x=>[x]
 |.pick c a b=>[c,a,b]
 |.alloc ..=>[]
 |.box _ x=>[x]
 |.build _ ps=>ps.map (·.2.2)
 |.bslice _ _ _ _ ps=>ps.map (·.2.2)
 |.load _ a=>[a]
 |.store _ a x=>[a,x]
 |.nilck x=>[x]
 |.bin _ _ _ x y=>[x,y]
 |.un _ x=>[x]
 |.convInt _ x=>[x]
 |.convStr x=>[x]
 |.strBytes _ x=>[x]
 |.bytesStr x=>[x]
 |.mkiface _ x=>[x]
 |.mkfunc _ a c=>a++c
 |.mkmap=>[]
 |.mkchan _ n=>[n]
 |.mkslice _ _ _ _ l c=>[l,c]
 |.sliceStr x lo hi=>x::(Ydy lo++Ydy hi)
 |.sliceSl _ x lo hi m=>x::(Ydy lo++Ydy hi++Ydy m)
 |.sliceArr _ _ x lo hi m=>x::(Ydy lo++Ydy hi++Ydy m)
 |.faddr _ x=>[x]
 |.field _ _ x=>[x]
 |.iaddrArr _ _ x i=>[x,i]
 |.iaddrSl _ x i=>[x,i]
 |.idxArr _ _ _ x i=>[x,i]
 |.idxStr x i=>[x,i]
 |.lookup _ _ m k _=>[m,k]
 |.mapset _ m k v=>[m,k,v]
 |.mapent _ _ m k=>[m,k]
 |.entset m s v=>[m,s,v]
 |.rangeStr x=>[x]
 |.nextStr x=>[x]
 |.extract x _=>[x]
 |.len _ x=>[x]
 |.lenArr _=>[]
 |.cap x=>[x]
 |.mn l=>l
 |.mx l=>l
 |.append _ _ _ _ s x=>[s,x]
 |.copy _ d s=>[d,s]
 |.clear _ _ s=>[s]
 |.call f l=>f::l
 |.ext _ l=>l
 |.uns _ x=>[x]
 |.sdata x=>[x]
 |.ustr _ x n=>[x,n]
 |.fbin _ x y=>[x,y]
 |.fToI _ x=>[x]
 |.part _ x=>[x]
 |.stop=>[]
def Zbc.reads(o:Zbc):List Nat:=
 (match o.guard with|some (t,_)=>[t]|none=>[])++o.op.srcs.flatMap Src.tmps
def Ymz(d:Option Nat)(l:List Nat):Bool:=
 match d with
 |some t=>l.contains t
 |none=>false
def Zwm(a b:Zbc):Bool:=!(Ymz a.dst b.reads||Ymz b.dst a.reads||Ymz a.dst b.dst.toList)
def Ynw(st:St)(i:Nat)(send:Option V)(zero:V):Option (V×St):=
 match st.h.get i,send with
 |some (.chan cap buf),some v=>if buf.length<cap then some (.tup [.int .i64 0,.bool false],st.write i (.chan cap (buf++[v]))) else some (.tup [.int .i64 (-1),.bool false],st)
 |some (.chan cap (v::buf)),none=>some (.tup [.int .i64 0,.bool true,v],st.write i (.chan cap buf))
 |some (.chan _ []),none=>some (.tup [.int .i64 (-1),.bool false,zero],st)
 |_,_=>none
abbrev Zfu:=Option Nat→Zaw→Fr→St→Option (Ex×Fr×St)
abbrev Zkm:=Za1→Zfu→Option Nat→Fr→St→Option (Ex×Fr×St)
def Ydk:Zkm:=fun _ _ _ fr st=>some (.normal,fr,st)
def Znm(ops:List Zbc):Zkm:=fun call _ _ fr st=>match mops call ops fr st with
 |some (fr',st')=>some (.normal,fr',st')
 |none=>none
def Zhk(ops:List Zbc)(masks:List Nat):Zkm:=fun call _ _ fr st=>match mopsD call ops fr st with
 |some (fps,fr',st')=>match apartOk fps masks with
  |true=>some (.normal,fr',st')
  |false=>none
 |none=>none
def Zhj(dst:Option Nat)(ch:Src)(send:Option Src)(zero:V)(ops:List Zbc):Zkm:=fun call _ _ fr st=>
 match ch.ev fr.r,evOpt fr.r send with
 |some (.chan i),some sv=>match Ynw st i sv zero with
  |some (v,st1)=>match fr.put dst v with
   |some fr1=>match mops call ops fr1 st1 with
    |some (fr',st')=>some (.normal,fr',st')
    |none=>none
   |none=>none
  |none=>none
 |_,_=>none
def Zn6(a b:Zaw):Zkm:=fun _ rec ro fr st=>match rec ro a fr st with
 |some (.normal,fr',st')=>rec ro b fr' st'
 |x=>x
def Zfs(x:Src)(a b:Zaw):Zkm:=fun _ rec ro fr st=>match x.ev fr.r with
 |some (.bool true)=>rec ro a fr st
 |some (.bool false)=>rec ro b fr st
 |_=>none
def Zff(id:Nat)(c:Zaw):Zkm:=fun _ rec ro fr st=>match rec ro c fr st with
 |some (.exit id',fr',st')=>match Nat.beq id' id with
  |true=>some (.normal,fr',st')
  |false=>some (.exit id',fr',st')
 |x=>x
def Zie(c:Zaw):Zkm:=fun _ rec ro fr st=>match rec ro c fr st with
 |some (.normal,fr',st')=>rec ro (.loop c) fr' st'
 |x=>x
def Zs5(st:St):Option Nat→Option (St×Nat×List Nat)
 |none=>some (st.alloc (.defs true),st.n,[st.n])
 |some l=>match st.h.get l with
  |some (.loop R)=>some (st,R.defs,[])
  |_=>none
def V.isY:V→Bool
 |.yield _=>true
 |_=>false
def Zet(g:Src)(ps:List Nat)(assign body:Zaw):Zkm:=fun call _ ro fr st=>
 match g.ev fr.r with
 |none=>none
 |some gv=>
  if gv.isY then none else
  match Zs5 st ro with
  |none=>none
  |some (st1,d,mk)=>
   match call gv [.yield st1.n] (st1.alloc (.loop {st:=.ready,pend:=none,r:=fr.r,n:=fr.n,ps:=ps,assign:=assign,body:=body,defs:=d}))with
   |none=>none
   |some (_,st2)=>
    match st2.h.get st1.n with
    |some (.loop R)=>
     if R.st=.busy then none else
     some (match R.pend with|none=>.normal|some e=>e,{fr with marks:=mk++fr.marks},st2.write st1.n (.loop {R with st:=.exhausted}))
    |_=>none
def Yh9(id:Nat):Zkm:=fun _ _ _ fr st=>some (.exit id,fr,st)
def Ydl(c:Zaw):Zkm:=fun _ rec ro fr st=>rec ro c fr st
def Yni:Zkm:=fun _ _ _ fr st=>some (.ret,fr,st)
def Zo2:Zkm:=fun _ _ _ _ _=>none
def Zbb(c:Zaw):Zkm:=Zaw.casesOn c Ydk Znm Zhk Zhj Zn6 Zfs Zff Zie Zet Yh9 Ydl Yni Zo2
def Zl2:Zfu:=fun _ _ _ _=>none
def Zbh(call:Za1):Nat→Zfu
 |0=>Zl2
 |f+1=>fun ro c=>Zbb c call (Zbh call f) ro
def Zek(r:T V)(i:Nat):List V→T V
 |[]=>r
 |v::vs=>Zek (r.set i v) (i+1) vs
def Zmm(r:T V)(n:Nat):List Nat→List V→Option (T V)
 |[],[]=>some r
 |p::ps,v::vs=>if p<n then Zmm (r.set p v) n ps vs else none
 |_,_=>none
def resV(r:T V)(st:St):List Ylt→Option (List V)
 |[]=>some []
 |.tmp t::rest=>match r.get t,resV r st rest with
  |some v,some vs=>some (v::vs)
  |_,_=>none
 |.cell t n::rest=>match r.get t,resV r st rest with
  |some (.ptr i o),some vs=>match st.row i with
   |some (c,_,_)=>match Zaj c o n with
    |some v=>some (v::vs)
    |none=>none
   |none=>none
  |_,_=>none
def shut(st:St):List Nat→Option St
 |[]=>some st
 |d::ds=>match st.h.get d with
  |some (.defs true)=>shut (st.write d (.defs false)) ds
  |_=>none
def Zg8:Option Ex→LoopState
 |none=>.ready
 |some _=>.done
def Zen:Ex→Option Ex
 |.normal=>none
 |e=>some e
def Zqr:List V→V
 |[v]=>v
 |vs=>.tup vs
def Zt5(mf:Zej)(st:St):Option (Ex×Fr×St)→Option (V×St)
 |some (.exit _,_,_)=>none
 |some (_,fr,st1)=>match shut st1 fr.marks with
  |none=>none
  |some st2=>match resV fr.r st2 mf.results with
   |some vs=>some (Zqr vs,{st2 with w:=Zae st.n st2.w++st.w})
   |none=>none
 |none=>none
def Zgf(mf:Zej)(code:Zfu)(args:List V)(st:St):Option (V×St):=
 if mf.ntmps<args.length then none else
 Zt5 mf st (code none mf.body {r:=Zek .nil 0 args,n:=mf.ntmps,marks:=[]} {st with w:=[]})
def Zf6(code:Zfu)(l:Nat)(args:List V)(st:St):Option (V×St):=
 match st.h.get l with
 |some (.loop R)=>match Zmm R.r R.n R.ps args with
  |none=>none
  |some r0=>match code (some l) R.assign {r:=r0,n:=R.n,marks:=[]} st with
   |some (.normal,fr1,st1)=>match st1.h.get l with
    |some (.loop R1)=>
     if R1.st=.ready then
      match code (some l) R.body fr1 (st1.write l (.loop {R1 with st:=.busy}))with
      |some (e,_,st2)=>match st2.h.get l with
       |some (.loop R2)=>some (.bool (Zen e).isNone,st2.write l (.loop {R2 with st:=Zg8 (Zen e),pend:=Zen e}))
       |_=>none
      |none=>none
     else none
    |_=>none
   |_=>none
 |_=>none
def Zcq(tbl:Nat→Option Zej)(code:Zfu):Za1
 |.func f first caps,args,st=>match tbl f with
  |some mf=>Zgf mf code (first++args++caps) st
  |none=>none
 |.yield l,args,st=>Zf6 code l args st
 |_,_,_=>none
def Zp5:Za1:=fun _ _ _=>none
end Go.Mx
