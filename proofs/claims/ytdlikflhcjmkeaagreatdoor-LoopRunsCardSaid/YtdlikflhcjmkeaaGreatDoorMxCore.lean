/-The abstract machine M-/
import Derived.RangeFuncLeaves
import Derived.OrdersIn
import Derived.RangeFuncRecord
set_option linter.all false
namespace Go.Mx
abbrev Yq0:=@List.length_take
abbrev Yq1:=@Bool.and_eq_true
abbrev Yq2:=@Nat.div_lt_iff_lt_mul
abbrev Yq3:=@Nat.pow_le_pow_right
abbrev Yq4:=@List.getElem?_map
abbrev Yq5:=@Nat.mul_comm
abbrev Yq6:=@List.mem_cons_of_mem
abbrev Yq7:=@List.getElem?_set_self
abbrev Yq8:=@List.mem_cons_self
abbrev Yq9:=@List.ext_getElem?
abbrev Yqc:=@Option.some.injEq
abbrev Yqd:=@List.length_cons
abbrev Yqe:=@if_neg
abbrev Yqf:=@Prod.mk.injEq
abbrev Yqg:=@Nat.le_refl
abbrev Yqh:=@List.getElem?_eq_getElem
abbrev Yqi:=@if_pos
abbrev Yqj:=@List.getElem?_set_ne
abbrev Yqk:=@Int.natAbs_natCast
abbrev Yql:=@Option.map_eq_some_iff
abbrev Yqm:=@Bool.false_eq_true
abbrev Yqn:=@List.mem_of_getElem?
abbrev Yqo:=@List.getElem?_drop
abbrev Yqp:=@List.take_of_length_le
abbrev Yqq:=@Nat.lt_of_lt_of_le
abbrev Yqr:=@List.length_append
abbrev Yqs:=@Nat.mul_le_mul_left
abbrev Yqt:=@Int.mul_le_mul_of_nonneg_left
abbrev Yqu:=@List.cons.injEq
abbrev Yqv:=@List.getElem?_eq_none
abbrev Yqw:=@List.eq_nil_of_length_eq_zero
abbrev Yqx:=@Nat.pow_succ
abbrev Yqy:=@List.getElem?_take
abbrev Yqz:=@Nat.mul_le_mul_right
abbrev Yr0:=@List.take_append_drop
abbrev Yr1:=@Nat.mul_le_mul
abbrev Yr2:=@Nat.mod_eq_of_lt
abbrev Yr3:=@Int.tmod_eq_emod_of_nonneg
abbrev Yr4:=@Nat.le_trans
abbrev Yr6:=@Int.mul_nonneg
abbrev Yr7:=@Nat.le_of_not_lt
abbrev Yr8:=@Int.le_of_lt
abbrev Yr9:=@Array.getD_eq_getD_getElem?
abbrev Yra:=@Nat.lt_of_le_of_lt
abbrev Yrb:=@Nat.min_eq_left
abbrev Yrc:=@Option.some.inj
abbrev Yrd:=@List.mem_cons
abbrev Yre:=@Nat.pow_add
abbrev Yrf:=@Nat.add_mul
abbrev Yrg:=@Nat.le_of_ble_eq_true
abbrev Yrh:=@List.append_assoc
abbrev Yri:=@Nat.mod_lt
abbrev Yrj:=@List.map_cons
abbrev Yrk:=@Int.tdiv_eq_ediv_of_nonneg
abbrev Yrl:=@Nat.lt_succ_self
abbrev Yrm:=@Nat.lt_of_not_le
abbrev Yrn:=@Nat.two_pow_pos
abbrev Yro:=@List.getElem?_eq_some_iff
abbrev Yrp:=@List.getElem?_append_left
abbrev Yrq:=@Nat.add_assoc
abbrev Yrr:=@List.drop_eq_nil_of_le
abbrev Yrs:=@List.all_eq_true
abbrev Yrt:=@Nat.div_add_mod
abbrev Yru:=@Int.mul_le_mul_of_nonneg_right
abbrev Yrv:=@Array.getElem?_toList
abbrev Yrw:=@List.length_singleton
abbrev Yrx:=@List.getElem?_cons_zero
abbrev Yry:=@List.mem_append
abbrev Yrz:=@Nat.div_le_self
abbrev Ys0:=@Nat.mul_one
abbrev Ys1:=@Nat.pow_pos
abbrev Ys2:=@List.drop_zero
abbrev Ys3:=@Int.natAbs_neg
abbrev Ys4:=@List.take_add_one
abbrev Ys5:=@Option.map_some
abbrev Ys6:=@Nat.le_max_left
abbrev Ys7:=@Nat.div_lt_self
abbrev Ys8:=@Nat.mul_lt_mul_of_pos_right
abbrev Ys9:=@Nat.pow_le_pow_left
abbrev Ysa:=@Nat.mul_add
abbrev Ysb:=@Array.getElem?_setIfInBounds_ne
abbrev Ysc:=@List.getElem?_cons_succ
abbrev Ysd:=@Int.eq_ofNat_of_zero_le
abbrev Yse:=@Int.natAbs_mul
abbrev Ysf:=@List.mem_singleton
abbrev Ysg:=@List.mem_of_mem_take
abbrev Ysh:=@Nat.add_zero
abbrev Ysi:=@Nat.div_eq_of_lt
abbrev Ysj:=@List.drop_eq_getElem_cons
abbrev Ysk:=@Option.ite_none_left_eq_some
abbrev Ysl:=@Int.mul_ediv_add_emod
abbrev Ysm:=@List.append_nil
abbrev Ysn:=@Rat.num_divInt_den
abbrev Yso:=@List.length_drop
abbrev Ysp:=@List.take_length
abbrev Ysq:=@Nat.div_div_eq_div_mul
abbrev Ysr:=@Nat.lt_of_succ_le
abbrev Yss:=@List.map_toArray
abbrev Yst:=@Nat.zero_add
abbrev Ysu:=@Nat.le_max_right
abbrev Ysv:=@List.cons_append
abbrev Ysw:=@Int.emod_lt_of_pos
abbrev Ysx:=@List.drop_length
abbrev Ysy:=@Nat.mul_lt_mul''
abbrev Ysz:=@Nat.zero_le
abbrev Yt0:=@Nat.eq_of_beq_eq_true
abbrev Yt1:=@List.contains_iff_mem
abbrev Yt2:=@Nat.ble_eq_true_of_le
abbrev Yt3:=@List.singleton_append
abbrev Yt4:=@List.dropLast_concat_getLast
abbrev Yt5:=@Nat.mul_div_mul_right
abbrev Yta:=@List.map_nil
abbrev Ytb:=@Nat.le_succ
abbrev Ytc:=@Nat.mul_pos
abbrev Ytd:=@List.getElem?_append_right
abbrev Yte:=@Nat.not_lt
abbrev Ytf:=@Nat.mul_assoc
abbrev Ytg:=@Int.le_of_not_gt
abbrev Yth:=@Nat.le_div_iff_mul_le
abbrev Yti:=@Int.emod_nonneg
abbrev Ytj:=@Nat.pow_zero
abbrev Ytk:=@List.length_set
abbrev Ytl:=@Bool.not_eq_true'
abbrev Ytm:=@Array.ext'
abbrev Ytn:=@List.mem_replicate
abbrev Yto:=@Bool.or_eq_true
abbrev Ytp:=@Nat.mul_mod_mul_right
abbrev Ytq:=@Int.ofNat_eq_natCast
abbrev Ytr:=@List.getElem?_of_mem
abbrev Yts:=@List.mem_map
abbrev Ytt:=@Array.all_eq_true_iff_forall_mem
abbrev Ytu:=@Int.lt_of_not_ge
abbrev Ytv:=@Nat.gcd_pos_of_pos_right
abbrev Ytw:=@List.getElem?_range
abbrev Ytx:=@Nat.eq_zero_or_pos
abbrev Yty:=@Int.natCast_mul
abbrev Ytz:=@Int.mul_ne_zero
abbrev Yye:=@Bool.false_and
inductive T (α:Type) where
 |nil
 |node (l:T α) (v:Option α) (r:T α)
def T.get{α:Type}:T α→Nat→Option α
 |.nil,_=>none
 |.node l v r,n=>
  match n with
  |0=>v
  |k+1=>match k%2 with
   |0=>l.get (k/2)
   |_=>r.get (k/2)
def T.setF{α:Type}:Nat→T α→Nat→α→T α
 |0,t,_,_=>t
 |f+1,.nil,n,a=>
  match n with
  |0=>.node .nil (some a) .nil
  |k+1=>match k%2 with
   |0=>.node (T.setF f .nil (k/2) a) none .nil
   |_=>.node .nil none (T.setF f .nil (k/2) a)
 |f+1,.node l v r,n,a=>
  match n with
  |0=>.node l (some a) r
  |k+1=>match k%2 with
   |0=>.node (T.setF f l (k/2) a) v r
   |_=>.node l v (T.setF f r (k/2) a)
def T.set{α:Type}(t:T α)(n:Nat)(a:α):T α:=T.setF (n+1) t n a
def T.get_setF{α:Type}(a:α):∀(f:Nat) (t:T α) (n m:Nat),n<f→(T.setF f t n a).get m=if m=n then some a else t.get m:=by
 intro f
 induction f with
 |zero=>intro t n m h;omega
 |succ f ih=>
  intro t n m h
  cases t with
  |nil=>
   cases n with
   |zero=>
    cases m with
    |zero=>simp[T.setF,T.get]
    |succ j=>simp only[T.setF,T.get];split<;>simp
   |succ k=>
    have hk:k/2<f:=by omega
    have h2:k%2=0∨k%2=1:=by omega
    rcases h2 with h2|h2
    ·cases m with
     |zero=>simp[T.setF,T.get,h2]
     |succ j=>
      have hj:j%2=0∨j%2=1:=by omega
      rcases hj with hj|hj
      ·simp only[T.setF,T.get,h2,hj,ih _ _ _ hk]
       by_cases e:j/2=k/2
       ·have:j=k:=by omega
        simp[this]
       ·have:¬j=k:=by intro e2;exact e (by rw[e2])
        simp[e,this]
      ·have:¬j=k:=by omega
       simp[T.setF,T.get,h2,hj,this]
    ·cases m with
     |zero=>simp[T.setF,T.get,h2]
     |succ j=>
      have hj:j%2=0∨j%2=1:=by omega
      rcases hj with hj|hj
      ·have:¬j=k:=by omega
       simp[T.setF,T.get,h2,hj,this]
      ·simp only[T.setF,T.get,h2,hj,ih _ _ _ hk]
       by_cases e:j/2=k/2
       ·have:j=k:=by omega
        simp[this]
       ·have:¬j=k:=by intro e2;exact e (by rw[e2])
        simp[e,this]
  |node l v r=>
   cases n with
   |zero=>cases m<;>simp[T.setF,T.get]
   |succ k=>
    have hk:k/2<f:=by omega
    have h2:k%2=0∨k%2=1:=by omega
    rcases h2 with h2|h2
    ·cases m with
     |zero=>simp[T.setF,T.get,h2]
     |succ j=>
      have hj:j%2=0∨j%2=1:=by omega
      rcases hj with hj|hj
      ·simp only[T.setF,T.get,h2,hj,ih _ _ _ hk]
       by_cases e:j/2=k/2
       ·have:j=k:=by omega
        simp[this]
       ·have:¬j=k:=by intro e2;exact e (by rw[e2])
        simp[e,this]
      ·have:¬j=k:=by omega
       simp[T.setF,T.get,h2,hj,this]
    ·cases m with
     |zero=>simp[T.setF,T.get,h2]
     |succ j=>
      have hj:j%2=0∨j%2=1:=by omega
      rcases hj with hj|hj
      ·have:¬j=k:=by omega
       simp[T.setF,T.get,h2,hj,this]
      ·simp only[T.setF,T.get,h2,hj,ih _ _ _ hk]
       by_cases e:j/2=k/2
       ·have:j=k:=by omega
        simp[this]
       ·have:¬j=k:=by intro e2;exact e (by rw[e2])
        simp[e,this]
def T.get_set{α:Type}(t:T α)(n m:Nat)(a:α):(t.set n a).get m=if m=n then some a else t.get m:=
 T.get_setF a (n+1) t n m (Yrl n)
inductive V where
 |bool (b:Bool)
 |int (k:IntKind) (n:Int)
 |flt (k:FloatKind) (bits:Nat)
 |cpl (k:FloatKind) (re im:Nat)
 |str (s:List UInt8)
 |nilptr
 |ptr (i o:Nat)
 |nilslice
 |slice (i o len:Nat) (cap:Option Nat) (sz:Nat)
 |empty
 |nilmap
 |map (i:Nat)
 |nilchan
 |chan (i:Nat)
 |func (f:FuncId) (first cap:List V)
 |yield (i:Nat)
 |nilfunc
 |iface (t:TypeId) (v:V)
 |niliface
 |agg (l:List V)
 |tup (l:List V)
instance:Inhabited V:=⟨.tup []⟩
def V.cells:V→List V
 |.agg l=>l
 |v=>[v]
def V.one:V→Bool
 |.agg _|.tup _=>false
 |_=>true
inductive Src where
 |tmp (t:Nat)
 |const (v:V)
inductive PK where
 |bool|int|str|ptr|slice|map|func|chan|iface
inductive EqT where
 |prim (k:PK)
 |node (parts:List (Nat×Option Nat×EqT))
inductive Zkp where
 |int (k:IntKind)
 |str
inductive Ext where
 |add64|sub64|same|indexByteString|indexString|fbits|ffrom
inductive MOp where
 |mov (x:Src)
 |pick (c a b:Src)
 |alloc (zero:List V) (elem:TypeId)
 |box (elem:TypeId) (x:Src)
 |build (zero:List V) (parts:List (Nat×Nat×Src))
 |bslice (elem:TypeId) (size len:Nat) (zero:List V) (parts:List (Nat×Nat×Src))
 |load (n:Option Nat) (a:Src)
 |store (n:Nat) (a x:Src)
 |nilck (x:Src)
 |bin (op:BinOp) (t:EqT) (ng:Bool) (x y:Src)
 |un (op:UnOp) (x:Src)
 |convInt (k:IntKind) (x:Src)
 |convStr (x:Src)
 |strBytes (elem:TypeId) (x:Src)
 |bytesStr (x:Src)
 |mkiface (t:TypeId) (x:Src)
 |mkfunc (f:FuncId) (first caps:List Src)
 |mkmap
 |mkchan (bytes:Nat) (n:Src)
 |mkslice (elem:TypeId) (size bytes:Nat) (zero:List V) (len cap:Src)
 |sliceStr (x:Src) (lo hi:Option Src)
 |sliceSl (size:Nat) (x:Src) (lo hi mx:Option Src)
 |sliceArr (n size:Nat) (x:Src) (lo hi mx:Option Src)
 |faddr (off:Nat) (x:Src)
 |field (off:Nat) (n:Option Nat) (x:Src)
 |iaddrArr (len size:Nat) (x i:Src)
 |iaddrSl (size:Nat) (x i:Src)
 |idxArr (len size:Nat) (n:Option Nat) (x i:Src)
 |idxStr (x i:Src)
 |lookup (kd:Zkp) (zero:V) (m k:Src) (ok:Bool)
 |mapset (kd:Zkp) (m k v:Src)
 |mapent (kd:Zkp) (zero:V) (m k:Src)
 |entset (m s v:Src)
 |rangeStr (x:Src)
 |nextStr (it:Src)
 |extract (x:Src) (i:Nat)
 |len (k:Nat) (x:Src)
 |lenArr (n:Nat)
 |cap (x:Src)
 |mn (args:List Src)
 |mx (args:List Src)
 |append (size bytes:Nat) (elem:TypeId) (zero:List V) (s x:Src)
 |copy (size:Nat) (d s:Src)
 |clear (size:Nat) (zero:List V) (s:Src)
 |call (f:Src) (args:List Src)
 |ext (e:Ext) (args:List Src)
 |uns (e:Option (TypeId×Nat)) (x:Src)
 |sdata (x:Src)
 |ustr (e:TypeId) (x n:Src)
 |fbin (op:BinOp) (x y:Src)
 |fToI (k:IntKind) (x:Src)
 |part (im:Bool) (x:Src)
 |stop
structure Za9 where
 dst:Option Nat
 op:MOp
 guard:Option (Nat×Bool)
inductive Zaz where
 |skip
 |reg (ops:List Za9)
 |regD (ops:List Za9) (masks:List Nat)
 |regS (dst:Option Nat) (ch:Src) (send:Option Src) (zero:V) (ops:List Za9)
 |seq (a b:Zaz)
 |cond (c:Src) (a b:Zaz)
 |block (id:Nat) (c:Zaz)
 |loop (c:Zaz)
 |rangef (g:Src) (ps:List Nat) (assign body:Zaz)
 |exit (id:Nat)
 |scope (c:Zaz)
 |ret
 |stop
inductive Ykp where
 |tmp (t:Nat)
 |cell (t:Nat) (n:Option Nat)
structure Zee where
 ntmps:Nat
 results:List Ykp
 body:Zaz
inductive Ex where
 |normal
 |exit (id:Nat)
 |ret
structure Ymk where
 st:LoopState
 pend:Option Ex
 r:T V
 n:Nat
 ps:List Nat
 assign:Zaz
 body:Zaz
 defs:Nat
inductive O where
 |cells (c:List V) (elem:TypeId) (rw:Bool)
 |map (es:List (V×V))
 |chan (cap:Nat) (buf:List V)
 |siter (s:List UInt8) (pos:Nat)
 |loop (l:Ymk)
 |defs (isOpen:Bool)
 |dead
def O.wr:O→Bool
 |.cells _ _ rw=>rw
 |.dead=>false
 |_=>true
def O.live:O→Bool
 |.dead=>false
 |_=>true
structure St where
 h:T O
 n:Nat
 w:List Nat
def St.alloc(st:St)(o:O):St:={st with h:=st.h.set st.n o,n:=st.n+1}
def St.write(st:St)(i:Nat)(o:O):St:={st with h:=st.h.set i o,w:=i::st.w}
structure Fr where
 r:T V
 n:Nat
 marks:List Nat
def Src.ev(r:T V):Src→Option V
 |.tmp t=>r.get t
 |.const v=>some v
def Zhw(r:T V):List Src→Option (List V)
 |[]=>some []
 |x::xs=>match x.ev r,Zhw r xs with
  |some v,some vs=>some (v::vs)
  |_,_=>none
def evOpt(r:T V):Option Src→Option (Option V)
 |none=>some none
 |some x=>match x.ev r with
  |some v=>some (some v)
  |none=>none
def slc{α:Type}(c:List α)(o n:Nat):Option (List α):=if o+n≤c.length then some ((c.drop o).take n) else none
def splice{α:Type}(c:List α)(o:Nat)(vs:List α):List α:=c.take o++vs++c.drop (o+vs.length)
def Znl(cells:List V):List (Nat×Nat×V)→Option (List V)
 |[]=>some cells
 |(off,size,v)::rest=>
  if v.cells.length=size∧off+size≤cells.length then Znl (splice cells off v.cells) rest else none
def Ze9(r:T V):List (Nat×Nat×Src)→Option (List (Nat×Nat×V))
 |[]=>some []
 |(o,s,x)::rest=>match x.ev r,Ze9 r rest with
  |some v,some vs=>some ((o,s,v)::vs)
  |_,_=>none
def Zah(cs:List V)(off:Nat):Option Nat→Option V
 |none=>cs[off]?
 |some n=>match slc cs off n with
  |some l=>some (.agg l)
  |none=>none
def Zak(ng:Bool):PK→V→V→Option Bool
 |.bool,.bool a,.bool b=>some (a==b)
 |.int,.int k a,.int k' b=>if k=k' then some (a==b) else none
 |.str,.str a,.str b=>some (a==b)
 |.ptr,.nilptr,.nilptr=>some true
 |.ptr,.nilptr,.ptr _ _=>some false
 |.ptr,.ptr _ _,.nilptr=>some false
 |.ptr,.ptr i o,.ptr j p=>if i=j∧o=p then some true else none
 |.slice,.nilslice,.nilslice=>some true
 |.slice,.nilslice,.slice ..=>some false
 |.slice,.slice ..,.nilslice=>some false
 |.slice,.nilslice,.empty=>some false
 |.slice,.empty,.nilslice=>some false
 |.map,.nilmap,.nilmap=>some true
 |.map,.nilmap,.map _=>some false
 |.map,.map _,.nilmap=>some false
 |.func,.nilfunc,.nilfunc=>some true
 |.func,.nilfunc,.func ..=>some false
 |.func,.func ..,.nilfunc=>some false
 |.chan,.nilchan,.nilchan=>some true
 |.chan,.nilchan,.chan _=>some false
 |.chan,.chan _,.nilchan=>some false
 |.iface,.niliface,.niliface=>if ng then some true else none
 |.iface,.niliface,.iface ..=>some false
 |.iface,.iface ..,.niliface=>some false
 |_,_,_=>none
mutual
def eqV(ng:Bool):EqT→V→V→Option Bool
 |.prim k,x,y=>Zak ng k x y
 |.node ps,.agg xs,.agg ys=>Zmw ps xs ys
 |_,_,_=>none
def Zmw:List (Nat×Option Nat×EqT)→List V→List V→Option Bool
 |[],_,_=>some true
 |(off,n,t)::rest,xs,ys=>
  match Zah xs off n,Zah ys off n with
  |some x,some y=>match eqV false t x y with
   |some true=>Zmw rest xs ys
   |some false=>some false
   |none=>none
  |_,_=>none
end
def Zao(k:IntKind)(n:Int):Int:=
 match k,n with
 |.i64,.ofNat a=>match Nat.blt a 9223372036854775808 with
  |true=>.ofNat a
  |false=>IntKind.wrap .i64 (.ofNat a)
 |.i64,.negSucc a=>match Nat.blt a 9223372036854775808 with
  |true=>.negSucc a
  |false=>IntKind.wrap .i64 (.negSucc a)
 |.u64,.ofNat a=>.ofNat (Nat.mod a 18446744073709551616)
 |.u8,.ofNat a=>.ofNat (Nat.mod a 256)
 |.i32,.ofNat a=>match Nat.blt a 2147483648 with
  |true=>.ofNat a
  |false=>IntKind.wrap .i32 (.ofNat a)
 |.u32,.ofNat a=>.ofNat (Nat.mod a 4294967296)
 |k,n=>k.wrap n
def Zde(k:IntKind)(n:Int):Zao k n=k.wrap n:=by
 unfold Zao
 split
 ·rename_i a
  split
  ·rename_i h
   have h':a<9223372036854775808:=Ysr (Yrg h)
   simp only[IntKind.wrap,IntKind.bits,IntKind.signed,Ytq]
   simp;omega
  ·rfl
 ·rename_i a
  split
  ·rename_i h
   have h':a<9223372036854775808:=Ysr (Yrg h)
   have e:(Int.negSucc a)= -(a:Int)-1:=by omega
   simp only[IntKind.wrap,IntKind.bits,IntKind.signed,e]
   simp;omega
  ·rfl
 ·rename_i a
  show Int.ofNat (a%18446744073709551616)=_
  simp only[IntKind.wrap,IntKind.bits,IntKind.signed,Ytq]
  simp
 ·rename_i a
  show Int.ofNat (a%256)=_
  simp only[IntKind.wrap,IntKind.bits,IntKind.signed,Ytq]
  simp
 ·rename_i a
  split
  ·rename_i h
   have h':a<2147483648:=Ysr (Yrg h)
   simp only[IntKind.wrap,IntKind.bits,IntKind.signed,Ytq]
   simp;omega
  ·rfl
 ·rename_i a
  show Int.ofNat (a%4294967296)=_
  simp only[IntKind.wrap,IntKind.bits,IntKind.signed,Ytq]
  simp
 ·rfl
def Zdm(op:BinOp)(k:IntKind)(a b:Int):Option V:=
 match op with
 |.add=>some (.int k (Zao k (a+b)))
 |.sub=>some (.int k (Zao k (a-b)))
 |.mul=>some (.int k (Zao k (a*b)))
 |.quo=>if b=0 then none else some (.int k (Zao k (a.tdiv b)))
 |.rem=>if b=0 then none else some (.int k (a.tmod b))
 |.and=>some (.int k (k.wrap (BitVec.ofInt k.bits a&&& BitVec.ofInt k.bits b).toNat))
 |.or=>some (.int k (k.wrap (BitVec.ofInt k.bits a|||BitVec.ofInt k.bits b).toNat))
 |.xor=>some (.int k (k.wrap (BitVec.ofInt k.bits a^^^BitVec.ofInt k.bits b).toNat))
 |.andNot=>some (.int k (k.wrap (BitVec.ofInt k.bits a&&& ~~~ BitVec.ofInt k.bits b).toNat))
 |.eql=>some (.bool (a==b))
 |.neq=>some (.bool (a !=b))
 |.lss=>some (.bool (decide (a<b)))
 |.leq=>some (.bool (decide (a≤b)))
 |.gtr=>some (.bool (decide (a > b)))
 |.geq=>some (.bool (decide (a≥b)))
 |_=>none
def Zgk(op:BinOp)(k:IntKind)(a b:Int):Option V:=
 if b<0 then none else
  match op with
  |.shl=>some (.int k (k.wrap (a*2^(min b.toNat k.bits))))
  |.shr=>some (.int k (a.fdiv (2^(min b.toNat k.bits))))
  |_=>none
def Zbk(op:BinOp)(x y:List UInt8):Option V:=
 match op with
 |.add=>if ((x.length+y.length:Nat):Int) > IntKind.i64.max then none else some (.str (x++y))
 |.eql=>some (.bool (x==y))
 |.neq=>some (.bool (!(x==y)))
 |.lss=>some (.bool (Op.bytesLess x y))
 |.leq=>some (.bool (Op.bytesLess x y||x==y))
 |.gtr=>some (.bool (!(Op.bytesLess x y||x==y)))
 |.geq=>some (.bool (!(Op.bytesLess x y)))
 |_=>none
def Yob(op:BinOp)(t:EqT)(ng:Bool):V→V→Option V
 |.int k a,.int k' b=>
  match op with
  |.shl=>Zgk .shl k a b
  |.shr=>Zgk .shr k a b
  |_=>if k=k' then Zdm op k a b else none
 |.str a,.str b=>Zbk op a b
 |x,y=>match op with
  |.eql=>match eqV ng t x y with
   |some b=>some (.bool b)
   |none=>none
  |.neq=>match eqV ng t x y with
   |some b=>some (.bool (!b))
   |none=>none
  |_=>none
def unV:UnOp→V→Option V
 |.neg,.int k n=>some (.int k (k.wrap (0-n)))
 |.xor,.int k n=>some (.int k (k.wrap (BitVec.ofInt k.bits (if k.signed then -1 else k.max)^^^BitVec.ofInt k.bits n).toNat))
 |.not,.bool b=>some (.bool (!b))
 |_,_=>none
def Zd1(v:V)(y:Nat):Option Nat:=
 match v with
 |.int _ n=>if 0≤n∧n≤(y:Int) then some n.toNat else none
 |_=>none
def Zax(v:Option V)(y dflt:Nat):Option Nat:=
 match v with
 |some v=>Zd1 v y
 |none=>some dflt
def St.row(st:St)(i:Nat):Option (List V×TypeId×Bool):=
 match st.h.get i with
 |some (.cells c e rw)=>some (c,e,rw)
 |_=>none
def Zeh(zero:List V)(n:Nat):List V:=(List.range (n*zero.length)).map fun i=>zero.getD (i%zero.length) (.tup [])
def Zbc(st:St)(size:Nat):V→Option (Nat×List V)
 |.nilslice=>some (0,[])
 |.empty=>some (0,[])
 |.slice j p m _ sz=>if sz=size then match st.row j with
   |some (c,_,_)=>match slc c p (m*size)with
    |some l=>some (m,l)
    |none=>none
   |none=>none
  else none
 |.str s=>if size=1 then some (s.length,s.map fun b=>.int .u8 b.toNat) else none
 |_=>none
def Zd5:Nat:=2^48
def Zc7(st:St)(size bytes:Nat)(elem:TypeId)(s x:V):Option (V×St):=
 match Zbc st size x with
 |none=>none
 |some (n,xs)=>
  match s with
  |.nilslice=>
   if n=0 then some (.nilslice,st)
   else if 2*n*bytes≤Zd5∧size≠0 then some (.slice st.n 0 n none size,st.alloc (.cells xs elem true)) else none
  |.slice i o len cap sz=>
   if n=0 then (if sz=size then some (s,st) else none)
   else if sz≠size∨size=0∨Zd5<2*(len+n)*bytes then none else
   match st.row i with
   |none=>none
   |some (c,e,rw)=>
    match cap with
    |some k=>
     if len+n≤k then
      (if rw=true∧o+(len+n)*size≤c.length then some (.slice i o (len+n) cap sz,st.write i (.cells (splice c (o+len*size) xs) e rw)) else none)
     else match slc c o (len*size)with
      |some old=>some (.slice st.n 0 (len+n) none size,st.alloc (.cells (old++xs) elem true))
      |none=>none
    |none=>
     if rw=true then
      if o+(len+n)*size≤c.length then some (.slice i o (len+n) none sz,st.write i (.cells (splice c (o+len*size) xs) e rw))
      else if o+len*size=c.length∧e=elem∧o=0 then
       some (.slice st.n 0 (len+n) none size,(st.write i .dead).alloc (.cells (c.drop o++xs) elem true))
      else none
     else none
  |_=>none
def Yer:Zkp→V→V→Option Bool
 |.int k,.int a x,.int b y=>if a=k∧b=k then some (x==y) else none
 |.str,.str x,.str y=>some (x==y)
 |_,_,_=>none
def findV(kd:Zkp)(k:V):List (V×V)→Nat→Option (Option (Nat×V))
 |[],_=>some none
 |(a,v)::es,i=>
  match Yer kd k a with
  |some true=>some (some (i,v))
  |some false=>findV kd k es (i+1)
  |none=>none
def Zkp.fits:Zkp→V→Bool
 |.int k,.int k' _=>k=k'
 |.str,.str _=>true
 |_,_=>false
def Zuv:List V→Option V
 |[]=>none
 |[x]=>some x
 |.int k a::.int _ b::rest=>Zuv (.int k (if b<a then b else a)::rest)
 |_=>none
termination_by l=>l.length
def Zuw:List V→Option V
 |[]=>none
 |[x]=>some x
 |.int k a::.int _ b::rest=>Zuw (.int k (if a<b then b else a)::rest)
 |_=>none
termination_by l=>l.length
def Zw2:V→List V→Option V
 |x,[]=>some x
 |.int k a,.int _ b::rest=>Zw2 (.int k (if b<a then b else a)) rest
 |_,_=>none
def Yen:List V→Option V
 |[]=>none
 |x::xs=>Zw2 x xs
def Zyi:V→List V→Option V
 |x,[]=>some x
 |.int k a,.int _ b::rest=>Zyi (.int k (if a<b then b else a)) rest
 |_,_=>none
def Ycy:List V→Option V
 |[]=>none
 |x::xs=>Zyi x xs
def Yao:∀(xs:List V) (x:V),Zw2 x xs=Zuv (x::xs)
 |[],x=>by simp[Zw2,Zuv]
 |y::ys,x=>by
  cases x with
  |int k a=>
   cases y with
   |int k' b=>simp only[Zw2,Zuv];exact Yao ys _
   |_=>simp[Zw2,Zuv]
  |_=>simp[Zw2,Zuv]
def Yiz(l:List V):Yen l=Zuv l:=by
 cases l with
 |nil=>simp[Yen,Zuv]
 |cons x xs=>exact Yao xs x
def Yaq:∀(xs:List V) (x:V),Zyi x xs=Zuw (x::xs)
 |[],x=>by simp[Zyi,Zuw]
 |y::ys,x=>by
  cases x with
  |int k a=>
   cases y with
   |int k' b=>simp only[Zyi,Zuw];exact Yaq ys _
   |_=>simp[Zyi,Zuw]
  |_=>simp[Zyi,Zuw]
def Yi2(l:List V):Ycy l=Zuw l:=by
 cases l with
 |nil=>simp[Ycy,Zuw]
 |cons x xs=>exact Yaq xs x
def Zil(c:UInt8):List UInt8→Nat→Int
 |[],_=> -1
 |b::rest,i=>if b==c then (i:Int) else Zil c rest (i+1)
def Ye3:Ext→List V→Option V
 |.add64,[.int .u64 x,.int .u64 y,.int .u64 c]=>if ¬(c=0∨c=1) then none else
   some (.tup [.int .u64 (Int.ofNat ((x.toNat+y.toNat+c.toNat)%2^64)),.int .u64 (Int.ofNat ((x.toNat+y.toNat+c.toNat)/2^64))])
 |.sub64,[.int .u64 x,.int .u64 y,.int .u64 b]=>if ¬(b=0∨b=1) then none else
   some (.tup [.int .u64 (Int.ofNat ((x.toNat+2^64-y.toNat-b.toNat)%2^64)),.int .u64 (if x.toNat<y.toNat+b.toNat then 1 else 0)])
 |.indexByteString,[.str s,.int .u8 c]=>some (.int .i64 (Zil c.toNat.toUInt8 s 0))
 |.fbits,[.flt .f64 b]=>some (.int .u64 (b:Int))
 |.ffrom,[.int .u64 n]=>some (.flt .f64 n.toNat)
 |_,_=>none
abbrev Za0:=V→List V→St→Option (V×St)
def Zvh(op:BinOp)(t:EqT)(st:St)(i j:Nat):Option (V×St):=
 match op,t,st.h.get i,st.h.get j with
 |.eql,.prim .chan,some (.chan ..),some (.chan ..)=>some (.bool (i==j),st)
 |.neq,.prim .chan,some (.chan ..),some (.chan ..)=>some (.bool (!(i==j)),st)
 |_,_,_,_=>none
abbrev OpF:=Za0→T V→St→Option (V×St)
def Zmd(x:Src):OpF:=fun _ r st=>match x.ev r with
  |some v=>some (v,st)
  |none=>none
def Zgt(c:Src)(a:Src)(b:Src):OpF:=fun _ r st=>match c.ev r with
  |some (.bool true)=>match a.ev r with
   |some v=>some (v,st)
   |none=>none
  |some (.bool false)=>match b.ev r with
   |some v=>some (v,st)
   |none=>none
  |_=>none
def Zhp(zero:List V)(elem:TypeId):OpF:=fun _ _ st=>some (.ptr st.n 0,st.alloc (.cells zero elem true))
def Zmi(elem:TypeId)(x:Src):OpF:=fun _ r st=>match x.ev r with
  |some v=>if v.cells.all V.one then some (.ptr st.n 0,st.alloc (.cells v.cells elem true)) else none
  |none=>none
def Zem(zero:List V)(parts:List (Nat×Nat×Src)):OpF:=fun _ r st=>match Ze9 r parts with
  |some ps=>match Znl zero ps with
   |some l=>some (.agg l,st)
   |none=>none
  |none=>none
def Zex(elem:TypeId)(size:Nat)(len:Nat)(zero:List V)(parts:List (Nat×Nat×Src)):OpF:=fun _ r st=>match Ze9 r parts with
  |some ps=>match Znl zero ps with
   |some l=>if l.all V.one then some (.slice st.n 0 len (some len) size,st.alloc (.cells l elem true)) else none
   |none=>none
  |none=>none
def Zig(n:Option Nat)(a:Src):OpF:=fun _ r st=>match a.ev r with
  |some (.ptr i o)=>match st.row i with
   |some (c,_,_)=>match Zah c o n with
    |some v=>some (v,st)
    |none=>none
   |none=>none
  |_=>none
def Ze5(n:Nat)(a:Src)(x:Src):OpF:=fun _ r st=>match a.ev r,x.ev r with
  |some (.ptr i o),some v=>match st.row i with
   |some (c,e,true)=>if v.cells.length=n∧o+n≤c.length∧v.cells.all V.one=true then some (.tup [],st.write i (.cells (splice c o v.cells) e true)) else none
   |_=>none
  |_,_=>none
def Zf1(x:Src):OpF:=fun _ r st=>match x.ev r with
  |some (.ptr i o)=>some (.ptr i o,st)
  |some (.func f a l)=>some (.func f a l,st)
  |_=>none
def Zmj(op:BinOp)(t:EqT)(ng:Bool)(x:Src)(y:Src):OpF:=fun _ r st=>match x.ev r,y.ev r with
  |some (.chan i),some (.chan j)=>Zvh op t st i j
  |some a,some b=>match Yob op t ng a b with
   |some v=>some (v,st)
   |none=>none
  |_,_=>none
def Zsk(op:UnOp)(x:Src):OpF:=fun _ r st=>match x.ev r with
  |some a=>match unV op a with
   |some v=>some (v,st)
   |none=>none
  |none=>none
def Zdx(k:IntKind)(x:Src):OpF:=fun _ r st=>match x.ev r with
  |some (.int _ n)=>some (.int k (Zao k n),st)
  |_=>none
def Zes(x:Src):OpF:=fun _ r st=>match x.ev r with
  |some (.str s)=>some (.str s,st)
  |_=>none
def Zcf(elem:TypeId)(x:Src):OpF:=fun _ r st=>match x.ev r with
  |some (.str s)=>some (.slice st.n 0 s.length none 1,st.alloc (.cells (s.map fun b=>.int .u8 b.toNat) elem true))
  |_=>none
def Zc3(x:Src):OpF:=fun _ r st=>match x.ev r with
  |some .nilslice=>some (.str [],st)
  |some (.slice i o len _ 1)=>match st.row i with
   |some (c,_,_)=>match slc c o len with
    |some l=>match l.mapM (fun v=>match v with|.int .u8 n=>some (UInt8.ofNat n.toNat)|_=>none)with
     |some s=>some (.str s,st)
     |none=>none
    |none=>none
   |none=>none
  |_=>none
def Zer(t:TypeId)(x:Src):OpF:=fun _ r st=>match x.ev r with
  |some v=>some (.iface t v,st)
  |none=>none
def Zev(f:FuncId)(first:List Src)(caps:List Src):OpF:=fun _ r st=>match Zhw r first,Zhw r caps with
  |some a,some l=>some (.func f a l,st)
  |_,_=>none
def Zhn:OpF:=fun _ _ st=>some (.map st.n,st.alloc (.map []))
def Zeb(bytes:Nat)(n:Src):OpF:=fun _ r st=>match n.ev r with
  |some (.int _ k)=>if k<0∨k > IntKind.i64.max∨bytes*k > 2^48-112 then none else some (.chan st.n,st.alloc (.chan k.toNat []))
  |_=>none
def Zck(elem:TypeId)(size:Nat)(bytes:Nat)(zero:List V)(len:Src)(cap:Src):OpF:=fun _ r st=>match len.ev r,cap.ev r with
  |some (.int _ l),some (.int _ c)=>
   if 0≤l∧l≤c∧bytes*c≤2^47∧c<2^62∧size=zero.length∧size≠0 then
    some (.slice st.n 0 l.toNat (some c.toNat) size,st.alloc (.cells (Zeh zero c.toNat) elem true)) else none
  |_,_=>none
def Zbi(x:Src)(lo:Option Src)(hi:Option Src):OpF:=fun _ r st=>match x.ev r,evOpt r lo,evOpt r hi with
  |some (.str s),some lo,some hi=>
   match Zax hi s.length s.length with
   |some h=>match Zax lo h 0 with
    |some l=>some (.str ((s.take h).drop l),st)
    |none=>none
   |none=>none
  |_,_,_=>none
def Za4(size:Nat)(x:Src)(lo:Option Src)(hi:Option Src)(mx:Option Src):OpF:=fun _ r st=>match x.ev r,evOpt r lo,evOpt r hi,evOpt r mx with
  |some .nilslice,some lo,some hi,some mx=>
   match Zax mx 0 0 with
   |some _=>match Zax hi 0 0 with
    |some _=>match Zax lo 0 0 with
     |some _=>if mx.isSome&&hi.isNone then none else some (.nilslice,st)
     |none=>none
    |none=>none
   |none=>none
  |some .empty,some lo,some hi,some none=>
   match Zax hi 0 0 with
   |some _=>match Zax lo 0 0 with
    |some _=>some (.empty,st)
    |none=>none
   |none=>none
  |some (.slice i o len (some c) sz),some lo,some hi,some mx=>
   if sz≠size∨(mx.isSome&&hi.isNone) then none else
   match Zax mx c c with
   |some m=>match Zax hi m len with
    |some h=>match Zax lo h 0 with
     |some l=>some (.slice i (if m=l then o else o+l*size) (h-l) (some (m-l)) sz,st)
     |none=>none
    |none=>none
   |none=>none
  |some (.slice i o len none sz),some lo,some hi,some mx=>
   if sz≠size∨size=0∨(mx.isSome&&hi.isNone) then none else
   match st.row i with
   |some (c,_,_)=>
    let k:=max len ((c.length-o)/size)
    match mx with
    |some m=>match Zd1 m k with
     |some m=>match Zax hi m len with
      |some h=>match Zax lo h 0 with
       |some l=>some (.slice i (if m=l then o else o+l*size) (h-l) (some (m-l)) sz,st)
       |none=>none
      |none=>none
     |none=>none
    |none=>match Zax hi k len with
     |some h=>match Zax lo h 0 with
      |some l=>if l<k then some (.slice i (o+l*size) (h-l) none sz,st) else some (.empty,st)
      |none=>none
     |none=>none
   |none=>none
  |_,_,_,_=>none
def Zbt(n:Nat)(size:Nat)(x:Src)(lo:Option Src)(hi:Option Src)(mx:Option Src):OpF:=fun _ r st=>match x.ev r,evOpt r lo,evOpt r hi,evOpt r mx with
  |some (.ptr i o),some lo,some hi,some none=>
   match Zax hi n n with
   |some h=>match Zax lo h 0 with
    |some l=>match st.row i with
     |some (c,_,_)=>if o+n*size≤c.length∧mx.isNone then some (.slice i (if n=l then o else o+l*size) (h-l) (some (n-l)) size,st) else none
     |none=>none
    |none=>none
   |none=>none
  |_,_,_,_=>none
def Zf4(off:Nat)(x:Src):OpF:=fun _ r st=>match x.ev r with
  |some (.ptr i o)=>some (.ptr i (o+off),st)
  |_=>none
def Zf3(off:Nat)(n:Option Nat)(x:Src):OpF:=fun _ r st=>match x.ev r with
  |some (.agg cs)=>match Zah cs off n with
   |some v=>some (v,st)
   |none=>none
  |_=>none
def Zb5(len:Nat)(size:Nat)(x:Src)(i:Src):OpF:=fun _ r st=>match x.ev r,i.ev r with
  |some (.ptr a o),some (.int _ k)=>if 0≤k∧k<(len:Int) then some (.ptr a (o+k.toNat*size),st) else none
  |_,_=>none
def Zdc(size:Nat)(x:Src)(i:Src):OpF:=fun _ r st=>match x.ev r,i.ev r with
  |some (.slice a o len _ _),some (.int _ k)=>if 0≤k∧k<(len:Int) then some (.ptr a (o+k.toNat*size),st) else none
  |_,_=>none
def Zfe(len:Nat)(size:Nat)(n:Option Nat)(x:Src)(i:Src):OpF:=fun _ r st=>match x.ev r,i.ev r with
  |some (.agg cs),some (.int _ k)=>if 0≤k∧k<(len:Int) then match Zah cs (k.toNat*size) n with
    |some v=>some (v,st)
    |none=>none
   else none
  |_,_=>none
def Zed(x:Src)(i:Src):OpF:=fun _ r st=>match x.ev r,i.ev r with
  |some (.str s),some (.int _ k)=>if 0≤k then match s[k.toNat]? with
    |some b=>some (.int .u8 b.toNat,st)
    |none=>none
   else none
  |_,_=>none
def Zew(kd:Zkp)(zero:V)(m:Src)(k:Src)(ok:Bool):OpF:=fun _ r st=>match m.ev r,k.ev r with
  |some m,some k=>
   if kd.fits k then
    match (match m with
     |.nilmap=>some []
     |.map i=>match st.h.get i with
      |some (.map es)=>some es
      |_=>none
     |_=>none)with
    |some es=>match findV kd k es 0 with
     |some (some (_,v))=>some (if ok then .tup [v,.bool true] else v,st)
     |some none=>some (if ok then .tup [zero,.bool false] else zero,st)
     |none=>none
    |none=>none
   else none
  |_,_=>none
def Zec(kd:Zkp)(m:Src)(k:Src)(v:Src):OpF:=fun _ r st=>match m.ev r,k.ev r,v.ev r with
  |some (.map i),some k,some v=>
   if kd.fits k then
    match st.h.get i with
    |some (.map es)=>match findV kd k es 0 with
     |some (some (j,_))=>some (.tup [],st.write i (.map (es.set j (k,v))))
     |some none=>some (.tup [],st.write i (.map (es++[(k,v)])))
     |none=>none
    |_=>none
   else none
  |_,_,_=>none
def Zqh(kd:Zkp)(zero:V)(m:Src)(k:Src):OpF:=fun _ r st=>match m.ev r,k.ev r with
  |some (.map i),some k=>
   if kd.fits k then
    match st.h.get i with
    |some (.map es)=>match findV kd k es 0 with
     |some (some (j,v))=>some (.tup [v,.int .i64 j],st.write i (.map (es.set j (k,v))))
     |some none=>some (.tup [zero,.int .i64 es.length],st.write i (.map (es++[(k,zero)])))
     |none=>none
    |_=>none
   else none
  |_,_=>none
def Zmh(m:Src)(s:Src)(v:Src):OpF:=fun _ r st=>match m.ev r,s.ev r,v.ev r with
  |some (.map i),some (.int _ j),some v=>
   match st.h.get i with
   |some (.map es)=>if 0≤j then match es[j.toNat]? with
     |some (k,_)=>some (.tup [],st.write i (.map (es.set j.toNat (k,v))))
     |none=>none
    else none
   |_=>none
  |_,_,_=>none
def Zc2(x:Src):OpF:=fun _ r st=>match x.ev r with
  |some (.str s)=>some (.ptr st.n 0,st.alloc (.siter s 0))
  |_=>none
def Zdv(it:Src):OpF:=fun _ r st=>match it.ev r with
  |some (.ptr i 0)=>match st.h.get i with
   |some (.siter s pos)=>
    if pos<s.length then
     let cw:=Utf8.decode ⟨s.toArray⟩ pos
     some (.tup [.bool true,.int .i64 pos,.int .i32 cw.1],st.write i (.siter s (pos+cw.2)))
    else some (.tup [.bool false],st)
   |_=>none
  |_=>none
def Zdw(x:Src)(i:Nat):OpF:=fun _ r st=>match x.ev r with
  |some (.tup vs)=>match vs[i]? with
   |some v=>some (v,st)
   |none=>none
  |_=>none
def Zfd(k:Nat)(x:Src):OpF:=fun _ r st=>match k,x.ev r with
  |0,some (.str s)=>some (.int .i64 s.length,st)
  |1,some .nilslice=>some (.int .i64 0,st)
  |1,some .empty=>some (.int .i64 0,st)
  |1,some (.slice _ _ n _ _)=>some (.int .i64 n,st)
  |2,some .nilmap=>some (.int .i64 0,st)
  |2,some (.map i)=>match st.h.get i with
   |some (.map es)=>some (.int .i64 es.length,st)
   |_=>none
  |_,_=>none
def Zgu(n:Nat):OpF:=fun _ _ st=>some (.int .i64 n,st)
def Zn4(x:Src):OpF:=fun _ r st=>match x.ev r with
  |some .nilslice=>some (.int .i64 0,st)
  |some (.slice _ _ _ (some c) _)=>some (.int .i64 c,st)
  |_=>none
def Zk6(args:List Src):OpF:=fun _ r st=>match Zhw r args with
  |some l=>match Yen l with
   |some v=>some (v,st)
   |none=>none
  |none=>none
def Zf2(args:List Src):OpF:=fun _ r st=>match Zhw r args with
  |some l=>match Ycy l with
   |some v=>some (v,st)
   |none=>none
  |none=>none
def Zdk(size:Nat)(bytes:Nat)(elem:TypeId)(_:List V)(s:Src)(x:Src):OpF:=fun _ r st=>match s.ev r,x.ev r with
  |some s,some x=>Zc7 st size bytes elem s x
  |_,_=>none
def Zgv(size:Nat)(d:Src)(s:Src):OpF:=fun _ r st=>match d.ev r,s.ev r with
  |some d,some s=>match Zbc st size s with
   |some (n,xs)=>match d with
    |.nilslice=>some (.int .i64 0,st)
    |.slice i o len _ sz=>
     if sz≠size∨size=0 then none else
     let k:=min n len
     if k=0 then some (.int .i64 0,st) else
     match st.row i with
     |some (c,e,true)=>if o+k*size≤c.length then some (.int .i64 k,st.write i (.cells (splice c o (xs.take (k*size))) e true)) else none
     |_=>none
    |_=>none
   |none=>none
  |_,_=>none
def Zho(size:Nat)(zero:List V)(s:Src):OpF:=fun _ r st=>match s.ev r with
  |some .nilslice=>some (.tup [],st)
  |some .empty=>some (.tup [],st)
  |some (.slice i o len _ sz)=>
   if len=0 then some (.tup [],st) else
   if sz≠size∨size=0∨zero.length≠size then none else
   match st.row i with
   |some (c,e,true)=>if o+len*size≤c.length then some (.tup [],st.write i (.cells (splice c o (Zeh zero len)) e true)) else none
   |_=>none
  |_=>none
def Zeg(f:Src)(args:List Src):OpF:=fun call r st=>match f.ev r,Zhw r args with
  |some f,some l=>call f l st
  |_,_=>none
def Zmg(e:Ext)(args:List Src):OpF:=fun _ r st=>match e,Zhw r args with
  |.same,some [v]=>some (v,st)
  |e,some l=>match Ye3 e l with
   |some v=>some (v,st)
   |none=>none
  |_,none=>none
def Zkw(e:Option (TypeId×Nat))(x:Src):OpF:=fun _ r st=>match x.ev r with
  |some (.ptr i 0)=>match st.row i with
   |some (c,e',true)=>match e with
    |none=>if 0<c.length then some (.ptr i 0,st) else none
    |some (u,z)=>if e'=u∧0<z∧z≤c.length then some (.ptr i 0,st) else none
   |_=>none
  |_=>none
def Zhm(x:Src):OpF:=fun _ r st=>match x.ev r with
  |some (.slice i o len _ _)=>if 0<len then some (.ptr i o,st) else none
  |_=>none
def Yfp:V→Option UInt8
 |.int .u8 n=>if 0≤n∧n<256 then some n.toNat.toUInt8 else none
 |_=>none
def Zm9:List V→Option (List UInt8)
 |[]=>some []
 |v::l=>match Yfp v,Zm9 l with
  |some b,some s=>some (b::s)
  |_,_=>none
def Zki(e:TypeId)(x n:Src):OpF:=fun _ r st=>match x.ev r,n.ev r with
  |some (.ptr i 0),some (.int .i64 k)=>if 0<k∧k≤9223372036854775807 then
    match st.row i with
    |some (c,e',true)=>if e'=e then
      match slc c 0 k.toNat with
      |some seg=>match Zm9 seg with
       |some s=>some (.str s,st.write i (.cells c e' false))
       |none=>none
      |none=>none
     else none
    |_=>none
   else none
  |_,_=>none
def Ybi(op:BinOp)(k:FloatKind)(a b:Nat):Option V:=
 match op with
 |.add=>(k.format.add a b).map (V.flt k)
 |.sub=>(k.format.sub a b).map (V.flt k)
 |.mul=>(k.format.mul a b).map (V.flt k)
 |.quo=>(k.format.div a b).map (V.flt k)
 |.eql=>some (.bool (k.format.order a b==some .eq))
 |.neq=>some (.bool (k.format.order a b !=some .eq))
 |.lss=>some (.bool (k.format.order a b==some .lt))
 |.leq=>some (.bool (k.format.order a b==some .lt||k.format.order a b==some .eq))
 |.gtr=>some (.bool (k.format.order a b==some .gt))
 |.geq=>some (.bool (k.format.order a b==some .gt||k.format.order a b==some .eq))
 |_=>none
def Zme(op:BinOp)(x:Src)(y:Src):OpF:=fun _ r st=>match x.ev r,y.ev r with
  |some (.flt k a),some (.flt k' b)=>if k=k' then match Ybi op k a b with
   |some v=>some (v,st)
   |none=>none
   else none
  |_,_=>none
def Zmf(k:IntKind)(x:Src):OpF:=fun _ r st=>match x.ev r with
  |some (.flt s b)=>match (s.decode b).toInt .zero with
   |some n=>if k.min≤n∧n≤k.max then some (.int k n,st) else none
   |none=>none
  |_=>none
def Zif(im:Bool)(x:Src):OpF:=fun _ r st=>match x.ev r with
  |some (.cpl k a b)=>some (.flt k (if im then b else a),st)
  |_=>none
def Zsl:OpF:=fun _ _ _=>none
def mop(op:MOp):OpF:=MOp.casesOn op Zmd Zgt Zhp Zmi Zem Zex Zig Ze5 Zf1 Zmj Zsk Zdx Zes Zcf Zc3 Zer Zev Zhn Zeb Zck Zbi Za4 Zbt Zf4 Zf3 Zb5 Zdc Zfe Zed Zew Zec Zqh Zmh Zc2 Zdv Zdw Zfd Zgu Zn4 Zk6 Zf2 Zdk Zgv Zho Zeg Zmg Zkw Zhm Zki Zme Zmf Zif Zsl
def Fr.put(fr:Fr)(d:Option Nat)(v:V):Option Fr:=
 match d with
 |some d=>if d<fr.n then some {fr with r:=fr.r.set d v} else none
 |none=>some fr
def wantedV(r:T V):Option (Nat×Bool)→Option Bool
 |none=>some true
 |some (t,want)=>match r.get t with
  |some (.bool b)=>some (b==want)
  |some (.tup _)=>some false
  |_=>none
def Zh1(call:Za0)(o:Za9)(next:Fr→St→Option (Fr×St))(fr:Fr)(st:St):Option (Fr×St):=
 match wantedV fr.r o.guard with
 |some true=>match mop o.op call fr.r st with
  |some (v,st')=>match fr.put o.dst v with
   |some fr'=>next fr' st'
   |none=>none
  |none=>none
 |some false=>match fr.put o.dst (.tup [])with
  |some fr'=>next fr' st
  |none=>none
 |none=>none
def Ygd(fr:Fr)(st:St):Option (Fr×St):=some (fr,st)
def mops(call:Za0):List Za9→Fr→St→Option (Fr×St)
 |[]=>Ygd
 |o::rest=>Zh1 call o (mops call rest)
structure FP where
 rd:Option (List Nat)
 wr:List Nat
 lo:Nat
 hi:Nat
def MOp.silent:MOp→Bool
 |.mov _|.pick ..|.alloc ..|.box ..|.build ..|.bslice ..|.nilck _|.un ..|.convInt ..|.convStr _|.strBytes ..|.mkiface ..|.mkfunc ..|.mkmap|.mkchan ..
 |.mkslice ..|.sliceStr ..|.faddr ..|.field ..|.iaddrArr ..|.iaddrSl ..|.idxArr ..|.idxStr ..|.rangeStr _|.extract ..|.lenArr _|.cap _|.mn _|.mx _|.ext ..|.fbin ..|.fToI ..|.part ..=>true
 |.bin .add ..|.bin .sub ..|.bin .mul ..|.bin .quo ..|.bin .rem ..|.bin .lss ..|.bin .leq ..|.bin .gtr ..|.bin .geq ..|.bin .shl ..|.bin .shr ..|.bin .and ..|.bin .or ..|.bin .xor ..|.bin .andNot ..=>true
 |_=>false
def Zuy(r:T V):MOp→Option Nat
 |.load _ a=>match a.ev r with
  |some (.ptr i _)=>some i
  |_=>none
 |.store _ a _=>match a.ev r with
  |some (.ptr i _)=>some i
  |_=>none
 |_=>none
def Zcm(r:T V)(op:MOp)(ws:List Nat)(lo hi:Nat):FP:=
 if op.silent then ⟨some [],[],lo,hi⟩ else
 match Zuy r op with
 |some i=>if Nat.blt i lo then ⟨some [i],ws,lo,hi⟩ else ⟨none,ws,lo,hi⟩
 |none=>⟨none,ws,lo,hi⟩
def Zfi(i:Nat)(l:List Nat):List Nat:=if l.contains i then l else i::l
def Zac(n:Nat):List Nat→List Nat
 |[]=>[]
 |i::l=>if i<n then Zfi i (Zac n l) else Zac n l
def Ze8(call:Za0)(o:Za9)(next:Fr→St→Option (List FP×Fr×St))(fr:Fr)(st:St):Option (List FP×Fr×St):=
 match wantedV fr.r o.guard with
 |some true=>match mop o.op call fr.r {st with w:=[]} with
  |some (v,st')=>match fr.put o.dst v with
   |some fr'=>match next fr' {st' with w:=Zac st.n st'.w++st.w} with
    |some (fps,fr'',st'')=>some (Zcm fr.r o.op (Zac st.n st'.w) st.n st'.n::fps,fr'',st'')
    |none=>none
   |none=>none
  |none=>none
 |some false=>match fr.put o.dst (.tup [])with
  |some fr'=>match next fr' st with
   |some (fps,fr'',st'')=>some (⟨some [],[],st.n,st.n⟩::fps,fr'',st'')
   |none=>none
  |none=>none
 |none=>none
def Zzr(fr:Fr)(st:St):Option (List FP×Fr×St):=some ([],fr,st)
def mopsD(call:Za0):List Za9→Fr→St→Option (List FP×Fr×St)
 |[]=>Zzr
 |o::rest=>Ze8 call o (mopsD call rest)
def Zs6(a:List Nat):Option (List Nat)→Bool
 |none=>!a.isEmpty
 |some b=>a.any fun i=>b.contains i
def FP.free(a b:FP):Bool:=!(Zs6 a.wr b.rd||Zs6 a.wr (some b.wr)||Zs6 b.wr a.rd||b.wr.any fun i=>Nat.ble a.lo i&&Nat.blt i a.hi)
def Zam{α:Type}(p:α→α→Bool)(xs:List α)(masks:List Nat):Bool:=
 go xs masks 0 []
where
 go:List α→List Nat→Nat→List α→Bool
  |[],_,_,_=>true
  |f::fs,ms,j,seen=>
   (chk f (ms.headD 0) (j-1) seen)&&go fs ms.tail (j+1) (f::seen)
 chk (f:α) (m:Nat):Nat→List α→Bool
  |_,[]=>true
  |i,g::gs=>(m.testBit i||p g f)&&chk f m (i-1) gs
def apartOk(fps:List FP)(masks:List Nat):Bool:=Zam FP.free fps masks
def Src.tmps:Src→List Nat
 |.tmp t=>[t]
 |.const _=>[]
def Ycw:Option Src→List Src
 |none=>[]
 |some s=>[s]
def MOp.srcs:MOp→List Src
 |.mov x=>[x]
 |.pick c a b=>[c,a,b]
 |.alloc ..=>[]
 |.box _ x=>[x]
 |.build _ ps=>ps.map (·.2.2)
 |.bslice _ _ _ _ ps=>ps.map (·.2.2)
 |.load _ a=>[a]
 |.store _ a x=>[a,x]
 |.nilck x=>[x]
 |.bin _ _ _ x y=>[x,y]
 |.un _ x=>[x]
 |.convInt _ x=>[x]
 |.convStr x=>[x]
 |.strBytes _ x=>[x]
 |.bytesStr x=>[x]
 |.mkiface _ x=>[x]
 |.mkfunc _ a c=>a++c
 |.mkmap=>[]
 |.mkchan _ n=>[n]
 |.mkslice _ _ _ _ l c=>[l,c]
 |.sliceStr x lo hi=>x::(Ycw lo++Ycw hi)
 |.sliceSl _ x lo hi m=>x::(Ycw lo++Ycw hi++Ycw m)
 |.sliceArr _ _ x lo hi m=>x::(Ycw lo++Ycw hi++Ycw m)
 |.faddr _ x=>[x]
 |.field _ _ x=>[x]
 |.iaddrArr _ _ x i=>[x,i]
 |.iaddrSl _ x i=>[x,i]
 |.idxArr _ _ _ x i=>[x,i]
 |.idxStr x i=>[x,i]
 |.lookup _ _ m k _=>[m,k]
 |.mapset _ m k v=>[m,k,v]
 |.mapent _ _ m k=>[m,k]
 |.entset m s v=>[m,s,v]
 |.rangeStr x=>[x]
 |.nextStr x=>[x]
 |.extract x _=>[x]
 |.len _ x=>[x]
 |.lenArr _=>[]
 |.cap x=>[x]
 |.mn l=>l
 |.mx l=>l
 |.append _ _ _ _ s x=>[s,x]
 |.copy _ d s=>[d,s]
 |.clear _ _ s=>[s]
 |.call f l=>f::l
 |.ext _ l=>l
 |.uns _ x=>[x]
 |.sdata x=>[x]
 |.ustr _ x n=>[x,n]
 |.fbin _ x y=>[x,y]
 |.fToI _ x=>[x]
 |.part _ x=>[x]
 |.stop=>[]
def Za9.reads(o:Za9):List Nat:=
 (match o.guard with|some (t,_)=>[t]|none=>[])++o.op.srcs.flatMap Src.tmps
def Yly(d:Option Nat)(l:List Nat):Bool:=
 match d with
 |some t=>l.contains t
 |none=>false
def Zvp(a b:Za9):Bool:=!(Yly a.dst b.reads||Yly b.dst a.reads||Yly a.dst b.dst.toList)
def Ymp(st:St)(i:Nat)(send:Option V)(zero:V):Option (V×St):=
 match st.h.get i,send with
 |some (.chan cap buf),some v=>if buf.length<cap then some (.tup [.int .i64 0,.bool false],st.write i (.chan cap (buf++[v]))) else some (.tup [.int .i64 (-1),.bool false],st)
 |some (.chan cap (v::buf)),none=>some (.tup [.int .i64 0,.bool true,v],st.write i (.chan cap buf))
 |some (.chan _ []),none=>some (.tup [.int .i64 (-1),.bool false,zero],st)
 |_,_=>none
abbrev Zfp:=Option Nat→Zaz→Fr→St→Option (Ex×Fr×St)
abbrev Zj6:=Za0→Zfp→Option Nat→Fr→St→Option (Ex×Fr×St)
def Ych:Zj6:=fun _ _ _ fr st=>some (.normal,fr,st)
def Zm5(ops:List Za9):Zj6:=fun call _ _ fr st=>match mops call ops fr st with
 |some (fr',st')=>some (.normal,fr',st')
 |none=>none
def Zhb(ops:List Za9)(masks:List Nat):Zj6:=fun call _ _ fr st=>match mopsD call ops fr st with
 |some (fps,fr',st')=>match apartOk fps masks with
  |true=>some (.normal,fr',st')
  |false=>none
 |none=>none
def Zha(dst:Option Nat)(ch:Src)(send:Option Src)(zero:V)(ops:List Za9):Zj6:=fun call _ _ fr st=>
 match ch.ev fr.r,evOpt fr.r send with
 |some (.chan i),some sv=>match Ymp st i sv zero with
  |some (v,st1)=>match fr.put dst v with
   |some fr1=>match mops call ops fr1 st1 with
    |some (fr',st')=>some (.normal,fr',st')
    |none=>none
   |none=>none
  |none=>none
 |_,_=>none
def Znm(a b:Zaz):Zj6:=fun _ rec ro fr st=>match rec ro a fr st with
 |some (.normal,fr',st')=>rec ro b fr' st'
 |x=>x
def Zfn(x:Src)(a b:Zaz):Zj6:=fun _ rec ro fr st=>match x.ev fr.r with
 |some (.bool true)=>rec ro a fr st
 |some (.bool false)=>rec ro b fr st
 |_=>none
def Zfa(id:Nat)(c:Zaz):Zj6:=fun _ rec ro fr st=>match rec ro c fr st with
 |some (.exit id',fr',st')=>match Nat.beq id' id with
  |true=>some (.normal,fr',st')
  |false=>some (.exit id',fr',st')
 |x=>x
def Zh3(c:Zaz):Zj6:=fun _ rec ro fr st=>match rec ro c fr st with
 |some (.normal,fr',st')=>rec ro (.loop c) fr' st'
 |x=>x
def Zsg(st:St):Option Nat→Option (St×Nat×List Nat)
 |none=>some (st.alloc (.defs true),st.n,[st.n])
 |some l=>match st.h.get l with
  |some (.loop R)=>some (st,R.defs,[])
  |_=>none
def V.isY:V→Bool
 |.yield _=>true
 |_=>false
def Zep(g:Src)(ps:List Nat)(assign body:Zaz):Zj6:=fun call _ ro fr st=>
 match g.ev fr.r with
 |none=>none
 |some gv=>
  if gv.isY then none else
  match Zsg st ro with
  |none=>none
  |some (st1,d,mk)=>
   match call gv [.yield st1.n] (st1.alloc (.loop {st:=.ready,pend:=none,r:=fr.r,n:=fr.n,ps:=ps,assign:=assign,body:=body,defs:=d}))with
   |none=>none
   |some (_,st2)=>
    match st2.h.get st1.n with
    |some (.loop R)=>
     if R.st=.busy then none else
     some (match R.pend with|none=>.normal|some e=>e,{fr with marks:=mk++fr.marks},st2.write st1.n (.loop {R with st:=.exhausted}))
    |_=>none
def Ygz(id:Nat):Zj6:=fun _ _ _ fr st=>some (.exit id,fr,st)
def Yci(c:Zaz):Zj6:=fun _ rec ro fr st=>rec ro c fr st
def Ymd:Zj6:=fun _ _ _ fr st=>some (.ret,fr,st)
def Zoh:Zj6:=fun _ _ _ _ _=>none
def Za8(c:Zaz):Zj6:=Zaz.casesOn c Ych Zm5 Zhb Zha Znm Zfn Zfa Zh3 Zep Ygz Yci Ymd Zoh
def Zlp:Zfp:=fun _ _ _ _=>none
def Zbe(call:Za0):Nat→Zfp
 |0=>Zlp
 |f+1=>fun ro c=>Za8 c call (Zbe call f) ro
def Zef(r:T V)(i:Nat):List V→T V
 |[]=>r
 |v::vs=>Zef (r.set i v) (i+1) vs
def Zl8(r:T V)(n:Nat):List Nat→List V→Option (T V)
 |[],[]=>some r
 |p::ps,v::vs=>if p<n then Zl8 (r.set p v) n ps vs else none
 |_,_=>none
def resV(r:T V)(st:St):List Ykp→Option (List V)
 |[]=>some []
 |.tmp t::rest=>match r.get t,resV r st rest with
  |some v,some vs=>some (v::vs)
  |_,_=>none
 |.cell t n::rest=>match r.get t,resV r st rest with
  |some (.ptr i o),some vs=>match st.row i with
   |some (c,_,_)=>match Zah c o n with
    |some v=>some (v::vs)
    |none=>none
   |none=>none
  |_,_=>none
def shut(st:St):List Nat→Option St
 |[]=>some st
 |d::ds=>match st.h.get d with
  |some (.defs true)=>shut (st.write d (.defs false)) ds
  |_=>none
def Zg2:Option Ex→LoopState
 |none=>.ready
 |some _=>.done
def Zei:Ex→Option Ex
 |.normal=>none
 |e=>some e
def Zqa:List V→V
 |[v]=>v
 |vs=>.tup vs
def Ztf(mf:Zee)(st:St):Option (Ex×Fr×St)→Option (V×St)
 |some (.exit _,_,_)=>none
 |some (_,fr,st1)=>match shut st1 fr.marks with
  |none=>none
  |some st2=>match resV fr.r st2 mf.results with
   |some vs=>some (Zqa vs,{st2 with w:=Zac st.n st2.w++st.w})
   |none=>none
 |none=>none
def Zf8(mf:Zee)(code:Zfp)(args:List V)(st:St):Option (V×St):=
 if mf.ntmps<args.length then none else
 Ztf mf st (code none mf.body {r:=Zef .nil 0 args,n:=mf.ntmps,marks:=[]} {st with w:=[]})
def Zf0(code:Zfp)(l:Nat)(args:List V)(st:St):Option (V×St):=
 match st.h.get l with
 |some (.loop R)=>match Zl8 R.r R.n R.ps args with
  |none=>none
  |some r0=>match code (some l) R.assign {r:=r0,n:=R.n,marks:=[]} st with
   |some (.normal,fr1,st1)=>match st1.h.get l with
    |some (.loop R1)=>
     if R1.st=.ready then
      match code (some l) R.body fr1 (st1.write l (.loop {R1 with st:=.busy}))with
      |some (e,_,st2)=>match st2.h.get l with
       |some (.loop R2)=>some (.bool (Zei e).isNone,st2.write l (.loop {R2 with st:=Zg2 (Zei e),pend:=Zei e}))
       |_=>none
      |none=>none
     else none
    |_=>none
   |_=>none
 |_=>none
def Zcl(tbl:Nat→Option Zee)(code:Zfp):Za0
 |.func f first caps,args,st=>match tbl f with
  |some mf=>Zf8 mf code (first++args++caps) st
  |none=>none
 |.yield l,args,st=>Zf0 code l args st
 |_,_,_=>none
def Zpl:Za0:=fun _ _ _=>none
end Go.Mx
