/-
  Code of the Go model resolved for the machine M: a function of the program's tables.
-/
import Derived.Test.YtkdpkgfpnimekaaGreatDoorMxCore
set_option linter.all false
namespace Go.Mx

mutual
def cV : Value → Option V
  | .bool b => some (.bool b)
  | .int k n => some (.int k n)
  | .float k n => some (.flt k n)
  | .string s => some (.str s.data.toList)
  | .pointer none => some .nilptr
  | .slice none 0 0 => some .nilslice
  | .map none => some .nilmap
  | .chan none => some .nilchan
  | .nilFunc => some .nilfunc
  | .nilIface => some .niliface
  | .agg ⟨l⟩ => match cVs l with
    | some l => some (.agg l)
    | none => none
  | .tuple ⟨l⟩ => match cVs l with
    | some l => some (.tup l)
    | none => none
  | _ => none
def cVs : List Value → Option (List V)
  | [] => some []
  | v :: vs => match cV v, cVs vs with
    | some v, some vs => some (v :: vs)
    | _, _ => none
end

section
variable (P : Program)

def cSrc : Operand → Option Src
  | .tmp t => some (.tmp t)
  | .const v => match cV v with
    | some v => some (.const v)
    | none => none
  | .global g => if g < P.globals.size then some (.const (.ptr g 0)) else none
  | .func f => some (.const (.func f [] []))

def cSrcs : List Operand → Option (List Src)
  | [] => some []
  | x :: xs => match cSrc P x, cSrcs xs with
    | some x, some xs => some (x :: xs)
    | _, _ => none

def cOpt : Option Operand → Option (Option Src)
  | none => some none
  | some x => match cSrc P x with
    | some x => some (some x)
    | none => none


def sizeP (t : TypeId) : Option Nat := (P.info? t).map (·.size)
def bytesP (t : TypeId) : Option Nat := (P.info? t).map (·.bytes)

/-- none: no such type; some none: one cell; some (some n): n cells. -/
def aggP (t : TypeId) : Option (Option Nat) :=
  match P.underlying t with
  | some (.struct _) | some (.array _ _) => match sizeP P t with
    | some n => some (some n)
    | none => none
  | some _ => some none
  | none => none

def zeroP (t : TypeId) : Option V :=
  match P.info? t with
  | some i => match i.zero with
    | some v => cV v
    | none => none
  | none => none

def pkOf : TypeDesc → Option PK
  | .bool => some .bool
  | .int _ => some .int
  | .string => some .str
  | .pointer _ => some .ptr
  | .slice _ => some .slice
  | .map _ _ => some .map
  | .func _ _ _ => some .func
  | .chan _ _ => some .chan
  | .interface _ => some .iface
  | _ => none

def eqGo (q : TypeId → Option EqT) : List Field → Option (List (Nat × Option Nat × EqT))
  | [] => some []
  | f :: fs => if f.name = "_" then eqGo q fs else
    match aggP P f.type, q f.type, eqGo q fs with
    | some a, some q, some l => some ((f.offset, a, q) :: l)
    | _, _, _ => none

def eqP : Nat → TypeId → Option EqT
  | 0, _ => none
  | d + 1, t =>
    match P.underlying t with
    | some (.struct fs) =>
      if P.stoodInHeld t then none else
      match eqGo P (eqP d) fs.toList with
      | some l => some (.node l)
      | none => none
    | some q => match pkOf q with
      | some k => some (.prim k)
      | none => none
    | none => none

def cParts (place : Nat → Option (Nat × Nat)) : List (Nat × Operand) → Option (List (Nat × Nat × Src))
  | [] => some []
  | (i, x) :: rest => match place i, cSrc P x, cParts place rest with
    | some (o, s), some x, some l => some ((o, s, x) :: l)
    | _, _, _ => none

def keyP (t : TypeId) : Option KeyD :=
  match P.underlying t with
  | some (.int k) => some (.int k)
  | some .string => some .str
  | _ => none

def isConst : Operand → Bool
  | .const _ => true
  | _ => false

/-- The places of a struct's fields. -/
def places (fs : List Field) : Option (List (Nat × Nat)) :=
  match fs with
  | [] => some []
  | f :: fs => match sizeP P f.type, places fs with
    | some s, some l => some ((f.offset, s) :: l)
    | _, _ => none

def extOf (name : String) : Option Ext :=
  if name = "math/bits.Add64" then some .add64
  else if name = "math/bits.Sub64" then some .sub64
  else if name = "internal/abi.NoEscape" then some .same
  else if name = "internal/bytealg.IndexByteString" then some .indexByteString
  else none

def cCall (c : Call) : Option MOp :=
  match c.callee with
  | .value f => match cSrcs P c.args.toList with
    | none => none
    | some args => match f with
      | .func g => match P.funcs[g]? with
        | some fn => if fn.body.isSome then some (.call (.const (.func g [] [])) args) else
          match extOf fn.name with
          | some e => some (.ext e args)
          | none => none
        | none => none
      | f => match cSrc P f with
        | some f => some (.call f args)
        | none => none
  | .invoke _ _ => none
  | .builtin b =>
    match b, c.argTypes.toList, c.args.toList with
    | .len, [t], [x] =>
      match P.underlying t, cSrc P x with
      | some .string, some x => some (.len 0 x)
      | some (.slice _), some x => some (.len 1 x)
      | some (.map _ _), some x => some (.len 2 x)
      | some (.array n _), _ => some (.lenArr n)
      | some (.pointer a), _ => match P.underlying a with
        | some (.array n _) => some (.lenArr n)
        | _ => none
      | _, _ => none
    | .cap, [t], [x] =>
      match P.underlying t, cSrc P x with
      | some (.slice _), some x => some (.cap x)
      | _, _ => none
    | .min, _, _ => match cSrcs P c.args.toList with
      | some l => some (.mn l)
      | none => none
    | .max, _, _ => match cSrcs P c.args.toList with
      | some l => some (.mx l)
      | none => none
    | .append, [t, u], [s, x] =>
      match P.underlying t with
      | some (.slice e) => match sizeP P e, bytesP P e, zeroP P e, cSrc P s, cSrc P x, P.underlying u with
        | some n, some b, some z, some s, some x, some d => if (d matches .int _) ∨ b = 0 ∨ z.cells.length ≠ n ∨ z.cells.all V.one = false then none else some (.append n b e z.cells s x)
        | _, _, _, _, _, _ => none
      | _ => none
    | .copy, t :: _, [d, s] =>
      match P.underlying t with
      | some (.slice e) => match sizeP P e, cSrc P d, cSrc P s with
        | some n, some d, some s => some (.copy n d s)
        | _, _, _ => none
      | _ => none
    | .clear, [t], [s] =>
      match P.underlying t with
      | some (.slice e) => match sizeP P e, zeroP P e, cSrc P s with
        | some n, some z, some s => if z.cells.all V.one then some (.clear n z.cells s) else none
        | _, _, _ => none
      | _ => none
    | _, _, _ => none

def cOp? : Op → Option MOp
  | .move x | .assign x => (cSrc P x).map .mov
  | .pick c a b => match cSrc P c, cSrc P a, cSrc P b with
    | some c, some a, some b => some (.pick c a b)
    | _, _, _ => none
  | .alloc e => match zeroP P e with
    | some z => if z.cells.all V.one then some (.alloc z.cells e) else none
    | none => none
  | .box e x => (cSrc P x).map (.box e)
  | .build t parts => match zeroP P t with
    | none => none
    | some z => match P.underlying t with
      | some (.struct fs) => match places P fs.toList with
        | some pl => (cParts P (pl[·]?) parts.toList).map (.build z.cells)
        | none => none
      | some (.array _ e) => match sizeP P e with
        | some s => (cParts P (fun i => some (i * s, s)) parts.toList).map (.build z.cells)
        | none => none
      | _ => none
  | .buildSlice t len parts => match P.underlying t with
    | some (.slice e) => match sizeP P e, zeroP P e with
      | some s, some z => if len * s > 2 ^ 24 ∨ z.cells.length ≠ s ∨ s = 0 then none else
        (cParts P (fun i => some (i * s, s)) parts.toList).map (.bslice e s len (zrep z.cells len))
      | _, _ => none
    | _ => none
  | .load t a => match aggP P t, cSrc P a with
    | some n, some a => some (.load n a)
    | _, _ => none
  | .store t a x => match sizeP P t, cSrc P a, cSrc P x with
    | some n, some a, some x => some (.store n a x)
    | _, _, _ => none
  | .nilCheck x => (cSrc P x).map .nilck
  | .binOp op t x y _ => match cSrc P x, cSrc P y with
    | some a, some b =>
      match op with
      | .eql | .neq => match eqP P 40 t with
        | some q => if (match P.underlying t with | some (.struct _) | some (.array _ _) => P.eqGuardType P.depth t | _ => false) then none else some (.bin op q (isConst x || isConst y) a b)
        | none => none
      | _ => some (.bin op (.node []) false a b)
    | _, _ => none
  | .unOp op _ x => (cSrc P x).map (.un op)
  | .convert src dst x => match cSrc P x with
    | none => none
    | some a => match P.underlying src, P.underlying dst with
      | some (.int _), some (.int k) => some (.convInt k a)
      | some .string, some .string => some (.convStr a)
      | some .string, some (.slice e) => match P.underlying e with
        | some (.int .u8) => some (.strBytes e a)
        | _ => none
      | some (.slice e), some .string => match P.underlying e with
        | some (.int .u8) => some (.bytesStr a)
        | _ => none
      | _, _ => none
  | .makeInterface t x => match P.underlying t with
    | some (.interface _) => none
    | some _ => (cSrc P x).map (.mkiface t)
    | none => none
  | .makeFunc (.func f) first caps => match cSrcs P first.toList, cSrcs P caps.toList with
    | some a, some l => some (.mkfunc f a l)
    | _, _ => none
  | .makeMap _ none => some .mkmap
  | .makeChan t n => match P.underlying t with
    | some (.chan _ e) => match bytesP P e, cSrc P n with
      | some b, some n => some (.mkchan b n)
      | _, _ => none
    | _ => none
  | .makeSlice t l c => match P.underlying t with
    | some (.slice e) => match sizeP P e, bytesP P e, zeroP P e, cSrc P l, cSrc P c with
      | some s, some b, some z, some l, some c => if z.cells.all V.one then some (.mkslice e s b z.cells l c) else none
      | _, _, _, _, _ => none
    | _ => none
  | .slice t x lo hi mx => match cSrc P x, cOpt P lo, cOpt P hi, cOpt P mx with
    | some x, some lo, some hi, some mx => match P.underlying t with
      | some .string => if mx.isSome then none else some (.sliceStr x lo hi)
      | some (.slice e) => (sizeP P e).map fun s => .sliceSl s x lo hi mx
      | some (.array n e) => (sizeP P e).map fun s => .sliceArr n s x lo hi mx
      | _ => none
    | _, _, _, _ => none
  | .fieldAddr t x i => match P.underlying t, cSrc P x with
    | some (.struct fs), some x => match fs[i]? with
      | some f => match sizeP P f.type with
        | some (_ + 1) => some (.faddr f.offset x)
        | _ => none
      | none => none
    | _, _ => none
  | .field t x i => match P.underlying t, cSrc P x with
    | some (.struct fs), some x => match fs[i]? with
      | some f => (aggP P f.type).map fun n => .field f.offset n x
      | none => none
    | _, _ => none
  | .indexAddr t x i => match P.underlying t, cSrc P x, cSrc P i with
    | some (.array n e), some x, some i => (sizeP P e).map fun s => .iaddrArr n s x i
    | some (.slice e), some x, some i => (sizeP P e).map fun s => .iaddrSl s x i
    | _, _, _ => none
  | .index t x i => match P.underlying t, cSrc P x, cSrc P i with
    | some (.array n e), some x, some i => match sizeP P e, aggP P e with
      | some s, some a => some (.idxArr n s a x i)
      | _, _ => none
    | some .string, some x, some i => some (.idxStr x i)
    | _, _, _ => none
  | .lookup t m k ok => match P.underlying t, cSrc P m, cSrc P k with
    | some (.map kt e), some m, some k => match keyP P kt, zeroP P e with
      | some kd, some z => some (.lookup kd z m k ok)
      | _, _ => none
    | _, _, _ => none
  | .mapUpdate t m k v | .insert t m k v => match P.underlying t, cSrc P m, cSrc P k, cSrc P v with
    | some (.map kt _), some m, some k, some v => (keyP P kt).map fun kd => .mapset kd m k v
    | _, _, _, _ => none
  | .range t x => match P.underlying t, cSrc P x with
    | some .string, some x => some (.rangeStr x)
    | _, _ => none
  | .next it true => (cSrc P it).map .nextStr
  | .extract x i => (cSrc P x).map fun x => .extract x i
  | .call c => cCall P c
  | _ => none

def cOp (o : Op) : MOp := (cOp? P o).getD .stop

def cGuard (ops : Array Oper) : Option (Nat × Bool) → Option (Option (Nat × Bool))
  | none => some none
  | some (j, want) => match (ops[j]?).bind (·.dst) with
    | some t => some (some (t, want))
    | none => none

/-- An operation whose guard stands in no temporary is not wanted, or stops. -/
def cOper (ops : Array Oper) (o : Oper) : MOper :=
  match cGuard ops o.guard with
  | some g => { dst := o.dst, op := cOp P o.op, guard := g }
  | none => { dst := o.dst, op := .stop, guard := none }

def maskOf (o : Oper) (ms : List Nat) : Nat :=
  o.after.foldl (fun s e => if Region.binds .any e then s ||| 2 ^ e.on ||| ms.getD e.on 0 else s) 0

def masksOf : List Oper → List Nat → List Nat
  | [], acc => acc
  | o :: rest, acc => masksOf rest (acc ++ [maskOf o acc])

/-- The region's first operation is a select of one case, with a default. -/
def cSel (o : Oper) : Option (Option Nat × Src × Option Src × V) :=
  match o.op, o.guard with
  | .select cs false, none => match cs.toList with
    | [c] => match cSrc P c.chan, cOpt P c.send, zeroP P c.elem with
      | some ch, some s, some z => some (o.dst, ch, s, z)
      | _, _, _ => none
    | _ => none
  | _, _ => none

/-- Every edge that binds leads back. -/
def edgesOk : Nat → List Oper → Bool
  | _, [] => true
  | i, o :: os => (o.after.all fun e => !Region.binds .any e || Nat.blt e.on i) && edgesOk (i + 1) os

def regOk (ops : Array Oper) : Bool := edgesOk 0 ops.toList && pairsOk apartT (ops.toList.map (cOper P ops)) (masksOf ops.toList [])

def cCode : Code → MCode
  | .skip => .skip
  | .region _ ops false => match ops.toList with
    | [] => .reg []
    | o :: rest => match cSel P o with
      | some (d, ch, s, z) => .regS d ch s z (rest.map (cOper P ops))
      | none => .reg ((o :: rest).map (cOper P ops))
  | .region _ ops true => if regOk P ops then .regD (ops.toList.map (cOper P ops)) (masksOf ops.toList []) else .stop
  | .seq a b => .seq (cCode a) (cCode b)
  | .cond c a b => match cSrc P c with
    | some c => .cond c (cCode a) (cCode b)
    | none => .stop
  | .block id c => .block id (cCode c)
  | .loop c => .loop (cCode c)
  | .rangeFunc g ps assign body => match cSrc P g with
    | some g => .rangef g ps.toList (cCode assign) (cCode body)
    | none => .stop
  | .exit id => .exit id
  | .scope c => .scope (cCode c)
  | .label _ => .skip
  | .goto _ => .stop
  | .ret => .ret
  | .refuse _ => .stop

def cRes : List ResultVar → Option (List MRes)
  | [] => some []
  | .tmp t :: rest => (cRes rest).map (.tmp t :: ·)
  | .cell t ty :: rest => match aggP P ty, cRes rest with
    | some n, some l => some (.cell t n :: l)
    | _, _ => none

def cFunc (f : FuncId) : Option MFunc :=
  match P.funcs[f]? with
  | some fn => match fn.body, cRes P fn.results.toList with
    | some c, some rs => some { ntmps := fn.ntmps, results := rs, body := cCode P c }
    | _, _ => none
  | none => none
end

end Go.Mx
