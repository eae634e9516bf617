/-Code of the Go model resolved for the ma-/
import Derived.Test.YtlbnjhhebffhdaaGreatDoorMxCore
import Derived.Laws.MakeOwn
import Derived.Laws.CopyRow
import Derived.Laws.Rows
import Derived.Laws.Append
import Derived.Laws.Externs
import Derived.Laws.StructEq
import Derived.RowKit
set_option linter.all false
namespace Go.Mx
mutual
def cV:Value->Option V
 |.bool b=>some (.bool b)
 |.int k n=>some (.int k n)
 |.float k n=>some (.jM k n)
 |.complex k a b=>some (.rp k a b)
 |.string s=>some (.str s.data.toList)
 |.pointer none=>some .bO
 |.slice none 0 0=>some .ziA
 |.map none=>some .bU
 |.chan none=>some .bV
 |.nilFunc=>some .bW
 |.nilIface=>some .bh
 |.agg ⟨l⟩=>match Lq l with
  |some l=>some (.agg l)
  |none=>none
 |.tuple ⟨l⟩=>match Lq l with
  |some l=>some (.aX l)
  |none=>none
 |_=>none
def Lq:List Value->Option (List V)
 |[]=>some []
 |v::vs=>match cV v,Lq vs with
  |some v,some vs=>some (v::vs)
  |_,_=>none
end
section
variable (P:Program)
def bG:Operand->Option Src
 |.tmp t=>some (.tmp t)
 |.const v=>match cV v with
  |some v=>some (.const v)
  |none=>none
 |.global g=>if g<P.globals.size then some (.const (.ptr g 0)) else none
 |.func f=>some (.const (.func f [] []))
def uj:List Operand->Option (List Src)
 |[]=>some []
 |x::xs=>match bG P x,uj xs with
  |some x,some xs=>some (x::xs)
  |_,_=>none
def rJ:Option Operand->Option (Option Src)
 |none=>some none
 |some x=>match bG P x with
  |some x=>some (some x)
  |none=>none
def eZ(t:TypeId):Option Nat:=(P.info? t).map (·.size)
def AI(t:TypeId):Option Nat:=(P.info? t).map (·.bytes)
def wV(t:TypeId):Option (Option Nat):=
 match P.underlying t with
 |some (.struct _)|some (.array _ _)=>match eZ P t with
  |some n=>some (some n)
  |none=>none
 |some _=>some none
 |none=>none
def oo(t:TypeId):Option V:=
 match P.info? t with
 |some i=>match i.zero with
  |some v=>cV v
  |none=>none
 |none=>none
def S6:TypeDesc->Option PK
 |.bool=>some .bool
 |.int _=>some .int
 |.string=>some .str
 |.pointer _=>some .ptr
 |.slice _=>some .slice
 |.map _ _=>some .map
 |.func _ _ _=>some .func
 |.chan _ _=>some .chan
 |.interface _=>some .iface
 |_=>none
def Lr(q:TypeId->Option rK):List Field->Option (List (Nat×Option Nat×rK))
 |[]=>some []
 |f::fs=>if f.name= "_" then Lr q fs else
  match wV P f.type,q f.type,Lr q fs with
  |some a,some q,some l=>some ((f.offset,a,q)::l)
  |_,_,_=>none
def Ymo:TypeDesc->Bool
 |.pointer e=>(P.info? e).isSome
 |_=>true
def vH:Nat->TypeId->Option rK
 |0,_=>none
 |d+1,t=>
  match P.underlying t with
  |some (.struct fs)=>
   if P.stoodInHeld t then none else
   match Lr P (vH d) fs.toList with
   |some l=>some (.node l)
   |none=>none
  |some q=>match S6 q with
   |some k=>if Ymo P q=true then some (.zgf k) else none
   |none=>none
  |none=>none
def AJ(place:Nat->Option (Nat×Nat)):List (Nat×Operand)->Option (List (Nat×Nat×Src))
 |[]=>some []
 |(i,x)::rest=>match place i,bG P x,AJ place rest with
  |some (o,s),some x,some l=>some ((o,s,x)::l)
  |_,_,_=>none
def y8(t:TypeId):Option ke:=
 match P.underlying t with
 |some (.int k)=>some (.int k)
 |some .string=>some .str
 |_=>none
def Ir:Operand->Bool
 |.const _=>true
 |_=>false
def Ls(fs:List Field):Option (List (Nat×Nat)):=
 match fs with
 |[]=>some []
 |f::fs=>match eZ P f.type,Ls fs with
  |some s,some l=>some ((f.offset,s)::l)
  |_,_=>none
def tk(name:String):Option Ext:=
 if name= "math/bits.Add64" then some .nd
 else if name= "math/bits.Sub64" then some .nf
 else if name= "internal/abi.NoEscape" then some .same
 else if name= "internal/bytealg.IndexByteString" then some .zif
 else if name= "math.Float64bits" then some .o_
 else if name= "math.Float64frombits" then some .pc
 else none
def Dw(c:Call):Option fZ:=
 match c.callee with
 |.value f=>match uj P c.args.toList with
  |none=>none
  |some args=>match f with
   |.func g=>match P.funcs[g]? with
    |some fn=>if fn.body.isSome then some (.call (.const (.func g [] [])) args) else
     match tk fn.name with
     |some e=>some (.ext e args)
     |none=>none
    |none=>none
   |f=>match bG P f with
    |some f=>some (.call f args)
    |none=>none
 |.invoke _ _=>none
 |.builtin b=>
  match b,c.argTypes.toList,c.args.toList with
  |.len,[t],[x]=>
   match P.underlying t,bG P x with
   |some .string,some x=>some (.len 0 x)
   |some (.slice _),some x=>some (.len 1 x)
   |some (.map _ _),some x=>some (.len 2 x)
   |some (.array n _),_=>some (.nh n)
   |some (.pointer a),_=>match P.underlying a with
    |some (.array n _)=>some (.nh n)
    |_=>none
   |_,_=>none
  |.cap,[t],[x]=>
   match P.underlying t,bG P x with
   |some (.slice _),some x=>some (.cap x)
   |_,_=>none
  |.min,_,_=>match uj P c.args.toList with
   |some l=>some (.mn l)
   |none=>none
  |.max,_,_=>match uj P c.args.toList with
   |some l=>some (.mx l)
   |none=>none
  |.append,[t,u],[s,x]=>
   match P.underlying t with
   |some (.slice e)=>match eZ P e,AI P e,oo P e,bG P s,bG P x,P.underlying u with
    |some n,some b,some z,some s,some x,some d=>if (d matches .int _)\/b=0\/z.cells.length≠n\/z.cells.all V.one=false then none else some (.append n b e z.cells s x)
    |_,_,_,_,_,_=>none
   |_=>none
  |.copy,t::_,[d,s]=>
   match P.underlying t with
   |some (.slice e)=>match eZ P e,bG P d,bG P s with
    |some n,some d,some s=>some (.copy n d s)
    |_,_,_=>none
   |_=>none
  |.clear,[t],[s]=>
   match P.underlying t with
   |some (.slice e)=>match eZ P e,oo P e,bG P s with
    |some n,some z,some s=>if z.cells.all V.one then some (.clear n z.cells s) else none
    |_,_,_=>none
   |_=>none
  |.unsafeSliceData,[_],[s]=>(bG P s).map .y_
  |.real,[_],[s]=>(bG P s).map (.part false)
  |.imag,[_],[s]=>(bG P s).map (.part true)
  |.unsafeString,[t,_],[x,n]=>
   match P.underlying t with
   |some (.pointer e)=>match eZ P e,bG P x,bG P n with
    |some 1,some x,some n=>some (.Is e x n)
    |_,_,_=>none
   |_=>none
  |_,_,_=>none
def vJ(t:TypeId):Bool:=match P.underlying t with
 |some (.float _)=>true
 |_=>false
def Lt:Op->Option fZ
 |.move x|.assign x=>(bG P x).map .kv
 |.pick c a b=>match bG P c,bG P a,bG P b with
  |some c,some a,some b=>some (.pick c a b)
  |_,_,_=>none
 |.alloc e=>match oo P e with
  |some z=>if z.cells.all V.one then some (.alloc z.cells e) else none
  |none=>none
 |.box e x=>(bG P x).map (.box e)
 |.build t parts=>match oo P t with
  |none=>none
  |some z=>match P.underlying t with
   |some (.struct fs)=>match Ls P fs.toList with
    |some pl=>(AJ P (pl[·]?) parts.toList).map (.build z.cells)
    |none=>none
   |some (.array _ e)=>match eZ P e with
    |some s=>(AJ P (fun i=>some (i*s,s)) parts.toList).map (.build z.cells)
    |none=>none
   |_=>none
 |.buildSlice t len parts=>match P.underlying t with
  |some (.slice e)=>match eZ P e,oo P e with
   |some s,some z=>if len*s > 2^24\/z.cells.length≠s\/s=0 then none else
    (AJ P (fun i=>some (i*s,s)) parts.toList).map (.kb e s len (dr z.cells len))
   |_,_=>none
  |_=>none
 |.load t a=>match wV P t,bG P a with
  |some n,some a=>some (.load n a)
  |_,_=>none
 |.store t a x=>match eZ P t,bG P a,bG P x with
  |some n,some a,some x=>some (.store n a x)
  |_,_,_=>none
 |.nilCheck x=>(bG P x).map .nj
 |.binOp op t x y _=>match bG P x,bG P y with
  |some a,some b=>
   if vJ P t=true then some (.It op a b) else
   match op with
   |.eql|.neq=>match vH P 40 t with
    |some q=>if (match P.underlying t with|some (.struct _)|some (.array _ _)=>P.eqGuardType P.depth t|_=>false) then none else some (.bin op q (Ir x||Ir y) a b)
    |none=>none
   |_=>some (.bin op (.node []) false a b)
  |_,_=>none
 |.unOp op _ x=>(bG P x).map (.un op)
 |.convert src dst x=>match bG P x with
  |none=>none
  |some a=>match P.underlying src,P.underlying dst with
   |some (.int _),some (.int k)=>some (.zig k a)
   |some (.float _),some (.int k)=>some (.Iu k a)
   |some .string,some .string=>some (.lX a)
   |some .string,some (.slice e)=>match P.underlying e with
    |some (.int .u8)=>some (.ji e a)
    |_=>none
   |some (.slice e),some .string=>match P.underlying e with
    |some (.int .u8)=>some (.nk a)
    |_=>none
   |some (.pointer t),some .unsafePointer=>match eZ P t with
    |some (_+1)=>some (.Lu none a)
    |_=>none
   |some .unsafePointer,some (.pointer u)=>match eZ P u with
    |some (z+1)=>some (.Lu (some (u,z+1)) a)
    |_=>none
   |_,_=>none
 |.makeInterface t x=>match P.underlying t with
  |some (.interface _)=>none
  |some _=>(bG P x).map (.fm t)
  |none=>none
 |.makeFunc (.func f) first f_=>match uj P first.toList,uj P f_.toList with
  |some a,some l=>some (.np f a l)
  |_,_=>none
 |.makeMap _ none=>some .vK
 |.makeChan t n=>match P.underlying t with
  |some (.chan _ e)=>match AI P e,bG P n with
   |some b,some n=>some (.qf b n)
   |_,_=>none
  |_=>none
 |.makeSlice t l c=>match P.underlying t with
  |some (.slice e)=>match eZ P e,AI P e,oo P e,bG P l,bG P c with
   |some s,some b,some z,some l,some c=>if z.cells.all V.one then some (.jj e s b z.cells l c) else none
   |_,_,_,_,_=>none
  |_=>none
 |.slice t x lo hi mx=>match bG P x,rJ P lo,rJ P hi,rJ P mx with
  |some x,some lo,some hi,some mx=>match P.underlying t with
   |some .string=>if mx.isSome then none else some (.cI x lo hi)
   |some (.slice e)=>(eZ P e).map fun s=>.lY s x lo hi mx
   |some (.array n e)=>(eZ P e).map fun s=>.zgp n s x lo hi mx
   |_=>none
  |_,_,_,_=>none
 |.fieldAddr t x i=>match P.underlying t,bG P x with
  |some (.struct fs),some x=>match fs[i]? with
   |some f=>match eZ P f.type with
    |some (_+1)=>some (.ky f.offset x)
    |_=>none
   |none=>none
  |_,_=>none
 |.field t x i=>match P.underlying t,bG P x with
  |some (.struct fs),some x=>match fs[i]? with
   |some f=>(wV P f.type).map fun n=>.field f.offset n x
   |none=>none
  |_,_=>none
 |.indexAddr t x i=>match P.underlying t,bG P x,bG P i with
  |some (.array n e),some x,some i=>(eZ P e).map fun s=>.dB n s x i
  |some (.slice e),some x,some i=>(eZ P e).map fun s=>.ft s x i
  |_,_,_=>none
 |.index t x i=>match P.underlying t,bG P x,bG P i with
  |some (.array n e),some x,some i=>match eZ P e,wV P e with
   |some s,some a=>some (.zgE n s a x i)
   |_,_=>none
  |some .string,some x,some i=>some (.bP x i)
  |_,_,_=>none
 |.lookup t m k ok=>match P.underlying t,bG P m,bG P k with
  |some (.map kt e),some m,some k=>match y8 P kt,oo P e with
   |some kd,some z=>some (.lookup kd z m k ok)
   |_,_=>none
  |_,_,_=>none
 |.mapUpdate t m k v|.insert t m k v=>match P.underlying t,bG P m,bG P k,bG P v with
  |some (.map kt _),some m,some k,some v=>(y8 P kt).map fun kd=>.uk kd m k v
  |_,_,_,_=>none
 |.range t x=>match P.underlying t,bG P x with
  |some .string,some x=>some (.jl x)
  |_,_=>none
 |.next it true=>(bG P it).map .qj
 |.extract x i=>(bG P x).map fun x=>.extract x i
 |.call c=>Dw P c
 |_=>none
def za(o:Op):fZ:=(Lt P o).getD .stop
def Iv(ops:Array Oper):Option (Nat×Bool)->Option (Option (Nat×Bool))
 |none=>some none
 |some (j,want)=>match (ops[j]?).bind (·.dst)with
  |some t=>some (some (t,want))
  |none=>none
def qk(ops:Array Oper)(o:Oper):du:=
 match Iv ops o.guard with
 |some g=>{dst:=o.dst,op:=za P o.op,guard:=g}
 |none=>{dst:=o.dst,op:=.stop,guard:=none}
def NP(o:Oper)(ms:List Nat):Nat:=
 o.after.foldl (fun s e=>if Region.binds .any e then s|||2^e.on|||ms.getD e.on 0 else s) 0
def uo:List Oper->List Nat->List Nat
 |[],acc=>acc
 |o::rest,acc=>uo rest (acc++[NP o acc])
def S7(o:Oper):Option (Option Nat×Src×Option Src×V):=
 match o.op,o.guard with
 |.select cs false,none=>match cs.toList with
  |[c]=>match bG P c.chan,rJ P c.send,oo P c.elem with
   |some ch,some s,some z=>some (o.dst,ch,s,z)
   |_,_,_=>none
  |_=>none
 |_,_=>none
def Lv:Nat->List Oper->Bool
 |_,[]=>true
 |i,o::os=>(o.after.all fun e=>!Region.binds .any e||Nat.blt e.on i)&&Lv (i+1) os
def Ymi(ops:Array Oper):Bool:=Lv 0 ops.toList&&b_ S8 (ops.toList.map (qk P ops)) (uo ops.toList [])
def iB:Code->cC
 |.skip=>.skip
 |.region _ ops false=>match ops.toList with
  |[]=>.fk []
  |o::rest=>match S7 P o with
   |some (d,ch,s,z)=>.wW d ch s z (rest.map (qk P ops))
   |none=>.fk ((o::rest).map (qk P ops))
 |.region _ ops true=>if Ymi P ops then .eY (ops.toList.map (qk P ops)) (uo ops.toList []) else .stop
 |.seq a b=>.seq (iB a) (iB b)
 |.cond c a b=>match bG P c with
  |some c=>.cond c (iB a) (iB b)
  |none=>.stop
 |.block id c=>.block id (iB c)
 |.loop c=>.loop (iB c)
 |.rangeFunc g ps assign body=>match bG P g with
  |some g=>.zim g ps.toList (iB assign) (iB body)
  |none=>.stop
 |.exit id=>.exit id
 |.scope c=>.scope (iB c)
 |.label _=>.skip
 |.goto _=>.stop
 |.ret=>.ret
 |.refuse _=>.stop
def Dx:List ResultVar->Option (List Iw)
 |[]=>some []
 |.tmp t::rest=>(Dx rest).map (.tmp t::·)
 |.cell t ty::rest=>match wV P ty,Dx rest with
  |some n,some l=>some (.cell t n::l)
  |_,_=>none
def xC(f:FuncId):Option kp:=
 match P.funcs[f]? with
 |some fn=>match fn.body,Dx P fn.results.toList with
  |some c,some rs=>some {ntmps:=fn.ntmps,results:=rs,body:=iB P c}
  |_,_=>none
 |none=>none
end
open Go
structure L where
 b:Nat
 d:Nat
 qq:Nat
abbrev Mu:=Nat->Option L
mutual
def VR(μ:Mu):V->Value->Prop
 |.bool b,x=>x=.bool b
 |.int k n,x=>x=.int k n
 |.jM k n,x=>x=.float k n
 |.rp k a b,x=>x=.complex k a b
 |.str s,x=>x=.string ⟨s.toArray⟩
 |.bO,x=>x=.pointer none
 |.ptr i o,x=>∃l,μ i=some l/\x=.pointer (some ⟨l.b,l.d+o,none⟩)
 |.ziA,x=>x=.slice none 0 0
 |.slice i o len cap sz,x=>∃l c,μ i=some l/\x=.slice (some ⟨l.b,l.d+o,none⟩) len c/\len<=c/\o+c*sz<=l.qq/\
   (∀k,cap=some k->c=k)/\(cap=none->o+c*sz=l.qq)
 |.empty,x=>∃a c,x=.slice (some a) 0 c
 |.bU,x=>x=.map none
 |.map i,x=>∃l,μ i=some l/\x=.map (some l.b)
 |.bV,x=>x=.chan none
 |.chan i,x=>∃l,μ i=some l/\x=.chan (some l.b)
 |.func f a c,x=>∃a' c',x=.func (.func f) ⟨a'⟩ ⟨c'⟩/\bf μ a a'/\bf μ c c'
 |.yield i,x=>∃l,μ i=some l/\x=.func (.yield l.b) #[] #[]
 |.bW,x=>x=.nilFunc
 |.iface t v,x=>∃y,x=.iface t y/\VR μ v y
 |.bh,x=>x=.nilIface
 |.agg vs,x=>∃a,x=.agg ⟨a⟩/\bf μ vs a
 |.aX vs,x=>∃a,x=.tuple ⟨a⟩/\bf μ vs a
def bf(μ:Mu):List V->List Value->Prop
 |[],xs=>xs=[]
 |v::vs,xs=>∃y ys,xs=y::ys/\VR μ v y/\bf μ vs ys
end
mutual
def VR.mono{μ μ':Mu}(h:∀i l,μ i=some l->μ' i=some l):∀(v:V) (x:Value),VR μ v x->VR μ' v x
 |.bool _,_,hx=>by simpa[VR]using hx
 |.int _ _,_,hx=>by simpa[VR]using hx
 |.jM _ _,_,hx=>by simpa[VR]using hx
 |.rp _ _ _,_,hx=>by simpa[VR]using hx
 |.str _,_,hx=>by simpa[VR]using hx
 |.bO,_,hx=>by simpa[VR]using hx
 |.ptr _ _,_,hx=>by simp only[VR]at*;obtain⟨l,h1,h2⟩:=hx;exact⟨l,h _ _ h1,h2⟩
 |.ziA,_,hx=>by simpa[VR]using hx
 |.slice _ _ _ _ _,_,hx=>by simp only[VR]at*;obtain⟨l,c,h1,h2⟩:=hx;exact⟨l,c,h _ _ h1,h2⟩
 |.empty,_,hx=>by simpa[VR]using hx
 |.bU,_,hx=>by simpa[VR]using hx
 |.map _,_,hx=>by simp only[VR]at*;obtain⟨l,h1,h2⟩:=hx;exact⟨l,h _ _ h1,h2⟩
 |.bV,_,hx=>by simpa[VR]using hx
 |.chan _,_,hx=>by simp only[VR]at*;obtain⟨l,h1,h2⟩:=hx;exact⟨l,h _ _ h1,h2⟩
 |.func _ a c,_,hx=>by
  simp only[VR]at*;obtain⟨a',c',h1,h2,h3⟩:=hx
  exact⟨a',c',h1,bf.mono h a a' h2,bf.mono h c c' h3⟩
 |.yield _,_,hx=>by simp only[VR]at*;obtain⟨l,h1,h2⟩:=hx;exact⟨l,h _ _ h1,h2⟩
 |.bW,_,hx=>by simpa[VR]using hx
 |.iface _ v,_,hx=>by simp only[VR]at*;obtain⟨y,h1,h2⟩:=hx;exact⟨y,h1,VR.mono h v y h2⟩
 |.bh,_,hx=>by simpa[VR]using hx
 |.agg vs,_,hx=>by simp only[VR]at*;obtain⟨a,h1,h2⟩:=hx;exact⟨a,h1,bf.mono h vs a h2⟩
 |.aX vs,_,hx=>by simp only[VR]at*;obtain⟨a,h1,h2⟩:=hx;exact⟨a,h1,bf.mono h vs a h2⟩
def bf.mono{μ μ':Mu}(h:∀i l,μ i=some l->μ' i=some l):∀(vs:List V) (xs:List Value),bf μ vs xs->bf μ' vs xs
 |[],_,hx=>by simpa[bf]using hx
 |v::vs,_,hx=>by
  simp only[bf]at*
  obtain⟨y,ys,h1,h2,h3⟩:=hx
  exact⟨y,ys,h1,VR.mono h v y h2,bf.mono h vs ys h3⟩
end
section
variable {μ:Mu}
def Zau{v:V}{vs:List V}{xs:List Value}:bf μ (v::vs) xs↔∃y ys,xs=y::ys/\VR μ v y/\bf μ vs ys:=by simp[bf]
def bf.length:∀{vs:List V} {xs:List Value},bf μ vs xs->xs.length=vs.length
 |[],_,h=>by simp[bf]at h;simp[h]
 |v::vs,_,h=>by
  obtain⟨y,ys,rfl,_,h3⟩:=Zau.1 h
  simp[bf.length h3]
def bf.get:∀{vs:List V} {xs:List Value},bf μ vs xs->∀{i:Nat} {v:V},vs[i]?=some v->∃x,xs[i]?=some x/\VR μ v x
 |[],_,_,i,v,hv=>by simp at hv
 |w::vs,_,h,i,v,hv=>by
  obtain⟨y,ys,rfl,h2,h3⟩:=Zau.1 h
  cases i with
  |zero=>simp at hv;subst hv;exact⟨y,by simp,h2⟩
  |succ i=>simpa using bf.get h3 (i:=i) (by simpa using hv)
def bf.append:∀{vs ws:List V} {xs ys:List Value},bf μ vs xs->bf μ ws ys->bf μ (vs++ws) (xs++ys)
 |[],ws,_,ys,h,h'=>by simp[bf]at h;simpa[h]using h'
 |v::vs,ws,_,ys,h,h'=>by
  obtain⟨y,zs,rfl,h2,h3⟩:=Zau.1 h
  exact Zau.2 ⟨y,zs++ys,rfl,h2,bf.append h3 h'⟩
def bf.take:∀{vs:List V} {xs:List Value} (n:Nat),bf μ vs xs->bf μ (vs.take n) (xs.take n)
 |[],_,n,h=>by simp[bf]at h;simp[h,bf]
 |v::vs,_,n,h=>by
  obtain⟨y,zs,rfl,h2,h3⟩:=Zau.1 h
  cases n with
  |zero=>simp[bf]
  |succ n=>exact Zau.2 ⟨y,zs.take n,rfl,h2,bf.take n h3⟩
def bf.drop:∀{vs:List V} {xs:List Value} (n:Nat),bf μ vs xs->bf μ (vs.drop n) (xs.drop n)
 |[],_,n,h=>by simp[bf]at h;simp[h,bf]
 |v::vs,_,n,h=>by
  cases n with
  |zero=>simpa using h
  |succ n=>
   obtain⟨y,zs,rfl,h2,h3⟩:=Zau.1 h
   simpa using bf.drop n h3
def bf.ziK:∀{vs:List V} {xs:List Value},xs.length=vs.length->(∀(i:Nat) (v:V),vs[i]?=some v->∃x,xs[i]?=some x/\VR μ v x)->bf μ vs xs
 |[],xs,hl,_=>by simp at hl;simp[bf,hl]
 |v::vs,[],hl,_=>by simp at hl
 |v::vs,x::xs,hl,h=>by
  refine Zau.2 ⟨x,xs,rfl,?_,bf.ziK (by simpa using hl) fun i u hu=>?_⟩
  ·obtain⟨y,h1,h2⟩:=h 0 v (by simp)
   simp at h1;subst h1;exact h2
  ·simpa using h (i+1) u (by simpa using hu)
def VR.one{v:V}{x:Value}(h:VR μ v x)(hv:v.one=true):x.oneCell'=true:=by
 cases v<;>simp only[VR]at h<;>simp only[V.one,gj]at hv
 case bool=>subst h;rfl
 case int=>subst h;rfl
 case jM=>subst h;rfl
 case rp=>subst h;rfl
 case str=>subst h;rfl
 case bO=>subst h;rfl
 case ptr=>obtain⟨l,_,rfl⟩:=h;rfl
 case ziA=>subst h;rfl
 case slice=>obtain⟨l,c,_,rfl,_⟩:=h;rfl
 case empty=>obtain⟨a,c,rfl⟩:=h;rfl
 case bU=>subst h;rfl
 case map=>obtain⟨l,_,rfl⟩:=h;rfl
 case bV=>subst h;rfl
 case chan=>obtain⟨l,_,rfl⟩:=h;rfl
 case func=>obtain⟨a,c,rfl,_⟩:=h;rfl
 case yield=>obtain⟨l,_,rfl⟩:=h;rfl
 case bW=>subst h;rfl
 case iface=>obtain⟨y,rfl,_⟩:=h;rfl
 case bh=>subst h;rfl
def VR.cells{v:V}{x:Value}(h:VR μ v x):bf μ v.cells x.cells.toList:=by
 have one:∀y:Value,x=y->(y.cells=#[y])->v.cells=[v]->bf μ v.cells x.cells.toList:=fun y e hc hv=>by
  subst e;rw[hc,hv];exact Zau.2 ⟨_,[],rfl,h,by simp[bf]⟩
 have h0:=h
 cases v<;>simp only[VR]at h
 case bool=>exact one _ h rfl rfl
 case int=>exact one _ h rfl rfl
 case jM=>exact one _ h rfl rfl
 case rp=>exact one _ h rfl rfl
 case str=>exact one _ h rfl rfl
 case bO=>exact one _ h rfl rfl
 case ptr=>obtain⟨l,_,e⟩:=h;exact one _ e rfl rfl
 case ziA=>exact one _ h rfl rfl
 case slice=>obtain⟨l,c,_,e,_⟩:=h;exact one _ e rfl rfl
 case empty=>obtain⟨a,c,e⟩:=h;exact one _ e rfl rfl
 case bU=>exact one _ h rfl rfl
 case map=>obtain⟨l,_,e⟩:=h;exact one _ e rfl rfl
 case bV=>exact one _ h rfl rfl
 case chan=>obtain⟨l,_,e⟩:=h;exact one _ e rfl rfl
 case func=>obtain⟨a,c,e,_⟩:=h;exact one _ e rfl rfl
 case yield=>obtain⟨l,_,e⟩:=h;exact one _ e rfl rfl
 case bW=>exact one _ h rfl rfl
 case iface=>obtain⟨y,e,_⟩:=h;exact one _ e rfl rfl
 case bh=>exact one _ h rfl rfl
 case agg vs=>obtain⟨a,rfl,h⟩:=h;exact h
 case aX vs=>obtain⟨a,e,_⟩:=h;exact one _ e rfl rfl
end
def RR(μ:Mu)(r:T V)(n:Nat)(tmps:Array Value):Prop:=
 tmps.size=n/\∀t v,r.get t=some v->∃x,tmps[t]?=some x/\VR μ v x
def RR.mono{μ μ':Mu}{r:T V}{n:Nat}{tmps:Array Value}(h:∀i l,μ i=some l->μ' i=some l)(hr:RR μ r n tmps):RR μ' r n tmps:=
 ⟨hr.1,fun t v hv=>let ⟨x,h1,h2⟩:=hr.2 t v hv;⟨x,h1,VR.mono h v x h2⟩⟩
def RR.set{μ:Mu}{r:T V}{n:Nat}{tmps:Array Value}(hr:RR μ r n tmps){d:Nat}(hd:d<n){v:V}{x:Value}(hv:VR μ v x):
  RR μ (r.set d v) n (tmps.setIfInBounds d x):=by
 refine⟨by simp[hr.1],fun t u hu=>?_⟩
 rw[T.al]at hu
 by_cases e:t=d
 ·subst e
  simp at hu;subst hu
  exact⟨x,by simp[hr.1,hd],hv⟩
 ·simp[e]at hu
  obtain⟨y,h1,h2⟩:=hr.2 t u hu
  exact⟨y,by rw[Lw (Ne.symm e)];exact h1,h2⟩
def zb:Ex->Option Code
 |.normal=>none
 |.exit id=>some (.exit id)
 |.ret=>some .ret
def iC(μ:Mu):List (V×V)->List MapEntry->Nat->Prop
 |[],xs,_=>xs=[]
 |(k,v)::es,xs,i=>∃e ys,xs=e::ys/\VR μ k e.key/\VR μ v e.val/\e.born=i/\iC μ es ys (i+1)
def iC.mono{μ μ':Mu}(h:∀i l,μ i=some l->μ' i=some l):∀(es:List (V×V)) (xs:List MapEntry) (i:Nat),iC μ es xs i->iC μ' es xs i
 |[],_,_,hx=>hx
 |(k,v)::es,_,i,hx=>by
  obtain⟨e,ys,h1,h2,h3,h4,h5⟩:=hx
  exact⟨e,ys,h1,VR.mono h k _ h2,VR.mono h v _ h3,h4,iC.mono h es ys (i+1) h5⟩
def OM(P:Program)(μ:Mu)(w:World):O->L->Prop
 |.cells c e rw,l=>∃(c':Array Value) (lo hi:Nat),w.heap[l.b]?=some (.cells c' e (lo,hi))/\l.d+l.qq<=c'.size/\c.length<=l.qq/\
   (∀(j:Nat) (v:V),c[j]?=some v->∃x,c'[l.d+j]?=some x/\VR μ v x)/\(∀(j:Nat) (x:Value),j<l.qq->c'[l.d+j]?=some x->x.oneCell'=true)/\(rw=true->l.d=0/\∀j,j<l.qq->¬(lo<=l.d+j/\l.d+j<hi))
 |.map es,l=>∃es':List MapEntry,w.heap[l.b]?=some (.map ⟨es'⟩ es'.length)/\iC μ es es' 0
 |.chan cap buf,l=>∃(zgF:List Value) (s r:Nat),w.heap[l.b]?=some (.chan cap ⟨zgF⟩ false s r false)/\bf μ buf zgF
 |.eK s pos,l=>w.heap[l.b]?=some (.stringIter ⟨s.toArray⟩ pos)/\l.d=0
 |.loop R,l=>∃fn tmps fL bod ld,w.heap[l.b]?=some (.loop {state:=R.st,pending:=R.iD.bind zb,fn:=fn,tmps:=tmps,params:=⟨R.ps⟩,assign:=fL,body:=bod,defers:=ld.b})/\
   RR μ R.r R.n tmps/\iB P fL=R.assign/\iB P bod=R.body/\μ R.defs=some ld
 |.defs o,l=>w.heap[l.b]?=some (.deferred (if o then some [] else none))
 |.dead,_=>True
def OM.mono{P:Program}{μ μ':Mu}{w:World}(h:∀i l,μ i=some l->μ' i=some l){o:O}{l:L}(ho:OM P μ w o l):OM P μ' w o l:=by
 cases o with
 |cells c e rw=>
  obtain⟨c',lo,hi,h1,h2,h3,h4,h5⟩:=ho
  exact⟨c',lo,hi,h1,h2,h3,fun j v hv=>let ⟨x,a,b⟩:=h4 j v hv;⟨x,a,VR.mono h v x b⟩,h5⟩
 |map es=>obtain⟨es',h1,h2⟩:=ho;exact⟨es',h1,iC.mono h _ _ _ h2⟩
 |chan cap buf=>obtain⟨b',s,r,h1,h2⟩:=ho;exact⟨b',s,r,h1,bf.mono h _ _ h2⟩
 |eK s pos=>simp only[OM]at*;exact ho
 |loop R=>obtain⟨fn,tmps,fL,bod,ld,h1,h2,h3,h4,h5⟩:=ho;exact⟨fn,tmps,fL,bod,ld,h1,h2.mono h,h3,h4,h _ _ h5⟩
 |defs b=>simp only[OM]at*;exact ho
 |dead=>trivial
def OM.congr{P:Program}{μ:Mu}{w w':World}{o:O}{l:L}(hb:w'.heap[l.b]?=w.heap[l.b]?)(ho:OM P μ w o l):OM P μ w' o l:=by
 cases o with
 |cells c e rw=>obtain⟨c',lo,hi,h1,h2⟩:=ho;exact⟨c',lo,hi,hb.trans h1,h2⟩
 |map es=>obtain⟨es',h1,h2⟩:=ho;exact⟨es',hb.trans h1,h2⟩
 |chan cap buf=>obtain⟨b',s,r,h1,h2⟩:=ho;exact⟨b',s,r,hb.trans h1,h2⟩
 |eK s pos=>exact⟨hb.trans ho.1,ho.2⟩
 |loop R=>obtain⟨fn,tmps,fL,bod,ld,h1,h2⟩:=ho;exact⟨fn,tmps,fL,bod,ld,hb.trans h1,h2⟩
 |defs b=>exact hb.trans ho
 |dead=>trivial
structure Za9 (P:Program) (μ:Mu) (w:World) (st:St):Prop where
 dom:∀i l,μ i=some l->i<st.n/\l.b<w.heap.size
 obj:∀i l,μ i=some l->∃o,st.h.get i=some o/\OM P μ w o l
 inj:∀i j l l' o o',μ i=some l->μ j=some l'->i≠j->st.h.get i=some o->st.h.get j=some o'->o.wr=true->o'.live=true->l.b≠l'.b
 zgj:∀g,g<P.globals.size->∃t,μ g=some ⟨g,0,t⟩
structure NQ (μ:Mu) (ws:List Nat) (w w':World):Prop where
 os:w'.os=w.os
 tape:w'.tape=w.tape
 output:w'.output=w.output
 size:w.heap.size<=w'.heap.size
 block:∀b,b<w.heap.size->(∀i∈ws,∀l,μ i=some l->l.b≠b)->w'.heap[b]?=w.heap[b]?
structure bK (P:Program) (μ:Mu) (w:World) (st:St) (μ':Mu) (w':World) (st':St) (ws:List Nat):Prop where
 hr:Za9 P μ' w' st'
 ext:∀i,i<st.n->μ' i=μ i
 gW:st.n<=st'.n
 wl:st'.w=ws++st.w
 eC:NQ μ ws w w'
 new:∀i l,st.n<=i->μ' i=some l->w.heap.size<=l.b\/∃j∈ws,j<st.n/\∃lj oj,μ j=some lj/\lj.b=l.b/\st.h.get j=some oj/\oj.wr=true
 ai:∀i,i<st.n->i∉ws->st'.h.get i=st.h.get i
 grow:∀i o',i<st.n->st'.h.get i=some o'->∃o,st.h.get i=some o/\(o'.wr=true->o.wr=true)/\(o'.live=true->o.live=true)
 full:∀i,st.n<=i->i<st'.n->∃l,μ' i=some l
 xQ:∀i∈ws,i<st.n->∃o,st.h.get i=some o/\o.wr=true
def Za9.Ix{P:Program}{μ μ':Mu}{w:World}{st:St}(h:Za9 P μ w st)(he:∀i,i<st.n->μ' i=μ i):∀i l,μ i=some l->μ' i=some l:=
 fun i l hi=>(he i (h.dom i l hi).1).trans hi
def NQ.refl(μ:Mu)(ws:List Nat)(w:World):NQ μ ws w w:=⟨rfl,rfl,rfl,Yv5 _,fun _ _ _=>rfl⟩
def bK.refl{P:Program}{μ:Mu}{w:World}{st:St}(h:Za9 P μ w st):bK P μ w st μ w st []:=
 ⟨h,fun _ _=>rfl,Yv5 _,rfl,NQ.refl μ [] w,fun i l hi hl=>absurd (h.dom i l hl).1 (by omega),fun _ _ _=>rfl,fun _ o' _ ho=>⟨o',ho,id,id⟩,fun _ h1 h2=>absurd h2 (by omega),fun _ hi=>absurd hi (by simp)⟩
def bK.trans{P:Program}{μ μ1 μ2:Mu}{w w1 w2:World}{st cj fh:St}{ws NR:List Nat}
  (h1:bK P μ w st μ1 w1 cj ws) (h2:bK P μ1 w1 cj μ2 w2 fh NR):bK P μ w st μ2 w2 fh (NR++ws) where
 hr:=h2.hr
 ext:=fun i hi=>(h2.ext i (iL hi h1.gW)).trans (h1.ext i hi)
 gW:=p9 h1.gW h2.gW
 wl:=by rw[h2.wl,h1.wl,rB]
 eC:=by
  refine⟨h2.eC.os.trans h1.eC.os,h2.eC.tape.trans h1.eC.tape,h2.eC.output.trans h1.eC.output,p9 h1.eC.size h2.eC.size,fun b hb dC=>?_⟩
  rw[h2.eC.block b (iL hb h1.eC.size) fun i hi l hl=>?_,h1.eC.block b hb fun i hi l hl=>dC i (by simp[hi]) l hl]
  by_cases xR:i<st.n
  ·exact dC i (by simp[hi]) l (by rw[<-h1.ext i xR];exact hl)
  ·rcases h1.new i l (by omega) hl with h|⟨j,hj,_,lj,oj,tm,vL,_⟩
   ·omega
   ·rw[<-vL];exact dC j (by simp[hj]) lj tm
 new:=fun i l hi hl=>by
  by_cases xR:i<cj.n
  ·rcases h1.new i l hi (by rw[<-h2.ext i xR];exact hl)with h|⟨j,hj,r⟩
   ·exact .inl h
   ·exact .inr ⟨j,by simp[hj],r⟩
  ·rcases h2.new i l (by omega) hl with h|⟨j,hj,Iy,lj,oj,tm,vL,Iz,how⟩
   ·exact .inl (p9 h1.eC.size h)
   ·by_cases hjn':j<st.n
    ·obtain⟨o,ho,hw,_⟩:=h1.grow j oj hjn' Iz
     exact .inr ⟨j,by simp[hj],hjn',lj,o,by rw[<-h1.ext j hjn'];exact tm,vL,ho,hw how⟩
    ·rcases h1.new j lj (by omega) tm with h|⟨j',NS,r⟩
     ·exact .inl (by omega)
     ·obtain⟨r1,lj',oj',r2,r3,r4⟩:=r
      exact .inr ⟨j',by simp[NS],r1,lj',oj',r2,r3.trans vL,r4⟩
 ai:=fun i hi dC=>by
  simp only[tg,not_or]at dC
  rw[h2.ai i (iL hi h1.gW) dC.1,h1.ai i hi dC.2]
 grow:=fun i o' hi ho=>by
  obtain⟨o1,ho1,a1,b1⟩:=h2.grow i o' (iL hi h1.gW) ho
  obtain⟨o,ho,a,b⟩:=h1.grow i o1 hi ho1
  exact⟨o,ho,a∘a1,b∘b1⟩
 full:=fun i iE h2'=>by
  by_cases hi:i<cj.n
  ·obtain⟨l,hl⟩:=h1.full i iE hi
   exact⟨l,(h2.ext i hi).trans hl⟩
  ·exact h2.full i (by omega) h2'
 xQ:=fun i hi hn=>by
  simp only[tg]at hi
  rcases hi with hi|hi
  ·obtain⟨o1,ho1,S9⟩:=h2.xQ i hi (iL hn h1.gW)
   obtain⟨o,ho,a,_⟩:=h1.grow i o1 hn ho1
   exact⟨o,ho,a S9⟩
  ·exact h1.xQ i hi hn
def Za9.drew{P:Program}{μ:Mu}{w:World}{st:St}(h:Za9 P μ w st)(n:Nat):Za9 P μ {w with drawn:=n} st:=
 ⟨h.dom,fun i l hl=>let ⟨o,h1,h2⟩:=h.obj i l hl;⟨o,h1,OM.congr (w:=w) rfl h2⟩,h.inj,h.zgj⟩
def bK.alloc{P:Program}{μ:Mu}{w:World}{st:St}(h:Za9 P μ w st)(o:O)(ob:Obj)(d qq:Nat)
  (ho:OM P (fun i=>if i=st.n then some ⟨w.heap.size,d,qq⟩ else μ i) {w with heap:=w.heap.push ob} o ⟨w.heap.size,d,qq⟩):
  bK P μ w st (fun i=>if i=st.n then some ⟨w.heap.size,d,qq⟩ else μ i) {w with heap:=w.heap.push ob} (st.alloc o) []:=by
 have dE:∀i l,μ i=some l->(fun i=>if i=st.n then some (⟨w.heap.size,d,qq⟩:L) else μ i) i=some l:=fun i l hl=>by
  have:=(h.dom i l hl).1
  simp only
  rw[aA (by omega)];exact hl
 have hold:∀b,b<w.heap.size->({w with heap:=w.heap.push ob}:World).heap[b]?=w.heap[b]?:=fun b hb=>by
  show (w.heap.push ob)[b]?=_
  rw[Array.getElem?_push,aA (by omega)]
 refine⟨⟨fun i l hl=>?_,fun i l hl=>?_,fun i j l l' oi oj hi hj cv ho1 wX hw qC=>?_,fun g hg=>let ⟨t,ht⟩:=h.zgj g hg;⟨t,dE g _ ht⟩⟩,fun i hi=>?_,by simp[St.alloc],rfl,⟨rfl,rfl,rfl,by simp,fun b hb _=>hold b hb⟩,
  fun i l hi hl=>?_,fun i hi _=>?_,fun i o' hi vM=>?_,fun i h1 h2=>⟨⟨w.heap.size,d,qq⟩,by simp only[St.alloc]at h2;show (if i=st.n then some (⟨w.heap.size,d,qq⟩:L) else μ i)=_;rw[aR (by omega)]⟩,fun _ hi=>absurd hi (by simp)⟩
 ·by_cases e:i=st.n
  ·simp only[e,if_true,au]at hl;subst hl;simp[St.alloc,e]
  ·simp only[e,if_false]at hl
   have:=h.dom i l hl
   simp[St.alloc];omega
 ·by_cases e:i=st.n
  ·simp only[e,if_true,au]at hl;subst hl
   exact⟨o,by simp[St.alloc,T.al,e],ho⟩
  ·simp only[e,if_false]at hl
   obtain⟨o1,h1,h2⟩:=h.obj i l hl
   exact⟨o1,by simp[St.alloc,T.al,e,h1],(h2.mono dE).congr (hold l.b (h.dom i l hl).2)⟩
 ·by_cases e:i=st.n
  ·by_cases e':j=st.n
   ·exact absurd (e.trans e'.symm) cv
   ·simp only[e,if_true,au]at hi;simp only[e',if_false]at hj;subst hi
    have:=(h.dom j l' hj).2
    simp only;omega
  ·simp only[e,if_false]at hi
   by_cases e':j=st.n
   ·simp only[e',if_true,au]at hj;subst hj
    have:=(h.dom i l hi).2
    simp only;omega
   ·simp only[e',if_false]at hj
    simp only[St.alloc,T.al,e,e',if_false]at ho1 wX
    exact h.inj i j l l' oi oj hi hj cv ho1 wX hw qC
 ·rw[aA (by omega)]
 ·by_cases e:i=st.n
  ·simp only[e,if_true,au]at hl;subst hl;exact .inl (Yv5 _)
  ·simp only[e,if_false]at hl
   exact absurd (h.dom i l hl).1 (by omega)
 ·simp only[St.alloc,T.al];rw[aA (by omega)]
 ·simp only[St.alloc,T.al]at vM;rw[aA (by omega)]at vM
  exact⟨o',vM,id,id⟩
def bK.write{P:Program}{μ:Mu}{w w':World}{st:St}(h:Za9 P μ w st){i:Nat}{l:L}{o o':O}(hi:μ i=some l)(ho:st.h.get i=some o)(hw:o.wr=true)
  (zc:w'.os=w.os) (htp:w'.tape=w.tape) (hou:w'.output=w.output) (jm:w'.heap.size=w.heap.size) (zgG:∀b,b≠l.b->w'.heap[b]?=w.heap[b]?) (vM:OM P μ w' o' l):
  bK P μ w st μ w' (st.write i o') [i]:=by
 have vN:o.live=true:=by cases o<;>simp_all [O.wr,O.live]
 refine⟨⟨fun j lj hj=>?_,fun j lj hj=>?_,fun j k lj lk oj ok hj hk cv h1 h2 Lx fN=>?_,h.zgj⟩,fun _ _=>rfl,Yv5 _,rfl,⟨zc,htp,hou,by omega,fun b _ dC=>zgG b ?_⟩,
  fun j lj hn hj=>?_,fun j _ dC=>?_,fun j oj hn hj=>?_,fun j h1 h2=>absurd h2 (by simp only[St.write];omega),fun j hj _=>by simp only[yW]at hj;subst hj;exact⟨o,ho,hw⟩⟩
 ·have:=h.dom j lj hj
  simp[St.write];omega
 ·by_cases e:j=i
  ·subst e
   rw[hi]at hj;cases hj
   exact⟨o',by simp[St.write,T.al],vM⟩
  ·obtain⟨oj,h1,h2⟩:=h.obj j lj hj
   refine⟨oj,by simp[St.write,T.al,e,h1],?_⟩
   cases hl:oj.live
   ·cases oj<;>simp[O.live]at hl
    trivial
   ·exact h2.congr (zgG lj.b (Ne.symm (h.inj i j l lj o oj hi hj (Ne.symm e) ho h1 hw hl)))
 ·simp only[St.write,T.al]at h1 h2
  by_cases e:j=i
  ·subst e
   rw[hi]at hj;cases hj
   rw[aA (Ne.symm cv)]at h2
   exact h.inj j k l lk o ok hi hk cv ho h2 hw fN
  ·rw[aA e]at h1
   by_cases e':k=i
   ·subst e'
    exact h.inj j k lj lk oj o hj hk cv h1 ho Lx vN
   ·rw[aA e']at h2
    exact h.inj j k lj lk oj ok hj hk cv h1 h2 Lx fN
 ·exact Ne.symm (dC i (by simp) l hi)
 ·exact absurd (h.dom j lj hj).1 (by omega)
 ·simp only[yW]at dC
  simp[St.write,T.al,dC]
 ·simp only[St.write,T.al]at hj
  by_cases e:j=i
  ·subst e
   exact⟨o,ho,fun _=>hw,fun _=>vN⟩
  ·rw[aA e]at hj
   exact⟨oj,hj,id,id⟩
mutual
def TN(μ:Mu):∀(x:Value) (v:V),cV x=some v->VR μ v x
 |.bool b,v,h=>by simp only[cV,au]at h;subst h;simp[VR]
 |.int k n,v,h=>by simp only[cV,au]at h;subst h;simp[VR]
 |.float k n,v,h=>by simp only[cV,au]at h;subst h;simp[VR]
 |.complex ..,v,h=>by simp only[cV,au]at h;subst h;simp[VR]
 |.string s,v,h=>by simp only[cV,au]at h;subst h;simp[VR]
 |.pointer none,v,h=>by simp only[cV,au]at h;subst h;simp[VR]
 |.pointer (some _),v,h=>by simp[cV]at h
 |.slice none 0 0,v,h=>by simp only[cV,au]at h;subst h;simp[VR]
 |.slice none 0 (c+1),v,h=>by simp[cV]at h
 |.slice none (n+1) c,v,h=>by simp[cV]at h
 |.slice (some _) _ _,v,h=>by simp[cV]at h
 |.map none,v,h=>by simp only[cV,au]at h;subst h;simp[VR]
 |.map (some _),v,h=>by simp[cV]at h
 |.chan none,v,h=>by simp only[cV,au]at h;subst h;simp[VR]
 |.chan (some _),v,h=>by simp[cV]at h
 |.func ..,v,h=>by simp[cV]at h
 |.nilFunc,v,h=>by simp only[cV,au]at h;subst h;simp[VR]
 |.iface ..,v,h=>by simp[cV]at h
 |.nilIface,v,h=>by simp only[cV,au]at h;subst h;simp[VR]
 |.agg ⟨l⟩,v,h=>by
  simp only[cV]at h
  split at h
  ·rename_i l' hl
   simp only[au]at h;subst h
   exact⟨l,rfl,Zv4 μ l l' hl⟩
  ·cases h
 |.tuple ⟨l⟩,v,h=>by
  simp only[cV]at h
  split at h
  ·rename_i l' hl
   simp only[au]at h;subst h
   exact⟨l,rfl,Zv4 μ l l' hl⟩
  ·cases h
def Zv4(μ:Mu):∀(xs:List Value) (vs:List V),Lq xs=some vs->bf μ vs xs
 |[],vs,h=>by simp only[Lq,au]at h;subst h;simp[bf]
 |x::xs,vs,h=>by
  simp only[Lq]at h
  split at h
  ·rename_i v lD hv Jq
   simp only[au]at h;subst h
   exact⟨x,xs,rfl,TN μ x v hv,Zv4 μ xs lD Jq⟩
  ·cases h
end
section
variable {P:Program} {μ:Mu} {w:World} {st:St} {r:T V} {n:Nat} {a:Act}
def cU(hh:Za9 P μ w st)(hr:RR μ r n a.tmps){x:Operand}{s:Src}(hc:bG P x=some s){v:V}(hv:s.ev r=some v):VR μ v (a.eval x):=by
 cases x with
 |tmp t=>
  simp only[bG,au]at hc;subst hc
  obtain⟨y,h1,h2⟩:=hr.2 t v hv
  simpa[Act.eval,IA,h1]using h2
 |const c=>
  simp only[bG]at hc
  split at hc
  ·rename_i v' Jl
   simp only[au]at hc;subst hc
   simp only[Src.ev,au]at hv;subst hv
   exact TN μ c v' Jl
  ·cases hc
 |global g=>
  simp only[bG]at hc
  split at hc
  ·rename_i hg
   simp only[au]at hc;subst hc
   simp only[Src.ev,au]at hv;subst hv
   obtain⟨t,ht⟩:=hh.zgj g hg
   exact⟨_,ht,rfl⟩
  ·cases hc
 |func f=>
  simp only[bG,au]at hc;subst hc
  simp only[Src.ev,au]at hv;subst hv
  exact⟨[],[],rfl,by simp[bf],by simp[bf]⟩
def Jj(hh:Za9 P μ w st)(hr:RR μ r n a.tmps):∀{xs:List Operand} {ss:List Src},uj P xs=some ss->∀{vs:List V},tB r ss=some vs->bf μ vs (xs.map a.eval)
 |[],ss,hc,vs,hv=>by
  simp only[uj,au]at hc;subst hc
  simp only[tB,au]at hv;subst hv
  simp[bf]
 |x::xs,ss,hc,vs,hv=>by
  simp only[uj]at hc
  split at hc
  ·rename_i s ss' h1 h2
   simp only[au]at hc;subst hc
   simp only[tB]at hv
   split at hv
   ·rename_i v lD h3 h4
    simp only[au]at hv;subst hv
    exact⟨_,_,rfl,cU hh hr h1 h3,Jj hh hr h2 h4⟩
   ·cases hv
  ·cases hc
def Zs8(hh:Za9 P μ w st)(hr:RR μ r n a.tmps){x:Option Operand}{s:Option Src}(hc:rJ P x=some s){v:Option V}(hv:aH r s=some v):
  (v=none/\x=none)\/∃v' x',v=some v'/\x=some x'/\VR μ v' (a.eval x'):=by
 cases x with
 |none=>
  simp only[rJ,au]at hc;subst hc
  simp only[aH,au]at hv;subst hv
  exact .inl ⟨rfl,rfl⟩
 |some x=>
  simp only[rJ]at hc
  split at hc
  ·rename_i s' h1
   simp only[au]at hc;subst hc
   simp only[aH]at hv
   split at hv
   ·rename_i v' h2
    simp only[au]at hv;subst hv
    exact .inr ⟨v',x,rfl,rfl,cU hh hr h1 h2⟩
   ·cases hv
  ·cases hc
def Za5(P:Program)(μ:Mu)(w:World)(st:St)(s:Sem Next)(v:V)(st':St):Prop:=
 ∃nx x w' μ' ws,s.run P w=.ok nx w'/\(nx=.value x\/(nx=.skip/\x=undef))/\VR μ' v x/\bK P μ w st μ' w' st' ws
def Za5.value(hh:Za9 P μ w st){s:Sem Value}{v:V}{x:Value}(hs:s.run P w=.ok x w)(hv:VR μ v x):
  Za5 P μ w st (do pure (.value (<-s))) v st:=
 ⟨.value x,x,w,μ,[],by simp[hs,Result.andThen],.inl rfl,hv,bK.refl hh⟩
def Za5.OS(hh:Za9 P μ w st){v:V}{x:Value}(hv:VR μ v x):Za5 P μ w st (pure (.value x)) v st:=
 ⟨.value x,x,w,μ,[],by simp,.inl rfl,hv,bK.refl hh⟩
def Zox{t:TypeId}(h:wV P t=some none):(isAgg t).run P w=.ok false w:=by
 unfold wV at h
 split at h
 ·split at h<;>simp at h
 ·split at h<;>simp at h
 ·rename_i d h1 h2 hd
  cases d<;>simp[isAgg,run_underlying hd]<;>simp_all
 ·cases h
def Mg{t:TypeId}{k:Nat}(h:wV P t=some (some k)):(isAgg t).run P w=.ok true w/\(sizeOf t).run P w=.ok k w:=by
 unfold wV eZ at h
 split at h
 ·rename_i fs hd
  split at h
  ·rename_i n hn
   simp only[au]at h;subst h
   simp only[Ywc]at hn
   obtain⟨i,hi,rfl⟩:=hn
   exact⟨by simp[isAgg,run_underlying hd],by simp[sizeOf,typeInfo,hi]⟩
  ·cases h
 ·rename_i k' e hd
  split at h
  ·rename_i n hn
   simp only[au]at h;subst h
   simp only[Ywc]at hn
   obtain⟨i,hi,rfl⟩:=hn
   exact⟨by simp[isAgg,run_underlying hd],by simp[sizeOf,typeInfo,hi]⟩
  ·cases h
 ·cases h
 ·cases h
def xq{t:TypeId}{k:Nat}(h:eZ P t=some k):(sizeOf t).run P w=.ok k w:=by
 unfold eZ at h
 simp only[Ywc]at h
 obtain⟨i,hi,rfl⟩:=h
 simp[sizeOf,typeInfo,hi]
def Zrz{t:TypeId}{v:V}(h:oo P t=some v):∃x,(zeroValue t).run P w=.ok x w/\∀μ,VR μ v x:=by
 unfold oo at h
 split at h
 ·rename_i i hi
  split at h
  ·rename_i x hx
   exact⟨x,by simp[zeroValue,typeInfo,hi,hx],fun μ=>TN μ x v h⟩
  ·cases h
 ·cases h
def vZ(b o j:Nat):(⟨b,o,none⟩:Addr).add j=⟨b,o+j,none⟩:=by
 unfold Addr.add;split<;>simp_all
def OM.cell{c:List V}{e:TypeId}{rw:Bool}{l:L}(h:OM P μ w (.cells c e rw) l){j:Nat}{v:V}(hv:c[j]?=some v):
  ∃x,w.cell? ⟨l.b,l.d+j,none⟩=some x/\VR μ v x:=by
 obtain⟨c',lo,hi,h1,_,_,h4,_⟩:=h
 obtain⟨x,hx,hr⟩:=h4 j v hv
 exact⟨x,by simp[World.cell?,h1,hx],hr⟩
def OM.seg{c:List V}{e:TypeId}{rw:Bool}{l:L}(h:OM P μ w (.cells c e rw) l){o k:Nat}{vs:List V}(hs:aK c o k=some vs):
  ∃xs:List Value,bf μ vs xs/\xs.length=k/\(loadCells ⟨l.b,l.d+o,none⟩ k).run P w=.ok xs.toArray w/\(∀(j:Nat) (x:Value),xs[j]?=some x->w.cell? ⟨l.b,l.d+o+j,none⟩=some x)/\(∀x∈xs,x.oneCell'=true):=by
 unfold aK at hs
 split at hs
 ·rename_i hle
  simp only[au]at hs;subst hs
  obtain⟨c',lo,hi,h1,h2,h3,h4,h5,_⟩:=h
  have hlen:l.d+o+k<=c'.size:=by omega
  have hl:((c'.toList.drop (l.d+o)).take k).length=k:=by simp;omega
  have hg:∀(j:Nat) (x:Value),((c'.toList.drop (l.d+o)).take k)[j]?=some x->c'[l.d+o+j]?=some x:=fun j x hx=>by
   rw[kW]at hx
   split at hx
   ·simpa[gH]using hx
   ·cases hx
  have fX:∀(j:Nat) (x:Value),((c'.toList.drop (l.d+o)).take k)[j]?=some x->w.cell? ⟨l.b,l.d+o+j,none⟩=some x:=fun j x hx=>by
   simp[World.cell?,h1,hg j x hx]
  refine⟨(c'.toList.drop (l.d+o)).take k,?_,hl,?_,fX,fun x hx=>?_⟩
  ·refine bf.ziK (by rw[hl];simp;omega) fun j v hv=>?_
   rw[kW]at hv
   split at hv
   ·rename_i hj
    rw[gH]at hv
    obtain⟨x,hx,hr⟩:=h4 (o+j) v hv
    refine⟨x,?_,hr⟩
    rw[kW,aR hj,gH]
    simpa[oZ]using hx
   ·cases hv
  ·have:=run_loadCells_list (P:=P) w ⟨l.b,l.d+o,none⟩ ((c'.toList.drop (l.d+o)).take k) (fun j x hx=>by rw[vZ];exact fX j x hx)
   rwa [hl]at this
  ·obtain⟨j,hj⟩:=Nd hx
   have Az:j<k:=by rw[<-hl];exact(AM.1 hj).1
   exact h5 (o+j) x (by omega) (by rw[<-oZ];exact hg j x hj)
 ·cases hs
def TO{t:TypeId}{vs:List V}{xs:List Value}(pr:bf μ vs xs){k:Option Nat}(ha:wV P t=some k){o:Nat}{v:V}(hv:aI vs o k=some v):
  ∃x,(part t ⟨xs⟩ o).run P w=.ok x w/\VR μ v x:=by
 cases k with
 |none=>
  simp only[aI]at hv
  obtain⟨x,hx,hr⟩:=pr.get hv
  exact⟨x,by simp[part,Zox ha,Result.andThen,hx],hr⟩
 |some k=>
  simp only[aI]at hv
  split at hv
  ·rename_i l hl
   simp only[au]at hv;subst hv
   unfold aK at hl
   split at hl
   ·simp only[au]at hl;subst hl
    refine⟨.agg ⟨(xs.drop o).take k⟩,?_,⟨_,rfl,(pr.drop o).take k⟩⟩
    simp[part,(Mg ha).1,(Mg ha).2,Result.andThen]
   ·cases hl
  ·cases hv
end
end Go.Mx
