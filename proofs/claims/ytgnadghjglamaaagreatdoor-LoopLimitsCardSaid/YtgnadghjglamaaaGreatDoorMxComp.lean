/-Code of the Go model resolved for the ma-/
import Derived.Test.YtgnadghjglamaaaGreatDoorMxCore
import Derived.Laws.MakeOwn
import Derived.Laws.CopyRow
import Derived.Laws.Rows
import Derived.Laws.Append
import Derived.Laws.Externs
import Derived.Laws.StructEq
import Derived.RowKit
set_option linter.all false
namespace Go.Mx
mutual
def cV:Value->Option V
 |.bool b=>some (.bool b)
 |.int k n=>some (.int k n)
 |.float k n=>some (.kg k n)
 |.complex k a b=>some (.rO k a b)
 |.string s=>some (.str s.data.toList)
 |.pointer none=>some .zgi
 |.slice none 0 0=>some .aa
 |.map none=>some .bV
 |.chan none=>some .bX
 |.nilFunc=>some .bY
 |.nilIface=>some .aX
 |.agg ⟨l⟩=>match Lx l with
  |some l=>some (.agg l)
  |none=>none
 |.tuple ⟨l⟩=>match Lx l with
  |some l=>some (.aS l)
  |none=>none
 |_=>none
def Lx:List Value->Option (List V)
 |[]=>some []
 |v::vs=>match cV v,Lx vs with
  |some v,some vs=>some (v::vs)
  |_,_=>none
end
section
variable (P:Program)
def bo:Operand->Option Src
 |.tmp t=>some (.tmp t)
 |.const v=>match cV v with
  |some v=>some (.const v)
  |none=>none
 |.global g=>if g<P.globals.size then some (.const (.ptr g 0)) else none
 |.func f=>some (.const (.func f [] []))
def uW:List Operand->Option (List Src)
 |[]=>some []
 |x::xs=>match bo P x,uW xs with
  |some x,some xs=>some (x::xs)
  |_,_=>none
def rW:Option Operand->Option (Option Src)
 |none=>some none
 |some x=>match bo P x with
  |some x=>some (some x)
  |none=>none
def ff(t:TypeId):Option Nat:=(P.info? t).map (·.size)
def AY(t:TypeId):Option Nat:=(P.info? t).map (·.bytes)
def xx(t:TypeId):Option (Option Nat):=
 match P.underlying t with
 |some (.struct _)|some (.array _ _)=>match ff P t with
  |some n=>some (some n)
  |none=>none
 |some _=>some none
 |none=>none
def oT(t:TypeId):Option V:=
 match P.info? t with
 |some i=>match i.zero with
  |some v=>cV v
  |none=>none
 |none=>none
def SG:TypeDesc->Option PK
 |.bool=>some .bool
 |.int _=>some .int
 |.string=>some .str
 |.pointer _=>some .ptr
 |.slice _=>some .slice
 |.map _ _=>some .map
 |.func _ _ _=>some .func
 |.chan _ _=>some .chan
 |.interface _=>some .iface
 |_=>none
def Ly(q:TypeId->Option rX):List Field->Option (List (Nat×Option Nat×rX))
 |[]=>some []
 |f::fs=>if f.name= "_" then Ly q fs else
  match xx P f.type,q f.type,Ly q fs with
  |some a,some q,some l=>some ((f.offset,a,q)::l)
  |_,_,_=>none
def Yje:TypeDesc->Bool
 |.pointer e=>(P.info? e).isSome
 |_=>true
def wo:Nat->TypeId->Option rX
 |0,_=>none
 |d+1,t=>
  match P.underlying t with
  |some (.struct fs)=>
   if P.stoodInHeld t then none else
   match Ly P (wo d) fs.toList with
   |some l=>some (.node l)
   |none=>none
  |some q=>match SG q with
   |some k=>if Yje P q=true then some (.dm k) else none
   |none=>none
  |none=>none
def AZ(place:Nat->Option (Nat×Nat)):List (Nat×Operand)->Option (List (Nat×Nat×Src))
 |[]=>some []
 |(i,x)::rest=>match place i,bo P x,AZ place rest with
  |some (o,s),some x,some l=>some ((o,s,x)::l)
  |_,_,_=>none
def zq(t:TypeId):Option jh:=
 match P.underlying t with
 |some (.int k)=>some (.int k)
 |some .string=>some .str
 |_=>none
def IL:Operand->Bool
 |.const _=>true
 |_=>false
def Lz(fs:List Field):Option (List (Nat×Nat)):=
 match fs with
 |[]=>some []
 |f::fs=>match ff P f.type,Lz fs with
  |some s,some l=>some ((f.offset,s)::l)
  |_,_=>none
def tR(name:String):Option Ext:=
 if name= "math/bits.Add64" then some .nS
 else if name= "math/bits.Sub64" then some .nT
 else if name= "internal/abi.NoEscape" then some .same
 else if name= "internal/bytealg.IndexByteString" then some .cy
 else if name= "math.Float64bits" then some .pH
 else if name= "math.Float64frombits" then some .pJ
 else none
def DD(c:Call):Option gF:=
 match c.callee with
 |.value f=>match uW P c.args.toList with
  |none=>none
  |some args=>match f with
   |.func g=>match P.funcs[g]? with
    |some fn=>if fn.body.isSome then some (.call (.const (.func g [] [])) args) else
     match tR fn.name with
     |some e=>some (.ext e args)
     |none=>none
    |none=>none
   |f=>match bo P f with
    |some f=>some (.call f args)
    |none=>none
 |.invoke _ _=>none
 |.builtin b=>
  match b,c.argTypes.toList,c.args.toList with
  |.len,[t],[x]=>
   match P.underlying t,bo P x with
   |some .string,some x=>some (.len 0 x)
   |some (.slice _),some x=>some (.len 1 x)
   |some (.map _ _),some x=>some (.len 2 x)
   |some (.array n _),_=>some (.nU n)
   |some (.pointer a),_=>match P.underlying a with
    |some (.array n _)=>some (.nU n)
    |_=>none
   |_,_=>none
  |.cap,[t],[x]=>
   match P.underlying t,bo P x with
   |some (.slice _),some x=>some (.cap x)
   |_,_=>none
  |.min,_,_=>match uW P c.args.toList with
   |some l=>some (.mn l)
   |none=>none
  |.max,_,_=>match uW P c.args.toList with
   |some l=>some (.mx l)
   |none=>none
  |.append,[t,u],[s,x]=>
   match P.underlying t with
   |some (.slice e)=>match ff P e,AY P e,oT P e,bo P s,bo P x,P.underlying u with
    |some n,some b,some z,some s,some x,some d=>if (d matches .int _)\/b=0\/z.cells.length≠n\/z.cells.all V.one=false then none else some (.append n b e z.cells s x)
    |_,_,_,_,_,_=>none
   |_=>none
  |.copy,t::_,[d,s]=>
   match P.underlying t with
   |some (.slice e)=>match ff P e,bo P d,bo P s with
    |some n,some d,some s=>some (.copy n d s)
    |_,_,_=>none
   |_=>none
  |.clear,[t],[s]=>
   match P.underlying t with
   |some (.slice e)=>match ff P e,oT P e,bo P s with
    |some n,some z,some s=>if z.cells.all V.one then some (.clear n z.cells s) else none
    |_,_,_=>none
   |_=>none
  |.unsafeSliceData,[_],[s]=>(bo P s).map .zr
  |.real,[_],[s]=>(bo P s).map (.part false)
  |.imag,[_],[s]=>(bo P s).map (.part true)
  |.unsafeString,[t,_],[x,n]=>
   match P.underlying t with
   |some (.pointer e)=>match ff P e,bo P x,bo P n with
    |some 1,some x,some n=>some (.IM e x n)
    |_,_,_=>none
   |_=>none
  |_,_,_=>none
def yd(t:TypeId):Bool:=match P.underlying t with
 |some (.float _)=>true
 |_=>false
def LA:Op->Option gF
 |.move x|.assign x=>(bo P x).map .pe
 |.pick c a b=>match bo P c,bo P a,bo P b with
  |some c,some a,some b=>some (.pick c a b)
  |_,_,_=>none
 |.alloc e=>match oT P e with
  |some z=>if z.cells.all V.one then some (.alloc z.cells e) else none
  |none=>none
 |.box e x=>(bo P x).map (.box e)
 |.build t parts=>match oT P t with
  |none=>none
  |some z=>match P.underlying t with
   |some (.struct fs)=>match Lz P fs.toList with
    |some pl=>(AZ P (pl[·]?) parts.toList).map (.build z.cells)
    |none=>none
   |some (.array _ e)=>match ff P e with
    |some s=>(AZ P (fun i=>some (i*s,s)) parts.toList).map (.build z.cells)
    |none=>none
   |_=>none
 |.buildSlice t len parts=>match P.underlying t with
  |some (.slice e)=>match ff P e,oT P e with
   |some s,some z=>if len*s > 2^24\/z.cells.length≠s\/s=0 then none else
    (AZ P (fun i=>some (i*s,s)) parts.toList).map (.kP e s len (dw z.cells len))
   |_,_=>none
  |_=>none
 |.load t a=>match xx P t,bo P a with
  |some n,some a=>some (.load n a)
  |_,_=>none
 |.store t a x=>match ff P t,bo P a,bo P x with
  |some n,some a,some x=>some (.store n a x)
  |_,_,_=>none
 |.nilCheck x=>(bo P x).map .nV
 |.binOp op t x y _=>match bo P x,bo P y with
  |some a,some b=>
   if yd P t=true then some (.IN op a b) else
   match op with
   |.eql|.neq=>match wo P 40 t with
    |some q=>if (match P.underlying t with|some (.struct _)|some (.array _ _)=>P.eqGuardType P.depth t|_=>false) then none else some (.bin op q (IL x||IL y) a b)
    |none=>none
   |_=>some (.bin op (.node []) false a b)
  |_,_=>none
 |.unOp op _ x=>(bo P x).map (.un op)
 |.convert src dst x=>match bo P x with
  |none=>none
  |some a=>match P.underlying src,P.underlying dst with
   |some (.int _),some (.int k)=>some (.dr k a)
   |some (.float _),some (.int k)=>some (.IP k a)
   |some .string,some .string=>some (.mQ a)
   |some .string,some (.slice e)=>match P.underlying e with
    |some (.int .u8)=>some (.jF e a)
    |_=>none
   |some (.slice e),some .string=>match P.underlying e with
    |some (.int .u8)=>some (.nW a)
    |_=>none
   |some (.pointer t),some .unsafePointer=>match ff P t with
    |some (_+1)=>some (.LB none a)
    |_=>none
   |some .unsafePointer,some (.pointer u)=>match ff P u with
    |some (z+1)=>some (.LB (some (u,z+1)) a)
    |_=>none
   |_,_=>none
 |.makeInterface t x=>match P.underlying t with
  |some (.interface _)=>none
  |some _=>(bo P x).map (.iH t)
  |none=>none
 |.makeFunc (.func f) first gD=>match uW P first.toList,uW P gD.toList with
  |some a,some l=>some (.nX f a l)
  |_,_=>none
 |.makeMap _ none=>some .yY
 |.makeChan t n=>match P.underlying t with
  |some (.chan _ e)=>match AY P e,bo P n with
   |some b,some n=>some (.qH b n)
   |_,_=>none
  |_=>none
 |.makeSlice t l c=>match P.underlying t with
  |some (.slice e)=>match ff P e,AY P e,oT P e,bo P l,bo P c with
   |some s,some b,some z,some l,some c=>if z.cells.all V.one then some (.jG e s b z.cells l c) else none
   |_,_,_,_,_=>none
  |_=>none
 |.slice t x lo hi mx=>match bo P x,rW P lo,rW P hi,rW P mx with
  |some x,some lo,some hi,some mx=>match P.underlying t with
   |some .string=>if mx.isSome then none else some (.cH x lo hi)
   |some (.slice e)=>(ff P e).map fun s=>.mR s x lo hi mx
   |some (.array n e)=>(ff P e).map fun s=>.jH n s x lo hi mx
   |_=>none
  |_,_,_,_=>none
 |.fieldAddr t x i=>match P.underlying t,bo P x with
  |some (.struct fs),some x=>match fs[i]? with
   |some f=>match ff P f.type with
    |some (_+1)=>some (.sO f.offset x)
    |_=>none
   |none=>none
  |_,_=>none
 |.field t x i=>match P.underlying t,bo P x with
  |some (.struct fs),some x=>match fs[i]? with
   |some f=>(xx P f.type).map fun n=>.field f.offset n x
   |none=>none
  |_,_=>none
 |.indexAddr t x i=>match P.underlying t,bo P x,bo P i with
  |some (.array n e),some x,some i=>(ff P e).map fun s=>.il n s x i
  |some (.slice e),some x,some i=>(ff P e).map fun s=>.iI s x i
  |_,_,_=>none
 |.index t x i=>match P.underlying t,bo P x,bo P i with
  |some (.array n e),some x,some i=>match ff P e,xx P e with
   |some s,some a=>some (.qI n s a x i)
   |_,_=>none
  |some .string,some x,some i=>some (.bO x i)
  |_,_,_=>none
 |.lookup t m k ok=>match P.underlying t,bo P m,bo P k with
  |some (.map kt e),some m,some k=>match zq P kt,oT P e with
   |some kd,some z=>some (.lookup kd z m k ok)
   |_,_=>none
  |_,_,_=>none
 |.mapUpdate t m k v|.insert t m k v=>match P.underlying t,bo P m,bo P k,bo P v with
  |some (.map kt _),some m,some k,some v=>(zq P kt).map fun kd=>.uX kd m k v
  |_,_,_,_=>none
 |.range t x=>match P.underlying t,bo P x with
  |some .string,some x=>some (.jI x)
  |_,_=>none
 |.next it true=>(bo P it).map .qJ
 |.extract x i=>(bo P x).map fun x=>.extract x i
 |.call c=>DD P c
 |_=>none
def zt(o:Op):gF:=(LA P o).getD .stop
def IB(ops:Array Oper):Option (Nat×Bool)->Option (Option (Nat×Bool))
 |none=>some none
 |some (j,want)=>match (ops[j]?).bind (·.dst)with
  |some t=>some (some (t,want))
  |none=>none
def qF(ops:Array Oper)(o:Oper):dC:=
 match IB ops o.guard with
 |some g=>{dst:=o.dst,op:=zt P o.op,guard:=g}
 |none=>{dst:=o.dst,op:=.stop,guard:=none}
def Oc(o:Oper)(ms:List Nat):Nat:=
 o.after.foldl (fun s e=>if Region.binds .any e then s|||2^e.on|||ms.getD e.on 0 else s) 0
def uP:List Oper->List Nat->List Nat
 |[],acc=>acc
 |o::rest,acc=>uP rest (acc++[Oc o acc])
def SC(o:Oper):Option (Option Nat×Src×Option Src×V):=
 match o.op,o.guard with
 |.select cs false,none=>match cs.toList with
  |[c]=>match bo P c.chan,rW P c.send,oT P c.elem with
   |some ch,some s,some z=>some (o.dst,ch,s,z)
   |_,_,_=>none
  |_=>none
 |_,_=>none
def LC:Nat->List Oper->Bool
 |_,[]=>true
 |i,o::os=>(o.after.all fun e=>!Region.binds .any e||Nat.blt e.on i)&&LC (i+1) os
def Yi9(ops:Array Oper):Bool:=LC 0 ops.toList&&bU SH (ops.toList.map (qF P ops)) (uP ops.toList [])
def iS:Code->cF
 |.skip=>.skip
 |.region _ ops false=>match ops.toList with
  |[]=>.reg []
  |o::rest=>match SC P o with
   |some (d,ch,s,z)=>.xy d ch s z (rest.map (qF P ops))
   |none=>.reg ((o::rest).map (qF P ops))
 |.region _ ops true=>if Yi9 P ops then .fT (ops.toList.map (qF P ops)) (uP ops.toList []) else .stop
 |.seq a b=>.seq (iS a) (iS b)
 |.cond c a b=>match bo P c with
  |some c=>.cond c (iS a) (iS b)
  |none=>.stop
 |.block id c=>.block id (iS c)
 |.loop c=>.loop (iS c)
 |.rangeFunc g ps assign body=>match bo P g with
  |some g=>.qK g ps.toList (iS assign) (iS body)
  |none=>.stop
 |.exit id=>.exit id
 |.scope c=>.scope (iS c)
 |.label _=>.skip
 |.goto _=>.stop
 |.ret=>.ret
 |.refuse _=>.stop
def Dw:List ResultVar->Option (List IC)
 |[]=>some []
 |.tmp t::rest=>(Dw rest).map (.tmp t::·)
 |.cell t ty::rest=>match xx P ty,Dw rest with
  |some n,some l=>some (.cell t n::l)
  |_,_=>none
def xV(f:FuncId):Option lC:=
 match P.funcs[f]? with
 |some fn=>match fn.body,Dw P fn.results.toList with
  |some c,some rs=>some {ntmps:=fn.ntmps,results:=rs,body:=iS P c}
  |_,_=>none
 |none=>none
end
open Go
structure L where
 b:Nat
 d:Nat
 qM:Nat
abbrev Mu:=Nat->Option L
mutual
def VR(μ:Mu):V->Value->Prop
 |.bool b,x=>x=.bool b
 |.int k n,x=>x=.int k n
 |.kg k n,x=>x=.float k n
 |.rO k a b,x=>x=.complex k a b
 |.str s,x=>x=.string ⟨s.toArray⟩
 |.zgi,x=>x=.pointer none
 |.ptr i o,x=>∃l,μ i=some l/\x=.pointer (some ⟨l.b,l.d+o,none⟩)
 |.aa,x=>x=.slice none 0 0
 |.slice i o len cap sz,x=>∃l c,μ i=some l/\x=.slice (some ⟨l.b,l.d+o,none⟩) len c/\len<=c/\o+c*sz<=l.qM/\
   (∀k,cap=some k->c=k)/\(cap=none->o+c*sz=l.qM)
 |.empty,x=>∃a c,x=.slice (some a) 0 c
 |.bV,x=>x=.map none
 |.map i,x=>∃l,μ i=some l/\x=.map (some l.b)
 |.bX,x=>x=.chan none
 |.chan i,x=>∃l,μ i=some l/\x=.chan (some l.b)
 |.func f a c,x=>∃a' c',x=.func (.func f) ⟨a'⟩ ⟨c'⟩/\aW μ a a'/\aW μ c c'
 |.yield i,x=>∃l,μ i=some l/\x=.func (.yield l.b) #[] #[]
 |.bY,x=>x=.nilFunc
 |.iface t v,x=>∃y,x=.iface t y/\VR μ v y
 |.aX,x=>x=.nilIface
 |.agg vs,x=>∃a,x=.agg ⟨a⟩/\aW μ vs a
 |.aS vs,x=>∃a,x=.tuple ⟨a⟩/\aW μ vs a
def aW(μ:Mu):List V->List Value->Prop
 |[],xs=>xs=[]
 |v::vs,xs=>∃y ys,xs=y::ys/\VR μ v y/\aW μ vs ys
end
mutual
def VR.mono{μ μ':Mu}(h:∀i l,μ i=some l->μ' i=some l):∀(v:V) (x:Value),VR μ v x->VR μ' v x
 |.bool _,_,hx=>by simpa[VR]using hx
 |.int _ _,_,hx=>by simpa[VR]using hx
 |.kg _ _,_,hx=>by simpa[VR]using hx
 |.rO _ _ _,_,hx=>by simpa[VR]using hx
 |.str _,_,hx=>by simpa[VR]using hx
 |.zgi,_,hx=>by simpa[VR]using hx
 |.ptr _ _,_,hx=>by simp only[VR]at*;obtain⟨l,h1,h2⟩:=hx;exact⟨l,h _ _ h1,h2⟩
 |.aa,_,hx=>by simpa[VR]using hx
 |.slice _ _ _ _ _,_,hx=>by simp only[VR]at*;obtain⟨l,c,h1,h2⟩:=hx;exact⟨l,c,h _ _ h1,h2⟩
 |.empty,_,hx=>by simpa[VR]using hx
 |.bV,_,hx=>by simpa[VR]using hx
 |.map _,_,hx=>by simp only[VR]at*;obtain⟨l,h1,h2⟩:=hx;exact⟨l,h _ _ h1,h2⟩
 |.bX,_,hx=>by simpa[VR]using hx
 |.chan _,_,hx=>by simp only[VR]at*;obtain⟨l,h1,h2⟩:=hx;exact⟨l,h _ _ h1,h2⟩
 |.func _ a c,_,hx=>by
  simp only[VR]at*;obtain⟨a',c',h1,h2,h3⟩:=hx
  exact⟨a',c',h1,aW.mono h a a' h2,aW.mono h c c' h3⟩
 |.yield _,_,hx=>by simp only[VR]at*;obtain⟨l,h1,h2⟩:=hx;exact⟨l,h _ _ h1,h2⟩
 |.bY,_,hx=>by simpa[VR]using hx
 |.iface _ v,_,hx=>by simp only[VR]at*;obtain⟨y,h1,h2⟩:=hx;exact⟨y,h1,VR.mono h v y h2⟩
 |.aX,_,hx=>by simpa[VR]using hx
 |.agg vs,_,hx=>by simp only[VR]at*;obtain⟨a,h1,h2⟩:=hx;exact⟨a,h1,aW.mono h vs a h2⟩
 |.aS vs,_,hx=>by simp only[VR]at*;obtain⟨a,h1,h2⟩:=hx;exact⟨a,h1,aW.mono h vs a h2⟩
def aW.mono{μ μ':Mu}(h:∀i l,μ i=some l->μ' i=some l):∀(vs:List V) (xs:List Value),aW μ vs xs->aW μ' vs xs
 |[],_,hx=>by simpa[aW]using hx
 |v::vs,_,hx=>by
  simp only[aW]at*
  obtain⟨y,ys,h1,h2,h3⟩:=hx
  exact⟨y,ys,h1,VR.mono h v y h2,aW.mono h vs ys h3⟩
end
section
variable {μ:Mu}
def fX{v:V}{vs:List V}{xs:List Value}:aW μ (v::vs) xs↔∃y ys,xs=y::ys/\VR μ v y/\aW μ vs ys:=by simp[aW]
def aW.length:∀{vs:List V} {xs:List Value},aW μ vs xs->xs.length=vs.length
 |[],_,h=>by simp[aW]at h;simp[h]
 |v::vs,_,h=>by
  obtain⟨y,ys,rfl,_,h3⟩:=fX.1 h
  simp[aW.length h3]
def aW.get:∀{vs:List V} {xs:List Value},aW μ vs xs->∀{i:Nat} {v:V},vs[i]?=some v->∃x,xs[i]?=some x/\VR μ v x
 |[],_,_,i,v,hv=>by simp at hv
 |w::vs,_,h,i,v,hv=>by
  obtain⟨y,ys,rfl,h2,h3⟩:=fX.1 h
  cases i with
  |zero=>simp at hv;subst hv;exact⟨y,by simp,h2⟩
  |succ i=>simpa using aW.get h3 (i:=i) (by simpa using hv)
def aW.append:∀{vs ws:List V} {xs ys:List Value},aW μ vs xs->aW μ ws ys->aW μ (vs++ws) (xs++ys)
 |[],ws,_,ys,h,h'=>by simp[aW]at h;simpa[h]using h'
 |v::vs,ws,_,ys,h,h'=>by
  obtain⟨y,zs,rfl,h2,h3⟩:=fX.1 h
  exact fX.2 ⟨y,zs++ys,rfl,h2,aW.append h3 h'⟩
def aW.take:∀{vs:List V} {xs:List Value} (n:Nat),aW μ vs xs->aW μ (vs.take n) (xs.take n)
 |[],_,n,h=>by simp[aW]at h;simp[h,aW]
 |v::vs,_,n,h=>by
  obtain⟨y,zs,rfl,h2,h3⟩:=fX.1 h
  cases n with
  |zero=>simp[aW]
  |succ n=>exact fX.2 ⟨y,zs.take n,rfl,h2,aW.take n h3⟩
def aW.drop:∀{vs:List V} {xs:List Value} (n:Nat),aW μ vs xs->aW μ (vs.drop n) (xs.drop n)
 |[],_,n,h=>by simp[aW]at h;simp[h,aW]
 |v::vs,_,n,h=>by
  cases n with
  |zero=>simpa using h
  |succ n=>
   obtain⟨y,zs,rfl,h2,h3⟩:=fX.1 h
   simpa using aW.drop n h3
def aW.qN:∀{vs:List V} {xs:List Value},xs.length=vs.length->(∀(i:Nat) (v:V),vs[i]?=some v->∃x,xs[i]?=some x/\VR μ v x)->aW μ vs xs
 |[],xs,hl,_=>by simp at hl;simp[aW,hl]
 |v::vs,[],hl,_=>by simp at hl
 |v::vs,x::xs,hl,h=>by
  refine fX.2 ⟨x,xs,rfl,?_,aW.qN (by simpa using hl) fun i u hu=>?_⟩
  ·obtain⟨y,h1,h2⟩:=h 0 v (by simp)
   simp at h1;subst h1;exact h2
  ·simpa using h (i+1) u (by simpa using hu)
def VR.one{v:V}{x:Value}(h:VR μ v x)(hv:v.one=true):x.oneCell'=true:=by
 cases v<;>simp only[VR]at h<;>simp only[V.one,gV]at hv
 case bool=>subst h;rfl
 case int=>subst h;rfl
 case kg=>subst h;rfl
 case rO=>subst h;rfl
 case str=>subst h;rfl
 case zgi=>subst h;rfl
 case ptr=>obtain⟨l,_,rfl⟩:=h;rfl
 case aa=>subst h;rfl
 case slice=>obtain⟨l,c,_,rfl,_⟩:=h;rfl
 case empty=>obtain⟨a,c,rfl⟩:=h;rfl
 case bV=>subst h;rfl
 case map=>obtain⟨l,_,rfl⟩:=h;rfl
 case bX=>subst h;rfl
 case chan=>obtain⟨l,_,rfl⟩:=h;rfl
 case func=>obtain⟨a,c,rfl,_⟩:=h;rfl
 case yield=>obtain⟨l,_,rfl⟩:=h;rfl
 case bY=>subst h;rfl
 case iface=>obtain⟨y,rfl,_⟩:=h;rfl
 case aX=>subst h;rfl
def VR.cells{v:V}{x:Value}(h:VR μ v x):aW μ v.cells x.cells.toList:=by
 have one:∀y:Value,x=y->(y.cells=#[y])->v.cells=[v]->aW μ v.cells x.cells.toList:=fun y e hc hv=>by
  subst e;rw[hc,hv];exact fX.2 ⟨_,[],rfl,h,by simp[aW]⟩
 have h0:=h
 cases v<;>simp only[VR]at h
 case bool=>exact one _ h rfl rfl
 case int=>exact one _ h rfl rfl
 case kg=>exact one _ h rfl rfl
 case rO=>exact one _ h rfl rfl
 case str=>exact one _ h rfl rfl
 case zgi=>exact one _ h rfl rfl
 case ptr=>obtain⟨l,_,e⟩:=h;exact one _ e rfl rfl
 case aa=>exact one _ h rfl rfl
 case slice=>obtain⟨l,c,_,e,_⟩:=h;exact one _ e rfl rfl
 case empty=>obtain⟨a,c,e⟩:=h;exact one _ e rfl rfl
 case bV=>exact one _ h rfl rfl
 case map=>obtain⟨l,_,e⟩:=h;exact one _ e rfl rfl
 case bX=>exact one _ h rfl rfl
 case chan=>obtain⟨l,_,e⟩:=h;exact one _ e rfl rfl
 case func=>obtain⟨a,c,e,_⟩:=h;exact one _ e rfl rfl
 case yield=>obtain⟨l,_,e⟩:=h;exact one _ e rfl rfl
 case bY=>exact one _ h rfl rfl
 case iface=>obtain⟨y,e,_⟩:=h;exact one _ e rfl rfl
 case aX=>exact one _ h rfl rfl
 case agg vs=>obtain⟨a,rfl,h⟩:=h;exact h
 case aS vs=>obtain⟨a,e,_⟩:=h;exact one _ e rfl rfl
end
def RR(μ:Mu)(r:T V)(n:Nat)(tmps:Array Value):Prop:=
 tmps.size=n/\∀t v,r.get t=some v->∃x,tmps[t]?=some x/\VR μ v x
def RR.mono{μ μ':Mu}{r:T V}{n:Nat}{tmps:Array Value}(h:∀i l,μ i=some l->μ' i=some l)(hr:RR μ r n tmps):RR μ' r n tmps:=
 ⟨hr.1,fun t v hv=>let ⟨x,h1,h2⟩:=hr.2 t v hv;⟨x,h1,VR.mono h v x h2⟩⟩
def RR.set{μ:Mu}{r:T V}{n:Nat}{tmps:Array Value}(hr:RR μ r n tmps){d:Nat}(hd:d<n){v:V}{x:Value}(hv:VR μ v x):
  RR μ (r.set d v) n (tmps.setIfInBounds d x):=by
 refine⟨by simp[hr.1],fun t u hu=>?_⟩
 rw[T.aj]at hu
 by_cases e:t=d
 ·subst e
  simp at hu;subst hu
  exact⟨x,by simp[hr.1,hd],hv⟩
 ·simp[e]at hu
  obtain⟨y,h1,h2⟩:=hr.2 t u hu
  exact⟨y,by rw[LD (Ne.symm e)];exact h1,h2⟩
def zo:Ex->Option Code
 |.normal=>none
 |.exit id=>some (.exit id)
 |.ret=>some .ret
def iV(μ:Mu):List (V×V)->List MapEntry->Nat->Prop
 |[],xs,_=>xs=[]
 |(k,v)::es,xs,i=>∃e ys,xs=e::ys/\VR μ k e.key/\VR μ v e.val/\e.born=i/\iV μ es ys (i+1)
def iV.mono{μ μ':Mu}(h:∀i l,μ i=some l->μ' i=some l):∀(es:List (V×V)) (xs:List MapEntry) (i:Nat),iV μ es xs i->iV μ' es xs i
 |[],_,_,hx=>hx
 |(k,v)::es,_,i,hx=>by
  obtain⟨e,ys,h1,h2,h3,h4,h5⟩:=hx
  exact⟨e,ys,h1,VR.mono h k _ h2,VR.mono h v _ h3,h4,iV.mono h es ys (i+1) h5⟩
def OM(P:Program)(μ:Mu)(w:World):O->L->Prop
 |.cells c e rw,l=>∃(c':Array Value) (lo hi:Nat),w.heap[l.b]?=some (.cells c' e (lo,hi))/\l.d+l.qM<=c'.size/\c.length<=l.qM/\
   (∀(j:Nat) (v:V),c[j]?=some v->∃x,c'[l.d+j]?=some x/\VR μ v x)/\(∀(j:Nat) (x:Value),j<l.qM->c'[l.d+j]?=some x->x.oneCell'=true)/\(rw=true->l.d=0/\∀j,j<l.qM->¬(lo<=l.d+j/\l.d+j<hi))
 |.map es,l=>∃es':List MapEntry,w.heap[l.b]?=some (.map ⟨es'⟩ es'.length)/\iV μ es es' 0
 |.chan cap buf,l=>∃(qO:List Value) (s r:Nat),w.heap[l.b]?=some (.chan cap ⟨qO⟩ false s r false)/\aW μ buf qO
 |.eP s pos,l=>w.heap[l.b]?=some (.stringIter ⟨s.toArray⟩ pos)/\l.d=0
 |.loop R,l=>∃fn tmps fU fV ld,w.heap[l.b]?=some (.loop {state:=R.st,pending:=R.iU.bind zo,fn:=fn,tmps:=tmps,params:=⟨R.ps⟩,assign:=fU,body:=fV,defers:=ld.b})/\
   RR μ R.r R.n tmps/\iS P fU=R.assign/\iS P fV=R.body/\μ R.defs=some ld
 |.defs o,l=>w.heap[l.b]?=some (.deferred (if o then some [] else none))
 |.dead,_=>True
def OM.mono{P:Program}{μ μ':Mu}{w:World}(h:∀i l,μ i=some l->μ' i=some l){o:O}{l:L}(ho:OM P μ w o l):OM P μ' w o l:=by
 cases o with
 |cells c e rw=>
  obtain⟨c',lo,hi,h1,h2,h3,h4,h5⟩:=ho
  exact⟨c',lo,hi,h1,h2,h3,fun j v hv=>let ⟨x,a,b⟩:=h4 j v hv;⟨x,a,VR.mono h v x b⟩,h5⟩
 |map es=>obtain⟨es',h1,h2⟩:=ho;exact⟨es',h1,iV.mono h _ _ _ h2⟩
 |chan cap buf=>obtain⟨b',s,r,h1,h2⟩:=ho;exact⟨b',s,r,h1,aW.mono h _ _ h2⟩
 |eP s pos=>simp only[OM]at*;exact ho
 |loop R=>obtain⟨fn,tmps,fU,fV,ld,h1,h2,h3,h4,h5⟩:=ho;exact⟨fn,tmps,fU,fV,ld,h1,h2.mono h,h3,h4,h _ _ h5⟩
 |defs b=>simp only[OM]at*;exact ho
 |dead=>trivial
def OM.congr{P:Program}{μ:Mu}{w w':World}{o:O}{l:L}(hb:w'.heap[l.b]?=w.heap[l.b]?)(ho:OM P μ w o l):OM P μ w' o l:=by
 cases o with
 |cells c e rw=>obtain⟨c',lo,hi,h1,h2⟩:=ho;exact⟨c',lo,hi,hb.trans h1,h2⟩
 |map es=>obtain⟨es',h1,h2⟩:=ho;exact⟨es',hb.trans h1,h2⟩
 |chan cap buf=>obtain⟨b',s,r,h1,h2⟩:=ho;exact⟨b',s,r,hb.trans h1,h2⟩
 |eP s pos=>exact⟨hb.trans ho.1,ho.2⟩
 |loop R=>obtain⟨fn,tmps,fU,fV,ld,h1,h2⟩:=ho;exact⟨fn,tmps,fU,fV,ld,hb.trans h1,h2⟩
 |defs b=>exact hb.trans ho
 |dead=>trivial
structure bk (P:Program) (μ:Mu) (w:World) (st:St):Prop where
 dc:∀i l,μ i=some l->i<st.n/\l.b<w.heap.size
 obj:∀i l,μ i=some l->∃o,st.h.get i=some o/\OM P μ w o l
 inj:∀i j l l' o o',μ i=some l->μ j=some l'->i≠j->st.h.get i=some o->st.h.get j=some o'->o.wr=true->o'.live=true->l.b≠l'.b
 ij:∀g,g<P.globals.size->∃t,μ g=some ⟨g,0,t⟩
structure Od (μ:Mu) (ws:List Nat) (w w':World):Prop where
 os:w'.os=w.os
 tape:w'.tape=w.tape
 output:w'.output=w.output
 size:w.heap.size<=w'.heap.size
 block:∀b,b<w.heap.size->(∀i∈ws,∀l,μ i=some l->l.b≠b)->w'.heap[b]?=w.heap[b]?
structure bD (P:Program) (μ:Mu) (w:World) (st:St) (μ':Mu) (w':World) (aB:St) (ws:List Nat):Prop where
 hr:bk P μ' w' aB
 ext:∀i,i<st.n->μ' i=μ i
 iT:st.n<=aB.n
 wl:aB.w=ws++st.w
 eC:Od μ ws w w'
 new:∀i l,st.n<=i->μ' i=some l->w.heap.size<=l.b\/∃j∈ws,j<st.n/\∃lj oj,μ j=some lj/\lj.b=l.b/\st.h.get j=some oj/\oj.wr=true
 ah:∀i,i<st.n->i∉ws->aB.h.get i=st.h.get i
 grow:∀i o',i<st.n->aB.h.get i=some o'->∃o,st.h.get i=some o/\(o'.wr=true->o.wr=true)/\(o'.live=true->o.live=true)
 full:∀i,st.n<=i->i<aB.n->∃l,μ' i=some l
 yk:∀i∈ws,i<st.n->∃o,st.h.get i=some o/\o.wr=true
def bk.IQ{P:Program}{μ μ':Mu}{w:World}{st:St}(h:bk P μ w st)(he:∀i,i<st.n->μ' i=μ i):∀i l,μ i=some l->μ' i=some l:=
 fun i l hi=>(he i (h.dc i l hi).1).trans hi
def Od.refl(μ:Mu)(ws:List Nat)(w:World):Od μ ws w w:=⟨rfl,rfl,rfl,aZ _,fun _ _ _=>rfl⟩
def bD.refl{P:Program}{μ:Mu}{w:World}{st:St}(h:bk P μ w st):bD P μ w st μ w st []:=
 ⟨h,fun _ _=>rfl,aZ _,rfl,Od.refl μ [] w,fun i l hi hl=>absurd (h.dc i l hl).1 (by omega),fun _ _ _=>rfl,fun _ o' _ ho=>⟨o',ho,id,id⟩,fun _ h1 h2=>absurd h2 (by omega),fun _ hi=>absurd hi (by simp)⟩
def bD.trans{P:Program}{μ μ1 μ2:Mu}{w w1 w2:World}{st cr fi:St}{ws NU:List Nat}
  (h1:bD P μ w st μ1 w1 cr ws) (h2:bD P μ1 w1 cr μ2 w2 fi NU):bD P μ w st μ2 w2 fi (NU++ws) where
 hr:=h2.hr
 ext:=fun i hi=>(h2.ext i (h_ hi h1.iT)).trans (h1.ext i hi)
 iT:=sF h1.iT h2.iT
 wl:=by rw[h2.wl,h1.wl,sQ]
 eC:=by
  refine⟨h2.eC.os.trans h1.eC.os,h2.eC.tape.trans h1.eC.tape,h2.eC.output.trans h1.eC.output,sF h1.eC.size h2.eC.size,fun b hb dH=>?_⟩
  rw[h2.eC.block b (h_ hb h1.eC.size) fun i hi l hl=>?_,h1.eC.block b hb fun i hi l hl=>dH i (by simp[hi]) l hl]
  by_cases DE:i<st.n
  ·exact dH i (by simp[hi]) l (by rw[<-h1.ext i DE];exact hl)
  ·rcases h1.new i l (by omega) hl with h|⟨j,hj,_,lj,oj,tS,tU,_⟩
   ·omega
   ·rw[<-tU];exact dH j (by simp[hj]) lj tS
 new:=fun i l hi hl=>by
  by_cases DE:i<cr.n
  ·rcases h1.new i l hi (by rw[<-h2.ext i DE];exact hl)with h|⟨j,hj,r⟩
   ·exact .inl h
   ·exact .inr ⟨j,by simp[hj],r⟩
  ·rcases h2.new i l (by omega) hl with h|⟨j,hj,IE,lj,oj,tS,tU,IS,how⟩
   ·exact .inl (sF h1.eC.size h)
   ·by_cases hjn':j<st.n
    ·obtain⟨o,ho,hw,_⟩:=h1.grow j oj hjn' IS
     exact .inr ⟨j,by simp[hj],hjn',lj,o,by rw[<-h1.ext j hjn'];exact tS,tU,ho,hw how⟩
    ·rcases h1.new j lj (by omega) tS with h|⟨j',Oe,r⟩
     ·exact .inl (by omega)
     ·obtain⟨r1,lj',oj',r2,r3,r4⟩:=r
      exact .inr ⟨j',by simp[Oe],r1,lj',oj',r2,r3.trans tU,r4⟩
 ah:=fun i hi dH=>by
  simp only[l7,not_or]at dH
  rw[h2.ah i (h_ hi h1.iT) dH.1,h1.ah i hi dH.2]
 grow:=fun i o' hi ho=>by
  obtain⟨o1,A1,a1,b1⟩:=h2.grow i o' (h_ hi h1.iT) ho
  obtain⟨o,ho,a,b⟩:=h1.grow i o1 hi A1
  exact⟨o,ho,a∘a1,b∘b1⟩
 full:=fun i iW l_=>by
  by_cases hi:i<cr.n
  ·obtain⟨l,hl⟩:=h1.full i iW hi
   exact⟨l,(h2.ext i hi).trans hl⟩
  ·exact h2.full i (by omega) l_
 yk:=fun i hi hn=>by
  simp only[l7]at hi
  rcases hi with hi|hi
  ·obtain⟨o1,A1,SI⟩:=h2.yk i hi (h_ hn h1.iT)
   obtain⟨o,ho,a,_⟩:=h1.grow i o1 hn A1
   exact⟨o,ho,a SI⟩
  ·exact h1.yk i hi hn
def bk.drew{P:Program}{μ:Mu}{w:World}{st:St}(h:bk P μ w st)(n:Nat):bk P μ {w with drawn:=n} st:=
 ⟨h.dc,fun i l hl=>let ⟨o,h1,h2⟩:=h.obj i l hl;⟨o,h1,OM.congr (w:=w) rfl h2⟩,h.inj,h.ij⟩
def bD.alloc{P:Program}{μ:Mu}{w:World}{st:St}(h:bk P μ w st)(o:O)(ob:Obj)(d qM:Nat)
  (ho:OM P (fun i=>if i=st.n then some ⟨w.heap.size,d,qM⟩ else μ i) {w with heap:=w.heap.push ob} o ⟨w.heap.size,d,qM⟩):
  bD P μ w st (fun i=>if i=st.n then some ⟨w.heap.size,d,qM⟩ else μ i) {w with heap:=w.heap.push ob} (st.alloc o) []:=by
 have dJ:∀i l,μ i=some l->(fun i=>if i=st.n then some (⟨w.heap.size,d,qM⟩:L) else μ i) i=some l:=fun i l hl=>by
  have:=(h.dc i l hl).1
  simp only
  rw[aA (by omega)];exact hl
 have hold:∀b,b<w.heap.size->({w with heap:=w.heap.push ob}:World).heap[b]?=w.heap[b]?:=fun b hb=>by
  show (w.heap.push ob)[b]?=_
  rw[Array.getElem?_push,aA (by omega)]
 refine⟨⟨fun i l hl=>?_,fun i l hl=>?_,fun i j l l' oi oj hi hj bF A1 xz hw qP=>?_,fun g hg=>let ⟨t,ht⟩:=h.ij g hg;⟨t,dJ g _ ht⟩⟩,fun i hi=>?_,by simp[St.alloc],rfl,⟨rfl,rfl,rfl,by simp,fun b hb _=>hold b hb⟩,
  fun i l hi hl=>?_,fun i hi _=>?_,fun i o' hi wA=>?_,fun i h1 h2=>⟨⟨w.heap.size,d,qM⟩,by simp only[St.alloc]at h2;show (if i=st.n then some (⟨w.heap.size,d,qM⟩:L) else μ i)=_;rw[aQ (by omega)]⟩,fun _ hi=>absurd hi (by simp)⟩
 ·by_cases e:i=st.n
  ·simp only[e,if_true,au]at hl;subst hl;simp[St.alloc,e]
  ·simp only[e,if_false]at hl
   have:=h.dc i l hl
   simp[St.alloc];omega
 ·by_cases e:i=st.n
  ·simp only[e,if_true,au]at hl;subst hl
   exact⟨o,by simp[St.alloc,T.aj,e],ho⟩
  ·simp only[e,if_false]at hl
   obtain⟨o1,h1,h2⟩:=h.obj i l hl
   exact⟨o1,by simp[St.alloc,T.aj,e,h1],(h2.mono dJ).congr (hold l.b (h.dc i l hl).2)⟩
 ·by_cases e:i=st.n
  ·by_cases e':j=st.n
   ·exact absurd (e.trans e'.symm) bF
   ·simp only[e,if_true,au]at hi;simp only[e',if_false]at hj;subst hi
    have:=(h.dc j l' hj).2
    simp only;omega
  ·simp only[e,if_false]at hi
   by_cases e':j=st.n
   ·simp only[e',if_true,au]at hj;subst hj
    have:=(h.dc i l hi).2
    simp only;omega
   ·simp only[e',if_false]at hj
    simp only[St.alloc,T.aj,e,e',if_false]at A1 xz
    exact h.inj i j l l' oi oj hi hj bF A1 xz hw qP
 ·rw[aA (by omega)]
 ·by_cases e:i=st.n
  ·simp only[e,if_true,au]at hl;subst hl;exact .inl (aZ _)
  ·simp only[e,if_false]at hl
   exact absurd (h.dc i l hl).1 (by omega)
 ·simp only[St.alloc,T.aj];rw[aA (by omega)]
 ·simp only[St.alloc,T.aj]at wA;rw[aA (by omega)]at wA
  exact⟨o',wA,id,id⟩
def bD.write{P:Program}{μ:Mu}{w w':World}{st:St}(h:bk P μ w st){i:Nat}{l:L}{o o':O}(hi:μ i=some l)(ho:st.h.get i=some o)(hw:o.wr=true)
  (zi:w'.os=w.os) (htp:w'.tape=w.tape) (hou:w'.output=w.output) (jJ:w'.heap.size=w.heap.size) (qQ:∀b,b≠l.b->w'.heap[b]?=w.heap[b]?) (wA:OM P μ w' o' l):
  bD P μ w st μ w' (st.write i o') [i]:=by
 have wB:o.live=true:=by cases o<;>simp_all [O.wr,O.live]
 refine⟨⟨fun j lj hj=>?_,fun j lj hj=>?_,fun j k lj lk oj ok hj hk bF h1 h2 LF fY=>?_,h.ij⟩,fun _ _=>rfl,aZ _,rfl,⟨zi,htp,hou,by omega,fun b _ dH=>qQ b ?_⟩,
  fun j lj hn hj=>?_,fun j _ dH=>?_,fun j oj hn hj=>?_,fun j h1 h2=>absurd h2 (by simp only[St.write];omega),fun j hj _=>by simp only[xZ]at hj;subst hj;exact⟨o,ho,hw⟩⟩
 ·have:=h.dc j lj hj
  simp[St.write];omega
 ·by_cases e:j=i
  ·subst e
   rw[hi]at hj;cases hj
   exact⟨o',by simp[St.write,T.aj],wA⟩
  ·obtain⟨oj,h1,h2⟩:=h.obj j lj hj
   refine⟨oj,by simp[St.write,T.aj,e,h1],?_⟩
   cases hl:oj.live
   ·cases oj<;>simp[O.live]at hl
    trivial
   ·exact h2.congr (qQ lj.b (Ne.symm (h.inj i j l lj o oj hi hj (Ne.symm e) ho h1 hw hl)))
 ·simp only[St.write,T.aj]at h1 h2
  by_cases e:j=i
  ·subst e
   rw[hi]at hj;cases hj
   rw[aA (Ne.symm bF)]at h2
   exact h.inj j k l lk o ok hi hk bF ho h2 hw fY
  ·rw[aA e]at h1
   by_cases e':k=i
   ·subst e'
    exact h.inj j k lj lk oj o hj hk bF h1 ho LF wB
   ·rw[aA e']at h2
    exact h.inj j k lj lk oj ok hj hk bF h1 h2 LF fY
 ·exact Ne.symm (dH i (by simp) l hi)
 ·exact absurd (h.dc j lj hj).1 (by omega)
 ·simp only[xZ]at dH
  simp[St.write,T.aj,dH]
 ·simp only[St.write,T.aj]at hj
  by_cases e:j=i
  ·subst e
   exact⟨o,ho,fun _=>hw,fun _=>wB⟩
  ·rw[aA e]at hj
   exact⟨oj,hj,id,id⟩
end Go.Mx
