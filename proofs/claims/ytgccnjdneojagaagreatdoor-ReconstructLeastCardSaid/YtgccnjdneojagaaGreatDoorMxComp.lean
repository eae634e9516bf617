/-Code of the Go model resolved for the ma-/
import Derived.Test.YtgccnjdneojagaaGreatDoorMxCore
import Derived.Laws.MakeOwn
import Derived.Laws.CopyRow
import Derived.Laws.Rows
import Derived.Laws.Append
import Derived.Laws.Externs
import Derived.Laws.StructEq
import Derived.RowKit
set_option linter.all false
namespace Go.Mx
mutual
def cV:Value->Option V
 |.bool b=>some (.bool b)
 |.int k n=>some (.int k n)
 |.float k n=>some (.xy k n)
 |.string s=>some (.str s.data.toList)
 |.pointer none=>some .bM
 |.slice none 0 0=>some .aa
 |.map none=>some .bV
 |.chan none=>some .bW
 |.nilFunc=>some .bY
 |.nilIface=>some .bb
 |.agg ⟨l⟩=>match LA l with
  |some l=>some (.agg l)
  |none=>none
 |.tuple ⟨l⟩=>match LA l with
  |some l=>some (.aX l)
  |none=>none
 |_=>none
def LA:List Value->Option (List V)
 |[]=>some []
 |v::vs=>match cV v,LA vs with
  |some v,some vs=>some (v::vs)
  |_,_=>none
end
section
variable (P:Program)
def bI:Operand->Option Src
 |.tmp t=>some (.tmp t)
 |.const v=>match cV v with
  |some v=>some (.const v)
  |none=>none
 |.global g=>if g<P.globals.size then some (.const (.ptr g 0)) else none
 |.func f=>some (.const (.func f [] []))
def xz:List Operand->Option (List Src)
 |[]=>some []
 |x::xs=>match bI P x,xz xs with
  |some x,some xs=>some (x::xs)
  |_,_=>none
def wF:Option Operand->Option (Option Src)
 |none=>some none
 |some x=>match bI P x with
  |some x=>some (some x)
  |none=>none
def fE(t:TypeId):Option Nat:=(P.info? t).map (·.size)
def Er(t:TypeId):Option Nat:=(P.info? t).map (·.bytes)
def Bt(t:TypeId):Option (Option Nat):=
 match P.underlying t with
 |some (.struct _)|some (.array _ _)=>match fE P t with
  |some n=>some (some n)
  |none=>none
 |some _=>some none
 |none=>none
def tm(t:TypeId):Option V:=
 match P.info? t with
 |some i=>match i.zero with
  |some v=>cV v
  |none=>none
 |none=>none
def TI:TypeDesc->Option PK
 |.bool=>some .bool
 |.int _=>some .int
 |.string=>some .str
 |.pointer _=>some .ptr
 |.slice _=>some .slice
 |.map _ _=>some .map
 |.func _ _ _=>some .func
 |.chan _ _=>some .chan
 |.interface _=>some .iface
 |_=>none
def LB(q:TypeId->Option uP):List Field->Option (List (Nat×Option Nat×uP))
 |[]=>some []
 |f::fs=>if f.name= "_" then LB q fs else
  match Bt P f.type,q f.type,LB q fs with
  |some a,some q,some l=>some ((f.offset,a,q)::l)
  |_,_,_=>none
def Ysn:TypeDesc->Bool
 |.pointer e=>(P.info? e).isSome
 |_=>true
def yU:Nat->TypeId->Option uP
 |0,_=>none
 |d+1,t=>
  match P.underlying t with
  |some (.struct fs)=>
   if P.stoodInHeld t then none else
   match LB P (yU d) fs.toList with
   |some l=>some (.node l)
   |none=>none
  |some q=>match TI q with
   |some k=>if Ysn P q=true then some (.fF k) else none
   |none=>none
  |none=>none
def Dc(place:Nat->Option (Nat×Nat)):List (Nat×Operand)->Option (List (Nat×Nat×Src))
 |[]=>some []
 |(i,x)::rest=>match place i,bI P x,Dc place rest with
  |some (o,s),some x,some l=>some ((o,s,x)::l)
  |_,_,_=>none
def Bu(t:TypeId):Option mZ:=
 match P.underlying t with
 |some (.int k)=>some (.int k)
 |some .string=>some .str
 |_=>none
def IP:Operand->Bool
 |.const _=>true
 |_=>false
def LC(fs:List Field):Option (List (Nat×Nat)):=
 match fs with
 |[]=>some []
 |f::fs=>match fE P f.type,LC fs with
  |some s,some l=>some ((f.offset,s)::l)
  |_,_=>none
def An(name:String):Option Ext:=
 if name= "math/bits.Add64" then some .pD
 else if name= "math/bits.Sub64" then some .pE
 else if name= "internal/abi.NoEscape" then some .same
 else if name= "internal/bytealg.IndexByteString" then some .cr
 else none
def Gc(c:Call):Option iz:=
 match c.callee with
 |.value f=>match xz P c.args.toList with
  |none=>none
  |some args=>match f with
   |.func g=>match P.funcs[g]? with
    |some fn=>if fn.body.isSome then some (.call (.const (.func g [] [])) args) else
     match An fn.name with
     |some e=>some (.ext e args)
     |none=>none
    |none=>none
   |f=>match bI P f with
    |some f=>some (.call f args)
    |none=>none
 |.invoke _ _=>none
 |.builtin b=>
  match b,c.argTypes.toList,c.args.toList with
  |.len,[t],[x]=>
   match P.underlying t,bI P x with
   |some .string,some x=>some (.len 0 x)
   |some (.slice _),some x=>some (.len 1 x)
   |some (.map _ _),some x=>some (.len 2 x)
   |_,_=>none
  |.cap,[t],[x]=>
   match P.underlying t,bI P x with
   |some (.slice _),some x=>some (.cap x)
   |_,_=>none
  |.min,_,_=>match xz P c.args.toList with
   |some l=>some (.mn l)
   |none=>none
  |.max,_,_=>match xz P c.args.toList with
   |some l=>some (.mx l)
   |none=>none
  |.append,[t,u],[s,x]=>
   match P.underlying t with
   |some (.slice e)=>match fE P e,Er P e,tm P e,bI P s,bI P x,P.underlying u with
    |some n,some b,some z,some s,some x,some d=>if (d matches .int _)\/b=0\/z.cells.length≠n\/z.cells.all V.one=false then none else some (.append n b e z.cells s x)
    |_,_,_,_,_,_=>none
   |_=>none
  |.copy,t::_,[d,s]=>
   match P.underlying t with
   |some (.slice e)=>match fE P e,bI P d,bI P s with
    |some n,some d,some s=>some (.copy n d s)
    |_,_,_=>none
   |_=>none
  |.unsafeSliceData,[_],[s]=>(bI P s).map .Bv
  |.unsafeString,[t,_],[x,n]=>
   match P.underlying t with
   |some (.pointer e)=>match fE P e,bI P x,bI P n with
    |some 1,some x,some n=>some (.IQ e x n)
    |_,_,_=>none
   |_=>none
  |_,_,_=>none
def LD:Op->Option iz
 |.move x|.assign x=>(bI P x).map .vD
 |.pick c a b=>match bI P c,bI P a,bI P b with
  |some c,some a,some b=>some (.pick c a b)
  |_,_,_=>none
 |.alloc e=>match tm P e with
  |some z=>if z.cells.all V.one then some (.alloc z.cells e) else none
  |none=>none
 |.box e x=>(bI P x).map (.box e)
 |.build t parts=>match tm P t with
  |none=>none
  |some z=>match P.underlying t with
   |some (.struct fs)=>match LC P fs.toList with
    |some pl=>(Dc P (pl[·]?) parts.toList).map (.build z.cells)
    |none=>none
   |some (.array _ e)=>match fE P e with
    |some s=>(Dc P (fun i=>some (i*s,s)) parts.toList).map (.build z.cells)
    |none=>none
   |_=>none
 |.buildSlice t len parts=>match P.underlying t with
  |some (.slice e)=>match fE P e,tm P e with
   |some s,some z=>if len*s > 2^24\/z.cells.length≠s\/s=0 then none else
    (Dc P (fun i=>some (i*s,s)) parts.toList).map (.mV e s len (cW z.cells len))
   |_,_=>none
  |_=>none
 |.load t a=>match Bt P t,bI P a with
  |some n,some a=>some (.load n a)
  |_,_=>none
 |.store t a x=>match fE P t,bI P a,bI P x with
  |some n,some a,some x=>some (.store n a x)
  |_,_,_=>none
 |.nilCheck x=>(bI P x).map .pU
 |.binOp op t x y _=>match bI P x,bI P y with
  |some a,some b=>
   match op with
   |.eql|.neq=>match yU P 40 t with
    |some q=>if (match P.underlying t with|some (.struct _)|some (.array _ _)=>P.eqGuardType P.depth t|_=>false) then none else some (.bin op q (IP x||IP y) a b)
    |none=>none
   |_=>some (.bin op (.node []) false a b)
  |_,_=>none
 |.unOp op _ x=>(bI P x).map (.un op)
 |.convert src dst x=>match bI P x with
  |none=>none
  |some a=>match P.underlying src,P.underlying dst with
   |some (.int _),some (.int k)=>some (.dE k a)
   |some .string,some (.slice e)=>match P.underlying e with
    |some (.int .u8)=>some (.lf e a)
    |_=>none
   |some (.slice e),some .string=>match P.underlying e with
    |some (.int .u8)=>some (.pV a)
    |_=>none
   |some (.pointer t),some .unsafePointer=>match fE P t with
    |some (_+1)=>some (.LF none a)
    |_=>none
   |some .unsafePointer,some (.pointer u)=>match fE P u with
    |some (z+1)=>some (.LF (some (u,z+1)) a)
    |_=>none
   |_,_=>none
 |.makeInterface t x=>match P.underlying t with
  |some (.interface _)=>none
  |some _=>(bI P x).map (.je t)
  |none=>none
 |.makeFunc (.func f) first iA=>match xz P first.toList,xz P iA.toList with
  |some a,some l=>some (.pW f a l)
  |_,_=>none
 |.makeMap _ none=>some .yV
 |.makeSlice t l c=>match P.underlying t with
  |some (.slice e)=>match fE P e,Er P e,tm P e,bI P l,bI P c with
   |some s,some b,some z,some l,some c=>if z.cells.all V.one then some (.lh e s b z.cells l c) else none
   |_,_,_,_,_=>none
  |_=>none
 |.slice t x lo hi mx=>match bI P x,wF P lo,wF P hi,wF P mx with
  |some x,some lo,some hi,some mx=>match P.underlying t with
   |some .string=>if mx.isSome then none else some (.cG x lo hi)
   |some (.slice e)=>(fE P e).map fun s=>.oH s x lo hi mx
   |some (.array n e)=>(fE P e).map fun s=>.lA n s x lo hi mx
   |_=>none
  |_,_,_,_=>none
 |.fieldAddr t x i=>match P.underlying t,bI P x with
  |some (.struct fs),some x=>match fs[i]? with
   |some f=>match fE P f.type with
    |some (_+1)=>some (.vE f.offset x)
    |_=>none
   |none=>none
  |_,_=>none
 |.indexAddr t x i=>match P.underlying t,bI P x,bI P i with
  |some (.array n e),some x,some i=>(fE P e).map fun s=>.iP n s x i
  |some (.slice e),some x,some i=>(fE P e).map fun s=>.jf s x i
  |_,_,_=>none
 |.index t x i=>match P.underlying t,bI P x,bI P i with
  |some .string,some x,some i=>some (.bN x i)
  |_,_,_=>none
 |.lookup t m k ok=>match P.underlying t,bI P m,bI P k with
  |some (.map kt e),some m,some k=>match Bu P kt,tm P e with
   |some kd,some z=>some (.lookup kd z m k ok)
   |_,_=>none
  |_,_,_=>none
 |.mapUpdate t m k v|.insert t m k v=>match P.underlying t,bI P m,bI P k,bI P v with
  |some (.map kt _),some m,some k,some v=>(Bu P kt).map fun kd=>.xA kd m k v
  |_,_,_,_=>none
 |.range t x=>match P.underlying t,bI P x with
  |some .string,some x=>some (.lE x)
  |_,_=>none
 |.next it true=>(bI P it).map .tn
 |.extract x i=>(bI P x).map fun x=>.extract x i
 |.call c=>Gc P c
 |_=>none
def Bw(o:Op):iz:=(LD P o).getD .stop
def IS(ops:Array Oper):Option (Nat×Bool)->Option (Option (Nat×Bool))
 |none=>some none
 |some (j,want)=>match (ops[j]?).bind (·.dst)with
  |some t=>some (some (t,want))
  |none=>none
def tr(ops:Array Oper)(o:Oper):dP:=
 match IS ops o.guard with
 |some g=>{dst:=o.dst,op:=Bw P o.op,guard:=g}
 |none=>{dst:=o.dst,op:=.stop,guard:=none}
def Oo(o:Oper)(ms:List Nat):Nat:=
 o.after.foldl (fun s e=>if Region.binds .any e then s|||2^e.on|||ms.getD e.on 0 else s) 0
def xB:List Oper->List Nat->List Nat
 |[],acc=>acc
 |o::rest,acc=>xB rest (acc++[Oo o acc])
def Xbg(_:Program)(o:Oper):Option (Option Nat×Src×Option Src×V):=none
def LG:Nat->List Oper->Bool
 |_,[]=>true
 |i,o::os=>(o.after.all fun e=>!Region.binds .any e||Nat.blt e.on i)&&LG (i+1) os
def Ysc(ops:Array Oper):Bool:=LG 0 ops.toList&&dv TJ (ops.toList.map (tr P ops)) (xB ops.toList [])
def jC:Code->cF
 |.skip=>.skip
 |.region _ ops false=>match ops.toList with
  |[]=>.gw []
  |o::rest=>match Xbg P o with
   |some (d,ch,s,z)=>.zW d ch s z (rest.map (tr P ops))
   |none=>.gw ((o::rest).map (tr P ops))
 |.region _ ops true=>if Ysc P ops then .gK (ops.toList.map (tr P ops)) (xB ops.toList []) else .stop
 |.seq a b=>.seq (jC a) (jC b)
 |.cond c a b=>match bI P c with
  |some c=>.cond c (jC a) (jC b)
  |none=>.stop
 |.block id c=>.block id (jC c)
 |.loop c=>.loop (jC c)
 |.rangeFunc g ps assign body=>match bI P g with
  |some g=>.jY g ps.toList (jC assign) (jC body)
  |none=>.stop
 |.exit id=>.exit id
 |.scope c=>.scope (jC c)
 |.label _=>.skip
 |.goto _=>.stop
 |.ret=>.ret
 |.refuse _=>.stop
def Gd:List ResultVar->Option (List F3)
 |[]=>some []
 |.tmp t::rest=>(Gd rest).map (.tmp t::·)
 |.cell t ty::rest=>match Bt P ty,Gd rest with
  |some n,some l=>some (.cell t n::l)
  |_,_=>none
def Am(f:FuncId):Option nA:=
 match P.funcs[f]? with
 |some fn=>match fn.body,Gd P fn.results.toList with
  |some c,some rs=>some {ntmps:=fn.ntmps,results:=rs,body:=jC P c}
  |_,_=>none
 |none=>none
end
open Go
structure L where
 b:Nat
 d:Nat
 tu:Nat
abbrev Mu:=Nat->Option L
mutual
def VR(μ:Mu):V->Value->Prop
 |.bool b,x=>x=.bool b
 |.int k n,x=>x=.int k n
 |.xy k n,x=>x=.float k n
 |.str s,x=>x=.string ⟨s.toArray⟩
 |.bM,x=>x=.pointer none
 |.ptr i o,x=>∃l,μ i=some l/\x=.pointer (some ⟨l.b,l.d+o,none⟩)
 |.aa,x=>x=.slice none 0 0
 |.slice i o len cap sz,x=>∃l c,μ i=some l/\x=.slice (some ⟨l.b,l.d+o,none⟩) len c/\len<=c/\o+c*sz<=l.tu/\
   (∀k,cap=some k->c=k)/\(cap=none->o+c*sz=l.tu)
 |.empty,x=>∃a c,x=.slice (some a) 0 c
 |.bV,x=>x=.map none
 |.map i,x=>∃l,μ i=some l/\x=.map (some l.b)
 |.bW,x=>x=.chan none
 |.chan i,x=>∃l,μ i=some l/\x=.chan (some l.b)
 |.func f a c,x=>∃a' c',x=.func (.func f) ⟨a'⟩ ⟨c'⟩/\aY μ a a'/\aY μ c c'
 |.yield i,x=>∃l,μ i=some l/\x=.func (.yield l.b) #[] #[]
 |.bY,x=>x=.nilFunc
 |.iface t v,x=>∃y,x=.iface t y/\VR μ v y
 |.bb,x=>x=.nilIface
 |.agg vs,x=>∃a,x=.agg ⟨a⟩/\aY μ vs a
 |.aX vs,x=>∃a,x=.tuple ⟨a⟩/\aY μ vs a
def aY(μ:Mu):List V->List Value->Prop
 |[],xs=>xs=[]
 |v::vs,xs=>∃y ys,xs=y::ys/\VR μ v y/\aY μ vs ys
end
mutual
def VR.mono{μ μ':Mu}(h:∀i l,μ i=some l->μ' i=some l):∀(v:V) (x:Value),VR μ v x->VR μ' v x
 |.bool _,_,hx=>by simpa[VR]using hx
 |.int _ _,_,hx=>by simpa[VR]using hx
 |.xy _ _,_,hx=>by simpa[VR]using hx
 |.str _,_,hx=>by simpa[VR]using hx
 |.bM,_,hx=>by simpa[VR]using hx
 |.ptr _ _,_,hx=>by simp only[VR]at*;obtain⟨l,h1,h2⟩:=hx;exact⟨l,h _ _ h1,h2⟩
 |.aa,_,hx=>by simpa[VR]using hx
 |.slice _ _ _ _ _,_,hx=>by simp only[VR]at*;obtain⟨l,c,h1,h2⟩:=hx;exact⟨l,c,h _ _ h1,h2⟩
 |.empty,_,hx=>by simpa[VR]using hx
 |.bV,_,hx=>by simpa[VR]using hx
 |.map _,_,hx=>by simp only[VR]at*;obtain⟨l,h1,h2⟩:=hx;exact⟨l,h _ _ h1,h2⟩
 |.bW,_,hx=>by simpa[VR]using hx
 |.chan _,_,hx=>by simp only[VR]at*;obtain⟨l,h1,h2⟩:=hx;exact⟨l,h _ _ h1,h2⟩
 |.func _ a c,_,hx=>by
  simp only[VR]at*;obtain⟨a',c',h1,h2,h3⟩:=hx
  exact⟨a',c',h1,aY.mono h a a' h2,aY.mono h c c' h3⟩
 |.yield _,_,hx=>by simp only[VR]at*;obtain⟨l,h1,h2⟩:=hx;exact⟨l,h _ _ h1,h2⟩
 |.bY,_,hx=>by simpa[VR]using hx
 |.iface _ v,_,hx=>by simp only[VR]at*;obtain⟨y,h1,h2⟩:=hx;exact⟨y,h1,VR.mono h v y h2⟩
 |.bb,_,hx=>by simpa[VR]using hx
 |.agg vs,_,hx=>by simp only[VR]at*;obtain⟨a,h1,h2⟩:=hx;exact⟨a,h1,aY.mono h vs a h2⟩
 |.aX vs,_,hx=>by simp only[VR]at*;obtain⟨a,h1,h2⟩:=hx;exact⟨a,h1,aY.mono h vs a h2⟩
def aY.mono{μ μ':Mu}(h:∀i l,μ i=some l->μ' i=some l):∀(vs:List V) (xs:List Value),aY μ vs xs->aY μ' vs xs
 |[],_,hx=>by simpa[aY]using hx
 |v::vs,_,hx=>by
  simp only[aY]at*
  obtain⟨y,ys,h1,h2,h3⟩:=hx
  exact⟨y,ys,h1,VR.mono h v y h2,aY.mono h vs ys h3⟩
end
section
variable {μ:Mu}
def kO{v:V}{vs:List V}{xs:List Value}:aY μ (v::vs) xs↔∃y ys,xs=y::ys/\VR μ v y/\aY μ vs ys:=by simp[aY]
def aY.length:∀{vs:List V} {xs:List Value},aY μ vs xs->xs.length=vs.length
 |[],_,h=>by simp[aY]at h;simp[h]
 |v::vs,_,h=>by
  obtain⟨y,ys,rfl,_,h3⟩:=kO.1 h
  simp[aY.length h3]
def aY.get:∀{vs:List V} {xs:List Value},aY μ vs xs->∀{i:Nat} {v:V},vs[i]?=some v->∃x,xs[i]?=some x/\VR μ v x
 |[],_,_,i,v,hv=>by simp at hv
 |w::vs,_,h,i,v,hv=>by
  obtain⟨y,ys,rfl,h2,h3⟩:=kO.1 h
  cases i with
  |zero=>simp at hv;subst hv;exact⟨y,by simp,h2⟩
  |succ i=>simpa using aY.get h3 (i:=i) (by simpa using hv)
def aY.append:∀{vs ws:List V} {xs ys:List Value},aY μ vs xs->aY μ ws ys->aY μ (vs++ws) (xs++ys)
 |[],ws,_,ys,h,h'=>by simp[aY]at h;simpa[h]using h'
 |v::vs,ws,_,ys,h,h'=>by
  obtain⟨y,zs,rfl,h2,h3⟩:=kO.1 h
  exact kO.2 ⟨y,zs++ys,rfl,h2,aY.append h3 h'⟩
def aY.take:∀{vs:List V} {xs:List Value} (n:Nat),aY μ vs xs->aY μ (vs.take n) (xs.take n)
 |[],_,n,h=>by simp[aY]at h;simp[h,aY]
 |v::vs,_,n,h=>by
  obtain⟨y,zs,rfl,h2,h3⟩:=kO.1 h
  cases n with
  |zero=>simp[aY]
  |succ n=>exact kO.2 ⟨y,zs.take n,rfl,h2,aY.take n h3⟩
def aY.drop:∀{vs:List V} {xs:List Value} (n:Nat),aY μ vs xs->aY μ (vs.drop n) (xs.drop n)
 |[],_,n,h=>by simp[aY]at h;simp[h,aY]
 |v::vs,_,n,h=>by
  cases n with
  |zero=>simpa using h
  |succ n=>
   obtain⟨y,zs,rfl,h2,h3⟩:=kO.1 h
   simpa using aY.drop n h3
def aY.tv:∀{vs:List V} {xs:List Value},xs.length=vs.length->(∀(i:Nat) (v:V),vs[i]?=some v->∃x,xs[i]?=some x/\VR μ v x)->aY μ vs xs
 |[],xs,hl,_=>by simp at hl;simp[aY,hl]
 |v::vs,[],hl,_=>by simp at hl
 |v::vs,x::xs,hl,h=>by
  refine kO.2 ⟨x,xs,rfl,?_,aY.tv (by simpa using hl) fun i u hu=>?_⟩
  ·obtain⟨y,h1,h2⟩:=h 0 v (by simp)
   simp at h1;subst h1;exact h2
  ·simpa using h (i+1) u (by simpa using hu)
def VR.one{v:V}{x:Value}(h:VR μ v x)(hv:v.one=true):x.oneCell'=true:=by
 cases v<;>simp only[VR]at h<;>simp only[V.one,ix]at hv;case bool=>subst h;rfl
 case int=>subst h;rfl
 case xy=>subst h;rfl
 case str=>subst h;rfl
 case bM=>subst h;rfl
 case ptr=>obtain⟨l,_,rfl⟩:=h;rfl
 case aa=>subst h;rfl
 case slice=>obtain⟨l,c,_,rfl,_⟩:=h;rfl
 case empty=>obtain⟨a,c,rfl⟩:=h;rfl
 case bV=>subst h;rfl
 case map=>obtain⟨l,_,rfl⟩:=h;rfl
 case bW=>subst h;rfl
 case chan=>obtain⟨l,_,rfl⟩:=h;rfl
 case func=>obtain⟨a,c,rfl,_⟩:=h;rfl
 case yield=>obtain⟨l,_,rfl⟩:=h;rfl
 case bY=>subst h;rfl
 case iface=>obtain⟨y,rfl,_⟩:=h;rfl
 case bb=>subst h;rfl
def VR.cells{v:V}{x:Value}(h:VR μ v x):aY μ v.cells x.cells.toList:=by
 have one:∀y:Value,x=y->(y.cells=#[y])->v.cells=[v]->aY μ v.cells x.cells.toList:=fun y e hc hv=>by subst e;rw[hc,hv];exact kO.2 ⟨_,[],rfl,h,by simp[aY]⟩
 have h0:=h;cases v<;>simp only[VR]at h;case bool=>exact one _ h rfl rfl
 case int=>exact one _ h rfl rfl
 case xy=>exact one _ h rfl rfl
 case str=>exact one _ h rfl rfl
 case bM=>exact one _ h rfl rfl
 case ptr=>obtain⟨l,_,e⟩:=h;exact one _ e rfl rfl
 case aa=>exact one _ h rfl rfl
 case slice=>obtain⟨l,c,_,e,_⟩:=h;exact one _ e rfl rfl
 case empty=>obtain⟨a,c,e⟩:=h;exact one _ e rfl rfl
 case bV=>exact one _ h rfl rfl
 case map=>obtain⟨l,_,e⟩:=h;exact one _ e rfl rfl
 case bW=>exact one _ h rfl rfl
 case chan=>obtain⟨l,_,e⟩:=h;exact one _ e rfl rfl
 case func=>obtain⟨a,c,e,_⟩:=h;exact one _ e rfl rfl
 case yield=>obtain⟨l,_,e⟩:=h;exact one _ e rfl rfl
 case bY=>exact one _ h rfl rfl
 case iface=>obtain⟨y,e,_⟩:=h;exact one _ e rfl rfl
 case bb=>exact one _ h rfl rfl
 case agg vs=>obtain⟨a,rfl,h⟩:=h;exact h
 case aX vs=>obtain⟨a,e,_⟩:=h;exact one _ e rfl rfl
end
def RR(μ:Mu)(r:T V)(n:Nat)(tmps:Array Value):Prop:=
 tmps.size=n/\∀t v,r.get t=some v->∃x,tmps[t]?=some x/\VR μ v x
def RR.mono{μ μ':Mu}{r:T V}{n:Nat}{tmps:Array Value}(h:∀i l,μ i=some l->μ' i=some l)(hr:RR μ r n tmps):RR μ' r n tmps:=
 ⟨hr.1,fun t v hv=>let ⟨x,h1,h2⟩:=hr.2 t v hv;⟨x,h1,VR.mono h v x h2⟩⟩
def RR.set{μ:Mu}{r:T V}{n:Nat}{tmps:Array Value}(hr:RR μ r n tmps){d:Nat}(hd:d<n){v:V}{x:Value}(hv:VR μ v x):
  RR μ (r.set d v) n (tmps.setIfInBounds d x):=by
 refine⟨by simp[hr.1],fun t u hu=>?_⟩;rw[T.ag]at hu;by_cases e:t=d
 ·subst e;simp at hu;subst hu;exact⟨x,by simp[hr.1,hd],hv⟩
 simp[e]at hu;obtain⟨y,h1,h2⟩:=hr.2 t u hu;exact⟨y,by rw[TK (Ne.symm e)];exact h1,h2⟩
def Bx:Ex->Option Code
 |.normal=>none
 |.exit id=>some (.exit id)
 |.ret=>some .ret
def jD(μ:Mu):List (V×V)->List MapEntry->Nat->Prop
 |[],xs,_=>xs=[]
 |(k,v)::es,xs,i=>∃e ys,xs=e::ys/\VR μ k e.key/\VR μ v e.val/\e.born=i/\jD μ es ys (i+1)
def jD.mono{μ μ':Mu}(h:∀i l,μ i=some l->μ' i=some l):∀(es:List (V×V)) (xs:List MapEntry) (i:Nat),jD μ es xs i->jD μ' es xs i
 |[],_,_,hx=>hx
 |(k,v)::es,_,i,hx=>by
  obtain⟨e,ys,h1,h2,h3,h4,h5⟩:=hx
  exact⟨e,ys,h1,VR.mono h k _ h2,VR.mono h v _ h3,h4,jD.mono h es ys (i+1) h5⟩
def OM(P:Program)(μ:Mu)(w:World):O->L->Prop
 |.cells c e rw,l=>∃(c':Array Value) (lo hi:Nat),w.heap[l.b]?=some (.cells c' e (lo,hi))/\l.d+l.tu<=c'.size/\c.length<=l.tu/\
   (∀(j:Nat) (v:V),c[j]?=some v->∃x,c'[l.d+j]?=some x/\VR μ v x)/\(∀(j:Nat) (x:Value),j<l.tu->c'[l.d+j]?=some x->x.oneCell'=true)/\(rw=true->l.d=0/\∀j,j<l.tu->¬(lo<=l.d+j/\l.d+j<hi))
 |.map es,l=>∃iQ:List MapEntry,w.heap[l.b]?=some (.map ⟨iQ⟩ iQ.length)/\jD μ es iQ 0
 |.chan cap buf,l=>∃(Es:List Value) (s r:Nat),w.heap[l.b]?=some (.chan cap ⟨Es⟩ false s r false)/\aY μ buf Es
 |.fe s pos,l=>w.heap[l.b]?=some (.stringIter ⟨s.toArray⟩ pos)/\l.d=0
 |.loop R,l=>∃fn tmps gO gS ld,w.heap[l.b]?=some (.loop {state:=R.st,pending:=R.fz.bind Bx,fn:=fn,tmps:=tmps,params:=⟨R.ps⟩,assign:=gO,body:=gS,defers:=ld.b})/\
   RR μ R.r R.n tmps/\jC P gO=R.assign/\jC P gS=R.body/\μ R.defs=some ld
 |.defs o,l=>w.heap[l.b]?=some (.deferred (if o then some [] else none))
 |.dead,_=>True
def OM.mono{P:Program}{μ μ':Mu}{w:World}(h:∀i l,μ i=some l->μ' i=some l){o:O}{l:L}(ho:OM P μ w o l):OM P μ' w o l:=by
 cases o with
 |cells c e rw=> obtain⟨c',lo,hi,h1,h2,h3,h4,h5⟩:=ho;exact⟨c',lo,hi,h1,h2,h3,fun j v hv=>let ⟨x,a,b⟩:=h4 j v hv;⟨x,a,VR.mono h v x b⟩,h5⟩
 |map es=>obtain⟨iQ,h1,h2⟩:=ho;exact⟨iQ,h1,jD.mono h _ _ _ h2⟩
 |chan cap buf=>obtain⟨b',s,r,h1,h2⟩:=ho;exact⟨b',s,r,h1,aY.mono h _ _ h2⟩
 |fe s pos=>simp only[OM]at*;exact ho
 |loop R=>obtain⟨fn,tmps,gO,gS,ld,h1,h2,h3,h4,h5⟩:=ho;exact⟨fn,tmps,gO,gS,ld,h1,h2.mono h,h3,h4,h _ _ h5⟩
 |defs b=>simp only[OM]at*;exact ho
 |dead=>trivial
def OM.congr{P:Program}{μ:Mu}{w w':World}{o:O}{l:L}(hb:w'.heap[l.b]?=w.heap[l.b]?)(ho:OM P μ w o l):OM P μ w' o l:=by
 cases o with
 |cells c e rw=>obtain⟨c',lo,hi,h1,h2⟩:=ho;exact⟨c',lo,hi,hb.trans h1,h2⟩
 |map es=>obtain⟨iQ,h1,h2⟩:=ho;exact⟨iQ,hb.trans h1,h2⟩
 |chan cap buf=>obtain⟨b',s,r,h1,h2⟩:=ho;exact⟨b',s,r,hb.trans h1,h2⟩
 |fe s pos=>exact⟨hb.trans ho.1,ho.2⟩
 |loop R=>obtain⟨fn,tmps,gO,gS,ld,h1,h2⟩:=ho;exact⟨fn,tmps,gO,gS,ld,hb.trans h1,h2⟩
 |defs b=>exact hb.trans ho
 |dead=>trivial
structure bp (P:Program) (μ:Mu) (w:World) (st:St):Prop where
 dq:∀i l,μ i=some l->i<st.n/\l.b<w.heap.size
 obj:∀i l,μ i=some l->∃o,st.h.get i=some o/\OM P μ w o l
 inj:∀i j l l' o o',μ i=some l->μ j=some l'->i≠j->st.h.get i=some o->st.h.get j=some o'->o.wr=true->o'.live=true->l.b≠l'.b
 iO:∀g,g<P.globals.size->∃t,μ g=some ⟨g,0,t⟩
structure Oq (μ:Mu) (ws:List Nat) (w w':World):Prop where
 os:w'.os=w.os
 tape:w'.tape=w.tape
 output:w'.output=w.output
 size:w.heap.size<=w'.heap.size
 block:∀b,b<w.heap.size->(∀i∈ws,∀l,μ i=some l->l.b≠b)->w'.heap[b]?=w.heap[b]?
structure bL (P:Program) (μ:Mu) (w:World) (st:St) (μ':Mu) (w':World) (aB:St) (ws:List Nat):Prop where
 hr:bp P μ' w' aB
 ext:∀i,i<st.n->μ' i=μ i
 ij:st.n<=aB.n
 wl:aB.w=ws++st.w
 eR:Oq μ ws w w'
 new:∀i l,st.n<=i->μ' i=some l->w.heap.size<=l.b\/∃j∈ws,j<st.n/\∃lj oj,μ j=some lj/\lj.b=l.b/\st.h.get j=some oj/\oj.wr=true
 ad:∀i,i<st.n->i∉ws->aB.h.get i=st.h.get i
 grow:∀i o',i<st.n->aB.h.get i=some o'->∃o,st.h.get i=some o/\(o'.wr=true->o.wr=true)/\(o'.live=true->o.live=true)
 full:∀i,st.n<=i->i<aB.n->∃l,μ' i=some l
 AF:∀i∈ws,i<st.n->∃o,st.h.get i=some o/\o.wr=true
def bp.IT{P:Program}{μ μ':Mu}{w:World}{st:St}(h:bp P μ w st)(he:∀i,i<st.n->μ' i=μ i):∀i l,μ i=some l->μ' i=some l:=
 fun i l hi=>(he i (h.dq i l hi).1).trans hi
def Oq.refl(μ:Mu)(ws:List Nat)(w:World):Oq μ ws w w:=⟨rfl,rfl,rfl,aM _,fun _ _ _=>rfl⟩
def bL.refl{P:Program}{μ:Mu}{w:World}{st:St}(h:bp P μ w st):bL P μ w st μ w st []:=
 ⟨h,fun _ _=>rfl,aM _,rfl,Oq.refl μ [] w,fun i l hi hl=>absurd (h.dq i l hl).1 (by omega),fun _ _ _=>rfl,fun _ o' _ ho=>⟨o',ho,id,id⟩,fun _ h1 h2=>absurd h2 (by omega),fun _ hi=>absurd hi (by simp)⟩
def bL.trans{P:Program}{μ μ1 μ2:Mu}{w w1 w2:World}{st b9 fi:St}{ws TL:List Nat}
  (h1:bL P μ w st μ1 w1 b9 ws) (h2:bL P μ1 w1 b9 μ2 w2 fi TL):bL P μ w st μ2 w2 fi (TL++ws) where
 hr:=h2.hr
 ext:=fun i hi=>(h2.ext i (fg hi h1.ij)).trans (h1.ext i hi)
 ij:=iZ h1.ij h2.ij
 wl:=by rw[h2.wl,h1.wl,uQ]
 eR:=by
  refine⟨h2.eR.os.trans h1.eR.os,h2.eR.tape.trans h1.eR.tape,h2.eR.output.trans h1.eR.output,iZ h1.eR.size h2.eR.size,fun b hb dV=>?_⟩
  rw[h2.eR.block b (fg hb h1.eR.size) fun i hi l hl=>?_,h1.eR.block b hb fun i hi l hl=>dV i (by simp[hi]) l hl]
  by_cases CW:i<st.n
  ·exact dV i (by simp[hi]) l (by rw[<-h1.ext i CW];exact hl)
  ·rcases h1.new i l (by omega) hl with h|⟨j,hj,_,lj,oj,wG,vi,_⟩
   ·omega
   ·rw[<-vi];exact dV j (by simp[hj]) lj wG
 new:=fun i l hi hl=>by
  by_cases CW:i<b9.n
  ·rcases h1.new i l hi (by rw[<-h2.ext i CW];exact hl)with h|⟨j,hj,r⟩
   ·exact .inl h
   ·exact .inr ⟨j,by simp[hj],r⟩
  ·rcases h2.new i l (by omega) hl with h|⟨j,hj,C3,lj,oj,wG,vi,IU,how⟩
   ·exact .inl (iZ h1.eR.size h)
   ·by_cases hjn':j<st.n
    ·obtain⟨o,ho,hw,_⟩:=h1.grow j oj hjn' IU
     exact .inr ⟨j,by simp[hj],hjn',lj,o,by rw[<-h1.ext j hjn'];exact wG,vi,ho,hw how⟩
    ·rcases h1.new j lj (by omega) wG with h|⟨j',Ot,r⟩
     ·exact .inl (by omega)
     ·obtain⟨r1,lj',oj',r2,r3,r4⟩:=r
      exact .inr ⟨j',by simp[Ot],r1,lj',oj',r2,r3.trans vi,r4⟩
 ad:=fun i hi dV=>by
  simp only[jn,not_or]at dV
  rw[h2.ad i (fg hi h1.ij) dV.1,h1.ad i hi dV.2]
 grow:=fun i o' hi ho=>by
  obtain⟨o1,Dd,a1,b1⟩:=h2.grow i o' (fg hi h1.ij) ho
  obtain⟨o,ho,a,b⟩:=h1.grow i o1 hi Dd
  exact⟨o,ho,a∘a1,b∘b1⟩
 full:=fun i g_ mW=>by
  by_cases hi:i<b9.n
  ·obtain⟨l,hl⟩:=h1.full i g_ hi
   exact⟨l,(h2.ext i hi).trans hl⟩
  ·exact h2.full i (by omega) mW
 AF:=fun i hi hn=>by
  simp only[jn]at hi
  rcases hi with hi|hi
  ·obtain⟨o1,Dd,Lf⟩:=h2.AF i hi (fg hn h1.ij)
   obtain⟨o,ho,a,_⟩:=h1.grow i o1 hn Dd
   exact⟨o,ho,a Lf⟩
  ·exact h1.AF i hi hn
def bp.drew{P:Program}{μ:Mu}{w:World}{st:St}(h:bp P μ w st)(n:Nat):bp P μ {w with drawn:=n} st:=
 ⟨h.dq,fun i l hl=>let ⟨o,h1,h2⟩:=h.obj i l hl;⟨o,h1,OM.congr (w:=w) rfl h2⟩,h.inj,h.iO⟩
def bL.alloc{P:Program}{μ:Mu}{w:World}{st:St}(h:bp P μ w st)(o:O)(ob:Obj)(d tu:Nat)
  (ho:OM P (fun i=>if i=st.n then some ⟨w.heap.size,d,tu⟩ else μ i) {w with heap:=w.heap.push ob} o ⟨w.heap.size,d,tu⟩):
  bL P μ w st (fun i=>if i=st.n then some ⟨w.heap.size,d,tu⟩ else μ i) {w with heap:=w.heap.push ob} (st.alloc o) []:=by
 have dT:∀i l,μ i=some l->(fun i=>if i=st.n then some (⟨w.heap.size,d,tu⟩:L) else μ i) i=some l:=fun i l hl=>by have:=(h.dq i l hl).1;simp only;rw[ak (by omega)];exact hl
 have hold:∀b,b<w.heap.size->({w with heap:=w.heap.push ob}:World).heap[b]?=w.heap[b]?:=fun b hb=>by show (w.heap.push ob)[b]?=_;rw[Array.getElem?_push,ak (by omega)]
 refine⟨⟨fun i l hl=>?_,fun i l hl=>?_,fun i j l l' oi oj hi hj aZ Dd zX hw rn=>?_,fun g hg=>let ⟨t,ht⟩:=h.iO g hg;⟨t,dT g _ ht⟩⟩,fun i hi=>?_,by simp[St.alloc],rfl,⟨rfl,rfl,rfl,by simp,fun b hb _=>hold b hb⟩,
  fun i l hi hl=>?_,fun i hi _=>?_,fun i o' hi yS=>?_,fun i h1 h2=>⟨⟨w.heap.size,d,tu⟩,by simp only[St.alloc]at h2;show (if i=st.n then some (⟨w.heap.size,d,tu⟩:L) else μ i)=_;rw[av (by omega)]⟩,fun _ hi=>absurd hi (by simp)⟩
 ·by_cases e:i=st.n
  ·simp only[e,if_true,au]at hl;subst hl;simp[St.alloc,e]
  simp only[e,if_false]at hl;have:=h.dq i l hl;simp[St.alloc];omega
 ·by_cases e:i=st.n
  ·simp only[e,if_true,au]at hl;subst hl;exact⟨o,by simp[St.alloc,T.ag,e],ho⟩
  simp only[e,if_false]at hl;obtain⟨o1,h1,h2⟩:=h.obj i l hl;exact⟨o1,by simp[St.alloc,T.ag,e,h1],(h2.mono dT).congr (hold l.b (h.dq i l hl).2)⟩
 ·by_cases e:i=st.n
  ·by_cases e':j=st.n
   ·exact absurd (e.trans e'.symm) aZ
   simp only[e,if_true,au]at hi;simp only[e',if_false]at hj;subst hi;have:=(h.dq j l' hj).2;simp only;omega
  simp only[e,if_false]at hi;by_cases e':j=st.n
  ·simp only[e',if_true,au]at hj;subst hj;have:=(h.dq i l hi).2;simp only;omega
  simp only[e',if_false]at hj;simp only[St.alloc,T.ag,e,e',if_false]at Dd zX;exact h.inj i j l l' oi oj hi hj aZ Dd zX hw rn
 ·rw[ak (by omega)]
 ·by_cases e:i=st.n
  ·simp only[e,if_true,au]at hl;subst hl;exact .inl (aM _)
  simp only[e,if_false]at hl;exact absurd (h.dq i l hl).1 (by omega)
 ·simp only[St.alloc,T.ag];rw[ak (by omega)]
 simp only[St.alloc,T.ag]at yS;rw[ak (by omega)]at yS;exact⟨o',yS,id,id⟩
def bL.write{P:Program}{μ:Mu}{w w':World}{st:St}(h:bp P μ w st){i:Nat}{l:L}{o o':O}(hi:μ i=some l)(ho:st.h.get i=some o)(hw:o.wr=true)
  (By:w'.os=w.os) (htp:w'.tape=w.tape) (hou:w'.output=w.output) (m7:w'.heap.size=w.heap.size) (tA:∀b,b≠l.b->w'.heap[b]?=w.heap[b]?) (yS:OM P μ w' o' l):
  bL P μ w st μ w' (st.write i o') [i]:=by
 have yW:o.live=true:=by cases o<;>simp_all [O.wr,O.live]
 refine⟨⟨fun j lj hj=>?_,fun j lj hj=>?_,fun j k lj lk oj ok hj hk aZ h1 h2 LH fO=>?_,h.iO⟩,fun _ _=>rfl,aM _,rfl,⟨By,htp,hou,by omega,fun b _ dV=>tA b ?_⟩,
  fun j lj hn hj=>?_,fun j _ dV=>?_,fun j oj hn hj=>?_,fun j h1 h2=>absurd h2 (by simp only[St.write];omega),fun j hj _=>by simp only[u9]at hj;subst hj;exact⟨o,ho,hw⟩⟩
 ·have:=h.dq j lj hj;simp[St.write];omega
 ·by_cases e:j=i
  ·subst e;rw[hi]at hj;cases hj;exact⟨o',by simp[St.write,T.ag],yS⟩
  obtain⟨oj,h1,h2⟩:=h.obj j lj hj;refine⟨oj,by simp[St.write,T.ag,e,h1],?_⟩;cases hl:oj.live
  ·cases oj<;>simp[O.live]at hl;trivial
  exact h2.congr (tA lj.b (Ne.symm (h.inj i j l lj o oj hi hj (Ne.symm e) ho h1 hw hl)))
 ·simp only[St.write,T.ag]at h1 h2;by_cases e:j=i
  ·subst e;rw[hi]at hj;cases hj;rw[ak (Ne.symm aZ)]at h2;exact h.inj j k l lk o ok hi hk aZ ho h2 hw fO
  rw[ak e]at h1;by_cases e':k=i
  ·subst e';exact h.inj j k lj lk oj o hj hk aZ h1 ho LH yW
  rw[ak e']at h2;exact h.inj j k lj lk oj ok hj hk aZ h1 h2 LH fO
 ·exact Ne.symm (dV i (by simp) l hi)
 ·exact absurd (h.dq j lj hj).1 (by omega)
 ·simp only[u9]at dV;simp[St.write,T.ag,dV]
 simp only[St.write,T.ag]at hj;by_cases e:j=i
 ·subst e;exact⟨o,ho,fun _=>hw,fun _=>yW⟩
 rw[ak e]at hj;exact⟨oj,hj,id,id⟩
mutual
def TM(μ:Mu):∀(x:Value) (v:V),cV x=some v->VR μ v x
 |.bool b,v,h=>by simp only[cV,au]at h;subst h;simp[VR]
 |.int k n,v,h=>by simp only[cV,au]at h;subst h;simp[VR]
 |.float k n,v,h=>by simp only[cV,au]at h;subst h;simp[VR]
 |.complex ..,v,h=>by simp[cV]at h
 |.string s,v,h=>by simp only[cV,au]at h;subst h;simp[VR]
 |.pointer none,v,h=>by simp only[cV,au]at h;subst h;simp[VR]
 |.pointer (some _),v,h=>by simp[cV]at h
 |.slice none 0 0,v,h=>by simp only[cV,au]at h;subst h;simp[VR]
 |.slice none 0 (c+1),v,h=>by simp[cV]at h
 |.slice none (n+1) c,v,h=>by simp[cV]at h
 |.slice (some _) _ _,v,h=>by simp[cV]at h
 |.map none,v,h=>by simp only[cV,au]at h;subst h;simp[VR]
 |.map (some _),v,h=>by simp[cV]at h
 |.chan none,v,h=>by simp only[cV,au]at h;subst h;simp[VR]
 |.chan (some _),v,h=>by simp[cV]at h
 |.func ..,v,h=>by simp[cV]at h
 |.nilFunc,v,h=>by simp only[cV,au]at h;subst h;simp[VR]
 |.iface ..,v,h=>by simp[cV]at h
 |.nilIface,v,h=>by simp only[cV,au]at h;subst h;simp[VR]
 |.agg ⟨l⟩,v,h=>by
  simp only[cV]at h
  split at h
  ·rename_i l' hl
   simp only[au]at h;subst h
   exact⟨l,rfl,Zzd μ l l' hl⟩
  ·cases h
 |.tuple ⟨l⟩,v,h=>by
  simp only[cV]at h
  split at h
  ·rename_i l' hl
   simp only[au]at h;subst h
   exact⟨l,rfl,Zzd μ l l' hl⟩
  ·cases h
def Zzd(μ:Mu):∀(xs:List Value) (vs:List V),LA xs=some vs->aY μ vs xs
 |[],vs,h=>by simp only[LA,au]at h;subst h;simp[aY]
 |x::xs,vs,h=>by
  simp only[LA]at h
  split at h
  ·rename_i v nG hv IV
   simp only[au]at h;subst h
   exact⟨x,xs,rfl,TM μ x v hv,Zzd μ xs nG IV⟩
  ·cases h
end
section
variable {P:Program} {μ:Mu} {w:World} {st:St} {r:T V} {n:Nat} {a:Act}
def dk(hh:bp P μ w st)(hr:RR μ r n a.tmps){x:Operand}{s:Src}(hc:bI P x=some s){v:V}(hv:s.ev r=some v):VR μ v (a.eval x):=by
 cases x with
 |tmp t=> simp only[bI,au]at hc;subst hc;obtain⟨y,h1,h2⟩:=hr.2 t v hv;simpa[Act.eval,IW,h1]using h2
 |const c=>
  simp only[bI]at hc;split at hc
  ·rename_i v' IM;simp only[au]at hc;subst hc;simp only[Src.ev,au]at hv;subst hv;exact TM μ c v' IM
  cases hc
 |global g=>
  simp only[bI]at hc;split at hc
  ·rename_i hg;simp only[au]at hc;subst hc;simp only[Src.ev,au]at hv;subst hv;obtain⟨t,ht⟩:=hh.iO g hg;exact⟨_,ht,rfl⟩
  cases hc
 |func f=> simp only[bI,au]at hc;subst hc;simp only[Src.ev,au]at hv;subst hv;exact⟨[],[],rfl,by simp[aY],by simp[aY]⟩
def IX(hh:bp P μ w st)(hr:RR μ r n a.tmps):∀{xs:List Operand} {ss:List Src},xz P xs=some ss->∀{vs:List V},wH r ss=some vs->aY μ vs (xs.map a.eval)
 |[],ss,hc,vs,hv=>by
  simp only[xz,au]at hc;subst hc
  simp only[wH,au]at hv;subst hv
  simp[aY]
 |x::xs,ss,hc,vs,hv=>by
  simp only[xz]at hc
  split at hc
  ·rename_i s ss' h1 h2
   simp only[au]at hc;subst hc
   simp only[wH]at hv
   split at hv
   ·rename_i v nG h3 h4
    simp only[au]at hv;subst hv
    exact⟨_,_,rfl,dk hh hr h1 h3,IX hh hr h2 h4⟩
   ·cases hv
  ·cases hc
def Yi5(hh:bp P μ w st)(hr:RR μ r n a.tmps){x:Option Operand}{s:Option Src}(hc:wF P x=some s){v:Option V}(hv:aC r s=some v):
  (v=none/\x=none)\/∃v' x',v=some v'/\x=some x'/\VR μ v' (a.eval x'):=by
 cases x with
 |none=> simp only[wF,au]at hc;subst hc;simp only[aC,au]at hv;subst hv;exact .inl ⟨rfl,rfl⟩
 |some x=>
  simp only[wF]at hc;split at hc
  ·rename_i s' h1;simp only[au]at hc;subst hc;simp only[aC]at hv;split at hv
   ·rename_i v' h2;simp only[au]at hv;subst hv;exact .inr ⟨v',x,rfl,rfl,dk hh hr h1 h2⟩
   cases hv
  cases hc
def bg(P:Program)(μ:Mu)(w:World)(st:St)(s:Sem Next)(v:V)(aB:St):Prop:=
 ∃nx x w' μ' ws,s.run P w=.ok nx w'/\(nx=.value x\/(nx=.skip/\x=undef))/\VR μ' v x/\bL P μ w st μ' w' aB ws
def bg.value(hh:bp P μ w st){s:Sem Value}{v:V}{x:Value}(hs:s.run P w=.ok x w)(hv:VR μ v x):
  bg P μ w st (do pure (.value (<-s))) v st:=
 ⟨.value x,x,w,μ,[],by simp[hs,Result.andThen],.inl rfl,hv,bL.refl hh⟩
def bg.Ou(hh:bp P μ w st){v:V}{x:Value}(hv:VR μ v x):bg P μ w st (pure (.value x)) v st:=
 ⟨.value x,x,w,μ,[],by simp,.inl rfl,hv,bL.refl hh⟩
def Zq7{t:TypeId}(h:Bt P t=some none):(isAgg t).run P w=.ok false w:=by
 unfold Bt at h;split at h
 ·split at h<;>simp at h
 ·split at h<;>simp at h
 ·rename_i d h1 h2 hd;cases d<;>simp[isAgg,run_underlying hd]<;>simp_all
 cases h
def LI{t:TypeId}{k:Nat}(h:Bt P t=some (some k)):(isAgg t).run P w=.ok true w/\(sizeOf t).run P w=.ok k w:=by
 unfold Bt fE at h;split at h
 ·rename_i fs hd;split at h
  ·rename_i n hn;simp only[au]at h;subst h;simp only[mP]at hn;obtain⟨i,hi,rfl⟩:=hn;exact⟨by simp[isAgg,run_underlying hd],by simp[sizeOf,typeInfo,hi]⟩
  cases h
 ·rename_i k' e hd;split at h
  ·rename_i n hn;simp only[au]at h;subst h;simp only[mP]at hn;obtain⟨i,hi,rfl⟩:=hn;exact⟨by simp[isAgg,run_underlying hd],by simp[sizeOf,typeInfo,hi]⟩
  cases h
 ·cases h
 cases h
def zY{t:TypeId}{k:Nat}(h:fE P t=some k):(sizeOf t).run P w=.ok k w:=by unfold fE at h;simp only[mP]at h;obtain⟨i,hi,rfl⟩:=h;simp[sizeOf,typeInfo,hi]
def Yf4{t:TypeId}{v:V}(h:tm P t=some v):∃x,(zeroValue t).run P w=.ok x w/\∀μ,VR μ v x:=by
 unfold tm at h;split at h
 ·rename_i i hi;split at h
  ·rename_i x hx;exact⟨x,by simp[zeroValue,typeInfo,hi,hx],fun μ=>TM μ x v h⟩
  cases h
 cases h
def yX(b o j:Nat):(⟨b,o,none⟩:Addr).add j=⟨b,o+j,none⟩:=by unfold Addr.add;split<;>simp_all
def OM.cell{c:List V}{e:TypeId}{rw:Bool}{l:L}(h:OM P μ w (.cells c e rw) l){j:Nat}{v:V}(hv:c[j]?=some v):
  ∃x,w.cell? ⟨l.b,l.d+j,none⟩=some x/\VR μ v x:=by obtain⟨c',lo,hi,h1,_,_,h4,_⟩:=h;obtain⟨x,hx,hr⟩:=h4 j v hv;exact⟨x,by simp[World.cell?,h1,hx],hr⟩
def OM.Bz{c:List V}{e:TypeId}{rw:Bool}{l:L}(h:OM P μ w (.cells c e rw) l){o k:Nat}{vs:List V}(hs:aP c o k=some vs):
  ∃xs:List Value,aY μ vs xs/\xs.length=k/\(loadCells ⟨l.b,l.d+o,none⟩ k).run P w=.ok xs.toArray w/\(∀(j:Nat) (x:Value),xs[j]?=some x->w.cell? ⟨l.b,l.d+o+j,none⟩=some x)/\(∀x∈xs,x.oneCell'=true):=by
 unfold aP at hs;split at hs
 ·rename_i hle;simp only[au]at hs;subst hs;obtain⟨c',lo,hi,h1,h2,h3,h4,h5,_⟩:=h;have hlen:l.d+o+k<=c'.size:=by omega
  have hl:((c'.toList.drop (l.d+o)).take k).length=k:=by simp;omega
  have hg:∀(j:Nat) (x:Value),((c'.toList.drop (l.d+o)).take k)[j]?=some x->c'[l.d+o+j]?=some x:=fun j x hx=>by
   rw[jZ]at hx;split at hx
   ·simpa[fJ]using hx
   cases hx
  have ic:∀(j:Nat) (x:Value),((c'.toList.drop (l.d+o)).take k)[j]?=some x->w.cell? ⟨l.b,l.d+o+j,none⟩=some x:=fun j x hx=>by simp[World.cell?,h1,hg j x hx]
  refine⟨(c'.toList.drop (l.d+o)).take k,?_,hl,?_,ic,fun x hx=>?_⟩
  ·refine aY.tv (by rw[hl];simp;omega) fun j v hv=>?_;rw[jZ]at hv;split at hv
   ·rename_i hj;rw[fJ]at hv;obtain⟨x,hx,hr⟩:=h4 (o+j) v hv;refine⟨x,?_,hr⟩;rw[jZ,av hj,fJ];simpa[qP]using hx
   cases hv
  ·have:=run_loadCells_list (P:=P) w ⟨l.b,l.d+o,none⟩ ((c'.toList.drop (l.d+o)).take k) (fun j x hx=>by rw[yX];exact ic j x hx);rwa [hl]at this
  obtain⟨j,hj⟩:=pK hx;have rL:j<k:=by rw[<-hl];exact(yK.1 hj).1
  exact h5 (o+j) x (by omega) (by rw[<-qP];exact hg j x hj)
 cases hs
def TN{t:TypeId}{vs:List V}{xs:List Value}(si:aY μ vs xs){k:Option Nat}(ha:Bt P t=some k){o:Nat}{v:V}(hv:aS vs o k=some v):
  ∃x,(part t ⟨xs⟩ o).run P w=.ok x w/\VR μ v x:=by
 cases k with
 |none=> simp only[aS]at hv;obtain⟨x,hx,hr⟩:=si.get hv;exact⟨x,by simp[part,Zq7 ha,Result.andThen,hx],hr⟩
 |some k=>
  simp only[aS]at hv;split at hv
  ·rename_i l hl;simp only[au]at hv;subst hv;unfold aP at hl;split at hl
   ·simp only[au]at hl;subst hl;refine⟨.agg ⟨(xs.drop o).take k⟩,?_,⟨_,rfl,(si.drop o).take k⟩⟩;simp[part,(LI ha).1,(LI ha).2,Result.andThen]
   cases hl
  cases hv
end
end Go.Mx
