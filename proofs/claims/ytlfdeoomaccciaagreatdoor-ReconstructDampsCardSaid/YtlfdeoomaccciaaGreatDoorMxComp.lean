/-Code of the Go model resolved for the ma-/
import Derived.Test.YtlfdeoomaccciaaGreatDoorMxCore
import Derived.Laws.MakeOwn
import Derived.Laws.CopyRow
import Derived.Laws.Rows
import Derived.Laws.Append
import Derived.Laws.Externs
import Derived.Laws.StructEq
import Derived.RowKit
set_option linter.all false
namespace Go.Mx
mutual
def cV:Value->Option V
 |.bool b=>some (.bool b)
 |.int k n=>some (.int k n)
 |.float k n=>some (.vi k n)
 |.string s=>some (.str s.data.toList)
 |.pointer none=>some .bF
 |.slice none 0 0=>some .aa
 |.map none=>some .bN
 |.chan none=>some .bP
 |.nilFunc=>some .bQ
 |.nilIface=>some .aY
 |.agg ⟨l⟩=>match I6 l with
  |some l=>some (.agg l)
  |none=>none
 |.tuple ⟨l⟩=>match I6 l with
  |some l=>some (.aV l)
  |none=>none
 |_=>none
def I6:List Value->Option (List V)
 |[]=>some []
 |v::vs=>match cV v,I6 vs with
  |some v,some vs=>some (v::vs)
  |_,_=>none
end
section
variable (P:Program)
def bB:Operand->Option Src
 |.tmp t=>some (.tmp t)
 |.const v=>match cV v with
  |some v=>some (.const v)
  |none=>none
 |.global g=>if g<P.globals.size then some (.const (.ptr g 0)) else none
 |.func f=>some (.const (.func f [] []))
def vj:List Operand->Option (List Src)
 |[]=>some []
 |x::xs=>match bB P x,vj xs with
  |some x,some xs=>some (x::xs)
  |_,_=>none
def uA:Option Operand->Option (Option Src)
 |none=>some none
 |some x=>match bB P x with
  |some x=>some (some x)
  |none=>none
def eR(t:TypeId):Option Nat:=(P.info? t).map (·.size)
def Ci(t:TypeId):Option Nat:=(P.info? t).map (·.bytes)
def zO(t:TypeId):Option (Option Nat):=
 match P.underlying t with
 |some (.struct _)|some (.array _ _)=>match eR P t with
  |some n=>some (some n)
  |none=>none
 |some _=>some none
 |none=>none
def qU(t:TypeId):Option V:=
 match P.info? t with
 |some i=>match i.zero with
  |some v=>cV v
  |none=>none
 |none=>none
def P1:TypeDesc->Option PK
 |.bool=>some .bool
 |.int _=>some .int
 |.string=>some .str
 |.pointer _=>some .ptr
 |.slice _=>some .slice
 |.map _ _=>some .map
 |.func _ _ _=>some .func
 |.chan _ _=>some .chan
 |.interface _=>some .iface
 |_=>none
def I7(q:TypeId->Option s_):List Field->Option (List (Nat×Option Nat×s_))
 |[]=>some []
 |f::fs=>if f.name= "_" then I7 q fs else
  match zO P f.type,q f.type,I7 q fs with
  |some a,some q,some l=>some ((f.offset,a,q)::l)
  |_,_,_=>none
def VT:TypeDesc->Bool
 |.pointer e=>(P.info? e).isSome
 |_=>true
def xd:Nat->TypeId->Option s_
 |0,_=>none
 |d+1,t=>
  match P.underlying t with
  |some (.struct fs)=>
   if P.stoodInHeld t then none else
   match I7 P (xd d) fs.toList with
   |some l=>some (.node l)
   |none=>none
  |some q=>match P1 q with
   |some k=>if VT P q=true then some (.bX k) else none
   |none=>none
  |none=>none
def Bj(place:Nat->Option (Nat×Nat)):List (Nat×Operand)->Option (List (Nat×Nat×Src))
 |[]=>some []
 |(i,x)::rest=>match place i,bB P x,Bj place rest with
  |some (o,s),some x,some l=>some ((o,s,x)::l)
  |_,_,_=>none
def zP(t:TypeId):Option kV:=
 match P.underlying t with
 |some (.int k)=>some (.int k)
 |some .string=>some .str
 |_=>none
def Ga:Operand->Bool
 |.const _=>true
 |_=>false
def I8(fs:List Field):Option (List (Nat×Nat)):=
 match fs with
 |[]=>some []
 |f::fs=>match eR P f.type,I8 fs with
  |some s,some l=>some ((f.offset,s)::l)
  |_,_=>none
def yC(name:String):Option Ext:=
 if name= "math/bits.Add64" then some .gI
 else if name= "math/bits.Sub64" then some .jB
 else if name= "internal/abi.NoEscape" then some .same
 else if name= "internal/bytealg.IndexByteString" then some .bW
 else none
def DV(c:Call):Option gk:=
 match c.callee with
 |.value f=>match vj P c.args.toList with
  |none=>none
  |some args=>match f with
   |.func g=>match P.funcs[g]? with
    |some fn=>if fn.body.isSome then some (.call (.const (.func g [] [])) args) else
     match yC fn.name with
     |some e=>some (.ext e args)
     |none=>none
    |none=>none
   |f=>match bB P f with
    |some f=>some (.call f args)
    |none=>none
 |.invoke _ _=>none
 |.builtin b=>
  match b,c.argTypes.toList,c.args.toList with
  |.len,[t],[x]=>
   match P.underlying t,bB P x with
   |some .string,some x=>some (.len 0 x)
   |some (.slice _),some x=>some (.len 1 x)
   |some (.map _ _),some x=>some (.len 2 x)
   |_,_=>none
  |.cap,[t],[x]=>
   match P.underlying t,bB P x with
   |some (.slice _),some x=>some (.cap x)
   |_,_=>none
  |.min,_,_=>match vj P c.args.toList with
   |some l=>some (.mn l)
   |none=>none
  |.max,_,_=>match vj P c.args.toList with
   |some l=>some (.mx l)
   |none=>none
  |.append,[t,u],[s,x]=>
   match P.underlying t with
   |some (.slice e)=>match eR P e,Ci P e,qU P e,bB P s,bB P x,P.underlying u with
    |some n,some b,some z,some s,some x,some d=>if (d matches .int _)\/b=0\/z.cells.length≠n\/z.cells.all V.one=false then none else some (.append n b e z.cells s x)
    |_,_,_,_,_,_=>none
   |_=>none
  |.copy,t::_,[d,s]=>
   match P.underlying t with
   |some (.slice e)=>match eR P e,bB P d,bB P s with
    |some n,some d,some s=>some (.copy n d s)
    |_,_,_=>none
   |_=>none
  |.unsafeSliceData,[_],[s]=>(bB P s).map .zQ
  |.unsafeString,[t,_],[x,n]=>
   match P.underlying t with
   |some (.pointer e)=>match eR P e,bB P x,bB P n with
    |some 1,some x,some n=>some (.Gb e x n)
    |_,_,_=>none
   |_=>none
  |_,_,_=>none
def I9:Op->Option gk
 |.move x|.assign x=>(bB P x).map .km
 |.pick c a b=>match bB P c,bB P a,bB P b with
  |some c,some a,some b=>some (.pick c a b)
  |_,_,_=>none
 |.alloc e=>match qU P e with
  |some z=>if z.cells.all V.one then some (.alloc z.cells e) else none
  |none=>none
 |.box e x=>(bB P x).map (.box e)
 |.build t parts=>match qU P t with
  |none=>none
  |some z=>match P.underlying t with
   |some (.struct fs)=>match I8 P fs.toList with
    |some pl=>(Bj P (pl[·]?) parts.toList).map (.build z.cells)
    |none=>none
   |some (.array _ e)=>match eR P e with
    |some s=>(Bj P (fun i=>some (i*s,s)) parts.toList).map (.build z.cells)
    |none=>none
   |_=>none
 |.buildSlice t len parts=>match P.underlying t with
  |some (.slice e)=>match eR P e,qU P e with
   |some s,some z=>if len*s > 2^24\/z.cells.length≠s\/s=0 then none else
    (Bj P (fun i=>some (i*s,s)) parts.toList).map (.fG e s len (dp z.cells len))
   |_,_=>none
  |_=>none
 |.load t a=>match zO P t,bB P a with
  |some n,some a=>some (.load n a)
  |_,_=>none
 |.store t a x=>match eR P t,bB P a,bB P x with
  |some n,some a,some x=>some (.store n a x)
  |_,_,_=>none
 |.nilCheck x=>(bB P x).map .oh
 |.binOp op t x y _=>match bB P x,bB P y with
  |some a,some b=>
   match op with
   |.eql|.neq=>match xd P 40 t with
    |some q=>if (match P.underlying t with|some (.struct _)|some (.array _ _)=>P.eqGuardType P.depth t|_=>false) then none else some (.bin op q (Ga x||Ga y) a b)
    |none=>none
   |_=>some (.bin op (.node []) false a b)
  |_,_=>none
 |.unOp op _ x=>(bB P x).map (.un op)
 |.convert src dst x=>match bB P x with
  |none=>none
  |some a=>match P.underlying src,P.underlying dst with
   |some (.int _),some (.int k)=>some (.cP k a)
   |some .string,some (.slice e)=>match P.underlying e with
    |some (.int .u8)=>some (.jG e a)
    |_=>none
   |some (.slice e),some .string=>match P.underlying e with
    |some (.int .u8)=>some (.oo a)
    |_=>none
   |some (.pointer t),some .unsafePointer=>match eR P t with
    |some (_+1)=>some (.Ja none a)
    |_=>none
   |some .unsafePointer,some (.pointer u)=>match eR P u with
    |some (z+1)=>some (.Ja (some (u,z+1)) a)
    |_=>none
   |_,_=>none
 |.makeInterface t x=>match P.underlying t with
  |some (.interface _)=>none
  |some _=>(bB P x).map (.iz t)
  |none=>none
 |.makeFunc (.func f) first gl=>match vj P first.toList,vj P gl.toList with
  |some a,some l=>some (.ot f a l)
  |_,_=>none
 |.makeMap _ none=>some .xe
 |.makeSlice t l c=>match P.underlying t with
  |some (.slice e)=>match eR P e,Ci P e,qU P e,bB P l,bB P c with
   |some s,some b,some z,some l,some c=>if z.cells.all V.one then some (.jH e s b z.cells l c) else none
   |_,_,_,_,_=>none
  |_=>none
 |.slice t x lo hi mx=>match bB P x,uA P lo,uA P hi,uA P mx with
  |some x,some lo,some hi,some mx=>match P.underlying t with
   |some .string=>if mx.isSome then none else some (.cg x lo hi)
   |some (.slice e)=>(eR P e).map fun s=>.mQ s x lo hi mx
   |some (.array n e)=>(eR P e).map fun s=>.jI n s x lo hi mx
   |_=>none
  |_,_,_,_=>none
 |.fieldAddr t x i=>match P.underlying t,bB P x with
  |some (.struct fs),some x=>match fs[i]? with
   |some f=>match eR P f.type with
    |some (_+1)=>some (.ja f.offset x)
    |_=>none
   |none=>none
  |_,_=>none
 |.indexAddr t x i=>match P.underlying t,bB P x,bB P i with
  |some (.array n e),some x,some i=>(eR P e).map fun s=>.gY n s x i
  |some (.slice e),some x,some i=>(eR P e).map fun s=>.e_ s x i
  |_,_,_=>none
 |.index t x i=>match P.underlying t,bB P x,bB P i with
  |some .string,some x,some i=>some (.bI x i)
  |_,_,_=>none
 |.lookup t m k ok=>match P.underlying t,bB P m,bB P k with
  |some (.map kt e),some m,some k=>match zP P kt,qU P e with
   |some kd,some z=>some (.lookup kd z m k ok)
   |_,_=>none
  |_,_,_=>none
 |.mapUpdate t m k v|.insert t m k v=>match P.underlying t,bB P m,bB P k,bB P v with
  |some (.map kt _),some m,some k,some v=>(zP P kt).map fun kd=>.vk kd m k v
  |_,_,_,_=>none
 |.range t x=>match P.underlying t,bB P x with
  |some .string,some x=>some (.jJ x)
  |_,_=>none
 |.next it true=>(bB P it).map .qV
 |.extract x i=>(bB P x).map fun x=>.extract x i
 |.call c=>DV P c
 |_=>none
def zR(o:Op):gk:=(I9 P o).getD .stop
def Gc(ops:Array Oper):Option (Nat×Bool)->Option (Option (Nat×Bool))
 |none=>some none
 |some (j,want)=>match (ops[j]?).bind (·.dst)with
  |some t=>some (some (t,want))
  |none=>none
def qW(ops:Array Oper)(o:Oper):dq:=
 match Gc ops o.guard with
 |some g=>{dst:=o.dst,op:=zR P o.op,guard:=g}
 |none=>{dst:=o.dst,op:=.stop,guard:=none}
def KX(o:Oper)(ms:List Nat):Nat:=
 o.after.foldl (fun s e=>if Region.binds .any e then s|||2^e.on|||ms.getD e.on 0 else s) 0
def vn:List Oper->List Nat->List Nat
 |[],acc=>acc
 |o::rest,acc=>vn rest (acc++[KX o acc])
def Yu1(_:Program)(o:Oper):Option (Option Nat×Src×Option Src×V):=none
def Jb:Nat->List Oper->Bool
 |_,[]=>true
 |i,o::os=>(o.after.all fun e=>!Region.binds .any e||Nat.blt e.on i)&&Jb (i+1) os
def VU(ops:Array Oper):Bool:=Jb 0 ops.toList&&ct P2 (ops.toList.map (qW P ops)) (vn ops.toList [])
def iO:Code->bO
 |.skip=>.skip
 |.region _ ops false=>match ops.toList with
  |[]=>.dP []
  |o::rest=>match Yu1 P o with
   |some (d,ch,s,z)=>.yh d ch s z (rest.map (qW P ops))
   |none=>.dP ((o::rest).map (qW P ops))
 |.region _ ops true=>if VU P ops then .dj (ops.toList.map (qW P ops)) (vn ops.toList []) else .stop
 |.seq a b=>.seq (iO a) (iO b)
 |.cond c a b=>match bB P c with
  |some c=>.cond c (iO a) (iO b)
  |none=>.stop
 |.block id c=>.block id (iO c)
 |.loop c=>.loop (iO c)
 |.rangeFunc g ps assign body=>match bB P g with
  |some g=>.jf g ps.toList (iO assign) (iO body)
  |none=>.stop
 |.exit id=>.exit id
 |.scope c=>.scope (iO c)
 |.label _=>.skip
 |.goto _=>.stop
 |.ret=>.ret
 |.refuse _=>.stop
def DW:List ResultVar->Option (List DX)
 |[]=>some []
 |.tmp t::rest=>(DW rest).map (.tmp t::·)
 |.cell t ty::rest=>match zO P ty,DW rest with
  |some n,some l=>some (.cell t n::l)
  |_,_=>none
def yB(f:FuncId):Option lF:=
 match P.funcs[f]? with
 |some fn=>match fn.body,DW P fn.results.toList with
  |some c,some rs=>some {ntmps:=fn.ntmps,results:=rs,body:=iO P c}
  |_,_=>none
 |none=>none
end
open Go
structure L where
 b:Nat
 d:Nat
 qX:Nat
abbrev Mu:=Nat->Option L
mutual
def VR(μ:Mu):V->Value->Prop
 |.bool b,x=>x=.bool b
 |.int k n,x=>x=.int k n
 |.vi k n,x=>x=.float k n
 |.str s,x=>x=.string ⟨s.toArray⟩
 |.bF,x=>x=.pointer none
 |.ptr i o,x=>∃l,μ i=some l/\x=.pointer (some ⟨l.b,l.d+o,none⟩)
 |.aa,x=>x=.slice none 0 0
 |.slice i o len cap sz,x=>∃l c,μ i=some l/\x=.slice (some ⟨l.b,l.d+o,none⟩) len c/\len<=c/\o+c*sz<=l.qX/\
   (∀k,cap=some k->c=k)/\(cap=none->o+c*sz=l.qX)
 |.empty,x=>∃a c,x=.slice (some a) 0 c
 |.bN,x=>x=.map none
 |.map i,x=>∃l,μ i=some l/\x=.map (some l.b)
 |.bP,x=>x=.chan none
 |.chan i,x=>∃l,μ i=some l/\x=.chan (some l.b)
 |.func f a c,x=>∃a' c',x=.func (.func f) ⟨a'⟩ ⟨c'⟩/\aS μ a a'/\aS μ c c'
 |.yield i,x=>∃l,μ i=some l/\x=.func (.yield l.b) #[] #[]
 |.bQ,x=>x=.nilFunc
 |.iface t v,x=>∃y,x=.iface t y/\VR μ v y
 |.aY,x=>x=.nilIface
 |.agg vs,x=>∃a,x=.agg ⟨a⟩/\aS μ vs a
 |.aV vs,x=>∃a,x=.tuple ⟨a⟩/\aS μ vs a
def aS(μ:Mu):List V->List Value->Prop
 |[],xs=>xs=[]
 |v::vs,xs=>∃y ys,xs=y::ys/\VR μ v y/\aS μ vs ys
end
mutual
def VR.mono{μ μ':Mu}(h:∀i l,μ i=some l->μ' i=some l):∀(v:V) (x:Value),VR μ v x->VR μ' v x
 |.bool _,_,hx=>by simpa[VR]using hx
 |.int _ _,_,hx=>by simpa[VR]using hx
 |.vi _ _,_,hx=>by simpa[VR]using hx
 |.str _,_,hx=>by simpa[VR]using hx
 |.bF,_,hx=>by simpa[VR]using hx
 |.ptr _ _,_,hx=>by simp only[VR]at*;obtain⟨l,h1,h2⟩:=hx;exact⟨l,h _ _ h1,h2⟩
 |.aa,_,hx=>by simpa[VR]using hx
 |.slice _ _ _ _ _,_,hx=>by simp only[VR]at*;obtain⟨l,c,h1,h2⟩:=hx;exact⟨l,c,h _ _ h1,h2⟩
 |.empty,_,hx=>by simpa[VR]using hx
 |.bN,_,hx=>by simpa[VR]using hx
 |.map _,_,hx=>by simp only[VR]at*;obtain⟨l,h1,h2⟩:=hx;exact⟨l,h _ _ h1,h2⟩
 |.bP,_,hx=>by simpa[VR]using hx
 |.chan _,_,hx=>by simp only[VR]at*;obtain⟨l,h1,h2⟩:=hx;exact⟨l,h _ _ h1,h2⟩
 |.func _ a c,_,hx=>by
  simp only[VR]at*;obtain⟨a',c',h1,h2,h3⟩:=hx
  exact⟨a',c',h1,aS.mono h a a' h2,aS.mono h c c' h3⟩
 |.yield _,_,hx=>by simp only[VR]at*;obtain⟨l,h1,h2⟩:=hx;exact⟨l,h _ _ h1,h2⟩
 |.bQ,_,hx=>by simpa[VR]using hx
 |.iface _ v,_,hx=>by simp only[VR]at*;obtain⟨y,h1,h2⟩:=hx;exact⟨y,h1,VR.mono h v y h2⟩
 |.aY,_,hx=>by simpa[VR]using hx
 |.agg vs,_,hx=>by simp only[VR]at*;obtain⟨a,h1,h2⟩:=hx;exact⟨a,h1,aS.mono h vs a h2⟩
 |.aV vs,_,hx=>by simp only[VR]at*;obtain⟨a,h1,h2⟩:=hx;exact⟨a,h1,aS.mono h vs a h2⟩
def aS.mono{μ μ':Mu}(h:∀i l,μ i=some l->μ' i=some l):∀(vs:List V) (xs:List Value),aS μ vs xs->aS μ' vs xs
 |[],_,hx=>by simpa[aS]using hx
 |v::vs,_,hx=>by
  simp only[aS]at*
  obtain⟨y,ys,h1,h2,h3⟩:=hx
  exact⟨y,ys,h1,VR.mono h v y h2,aS.mono h vs ys h3⟩
end
section
variable {μ:Mu}
def kW{v:V}{vs:List V}{xs:List Value}:aS μ (v::vs) xs↔∃y ys,xs=y::ys/\VR μ v y/\aS μ vs ys:=by simp[aS]
def aS.length:∀{vs:List V} {xs:List Value},aS μ vs xs->xs.length=vs.length
 |[],_,h=>by simp[aS]at h;simp[h]
 |v::vs,_,h=>by
  obtain⟨y,ys,rfl,_,h3⟩:=kW.1 h
  simp[aS.length h3]
def aS.get:∀{vs:List V} {xs:List Value},aS μ vs xs->∀{i:Nat} {v:V},vs[i]?=some v->∃x,xs[i]?=some x/\VR μ v x
 |[],_,_,i,v,hv=>by simp at hv
 |w::vs,_,h,i,v,hv=>by
  obtain⟨y,ys,rfl,h2,h3⟩:=kW.1 h
  cases i with
  |zero=>simp at hv;subst hv;exact⟨y,by simp,h2⟩
  |succ i=>simpa using aS.get h3 (i:=i) (by simpa using hv)
def aS.append:∀{vs ws:List V} {xs ys:List Value},aS μ vs xs->aS μ ws ys->aS μ (vs++ws) (xs++ys)
 |[],ws,_,ys,h,h'=>by simp[aS]at h;simpa[h]using h'
 |v::vs,ws,_,ys,h,h'=>by
  obtain⟨y,zs,rfl,h2,h3⟩:=kW.1 h
  exact kW.2 ⟨y,zs++ys,rfl,h2,aS.append h3 h'⟩
def aS.take:∀{vs:List V} {xs:List Value} (n:Nat),aS μ vs xs->aS μ (vs.take n) (xs.take n)
 |[],_,n,h=>by simp[aS]at h;simp[h,aS]
 |v::vs,_,n,h=>by
  obtain⟨y,zs,rfl,h2,h3⟩:=kW.1 h
  cases n with
  |zero=>simp[aS]
  |succ n=>exact kW.2 ⟨y,zs.take n,rfl,h2,aS.take n h3⟩
def aS.drop:∀{vs:List V} {xs:List Value} (n:Nat),aS μ vs xs->aS μ (vs.drop n) (xs.drop n)
 |[],_,n,h=>by simp[aS]at h;simp[h,aS]
 |v::vs,_,n,h=>by
  cases n with
  |zero=>simpa using h
  |succ n=>
   obtain⟨y,zs,rfl,h2,h3⟩:=kW.1 h
   simpa using aS.drop n h3
def aS.qY:∀{vs:List V} {xs:List Value},xs.length=vs.length->(∀(i:Nat) (v:V),vs[i]?=some v->∃x,xs[i]?=some x/\VR μ v x)->aS μ vs xs
 |[],xs,hl,_=>by simp at hl;simp[aS,hl]
 |v::vs,[],hl,_=>by simp at hl
 |v::vs,x::xs,hl,h=>by
  refine kW.2 ⟨x,xs,rfl,?_,aS.qY (by simpa using hl) fun i u hu=>?_⟩
  ·obtain⟨y,h1,h2⟩:=h 0 v (by simp)
   simp at h1;subst h1;exact h2
  ·simpa using h (i+1) u (by simpa using hu)
def VR.one{v:V}{x:Value}(h:VR μ v x)(hv:v.one=true):x.oneCell'=true:=by
 cases v<;>simp only[VR]at h<;>simp only[V.one,fI]at hv
 case bool=>subst h;rfl
 case int=>subst h;rfl
 case vi=>subst h;rfl
 case str=>subst h;rfl
 case bF=>subst h;rfl
 case ptr=>obtain⟨l,_,rfl⟩:=h;rfl
 case aa=>subst h;rfl
 case slice=>obtain⟨l,c,_,rfl,_⟩:=h;rfl
 case empty=>obtain⟨a,c,rfl⟩:=h;rfl
 case bN=>subst h;rfl
 case map=>obtain⟨l,_,rfl⟩:=h;rfl
 case bP=>subst h;rfl
 case chan=>obtain⟨l,_,rfl⟩:=h;rfl
 case func=>obtain⟨a,c,rfl,_⟩:=h;rfl
 case yield=>obtain⟨l,_,rfl⟩:=h;rfl
 case bQ=>subst h;rfl
 case iface=>obtain⟨y,rfl,_⟩:=h;rfl
 case aY=>subst h;rfl
def VR.cells{v:V}{x:Value}(h:VR μ v x):aS μ v.cells x.cells.toList:=by
 have one:∀y:Value,x=y->(y.cells=#[y])->v.cells=[v]->aS μ v.cells x.cells.toList:=fun y e hc hv=>by
  subst e;rw[hc,hv];exact kW.2 ⟨_,[],rfl,h,by simp[aS]⟩
 have h0:=h
 cases v<;>simp only[VR]at h
 case bool=>exact one _ h rfl rfl
 case int=>exact one _ h rfl rfl
 case vi=>exact one _ h rfl rfl
 case str=>exact one _ h rfl rfl
 case bF=>exact one _ h rfl rfl
 case ptr=>obtain⟨l,_,e⟩:=h;exact one _ e rfl rfl
 case aa=>exact one _ h rfl rfl
 case slice=>obtain⟨l,c,_,e,_⟩:=h;exact one _ e rfl rfl
 case empty=>obtain⟨a,c,e⟩:=h;exact one _ e rfl rfl
 case bN=>exact one _ h rfl rfl
 case map=>obtain⟨l,_,e⟩:=h;exact one _ e rfl rfl
 case bP=>exact one _ h rfl rfl
 case chan=>obtain⟨l,_,e⟩:=h;exact one _ e rfl rfl
 case func=>obtain⟨a,c,e,_⟩:=h;exact one _ e rfl rfl
 case yield=>obtain⟨l,_,e⟩:=h;exact one _ e rfl rfl
 case bQ=>exact one _ h rfl rfl
 case iface=>obtain⟨y,e,_⟩:=h;exact one _ e rfl rfl
 case aY=>exact one _ h rfl rfl
 case agg vs=>obtain⟨a,rfl,h⟩:=h;exact h
 case aV vs=>obtain⟨a,e,_⟩:=h;exact one _ e rfl rfl
end
def RR(μ:Mu)(r:T V)(n:Nat)(tmps:Array Value):Prop:=
 tmps.size=n/\∀t v,r.get t=some v->∃x,tmps[t]?=some x/\VR μ v x
def RR.mono{μ μ':Mu}{r:T V}{n:Nat}{tmps:Array Value}(h:∀i l,μ i=some l->μ' i=some l)(hr:RR μ r n tmps):RR μ' r n tmps:=
 ⟨hr.1,fun t v hv=>let ⟨x,h1,h2⟩:=hr.2 t v hv;⟨x,h1,VR.mono h v x h2⟩⟩
def RR.set{μ:Mu}{r:T V}{n:Nat}{tmps:Array Value}(hr:RR μ r n tmps){d:Nat}(hd:d<n){v:V}{x:Value}(hv:VR μ v x):
  RR μ (r.set d v) n (tmps.setIfInBounds d x):=by
 refine⟨by simp[hr.1],fun t u hu=>?_⟩
 rw[T.ag]at hu
 by_cases e:t=d
 ·subst e
  simp at hu;subst hu
  exact⟨x,by simp[hr.1,hd],hv⟩
 ·simp[e]at hu
  obtain⟨y,h1,h2⟩:=hr.2 t u hu
  exact⟨y,by rw[P3 (Ne.symm e)];exact h1,h2⟩
def zS:Ex->Option Code
 |.normal=>none
 |.exit id=>some (.exit id)
 |.ret=>some .ret
def iP(μ:Mu):List (V×V)->List MapEntry->Nat->Prop
 |[],xs,_=>xs=[]
 |(k,v)::es,xs,i=>∃e ys,xs=e::ys/\VR μ k e.key/\VR μ v e.val/\e.born=i/\iP μ es ys (i+1)
def iP.mono{μ μ':Mu}(h:∀i l,μ i=some l->μ' i=some l):∀(es:List (V×V)) (xs:List MapEntry) (i:Nat),iP μ es xs i->iP μ' es xs i
 |[],_,_,hx=>hx
 |(k,v)::es,_,i,hx=>by
  obtain⟨e,ys,h1,h2,h3,h4,h5⟩:=hx
  exact⟨e,ys,h1,VR.mono h k _ h2,VR.mono h v _ h3,h4,iP.mono h es ys (i+1) h5⟩
def OM(P:Program)(μ:Mu)(w:World):O->L->Prop
 |.cells c e rw,l=>∃(c':Array Value) (lo hi:Nat),w.heap[l.b]?=some (.cells c' e (lo,hi))/\l.d+l.qX<=c'.size/\c.length<=l.qX/\
   (∀(j:Nat) (v:V),c[j]?=some v->∃x,c'[l.d+j]?=some x/\VR μ v x)/\(∀(j:Nat) (x:Value),j<l.qX->c'[l.d+j]?=some x->x.oneCell'=true)/\(rw=true->l.d=0/\∀j,j<l.qX->¬(lo<=l.d+j/\l.d+j<hi))
 |.map es,l=>∃gZ:List MapEntry,w.heap[l.b]?=some (.map ⟨gZ⟩ gZ.length)/\iP μ es gZ 0
 |.chan cap buf,l=>∃(Cj:List Value) (s r:Nat),w.heap[l.b]?=some (.chan cap ⟨Cj⟩ false s r false)/\aS μ buf Cj
 |.eC s pos,l=>w.heap[l.b]?=some (.stringIter ⟨s.toArray⟩ pos)/\l.d=0
 |.loop R,l=>∃fn tmps fM fN ld,w.heap[l.b]?=some (.loop {state:=R.st,pending:=R.eW.bind zS,fn:=fn,tmps:=tmps,params:=⟨R.ps⟩,assign:=fM,body:=fN,defers:=ld.b})/\
   RR μ R.r R.n tmps/\iO P fM=R.assign/\iO P fN=R.body/\μ R.defs=some ld
 |.defs o,l=>w.heap[l.b]?=some (.deferred (if o then some [] else none))
 |.dead,_=>True
def OM.mono{P:Program}{μ μ':Mu}{w:World}(h:∀i l,μ i=some l->μ' i=some l){o:O}{l:L}(ho:OM P μ w o l):OM P μ' w o l:=by
 cases o with
 |cells c e rw=>
  obtain⟨c',lo,hi,h1,h2,h3,h4,h5⟩:=ho
  exact⟨c',lo,hi,h1,h2,h3,fun j v hv=>let ⟨x,a,b⟩:=h4 j v hv;⟨x,a,VR.mono h v x b⟩,h5⟩
 |map es=>obtain⟨gZ,h1,h2⟩:=ho;exact⟨gZ,h1,iP.mono h _ _ _ h2⟩
 |chan cap buf=>obtain⟨b',s,r,h1,h2⟩:=ho;exact⟨b',s,r,h1,aS.mono h _ _ h2⟩
 |eC s pos=>simp only[OM]at*;exact ho
 |loop R=>obtain⟨fn,tmps,fM,fN,ld,h1,h2,h3,h4,h5⟩:=ho;exact⟨fn,tmps,fM,fN,ld,h1,h2.mono h,h3,h4,h _ _ h5⟩
 |defs b=>simp only[OM]at*;exact ho
 |dead=>trivial
def OM.congr{P:Program}{μ:Mu}{w w':World}{o:O}{l:L}(hb:w'.heap[l.b]?=w.heap[l.b]?)(ho:OM P μ w o l):OM P μ w' o l:=by
 cases o with
 |cells c e rw=>obtain⟨c',lo,hi,h1,h2⟩:=ho;exact⟨c',lo,hi,hb.trans h1,h2⟩
 |map es=>obtain⟨gZ,h1,h2⟩:=ho;exact⟨gZ,hb.trans h1,h2⟩
 |chan cap buf=>obtain⟨b',s,r,h1,h2⟩:=ho;exact⟨b',s,r,hb.trans h1,h2⟩
 |eC s pos=>exact⟨hb.trans ho.1,ho.2⟩
 |loop R=>obtain⟨fn,tmps,fM,fN,ld,h1,h2⟩:=ho;exact⟨fn,tmps,fM,fN,ld,hb.trans h1,h2⟩
 |defs b=>exact hb.trans ho
 |dead=>trivial
structure bm (P:Program) (μ:Mu) (w:World) (st:St):Prop where
 c_:∀i l,μ i=some l->i<st.n/\l.b<w.heap.size
 obj:∀i l,μ i=some l->∃o,st.h.get i=some o/\OM P μ w o l
 inj:∀i j l l' o o',μ i=some l->μ j=some l'->i≠j->st.h.get i=some o->st.h.get j=some o'->o.wr=true->o'.live=true->l.b≠l'.b
 gU:∀g,g<P.globals.size->∃t,μ g=some ⟨g,0,t⟩
structure KY (μ:Mu) (ws:List Nat) (w w':World):Prop where
 os:w'.os=w.os
 tape:w'.tape=w.tape
 output:w'.output=w.output
 size:w.heap.size<=w'.heap.size
 block:∀b,b<w.heap.size->(∀i∈ws,∀l,μ i=some l->l.b≠b)->w'.heap[b]?=w.heap[b]?
structure bH (P:Program) (μ:Mu) (w:World) (st:St) (μ':Mu) (w':World) (az:St) (ws:List Nat):Prop where
 hr:bm P μ' w' az
 ext:∀i,i<st.n->μ' i=μ i
 fh:st.n<=az.n
 wl:az.w=ws++st.w
 ed:KY μ ws w w'
 new:∀i l,st.n<=i->μ' i=some l->w.heap.size<=l.b\/∃j∈ws,j<st.n/\∃lj oj,μ j=some lj/\lj.b=l.b/\st.h.get j=some oj/\oj.wr=true
 ae:∀i,i<st.n->i∉ws->az.h.get i=st.h.get i
 grow:∀i o',i<st.n->az.h.get i=some o'->∃o,st.h.get i=some o/\(o'.wr=true->o.wr=true)/\(o'.live=true->o.live=true)
 full:∀i,st.n<=i->i<az.n->∃l,μ' i=some l
 yX:∀i∈ws,i<st.n->∃o,st.h.get i=some o/\o.wr=true
def bm.Gd{P:Program}{μ μ':Mu}{w:World}{st:St}(h:bm P μ w st)(he:∀i,i<st.n->μ' i=μ i):∀i l,μ i=some l->μ' i=some l:=
 fun i l hi=>(he i (h.c_ i l hi).1).trans hi
def KY.refl(μ:Mu)(ws:List Nat)(w:World):KY μ ws w w:=⟨rfl,rfl,rfl,aQ _,fun _ _ _=>rfl⟩
def bH.refl{P:Program}{μ:Mu}{w:World}{st:St}(h:bm P μ w st):bH P μ w st μ w st []:=
 ⟨h,fun _ _=>rfl,aQ _,rfl,KY.refl μ [] w,fun i l hi hl=>absurd (h.c_ i l hl).1 (by omega),fun _ _ _=>rfl,fun _ o' _ ho=>⟨o',ho,id,id⟩,fun _ h1 h2=>absurd h2 (by omega),fun _ hi=>absurd hi (by simp)⟩
def bH.trans{P:Program}{μ μ1 μ2:Mu}{w w1 w2:World}{st bS eI:St}{ws P4:List Nat}
  (h1:bH P μ w st μ1 w1 bS ws) (h2:bH P μ1 w1 bS μ2 w2 eI P4):bH P μ w st μ2 w2 eI (P4++ws) where
 hr:=h2.hr
 ext:=fun i hi=>(h2.ext i (eY hi h1.fh)).trans (h1.ext i hi)
 fh:=tk h1.fh h2.fh
 wl:=by rw[h2.wl,h1.wl,tv]
 ed:=by
  refine⟨h2.ed.os.trans h1.ed.os,h2.ed.tape.trans h1.ed.tape,h2.ed.output.trans h1.ed.output,tk h1.ed.size h2.ed.size,fun b hb du=>?_⟩
  rw[h2.ed.block b (eY hb h1.ed.size) fun i hi l hl=>?_,h1.ed.block b hb fun i hi l hl=>du i (by simp[hi]) l hl]
  by_cases DM:i<st.n
  ·exact du i (by simp[hi]) l (by rw[<-h1.ext i DM];exact hl)
  ·rcases h1.new i l (by omega) hl with h|⟨j,hj,_,lj,oj,uB,ta,_⟩
   ·omega
   ·rw[<-ta];exact du j (by simp[hj]) lj uB
 new:=fun i l hi hl=>by
  by_cases DM:i<bS.n
  ·rcases h1.new i l hi (by rw[<-h2.ext i DM];exact hl)with h|⟨j,hj,r⟩
   ·exact .inl h
   ·exact .inr ⟨j,by simp[hj],r⟩
  ·rcases h2.new i l (by omega) hl with h|⟨j,hj,Ge,lj,oj,uB,ta,Gf,how⟩
   ·exact .inl (tk h1.ed.size h)
   ·by_cases hjn':j<st.n
    ·obtain⟨o,ho,hw,_⟩:=h1.grow j oj hjn' Gf
     exact .inr ⟨j,by simp[hj],hjn',lj,o,by rw[<-h1.ext j hjn'];exact uB,ta,ho,hw how⟩
    ·rcases h1.new j lj (by omega) uB with h|⟨j',KZ,r⟩
     ·exact .inl (by omega)
     ·obtain⟨r1,lj',oj',r2,r3,r4⟩:=r
      exact .inr ⟨j',by simp[KZ],r1,lj',oj',r2,r3.trans ta,r4⟩
 ae:=fun i hi du=>by
  simp only[kh,not_or]at du
  rw[h2.ae i (eY hi h1.fh) du.1,h1.ae i hi du.2]
 grow:=fun i o' hi ho=>by
  obtain⟨o1,Bk,a1,b1⟩:=h2.grow i o' (eY hi h1.fh) ho
  obtain⟨o,ho,a,b⟩:=h1.grow i o1 hi Bk
  exact⟨o,ho,a∘a1,b∘b1⟩
 full:=fun i fL mq=>by
  by_cases hi:i<bS.n
  ·obtain⟨l,hl⟩:=h1.full i fL hi
   exact⟨l,(h2.ext i hi).trans hl⟩
  ·exact h2.full i (by omega) mq
 yX:=fun i hi hn=>by
  simp only[kh]at hi
  rcases hi with hi|hi
  ·obtain⟨o1,Bk,IH⟩:=h2.yX i hi (eY hn h1.fh)
   obtain⟨o,ho,a,_⟩:=h1.grow i o1 hn Bk
   exact⟨o,ho,a IH⟩
  ·exact h1.yX i hi hn
def bm.drew{P:Program}{μ:Mu}{w:World}{st:St}(h:bm P μ w st)(n:Nat):bm P μ {w with drawn:=n} st:=
 ⟨h.c_,fun i l hl=>let ⟨o,h1,h2⟩:=h.obj i l hl;⟨o,h1,OM.congr (w:=w) rfl h2⟩,h.inj,h.gU⟩
def bH.alloc{P:Program}{μ:Mu}{w:World}{st:St}(h:bm P μ w st)(o:O)(ob:Obj)(d qX:Nat)
  (ho:OM P (fun i=>if i=st.n then some ⟨w.heap.size,d,qX⟩ else μ i) {w with heap:=w.heap.push ob} o ⟨w.heap.size,d,qX⟩):
  bH P μ w st (fun i=>if i=st.n then some ⟨w.heap.size,d,qX⟩ else μ i) {w with heap:=w.heap.push ob} (st.alloc o) []:=by
 have dr:∀i l,μ i=some l->(fun i=>if i=st.n then some (⟨w.heap.size,d,qX⟩:L) else μ i) i=some l:=fun i l hl=>by
  have:=(h.c_ i l hl).1
  simp only
  rw[ak (by omega)];exact hl
 have hold:∀b,b<w.heap.size->({w with heap:=w.heap.push ob}:World).heap[b]?=w.heap[b]?:=fun b hb=>by
  show (w.heap.push ob)[b]?=_
  rw[Array.getElem?_push,ak (by omega)]
 refine⟨⟨fun i l hl=>?_,fun i l hl=>?_,fun i j l l' oi oj hi hj aW Bk yi hw n9=>?_,fun g hg=>let ⟨t,ht⟩:=h.gU g hg;⟨t,dr g _ ht⟩⟩,fun i hi=>?_,by simp[St.alloc],rfl,⟨rfl,rfl,rfl,by simp,fun b hb _=>hold b hb⟩,
  fun i l hi hl=>?_,fun i hi _=>?_,fun i o' hi wY=>?_,fun i h1 h2=>⟨⟨w.heap.size,d,qX⟩,by simp only[St.alloc]at h2;show (if i=st.n then some (⟨w.heap.size,d,qX⟩:L) else μ i)=_;rw[ay (by omega)]⟩,fun _ hi=>absurd hi (by simp)⟩
 ·by_cases e:i=st.n
  ·simp only[e,if_true,aq]at hl;subst hl;simp[St.alloc,e]
  ·simp only[e,if_false]at hl
   have:=h.c_ i l hl
   simp[St.alloc];omega
 ·by_cases e:i=st.n
  ·simp only[e,if_true,aq]at hl;subst hl
   exact⟨o,by simp[St.alloc,T.ag,e],ho⟩
  ·simp only[e,if_false]at hl
   obtain⟨o1,h1,h2⟩:=h.obj i l hl
   exact⟨o1,by simp[St.alloc,T.ag,e,h1],(h2.mono dr).congr (hold l.b (h.c_ i l hl).2)⟩
 ·by_cases e:i=st.n
  ·by_cases e':j=st.n
   ·exact absurd (e.trans e'.symm) aW
   ·simp only[e,if_true,aq]at hi;simp only[e',if_false]at hj;subst hi
    have:=(h.c_ j l' hj).2
    simp only;omega
  ·simp only[e,if_false]at hi
   by_cases e':j=st.n
   ·simp only[e',if_true,aq]at hj;subst hj
    have:=(h.c_ i l hi).2
    simp only;omega
   ·simp only[e',if_false]at hj
    simp only[St.alloc,T.ag,e,e',if_false]at Bk yi
    exact h.inj i j l l' oi oj hi hj aW Bk yi hw n9
 ·rw[ak (by omega)]
 ·by_cases e:i=st.n
  ·simp only[e,if_true,aq]at hl;subst hl;exact .inl (aQ _)
  ·simp only[e,if_false]at hl
   exact absurd (h.c_ i l hl).1 (by omega)
 ·simp only[St.alloc,T.ag];rw[ak (by omega)]
 ·simp only[St.alloc,T.ag]at wY;rw[ak (by omega)]at wY
  exact⟨o',wY,id,id⟩
def bH.write{P:Program}{μ:Mu}{w w':World}{st:St}(h:bm P μ w st){i:Nat}{l:L}{o o':O}(hi:μ i=some l)(ho:st.h.get i=some o)(hw:o.wr=true)
  (zT:w'.os=w.os) (VV:w'.tape=w.tape) (VW:w'.output=w.output) (kX:w'.heap.size=w.heap.size) (qZ:∀b,b≠l.b->w'.heap[b]?=w.heap[b]?) (wY:OM P μ w' o' l):
  bH P μ w st μ w' (st.write i o') [i]:=by
 have xf:o.live=true:=by cases o<;>simp_all [O.wr,O.live]
 refine⟨⟨fun j lj hj=>?_,fun j lj hj=>?_,fun j k lj lk oj ok hj hk aW h1 h2 Jc fJ=>?_,h.gU⟩,fun _ _=>rfl,aQ _,rfl,⟨zT,VV,VW,by omega,fun b _ du=>qZ b ?_⟩,
  fun j lj hn hj=>?_,fun j _ du=>?_,fun j oj hn hj=>?_,fun j h1 h2=>absurd h2 (by simp only[St.write];omega),fun j hj _=>by simp only[uz]at hj;subst hj;exact⟨o,ho,hw⟩⟩
 ·have:=h.c_ j lj hj
  simp[St.write];omega
 ·by_cases e:j=i
  ·subst e
   rw[hi]at hj;cases hj
   exact⟨o',by simp[St.write,T.ag],wY⟩
  ·obtain⟨oj,h1,h2⟩:=h.obj j lj hj
   refine⟨oj,by simp[St.write,T.ag,e,h1],?_⟩
   cases hl:oj.live
   ·cases oj<;>simp[O.live]at hl
    trivial
   ·exact h2.congr (qZ lj.b (Ne.symm (h.inj i j l lj o oj hi hj (Ne.symm e) ho h1 hw hl)))
 ·simp only[St.write,T.ag]at h1 h2
  by_cases e:j=i
  ·subst e
   rw[hi]at hj;cases hj
   rw[ak (Ne.symm aW)]at h2
   exact h.inj j k l lk o ok hi hk aW ho h2 hw fJ
  ·rw[ak e]at h1
   by_cases e':k=i
   ·subst e'
    exact h.inj j k lj lk oj o hj hk aW h1 ho Jc xf
   ·rw[ak e']at h2
    exact h.inj j k lj lk oj ok hj hk aW h1 h2 Jc fJ
 ·exact Ne.symm (du i (by simp) l hi)
 ·exact absurd (h.c_ j lj hj).1 (by omega)
 ·simp only[uz]at du
  simp[St.write,T.ag,du]
 ·simp only[St.write,T.ag]at hj
  by_cases e:j=i
  ·subst e
   exact⟨o,ho,fun _=>hw,fun _=>xf⟩
  ·rw[ak e]at hj
   exact⟨oj,hj,id,id⟩
end Go.Mx
