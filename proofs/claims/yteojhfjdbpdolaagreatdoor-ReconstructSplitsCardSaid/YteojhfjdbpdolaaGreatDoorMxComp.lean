/-Code of the Go model resolved for the ma-/
import Derived.Test.YteojhfjdbpdolaaGreatDoorMxCore
import Derived.Laws.MakeOwn
import Derived.Laws.CopyRow
import Derived.Laws.Rows
import Derived.Laws.Append
import Derived.Laws.Externs
import Derived.Laws.StructEq
import Derived.RowKit
set_option linter.all false
namespace Go.Mx
mutual
def cV:Value->Option V
 |.bool b=>some (.bool b)
 |.int k n=>some (.int k n)
 |.float k n=>some (.vf k n)
 |.string s=>some (.str s.data.toList)
 |.pointer none=>some .bF
 |.slice none 0 0=>some .aa
 |.map none=>some .bN
 |.chan none=>some .bR
 |.nilFunc=>some .bD
 |.nilIface=>some .a_
 |.agg ⟨l⟩=>match I5 l with
  |some l=>some (.agg l)
  |none=>none
 |.tuple ⟨l⟩=>match I5 l with
  |some l=>some (.aX l)
  |none=>none
 |_=>none
def I5:List Value->Option (List V)
 |[]=>some []
 |v::vs=>match cV v,I5 vs with
  |some v,some vs=>some (v::vs)
  |_,_=>none
end
section
variable (P:Program)
def bB:Operand->Option Src
 |.tmp t=>some (.tmp t)
 |.const v=>match cV v with
  |some v=>some (.const v)
  |none=>none
 |.global g=>if g<P.globals.size then some (.const (.ptr g 0)) else none
 |.func f=>some (.const (.func f [] []))
def vg:List Operand->Option (List Src)
 |[]=>some []
 |x::xs=>match bB P x,vg xs with
  |some x,some xs=>some (x::xs)
  |_,_=>none
def uj:Option Operand->Option (Option Src)
 |none=>some none
 |some x=>match bB P x with
  |some x=>some (some x)
  |none=>none
def e_(t:TypeId):Option Nat:=(P.info? t).map (·.size)
def Ci(t:TypeId):Option Nat:=(P.info? t).map (·.bytes)
def zS(t:TypeId):Option (Option Nat):=
 match P.underlying t with
 |some (.struct _)|some (.array _ _)=>match e_ P t with
  |some n=>some (some n)
  |none=>none
 |some _=>some none
 |none=>none
def qX(t:TypeId):Option V:=
 match P.info? t with
 |some i=>match i.zero with
  |some v=>cV v
  |none=>none
 |none=>none
def Qd:TypeDesc->Option PK
 |.bool=>some .bool
 |.int _=>some .int
 |.string=>some .str
 |.pointer _=>some .ptr
 |.slice _=>some .slice
 |.map _ _=>some .map
 |.func _ _ _=>some .func
 |.chan _ _=>some .chan
 |.interface _=>some .iface
 |_=>none
def I6(q:TypeId->Option sO):List Field->Option (List (Nat×Option Nat×sO))
 |[]=>some []
 |f::fs=>if f.name= "_" then I6 q fs else
  match zS P f.type,q f.type,I6 q fs with
  |some a,some q,some l=>some ((f.offset,a,q)::l)
  |_,_,_=>none
def V6:TypeDesc->Bool
 |.pointer e=>(P.info? e).isSome
 |_=>true
def xc:Nat->TypeId->Option sO
 |0,_=>none
 |d+1,t=>
  match P.underlying t with
  |some (.struct fs)=>
   if P.stoodInHeld t then none else
   match I6 P (xc d) fs.toList with
   |some l=>some (.node l)
   |none=>none
  |some q=>match Qd q with
   |some k=>if V6 P q=true then some (.bX k) else none
   |none=>none
  |none=>none
def Bi(place:Nat->Option (Nat×Nat)):List (Nat×Operand)->Option (List (Nat×Nat×Src))
 |[]=>some []
 |(i,x)::rest=>match place i,bB P x,Bi place rest with
  |some (o,s),some x,some l=>some ((o,s,x)::l)
  |_,_,_=>none
def zT(t:TypeId):Option kL:=
 match P.underlying t with
 |some (.int k)=>some (.int k)
 |some .string=>some .str
 |_=>none
def FZ:Operand->Bool
 |.const _=>true
 |_=>false
def I7(fs:List Field):Option (List (Nat×Nat)):=
 match fs with
 |[]=>some []
 |f::fs=>match e_ P f.type,I7 fs with
  |some s,some l=>some ((f.offset,s)::l)
  |_,_=>none
def yU(name:String):Option Ext:=
 if name= "math/bits.Add64" then some .gH
 else if name= "math/bits.Sub64" then some .jC
 else if name= "internal/abi.NoEscape" then some .same
 else if name= "internal/bytealg.IndexByteString" then some .bW
 else none
def DX(c:Call):Option gh:=
 match c.callee with
 |.value f=>match vg P c.args.toList with
  |none=>none
  |some args=>match f with
   |.func g=>match P.funcs[g]? with
    |some fn=>if fn.body.isSome then some (.call (.const (.func g [] [])) args) else
     match yU fn.name with
     |some e=>some (.ext e args)
     |none=>none
    |none=>none
   |f=>match bB P f with
    |some f=>some (.call f args)
    |none=>none
 |.invoke _ _=>none
 |.builtin b=>
  match b,c.argTypes.toList,c.args.toList with
  |.len,[t],[x]=>
   match P.underlying t,bB P x with
   |some .string,some x=>some (.len 0 x)
   |some (.slice _),some x=>some (.len 1 x)
   |some (.map _ _),some x=>some (.len 2 x)
   |_,_=>none
  |.cap,[t],[x]=>
   match P.underlying t,bB P x with
   |some (.slice _),some x=>some (.cap x)
   |_,_=>none
  |.min,_,_=>match vg P c.args.toList with
   |some l=>some (.mn l)
   |none=>none
  |.max,_,_=>match vg P c.args.toList with
   |some l=>some (.mx l)
   |none=>none
  |.append,[t,u],[s,x]=>
   match P.underlying t with
   |some (.slice e)=>match e_ P e,Ci P e,qX P e,bB P s,bB P x,P.underlying u with
    |some n,some b,some z,some s,some x,some d=>if (d matches .int _)\/b=0\/z.cells.length≠n\/z.cells.all V.one=false then none else some (.append n b e z.cells s x)
    |_,_,_,_,_,_=>none
   |_=>none
  |.copy,t::_,[d,s]=>
   match P.underlying t with
   |some (.slice e)=>match e_ P e,bB P d,bB P s with
    |some n,some d,some s=>some (.copy n d s)
    |_,_,_=>none
   |_=>none
  |.unsafeSliceData,[_],[s]=>(bB P s).map .zU
  |.unsafeString,[t,_],[x,n]=>
   match P.underlying t with
   |some (.pointer e)=>match e_ P e,bB P x,bB P n with
    |some 1,some x,some n=>some (.F0 e x n)
    |_,_,_=>none
   |_=>none
  |_,_,_=>none
def I8:Op->Option gh
 |.move x|.assign x=>(bB P x).map .kh
 |.pick c a b=>match bB P c,bB P a,bB P b with
  |some c,some a,some b=>some (.pick c a b)
  |_,_,_=>none
 |.alloc e=>match qX P e with
  |some z=>if z.cells.all V.one then some (.alloc z.cells e) else none
  |none=>none
 |.box e x=>(bB P x).map (.box e)
 |.build t parts=>match qX P t with
  |none=>none
  |some z=>match P.underlying t with
   |some (.struct fs)=>match I7 P fs.toList with
    |some pl=>(Bi P (pl[·]?) parts.toList).map (.build z.cells)
    |none=>none
   |some (.array _ e)=>match e_ P e with
    |some s=>(Bi P (fun i=>some (i*s,s)) parts.toList).map (.build z.cells)
    |none=>none
   |_=>none
 |.buildSlice t len parts=>match P.underlying t with
  |some (.slice e)=>match e_ P e,qX P e with
   |some s,some z=>if len*s > 2^24\/z.cells.length≠s\/s=0 then none else
    (Bi P (fun i=>some (i*s,s)) parts.toList).map (.eN e s len (cU z.cells len))
   |_,_=>none
  |_=>none
 |.load t a=>match zS P t,bB P a with
  |some n,some a=>some (.load n a)
  |_,_=>none
 |.store t a x=>match e_ P t,bB P a,bB P x with
  |some n,some a,some x=>some (.store n a x)
  |_,_,_=>none
 |.nilCheck x=>(bB P x).map .nZ
 |.binOp op t x y _=>match bB P x,bB P y with
  |some a,some b=>
   match op with
   |.eql|.neq=>match xc P 40 t with
    |some q=>if (match P.underlying t with|some (.struct _)|some (.array _ _)=>P.eqGuardType P.depth t|_=>false) then none else some (.bin op q (FZ x||FZ y) a b)
    |none=>none
   |_=>some (.bin op (.node []) false a b)
  |_,_=>none
 |.unOp op _ x=>(bB P x).map (.un op)
 |.convert src dst x=>match bB P x with
  |none=>none
  |some a=>match P.underlying src,P.underlying dst with
   |some (.int _),some (.int k)=>some (.cW k a)
   |some .string,some (.slice e)=>match P.underlying e with
    |some (.int .u8)=>some (.jD e a)
    |_=>none
   |some (.slice e),some .string=>match P.underlying e with
    |some (.int .u8)=>some (.n_ a)
    |_=>none
   |some (.pointer t),some .unsafePointer=>match e_ P t with
    |some (_+1)=>some (.I9 none a)
    |_=>none
   |some .unsafePointer,some (.pointer u)=>match e_ P u with
    |some (z+1)=>some (.I9 (some (u,z+1)) a)
    |_=>none
   |_,_=>none
 |.makeInterface t x=>match P.underlying t with
  |some (.interface _)=>none
  |some _=>(bB P x).map (.g_ t)
  |none=>none
 |.makeFunc (.func f) first gj=>match vg P first.toList,vg P gj.toList with
  |some a,some l=>some (.ja f a l)
  |_,_=>none
 |.makeMap _ none=>some .xd
 |.makeSlice t l c=>match P.underlying t with
  |some (.slice e)=>match e_ P e,Ci P e,qX P e,bB P l,bB P c with
   |some s,some b,some z,some l,some c=>if z.cells.all V.one then some (.jE e s b z.cells l c) else none
   |_,_,_,_,_=>none
  |_=>none
 |.slice t x lo hi mx=>match bB P x,uj P lo,uj P hi,uj P mx with
  |some x,some lo,some hi,some mx=>match P.underlying t with
   |some .string=>if mx.isSome then none else some (.cj x lo hi)
   |some (.slice e)=>(e_ P e).map fun s=>.mK s x lo hi mx
   |some (.array n e)=>(e_ P e).map fun s=>.jF n s x lo hi mx
   |_=>none
  |_,_,_,_=>none
 |.fieldAddr t x i=>match P.underlying t,bB P x with
  |some (.struct fs),some x=>match fs[i]? with
   |some f=>match e_ P f.type with
    |some (_+1)=>some (.iP f.offset x)
    |_=>none
   |none=>none
  |_,_=>none
 |.indexAddr t x i=>match P.underlying t,bB P x,bB P i with
  |some (.array n e),some x,some i=>(e_ P e).map fun s=>.gI n s x i
  |some (.slice e),some x,some i=>(e_ P e).map fun s=>.fg s x i
  |_,_,_=>none
 |.index t x i=>match P.underlying t,bB P x,bB P i with
  |some .string,some x,some i=>some (.bI x i)
  |_,_,_=>none
 |.lookup t m k ok=>match P.underlying t,bB P m,bB P k with
  |some (.map kt e),some m,some k=>match zT P kt,qX P e with
   |some kd,some z=>some (.lookup kd z m k ok)
   |_,_=>none
  |_,_,_=>none
 |.mapUpdate t m k v|.insert t m k v=>match P.underlying t,bB P m,bB P k,bB P v with
  |some (.map kt _),some m,some k,some v=>(zT P kt).map fun kd=>.vi kd m k v
  |_,_,_,_=>none
 |.range t x=>match P.underlying t,bB P x with
  |some .string,some x=>some (.jG x)
  |_,_=>none
 |.next it true=>(bB P it).map .qY
 |.extract x i=>(bB P x).map fun x=>.extract x i
 |.call c=>DX P c
 |_=>none
def zV(o:Op):gh:=(I8 P o).getD .stop
def F3(ops:Array Oper):Option (Nat×Bool)->Option (Option (Nat×Bool))
 |none=>some none
 |some (j,want)=>match (ops[j]?).bind (·.dst)with
  |some t=>some (some (t,want))
  |none=>none
def qZ(ops:Array Oper)(o:Oper):dw:=
 match F3 ops o.guard with
 |some g=>{dst:=o.dst,op:=zV P o.op,guard:=g}
 |none=>{dst:=o.dst,op:=.stop,guard:=none}
def K0(o:Oper)(ms:List Nat):Nat:=
 o.after.foldl (fun s e=>if Region.binds .any e then s|||2^e.on|||ms.getD e.on 0 else s) 0
def vj:List Oper->List Nat->List Nat
 |[],acc=>acc
 |o::rest,acc=>vj rest (acc++[K0 o acc])
def Ywq(_:Program)(o:Oper):Option (Option Nat×Src×Option Src×V):=none
def Ja:Nat->List Oper->Bool
 |_,[]=>true
 |i,o::os=>(o.after.all fun e=>!Region.binds .any e||Nat.blt e.on i)&&Ja (i+1) os
def V7(ops:Array Oper):Bool:=Ja 0 ops.toList&&ct Qe (ops.toList.map (qZ P ops)) (vj ops.toList [])
def iF:Code->bU
 |.skip=>.skip
 |.region _ ops false=>match ops.toList with
  |[]=>.dN []
  |o::rest=>match Ywq P o with
   |some (d,ch,s,z)=>.yl d ch s z (rest.map (qZ P ops))
   |none=>.dN ((o::rest).map (qZ P ops))
 |.region _ ops true=>if V7 P ops then .du (ops.toList.map (qZ P ops)) (vj ops.toList []) else .stop
 |.seq a b=>.seq (iF a) (iF b)
 |.cond c a b=>match bB P c with
  |some c=>.cond c (iF a) (iF b)
  |none=>.stop
 |.block id c=>.block id (iF c)
 |.loop c=>.loop (iF c)
 |.rangeFunc g ps assign body=>match bB P g with
  |some g=>.q8 g ps.toList (iF assign) (iF body)
  |none=>.stop
 |.exit id=>.exit id
 |.scope c=>.scope (iF c)
 |.label _=>.skip
 |.goto _=>.stop
 |.ret=>.ret
 |.refuse _=>.stop
def DY:List ResultVar->Option (List F4)
 |[]=>some []
 |.tmp t::rest=>(DY rest).map (.tmp t::·)
 |.cell t ty::rest=>match zS P ty,DY rest with
  |some n,some l=>some (.cell t n::l)
  |_,_=>none
def yV(f:FuncId):Option lC:=
 match P.funcs[f]? with
 |some fn=>match fn.body,DY P fn.results.toList with
  |some c,some rs=>some {ntmps:=fn.ntmps,results:=rs,body:=iF P c}
  |_,_=>none
 |none=>none
end
open Go
structure L where
 b:Nat
 d:Nat
 q9:Nat
abbrev Mu:=Nat->Option L
mutual
def VR(μ:Mu):V->Value->Prop
 |.bool b,x=>x=.bool b
 |.int k n,x=>x=.int k n
 |.vf k n,x=>x=.float k n
 |.str s,x=>x=.string ⟨s.toArray⟩
 |.bF,x=>x=.pointer none
 |.ptr i o,x=>∃l,μ i=some l/\x=.pointer (some ⟨l.b,l.d+o,none⟩)
 |.aa,x=>x=.slice none 0 0
 |.slice i o len cap sz,x=>∃l c,μ i=some l/\x=.slice (some ⟨l.b,l.d+o,none⟩) len c/\len<=c/\o+c*sz<=l.q9/\
   (∀k,cap=some k->c=k)/\(cap=none->o+c*sz=l.q9)
 |.empty,x=>∃a c,x=.slice (some a) 0 c
 |.bN,x=>x=.map none
 |.map i,x=>∃l,μ i=some l/\x=.map (some l.b)
 |.bR,x=>x=.chan none
 |.chan i,x=>∃l,μ i=some l/\x=.chan (some l.b)
 |.func f a c,x=>∃a' c',x=.func (.func f) ⟨a'⟩ ⟨c'⟩/\aV μ a a'/\aV μ c c'
 |.yield i,x=>∃l,μ i=some l/\x=.func (.yield l.b) #[] #[]
 |.bD,x=>x=.nilFunc
 |.iface t v,x=>∃y,x=.iface t y/\VR μ v y
 |.a_,x=>x=.nilIface
 |.agg vs,x=>∃a,x=.agg ⟨a⟩/\aV μ vs a
 |.aX vs,x=>∃a,x=.tuple ⟨a⟩/\aV μ vs a
def aV(μ:Mu):List V->List Value->Prop
 |[],xs=>xs=[]
 |v::vs,xs=>∃y ys,xs=y::ys/\VR μ v y/\aV μ vs ys
end
mutual
def VR.mono{μ μ':Mu}(h:∀i l,μ i=some l->μ' i=some l):∀(v:V) (x:Value),VR μ v x->VR μ' v x
 |.bool _,_,hx=>by simpa[VR]using hx
 |.int _ _,_,hx=>by simpa[VR]using hx
 |.vf _ _,_,hx=>by simpa[VR]using hx
 |.str _,_,hx=>by simpa[VR]using hx
 |.bF,_,hx=>by simpa[VR]using hx
 |.ptr _ _,_,hx=>by simp only[VR]at*;obtain⟨l,h1,h2⟩:=hx;exact⟨l,h _ _ h1,h2⟩
 |.aa,_,hx=>by simpa[VR]using hx
 |.slice _ _ _ _ _,_,hx=>by simp only[VR]at*;obtain⟨l,c,h1,h2⟩:=hx;exact⟨l,c,h _ _ h1,h2⟩
 |.empty,_,hx=>by simpa[VR]using hx
 |.bN,_,hx=>by simpa[VR]using hx
 |.map _,_,hx=>by simp only[VR]at*;obtain⟨l,h1,h2⟩:=hx;exact⟨l,h _ _ h1,h2⟩
 |.bR,_,hx=>by simpa[VR]using hx
 |.chan _,_,hx=>by simp only[VR]at*;obtain⟨l,h1,h2⟩:=hx;exact⟨l,h _ _ h1,h2⟩
 |.func _ a c,_,hx=>by
  simp only[VR]at*;obtain⟨a',c',h1,h2,h3⟩:=hx
  exact⟨a',c',h1,aV.mono h a a' h2,aV.mono h c c' h3⟩
 |.yield _,_,hx=>by simp only[VR]at*;obtain⟨l,h1,h2⟩:=hx;exact⟨l,h _ _ h1,h2⟩
 |.bD,_,hx=>by simpa[VR]using hx
 |.iface _ v,_,hx=>by simp only[VR]at*;obtain⟨y,h1,h2⟩:=hx;exact⟨y,h1,VR.mono h v y h2⟩
 |.a_,_,hx=>by simpa[VR]using hx
 |.agg vs,_,hx=>by simp only[VR]at*;obtain⟨a,h1,h2⟩:=hx;exact⟨a,h1,aV.mono h vs a h2⟩
 |.aX vs,_,hx=>by simp only[VR]at*;obtain⟨a,h1,h2⟩:=hx;exact⟨a,h1,aV.mono h vs a h2⟩
def aV.mono{μ μ':Mu}(h:∀i l,μ i=some l->μ' i=some l):∀(vs:List V) (xs:List Value),aV μ vs xs->aV μ' vs xs
 |[],_,hx=>by simpa[aV]using hx
 |v::vs,_,hx=>by
  simp only[aV]at*
  obtain⟨y,ys,h1,h2,h3⟩:=hx
  exact⟨y,ys,h1,VR.mono h v y h2,aV.mono h vs ys h3⟩
end
section
variable {μ:Mu}
def lD{v:V}{vs:List V}{xs:List Value}:aV μ (v::vs) xs↔∃y ys,xs=y::ys/\VR μ v y/\aV μ vs ys:=by simp[aV]
def aV.length:∀{vs:List V} {xs:List Value},aV μ vs xs->xs.length=vs.length
 |[],_,h=>by simp[aV]at h;simp[h]
 |v::vs,_,h=>by
  obtain⟨y,ys,rfl,_,h3⟩:=lD.1 h
  simp[aV.length h3]
def aV.get:∀{vs:List V} {xs:List Value},aV μ vs xs->∀{i:Nat} {v:V},vs[i]?=some v->∃x,xs[i]?=some x/\VR μ v x
 |[],_,_,i,v,hv=>by simp at hv
 |w::vs,_,h,i,v,hv=>by
  obtain⟨y,ys,rfl,h2,h3⟩:=lD.1 h
  cases i with
  |zero=>simp at hv;subst hv;exact⟨y,by simp,h2⟩
  |succ i=>simpa using aV.get h3 (i:=i) (by simpa using hv)
def aV.append:∀{vs ws:List V} {xs ys:List Value},aV μ vs xs->aV μ ws ys->aV μ (vs++ws) (xs++ys)
 |[],ws,_,ys,h,h'=>by simp[aV]at h;simpa[h]using h'
 |v::vs,ws,_,ys,h,h'=>by
  obtain⟨y,zs,rfl,h2,h3⟩:=lD.1 h
  exact lD.2 ⟨y,zs++ys,rfl,h2,aV.append h3 h'⟩
def aV.take:∀{vs:List V} {xs:List Value} (n:Nat),aV μ vs xs->aV μ (vs.take n) (xs.take n)
 |[],_,n,h=>by simp[aV]at h;simp[h,aV]
 |v::vs,_,n,h=>by
  obtain⟨y,zs,rfl,h2,h3⟩:=lD.1 h
  cases n with
  |zero=>simp[aV]
  |succ n=>exact lD.2 ⟨y,zs.take n,rfl,h2,aV.take n h3⟩
def aV.drop:∀{vs:List V} {xs:List Value} (n:Nat),aV μ vs xs->aV μ (vs.drop n) (xs.drop n)
 |[],_,n,h=>by simp[aV]at h;simp[h,aV]
 |v::vs,_,n,h=>by
  cases n with
  |zero=>simpa using h
  |succ n=>
   obtain⟨y,zs,rfl,h2,h3⟩:=lD.1 h
   simpa using aV.drop n h3
def aV.q_:∀{vs:List V} {xs:List Value},xs.length=vs.length->(∀(i:Nat) (v:V),vs[i]?=some v->∃x,xs[i]?=some x/\VR μ v x)->aV μ vs xs
 |[],xs,hl,_=>by simp at hl;simp[aV,hl]
 |v::vs,[],hl,_=>by simp at hl
 |v::vs,x::xs,hl,h=>by
  refine lD.2 ⟨x,xs,rfl,?_,aV.q_ (by simpa using hl) fun i u hu=>?_⟩
  ·obtain⟨y,h1,h2⟩:=h 0 v (by simp)
   simp at h1;subst h1;exact h2
  ·simpa using h (i+1) u (by simpa using hu)
def VR.one{v:V}{x:Value}(h:VR μ v x)(hv:v.one=true):x.oneCell'=true:=by
 cases v<;>simp only[VR]at h<;>simp only[V.one,fH]at hv
 case bool=>subst h;rfl
 case int=>subst h;rfl
 case vf=>subst h;rfl
 case str=>subst h;rfl
 case bF=>subst h;rfl
 case ptr=>obtain⟨l,_,rfl⟩:=h;rfl
 case aa=>subst h;rfl
 case slice=>obtain⟨l,c,_,rfl,_⟩:=h;rfl
 case empty=>obtain⟨a,c,rfl⟩:=h;rfl
 case bN=>subst h;rfl
 case map=>obtain⟨l,_,rfl⟩:=h;rfl
 case bR=>subst h;rfl
 case chan=>obtain⟨l,_,rfl⟩:=h;rfl
 case func=>obtain⟨a,c,rfl,_⟩:=h;rfl
 case yield=>obtain⟨l,_,rfl⟩:=h;rfl
 case bD=>subst h;rfl
 case iface=>obtain⟨y,rfl,_⟩:=h;rfl
 case a_=>subst h;rfl
def VR.cells{v:V}{x:Value}(h:VR μ v x):aV μ v.cells x.cells.toList:=by
 have one:∀y:Value,x=y->(y.cells=#[y])->v.cells=[v]->aV μ v.cells x.cells.toList:=fun y e hc hv=>by
  subst e;rw[hc,hv];exact lD.2 ⟨_,[],rfl,h,by simp[aV]⟩
 have h0:=h
 cases v<;>simp only[VR]at h
 case bool=>exact one _ h rfl rfl
 case int=>exact one _ h rfl rfl
 case vf=>exact one _ h rfl rfl
 case str=>exact one _ h rfl rfl
 case bF=>exact one _ h rfl rfl
 case ptr=>obtain⟨l,_,e⟩:=h;exact one _ e rfl rfl
 case aa=>exact one _ h rfl rfl
 case slice=>obtain⟨l,c,_,e,_⟩:=h;exact one _ e rfl rfl
 case empty=>obtain⟨a,c,e⟩:=h;exact one _ e rfl rfl
 case bN=>exact one _ h rfl rfl
 case map=>obtain⟨l,_,e⟩:=h;exact one _ e rfl rfl
 case bR=>exact one _ h rfl rfl
 case chan=>obtain⟨l,_,e⟩:=h;exact one _ e rfl rfl
 case func=>obtain⟨a,c,e,_⟩:=h;exact one _ e rfl rfl
 case yield=>obtain⟨l,_,e⟩:=h;exact one _ e rfl rfl
 case bD=>exact one _ h rfl rfl
 case iface=>obtain⟨y,e,_⟩:=h;exact one _ e rfl rfl
 case a_=>exact one _ h rfl rfl
 case agg vs=>obtain⟨a,rfl,h⟩:=h;exact h
 case aX vs=>obtain⟨a,e,_⟩:=h;exact one _ e rfl rfl
end
def RR(μ:Mu)(r:T V)(n:Nat)(tmps:Array Value):Prop:=
 tmps.size=n/\∀t v,r.get t=some v->∃x,tmps[t]?=some x/\VR μ v x
def RR.mono{μ μ':Mu}{r:T V}{n:Nat}{tmps:Array Value}(h:∀i l,μ i=some l->μ' i=some l)(hr:RR μ r n tmps):RR μ' r n tmps:=
 ⟨hr.1,fun t v hv=>let ⟨x,h1,h2⟩:=hr.2 t v hv;⟨x,h1,VR.mono h v x h2⟩⟩
def RR.set{μ:Mu}{r:T V}{n:Nat}{tmps:Array Value}(hr:RR μ r n tmps){d:Nat}(hd:d<n){v:V}{x:Value}(hv:VR μ v x):
  RR μ (r.set d v) n (tmps.setIfInBounds d x):=by
 refine⟨by simp[hr.1],fun t u hu=>?_⟩
 rw[T.ag]at hu
 by_cases e:t=d
 ·subst e
  simp at hu;subst hu
  exact⟨x,by simp[hr.1,hd],hv⟩
 ·simp[e]at hu
  obtain⟨y,h1,h2⟩:=hr.2 t u hu
  exact⟨y,by rw[Qf (Ne.symm e)];exact h1,h2⟩
def zW:Ex->Option Code
 |.normal=>none
 |.exit id=>some (.exit id)
 |.ret=>some .ret
def iG(μ:Mu):List (V×V)->List MapEntry->Nat->Prop
 |[],xs,_=>xs=[]
 |(k,v)::es,xs,i=>∃e ys,xs=e::ys/\VR μ k e.key/\VR μ v e.val/\e.born=i/\iG μ es ys (i+1)
def iG.mono{μ μ':Mu}(h:∀i l,μ i=some l->μ' i=some l):∀(es:List (V×V)) (xs:List MapEntry) (i:Nat),iG μ es xs i->iG μ' es xs i
 |[],_,_,hx=>hx
 |(k,v)::es,_,i,hx=>by
  obtain⟨e,ys,h1,h2,h3,h4,h5⟩:=hx
  exact⟨e,ys,h1,VR.mono h k _ h2,VR.mono h v _ h3,h4,iG.mono h es ys (i+1) h5⟩
def OM(P:Program)(μ:Mu)(w:World):O->L->Prop
 |.cells c e rw,l=>∃(c':Array Value) (lo hi:Nat),w.heap[l.b]?=some (.cells c' e (lo,hi))/\l.d+l.q9<=c'.size/\c.length<=l.q9/\
   (∀(j:Nat) (v:V),c[j]?=some v->∃x,c'[l.d+j]?=some x/\VR μ v x)/\(∀(j:Nat) (x:Value),j<l.q9->c'[l.d+j]?=some x->x.oneCell'=true)/\(rw=true->l.d=0/\∀j,j<l.q9->¬(lo<=l.d+j/\l.d+j<hi))
 |.map es,l=>∃gJ:List MapEntry,w.heap[l.b]?=some (.map ⟨gJ⟩ gJ.length)/\iG μ es gJ 0
 |.chan cap buf,l=>∃(Cj:List Value) (s r:Nat),w.heap[l.b]?=some (.chan cap ⟨Cj⟩ false s r false)/\aV μ buf Cj
 |.eG s pos,l=>w.heap[l.b]?=some (.stringIter ⟨s.toArray⟩ pos)/\l.d=0
 |.loop R,l=>∃fn tmps fK fL ld,w.heap[l.b]?=some (.loop {state:=R.st,pending:=R.iH.bind zW,fn:=fn,tmps:=tmps,params:=⟨R.ps⟩,assign:=fK,body:=fL,defers:=ld.b})/\
   RR μ R.r R.n tmps/\iF P fK=R.assign/\iF P fL=R.body/\μ R.defs=some ld
 |.defs o,l=>w.heap[l.b]?=some (.deferred (if o then some [] else none))
 |.dead,_=>True
def OM.mono{P:Program}{μ μ':Mu}{w:World}(h:∀i l,μ i=some l->μ' i=some l){o:O}{l:L}(ho:OM P μ w o l):OM P μ' w o l:=by
 cases o with
 |cells c e rw=>
  obtain⟨c',lo,hi,h1,h2,h3,h4,h5⟩:=ho
  exact⟨c',lo,hi,h1,h2,h3,fun j v hv=>let ⟨x,a,b⟩:=h4 j v hv;⟨x,a,VR.mono h v x b⟩,h5⟩
 |map es=>obtain⟨gJ,h1,h2⟩:=ho;exact⟨gJ,h1,iG.mono h _ _ _ h2⟩
 |chan cap buf=>obtain⟨b',s,r,h1,h2⟩:=ho;exact⟨b',s,r,h1,aV.mono h _ _ h2⟩
 |eG s pos=>simp only[OM]at*;exact ho
 |loop R=>obtain⟨fn,tmps,fK,fL,ld,h1,h2,h3,h4,h5⟩:=ho;exact⟨fn,tmps,fK,fL,ld,h1,h2.mono h,h3,h4,h _ _ h5⟩
 |defs b=>simp only[OM]at*;exact ho
 |dead=>trivial
def OM.congr{P:Program}{μ:Mu}{w w':World}{o:O}{l:L}(hb:w'.heap[l.b]?=w.heap[l.b]?)(ho:OM P μ w o l):OM P μ w' o l:=by
 cases o with
 |cells c e rw=>obtain⟨c',lo,hi,h1,h2⟩:=ho;exact⟨c',lo,hi,hb.trans h1,h2⟩
 |map es=>obtain⟨gJ,h1,h2⟩:=ho;exact⟨gJ,hb.trans h1,h2⟩
 |chan cap buf=>obtain⟨b',s,r,h1,h2⟩:=ho;exact⟨b',s,r,hb.trans h1,h2⟩
 |eG s pos=>exact⟨hb.trans ho.1,ho.2⟩
 |loop R=>obtain⟨fn,tmps,fK,fL,ld,h1,h2⟩:=ho;exact⟨fn,tmps,fK,fL,ld,hb.trans h1,h2⟩
 |defs b=>exact hb.trans ho
 |dead=>trivial
structure bm (P:Program) (μ:Mu) (w:World) (st:St):Prop where
 dc:∀i l,μ i=some l->i<st.n/\l.b<w.heap.size
 obj:∀i l,μ i=some l->∃o,st.h.get i=some o/\OM P μ w o l
 inj:∀i j l l' o o',μ i=some l->μ j=some l'->i≠j->st.h.get i=some o->st.h.get j=some o'->o.wr=true->o'.live=true->l.b≠l'.b
 gK:∀g,g<P.globals.size->∃t,μ g=some ⟨g,0,t⟩
structure K3 (μ:Mu) (ws:List Nat) (w w':World):Prop where
 os:w'.os=w.os
 tape:w'.tape=w.tape
 output:w'.output=w.output
 size:w.heap.size<=w'.heap.size
 block:∀b,b<w.heap.size->(∀i∈ws,∀l,μ i=some l->l.b≠b)->w'.heap[b]?=w.heap[b]?
structure bH (P:Program) (μ:Mu) (w:World) (st:St) (μ':Mu) (w':World) (aC:St) (ws:List Nat):Prop where
 hr:bm P μ' w' aC
 ext:∀i,i<st.n->μ' i=μ i
 fx:st.n<=aC.n
 wl:aC.w=ws++st.w
 eg:K3 μ ws w w'
 new:∀i l,st.n<=i->μ' i=some l->w.heap.size<=l.b\/∃j∈ws,j<st.n/\∃lj oj,μ j=some lj/\lj.b=l.b/\st.h.get j=some oj/\oj.wr=true
 ae:∀i,i<st.n->i∉ws->aC.h.get i=st.h.get i
 grow:∀i o',i<st.n->aC.h.get i=some o'->∃o,st.h.get i=some o/\(o'.wr=true->o.wr=true)/\(o'.live=true->o.live=true)
 full:∀i,st.n<=i->i<aC.n->∃l,μ' i=some l
 yW:∀i∈ws,i<st.n->∃o,st.h.get i=some o/\o.wr=true
def bm.F5{P:Program}{μ μ':Mu}{w:World}{st:St}(h:bm P μ w st)(he:∀i,i<st.n->μ' i=μ i):∀i l,μ i=some l->μ' i=some l:=
 fun i l hi=>(he i (h.dc i l hi).1).trans hi
def K3.refl(μ:Mu)(ws:List Nat)(w:World):K3 μ ws w w:=⟨rfl,rfl,rfl,aM _,fun _ _ _=>rfl⟩
def bH.refl{P:Program}{μ:Mu}{w:World}{st:St}(h:bm P μ w st):bH P μ w st μ w st []:=
 ⟨h,fun _ _=>rfl,aM _,rfl,K3.refl μ [] w,fun i l hi hl=>absurd (h.dc i l hl).1 (by omega),fun _ _ _=>rfl,fun _ o' _ ho=>⟨o',ho,id,id⟩,fun _ h1 h2=>absurd h2 (by omega),fun _ hi=>absurd hi (by simp)⟩
def bH.trans{P:Program}{μ μ1 μ2:Mu}{w w1 w2:World}{st bY fh:St}{ws Qg:List Nat}
  (h1:bH P μ w st μ1 w1 bY ws) (h2:bH P μ1 w1 bY μ2 w2 fh Qg):bH P μ w st μ2 w2 fh (Qg++ws) where
 hr:=h2.hr
 ext:=fun i hi=>(h2.ext i (eX hi h1.fx)).trans (h1.ext i hi)
 fx:=k_ h1.fx h2.fx
 wl:=by rw[h2.wl,h1.wl,td]
 eg:=by
  refine⟨h2.eg.os.trans h1.eg.os,h2.eg.tape.trans h1.eg.tape,h2.eg.output.trans h1.eg.output,k_ h1.eg.size h2.eg.size,fun b hb dB=>?_⟩
  rw[h2.eg.block b (eX hb h1.eg.size) fun i hi l hl=>?_,h1.eg.block b hb fun i hi l hl=>dB i (by simp[hi]) l hl]
  by_cases Bj:i<st.n
  ·exact dB i (by simp[hi]) l (by rw[<-h1.ext i Bj];exact hl)
  ·rcases h1.new i l (by omega) hl with h|⟨j,hj,_,lj,oj,uk,sK,_⟩
   ·omega
   ·rw[<-sK];exact dB j (by simp[hj]) lj uk
 new:=fun i l hi hl=>by
  by_cases Bj:i<bY.n
  ·rcases h1.new i l hi (by rw[<-h2.ext i Bj];exact hl)with h|⟨j,hj,r⟩
   ·exact .inl h
   ·exact .inr ⟨j,by simp[hj],r⟩
  ·rcases h2.new i l (by omega) hl with h|⟨j,hj,F6,lj,oj,uk,sK,F7,how⟩
   ·exact .inl (k_ h1.eg.size h)
   ·by_cases hjn':j<st.n
    ·obtain⟨o,ho,hw,_⟩:=h1.grow j oj hjn' F7
     exact .inr ⟨j,by simp[hj],hjn',lj,o,by rw[<-h1.ext j hjn'];exact uk,sK,ho,hw how⟩
    ·rcases h1.new j lj (by omega) uk with h|⟨j',K4,r⟩
     ·exact .inl (by omega)
     ·obtain⟨r1,lj',oj',r2,r3,r4⟩:=r
      exact .inr ⟨j',by simp[K4],r1,lj',oj',r2,r3.trans sK,r4⟩
 ae:=fun i hi dB=>by
  simp only[mE,not_or]at dB
  rw[h2.ae i (eX hi h1.fx) dB.1,h1.ae i hi dB.2]
 grow:=fun i o' hi ho=>by
  obtain⟨o1,Bk,a1,b1⟩:=h2.grow i o' (eX hi h1.fx) ho
  obtain⟨o,ho,a,b⟩:=h1.grow i o1 hi Bk
  exact⟨o,ho,a∘a1,b∘b1⟩
 full:=fun i fI kI=>by
  by_cases hi:i<bY.n
  ·obtain⟨l,hl⟩:=h1.full i fI hi
   exact⟨l,(h2.ext i hi).trans hl⟩
  ·exact h2.full i (by omega) kI
 yW:=fun i hi hn=>by
  simp only[mE]at hi
  rcases hi with hi|hi
  ·obtain⟨o1,Bk,Qh⟩:=h2.yW i hi (eX hn h1.fx)
   obtain⟨o,ho,a,_⟩:=h1.grow i o1 hn Bk
   exact⟨o,ho,a Qh⟩
  ·exact h1.yW i hi hn
def bm.drew{P:Program}{μ:Mu}{w:World}{st:St}(h:bm P μ w st)(n:Nat):bm P μ {w with drawn:=n} st:=
 ⟨h.dc,fun i l hl=>let ⟨o,h1,h2⟩:=h.obj i l hl;⟨o,h1,OM.congr (w:=w) rfl h2⟩,h.inj,h.gK⟩
def bH.alloc{P:Program}{μ:Mu}{w:World}{st:St}(h:bm P μ w st)(o:O)(ob:Obj)(d q9:Nat)
  (ho:OM P (fun i=>if i=st.n then some ⟨w.heap.size,d,q9⟩ else μ i) {w with heap:=w.heap.push ob} o ⟨w.heap.size,d,q9⟩):
  bH P μ w st (fun i=>if i=st.n then some ⟨w.heap.size,d,q9⟩ else μ i) {w with heap:=w.heap.push ob} (st.alloc o) []:=by
 have dC:∀i l,μ i=some l->(fun i=>if i=st.n then some (⟨w.heap.size,d,q9⟩:L) else μ i) i=some l:=fun i l hl=>by
  have:=(h.dc i l hl).1
  simp only
  rw[ak (by omega)];exact hl
 have hold:∀b,b<w.heap.size->({w with heap:=w.heap.push ob}:World).heap[b]?=w.heap[b]?:=fun b hb=>by
  show (w.heap.push ob)[b]?=_
  rw[Array.getElem?_push,ak (by omega)]
 refine⟨⟨fun i l hl=>?_,fun i l hl=>?_,fun i j l l' oi oj hi hj aW Bk ym hw nO=>?_,fun g hg=>let ⟨t,ht⟩:=h.gK g hg;⟨t,dC g _ ht⟩⟩,fun i hi=>?_,by simp[St.alloc],rfl,⟨rfl,rfl,rfl,by simp,fun b hb _=>hold b hb⟩,
  fun i l hi hl=>?_,fun i hi _=>?_,fun i o' hi xe=>?_,fun i h1 h2=>⟨⟨w.heap.size,d,q9⟩,by simp only[St.alloc]at h2;show (if i=st.n then some (⟨w.heap.size,d,q9⟩:L) else μ i)=_;rw[av (by omega)]⟩,fun _ hi=>absurd hi (by simp)⟩
 ·by_cases e:i=st.n
  ·simp only[e,if_true,al]at hl;subst hl;simp[St.alloc,e]
  ·simp only[e,if_false]at hl
   have:=h.dc i l hl
   simp[St.alloc];omega
 ·by_cases e:i=st.n
  ·simp only[e,if_true,al]at hl;subst hl
   exact⟨o,by simp[St.alloc,T.ag,e],ho⟩
  ·simp only[e,if_false]at hl
   obtain⟨o1,h1,h2⟩:=h.obj i l hl
   exact⟨o1,by simp[St.alloc,T.ag,e,h1],(h2.mono dC).congr (hold l.b (h.dc i l hl).2)⟩
 ·by_cases e:i=st.n
  ·by_cases e':j=st.n
   ·exact absurd (e.trans e'.symm) aW
   ·simp only[e,if_true,al]at hi;simp only[e',if_false]at hj;subst hi
    have:=(h.dc j l' hj).2
    simp only;omega
  ·simp only[e,if_false]at hi
   by_cases e':j=st.n
   ·simp only[e',if_true,al]at hj;subst hj
    have:=(h.dc i l hi).2
    simp only;omega
   ·simp only[e',if_false]at hj
    simp only[St.alloc,T.ag,e,e',if_false]at Bk ym
    exact h.inj i j l l' oi oj hi hj aW Bk ym hw nO
 ·rw[ak (by omega)]
 ·by_cases e:i=st.n
  ·simp only[e,if_true,al]at hl;subst hl;exact .inl (aM _)
  ·simp only[e,if_false]at hl
   exact absurd (h.dc i l hl).1 (by omega)
 ·simp only[St.alloc,T.ag];rw[ak (by omega)]
 ·simp only[St.alloc,T.ag]at xe;rw[ak (by omega)]at xe
  exact⟨o',xe,id,id⟩
def bH.write{P:Program}{μ:Mu}{w w':World}{st:St}(h:bm P μ w st){i:Nat}{l:L}{o o':O}(hi:μ i=some l)(ho:st.h.get i=some o)(hw:o.wr=true)
  (zX:w'.os=w.os) (V8:w'.tape=w.tape) (V9:w'.output=w.output) (kM:w'.heap.size=w.heap.size) (ra:∀b,b≠l.b->w'.heap[b]?=w.heap[b]?) (xe:OM P μ w' o' l):
  bH P μ w st μ w' (st.write i o') [i]:=by
 have xf:o.live=true:=by cases o<;>simp_all [O.wr,O.live]
 refine⟨⟨fun j lj hj=>?_,fun j lj hj=>?_,fun j k lj lk oj ok hj hk aW h1 h2 Jb fM=>?_,h.gK⟩,fun _ _=>rfl,aM _,rfl,⟨zX,V8,V9,by omega,fun b _ dB=>ra b ?_⟩,
  fun j lj hn hj=>?_,fun j _ dB=>?_,fun j oj hn hj=>?_,fun j h1 h2=>absurd h2 (by simp only[St.write];omega),fun j hj _=>by simp only[wR]at hj;subst hj;exact⟨o,ho,hw⟩⟩
 ·have:=h.dc j lj hj
  simp[St.write];omega
 ·by_cases e:j=i
  ·subst e
   rw[hi]at hj;cases hj
   exact⟨o',by simp[St.write,T.ag],xe⟩
  ·obtain⟨oj,h1,h2⟩:=h.obj j lj hj
   refine⟨oj,by simp[St.write,T.ag,e,h1],?_⟩
   cases hl:oj.live
   ·cases oj<;>simp[O.live]at hl
    trivial
   ·exact h2.congr (ra lj.b (Ne.symm (h.inj i j l lj o oj hi hj (Ne.symm e) ho h1 hw hl)))
 ·simp only[St.write,T.ag]at h1 h2
  by_cases e:j=i
  ·subst e
   rw[hi]at hj;cases hj
   rw[ak (Ne.symm aW)]at h2
   exact h.inj j k l lk o ok hi hk aW ho h2 hw fM
  ·rw[ak e]at h1
   by_cases e':k=i
   ·subst e'
    exact h.inj j k lj lk oj o hj hk aW h1 ho Jb xf
   ·rw[ak e']at h2
    exact h.inj j k lj lk oj ok hj hk aW h1 h2 Jb fM
 ·exact Ne.symm (dB i (by simp) l hi)
 ·exact absurd (h.dc j lj hj).1 (by omega)
 ·simp only[wR]at dB
  simp[St.write,T.ag,dB]
 ·simp only[St.write,T.ag]at hj
  by_cases e:j=i
  ·subst e
   exact⟨o,ho,fun _=>hw,fun _=>xf⟩
  ·rw[ak e]at hj
   exact⟨oj,hj,id,id⟩
end Go.Mx
