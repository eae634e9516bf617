/-Code of the Go model resolved for the ma-/
import Derived.Test.YteoackkadadmdaaGreatDoorMxCore
import Derived.Laws.MakeOwn
import Derived.Laws.CopyRow
import Derived.Laws.Rows
import Derived.Laws.Append
import Derived.Laws.Externs
import Derived.Laws.StructEq
import Derived.RowKit
set_option linter.all false
namespace Go.Mx
mutual
def cV:Value->Option V
 |.bool b=>some (.bool b)
 |.int k n=>some (.int k n)
 |.float k n=>some (.uB k n)
 |.string s=>some (.str s.data.toList)
 |.pointer none=>some .bN
 |.slice none 0 0=>some .aa
 |.map none=>some .bW
 |.chan none=>some .bZ
 |.nilFunc=>some .bs
 |.nilIface=>some .aY
 |.agg ⟨l⟩=>match H9 l with
  |some l=>some (.agg l)
  |none=>none
 |.tuple ⟨l⟩=>match H9 l with
  |some l=>some (.bg l)
  |none=>none
 |_=>none
def H9:List Value->Option (List V)
 |[]=>some []
 |v::vs=>match cV v,H9 vs with
  |some v,some vs=>some (v::vs)
  |_,_=>none
end
section
variable (P:Program)
def bJ:Operand->Option Src
 |.tmp t=>some (.tmp t)
 |.const v=>match cV v with
  |some v=>some (.const v)
  |none=>none
 |.global g=>if g<P.globals.size then some (.const (.ptr g 0)) else none
 |.func f=>some (.const (.func f [] []))
def uC:List Operand->Option (List Src)
 |[]=>some []
 |x::xs=>match bJ P x,uC xs with
  |some x,some xs=>some (x::xs)
  |_,_=>none
def tK:Option Operand->Option (Option Src)
 |none=>some none
 |some x=>match bJ P x with
  |some x=>some (some x)
  |none=>none
def eR(t:TypeId):Option Nat:=(P.info? t).map (·.size)
def BH(t:TypeId):Option Nat:=(P.info? t).map (·.bytes)
def zd(t:TypeId):Option (Option Nat):=
 match P.underlying t with
 |some (.struct _)|some (.array _ _)=>match eR P t with
  |some n=>some (some n)
  |none=>none
 |some _=>some none
 |none=>none
def ql(t:TypeId):Option V:=
 match P.info? t with
 |some i=>match i.zero with
  |some v=>cV v
  |none=>none
 |none=>none
def Ok:TypeDesc->Option PK
 |.bool=>some .bool
 |.int _=>some .int
 |.string=>some .str
 |.pointer _=>some .ptr
 |.slice _=>some .slice
 |.map _ _=>some .map
 |.func _ _ _=>some .func
 |.chan _ _=>some .chan
 |.interface _=>some .iface
 |_=>none
def Ia(q:TypeId->Option rU):List Field->Option (List (Nat×Option Nat×rU))
 |[]=>some []
 |f::fs=>if f.name= "_" then Ia q fs else
  match zd P f.type,q f.type,Ia q fs with
  |some a,some q,some l=>some ((f.offset,a,q)::l)
  |_,_,_=>none
def TR:TypeDesc->Bool
 |.pointer e=>(P.info? e).isSome
 |_=>true
def wE:Nat->TypeId->Option rU
 |0,_=>none
 |d+1,t=>
  match P.underlying t with
  |some (.struct fs)=>
   if P.stoodInHeld t then none else
   match Ia P (wE d) fs.toList with
   |some l=>some (.node l)
   |none=>none
  |some q=>match Ok q with
   |some k=>if TR P q=true then some (.aM k) else none
   |none=>none
  |none=>none
def AI(place:Nat->Option (Nat×Nat)):List (Nat×Operand)->Option (List (Nat×Nat×Src))
 |[]=>some []
 |(i,x)::rest=>match place i,bJ P x,AI place rest with
  |some (o,s),some x,some l=>some ((o,s,x)::l)
  |_,_,_=>none
def ze(t:TypeId):Option kc:=
 match P.underlying t with
 |some (.int k)=>some (.int k)
 |some .string=>some .str
 |_=>none
def Fv:Operand->Bool
 |.const _=>true
 |_=>false
def Ib(fs:List Field):Option (List (Nat×Nat)):=
 match fs with
 |[]=>some []
 |f::fs=>match eR P f.type,Ib fs with
  |some s,some l=>some ((f.offset,s)::l)
  |_,_=>none
def ya(name:String):Option Ext:=
 if name= "math/bits.Add64" then some .eW
 else if name= "math/bits.Sub64" then some .iH
 else if name= "internal/abi.NoEscape" then some .same
 else if name= "internal/bytealg.IndexByteString" then some .bM
 else none
def Dl(c:Call):Option fX:=
 match c.callee with
 |.value f=>match uC P c.args.toList with
  |none=>none
  |some args=>match f with
   |.func g=>match P.funcs[g]? with
    |some fn=>if fn.body.isSome then some (.call (.const (.func g [] [])) args) else
     match ya fn.name with
     |some e=>some (.ext e args)
     |none=>none
    |none=>none
   |f=>match bJ P f with
    |some f=>some (.call f args)
    |none=>none
 |.invoke _ _=>none
 |.builtin b=>
  match b,c.argTypes.toList,c.args.toList with
  |.len,[t],[x]=>
   match P.underlying t,bJ P x with
   |some .string,some x=>some (.len 0 x)
   |some (.slice _),some x=>some (.len 1 x)
   |some (.map _ _),some x=>some (.len 2 x)
   |_,_=>none
  |.cap,[t],[x]=>
   match P.underlying t,bJ P x with
   |some (.slice _),some x=>some (.cap x)
   |_,_=>none
  |.min,_,_=>match uC P c.args.toList with
   |some l=>some (.mn l)
   |none=>none
  |.max,_,_=>match uC P c.args.toList with
   |some l=>some (.mx l)
   |none=>none
  |.append,[t,u],[s,x]=>
   match P.underlying t with
   |some (.slice e)=>match eR P e,BH P e,ql P e,bJ P s,bJ P x,P.underlying u with
    |some n,some b,some z,some s,some x,some d=>if (d matches .int _)\/b=0\/z.cells.length≠n\/z.cells.all V.one=false then none else some (.append n b e z.cells s x)
    |_,_,_,_,_,_=>none
   |_=>none
  |.copy,t::_,[d,s]=>
   match P.underlying t with
   |some (.slice e)=>match eR P e,bJ P d,bJ P s with
    |some n,some d,some s=>some (.copy n d s)
    |_,_,_=>none
   |_=>none
  |.unsafeSliceData,[_],[s]=>(bJ P s).map .wF
  |.unsafeString,[t,_],[x,n]=>
   match P.underlying t with
   |some (.pointer e)=>match eR P e,bJ P x,bJ P n with
    |some 1,some x,some n=>some (.BI e x n)
    |_,_,_=>none
   |_=>none
  |_,_,_=>none
def Ic:Op->Option fX
 |.move x|.assign x=>(bJ P x).map .ba
 |.pick c a b=>match bJ P c,bJ P a,bJ P b with
  |some c,some a,some b=>some (.pick c a b)
  |_,_,_=>none
 |.alloc e=>match ql P e with
  |some z=>if z.cells.all V.one then some (.alloc z.cells e) else none
  |none=>none
 |.box e x=>(bJ P x).map (.box e)
 |.build t parts=>match ql P t with
  |none=>none
  |some z=>match P.underlying t with
   |some (.struct fs)=>match Ib P fs.toList with
    |some pl=>(AI P (pl[·]?) parts.toList).map (.build z.cells)
    |none=>none
   |some (.array _ e)=>match eR P e with
    |some s=>(AI P (fun i=>some (i*s,s)) parts.toList).map (.build z.cells)
    |none=>none
   |_=>none
 |.buildSlice t len parts=>match P.underlying t with
  |some (.slice e)=>match eR P e,ql P e with
   |some s,some z=>if len*s > 2^24\/z.cells.length≠s\/s=0 then none else
    (AI P (fun i=>some (i*s,s)) parts.toList).map (.aV e s len (dr z.cells len))
   |_,_=>none
  |_=>none
 |.load t a=>match zd P t,bJ P a with
  |some n,some a=>some (.load n a)
  |_,_=>none
 |.store t a x=>match eR P t,bJ P a,bJ P x with
  |some n,some a,some x=>some (.store n a x)
  |_,_,_=>none
 |.nilCheck x=>(bJ P x).map .fR
 |.binOp op t x y _=>match bJ P x,bJ P y with
  |some a,some b=>
   match op with
   |.eql|.neq=>match wE P 40 t with
    |some q=>if (match P.underlying t with|some (.struct _)|some (.array _ _)=>P.eqGuardType P.depth t|_=>false) then none else some (.bin op q (Fv x||Fv y) a b)
    |none=>none
   |_=>some (.bin op (.node []) false a b)
  |_,_=>none
 |.unOp op _ x=>(bJ P x).map (.un op)
 |.convert src dst x=>match bJ P x with
  |none=>none
  |some a=>match P.underlying src,P.underlying dst with
   |some (.int _),some (.int k)=>some (.bj k a)
   |some .string,some (.slice e)=>match P.underlying e with
    |some (.int .u8)=>some (.gI e a)
    |_=>none
   |some (.slice e),some .string=>match P.underlying e with
    |some (.int .u8)=>some (.fx a)
    |_=>none
   |some (.pointer t),some .unsafePointer=>match eR P t with
    |some (_+1)=>some (.Ie none a)
    |_=>none
   |some .unsafePointer,some (.pointer u)=>match eR P u with
    |some (z+1)=>some (.Ie (some (u,z+1)) a)
    |_=>none
   |_,_=>none
 |.makeInterface t x=>match P.underlying t with
  |some (.interface _)=>none
  |some _=>(bJ P x).map (.e_ t)
  |none=>none
 |.makeFunc (.func f) first fY=>match uC P first.toList,uC P fY.toList with
  |some a,some l=>some (.cP f a l)
  |_,_=>none
 |.makeMap _ none=>some .wG
 |.makeSlice t l c=>match P.underlying t with
  |some (.slice e)=>match eR P e,BH P e,ql P e,bJ P l,bJ P c with
   |some s,some b,some z,some l,some c=>if z.cells.all V.one then some (.bY e s b z.cells l c) else none
   |_,_,_,_,_=>none
  |_=>none
 |.slice t x lo hi mx=>match bJ P x,tK P lo,tK P hi,tK P mx with
  |some x,some lo,some hi,some mx=>match P.underlying t with
   |some .string=>if mx.isSome then none else some (.aD x lo hi)
   |some (.slice e)=>(eR P e).map fun s=>.cQ s x lo hi mx
   |some (.array n e)=>(eR P e).map fun s=>.du n s x lo hi mx
   |_=>none
  |_,_,_,_=>none
 |.fieldAddr t x i=>match P.underlying t,bJ P x with
  |some (.struct fs),some x=>match fs[i]? with
   |some f=>match eR P f.type with
    |some (_+1)=>some (.eI f.offset x)
    |_=>none
   |none=>none
  |_,_=>none
 |.indexAddr t x i=>match P.underlying t,bJ P x,bJ P i with
  |some (.array n e),some x,some i=>(eR P e).map fun s=>.cr n s x i
  |some (.slice e),some x,some i=>(eR P e).map fun s=>.aU s x i
  |_,_,_=>none
 |.index t x i=>match P.underlying t,bJ P x,bJ P i with
  |some .string,some x,some i=>some (.aZ x i)
  |_,_,_=>none
 |.lookup t m k ok=>match P.underlying t,bJ P m,bJ P k with
  |some (.map kt e),some m,some k=>match ze P kt,ql P e with
   |some kd,some z=>some (.lookup kd z m k ok)
   |_,_=>none
  |_,_,_=>none
 |.mapUpdate t m k v|.insert t m k v=>match P.underlying t,bJ P m,bJ P k,bJ P v with
  |some (.map kt _),some m,some k,some v=>(ze P kt).map fun kd=>.uD kd m k v
  |_,_,_,_=>none
 |.range t x=>match P.underlying t,bJ P x with
  |some .string,some x=>some (.jr x)
  |_,_=>none
 |.next it true=>(bJ P it).map .qm
 |.extract x i=>(bJ P x).map fun x=>.extract x i
 |.call c=>Dl P c
 |_=>none
def zf(o:Op):fX:=(Ic P o).getD .stop
def Fw(ops:Array Oper):Option (Nat×Bool)->Option (Option (Nat×Bool))
 |none=>some none
 |some (j,want)=>match (ops[j]?).bind (·.dst)with
  |some t=>some (some (t,want))
  |none=>none
def qo(ops:Array Oper)(o:Oper):dt:=
 match Fw ops o.guard with
 |some g=>{dst:=o.dst,op:=zf P o.op,guard:=g}
 |none=>{dst:=o.dst,op:=.stop,guard:=none}
def J9(o:Oper)(ms:List Nat):Nat:=
 o.after.foldl (fun s e=>if Region.binds .any e then s|||2^e.on|||ms.getD e.on 0 else s) 0
def uE:List Oper->List Nat->List Nat
 |[],acc=>acc
 |o::rest,acc=>uE rest (acc++[J9 o acc])
def ZM(_:Program)(o:Oper):Option (Option Nat×Src×Option Src×V):=none
def Ig:Nat->List Oper->Bool
 |_,[]=>true
 |i,o::os=>(o.after.all fun e=>!Region.binds .any e||Nat.blt e.on i)&&Ig (i+1) os
def TS(ops:Array Oper):Bool:=Ig 0 ops.toList&&cA Ol (ops.toList.map (qo P ops)) (uE ops.toList [])
def iM:Code->av
 |.skip=>.skip
 |.region _ ops false=>match ops.toList with
  |[]=>.aR []
  |o::rest=>match ZM P o with
   |some (d,ch,s,z)=>.xF d ch s z (rest.map (qo P ops))
   |none=>.aR ((o::rest).map (qo P ops))
 |.region _ ops true=>if TS P ops then .aX (ops.toList.map (qo P ops)) (uE ops.toList []) else .stop
 |.seq a b=>.seq (iM a) (iM b)
 |.cond c a b=>match bJ P c with
  |some c=>.cond c (iM a) (iM b)
  |none=>.stop
 |.block id c=>.block id (iM c)
 |.loop c=>.loop (iM c)
 |.rangeFunc g ps assign body=>match bJ P g with
  |some g=>.iV g ps.toList (iM assign) (iM body)
  |none=>.stop
 |.exit id=>.exit id
 |.scope c=>.scope (iM c)
 |.label _=>.skip
 |.goto _=>.stop
 |.ret=>.ret
 |.refuse _=>.stop
def Dm:List ResultVar->Option (List Df)
 |[]=>some []
 |.tmp t::rest=>(Dm rest).map (.tmp t::·)
 |.cell t ty::rest=>match zd P ty,Dm rest with
  |some n,some l=>some (.cell t n::l)
  |_,_=>none
def x_(f:FuncId):Option ku:=
 match P.funcs[f]? with
 |some fn=>match fn.body,Dm P fn.results.toList with
  |some c,some rs=>some {ntmps:=fn.ntmps,results:=rs,body:=iM P c}
  |_,_=>none
 |none=>none
end
open Go
structure L where
 b:Nat
 d:Nat
 qp:Nat
abbrev Mu:=Nat->Option L
mutual
def VR(μ:Mu):V->Value->Prop
 |.bool b,x=>x=.bool b
 |.int k n,x=>x=.int k n
 |.uB k n,x=>x=.float k n
 |.str s,x=>x=.string ⟨s.toArray⟩
 |.bN,x=>x=.pointer none
 |.ptr i o,x=>∃l,μ i=some l/\x=.pointer (some ⟨l.b,l.d+o,none⟩)
 |.aa,x=>x=.slice none 0 0
 |.slice i o len cap sz,x=>∃l c,μ i=some l/\x=.slice (some ⟨l.b,l.d+o,none⟩) len c/\len<=c/\o+c*sz<=l.qp/\
   (∀k,cap=some k->c=k)/\(cap=none->o+c*sz=l.qp)
 |.empty,x=>∃a c,x=.slice (some a) 0 c
 |.bW,x=>x=.map none
 |.map i,x=>∃l,μ i=some l/\x=.map (some l.b)
 |.bZ,x=>x=.chan none
 |.chan i,x=>∃l,μ i=some l/\x=.chan (some l.b)
 |.func f a c,x=>∃a' c',x=.func (.func f) ⟨a'⟩ ⟨c'⟩/\bb μ a a'/\bb μ c c'
 |.yield i,x=>∃l,μ i=some l/\x=.func (.yield l.b) #[] #[]
 |.bs,x=>x=.nilFunc
 |.iface t v,x=>∃y,x=.iface t y/\VR μ v y
 |.aY,x=>x=.nilIface
 |.agg vs,x=>∃a,x=.agg ⟨a⟩/\bb μ vs a
 |.bg vs,x=>∃a,x=.tuple ⟨a⟩/\bb μ vs a
def bb(μ:Mu):List V->List Value->Prop
 |[],xs=>xs=[]
 |v::vs,xs=>∃y ys,xs=y::ys/\VR μ v y/\bb μ vs ys
end
mutual
def VR.mono{μ μ':Mu}(h:∀i l,μ i=some l->μ' i=some l):∀(v:V) (x:Value),VR μ v x->VR μ' v x
 |.bool _,_,hx=>by simpa[VR]using hx
 |.int _ _,_,hx=>by simpa[VR]using hx
 |.uB _ _,_,hx=>by simpa[VR]using hx
 |.str _,_,hx=>by simpa[VR]using hx
 |.bN,_,hx=>by simpa[VR]using hx
 |.ptr _ _,_,hx=>by simp only[VR]at*;obtain⟨l,h1,h2⟩:=hx;exact⟨l,h _ _ h1,h2⟩
 |.aa,_,hx=>by simpa[VR]using hx
 |.slice _ _ _ _ _,_,hx=>by simp only[VR]at*;obtain⟨l,c,h1,h2⟩:=hx;exact⟨l,c,h _ _ h1,h2⟩
 |.empty,_,hx=>by simpa[VR]using hx
 |.bW,_,hx=>by simpa[VR]using hx
 |.map _,_,hx=>by simp only[VR]at*;obtain⟨l,h1,h2⟩:=hx;exact⟨l,h _ _ h1,h2⟩
 |.bZ,_,hx=>by simpa[VR]using hx
 |.chan _,_,hx=>by simp only[VR]at*;obtain⟨l,h1,h2⟩:=hx;exact⟨l,h _ _ h1,h2⟩
 |.func _ a c,_,hx=>by
  simp only[VR]at*;obtain⟨a',c',h1,h2,h3⟩:=hx
  exact⟨a',c',h1,bb.mono h a a' h2,bb.mono h c c' h3⟩
 |.yield _,_,hx=>by simp only[VR]at*;obtain⟨l,h1,h2⟩:=hx;exact⟨l,h _ _ h1,h2⟩
 |.bs,_,hx=>by simpa[VR]using hx
 |.iface _ v,_,hx=>by simp only[VR]at*;obtain⟨y,h1,h2⟩:=hx;exact⟨y,h1,VR.mono h v y h2⟩
 |.aY,_,hx=>by simpa[VR]using hx
 |.agg vs,_,hx=>by simp only[VR]at*;obtain⟨a,h1,h2⟩:=hx;exact⟨a,h1,bb.mono h vs a h2⟩
 |.bg vs,_,hx=>by simp only[VR]at*;obtain⟨a,h1,h2⟩:=hx;exact⟨a,h1,bb.mono h vs a h2⟩
def bb.mono{μ μ':Mu}(h:∀i l,μ i=some l->μ' i=some l):∀(vs:List V) (xs:List Value),bb μ vs xs->bb μ' vs xs
 |[],_,hx=>by simpa[bb]using hx
 |v::vs,_,hx=>by
  simp only[bb]at*
  obtain⟨y,ys,h1,h2,h3⟩:=hx
  exact⟨y,ys,h1,VR.mono h v y h2,bb.mono h vs ys h3⟩
end
section
variable {μ:Mu}
def ke{v:V}{vs:List V}{xs:List Value}:bb μ (v::vs) xs↔∃y ys,xs=y::ys/\VR μ v y/\bb μ vs ys:=by simp[bb]
def bb.length:∀{vs:List V} {xs:List Value},bb μ vs xs->xs.length=vs.length
 |[],_,h=>by simp[bb]at h;simp[h]
 |v::vs,_,h=>by
  obtain⟨y,ys,rfl,_,h3⟩:=ke.1 h
  simp[bb.length h3]
def bb.get:∀{vs:List V} {xs:List Value},bb μ vs xs->∀{i:Nat} {v:V},vs[i]?=some v->∃x,xs[i]?=some x/\VR μ v x
 |[],_,_,i,v,hv=>by simp at hv
 |w::vs,_,h,i,v,hv=>by
  obtain⟨y,ys,rfl,h2,h3⟩:=ke.1 h
  cases i with
  |zero=>simp at hv;subst hv;exact⟨y,by simp,h2⟩
  |succ i=>simpa using bb.get h3 (i:=i) (by simpa using hv)
def bb.append:∀{vs ws:List V} {xs ys:List Value},bb μ vs xs->bb μ ws ys->bb μ (vs++ws) (xs++ys)
 |[],ws,_,ys,h,h'=>by simp[bb]at h;simpa[h]using h'
 |v::vs,ws,_,ys,h,h'=>by
  obtain⟨y,zs,rfl,h2,h3⟩:=ke.1 h
  exact ke.2 ⟨y,zs++ys,rfl,h2,bb.append h3 h'⟩
def bb.take:∀{vs:List V} {xs:List Value} (n:Nat),bb μ vs xs->bb μ (vs.take n) (xs.take n)
 |[],_,n,h=>by simp[bb]at h;simp[h,bb]
 |v::vs,_,n,h=>by
  obtain⟨y,zs,rfl,h2,h3⟩:=ke.1 h
  cases n with
  |zero=>simp[bb]
  |succ n=>exact ke.2 ⟨y,zs.take n,rfl,h2,bb.take n h3⟩
def bb.drop:∀{vs:List V} {xs:List Value} (n:Nat),bb μ vs xs->bb μ (vs.drop n) (xs.drop n)
 |[],_,n,h=>by simp[bb]at h;simp[h,bb]
 |v::vs,_,n,h=>by
  cases n with
  |zero=>simpa using h
  |succ n=>
   obtain⟨y,zs,rfl,h2,h3⟩:=ke.1 h
   simpa using bb.drop n h3
def bb.qq:∀{vs:List V} {xs:List Value},xs.length=vs.length->(∀(i:Nat) (v:V),vs[i]?=some v->∃x,xs[i]?=some x/\VR μ v x)->bb μ vs xs
 |[],xs,hl,_=>by simp at hl;simp[bb,hl]
 |v::vs,[],hl,_=>by simp at hl
 |v::vs,x::xs,hl,h=>by
  refine ke.2 ⟨x,xs,rfl,?_,bb.qq (by simpa using hl) fun i u hu=>?_⟩
  ·obtain⟨y,h1,h2⟩:=h 0 v (by simp)
   simp at h1;subst h1;exact h2
  ·simpa using h (i+1) u (by simpa using hu)
def VR.one{v:V}{x:Value}(h:VR μ v x)(hv:v.one=true):x.oneCell'=true:=by
 cases v<;>simp only[VR]at h<;>simp only[V.one,fF]at hv
 case bool=>subst h;rfl
 case int=>subst h;rfl
 case uB=>subst h;rfl
 case str=>subst h;rfl
 case bN=>subst h;rfl
 case ptr=>obtain⟨l,_,rfl⟩:=h;rfl
 case aa=>subst h;rfl
 case slice=>obtain⟨l,c,_,rfl,_⟩:=h;rfl
 case empty=>obtain⟨a,c,rfl⟩:=h;rfl
 case bW=>subst h;rfl
 case map=>obtain⟨l,_,rfl⟩:=h;rfl
 case bZ=>subst h;rfl
 case chan=>obtain⟨l,_,rfl⟩:=h;rfl
 case func=>obtain⟨a,c,rfl,_⟩:=h;rfl
 case yield=>obtain⟨l,_,rfl⟩:=h;rfl
 case bs=>subst h;rfl
 case iface=>obtain⟨y,rfl,_⟩:=h;rfl
 case aY=>subst h;rfl
def VR.cells{v:V}{x:Value}(h:VR μ v x):bb μ v.cells x.cells.toList:=by
 have one:∀y:Value,x=y->(y.cells=#[y])->v.cells=[v]->bb μ v.cells x.cells.toList:=fun y e hc hv=>by
  subst e;rw[hc,hv];exact ke.2 ⟨_,[],rfl,h,by simp[bb]⟩
 have h0:=h
 cases v<;>simp only[VR]at h
 case bool=>exact one _ h rfl rfl
 case int=>exact one _ h rfl rfl
 case uB=>exact one _ h rfl rfl
 case str=>exact one _ h rfl rfl
 case bN=>exact one _ h rfl rfl
 case ptr=>obtain⟨l,_,e⟩:=h;exact one _ e rfl rfl
 case aa=>exact one _ h rfl rfl
 case slice=>obtain⟨l,c,_,e,_⟩:=h;exact one _ e rfl rfl
 case empty=>obtain⟨a,c,e⟩:=h;exact one _ e rfl rfl
 case bW=>exact one _ h rfl rfl
 case map=>obtain⟨l,_,e⟩:=h;exact one _ e rfl rfl
 case bZ=>exact one _ h rfl rfl
 case chan=>obtain⟨l,_,e⟩:=h;exact one _ e rfl rfl
 case func=>obtain⟨a,c,e,_⟩:=h;exact one _ e rfl rfl
 case yield=>obtain⟨l,_,e⟩:=h;exact one _ e rfl rfl
 case bs=>exact one _ h rfl rfl
 case iface=>obtain⟨y,e,_⟩:=h;exact one _ e rfl rfl
 case aY=>exact one _ h rfl rfl
 case agg vs=>obtain⟨a,rfl,h⟩:=h;exact h
 case bg vs=>obtain⟨a,e,_⟩:=h;exact one _ e rfl rfl
end
def RR(μ:Mu)(r:T V)(n:Nat)(tmps:Array Value):Prop:=
 tmps.size=n/\∀t v,r.get t=some v->∃x,tmps[t]?=some x/\VR μ v x
def RR.mono{μ μ':Mu}{r:T V}{n:Nat}{tmps:Array Value}(h:∀i l,μ i=some l->μ' i=some l)(hr:RR μ r n tmps):RR μ' r n tmps:=
 ⟨hr.1,fun t v hv=>let ⟨x,h1,h2⟩:=hr.2 t v hv;⟨x,h1,VR.mono h v x h2⟩⟩
def RR.set{μ:Mu}{r:T V}{n:Nat}{tmps:Array Value}(hr:RR μ r n tmps){d:Nat}(hd:d<n){v:V}{x:Value}(hv:VR μ v x):
  RR μ (r.set d v) n (tmps.setIfInBounds d x):=by
 refine⟨by simp[hr.1],fun t u hu=>?_⟩
 rw[T.ag]at hu
 by_cases e:t=d
 ·subst e
  simp at hu;subst hu
  exact⟨x,by simp[hr.1,hd],hv⟩
 ·simp[e]at hu
  obtain⟨y,h1,h2⟩:=hr.2 t u hu
  exact⟨y,by rw[Om (Ne.symm e)];exact h1,h2⟩
def zg:Ex->Option Code
 |.normal=>none
 |.exit id=>some (.exit id)
 |.ret=>some .ret
def iD(μ:Mu):List (V×V)->List MapEntry->Nat->Prop
 |[],xs,_=>xs=[]
 |(k,v)::es,xs,i=>∃e ys,xs=e::ys/\VR μ k e.key/\VR μ v e.val/\e.born=i/\iD μ es ys (i+1)
def iD.mono{μ μ':Mu}(h:∀i l,μ i=some l->μ' i=some l):∀(es:List (V×V)) (xs:List MapEntry) (i:Nat),iD μ es xs i->iD μ' es xs i
 |[],_,_,hx=>hx
 |(k,v)::es,_,i,hx=>by
  obtain⟨e,ys,h1,h2,h3,h4,h5⟩:=hx
  exact⟨e,ys,h1,VR.mono h k _ h2,VR.mono h v _ h3,h4,iD.mono h es ys (i+1) h5⟩
def OM(P:Program)(μ:Mu)(w:World):O->L->Prop
 |.cells c e rw,l=>∃(c':Array Value) (lo hi:Nat),w.heap[l.b]?=some (.cells c' e (lo,hi))/\l.d+l.qp<=c'.size/\c.length<=l.qp/\
   (∀(j:Nat) (v:V),c[j]?=some v->∃x,c'[l.d+j]?=some x/\VR μ v x)/\(∀(j:Nat) (x:Value),j<l.qp->c'[l.d+j]?=some x->x.oneCell'=true)/\(rw=true->l.d=0/\∀j,j<l.qp->¬(lo<=l.d+j/\l.d+j<hi))
 |.map es,l=>∃gJ:List MapEntry,w.heap[l.b]?=some (.map ⟨gJ⟩ gJ.length)/\iD μ es gJ 0
 |.chan cap buf,l=>∃(BJ:List Value) (s r:Nat),w.heap[l.b]?=some (.chan cap ⟨BJ⟩ false s r false)/\bb μ buf BJ
 |.ew s pos,l=>w.heap[l.b]?=some (.stringIter ⟨s.toArray⟩ pos)/\l.d=0
 |.loop R,l=>∃fn tmps fI fJ ld,w.heap[l.b]?=some (.loop {state:=R.st,pending:=R.eQ.bind zg,fn:=fn,tmps:=tmps,params:=⟨R.ps⟩,assign:=fI,body:=fJ,defers:=ld.b})/\
   RR μ R.r R.n tmps/\iM P fI=R.assign/\iM P fJ=R.body/\μ R.defs=some ld
 |.defs o,l=>w.heap[l.b]?=some (.deferred (if o then some [] else none))
 |.dead,_=>True
def OM.mono{P:Program}{μ μ':Mu}{w:World}(h:∀i l,μ i=some l->μ' i=some l){o:O}{l:L}(ho:OM P μ w o l):OM P μ' w o l:=by
 cases o with
 |cells c e rw=>
  obtain⟨c',lo,hi,h1,h2,h3,h4,h5⟩:=ho
  exact⟨c',lo,hi,h1,h2,h3,fun j v hv=>let ⟨x,a,b⟩:=h4 j v hv;⟨x,a,VR.mono h v x b⟩,h5⟩
 |map es=>obtain⟨gJ,h1,h2⟩:=ho;exact⟨gJ,h1,iD.mono h _ _ _ h2⟩
 |chan cap buf=>obtain⟨b',s,r,h1,h2⟩:=ho;exact⟨b',s,r,h1,bb.mono h _ _ h2⟩
 |ew s pos=>simp only[OM]at*;exact ho
 |loop R=>obtain⟨fn,tmps,fI,fJ,ld,h1,h2,h3,h4,h5⟩:=ho;exact⟨fn,tmps,fI,fJ,ld,h1,h2.mono h,h3,h4,h _ _ h5⟩
 |defs b=>simp only[OM]at*;exact ho
 |dead=>trivial
def OM.congr{P:Program}{μ:Mu}{w w':World}{o:O}{l:L}(hb:w'.heap[l.b]?=w.heap[l.b]?)(ho:OM P μ w o l):OM P μ w' o l:=by
 cases o with
 |cells c e rw=>obtain⟨c',lo,hi,h1,h2⟩:=ho;exact⟨c',lo,hi,hb.trans h1,h2⟩
 |map es=>obtain⟨gJ,h1,h2⟩:=ho;exact⟨gJ,hb.trans h1,h2⟩
 |chan cap buf=>obtain⟨b',s,r,h1,h2⟩:=ho;exact⟨b',s,r,hb.trans h1,h2⟩
 |ew s pos=>exact⟨hb.trans ho.1,ho.2⟩
 |loop R=>obtain⟨fn,tmps,fI,fJ,ld,h1,h2⟩:=ho;exact⟨fn,tmps,fI,fJ,ld,hb.trans h1,h2⟩
 |defs b=>exact hb.trans ho
 |dead=>trivial
structure bA (P:Program) (μ:Mu) (w:World) (st:St):Prop where
 df:∀i l,μ i=some l->i<st.n/\l.b<w.heap.size
 obj:∀i l,μ i=some l->∃o,st.h.get i=some o/\OM P μ w o l
 inj:∀i j l l' o o',μ i=some l->μ j=some l'->i≠j->st.h.get i=some o->st.h.get j=some o'->o.wr=true->o'.live=true->l.b≠l'.b
 gK:∀g,g<P.globals.size->∃t,μ g=some ⟨g,0,t⟩
structure Ka (μ:Mu) (ws:List Nat) (w w':World):Prop where
 os:w'.os=w.os
 tape:w'.tape=w.tape
 output:w'.output=w.output
 size:w.heap.size<=w'.heap.size
 block:∀b,b<w.heap.size->(∀i∈ws,∀l,μ i=some l->l.b≠b)->w'.heap[b]?=w.heap[b]?
structure bQ (P:Program) (μ:Mu) (w:World) (st:St) (μ':Mu) (w':World) (aB:St) (ws:List Nat):Prop where
 hr:bA P μ' w' aB
 ext:∀i,i<st.n->μ' i=μ i
 fi:st.n<=aB.n
 wl:aB.w=ws++st.w
 d_:Ka μ ws w w'
 new:∀i l,st.n<=i->μ' i=some l->w.heap.size<=l.b\/∃j∈ws,j<st.n/\∃lj oj,μ j=some lj/\lj.b=l.b/\st.h.get j=some oj/\oj.wr=true
 ae:∀i,i<st.n->i∉ws->aB.h.get i=st.h.get i
 grow:∀i o',i<st.n->aB.h.get i=some o'->∃o,st.h.get i=some o/\(o'.wr=true->o.wr=true)/\(o'.live=true->o.live=true)
 full:∀i,st.n<=i->i<aB.n->∃l,μ' i=some l
 yo:∀i∈ws,i<st.n->∃o,st.h.get i=some o/\o.wr=true
def bA.Fy{P:Program}{μ μ':Mu}{w:World}{st:St}(h:bA P μ w st)(he:∀i,i<st.n->μ' i=μ i):∀i l,μ i=some l->μ' i=some l:=
 fun i l hi=>(he i (h.df i l hi).1).trans hi
def Ka.refl(μ:Mu)(ws:List Nat)(w:World):Ka μ ws w w:=⟨rfl,rfl,rfl,aW _,fun _ _ _=>rfl⟩
def bQ.refl{P:Program}{μ:Mu}{w:World}{st:St}(h:bA P μ w st):bQ P μ w st μ w st []:=
 ⟨h,fun _ _=>rfl,aW _,rfl,Ka.refl μ [] w,fun i l hi hl=>absurd (h.df i l hl).1 (by omega),fun _ _ _=>rfl,fun _ o' _ ho=>⟨o',ho,id,id⟩,fun _ h1 h2=>absurd h2 (by omega),fun _ hi=>absurd hi (by simp)⟩
def bQ.trans{P:Program}{μ μ1 μ2:Mu}{w w1 w2:World}{st cf eF:St}{ws On:List Nat}
  (h1:bQ P μ w st μ1 w1 cf ws) (h2:bQ P μ1 w1 cf μ2 w2 eF On):bQ P μ w st μ2 w2 eF (On++ws) where
 hr:=h2.hr
 ext:=fun i hi=>(h2.ext i (fE hi h1.fi)).trans (h1.ext i hi)
 fi:=sJ h1.fi h2.fi
 wl:=by rw[h2.wl,h1.wl,tL]
 d_:=by
  refine⟨h2.d_.os.trans h1.d_.os,h2.d_.tape.trans h1.d_.tape,h2.d_.output.trans h1.d_.output,sJ h1.d_.size h2.d_.size,fun b hb dv=>?_⟩
  rw[h2.d_.block b (fE hb h1.d_.size) fun i hi l hl=>?_,h1.d_.block b hb fun i hi l hl=>dv i (by simp[hi]) l hl]
  by_cases Dp:i<st.n
  ·exact dv i (by simp[hi]) l (by rw[<-h1.ext i Dp];exact hl)
  ·rcases h1.new i l (by omega) hl with h|⟨j,hj,_,lj,oj,tM,rT,_⟩
   ·omega
   ·rw[<-rT];exact dv j (by simp[hj]) lj tM
 new:=fun i l hi hl=>by
  by_cases Dp:i<cf.n
  ·rcases h1.new i l hi (by rw[<-h2.ext i Dp];exact hl)with h|⟨j,hj,r⟩
   ·exact .inl h
   ·exact .inr ⟨j,by simp[hj],r⟩
  ·rcases h2.new i l (by omega) hl with h|⟨j,hj,Fz,lj,oj,tM,rT,FA,how⟩
   ·exact .inl (sJ h1.d_.size h)
   ·by_cases hjn':j<st.n
    ·obtain⟨o,ho,hw,_⟩:=h1.grow j oj hjn' FA
     exact .inr ⟨j,by simp[hj],hjn',lj,o,by rw[<-h1.ext j hjn'];exact tM,rT,ho,hw how⟩
    ·rcases h1.new j lj (by omega) tM with h|⟨j',Kb,r⟩
     ·exact .inl (by omega)
     ·obtain⟨r1,lj',oj',r2,r3,r4⟩:=r
      exact .inr ⟨j',by simp[Kb],r1,lj',oj',r2,r3.trans rT,r4⟩
 ae:=fun i hi dv=>by
  simp only[kb,not_or]at dv
  rw[h2.ae i (fE hi h1.fi) dv.1,h1.ae i hi dv.2]
 grow:=fun i o' hi ho=>by
  obtain⟨o1,AJ,a1,b1⟩:=h2.grow i o' (fE hi h1.fi) ho
  obtain⟨o,ho,a,b⟩:=h1.grow i o1 hi AJ
  exact⟨o,ho,a∘a1,b∘b1⟩
 full:=fun i fH lO=>by
  by_cases hi:i<cf.n
  ·obtain⟨l,hl⟩:=h1.full i fH hi
   exact⟨l,(h2.ext i hi).trans hl⟩
  ·exact h2.full i (by omega) lO
 yo:=fun i hi hn=>by
  simp only[kb]at hi
  rcases hi with hi|hi
  ·obtain⟨o1,AJ,Ih⟩:=h2.yo i hi (fE hn h1.fi)
   obtain⟨o,ho,a,_⟩:=h1.grow i o1 hn AJ
   exact⟨o,ho,a Ih⟩
  ·exact h1.yo i hi hn
def bA.drew{P:Program}{μ:Mu}{w:World}{st:St}(h:bA P μ w st)(n:Nat):bA P μ {w with drawn:=n} st:=
 ⟨h.df,fun i l hl=>let ⟨o,h1,h2⟩:=h.obj i l hl;⟨o,h1,OM.congr (w:=w) rfl h2⟩,h.inj,h.gK⟩
def bQ.alloc{P:Program}{μ:Mu}{w:World}{st:St}(h:bA P μ w st)(o:O)(ob:Obj)(d qp:Nat)
  (ho:OM P (fun i=>if i=st.n then some ⟨w.heap.size,d,qp⟩ else μ i) {w with heap:=w.heap.push ob} o ⟨w.heap.size,d,qp⟩):
  bQ P μ w st (fun i=>if i=st.n then some ⟨w.heap.size,d,qp⟩ else μ i) {w with heap:=w.heap.push ob} (st.alloc o) []:=by
 have dw:∀i l,μ i=some l->(fun i=>if i=st.n then some (⟨w.heap.size,d,qp⟩:L) else μ i) i=some l:=fun i l hl=>by
  have:=(h.df i l hl).1
  simp only
  rw[ar (by omega)];exact hl
 have hold:∀b,b<w.heap.size->({w with heap:=w.heap.push ob}:World).heap[b]?=w.heap[b]?:=fun b hb=>by
  show (w.heap.push ob)[b]?=_
  rw[Array.getElem?_push,ar (by omega)]
 refine⟨⟨fun i l hl=>?_,fun i l hl=>?_,fun i j l l' oi oj hi hj bB AJ xG hw nF=>?_,fun g hg=>let ⟨t,ht⟩:=h.gK g hg;⟨t,dw g _ ht⟩⟩,fun i hi=>?_,by simp[St.alloc],rfl,⟨rfl,rfl,rfl,by simp,fun b hb _=>hold b hb⟩,
  fun i l hi hl=>?_,fun i hi _=>?_,fun i o' hi wH=>?_,fun i h1 h2=>⟨⟨w.heap.size,d,qp⟩,by simp only[St.alloc]at h2;show (if i=st.n then some (⟨w.heap.size,d,qp⟩:L) else μ i)=_;rw[aF (by omega)]⟩,fun _ hi=>absurd hi (by simp)⟩
 ·by_cases e:i=st.n
  ·simp only[e,if_true,al]at hl;subst hl;simp[St.alloc,e]
  ·simp only[e,if_false]at hl
   have:=h.df i l hl
   simp[St.alloc];omega
 ·by_cases e:i=st.n
  ·simp only[e,if_true,al]at hl;subst hl
   exact⟨o,by simp[St.alloc,T.ag,e],ho⟩
  ·simp only[e,if_false]at hl
   obtain⟨o1,h1,h2⟩:=h.obj i l hl
   exact⟨o1,by simp[St.alloc,T.ag,e,h1],(h2.mono dw).congr (hold l.b (h.df i l hl).2)⟩
 ·by_cases e:i=st.n
  ·by_cases e':j=st.n
   ·exact absurd (e.trans e'.symm) bB
   ·simp only[e,if_true,al]at hi;simp only[e',if_false]at hj;subst hi
    have:=(h.df j l' hj).2
    simp only;omega
  ·simp only[e,if_false]at hi
   by_cases e':j=st.n
   ·simp only[e',if_true,al]at hj;subst hj
    have:=(h.df i l hi).2
    simp only;omega
   ·simp only[e',if_false]at hj
    simp only[St.alloc,T.ag,e,e',if_false]at AJ xG
    exact h.inj i j l l' oi oj hi hj bB AJ xG hw nF
 ·rw[ar (by omega)]
 ·by_cases e:i=st.n
  ·simp only[e,if_true,al]at hl;subst hl;exact .inl (aW _)
  ·simp only[e,if_false]at hl
   exact absurd (h.df i l hl).1 (by omega)
 ·simp only[St.alloc,T.ag];rw[ar (by omega)]
 ·simp only[St.alloc,T.ag]at wH;rw[ar (by omega)]at wH
  exact⟨o',wH,id,id⟩
def bQ.write{P:Program}{μ:Mu}{w w':World}{st:St}(h:bA P μ w st){i:Nat}{l:L}{o o':O}(hi:μ i=some l)(ho:st.h.get i=some o)(hw:o.wr=true)
  (zh:w'.os=w.os) (TT:w'.tape=w.tape) (TU:w'.output=w.output) (kf:w'.heap.size=w.heap.size) (qs:∀b,b≠l.b->w'.heap[b]?=w.heap[b]?) (wH:OM P μ w' o' l):
  bQ P μ w st μ w' (st.write i o') [i]:=by
 have wI:o.live=true:=by cases o<;>simp_all [O.wr,O.live]
 refine⟨⟨fun j lj hj=>?_,fun j lj hj=>?_,fun j k lj lk oj ok hj hk bB h1 h2 Ii fK=>?_,h.gK⟩,fun _ _=>rfl,aW _,rfl,⟨zh,TT,TU,by omega,fun b _ dv=>qs b ?_⟩,
  fun j lj hn hj=>?_,fun j _ dv=>?_,fun j oj hn hj=>?_,fun j h1 h2=>absurd h2 (by simp only[St.write];omega),fun j hj _=>by simp only[wC]at hj;subst hj;exact⟨o,ho,hw⟩⟩
 ·have:=h.df j lj hj
  simp[St.write];omega
 ·by_cases e:j=i
  ·subst e
   rw[hi]at hj;cases hj
   exact⟨o',by simp[St.write,T.ag],wH⟩
  ·obtain⟨oj,h1,h2⟩:=h.obj j lj hj
   refine⟨oj,by simp[St.write,T.ag,e,h1],?_⟩
   cases hl:oj.live
   ·cases oj<;>simp[O.live]at hl
    trivial
   ·exact h2.congr (qs lj.b (Ne.symm (h.inj i j l lj o oj hi hj (Ne.symm e) ho h1 hw hl)))
 ·simp only[St.write,T.ag]at h1 h2
  by_cases e:j=i
  ·subst e
   rw[hi]at hj;cases hj
   rw[ar (Ne.symm bB)]at h2
   exact h.inj j k l lk o ok hi hk bB ho h2 hw fK
  ·rw[ar e]at h1
   by_cases e':k=i
   ·subst e'
    exact h.inj j k lj lk oj o hj hk bB h1 ho Ii wI
   ·rw[ar e']at h2
    exact h.inj j k lj lk oj ok hj hk bB h1 h2 Ii fK
 ·exact Ne.symm (dv i (by simp) l hi)
 ·exact absurd (h.df j lj hj).1 (by omega)
 ·simp only[wC]at dv
  simp[St.write,T.ag,dv]
 ·simp only[St.write,T.ag]at hj
  by_cases e:j=i
  ·subst e
   exact⟨o,ho,fun _=>hw,fun _=>wI⟩
  ·rw[ar e]at hj
   exact⟨oj,hj,id,id⟩
mutual
def Oo(μ:Mu):∀(x:Value) (v:V),cV x=some v->VR μ v x
 |.bool b,v,h=>by simp only[cV,al]at h;subst h;simp[VR]
 |.int k n,v,h=>by simp only[cV,al]at h;subst h;simp[VR]
 |.float k n,v,h=>by simp only[cV,al]at h;subst h;simp[VR]
 |.complex ..,v,h=>by simp[cV]at h
 |.string s,v,h=>by simp only[cV,al]at h;subst h;simp[VR]
 |.pointer none,v,h=>by simp only[cV,al]at h;subst h;simp[VR]
 |.pointer (some _),v,h=>by simp[cV]at h
 |.slice none 0 0,v,h=>by simp only[cV,al]at h;subst h;simp[VR]
 |.slice none 0 (c+1),v,h=>by simp[cV]at h
 |.slice none (n+1) c,v,h=>by simp[cV]at h
 |.slice (some _) _ _,v,h=>by simp[cV]at h
 |.map none,v,h=>by simp only[cV,al]at h;subst h;simp[VR]
 |.map (some _),v,h=>by simp[cV]at h
 |.chan none,v,h=>by simp only[cV,al]at h;subst h;simp[VR]
 |.chan (some _),v,h=>by simp[cV]at h
 |.func ..,v,h=>by simp[cV]at h
 |.nilFunc,v,h=>by simp only[cV,al]at h;subst h;simp[VR]
 |.iface ..,v,h=>by simp[cV]at h
 |.nilIface,v,h=>by simp only[cV,al]at h;subst h;simp[VR]
 |.agg ⟨l⟩,v,h=>by
  simp only[cV]at h
  split at h
  ·rename_i l' hl
   simp only[al]at h;subst h
   exact⟨l,rfl,TV μ l l' hl⟩
  ·cases h
 |.tuple ⟨l⟩,v,h=>by
  simp only[cV]at h
  split at h
  ·rename_i l' hl
   simp only[al]at h;subst h
   exact⟨l,rfl,TV μ l l' hl⟩
  ·cases h
def TV(μ:Mu):∀(xs:List Value) (vs:List V),H9 xs=some vs->bb μ vs xs
 |[],vs,h=>by simp only[H9,al]at h;subst h;simp[bb]
 |x::xs,vs,h=>by
  simp only[H9]at h
  split at h
  ·rename_i v j9 hv FB
   simp only[al]at h;subst h
   exact⟨x,xs,rfl,Oo μ x v hv,TV μ xs j9 FB⟩
  ·cases h
end
section
variable {P:Program} {μ:Mu} {w:World} {st:St} {r:T V} {n:Nat} {a:Act}
def cU(hh:bA P μ w st)(hr:RR μ r n a.tmps){x:Operand}{s:Src}(hc:bJ P x=some s){v:V}(hv:s.ev r=some v):VR μ v (a.eval x):=by
 cases x with
 |tmp t=>
  simp only[bJ,al]at hc;subst hc
  obtain⟨y,h1,h2⟩:=hr.2 t v hv
  simpa[Act.eval,FC,h1]using h2
 |const c=>
  simp only[bJ]at hc
  split at hc
  ·rename_i v' FD
   simp only[al]at hc;subst hc
   simp only[Src.ev,al]at hv;subst hv
   exact Oo μ c v' FD
  ·cases hc
 |global g=>
  simp only[bJ]at hc
  split at hc
  ·rename_i hg
   simp only[al]at hc;subst hc
   simp only[Src.ev,al]at hv;subst hv
   obtain⟨t,ht⟩:=hh.gK g hg
   exact⟨_,ht,rfl⟩
  ·cases hc
 |func f=>
  simp only[bJ,al]at hc;subst hc
  simp only[Src.ev,al]at hv;subst hv
  exact⟨[],[],rfl,by simp[bb],by simp[bb]⟩
def FF(hh:bA P μ w st)(hr:RR μ r n a.tmps):∀{xs:List Operand} {ss:List Src},uC P xs=some ss->∀{vs:List V},tN r ss=some vs->bb μ vs (xs.map a.eval)
 |[],ss,hc,vs,hv=>by
  simp only[uC,al]at hc;subst hc
  simp only[tN,al]at hv;subst hv
  simp[bb]
 |x::xs,ss,hc,vs,hv=>by
  simp only[uC]at hc
  split at hc
  ·rename_i s ss' h1 h2
   simp only[al]at hc;subst hc
   simp only[tN]at hv
   split at hv
   ·rename_i v j9 h3 h4
    simp only[al]at hv;subst hv
    exact⟨_,_,rfl,cU hh hr h1 h3,FF hh hr h2 h4⟩
   ·cases hv
  ·cases hc
def Yei(hh:bA P μ w st)(hr:RR μ r n a.tmps){x:Option Operand}{s:Option Src}(hc:tK P x=some s){v:Option V}(hv:aC r s=some v):
  (v=none/\x=none)\/∃v' x',v=some v'/\x=some x'/\VR μ v' (a.eval x'):=by
 cases x with
 |none=>
  simp only[tK,al]at hc;subst hc
  simp only[aC,al]at hv;subst hv
  exact .inl ⟨rfl,rfl⟩
 |some x=>
  simp only[tK]at hc
  split at hc
  ·rename_i s' h1
   simp only[al]at hc;subst hc
   simp only[aC]at hv
   split at hv
   ·rename_i v' h2
    simp only[al]at hv;subst hv
    exact .inr ⟨v',x,rfl,rfl,cU hh hr h1 h2⟩
   ·cases hv
  ·cases hc
def bm(P:Program)(μ:Mu)(w:World)(st:St)(s:Sem Next)(v:V)(aB:St):Prop:=
 ∃nx x w' μ' ws,s.run P w=.ok nx w'/\(nx=.value x\/(nx=.skip/\x=undef))/\VR μ' v x/\bQ P μ w st μ' w' aB ws
def bm.value(hh:bA P μ w st){s:Sem Value}{v:V}{x:Value}(hs:s.run P w=.ok x w)(hv:VR μ v x):
  bm P μ w st (do pure (.value (<-s))) v st:=
 ⟨.value x,x,w,μ,[],by simp[hs,Result.andThen],.inl rfl,hv,bQ.refl hh⟩
def bm.Kc(hh:bA P μ w st){v:V}{x:Value}(hv:VR μ v x):bm P μ w st (pure (.value x)) v st:=
 ⟨.value x,x,w,μ,[],by simp,.inl rfl,hv,bQ.refl hh⟩
def TW{t:TypeId}(h:zd P t=some none):(isAgg t).run P w=.ok false w:=by
 unfold zd at h
 split at h
 ·split at h<;>simp at h
 ·split at h<;>simp at h
 ·rename_i d h1 h2 hd
  cases d<;>simp[isAgg,run_underlying hd]<;>simp_all
 ·cases h
def Ij{t:TypeId}{k:Nat}(h:zd P t=some (some k)):(isAgg t).run P w=.ok true w/\(sizeOf t).run P w=.ok k w:=by
 unfold zd eR at h
 split at h
 ·rename_i fs hd
  split at h
  ·rename_i n hn
   simp only[al]at h;subst h
   simp only[jT]at hn
   obtain⟨i,hi,rfl⟩:=hn
   exact⟨by simp[isAgg,run_underlying hd],by simp[sizeOf,typeInfo,hi]⟩
  ·cases h
 ·rename_i k' e hd
  split at h
  ·rename_i n hn
   simp only[al]at h;subst h
   simp only[jT]at hn
   obtain⟨i,hi,rfl⟩:=hn
   exact⟨by simp[isAgg,run_underlying hd],by simp[sizeOf,typeInfo,hi]⟩
  ·cases h
 ·cases h
 ·cases h
def xH{t:TypeId}{k:Nat}(h:eR P t=some k):(sizeOf t).run P w=.ok k w:=by
 unfold eR at h
 simp only[jT]at h
 obtain⟨i,hi,rfl⟩:=h
 simp[sizeOf,typeInfo,hi]
def Ydh{t:TypeId}{v:V}(h:ql P t=some v):∃x,(zeroValue t).run P w=.ok x w/\∀μ,VR μ v x:=by
 unfold ql at h
 split at h
 ·rename_i i hi
  split at h
  ·rename_i x hx
   exact⟨x,by simp[zeroValue,typeInfo,hi,hx],fun μ=>Oo μ x v h⟩
  ·cases h
 ·cases h
def wJ(b o j:Nat):(⟨b,o,none⟩:Addr).add j=⟨b,o+j,none⟩:=by
 unfold Addr.add;split<;>simp_all
def OM.cell{c:List V}{e:TypeId}{rw:Bool}{l:L}(h:OM P μ w (.cells c e rw) l){j:Nat}{v:V}(hv:c[j]?=some v):
  ∃x,w.cell? ⟨l.b,l.d+j,none⟩=some x/\VR μ v x:=by
 obtain⟨c',lo,hi,h1,_,_,h4,_⟩:=h
 obtain⟨x,hx,hr⟩:=h4 j v hv
 exact⟨x,by simp[World.cell?,h1,hx],hr⟩
def OM.zi{c:List V}{e:TypeId}{rw:Bool}{l:L}(h:OM P μ w (.cells c e rw) l){o k:Nat}{vs:List V}(hs:aE c o k=some vs):
  ∃xs:List Value,bb μ vs xs/\xs.length=k/\(loadCells ⟨l.b,l.d+o,none⟩ k).run P w=.ok xs.toArray w/\(∀(j:Nat) (x:Value),xs[j]?=some x->w.cell? ⟨l.b,l.d+o+j,none⟩=some x)/\(∀x∈xs,x.oneCell'=true):=by
 unfold aE at hs
 split at hs
 ·rename_i hle
  simp only[al]at hs;subst hs
  obtain⟨c',lo,hi,h1,h2,h3,h4,h5,_⟩:=h
  have hlen:l.d+o+k<=c'.size:=by omega
  have hl:((c'.toList.drop (l.d+o)).take k).length=k:=by simp;omega
  have hg:∀(j:Nat) (x:Value),((c'.toList.drop (l.d+o)).take k)[j]?=some x->c'[l.d+o+j]?=some x:=fun j x hx=>by
   rw[iy]at hx
   split at hx
   ·simpa[fh]using hx
   ·cases hx
  have fS:∀(j:Nat) (x:Value),((c'.toList.drop (l.d+o)).take k)[j]?=some x->w.cell? ⟨l.b,l.d+o+j,none⟩=some x:=fun j x hx=>by
   simp[World.cell?,h1,hg j x hx]
  refine⟨(c'.toList.drop (l.d+o)).take k,?_,hl,?_,fS,fun x hx=>?_⟩
  ·refine bb.qq (by rw[hl];simp;omega) fun j v hv=>?_
   rw[iy]at hv
   split at hv
   ·rename_i hj
    rw[fh]at hv
    obtain⟨x,hx,hr⟩:=h4 (o+j) v hv
    refine⟨x,?_,hr⟩
    rw[iy,aF hj,fh]
    simpa[pw]using hx
   ·cases hv
  ·have:=run_loadCells_list (P:=P) w ⟨l.b,l.d+o,none⟩ ((c'.toList.drop (l.d+o)).take k) (fun j x hx=>by rw[wJ];exact fS j x hx)
   rwa [hl]at this
  ·obtain⟨j,hj⟩:=zb hx
   have rV:j<k:=by rw[<-hl];exact(y8.1 hj).1
   exact h5 (o+j) x (by omega) (by rw[<-pw];exact hg j x hj)
 ·cases hs
def Oq{t:TypeId}{vs:List V}{xs:List Value}(px:bb μ vs xs){k:Option Nat}(ha:zd P t=some k){o:Nat}{v:V}(hv:aS vs o k=some v):
  ∃x,(part t ⟨xs⟩ o).run P w=.ok x w/\VR μ v x:=by
 cases k with
 |none=>
  simp only[aS]at hv
  obtain⟨x,hx,hr⟩:=px.get hv
  exact⟨x,by simp[part,TW ha,Result.andThen,hx],hr⟩
 |some k=>
  simp only[aS]at hv
  split at hv
  ·rename_i l hl
   simp only[al]at hv;subst hv
   unfold aE at hl
   split at hl
   ·simp only[al]at hl;subst hl
    refine⟨.agg ⟨(xs.drop o).take k⟩,?_,⟨_,rfl,(px.drop o).take k⟩⟩
    simp[part,(Ij ha).1,(Ij ha).2,Result.andThen]
   ·cases hl
  ·cases hv
end
section
variable {P:Program} {μ:Mu} {w:World} {st aB:St} {r:T V} {n:Nat} {a:Act} {call:cG} {v:V}
def KV{i:Nat}{c:List V}{e:TypeId}{rw:Bool}(h:st.row i=some (c,e,rw)):st.h.get i=some (.cells c e rw):=by
 unfold St.row at h
 split at h
 ·rename_i hg
  simp only[al,bF]at h
  obtain⟨rfl,rfl,rfl⟩:=h
  exact hg
 ·cases h
def bA.row(hh:bA P μ w st){i:Nat}{l:L}(hl:μ i=some l){c:List V}{e:TypeId}{rw:Bool}(h:st.row i=some (c,e,rw)):OM P μ w (.cells c e rw) l:=by
 obtain⟨o,h1,h2⟩:=hh.obj i l hl
 rw[KV h,al]at h1
 subst h1;exact h2
def bA.get(hh:bA P μ w st){i:Nat}{l:L}(hl:μ i=some l){o:O}(h:st.h.get i=some o):OM P μ w o l:=by
 obtain⟨o',h1,h2⟩:=hh.obj i l hl
 rw[h,al]at h1
 subst h1;exact h2
def Ykh(hh:bA P μ w st)(hr:RR μ r n a.tmps){x:Operand}{s:Src}(hx:bJ P x=some s)(h:FR s call r st=some (v,aB)):
  bm P μ w st (pure (.value (a.eval x))) v aB:=by
 unfold FR at h
 split at h
 ·rename_i u hu
  simp only[al,bF]at h
  obtain⟨rfl,rfl⟩:=h
  exact bm.Kc hh (cU hh hr hx hu)
 ·cases h
def Ymo(hh:bA P μ w st)(hr:RR μ r n a.tmps){x y z:Operand}{s t u:Src}(hx:bJ P x=some s)(hy:bJ P y=some t)(hz:bJ P z=some u)
  (h:DD s t u call r st=some (v,aB)):
  bm P μ w st (do pure (.value (if <-asBool (a.eval x) then a.eval y else a.eval z))) v aB:=by
 unfold DD at h
 split at h
 ·rename_i hs
  have h1:=cU hh hr hx hs
  simp only[VR]at h1
  split at h
  ·rename_i v1 ht
   simp only[al,bF]at h
   obtain⟨rfl,rfl⟩:=h
   exact⟨_,a.eval y,w,μ,[],by simp[h1,asBool],.inl rfl,cU hh hr hy ht,bQ.refl hh⟩
  ·cases h
 ·rename_i hs
  have h1:=cU hh hr hx hs
  simp only[VR]at h1
  split at h
  ·rename_i v1 ht
   simp only[al,bF]at h
   obtain⟨rfl,rfl⟩:=h
   exact⟨_,a.eval z,w,μ,[],by simp[h1,asBool],.inl rfl,cU hh hr hz ht,bQ.refl hh⟩
  ·cases h
 ·cases h
def Yno(hh:bA P μ w st)(hr:RR μ r n a.tmps){t:TypeId}{k:Option Nat}{x:Operand}{s:Src}(ha:zd P t=some k)(hx:bJ P x=some s)
  (h:FV k s call r st=some (v,aB)):bm P μ w st (do pure (.value (<-Instr.loadAt t (a.eval x)))) v aB:=by
 unfold FV at h
 split at h
 ·rename_i i o hs
  obtain⟨l,hl,he⟩:=cU hh hr hx hs
  split at h
  ·rename_i c e rw ak
   have yy:=hh.row hl ak
   split at h
   ·rename_i u hu
    simp only[al,bF]at h
    obtain⟨rfl,rfl⟩:=h
    cases k with
    |none=>
     simp only[aS]at hu
     obtain⟨y,hy,hv⟩:=yy.cell hu
     exact bm.value hh (by simp[Instr.loadAt,Instr.sureAddr,he,loadVar,TW ha,Result.andThen,hy]) hv
    |some k=>
     simp only[aS]at hu
     split at hu
     ·rename_i vs FB
      simp only[al]at hu;subst hu
      obtain⟨xs,h1,_,h3,_⟩:=yy.zi FB
      exact bm.value hh (x:=.agg xs.toArray) (by simp[Instr.loadAt,Instr.sureAddr,he,loadVar,(Ij ha).1,(Ij ha).2,Result.andThen,h3]) ⟨xs,rfl,h1⟩
     ·cases hu
   ·cases h
  ·cases h
 ·cases h
def Yhq(hh:bA P μ w st)(hr:RR μ r n a.tmps){x:Operand}{s:Src}(hx:bJ P x=some s)(h:FW s call r st=some (v,aB)){ty:TypeId}{d:Option Tmp}{pos:String}{af:Array Edge}{g:Option (Nat×Bool)}:
  bm P μ w st (execOp a.eval ⟨d,.nilCheck x,ty,pos,af,g⟩) v aB:=by
 unfold FW at h
 split at h
 ·rename_i i o hs
  simp only[al,bF]at h
  obtain⟨rfl,rfl⟩:=h
  have h0:=cU hh hr hx hs
  obtain⟨l,hl,he⟩:=h0
  exact⟨_,_,w,μ,[],by simp[execOp,he],.inl rfl,⟨l,hl,rfl⟩,bQ.refl hh⟩
 ·rename_i f b c hs
  simp only[al,bF]at h
  obtain⟨rfl,rfl⟩:=h
  obtain⟨a',c',he,h1,h2⟩:=cU hh hr hx hs
  exact⟨_,_,w,μ,[],by simp[execOp,he],.inl rfl,⟨a',c',rfl,h1,h2⟩,bQ.refl hh⟩
 ·cases h
def Yiu(hh:bA P μ w st)(hr:RR μ r n a.tmps){t:TypeId}{i:Nat}{x:Operand}{s:Src}{fs:Array Field}{f:Field}{k:Nat}(ht:P.underlying t=some (.struct fs))(hf:fs[i]?=some f)
  (hk:eR P f.type=some (k+1)) (hx:bJ P x=some s) (h:F4 f.offset s call r st=some (v,aB)):
  bm P μ w st (do pure (.value (<-Instr.fieldAt t (a.eval x) i))) v aB:=by
 unfold F4 at h
 split at h
 ·rename_i j o hs
  simp only[al,bF]at h
  obtain⟨rfl,rfl⟩:=h
  obtain⟨l,hl,he⟩:=cU hh hr hx hs
  refine bm.value hh (x:=.pointer (some ⟨l.b,l.d+(o+f.offset),none⟩)) ?_ ⟨l,hl,rfl⟩
  simp[Instr.fieldAt,run_underlying ht,hf,Instr.sureAddr,he,fieldPlace,xH hk,Result.andThen,wJ,pw]
 ·cases h
def Zvk(hh:bA P μ w st)(hr:RR μ r n a.tmps){t e:TypeId}{k z:Nat}{x i:Operand}{s q:Src}(ht:P.underlying t=some (.array k e))(hz:eR P e=some z)
  (hx:bJ P x=some s) (hi:bJ P i=some q) (h:BX k z s q call r st=some (v,aB)):
  bm P μ w st (do pure (.value (<-Instr.indexAt t (a.eval x) (a.eval i)))) v aB:=by
 unfold BX at h
 split at h
 ·rename_i b o kd j hs hq
  split at h
  ·rename_i hj
   simp only[al,bF]at h
   obtain⟨rfl,rfl⟩:=h
   obtain⟨l,hl,he⟩:=cU hh hr hx hs
   have iF:=cU hh hr hi hq
   simp only[VR]at iF
   refine bm.value hh (x:=.pointer (some ⟨l.b,l.d+(o+j.toNat*z),none⟩)) ?_ ⟨l,hl,rfl⟩
   have nM:j<(k:Int):=hj.2
   simp[Instr.indexAt,asIntOf,iF,run_underlying ht,Instr.sureAddr,he,hj.1,nM,xH hz,Result.andThen,wJ,pw]
  ·cases h
 ·cases h
def Zz5(hh:bA P μ w st)(hr:RR μ r n a.tmps){t e:TypeId}{z:Nat}{x i:Operand}{s q:Src}(ht:P.underlying t=some (.slice e))(hz:eR P e=some z)
  (hx:bJ P x=some s) (hi:bJ P i=some q) (h:DH z s q call r st=some (v,aB)):
  bm P μ w st (do pure (.value (<-Instr.indexAt t (a.eval x) (a.eval i)))) v aB:=by
 unfold DH at h
 split at h
 ·rename_i b o len cp sz kd j hs hq
  split at h
  ·rename_i hj
   simp only[al,bF]at h
   obtain⟨rfl,rfl⟩:=h
   obtain⟨l,c,hl,he,_⟩:=cU hh hr hx hs
   have iF:=cU hh hr hi hq
   simp only[VR]at iF
   refine bm.value hh (x:=.pointer (some ⟨l.b,l.d+(o+j.toNat*z),none⟩)) ?_ ⟨l,hl,rfl⟩
   have nM:j<(len:Int):=hj.2
   simp[Instr.indexAt,asIntOf,iF,run_underlying ht,he,hj.1,nM,xH hz,Result.andThen,wJ,pw]
  ·cases h
 ·cases h
def Yd3(hh:bA P μ w st)(hr:RR μ r n a.tmps){t:TypeId}{x i:Operand}{s q:Src}(ht:P.underlying t=some .string)
  (hx:bJ P x=some s) (hi:bJ P i=some q) (h:DI s q call r st=some (v,aB)):
  bm P μ w st (do pure (.value (<-Instr.index t (a.eval x) (a.eval i)))) v aB:=by
 unfold DI at h
 split at h
 ·rename_i cs kd j hs hq
  split at h
  ·rename_i hj
   split at h
   ·rename_i u hu
    simp only[al,bF]at h
    obtain⟨rfl,rfl⟩:=h
    have he:=cU hh hr hx hs
    have iF:=cU hh hr hi hq
    simp only[VR]at iF he
    have hb:(⟨cs.toArray⟩:ByteArray)[j.toNat]?=some u:=by
     obtain⟨ay,cL⟩:=y8.1 hu
     rw[getElem?_pos (⟨cs.toArray⟩:ByteArray) j.toNat (by show j.toNat<cs.toArray.size;simpa using ay)]
     simp only[al]
     exact cL
    exact bm.value hh (x:=.int .u8 u.toNat) (by simp[Instr.index,asIntOf,iF,run_underlying ht,he,hj,hb]) (by simp[VR])
   ·cases h
  ·cases h
 ·cases h
def Zz8(hh:bA P μ w st)(hr:RR μ r n a.tmps){x:Operand}{s:Src}{i:Nat}(hx:bJ P x=some s)(h:F9 s i call r st=some (v,aB)):
  bm P μ w st (do pure (.value (<-Instr.extract (a.eval x) i))) v aB:=by
 unfold F9 at h
 split at h
 ·rename_i vs hs
  split at h
  ·rename_i u hu
   simp only[al,bF]at h
   obtain⟨rfl,rfl⟩:=h
   obtain⟨xs,he,px⟩:=cU hh hr hx hs
   obtain⟨y,hy,hv⟩:=px.get hu
   exact bm.value hh (by simp[Instr.extract,he,hy]) hv
  ·cases h
 ·cases h
def Zzd(hh:bA P μ w st)(hr:RR μ r n a.tmps){t:TypeId}{x:Operand}{s:Src}{d:TypeDesc}(ht:P.underlying t=some d)(hd:∀m,d≠.interface m)(hx:bJ P x=some s)
  (h:Iv t s call r st=some (v,aB)):bm P μ w st (do pure (.value (<-Instr.makeInterface t (a.eval x)))) v aB:=by
 unfold Iv at h
 split at h
 ·rename_i u hu
  simp only[al,bF]at h
  obtain⟨rfl,rfl⟩:=h
  refine bm.value hh (x:=.iface t (a.eval x)) ?_ ⟨_,rfl,cU hh hr hx hu⟩
  cases d<;>simp[Instr.makeInterface,run_underlying ht,Result.andThen]at hd ⊢
 ·cases h
def Yc7(hh:bA P μ w st)(hr:RR μ r n a.tmps){f:FuncId}{xs ys:Array Operand}{ss ts:List Src}(hx:uC P xs.toList=some ss)(hy:uC P ys.toList=some ts)
  (h:F3 f ss ts call r st=some (v,aB)):bm P μ w st (do pure (.value (<-Instr.makeFunc (.func f) (xs.map a.eval) (ys.map a.eval)))) v aB:=by
 unfold F3 at h
 split at h
 ·rename_i us ws h1 h2
  simp only[al,bF]at h
  obtain⟨rfl,rfl⟩:=h
  refine bm.value hh (x:=.func (.func f) (xs.map a.eval) (ys.map a.eval)) (by simp[Instr.makeFunc]) ⟨xs.toList.map a.eval,ys.toList.map a.eval,?_,FF hh hr hx h1,FF hh hr hy h2⟩
  congr 1<;>apply Array.ext'<;>simp
 ·cases h
def Yak(hh:bA P μ w st)(hr:RR μ r n a.tmps){src dst:TypeId}{k:IntKind}{x:Operand}{s:Src}(hs:∃q,P.underlying src=some (.int q))(hd:P.underlying dst=some (.int k))(hx:bJ P x=some s)
  (h:FZ k s call r st=some (v,aB)):bm P μ w st (do pure (.value (<-convert src dst (a.eval x)))) v aB:=by
 unfold FZ at h
 split at h
 ·rename_i q m hm
  simp only[al,bF]at h
  obtain⟨rfl,rfl⟩:=h
  obtain⟨q',hs⟩:=hs
  have he:=cU hh hr hx hm
  simp only[VR]at he
  exact bm.value hh (x:=.int k (k.wrap m)) (by simp[convert,run_underlying hs,run_underlying hd,he,Conv.intToInt]) (by simp[VR,zq])
 ·cases h
end
end Go.Mx
