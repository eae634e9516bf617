/-
  Code of the Go model resolved for the machine M: a function of the program's tables.
-/
import Derived.Test.YtlbophlgohokkaaGreatDoorMxCore
import Derived.Laws.MakeOwn
import Derived.Laws.CopyRow
import Derived.Laws.Rows
import Derived.Laws.Append
import Derived.Laws.Externs
import Derived.Laws.StructEq
import Derived.RowKit
set_option linter.all false
namespace Go.Mx
mutual
def cV:Value->Option V
 |.bool b=>some (.bool b)
 |.int k n=>some (.int k n)
 |.float k n=>some (.rM k n)
 |.string s=>some (.str s.data.toList)
 |.pointer none=>some .bD
 |.slice none 0 0=>some .aa
 |.map none=>some .bH
 |.chan none=>some .bN
 |.nilFunc=>some .aG
 |.nilIface=>some .aP
 |.agg ⟨l⟩=>match FI l with
  |some l=>some (.agg l)
  |none=>none
 |.tuple ⟨l⟩=>match FI l with
  |some l=>some (.aZ l)
  |none=>none
 |_=>none
def FI:List Value->Option (List V)
 |[]=>some []
 |v::vs=>match cV v,FI vs with
  |some v,some vs=>some (v::vs)
  |_,_=>none
end
section
variable (P:Program)
def bu:Operand->Option Src
 |.tmp t=>some (.tmp t)
 |.const v=>match cV v with
  |some v=>some (.const v)
  |none=>none
 |.global g=>if g<P.globals.size then some (.const (.ptr g 0)) else none
 |.func f=>some (.const (.func f [] []))
def rN:List Operand->Option (List Src)
 |[]=>some []
 |x::xs=>match bu P x,rN xs with
  |some x,some xs=>some (x::xs)
  |_,_=>none
def pY:Option Operand->Option (Option Src)
 |none=>some none
 |some x=>match bu P x with
  |some x=>some (some x)
  |none=>none
def eg(t:TypeId):Option Nat:=(P.info? t).map (·.size)
def dK(t:TypeId):Option Nat:=(P.info? t).map (·.bytes)
def uO(t:TypeId):Option (Option Nat):=
 match P.underlying t with
 |some (.struct _)|some (.array _ _)=>match eg P t with
  |some n=>some (some n)
  |none=>none
 |some _=>some none
 |none=>none
def mK(t:TypeId):Option V:=
 match P.info? t with
 |some i=>match i.zero with
  |some v=>cV v
  |none=>none
 |none=>none
def LA:TypeDesc->Option PK
 |.bool=>some .bool
 |.int _=>some .int
 |.string=>some .str
 |.pointer _=>some .ptr
 |.slice _=>some .slice
 |.map _ _=>some .map
 |.func _ _ _=>some .func
 |.chan _ _=>some .chan
 |.interface _=>some .iface
 |_=>none
def FJ(q:TypeId->Option pZ):List Field->Option (List (Nat×Option Nat×pZ))
 |[]=>some []
 |f::fs=>if f.name= "_" then FJ q fs else
  match uO P f.type,q f.type,FJ q fs with
  |some a,some q,some l=>some ((f.offset,a,q)::l)
  |_,_,_=>none
def QZ:TypeDesc->Bool
 |.pointer e=>(P.info? e).isSome
 |_=>true
def tI:Nat->TypeId->Option pZ
 |0,_=>none
 |d+1,t=>
  match P.underlying t with
  |some (.struct fs)=>
   if P.stoodInHeld t then none else
   match FJ P (tI d) fs.toList with
   |some l=>some (.node l)
   |none=>none
  |some q=>match LA q with
   |some k=>if QZ P q=true then some (.aI k) else none
   |none=>none
  |none=>none
def yx(place:Nat->Option (Nat×Nat)):List (Nat×Operand)->Option (List (Nat×Nat×Src))
 |[]=>some []
 |(i,x)::rest=>match place i,bu P x,yx place rest with
  |some (o,s),some x,some l=>some ((o,s,x)::l)
  |_,_,_=>none
def wO(t:TypeId):Option gU:=
 match P.underlying t with
 |some (.int k)=>some (.int k)
 |some .string=>some .str
 |_=>none
def CN:Operand->Bool
 |.const _=>true
 |_=>false
def FK(fs:List Field):Option (List (Nat×Nat)):=
 match fs with
 |[]=>some []
 |f::fs=>match eg P f.type,FK fs with
  |some s,some l=>some ((f.offset,s)::l)
  |_,_=>none
def vL(name:String):Option Ext:=
 if name= "math/bits.Add64" then some .eJ
 else if name= "math/bits.Sub64" then some .gQ
 else if name= "internal/abi.NoEscape" then some .same
 else if name= "internal/bytealg.IndexByteString" then some .bE
 else none
def Be(c:Call):Option gG:=
 match c.callee with
 |.value f=>match rN P c.args.toList with
  |none=>none
  |some args=>match f with
   |.func g=>match P.funcs[g]? with
    |some fn=>if fn.body.isSome then some (.call (.const (.func g [] [])) args) else
     match vL fn.name with
     |some e=>some (.ext e args)
     |none=>none
    |none=>none
   |f=>match bu P f with
    |some f=>some (.call f args)
    |none=>none
 |.invoke _ _=>none
 |.builtin b=>
  match b,c.argTypes.toList,c.args.toList with
  |.len,[t],[x]=>
   match P.underlying t,bu P x with
   |some .string,some x=>some (.len 0 x)
   |some (.slice _),some x=>some (.len 1 x)
   |some (.map _ _),some x=>some (.len 2 x)
   |some (.array n _),_=>some (.lY n)
   |some (.pointer a),_=>match P.underlying a with
    |some (.array n _)=>some (.lY n)
    |_=>none
   |_,_=>none
  |.cap,[t],[x]=>
   match P.underlying t,bu P x with
   |some (.slice _),some x=>some (.cap x)
   |_,_=>none
  |.min,_,_=>match rN P c.args.toList with
   |some l=>some (.mn l)
   |none=>none
  |.max,_,_=>match rN P c.args.toList with
   |some l=>some (.mx l)
   |none=>none
  |.append,[t,u],[s,x]=>
   match P.underlying t with
   |some (.slice e)=>match eg P e,dK P e,mK P e,bu P s,bu P x,P.underlying u with
    |some n,some b,some z,some s,some x,some d=>if (d matches .int _)\/b=0\/z.cells.length≠n\/z.cells.all V.one=false then none else some (.append n b e z.cells s x)
    |_,_,_,_,_,_=>none
   |_=>none
  |.copy,t::_,[d,s]=>
   match P.underlying t with
   |some (.slice e)=>match eg P e,bu P d,bu P s with
    |some n,some d,some s=>some (.copy n d s)
    |_,_,_=>none
   |_=>none
  |.clear,[t],[s]=>
   match P.underlying t with
   |some (.slice e)=>match eg P e,mK P e,bu P s with
    |some n,some z,some s=>if z.cells.all V.one then some (.clear n z.cells s) else none
    |_,_,_=>none
   |_=>none
  |.unsafeSliceData,[_],[s]=>(bu P s).map .tJ
  |.unsafeString,[t,_],[x,n]=>
   match P.underlying t with
   |some (.pointer e)=>match eg P e,bu P x,bu P n with
    |some 1,some x,some n=>some (.zz e x n)
    |_,_,_=>none
   |_=>none
  |_,_,_=>none
def FL:Op->Option gG
 |.move x|.assign x=>(bu P x).map .aY
 |.pick c a b=>match bu P c,bu P a,bu P b with
  |some c,some a,some b=>some (.pick c a b)
  |_,_,_=>none
 |.alloc e=>match mK P e with
  |some z=>if z.cells.all V.one then some (.alloc z.cells e) else none
  |none=>none
 |.box e x=>(bu P x).map (.box e)
 |.build t parts=>match mK P t with
  |none=>none
  |some z=>match P.underlying t with
   |some (.struct fs)=>match FK P fs.toList with
    |some pl=>(yx P (pl[·]?) parts.toList).map (.build z.cells)
    |none=>none
   |some (.array _ e)=>match eg P e with
    |some s=>(yx P (fun i=>some (i*s,s)) parts.toList).map (.build z.cells)
    |none=>none
   |_=>none
 |.buildSlice t len parts=>match P.underlying t with
  |some (.slice e)=>match eg P e,mK P e with
   |some s,some z=>if len*s > 2^24\/z.cells.length≠s\/s=0 then none else
    (yx P (fun i=>some (i*s,s)) parts.toList).map (.aO e s len (cN z.cells len))
   |_,_=>none
  |_=>none
 |.load t a=>match uO P t,bu P a with
  |some n,some a=>some (.load n a)
  |_,_=>none
 |.store t a x=>match eg P t,bu P a,bu P x with
  |some n,some a,some x=>some (.store n a x)
  |_,_,_=>none
 |.nilCheck x=>(bu P x).map .fy
 |.binOp op t x y _=>match bu P x,bu P y with
  |some a,some b=>
   match op with
   |.eql|.neq=>match tI P 40 t with
    |some q=>if (match P.underlying t with|some (.struct _)|some (.array _ _)=>P.eqGuardType P.depth t|_=>false) then none else some (.bin op q (CN x||CN y) a b)
    |none=>none
   |_=>some (.bin op (.node []) false a b)
  |_,_=>none
 |.unOp op _ x=>(bu P x).map (.un op)
 |.convert src dst x=>match bu P x with
  |none=>none
  |some a=>match P.underlying src,P.underlying dst with
   |some (.int _),some (.int k)=>some (.bb k a)
   |some .string,some .string=>some (.kf a)
   |some .string,some (.slice e)=>match P.underlying e with
    |some (.int .u8)=>some (.fN e a)
    |_=>none
   |some (.slice e),some .string=>match P.underlying e with
    |some (.int .u8)=>some (.eZ a)
    |_=>none
   |some (.pointer t),some .unsafePointer=>match eg P t with
    |some (_+1)=>some (.FM none a)
    |_=>none
   |some .unsafePointer,some (.pointer u)=>match eg P u with
    |some (z+1)=>some (.FM (some (u,z+1)) a)
    |_=>none
   |_,_=>none
 |.makeInterface t x=>match P.underlying t with
  |some (.interface _)=>none
  |some _=>(bu P x).map (.eK t)
  |none=>none
 |.makeFunc (.func f) first fE=>match rN P first.toList,rN P fE.toList with
  |some a,some l=>some (.bM f a l)
  |_,_=>none
 |.makeMap _ none=>some .qu
 |.makeChan t n=>match P.underlying t with
  |some (.chan _ e)=>match dK P e,bu P n with
   |some b,some n=>some (.oh b n)
   |_,_=>none
  |_=>none
 |.makeSlice t l c=>match P.underlying t with
  |some (.slice e)=>match eg P e,dK P e,mK P e,bu P l,bu P c with
   |some s,some b,some z,some l,some c=>if z.cells.all V.one then some (.bO e s b z.cells l c) else none
   |_,_,_,_,_=>none
  |_=>none
 |.slice t x lo hi mx=>match bu P x,pY P lo,pY P hi,pY P mx with
  |some x,some lo,some hi,some mx=>match P.underlying t with
   |some .string=>if mx.isSome then none else some (.az x lo hi)
   |some (.slice e)=>(eg P e).map fun s=>.dX s x lo hi mx
   |some (.array n e)=>(eg P e).map fun s=>.cP n s x lo hi mx
   |_=>none
  |_,_,_,_=>none
 |.fieldAddr t x i=>match P.underlying t,bu P x with
  |some (.struct fs),some x=>match fs[i]? with
   |some f=>match eg P f.type with
    |some (_+1)=>some (.de f.offset x)
    |_=>none
   |none=>none
  |_,_=>none
 |.field t x i=>match P.underlying t,bu P x with
  |some (.struct fs),some x=>match fs[i]? with
   |some f=>(uO P f.type).map fun n=>.field f.offset n x
   |none=>none
  |_,_=>none
 |.indexAddr t x i=>match P.underlying t,bu P x,bu P i with
  |some (.array n e),some x,some i=>(eg P e).map fun s=>.dG n s x i
  |some (.slice e),some x,some i=>(eg P e).map fun s=>.aN s x i
  |_,_,_=>none
 |.index t x i=>match P.underlying t,bu P x,bu P i with
  |some (.array n e),some x,some i=>match eg P e,uO P e with
   |some s,some a=>some (.oo n s a x i)
   |_,_=>none
  |some .string,some x,some i=>some (.aQ x i)
  |_,_,_=>none
 |.lookup t m k ok=>match P.underlying t,bu P m,bu P k with
  |some (.map kt e),some m,some k=>match wO P kt,mK P e with
   |some kd,some z=>some (.lookup kd z m k ok)
   |_,_=>none
  |_,_,_=>none
 |.mapUpdate t m k v|.insert t m k v=>match P.underlying t,bu P m,bu P k,bu P v with
  |some (.map kt _),some m,some k,some v=>(wO P kt).map fun kd=>.ot kd m k v
  |_,_,_,_=>none
 |.range t x=>match P.underlying t,bu P x with
  |some .string,some x=>some (.iD x)
  |_,_=>none
 |.next it true=>(bu P it).map .oA
 |.extract x i=>(bu P x).map fun x=>.extract x i
 |.call c=>Be P c
 |_=>none
def wP(o:Op):gG:=(FL P o).getD .stop
def CO(ops:Array Oper):Option (Nat×Bool)->Option (Option (Nat×Bool))
 |none=>some none
 |some (j,want)=>match (ops[j]?).bind (·.dst)with
  |some t=>some (some (t,want))
  |none=>none
def oB(ops:Array Oper)(o:Oper):df:=
 match CO ops o.guard with
 |some g=>{dst:=o.dst,op:=wP P o.op,guard:=g}
 |none=>{dst:=o.dst,op:=.stop,guard:=none}
def HJ(o:Oper)(ms:List Nat):Nat:=
 o.after.foldl (fun s e=>if Region.binds .any e then s|||2^e.on|||ms.getD e.on 0 else s) 0
def rO:List Oper->List Nat->List Nat
 |[],acc=>acc
 |o::rest,acc=>rO rest (acc++[HJ o acc])
def LB(o:Oper):Option (Option Nat×Src×Option Src×V):=
 match o.op,o.guard with
 |.select cs false,none=>match cs.toList with
  |[c]=>match bu P c.chan,pY P c.send,mK P c.elem with
   |some ch,some s,some z=>some (o.dst,ch,s,z)
   |_,_,_=>none
  |_=>none
 |_,_=>none
def FN:Nat->List Oper->Bool
 |_,[]=>true
 |i,o::os=>(o.after.all fun e=>!Region.binds .any e||Nat.blt e.on i)&&FN (i+1) os
def Q0(ops:Array Oper):Bool:=FN 0 ops.toList&&dw LC (ops.toList.map (oB P ops)) (rO ops.toList [])
def gR:Code->aq
 |.skip=>.skip
 |.region _ ops false=>match ops.toList with
  |[]=>.aM []
  |o::rest=>match LB P o with
   |some (d,ch,s,z)=>.uP d ch s z (rest.map (oB P ops))
   |none=>.aM ((o::rest).map (oB P ops))
 |.region _ ops true=>if Q0 P ops then .aV (ops.toList.map (oB P ops)) (rO ops.toList []) else .stop
 |.seq a b=>.seq (gR a) (gR b)
 |.cond c a b=>match bu P c with
  |some c=>.cond c (gR a) (gR b)
  |none=>.stop
 |.block id c=>.block id (gR c)
 |.loop c=>.loop (gR c)
 |.rangeFunc g ps assign body=>match bu P g with
  |some g=>.oC g ps.toList (gR assign) (gR body)
  |none=>.stop
 |.exit id=>.exit id
 |.scope c=>.scope (gR c)
 |.label _=>.skip
 |.goto _=>.stop
 |.ret=>.ret
 |.refuse _=>.stop
def Bf:List ResultVar->Option (List CP)
 |[]=>some []
 |.tmp t::rest=>(Bf rest).map (.tmp t::·)
 |.cell t ty::rest=>match uO P ty,Bf rest with
  |some n,some l=>some (.cell t n::l)
  |_,_=>none
def vG(f:FuncId):Option jE:=
 match P.funcs[f]? with
 |some fn=>match fn.body,Bf P fn.results.toList with
  |some c,some rs=>some {ntmps:=fn.ntmps,results:=rs,body:=gR P c}
  |_,_=>none
 |none=>none
end
open Go
structure L where
 b:Nat
 d:Nat
 oD:Nat
abbrev Mu:=Nat->Option L
mutual
def VR(μ:Mu):V->Value->Prop
 |.bool b,x=>x=.bool b
 |.int k n,x=>x=.int k n
 |.rM k n,x=>x=.float k n
 |.str s,x=>x=.string ⟨s.toArray⟩
 |.bD,x=>x=.pointer none
 |.ptr i o,x=>∃l,μ i=some l/\x=.pointer (some ⟨l.b,l.d+o,none⟩)
 |.aa,x=>x=.slice none 0 0
 |.slice i o len cap sz,x=>∃l c,μ i=some l/\x=.slice (some ⟨l.b,l.d+o,none⟩) len c/\len<=c/\o+c*sz<=l.oD/\
   (∀k,cap=some k->c=k)/\(cap=none->o+c*sz=l.oD)
 |.empty,x=>∃a c,x=.slice (some a) 0 c
 |.bH,x=>x=.map none
 |.map i,x=>∃l,μ i=some l/\x=.map (some l.b)
 |.bN,x=>x=.chan none
 |.chan i,x=>∃l,μ i=some l/\x=.chan (some l.b)
 |.func f a c,x=>∃a' c',x=.func (.func f) ⟨a'⟩ ⟨c'⟩/\aX μ a a'/\aX μ c c'
 |.yield i,x=>∃l,μ i=some l/\x=.func (.yield l.b) #[] #[]
 |.aG,x=>x=.nilFunc
 |.iface t v,x=>∃y,x=.iface t y/\VR μ v y
 |.aP,x=>x=.nilIface
 |.agg vs,x=>∃a,x=.agg ⟨a⟩/\aX μ vs a
 |.aZ vs,x=>∃a,x=.tuple ⟨a⟩/\aX μ vs a
def aX(μ:Mu):List V->List Value->Prop
 |[],xs=>xs=[]
 |v::vs,xs=>∃y ys,xs=y::ys/\VR μ v y/\aX μ vs ys
end
mutual
theorem VR.mono{μ μ':Mu}(h:∀i l,μ i=some l->μ' i=some l):∀(v:V) (x:Value),VR μ v x->VR μ' v x
 |.bool _,_,hx=>by simpa[VR]using hx
 |.int _ _,_,hx=>by simpa[VR]using hx
 |.rM _ _,_,hx=>by simpa[VR]using hx
 |.str _,_,hx=>by simpa[VR]using hx
 |.bD,_,hx=>by simpa[VR]using hx
 |.ptr _ _,_,hx=>by simp only[VR]at*;obtain⟨l,h1,h2⟩:=hx;exact⟨l,h _ _ h1,h2⟩
 |.aa,_,hx=>by simpa[VR]using hx
 |.slice _ _ _ _ _,_,hx=>by simp only[VR]at*;obtain⟨l,c,h1,h2⟩:=hx;exact⟨l,c,h _ _ h1,h2⟩
 |.empty,_,hx=>by simpa[VR]using hx
 |.bH,_,hx=>by simpa[VR]using hx
 |.map _,_,hx=>by simp only[VR]at*;obtain⟨l,h1,h2⟩:=hx;exact⟨l,h _ _ h1,h2⟩
 |.bN,_,hx=>by simpa[VR]using hx
 |.chan _,_,hx=>by simp only[VR]at*;obtain⟨l,h1,h2⟩:=hx;exact⟨l,h _ _ h1,h2⟩
 |.func _ a c,_,hx=>by
  simp only[VR]at*;obtain⟨a',c',h1,h2,h3⟩:=hx
  exact⟨a',c',h1,aX.mono h a a' h2,aX.mono h c c' h3⟩
 |.yield _,_,hx=>by simp only[VR]at*;obtain⟨l,h1,h2⟩:=hx;exact⟨l,h _ _ h1,h2⟩
 |.aG,_,hx=>by simpa[VR]using hx
 |.iface _ v,_,hx=>by simp only[VR]at*;obtain⟨y,h1,h2⟩:=hx;exact⟨y,h1,VR.mono h v y h2⟩
 |.aP,_,hx=>by simpa[VR]using hx
 |.agg vs,_,hx=>by simp only[VR]at*;obtain⟨a,h1,h2⟩:=hx;exact⟨a,h1,aX.mono h vs a h2⟩
 |.aZ vs,_,hx=>by simp only[VR]at*;obtain⟨a,h1,h2⟩:=hx;exact⟨a,h1,aX.mono h vs a h2⟩
theorem aX.mono{μ μ':Mu}(h:∀i l,μ i=some l->μ' i=some l):∀(vs:List V) (xs:List Value),aX μ vs xs->aX μ' vs xs
 |[],_,hx=>by simpa[aX]using hx
 |v::vs,_,hx=>by
  simp only[aX]at*
  obtain⟨y,ys,h1,h2,h3⟩:=hx
  exact⟨y,ys,h1,VR.mono h v y h2,aX.mono h vs ys h3⟩
end
section
variable {μ:Mu}
theorem fO{v:V}{vs:List V}{xs:List Value}:aX μ (v::vs) xs↔∃y ys,xs=y::ys/\VR μ v y/\aX μ vs ys:=by simp[aX]
theorem aX.length:∀{vs:List V} {xs:List Value},aX μ vs xs->xs.length=vs.length
 |[],_,h=>by simp[aX]at h;simp[h]
 |v::vs,_,h=>by
  obtain⟨y,ys,rfl,_,h3⟩:=fO.1 h
  simp[aX.length h3]
theorem aX.get:∀{vs:List V} {xs:List Value},aX μ vs xs->∀{i:Nat} {v:V},vs[i]?=some v->∃x,xs[i]?=some x/\VR μ v x
 |[],_,_,i,v,hv=>by simp at hv
 |w::vs,_,h,i,v,hv=>by
  obtain⟨y,ys,rfl,h2,h3⟩:=fO.1 h
  cases i with
  |zero=>simp at hv;subst hv;exact⟨y,by simp,h2⟩
  |succ i=>simpa using aX.get h3 (i:=i) (by simpa using hv)
theorem aX.append:∀{vs ws:List V} {xs ys:List Value},aX μ vs xs->aX μ ws ys->aX μ (vs++ws) (xs++ys)
 |[],ws,_,ys,h,h'=>by simp[aX]at h;simpa[h]using h'
 |v::vs,ws,_,ys,h,h'=>by
  obtain⟨y,zs,rfl,h2,h3⟩:=fO.1 h
  exact fO.2 ⟨y,zs++ys,rfl,h2,aX.append h3 h'⟩
theorem aX.take:∀{vs:List V} {xs:List Value} (n:Nat),aX μ vs xs->aX μ (vs.take n) (xs.take n)
 |[],_,n,h=>by simp[aX]at h;simp[h,aX]
 |v::vs,_,n,h=>by
  obtain⟨y,zs,rfl,h2,h3⟩:=fO.1 h
  cases n with
  |zero=>simp[aX]
  |succ n=>exact fO.2 ⟨y,zs.take n,rfl,h2,aX.take n h3⟩
theorem aX.drop:∀{vs:List V} {xs:List Value} (n:Nat),aX μ vs xs->aX μ (vs.drop n) (xs.drop n)
 |[],_,n,h=>by simp[aX]at h;simp[h,aX]
 |v::vs,_,n,h=>by
  cases n with
  |zero=>simpa using h
  |succ n=>
   obtain⟨y,zs,rfl,h2,h3⟩:=fO.1 h
   simpa using aX.drop n h3
theorem aX.l7:∀{vs:List V} {xs:List Value},xs.length=vs.length->(∀(i:Nat) (v:V),vs[i]?=some v->∃x,xs[i]?=some x/\VR μ v x)->aX μ vs xs
 |[],xs,hl,_=>by simp at hl;simp[aX,hl]
 |v::vs,[],hl,_=>by simp at hl
 |v::vs,x::xs,hl,h=>by
  refine fO.2 ⟨x,xs,rfl,?_,aX.l7 (by simpa using hl) fun i u hu=>?_⟩
  ·obtain⟨y,h1,h2⟩:=h 0 v (by simp)
   simp at h1;subst h1;exact h2
  ·simpa using h (i+1) u (by simpa using hu)
theorem aX.set{vs:List V}{xs:List Value}(h:aX μ vs xs)(i:Nat){v:V}{x:Value}(hv:VR μ v x):aX μ (vs.set i v) (xs.set i x):=by
 refine aX.l7 (by simp[h.length]) fun j u hu=>?_
 by_cases e:i=j
 ·subst e
  rw[List.getElem?_set]at hu ⊢
  by_cases aD:i<vs.length
  ·simp[aD]at hu
   subst hu
   simp[h.length,aD,hv]
  ·simp[aD]at hu
 ·rw[eI e]at hu ⊢
  exact h.get hu
theorem VR.one{v:V}{x:Value}(h:VR μ v x)(hv:v.one=true):x.oneCell'=true:=by
 cases v<;>simp only[VR]at h<;>simp only[V.one,fx]at hv
 case bool=>subst h;rfl
 case int=>subst h;rfl
 case rM=>subst h;rfl
 case str=>subst h;rfl
 case bD=>subst h;rfl
 case ptr=>obtain⟨l,_,rfl⟩:=h;rfl
 case aa=>subst h;rfl
 case slice=>obtain⟨l,c,_,rfl,_⟩:=h;rfl
 case empty=>obtain⟨a,c,rfl⟩:=h;rfl
 case bH=>subst h;rfl
 case map=>obtain⟨l,_,rfl⟩:=h;rfl
 case bN=>subst h;rfl
 case chan=>obtain⟨l,_,rfl⟩:=h;rfl
 case func=>obtain⟨a,c,rfl,_⟩:=h;rfl
 case yield=>obtain⟨l,_,rfl⟩:=h;rfl
 case aG=>subst h;rfl
 case iface=>obtain⟨y,rfl,_⟩:=h;rfl
 case aP=>subst h;rfl
theorem VR.cells{v:V}{x:Value}(h:VR μ v x):aX μ v.cells x.cells.toList:=by
 have one:∀y:Value,x=y->(y.cells=#[y])->v.cells=[v]->aX μ v.cells x.cells.toList:=fun y e hc hv=>by
  subst e;rw[hc,hv];exact fO.2 ⟨_,[],rfl,h,by simp[aX]⟩
 have h0:=h
 cases v<;>simp only[VR]at h
 case bool=>exact one _ h rfl rfl
 case int=>exact one _ h rfl rfl
 case rM=>exact one _ h rfl rfl
 case str=>exact one _ h rfl rfl
 case bD=>exact one _ h rfl rfl
 case ptr=>obtain⟨l,_,e⟩:=h;exact one _ e rfl rfl
 case aa=>exact one _ h rfl rfl
 case slice=>obtain⟨l,c,_,e,_⟩:=h;exact one _ e rfl rfl
 case empty=>obtain⟨a,c,e⟩:=h;exact one _ e rfl rfl
 case bH=>exact one _ h rfl rfl
 case map=>obtain⟨l,_,e⟩:=h;exact one _ e rfl rfl
 case bN=>exact one _ h rfl rfl
 case chan=>obtain⟨l,_,e⟩:=h;exact one _ e rfl rfl
 case func=>obtain⟨a,c,e,_⟩:=h;exact one _ e rfl rfl
 case yield=>obtain⟨l,_,e⟩:=h;exact one _ e rfl rfl
 case aG=>exact one _ h rfl rfl
 case iface=>obtain⟨y,e,_⟩:=h;exact one _ e rfl rfl
 case aP=>exact one _ h rfl rfl
 case agg vs=>obtain⟨a,rfl,h⟩:=h;exact h
 case aZ vs=>obtain⟨a,e,_⟩:=h;exact one _ e rfl rfl
end
def RR(μ:Mu)(r:T V)(n:Nat)(tmps:Array Value):Prop:=
 tmps.size=n/\∀t v,r.get t=some v->∃x,tmps[t]?=some x/\VR μ v x
theorem RR.mono{μ μ':Mu}{r:T V}{n:Nat}{tmps:Array Value}(h:∀i l,μ i=some l->μ' i=some l)(hr:RR μ r n tmps):RR μ' r n tmps:=
 ⟨hr.1,fun t v hv=>let ⟨x,h1,h2⟩:=hr.2 t v hv;⟨x,h1,VR.mono h v x h2⟩⟩
theorem RR.set{μ:Mu}{r:T V}{n:Nat}{tmps:Array Value}(hr:RR μ r n tmps){d:Nat}(hd:d<n){v:V}{x:Value}(hv:VR μ v x):
  RR μ (r.set d v) n (tmps.setIfInBounds d x):=by
 refine⟨by simp[hr.1],fun t u hu=>?_⟩
 rw[T.ai]at hu
 by_cases e:t=d
 ·subst e
  simp at hu;subst hu
  exact⟨x,by simp[hr.1,hd],hv⟩
 ·simp[e]at hu
  obtain⟨y,h1,h2⟩:=hr.2 t u hu
  exact⟨y,by rw[FO (Ne.symm e)];exact h1,h2⟩
def wQ:Ex->Option Code
 |.normal=>none
 |.exit id=>some (.exit id)
 |.ret=>some .ret
def gH(μ:Mu):List (V×V)->List MapEntry->Nat->Prop
 |[],xs,_=>xs=[]
 |(k,v)::es,xs,i=>∃e ys,xs=e::ys/\VR μ k e.key/\VR μ v e.val/\e.born=i/\gH μ es ys (i+1)
theorem gH.mono{μ μ':Mu}(h:∀i l,μ i=some l->μ' i=some l):∀(es:List (V×V)) (xs:List MapEntry) (i:Nat),gH μ es xs i->gH μ' es xs i
 |[],_,_,hx=>hx
 |(k,v)::es,_,i,hx=>by
  obtain⟨e,ys,h1,h2,h3,h4,h5⟩:=hx
  exact⟨e,ys,h1,VR.mono h k _ h2,VR.mono h v _ h3,h4,gH.mono h es ys (i+1) h5⟩
def OM(P:Program)(μ:Mu)(w:World):O->L->Prop
 |.cells c e rw,l=>∃(c':Array Value) (lo hi:Nat),w.heap[l.b]?=some (.cells c' e (lo,hi))/\l.d+l.oD<=c'.size/\c.length<=l.oD/\
   (∀(j:Nat) (v:V),c[j]?=some v->∃x,c'[l.d+j]?=some x/\VR μ v x)/\(∀(j:Nat) (x:Value),j<l.oD->c'[l.d+j]?=some x->x.oneCell'=true)/\(rw=true->l.d=0/\∀j,j<l.oD->¬(lo<=l.d+j/\l.d+j<hi))
 |.map es,l=>∃fP:List MapEntry,w.heap[l.b]?=some (.map ⟨fP⟩ fP.length)/\gH μ es fP 0
 |.chan cap buf,l=>∃(oE:List Value) (s r:Nat),w.heap[l.b]?=some (.chan cap ⟨oE⟩ false s r false)/\aX μ buf oE
 |.dT s pos,l=>w.heap[l.b]?=some (.stringIter ⟨s.toArray⟩ pos)/\l.d=0
 |.loop R,l=>∃fn tmps fg fh ld,w.heap[l.b]?=some (.loop {state:=R.st,pending:=R.gI.bind wQ,fn:=fn,tmps:=tmps,params:=⟨R.ps⟩,assign:=fg,body:=fh,defers:=ld.b})/\
   RR μ R.r R.n tmps/\gR P fg=R.assign/\gR P fh=R.body/\μ R.defs=some ld
 |.defs o,l=>w.heap[l.b]?=some (.deferred (if o then some [] else none))
 |.dead,_=>True
theorem OM.mono{P:Program}{μ μ':Mu}{w:World}(h:∀i l,μ i=some l->μ' i=some l){o:O}{l:L}(ho:OM P μ w o l):OM P μ' w o l:=by
 cases o with
 |cells c e rw=>
  obtain⟨c',lo,hi,h1,h2,h3,h4,h5⟩:=ho
  exact⟨c',lo,hi,h1,h2,h3,fun j v hv=>let ⟨x,a,b⟩:=h4 j v hv;⟨x,a,VR.mono h v x b⟩,h5⟩
 |map es=>obtain⟨fP,h1,h2⟩:=ho;exact⟨fP,h1,gH.mono h _ _ _ h2⟩
 |chan cap buf=>obtain⟨b',s,r,h1,h2⟩:=ho;exact⟨b',s,r,h1,aX.mono h _ _ h2⟩
 |dT s pos=>simp only[OM]at*;exact ho
 |loop R=>obtain⟨fn,tmps,fg,fh,ld,h1,h2,h3,h4,h5⟩:=ho;exact⟨fn,tmps,fg,fh,ld,h1,h2.mono h,h3,h4,h _ _ h5⟩
 |defs b=>simp only[OM]at*;exact ho
 |dead=>trivial
theorem OM.congr{P:Program}{μ:Mu}{w w':World}{o:O}{l:L}(hb:w'.heap[l.b]?=w.heap[l.b]?)(ho:OM P μ w o l):OM P μ w' o l:=by
 cases o with
 |cells c e rw=>obtain⟨c',lo,hi,h1,h2⟩:=ho;exact⟨c',lo,hi,hb.trans h1,h2⟩
 |map es=>obtain⟨fP,h1,h2⟩:=ho;exact⟨fP,hb.trans h1,h2⟩
 |chan cap buf=>obtain⟨b',s,r,h1,h2⟩:=ho;exact⟨b',s,r,hb.trans h1,h2⟩
 |dT s pos=>exact⟨hb.trans ho.1,ho.2⟩
 |loop R=>obtain⟨fn,tmps,fg,fh,ld,h1,h2⟩:=ho;exact⟨fn,tmps,fg,fh,ld,hb.trans h1,h2⟩
 |defs b=>exact hb.trans ho
 |dead=>trivial
structure bo (P:Program) (μ:Mu) (w:World) (st:St):Prop where
 cG:∀i l,μ i=some l->i<st.n/\l.b<w.heap.size
 obj:∀i l,μ i=some l->∃o,st.h.get i=some o/\OM P μ w o l
 inj:∀i j l l' o o',μ i=some l->μ j=some l'->i≠j->st.h.get i=some o->st.h.get j=some o'->o.wr=true->o'.live=true->l.b≠l'.b
 fF:∀g,g<P.globals.size->∃t,μ g=some ⟨g,0,t⟩
structure HK (μ:Mu) (ws:List Nat) (w w':World):Prop where
 os:w'.os=w.os
 tape:w'.tape=w.tape
 output:w'.output=w.output
 size:w.heap.size<=w'.heap.size
 block:∀b,b<w.heap.size->(∀i∈ws,∀l,μ i=some l->l.b≠b)->w'.heap[b]?=w.heap[b]?
structure bB (P:Program) (μ:Mu) (w:World) (st:St) (μ':Mu) (w':World) (av:St) (ws:List Nat):Prop where
 hr:bo P μ' w' av
 ext:∀i,i<st.n->μ' i=μ i
 eX:st.n<=av.n
 wl:av.w=ws++st.w
 c_:HK μ ws w w'
 new:∀i l,st.n<=i->μ' i=some l->w.heap.size<=l.b\/∃j∈ws,j<st.n/\∃lj oj,μ j=some lj/\lj.b=l.b/\st.h.get j=some oj/\oj.wr=true
 ae:∀i,i<st.n->i∉ws->av.h.get i=st.h.get i
 grow:∀i o',i<st.n->av.h.get i=some o'->∃o,st.h.get i=some o/\(o'.wr=true->o.wr=true)/\(o'.live=true->o.live=true)
 full:∀i,st.n<=i->i<av.n->∃l,μ' i=some l
 tK:∀i∈ws,i<st.n->∃o,st.h.get i=some o/\o.wr=true
theorem bo.CQ{P:Program}{μ μ':Mu}{w:World}{st:St}(h:bo P μ w st)(he:∀i,i<st.n->μ' i=μ i):∀i l,μ i=some l->μ' i=some l:=
 fun i l hi=>(he i (h.cG i l hi).1).trans hi
theorem HK.refl(μ:Mu)(ws:List Nat)(w:World):HK μ ws w w:=⟨rfl,rfl,rfl,aS _,fun _ _ _=>rfl⟩
theorem bB.refl{P:Program}{μ:Mu}{w:World}{st:St}(h:bo P μ w st):bB P μ w st μ w st []:=
 ⟨h,fun _ _=>rfl,aS _,rfl,HK.refl μ [] w,fun i l hi hl=>absurd (h.cG i l hl).1 (by omega),fun _ _ _=>rfl,fun _ o' _ ho=>⟨o',ho,id,id⟩,fun _ h1 h2=>absurd h2 (by omega),fun _ hi=>absurd hi (by simp)⟩
theorem bB.trans{P:Program}{μ μ1 μ2:Mu}{w w1 w2:World}{st bS eD:St}{ws zA:List Nat}
  (h1:bB P μ w st μ1 w1 bS ws) (h2:bB P μ1 w1 bS μ2 w2 eD zA):bB P μ w st μ2 w2 eD (zA++ws) where
 hr:=h2.hr
 ext:=fun i hi=>(h2.ext i (eY hi h1.eX)).trans (h1.ext i hi)
 eX:=p9 h1.eX h2.eX
 wl:=by rw[h2.wl,h1.wl,qw]
 c_:=by
  refine⟨h2.c_.os.trans h1.c_.os,h2.c_.tape.trans h1.c_.tape,h2.c_.output.trans h1.c_.output,p9 h1.c_.size h2.c_.size,fun b hb cH=>?_⟩
  rw[h2.c_.block b (eY hb h1.c_.size) fun i hi l hl=>?_,h1.c_.block b hb fun i hi l hl=>cH i (by simp[hi]) l hl]
  by_cases Bg:i<st.n
  ·exact cH i (by simp[hi]) l (by rw[<-h1.ext i Bg];exact hl)
  ·rcases h1.new i l (by omega) hl with h|⟨j,hj,_,lj,oj,rb,rP,_⟩
   ·omega
   ·rw[<-rP];exact cH j (by simp[hj]) lj rb
 new:=fun i l hi hl=>by
  by_cases Bg:i<bS.n
  ·rcases h1.new i l hi (by rw[<-h2.ext i Bg];exact hl)with h|⟨j,hj,r⟩
   ·exact .inl h
   ·exact .inr ⟨j,by simp[hj],r⟩
  ·rcases h2.new i l (by omega) hl with h|⟨j,hj,yy,lj,oj,rb,rP,CR,how⟩
   ·exact .inl (p9 h1.c_.size h)
   ·by_cases hjn':j<st.n
    ·obtain⟨o,ho,hw,_⟩:=h1.grow j oj hjn' CR
     exact .inr ⟨j,by simp[hj],hjn',lj,o,by rw[<-h1.ext j hjn'];exact rb,rP,ho,hw how⟩
    ·rcases h1.new j lj (by omega) rb with h|⟨j',HL,r⟩
     ·exact .inl (by omega)
     ·obtain⟨r1,lj',oj',r2,r3,r4⟩:=r
      exact .inr ⟨j',by simp[HL],r1,lj',oj',r2,r3.trans rP,r4⟩
 ae:=fun i hi cH=>by
  simp only[oF,not_or]at cH
  rw[h2.ae i (eY hi h1.eX) cH.1,h1.ae i hi cH.2]
 grow:=fun i o' hi ho=>by
  obtain⟨o1,yz,a1,b1⟩:=h2.grow i o' (eY hi h1.eX) ho
  obtain⟨o,ho,a,b⟩:=h1.grow i o1 hi yz
  exact⟨o,ho,a∘a1,b∘b1⟩
 full:=fun i gh jT=>by
  by_cases hi:i<bS.n
  ·obtain⟨l,hl⟩:=h1.full i gh hi
   exact⟨l,(h2.ext i hi).trans hl⟩
  ·exact h2.full i (by omega) jT
 tK:=fun i hi hn=>by
  simp only[oF]at hi
  rcases hi with hi|hi
  ·obtain⟨o1,yz,LD⟩:=h2.tK i hi (eY hn h1.eX)
   obtain⟨o,ho,a,_⟩:=h1.grow i o1 hn yz
   exact⟨o,ho,a LD⟩
  ·exact h1.tK i hi hn
theorem bB.old{P:Program}{μ μ':Mu}{w w':World}{st av:St}{ws zA:List Nat}(h0:bo P μ w st)
  (h:bB P μ w st μ' w' av ws) (hs:∀i,i<st.n->(i∈zA↔i∈ws)):bB P μ w st μ' w' {av with w:=zA++st.w} zA where
 hr:=⟨h.hr.cG,h.hr.obj,h.hr.inj,h.hr.fF⟩
 ext:=h.ext
 eX:=h.eX
 wl:=rfl
 c_:=⟨h.c_.os,h.c_.tape,h.c_.output,h.c_.size,fun b hb cH=>h.c_.block b hb fun i hi l hl=>cH i ((hs i (h0.cG i l hl).1).2 hi) l hl⟩
 new:=fun i l hi hl=>by
  rcases h.new i l hi hl with h'|⟨j,hj,yy,r⟩
  ·exact .inl h'
  ·exact .inr ⟨j,(hs j yy).2 hj,yy,r⟩
 ae:=fun i hi cH=>h.ae i hi fun hc=>cH ((hs i hi).2 hc)
 grow:=h.grow
 full:=h.full
 tK:=fun i hi hn=>h.tK i ((hs i hn).1 hi) hn
theorem bo.drew{P:Program}{μ:Mu}{w:World}{st:St}(h:bo P μ w st)(n:Nat):bo P μ {w with drawn:=n} st:=
 ⟨h.cG,fun i l hl=>let ⟨o,h1,h2⟩:=h.obj i l hl;⟨o,h1,OM.congr (w:=w) rfl h2⟩,h.inj,h.fF⟩
theorem bB.alloc{P:Program}{μ:Mu}{w:World}{st:St}(h:bo P μ w st)(o:O)(ob:Obj)(d oD:Nat)
  (ho:OM P (fun i=>if i=st.n then some ⟨w.heap.size,d,oD⟩ else μ i) {w with heap:=w.heap.push ob} o ⟨w.heap.size,d,oD⟩):
  bB P μ w st (fun i=>if i=st.n then some ⟨w.heap.size,d,oD⟩ else μ i) {w with heap:=w.heap.push ob} (st.alloc o) []:=by
 have cQ:∀i l,μ i=some l->(fun i=>if i=st.n then some (⟨w.heap.size,d,oD⟩:L) else μ i) i=some l:=fun i l hl=>by
  have:=(h.cG i l hl).1
  simp only
  rw[au (by omega)];exact hl
 have hold:∀b,b<w.heap.size->({w with heap:=w.heap.push ob}:World).heap[b]?=w.heap[b]?:=fun b hb=>by
  show (w.heap.push ob)[b]?=_
  rw[Array.getElem?_push,au (by omega)]
 refine⟨⟨fun i l hl=>?_,fun i l hl=>?_,fun i j l l' oi oj hi hj bJ yz uQ hw oG=>?_,fun g hg=>let ⟨t,ht⟩:=h.fF g hg;⟨t,cQ g _ ht⟩⟩,fun i hi=>?_,by simp[St.alloc],rfl,⟨rfl,rfl,rfl,by simp,fun b hb _=>hold b hb⟩,
  fun i l hi hl=>?_,fun i hi _=>?_,fun i o' hi tL=>?_,fun i h1 h2=>⟨⟨w.heap.size,d,oD⟩,by simp only[St.alloc]at h2;show (if i=st.n then some (⟨w.heap.size,d,oD⟩:L) else μ i)=_;rw[aF (by omega)]⟩,fun _ hi=>absurd hi (by simp)⟩
 ·by_cases e:i=st.n
  ·simp only[e,if_true,aj]at hl;subst hl;simp[St.alloc,e]
  ·simp only[e,if_false]at hl
   have:=h.cG i l hl
   simp[St.alloc];omega
 ·by_cases e:i=st.n
  ·simp only[e,if_true,aj]at hl;subst hl
   exact⟨o,by simp[St.alloc,T.ai,e],ho⟩
  ·simp only[e,if_false]at hl
   obtain⟨o1,h1,h2⟩:=h.obj i l hl
   exact⟨o1,by simp[St.alloc,T.ai,e,h1],(h2.mono cQ).congr (hold l.b (h.cG i l hl).2)⟩
 ·by_cases e:i=st.n
  ·by_cases e':j=st.n
   ·exact absurd (e.trans e'.symm) bJ
   ·simp only[e,if_true,aj]at hi;simp only[e',if_false]at hj;subst hi
    have:=(h.cG j l' hj).2
    simp only;omega
  ·simp only[e,if_false]at hi
   by_cases e':j=st.n
   ·simp only[e',if_true,aj]at hj;subst hj
    have:=(h.cG i l hi).2
    simp only;omega
   ·simp only[e',if_false]at hj
    simp only[St.alloc,T.ai,e,e',if_false]at yz uQ
    exact h.inj i j l l' oi oj hi hj bJ yz uQ hw oG
 ·rw[au (by omega)]
 ·by_cases e:i=st.n
  ·simp only[e,if_true,aj]at hl;subst hl;exact .inl (aS _)
  ·simp only[e,if_false]at hl
   exact absurd (h.cG i l hl).1 (by omega)
 ·simp only[St.alloc,T.ai];rw[au (by omega)]
 ·simp only[St.alloc,T.ai]at tL;rw[au (by omega)]at tL
  exact⟨o',tL,id,id⟩
theorem bB.write{P:Program}{μ:Mu}{w w':World}{st:St}(h:bo P μ w st){i:Nat}{l:L}{o o':O}(hi:μ i=some l)(ho:st.h.get i=some o)(hw:o.wr=true)
  (wR:w'.os=w.os) (Q1:w'.tape=w.tape) (Q2:w'.output=w.output) (fz:w'.heap.size=w.heap.size) (oH:∀b,b≠l.b->w'.heap[b]?=w.heap[b]?) (tL:OM P μ w' o' l):
  bB P μ w st μ w' (st.write i o') [i]:=by
 have tN:o.live=true:=by cases o<;>simp_all [O.wr,O.live]
 refine⟨⟨fun j lj hj=>?_,fun j lj hj=>?_,fun j k lj lk oj ok hj hk bJ h1 h2 FQ jG=>?_,h.fF⟩,fun _ _=>rfl,aS _,rfl,⟨wR,Q1,Q2,by omega,fun b _ cH=>oH b ?_⟩,
  fun j lj hn hj=>?_,fun j _ cH=>?_,fun j oj hn hj=>?_,fun j h1 h2=>absurd h2 (by simp only[St.write];omega),fun j hj _=>by simp only[vM]at hj;subst hj;exact⟨o,ho,hw⟩⟩
 ·have:=h.cG j lj hj
  simp[St.write];omega
 ·by_cases e:j=i
  ·subst e
   rw[hi]at hj;cases hj
   exact⟨o',by simp[St.write,T.ai],tL⟩
  ·obtain⟨oj,h1,h2⟩:=h.obj j lj hj
   refine⟨oj,by simp[St.write,T.ai,e,h1],?_⟩
   cases hl:oj.live
   ·cases oj<;>simp[O.live]at hl
    trivial
   ·exact h2.congr (oH lj.b (Ne.symm (h.inj i j l lj o oj hi hj (Ne.symm e) ho h1 hw hl)))
 ·simp only[St.write,T.ai]at h1 h2
  by_cases e:j=i
  ·subst e
   rw[hi]at hj;cases hj
   rw[au (Ne.symm bJ)]at h2
   exact h.inj j k l lk o ok hi hk bJ ho h2 hw jG
  ·rw[au e]at h1
   by_cases e':k=i
   ·subst e'
    exact h.inj j k lj lk oj o hj hk bJ h1 ho FQ tN
   ·rw[au e']at h2
    exact h.inj j k lj lk oj ok hj hk bJ h1 h2 FQ jG
 ·exact Ne.symm (cH i (by simp) l hi)
 ·exact absurd (h.cG j lj hj).1 (by omega)
 ·simp only[vM]at cH
  simp[St.write,T.ai,cH]
 ·simp only[St.write,T.ai]at hj
  by_cases e:j=i
  ·subst e
   exact⟨o,ho,fun _=>hw,fun _=>tN⟩
  ·rw[au e]at hj
   exact⟨oj,hj,id,id⟩
end Go.Mx
