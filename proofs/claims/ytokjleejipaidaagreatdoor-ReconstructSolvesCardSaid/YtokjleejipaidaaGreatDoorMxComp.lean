/-Code of the Go model resolved for the ma-/
import Derived.Test.YtokjleejipaidaaGreatDoorMxCore
import Derived.Laws.MakeOwn
import Derived.Laws.CopyRow
import Derived.Laws.Rows
import Derived.Laws.Append
import Derived.Laws.Externs
import Derived.Laws.StructEq
import Derived.RowKit
set_option linter.all false
namespace Go.Mx
mutual
def cV:Value->Option V
 |.bool b=>some (.bool b)
 |.int k n=>some (.int k n)
 |.float k n=>some (.vN k n)
 |.string s=>some (.str s.data.toList)
 |.pointer none=>some .bF
 |.slice none 0 0=>some .aa
 |.map none=>some .bP
 |.chan none=>some .bR
 |.nilFunc=>some .bS
 |.nilIface=>some .aY
 |.agg ⟨l⟩=>match JC l with
  |some l=>some (.agg l)
  |none=>none
 |.tuple ⟨l⟩=>match JC l with
  |some l=>some (.aV l)
  |none=>none
 |_=>none
def JC:List Value->Option (List V)
 |[]=>some []
 |v::vs=>match cV v,JC vs with
  |some v,some vs=>some (v::vs)
  |_,_=>none
end
section
variable (P:Program)
def bC:Operand->Option Src
 |.tmp t=>some (.tmp t)
 |.const v=>match cV v with
  |some v=>some (.const v)
  |none=>none
 |.global g=>if g<P.globals.size then some (.const (.ptr g 0)) else none
 |.func f=>some (.const (.func f [] []))
def vO:List Operand->Option (List Src)
 |[]=>some []
 |x::xs=>match bC P x,vO xs with
  |some x,some xs=>some (x::xs)
  |_,_=>none
def uV:Option Operand->Option (Option Src)
 |none=>some none
 |some x=>match bC P x with
  |some x=>some (some x)
  |none=>none
def eX(t:TypeId):Option Nat:=(P.info? t).map (·.size)
def CN(t:TypeId):Option Nat:=(P.info? t).map (·.bytes)
def Ap(t:TypeId):Option (Option Nat):=
 match P.underlying t with
 |some (.struct _)|some (.array _ _)=>match eX P t with
  |some n=>some (some n)
  |none=>none
 |some _=>some none
 |none=>none
def rC(t:TypeId):Option V:=
 match P.info? t with
 |some i=>match i.zero with
  |some v=>cV v
  |none=>none
 |none=>none
def QO:TypeDesc->Option PK
 |.bool=>some .bool
 |.int _=>some .int
 |.string=>some .str
 |.pointer _=>some .ptr
 |.slice _=>some .slice
 |.map _ _=>some .map
 |.func _ _ _=>some .func
 |.chan _ _=>some .chan
 |.interface _=>some .iface
 |_=>none
def JD(q:TypeId->Option tA):List Field->Option (List (Nat×Option Nat×tA))
 |[]=>some []
 |f::fs=>if f.name= "_" then JD q fs else
  match Ap P f.type,q f.type,JD q fs with
  |some a,some q,some l=>some ((f.offset,a,q)::l)
  |_,_,_=>none
def WA:TypeDesc->Bool
 |.pointer e=>(P.info? e).isSome
 |_=>true
def xJ:Nat->TypeId->Option tA
 |0,_=>none
 |d+1,t=>
  match P.underlying t with
  |some (.struct fs)=>
   if P.stoodInHeld t then none else
   match JD P (xJ d) fs.toList with
   |some l=>some (.node l)
   |none=>none
  |some q=>match QO q with
   |some k=>if WA P q=true then some (.bI k) else none
   |none=>none
  |none=>none
def BP(place:Nat->Option (Nat×Nat)):List (Nat×Operand)->Option (List (Nat×Nat×Src))
 |[]=>some []
 |(i,x)::rest=>match place i,bC P x,BP place rest with
  |some (o,s),some x,some l=>some ((o,s,x)::l)
  |_,_,_=>none
def Aq(t:TypeId):Option kK:=
 match P.underlying t with
 |some (.int k)=>some (.int k)
 |some .string=>some .str
 |_=>none
def GN:Operand->Bool
 |.const _=>true
 |_=>false
def JE(fs:List Field):Option (List (Nat×Nat)):=
 match fs with
 |[]=>some []
 |f::fs=>match eX P f.type,JE fs with
  |some s,some l=>some ((f.offset,s)::l)
  |_,_=>none
def zh(name:String):Option Ext:=
 if name= "math/bits.Add64" then some .gW
 else if name= "math/bits.Sub64" then some .jy
 else if name= "internal/abi.NoEscape" then some .same
 else if name= "internal/bytealg.IndexByteString" then some .bX
 else none
def EF(c:Call):Option gm:=
 match c.callee with
 |.value f=>match vO P c.args.toList with
  |none=>none
  |some args=>match f with
   |.func g=>match P.funcs[g]? with
    |some fn=>if fn.body.isSome then some (.call (.const (.func g [] [])) args) else
     match zh fn.name with
     |some e=>some (.ext e args)
     |none=>none
    |none=>none
   |f=>match bC P f with
    |some f=>some (.call f args)
    |none=>none
 |.invoke _ _=>none
 |.builtin b=>
  match b,c.argTypes.toList,c.args.toList with
  |.len,[t],[x]=>
   match P.underlying t,bC P x with
   |some .string,some x=>some (.len 0 x)
   |some (.slice _),some x=>some (.len 1 x)
   |some (.map _ _),some x=>some (.len 2 x)
   |_,_=>none
  |.cap,[t],[x]=>
   match P.underlying t,bC P x with
   |some (.slice _),some x=>some (.cap x)
   |_,_=>none
  |.min,_,_=>match vO P c.args.toList with
   |some l=>some (.mn l)
   |none=>none
  |.max,_,_=>match vO P c.args.toList with
   |some l=>some (.mx l)
   |none=>none
  |.append,[t,u],[s,x]=>
   match P.underlying t with
   |some (.slice e)=>match eX P e,CN P e,rC P e,bC P s,bC P x,P.underlying u with
    |some n,some b,some z,some s,some x,some d=>if (d matches .int _)\/b=0\/z.cells.length≠n\/z.cells.all V.one=false then none else some (.append n b e z.cells s x)
    |_,_,_,_,_,_=>none
   |_=>none
  |.copy,t::_,[d,s]=>
   match P.underlying t with
   |some (.slice e)=>match eX P e,bC P d,bC P s with
    |some n,some d,some s=>some (.copy n d s)
    |_,_,_=>none
   |_=>none
  |.unsafeSliceData,[_],[s]=>(bC P s).map .Ar
  |.unsafeString,[t,_],[x,n]=>
   match P.underlying t with
   |some (.pointer e)=>match eX P e,bC P x,bC P n with
    |some 1,some x,some n=>some (.GO e x n)
    |_,_,_=>none
   |_=>none
  |_,_,_=>none
def JF:Op->Option gm
 |.move x|.assign x=>(bC P x).map .jF
 |.pick c a b=>match bC P c,bC P a,bC P b with
  |some c,some a,some b=>some (.pick c a b)
  |_,_,_=>none
 |.alloc e=>match rC P e with
  |some z=>if z.cells.all V.one then some (.alloc z.cells e) else none
  |none=>none
 |.box e x=>(bC P x).map (.box e)
 |.build t parts=>match rC P t with
  |none=>none
  |some z=>match P.underlying t with
   |some (.struct fs)=>match JE P fs.toList with
    |some pl=>(BP P (pl[·]?) parts.toList).map (.build z.cells)
    |none=>none
   |some (.array _ e)=>match eX P e with
    |some s=>(BP P (fun i=>some (i*s,s)) parts.toList).map (.build z.cells)
    |none=>none
   |_=>none
 |.buildSlice t len parts=>match P.underlying t with
  |some (.slice e)=>match eX P e,rC P e with
   |some s,some z=>if len*s > 2^24\/z.cells.length≠s\/s=0 then none else
    (BP P (fun i=>some (i*s,s)) parts.toList).map (.eh e s len (cW z.cells len))
   |_,_=>none
  |_=>none
 |.load t a=>match Ap P t,bC P a with
  |some n,some a=>some (.load n a)
  |_,_=>none
 |.store t a x=>match eX P t,bC P a,bC P x with
  |some n,some a,some x=>some (.store n a x)
  |_,_,_=>none
 |.nilCheck x=>(bC P x).map .oH
 |.binOp op t x y _=>match bC P x,bC P y with
  |some a,some b=>
   match op with
   |.eql|.neq=>match xJ P 40 t with
    |some q=>if (match P.underlying t with|some (.struct _)|some (.array _ _)=>P.eqGuardType P.depth t|_=>false) then none else some (.bin op q (GN x||GN y) a b)
    |none=>none
   |_=>some (.bin op (.node []) false a b)
  |_,_=>none
 |.unOp op _ x=>(bC P x).map (.un op)
 |.convert src dst x=>match bC P x with
  |none=>none
  |some a=>match P.underlying src,P.underlying dst with
   |some (.int _),some (.int k)=>some (.cR k a)
   |some .string,some (.slice e)=>match P.underlying e with
    |some (.int .u8)=>some (.jG e a)
    |_=>none
   |some (.slice e),some .string=>match P.underlying e with
    |some (.int .u8)=>some (.oJ a)
    |_=>none
   |some (.pointer t),some .unsafePointer=>match eX P t with
    |some (_+1)=>some (.JG none a)
    |_=>none
   |some .unsafePointer,some (.pointer u)=>match eX P u with
    |some (z+1)=>some (.JG (some (u,z+1)) a)
    |_=>none
   |_,_=>none
 |.makeInterface t x=>match P.underlying t with
  |some (.interface _)=>none
  |some _=>(bC P x).map (.iy t)
  |none=>none
 |.makeFunc (.func f) first gp=>match vO P first.toList,vO P gp.toList with
  |some a,some l=>some (.oK f a l)
  |_,_=>none
 |.makeMap _ none=>some .xK
 |.makeSlice t l c=>match P.underlying t with
  |some (.slice e)=>match eX P e,CN P e,rC P e,bC P l,bC P c with
   |some s,some b,some z,some l,some c=>if z.cells.all V.one then some (.jH e s b z.cells l c) else none
   |_,_,_,_,_=>none
  |_=>none
 |.slice t x lo hi mx=>match bC P x,uV P lo,uV P hi,uV P mx with
  |some x,some lo,some hi,some mx=>match P.underlying t with
   |some .string=>if mx.isSome then none else some (.ct x lo hi)
   |some (.slice e)=>(eX P e).map fun s=>.mT s x lo hi mx
   |some (.array n e)=>(eX P e).map fun s=>.jI n s x lo hi mx
   |_=>none
  |_,_,_,_=>none
 |.fieldAddr t x i=>match P.underlying t,bC P x with
  |some (.struct fs),some x=>match fs[i]? with
   |some f=>match eX P f.type with
    |some (_+1)=>some (.i_ f.offset x)
    |_=>none
   |none=>none
  |_,_=>none
 |.indexAddr t x i=>match P.underlying t,bC P x,bC P i with
  |some (.array n e),some x,some i=>(eX P e).map fun s=>.h_ n s x i
  |some (.slice e),some x,some i=>(eX P e).map fun s=>.dh s x i
  |_,_,_=>none
 |.index t x i=>match P.underlying t,bC P x,bC P i with
  |some .string,some x,some i=>some (.bJ x i)
  |_,_,_=>none
 |.lookup t m k ok=>match P.underlying t,bC P m,bC P k with
  |some (.map kt e),some m,some k=>match Aq P kt,rC P e with
   |some kd,some z=>some (.lookup kd z m k ok)
   |_,_=>none
  |_,_,_=>none
 |.mapUpdate t m k v|.insert t m k v=>match P.underlying t,bC P m,bC P k,bC P v with
  |some (.map kt _),some m,some k,some v=>(Aq P kt).map fun kd=>.vP kd m k v
  |_,_,_,_=>none
 |.range t x=>match P.underlying t,bC P x with
  |some .string,some x=>some (.jJ x)
  |_,_=>none
 |.next it true=>(bC P it).map .rD
 |.extract x i=>(bC P x).map fun x=>.extract x i
 |.call c=>EF P c
 |_=>none
def As(o:Op):gm:=(JF P o).getD .stop
def GP(ops:Array Oper):Option (Nat×Bool)->Option (Option (Nat×Bool))
 |none=>some none
 |some (j,want)=>match (ops[j]?).bind (·.dst)with
  |some t=>some (some (t,want))
  |none=>none
def rE(ops:Array Oper)(o:Oper):dr:=
 match GP ops o.guard with
 |some g=>{dst:=o.dst,op:=As P o.op,guard:=g}
 |none=>{dst:=o.dst,op:=.stop,guard:=none}
def LL(o:Oper)(ms:List Nat):Nat:=
 o.after.foldl (fun s e=>if Region.binds .any e then s|||2^e.on|||ms.getD e.on 0 else s) 0
def vQ:List Oper->List Nat->List Nat
 |[],acc=>acc
 |o::rest,acc=>vQ rest (acc++[LL o acc])
def Ywj(_:Program)(o:Oper):Option (Option Nat×Src×Option Src×V):=none
def JH:Nat->List Oper->Bool
 |_,[]=>true
 |i,o::os=>(o.after.all fun e=>!Region.binds .any e||Nat.blt e.on i)&&JH (i+1) os
def WB(ops:Array Oper):Bool:=JH 0 ops.toList&&cn QP (ops.toList.map (rE P ops)) (vQ ops.toList [])
def iL:Code->bN
 |.skip=>.skip
 |.region _ ops false=>match ops.toList with
  |[]=>.dN []
  |o::rest=>match Ywj P o with
   |some (d,ch,s,z)=>.yN d ch s z (rest.map (rE P ops))
   |none=>.dN ((o::rest).map (rE P ops))
 |.region _ ops true=>if WB P ops then .dc (ops.toList.map (rE P ops)) (vQ ops.toList []) else .stop
 |.seq a b=>.seq (iL a) (iL b)
 |.cond c a b=>match bC P c with
  |some c=>.cond c (iL a) (iL b)
  |none=>.stop
 |.block id c=>.block id (iL c)
 |.loop c=>.loop (iL c)
 |.rangeFunc g ps assign body=>match bC P g with
  |some g=>.jd g ps.toList (iL assign) (iL body)
  |none=>.stop
 |.exit id=>.exit id
 |.scope c=>.scope (iL c)
 |.label _=>.skip
 |.goto _=>.stop
 |.ret=>.ret
 |.refuse _=>.stop
def EG:List ResultVar->Option (List Eo)
 |[]=>some []
 |.tmp t::rest=>(EG rest).map (.tmp t::·)
 |.cell t ty::rest=>match Ap P ty,EG rest with
  |some n,some l=>some (.cell t n::l)
  |_,_=>none
def zg(f:FuncId):Option lA:=
 match P.funcs[f]? with
 |some fn=>match fn.body,EG P fn.results.toList with
  |some c,some rs=>some {ntmps:=fn.ntmps,results:=rs,body:=iL P c}
  |_,_=>none
 |none=>none
end
open Go
structure L where
 b:Nat
 d:Nat
 rF:Nat
abbrev Mu:=Nat->Option L
mutual
def VR(μ:Mu):V->Value->Prop
 |.bool b,x=>x=.bool b
 |.int k n,x=>x=.int k n
 |.vN k n,x=>x=.float k n
 |.str s,x=>x=.string ⟨s.toArray⟩
 |.bF,x=>x=.pointer none
 |.ptr i o,x=>∃l,μ i=some l/\x=.pointer (some ⟨l.b,l.d+o,none⟩)
 |.aa,x=>x=.slice none 0 0
 |.slice i o len cap sz,x=>∃l c,μ i=some l/\x=.slice (some ⟨l.b,l.d+o,none⟩) len c/\len<=c/\o+c*sz<=l.rF/\
   (∀k,cap=some k->c=k)/\(cap=none->o+c*sz=l.rF)
 |.empty,x=>∃a c,x=.slice (some a) 0 c
 |.bP,x=>x=.map none
 |.map i,x=>∃l,μ i=some l/\x=.map (some l.b)
 |.bR,x=>x=.chan none
 |.chan i,x=>∃l,μ i=some l/\x=.chan (some l.b)
 |.func f a c,x=>∃a' c',x=.func (.func f) ⟨a'⟩ ⟨c'⟩/\aU μ a a'/\aU μ c c'
 |.yield i,x=>∃l,μ i=some l/\x=.func (.yield l.b) #[] #[]
 |.bS,x=>x=.nilFunc
 |.iface t v,x=>∃y,x=.iface t y/\VR μ v y
 |.aY,x=>x=.nilIface
 |.agg vs,x=>∃a,x=.agg ⟨a⟩/\aU μ vs a
 |.aV vs,x=>∃a,x=.tuple ⟨a⟩/\aU μ vs a
def aU(μ:Mu):List V->List Value->Prop
 |[],xs=>xs=[]
 |v::vs,xs=>∃y ys,xs=y::ys/\VR μ v y/\aU μ vs ys
end
mutual
def VR.mono{μ μ':Mu}(h:∀i l,μ i=some l->μ' i=some l):∀(v:V) (x:Value),VR μ v x->VR μ' v x
 |.bool _,_,hx=>by simpa[VR]using hx
 |.int _ _,_,hx=>by simpa[VR]using hx
 |.vN _ _,_,hx=>by simpa[VR]using hx
 |.str _,_,hx=>by simpa[VR]using hx
 |.bF,_,hx=>by simpa[VR]using hx
 |.ptr _ _,_,hx=>by simp only[VR]at*;obtain⟨l,h1,h2⟩:=hx;exact⟨l,h _ _ h1,h2⟩
 |.aa,_,hx=>by simpa[VR]using hx
 |.slice _ _ _ _ _,_,hx=>by simp only[VR]at*;obtain⟨l,c,h1,h2⟩:=hx;exact⟨l,c,h _ _ h1,h2⟩
 |.empty,_,hx=>by simpa[VR]using hx
 |.bP,_,hx=>by simpa[VR]using hx
 |.map _,_,hx=>by simp only[VR]at*;obtain⟨l,h1,h2⟩:=hx;exact⟨l,h _ _ h1,h2⟩
 |.bR,_,hx=>by simpa[VR]using hx
 |.chan _,_,hx=>by simp only[VR]at*;obtain⟨l,h1,h2⟩:=hx;exact⟨l,h _ _ h1,h2⟩
 |.func _ a c,_,hx=>by
  simp only[VR]at*;obtain⟨a',c',h1,h2,h3⟩:=hx
  exact⟨a',c',h1,aU.mono h a a' h2,aU.mono h c c' h3⟩
 |.yield _,_,hx=>by simp only[VR]at*;obtain⟨l,h1,h2⟩:=hx;exact⟨l,h _ _ h1,h2⟩
 |.bS,_,hx=>by simpa[VR]using hx
 |.iface _ v,_,hx=>by simp only[VR]at*;obtain⟨y,h1,h2⟩:=hx;exact⟨y,h1,VR.mono h v y h2⟩
 |.aY,_,hx=>by simpa[VR]using hx
 |.agg vs,_,hx=>by simp only[VR]at*;obtain⟨a,h1,h2⟩:=hx;exact⟨a,h1,aU.mono h vs a h2⟩
 |.aV vs,_,hx=>by simp only[VR]at*;obtain⟨a,h1,h2⟩:=hx;exact⟨a,h1,aU.mono h vs a h2⟩
def aU.mono{μ μ':Mu}(h:∀i l,μ i=some l->μ' i=some l):∀(vs:List V) (xs:List Value),aU μ vs xs->aU μ' vs xs
 |[],_,hx=>by simpa[aU]using hx
 |v::vs,_,hx=>by
  simp only[aU]at*
  obtain⟨y,ys,h1,h2,h3⟩:=hx
  exact⟨y,ys,h1,VR.mono h v y h2,aU.mono h vs ys h3⟩
end
section
variable {μ:Mu}
def kL{v:V}{vs:List V}{xs:List Value}:aU μ (v::vs) xs↔∃y ys,xs=y::ys/\VR μ v y/\aU μ vs ys:=by simp[aU]
def aU.length:∀{vs:List V} {xs:List Value},aU μ vs xs->xs.length=vs.length
 |[],_,h=>by simp[aU]at h;simp[h]
 |v::vs,_,h=>by
  obtain⟨y,ys,rfl,_,h3⟩:=kL.1 h
  simp[aU.length h3]
def aU.get:∀{vs:List V} {xs:List Value},aU μ vs xs->∀{i:Nat} {v:V},vs[i]?=some v->∃x,xs[i]?=some x/\VR μ v x
 |[],_,_,i,v,hv=>by simp at hv
 |w::vs,_,h,i,v,hv=>by
  obtain⟨y,ys,rfl,h2,h3⟩:=kL.1 h
  cases i with
  |zero=>simp at hv;subst hv;exact⟨y,by simp,h2⟩
  |succ i=>simpa using aU.get h3 (i:=i) (by simpa using hv)
def aU.append:∀{vs ws:List V} {xs ys:List Value},aU μ vs xs->aU μ ws ys->aU μ (vs++ws) (xs++ys)
 |[],ws,_,ys,h,h'=>by simp[aU]at h;simpa[h]using h'
 |v::vs,ws,_,ys,h,h'=>by
  obtain⟨y,zs,rfl,h2,h3⟩:=kL.1 h
  exact kL.2 ⟨y,zs++ys,rfl,h2,aU.append h3 h'⟩
def aU.take:∀{vs:List V} {xs:List Value} (n:Nat),aU μ vs xs->aU μ (vs.take n) (xs.take n)
 |[],_,n,h=>by simp[aU]at h;simp[h,aU]
 |v::vs,_,n,h=>by
  obtain⟨y,zs,rfl,h2,h3⟩:=kL.1 h
  cases n with
  |zero=>simp[aU]
  |succ n=>exact kL.2 ⟨y,zs.take n,rfl,h2,aU.take n h3⟩
def aU.drop:∀{vs:List V} {xs:List Value} (n:Nat),aU μ vs xs->aU μ (vs.drop n) (xs.drop n)
 |[],_,n,h=>by simp[aU]at h;simp[h,aU]
 |v::vs,_,n,h=>by
  cases n with
  |zero=>simpa using h
  |succ n=>
   obtain⟨y,zs,rfl,h2,h3⟩:=kL.1 h
   simpa using aU.drop n h3
def aU.rG:∀{vs:List V} {xs:List Value},xs.length=vs.length->(∀(i:Nat) (v:V),vs[i]?=some v->∃x,xs[i]?=some x/\VR μ v x)->aU μ vs xs
 |[],xs,hl,_=>by simp at hl;simp[aU,hl]
 |v::vs,[],hl,_=>by simp at hl
 |v::vs,x::xs,hl,h=>by
  refine kL.2 ⟨x,xs,rfl,?_,aU.rG (by simpa using hl) fun i u hu=>?_⟩
  ·obtain⟨y,h1,h2⟩:=h 0 v (by simp)
   simp at h1;subst h1;exact h2
  ·simpa using h (i+1) u (by simpa using hu)
def VR.one{v:V}{x:Value}(h:VR μ v x)(hv:v.one=true):x.oneCell'=true:=by
 cases v<;>simp only[VR]at h<;>simp only[V.one,fL]at hv
 case bool=>subst h;rfl
 case int=>subst h;rfl
 case vN=>subst h;rfl
 case str=>subst h;rfl
 case bF=>subst h;rfl
 case ptr=>obtain⟨l,_,rfl⟩:=h;rfl
 case aa=>subst h;rfl
 case slice=>obtain⟨l,c,_,rfl,_⟩:=h;rfl
 case empty=>obtain⟨a,c,rfl⟩:=h;rfl
 case bP=>subst h;rfl
 case map=>obtain⟨l,_,rfl⟩:=h;rfl
 case bR=>subst h;rfl
 case chan=>obtain⟨l,_,rfl⟩:=h;rfl
 case func=>obtain⟨a,c,rfl,_⟩:=h;rfl
 case yield=>obtain⟨l,_,rfl⟩:=h;rfl
 case bS=>subst h;rfl
 case iface=>obtain⟨y,rfl,_⟩:=h;rfl
 case aY=>subst h;rfl
def VR.cells{v:V}{x:Value}(h:VR μ v x):aU μ v.cells x.cells.toList:=by
 have one:∀y:Value,x=y->(y.cells=#[y])->v.cells=[v]->aU μ v.cells x.cells.toList:=fun y e hc hv=>by
  subst e;rw[hc,hv];exact kL.2 ⟨_,[],rfl,h,by simp[aU]⟩
 have h0:=h
 cases v<;>simp only[VR]at h
 case bool=>exact one _ h rfl rfl
 case int=>exact one _ h rfl rfl
 case vN=>exact one _ h rfl rfl
 case str=>exact one _ h rfl rfl
 case bF=>exact one _ h rfl rfl
 case ptr=>obtain⟨l,_,e⟩:=h;exact one _ e rfl rfl
 case aa=>exact one _ h rfl rfl
 case slice=>obtain⟨l,c,_,e,_⟩:=h;exact one _ e rfl rfl
 case empty=>obtain⟨a,c,e⟩:=h;exact one _ e rfl rfl
 case bP=>exact one _ h rfl rfl
 case map=>obtain⟨l,_,e⟩:=h;exact one _ e rfl rfl
 case bR=>exact one _ h rfl rfl
 case chan=>obtain⟨l,_,e⟩:=h;exact one _ e rfl rfl
 case func=>obtain⟨a,c,e,_⟩:=h;exact one _ e rfl rfl
 case yield=>obtain⟨l,_,e⟩:=h;exact one _ e rfl rfl
 case bS=>exact one _ h rfl rfl
 case iface=>obtain⟨y,e,_⟩:=h;exact one _ e rfl rfl
 case aY=>exact one _ h rfl rfl
 case agg vs=>obtain⟨a,rfl,h⟩:=h;exact h
 case aV vs=>obtain⟨a,e,_⟩:=h;exact one _ e rfl rfl
end
def RR(μ:Mu)(r:T V)(n:Nat)(tmps:Array Value):Prop:=
 tmps.size=n/\∀t v,r.get t=some v->∃x,tmps[t]?=some x/\VR μ v x
def RR.mono{μ μ':Mu}{r:T V}{n:Nat}{tmps:Array Value}(h:∀i l,μ i=some l->μ' i=some l)(hr:RR μ r n tmps):RR μ' r n tmps:=
 ⟨hr.1,fun t v hv=>let ⟨x,h1,h2⟩:=hr.2 t v hv;⟨x,h1,VR.mono h v x h2⟩⟩
def RR.set{μ:Mu}{r:T V}{n:Nat}{tmps:Array Value}(hr:RR μ r n tmps){d:Nat}(hd:d<n){v:V}{x:Value}(hv:VR μ v x):
  RR μ (r.set d v) n (tmps.setIfInBounds d x):=by
 refine⟨by simp[hr.1],fun t u hu=>?_⟩
 rw[T.ag]at hu
 by_cases e:t=d
 ·subst e
  simp at hu;subst hu
  exact⟨x,by simp[hr.1,hd],hv⟩
 ·simp[e]at hu
  obtain⟨y,h1,h2⟩:=hr.2 t u hu
  exact⟨y,by rw[QQ (Ne.symm e)];exact h1,h2⟩
def At:Ex->Option Code
 |.normal=>none
 |.exit id=>some (.exit id)
 |.ret=>some .ret
def iM(μ:Mu):List (V×V)->List MapEntry->Nat->Prop
 |[],xs,_=>xs=[]
 |(k,v)::es,xs,i=>∃e ys,xs=e::ys/\VR μ k e.key/\VR μ v e.val/\e.born=i/\iM μ es ys (i+1)
def iM.mono{μ μ':Mu}(h:∀i l,μ i=some l->μ' i=some l):∀(es:List (V×V)) (xs:List MapEntry) (i:Nat),iM μ es xs i->iM μ' es xs i
 |[],_,_,hx=>hx
 |(k,v)::es,_,i,hx=>by
  obtain⟨e,ys,h1,h2,h3,h4,h5⟩:=hx
  exact⟨e,ys,h1,VR.mono h k _ h2,VR.mono h v _ h3,h4,iM.mono h es ys (i+1) h5⟩
def OM(P:Program)(μ:Mu)(w:World):O->L->Prop
 |.cells c e rw,l=>∃(c':Array Value) (lo hi:Nat),w.heap[l.b]?=some (.cells c' e (lo,hi))/\l.d+l.rF<=c'.size/\c.length<=l.rF/\
   (∀(j:Nat) (v:V),c[j]?=some v->∃x,c'[l.d+j]?=some x/\VR μ v x)/\(∀(j:Nat) (x:Value),j<l.rF->c'[l.d+j]?=some x->x.oneCell'=true)/\(rw=true->l.d=0/\∀j,j<l.rF->¬(lo<=l.d+j/\l.d+j<hi))
 |.map es,l=>∃ib:List MapEntry,w.heap[l.b]?=some (.map ⟨ib⟩ ib.length)/\iM μ es ib 0
 |.chan cap buf,l=>∃(CO:List Value) (s r:Nat),w.heap[l.b]?=some (.chan cap ⟨CO⟩ false s r false)/\aU μ buf CO
 |.eD s pos,l=>w.heap[l.b]?=some (.stringIter ⟨s.toArray⟩ pos)/\l.d=0
 |.loop R,l=>∃fn tmps fP fQ ld,w.heap[l.b]?=some (.loop {state:=R.st,pending:=R.eW.bind At,fn:=fn,tmps:=tmps,params:=⟨R.ps⟩,assign:=fP,body:=fQ,defers:=ld.b})/\
   RR μ R.r R.n tmps/\iL P fP=R.assign/\iL P fQ=R.body/\μ R.defs=some ld
 |.defs o,l=>w.heap[l.b]?=some (.deferred (if o then some [] else none))
 |.dead,_=>True
def OM.mono{P:Program}{μ μ':Mu}{w:World}(h:∀i l,μ i=some l->μ' i=some l){o:O}{l:L}(ho:OM P μ w o l):OM P μ' w o l:=by
 cases o with
 |cells c e rw=>
  obtain⟨c',lo,hi,h1,h2,h3,h4,h5⟩:=ho
  exact⟨c',lo,hi,h1,h2,h3,fun j v hv=>let ⟨x,a,b⟩:=h4 j v hv;⟨x,a,VR.mono h v x b⟩,h5⟩
 |map es=>obtain⟨ib,h1,h2⟩:=ho;exact⟨ib,h1,iM.mono h _ _ _ h2⟩
 |chan cap buf=>obtain⟨b',s,r,h1,h2⟩:=ho;exact⟨b',s,r,h1,aU.mono h _ _ h2⟩
 |eD s pos=>simp only[OM]at*;exact ho
 |loop R=>obtain⟨fn,tmps,fP,fQ,ld,h1,h2,h3,h4,h5⟩:=ho;exact⟨fn,tmps,fP,fQ,ld,h1,h2.mono h,h3,h4,h _ _ h5⟩
 |defs b=>simp only[OM]at*;exact ho
 |dead=>trivial
def OM.congr{P:Program}{μ:Mu}{w w':World}{o:O}{l:L}(hb:w'.heap[l.b]?=w.heap[l.b]?)(ho:OM P μ w o l):OM P μ w' o l:=by
 cases o with
 |cells c e rw=>obtain⟨c',lo,hi,h1,h2⟩:=ho;exact⟨c',lo,hi,hb.trans h1,h2⟩
 |map es=>obtain⟨ib,h1,h2⟩:=ho;exact⟨ib,hb.trans h1,h2⟩
 |chan cap buf=>obtain⟨b',s,r,h1,h2⟩:=ho;exact⟨b',s,r,hb.trans h1,h2⟩
 |eD s pos=>exact⟨hb.trans ho.1,ho.2⟩
 |loop R=>obtain⟨fn,tmps,fP,fQ,ld,h1,h2⟩:=ho;exact⟨fn,tmps,fP,fQ,ld,hb.trans h1,h2⟩
 |defs b=>exact hb.trans ho
 |dead=>trivial
structure bm (P:Program) (μ:Mu) (w:World) (st:St):Prop where
 c_:∀i l,μ i=some l->i<st.n/\l.b<w.heap.size
 obj:∀i l,μ i=some l->∃o,st.h.get i=some o/\OM P μ w o l
 inj:∀i j l l' o o',μ i=some l->μ j=some l'->i≠j->st.h.get i=some o->st.h.get j=some o'->o.wr=true->o'.live=true->l.b≠l'.b
 ic:∀g,g<P.globals.size->∃t,μ g=some ⟨g,0,t⟩
structure LM (μ:Mu) (ws:List Nat) (w w':World):Prop where
 os:w'.os=w.os
 tape:w'.tape=w.tape
 output:w'.output=w.output
 size:w.heap.size<=w'.heap.size
 block:∀b,b<w.heap.size->(∀i∈ws,∀l,μ i=some l->l.b≠b)->w'.heap[b]?=w.heap[b]?
structure bH (P:Program) (μ:Mu) (w:World) (st:St) (μ':Mu) (w':World) (aA:St) (ws:List Nat):Prop where
 hr:bm P μ' w' aA
 ext:∀i,i<st.n->μ' i=μ i
 fk:st.n<=aA.n
 wl:aA.w=ws++st.w
 ed:LM μ ws w w'
 new:∀i l,st.n<=i->μ' i=some l->w.heap.size<=l.b\/∃j∈ws,j<st.n/\∃lj oj,μ j=some lj/\lj.b=l.b/\st.h.get j=some oj/\oj.wr=true
 ad:∀i,i<st.n->i∉ws->aA.h.get i=st.h.get i
 grow:∀i o',i<st.n->aA.h.get i=some o'->∃o,st.h.get i=some o/\(o'.wr=true->o.wr=true)/\(o'.live=true->o.live=true)
 full:∀i,st.n<=i->i<aA.n->∃l,μ' i=some l
 zA:∀i∈ws,i<st.n->∃o,st.h.get i=some o/\o.wr=true
def bm.GQ{P:Program}{μ μ':Mu}{w:World}{st:St}(h:bm P μ w st)(he:∀i,i<st.n->μ' i=μ i):∀i l,μ i=some l->μ' i=some l:=
 fun i l hi=>(he i (h.c_ i l hi).1).trans hi
def LM.refl(μ:Mu)(ws:List Nat)(w:World):LM μ ws w w:=⟨rfl,rfl,rfl,aO _,fun _ _ _=>rfl⟩
def bH.refl{P:Program}{μ:Mu}{w:World}{st:St}(h:bm P μ w st):bH P μ w st μ w st []:=
 ⟨h,fun _ _=>rfl,aO _,rfl,LM.refl μ [] w,fun i l hi hl=>absurd (h.c_ i l hl).1 (by omega),fun _ _ _=>rfl,fun _ o' _ ho=>⟨o',ho,id,id⟩,fun _ h1 h2=>absurd h2 (by omega),fun _ hi=>absurd hi (by simp)⟩
def bH.trans{P:Program}{μ μ1 μ2:Mu}{w w1 w2:World}{st bV eI:St}{ws QR:List Nat}
  (h1:bH P μ w st μ1 w1 bV ws) (h2:bH P μ1 w1 bV μ2 w2 eI QR):bH P μ w st μ2 w2 eI (QR++ws) where
 hr:=h2.hr
 ext:=fun i hi=>(h2.ext i (e_ hi h1.fk)).trans (h1.ext i hi)
 fk:=p9 h1.fk h2.fk
 wl:=by rw[h2.wl,h1.wl,tU]
 ed:=by
  refine⟨h2.ed.os.trans h1.ed.os,h2.ed.tape.trans h1.ed.tape,h2.ed.output.trans h1.ed.output,p9 h1.ed.size h2.ed.size,fun b hb dv=>?_⟩
  rw[h2.ed.block b (e_ hb h1.ed.size) fun i hi l hl=>?_,h1.ed.block b hb fun i hi l hl=>dv i (by simp[hi]) l hl]
  by_cases BJ:i<st.n
  ·exact dv i (by simp[hi]) l (by rw[<-h1.ext i BJ];exact hl)
  ·rcases h1.new i l (by omega) hl with h|⟨j,hj,_,lj,oj,uW,pC,_⟩
   ·omega
   ·rw[<-pC];exact dv j (by simp[hj]) lj uW
 new:=fun i l hi hl=>by
  by_cases BJ:i<bV.n
  ·rcases h1.new i l hi (by rw[<-h2.ext i BJ];exact hl)with h|⟨j,hj,r⟩
   ·exact .inl h
   ·exact .inr ⟨j,by simp[hj],r⟩
  ·rcases h2.new i l (by omega) hl with h|⟨j,hj,GR,lj,oj,uW,pC,GS,how⟩
   ·exact .inl (p9 h1.ed.size h)
   ·by_cases hjn':j<st.n
    ·obtain⟨o,ho,hw,_⟩:=h1.grow j oj hjn' GS
     exact .inr ⟨j,by simp[hj],hjn',lj,o,by rw[<-h1.ext j hjn'];exact uW,pC,ho,hw how⟩
    ·rcases h1.new j lj (by omega) uW with h|⟨j',LN,r⟩
     ·exact .inl (by omega)
     ·obtain⟨r1,lj',oj',r2,r3,r4⟩:=r
      exact .inr ⟨j',by simp[LN],r1,lj',oj',r2,r3.trans pC,r4⟩
 ad:=fun i hi dv=>by
  simp only[lI,not_or]at dv
  rw[h2.ad i (e_ hi h1.fk) dv.1,h1.ad i hi dv.2]
 grow:=fun i o' hi ho=>by
  obtain⟨o1,BQ,a1,b1⟩:=h2.grow i o' (e_ hi h1.fk) ho
  obtain⟨o,ho,a,b⟩:=h1.grow i o1 hi BQ
  exact⟨o,ho,a∘a1,b∘b1⟩
 full:=fun i fO mB=>by
  by_cases hi:i<bV.n
  ·obtain⟨l,hl⟩:=h1.full i fO hi
   exact⟨l,(h2.ext i hi).trans hl⟩
  ·exact h2.full i (by omega) mB
 zA:=fun i hi hn=>by
  simp only[lI]at hi
  rcases hi with hi|hi
  ·obtain⟨o1,BQ,JI⟩:=h2.zA i hi (e_ hn h1.fk)
   obtain⟨o,ho,a,_⟩:=h1.grow i o1 hn BQ
   exact⟨o,ho,a JI⟩
  ·exact h1.zA i hi hn
def bm.drew{P:Program}{μ:Mu}{w:World}{st:St}(h:bm P μ w st)(n:Nat):bm P μ {w with drawn:=n} st:=
 ⟨h.c_,fun i l hl=>let ⟨o,h1,h2⟩:=h.obj i l hl;⟨o,h1,OM.congr (w:=w) rfl h2⟩,h.inj,h.ic⟩
def bH.alloc{P:Program}{μ:Mu}{w:World}{st:St}(h:bm P μ w st)(o:O)(ob:Obj)(d rF:Nat)
  (ho:OM P (fun i=>if i=st.n then some ⟨w.heap.size,d,rF⟩ else μ i) {w with heap:=w.heap.push ob} o ⟨w.heap.size,d,rF⟩):
  bH P μ w st (fun i=>if i=st.n then some ⟨w.heap.size,d,rF⟩ else μ i) {w with heap:=w.heap.push ob} (st.alloc o) []:=by
 have dw:∀i l,μ i=some l->(fun i=>if i=st.n then some (⟨w.heap.size,d,rF⟩:L) else μ i) i=some l:=fun i l hl=>by
  have:=(h.c_ i l hl).1
  simp only
  rw[ak (by omega)];exact hl
 have hold:∀b,b<w.heap.size->({w with heap:=w.heap.push ob}:World).heap[b]?=w.heap[b]?:=fun b hb=>by
  show (w.heap.push ob)[b]?=_
  rw[Array.getElem?_push,ak (by omega)]
 refine⟨⟨fun i l hl=>?_,fun i l hl=>?_,fun i j l l' oi oj hi hj aW BQ yO hw oc=>?_,fun g hg=>let ⟨t,ht⟩:=h.ic g hg;⟨t,dw g _ ht⟩⟩,fun i hi=>?_,by simp[St.alloc],rfl,⟨rfl,rfl,rfl,by simp,fun b hb _=>hold b hb⟩,
  fun i l hi hl=>?_,fun i hi _=>?_,fun i o' hi xL=>?_,fun i h1 h2=>⟨⟨w.heap.size,d,rF⟩,by simp only[St.alloc]at h2;show (if i=st.n then some (⟨w.heap.size,d,rF⟩:L) else μ i)=_;rw[ax (by omega)]⟩,fun _ hi=>absurd hi (by simp)⟩
 ·by_cases e:i=st.n
  ·simp only[e,if_true,an]at hl;subst hl;simp[St.alloc,e]
  ·simp only[e,if_false]at hl
   have:=h.c_ i l hl
   simp[St.alloc];omega
 ·by_cases e:i=st.n
  ·simp only[e,if_true,an]at hl;subst hl
   exact⟨o,by simp[St.alloc,T.ag,e],ho⟩
  ·simp only[e,if_false]at hl
   obtain⟨o1,h1,h2⟩:=h.obj i l hl
   exact⟨o1,by simp[St.alloc,T.ag,e,h1],(h2.mono dw).congr (hold l.b (h.c_ i l hl).2)⟩
 ·by_cases e:i=st.n
  ·by_cases e':j=st.n
   ·exact absurd (e.trans e'.symm) aW
   ·simp only[e,if_true,an]at hi;simp only[e',if_false]at hj;subst hi
    have:=(h.c_ j l' hj).2
    simp only;omega
  ·simp only[e,if_false]at hi
   by_cases e':j=st.n
   ·simp only[e',if_true,an]at hj;subst hj
    have:=(h.c_ i l hi).2
    simp only;omega
   ·simp only[e',if_false]at hj
    simp only[St.alloc,T.ag,e,e',if_false]at BQ yO
    exact h.inj i j l l' oi oj hi hj aW BQ yO hw oc
 ·rw[ak (by omega)]
 ·by_cases e:i=st.n
  ·simp only[e,if_true,an]at hl;subst hl;exact .inl (aO _)
  ·simp only[e,if_false]at hl
   exact absurd (h.c_ i l hl).1 (by omega)
 ·simp only[St.alloc,T.ag];rw[ak (by omega)]
 ·simp only[St.alloc,T.ag]at xL;rw[ak (by omega)]at xL
  exact⟨o',xL,id,id⟩
def bH.write{P:Program}{μ:Mu}{w w':World}{st:St}(h:bm P μ w st){i:Nat}{l:L}{o o':O}(hi:μ i=some l)(ho:st.h.get i=some o)(hw:o.wr=true)
  (Au:w'.os=w.os) (WC:w'.tape=w.tape) (WD:w'.output=w.output) (kM:w'.heap.size=w.heap.size) (rH:∀b,b≠l.b->w'.heap[b]?=w.heap[b]?) (xL:OM P μ w' o' l):
  bH P μ w st μ w' (st.write i o') [i]:=by
 have xM:o.live=true:=by cases o<;>simp_all [O.wr,O.live]
 refine⟨⟨fun j lj hj=>?_,fun j lj hj=>?_,fun j k lj lk oj ok hj hk aW h1 h2 JJ fR=>?_,h.ic⟩,fun _ _=>rfl,aO _,rfl,⟨Au,WC,WD,by omega,fun b _ dv=>rH b ?_⟩,
  fun j lj hn hj=>?_,fun j _ dv=>?_,fun j oj hn hj=>?_,fun j h1 h2=>absurd h2 (by simp only[St.write];omega),fun j hj _=>by simp only[xC]at hj;subst hj;exact⟨o,ho,hw⟩⟩
 ·have:=h.c_ j lj hj
  simp[St.write];omega
 ·by_cases e:j=i
  ·subst e
   rw[hi]at hj;cases hj
   exact⟨o',by simp[St.write,T.ag],xL⟩
  ·obtain⟨oj,h1,h2⟩:=h.obj j lj hj
   refine⟨oj,by simp[St.write,T.ag,e,h1],?_⟩
   cases hl:oj.live
   ·cases oj<;>simp[O.live]at hl
    trivial
   ·exact h2.congr (rH lj.b (Ne.symm (h.inj i j l lj o oj hi hj (Ne.symm e) ho h1 hw hl)))
 ·simp only[St.write,T.ag]at h1 h2
  by_cases e:j=i
  ·subst e
   rw[hi]at hj;cases hj
   rw[ak (Ne.symm aW)]at h2
   exact h.inj j k l lk o ok hi hk aW ho h2 hw fR
  ·rw[ak e]at h1
   by_cases e':k=i
   ·subst e'
    exact h.inj j k lj lk oj o hj hk aW h1 ho JJ xM
   ·rw[ak e']at h2
    exact h.inj j k lj lk oj ok hj hk aW h1 h2 JJ fR
 ·exact Ne.symm (dv i (by simp) l hi)
 ·exact absurd (h.c_ j lj hj).1 (by omega)
 ·simp only[xC]at dv
  simp[St.write,T.ag,dv]
 ·simp only[St.write,T.ag]at hj
  by_cases e:j=i
  ·subst e
   exact⟨o,ho,fun _=>hw,fun _=>xM⟩
  ·rw[ak e]at hj
   exact⟨oj,hj,id,id⟩
mutual
def QS(μ:Mu):∀(x:Value) (v:V),cV x=some v->VR μ v x
 |.bool b,v,h=>by simp only[cV,an]at h;subst h;simp[VR]
 |.int k n,v,h=>by simp only[cV,an]at h;subst h;simp[VR]
 |.float k n,v,h=>by simp only[cV,an]at h;subst h;simp[VR]
 |.complex ..,v,h=>by simp[cV]at h
 |.string s,v,h=>by simp only[cV,an]at h;subst h;simp[VR]
 |.pointer none,v,h=>by simp only[cV,an]at h;subst h;simp[VR]
 |.pointer (some _),v,h=>by simp[cV]at h
 |.slice none 0 0,v,h=>by simp only[cV,an]at h;subst h;simp[VR]
 |.slice none 0 (c+1),v,h=>by simp[cV]at h
 |.slice none (n+1) c,v,h=>by simp[cV]at h
 |.slice (some _) _ _,v,h=>by simp[cV]at h
 |.map none,v,h=>by simp only[cV,an]at h;subst h;simp[VR]
 |.map (some _),v,h=>by simp[cV]at h
 |.chan none,v,h=>by simp only[cV,an]at h;subst h;simp[VR]
 |.chan (some _),v,h=>by simp[cV]at h
 |.func ..,v,h=>by simp[cV]at h
 |.nilFunc,v,h=>by simp only[cV,an]at h;subst h;simp[VR]
 |.iface ..,v,h=>by simp[cV]at h
 |.nilIface,v,h=>by simp only[cV,an]at h;subst h;simp[VR]
 |.agg ⟨l⟩,v,h=>by
  simp only[cV]at h
  split at h
  ·rename_i l' hl
   simp only[an]at h;subst h
   exact⟨l,rfl,WE μ l l' hl⟩
  ·cases h
 |.tuple ⟨l⟩,v,h=>by
  simp only[cV]at h
  split at h
  ·rename_i l' hl
   simp only[an]at h;subst h
   exact⟨l,rfl,WE μ l l' hl⟩
  ·cases h
def WE(μ:Mu):∀(xs:List Value) (vs:List V),JC xs=some vs->aU μ vs xs
 |[],vs,h=>by simp only[JC,an]at h;subst h;simp[aU]
 |x::xs,vs,h=>by
  simp only[JC]at h
  split at h
  ·rename_i v ky hv GU
   simp only[an]at h;subst h
   exact⟨x,xs,rfl,QS μ x v hv,WE μ xs ky GU⟩
  ·cases h
end
section
variable {P:Program} {μ:Mu} {w:World} {st:St} {r:T V} {n:Nat} {a:Act}
def cU(hh:bm P μ w st)(hr:RR μ r n a.tmps){x:Operand}{s:Src}(hc:bC P x=some s){v:V}(hv:s.ev r=some v):VR μ v (a.eval x):=by
 cases x with
 |tmp t=>
  simp only[bC,an]at hc;subst hc
  obtain⟨y,h1,h2⟩:=hr.2 t v hv
  simpa[Act.eval,GV,h1]using h2
 |const c=>
  simp only[bC]at hc
  split at hc
  ·rename_i v' GW
   simp only[an]at hc;subst hc
   simp only[Src.ev,an]at hv;subst hv
   exact QS μ c v' GW
  ·cases hc
 |global g=>
  simp only[bC]at hc
  split at hc
  ·rename_i hg
   simp only[an]at hc;subst hc
   simp only[Src.ev,an]at hv;subst hv
   obtain⟨t,ht⟩:=hh.ic g hg
   exact⟨_,ht,rfl⟩
  ·cases hc
 |func f=>
  simp only[bC,an]at hc;subst hc
  simp only[Src.ev,an]at hv;subst hv
  exact⟨[],[],rfl,by simp[aU],by simp[aU]⟩
def GX(hh:bm P μ w st)(hr:RR μ r n a.tmps):∀{xs:List Operand} {ss:List Src},vO P xs=some ss->∀{vs:List V},uX r ss=some vs->aU μ vs (xs.map a.eval)
 |[],ss,hc,vs,hv=>by
  simp only[vO,an]at hc;subst hc
  simp only[uX,an]at hv;subst hv
  simp[aU]
 |x::xs,ss,hc,vs,hv=>by
  simp only[vO]at hc
  split at hc
  ·rename_i s ss' h1 h2
   simp only[an]at hc;subst hc
   simp only[uX]at hv
   split at hv
   ·rename_i v ky h3 h4
    simp only[an]at hv;subst hv
    exact⟨_,_,rfl,cU hh hr h1 h3,GX hh hr h2 h4⟩
   ·cases hv
  ·cases hc
def Yfz(hh:bm P μ w st)(hr:RR μ r n a.tmps){x:Option Operand}{s:Option Src}(hc:uV P x=some s){v:Option V}(hv:aB r s=some v):
  (v=none/\x=none)\/∃v' x',v=some v'/\x=some x'/\VR μ v' (a.eval x'):=by
 cases x with
 |none=>
  simp only[uV,an]at hc;subst hc
  simp only[aB,an]at hv;subst hv
  exact .inl ⟨rfl,rfl⟩
 |some x=>
  simp only[uV]at hc
  split at hc
  ·rename_i s' h1
   simp only[an]at hc;subst hc
   simp only[aB]at hv
   split at hv
   ·rename_i v' h2
    simp only[an]at hv;subst hv
    exact .inr ⟨v',x,rfl,rfl,cU hh hr h1 h2⟩
   ·cases hv
  ·cases hc
def ba(P:Program)(μ:Mu)(w:World)(st:St)(s:Sem Next)(v:V)(aA:St):Prop:=
 ∃nx x w' μ' ws,s.run P w=.ok nx w'/\(nx=.value x\/(nx=.skip/\x=undef))/\VR μ' v x/\bH P μ w st μ' w' aA ws
def ba.value(hh:bm P μ w st){s:Sem Value}{v:V}{x:Value}(hs:s.run P w=.ok x w)(hv:VR μ v x):
  ba P μ w st (do pure (.value (<-s))) v st:=
 ⟨.value x,x,w,μ,[],by simp[hs,Result.andThen],.inl rfl,hv,bH.refl hh⟩
def ba.LP(hh:bm P μ w st){v:V}{x:Value}(hv:VR μ v x):ba P μ w st (pure (.value x)) v st:=
 ⟨.value x,x,w,μ,[],by simp,.inl rfl,hv,bH.refl hh⟩
def WG{t:TypeId}(h:Ap P t=some none):(isAgg t).run P w=.ok false w:=by
 unfold Ap at h
 split at h
 ·split at h<;>simp at h
 ·split at h<;>simp at h
 ·rename_i d h1 h2 hd
  cases d<;>simp[isAgg,run_underlying hd]<;>simp_all
 ·cases h
def JK{t:TypeId}{k:Nat}(h:Ap P t=some (some k)):(isAgg t).run P w=.ok true w/\(sizeOf t).run P w=.ok k w:=by
 unfold Ap eX at h
 split at h
 ·rename_i fs hd
  split at h
  ·rename_i n hn
   simp only[an]at h;subst h
   simp only[kh]at hn
   obtain⟨i,hi,rfl⟩:=hn
   exact⟨by simp[isAgg,run_underlying hd],by simp[sizeOf,typeInfo,hi]⟩
  ·cases h
 ·rename_i k' e hd
  split at h
  ·rename_i n hn
   simp only[an]at h;subst h
   simp only[kh]at hn
   obtain⟨i,hi,rfl⟩:=hn
   exact⟨by simp[isAgg,run_underlying hd],by simp[sizeOf,typeInfo,hi]⟩
  ·cases h
 ·cases h
 ·cases h
def yP{t:TypeId}{k:Nat}(h:eX P t=some k):(sizeOf t).run P w=.ok k w:=by
 unfold eX at h
 simp only[kh]at h
 obtain⟨i,hi,rfl⟩:=h
 simp[sizeOf,typeInfo,hi]
def Ydb{t:TypeId}{v:V}(h:rC P t=some v):∃x,(zeroValue t).run P w=.ok x w/\∀μ,VR μ v x:=by
 unfold rC at h
 split at h
 ·rename_i i hi
  split at h
  ·rename_i x hx
   exact⟨x,by simp[zeroValue,typeInfo,hi,hx],fun μ=>QS μ x v h⟩
  ·cases h
 ·cases h
def xN(b o j:Nat):(⟨b,o,none⟩:Addr).add j=⟨b,o+j,none⟩:=by
 unfold Addr.add;split<;>simp_all
def OM.cell{c:List V}{e:TypeId}{rw:Bool}{l:L}(h:OM P μ w (.cells c e rw) l){j:Nat}{v:V}(hv:c[j]?=some v):
  ∃x,w.cell? ⟨l.b,l.d+j,none⟩=some x/\VR μ v x:=by
 obtain⟨c',lo,hi,h1,_,_,h4,_⟩:=h
 obtain⟨x,hx,hr⟩:=h4 j v hv
 exact⟨x,by simp[World.cell?,h1,hx],hr⟩
def OM.Av{c:List V}{e:TypeId}{rw:Bool}{l:L}(h:OM P μ w (.cells c e rw) l){o k:Nat}{vs:List V}(hs:aC c o k=some vs):
  ∃xs:List Value,aU μ vs xs/\xs.length=k/\(loadCells ⟨l.b,l.d+o,none⟩ k).run P w=.ok xs.toArray w/\(∀(j:Nat) (x:Value),xs[j]?=some x->w.cell? ⟨l.b,l.d+o+j,none⟩=some x)/\(∀x∈xs,x.oneCell'=true):=by
 unfold aC at hs
 split at hs
 ·rename_i hle
  simp only[an]at hs;subst hs
  obtain⟨c',lo,hi,h1,h2,h3,h4,h5,_⟩:=h
  have hlen:l.d+o+k<=c'.size:=by omega
  have hl:((c'.toList.drop (l.d+o)).take k).length=k:=by simp;omega
  have hg:∀(j:Nat) (x:Value),((c'.toList.drop (l.d+o)).take k)[j]?=some x->c'[l.d+o+j]?=some x:=fun j x hx=>by
   rw[iI]at hx
   split at hx
   ·simpa[ff]using hx
   ·cases hx
  have fX:∀(j:Nat) (x:Value),((c'.toList.drop (l.d+o)).take k)[j]?=some x->w.cell? ⟨l.b,l.d+o+j,none⟩=some x:=fun j x hx=>by
   simp[World.cell?,h1,hg j x hx]
  refine⟨(c'.toList.drop (l.d+o)).take k,?_,hl,?_,fX,fun x hx=>?_⟩
  ·refine aU.rG (by rw[hl];simp;omega) fun j v hv=>?_
   rw[iI]at hv
   split at hv
   ·rename_i hj
    rw[ff]at hv
    obtain⟨x,hx,hr⟩:=h4 (o+j) v hv
    refine⟨x,?_,hr⟩
    rw[iI,ax hj,ff]
    simpa[pF]using hx
   ·cases hv
  ·have:=run_loadCells_list (P:=P) w ⟨l.b,l.d+o,none⟩ ((c'.toList.drop (l.d+o)).take k) (fun j x hx=>by rw[xN];exact fX j x hx)
   rwa [hl]at this
  ·obtain⟨j,hj⟩:=uR hx
   have tl:j<k:=by rw[<-hl];exact(xB.1 hj).1
   exact h5 (o+j) x (by omega) (by rw[<-pF];exact hg j x hj)
 ·cases hs
def QT{t:TypeId}{vs:List V}{xs:List Value}(qq:aU μ vs xs){k:Option Nat}(ha:Ap P t=some k){o:Nat}{v:V}(hv:aR vs o k=some v):
  ∃x,(part t ⟨xs⟩ o).run P w=.ok x w/\VR μ v x:=by
 cases k with
 |none=>
  simp only[aR]at hv
  obtain⟨x,hx,hr⟩:=qq.get hv
  exact⟨x,by simp[part,WG ha,Result.andThen,hx],hr⟩
 |some k=>
  simp only[aR]at hv
  split at hv
  ·rename_i l hl
   simp only[an]at hv;subst hv
   unfold aC at hl
   split at hl
   ·simp only[an]at hl;subst hl
    refine⟨.agg ⟨(xs.drop o).take k⟩,?_,⟨_,rfl,(qq.drop o).take k⟩⟩
    simp[part,(JK ha).1,(JK ha).2,Result.andThen]
   ·cases hl
  ·cases hv
end
end Go.Mx
