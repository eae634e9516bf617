/-Code of the Go model resolved for the ma-/
import Derived.Test.YtfeehbdhikiikaaGreatDoorMxCore
import Derived.Laws.MakeOwn
import Derived.Laws.CopyRow
import Derived.Laws.Rows
import Derived.Laws.Append
import Derived.Laws.Externs
import Derived.Laws.StructEq
import Derived.RowKit
set_option linter.all false
namespace Go.Mx
variable{vs:List V}{xs:List Value}{k o:Nat}{v:V}
mutual
def cV:Value->Option V
 |.bool b=>some (.bool b)
 |.int k n=>some (.int k n)
 |.float k n=>some (.xn k n)
 |.string s=>some (.str s.data.toList)
 |.pointer none=>some .bP
 |.slice none 0 0=>some .aa
 |.map none=>some .bW
 |.chan none=>some .bZ
 |.nilFunc=>some .b_
 |.nilIface=>some .aZ
 |.agg ⟨l⟩=>match LY l with
  |some l=>some (.agg l)
  |none=>none
 |.tuple ⟨l⟩=>match LY l with
  |some l=>some (.aU l)
  |none=>none
 |_=>none
def LY:List Value->Option (List V)
 |[]=>some []
 |v::vs=>match cV v,LY vs with
  |some v,some vs=>some (v::vs)
  |_,_=>none
end
section
variable (P:Program)
def bJ:Operand->Option Src
 |.tmp t=>some (.tmp t)
 |.const v=>match cV v with
  |some v=>some (.const v)
  |none=>none
 |.global g=>if g<P.globals.size then some (.const (.ptr g 0)) else none
 |.func f=>some (.const (.func f [] []))
def xp:List Operand->Option (List Src)
 |[]=>some []
 |x::xs=>match bJ P x,xp xs with
  |some x,some xs=>some (x::xs)
  |_,_=>none
def wi:Option Operand->Option (Option Src)
 |none=>some none
 |some x=>match bJ P x with
  |some x=>some (some x)
  |none=>none
def fQ(t:TypeId):Option Nat:=(P.info? t).map (·.size)
def Ep(t:TypeId):Option Nat:=(P.info? t).map (·.bytes)
def BF(t:TypeId):Option (Option Nat):=
 match P.underlying t with
 |some (.struct _)|some (.array _ _)=>match fQ P t with
  |some n=>some (some n)
  |none=>none
 |some _=>some none
 |none=>none
def tn(t:TypeId):Option V:=
 match P.info? t with
 |some i=>match i.zero with
  |some v=>cV v
  |none=>none
 |none=>none
def TK:TypeDesc->Option PK
 |.bool=>some .bool
 |.int _=>some .int
 |.string=>some .str
 |.pointer _=>some .ptr
 |.slice _=>some .slice
 |.map _ _=>some .map
 |.func _ _ _=>some .func
 |.chan _ _=>some .chan
 |.interface _=>some .iface
 |_=>none
def LZ(q:TypeId->Option uL):List Field->Option (List (Nat×Option Nat×uL))
 |[]=>some []
 |f::fs=>if f.name= "_" then LZ q fs else
  match BF P f.type,q f.type,LZ q fs with
  |some a,some q,some l=>some ((f.offset,a,q)::l)
  |_,_,_=>none
def Yrb:TypeDesc->Bool
 |.pointer e=>(P.info? e).isSome
 |_=>true
def yR:Nat->TypeId->Option uL
 |0,_=>none
 |d+1,t=>
  match P.underlying t with
  |some (.struct fs)=>
   if P.stoodInHeld t then none else
   match LZ P (yR d) fs.toList with
   |some l=>some (.node l)
   |none=>none
  |some q=>match TK q with
   |some k=>if Yrb P q=true then some (.dJ k) else none
   |none=>none
  |none=>none
def Da(place:Nat->Option (Nat×Nat)):List (Nat×Operand)->Option (List (Nat×Nat×Src))
 |[]=>some []
 |(i,x)::rest=>match place i,bJ P x,Da place rest with
  |some (o,s),some x,some l=>some ((o,s,x)::l)
  |_,_,_=>none
def BG(t:TypeId):Option mW:=
 match P.underlying t with
 |some (.int k)=>some (.int k)
 |some .string=>some .str
 |_=>none
def I1:Operand->Bool
 |.const _=>true
 |_=>false
def Ma(fs:List Field):Option (List (Nat×Nat)):=
 match fs with
 |[]=>some []
 |f::fs=>match fQ P f.type,Ma fs with
  |some s,some l=>some ((f.offset,s)::l)
  |_,_=>none
def As(name:String):Option Ext:=
 if name= "math/bits.Add64" then some .py
 else if name= "math/bits.Sub64" then some .pz
 else if name= "internal/abi.NoEscape" then some .same
 else if name= "internal/bytealg.IndexByteString" then some .cn
 else none
def Gn(c:Call):Option iH:=
 match c.callee with
 |.value f=>match xp P c.args.toList with
  |none=>none
  |some args=>match f with
   |.func g=>match P.funcs[g]? with
    |some fn=>if fn.body.isSome then some (.call (.const (.func g [] [])) args) else
     match As fn.name with
     |some e=>some (.ext e args)
     |none=>none
    |none=>none
   |f=>match bJ P f with
    |some f=>some (.call f args)
    |none=>none
 |.invoke _ _=>none
 |.builtin b=>
  match b,c.argTypes.toList,c.args.toList with
  |.len,[t],[x]=>
   match P.underlying t,bJ P x with
   |some .string,some x=>some (.len 0 x)
   |some (.slice _),some x=>some (.len 1 x)
   |some (.map _ _),some x=>some (.len 2 x)
   |_,_=>none
  |.cap,[t],[x]=>
   match P.underlying t,bJ P x with
   |some (.slice _),some x=>some (.cap x)
   |_,_=>none
  |.min,_,_=>match xp P c.args.toList with
   |some l=>some (.mn l)
   |none=>none
  |.max,_,_=>match xp P c.args.toList with
   |some l=>some (.mx l)
   |none=>none
  |.append,[t,u],[s,x]=>
   match P.underlying t with
   |some (.slice e)=>match fQ P e,Ep P e,tn P e,bJ P s,bJ P x,P.underlying u with
    |some n,some b,some z,some s,some x,some d=>if (d matches .int _)\/b=0\/z.cells.length≠n\/z.cells.all V.one=false then none else some (.append n b e z.cells s x)
    |_,_,_,_,_,_=>none
   |_=>none
  |.copy,t::_,[d,s]=>
   match P.underlying t with
   |some (.slice e)=>match fQ P e,bJ P d,bJ P s with
    |some n,some d,some s=>some (.copy n d s)
    |_,_,_=>none
   |_=>none
  |.unsafeSliceData,[_],[s]=>(bJ P s).map .BH
  |.unsafeString,[t,_],[x,n]=>
   match P.underlying t with
   |some (.pointer e)=>match fQ P e,bJ P x,bJ P n with
    |some 1,some x,some n=>some (.I3 e x n)
    |_,_,_=>none
   |_=>none
  |_,_,_=>none
def Mb:Op->Option iH
 |.move x|.assign x=>(bJ P x).map .pP
 |.pick c a b=>match bJ P c,bJ P a,bJ P b with
  |some c,some a,some b=>some (.pick c a b)
  |_,_,_=>none
 |.alloc e=>match tn P e with
  |some z=>if z.cells.all V.one then some (.alloc z.cells e) else none
  |none=>none
 |.box e x=>(bJ P x).map (.box e)
 |.build t parts=>match tn P t with
  |none=>none
  |some z=>match P.underlying t with
   |some (.struct fs)=>match Ma P fs.toList with
    |some pl=>(Da P (pl[·]?) parts.toList).map (.build z.cells)
    |none=>none
   |some (.array _ e)=>match fQ P e with
    |some s=>(Da P (fun i=>some (i*s,s)) parts.toList).map (.build z.cells)
    |none=>none
   |_=>none
 |.buildSlice t len parts=>match P.underlying t with
  |some (.slice e)=>match fQ P e,tn P e with
   |some s,some z=>if len*s > 2^24\/z.cells.length≠s\/s=0 then none else
    (Da P (fun i=>some (i*s,s)) parts.toList).map (.gg e s len (du z.cells len))
   |_,_=>none
  |_=>none
 |.load t a=>match BF P t,bJ P a with
  |some n,some a=>some (.load n a)
  |_,_=>none
 |.store t a x=>match fQ P t,bJ P a,bJ P x with
  |some n,some a,some x=>some (.store n a x)
  |_,_,_=>none
 |.nilCheck x=>(bJ P x).map .pQ
 |.binOp op t x y _=>match bJ P x,bJ P y with
  |some a,some b=>
   match op with
   |.eql|.neq=>match yR P 40 t with
    |some q=>if (match P.underlying t with|some (.struct _)|some (.array _ _)=>P.eqGuardType P.depth t|_=>false) then none else some (.bin op q (I1 x||I1 y) a b)
    |none=>none
   |_=>some (.bin op (.node []) false a b)
  |_,_=>none
 |.unOp op _ x=>(bJ P x).map (.un op)
 |.convert src dst x=>match bJ P x with
  |none=>none
  |some a=>match P.underlying src,P.underlying dst with
   |some (.int _),some (.int k)=>some (.dG k a)
   |some .string,some (.slice e)=>match P.underlying e with
    |some (.int .u8)=>some (.lK e a)
    |_=>none
   |some (.slice e),some .string=>match P.underlying e with
    |some (.int .u8)=>some (.pR a)
    |_=>none
   |some (.pointer t),some .unsafePointer=>match fQ P t with
    |some (_+1)=>some (.Mc none a)
    |_=>none
   |some .unsafePointer,some (.pointer u)=>match fQ P u with
    |some (z+1)=>some (.Mc (some (u,z+1)) a)
    |_=>none
   |_,_=>none
 |.makeInterface t x=>match P.underlying t with
  |some (.interface _)=>none
  |some _=>(bJ P x).map (.jn t)
  |none=>none
 |.makeFunc (.func f) first iI=>match xp P first.toList,xp P iI.toList with
  |some a,some l=>some (.pS f a l)
  |_,_=>none
 |.makeMap _ none=>some .yS
 |.makeSlice t l c=>match P.underlying t with
  |some (.slice e)=>match fQ P e,Ep P e,tn P e,bJ P l,bJ P c with
   |some s,some b,some z,some l,some c=>if z.cells.all V.one then some (.lV e s b z.cells l c) else none
   |_,_,_,_,_=>none
  |_=>none
 |.slice t x lo hi mx=>match bJ P x,wi P lo,wi P hi,wi P mx with
  |some x,some lo,some hi,some mx=>match P.underlying t with
   |some .string=>if mx.isSome then none else some (.cG x lo hi)
   |some (.slice e)=>(fQ P e).map fun s=>.oD s x lo hi mx
   |some (.array n e)=>(fQ P e).map fun s=>.lY n s x lo hi mx
   |_=>none
  |_,_,_,_=>none
 |.fieldAddr t x i=>match P.underlying t,bJ P x with
  |some (.struct fs),some x=>match fs[i]? with
   |some f=>match fQ P f.type with
    |some (_+1)=>some (.iZ f.offset x)
    |_=>none
   |none=>none
  |_,_=>none
 |.indexAddr t x i=>match P.underlying t,bJ P x,bJ P i with
  |some (.array n e),some x,some i=>(fQ P e).map fun s=>.i_ n s x i
  |some (.slice e),some x,some i=>(fQ P e).map fun s=>.bF s x i
  |_,_,_=>none
 |.index t x i=>match P.underlying t,bJ P x,bJ P i with
  |some .string,some x,some i=>some (.bQ x i)
  |_,_,_=>none
 |.lookup t m k ok=>match P.underlying t,bJ P m,bJ P k with
  |some (.map kt e),some m,some k=>match BG P kt,tn P e with
   |some kd,some z=>some (.lookup kd z m k ok)
   |_,_=>none
  |_,_,_=>none
 |.mapUpdate t m k v|.insert t m k v=>match P.underlying t,bJ P m,bJ P k,bJ P v with
  |some (.map kt _),some m,some k,some v=>(BG P kt).map fun kd=>.xr kd m k v
  |_,_,_,_=>none
 |.range t x=>match P.underlying t,bJ P x with
  |some .string,some x=>some (.lZ x)
  |_,_=>none
 |.next it true=>(bJ P it).map .tr
 |.extract x i=>(bJ P x).map fun x=>.extract x i
 |.call c=>Gn P c
 |_=>none
def BI(o:Op):iH:=(Mb P o).getD .stop
def I4(ops:Array Oper):Option (Nat×Bool)->Option (Option (Nat×Bool))
 |none=>some none
 |some (j,want)=>match (ops[j]?).bind (·.dst)with
  |some t=>some (some (t,want))
  |none=>none
def tu(ops:Array Oper)(o:Oper):dS:=
 match I4 ops o.guard with
 |some g=>{dst:=o.dst,op:=BI P o.op,guard:=g}
 |none=>{dst:=o.dst,op:=.stop,guard:=none}
def OR(o:Oper)(ms:List Nat):Nat:=
 o.after.foldl (fun s e=>if Region.binds .any e then s|||2^e.on|||ms.getD e.on 0 else s) 0
def xu:List Oper->List Nat->List Nat
 |[],acc=>acc
 |o::rest,acc=>xu rest (acc++[OR o acc])
def Xav(_:Program)(o:Oper):Option (Option Nat×Src×Option Src×V):=none
def Md:Nat->List Oper->Bool
 |_,[]=>true
 |i,o::os=>(o.after.all fun e=>!Region.binds .any e||Nat.blt e.on i)&&Md (i+1) os
def Yq5(ops:Array Oper):Bool:=Md 0 ops.toList&&c9 TL (ops.toList.map (tu P ops)) (xu ops.toList [])
def jH:Code->ct
 |.skip=>.skip
 |.region _ ops false=>match ops.toList with
  |[]=>.fV []
  |o::rest=>match Xav P o with
   |some (d,ch,s,z)=>.Aa d ch s z (rest.map (tu P ops))
   |none=>.fV ((o::rest).map (tu P ops))
 |.region _ ops true=>if Yq5 P ops then .f_ (ops.toList.map (tu P ops)) (xu ops.toList []) else .stop
 |.seq a b=>.seq (jH a) (jH b)
 |.cond c a b=>match bJ P c with
  |some c=>.cond c (jH a) (jH b)
  |none=>.stop
 |.block id c=>.block id (jH c)
 |.loop c=>.loop (jH c)
 |.rangeFunc g ps assign body=>match bJ P g with
  |some g=>.jY g ps.toList (jH assign) (jH body)
  |none=>.stop
 |.exit id=>.exit id
 |.scope c=>.scope (jH c)
 |.label _=>.skip
 |.goto _=>.stop
 |.ret=>.ret
 |.refuse _=>.stop
def Gp:List ResultVar->Option (List FY)
 |[]=>some []
 |.tmp t::rest=>(Gp rest).map (.tmp t::·)
 |.cell t ty::rest=>match BF P ty,Gp rest with
  |some n,some l=>some (.cell t n::l)
  |_,_=>none
def Ar(f:FuncId):Option nD:=
 match P.funcs[f]? with
 |some fn=>match fn.body,Gp P fn.results.toList with
  |some c,some rs=>some {ntmps:=fn.ntmps,results:=rs,body:=jH P c}
  |_,_=>none
 |none=>none
end
open Go
structure L where
 b:Nat
 d:Nat
 tv:Nat
abbrev Mu:=Nat->Option L
mutual
def VR(μ:Mu):V->Value->Prop
 |.bool b,x=>x=.bool b
 |.int k n,x=>x=.int k n
 |.xn k n,x=>x=.float k n
 |.str s,x=>x=.string ⟨s.toArray⟩
 |.bP,x=>x=.pointer none
 |.ptr i o,x=>∃l,μ i=some l/\x=.pointer (some ⟨l.b,l.d+o,none⟩)
 |.aa,x=>x=.slice none 0 0
 |.slice i o len cap sz,x=>∃l c,μ i=some l/\x=.slice (some ⟨l.b,l.d+o,none⟩) len c/\len<=c/\o+c*sz<=l.tv/\
   (∀k,cap=some k->c=k)/\(cap=none->o+c*sz=l.tv)
 |.empty,x=>∃a c,x=.slice (some a) 0 c
 |.bW,x=>x=.map none
 |.map i,x=>∃l,μ i=some l/\x=.map (some l.b)
 |.bZ,x=>x=.chan none
 |.chan i,x=>∃l,μ i=some l/\x=.chan (some l.b)
 |.func f a c,x=>∃a' c',x=.func (.func f) ⟨a'⟩ ⟨c'⟩/\aV μ a a'/\aV μ c c'
 |.yield i,x=>∃l,μ i=some l/\x=.func (.yield l.b) #[] #[]
 |.b_,x=>x=.nilFunc
 |.iface t v,x=>∃y,x=.iface t y/\VR μ v y
 |.aZ,x=>x=.nilIface
 |.agg vs,x=>∃a,x=.agg ⟨a⟩/\aV μ vs a
 |.aU vs,x=>∃a,x=.tuple ⟨a⟩/\aV μ vs a
def aV(μ:Mu):List V->List Value->Prop
 |[],xs=>xs=[]
 |v::vs,xs=>∃y ys,xs=y::ys/\VR μ v y/\aV μ vs ys
end
mutual
def VR.mono{μ μ':Mu}(h:∀i l,μ i=some l->μ' i=some l):∀(v:V) (x:Value),VR μ v x->VR μ' v x
 |.bool _,_,hx=>by simpa[VR]using hx
 |.int _ _,_,hx=>by simpa[VR]using hx
 |.xn _ _,_,hx=>by simpa[VR]using hx
 |.str _,_,hx=>by simpa[VR]using hx
 |.bP,_,hx=>by simpa[VR]using hx
 |.ptr _ _,_,hx=>by simp only[VR]at*;obtain⟨l,h1,h2⟩:=hx;exact⟨l,h _ _ h1,h2⟩
 |.aa,_,hx=>by simpa[VR]using hx
 |.slice _ _ _ _ _,_,hx=>by simp only[VR]at*;obtain⟨l,c,h1,h2⟩:=hx;exact⟨l,c,h _ _ h1,h2⟩
 |.empty,_,hx=>by simpa[VR]using hx
 |.bW,_,hx=>by simpa[VR]using hx
 |.map _,_,hx=>by simp only[VR]at*;obtain⟨l,h1,h2⟩:=hx;exact⟨l,h _ _ h1,h2⟩
 |.bZ,_,hx=>by simpa[VR]using hx
 |.chan _,_,hx=>by simp only[VR]at*;obtain⟨l,h1,h2⟩:=hx;exact⟨l,h _ _ h1,h2⟩
 |.func _ a c,_,hx=>by
  simp only[VR]at*;obtain⟨a',c',h1,h2,h3⟩:=hx
  exact⟨a',c',h1,aV.mono h a a' h2,aV.mono h c c' h3⟩
 |.yield _,_,hx=>by simp only[VR]at*;obtain⟨l,h1,h2⟩:=hx;exact⟨l,h _ _ h1,h2⟩
 |.b_,_,hx=>by simpa[VR]using hx
 |.iface _ v,_,hx=>by simp only[VR]at*;obtain⟨y,h1,h2⟩:=hx;exact⟨y,h1,VR.mono h v y h2⟩
 |.aZ,_,hx=>by simpa[VR]using hx
 |.agg vs,_,hx=>by simp only[VR]at*;obtain⟨a,h1,h2⟩:=hx;exact⟨a,h1,aV.mono h vs a h2⟩
 |.aU vs,_,hx=>by simp only[VR]at*;obtain⟨a,h1,h2⟩:=hx;exact⟨a,h1,aV.mono h vs a h2⟩
def aV.mono{μ μ':Mu}(h:∀i l,μ i=some l->μ' i=some l):∀(vs:List V) (xs:List Value),aV μ vs xs->aV μ' vs xs
 |[],_,hx=>by simpa[aV]using hx
 |v::vs,_,hx=>by
  simp only[aV]at*
  obtain⟨y,ys,h1,h2,h3⟩:=hx
  exact⟨y,ys,h1,VR.mono h v y h2,aV.mono h vs ys h3⟩
end
section
variable {μ:Mu}
def kW:aV μ (v::vs) xs↔∃y ys,xs=y::ys/\VR μ v y/\aV μ vs ys:=by simp[aV]
def aV.length:∀{vs:List V} {xs:List Value},aV μ vs xs->xs.length=vs.length
 |[],_,h=>by simp[aV]at h;simp[h]
 |v::vs,_,h=>by
  obtain⟨y,ys,rfl,_,h3⟩:=kW.1 h
  simp[aV.length h3]
def aV.get:∀{vs:List V} {xs:List Value},aV μ vs xs->∀{i:Nat} {v:V},vs[i]?=some v->∃x,xs[i]?=some x/\VR μ v x
 |[],_,_,i,v,hv=>by simp at hv
 |w::vs,_,h,i,v,hv=>by
  obtain⟨y,ys,rfl,h2,h3⟩:=kW.1 h
  cases i with
  |zero=>simp at hv;subst hv;exact⟨y,by simp,h2⟩
  |succ i=>simpa using aV.get h3 (i:=i) (by simpa using hv)
def aV.append:∀{vs ws:List V} {xs ys:List Value},aV μ vs xs->aV μ ws ys->aV μ (vs++ws) (xs++ys)
 |[],ws,_,ys,h,h'=>by simp[aV]at h;simpa[h]using h'
 |v::vs,ws,_,ys,h,h'=>by
  obtain⟨y,zs,rfl,h2,h3⟩:=kW.1 h
  exact kW.2 ⟨y,zs++ys,rfl,h2,aV.append h3 h'⟩
def aV.take:∀{vs:List V} {xs:List Value} (n:Nat),aV μ vs xs->aV μ (vs.take n) (xs.take n)
 |[],_,n,h=>by simp[aV]at h;simp[h,aV]
 |v::vs,_,n,h=>by
  obtain⟨y,zs,rfl,h2,h3⟩:=kW.1 h
  cases n with
  |zero=>simp[aV]
  |succ n=>exact kW.2 ⟨y,zs.take n,rfl,h2,aV.take n h3⟩
def aV.drop:∀{vs:List V} {xs:List Value} (n:Nat),aV μ vs xs->aV μ (vs.drop n) (xs.drop n)
 |[],_,n,h=>by simp[aV]at h;simp[h,aV]
 |v::vs,_,n,h=>by
  cases n with
  |zero=>simpa using h
  |succ n=>
   obtain⟨y,zs,rfl,h2,h3⟩:=kW.1 h
   simpa using aV.drop n h3
def aV.tA:∀{vs:List V} {xs:List Value},xs.length=vs.length->(∀(i:Nat) (v:V),vs[i]?=some v->∃x,xs[i]?=some x/\VR μ v x)->aV μ vs xs
 |[],xs,hl,_=>by simp at hl;simp[aV,hl]
 |v::vs,[],hl,_=>by simp at hl
 |v::vs,x::xs,hl,h=>by
  refine kW.2 ⟨x,xs,rfl,?_,aV.tA (by simpa using hl) fun i u hu=>?_⟩
  ·obtain⟨y,h1,h2⟩:=h 0 v (by simp)
   simp at h1;subst h1;exact h2
  ·simpa using h (i+1) u (by simpa using hu)
def VR.one{v:V}{x:Value}(h:VR μ v x)(hv:v.one=true):x.oneCell'=true:=by
 cases v<;>simp only[VR]at h<;>simp only[V.one,iE]at hv;case bool=>subst h;rfl
 case int=>subst h;rfl
 case xn=>subst h;rfl
 case str=>subst h;rfl
 case bP=>subst h;rfl
 case ptr=>obtain⟨l,_,rfl⟩:=h;rfl
 case aa=>subst h;rfl
 case slice=>obtain⟨l,c,_,rfl,_⟩:=h;rfl
 case empty=>obtain⟨a,c,rfl⟩:=h;rfl
 case bW=>subst h;rfl
 case map=>obtain⟨l,_,rfl⟩:=h;rfl
 case bZ=>subst h;rfl
 case chan=>obtain⟨l,_,rfl⟩:=h;rfl
 case func=>obtain⟨a,c,rfl,_⟩:=h;rfl
 case yield=>obtain⟨l,_,rfl⟩:=h;rfl
 case b_=>subst h;rfl
 case iface=>obtain⟨y,rfl,_⟩:=h;rfl
 case aZ=>subst h;rfl
def VR.cells{v:V}{x:Value}(h:VR μ v x):aV μ v.cells x.cells.toList:=by
 have one:∀y:Value,x=y->(y.cells=#[y])->v.cells=[v]->aV μ v.cells x.cells.toList:=fun y e hc hv=>by subst e;rw[hc,hv];exact kW.2 ⟨_,[],rfl,h,by simp[aV]⟩
 have h0:=h;cases v<;>simp only[VR]at h;case bool=>exact one _ h rfl rfl
 case int=>exact one _ h rfl rfl
 case xn=>exact one _ h rfl rfl
 case str=>exact one _ h rfl rfl
 case bP=>exact one _ h rfl rfl
 case ptr=>obtain⟨l,_,e⟩:=h;exact one _ e rfl rfl
 case aa=>exact one _ h rfl rfl
 case slice=>obtain⟨l,c,_,e,_⟩:=h;exact one _ e rfl rfl
 case empty=>obtain⟨a,c,e⟩:=h;exact one _ e rfl rfl
 case bW=>exact one _ h rfl rfl
 case map=>obtain⟨l,_,e⟩:=h;exact one _ e rfl rfl
 case bZ=>exact one _ h rfl rfl
 case chan=>obtain⟨l,_,e⟩:=h;exact one _ e rfl rfl
 case func=>obtain⟨a,c,e,_⟩:=h;exact one _ e rfl rfl
 case yield=>obtain⟨l,_,e⟩:=h;exact one _ e rfl rfl
 case b_=>exact one _ h rfl rfl
 case iface=>obtain⟨y,e,_⟩:=h;exact one _ e rfl rfl
 case aZ=>exact one _ h rfl rfl
 case agg vs=>obtain⟨a,rfl,h⟩:=h;exact h
 case aU vs=>obtain⟨a,e,_⟩:=h;exact one _ e rfl rfl
end
def RR(μ:Mu)(r:T V)(n:Nat)(tmps:Array Value):Prop:=
 tmps.size=n/\∀t v,r.get t=some v->∃x,tmps[t]?=some x/\VR μ v x
def RR.mono{μ μ':Mu}{r:T V}{n:Nat}{tmps:Array Value}(h:∀i l,μ i=some l->μ' i=some l)(hr:RR μ r n tmps):RR μ' r n tmps:=
 ⟨hr.1,fun t v hv=>let ⟨x,h1,h2⟩:=hr.2 t v hv;⟨x,h1,VR.mono h v x h2⟩⟩
def RR.set{μ:Mu}{r:T V}{n:Nat}{tmps:Array Value}(hr:RR μ r n tmps){d:Nat}(hd:d<n){v:V}{x:Value}(hv:VR μ v x):
  RR μ (r.set d v) n (tmps.setIfInBounds d x):=by
 refine⟨by simp[hr.1],fun t u hu=>?_⟩;rw[T.ag]at hu;by_cases e:t=d
 ·subst e;simp at hu;subst hu;exact⟨x,by simp[hr.1,hd],hv⟩
 simp[e]at hu;obtain⟨y,h1,h2⟩:=hr.2 t u hu;exact⟨y,by rw[TM (Ne.symm e)];exact h1,h2⟩
def BJ:Ex->Option Code
 |.normal=>none
 |.exit id=>some (.exit id)
 |.ret=>some .ret
def jI(μ:Mu):List (V×V)->List MapEntry->Nat->Prop
 |[],xs,_=>xs=[]
 |(k,v)::es,xs,i=>∃e ys,xs=e::ys/\VR μ k e.key/\VR μ v e.val/\e.born=i/\jI μ es ys (i+1)
def jI.mono{μ μ':Mu}(h:∀i l,μ i=some l->μ' i=some l):∀(es:List (V×V)) (xs:List MapEntry) (i:Nat),jI μ es xs i->jI μ' es xs i
 |[],_,_,hx=>hx
 |(k,v)::es,_,i,hx=>by
  obtain⟨e,ys,h1,h2,h3,h4,h5⟩:=hx
  exact⟨e,ys,h1,VR.mono h k _ h2,VR.mono h v _ h3,h4,jI.mono h es ys (i+1) h5⟩
def OM(P:Program)(μ:Mu)(w:World):O->L->Prop
 |.cells c e rw,l=>∃(c':Array Value) (lo hi:Nat),w.heap[l.b]?=some (.cells c' e (lo,hi))/\l.d+l.tv<=c'.size/\c.length<=l.tv/\
   (∀(j:Nat) (v:V),c[j]?=some v->∃x,c'[l.d+j]?=some x/\VR μ v x)/\(∀(j:Nat) (x:Value),j<l.tv->c'[l.d+j]?=some x->x.oneCell'=true)/\(rw=true->l.d=0/\∀j,j<l.tv->¬(lo<=l.d+j/\l.d+j<hi))
 |.map es,l=>∃jd:List MapEntry,w.heap[l.b]?=some (.map ⟨jd⟩ jd.length)/\jI μ es jd 0
 |.chan cap buf,l=>∃(Er:List Value) (s r:Nat),w.heap[l.b]?=some (.chan cap ⟨Er⟩ false s r false)/\aV μ buf Er
 |.fm s pos,l=>w.heap[l.b]?=some (.stringIter ⟨s.toArray⟩ pos)/\l.d=0
 |.loop R,l=>∃fn tmps gY gZ ld,w.heap[l.b]?=some (.loop {state:=R.st,pending:=R.fN.bind BJ,fn:=fn,tmps:=tmps,params:=⟨R.ps⟩,assign:=gY,body:=gZ,defers:=ld.b})/\
   RR μ R.r R.n tmps/\jH P gY=R.assign/\jH P gZ=R.body/\μ R.defs=some ld
 |.defs o,l=>w.heap[l.b]?=some (.deferred (if o then some [] else none))
 |.dead,_=>True
def OM.mono{P:Program}{μ μ':Mu}{w:World}(h:∀i l,μ i=some l->μ' i=some l){o:O}{l:L}(ho:OM P μ w o l):OM P μ' w o l:=by
 cases o with
 |cells c e rw=> obtain⟨c',lo,hi,h1,h2,h3,h4,h5⟩:=ho;exact⟨c',lo,hi,h1,h2,h3,fun j v hv=>let ⟨x,a,b⟩:=h4 j v hv;⟨x,a,VR.mono h v x b⟩,h5⟩
 |map es=>obtain⟨jd,h1,h2⟩:=ho;exact⟨jd,h1,jI.mono h _ _ _ h2⟩
 |chan cap buf=>obtain⟨b',s,r,h1,h2⟩:=ho;exact⟨b',s,r,h1,aV.mono h _ _ h2⟩
 |fm s pos=>simp only[OM]at*;exact ho
 |loop R=>obtain⟨fn,tmps,gY,gZ,ld,h1,h2,h3,h4,h5⟩:=ho;exact⟨fn,tmps,gY,gZ,ld,h1,h2.mono h,h3,h4,h _ _ h5⟩
 |defs b=>simp only[OM]at*;exact ho
 |dead=>trivial
def OM.congr{P:Program}{μ:Mu}{w w':World}{o:O}{l:L}(hb:w'.heap[l.b]?=w.heap[l.b]?)(ho:OM P μ w o l):OM P μ w' o l:=by
 cases o with
 |cells c e rw=>obtain⟨c',lo,hi,h1,h2⟩:=ho;exact⟨c',lo,hi,hb.trans h1,h2⟩
 |map es=>obtain⟨jd,h1,h2⟩:=ho;exact⟨jd,hb.trans h1,h2⟩
 |chan cap buf=>obtain⟨b',s,r,h1,h2⟩:=ho;exact⟨b',s,r,hb.trans h1,h2⟩
 |fm s pos=>exact⟨hb.trans ho.1,ho.2⟩
 |loop R=>obtain⟨fn,tmps,gY,gZ,ld,h1,h2⟩:=ho;exact⟨fn,tmps,gY,gZ,ld,hb.trans h1,h2⟩
 |defs b=>exact hb.trans ho
 |dead=>trivial
structure bq (P:Program) (μ:Mu) (w:World) (st:St):Prop where
 dw:∀i l,μ i=some l->i<st.n/\l.b<w.heap.size
 obj:∀i l,μ i=some l->∃o,st.h.get i=some o/\OM P μ w o l
 inj:∀i j l l' o o',μ i=some l->μ j=some l'->i≠j->st.h.get i=some o->st.h.get j=some o'->o.wr=true->o'.live=true->l.b≠l'.b
 je:∀g,g<P.globals.size->∃t,μ g=some ⟨g,0,t⟩
structure OS (μ:Mu) (ws:List Nat) (w w':World):Prop where
 os:w'.os=w.os
 tape:w'.tape=w.tape
 output:w'.output=w.output
 size:w.heap.size<=w'.heap.size
 block:∀b,b<w.heap.size->(∀i∈ws,∀l,μ i=some l->l.b≠b)->w'.heap[b]?=w.heap[b]?
structure bN (P:Program) (μ:Mu) (w:World) (st:St) (μ':Mu) (w':World) (aB:St) (ws:List Nat):Prop where
 hr:bq P μ' w' aB
 ext:∀i,i<st.n->μ' i=μ i
 iy:st.n<=aB.n
 wl:aB.w=ws++st.w
 fe:OS μ ws w w'
 new:∀i l,st.n<=i->μ' i=some l->w.heap.size<=l.b\/∃j∈ws,j<st.n/\∃lj oj,μ j=some lj/\lj.b=l.b/\st.h.get j=some oj/\oj.wr=true
 ad:∀i,i<st.n->i∉ws->aB.h.get i=st.h.get i
 grow:∀i o',i<st.n->aB.h.get i=some o'->∃o,st.h.get i=some o/\(o'.wr=true->o.wr=true)/\(o'.live=true->o.live=true)
 full:∀i,st.n<=i->i<aB.n->∃l,μ' i=some l
 AJ:∀i∈ws,i<st.n->∃o,st.h.get i=some o/\o.wr=true
def bq.I5{P:Program}{μ μ':Mu}{w:World}{st:St}(h:bq P μ w st)(he:∀i,i<st.n->μ' i=μ i):∀i l,μ i=some l->μ' i=some l:=
 fun i l hi=>(he i (h.dw i l hi).1).trans hi
def OS.refl(μ:Mu)(ws:List Nat)(w:World):OS μ ws w w:=⟨rfl,rfl,rfl,aN _,fun _ _ _=>rfl⟩
def bN.refl{P:Program}{μ:Mu}{w:World}{st:St}(h:bq P μ w st):bN P μ w st μ w st []:=
 ⟨h,fun _ _=>rfl,aN _,rfl,OS.refl μ [] w,fun i l hi hl=>absurd (h.dw i l hl).1 (by omega),fun _ _ _=>rfl,fun _ o' _ ho=>⟨o',ho,id,id⟩,fun _ h1 h2=>absurd h2 (by omega),fun _ hi=>absurd hi (by simp)⟩
def bN.trans{P:Program}{μ μ1 μ2:Mu}{w w1 w2:World}{st cg fz:St}{ws TN:List Nat}
  (h1:bN P μ w st μ1 w1 cg ws) (h2:bN P μ1 w1 cg μ2 w2 fz TN):bN P μ w st μ2 w2 fz (TN++ws) where
 hr:=h2.hr
 ext:=fun i hi=>(h2.ext i (fH hi h1.iy)).trans (h1.ext i hi)
 iy:=nI h1.iy h2.iy
 wl:=by rw[h2.wl,h1.wl,uJ]
 fe:=by
  refine⟨h2.fe.os.trans h1.fe.os,h2.fe.tape.trans h1.fe.tape,h2.fe.output.trans h1.fe.output,nI h1.fe.size h2.fe.size,fun b hb dV=>?_⟩
  rw[h2.fe.block b (fH hb h1.fe.size) fun i hi l hl=>?_,h1.fe.block b hb fun i hi l hl=>dV i (by simp[hi]) l hl]
  by_cases Db:i<st.n
  ·exact dV i (by simp[hi]) l (by rw[<-h1.ext i Db];exact hl)
  ·rcases h1.new i l (by omega) hl with h|⟨j,hj,_,lj,oj,wj,wm,_⟩
   ·omega
   ·rw[<-wm];exact dV j (by simp[hj]) lj wj
 new:=fun i l hi hl=>by
  by_cases Db:i<cg.n
  ·rcases h1.new i l hi (by rw[<-h2.ext i Db];exact hl)with h|⟨j,hj,r⟩
   ·exact .inl h
   ·exact .inr ⟨j,by simp[hj],r⟩
  ·rcases h2.new i l (by omega) hl with h|⟨j,hj,C9,lj,oj,wj,wm,I6,how⟩
   ·exact .inl (nI h1.fe.size h)
   ·by_cases hjn':j<st.n
    ·obtain⟨o,ho,hw,_⟩:=h1.grow j oj hjn' I6
     exact .inr ⟨j,by simp[hj],hjn',lj,o,by rw[<-h1.ext j hjn'];exact wj,wm,ho,hw how⟩
    ·rcases h1.new j lj (by omega) wj with h|⟨j',OT,r⟩
     ·exact .inl (by omega)
     ·obtain⟨r1,lj',oj',r2,r3,r4⟩:=r
      exact .inr ⟨j',by simp[OT],r1,lj',oj',r2,r3.trans wm,r4⟩
 ad:=fun i hi dV=>by
  simp only[iS,not_or]at dV
  rw[h2.ad i (fH hi h1.iy) dV.1,h1.ad i hi dV.2]
 grow:=fun i o' hi ho=>by
  obtain⟨o1,Dc,a1,b1⟩:=h2.grow i o' (fH hi h1.iy) ho
  obtain⟨o,ho,a,b⟩:=h1.grow i o1 hi Dc
  exact⟨o,ho,a∘a1,b∘b1⟩
 full:=fun i iz mX=>by
  by_cases hi:i<cg.n
  ·obtain⟨l,hl⟩:=h1.full i iz hi
   exact⟨l,(h2.ext i hi).trans hl⟩
  ·exact h2.full i (by omega) mX
 AJ:=fun i hi hn=>by
  simp only[iS]at hi
  rcases hi with hi|hi
  ·obtain⟨o1,Dc,Lg⟩:=h2.AJ i hi (fH hn h1.iy)
   obtain⟨o,ho,a,_⟩:=h1.grow i o1 hn Dc
   exact⟨o,ho,a Lg⟩
  ·exact h1.AJ i hi hn
def bq.drew{P:Program}{μ:Mu}{w:World}{st:St}(h:bq P μ w st)(n:Nat):bq P μ {w with drawn:=n} st:=
 ⟨h.dw,fun i l hl=>let ⟨o,h1,h2⟩:=h.obj i l hl;⟨o,h1,OM.congr (w:=w) rfl h2⟩,h.inj,h.je⟩
def bN.alloc{P:Program}{μ:Mu}{w:World}{st:St}(h:bq P μ w st)(o:O)(ob:Obj)(d tv:Nat)
  (ho:OM P (fun i=>if i=st.n then some ⟨w.heap.size,d,tv⟩ else μ i) {w with heap:=w.heap.push ob} o ⟨w.heap.size,d,tv⟩):
  bN P μ w st (fun i=>if i=st.n then some ⟨w.heap.size,d,tv⟩ else μ i) {w with heap:=w.heap.push ob} (st.alloc o) []:=by
 have dW:∀i l,μ i=some l->(fun i=>if i=st.n then some (⟨w.heap.size,d,tv⟩:L) else μ i) i=some l:=fun i l hl=>by have:=(h.dw i l hl).1;simp only;rw[ak (by omega)];exact hl
 have hold:∀b,b<w.heap.size->({w with heap:=w.heap.push ob}:World).heap[b]?=w.heap[b]?:=fun b hb=>by show (w.heap.push ob)[b]?=_;rw[Array.getElem?_push,ak (by omega)]
 refine⟨⟨fun i l hl=>?_,fun i l hl=>?_,fun i j l l' oi oj hi hj aX Dc Ab hw rC=>?_,fun g hg=>let ⟨t,ht⟩:=h.je g hg;⟨t,dW g _ ht⟩⟩,fun i hi=>?_,by simp[St.alloc],rfl,⟨rfl,rfl,rfl,by simp,fun b hb _=>hold b hb⟩,
  fun i l hi hl=>?_,fun i hi _=>?_,fun i o' hi yU=>?_,fun i h1 h2=>⟨⟨w.heap.size,d,tv⟩,by simp only[St.alloc]at h2;show (if i=st.n then some (⟨w.heap.size,d,tv⟩:L) else μ i)=_;rw[av (by omega)]⟩,fun _ hi=>absurd hi (by simp)⟩
 ·by_cases e:i=st.n
  ·simp only[e,if_true,ar]at hl;subst hl;simp[St.alloc,e]
  simp only[e,if_false]at hl;have:=h.dw i l hl;simp[St.alloc];omega
 ·by_cases e:i=st.n
  ·simp only[e,if_true,ar]at hl;subst hl;exact⟨o,by simp[St.alloc,T.ag,e],ho⟩
  simp only[e,if_false]at hl;obtain⟨o1,h1,h2⟩:=h.obj i l hl;exact⟨o1,by simp[St.alloc,T.ag,e,h1],(h2.mono dW).congr (hold l.b (h.dw i l hl).2)⟩
 ·by_cases e:i=st.n
  ·by_cases e':j=st.n
   ·exact absurd (e.trans e'.symm) aX
   simp only[e,if_true,ar]at hi;simp only[e',if_false]at hj;subst hi;have:=(h.dw j l' hj).2;simp only;omega
  simp only[e,if_false]at hi;by_cases e':j=st.n
  ·simp only[e',if_true,ar]at hj;subst hj;have:=(h.dw i l hi).2;simp only;omega
  simp only[e',if_false]at hj;simp only[St.alloc,T.ag,e,e',if_false]at Dc Ab;exact h.inj i j l l' oi oj hi hj aX Dc Ab hw rC
 ·rw[ak (by omega)]
 ·by_cases e:i=st.n
  ·simp only[e,if_true,ar]at hl;subst hl;exact .inl (aN _)
  simp only[e,if_false]at hl;exact absurd (h.dw i l hl).1 (by omega)
 ·simp only[St.alloc,T.ag];rw[ak (by omega)]
 simp only[St.alloc,T.ag]at yU;rw[ak (by omega)]at yU;exact⟨o',yU,id,id⟩
def bN.write{P:Program}{μ:Mu}{w w':World}{st:St}(h:bq P μ w st){i:Nat}{l:L}{o o':O}(hi:μ i=some l)(ho:st.h.get i=some o)(hw:o.wr=true)
  (BK:w'.os=w.os) (htp:w'.tape=w.tape) (hou:w'.output=w.output) (mY:w'.heap.size=w.heap.size) (tB:∀b,b≠l.b->w'.heap[b]?=w.heap[b]?) (yU:OM P μ w' o' l):
  bN P μ w st μ w' (st.write i o') [i]:=by
 have yV:o.live=true:=by cases o<;>simp_all [O.wr,O.live]
 refine⟨⟨fun j lj hj=>?_,fun j lj hj=>?_,fun j k lj lk oj ok hj hk aX h1 h2 Me gj=>?_,h.je⟩,fun _ _=>rfl,aN _,rfl,⟨BK,htp,hou,by omega,fun b _ dV=>tB b ?_⟩,
  fun j lj hn hj=>?_,fun j _ dV=>?_,fun j oj hn hj=>?_,fun j h1 h2=>absurd h2 (by simp only[St.write];omega),fun j hj _=>by simp only[og]at hj;subst hj;exact⟨o,ho,hw⟩⟩
 ·have:=h.dw j lj hj;simp[St.write];omega
 ·by_cases e:j=i
  ·subst e;rw[hi]at hj;cases hj;exact⟨o',by simp[St.write,T.ag],yU⟩
  obtain⟨oj,h1,h2⟩:=h.obj j lj hj;refine⟨oj,by simp[St.write,T.ag,e,h1],?_⟩;cases hl:oj.live
  ·cases oj<;>simp[O.live]at hl;trivial
  exact h2.congr (tB lj.b (Ne.symm (h.inj i j l lj o oj hi hj (Ne.symm e) ho h1 hw hl)))
 ·simp only[St.write,T.ag]at h1 h2;by_cases e:j=i
  ·subst e;rw[hi]at hj;cases hj;rw[ak (Ne.symm aX)]at h2;exact h.inj j k l lk o ok hi hk aX ho h2 hw gj
  rw[ak e]at h1;by_cases e':k=i
  ·subst e';exact h.inj j k lj lk oj o hj hk aX h1 ho Me yV
  rw[ak e']at h2;exact h.inj j k lj lk oj ok hj hk aX h1 h2 Me gj
 ·exact Ne.symm (dV i (by simp) l hi)
 ·exact absurd (h.dw j lj hj).1 (by omega)
 ·simp only[og]at dV;simp[St.write,T.ag,dV]
 simp only[St.write,T.ag]at hj;by_cases e:j=i
 ·subst e;exact⟨o,ho,fun _=>hw,fun _=>yV⟩
 rw[ak e]at hj;exact⟨oj,hj,id,id⟩
mutual
def TO(μ:Mu):∀(x:Value) (v:V),cV x=some v->VR μ v x
 |.bool b,v,h=>by simp only[cV,ar]at h;subst h;simp[VR]
 |.int k n,v,h=>by simp only[cV,ar]at h;subst h;simp[VR]
 |.float k n,v,h=>by simp only[cV,ar]at h;subst h;simp[VR]
 |.complex ..,v,h=>by simp[cV]at h
 |.string s,v,h=>by simp only[cV,ar]at h;subst h;simp[VR]
 |.pointer none,v,h=>by simp only[cV,ar]at h;subst h;simp[VR]
 |.pointer (some _),v,h=>by simp[cV]at h
 |.slice none 0 0,v,h=>by simp only[cV,ar]at h;subst h;simp[VR]
 |.slice none 0 (c+1),v,h=>by simp[cV]at h
 |.slice none (n+1) c,v,h=>by simp[cV]at h
 |.slice (some _) _ _,v,h=>by simp[cV]at h
 |.map none,v,h=>by simp only[cV,ar]at h;subst h;simp[VR]
 |.map (some _),v,h=>by simp[cV]at h
 |.chan none,v,h=>by simp only[cV,ar]at h;subst h;simp[VR]
 |.chan (some _),v,h=>by simp[cV]at h
 |.func ..,v,h=>by simp[cV]at h
 |.nilFunc,v,h=>by simp only[cV,ar]at h;subst h;simp[VR]
 |.iface ..,v,h=>by simp[cV]at h
 |.nilIface,v,h=>by simp only[cV,ar]at h;subst h;simp[VR]
 |.agg ⟨l⟩,v,h=>by
  simp only[cV]at h
  split at h
  ·rename_i l' hl
   simp only[ar]at h;subst h
   exact⟨l,rfl,Zyu μ l l' hl⟩
  ·cases h
 |.tuple ⟨l⟩,v,h=>by
  simp only[cV]at h
  split at h
  ·rename_i l' hl
   simp only[ar]at h;subst h
   exact⟨l,rfl,Zyu μ l l' hl⟩
  ·cases h
def Zyu(μ:Mu):∀(xs:List Value) (vs:List V),LY xs=some vs->aV μ vs xs
 |[],vs,h=>by simp only[LY,ar]at h;subst h;simp[aV]
 |x::xs,vs,h=>by
  simp only[LY]at h
  split at h
  ·rename_i v nG hv I7
   simp only[ar]at h;subst h
   exact⟨x,xs,rfl,TO μ x v hv,Zyu μ xs nG I7⟩
  ·cases h
end
section
variable {P:Program} {μ:Mu} {w:World} {st:St} {r:T V} {n:Nat} {a:Act}
def dt(hh:bq P μ w st)(hr:RR μ r n a.tmps){x:Operand}{s:Src}(hc:bJ P x=some s)(hv:s.ev r=some v):VR μ v (a.eval x):=by
 cases x with
 |tmp t=> simp only[bJ,ar]at hc;subst hc;obtain⟨y,h1,h2⟩:=hr.2 t v hv;simpa[Act.eval,I8,h1]using h2
 |const c=>
  simp only[bJ]at hc;split at hc
  ·rename_i v' I9;simp only[ar]at hc;subst hc;simp only[Src.ev,ar]at hv;subst hv;exact TO μ c v' I9
  cases hc
 |global g=>
  simp only[bJ]at hc;split at hc
  ·rename_i hg;simp only[ar]at hc;subst hc;simp only[Src.ev,ar]at hv;subst hv;obtain⟨t,ht⟩:=hh.je g hg;exact⟨_,ht,rfl⟩
  cases hc
 |func f=> simp only[bJ,ar]at hc;subst hc;simp only[Src.ev,ar]at hv;subst hv;exact⟨[],[],rfl,by simp[aV],by simp[aV]⟩
def Ja(hh:bq P μ w st)(hr:RR μ r n a.tmps):∀{xs:List Operand} {ss:List Src},xp P xs=some ss->∀{vs:List V},wu r ss=some vs->aV μ vs (xs.map a.eval)
 |[],ss,hc,vs,hv=>by
  simp only[xp,ar]at hc;subst hc
  simp only[wu,ar]at hv;subst hv
  simp[aV]
 |x::xs,ss,hc,vs,hv=>by
  simp only[xp]at hc
  split at hc
  ·rename_i s ss' h1 h2
   simp only[ar]at hc;subst hc
   simp only[wu]at hv
   split at hv
   ·rename_i v nG h3 h4
    simp only[ar]at hv;subst hv
    exact⟨_,_,rfl,dt hh hr h1 h3,Ja hh hr h2 h4⟩
   ·cases hv
  ·cases hc
def Yh4(hh:bq P μ w st)(hr:RR μ r n a.tmps){x:Option Operand}{s:Option Src}(hc:wi P x=some s){v:Option V}(hv:aC r s=some v):
  (v=none/\x=none)\/∃v' x',v=some v'/\x=some x'/\VR μ v' (a.eval x'):=by
 cases x with
 |none=> simp only[wi,ar]at hc;subst hc;simp only[aC,ar]at hv;subst hv;exact .inl ⟨rfl,rfl⟩
 |some x=>
  simp only[wi]at hc;split at hc
  ·rename_i s' h1;simp only[ar]at hc;subst hc;simp only[aC]at hv;split at hv
   ·rename_i v' h2;simp only[ar]at hv;subst hv;exact .inr ⟨v',x,rfl,rfl,dt hh hr h1 h2⟩
   cases hv
  cases hc
def ba(P:Program)(μ:Mu)(w:World)(st:St)(s:Sem Next)(v:V)(aB:St):Prop:=
 ∃nx x w' μ' ws,s.run P w=.ok nx w'/\(nx=.value x\/(nx=.skip/\x=undef))/\VR μ' v x/\bN P μ w st μ' w' aB ws
def ba.value(hh:bq P μ w st){s:Sem Value}{v:V}{x:Value}(hs:s.run P w=.ok x w)(hv:VR μ v x):
  ba P μ w st (do pure (.value (<-s))) v st:=
 ⟨.value x,x,w,μ,[],by simp[hs,Result.andThen],.inl rfl,hv,bN.refl hh⟩
def ba.OU(hh:bq P μ w st){x:Value}(hv:VR μ v x):ba P μ w st (pure (.value x)) v st:=
 ⟨.value x,x,w,μ,[],by simp,.inl rfl,hv,bN.refl hh⟩
def Zql{t:TypeId}(h:BF P t=some none):(isAgg t).run P w=.ok false w:=by
 unfold BF at h;split at h
 ·split at h<;>simp at h
 ·split at h<;>simp at h
 ·rename_i d h1 h2 hd;cases d<;>simp[isAgg,run_underlying hd]<;>simp_all
 cases h
def Mf{t:TypeId}(h:BF P t=some (some k)):(isAgg t).run P w=.ok true w/\(sizeOf t).run P w=.ok k w:=by
 unfold BF fQ at h;split at h
 ·rename_i fs hd;split at h
  ·rename_i n hn;simp only[ar]at h;subst h;simp only[mS]at hn;obtain⟨i,hi,rfl⟩:=hn;exact⟨by simp[isAgg,run_underlying hd],by simp[sizeOf,typeInfo,hi]⟩
  cases h
 ·rename_i k' e hd;split at h
  ·rename_i n hn;simp only[ar]at h;subst h;simp only[mS]at hn;obtain⟨i,hi,rfl⟩:=hn;exact⟨by simp[isAgg,run_underlying hd],by simp[sizeOf,typeInfo,hi]⟩
  cases h
 ·cases h
 cases h
def Ac{t:TypeId}(h:fQ P t=some k):(sizeOf t).run P w=.ok k w:=by unfold fQ at h;simp only[mS]at h;obtain⟨i,hi,rfl⟩:=h;simp[sizeOf,typeInfo,hi]
def Yfp{t:TypeId}(h:tn P t=some v):∃x,(zeroValue t).run P w=.ok x w/\∀μ,VR μ v x:=by
 unfold tn at h;split at h
 ·rename_i i hi;split at h
  ·rename_i x hx;exact⟨x,by simp[zeroValue,typeInfo,hi,hx],fun μ=>TO μ x v h⟩
  cases h
 cases h
def yW(b o j:Nat):(⟨b,o,none⟩:Addr).add j=⟨b,o+j,none⟩:=by unfold Addr.add;split<;>simp_all
def OM.cell{c:List V}{e:TypeId}{rw:Bool}{l:L}(h:OM P μ w (.cells c e rw) l){j:Nat}{v:V}(hv:c[j]?=some v):
  ∃x,w.cell? ⟨l.b,l.d+j,none⟩=some x/\VR μ v x:=by obtain⟨c',lo,hi,h1,_,_,h4,_⟩:=h;obtain⟨x,hx,hr⟩:=h4 j v hv;exact⟨x,by simp[World.cell?,h1,hx],hr⟩
def OM.BL{c:List V}{e:TypeId}{rw:Bool}{l:L}(h:OM P μ w (.cells c e rw) l)(hs:aO c o k=some vs):
  ∃xs:List Value,aV μ vs xs/\xs.length=k/\(loadCells ⟨l.b,l.d+o,none⟩ k).run P w=.ok xs.toArray w/\(∀(j:Nat) (x:Value),xs[j]?=some x->w.cell? ⟨l.b,l.d+o+j,none⟩=some x)/\(∀x∈xs,x.oneCell'=true):=by
 unfold aO at hs;split at hs
 ·rename_i hle;simp only[ar]at hs;subst hs;obtain⟨c',lo,hi,h1,h2,h3,h4,h5,_⟩:=h;have hlen:l.d+o+k<=c'.size:=by omega
  have hl:((c'.toList.drop (l.d+o)).take k).length=k:=by simp;omega
  have hg:∀(j:Nat) (x:Value),((c'.toList.drop (l.d+o)).take k)[j]?=some x->c'[l.d+o+j]?=some x:=fun j x hx=>by
   rw[jZ]at hx;split at hx
   ·simpa[fU]using hx
   cases hx
  have iA:∀(j:Nat) (x:Value),((c'.toList.drop (l.d+o)).take k)[j]?=some x->w.cell? ⟨l.b,l.d+o+j,none⟩=some x:=fun j x hx=>by simp[World.cell?,h1,hg j x hx]
  refine⟨(c'.toList.drop (l.d+o)).take k,?_,hl,?_,iA,fun x hx=>?_⟩
  ·refine aV.tA (by rw[hl];simp;omega) fun j v hv=>?_;rw[jZ]at hv;split at hv
   ·rename_i hj;rw[fU]at hv;obtain⟨x,hx,hr⟩:=h4 (o+j) v hv;refine⟨x,?_,hr⟩;rw[jZ,av hj,fU];simpa[pE]using hx
   cases hv
  ·have:=run_loadCells_list (P:=P) w ⟨l.b,l.d+o,none⟩ ((c'.toList.drop (l.d+o)).take k) (fun j x hx=>by rw[yW];exact iA j x hx);rwa [hl]at this
  obtain⟨j,hj⟩:=nP hx;have qW:j<k:=by rw[<-hl];exact(yL.1 hj).1
  exact h5 (o+j) x (by omega) (by rw[<-pE];exact hg j x hj)
 cases hs
def TQ{t:TypeId}(rU:aV μ vs xs){k:Option Nat}(ha:BF P t=some k)(hv:aS vs o k=some v):
  ∃x,(part t ⟨xs⟩ o).run P w=.ok x w/\VR μ v x:=by
 cases k with
 |none=> simp only[aS]at hv;obtain⟨x,hx,hr⟩:=rU.get hv;exact⟨x,by simp[part,Zql ha,Result.andThen,hx],hr⟩
 |some k=>
  simp only[aS]at hv;split at hv
  ·rename_i l hl;simp only[ar]at hv;subst hv;unfold aO at hl;split at hl
   ·simp only[ar]at hl;subst hl;refine⟨.agg ⟨(xs.drop o).take k⟩,?_,⟨_,rfl,(rU.drop o).take k⟩⟩;simp[part,(Mf ha).1,(Mf ha).2,Result.andThen]
   cases hl
  cases hv
end
end Go.Mx
