/-Code of the Go model resolved for the ma-/
import Derived.Test.YtnkdakmfipgidaaGreatDoorMxCore
import Derived.Laws.MakeOwn
import Derived.Laws.CopyRow
import Derived.Laws.Rows
import Derived.Laws.Append
import Derived.Laws.Externs
import Derived.Laws.StructEq
import Derived.RowKit
set_option linter.all false
namespace Go.Mx
mutual
def cV:Value->Option V
 |.bool b=>some (.bool b)
 |.int k n=>some (.int k n)
 |.float k n=>some (.wK k n)
 |.string s=>some (.str s.data.toList)
 |.pointer none=>some .bJ
 |.slice none 0 0=>some .aa
 |.map none=>some .bQ
 |.chan none=>some .bR
 |.nilFunc=>some .bS
 |.nilIface=>some .aY
 |.agg ⟨l⟩=>match Lx l with
  |some l=>some (.agg l)
  |none=>none
 |.tuple ⟨l⟩=>match Lx l with
  |some l=>some (.aV l)
  |none=>none
 |_=>none
def Lx:List Value->Option (List V)
 |[]=>some []
 |v::vs=>match cV v,Lx vs with
  |some v,some vs=>some (v::vs)
  |_,_=>none
end
section
variable (P:Program)
def bE:Operand->Option Src
 |.tmp t=>some (.tmp t)
 |.const v=>match cV v with
  |some v=>some (.const v)
  |none=>none
 |.global g=>if g<P.globals.size then some (.const (.ptr g 0)) else none
 |.func f=>some (.const (.func f [] []))
def wL:List Operand->Option (List Src)
 |[]=>some []
 |x::xs=>match bE P x,wL xs with
  |some x,some xs=>some (x::xs)
  |_,_=>none
def vG:Option Operand->Option (Option Src)
 |none=>some none
 |some x=>match bE P x with
  |some x=>some (some x)
  |none=>none
def fz(t:TypeId):Option Nat:=(P.info? t).map (·.size)
def Ej(t:TypeId):Option Nat:=(P.info? t).map (·.bytes)
def Bk(t:TypeId):Option (Option Nat):=
 match P.underlying t with
 |some (.struct _)|some (.array _ _)=>match fz P t with
  |some n=>some (some n)
  |none=>none
 |some _=>some none
 |none=>none
def su(t:TypeId):Option V:=
 match P.info? t with
 |some i=>match i.zero with
  |some v=>cV v
  |none=>none
 |none=>none
def Tp:TypeDesc->Option PK
 |.bool=>some .bool
 |.int _=>some .int
 |.string=>some .str
 |.pointer _=>some .ptr
 |.slice _=>some .slice
 |.map _ _=>some .map
 |.func _ _ _=>some .func
 |.chan _ _=>some .chan
 |.interface _=>some .iface
 |_=>none
def Ly(q:TypeId->Option uc):List Field->Option (List (Nat×Option Nat×uc))
 |[]=>some []
 |f::fs=>if f.name= "_" then Ly q fs else
  match Bk P f.type,q f.type,Ly q fs with
  |some a,some q,some l=>some ((f.offset,a,q)::l)
  |_,_,_=>none
def ZM:TypeDesc->Bool
 |.pointer e=>(P.info? e).isSome
 |_=>true
def yz:Nat->TypeId->Option uc
 |0,_=>none
 |d+1,t=>
  match P.underlying t with
  |some (.struct fs)=>
   if P.stoodInHeld t then none else
   match Ly P (yz d) fs.toList with
   |some l=>some (.node l)
   |none=>none
  |some q=>match Tp q with
   |some k=>if ZM P q=true then some (.cL k) else none
   |none=>none
  |none=>none
def C0(place:Nat->Option (Nat×Nat)):List (Nat×Operand)->Option (List (Nat×Nat×Src))
 |[]=>some []
 |(i,x)::rest=>match place i,bE P x,C0 place rest with
  |some (o,s),some x,some l=>some ((o,s,x)::l)
  |_,_,_=>none
def Bl(t:TypeId):Option mK:=
 match P.underlying t with
 |some (.int k)=>some (.int k)
 |some .string=>some .str
 |_=>none
def IN:Operand->Bool
 |.const _=>true
 |_=>false
def Lz(fs:List Field):Option (List (Nat×Nat)):=
 match fs with
 |[]=>some []
 |f::fs=>match fz P f.type,Lz fs with
  |some s,some l=>some ((f.offset,s)::l)
  |_,_=>none
def zS(name:String):Option Ext:=
 if name= "math/bits.Add64" then some .pc
 else if name= "math/bits.Sub64" then some .pd
 else if name= "internal/abi.NoEscape" then some .same
 else if name= "internal/bytealg.IndexByteString" then some .cf
 else none
def Gh(c:Call):Option iA:=
 match c.callee with
 |.value f=>match wL P c.args.toList with
  |none=>none
  |some args=>match f with
   |.func g=>match P.funcs[g]? with
    |some fn=>if fn.body.isSome then some (.call (.const (.func g [] [])) args) else
     match zS fn.name with
     |some e=>some (.ext e args)
     |none=>none
    |none=>none
   |f=>match bE P f with
    |some f=>some (.call f args)
    |none=>none
 |.invoke _ _=>none
 |.builtin b=>
  match b,c.argTypes.toList,c.args.toList with
  |.len,[t],[x]=>
   match P.underlying t,bE P x with
   |some .string,some x=>some (.len 0 x)
   |some (.slice _),some x=>some (.len 1 x)
   |some (.map _ _),some x=>some (.len 2 x)
   |_,_=>none
  |.cap,[t],[x]=>
   match P.underlying t,bE P x with
   |some (.slice _),some x=>some (.cap x)
   |_,_=>none
  |.min,_,_=>match wL P c.args.toList with
   |some l=>some (.mn l)
   |none=>none
  |.max,_,_=>match wL P c.args.toList with
   |some l=>some (.mx l)
   |none=>none
  |.append,[t,u],[s,x]=>
   match P.underlying t with
   |some (.slice e)=>match fz P e,Ej P e,su P e,bE P s,bE P x,P.underlying u with
    |some n,some b,some z,some s,some x,some d=>if (d matches .int _)\/b=0\/z.cells.length≠n\/z.cells.all V.one=false then none else some (.append n b e z.cells s x)
    |_,_,_,_,_,_=>none
   |_=>none
  |.copy,t::_,[d,s]=>
   match P.underlying t with
   |some (.slice e)=>match fz P e,bE P d,bE P s with
    |some n,some d,some s=>some (.copy n d s)
    |_,_,_=>none
   |_=>none
  |.unsafeSliceData,[_],[s]=>(bE P s).map .Bm
  |.unsafeString,[t,_],[x,n]=>
   match P.underlying t with
   |some (.pointer e)=>match fz P e,bE P x,bE P n with
    |some 1,some x,some n=>some (.IP e x n)
    |_,_,_=>none
   |_=>none
  |_,_,_=>none
def LA:Op->Option iA
 |.move x|.assign x=>(bE P x).map .m_
 |.pick c a b=>match bE P c,bE P a,bE P b with
  |some c,some a,some b=>some (.pick c a b)
  |_,_,_=>none
 |.alloc e=>match su P e with
  |some z=>if z.cells.all V.one then some (.alloc z.cells e) else none
  |none=>none
 |.box e x=>(bE P x).map (.box e)
 |.build t parts=>match su P t with
  |none=>none
  |some z=>match P.underlying t with
   |some (.struct fs)=>match Lz P fs.toList with
    |some pl=>(C0 P (pl[·]?) parts.toList).map (.build z.cells)
    |none=>none
   |some (.array _ e)=>match fz P e with
    |some s=>(C0 P (fun i=>some (i*s,s)) parts.toList).map (.build z.cells)
    |none=>none
   |_=>none
 |.buildSlice t len parts=>match P.underlying t with
  |some (.slice e)=>match fz P e,su P e with
   |some s,some z=>if len*s > 2^24\/z.cells.length≠s\/s=0 then none else
    (C0 P (fun i=>some (i*s,s)) parts.toList).map (.fO e s len (dm z.cells len))
   |_,_=>none
  |_=>none
 |.load t a=>match Bk P t,bE P a with
  |some n,some a=>some (.load n a)
  |_,_=>none
 |.store t a x=>match fz P t,bE P a,bE P x with
  |some n,some a,some x=>some (.store n a x)
  |_,_,_=>none
 |.nilCheck x=>(bE P x).map .px
 |.binOp op t x y _=>match bE P x,bE P y with
  |some a,some b=>
   match op with
   |.eql|.neq=>match yz P 40 t with
    |some q=>if (match P.underlying t with|some (.struct _)|some (.array _ _)=>P.eqGuardType P.depth t|_=>false) then none else some (.bin op q (IN x||IN y) a b)
    |none=>none
   |_=>some (.bin op (.node []) false a b)
  |_,_=>none
 |.unOp op _ x=>(bE P x).map (.un op)
 |.convert src dst x=>match bE P x with
  |none=>none
  |some a=>match P.underlying src,P.underlying dst with
   |some (.int _),some (.int k)=>some (.dB k a)
   |some .string,some (.slice e)=>match P.underlying e with
    |some (.int .u8)=>some (.ku e a)
    |_=>none
   |some (.slice e),some .string=>match P.underlying e with
    |some (.int .u8)=>some (.py a)
    |_=>none
   |some (.pointer t),some .unsafePointer=>match fz P t with
    |some (_+1)=>some (.LB none a)
    |_=>none
   |some .unsafePointer,some (.pointer u)=>match fz P u with
    |some (z+1)=>some (.LB (some (u,z+1)) a)
    |_=>none
   |_,_=>none
 |.makeInterface t x=>match P.underlying t with
  |some (.interface _)=>none
  |some _=>(bE P x).map (.iZ t)
  |none=>none
 |.makeFunc (.func f) first iB=>match wL P first.toList,wL P iB.toList with
  |some a,some l=>some (.pz f a l)
  |_,_=>none
 |.makeMap _ none=>some .yA
 |.makeSlice t l c=>match P.underlying t with
  |some (.slice e)=>match fz P e,Ej P e,su P e,bE P l,bE P c with
   |some s,some b,some z,some l,some c=>if z.cells.all V.one then some (.kv e s b z.cells l c) else none
   |_,_,_,_,_=>none
  |_=>none
 |.slice t x lo hi mx=>match bE P x,vG P lo,vG P hi,vG P mx with
  |some x,some lo,some hi,some mx=>match P.underlying t with
   |some .string=>if mx.isSome then none else some (.cB x lo hi)
   |some (.slice e)=>(fz P e).map fun s=>.oa s x lo hi mx
   |some (.array n e)=>(fz P e).map fun s=>.ky n s x lo hi mx
   |_=>none
  |_,_,_,_=>none
 |.fieldAddr t x i=>match P.underlying t,bE P x with
  |some (.struct fs),some x=>match fs[i]? with
   |some f=>match fz P f.type with
    |some (_+1)=>some (.jE f.offset x)
    |_=>none
   |none=>none
  |_,_=>none
 |.indexAddr t x i=>match P.underlying t,bE P x,bE P i with
  |some (.array n e),some x,some i=>(fz P e).map fun s=>.iL n s x i
  |some (.slice e),some x,some i=>(fz P e).map fun s=>.bG s x i
  |_,_,_=>none
 |.index t x i=>match P.underlying t,bE P x,bE P i with
  |some .string,some x,some i=>some (.bL x i)
  |_,_,_=>none
 |.lookup t m k ok=>match P.underlying t,bE P m,bE P k with
  |some (.map kt e),some m,some k=>match Bl P kt,su P e with
   |some kd,some z=>some (.lookup kd z m k ok)
   |_,_=>none
  |_,_,_=>none
 |.mapUpdate t m k v|.insert t m k v=>match P.underlying t,bE P m,bE P k,bE P v with
  |some (.map kt _),some m,some k,some v=>(Bl P kt).map fun kd=>.wM kd m k v
  |_,_,_,_=>none
 |.range t x=>match P.underlying t,bE P x with
  |some .string,some x=>some (.kI x)
  |_,_=>none
 |.next it true=>(bE P it).map .sD
 |.extract x i=>(bE P x).map fun x=>.extract x i
 |.call c=>Gh P c
 |_=>none
def Bn(o:Op):iA:=(LA P o).getD .stop
def IQ(ops:Array Oper):Option (Nat×Bool)->Option (Option (Nat×Bool))
 |none=>some none
 |some (j,want)=>match (ops[j]?).bind (·.dst)with
  |some t=>some (some (t,want))
  |none=>none
def sE(ops:Array Oper)(o:Oper):dK:=
 match IQ ops o.guard with
 |some g=>{dst:=o.dst,op:=Bn P o.op,guard:=g}
 |none=>{dst:=o.dst,op:=.stop,guard:=none}
def Of(o:Oper)(ms:List Nat):Nat:=
 o.after.foldl (fun s e=>if Region.binds .any e then s|||2^e.on|||ms.getD e.on 0 else s) 0
def wN:List Oper->List Nat->List Nat
 |[],acc=>acc
 |o::rest,acc=>wN rest (acc++[Of o acc])
def Yzo(_:Program)(o:Oper):Option (Option Nat×Src×Option Src×V):=none
def LC:Nat->List Oper->Bool
 |_,[]=>true
 |i,o::os=>(o.after.all fun e=>!Region.binds .any e||Nat.blt e.on i)&&LC (i+1) os
def ZN(ops:Array Oper):Bool:=LC 0 ops.toList&&cQ Tq (ops.toList.map (sE P ops)) (wN ops.toList [])
def jr:Code->bW
 |.skip=>.skip
 |.region _ ops false=>match ops.toList with
  |[]=>.fY []
  |o::rest=>match Yzo P o with
   |some (d,ch,s,z)=>.zy d ch s z (rest.map (sE P ops))
   |none=>.fY ((o::rest).map (sE P ops))
 |.region _ ops true=>if ZN P ops then .fN (ops.toList.map (sE P ops)) (wN ops.toList []) else .stop
 |.seq a b=>.seq (jr a) (jr b)
 |.cond c a b=>match bE P c with
  |some c=>.cond c (jr a) (jr b)
  |none=>.stop
 |.block id c=>.block id (jr c)
 |.loop c=>.loop (jr c)
 |.rangeFunc g ps assign body=>match bE P g with
  |some g=>.jK g ps.toList (jr assign) (jr body)
  |none=>.stop
 |.exit id=>.exit id
 |.scope c=>.scope (jr c)
 |.label _=>.skip
 |.goto _=>.stop
 |.ret=>.ret
 |.refuse _=>.stop
def Gi:List ResultVar->Option (List F5)
 |[]=>some []
 |.tmp t::rest=>(Gi rest).map (.tmp t::·)
 |.cell t ty::rest=>match Bk P ty,Gi rest with
  |some n,some l=>some (.cell t n::l)
  |_,_=>none
def zR(f:FuncId):Option mV:=
 match P.funcs[f]? with
 |some fn=>match fn.body,Gi P fn.results.toList with
  |some c,some rs=>some {ntmps:=fn.ntmps,results:=rs,body:=jr P c}
  |_,_=>none
 |none=>none
end
open Go
structure L where
 b:Nat
 d:Nat
 sF:Nat
abbrev Mu:=Nat->Option L
mutual
def VR(μ:Mu):V->Value->Prop
 |.bool b,x=>x=.bool b
 |.int k n,x=>x=.int k n
 |.wK k n,x=>x=.float k n
 |.str s,x=>x=.string ⟨s.toArray⟩
 |.bJ,x=>x=.pointer none
 |.ptr i o,x=>∃l,μ i=some l/\x=.pointer (some ⟨l.b,l.d+o,none⟩)
 |.aa,x=>x=.slice none 0 0
 |.slice i o len cap sz,x=>∃l c,μ i=some l/\x=.slice (some ⟨l.b,l.d+o,none⟩) len c/\len<=c/\o+c*sz<=l.sF/\
   (∀k,cap=some k->c=k)/\(cap=none->o+c*sz=l.sF)
 |.empty,x=>∃a c,x=.slice (some a) 0 c
 |.bQ,x=>x=.map none
 |.map i,x=>∃l,μ i=some l/\x=.map (some l.b)
 |.bR,x=>x=.chan none
 |.chan i,x=>∃l,μ i=some l/\x=.chan (some l.b)
 |.func f a c,x=>∃a' c',x=.func (.func f) ⟨a'⟩ ⟨c'⟩/\aU μ a a'/\aU μ c c'
 |.yield i,x=>∃l,μ i=some l/\x=.func (.yield l.b) #[] #[]
 |.bS,x=>x=.nilFunc
 |.iface t v,x=>∃y,x=.iface t y/\VR μ v y
 |.aY,x=>x=.nilIface
 |.agg vs,x=>∃a,x=.agg ⟨a⟩/\aU μ vs a
 |.aV vs,x=>∃a,x=.tuple ⟨a⟩/\aU μ vs a
def aU(μ:Mu):List V->List Value->Prop
 |[],xs=>xs=[]
 |v::vs,xs=>∃y ys,xs=y::ys/\VR μ v y/\aU μ vs ys
end
mutual
def VR.mono{μ μ':Mu}(h:∀i l,μ i=some l->μ' i=some l):∀(v:V) (x:Value),VR μ v x->VR μ' v x
 |.bool _,_,hx=>by simpa[VR]using hx
 |.int _ _,_,hx=>by simpa[VR]using hx
 |.wK _ _,_,hx=>by simpa[VR]using hx
 |.str _,_,hx=>by simpa[VR]using hx
 |.bJ,_,hx=>by simpa[VR]using hx
 |.ptr _ _,_,hx=>by simp only[VR]at*;obtain⟨l,h1,h2⟩:=hx;exact⟨l,h _ _ h1,h2⟩
 |.aa,_,hx=>by simpa[VR]using hx
 |.slice _ _ _ _ _,_,hx=>by simp only[VR]at*;obtain⟨l,c,h1,h2⟩:=hx;exact⟨l,c,h _ _ h1,h2⟩
 |.empty,_,hx=>by simpa[VR]using hx
 |.bQ,_,hx=>by simpa[VR]using hx
 |.map _,_,hx=>by simp only[VR]at*;obtain⟨l,h1,h2⟩:=hx;exact⟨l,h _ _ h1,h2⟩
 |.bR,_,hx=>by simpa[VR]using hx
 |.chan _,_,hx=>by simp only[VR]at*;obtain⟨l,h1,h2⟩:=hx;exact⟨l,h _ _ h1,h2⟩
 |.func _ a c,_,hx=>by
  simp only[VR]at*;obtain⟨a',c',h1,h2,h3⟩:=hx
  exact⟨a',c',h1,aU.mono h a a' h2,aU.mono h c c' h3⟩
 |.yield _,_,hx=>by simp only[VR]at*;obtain⟨l,h1,h2⟩:=hx;exact⟨l,h _ _ h1,h2⟩
 |.bS,_,hx=>by simpa[VR]using hx
 |.iface _ v,_,hx=>by simp only[VR]at*;obtain⟨y,h1,h2⟩:=hx;exact⟨y,h1,VR.mono h v y h2⟩
 |.aY,_,hx=>by simpa[VR]using hx
 |.agg vs,_,hx=>by simp only[VR]at*;obtain⟨a,h1,h2⟩:=hx;exact⟨a,h1,aU.mono h vs a h2⟩
 |.aV vs,_,hx=>by simp only[VR]at*;obtain⟨a,h1,h2⟩:=hx;exact⟨a,h1,aU.mono h vs a h2⟩
def aU.mono{μ μ':Mu}(h:∀i l,μ i=some l->μ' i=some l):∀(vs:List V) (xs:List Value),aU μ vs xs->aU μ' vs xs
 |[],_,hx=>by simpa[aU]using hx
 |v::vs,_,hx=>by
  simp only[aU]at*
  obtain⟨y,ys,h1,h2,h3⟩:=hx
  exact⟨y,ys,h1,VR.mono h v y h2,aU.mono h vs ys h3⟩
end
section
variable {μ:Mu}
def kb{v:V}{vs:List V}{xs:List Value}:aU μ (v::vs) xs↔∃y ys,xs=y::ys/\VR μ v y/\aU μ vs ys:=by simp[aU]
def aU.length:∀{vs:List V} {xs:List Value},aU μ vs xs->xs.length=vs.length
 |[],_,h=>by simp[aU]at h;simp[h]
 |v::vs,_,h=>by
  obtain⟨y,ys,rfl,_,h3⟩:=kb.1 h
  simp[aU.length h3]
def aU.get:∀{vs:List V} {xs:List Value},aU μ vs xs->∀{i:Nat} {v:V},vs[i]?=some v->∃x,xs[i]?=some x/\VR μ v x
 |[],_,_,i,v,hv=>by simp at hv
 |w::vs,_,h,i,v,hv=>by
  obtain⟨y,ys,rfl,h2,h3⟩:=kb.1 h
  cases i with
  |zero=>simp at hv;subst hv;exact⟨y,by simp,h2⟩
  |succ i=>simpa using aU.get h3 (i:=i) (by simpa using hv)
def aU.append:∀{vs ws:List V} {xs ys:List Value},aU μ vs xs->aU μ ws ys->aU μ (vs++ws) (xs++ys)
 |[],ws,_,ys,h,h'=>by simp[aU]at h;simpa[h]using h'
 |v::vs,ws,_,ys,h,h'=>by
  obtain⟨y,zs,rfl,h2,h3⟩:=kb.1 h
  exact kb.2 ⟨y,zs++ys,rfl,h2,aU.append h3 h'⟩
def aU.take:∀{vs:List V} {xs:List Value} (n:Nat),aU μ vs xs->aU μ (vs.take n) (xs.take n)
 |[],_,n,h=>by simp[aU]at h;simp[h,aU]
 |v::vs,_,n,h=>by
  obtain⟨y,zs,rfl,h2,h3⟩:=kb.1 h
  cases n with
  |zero=>simp[aU]
  |succ n=>exact kb.2 ⟨y,zs.take n,rfl,h2,aU.take n h3⟩
def aU.drop:∀{vs:List V} {xs:List Value} (n:Nat),aU μ vs xs->aU μ (vs.drop n) (xs.drop n)
 |[],_,n,h=>by simp[aU]at h;simp[h,aU]
 |v::vs,_,n,h=>by
  cases n with
  |zero=>simpa using h
  |succ n=>
   obtain⟨y,zs,rfl,h2,h3⟩:=kb.1 h
   simpa using aU.drop n h3
def aU.sG:∀{vs:List V} {xs:List Value},xs.length=vs.length->(∀(i:Nat) (v:V),vs[i]?=some v->∃x,xs[i]?=some x/\VR μ v x)->aU μ vs xs
 |[],xs,hl,_=>by simp at hl;simp[aU,hl]
 |v::vs,[],hl,_=>by simp at hl
 |v::vs,x::xs,hl,h=>by
  refine kb.2 ⟨x,xs,rfl,?_,aU.sG (by simpa using hl) fun i u hu=>?_⟩
  ·obtain⟨y,h1,h2⟩:=h 0 v (by simp)
   simp at h1;subst h1;exact h2
  ·simpa using h (i+1) u (by simpa using hu)
def VR.one{v:V}{x:Value}(h:VR μ v x)(hv:v.one=true):x.oneCell'=true:=by
 cases v<;>simp only[VR]at h<;>simp only[V.one,iy]at hv;case bool=>subst h;rfl
 case int=>subst h;rfl
 case wK=>subst h;rfl
 case str=>subst h;rfl
 case bJ=>subst h;rfl
 case ptr=>obtain⟨l,_,rfl⟩:=h;rfl
 case aa=>subst h;rfl
 case slice=>obtain⟨l,c,_,rfl,_⟩:=h;rfl
 case empty=>obtain⟨a,c,rfl⟩:=h;rfl
 case bQ=>subst h;rfl
 case map=>obtain⟨l,_,rfl⟩:=h;rfl
 case bR=>subst h;rfl
 case chan=>obtain⟨l,_,rfl⟩:=h;rfl
 case func=>obtain⟨a,c,rfl,_⟩:=h;rfl
 case yield=>obtain⟨l,_,rfl⟩:=h;rfl
 case bS=>subst h;rfl
 case iface=>obtain⟨y,rfl,_⟩:=h;rfl
 case aY=>subst h;rfl
def VR.cells{v:V}{x:Value}(h:VR μ v x):aU μ v.cells x.cells.toList:=by
 have one:∀y:Value,x=y->(y.cells=#[y])->v.cells=[v]->aU μ v.cells x.cells.toList:=fun y e hc hv=>by subst e;rw[hc,hv];exact kb.2 ⟨_,[],rfl,h,by simp[aU]⟩
 have h0:=h;cases v<;>simp only[VR]at h;case bool=>exact one _ h rfl rfl
 case int=>exact one _ h rfl rfl
 case wK=>exact one _ h rfl rfl
 case str=>exact one _ h rfl rfl
 case bJ=>exact one _ h rfl rfl
 case ptr=>obtain⟨l,_,e⟩:=h;exact one _ e rfl rfl
 case aa=>exact one _ h rfl rfl
 case slice=>obtain⟨l,c,_,e,_⟩:=h;exact one _ e rfl rfl
 case empty=>obtain⟨a,c,e⟩:=h;exact one _ e rfl rfl
 case bQ=>exact one _ h rfl rfl
 case map=>obtain⟨l,_,e⟩:=h;exact one _ e rfl rfl
 case bR=>exact one _ h rfl rfl
 case chan=>obtain⟨l,_,e⟩:=h;exact one _ e rfl rfl
 case func=>obtain⟨a,c,e,_⟩:=h;exact one _ e rfl rfl
 case yield=>obtain⟨l,_,e⟩:=h;exact one _ e rfl rfl
 case bS=>exact one _ h rfl rfl
 case iface=>obtain⟨y,e,_⟩:=h;exact one _ e rfl rfl
 case aY=>exact one _ h rfl rfl
 case agg vs=>obtain⟨a,rfl,h⟩:=h;exact h
 case aV vs=>obtain⟨a,e,_⟩:=h;exact one _ e rfl rfl
end
def RR(μ:Mu)(r:T V)(n:Nat)(tmps:Array Value):Prop:=
 tmps.size=n/\∀t v,r.get t=some v->∃x,tmps[t]?=some x/\VR μ v x
def RR.mono{μ μ':Mu}{r:T V}{n:Nat}{tmps:Array Value}(h:∀i l,μ i=some l->μ' i=some l)(hr:RR μ r n tmps):RR μ' r n tmps:=
 ⟨hr.1,fun t v hv=>let ⟨x,h1,h2⟩:=hr.2 t v hv;⟨x,h1,VR.mono h v x h2⟩⟩
def RR.set{μ:Mu}{r:T V}{n:Nat}{tmps:Array Value}(hr:RR μ r n tmps){d:Nat}(hd:d<n){v:V}{x:Value}(hv:VR μ v x):
  RR μ (r.set d v) n (tmps.setIfInBounds d x):=by
 refine⟨by simp[hr.1],fun t u hu=>?_⟩;rw[T.ae]at hu;by_cases e:t=d
 ·subst e;simp at hu;subst hu;exact⟨x,by simp[hr.1,hd],hv⟩
 simp[e]at hu;obtain⟨y,h1,h2⟩:=hr.2 t u hu;exact⟨y,by rw[Tr (Ne.symm e)];exact h1,h2⟩
def Bo:Ex->Option Code
 |.normal=>none
 |.exit id=>some (.exit id)
 |.ret=>some .ret
def js(μ:Mu):List (V×V)->List MapEntry->Nat->Prop
 |[],xs,_=>xs=[]
 |(k,v)::es,xs,i=>∃e ys,xs=e::ys/\VR μ k e.key/\VR μ v e.val/\e.born=i/\js μ es ys (i+1)
def js.mono{μ μ':Mu}(h:∀i l,μ i=some l->μ' i=some l):∀(es:List (V×V)) (xs:List MapEntry) (i:Nat),js μ es xs i->js μ' es xs i
 |[],_,_,hx=>hx
 |(k,v)::es,_,i,hx=>by
  obtain⟨e,ys,h1,h2,h3,h4,h5⟩:=hx
  exact⟨e,ys,h1,VR.mono h k _ h2,VR.mono h v _ h3,h4,js.mono h es ys (i+1) h5⟩
def OM(P:Program)(μ:Mu)(w:World):O->L->Prop
 |.cells c e rw,l=>∃(c':Array Value) (lo hi:Nat),w.heap[l.b]?=some (.cells c' e (lo,hi))/\l.d+l.sF<=c'.size/\c.length<=l.sF/\
   (∀(j:Nat) (v:V),c[j]?=some v->∃x,c'[l.d+j]?=some x/\VR μ v x)/\(∀(j:Nat) (x:Value),j<l.sF->c'[l.d+j]?=some x->x.oneCell'=true)/\(rw=true->l.d=0/\∀j,j<l.sF->¬(lo<=l.d+j/\l.d+j<hi))
 |.map es,l=>∃iM:List MapEntry,w.heap[l.b]?=some (.map ⟨iM⟩ iM.length)/\js μ es iM 0
 |.chan cap buf,l=>∃(Ek:List Value) (s r:Nat),w.heap[l.b]?=some (.chan cap ⟨Ek⟩ false s r false)/\aU μ buf Ek
 |.eL s pos,l=>w.heap[l.b]?=some (.stringIter ⟨s.toArray⟩ pos)/\l.d=0
 |.loop R,l=>∃fn tmps gK gO ld,w.heap[l.b]?=some (.loop {state:=R.st,pending:=R.fu.bind Bo,fn:=fn,tmps:=tmps,params:=⟨R.ps⟩,assign:=gK,body:=gO,defers:=ld.b})/\
   RR μ R.r R.n tmps/\jr P gK=R.assign/\jr P gO=R.body/\μ R.defs=some ld
 |.defs o,l=>w.heap[l.b]?=some (.deferred (if o then some [] else none))
 |.dead,_=>True
def OM.mono{P:Program}{μ μ':Mu}{w:World}(h:∀i l,μ i=some l->μ' i=some l){o:O}{l:L}(ho:OM P μ w o l):OM P μ' w o l:=by
 cases o with
 |cells c e rw=> obtain⟨c',lo,hi,h1,h2,h3,h4,h5⟩:=ho;exact⟨c',lo,hi,h1,h2,h3,fun j v hv=>let ⟨x,a,b⟩:=h4 j v hv;⟨x,a,VR.mono h v x b⟩,h5⟩
 |map es=>obtain⟨iM,h1,h2⟩:=ho;exact⟨iM,h1,js.mono h _ _ _ h2⟩
 |chan cap buf=>obtain⟨b',s,r,h1,h2⟩:=ho;exact⟨b',s,r,h1,aU.mono h _ _ h2⟩
 |eL s pos=>simp only[OM]at*;exact ho
 |loop R=>obtain⟨fn,tmps,gK,gO,ld,h1,h2,h3,h4,h5⟩:=ho;exact⟨fn,tmps,gK,gO,ld,h1,h2.mono h,h3,h4,h _ _ h5⟩
 |defs b=>simp only[OM]at*;exact ho
 |dead=>trivial
def OM.congr{P:Program}{μ:Mu}{w w':World}{o:O}{l:L}(hb:w'.heap[l.b]?=w.heap[l.b]?)(ho:OM P μ w o l):OM P μ w' o l:=by
 cases o with
 |cells c e rw=>obtain⟨c',lo,hi,h1,h2⟩:=ho;exact⟨c',lo,hi,hb.trans h1,h2⟩
 |map es=>obtain⟨iM,h1,h2⟩:=ho;exact⟨iM,hb.trans h1,h2⟩
 |chan cap buf=>obtain⟨b',s,r,h1,h2⟩:=ho;exact⟨b',s,r,hb.trans h1,h2⟩
 |eL s pos=>exact⟨hb.trans ho.1,ho.2⟩
 |loop R=>obtain⟨fn,tmps,gK,gO,ld,h1,h2⟩:=ho;exact⟨fn,tmps,gK,gO,ld,hb.trans h1,h2⟩
 |defs b=>exact hb.trans ho
 |dead=>trivial
structure bn (P:Program) (μ:Mu) (w:World) (st:St):Prop where
 dt:∀i l,μ i=some l->i<st.n/\l.b<w.heap.size
 obj:∀i l,μ i=some l->∃o,st.h.get i=some o/\OM P μ w o l
 inj:∀i j l l' o o',μ i=some l->μ j=some l'->i≠j->st.h.get i=some o->st.h.get j=some o'->o.wr=true->o'.live=true->l.b≠l'.b
 iN:∀g,g<P.globals.size->∃t,μ g=some ⟨g,0,t⟩
structure Og (μ:Mu) (ws:List Nat) (w w':World):Prop where
 os:w'.os=w.os
 tape:w'.tape=w.tape
 output:w'.output=w.output
 size:w.heap.size<=w'.heap.size
 block:∀b,b<w.heap.size->(∀i∈ws,∀l,μ i=some l->l.b≠b)->w'.heap[b]?=w.heap[b]?
structure bI (P:Program) (μ:Mu) (w:World) (st:St) (μ':Mu) (w':World) (aA:St) (ws:List Nat):Prop where
 hr:bn P μ' w' aA
 ext:∀i,i<st.n->μ' i=μ i
 iG:st.n<=aA.n
 wl:aA.w=ws++st.w
 eF:Og μ ws w w'
 new:∀i l,st.n<=i->μ' i=some l->w.heap.size<=l.b\/∃j∈ws,j<st.n/\∃lj oj,μ j=some lj/\lj.b=l.b/\st.h.get j=some oj/\oj.wr=true
 ad:∀i,i<st.n->i∉ws->aA.h.get i=st.h.get i
 grow:∀i o',i<st.n->aA.h.get i=some o'->∃o,st.h.get i=some o/\(o'.wr=true->o.wr=true)/\(o'.live=true->o.live=true)
 full:∀i,st.n<=i->i<aA.n->∃l,μ' i=some l
 Ai:∀i∈ws,i<st.n->∃o,st.h.get i=some o/\o.wr=true
def bn.IS{P:Program}{μ μ':Mu}{w:World}{st:St}(h:bn P μ w st)(he:∀i,i<st.n->μ' i=μ i):∀i l,μ i=some l->μ' i=some l:=
 fun i l hi=>(he i (h.dt i l hi).1).trans hi
def Og.refl(μ:Mu)(ws:List Nat)(w:World):Og μ ws w w:=⟨rfl,rfl,rfl,aO _,fun _ _ _=>rfl⟩
def bI.refl{P:Program}{μ:Mu}{w:World}{st:St}(h:bn P μ w st):bI P μ w st μ w st []:=
 ⟨h,fun _ _=>rfl,aO _,rfl,Og.refl μ [] w,fun i l hi hl=>absurd (h.dt i l hl).1 (by omega),fun _ _ _=>rfl,fun _ o' _ ho=>⟨o',ho,id,id⟩,fun _ h1 h2=>absurd h2 (by omega),fun _ hi=>absurd hi (by simp)⟩
def bI.trans{P:Program}{μ μ1 μ2:Mu}{w w1 w2:World}{st bX fb:St}{ws Ts:List Nat}
  (h1:bI P μ w st μ1 w1 bX ws) (h2:bI P μ1 w1 bX μ2 w2 fb Ts):bI P μ w st μ2 w2 fb (Ts++ws) where
 hr:=h2.hr
 ext:=fun i hi=>(h2.ext i (fm hi h1.iG)).trans (h1.ext i hi)
 iG:=j_ h1.iG h2.iG
 wl:=by rw[h2.wl,h1.wl,uG]
 eF:=by
  refine⟨h2.eF.os.trans h1.eF.os,h2.eF.tape.trans h1.eF.tape,h2.eF.output.trans h1.eF.output,j_ h1.eF.size h2.eF.size,fun b hb dM=>?_⟩
  rw[h2.eF.block b (fm hb h1.eF.size) fun i hi l hl=>?_,h1.eF.block b hb fun i hi l hl=>dM i (by simp[hi]) l hl]
  by_cases CG:i<st.n
  ·exact dM i (by simp[hi]) l (by rw[<-h1.ext i CG];exact hl)
  ·rcases h1.new i l (by omega) hl with h|⟨j,hj,_,lj,oj,vJ,vw,_⟩
   ·omega
   ·rw[<-vw];exact dM j (by simp[hj]) lj vJ
 new:=fun i l hi hl=>by
  by_cases CG:i<bX.n
  ·rcases h1.new i l hi (by rw[<-h2.ext i CG];exact hl)with h|⟨j,hj,r⟩
   ·exact .inl h
   ·exact .inr ⟨j,by simp[hj],r⟩
  ·rcases h2.new i l (by omega) hl with h|⟨j,hj,CT,lj,oj,vJ,vw,IT,how⟩
   ·exact .inl (j_ h1.eF.size h)
   ·by_cases hjn':j<st.n
    ·obtain⟨o,ho,hw,_⟩:=h1.grow j oj hjn' IT
     exact .inr ⟨j,by simp[hj],hjn',lj,o,by rw[<-h1.ext j hjn'];exact vJ,vw,ho,hw how⟩
    ·rcases h1.new j lj (by omega) vJ with h|⟨j',Oh,r⟩
     ·exact .inl (by omega)
     ·obtain⟨r1,lj',oj',r2,r3,r4⟩:=r
      exact .inr ⟨j',by simp[Oh],r1,lj',oj',r2,r3.trans vw,r4⟩
 ad:=fun i hi dM=>by
  simp only[jB,not_or]at dM
  rw[h2.ad i (fm hi h1.iG) dM.1,h1.ad i hi dM.2]
 grow:=fun i o' hi ho=>by
  obtain⟨o1,C1,a1,b1⟩:=h2.grow i o' (fm hi h1.iG) ho
  obtain⟨o,ho,a,b⟩:=h1.grow i o1 hi C1
  exact⟨o,ho,a∘a1,b∘b1⟩
 full:=fun i h_ mG=>by
  by_cases hi:i<bX.n
  ·obtain⟨l,hl⟩:=h1.full i h_ hi
   exact⟨l,(h2.ext i hi).trans hl⟩
  ·exact h2.full i (by omega) mG
 Ai:=fun i hi hn=>by
  simp only[jB]at hi
  rcases hi with hi|hi
  ·obtain⟨o1,C1,Ld⟩:=h2.Ai i hi (fm hn h1.iG)
   obtain⟨o,ho,a,_⟩:=h1.grow i o1 hn C1
   exact⟨o,ho,a Ld⟩
  ·exact h1.Ai i hi hn
def bn.drew{P:Program}{μ:Mu}{w:World}{st:St}(h:bn P μ w st)(n:Nat):bn P μ {w with drawn:=n} st:=
 ⟨h.dt,fun i l hl=>let ⟨o,h1,h2⟩:=h.obj i l hl;⟨o,h1,OM.congr (w:=w) rfl h2⟩,h.inj,h.iN⟩
def bI.alloc{P:Program}{μ:Mu}{w:World}{st:St}(h:bn P μ w st)(o:O)(ob:Obj)(d sF:Nat)
  (ho:OM P (fun i=>if i=st.n then some ⟨w.heap.size,d,sF⟩ else μ i) {w with heap:=w.heap.push ob} o ⟨w.heap.size,d,sF⟩):
  bI P μ w st (fun i=>if i=st.n then some ⟨w.heap.size,d,sF⟩ else μ i) {w with heap:=w.heap.push ob} (st.alloc o) []:=by
 have dN:∀i l,μ i=some l->(fun i=>if i=st.n then some (⟨w.heap.size,d,sF⟩:L) else μ i) i=some l:=fun i l hl=>by have:=(h.dt i l hl).1;simp only;rw[ak (by omega)];exact hl
 have hold:∀b,b<w.heap.size->({w with heap:=w.heap.push ob}:World).heap[b]?=w.heap[b]?:=fun b hb=>by show (w.heap.push ob)[b]?=_;rw[Array.getElem?_push,ak (by omega)]
 refine⟨⟨fun i l hl=>?_,fun i l hl=>?_,fun i j l l' oi oj hi hj aW C1 zz hw qG=>?_,fun g hg=>let ⟨t,ht⟩:=h.iN g hg;⟨t,dN g _ ht⟩⟩,fun i hi=>?_,by simp[St.alloc],rfl,⟨rfl,rfl,rfl,by simp,fun b hb _=>hold b hb⟩,
  fun i l hi hl=>?_,fun i hi _=>?_,fun i o' hi yB=>?_,fun i h1 h2=>⟨⟨w.heap.size,d,sF⟩,by simp only[St.alloc]at h2;show (if i=st.n then some (⟨w.heap.size,d,sF⟩:L) else μ i)=_;rw[ar (by omega)]⟩,fun _ hi=>absurd hi (by simp)⟩
 ·by_cases e:i=st.n
  ·simp only[e,if_true,aq]at hl;subst hl;simp[St.alloc,e]
  simp only[e,if_false]at hl;have:=h.dt i l hl;simp[St.alloc];omega
 ·by_cases e:i=st.n
  ·simp only[e,if_true,aq]at hl;subst hl;exact⟨o,by simp[St.alloc,T.ae,e],ho⟩
  simp only[e,if_false]at hl;obtain⟨o1,h1,h2⟩:=h.obj i l hl;exact⟨o1,by simp[St.alloc,T.ae,e,h1],(h2.mono dN).congr (hold l.b (h.dt i l hl).2)⟩
 ·by_cases e:i=st.n
  ·by_cases e':j=st.n
   ·exact absurd (e.trans e'.symm) aW
   simp only[e,if_true,aq]at hi;simp only[e',if_false]at hj;subst hi;have:=(h.dt j l' hj).2;simp only;omega
  simp only[e,if_false]at hi;by_cases e':j=st.n
  ·simp only[e',if_true,aq]at hj;subst hj;have:=(h.dt i l hi).2;simp only;omega
  simp only[e',if_false]at hj;simp only[St.alloc,T.ae,e,e',if_false]at C1 zz;exact h.inj i j l l' oi oj hi hj aW C1 zz hw qG
 ·rw[ak (by omega)]
 ·by_cases e:i=st.n
  ·simp only[e,if_true,aq]at hl;subst hl;exact .inl (aO _)
  simp only[e,if_false]at hl;exact absurd (h.dt i l hl).1 (by omega)
 ·simp only[St.alloc,T.ae];rw[ak (by omega)]
 simp only[St.alloc,T.ae]at yB;rw[ak (by omega)]at yB;exact⟨o',yB,id,id⟩
def bI.write{P:Program}{μ:Mu}{w w':World}{st:St}(h:bn P μ w st){i:Nat}{l:L}{o o':O}(hi:μ i=some l)(ho:st.h.get i=some o)(hw:o.wr=true)
  (Bp:w'.os=w.os) (ZO:w'.tape=w.tape) (ZP:w'.output=w.output) (mL:w'.heap.size=w.heap.size) (sH:∀b,b≠l.b->w'.heap[b]?=w.heap[b]?) (yB:OM P μ w' o' l):
  bI P μ w st μ w' (st.write i o') [i]:=by
 have yC:o.live=true:=by cases o<;>simp_all [O.wr,O.live]
 refine⟨⟨fun j lj hj=>?_,fun j lj hj=>?_,fun j k lj lk oj ok hj hk aW h1 h2 LD fl=>?_,h.iN⟩,fun _ _=>rfl,aO _,rfl,⟨Bp,ZO,ZP,by omega,fun b _ dM=>sH b ?_⟩,
  fun j lj hn hj=>?_,fun j _ dM=>?_,fun j oj hn hj=>?_,fun j h1 h2=>absurd h2 (by simp only[St.write];omega),fun j hj _=>by simp only[uv]at hj;subst hj;exact⟨o,ho,hw⟩⟩
 ·have:=h.dt j lj hj;simp[St.write];omega
 ·by_cases e:j=i
  ·subst e;rw[hi]at hj;cases hj;exact⟨o',by simp[St.write,T.ae],yB⟩
  obtain⟨oj,h1,h2⟩:=h.obj j lj hj;refine⟨oj,by simp[St.write,T.ae,e,h1],?_⟩;cases hl:oj.live
  ·cases oj<;>simp[O.live]at hl;trivial
  exact h2.congr (sH lj.b (Ne.symm (h.inj i j l lj o oj hi hj (Ne.symm e) ho h1 hw hl)))
 ·simp only[St.write,T.ae]at h1 h2;by_cases e:j=i
  ·subst e;rw[hi]at hj;cases hj;rw[ak (Ne.symm aW)]at h2;exact h.inj j k l lk o ok hi hk aW ho h2 hw fl
  rw[ak e]at h1;by_cases e':k=i
  ·subst e';exact h.inj j k lj lk oj o hj hk aW h1 ho LD yC
  rw[ak e']at h2;exact h.inj j k lj lk oj ok hj hk aW h1 h2 LD fl
 ·exact Ne.symm (dM i (by simp) l hi)
 ·exact absurd (h.dt j lj hj).1 (by omega)
 ·simp only[uv]at dM;simp[St.write,T.ae,dM]
 simp only[St.write,T.ae]at hj;by_cases e:j=i
 ·subst e;exact⟨o,ho,fun _=>hw,fun _=>yC⟩
 rw[ak e]at hj;exact⟨oj,hj,id,id⟩
mutual
def Tt(μ:Mu):∀(x:Value) (v:V),cV x=some v->VR μ v x
 |.bool b,v,h=>by simp only[cV,aq]at h;subst h;simp[VR]
 |.int k n,v,h=>by simp only[cV,aq]at h;subst h;simp[VR]
 |.float k n,v,h=>by simp only[cV,aq]at h;subst h;simp[VR]
 |.complex ..,v,h=>by simp[cV]at h
 |.string s,v,h=>by simp only[cV,aq]at h;subst h;simp[VR]
 |.pointer none,v,h=>by simp only[cV,aq]at h;subst h;simp[VR]
 |.pointer (some _),v,h=>by simp[cV]at h
 |.slice none 0 0,v,h=>by simp only[cV,aq]at h;subst h;simp[VR]
 |.slice none 0 (c+1),v,h=>by simp[cV]at h
 |.slice none (n+1) c,v,h=>by simp[cV]at h
 |.slice (some _) _ _,v,h=>by simp[cV]at h
 |.map none,v,h=>by simp only[cV,aq]at h;subst h;simp[VR]
 |.map (some _),v,h=>by simp[cV]at h
 |.chan none,v,h=>by simp only[cV,aq]at h;subst h;simp[VR]
 |.chan (some _),v,h=>by simp[cV]at h
 |.func ..,v,h=>by simp[cV]at h
 |.nilFunc,v,h=>by simp only[cV,aq]at h;subst h;simp[VR]
 |.iface ..,v,h=>by simp[cV]at h
 |.nilIface,v,h=>by simp only[cV,aq]at h;subst h;simp[VR]
 |.agg ⟨l⟩,v,h=>by
  simp only[cV]at h
  split at h
  ·rename_i l' hl
   simp only[aq]at h;subst h
   exact⟨l,rfl,ZQ μ l l' hl⟩
  ·cases h
 |.tuple ⟨l⟩,v,h=>by
  simp only[cV]at h
  split at h
  ·rename_i l' hl
   simp only[aq]at h;subst h
   exact⟨l,rfl,ZQ μ l l' hl⟩
  ·cases h
def ZQ(μ:Mu):∀(xs:List Value) (vs:List V),Lx xs=some vs->aU μ vs xs
 |[],vs,h=>by simp only[Lx,aq]at h;subst h;simp[aU]
 |x::xs,vs,h=>by
  simp only[Lx]at h
  split at h
  ·rename_i v nb hv IU
   simp only[aq]at h;subst h
   exact⟨x,xs,rfl,Tt μ x v hv,ZQ μ xs nb IU⟩
  ·cases h
end
section
variable {P:Program} {μ:Mu} {w:World} {st:St} {r:T V} {n:Nat} {a:Act}
def di(hh:bn P μ w st)(hr:RR μ r n a.tmps){x:Operand}{s:Src}(hc:bE P x=some s){v:V}(hv:s.ev r=some v):VR μ v (a.eval x):=by
 cases x with
 |tmp t=> simp only[bE,aq]at hc;subst hc;obtain⟨y,h1,h2⟩:=hr.2 t v hv;simpa[Act.eval,IV,h1]using h2
 |const c=>
  simp only[bE]at hc;split at hc
  ·rename_i v' IW;simp only[aq]at hc;subst hc;simp only[Src.ev,aq]at hv;subst hv;exact Tt μ c v' IW
  cases hc
 |global g=>
  simp only[bE]at hc;split at hc
  ·rename_i hg;simp only[aq]at hc;subst hc;simp only[Src.ev,aq]at hv;subst hv;obtain⟨t,ht⟩:=hh.iN g hg;exact⟨_,ht,rfl⟩
  cases hc
 |func f=> simp only[bE,aq]at hc;subst hc;simp only[Src.ev,aq]at hv;subst hv;exact⟨[],[],rfl,by simp[aU],by simp[aU]⟩
def IX(hh:bn P μ w st)(hr:RR μ r n a.tmps):∀{xs:List Operand} {ss:List Src},wL P xs=some ss->∀{vs:List V},vL r ss=some vs->aU μ vs (xs.map a.eval)
 |[],ss,hc,vs,hv=>by
  simp only[wL,aq]at hc;subst hc
  simp only[vL,aq]at hv;subst hv
  simp[aU]
 |x::xs,ss,hc,vs,hv=>by
  simp only[wL]at hc
  split at hc
  ·rename_i s ss' h1 h2
   simp only[aq]at hc;subst hc
   simp only[vL]at hv
   split at hv
   ·rename_i v nb h3 h4
    simp only[aq]at hv;subst hv
    exact⟨_,_,rfl,di hh hr h1 h3,IX hh hr h2 h4⟩
   ·cases hv
  ·cases hc
def Yhn(hh:bn P μ w st)(hr:RR μ r n a.tmps){x:Option Operand}{s:Option Src}(hc:vG P x=some s){v:Option V}(hv:aB r s=some v):
  (v=none/\x=none)\/∃v' x',v=some v'/\x=some x'/\VR μ v' (a.eval x'):=by
 cases x with
 |none=> simp only[vG,aq]at hc;subst hc;simp only[aB,aq]at hv;subst hv;exact .inl ⟨rfl,rfl⟩
 |some x=>
  simp only[vG]at hc;split at hc
  ·rename_i s' h1;simp only[aq]at hc;subst hc;simp only[aB]at hv;split at hv
   ·rename_i v' h2;simp only[aq]at hv;subst hv;exact .inr ⟨v',x,rfl,rfl,di hh hr h1 h2⟩
   cases hv
  cases hc
def a_(P:Program)(μ:Mu)(w:World)(st:St)(s:Sem Next)(v:V)(aA:St):Prop:=
 ∃nx x w' μ' ws,s.run P w=.ok nx w'/\(nx=.value x\/(nx=.skip/\x=undef))/\VR μ' v x/\bI P μ w st μ' w' aA ws
def a_.value(hh:bn P μ w st){s:Sem Value}{v:V}{x:Value}(hs:s.run P w=.ok x w)(hv:VR μ v x):
  a_ P μ w st (do pure (.value (<-s))) v st:=
 ⟨.value x,x,w,μ,[],by simp[hs,Result.andThen],.inl rfl,hv,bI.refl hh⟩
def a_.Oi(hh:bn P μ w st){v:V}{x:Value}(hv:VR μ v x):a_ P μ w st (pure (.value x)) v st:=
 ⟨.value x,x,w,μ,[],by simp,.inl rfl,hv,bI.refl hh⟩
def ZR{t:TypeId}(h:Bk P t=some none):(isAgg t).run P w=.ok false w:=by
 unfold Bk at h;split at h
 ·split at h<;>simp at h
 ·split at h<;>simp at h
 ·rename_i d h1 h2 hd;cases d<;>simp[isAgg,run_underlying hd]<;>simp_all
 cases h
def LF{t:TypeId}{k:Nat}(h:Bk P t=some (some k)):(isAgg t).run P w=.ok true w/\(sizeOf t).run P w=.ok k w:=by
 unfold Bk fz at h;split at h
 ·rename_i fs hd;split at h
  ·rename_i n hn;simp only[aq]at h;subst h;simp only[ks]at hn;obtain⟨i,hi,rfl⟩:=hn;exact⟨by simp[isAgg,run_underlying hd],by simp[sizeOf,typeInfo,hi]⟩
  cases h
 ·rename_i k' e hd;split at h
  ·rename_i n hn;simp only[aq]at h;subst h;simp only[ks]at hn;obtain⟨i,hi,rfl⟩:=hn;exact⟨by simp[isAgg,run_underlying hd],by simp[sizeOf,typeInfo,hi]⟩
  cases h
 ·cases h
 cases h
def zA{t:TypeId}{k:Nat}(h:fz P t=some k):(sizeOf t).run P w=.ok k w:=by unfold fz at h;simp only[ks]at h;obtain⟨i,hi,rfl⟩:=h;simp[sizeOf,typeInfo,hi]
def Yex{t:TypeId}{v:V}(h:su P t=some v):∃x,(zeroValue t).run P w=.ok x w/\∀μ,VR μ v x:=by
 unfold su at h;split at h
 ·rename_i i hi;split at h
  ·rename_i x hx;exact⟨x,by simp[zeroValue,typeInfo,hi,hx],fun μ=>Tt μ x v h⟩
  cases h
 cases h
def yD(b o j:Nat):(⟨b,o,none⟩:Addr).add j=⟨b,o+j,none⟩:=by unfold Addr.add;split<;>simp_all
def OM.cell{c:List V}{e:TypeId}{rw:Bool}{l:L}(h:OM P μ w (.cells c e rw) l){j:Nat}{v:V}(hv:c[j]?=some v):
  ∃x,w.cell? ⟨l.b,l.d+j,none⟩=some x/\VR μ v x:=by obtain⟨c',lo,hi,h1,_,_,h4,_⟩:=h;obtain⟨x,hx,hr⟩:=h4 j v hv;exact⟨x,by simp[World.cell?,h1,hx],hr⟩
def OM.Bq{c:List V}{e:TypeId}{rw:Bool}{l:L}(h:OM P μ w (.cells c e rw) l){o k:Nat}{vs:List V}(hs:aL c o k=some vs):
  ∃xs:List Value,aU μ vs xs/\xs.length=k/\(loadCells ⟨l.b,l.d+o,none⟩ k).run P w=.ok xs.toArray w/\(∀(j:Nat) (x:Value),xs[j]?=some x->w.cell? ⟨l.b,l.d+o+j,none⟩=some x)/\(∀x∈xs,x.oneCell'=true):=by
 unfold aL at hs;split at hs
 ·rename_i hle;simp only[aq]at hs;subst hs;obtain⟨c',lo,hi,h1,h2,h3,h4,h5,_⟩:=h;have hlen:l.d+o+k<=c'.size:=by omega
  have hl:((c'.toList.drop (l.d+o)).take k).length=k:=by simp;omega
  have hg:∀(j:Nat) (x:Value),((c'.toList.drop (l.d+o)).take k)[j]?=some x->c'[l.d+o+j]?=some x:=fun j x hx=>by
   rw[jL]at hx;split at hx
   ·simpa[fF]using hx
   cases hx
  have ic:∀(j:Nat) (x:Value),((c'.toList.drop (l.d+o)).take k)[j]?=some x->w.cell? ⟨l.b,l.d+o+j,none⟩=some x:=fun j x hx=>by simp[World.cell?,h1,hg j x hx]
  refine⟨(c'.toList.drop (l.d+o)).take k,?_,hl,?_,ic,fun x hx=>?_⟩
  ·refine aU.sG (by rw[hl];simp;omega) fun j v hv=>?_;rw[jL]at hv;split at hv
   ·rename_i hj;rw[fF]at hv;obtain⟨x,hx,hr⟩:=h4 (o+j) v hv;refine⟨x,?_,hr⟩;rw[jL,ar hj,fF];simpa[qe]using hx
   cases hv
  ·have:=run_loadCells_list (P:=P) w ⟨l.b,l.d+o,none⟩ ((c'.toList.drop (l.d+o)).take k) (fun j x hx=>by rw[yD];exact ic j x hx);rwa [hl]at this
  obtain⟨j,hj⟩:=nw hx;have qU:j<k:=by rw[<-hl];exact(wj.1 hj).1
  exact h5 (o+j) x (by omega) (by rw[<-qe];exact hg j x hj)
 cases hs
def Tu{t:TypeId}{vs:List V}{xs:List Value}(ri:aU μ vs xs){k:Option Nat}(ha:Bk P t=some k){o:Nat}{v:V}(hv:aQ vs o k=some v):
  ∃x,(part t ⟨xs⟩ o).run P w=.ok x w/\VR μ v x:=by
 cases k with
 |none=> simp only[aQ]at hv;obtain⟨x,hx,hr⟩:=ri.get hv;exact⟨x,by simp[part,ZR ha,Result.andThen,hx],hr⟩
 |some k=>
  simp only[aQ]at hv;split at hv
  ·rename_i l hl;simp only[aq]at hv;subst hv;unfold aL at hl;split at hl
   ·simp only[aq]at hl;subst hl;refine⟨.agg ⟨(xs.drop o).take k⟩,?_,⟨_,rfl,(ri.drop o).take k⟩⟩;simp[part,(LF ha).1,(LF ha).2,Result.andThen]
   cases hl
  cases hv
end
end Go.Mx
