/-
  Code of the Go model resolved for the machine M: a function of the program's tables.
-/
import Derived.Test.YtlbophlgohokkaaGreatDoorMxCore
import Derived.Laws.MakeOwn
import Derived.Laws.CopyRow
import Derived.Laws.Rows
import Derived.Laws.Append
import Derived.Laws.Externs
import Derived.Laws.StructEq
import Derived.RowKit
set_option linter.all false
namespace Go.Mx
mutual
def cV:Value->Option V
 |.bool b=>some (.bool b)
 |.int k n=>some (.int k n)
 |.float k n=>some (.qf k n)
 |.string s=>some (.str s.data.toList)
 |.pointer none=>some .bG
 |.slice none 0 0=>some .aa
 |.map none=>some .bM
 |.chan none=>some .bO
 |.nilFunc=>some .bg
 |.nilIface=>some .aR
 |.agg ⟨l⟩=>match DG l with
  |some l=>some (.agg l)
  |none=>none
 |.tuple ⟨l⟩=>match DG l with
  |some l=>some (.bb l)
  |none=>none
 |_=>none
def DG:List Value->Option (List V)
 |[]=>some []
 |v::vs=>match cV v,DG vs with
  |some v,some vs=>some (v::vs)
  |_,_=>none
end
section
variable (P:Program)
def bu:Operand->Option Src
 |.tmp t=>some (.tmp t)
 |.const v=>match cV v with
  |some v=>some (.const v)
  |none=>none
 |.global g=>if g<P.globals.size then some (.const (.ptr g 0)) else none
 |.func f=>some (.const (.func f [] []))
def qg:List Operand->Option (List Src)
 |[]=>some []
 |x::xs=>match bu P x,qg xs with
  |some x,some xs=>some (x::xs)
  |_,_=>none
def nR:Option Operand->Option (Option Src)
 |none=>some none
 |some x=>match bu P x with
  |some x=>some (some x)
  |none=>none
def d_(t:TypeId):Option Nat:=(P.info? t).map (·.size)
def Zip(t:TypeId):Option Nat:=(P.info? t).map (·.bytes)
def sG(t:TypeId):Option (Option Nat):=
 match P.underlying t with
 |some (.struct _)|some (.array _ _)=>match d_ P t with
  |some n=>some (some n)
  |none=>none
 |some _=>some none
 |none=>none
def lD(t:TypeId):Option V:=
 match P.info? t with
 |some i=>match i.zero with
  |some v=>cV v
  |none=>none
 |none=>none
def JA:TypeDesc->Option PK
 |.bool=>some .bool
 |.int _=>some .int
 |.string=>some .str
 |.pointer _=>some .ptr
 |.slice _=>some .slice
 |.map _ _=>some .map
 |.func _ _ _=>some .func
 |.chan _ _=>some .chan
 |.interface _=>some .iface
 |_=>none
def DH(q:TypeId->Option nS):List Field->Option (List (Nat×Option Nat×nS))
 |[]=>some []
 |f::fs=>if f.name= "_" then DH q fs else
  match sG P f.type,q f.type,DH q fs with
  |some a,some q,some l=>some ((f.offset,a,q)::l)
  |_,_,_=>none
def NV:TypeDesc->Bool
 |.pointer e=>(P.info? e).isSome
 |_=>true
def rf:Nat->TypeId->Option nS
 |0,_=>none
 |d+1,t=>
  match P.underlying t with
  |some (.struct fs)=>
   if P.stoodInHeld t then none else
   match DH P (rf d) fs.toList with
   |some l=>some (.node l)
   |none=>none
  |some q=>match JA q with
   |some k=>if NV P q=true then some (.aH k) else none
   |none=>none
  |none=>none
def wJ(place:Nat->Option (Nat×Nat)):List (Nat×Operand)->Option (List (Nat×Nat×Src))
 |[]=>some []
 |(i,x)::rest=>match place i,bu P x,wJ place rest with
  |some (o,s),some x,some l=>some ((o,s,x)::l)
  |_,_,_=>none
def uD(t:TypeId):Option jb:=
 match P.underlying t with
 |some (.int k)=>some (.int k)
 |some .string=>some .str
 |_=>none
def Be:Operand->Bool
 |.const _=>true
 |_=>false
def DI(fs:List Field):Option (List (Nat×Nat)):=
 match fs with
 |[]=>some []
 |f::fs=>match d_ P f.type,DI fs with
  |some s,some l=>some ((f.offset,s)::l)
  |_,_=>none
def tf(name:String):Option Ext:=
 if name= "math/bits.Add64" then some .eB
 else if name= "math/bits.Sub64" then some .gG
 else if name= "internal/abi.NoEscape" then some .same
 else if name= "internal/bytealg.IndexByteString" then some .bF
 else none
def zw(c:Call):Option gp:=
 match c.callee with
 |.value f=>match qg P c.args.toList with
  |none=>none
  |some args=>match f with
   |.func g=>match P.funcs[g]? with
    |some fn=>if fn.body.isSome then some (.call (.const (.func g [] [])) args) else
     match tf fn.name with
     |some e=>some (.ext e args)
     |none=>none
    |none=>none
   |f=>match bu P f with
    |some f=>some (.call f args)
    |none=>none
 |.invoke _ _=>none
 |.builtin b=>
  match b,c.argTypes.toList,c.args.toList with
  |.len,[t],[x]=>
   match P.underlying t,bu P x with
   |some .string,some x=>some (.len 0 x)
   |some (.slice _),some x=>some (.len 1 x)
   |some (.map _ _),some x=>some (.len 2 x)
   |some (.array n _),_=>some (.ki n)
   |some (.pointer a),_=>match P.underlying a with
    |some (.array n _)=>some (.ki n)
    |_=>none
   |_,_=>none
  |.cap,[t],[x]=>
   match P.underlying t,bu P x with
   |some (.slice _),some x=>some (.cap x)
   |_,_=>none
  |.min,_,_=>match qg P c.args.toList with
   |some l=>some (.mn l)
   |none=>none
  |.max,_,_=>match qg P c.args.toList with
   |some l=>some (.mx l)
   |none=>none
  |.append,[t,u],[s,x]=>
   match P.underlying t with
   |some (.slice e)=>match d_ P e,Zip P e,lD P e,bu P s,bu P x,P.underlying u with
    |some n,some b,some z,some s,some x,some d=>if (d matches .int _)\/b=0\/z.cells.length≠n\/z.cells.all V.one=false then none else some (.append n b e z.cells s x)
    |_,_,_,_,_,_=>none
   |_=>none
  |.copy,t::_,[d,s]=>
   match P.underlying t with
   |some (.slice e)=>match d_ P e,bu P d,bu P s with
    |some n,some d,some s=>some (.copy n d s)
    |_,_,_=>none
   |_=>none
  |.clear,[t],[s]=>
   match P.underlying t with
   |some (.slice e)=>match d_ P e,lD P e,bu P s with
    |some n,some z,some s=>if z.cells.all V.one then some (.clear n z.cells s) else none
    |_,_,_=>none
   |_=>none
  |.unsafeSliceData,[_],[s]=>(bu P s).map .ri
  |.unsafeString,[t,_],[x,n]=>
   match P.underlying t with
   |some (.pointer e)=>match d_ P e,bu P x,bu P n with
    |some 1,some x,some n=>some (.xV e x n)
    |_,_,_=>none
   |_=>none
  |_,_,_=>none
def DJ:Op->Option gp
 |.move x|.assign x=>(bu P x).map .aZ
 |.pick c a b=>match bu P c,bu P a,bu P b with
  |some c,some a,some b=>some (.pick c a b)
  |_,_,_=>none
 |.alloc e=>match lD P e with
  |some z=>if z.cells.all V.one then some (.alloc z.cells e) else none
  |none=>none
 |.box e x=>(bu P x).map (.box e)
 |.build t parts=>match lD P t with
  |none=>none
  |some z=>match P.underlying t with
   |some (.struct fs)=>match DI P fs.toList with
    |some pl=>(wJ P (pl[·]?) parts.toList).map (.build z.cells)
    |none=>none
   |some (.array _ e)=>match d_ P e with
    |some s=>(wJ P (fun i=>some (i*s,s)) parts.toList).map (.build z.cells)
    |none=>none
   |_=>none
 |.buildSlice t len parts=>match P.underlying t with
  |some (.slice e)=>match d_ P e,lD P e with
   |some s,some z=>if len*s > 2^24\/z.cells.length≠s\/s=0 then none else
    (wJ P (fun i=>some (i*s,s)) parts.toList).map (.aY e s len (cj z.cells len))
   |_,_=>none
  |_=>none
 |.load t a=>match sG P t,bu P a with
  |some n,some a=>some (.load n a)
  |_,_=>none
 |.store t a x=>match d_ P t,bu P a,bu P x with
  |some n,some a,some x=>some (.store n a x)
  |_,_,_=>none
 |.nilCheck x=>(bu P x).map .fv
 |.binOp op t x y _=>match bu P x,bu P y with
  |some a,some b=>
   match op with
   |.eql|.neq=>match rf P 40 t with
    |some q=>if (match P.underlying t with|some (.struct _)|some (.array _ _)=>P.eqGuardType P.depth t|_=>false) then none else some (.bin op q (Be x||Be y) a b)
    |none=>none
   |_=>some (.bin op (.node []) false a b)
  |_,_=>none
 |.unOp op _ x=>(bu P x).map (.un op)
 |.convert src dst x=>match bu P x with
  |none=>none
  |some a=>match P.underlying src,P.underlying dst with
   |some (.int _),some (.int k)=>some (.ba k a)
   |some .string,some .string=>some (.jT a)
   |some .string,some (.slice e)=>match P.underlying e with
    |some (.int .u8)=>some (.fR e a)
    |_=>none
   |some (.slice e),some .string=>match P.underlying e with
    |some (.int .u8)=>some (.eR a)
    |_=>none
   |some (.pointer t),some .unsafePointer=>match d_ P t with
    |some (_+1)=>some (.DK none a)
    |_=>none
   |some .unsafePointer,some (.pointer u)=>match d_ P u with
    |some (z+1)=>some (.DK (some (u,z+1)) a)
    |_=>none
   |_,_=>none
 |.makeInterface t x=>match P.underlying t with
  |some (.interface _)=>none
  |some _=>(bu P x).map (.eC t)
  |none=>none
 |.makeFunc (.func f) first fC=>match qg P first.toList,qg P fC.toList with
  |some a,some l=>some (.cI f a l)
  |_,_=>none
 |.makeMap _ none=>some .rj
 |.makeChan t n=>match P.underlying t with
  |some (.chan _ e)=>match Zip P e,bu P n with
   |some b,some n=>some (.mZ b n)
   |_,_=>none
  |_=>none
 |.makeSlice t l c=>match P.underlying t with
  |some (.slice e)=>match d_ P e,Zip P e,lD P e,bu P l,bu P c with
   |some s,some b,some z,some l,some c=>if z.cells.all V.one then some (.bD e s b z.cells l c) else none
   |_,_,_,_,_=>none
  |_=>none
 |.slice t x lo hi mx=>match bu P x,nR P lo,nR P hi,nR P mx with
  |some x,some lo,some hi,some mx=>match P.underlying t with
   |some .string=>if mx.isSome then none else some (.az x lo hi)
   |some (.slice e)=>(d_ P e).map fun s=>.cP s x lo hi mx
   |some (.array n e)=>(d_ P e).map fun s=>.c_ n s x lo hi mx
   |_=>none
  |_,_,_,_=>none
 |.fieldAddr t x i=>match P.underlying t,bu P x with
  |some (.struct fs),some x=>match fs[i]? with
   |some f=>match d_ P f.type with
    |some (_+1)=>some (.ec f.offset x)
    |_=>none
   |none=>none
  |_,_=>none
 |.field t x i=>match P.underlying t,bu P x with
  |some (.struct fs),some x=>match fs[i]? with
   |some f=>(sG P f.type).map fun n=>.field f.offset n x
   |none=>none
  |_,_=>none
 |.indexAddr t x i=>match P.underlying t,bu P x,bu P i with
  |some (.array n e),some x,some i=>(d_ P e).map fun s=>.bY n s x i
  |some (.slice e),some x,some i=>(d_ P e).map fun s=>.aI s x i
  |_,_,_=>none
 |.index t x i=>match P.underlying t,bu P x,bu P i with
  |some (.array n e),some x,some i=>match d_ P e,sG P e with
   |some s,some a=>some (.m7 n s a x i)
   |_,_=>none
  |some .string,some x,some i=>some (.aQ x i)
  |_,_,_=>none
 |.lookup t m k ok=>match P.underlying t,bu P m,bu P k with
  |some (.map kt e),some m,some k=>match uD P kt,lD P e with
   |some kd,some z=>some (.lookup kd z m k ok)
   |_,_=>none
  |_,_,_=>none
 |.mapUpdate t m k v|.insert t m k v=>match P.underlying t,bu P m,bu P k,bu P v with
  |some (.map kt _),some m,some k,some v=>(uD P kt).map fun kd=>.qh kd m k v
  |_,_,_,_=>none
 |.range t x=>match P.underlying t,bu P x with
  |some .string,some x=>some (.iy x)
  |_,_=>none
 |.next it true=>(bu P it).map .m8
 |.extract x i=>(bu P x).map fun x=>.extract x i
 |.call c=>zw P c
 |_=>none
def uE(o:Op):gp:=(DJ P o).getD .stop
def Bf(ops:Array Oper):Option (Nat×Bool)->Option (Option (Nat×Bool))
 |none=>some none
 |some (j,want)=>match (ops[j]?).bind (·.dst)with
  |some t=>some (some (t,want))
  |none=>none
def m_(ops:Array Oper)(o:Oper):du:=
 match Bf ops o.guard with
 |some g=>{dst:=o.dst,op:=uE P o.op,guard:=g}
 |none=>{dst:=o.dst,op:=.stop,guard:=none}
def FH(o:Oper)(ms:List Nat):Nat:=
 o.after.foldl (fun s e=>if Region.binds .any e then s|||2^e.on|||ms.getD e.on 0 else s) 0
def qi:List Oper->List Nat->List Nat
 |[],acc=>acc
 |o::rest,acc=>qi rest (acc++[FH o acc])
def JB(o:Oper):Option (Option Nat×Src×Option Src×V):=
 match o.op,o.guard with
 |.select cs false,none=>match cs.toList with
  |[c]=>match bu P c.chan,nR P c.send,lD P c.elem with
   |some ch,some s,some z=>some (o.dst,ch,s,z)
   |_,_,_=>none
  |_=>none
 |_,_=>none
def DL:Nat->List Oper->Bool
 |_,[]=>true
 |i,o::os=>(o.after.all fun e=>!Region.binds .any e||Nat.blt e.on i)&&DL (i+1) os
def NX(ops:Array Oper):Bool:=DL 0 ops.toList&&dn JC (ops.toList.map (m_ P ops)) (qi ops.toList [])
def gL:Code->aq
 |.skip=>.skip
 |.region _ ops false=>match ops.toList with
  |[]=>.aL []
  |o::rest=>match JB P o with
   |some (d,ch,s,z)=>.sH d ch s z (rest.map (m_ P ops))
   |none=>.aL ((o::rest).map (m_ P ops))
 |.region _ ops true=>if NX P ops then .aS (ops.toList.map (m_ P ops)) (qi ops.toList []) else .stop
 |.seq a b=>.seq (gL a) (gL b)
 |.cond c a b=>match bu P c with
  |some c=>.cond c (gL a) (gL b)
  |none=>.stop
 |.block id c=>.block id (gL c)
 |.loop c=>.loop (gL c)
 |.rangeFunc g ps assign body=>match bu P g with
  |some g=>.na g ps.toList (gL assign) (gL body)
  |none=>.stop
 |.exit id=>.exit id
 |.scope c=>.scope (gL c)
 |.label _=>.skip
 |.goto _=>.stop
 |.ret=>.ret
 |.refuse _=>.stop
def zy:List ResultVar->Option (List Bg)
 |[]=>some []
 |.tmp t::rest=>(zy rest).map (.tmp t::·)
 |.cell t ty::rest=>match sG P ty,zy rest with
  |some n,some l=>some (.cell t n::l)
  |_,_=>none
def td(f:FuncId):Option ji:=
 match P.funcs[f]? with
 |some fn=>match fn.body,zy P fn.results.toList with
  |some c,some rs=>some {ntmps:=fn.ntmps,results:=rs,body:=gL P c}
  |_,_=>none
 |none=>none
end
open Go
structure L where
 b:Nat
 d:Nat
 nb:Nat
abbrev Mu:=Nat->Option L
mutual
def VR(μ:Mu):V->Value->Prop
 |.bool b,x=>x=.bool b
 |.int k n,x=>x=.int k n
 |.qf k n,x=>x=.float k n
 |.str s,x=>x=.string ⟨s.toArray⟩
 |.bG,x=>x=.pointer none
 |.ptr i o,x=>∃l,μ i=some l/\x=.pointer (some ⟨l.b,l.d+o,none⟩)
 |.aa,x=>x=.slice none 0 0
 |.slice i o len cap sz,x=>∃l c,μ i=some l/\x=.slice (some ⟨l.b,l.d+o,none⟩) len c/\len<=c/\o+c*sz<=l.nb/\
   (∀k,cap=some k->c=k)/\(cap=none->o+c*sz=l.nb)
 |.empty,x=>∃a c,x=.slice (some a) 0 c
 |.bM,x=>x=.map none
 |.map i,x=>∃l,μ i=some l/\x=.map (some l.b)
 |.bO,x=>x=.chan none
 |.chan i,x=>∃l,μ i=some l/\x=.chan (some l.b)
 |.func f a c,x=>∃a' c',x=.func (.func f) ⟨a'⟩ ⟨c'⟩/\aW μ a a'/\aW μ c c'
 |.yield i,x=>∃l,μ i=some l/\x=.func (.yield l.b) #[] #[]
 |.bg,x=>x=.nilFunc
 |.iface t v,x=>∃y,x=.iface t y/\VR μ v y
 |.aR,x=>x=.nilIface
 |.agg vs,x=>∃a,x=.agg ⟨a⟩/\aW μ vs a
 |.bb vs,x=>∃a,x=.tuple ⟨a⟩/\aW μ vs a
def aW(μ:Mu):List V->List Value->Prop
 |[],xs=>xs=[]
 |v::vs,xs=>∃y ys,xs=y::ys/\VR μ v y/\aW μ vs ys
end
mutual
theorem VR.mono{μ μ':Mu}(h:∀i l,μ i=some l->μ' i=some l):∀(v:V) (x:Value),VR μ v x->VR μ' v x
 |.bool _,_,hx=>by simpa[VR]using hx
 |.int _ _,_,hx=>by simpa[VR]using hx
 |.qf _ _,_,hx=>by simpa[VR]using hx
 |.str _,_,hx=>by simpa[VR]using hx
 |.bG,_,hx=>by simpa[VR]using hx
 |.ptr _ _,_,hx=>by simp only[VR]at*;obtain⟨l,h1,h2⟩:=hx;exact⟨l,h _ _ h1,h2⟩
 |.aa,_,hx=>by simpa[VR]using hx
 |.slice _ _ _ _ _,_,hx=>by simp only[VR]at*;obtain⟨l,c,h1,h2⟩:=hx;exact⟨l,c,h _ _ h1,h2⟩
 |.empty,_,hx=>by simpa[VR]using hx
 |.bM,_,hx=>by simpa[VR]using hx
 |.map _,_,hx=>by simp only[VR]at*;obtain⟨l,h1,h2⟩:=hx;exact⟨l,h _ _ h1,h2⟩
 |.bO,_,hx=>by simpa[VR]using hx
 |.chan _,_,hx=>by simp only[VR]at*;obtain⟨l,h1,h2⟩:=hx;exact⟨l,h _ _ h1,h2⟩
 |.func _ a c,_,hx=>by
  simp only[VR]at*;obtain⟨a',c',h1,h2,h3⟩:=hx
  exact⟨a',c',h1,aW.mono h a a' h2,aW.mono h c c' h3⟩
 |.yield _,_,hx=>by simp only[VR]at*;obtain⟨l,h1,h2⟩:=hx;exact⟨l,h _ _ h1,h2⟩
 |.bg,_,hx=>by simpa[VR]using hx
 |.iface _ v,_,hx=>by simp only[VR]at*;obtain⟨y,h1,h2⟩:=hx;exact⟨y,h1,VR.mono h v y h2⟩
 |.aR,_,hx=>by simpa[VR]using hx
 |.agg vs,_,hx=>by simp only[VR]at*;obtain⟨a,h1,h2⟩:=hx;exact⟨a,h1,aW.mono h vs a h2⟩
 |.bb vs,_,hx=>by simp only[VR]at*;obtain⟨a,h1,h2⟩:=hx;exact⟨a,h1,aW.mono h vs a h2⟩
theorem aW.mono{μ μ':Mu}(h:∀i l,μ i=some l->μ' i=some l):∀(vs:List V) (xs:List Value),aW μ vs xs->aW μ' vs xs
 |[],_,hx=>by simpa[aW]using hx
 |v::vs,_,hx=>by
  simp only[aW]at*
  obtain⟨y,ys,h1,h2,h3⟩:=hx
  exact⟨y,ys,h1,VR.mono h v y h2,aW.mono h vs ys h3⟩
end
section
variable {μ:Mu}
theorem gg{v:V}{vs:List V}{xs:List Value}:aW μ (v::vs) xs↔∃y ys,xs=y::ys/\VR μ v y/\aW μ vs ys:=by simp[aW]
theorem aW.length:∀{vs:List V} {xs:List Value},aW μ vs xs->xs.length=vs.length
 |[],_,h=>by simp[aW]at h;simp[h]
 |v::vs,_,h=>by
  obtain⟨y,ys,rfl,_,h3⟩:=gg.1 h
  simp[aW.length h3]
theorem aW.get:∀{vs:List V} {xs:List Value},aW μ vs xs->∀{i:Nat} {v:V},vs[i]?=some v->∃x,xs[i]?=some x/\VR μ v x
 |[],_,_,i,v,hv=>by simp at hv
 |w::vs,_,h,i,v,hv=>by
  obtain⟨y,ys,rfl,h2,h3⟩:=gg.1 h
  cases i with
  |zero=>simp at hv;subst hv;exact⟨y,by simp,h2⟩
  |succ i=>simpa using aW.get h3 (i:=i) (by simpa using hv)
theorem aW.append:∀{vs ws:List V} {xs ys:List Value},aW μ vs xs->aW μ ws ys->aW μ (vs++ws) (xs++ys)
 |[],ws,_,ys,h,h'=>by simp[aW]at h;simpa[h]using h'
 |v::vs,ws,_,ys,h,h'=>by
  obtain⟨y,zs,rfl,h2,h3⟩:=gg.1 h
  exact gg.2 ⟨y,zs++ys,rfl,h2,aW.append h3 h'⟩
theorem aW.take:∀{vs:List V} {xs:List Value} (n:Nat),aW μ vs xs->aW μ (vs.take n) (xs.take n)
 |[],_,n,h=>by simp[aW]at h;simp[h,aW]
 |v::vs,_,n,h=>by
  obtain⟨y,zs,rfl,h2,h3⟩:=gg.1 h
  cases n with
  |zero=>simp[aW]
  |succ n=>exact gg.2 ⟨y,zs.take n,rfl,h2,aW.take n h3⟩
theorem aW.drop:∀{vs:List V} {xs:List Value} (n:Nat),aW μ vs xs->aW μ (vs.drop n) (xs.drop n)
 |[],_,n,h=>by simp[aW]at h;simp[h,aW]
 |v::vs,_,n,h=>by
  cases n with
  |zero=>simpa using h
  |succ n=>
   obtain⟨y,zs,rfl,h2,h3⟩:=gg.1 h
   simpa using aW.drop n h3
theorem aW.kj:∀{vs:List V} {xs:List Value},xs.length=vs.length->(∀(i:Nat) (v:V),vs[i]?=some v->∃x,xs[i]?=some x/\VR μ v x)->aW μ vs xs
 |[],xs,hl,_=>by simp at hl;simp[aW,hl]
 |v::vs,[],hl,_=>by simp at hl
 |v::vs,x::xs,hl,h=>by
  refine gg.2 ⟨x,xs,rfl,?_,aW.kj (by simpa using hl) fun i u hu=>?_⟩
  ·obtain⟨y,h1,h2⟩:=h 0 v (by simp)
   simp at h1;subst h1;exact h2
  ·simpa using h (i+1) u (by simpa using hu)
theorem aW.set{vs:List V}{xs:List Value}(h:aW μ vs xs)(i:Nat){v:V}{x:Value}(hv:VR μ v x):aW μ (vs.set i v) (xs.set i x):=by
 refine aW.kj (by simp[h.length]) fun j u hu=>?_
 by_cases e:i=j
 ·subst e
  rw[List.getElem?_set]at hu ⊢
  by_cases aB:i<vs.length
  ·simp[aB]at hu
   subst hu
   simp[h.length,aB,hv]
  ·simp[aB]at hu
 ·rw[dr e]at hu ⊢
  exact h.get hu
theorem VR.one{v:V}{x:Value}(h:VR μ v x)(hv:v.one=true):x.oneCell'=true:=by
 cases v<;>simp only[VR]at h<;>simp only[V.one,eL]at hv
 case bool=>subst h;rfl
 case int=>subst h;rfl
 case qf=>subst h;rfl
 case str=>subst h;rfl
 case bG=>subst h;rfl
 case ptr=>obtain⟨l,_,rfl⟩:=h;rfl
 case aa=>subst h;rfl
 case slice=>obtain⟨l,c,_,rfl,_⟩:=h;rfl
 case empty=>obtain⟨a,c,rfl⟩:=h;rfl
 case bM=>subst h;rfl
 case map=>obtain⟨l,_,rfl⟩:=h;rfl
 case bO=>subst h;rfl
 case chan=>obtain⟨l,_,rfl⟩:=h;rfl
 case func=>obtain⟨a,c,rfl,_⟩:=h;rfl
 case yield=>obtain⟨l,_,rfl⟩:=h;rfl
 case bg=>subst h;rfl
 case iface=>obtain⟨y,rfl,_⟩:=h;rfl
 case aR=>subst h;rfl
theorem VR.cells{v:V}{x:Value}(h:VR μ v x):aW μ v.cells x.cells.toList:=by
 have one:∀y:Value,x=y->(y.cells=#[y])->v.cells=[v]->aW μ v.cells x.cells.toList:=fun y e hc hv=>by
  subst e;rw[hc,hv];exact gg.2 ⟨_,[],rfl,h,by simp[aW]⟩
 have h0:=h
 cases v<;>simp only[VR]at h
 case bool=>exact one _ h rfl rfl
 case int=>exact one _ h rfl rfl
 case qf=>exact one _ h rfl rfl
 case str=>exact one _ h rfl rfl
 case bG=>exact one _ h rfl rfl
 case ptr=>obtain⟨l,_,e⟩:=h;exact one _ e rfl rfl
 case aa=>exact one _ h rfl rfl
 case slice=>obtain⟨l,c,_,e,_⟩:=h;exact one _ e rfl rfl
 case empty=>obtain⟨a,c,e⟩:=h;exact one _ e rfl rfl
 case bM=>exact one _ h rfl rfl
 case map=>obtain⟨l,_,e⟩:=h;exact one _ e rfl rfl
 case bO=>exact one _ h rfl rfl
 case chan=>obtain⟨l,_,e⟩:=h;exact one _ e rfl rfl
 case func=>obtain⟨a,c,e,_⟩:=h;exact one _ e rfl rfl
 case yield=>obtain⟨l,_,e⟩:=h;exact one _ e rfl rfl
 case bg=>exact one _ h rfl rfl
 case iface=>obtain⟨y,e,_⟩:=h;exact one _ e rfl rfl
 case aR=>exact one _ h rfl rfl
 case agg vs=>obtain⟨a,rfl,h⟩:=h;exact h
 case bb vs=>obtain⟨a,e,_⟩:=h;exact one _ e rfl rfl
end
def RR(μ:Mu)(r:T V)(n:Nat)(tmps:Array Value):Prop:=
 tmps.size=n/\∀t v,r.get t=some v->∃x,tmps[t]?=some x/\VR μ v x
theorem RR.mono{μ μ':Mu}{r:T V}{n:Nat}{tmps:Array Value}(h:∀i l,μ i=some l->μ' i=some l)(hr:RR μ r n tmps):RR μ' r n tmps:=
 ⟨hr.1,fun t v hv=>let ⟨x,h1,h2⟩:=hr.2 t v hv;⟨x,h1,VR.mono h v x h2⟩⟩
theorem RR.set{μ:Mu}{r:T V}{n:Nat}{tmps:Array Value}(hr:RR μ r n tmps){d:Nat}(hd:d<n){v:V}{x:Value}(hv:VR μ v x):
  RR μ (r.set d v) n (tmps.setIfInBounds d x):=by
 refine⟨by simp[hr.1],fun t u hu=>?_⟩
 rw[T.ah]at hu
 by_cases e:t=d
 ·subst e
  simp at hu;subst hu
  exact⟨x,by simp[hr.1,hd],hv⟩
 ·simp[e]at hu
  obtain⟨y,h1,h2⟩:=hr.2 t u hu
  exact⟨y,by rw[DM (Ne.symm e)];exact h1,h2⟩
def uF:Ex->Option Code
 |.normal=>none
 |.exit id=>some (.exit id)
 |.ret=>some .ret
def gw(μ:Mu):List (V×V)->List MapEntry->Nat->Prop
 |[],xs,_=>xs=[]
 |(k,v)::es,xs,i=>∃e ys,xs=e::ys/\VR μ k e.key/\VR μ v e.val/\e.born=i/\gw μ es ys (i+1)
theorem gw.mono{μ μ':Mu}(h:∀i l,μ i=some l->μ' i=some l):∀(es:List (V×V)) (xs:List MapEntry) (i:Nat),gw μ es xs i->gw μ' es xs i
 |[],_,_,hx=>hx
 |(k,v)::es,_,i,hx=>by
  obtain⟨e,ys,h1,h2,h3,h4,h5⟩:=hx
  exact⟨e,ys,h1,VR.mono h k _ h2,VR.mono h v _ h3,h4,gw.mono h es ys (i+1) h5⟩
def OM(P:Program)(μ:Mu)(w:World):O->L->Prop
 |.cells c e rw,l=>∃(c':Array Value) (lo hi:Nat),w.heap[l.b]?=some (.cells c' e (lo,hi))/\l.d+l.nb<=c'.size/\c.length<=l.nb/\
   (∀(j:Nat) (v:V),c[j]?=some v->∃x,c'[l.d+j]?=some x/\VR μ v x)/\(∀(j:Nat) (x:Value),j<l.nb->c'[l.d+j]?=some x->x.oneCell'=true)/\(rw=true->l.d=0/\∀j,j<l.nb->¬(lo<=l.d+j/\l.d+j<hi))
 |.map es,l=>∃fS:List MapEntry,w.heap[l.b]?=some (.map ⟨fS⟩ fS.length)/\gw μ es fS 0
 |.chan cap buf,l=>∃(nc:List Value) (s r:Nat),w.heap[l.b]?=some (.chan cap ⟨nc⟩ false s r false)/\aW μ buf nc
 |.dV s pos,l=>w.heap[l.b]?=some (.stringIter ⟨s.toArray⟩ pos)/\l.d=0
 |.loop R,l=>∃fn tmps fj fk ld,w.heap[l.b]?=some (.loop {state:=R.st,pending:=R.gC.bind uF,fn:=fn,tmps:=tmps,params:=⟨R.ps⟩,assign:=fj,body:=fk,defers:=ld.b})/\
   RR μ R.r R.n tmps/\gL P fj=R.assign/\gL P fk=R.body/\μ R.defs=some ld
 |.defs o,l=>w.heap[l.b]?=some (.deferred (if o then some [] else none))
 |.dead,_=>True
theorem OM.mono{P:Program}{μ μ':Mu}{w:World}(h:∀i l,μ i=some l->μ' i=some l){o:O}{l:L}(ho:OM P μ w o l):OM P μ' w o l:=by
 cases o with
 |cells c e rw=>
  obtain⟨c',lo,hi,h1,h2,h3,h4,h5⟩:=ho
  exact⟨c',lo,hi,h1,h2,h3,fun j v hv=>let ⟨x,a,b⟩:=h4 j v hv;⟨x,a,VR.mono h v x b⟩,h5⟩
 |map es=>obtain⟨fS,h1,h2⟩:=ho;exact⟨fS,h1,gw.mono h _ _ _ h2⟩
 |chan cap buf=>obtain⟨b',s,r,h1,h2⟩:=ho;exact⟨b',s,r,h1,aW.mono h _ _ h2⟩
 |dV s pos=>simp only[OM]at*;exact ho
 |loop R=>obtain⟨fn,tmps,fj,fk,ld,h1,h2,h3,h4,h5⟩:=ho;exact⟨fn,tmps,fj,fk,ld,h1,h2.mono h,h3,h4,h _ _ h5⟩
 |defs b=>simp only[OM]at*;exact ho
 |dead=>trivial
theorem OM.congr{P:Program}{μ:Mu}{w w':World}{o:O}{l:L}(hb:w'.heap[l.b]?=w.heap[l.b]?)(ho:OM P μ w o l):OM P μ w' o l:=by
 cases o with
 |cells c e rw=>obtain⟨c',lo,hi,h1,h2⟩:=ho;exact⟨c',lo,hi,hb.trans h1,h2⟩
 |map es=>obtain⟨fS,h1,h2⟩:=ho;exact⟨fS,hb.trans h1,h2⟩
 |chan cap buf=>obtain⟨b',s,r,h1,h2⟩:=ho;exact⟨b',s,r,hb.trans h1,h2⟩
 |dV s pos=>exact⟨hb.trans ho.1,ho.2⟩
 |loop R=>obtain⟨fn,tmps,fj,fk,ld,h1,h2⟩:=ho;exact⟨fn,tmps,fj,fk,ld,hb.trans h1,h2⟩
 |defs b=>exact hb.trans ho
 |dead=>trivial
structure bm (P:Program) (μ:Mu) (w:World) (st:St):Prop where
 cK:∀i l,μ i=some l->i<st.n/\l.b<w.heap.size
 obj:∀i l,μ i=some l->∃o,st.h.get i=some o/\OM P μ w o l
 inj:∀i j l l' o o',μ i=some l->μ j=some l'->i≠j->st.h.get i=some o->st.h.get j=some o'->o.wr=true->o'.live=true->l.b≠l'.b
 fE:∀g,g<P.globals.size->∃t,μ g=some ⟨g,0,t⟩
structure FI (μ:Mu) (ws:List Nat) (w w':World):Prop where
 os:w'.os=w.os
 tape:w'.tape=w.tape
 output:w'.output=w.output
 size:w.heap.size<=w'.heap.size
 block:∀b,b<w.heap.size->(∀i∈ws,∀l,μ i=some l->l.b≠b)->w'.heap[b]?=w.heap[b]?
structure bB (P:Program) (μ:Mu) (w:World) (st:St) (μ':Mu) (w':World) (av:St) (ws:List Nat):Prop where
 hr:bm P μ' w' av
 ext:∀i,i<st.n->μ' i=μ i
 fi:st.n<=av.n
 wl:av.w=ws++st.w
 dk:FI μ ws w w'
 new:∀i l,st.n<=i->μ' i=some l->w.heap.size<=l.b\/∃j∈ws,j<st.n/\∃lj oj,μ j=some lj/\lj.b=l.b/\st.h.get j=some oj/\oj.wr=true
 ad:∀i,i<st.n->i∉ws->av.h.get i=st.h.get i
 grow:∀i o',i<st.n->av.h.get i=some o'->∃o,st.h.get i=some o/\(o'.wr=true->o.wr=true)/\(o'.live=true->o.live=true)
 full:∀i,st.n<=i->i<av.n->∃l,μ' i=some l
 rk:∀i∈ws,i<st.n->∃o,st.h.get i=some o/\o.wr=true
theorem bm.Bh{P:Program}{μ μ':Mu}{w:World}{st:St}(h:bm P μ w st)(he:∀i,i<st.n->μ' i=μ i):∀i l,μ i=some l->μ' i=some l:=
 fun i l hi=>(he i (h.cK i l hi).1).trans hi
theorem FI.refl(μ:Mu)(ws:List Nat)(w:World):FI μ ws w w:=⟨rfl,rfl,rfl,aV _,fun _ _ _=>rfl⟩
theorem bB.refl{P:Program}{μ:Mu}{w:World}{st:St}(h:bm P μ w st):bB P μ w st μ w st []:=
 ⟨h,fun _ _=>rfl,aV _,rfl,FI.refl μ [] w,fun i l hi hl=>absurd (h.cK i l hl).1 (by omega),fun _ _ _=>rfl,fun _ o' _ ho=>⟨o',ho,id,id⟩,fun _ h1 h2=>absurd h2 (by omega),fun _ hi=>absurd hi (by simp)⟩
theorem bB.trans{P:Program}{μ μ1 μ2:Mu}{w w1 w2:World}{st bR eh:St}{ws xW:List Nat}
  (h1:bB P μ w st μ1 w1 bR ws) (h2:bB P μ1 w1 bR μ2 w2 eh xW):bB P μ w st μ2 w2 eh (xW++ws) where
 hr:=h2.hr
 ext:=fun i hi=>(h2.ext i (dZ hi h1.fi)).trans (h1.ext i hi)
 fi:=lS h1.fi h2.fi
 wl:=by rw[h2.wl,h1.wl,nT]
 dk:=by
  refine⟨h2.dk.os.trans h1.dk.os,h2.dk.tape.trans h1.dk.tape,h2.dk.output.trans h1.dk.output,lS h1.dk.size h2.dk.size,fun b hb cM=>?_⟩
  rw[h2.dk.block b (dZ hb h1.dk.size) fun i hi l hl=>?_,h1.dk.block b hb fun i hi l hl=>cM i (by simp[hi]) l hl]
  by_cases zz:i<st.n
  ·exact cM i (by simp[hi]) l (by rw[<-h1.ext i zz];exact hl)
  ·rcases h1.new i l (by omega) hl with h|⟨j,hj,_,lj,oj,pF,nd,_⟩
   ·omega
   ·rw[<-nd];exact cM j (by simp[hj]) lj pF
 new:=fun i l hi hl=>by
  by_cases zz:i<bR.n
  ·rcases h1.new i l hi (by rw[<-h2.ext i zz];exact hl)with h|⟨j,hj,r⟩
   ·exact .inl h
   ·exact .inr ⟨j,by simp[hj],r⟩
  ·rcases h2.new i l (by omega) hl with h|⟨j,hj,wK,lj,oj,pF,nd,Bi,how⟩
   ·exact .inl (lS h1.dk.size h)
   ·by_cases hjn':j<st.n
    ·obtain⟨o,ho,hw,_⟩:=h1.grow j oj hjn' Bi
     exact .inr ⟨j,by simp[hj],hjn',lj,o,by rw[<-h1.ext j hjn'];exact pF,nd,ho,hw how⟩
    ·rcases h1.new j lj (by omega) pF with h|⟨j',FJ,r⟩
     ·exact .inl (by omega)
     ·obtain⟨r1,lj',oj',r2,r3,r4⟩:=r
      exact .inr ⟨j',by simp[FJ],r1,lj',oj',r2,r3.trans nd,r4⟩
 ad:=fun i hi cM=>by
  simp only[pw,not_or]at cM
  rw[h2.ad i (dZ hi h1.fi) cM.1,h1.ad i hi cM.2]
 grow:=fun i o' hi ho=>by
  obtain⟨o1,wL,a1,b1⟩:=h2.grow i o' (dZ hi h1.fi) ho
  obtain⟨o,ho,a,b⟩:=h1.grow i o1 hi wL
  exact⟨o,ho,a∘a1,b∘b1⟩
 full:=fun i fB jF=>by
  by_cases hi:i<bR.n
  ·obtain⟨l,hl⟩:=h1.full i fB hi
   exact⟨l,(h2.ext i hi).trans hl⟩
  ·exact h2.full i (by omega) jF
 rk:=fun i hi hn=>by
  simp only[pw]at hi
  rcases hi with hi|hi
  ·obtain⟨o1,wL,JD⟩:=h2.rk i hi (dZ hn h1.fi)
   obtain⟨o,ho,a,_⟩:=h1.grow i o1 hn wL
   exact⟨o,ho,a JD⟩
  ·exact h1.rk i hi hn
theorem bB.old{P:Program}{μ μ':Mu}{w w':World}{st av:St}{ws xW:List Nat}(h0:bm P μ w st)
  (h:bB P μ w st μ' w' av ws) (hs:∀i,i<st.n->(i∈xW↔i∈ws)):bB P μ w st μ' w' {av with w:=xW++st.w} xW where
 hr:=⟨h.hr.cK,h.hr.obj,h.hr.inj,h.hr.fE⟩
 ext:=h.ext
 fi:=h.fi
 wl:=rfl
 dk:=⟨h.dk.os,h.dk.tape,h.dk.output,h.dk.size,fun b hb cM=>h.dk.block b hb fun i hi l hl=>cM i ((hs i (h0.cK i l hl).1).2 hi) l hl⟩
 new:=fun i l hi hl=>by
  rcases h.new i l hi hl with h'|⟨j,hj,wK,r⟩
  ·exact .inl h'
  ·exact .inr ⟨j,(hs j wK).2 hj,wK,r⟩
 ad:=fun i hi cM=>h.ad i hi fun hc=>cM ((hs i hi).2 hc)
 grow:=h.grow
 full:=h.full
 rk:=fun i hi hn=>h.rk i ((hs i hn).1 hi) hn
theorem bm.drew{P:Program}{μ:Mu}{w:World}{st:St}(h:bm P μ w st)(n:Nat):bm P μ {w with drawn:=n} st:=
 ⟨h.cK,fun i l hl=>let ⟨o,h1,h2⟩:=h.obj i l hl;⟨o,h1,OM.congr (w:=w) rfl h2⟩,h.inj,h.fE⟩
theorem bB.alloc{P:Program}{μ:Mu}{w:World}{st:St}(h:bm P μ w st)(o:O)(ob:Obj)(d nb:Nat)
  (ho:OM P (fun i=>if i=st.n then some ⟨w.heap.size,d,nb⟩ else μ i) {w with heap:=w.heap.push ob} o ⟨w.heap.size,d,nb⟩):
  bB P μ w st (fun i=>if i=st.n then some ⟨w.heap.size,d,nb⟩ else μ i) {w with heap:=w.heap.push ob} (st.alloc o) []:=by
 have dc:∀i l,μ i=some l->(fun i=>if i=st.n then some (⟨w.heap.size,d,nb⟩:L) else μ i) i=some l:=fun i l hl=>by
  have:=(h.cK i l hl).1
  simp only
  rw[ar (by omega)];exact hl
 have hold:∀b,b<w.heap.size->({w with heap:=w.heap.push ob}:World).heap[b]?=w.heap[b]?:=fun b hb=>by
  show (w.heap.push ob)[b]?=_
  rw[Array.getElem?_push,ar (by omega)]
 refine⟨⟨fun i l hl=>?_,fun i l hl=>?_,fun i j l l' oi oj hi hj bA wL sI hw kg=>?_,fun g hg=>let ⟨t,ht⟩:=h.fE g hg;⟨t,dc g _ ht⟩⟩,fun i hi=>?_,by simp[St.alloc],rfl,⟨rfl,rfl,rfl,by simp,fun b hb _=>hold b hb⟩,
  fun i l hi hl=>?_,fun i hi _=>?_,fun i o' hi rl=>?_,fun i h1 h2=>⟨⟨w.heap.size,d,nb⟩,by simp only[St.alloc]at h2;show (if i=st.n then some (⟨w.heap.size,d,nb⟩:L) else μ i)=_;rw[aF (by omega)]⟩,fun _ hi=>absurd hi (by simp)⟩
 ·by_cases e:i=st.n
  ·simp only[e,if_true,ai]at hl;subst hl;simp[St.alloc,e]
  ·simp only[e,if_false]at hl
   have:=h.cK i l hl
   simp[St.alloc];omega
 ·by_cases e:i=st.n
  ·simp only[e,if_true,ai]at hl;subst hl
   exact⟨o,by simp[St.alloc,T.ah,e],ho⟩
  ·simp only[e,if_false]at hl
   obtain⟨o1,h1,h2⟩:=h.obj i l hl
   exact⟨o1,by simp[St.alloc,T.ah,e,h1],(h2.mono dc).congr (hold l.b (h.cK i l hl).2)⟩
 ·by_cases e:i=st.n
  ·by_cases e':j=st.n
   ·exact absurd (e.trans e'.symm) bA
   ·simp only[e,if_true,ai]at hi;simp only[e',if_false]at hj;subst hi
    have:=(h.cK j l' hj).2
    simp only;omega
  ·simp only[e,if_false]at hi
   by_cases e':j=st.n
   ·simp only[e',if_true,ai]at hj;subst hj
    have:=(h.cK i l hi).2
    simp only;omega
   ·simp only[e',if_false]at hj
    simp only[St.alloc,T.ah,e,e',if_false]at wL sI
    exact h.inj i j l l' oi oj hi hj bA wL sI hw kg
 ·rw[ar (by omega)]
 ·by_cases e:i=st.n
  ·simp only[e,if_true,ai]at hl;subst hl;exact .inl (aV _)
  ·simp only[e,if_false]at hl
   exact absurd (h.cK i l hl).1 (by omega)
 ·simp only[St.alloc,T.ah];rw[ar (by omega)]
 ·simp only[St.alloc,T.ah]at rl;rw[ar (by omega)]at rl
  exact⟨o',rl,id,id⟩
theorem bB.write{P:Program}{μ:Mu}{w w':World}{st:St}(h:bm P μ w st){i:Nat}{l:L}{o o':O}(hi:μ i=some l)(ho:st.h.get i=some o)(hw:o.wr=true)
  (uG:w'.os=w.os) (NY:w'.tape=w.tape) (NZ:w'.output=w.output) (iz:w'.heap.size=w.heap.size) (nf:∀b,b≠l.b->w'.heap[b]?=w.heap[b]?) (rl:OM P μ w' o' l):
  bB P μ w st μ w' (st.write i o') [i]:=by
 have rm:o.live=true:=by cases o<;>simp_all [O.wr,O.live]
 refine⟨⟨fun j lj hj=>?_,fun j lj hj=>?_,fun j k lj lk oj ok hj hk bA h1 h2 DN mm=>?_,h.fE⟩,fun _ _=>rfl,aV _,rfl,⟨uG,NY,NZ,by omega,fun b _ cM=>nf b ?_⟩,
  fun j lj hn hj=>?_,fun j _ cM=>?_,fun j oj hn hj=>?_,fun j h1 h2=>absurd h2 (by simp only[St.write];omega),fun j hj _=>by simp only[uf]at hj;subst hj;exact⟨o,ho,hw⟩⟩
 ·have:=h.cK j lj hj
  simp[St.write];omega
 ·by_cases e:j=i
  ·subst e
   rw[hi]at hj;cases hj
   exact⟨o',by simp[St.write,T.ah],rl⟩
  ·obtain⟨oj,h1,h2⟩:=h.obj j lj hj
   refine⟨oj,by simp[St.write,T.ah,e,h1],?_⟩
   cases hl:oj.live
   ·cases oj<;>simp[O.live]at hl
    trivial
   ·exact h2.congr (nf lj.b (Ne.symm (h.inj i j l lj o oj hi hj (Ne.symm e) ho h1 hw hl)))
 ·simp only[St.write,T.ah]at h1 h2
  by_cases e:j=i
  ·subst e
   rw[hi]at hj;cases hj
   rw[ar (Ne.symm bA)]at h2
   exact h.inj j k l lk o ok hi hk bA ho h2 hw mm
  ·rw[ar e]at h1
   by_cases e':k=i
   ·subst e'
    exact h.inj j k lj lk oj o hj hk bA h1 ho DN rm
   ·rw[ar e']at h2
    exact h.inj j k lj lk oj ok hj hk bA h1 h2 DN mm
 ·exact Ne.symm (cM i (by simp) l hi)
 ·exact absurd (h.cK j lj hj).1 (by omega)
 ·simp only[uf]at cM
  simp[St.write,T.ah,cM]
 ·simp only[St.write,T.ah]at hj
  by_cases e:j=i
  ·subst e
   exact⟨o,ho,fun _=>hw,fun _=>rm⟩
  ·rw[ar e]at hj
   exact⟨oj,hj,id,id⟩
end Go.Mx
