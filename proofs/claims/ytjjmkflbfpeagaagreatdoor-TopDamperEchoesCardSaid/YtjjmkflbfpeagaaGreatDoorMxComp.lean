/-Code of the Go model resolved for the ma-/
import Derived.Test.YtjjmkflbfpeagaaGreatDoorMxCore
import Derived.Laws.MakeOwn
import Derived.Laws.CopyRow
import Derived.Laws.Rows
import Derived.Laws.Append
import Derived.Laws.Externs
import Derived.Laws.StructEq
import Derived.RowKit
set_option linter.all false
namespace Go.Mx
mutual
def cV:Value->Option V
 |.bool b=>some (.bool b)
 |.int k n=>some (.int k n)
 |.float k n=>some (.jM k n)
 |.complex k a b=>some (.rp k a b)
 |.string s=>some (.str s.data.toList)
 |.pointer none=>some .bF
 |.slice none 0 0=>some .aa
 |.map none=>some .bL
 |.chan none=>some .bO
 |.nilFunc=>some .bP
 |.nilIface=>some .aZ
 |.agg ⟨l⟩=>match Gn l with
  |some l=>some (.agg l)
  |none=>none
 |.tuple ⟨l⟩=>match Gn l with
  |some l=>some (.aY l)
  |none=>none
 |_=>none
def Gn:List Value->Option (List V)
 |[]=>some []
 |v::vs=>match cV v,Gn vs with
  |some v,some vs=>some (v::vs)
  |_,_=>none
end
section
variable (P:Program)
def bk:Operand->Option Src
 |.tmp t=>some (.tmp t)
 |.const v=>match cV v with
  |some v=>some (.const v)
  |none=>none
 |.global g=>if g<P.globals.size then some (.const (.ptr g 0)) else none
 |.func f=>some (.const (.func f [] []))
def sH:List Operand->Option (List Src)
 |[]=>some []
 |x::xs=>match bk P x,sH xs with
  |some x,some xs=>some (x::xs)
  |_,_=>none
def p9:Option Operand->Option (Option Src)
 |none=>some none
 |some x=>match bk P x with
  |some x=>some (some x)
  |none=>none
def eD(t:TypeId):Option Nat:=(P.info? t).map (·.size)
def zl(t:TypeId):Option Nat:=(P.info? t).map (·.bytes)
def vn(t:TypeId):Option (Option Nat):=
 match P.underlying t with
 |some (.struct _)|some (.array _ _)=>match eD P t with
  |some n=>some (some n)
  |none=>none
 |some _=>some none
 |none=>none
def nv(t:TypeId):Option V:=
 match P.info? t with
 |some i=>match i.zero with
  |some v=>cV v
  |none=>none
 |none=>none
def M6:TypeDesc->Option PK
 |.bool=>some .bool
 |.int _=>some .int
 |.string=>some .str
 |.pointer _=>some .ptr
 |.slice _=>some .slice
 |.map _ _=>some .map
 |.func _ _ _=>some .func
 |.chan _ _=>some .chan
 |.interface _=>some .iface
 |_=>none
def Gp(q:TypeId->Option p_):List Field->Option (List (Nat×Option Nat×p_))
 |[]=>some []
 |f::fs=>if f.name= "_" then Gp q fs else
  match vn P f.type,q f.type,Gp q fs with
  |some a,some q,some l=>some ((f.offset,a,q)::l)
  |_,_,_=>none
def RY:TypeDesc->Bool
 |.pointer e=>(P.info? e).isSome
 |_=>true
def ui:Nat->TypeId->Option p_
 |0,_=>none
 |d+1,t=>
  match P.underlying t with
  |some (.struct fs)=>
   if P.stoodInHeld t then none else
   match Gp P (ui d) fs.toList with
   |some l=>some (.node l)
   |none=>none
  |some q=>match M6 q with
   |some k=>if RY P q=true then some (.cQ k) else none
   |none=>none
  |none=>none
def zm(place:Nat->Option (Nat×Nat)):List (Nat×Operand)->Option (List (Nat×Nat×Src))
 |[]=>some []
 |(i,x)::rest=>match place i,bk P x,zm place rest with
  |some (o,s),some x,some l=>some ((o,s,x)::l)
  |_,_,_=>none
def xu(t:TypeId):Option jN:=
 match P.underlying t with
 |some (.int k)=>some (.int k)
 |some .string=>some .str
 |_=>none
def De:Operand->Bool
 |.const _=>true
 |_=>false
def Gq(fs:List Field):Option (List (Nat×Nat)):=
 match fs with
 |[]=>some []
 |f::fs=>match eD P f.type,Gq fs with
  |some s,some l=>some ((f.offset,s)::l)
  |_,_=>none
def wu(name:String):Option Ext:=
 if name= "math/bits.Add64" then some .mB
 else if name= "math/bits.Sub64" then some .mC
 else if name= "internal/abi.NoEscape" then some .same
 else if name= "internal/bytealg.IndexByteString" then some .bV
 else if name= "math.Float64bits" then some .uj
 else if name= "math.Float64frombits" then some .uk
 else none
def BL(c:Call):Option fS:=
 match c.callee with
 |.value f=>match sH P c.args.toList with
  |none=>none
  |some args=>match f with
   |.func g=>match P.funcs[g]? with
    |some fn=>if fn.body.isSome then some (.call (.const (.func g [] [])) args) else
     match wu fn.name with
     |some e=>some (.ext e args)
     |none=>none
    |none=>none
   |f=>match bk P f with
    |some f=>some (.call f args)
    |none=>none
 |.invoke _ _=>none
 |.builtin b=>
  match b,c.argTypes.toList,c.args.toList with
  |.len,[t],[x]=>
   match P.underlying t,bk P x with
   |some .string,some x=>some (.len 0 x)
   |some (.slice _),some x=>some (.len 1 x)
   |some (.map _ _),some x=>some (.len 2 x)
   |some (.array n _),_=>some (.mD n)
   |some (.pointer a),_=>match P.underlying a with
    |some (.array n _)=>some (.mD n)
    |_=>none
   |_,_=>none
  |.cap,[t],[x]=>
   match P.underlying t,bk P x with
   |some (.slice _),some x=>some (.cap x)
   |_,_=>none
  |.min,_,_=>match sH P c.args.toList with
   |some l=>some (.mn l)
   |none=>none
  |.max,_,_=>match sH P c.args.toList with
   |some l=>some (.mx l)
   |none=>none
  |.append,[t,u],[s,x]=>
   match P.underlying t with
   |some (.slice e)=>match eD P e,zl P e,nv P e,bk P s,bk P x,P.underlying u with
    |some n,some b,some z,some s,some x,some d=>if (d matches .int _)\/b=0\/z.cells.length≠n\/z.cells.all V.one=false then none else some (.append n b e z.cells s x)
    |_,_,_,_,_,_=>none
   |_=>none
  |.copy,t::_,[d,s]=>
   match P.underlying t with
   |some (.slice e)=>match eD P e,bk P d,bk P s with
    |some n,some d,some s=>some (.copy n d s)
    |_,_,_=>none
   |_=>none
  |.clear,[t],[s]=>
   match P.underlying t with
   |some (.slice e)=>match eD P e,nv P e,bk P s with
    |some n,some z,some s=>if z.cells.all V.one then some (.clear n z.cells s) else none
    |_,_,_=>none
   |_=>none
  |.unsafeSliceData,[_],[s]=>(bk P s).map .xw
  |.real,[_],[s]=>(bk P s).map (.part false)
  |.imag,[_],[s]=>(bk P s).map (.part true)
  |.unsafeString,[t,_],[x,n]=>
   match P.underlying t with
   |some (.pointer e)=>match eD P e,bk P x,bk P n with
    |some 1,some x,some n=>some (.Df e x n)
    |_,_,_=>none
   |_=>none
  |_,_,_=>none
def uo(t:TypeId):Bool:=match P.underlying t with
 |some (.float _)=>true
 |_=>false
def Gs:Op->Option fS
 |.move x|.assign x=>(bk P x).map .mF
 |.pick c a b=>match bk P c,bk P a,bk P b with
  |some c,some a,some b=>some (.pick c a b)
  |_,_,_=>none
 |.alloc e=>match nv P e with
  |some z=>if z.cells.all V.one then some (.alloc z.cells e) else none
  |none=>none
 |.box e x=>(bk P x).map (.box e)
 |.build t parts=>match nv P t with
  |none=>none
  |some z=>match P.underlying t with
   |some (.struct fs)=>match Gq P fs.toList with
    |some pl=>(zm P (pl[·]?) parts.toList).map (.build z.cells)
    |none=>none
   |some (.array _ e)=>match eD P e with
    |some s=>(zm P (fun i=>some (i*s,s)) parts.toList).map (.build z.cells)
    |none=>none
   |_=>none
 |.buildSlice t len parts=>match P.underlying t with
  |some (.slice e)=>match eD P e,nv P e with
   |some s,some z=>if len*s > 2^24\/z.cells.length≠s\/s=0 then none else
    (zm P (fun i=>some (i*s,s)) parts.toList).map (.mH e s len (df z.cells len))
   |_,_=>none
  |_=>none
 |.load t a=>match vn P t,bk P a with
  |some n,some a=>some (.load n a)
  |_,_=>none
 |.store t a x=>match eD P t,bk P a,bk P x with
  |some n,some a,some x=>some (.store n a x)
  |_,_,_=>none
 |.nilCheck x=>(bk P x).map .mI
 |.binOp op t x y _=>match bk P x,bk P y with
  |some a,some b=>
   if uo P t=true then some (.Dh op a b) else
   match op with
   |.eql|.neq=>match ui P 40 t with
    |some q=>if (match P.underlying t with|some (.struct _)|some (.array _ _)=>P.eqGuardType P.depth t|_=>false) then none else some (.bin op q (De x||De y) a b)
    |none=>none
   |_=>some (.bin op (.node []) false a b)
  |_,_=>none
 |.unOp op _ x=>(bk P x).map (.un op)
 |.convert src dst x=>match bk P x with
  |none=>none
  |some a=>match P.underlying src,P.underlying dst with
   |some (.int _),some (.int k)=>some (.cR k a)
   |some (.float _),some (.int k)=>some (.Dj k a)
   |some .string,some .string=>some (.kW a)
   |some .string,some (.slice e)=>match P.underlying e with
    |some (.int .u8)=>some (.iZ e a)
    |_=>none
   |some (.slice e),some .string=>match P.underlying e with
    |some (.int .u8)=>some (.mJ a)
    |_=>none
   |some (.pointer t),some .unsafePointer=>match eD P t with
    |some (_+1)=>some (.Gt none a)
    |_=>none
   |some .unsafePointer,some (.pointer u)=>match eD P u with
    |some (z+1)=>some (.Gt (some (u,z+1)) a)
    |_=>none
   |_,_=>none
 |.makeInterface t x=>match P.underlying t with
  |some (.interface _)=>none
  |some _=>(bk P x).map (.gQ t)
  |none=>none
 |.makeFunc (.func f) first fT=>match sH P first.toList,sH P fT.toList with
  |some a,some l=>some (.mL f a l)
  |_,_=>none
 |.makeMap _ none=>some .uv
 |.makeChan t n=>match P.underlying t with
  |some (.chan _ e)=>match zl P e,bk P n with
   |some b,some n=>some (.oY b n)
   |_,_=>none
  |_=>none
 |.makeSlice t l c=>match P.underlying t with
  |some (.slice e)=>match eD P e,zl P e,nv P e,bk P l,bk P c with
   |some s,some b,some z,some l,some c=>if z.cells.all V.one then some (.i_ e s b z.cells l c) else none
   |_,_,_,_,_=>none
  |_=>none
 |.slice t x lo hi mx=>match bk P x,p9 P lo,p9 P hi,p9 P mx with
  |some x,some lo,some hi,some mx=>match P.underlying t with
   |some .string=>if mx.isSome then none else some (.cr x lo hi)
   |some (.slice e)=>(eD P e).map fun s=>.kY s x lo hi mx
   |some (.array n e)=>(eD P e).map fun s=>.ja n s x lo hi mx
   |_=>none
  |_,_,_,_=>none
 |.fieldAddr t x i=>match P.underlying t,bk P x with
  |some (.struct fs),some x=>match fs[i]? with
   |some f=>match eD P f.type with
    |some (_+1)=>some (.og f.offset x)
    |_=>none
   |none=>none
  |_,_=>none
 |.field t x i=>match P.underlying t,bk P x with
  |some (.struct fs),some x=>match fs[i]? with
   |some f=>(vn P f.type).map fun n=>.field f.offset n x
   |none=>none
  |_,_=>none
 |.indexAddr t x i=>match P.underlying t,bk P x,bk P i with
  |some (.array n e),some x,some i=>(eD P e).map fun s=>.gg n s x i
  |some (.slice e),some x,some i=>(eD P e).map fun s=>.c_ s x i
  |_,_,_=>none
 |.index t x i=>match P.underlying t,bk P x,bk P i with
  |some (.array n e),some x,some i=>match eD P e,vn P e with
   |some s,some a=>some (.oZ n s a x i)
   |_,_=>none
  |some .string,some x,some i=>some (.bG x i)
  |_,_,_=>none
 |.lookup t m k ok=>match P.underlying t,bk P m,bk P k with
  |some (.map kt e),some m,some k=>match xu P kt,nv P e with
   |some kd,some z=>some (.lookup kd z m k ok)
   |_,_=>none
  |_,_,_=>none
 |.mapUpdate t m k v|.insert t m k v=>match P.underlying t,bk P m,bk P k,bk P v with
  |some (.map kt _),some m,some k,some v=>(xu P kt).map fun kd=>.sI kd m k v
  |_,_,_,_=>none
 |.range t x=>match P.underlying t,bk P x with
  |some .string,some x=>some (.jb x)
  |some (.map _ _),some x=>some (.rangeMap x)
  |_,_=>none
 |.next it true=>(bk P it).map .o8
 |.next it false=>(bk P it).map .o9
 |.extract x i=>(bk P x).map fun x=>.extract x i
 |.call c=>BL P c
 |_=>none
def xx(o:Op):fS:=(Gs P o).getD .stop
def Dd(ops:Array Oper):Option (Nat×Bool)->Option (Option (Nat×Bool))
 |none=>some none
 |some (j,want)=>match (ops[j]?).bind (·.dst)with
  |some t=>some (some (t,want))
  |none=>none
def oX(ops:Array Oper)(o:Oper):dk:=
 match Dd ops o.guard with
 |some g=>{dst:=o.dst,op:=xx P o.op,guard:=g}
 |none=>{dst:=o.dst,op:=.stop,guard:=none}
def Iz(o:Oper)(ms:List Nat):Nat:=
 o.after.foldl (fun s e=>if Region.binds .any e then s|||2^e.on|||ms.getD e.on 0 else s) 0
def sE:List Oper->List Nat->List Nat
 |[],acc=>acc
 |o::rest,acc=>sE rest (acc++[Iz o acc])
def M3(o:Oper):Option (Option Nat×Src×Option Src×V):=
 match o.op,o.guard with
 |.select cs false,none=>match cs.toList with
  |[c]=>match bk P c.chan,p9 P c.send,nv P c.elem with
   |some ch,some s,some z=>some (o.dst,ch,s,z)
   |_,_,_=>none
  |_=>none
 |_,_=>none
def Gu:Nat->List Oper->Bool
 |_,[]=>true
 |i,o::os=>(o.after.all fun e=>!Region.binds .any e||Nat.blt e.on i)&&Gu (i+1) os
def RU(ops:Array Oper):Bool:=Gu 0 ops.toList&&cD M7 (ops.toList.map (oX P ops)) (sE ops.toList [])
def ij:Code->cj
 |.skip=>.skip
 |.region _ ops false=>match ops.toList with
  |[]=>.fL []
  |o::rest=>match M3 P o with
   |some (d,ch,s,z)=>.vo d ch s z (rest.map (oX P ops))
   |none=>.fL ((o::rest).map (oX P ops))
 |.region _ ops true=>if RU P ops then .fy (ops.toList.map (oX P ops)) (sE ops.toList []) else .stop
 |.seq a b=>.seq (ij a) (ij b)
 |.cond c a b=>match bk P c with
  |some c=>.cond c (ij a) (ij b)
  |none=>.stop
 |.block id c=>.block id (ij c)
 |.loop c=>.loop (ij c)
 |.rangeFunc g ps assign body=>match bk P g with
  |some g=>.o_ g ps.toList (ij assign) (ij body)
  |none=>.stop
 |.exit id=>.exit id
 |.scope c=>.scope (ij c)
 |.label _=>.skip
 |.goto _=>.stop
 |.ret=>.ret
 |.refuse _=>.stop
def BM:List ResultVar->Option (List Dk)
 |[]=>some []
 |.tmp t::rest=>(BM rest).map (.tmp t::·)
 |.cell t ty::rest=>match vn P ty,BM rest with
  |some n,some l=>some (.cell t n::l)
  |_,_=>none
def wv(f:FuncId):Option jX:=
 match P.funcs[f]? with
 |some fn=>match fn.body,BM P fn.results.toList with
  |some c,some rs=>some {ntmps:=fn.ntmps,results:=rs,body:=ij P c}
  |_,_=>none
 |none=>none
end
open Go
structure L where
 b:Nat
 d:Nat
 pc:Nat
abbrev Mu:=Nat->Option L
mutual
def VR(μ:Mu):V->Value->Prop
 |.bool b,x=>x=.bool b
 |.int k n,x=>x=.int k n
 |.jM k n,x=>x=.float k n
 |.rp k a b,x=>x=.complex k a b
 |.str s,x=>x=.string ⟨s.toArray⟩
 |.bF,x=>x=.pointer none
 |.ptr i o,x=>∃l,μ i=some l/\x=.pointer (some ⟨l.b,l.d+o,none⟩)
 |.aa,x=>x=.slice none 0 0
 |.slice i o len cap sz,x=>∃l c,μ i=some l/\x=.slice (some ⟨l.b,l.d+o,none⟩) len c/\len<=c/\o+c*sz<=l.pc/\
   (∀k,cap=some k->c=k)/\(cap=none->o+c*sz=l.pc)
 |.empty,x=>∃a c,x=.slice (some a) 0 c
 |.bL,x=>x=.map none
 |.map i,x=>∃l,μ i=some l/\x=.map (some l.b)
 |.bO,x=>x=.chan none
 |.chan i,x=>∃l,μ i=some l/\x=.chan (some l.b)
 |.func f a c,x=>∃a' c',x=.func (.func f) ⟨a'⟩ ⟨c'⟩/\aP μ a a'/\aP μ c c'
 |.yield i,x=>∃l,μ i=some l/\x=.func (.yield l.b) #[] #[]
 |.bP,x=>x=.nilFunc
 |.iface t v,x=>∃y,x=.iface t y/\VR μ v y
 |.aZ,x=>x=.nilIface
 |.agg vs,x=>∃a,x=.agg ⟨a⟩/\aP μ vs a
 |.aY vs,x=>∃a,x=.tuple ⟨a⟩/\aP μ vs a
def aP(μ:Mu):List V->List Value->Prop
 |[],xs=>xs=[]
 |v::vs,xs=>∃y ys,xs=y::ys/\VR μ v y/\aP μ vs ys
end
mutual
def VR.mono{μ μ':Mu}(h:∀i l,μ i=some l->μ' i=some l):∀(v:V) (x:Value),VR μ v x->VR μ' v x
 |.bool _,_,hx=>by simpa[VR]using hx
 |.int _ _,_,hx=>by simpa[VR]using hx
 |.jM _ _,_,hx=>by simpa[VR]using hx
 |.rp _ _ _,_,hx=>by simpa[VR]using hx
 |.str _,_,hx=>by simpa[VR]using hx
 |.bF,_,hx=>by simpa[VR]using hx
 |.ptr _ _,_,hx=>by simp only[VR]at*;obtain⟨l,h1,h2⟩:=hx;exact⟨l,h _ _ h1,h2⟩
 |.aa,_,hx=>by simpa[VR]using hx
 |.slice _ _ _ _ _,_,hx=>by simp only[VR]at*;obtain⟨l,c,h1,h2⟩:=hx;exact⟨l,c,h _ _ h1,h2⟩
 |.empty,_,hx=>by simpa[VR]using hx
 |.bL,_,hx=>by simpa[VR]using hx
 |.map _,_,hx=>by simp only[VR]at*;obtain⟨l,h1,h2⟩:=hx;exact⟨l,h _ _ h1,h2⟩
 |.bO,_,hx=>by simpa[VR]using hx
 |.chan _,_,hx=>by simp only[VR]at*;obtain⟨l,h1,h2⟩:=hx;exact⟨l,h _ _ h1,h2⟩
 |.func _ a c,_,hx=>by
  simp only[VR]at*;obtain⟨a',c',h1,h2,h3⟩:=hx
  exact⟨a',c',h1,aP.mono h a a' h2,aP.mono h c c' h3⟩
 |.yield _,_,hx=>by simp only[VR]at*;obtain⟨l,h1,h2⟩:=hx;exact⟨l,h _ _ h1,h2⟩
 |.bP,_,hx=>by simpa[VR]using hx
 |.iface _ v,_,hx=>by simp only[VR]at*;obtain⟨y,h1,h2⟩:=hx;exact⟨y,h1,VR.mono h v y h2⟩
 |.aZ,_,hx=>by simpa[VR]using hx
 |.agg vs,_,hx=>by simp only[VR]at*;obtain⟨a,h1,h2⟩:=hx;exact⟨a,h1,aP.mono h vs a h2⟩
 |.aY vs,_,hx=>by simp only[VR]at*;obtain⟨a,h1,h2⟩:=hx;exact⟨a,h1,aP.mono h vs a h2⟩
def aP.mono{μ μ':Mu}(h:∀i l,μ i=some l->μ' i=some l):∀(vs:List V) (xs:List Value),aP μ vs xs->aP μ' vs xs
 |[],_,hx=>by simpa[aP]using hx
 |v::vs,_,hx=>by
  simp only[aP]at*
  obtain⟨y,ys,h1,h2,h3⟩:=hx
  exact⟨y,ys,h1,VR.mono h v y h2,aP.mono h vs ys h3⟩
end
section
variable {μ:Mu}
def fM{v:V}{vs:List V}{xs:List Value}:aP μ (v::vs) xs↔∃y ys,xs=y::ys/\VR μ v y/\aP μ vs ys:=by simp[aP]
def aP.length:∀{vs:List V} {xs:List Value},aP μ vs xs->xs.length=vs.length
 |[],_,h=>by simp[aP]at h;simp[h]
 |v::vs,_,h=>by
  obtain⟨y,ys,rfl,_,h3⟩:=fM.1 h
  simp[aP.length h3]
def aP.get:∀{vs:List V} {xs:List Value},aP μ vs xs->∀{i:Nat} {v:V},vs[i]?=some v->∃x,xs[i]?=some x/\VR μ v x
 |[],_,_,i,v,hv=>by simp at hv
 |w::vs,_,h,i,v,hv=>by
  obtain⟨y,ys,rfl,h2,h3⟩:=fM.1 h
  cases i with
  |zero=>simp at hv;subst hv;exact⟨y,by simp,h2⟩
  |succ i=>simpa using aP.get h3 (i:=i) (by simpa using hv)
def aP.append:∀{vs ws:List V} {xs ys:List Value},aP μ vs xs->aP μ ws ys->aP μ (vs++ws) (xs++ys)
 |[],ws,_,ys,h,h'=>by simp[aP]at h;simpa[h]using h'
 |v::vs,ws,_,ys,h,h'=>by
  obtain⟨y,zs,rfl,h2,h3⟩:=fM.1 h
  exact fM.2 ⟨y,zs++ys,rfl,h2,aP.append h3 h'⟩
def aP.take:∀{vs:List V} {xs:List Value} (n:Nat),aP μ vs xs->aP μ (vs.take n) (xs.take n)
 |[],_,n,h=>by simp[aP]at h;simp[h,aP]
 |v::vs,_,n,h=>by
  obtain⟨y,zs,rfl,h2,h3⟩:=fM.1 h
  cases n with
  |zero=>simp[aP]
  |succ n=>exact fM.2 ⟨y,zs.take n,rfl,h2,aP.take n h3⟩
def aP.drop:∀{vs:List V} {xs:List Value} (n:Nat),aP μ vs xs->aP μ (vs.drop n) (xs.drop n)
 |[],_,n,h=>by simp[aP]at h;simp[h,aP]
 |v::vs,_,n,h=>by
  cases n with
  |zero=>simpa using h
  |succ n=>
   obtain⟨y,zs,rfl,h2,h3⟩:=fM.1 h
   simpa using aP.drop n h3
def aP.pd:∀{vs:List V} {xs:List Value},xs.length=vs.length->(∀(i:Nat) (v:V),vs[i]?=some v->∃x,xs[i]?=some x/\VR μ v x)->aP μ vs xs
 |[],xs,hl,_=>by simp at hl;simp[aP,hl]
 |v::vs,[],hl,_=>by simp at hl
 |v::vs,x::xs,hl,h=>by
  refine fM.2 ⟨x,xs,rfl,?_,aP.pd (by simpa using hl) fun i u hu=>?_⟩
  ·obtain⟨y,h1,h2⟩:=h 0 v (by simp)
   simp at h1;subst h1;exact h2
  ·simpa using h (i+1) u (by simpa using hu)
def VR.one{v:V}{x:Value}(h:VR μ v x)(hv:v.one=true):x.oneCell'=true:=by
 cases v<;>simp only[VR]at h<;>simp only[V.one,fY]at hv
 case bool=>subst h;rfl
 case int=>subst h;rfl
 case jM=>subst h;rfl
 case rp=>subst h;rfl
 case str=>subst h;rfl
 case bF=>subst h;rfl
 case ptr=>obtain⟨l,_,rfl⟩:=h;rfl
 case aa=>subst h;rfl
 case slice=>obtain⟨l,c,_,rfl,_⟩:=h;rfl
 case empty=>obtain⟨a,c,rfl⟩:=h;rfl
 case bL=>subst h;rfl
 case map=>obtain⟨l,_,rfl⟩:=h;rfl
 case bO=>subst h;rfl
 case chan=>obtain⟨l,_,rfl⟩:=h;rfl
 case func=>obtain⟨a,c,rfl,_⟩:=h;rfl
 case yield=>obtain⟨l,_,rfl⟩:=h;rfl
 case bP=>subst h;rfl
 case iface=>obtain⟨y,rfl,_⟩:=h;rfl
 case aZ=>subst h;rfl
def VR.cells{v:V}{x:Value}(h:VR μ v x):aP μ v.cells x.cells.toList:=by
 have one:∀y:Value,x=y->(y.cells=#[y])->v.cells=[v]->aP μ v.cells x.cells.toList:=fun y e hc hv=>by
  subst e;rw[hc,hv];exact fM.2 ⟨_,[],rfl,h,by simp[aP]⟩
 have h0:=h
 cases v<;>simp only[VR]at h
 case bool=>exact one _ h rfl rfl
 case int=>exact one _ h rfl rfl
 case jM=>exact one _ h rfl rfl
 case rp=>exact one _ h rfl rfl
 case str=>exact one _ h rfl rfl
 case bF=>exact one _ h rfl rfl
 case ptr=>obtain⟨l,_,e⟩:=h;exact one _ e rfl rfl
 case aa=>exact one _ h rfl rfl
 case slice=>obtain⟨l,c,_,e,_⟩:=h;exact one _ e rfl rfl
 case empty=>obtain⟨a,c,e⟩:=h;exact one _ e rfl rfl
 case bL=>exact one _ h rfl rfl
 case map=>obtain⟨l,_,e⟩:=h;exact one _ e rfl rfl
 case bO=>exact one _ h rfl rfl
 case chan=>obtain⟨l,_,e⟩:=h;exact one _ e rfl rfl
 case func=>obtain⟨a,c,e,_⟩:=h;exact one _ e rfl rfl
 case yield=>obtain⟨l,_,e⟩:=h;exact one _ e rfl rfl
 case bP=>exact one _ h rfl rfl
 case iface=>obtain⟨y,e,_⟩:=h;exact one _ e rfl rfl
 case aZ=>exact one _ h rfl rfl
 case agg vs=>obtain⟨a,rfl,h⟩:=h;exact h
 case aY vs=>obtain⟨a,e,_⟩:=h;exact one _ e rfl rfl
end
def RR(μ:Mu)(r:T V)(n:Nat)(tmps:Array Value):Prop:=
 tmps.size=n/\∀t v,r.get t=some v->∃x,tmps[t]?=some x/\VR μ v x
def RR.mono{μ μ':Mu}{r:T V}{n:Nat}{tmps:Array Value}(h:∀i l,μ i=some l->μ' i=some l)(hr:RR μ r n tmps):RR μ' r n tmps:=
 ⟨hr.1,fun t v hv=>let ⟨x,h1,h2⟩:=hr.2 t v hv;⟨x,h1,VR.mono h v x h2⟩⟩
def RR.set{μ:Mu}{r:T V}{n:Nat}{tmps:Array Value}(hr:RR μ r n tmps){d:Nat}(hd:d<n){v:V}{x:Value}(hv:VR μ v x):
  RR μ (r.set d v) n (tmps.setIfInBounds d x):=by
 refine⟨by simp[hr.1],fun t u hu=>?_⟩
 rw[T.ai]at hu
 by_cases e:t=d
 ·subst e
  simp at hu;subst hu
  exact⟨x,by simp[hr.1,hd],hv⟩
 ·simp[e]at hu
  obtain⟨y,h1,h2⟩:=hr.2 t u hu
  exact⟨y,by rw[Gw (Ne.symm e)];exact h1,h2⟩
def xy:Ex->Option Code
 |.normal=>none
 |.exit id=>some (.exit id)
 |.ret=>some .ret
def gR(μ:Mu):List (V×V)->List MapEntry->Nat->Prop
 |[],xs,_=>xs=[]
 |(k,v)::es,xs,i=>∃e ys,xs=e::ys/\VR μ k e.key/\VR μ v e.val/\e.born=i/\gR μ es ys (i+1)
def gR.mono{μ μ':Mu}(h:∀i l,μ i=some l->μ' i=some l):∀(es:List (V×V)) (xs:List MapEntry) (i:Nat),gR μ es xs i->gR μ' es xs i
 |[],_,_,hx=>hx
 |(k,v)::es,_,i,hx=>by
  obtain⟨e,ys,h1,h2,h3,h4,h5⟩:=hx
  exact⟨e,ys,h1,VR.mono h k _ h2,VR.mono h v _ h3,h4,gR.mono h es ys (i+1) h5⟩
def OM(P:Program)(μ:Mu)(w:World):O->L->Prop
 |.cells c e rw,l=>∃(c':Array Value) (lo hi:Nat),w.heap[l.b]?=some (.cells c' e (lo,hi))/\l.d+l.pc<=c'.size/\c.length<=l.pc/\
   (∀(j:Nat) (v:V),c[j]?=some v->∃x,c'[l.d+j]?=some x/\VR μ v x)/\(∀(j:Nat) (x:Value),j<l.pc->c'[l.d+j]?=some x->x.oneCell'=true)/\(rw=true->l.d=0/\∀j,j<l.pc->¬(lo<=l.d+j/\l.d+j<hi))
 |.map es,l=>∃e_:List MapEntry,w.heap[l.b]?=some (.map ⟨e_⟩ e_.length)/\gR μ es e_ 0
 |.chan cap buf,l=>∃(pe:List Value) (s r:Nat),w.heap[l.b]?=some (.chan cap ⟨pe⟩ false s r false)/\aP μ buf pe
 |.ef s pos,l=>w.heap[l.b]?=some (.stringIter ⟨s.toArray⟩ pos)/\l.d=0
 |.gh m,l=>∃lm,μ m=some lm/\(∃since last,w.heap[l.b]?=some (.mapIter (some lm.b) since #[] last))/\l.d=0
 |.loop R,l=>∃fn tmps fw fx ld,w.heap[l.b]?=some (.loop {state:=R.st,pending:=R.ik.bind xy,fn:=fn,tmps:=tmps,params:=⟨R.ps⟩,assign:=fw,body:=fx,defers:=ld.b})/\
   RR μ R.r R.n tmps/\ij P fw=R.assign/\ij P fx=R.body/\μ R.defs=some ld
 |.defs o,l=>w.heap[l.b]?=some (.deferred (if o then some [] else none))
 |.dead,_=>True
def OM.mono{P:Program}{μ μ':Mu}{w:World}(h:∀i l,μ i=some l->μ' i=some l){o:O}{l:L}(ho:OM P μ w o l):OM P μ' w o l:=by
 cases o with
 |cells c e rw=>
  obtain⟨c',lo,hi,h1,h2,h3,h4,h5⟩:=ho
  exact⟨c',lo,hi,h1,h2,h3,fun j v hv=>let ⟨x,a,b⟩:=h4 j v hv;⟨x,a,VR.mono h v x b⟩,h5⟩
 |map es=>obtain⟨e_,h1,h2⟩:=ho;exact⟨e_,h1,gR.mono h _ _ _ h2⟩
 |chan cap buf=>obtain⟨b',s,r,h1,h2⟩:=ho;exact⟨b',s,r,h1,aP.mono h _ _ h2⟩
 |ef s pos=>simp only[OM]at*;exact ho
 |gh m=>obtain⟨lm,h1,h2⟩:=ho;exact⟨lm,h _ _ h1,h2⟩
 |loop R=>obtain⟨fn,tmps,fw,fx,ld,h1,h2,h3,h4,h5⟩:=ho;exact⟨fn,tmps,fw,fx,ld,h1,h2.mono h,h3,h4,h _ _ h5⟩
 |defs b=>simp only[OM]at*;exact ho
 |dead=>trivial
def OM.congr{P:Program}{μ:Mu}{w w':World}{o:O}{l:L}(hb:w'.heap[l.b]?=w.heap[l.b]?)(ho:OM P μ w o l):OM P μ w' o l:=by
 cases o with
 |cells c e rw=>obtain⟨c',lo,hi,h1,h2⟩:=ho;exact⟨c',lo,hi,hb.trans h1,h2⟩
 |map es=>obtain⟨e_,h1,h2⟩:=ho;exact⟨e_,hb.trans h1,h2⟩
 |chan cap buf=>obtain⟨b',s,r,h1,h2⟩:=ho;exact⟨b',s,r,hb.trans h1,h2⟩
 |ef s pos=>exact⟨hb.trans ho.1,ho.2⟩
 |gh m=>obtain⟨lm,h1,⟨a,b,h2⟩,h3⟩:=ho;exact⟨lm,h1,⟨a,b,hb.trans h2⟩,h3⟩
 |loop R=>obtain⟨fn,tmps,fw,fx,ld,h1,h2⟩:=ho;exact⟨fn,tmps,fw,fx,ld,hb.trans h1,h2⟩
 |defs b=>exact hb.trans ho
 |dead=>trivial
structure a_ (P:Program) (μ:Mu) (w:World) (st:St):Prop where
 cU:∀i l,μ i=some l->i<st.n/\l.b<w.heap.size
 obj:∀i l,μ i=some l->∃o,st.h.get i=some o/\OM P μ w o l
 inj:∀i j l l' o o',μ i=some l->μ j=some l'->i≠j->st.h.get i=some o->st.h.get j=some o'->o.wr=true->o'.live=true->l.b≠l'.b
 gj:∀g,g<P.globals.size->∃t,μ g=some ⟨g,0,t⟩
structure IA (μ:Mu) (ws:List Nat) (w w':World):Prop where
 os:w'.os=w.os
 tape:w'.tape=w.tape
 output:w'.output=w.output
 size:w.heap.size<=w'.heap.size
 block:∀b,b<w.heap.size->(∀i∈ws,∀l,μ i=some l->l.b≠b)->w'.heap[b]?=w.heap[b]?
structure bA (P:Program) (μ:Mu) (w:World) (st:St) (μ':Mu) (w':World) (ax:St) (ws:List Nat):Prop where
 hr:a_ P μ' w' ax
 ext:∀i,i<st.n->μ' i=μ i
 gJ:st.n<=ax.n
 wl:ax.w=ws++st.w
 dV:IA μ ws w w'
 new:∀i l,st.n<=i->μ' i=some l->w.heap.size<=l.b\/∃j∈ws,j<st.n/\∃lj oj,μ j=some lj/\lj.b=l.b/\st.h.get j=some oj/\oj.wr=true
 ae:∀i,i<st.n->i∉ws->ax.h.get i=st.h.get i
 grow:∀i o',i<st.n->ax.h.get i=some o'->∃o,st.h.get i=some o/\(o'.wr=true->o.wr=true)/\(o'.live=true->o.live=true)
 full:∀i,st.n<=i->i<ax.n->∃l,μ' i=some l
 wA:∀i∈ws,i<st.n->∃o,st.h.get i=some o/\o.wr=true
def a_.Dl{P:Program}{μ μ':Mu}{w:World}{st:St}(h:a_ P μ w st)(he:∀i,i<st.n->μ' i=μ i):∀i l,μ i=some l->μ' i=some l:=
 fun i l hi=>(he i (h.cU i l hi).1).trans hi
def IA.refl(μ:Mu)(ws:List Nat)(w:World):IA μ ws w w:=⟨rfl,rfl,rfl,aR _,fun _ _ _=>rfl⟩
def bA.refl{P:Program}{μ:Mu}{w:World}{st:St}(h:a_ P μ w st):bA P μ w st μ w st []:=
 ⟨h,fun _ _=>rfl,aR _,rfl,IA.refl μ [] w,fun i l hi hl=>absurd (h.cU i l hl).1 (by omega),fun _ _ _=>rfl,fun _ o' _ ho=>⟨o',ho,id,id⟩,fun _ h1 h2=>absurd h2 (by omega),fun _ hi=>absurd hi (by simp)⟩
def bA.trans{P:Program}{μ μ1 μ2:Mu}{w w1 w2:World}{st bU eI:St}{ws Ix:List Nat}
  (h1:bA P μ w st μ1 w1 bU ws) (h2:bA P μ1 w1 bU μ2 w2 eI Ix):bA P μ w st μ2 w2 eI (Ix++ws) where
 hr:=h2.hr
 ext:=fun i hi=>(h2.ext i (ic hi h1.gJ)).trans (h1.ext i hi)
 gJ:=qz h1.gJ h2.gJ
 wl:=by rw[h2.wl,h1.wl,qs]
 dV:=by
  refine⟨h2.dV.os.trans h1.dV.os,h2.dV.tape.trans h1.dV.tape,h2.dV.output.trans h1.dV.output,qz h1.dV.size h2.dV.size,fun b hb dq=>?_⟩
  rw[h2.dV.block b (ic hb h1.dV.size) fun i hi l hl=>?_,h1.dV.block b hb fun i hi l hl=>dq i (by simp[hi]) l hl]
  by_cases BN:i<st.n
  ·exact dq i (by simp[hi]) l (by rw[<-h1.ext i BN];exact hl)
  ·rcases h1.new i l (by omega) hl with h|⟨j,hj,_,lj,oj,ry,uw,_⟩
   ·omega
   ·rw[<-uw];exact dq j (by simp[hj]) lj ry
 new:=fun i l hi hl=>by
  by_cases BN:i<bU.n
  ·rcases h1.new i l hi (by rw[<-h2.ext i BN];exact hl)with h|⟨j,hj,r⟩
   ·exact .inl h
   ·exact .inr ⟨j,by simp[hj],r⟩
  ·rcases h2.new i l (by omega) hl with h|⟨j,hj,Dm,lj,oj,ry,uw,Dp,how⟩
   ·exact .inl (qz h1.dV.size h)
   ·by_cases hjn':j<st.n
    ·obtain⟨o,ho,hw,_⟩:=h1.grow j oj hjn' Dp
     exact .inr ⟨j,by simp[hj],hjn',lj,o,by rw[<-h1.ext j hjn'];exact ry,uw,ho,hw how⟩
    ·rcases h1.new j lj (by omega) ry with h|⟨j',IB,r⟩
     ·exact .inl (by omega)
     ·obtain⟨r1,lj',oj',r2,r3,r4⟩:=r
      exact .inr ⟨j',by simp[IB],r1,lj',oj',r2,r3.trans uw,r4⟩
 ae:=fun i hi dq=>by
  simp only[kl,not_or]at dq
  rw[h2.ae i (ic hi h1.gJ) dq.1,h1.ae i hi dq.2]
 grow:=fun i o' hi ho=>by
  obtain⟨o1,zn,a1,b1⟩:=h2.grow i o' (ic hi h1.gJ) ho
  obtain⟨o,ho,a,b⟩:=h1.grow i o1 hi zn
  exact⟨o,ho,a∘a1,b∘b1⟩
 full:=fun i h_ ks=>by
  by_cases hi:i<bU.n
  ·obtain⟨l,hl⟩:=h1.full i h_ hi
   exact⟨l,(h2.ext i hi).trans hl⟩
  ·exact h2.full i (by omega) ks
 wA:=fun i hi hn=>by
  simp only[kl]at hi
  rcases hi with hi|hi
  ·obtain⟨o1,zn,M8⟩:=h2.wA i hi (ic hn h1.gJ)
   obtain⟨o,ho,a,_⟩:=h1.grow i o1 hn zn
   exact⟨o,ho,a M8⟩
  ·exact h1.wA i hi hn
def a_.drew{P:Program}{μ:Mu}{w:World}{st:St}(h:a_ P μ w st)(n:Nat):a_ P μ {w with drawn:=n} st:=
 ⟨h.cU,fun i l hl=>let ⟨o,h1,h2⟩:=h.obj i l hl;⟨o,h1,OM.congr (w:=w) rfl h2⟩,h.inj,h.gj⟩
def bA.alloc{P:Program}{μ:Mu}{w:World}{st:St}(h:a_ P μ w st)(o:O)(ob:Obj)(d pc:Nat)
  (ho:OM P (fun i=>if i=st.n then some ⟨w.heap.size,d,pc⟩ else μ i) {w with heap:=w.heap.push ob} o ⟨w.heap.size,d,pc⟩):
  bA P μ w st (fun i=>if i=st.n then some ⟨w.heap.size,d,pc⟩ else μ i) {w with heap:=w.heap.push ob} (st.alloc o) []:=by
 have dr:∀i l,μ i=some l->(fun i=>if i=st.n then some (⟨w.heap.size,d,pc⟩:L) else μ i) i=some l:=fun i l hl=>by
  have:=(h.cU i l hl).1
  simp only
  rw[aq (by omega)];exact hl
 have hold:∀b,b<w.heap.size->({w with heap:=w.heap.push ob}:World).heap[b]?=w.heap[b]?:=fun b hb=>by
  show (w.heap.push ob)[b]?=_
  rw[Array.getElem?_push,aq (by omega)]
 refine⟨⟨fun i l hl=>?_,fun i l hl=>?_,fun i j l l' oi oj hi hj bK zn vt hw ph=>?_,fun g hg=>let ⟨t,ht⟩:=h.gj g hg;⟨t,dr g _ ht⟩⟩,fun i hi=>?_,by simp[St.alloc],rfl,⟨rfl,rfl,rfl,by simp,fun b hb _=>hold b hb⟩,
  fun i l hi hl=>?_,fun i hi _=>?_,fun i o' hi ux=>?_,fun i h1 h2=>⟨⟨w.heap.size,d,pc⟩,by simp only[St.alloc]at h2;show (if i=st.n then some (⟨w.heap.size,d,pc⟩:L) else μ i)=_;rw[aJ (by omega)]⟩,fun _ hi=>absurd hi (by simp)⟩
 ·by_cases e:i=st.n
  ·simp only[e,if_true,ak]at hl;subst hl;simp[St.alloc,e]
  ·simp only[e,if_false]at hl
   have:=h.cU i l hl
   simp[St.alloc];omega
 ·by_cases e:i=st.n
  ·simp only[e,if_true,ak]at hl;subst hl
   exact⟨o,by simp[St.alloc,T.ai,e],ho⟩
  ·simp only[e,if_false]at hl
   obtain⟨o1,h1,h2⟩:=h.obj i l hl
   exact⟨o1,by simp[St.alloc,T.ai,e,h1],(h2.mono dr).congr (hold l.b (h.cU i l hl).2)⟩
 ·by_cases e:i=st.n
  ·by_cases e':j=st.n
   ·exact absurd (e.trans e'.symm) bK
   ·simp only[e,if_true,ak]at hi;simp only[e',if_false]at hj;subst hi
    have:=(h.cU j l' hj).2
    simp only;omega
  ·simp only[e,if_false]at hi
   by_cases e':j=st.n
   ·simp only[e',if_true,ak]at hj;subst hj
    have:=(h.cU i l hi).2
    simp only;omega
   ·simp only[e',if_false]at hj
    simp only[St.alloc,T.ai,e,e',if_false]at zn vt
    exact h.inj i j l l' oi oj hi hj bK zn vt hw ph
 ·rw[aq (by omega)]
 ·by_cases e:i=st.n
  ·simp only[e,if_true,ak]at hl;subst hl;exact .inl (aR _)
  ·simp only[e,if_false]at hl
   exact absurd (h.cU i l hl).1 (by omega)
 ·simp only[St.alloc,T.ai];rw[aq (by omega)]
 ·simp only[St.alloc,T.ai]at ux;rw[aq (by omega)]at ux
  exact⟨o',ux,id,id⟩
def bA.write{P:Program}{μ:Mu}{w w':World}{st:St}(h:a_ P μ w st){i:Nat}{l:L}{o o':O}(hi:μ i=some l)(ho:st.h.get i=some o)(hw:o.wr=true)
  (xo:w'.os=w.os) (RZ:w'.tape=w.tape) (R4:w'.output=w.output) (jc:w'.heap.size=w.heap.size) (pj:∀b,b≠l.b->w'.heap[b]?=w.heap[b]?) (ux:OM P μ w' o' l):
  bA P μ w st μ w' (st.write i o') [i]:=by
 have uy:o.live=true:=by cases o<;>simp_all [O.wr,O.live]
 refine⟨⟨fun j lj hj=>?_,fun j lj hj=>?_,fun j k lj lk oj ok hj hk bK h1 h2 Gx fz=>?_,h.gj⟩,fun _ _=>rfl,aR _,rfl,⟨xo,RZ,R4,by omega,fun b _ dq=>pj b ?_⟩,
  fun j lj hn hj=>?_,fun j _ dq=>?_,fun j oj hn hj=>?_,fun j h1 h2=>absurd h2 (by simp only[St.write];omega),fun j hj _=>by simp only[tX]at hj;subst hj;exact⟨o,ho,hw⟩⟩
 ·have:=h.cU j lj hj
  simp[St.write];omega
 ·by_cases e:j=i
  ·subst e
   rw[hi]at hj;cases hj
   exact⟨o',by simp[St.write,T.ai],ux⟩
  ·obtain⟨oj,h1,h2⟩:=h.obj j lj hj
   refine⟨oj,by simp[St.write,T.ai,e,h1],?_⟩
   cases hl:oj.live
   ·cases oj<;>simp[O.live]at hl
    trivial
   ·exact h2.congr (pj lj.b (Ne.symm (h.inj i j l lj o oj hi hj (Ne.symm e) ho h1 hw hl)))
 ·simp only[St.write,T.ai]at h1 h2
  by_cases e:j=i
  ·subst e
   rw[hi]at hj;cases hj
   rw[aq (Ne.symm bK)]at h2
   exact h.inj j k l lk o ok hi hk bK ho h2 hw fz
  ·rw[aq e]at h1
   by_cases e':k=i
   ·subst e'
    exact h.inj j k lj lk oj o hj hk bK h1 ho Gx uy
   ·rw[aq e']at h2
    exact h.inj j k lj lk oj ok hj hk bK h1 h2 Gx fz
 ·exact Ne.symm (dq i (by simp) l hi)
 ·exact absurd (h.cU j lj hj).1 (by omega)
 ·simp only[tX]at dq
  simp[St.write,T.ai,dq]
 ·simp only[St.write,T.ai]at hj
  by_cases e:j=i
  ·subst e
   exact⟨o,ho,fun _=>hw,fun _=>uy⟩
  ·rw[aq e]at hj
   exact⟨oj,hj,id,id⟩
end Go.Mx
