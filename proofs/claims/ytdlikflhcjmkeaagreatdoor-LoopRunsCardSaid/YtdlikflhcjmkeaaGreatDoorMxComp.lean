/-Code of the Go model resolved for the ma-/
import Derived.Test.YtdlikflhcjmkeaaGreatDoorMxCore
import Derived.Laws.MakeOwn
import Derived.Laws.CopyRow
import Derived.Laws.Rows
import Derived.Laws.Append
import Derived.Laws.Externs
import Derived.Laws.StructEq
import Derived.RowKit
set_option linter.all false
namespace Go.Mx
mutual
def cV:Value→Option V
 |.bool b=>some (.bool b)
 |.int k n=>some (.int k n)
 |.float k n=>some (.flt k n)
 |.complex k a b=>some (.cpl k a b)
 |.string s=>some (.str s.data.toList)
 |.pointer none=>some .nilptr
 |.slice none 0 0=>some .nilslice
 |.map none=>some .nilmap
 |.chan none=>some .nilchan
 |.nilFunc=>some .nilfunc
 |.nilIface=>some .niliface
 |.agg ⟨l⟩=>match cVs l with
  |some l=>some (.agg l)
  |none=>none
 |.tuple ⟨l⟩=>match cVs l with
  |some l=>some (.tup l)
  |none=>none
 |_=>none
def cVs:List Value→Option (List V)
 |[]=>some []
 |v::vs=>match cV v,cVs vs with
  |some v,some vs=>some (v::vs)
  |_,_=>none
end
section
variable (P:Program)
def Zba:Operand→Option Src
 |.tmp t=>some (.tmp t)
 |.const v=>match cV v with
  |some v=>some (.const v)
  |none=>none
 |.global g=>if g<P.globals.size then some (.const (.ptr g 0)) else none
 |.func f=>some (.const (.func f [] []))
def Ziw:List Operand→Option (List Src)
 |[]=>some []
 |x::xs=>match Zba P x,Ziw xs with
  |some x,some xs=>some (x::xs)
  |_,_=>none
def Zpt:Option Operand→Option (Option Src)
 |none=>some none
 |some x=>match Zba P x with
  |some x=>some (some x)
  |none=>none
def Zbr(t:TypeId):Option Nat:=(P.info? t).map (·.size)
def Zh5(t:TypeId):Option Nat:=(P.info? t).map (·.bytes)
def Zye(t:TypeId):Option (Option Nat):=
 match P.underlying t with
 |some (.struct _)|some (.array _ _)=>match Zbr P t with
  |some n=>some (some n)
  |none=>none
 |some _=>some none
 |none=>none
def Ze1(t:TypeId):Option V:=
 match P.info? t with
 |some i=>match i.zero with
  |some v=>cV v
  |none=>none
 |none=>none
def Yms:TypeDesc→Option PK
 |.bool=>some .bool
 |.int _=>some .int
 |.string=>some .str
 |.pointer _=>some .ptr
 |.slice _=>some .slice
 |.map _ _=>some .map
 |.func _ _ _=>some .func
 |.chan _ _=>some .chan
 |.interface _=>some .iface
 |_=>none
def Yku(q:TypeId→Option EqT):List Field→Option (List (Nat×Option Nat×EqT))
 |[]=>some []
 |f::fs=>if f.name= "_" then Yku q fs else
  match Zye P f.type,q f.type,Yku q fs with
  |some a,some q,some l=>some ((f.offset,a,q)::l)
  |_,_,_=>none
def Yia:TypeDesc→Bool
 |.pointer e=>(P.info? e).isSome
 |_=>true
def eqP:Nat→TypeId→Option EqT
 |0,_=>none
 |d+1,t=>
  match P.underlying t with
  |some (.struct fs)=>
   if P.stoodInHeld t then none else
   match Yku P (eqP d) fs.toList with
   |some l=>some (.node l)
   |none=>none
  |some q=>match Yms q with
   |some k=>if Yia P q=true then some (.prim k) else none
   |none=>none
  |none=>none
def Zh4(place:Nat→Option (Nat×Nat)):List (Nat×Operand)→Option (List (Nat×Nat×Src))
 |[]=>some []
 |(i,x)::rest=>match place i,Zba P x,Zh4 place rest with
  |some (o,s),some x,some l=>some ((o,s,x)::l)
  |_,_,_=>none
def Ya1(t:TypeId):Option Zkp:=
 match P.underlying t with
 |some (.int k)=>some (.int k)
 |some .string=>some .str
 |_=>none
def Zik:Operand→Bool
 |.const _=>true
 |_=>false
def Zn3(fs:List Field):Option (List (Nat×Nat)):=
 match fs with
 |[]=>some []
 |f::fs=>match Zbr P f.type,Zn3 fs with
  |some s,some l=>some ((f.offset,s)::l)
  |_,_=>none
def Zhv(name:String):Option Ext:=
 if name= "math/bits.Add64" then some .add64
 else if name= "math/bits.Sub64" then some .sub64
 else if name= "internal/abi.NoEscape" then some .same
 else if name= "internal/bytealg.IndexByteString" then some .indexByteString
 else if name= "math.Float64bits" then some .fbits
 else if name= "math.Float64frombits" then some .ffrom
 else none
def Zrk(c:Call):Option MOp:=
 match c.callee with
 |.value f=>match Ziw P c.args.toList with
  |none=>none
  |some args=>match f with
   |.func g=>match P.funcs[g]? with
    |some fn=>if fn.body.isSome then some (.call (.const (.func g [] [])) args) else
     match Zhv fn.name with
     |some e=>some (.ext e args)
     |none=>none
    |none=>none
   |f=>match Zba P f with
    |some f=>some (.call f args)
    |none=>none
 |.invoke _ _=>none
 |.builtin b=>
  match b,c.argTypes.toList,c.args.toList with
  |.len,[t],[x]=>
   match P.underlying t,Zba P x with
   |some .string,some x=>some (.len 0 x)
   |some (.slice _),some x=>some (.len 1 x)
   |some (.map _ _),some x=>some (.len 2 x)
   |some (.array n _),_=>some (.lenArr n)
   |some (.pointer a),_=>match P.underlying a with
    |some (.array n _)=>some (.lenArr n)
    |_=>none
   |_,_=>none
  |.cap,[t],[x]=>
   match P.underlying t,Zba P x with
   |some (.slice _),some x=>some (.cap x)
   |_,_=>none
  |.min,_,_=>match Ziw P c.args.toList with
   |some l=>some (.mn l)
   |none=>none
  |.max,_,_=>match Ziw P c.args.toList with
   |some l=>some (.mx l)
   |none=>none
  |.append,[t,u],[s,x]=>
   match P.underlying t with
   |some (.slice e)=>match Zbr P e,Zh5 P e,Ze1 P e,Zba P s,Zba P x,P.underlying u with
    |some n,some b,some z,some s,some x,some d=>if (d matches .int _)∨b=0∨z.cells.length≠n∨z.cells.all V.one=false then none else some (.append n b e z.cells s x)
    |_,_,_,_,_,_=>none
   |_=>none
  |.copy,t::_,[d,s]=>
   match P.underlying t with
   |some (.slice e)=>match Zbr P e,Zba P d,Zba P s with
    |some n,some d,some s=>some (.copy n d s)
    |_,_,_=>none
   |_=>none
  |.clear,[t],[s]=>
   match P.underlying t with
   |some (.slice e)=>match Zbr P e,Ze1 P e,Zba P s with
    |some n,some z,some s=>if z.cells.all V.one then some (.clear n z.cells s) else none
    |_,_,_=>none
   |_=>none
  |.unsafeSliceData,[_],[s]=>(Zba P s).map .sdata
  |.real,[_],[s]=>(Zba P s).map (.part false)
  |.imag,[_],[s]=>(Zba P s).map (.part true)
  |.unsafeString,[t,_],[x,n]=>
   match P.underlying t with
   |some (.pointer e)=>match Zbr P e,Zba P x,Zba P n with
    |some 1,some x,some n=>some (.ustr e x n)
    |_,_,_=>none
   |_=>none
  |_,_,_=>none
def isFlt(t:TypeId):Bool:=match P.underlying t with
 |some (.float _)=>true
 |_=>false
def Ykw:Op→Option MOp
 |.move x|.assign x=>(Zba P x).map .mov
 |.pick c a b=>match Zba P c,Zba P a,Zba P b with
  |some c,some a,some b=>some (.pick c a b)
  |_,_,_=>none
 |.alloc e=>match Ze1 P e with
  |some z=>if z.cells.all V.one then some (.alloc z.cells e) else none
  |none=>none
 |.box e x=>(Zba P x).map (.box e)
 |.build t parts=>match Ze1 P t with
  |none=>none
  |some z=>match P.underlying t with
   |some (.struct fs)=>match Zn3 P fs.toList with
    |some pl=>(Zh4 P (pl[·]?) parts.toList).map (.build z.cells)
    |none=>none
   |some (.array _ e)=>match Zbr P e with
    |some s=>(Zh4 P (fun i=>some (i*s,s)) parts.toList).map (.build z.cells)
    |none=>none
   |_=>none
 |.buildSlice t len parts=>match P.underlying t with
  |some (.slice e)=>match Zbr P e,Ze1 P e with
   |some s,some z=>if len*s > 2^24∨z.cells.length≠s∨s=0 then none else
    (Zh4 P (fun i=>some (i*s,s)) parts.toList).map (.bslice e s len (Zeh z.cells len))
   |_,_=>none
  |_=>none
 |.load t a=>match Zye P t,Zba P a with
  |some n,some a=>some (.load n a)
  |_,_=>none
 |.store t a x=>match Zbr P t,Zba P a,Zba P x with
  |some n,some a,some x=>some (.store n a x)
  |_,_,_=>none
 |.nilCheck x=>(Zba P x).map .nilck
 |.binOp op t x y _=>match Zba P x,Zba P y with
  |some a,some b=>
   if isFlt P t=true then some (.fbin op a b) else
   match op with
   |.eql|.neq=>match eqP P 40 t with
    |some q=>if (match P.underlying t with|some (.struct _)|some (.array _ _)=>P.eqGuardType P.depth t|_=>false) then none else some (.bin op q (Zik x||Zik y) a b)
    |none=>none
   |_=>some (.bin op (.node []) false a b)
  |_,_=>none
 |.unOp op _ x=>(Zba P x).map (.un op)
 |.convert src dst x=>match Zba P x with
  |none=>none
  |some a=>match P.underlying src,P.underlying dst with
   |some (.int _),some (.int k)=>some (.convInt k a)
   |some (.float _),some (.int k)=>some (.fToI k a)
   |some .string,some .string=>some (.convStr a)
   |some .string,some (.slice e)=>match P.underlying e with
    |some (.int .u8)=>some (.strBytes e a)
    |_=>none
   |some (.slice e),some .string=>match P.underlying e with
    |some (.int .u8)=>some (.bytesStr a)
    |_=>none
   |some (.pointer t),some .unsafePointer=>match Zbr P t with
    |some (_+1)=>some (.uns none a)
    |_=>none
   |some .unsafePointer,some (.pointer u)=>match Zbr P u with
    |some (z+1)=>some (.uns (some (u,z+1)) a)
    |_=>none
   |_,_=>none
 |.makeInterface t x=>match P.underlying t with
  |some (.interface _)=>none
  |some _=>(Zba P x).map (.mkiface t)
  |none=>none
 |.makeFunc (.func f) first caps=>match Ziw P first.toList,Ziw P caps.toList with
  |some a,some l=>some (.mkfunc f a l)
  |_,_=>none
 |.makeMap _ none=>some .mkmap
 |.makeChan t n=>match P.underlying t with
  |some (.chan _ e)=>match Zh5 P e,Zba P n with
   |some b,some n=>some (.mkchan b n)
   |_,_=>none
  |_=>none
 |.makeSlice t l c=>match P.underlying t with
  |some (.slice e)=>match Zbr P e,Zh5 P e,Ze1 P e,Zba P l,Zba P c with
   |some s,some b,some z,some l,some c=>if z.cells.all V.one then some (.mkslice e s b z.cells l c) else none
   |_,_,_,_,_=>none
  |_=>none
 |.slice t x lo hi mx=>match Zba P x,Zpt P lo,Zpt P hi,Zpt P mx with
  |some x,some lo,some hi,some mx=>match P.underlying t with
   |some .string=>if mx.isSome then none else some (.sliceStr x lo hi)
   |some (.slice e)=>(Zbr P e).map fun s=>.sliceSl s x lo hi mx
   |some (.array n e)=>(Zbr P e).map fun s=>.sliceArr n s x lo hi mx
   |_=>none
  |_,_,_,_=>none
 |.fieldAddr t x i=>match P.underlying t,Zba P x with
  |some (.struct fs),some x=>match fs[i]? with
   |some f=>match Zbr P f.type with
    |some (_+1)=>some (.faddr f.offset x)
    |_=>none
   |none=>none
  |_,_=>none
 |.field t x i=>match P.underlying t,Zba P x with
  |some (.struct fs),some x=>match fs[i]? with
   |some f=>(Zye P f.type).map fun n=>.field f.offset n x
   |none=>none
  |_,_=>none
 |.indexAddr t x i=>match P.underlying t,Zba P x,Zba P i with
  |some (.array n e),some x,some i=>(Zbr P e).map fun s=>.iaddrArr n s x i
  |some (.slice e),some x,some i=>(Zbr P e).map fun s=>.iaddrSl s x i
  |_,_,_=>none
 |.index t x i=>match P.underlying t,Zba P x,Zba P i with
  |some (.array n e),some x,some i=>match Zbr P e,Zye P e with
   |some s,some a=>some (.idxArr n s a x i)
   |_,_=>none
  |some .string,some x,some i=>some (.idxStr x i)
  |_,_,_=>none
 |.lookup t m k ok=>match P.underlying t,Zba P m,Zba P k with
  |some (.map kt e),some m,some k=>match Ya1 P kt,Ze1 P e with
   |some kd,some z=>some (.lookup kd z m k ok)
   |_,_=>none
  |_,_,_=>none
 |.mapUpdate t m k v|.insert t m k v=>match P.underlying t,Zba P m,Zba P k,Zba P v with
  |some (.map kt _),some m,some k,some v=>(Ya1 P kt).map fun kd=>.mapset kd m k v
  |_,_,_,_=>none
 |.range t x=>match P.underlying t,Zba P x with
  |some .string,some x=>some (.rangeStr x)
  |_,_=>none
 |.next it true=>(Zba P it).map .nextStr
 |.extract x i=>(Zba P x).map fun x=>.extract x i
 |.call c=>Zrk P c
 |_=>none
def cOp(o:Op):MOp:=(Ykw P o).getD .stop
def Zm6(ops:Array Oper):Option (Nat×Bool)→Option (Option (Nat×Bool))
 |none=>some none
 |some (j,want)=>match (ops[j]?).bind (·.dst)with
  |some t=>some (some (t,want))
  |none=>none
def Zgi(ops:Array Oper)(o:Oper):Za9:=
 match Zm6 ops o.guard with
 |some g=>{dst:=o.dst,op:=cOp P o.op,guard:=g}
 |none=>{dst:=o.dst,op:=.stop,guard:=none}
def Zqt(o:Oper)(ms:List Nat):Nat:=
 o.after.foldl (fun s e=>if Region.binds .any e then s|||2^e.on|||ms.getD e.on 0 else s) 0
def Zc4:List Oper→List Nat→List Nat
 |[],acc=>acc
 |o::rest,acc=>Zc4 rest (acc++[Zqt o acc])
def Ymv(o:Oper):Option (Option Nat×Src×Option Src×V):=
 match o.op,o.guard with
 |.select cs false,none=>match cs.toList with
  |[c]=>match Zba P c.chan,Zpt P c.send,Ze1 P c.elem with
   |some ch,some s,some z=>some (o.dst,ch,s,z)
   |_,_,_=>none
  |_=>none
 |_,_=>none
def Zkm:Nat→List Oper→Bool
 |_,[]=>true
 |i,o::os=>(o.after.all fun e=>!Region.binds .any e||Nat.blt e.on i)&&Zkm (i+1) os
def Yh4(ops:Array Oper):Bool:=Zkm 0 ops.toList&&Zam Zvp (ops.toList.map (Zgi P ops)) (Zc4 ops.toList [])
def Zcp:Code→Zaz
 |.skip=>.skip
 |.region _ ops false=>match ops.toList with
  |[]=>.reg []
  |o::rest=>match Ymv P o with
   |some (d,ch,s,z)=>.regS d ch s z (rest.map (Zgi P ops))
   |none=>.reg ((o::rest).map (Zgi P ops))
 |.region _ ops true=>if Yh4 P ops then .regD (ops.toList.map (Zgi P ops)) (Zc4 ops.toList []) else .stop
 |.seq a b=>.seq (Zcp a) (Zcp b)
 |.cond c a b=>match Zba P c with
  |some c=>.cond c (Zcp a) (Zcp b)
  |none=>.stop
 |.block id c=>.block id (Zcp c)
 |.loop c=>.loop (Zcp c)
 |.rangeFunc g ps assign body=>match Zba P g with
  |some g=>.rangef g ps.toList (Zcp assign) (Zcp body)
  |none=>.stop
 |.exit id=>.exit id
 |.scope c=>.scope (Zcp c)
 |.label _=>.skip
 |.goto _=>.stop
 |.ret=>.ret
 |.refuse _=>.stop
def Yg0:List ResultVar→Option (List Ykp)
 |[]=>some []
 |.tmp t::rest=>(Yg0 rest).map (.tmp t::·)
 |.cell t ty::rest=>match Zye P ty,Yg0 rest with
  |some n,some l=>some (.cell t n::l)
  |_,_=>none
def Zk8(f:FuncId):Option Zee:=
 match P.funcs[f]? with
 |some fn=>match fn.body,Yg0 P fn.results.toList with
  |some c,some rs=>some {ntmps:=fn.ntmps,results:=rs,body:=Zcp P c}
  |_,_=>none
 |none=>none
end
open Go
structure L where
 b:Nat
 d:Nat
 tot:Nat
abbrev Mu:=Nat→Option L
mutual
def VR(μ:Mu):V→Value→Prop
 |.bool b,x=>x=.bool b
 |.int k n,x=>x=.int k n
 |.flt k n,x=>x=.float k n
 |.cpl k a b,x=>x=.complex k a b
 |.str s,x=>x=.string ⟨s.toArray⟩
 |.nilptr,x=>x=.pointer none
 |.ptr i o,x=>∃l,μ i=some l∧x=.pointer (some ⟨l.b,l.d+o,none⟩)
 |.nilslice,x=>x=.slice none 0 0
 |.slice i o len cap sz,x=>∃l c,μ i=some l∧x=.slice (some ⟨l.b,l.d+o,none⟩) len c∧len≤c∧o+c*sz≤l.tot∧
   (∀k,cap=some k→c=k)∧(cap=none→o+c*sz=l.tot)
 |.empty,x=>∃a c,x=.slice (some a) 0 c
 |.nilmap,x=>x=.map none
 |.map i,x=>∃l,μ i=some l∧x=.map (some l.b)
 |.nilchan,x=>x=.chan none
 |.chan i,x=>∃l,μ i=some l∧x=.chan (some l.b)
 |.func f a c,x=>∃a' c',x=.func (.func f) ⟨a'⟩ ⟨c'⟩∧VRs μ a a'∧VRs μ c c'
 |.yield i,x=>∃l,μ i=some l∧x=.func (.yield l.b) #[] #[]
 |.nilfunc,x=>x=.nilFunc
 |.iface t v,x=>∃y,x=.iface t y∧VR μ v y
 |.niliface,x=>x=.nilIface
 |.agg vs,x=>∃a,x=.agg ⟨a⟩∧VRs μ vs a
 |.tup vs,x=>∃a,x=.tuple ⟨a⟩∧VRs μ vs a
def VRs(μ:Mu):List V→List Value→Prop
 |[],xs=>xs=[]
 |v::vs,xs=>∃y ys,xs=y::ys∧VR μ v y∧VRs μ vs ys
end
mutual
def VR.mono{μ μ':Mu}(h:∀i l,μ i=some l→μ' i=some l):∀(v:V) (x:Value),VR μ v x→VR μ' v x
 |.bool _,_,hx=>by simpa[VR]using hx
 |.int _ _,_,hx=>by simpa[VR]using hx
 |.flt _ _,_,hx=>by simpa[VR]using hx
 |.cpl _ _ _,_,hx=>by simpa[VR]using hx
 |.str _,_,hx=>by simpa[VR]using hx
 |.nilptr,_,hx=>by simpa[VR]using hx
 |.ptr _ _,_,hx=>by simp only[VR]at*;obtain⟨l,h1,h2⟩:=hx;exact⟨l,h _ _ h1,h2⟩
 |.nilslice,_,hx=>by simpa[VR]using hx
 |.slice _ _ _ _ _,_,hx=>by simp only[VR]at*;obtain⟨l,c,h1,h2⟩:=hx;exact⟨l,c,h _ _ h1,h2⟩
 |.empty,_,hx=>by simpa[VR]using hx
 |.nilmap,_,hx=>by simpa[VR]using hx
 |.map _,_,hx=>by simp only[VR]at*;obtain⟨l,h1,h2⟩:=hx;exact⟨l,h _ _ h1,h2⟩
 |.nilchan,_,hx=>by simpa[VR]using hx
 |.chan _,_,hx=>by simp only[VR]at*;obtain⟨l,h1,h2⟩:=hx;exact⟨l,h _ _ h1,h2⟩
 |.func _ a c,_,hx=>by
  simp only[VR]at*;obtain⟨a',c',h1,h2,h3⟩:=hx
  exact⟨a',c',h1,VRs.mono h a a' h2,VRs.mono h c c' h3⟩
 |.yield _,_,hx=>by simp only[VR]at*;obtain⟨l,h1,h2⟩:=hx;exact⟨l,h _ _ h1,h2⟩
 |.nilfunc,_,hx=>by simpa[VR]using hx
 |.iface _ v,_,hx=>by simp only[VR]at*;obtain⟨y,h1,h2⟩:=hx;exact⟨y,h1,VR.mono h v y h2⟩
 |.niliface,_,hx=>by simpa[VR]using hx
 |.agg vs,_,hx=>by simp only[VR]at*;obtain⟨a,h1,h2⟩:=hx;exact⟨a,h1,VRs.mono h vs a h2⟩
 |.tup vs,_,hx=>by simp only[VR]at*;obtain⟨a,h1,h2⟩:=hx;exact⟨a,h1,VRs.mono h vs a h2⟩
def VRs.mono{μ μ':Mu}(h:∀i l,μ i=some l→μ' i=some l):∀(vs:List V) (xs:List Value),VRs μ vs xs→VRs μ' vs xs
 |[],_,hx=>by simpa[VRs]using hx
 |v::vs,_,hx=>by
  simp only[VRs]at*
  obtain⟨y,ys,h1,h2,h3⟩:=hx
  exact⟨y,ys,h1,VR.mono h v y h2,VRs.mono h vs ys h3⟩
end
section
variable {μ:Mu}
def Zaw{v:V}{vs:List V}{xs:List Value}:VRs μ (v::vs) xs↔∃y ys,xs=y::ys∧VR μ v y∧VRs μ vs ys:=by simp[VRs]
def VRs.length:∀{vs:List V} {xs:List Value},VRs μ vs xs→xs.length=vs.length
 |[],_,h=>by simp[VRs]at h;simp[h]
 |v::vs,_,h=>by
  obtain⟨y,ys,rfl,_,h3⟩:=Zaw.1 h
  simp[VRs.length h3]
def VRs.get:∀{vs:List V} {xs:List Value},VRs μ vs xs→∀{i:Nat} {v:V},vs[i]?=some v→∃x,xs[i]?=some x∧VR μ v x
 |[],_,_,i,v,hv=>by simp at hv
 |w::vs,_,h,i,v,hv=>by
  obtain⟨y,ys,rfl,h2,h3⟩:=Zaw.1 h
  cases i with
  |zero=>simp at hv;subst hv;exact⟨y,by simp,h2⟩
  |succ i=>simpa using VRs.get h3 (i:=i) (by simpa using hv)
def VRs.append:∀{vs ws:List V} {xs ys:List Value},VRs μ vs xs→VRs μ ws ys→VRs μ (vs++ws) (xs++ys)
 |[],ws,_,ys,h,h'=>by simp[VRs]at h;simpa[h]using h'
 |v::vs,ws,_,ys,h,h'=>by
  obtain⟨y,zs,rfl,h2,h3⟩:=Zaw.1 h
  exact Zaw.2 ⟨y,zs++ys,rfl,h2,VRs.append h3 h'⟩
def VRs.take:∀{vs:List V} {xs:List Value} (n:Nat),VRs μ vs xs→VRs μ (vs.take n) (xs.take n)
 |[],_,n,h=>by simp[VRs]at h;simp[h,VRs]
 |v::vs,_,n,h=>by
  obtain⟨y,zs,rfl,h2,h3⟩:=Zaw.1 h
  cases n with
  |zero=>simp[VRs]
  |succ n=>exact Zaw.2 ⟨y,zs.take n,rfl,h2,VRs.take n h3⟩
def VRs.drop:∀{vs:List V} {xs:List Value} (n:Nat),VRs μ vs xs→VRs μ (vs.drop n) (xs.drop n)
 |[],_,n,h=>by simp[VRs]at h;simp[h,VRs]
 |v::vs,_,n,h=>by
  cases n with
  |zero=>simpa using h
  |succ n=>
   obtain⟨y,zs,rfl,h2,h3⟩:=Zaw.1 h
   simpa using VRs.drop n h3
def VRs.of_get:∀{vs:List V} {xs:List Value},xs.length=vs.length→(∀(i:Nat) (v:V),vs[i]?=some v→∃x,xs[i]?=some x∧VR μ v x)→VRs μ vs xs
 |[],xs,hl,_=>by simp at hl;simp[VRs,hl]
 |v::vs,[],hl,_=>by simp at hl
 |v::vs,x::xs,hl,h=>by
  refine Zaw.2 ⟨x,xs,rfl,?_,VRs.of_get (by simpa using hl) fun i u hu=>?_⟩
  ·obtain⟨y,h1,h2⟩:=h 0 v (by simp)
   simp at h1;subst h1;exact h2
  ·simpa using h (i+1) u (by simpa using hu)
def VR.one{v:V}{x:Value}(h:VR μ v x)(hv:v.one=true):x.oneCell'=true:=by
 cases v<;>simp only[VR]at h<;>simp only[V.one,Yqm]at hv
 case bool=>subst h;rfl
 case int=>subst h;rfl
 case flt=>subst h;rfl
 case cpl=>subst h;rfl
 case str=>subst h;rfl
 case nilptr=>subst h;rfl
 case ptr=>obtain⟨l,_,rfl⟩:=h;rfl
 case nilslice=>subst h;rfl
 case slice=>obtain⟨l,c,_,rfl,_⟩:=h;rfl
 case empty=>obtain⟨a,c,rfl⟩:=h;rfl
 case nilmap=>subst h;rfl
 case map=>obtain⟨l,_,rfl⟩:=h;rfl
 case nilchan=>subst h;rfl
 case chan=>obtain⟨l,_,rfl⟩:=h;rfl
 case func=>obtain⟨a,c,rfl,_⟩:=h;rfl
 case yield=>obtain⟨l,_,rfl⟩:=h;rfl
 case nilfunc=>subst h;rfl
 case iface=>obtain⟨y,rfl,_⟩:=h;rfl
 case niliface=>subst h;rfl
def VR.cells{v:V}{x:Value}(h:VR μ v x):VRs μ v.cells x.cells.toList:=by
 have one:∀y:Value,x=y→(y.cells=#[y])→v.cells=[v]→VRs μ v.cells x.cells.toList:=fun y e hc hv=>by
  subst e;rw[hc,hv];exact Zaw.2 ⟨_,[],rfl,h,by simp[VRs]⟩
 have h0:=h
 cases v<;>simp only[VR]at h
 case bool=>exact one _ h rfl rfl
 case int=>exact one _ h rfl rfl
 case flt=>exact one _ h rfl rfl
 case cpl=>exact one _ h rfl rfl
 case str=>exact one _ h rfl rfl
 case nilptr=>exact one _ h rfl rfl
 case ptr=>obtain⟨l,_,e⟩:=h;exact one _ e rfl rfl
 case nilslice=>exact one _ h rfl rfl
 case slice=>obtain⟨l,c,_,e,_⟩:=h;exact one _ e rfl rfl
 case empty=>obtain⟨a,c,e⟩:=h;exact one _ e rfl rfl
 case nilmap=>exact one _ h rfl rfl
 case map=>obtain⟨l,_,e⟩:=h;exact one _ e rfl rfl
 case nilchan=>exact one _ h rfl rfl
 case chan=>obtain⟨l,_,e⟩:=h;exact one _ e rfl rfl
 case func=>obtain⟨a,c,e,_⟩:=h;exact one _ e rfl rfl
 case yield=>obtain⟨l,_,e⟩:=h;exact one _ e rfl rfl
 case nilfunc=>exact one _ h rfl rfl
 case iface=>obtain⟨y,e,_⟩:=h;exact one _ e rfl rfl
 case niliface=>exact one _ h rfl rfl
 case agg vs=>obtain⟨a,rfl,h⟩:=h;exact h
 case tup vs=>obtain⟨a,e,_⟩:=h;exact one _ e rfl rfl
end
def RR(μ:Mu)(r:T V)(n:Nat)(tmps:Array Value):Prop:=
 tmps.size=n∧∀t v,r.get t=some v→∃x,tmps[t]?=some x∧VR μ v x
def RR.mono{μ μ':Mu}{r:T V}{n:Nat}{tmps:Array Value}(h:∀i l,μ i=some l→μ' i=some l)(hr:RR μ r n tmps):RR μ' r n tmps:=
 ⟨hr.1,fun t v hv=>let ⟨x,h1,h2⟩:=hr.2 t v hv;⟨x,h1,VR.mono h v x h2⟩⟩
def RR.set{μ:Mu}{r:T V}{n:Nat}{tmps:Array Value}(hr:RR μ r n tmps){d:Nat}(hd:d<n){v:V}{x:Value}(hv:VR μ v x):
  RR μ (r.set d v) n (tmps.setIfInBounds d x):=by
 refine⟨by simp[hr.1],fun t u hu=>?_⟩
 rw[T.get_set]at hu
 by_cases e:t=d
 ·subst e
  simp at hu;subst hu
  exact⟨x,by simp[hr.1,hd],hv⟩
 ·simp[e]at hu
  obtain⟨y,h1,h2⟩:=hr.2 t u hu
  exact⟨y,by rw[Ysb (Ne.symm e)];exact h1,h2⟩
def exJ:Ex→Option Code
 |.normal=>none
 |.exit id=>some (.exit id)
 |.ret=>some .ret
def Zhy(μ:Mu):List (V×V)→List MapEntry→Nat→Prop
 |[],xs,_=>xs=[]
 |(k,v)::es,xs,i=>∃e ys,xs=e::ys∧VR μ k e.key∧VR μ v e.val∧e.born=i∧Zhy μ es ys (i+1)
def Zhy.mono{μ μ':Mu}(h:∀i l,μ i=some l→μ' i=some l):∀(es:List (V×V)) (xs:List MapEntry) (i:Nat),Zhy μ es xs i→Zhy μ' es xs i
 |[],_,_,hx=>hx
 |(k,v)::es,_,i,hx=>by
  obtain⟨e,ys,h1,h2,h3,h4,h5⟩:=hx
  exact⟨e,ys,h1,VR.mono h k _ h2,VR.mono h v _ h3,h4,Zhy.mono h es ys (i+1) h5⟩
def OM(P:Program)(μ:Mu)(w:World):O→L→Prop
 |.cells c e rw,l=>∃(c':Array Value) (lo hi:Nat),w.heap[l.b]?=some (.cells c' e (lo,hi))∧l.d+l.tot≤c'.size∧c.length≤l.tot∧
   (∀(j:Nat) (v:V),c[j]?=some v→∃x,c'[l.d+j]?=some x∧VR μ v x)∧(∀(j:Nat) (x:Value),j<l.tot→c'[l.d+j]?=some x→x.oneCell'=true)∧(rw=true→l.d=0∧∀j,j<l.tot→¬(lo≤l.d+j∧l.d+j<hi))
 |.map es,l=>∃es':List MapEntry,w.heap[l.b]?=some (.map ⟨es'⟩ es'.length)∧Zhy μ es es' 0
 |.chan cap buf,l=>∃(buf':List Value) (s r:Nat),w.heap[l.b]?=some (.chan cap ⟨buf'⟩ false s r false)∧VRs μ buf buf'
 |.siter s pos,l=>w.heap[l.b]?=some (.stringIter ⟨s.toArray⟩ pos)∧l.d=0
 |.loop R,l=>∃fn tmps asg bod ld,w.heap[l.b]?=some (.loop {state:=R.st,pending:=R.pend.bind exJ,fn:=fn,tmps:=tmps,params:=⟨R.ps⟩,assign:=asg,body:=bod,defers:=ld.b})∧
   RR μ R.r R.n tmps∧Zcp P asg=R.assign∧Zcp P bod=R.body∧μ R.defs=some ld
 |.defs o,l=>w.heap[l.b]?=some (.deferred (if o then some [] else none))
 |.dead,_=>True
def OM.mono{P:Program}{μ μ':Mu}{w:World}(h:∀i l,μ i=some l→μ' i=some l){o:O}{l:L}(ho:OM P μ w o l):OM P μ' w o l:=by
 cases o with
 |cells c e rw=>
  obtain⟨c',lo,hi,h1,h2,h3,h4,h5⟩:=ho
  exact⟨c',lo,hi,h1,h2,h3,fun j v hv=>let ⟨x,a,b⟩:=h4 j v hv;⟨x,a,VR.mono h v x b⟩,h5⟩
 |map es=>obtain⟨es',h1,h2⟩:=ho;exact⟨es',h1,Zhy.mono h _ _ _ h2⟩
 |chan cap buf=>obtain⟨b',s,r,h1,h2⟩:=ho;exact⟨b',s,r,h1,VRs.mono h _ _ h2⟩
 |siter s pos=>simp only[OM]at*;exact ho
 |loop R=>obtain⟨fn,tmps,asg,bod,ld,h1,h2,h3,h4,h5⟩:=ho;exact⟨fn,tmps,asg,bod,ld,h1,h2.mono h,h3,h4,h _ _ h5⟩
 |defs b=>simp only[OM]at*;exact ho
 |dead=>trivial
def OM.congr{P:Program}{μ:Mu}{w w':World}{o:O}{l:L}(hb:w'.heap[l.b]?=w.heap[l.b]?)(ho:OM P μ w o l):OM P μ w' o l:=by
 cases o with
 |cells c e rw=>obtain⟨c',lo,hi,h1,h2⟩:=ho;exact⟨c',lo,hi,hb.trans h1,h2⟩
 |map es=>obtain⟨es',h1,h2⟩:=ho;exact⟨es',hb.trans h1,h2⟩
 |chan cap buf=>obtain⟨b',s,r,h1,h2⟩:=ho;exact⟨b',s,r,hb.trans h1,h2⟩
 |siter s pos=>exact⟨hb.trans ho.1,ho.2⟩
 |loop R=>obtain⟨fn,tmps,asg,bod,ld,h1,h2⟩:=ho;exact⟨fn,tmps,asg,bod,ld,hb.trans h1,h2⟩
 |defs b=>exact hb.trans ho
 |dead=>trivial
structure Za7 (P:Program) (μ:Mu) (w:World) (st:St):Prop where
 dom:∀i l,μ i=some l→i<st.n∧l.b<w.heap.size
 obj:∀i l,μ i=some l→∃o,st.h.get i=some o∧OM P μ w o l
 inj:∀i j l l' o o',μ i=some l→μ j=some l'→i≠j→st.h.get i=some o→st.h.get j=some o'→o.wr=true→o'.live=true→l.b≠l'.b
 glob:∀g,g<P.globals.size→∃t,μ g=some ⟨g,0,t⟩
structure Chg (μ:Mu) (ws:List Nat) (w w':World):Prop where
 os:w'.os=w.os
 tape:w'.tape=w.tape
 output:w'.output=w.output
 size:w.heap.size≤w'.heap.size
 block:∀b,b<w.heap.size→(∀i∈ws,∀l,μ i=some l→l.b≠b)→w'.heap[b]?=w.heap[b]?
structure Stp (P:Program) (μ:Mu) (w:World) (st:St) (μ':Mu) (w':World) (st':St) (ws:List Nat):Prop where
 hr:Za7 P μ' w' st'
 ext:∀i,i<st.n→μ' i=μ i
 nle:st.n≤st'.n
 wl:st'.w=ws++st.w
 chg:Chg μ ws w w'
 new:∀i l,st.n≤i→μ' i=some l→w.heap.size≤l.b∨∃j∈ws,j<st.n∧∃lj oj,μ j=some lj∧lj.b=l.b∧st.h.get j=some oj∧oj.wr=true
 keep:∀i,i<st.n→i∉ws→st'.h.get i=st.h.get i
 grow:∀i o',i<st.n→st'.h.get i=some o'→∃o,st.h.get i=some o∧(o'.wr=true→o.wr=true)∧(o'.live=true→o.live=true)
 full:∀i,st.n≤i→i<st'.n→∃l,μ' i=some l
 wrt:∀i∈ws,i<st.n→∃o,st.h.get i=some o∧o.wr=true
def Za7.ext_of{P:Program}{μ μ':Mu}{w:World}{st:St}(h:Za7 P μ w st)(he:∀i,i<st.n→μ' i=μ i):∀i l,μ i=some l→μ' i=some l:=
 fun i l hi=>(he i (h.dom i l hi).1).trans hi
def Chg.refl(μ:Mu)(ws:List Nat)(w:World):Chg μ ws w w:=⟨rfl,rfl,rfl,Yqg _,fun _ _ _=>rfl⟩
def Stp.refl{P:Program}{μ:Mu}{w:World}{st:St}(h:Za7 P μ w st):Stp P μ w st μ w st []:=
 ⟨h,fun _ _=>rfl,Yqg _,rfl,Chg.refl μ [] w,fun i l hi hl=>absurd (h.dom i l hl).1 (by omega),fun _ _ _=>rfl,fun _ o' _ ho=>⟨o',ho,id,id⟩,fun _ h1 h2=>absurd h2 (by omega),fun _ hi=>absurd hi (by simp)⟩
def Stp.trans{P:Program}{μ μ1 μ2:Mu}{w w1 w2:World}{st st1 st2:St}{ws ws':List Nat}
  (h1:Stp P μ w st μ1 w1 st1 ws) (h2:Stp P μ1 w1 st1 μ2 w2 st2 ws'):Stp P μ w st μ2 w2 st2 (ws'++ws) where
 hr:=h2.hr
 ext:=fun i hi=>(h2.ext i (Yqq hi h1.nle)).trans (h1.ext i hi)
 nle:=Yr4 h1.nle h2.nle
 wl:=by rw[h2.wl,h1.wl,Yrh]
 chg:=by
  refine⟨h2.chg.os.trans h1.chg.os,h2.chg.tape.trans h1.chg.tape,h2.chg.output.trans h1.chg.output,Yr4 h1.chg.size h2.chg.size,fun b hb hnot=>?_⟩
  rw[h2.chg.block b (Yqq hb h1.chg.size) fun i hi l hl=>?_,h1.chg.block b hb fun i hi l hl=>hnot i (by simp[hi]) l hl]
  by_cases hin:i<st.n
  ·exact hnot i (by simp[hi]) l (by rw[←h1.ext i hin];exact hl)
  ·rcases h1.new i l (by omega) hl with h|⟨j,hj,_,lj,oj,hlj,hb',_⟩
   ·omega
   ·rw[←hb'];exact hnot j (by simp[hj]) lj hlj
 new:=fun i l hi hl=>by
  by_cases hin:i<st1.n
  ·rcases h1.new i l hi (by rw[←h2.ext i hin];exact hl)with h|⟨j,hj,r⟩
   ·exact .inl h
   ·exact .inr ⟨j,by simp[hj],r⟩
  ·rcases h2.new i l (by omega) hl with h|⟨j,hj,hjn,lj,oj,hlj,hb',hoj,how⟩
   ·exact .inl (Yr4 h1.chg.size h)
   ·by_cases hjn':j<st.n
    ·obtain⟨o,ho,hw,_⟩:=h1.grow j oj hjn' hoj
     exact .inr ⟨j,by simp[hj],hjn',lj,o,by rw[←h1.ext j hjn'];exact hlj,hb',ho,hw how⟩
    ·rcases h1.new j lj (by omega) hlj with h|⟨j',hj',r⟩
     ·exact .inl (by omega)
     ·obtain⟨r1,lj',oj',r2,r3,r4⟩:=r
      exact .inr ⟨j',by simp[hj'],r1,lj',oj',r2,r3.trans hb',r4⟩
 keep:=fun i hi hnot=>by
  simp only[Yry,not_or]at hnot
  rw[h2.keep i (Yqq hi h1.nle) hnot.1,h1.keep i hi hnot.2]
 grow:=fun i o' hi ho=>by
  obtain⟨o1,ho1,a1,b1⟩:=h2.grow i o' (Yqq hi h1.nle) ho
  obtain⟨o,ho,a,b⟩:=h1.grow i o1 hi ho1
  exact⟨o,ho,a∘a1,b∘b1⟩
 full:=fun i h1' h2'=>by
  by_cases hi:i<st1.n
  ·obtain⟨l,hl⟩:=h1.full i h1' hi
   exact⟨l,(h2.ext i hi).trans hl⟩
  ·exact h2.full i (by omega) h2'
 wrt:=fun i hi hn=>by
  simp only[Yry]at hi
  rcases hi with hi|hi
  ·obtain⟨o1,ho1,hw1⟩:=h2.wrt i hi (Yqq hn h1.nle)
   obtain⟨o,ho,a,_⟩:=h1.grow i o1 hn ho1
   exact⟨o,ho,a hw1⟩
  ·exact h1.wrt i hi hn
def Za7.drew{P:Program}{μ:Mu}{w:World}{st:St}(h:Za7 P μ w st)(n:Nat):Za7 P μ {w with drawn:=n} st:=
 ⟨h.dom,fun i l hl=>let ⟨o,h1,h2⟩:=h.obj i l hl;⟨o,h1,OM.congr (w:=w) rfl h2⟩,h.inj,h.glob⟩
def Stp.alloc{P:Program}{μ:Mu}{w:World}{st:St}(h:Za7 P μ w st)(o:O)(ob:Obj)(d tot:Nat)
  (ho:OM P (fun i=>if i=st.n then some ⟨w.heap.size,d,tot⟩ else μ i) {w with heap:=w.heap.push ob} o ⟨w.heap.size,d,tot⟩):
  Stp P μ w st (fun i=>if i=st.n then some ⟨w.heap.size,d,tot⟩ else μ i) {w with heap:=w.heap.push ob} (st.alloc o) []:=by
 have hmono:∀i l,μ i=some l→(fun i=>if i=st.n then some (⟨w.heap.size,d,tot⟩:L) else μ i) i=some l:=fun i l hl=>by
  have:=(h.dom i l hl).1
  simp only
  rw[Yqe (by omega)];exact hl
 have hold:∀b,b<w.heap.size→({w with heap:=w.heap.push ob}:World).heap[b]?=w.heap[b]?:=fun b hb=>by
  show (w.heap.push ob)[b]?=_
  rw[Array.getElem?_push,Yqe (by omega)]
 refine⟨⟨fun i l hl=>?_,fun i l hl=>?_,fun i j l l' oi oj hi hj hne ho1 ho2 hw hlv=>?_,fun g hg=>let ⟨t,ht⟩:=h.glob g hg;⟨t,hmono g _ ht⟩⟩,fun i hi=>?_,by simp[St.alloc],rfl,⟨rfl,rfl,rfl,by simp,fun b hb _=>hold b hb⟩,
  fun i l hi hl=>?_,fun i hi _=>?_,fun i o' hi ho'=>?_,fun i h1 h2=>⟨⟨w.heap.size,d,tot⟩,by simp only[St.alloc]at h2;show (if i=st.n then some (⟨w.heap.size,d,tot⟩:L) else μ i)=_;rw[Yqi (by omega)]⟩,fun _ hi=>absurd hi (by simp)⟩
 ·by_cases e:i=st.n
  ·simp only[e,if_true,Yqc]at hl;subst hl;simp[St.alloc,e]
  ·simp only[e,if_false]at hl
   have:=h.dom i l hl
   simp[St.alloc];omega
 ·by_cases e:i=st.n
  ·simp only[e,if_true,Yqc]at hl;subst hl
   exact⟨o,by simp[St.alloc,T.get_set,e],ho⟩
  ·simp only[e,if_false]at hl
   obtain⟨o1,h1,h2⟩:=h.obj i l hl
   exact⟨o1,by simp[St.alloc,T.get_set,e,h1],(h2.mono hmono).congr (hold l.b (h.dom i l hl).2)⟩
 ·by_cases e:i=st.n
  ·by_cases e':j=st.n
   ·exact absurd (e.trans e'.symm) hne
   ·simp only[e,if_true,Yqc]at hi;simp only[e',if_false]at hj;subst hi
    have:=(h.dom j l' hj).2
    simp only;omega
  ·simp only[e,if_false]at hi
   by_cases e':j=st.n
   ·simp only[e',if_true,Yqc]at hj;subst hj
    have:=(h.dom i l hi).2
    simp only;omega
   ·simp only[e',if_false]at hj
    simp only[St.alloc,T.get_set,e,e',if_false]at ho1 ho2
    exact h.inj i j l l' oi oj hi hj hne ho1 ho2 hw hlv
 ·rw[Yqe (by omega)]
 ·by_cases e:i=st.n
  ·simp only[e,if_true,Yqc]at hl;subst hl;exact .inl (Yqg _)
  ·simp only[e,if_false]at hl
   exact absurd (h.dom i l hl).1 (by omega)
 ·simp only[St.alloc,T.get_set];rw[Yqe (by omega)]
 ·simp only[St.alloc,T.get_set]at ho';rw[Yqe (by omega)]at ho'
  exact⟨o',ho',id,id⟩
def Stp.write{P:Program}{μ:Mu}{w w':World}{st:St}(h:Za7 P μ w st){i:Nat}{l:L}{o o':O}(hi:μ i=some l)(ho:st.h.get i=some o)(hw:o.wr=true)
  (hos:w'.os=w.os) (htp:w'.tape=w.tape) (hou:w'.output=w.output) (hsz:w'.heap.size=w.heap.size) (hblk:∀b,b≠l.b→w'.heap[b]?=w.heap[b]?) (ho':OM P μ w' o' l):
  Stp P μ w st μ w' (st.write i o') [i]:=by
 have hlive:o.live=true:=by cases o<;>simp_all [O.wr,O.live]
 refine⟨⟨fun j lj hj=>?_,fun j lj hj=>?_,fun j k lj lk oj ok hj hk hne h1 h2 hwj hlk=>?_,h.glob⟩,fun _ _=>rfl,Yqg _,rfl,⟨hos,htp,hou,by omega,fun b _ hnot=>hblk b ?_⟩,
  fun j lj hn hj=>?_,fun j _ hnot=>?_,fun j oj hn hj=>?_,fun j h1 h2=>absurd h2 (by simp only[St.write];omega),fun j hj _=>by simp only[Ysf]at hj;subst hj;exact⟨o,ho,hw⟩⟩
 ·have:=h.dom j lj hj
  simp[St.write];omega
 ·by_cases e:j=i
  ·subst e
   rw[hi]at hj;cases hj
   exact⟨o',by simp[St.write,T.get_set],ho'⟩
  ·obtain⟨oj,h1,h2⟩:=h.obj j lj hj
   refine⟨oj,by simp[St.write,T.get_set,e,h1],?_⟩
   cases hl:oj.live
   ·cases oj<;>simp[O.live]at hl
    trivial
   ·exact h2.congr (hblk lj.b (Ne.symm (h.inj i j l lj o oj hi hj (Ne.symm e) ho h1 hw hl)))
 ·simp only[St.write,T.get_set]at h1 h2
  by_cases e:j=i
  ·subst e
   rw[hi]at hj;cases hj
   rw[Yqe (Ne.symm hne)]at h2
   exact h.inj j k l lk o ok hi hk hne ho h2 hw hlk
  ·rw[Yqe e]at h1
   by_cases e':k=i
   ·subst e'
    exact h.inj j k lj lk oj o hj hk hne h1 ho hwj hlive
   ·rw[Yqe e']at h2
    exact h.inj j k lj lk oj ok hj hk hne h1 h2 hwj hlk
 ·exact Ne.symm (hnot i (by simp) l hi)
 ·exact absurd (h.dom j lj hj).1 (by omega)
 ·simp only[Ysf]at hnot
  simp[St.write,T.get_set,hnot]
 ·simp only[St.write,T.get_set]at hj
  by_cases e:j=i
  ·subst e
   exact⟨o,ho,fun _=>hw,fun _=>hlive⟩
  ·rw[Yqe e]at hj
   exact⟨oj,hj,id,id⟩
end Go.Mx
