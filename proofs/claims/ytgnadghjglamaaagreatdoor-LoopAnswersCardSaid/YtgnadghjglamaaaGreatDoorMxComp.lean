/-Code of the Go model resolved for the ma-/
import Derived.Test.YtgnadghjglamaaaGreatDoorMxCore
import Derived.Laws.MakeOwn
import Derived.Laws.CopyRow
import Derived.Laws.Rows
import Derived.Laws.Append
import Derived.Laws.Externs
import Derived.Laws.StructEq
import Derived.RowKit
set_option linter.all false
namespace Go.Mx
mutual
def cV:Value→Option V
 |.bool b=>some (.bool b)
 |.int k n=>some (.int k n)
 |.float k n=>some (.flt k n)
 |.complex k a b=>some (.cpl k a b)
 |.string s=>some (.str s.data.toList)
 |.pointer none=>some .nilptr
 |.slice none 0 0=>some .nilslice
 |.map none=>some .nilmap
 |.chan none=>some .nilchan
 |.nilFunc=>some .nilfunc
 |.nilIface=>some .niliface
 |.agg ⟨l⟩=>match cVs l with
  |some l=>some (.agg l)
  |none=>none
 |.tuple ⟨l⟩=>match cVs l with
  |some l=>some (.tup l)
  |none=>none
 |_=>none
def cVs:List Value→Option (List V)
 |[]=>some []
 |v::vs=>match cV v,cVs vs with
  |some v,some vs=>some (v::vs)
  |_,_=>none
end
section
variable (P:Program)
def Zbe:Operand→Option Src
 |.tmp t=>some (.tmp t)
 |.const v=>match cV v with
  |some v=>some (.const v)
  |none=>none
 |.global g=>if g<P.globals.size then some (.const (.ptr g 0)) else none
 |.func f=>some (.const (.func f [] []))
def Zi2:List Operand→Option (List Src)
 |[]=>some []
 |x::xs=>match Zbe P x,Zi2 xs with
  |some x,some xs=>some (x::xs)
  |_,_=>none
def Zqc:Option Operand→Option (Option Src)
 |none=>some none
 |some x=>match Zbe P x with
  |some x=>some (some x)
  |none=>none
def Zbt(t:TypeId):Option Nat:=(P.info? t).map (·.size)
def Zig(t:TypeId):Option Nat:=(P.info? t).map (·.bytes)
def Zze(t:TypeId):Option (Option Nat):=
 match P.underlying t with
 |some (.struct _)|some (.array _ _)=>match Zbt P t with
  |some n=>some (some n)
  |none=>none
 |some _=>some none
 |none=>none
def Ze6(t:TypeId):Option V:=
 match P.info? t with
 |some i=>match i.zero with
  |some v=>cV v
  |none=>none
 |none=>none
def Yn0:TypeDesc→Option PK
 |.bool=>some .bool
 |.int _=>some .int
 |.string=>some .str
 |.pointer _=>some .ptr
 |.slice _=>some .slice
 |.map _ _=>some .map
 |.func _ _ _=>some .func
 |.chan _ _=>some .chan
 |.interface _=>some .iface
 |_=>none
def Ylw(q:TypeId→Option EqT):List Field→Option (List (Nat×Option Nat×EqT))
 |[]=>some []
 |f::fs=>if f.name= "_" then Ylw q fs else
  match Zze P f.type,q f.type,Ylw q fs with
  |some a,some q,some l=>some ((f.offset,a,q)::l)
  |_,_,_=>none
def Yje:TypeDesc→Bool
 |.pointer e=>(P.info? e).isSome
 |_=>true
def eqP:Nat→TypeId→Option EqT
 |0,_=>none
 |d+1,t=>
  match P.underlying t with
  |some (.struct fs)=>
   if P.stoodInHeld t then none else
   match Ylw P (eqP d) fs.toList with
   |some l=>some (.node l)
   |none=>none
  |some q=>match Yn0 q with
   |some k=>if Yje P q=true then some (.prim k) else none
   |none=>none
  |none=>none
def Zif(place:Nat→Option (Nat×Nat)):List (Nat×Operand)→Option (List (Nat×Nat×Src))
 |[]=>some []
 |(i,x)::rest=>match place i,Zbe P x,Zif place rest with
  |some (o,s),some x,some l=>some ((o,s,x)::l)
  |_,_,_=>none
def Yb4(t:TypeId):Option Zk3:=
 match P.underlying t with
 |some (.int k)=>some (.int k)
 |some .string=>some .str
 |_=>none
def Zit:Operand→Bool
 |.const _=>true
 |_=>false
def Zom(fs:List Field):Option (List (Nat×Nat)):=
 match fs with
 |[]=>some []
 |f::fs=>match Zbt P f.type,Zom fs with
  |some s,some l=>some ((f.offset,s)::l)
  |_,_=>none
def Zh6(name:String):Option Ext:=
 if name= "math/bits.Add64" then some .add64
 else if name= "math/bits.Sub64" then some .sub64
 else if name= "internal/abi.NoEscape" then some .same
 else if name= "internal/bytealg.IndexByteString" then some .indexByteString
 else if name= "math.Float64bits" then some .fbits
 else if name= "math.Float64frombits" then some .ffrom
 else none
def Zr4(c:Call):Option MOp:=
 match c.callee with
 |.value f=>match Zi2 P c.args.toList with
  |none=>none
  |some args=>match f with
   |.func g=>match P.funcs[g]? with
    |some fn=>if fn.body.isSome then some (.call (.const (.func g [] [])) args) else
     match Zh6 fn.name with
     |some e=>some (.ext e args)
     |none=>none
    |none=>none
   |f=>match Zbe P f with
    |some f=>some (.call f args)
    |none=>none
 |.invoke _ _=>none
 |.builtin b=>
  match b,c.argTypes.toList,c.args.toList with
  |.len,[t],[x]=>
   match P.underlying t,Zbe P x with
   |some .string,some x=>some (.len 0 x)
   |some (.slice _),some x=>some (.len 1 x)
   |some (.map _ _),some x=>some (.len 2 x)
   |some (.array n _),_=>some (.lenArr n)
   |some (.pointer a),_=>match P.underlying a with
    |some (.array n _)=>some (.lenArr n)
    |_=>none
   |_,_=>none
  |.cap,[t],[x]=>
   match P.underlying t,Zbe P x with
   |some (.slice _),some x=>some (.cap x)
   |_,_=>none
  |.min,_,_=>match Zi2 P c.args.toList with
   |some l=>some (.mn l)
   |none=>none
  |.max,_,_=>match Zi2 P c.args.toList with
   |some l=>some (.mx l)
   |none=>none
  |.append,[t,u],[s,x]=>
   match P.underlying t with
   |some (.slice e)=>match Zbt P e,Zig P e,Ze6 P e,Zbe P s,Zbe P x,P.underlying u with
    |some n,some b,some z,some s,some x,some d=>if (d matches .int _)∨b=0∨z.cells.length≠n∨z.cells.all V.one=false then none else some (.append n b e z.cells s x)
    |_,_,_,_,_,_=>none
   |_=>none
  |.copy,t::_,[d,s]=>
   match P.underlying t with
   |some (.slice e)=>match Zbt P e,Zbe P d,Zbe P s with
    |some n,some d,some s=>some (.copy n d s)
    |_,_,_=>none
   |_=>none
  |.clear,[t],[s]=>
   match P.underlying t with
   |some (.slice e)=>match Zbt P e,Ze6 P e,Zbe P s with
    |some n,some z,some s=>if z.cells.all V.one then some (.clear n z.cells s) else none
    |_,_,_=>none
   |_=>none
  |.unsafeSliceData,[_],[s]=>(Zbe P s).map .sdata
  |.real,[_],[s]=>(Zbe P s).map (.part false)
  |.imag,[_],[s]=>(Zbe P s).map (.part true)
  |.unsafeString,[t,_],[x,n]=>
   match P.underlying t with
   |some (.pointer e)=>match Zbt P e,Zbe P x,Zbe P n with
    |some 1,some x,some n=>some (.ustr e x n)
    |_,_,_=>none
   |_=>none
  |_,_,_=>none
def isFlt(t:TypeId):Bool:=match P.underlying t with
 |some (.float _)=>true
 |_=>false
def Ylx:Op→Option MOp
 |.move x|.assign x=>(Zbe P x).map .mov
 |.pick c a b=>match Zbe P c,Zbe P a,Zbe P b with
  |some c,some a,some b=>some (.pick c a b)
  |_,_,_=>none
 |.alloc e=>match Ze6 P e with
  |some z=>if z.cells.all V.one then some (.alloc z.cells e) else none
  |none=>none
 |.box e x=>(Zbe P x).map (.box e)
 |.build t parts=>match Ze6 P t with
  |none=>none
  |some z=>match P.underlying t with
   |some (.struct fs)=>match Zom P fs.toList with
    |some pl=>(Zif P (pl[·]?) parts.toList).map (.build z.cells)
    |none=>none
   |some (.array _ e)=>match Zbt P e with
    |some s=>(Zif P (fun i=>some (i*s,s)) parts.toList).map (.build z.cells)
    |none=>none
   |_=>none
 |.buildSlice t len parts=>match P.underlying t with
  |some (.slice e)=>match Zbt P e,Ze6 P e with
   |some s,some z=>if len*s > 2^24∨z.cells.length≠s∨s=0 then none else
    (Zif P (fun i=>some (i*s,s)) parts.toList).map (.bslice e s len (Zc8 z.cells len))
   |_,_=>none
  |_=>none
 |.load t a=>match Zze P t,Zbe P a with
  |some n,some a=>some (.load n a)
  |_,_=>none
 |.store t a x=>match Zbt P t,Zbe P a,Zbe P x with
  |some n,some a,some x=>some (.store n a x)
  |_,_,_=>none
 |.nilCheck x=>(Zbe P x).map .nilck
 |.binOp op t x y _=>match Zbe P x,Zbe P y with
  |some a,some b=>
   if isFlt P t=true then some (.fbin op a b) else
   match op with
   |.eql|.neq=>match eqP P 40 t with
    |some q=>if (match P.underlying t with|some (.struct _)|some (.array _ _)=>P.eqGuardType P.depth t|_=>false) then none else some (.bin op q (Zit x||Zit y) a b)
    |none=>none
   |_=>some (.bin op (.node []) false a b)
  |_,_=>none
 |.unOp op _ x=>(Zbe P x).map (.un op)
 |.convert src dst x=>match Zbe P x with
  |none=>none
  |some a=>match P.underlying src,P.underlying dst with
   |some (.int _),some (.int k)=>some (.convInt k a)
   |some (.float _),some (.int k)=>some (.fToI k a)
   |some .string,some .string=>some (.convStr a)
   |some .string,some (.slice e)=>match P.underlying e with
    |some (.int .u8)=>some (.strBytes e a)
    |_=>none
   |some (.slice e),some .string=>match P.underlying e with
    |some (.int .u8)=>some (.bytesStr a)
    |_=>none
   |some (.pointer t),some .unsafePointer=>match Zbt P t with
    |some (_+1)=>some (.uns none a)
    |_=>none
   |some .unsafePointer,some (.pointer u)=>match Zbt P u with
    |some (z+1)=>some (.uns (some (u,z+1)) a)
    |_=>none
   |_,_=>none
 |.makeInterface t x=>match P.underlying t with
  |some (.interface _)=>none
  |some _=>(Zbe P x).map (.mkiface t)
  |none=>none
 |.makeFunc (.func f) first caps=>match Zi2 P first.toList,Zi2 P caps.toList with
  |some a,some l=>some (.mkfunc f a l)
  |_,_=>none
 |.makeMap _ none=>some .mkmap
 |.makeChan t n=>match P.underlying t with
  |some (.chan _ e)=>match Zig P e,Zbe P n with
   |some b,some n=>some (.mkchan b n)
   |_,_=>none
  |_=>none
 |.makeSlice t l c=>match P.underlying t with
  |some (.slice e)=>match Zbt P e,Zig P e,Ze6 P e,Zbe P l,Zbe P c with
   |some s,some b,some z,some l,some c=>if z.cells.all V.one then some (.mkslice e s b z.cells l c) else none
   |_,_,_,_,_=>none
  |_=>none
 |.slice t x lo hi mx=>match Zbe P x,Zqc P lo,Zqc P hi,Zqc P mx with
  |some x,some lo,some hi,some mx=>match P.underlying t with
   |some .string=>if mx.isSome then none else some (.sliceStr x lo hi)
   |some (.slice e)=>(Zbt P e).map fun s=>.sliceSl s x lo hi mx
   |some (.array n e)=>(Zbt P e).map fun s=>.sliceArr n s x lo hi mx
   |_=>none
  |_,_,_,_=>none
 |.fieldAddr t x i=>match P.underlying t,Zbe P x with
  |some (.struct fs),some x=>match fs[i]? with
   |some f=>match Zbt P f.type with
    |some (_+1)=>some (.faddr f.offset x)
    |_=>none
   |none=>none
  |_,_=>none
 |.field t x i=>match P.underlying t,Zbe P x with
  |some (.struct fs),some x=>match fs[i]? with
   |some f=>(Zze P f.type).map fun n=>.field f.offset n x
   |none=>none
  |_,_=>none
 |.indexAddr t x i=>match P.underlying t,Zbe P x,Zbe P i with
  |some (.array n e),some x,some i=>(Zbt P e).map fun s=>.iaddrArr n s x i
  |some (.slice e),some x,some i=>(Zbt P e).map fun s=>.iaddrSl s x i
  |_,_,_=>none
 |.index t x i=>match P.underlying t,Zbe P x,Zbe P i with
  |some (.array n e),some x,some i=>match Zbt P e,Zze P e with
   |some s,some a=>some (.idxArr n s a x i)
   |_,_=>none
  |some .string,some x,some i=>some (.idxStr x i)
  |_,_,_=>none
 |.lookup t m k ok=>match P.underlying t,Zbe P m,Zbe P k with
  |some (.map kt e),some m,some k=>match Yb4 P kt,Ze6 P e with
   |some kd,some z=>some (.lookup kd z m k ok)
   |_,_=>none
  |_,_,_=>none
 |.mapUpdate t m k v|.insert t m k v=>match P.underlying t,Zbe P m,Zbe P k,Zbe P v with
  |some (.map kt _),some m,some k,some v=>(Yb4 P kt).map fun kd=>.mapset kd m k v
  |_,_,_,_=>none
 |.range t x=>match P.underlying t,Zbe P x with
  |some .string,some x=>some (.rangeStr x)
  |_,_=>none
 |.next it true=>(Zbe P it).map .nextStr
 |.extract x i=>(Zbe P x).map fun x=>.extract x i
 |.call c=>Zr4 P c
 |_=>none
def cOp(o:Op):MOp:=(Ylx P o).getD .stop
def Znn(ops:Array Oper):Option (Nat×Bool)→Option (Option (Nat×Bool))
 |none=>some none
 |some (j,want)=>match (ops[j]?).bind (·.dst)with
  |some t=>some (some (t,want))
  |none=>none
def Zgn(ops:Array Oper)(o:Oper):Zbc:=
 match Znn ops o.guard with
 |some g=>{dst:=o.dst,op:=cOp P o.op,guard:=g}
 |none=>{dst:=o.dst,op:=.stop,guard:=none}
def Zrb(o:Oper)(ms:List Nat):Nat:=
 o.after.foldl (fun s e=>if Region.binds .any e then s|||2^e.on|||ms.getD e.on 0 else s) 0
def Zc5:List Oper→List Nat→List Nat
 |[],acc=>acc
 |o::rest,acc=>Zc5 rest (acc++[Zrb o acc])
def Yn4(o:Oper):Option (Option Nat×Src×Option Src×V):=
 match o.op,o.guard with
 |.select cs false,none=>match cs.toList with
  |[c]=>match Zbe P c.chan,Zqc P c.send,Ze6 P c.elem with
   |some ch,some s,some z=>some (o.dst,ch,s,z)
   |_,_,_=>none
  |_=>none
 |_,_=>none
def Zk0:Nat→List Oper→Bool
 |_,[]=>true
 |i,o::os=>(o.after.all fun e=>!Region.binds .any e||Nat.blt e.on i)&&Zk0 (i+1) os
def Yi9(ops:Array Oper):Bool:=Zk0 0 ops.toList&&Zal Zwm (ops.toList.map (Zgn P ops)) (Zc5 ops.toList [])
def Zcu:Code→Zaw
 |.skip=>.skip
 |.region _ ops false=>match ops.toList with
  |[]=>.reg []
  |o::rest=>match Yn4 P o with
   |some (d,ch,s,z)=>.regS d ch s z (rest.map (Zgn P ops))
   |none=>.reg ((o::rest).map (Zgn P ops))
 |.region _ ops true=>if Yi9 P ops then .regD (ops.toList.map (Zgn P ops)) (Zc5 ops.toList []) else .stop
 |.seq a b=>.seq (Zcu a) (Zcu b)
 |.cond c a b=>match Zbe P c with
  |some c=>.cond c (Zcu a) (Zcu b)
  |none=>.stop
 |.block id c=>.block id (Zcu c)
 |.loop c=>.loop (Zcu c)
 |.rangeFunc g ps assign body=>match Zbe P g with
  |some g=>.rangef g ps.toList (Zcu assign) (Zcu body)
  |none=>.stop
 |.exit id=>.exit id
 |.scope c=>.scope (Zcu c)
 |.label _=>.skip
 |.goto _=>.stop
 |.ret=>.ret
 |.refuse _=>.stop
def Yia:List ResultVar→Option (List Ylt)
 |[]=>some []
 |.tmp t::rest=>(Yia rest).map (.tmp t::·)
 |.cell t ty::rest=>match Zze P ty,Yia rest with
  |some n,some l=>some (.cell t n::l)
  |_,_=>none
def Zlk(f:FuncId):Option Zej:=
 match P.funcs[f]? with
 |some fn=>match fn.body,Yia P fn.results.toList with
  |some c,some rs=>some {ntmps:=fn.ntmps,results:=rs,body:=Zcu P c}
  |_,_=>none
 |none=>none
end
open Go
structure L where
 b:Nat
 d:Nat
 tot:Nat
abbrev Mu:=Nat→Option L
mutual
def VR(μ:Mu):V→Value→Prop
 |.bool b,x=>x=.bool b
 |.int k n,x=>x=.int k n
 |.flt k n,x=>x=.float k n
 |.cpl k a b,x=>x=.complex k a b
 |.str s,x=>x=.string ⟨s.toArray⟩
 |.nilptr,x=>x=.pointer none
 |.ptr i o,x=>∃l,μ i=some l∧x=.pointer (some ⟨l.b,l.d+o,none⟩)
 |.nilslice,x=>x=.slice none 0 0
 |.slice i o len cap sz,x=>∃l c,μ i=some l∧x=.slice (some ⟨l.b,l.d+o,none⟩) len c∧len≤c∧o+c*sz≤l.tot∧
   (∀k,cap=some k→c=k)∧(cap=none→o+c*sz=l.tot)
 |.empty,x=>∃a c,x=.slice (some a) 0 c
 |.nilmap,x=>x=.map none
 |.map i,x=>∃l,μ i=some l∧x=.map (some l.b)
 |.nilchan,x=>x=.chan none
 |.chan i,x=>∃l,μ i=some l∧x=.chan (some l.b)
 |.func f a c,x=>∃a' c',x=.func (.func f) ⟨a'⟩ ⟨c'⟩∧VRs μ a a'∧VRs μ c c'
 |.yield i,x=>∃l,μ i=some l∧x=.func (.yield l.b) #[] #[]
 |.nilfunc,x=>x=.nilFunc
 |.iface t v,x=>∃y,x=.iface t y∧VR μ v y
 |.niliface,x=>x=.nilIface
 |.agg vs,x=>∃a,x=.agg ⟨a⟩∧VRs μ vs a
 |.tup vs,x=>∃a,x=.tuple ⟨a⟩∧VRs μ vs a
def VRs(μ:Mu):List V→List Value→Prop
 |[],xs=>xs=[]
 |v::vs,xs=>∃y ys,xs=y::ys∧VR μ v y∧VRs μ vs ys
end
mutual
def VR.mono{μ μ':Mu}(h:∀i l,μ i=some l→μ' i=some l):∀(v:V) (x:Value),VR μ v x→VR μ' v x
 |.bool _,_,hx=>by simpa[VR]using hx
 |.int _ _,_,hx=>by simpa[VR]using hx
 |.flt _ _,_,hx=>by simpa[VR]using hx
 |.cpl _ _ _,_,hx=>by simpa[VR]using hx
 |.str _,_,hx=>by simpa[VR]using hx
 |.nilptr,_,hx=>by simpa[VR]using hx
 |.ptr _ _,_,hx=>by simp only[VR]at*;obtain⟨l,h1,h2⟩:=hx;exact⟨l,h _ _ h1,h2⟩
 |.nilslice,_,hx=>by simpa[VR]using hx
 |.slice _ _ _ _ _,_,hx=>by simp only[VR]at*;obtain⟨l,c,h1,h2⟩:=hx;exact⟨l,c,h _ _ h1,h2⟩
 |.empty,_,hx=>by simpa[VR]using hx
 |.nilmap,_,hx=>by simpa[VR]using hx
 |.map _,_,hx=>by simp only[VR]at*;obtain⟨l,h1,h2⟩:=hx;exact⟨l,h _ _ h1,h2⟩
 |.nilchan,_,hx=>by simpa[VR]using hx
 |.chan _,_,hx=>by simp only[VR]at*;obtain⟨l,h1,h2⟩:=hx;exact⟨l,h _ _ h1,h2⟩
 |.func _ a c,_,hx=>by
  simp only[VR]at*;obtain⟨a',c',h1,h2,h3⟩:=hx
  exact⟨a',c',h1,VRs.mono h a a' h2,VRs.mono h c c' h3⟩
 |.yield _,_,hx=>by simp only[VR]at*;obtain⟨l,h1,h2⟩:=hx;exact⟨l,h _ _ h1,h2⟩
 |.nilfunc,_,hx=>by simpa[VR]using hx
 |.iface _ v,_,hx=>by simp only[VR]at*;obtain⟨y,h1,h2⟩:=hx;exact⟨y,h1,VR.mono h v y h2⟩
 |.niliface,_,hx=>by simpa[VR]using hx
 |.agg vs,_,hx=>by simp only[VR]at*;obtain⟨a,h1,h2⟩:=hx;exact⟨a,h1,VRs.mono h vs a h2⟩
 |.tup vs,_,hx=>by simp only[VR]at*;obtain⟨a,h1,h2⟩:=hx;exact⟨a,h1,VRs.mono h vs a h2⟩
def VRs.mono{μ μ':Mu}(h:∀i l,μ i=some l→μ' i=some l):∀(vs:List V) (xs:List Value),VRs μ vs xs→VRs μ' vs xs
 |[],_,hx=>by simpa[VRs]using hx
 |v::vs,_,hx=>by
  simp only[VRs]at*
  obtain⟨y,ys,h1,h2,h3⟩:=hx
  exact⟨y,ys,h1,VR.mono h v y h2,VRs.mono h vs ys h3⟩
end
section
variable {μ:Mu}
def Zau{v:V}{vs:List V}{xs:List Value}:VRs μ (v::vs) xs↔∃y ys,xs=y::ys∧VR μ v y∧VRs μ vs ys:=by simp[VRs]
def VRs.length:∀{vs:List V} {xs:List Value},VRs μ vs xs→xs.length=vs.length
 |[],_,h=>by simp[VRs]at h;simp[h]
 |v::vs,_,h=>by
  obtain⟨y,ys,rfl,_,h3⟩:=Zau.1 h
  simp[VRs.length h3]
def VRs.get:∀{vs:List V} {xs:List Value},VRs μ vs xs→∀{i:Nat} {v:V},vs[i]?=some v→∃x,xs[i]?=some x∧VR μ v x
 |[],_,_,i,v,hv=>by simp at hv
 |w::vs,_,h,i,v,hv=>by
  obtain⟨y,ys,rfl,h2,h3⟩:=Zau.1 h
  cases i with
  |zero=>simp at hv;subst hv;exact⟨y,by simp,h2⟩
  |succ i=>simpa using VRs.get h3 (i:=i) (by simpa using hv)
def VRs.append:∀{vs ws:List V} {xs ys:List Value},VRs μ vs xs→VRs μ ws ys→VRs μ (vs++ws) (xs++ys)
 |[],ws,_,ys,h,h'=>by simp[VRs]at h;simpa[h]using h'
 |v::vs,ws,_,ys,h,h'=>by
  obtain⟨y,zs,rfl,h2,h3⟩:=Zau.1 h
  exact Zau.2 ⟨y,zs++ys,rfl,h2,VRs.append h3 h'⟩
def VRs.take:∀{vs:List V} {xs:List Value} (n:Nat),VRs μ vs xs→VRs μ (vs.take n) (xs.take n)
 |[],_,n,h=>by simp[VRs]at h;simp[h,VRs]
 |v::vs,_,n,h=>by
  obtain⟨y,zs,rfl,h2,h3⟩:=Zau.1 h
  cases n with
  |zero=>simp[VRs]
  |succ n=>exact Zau.2 ⟨y,zs.take n,rfl,h2,VRs.take n h3⟩
def VRs.drop:∀{vs:List V} {xs:List Value} (n:Nat),VRs μ vs xs→VRs μ (vs.drop n) (xs.drop n)
 |[],_,n,h=>by simp[VRs]at h;simp[h,VRs]
 |v::vs,_,n,h=>by
  cases n with
  |zero=>simpa using h
  |succ n=>
   obtain⟨y,zs,rfl,h2,h3⟩:=Zau.1 h
   simpa using VRs.drop n h3
def VRs.of_get:∀{vs:List V} {xs:List Value},xs.length=vs.length→(∀(i:Nat) (v:V),vs[i]?=some v→∃x,xs[i]?=some x∧VR μ v x)→VRs μ vs xs
 |[],xs,hl,_=>by simp at hl;simp[VRs,hl]
 |v::vs,[],hl,_=>by simp at hl
 |v::vs,x::xs,hl,h=>by
  refine Zau.2 ⟨x,xs,rfl,?_,VRs.of_get (by simpa using hl) fun i u hu=>?_⟩
  ·obtain⟨y,h1,h2⟩:=h 0 v (by simp)
   simp at h1;subst h1;exact h2
  ·simpa using h (i+1) u (by simpa using hu)
def VR.one{v:V}{x:Value}(h:VR μ v x)(hv:v.one=true):x.oneCell'=true:=by
 cases v<;>simp only[VR]at h<;>simp only[V.one,Yr3]at hv
 case bool=>subst h;rfl
 case int=>subst h;rfl
 case flt=>subst h;rfl
 case cpl=>subst h;rfl
 case str=>subst h;rfl
 case nilptr=>subst h;rfl
 case ptr=>obtain⟨l,_,rfl⟩:=h;rfl
 case nilslice=>subst h;rfl
 case slice=>obtain⟨l,c,_,rfl,_⟩:=h;rfl
 case empty=>obtain⟨a,c,rfl⟩:=h;rfl
 case nilmap=>subst h;rfl
 case map=>obtain⟨l,_,rfl⟩:=h;rfl
 case nilchan=>subst h;rfl
 case chan=>obtain⟨l,_,rfl⟩:=h;rfl
 case func=>obtain⟨a,c,rfl,_⟩:=h;rfl
 case yield=>obtain⟨l,_,rfl⟩:=h;rfl
 case nilfunc=>subst h;rfl
 case iface=>obtain⟨y,rfl,_⟩:=h;rfl
 case niliface=>subst h;rfl
def VR.cells{v:V}{x:Value}(h:VR μ v x):VRs μ v.cells x.cells.toList:=by
 have one:∀y:Value,x=y→(y.cells=#[y])→v.cells=[v]→VRs μ v.cells x.cells.toList:=fun y e hc hv=>by
  subst e;rw[hc,hv];exact Zau.2 ⟨_,[],rfl,h,by simp[VRs]⟩
 have h0:=h
 cases v<;>simp only[VR]at h
 case bool=>exact one _ h rfl rfl
 case int=>exact one _ h rfl rfl
 case flt=>exact one _ h rfl rfl
 case cpl=>exact one _ h rfl rfl
 case str=>exact one _ h rfl rfl
 case nilptr=>exact one _ h rfl rfl
 case ptr=>obtain⟨l,_,e⟩:=h;exact one _ e rfl rfl
 case nilslice=>exact one _ h rfl rfl
 case slice=>obtain⟨l,c,_,e,_⟩:=h;exact one _ e rfl rfl
 case empty=>obtain⟨a,c,e⟩:=h;exact one _ e rfl rfl
 case nilmap=>exact one _ h rfl rfl
 case map=>obtain⟨l,_,e⟩:=h;exact one _ e rfl rfl
 case nilchan=>exact one _ h rfl rfl
 case chan=>obtain⟨l,_,e⟩:=h;exact one _ e rfl rfl
 case func=>obtain⟨a,c,e,_⟩:=h;exact one _ e rfl rfl
 case yield=>obtain⟨l,_,e⟩:=h;exact one _ e rfl rfl
 case nilfunc=>exact one _ h rfl rfl
 case iface=>obtain⟨y,e,_⟩:=h;exact one _ e rfl rfl
 case niliface=>exact one _ h rfl rfl
 case agg vs=>obtain⟨a,rfl,h⟩:=h;exact h
 case tup vs=>obtain⟨a,e,_⟩:=h;exact one _ e rfl rfl
end
def RR(μ:Mu)(r:T V)(n:Nat)(tmps:Array Value):Prop:=
 tmps.size=n∧∀t v,r.get t=some v→∃x,tmps[t]?=some x∧VR μ v x
def RR.mono{μ μ':Mu}{r:T V}{n:Nat}{tmps:Array Value}(h:∀i l,μ i=some l→μ' i=some l)(hr:RR μ r n tmps):RR μ' r n tmps:=
 ⟨hr.1,fun t v hv=>let ⟨x,h1,h2⟩:=hr.2 t v hv;⟨x,h1,VR.mono h v x h2⟩⟩
def RR.set{μ:Mu}{r:T V}{n:Nat}{tmps:Array Value}(hr:RR μ r n tmps){d:Nat}(hd:d<n){v:V}{x:Value}(hv:VR μ v x):
  RR μ (r.set d v) n (tmps.setIfInBounds d x):=by
 refine⟨by simp[hr.1],fun t u hu=>?_⟩
 rw[T.get_set]at hu
 by_cases e:t=d
 ·subst e
  simp at hu;subst hu
  exact⟨x,by simp[hr.1,hd],hv⟩
 ·simp[e]at hu
  obtain⟨y,h1,h2⟩:=hr.2 t u hu
  exact⟨y,by rw[Ytu (Ne.symm e)];exact h1,h2⟩
def exJ:Ex→Option Code
 |.normal=>none
 |.exit id=>some (.exit id)
 |.ret=>some .ret
def Zh7(μ:Mu):List (V×V)→List MapEntry→Nat→Prop
 |[],xs,_=>xs=[]
 |(k,v)::es,xs,i=>∃e ys,xs=e::ys∧VR μ k e.key∧VR μ v e.val∧e.born=i∧Zh7 μ es ys (i+1)
def Zh7.mono{μ μ':Mu}(h:∀i l,μ i=some l→μ' i=some l):∀(es:List (V×V)) (xs:List MapEntry) (i:Nat),Zh7 μ es xs i→Zh7 μ' es xs i
 |[],_,_,hx=>hx
 |(k,v)::es,_,i,hx=>by
  obtain⟨e,ys,h1,h2,h3,h4,h5⟩:=hx
  exact⟨e,ys,h1,VR.mono h k _ h2,VR.mono h v _ h3,h4,Zh7.mono h es ys (i+1) h5⟩
def OM(P:Program)(μ:Mu)(w:World):O→L→Prop
 |.cells c e rw,l=>∃(c':Array Value) (lo hi:Nat),w.heap[l.b]?=some (.cells c' e (lo,hi))∧l.d+l.tot≤c'.size∧c.length≤l.tot∧
   (∀(j:Nat) (v:V),c[j]?=some v→∃x,c'[l.d+j]?=some x∧VR μ v x)∧(∀(j:Nat) (x:Value),j<l.tot→c'[l.d+j]?=some x→x.oneCell'=true)∧(rw=true→l.d=0∧∀j,j<l.tot→¬(lo≤l.d+j∧l.d+j<hi))
 |.map es,l=>∃es':List MapEntry,w.heap[l.b]?=some (.map ⟨es'⟩ es'.length)∧Zh7 μ es es' 0
 |.chan cap buf,l=>∃(buf':List Value) (s r:Nat),w.heap[l.b]?=some (.chan cap ⟨buf'⟩ false s r false)∧VRs μ buf buf'
 |.siter s pos,l=>w.heap[l.b]?=some (.stringIter ⟨s.toArray⟩ pos)∧l.d=0
 |.loop R,l=>∃fn tmps asg bod ld,w.heap[l.b]?=some (.loop {state:=R.st,pending:=R.pend.bind exJ,fn:=fn,tmps:=tmps,params:=⟨R.ps⟩,assign:=asg,body:=bod,defers:=ld.b})∧
   RR μ R.r R.n tmps∧Zcu P asg=R.assign∧Zcu P bod=R.body∧μ R.defs=some ld
 |.defs o,l=>w.heap[l.b]?=some (.deferred (if o then some [] else none))
 |.dead,_=>True
def OM.mono{P:Program}{μ μ':Mu}{w:World}(h:∀i l,μ i=some l→μ' i=some l){o:O}{l:L}(ho:OM P μ w o l):OM P μ' w o l:=by
 cases o with
 |cells c e rw=>
  obtain⟨c',lo,hi,h1,h2,h3,h4,h5⟩:=ho
  exact⟨c',lo,hi,h1,h2,h3,fun j v hv=>let ⟨x,a,b⟩:=h4 j v hv;⟨x,a,VR.mono h v x b⟩,h5⟩
 |map es=>obtain⟨es',h1,h2⟩:=ho;exact⟨es',h1,Zh7.mono h _ _ _ h2⟩
 |chan cap buf=>obtain⟨b',s,r,h1,h2⟩:=ho;exact⟨b',s,r,h1,VRs.mono h _ _ h2⟩
 |siter s pos=>simp only[OM]at*;exact ho
 |loop R=>obtain⟨fn,tmps,asg,bod,ld,h1,h2,h3,h4,h5⟩:=ho;exact⟨fn,tmps,asg,bod,ld,h1,h2.mono h,h3,h4,h _ _ h5⟩
 |defs b=>simp only[OM]at*;exact ho
 |dead=>trivial
def OM.congr{P:Program}{μ:Mu}{w w':World}{o:O}{l:L}(hb:w'.heap[l.b]?=w.heap[l.b]?)(ho:OM P μ w o l):OM P μ w' o l:=by
 cases o with
 |cells c e rw=>obtain⟨c',lo,hi,h1,h2⟩:=ho;exact⟨c',lo,hi,hb.trans h1,h2⟩
 |map es=>obtain⟨es',h1,h2⟩:=ho;exact⟨es',hb.trans h1,h2⟩
 |chan cap buf=>obtain⟨b',s,r,h1,h2⟩:=ho;exact⟨b',s,r,hb.trans h1,h2⟩
 |siter s pos=>exact⟨hb.trans ho.1,ho.2⟩
 |loop R=>obtain⟨fn,tmps,asg,bod,ld,h1,h2⟩:=ho;exact⟨fn,tmps,asg,bod,ld,hb.trans h1,h2⟩
 |defs b=>exact hb.trans ho
 |dead=>trivial
structure Zba (P:Program) (μ:Mu) (w:World) (st:St):Prop where
 dom:∀i l,μ i=some l→i<st.n∧l.b<w.heap.size
 obj:∀i l,μ i=some l→∃o,st.h.get i=some o∧OM P μ w o l
 inj:∀i j l l' o o',μ i=some l→μ j=some l'→i≠j→st.h.get i=some o→st.h.get j=some o'→o.wr=true→o'.live=true→l.b≠l'.b
 glob:∀g,g<P.globals.size→∃t,μ g=some ⟨g,0,t⟩
structure Chg (μ:Mu) (ws:List Nat) (w w':World):Prop where
 os:w'.os=w.os
 tape:w'.tape=w.tape
 output:w'.output=w.output
 size:w.heap.size≤w'.heap.size
 block:∀b,b<w.heap.size→(∀i∈ws,∀l,μ i=some l→l.b≠b)→w'.heap[b]?=w.heap[b]?
structure Stp (P:Program) (μ:Mu) (w:World) (st:St) (μ':Mu) (w':World) (st':St) (ws:List Nat):Prop where
 hr:Zba P μ' w' st'
 ext:∀i,i<st.n→μ' i=μ i
 nle:st.n≤st'.n
 wl:st'.w=ws++st.w
 chg:Chg μ ws w w'
 new:∀i l,st.n≤i→μ' i=some l→w.heap.size≤l.b∨∃j∈ws,j<st.n∧∃lj oj,μ j=some lj∧lj.b=l.b∧st.h.get j=some oj∧oj.wr=true
 keep:∀i,i<st.n→i∉ws→st'.h.get i=st.h.get i
 grow:∀i o',i<st.n→st'.h.get i=some o'→∃o,st.h.get i=some o∧(o'.wr=true→o.wr=true)∧(o'.live=true→o.live=true)
 full:∀i,st.n≤i→i<st'.n→∃l,μ' i=some l
 wrt:∀i∈ws,i<st.n→∃o,st.h.get i=some o∧o.wr=true
def Zba.ext_of{P:Program}{μ μ':Mu}{w:World}{st:St}(h:Zba P μ w st)(he:∀i,i<st.n→μ' i=μ i):∀i l,μ i=some l→μ' i=some l:=
 fun i l hi=>(he i (h.dom i l hi).1).trans hi
def Chg.refl(μ:Mu)(ws:List Nat)(w:World):Chg μ ws w w:=⟨rfl,rfl,rfl,Yru _,fun _ _ _=>rfl⟩
def Stp.refl{P:Program}{μ:Mu}{w:World}{st:St}(h:Zba P μ w st):Stp P μ w st μ w st []:=
 ⟨h,fun _ _=>rfl,Yru _,rfl,Chg.refl μ [] w,fun i l hi hl=>absurd (h.dom i l hl).1 (by omega),fun _ _ _=>rfl,fun _ o' _ ho=>⟨o',ho,id,id⟩,fun _ h1 h2=>absurd h2 (by omega),fun _ hi=>absurd hi (by simp)⟩
def Stp.trans{P:Program}{μ μ1 μ2:Mu}{w w1 w2:World}{st st1 st2:St}{ws ws':List Nat}
  (h1:Stp P μ w st μ1 w1 st1 ws) (h2:Stp P μ1 w1 st1 μ2 w2 st2 ws'):Stp P μ w st μ2 w2 st2 (ws'++ws) where
 hr:=h2.hr
 ext:=fun i hi=>(h2.ext i (Yr5 hi h1.nle)).trans (h1.ext i hi)
 nle:=Ytp h1.nle h2.nle
 wl:=by rw[h2.wl,h1.wl,Ysy]
 chg:=by
  refine⟨h2.chg.os.trans h1.chg.os,h2.chg.tape.trans h1.chg.tape,h2.chg.output.trans h1.chg.output,Ytp h1.chg.size h2.chg.size,fun b hb hnot=>?_⟩
  rw[h2.chg.block b (Yr5 hb h1.chg.size) fun i hi l hl=>?_,h1.chg.block b hb fun i hi l hl=>hnot i (by simp[hi]) l hl]
  by_cases hin:i<st.n
  ·exact hnot i (by simp[hi]) l (by rw[←h1.ext i hin];exact hl)
  ·rcases h1.new i l (by omega) hl with h|⟨j,hj,_,lj,oj,hlj,hb',_⟩
   ·omega
   ·rw[←hb'];exact hnot j (by simp[hj]) lj hlj
 new:=fun i l hi hl=>by
  by_cases hin:i<st1.n
  ·rcases h1.new i l hi (by rw[←h2.ext i hin];exact hl)with h|⟨j,hj,r⟩
   ·exact .inl h
   ·exact .inr ⟨j,by simp[hj],r⟩
  ·rcases h2.new i l (by omega) hl with h|⟨j,hj,hjn,lj,oj,hlj,hb',hoj,how⟩
   ·exact .inl (Ytp h1.chg.size h)
   ·by_cases hjn':j<st.n
    ·obtain⟨o,ho,hw,_⟩:=h1.grow j oj hjn' hoj
     exact .inr ⟨j,by simp[hj],hjn',lj,o,by rw[←h1.ext j hjn'];exact hlj,hb',ho,hw how⟩
    ·rcases h1.new j lj (by omega) hlj with h|⟨j',hj',r⟩
     ·exact .inl (by omega)
     ·obtain⟨r1,lj',oj',r2,r3,r4⟩:=r
      exact .inr ⟨j',by simp[hj'],r1,lj',oj',r2,r3.trans hb',r4⟩
 keep:=fun i hi hnot=>by
  simp only[Ysq,not_or]at hnot
  rw[h2.keep i (Yr5 hi h1.nle) hnot.1,h1.keep i hi hnot.2]
 grow:=fun i o' hi ho=>by
  obtain⟨o1,ho1,a1,b1⟩:=h2.grow i o' (Yr5 hi h1.nle) ho
  obtain⟨o,ho,a,b⟩:=h1.grow i o1 hi ho1
  exact⟨o,ho,a∘a1,b∘b1⟩
 full:=fun i h1' h2'=>by
  by_cases hi:i<st1.n
  ·obtain⟨l,hl⟩:=h1.full i h1' hi
   exact⟨l,(h2.ext i hi).trans hl⟩
  ·exact h2.full i (by omega) h2'
 wrt:=fun i hi hn=>by
  simp only[Ysq]at hi
  rcases hi with hi|hi
  ·obtain⟨o1,ho1,hw1⟩:=h2.wrt i hi (Yr5 hn h1.nle)
   obtain⟨o,ho,a,_⟩:=h1.grow i o1 hn ho1
   exact⟨o,ho,a hw1⟩
  ·exact h1.wrt i hi hn
def Zba.drew{P:Program}{μ:Mu}{w:World}{st:St}(h:Zba P μ w st)(n:Nat):Zba P μ {w with drawn:=n} st:=
 ⟨h.dom,fun i l hl=>let ⟨o,h1,h2⟩:=h.obj i l hl;⟨o,h1,OM.congr (w:=w) rfl h2⟩,h.inj,h.glob⟩
def Stp.alloc{P:Program}{μ:Mu}{w:World}{st:St}(h:Zba P μ w st)(o:O)(ob:Obj)(d tot:Nat)
  (ho:OM P (fun i=>if i=st.n then some ⟨w.heap.size,d,tot⟩ else μ i) {w with heap:=w.heap.push ob} o ⟨w.heap.size,d,tot⟩):
  Stp P μ w st (fun i=>if i=st.n then some ⟨w.heap.size,d,tot⟩ else μ i) {w with heap:=w.heap.push ob} (st.alloc o) []:=by
 have hmono:∀i l,μ i=some l→(fun i=>if i=st.n then some (⟨w.heap.size,d,tot⟩:L) else μ i) i=some l:=fun i l hl=>by
  have:=(h.dom i l hl).1
  simp only
  rw[Yrt (by omega)];exact hl
 have hold:∀b,b<w.heap.size→({w with heap:=w.heap.push ob}:World).heap[b]?=w.heap[b]?:=fun b hb=>by
  show (w.heap.push ob)[b]?=_
  rw[Array.getElem?_push,Yrt (by omega)]
 refine⟨⟨fun i l hl=>?_,fun i l hl=>?_,fun i j l l' oi oj hi hj hne ho1 ho2 hw hlv=>?_,fun g hg=>let ⟨t,ht⟩:=h.glob g hg;⟨t,hmono g _ ht⟩⟩,fun i hi=>?_,by simp[St.alloc],rfl,⟨rfl,rfl,rfl,by simp,fun b hb _=>hold b hb⟩,
  fun i l hi hl=>?_,fun i hi _=>?_,fun i o' hi ho'=>?_,fun i h1 h2=>⟨⟨w.heap.size,d,tot⟩,by simp only[St.alloc]at h2;show (if i=st.n then some (⟨w.heap.size,d,tot⟩:L) else μ i)=_;rw[Yrw (by omega)]⟩,fun _ hi=>absurd hi (by simp)⟩
 ·by_cases e:i=st.n
  ·simp only[e,if_true,Yrs]at hl;subst hl;simp[St.alloc,e]
  ·simp only[e,if_false]at hl
   have:=h.dom i l hl
   simp[St.alloc];omega
 ·by_cases e:i=st.n
  ·simp only[e,if_true,Yrs]at hl;subst hl
   exact⟨o,by simp[St.alloc,T.get_set,e],ho⟩
  ·simp only[e,if_false]at hl
   obtain⟨o1,h1,h2⟩:=h.obj i l hl
   exact⟨o1,by simp[St.alloc,T.get_set,e,h1],(h2.mono hmono).congr (hold l.b (h.dom i l hl).2)⟩
 ·by_cases e:i=st.n
  ·by_cases e':j=st.n
   ·exact absurd (e.trans e'.symm) hne
   ·simp only[e,if_true,Yrs]at hi;simp only[e',if_false]at hj;subst hi
    have:=(h.dom j l' hj).2
    simp only;omega
  ·simp only[e,if_false]at hi
   by_cases e':j=st.n
   ·simp only[e',if_true,Yrs]at hj;subst hj
    have:=(h.dom i l hi).2
    simp only;omega
   ·simp only[e',if_false]at hj
    simp only[St.alloc,T.get_set,e,e',if_false]at ho1 ho2
    exact h.inj i j l l' oi oj hi hj hne ho1 ho2 hw hlv
 ·rw[Yrt (by omega)]
 ·by_cases e:i=st.n
  ·simp only[e,if_true,Yrs]at hl;subst hl;exact .inl (Yru _)
  ·simp only[e,if_false]at hl
   exact absurd (h.dom i l hl).1 (by omega)
 ·simp only[St.alloc,T.get_set];rw[Yrt (by omega)]
 ·simp only[St.alloc,T.get_set]at ho';rw[Yrt (by omega)]at ho'
  exact⟨o',ho',id,id⟩
def Stp.write{P:Program}{μ:Mu}{w w':World}{st:St}(h:Zba P μ w st){i:Nat}{l:L}{o o':O}(hi:μ i=some l)(ho:st.h.get i=some o)(hw:o.wr=true)
  (hos:w'.os=w.os) (htp:w'.tape=w.tape) (hou:w'.output=w.output) (hsz:w'.heap.size=w.heap.size) (hblk:∀b,b≠l.b→w'.heap[b]?=w.heap[b]?) (ho':OM P μ w' o' l):
  Stp P μ w st μ w' (st.write i o') [i]:=by
 have hlive:o.live=true:=by cases o<;>simp_all [O.wr,O.live]
 refine⟨⟨fun j lj hj=>?_,fun j lj hj=>?_,fun j k lj lk oj ok hj hk hne h1 h2 hwj hlk=>?_,h.glob⟩,fun _ _=>rfl,Yru _,rfl,⟨hos,htp,hou,by omega,fun b _ hnot=>hblk b ?_⟩,
  fun j lj hn hj=>?_,fun j _ hnot=>?_,fun j oj hn hj=>?_,fun j h1 h2=>absurd h2 (by simp only[St.write];omega),fun j hj _=>by simp only[Yte]at hj;subst hj;exact⟨o,ho,hw⟩⟩
 ·have:=h.dom j lj hj
  simp[St.write];omega
 ·by_cases e:j=i
  ·subst e
   rw[hi]at hj;cases hj
   exact⟨o',by simp[St.write,T.get_set],ho'⟩
  ·obtain⟨oj,h1,h2⟩:=h.obj j lj hj
   refine⟨oj,by simp[St.write,T.get_set,e,h1],?_⟩
   cases hl:oj.live
   ·cases oj<;>simp[O.live]at hl
    trivial
   ·exact h2.congr (hblk lj.b (Ne.symm (h.inj i j l lj o oj hi hj (Ne.symm e) ho h1 hw hl)))
 ·simp only[St.write,T.get_set]at h1 h2
  by_cases e:j=i
  ·subst e
   rw[hi]at hj;cases hj
   rw[Yrt (Ne.symm hne)]at h2
   exact h.inj j k l lk o ok hi hk hne ho h2 hw hlk
  ·rw[Yrt e]at h1
   by_cases e':k=i
   ·subst e'
    exact h.inj j k lj lk oj o hj hk hne h1 ho hwj hlive
   ·rw[Yrt e']at h2
    exact h.inj j k lj lk oj ok hj hk hne h1 h2 hwj hlk
 ·exact Ne.symm (hnot i (by simp) l hi)
 ·exact absurd (h.dom j lj hj).1 (by omega)
 ·simp only[Yte]at hnot
  simp[St.write,T.get_set,hnot]
 ·simp only[St.write,T.get_set]at hj
  by_cases e:j=i
  ·subst e
   exact⟨o,ho,fun _=>hw,fun _=>hlive⟩
  ·rw[Yrt e]at hj
   exact⟨oj,hj,id,id⟩
end Go.Mx
