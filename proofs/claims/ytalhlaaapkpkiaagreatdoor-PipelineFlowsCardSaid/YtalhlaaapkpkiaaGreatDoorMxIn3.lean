/-What came in, and the tables among the g-/
import Derived.Test.YtalhlaaapkpkiaaGreatDoorLaS
import Derived.Deep.Slices
import Derived.Lib.LaidTab
import Derived.LaidSub
import Derived.ChangeShapes
import Derived.WideShapes
set_option linter.all false
namespace Go.Mx
open Go
variable {P:Program} {S:St} {W:World} {μ:Mu}
def gTot(tb:List (Nat×O))(i:Nat):Nat:=match lk tb i with
 |some (.cells c _ _)=>c.length
 |_=>0
def TabsIn(P:Program)(W:World)(tb:List (Nat×O)):Prop:=∀i o,lk tb i=some o→∀μ,OM P μ W o ⟨i,0,gTot tb i⟩
def TabsIn.one{g:Nat}{k:IntKind}{zs:List Int}{e:TypeId}{f:Nat×Nat}(h:W.heap[g]?=some (.cells (zs.map fun z=>Value.int k z).toArray e f)):TabsIn P W [(g,.cells (zs.map fun z=>V.int k z) e false)]:=by
 intro i o ho μ
 obtain⟨lo,hi⟩:=f
 simp only[lk]at ho
 split at ho
 ·rename_i hb
  have:=Za2 hb
  subst this
  simp only[Ys3]at ho
  subst ho
  have hl:gTot [(g,O.cells (zs.map fun z=>V.int k z) e false)] g=zs.length:=by simp[gTot,lk,hb]
  rw[hl]
  refine⟨_,lo,hi,h,by simp,by simp,fun j v hv=>?_,fun j x hj hx=>?_,fun h=>by cases h⟩
  ·rw[Ytb]at hv
   cases hz:zs[j]? with
   |none=>rw[hz]at hv;cases hv
   |some z=>
    rw[hz]at hv
    simp only[Yu4,Ys3]at hv
    subst hv
    exact⟨.int k z,by simp[hz],by simp[VR]⟩
  ·simp only[Yvn,List.getElem?_toArray,Ytb,Yte]at hx
   obtain⟨z,_,rfl⟩:=hx
   rfl
 ·cases ho
structure Zol (P:Program) (W:World) (μ:Mu) (S:St):Prop where
 hr:Za8 P μ W S
 w:S.w=[]
 ro:∀i l o,μ i=some l→S.h.get i=some o→o.wr=false
structure Zgn (μ:Mu) (S:St) (μ':Mu) (S':St):Prop where
 mu:∀i l,μ i=some l→μ' i=some l
 keep:Keeps S.h S.n S'.h S'.n
def Zgn.refl:Zgn μ S μ S:=⟨fun _ _ h=>h,Keeps.refl⟩
def Zgn.trans{μ1 μ2:Mu}{S1 S2:St}(a:Zgn μ S μ1 S1)(b:Zgn μ1 S1 μ2 S2):Zgn μ S μ2 S2:=⟨fun i l h=>b.mu i l (a.mu i l h),a.keep.trans b.keep⟩
def Yko{tb:List (Nat×O)}{G:Nat}(hG:P.globals.size=G)(hW:G≤W.heap.size)(hok:Zq6 G tb=true)(hin:TabsIn P W tb):∃μ,Zol P W μ (Zsy G tb):=by
 subst hG
 have get:∀i,i<P.globals.size→(Zsy P.globals.size tb).h.get i=some (match lk tb i with|some o=>o|none=>.dead):=fun i hi=>by
  show (Zec (Zlt P.globals.size) tb).get i=_
  rw[Zce]
  cases lk tb i with
  |some o=>rfl
  |none=>exact Zka _ _ hi
 have hwr:∀i o,i<P.globals.size→(Zsy P.globals.size tb).h.get i=some o→o.wr=false:=fun i o hi ho=>by
  rw[get i hi]at ho
  simp only[Ys3]at ho
  cases hl:lk tb i with
  |none=>rw[hl]at ho;subst ho;rfl
  |some o'=>
   rw[hl]at ho
   simp only at ho
   subst ho
   have:=(Zmq hok hl).2
   cases o' with
   |cells c e rw=>cases rw with
    |true=>cases this
    |false=>rfl
   |_=>cases this
 have hmu:∀i l,(fun i=>if i<P.globals.size then some (⟨i,0,gTot tb i⟩:L) else none) i=some l→i<P.globals.size∧l=⟨i,0,gTot tb i⟩:=fun i l h=>by
  simp only at h
  split at h
  ·rename_i hi;simp only[Ys3]at h;exact⟨hi,h.symm⟩
  ·cases h
 refine⟨fun i=>if i<P.globals.size then some ⟨i,0,gTot tb i⟩ else none,⟨fun i l hl=>?_,fun i l hl=>?_,fun i j l l' o o' hi hj hne ho ho' hw hlv=>?_,fun g hg=>⟨gTot tb g,by simp[hg]⟩⟩,rfl,fun i l o hl ho=>?_⟩
 ·obtain⟨h,rfl⟩:=hmu i l hl
  exact⟨h,by simp only;omega⟩
 ·obtain⟨h,rfl⟩:=hmu i l hl
  refine⟨_,get i h,?_⟩
  cases hlk:lk tb i with
  |none=>trivial
  |some o=>exact hin i o hlk _
 ·rw[hwr i o (hmu i l hi).1 ho]at hw;cases hw
 ·exact hwr i o (hmu i l hl).1 ho
def Yj8{tb:List (Nat×O)}{G g:Nat}{o:O}(h:lk tb g=some o):(Zsy G tb).h.get g=some o:=by
 show (Zec (Zlt G) tb).get g=_
 rw[Zce,h]
def Zol.row(s:Zol P W μ S){r:Ypq}(hok:r.ok W)(hv:∀i,i<r.n→VR μ (r.g i) (r.f i)):
  ∃μ' S',Zol P W μ' S'∧Zgn μ S μ' S'∧S'.n=S.n+1∧μ' S.n=some ⟨r.a.block,r.a.off,r.n⟩∧S'.h.get S.n=some (.cells ((List.range r.n).map r.g) (eOf W r.a) false):=by
 obtain⟨g1,g2,g3⟩:=hok
 obtain⟨c',lo,hi,hb,hs,hcell,hend,hlt⟩:=Zxa g1 g2
 have hmono:∀i l,μ i=some l→(fun i=>if i=S.n then some (⟨r.a.block,r.a.off,r.n⟩:L) else μ i) i=some l:=fun i l hl=>by
  have:=(s.hr.dom i l hl).1
  simp only
  rw[Ys5 (by omega)];exact hl
 have hsplit:∀i l,(fun i=>if i=S.n then some (⟨r.a.block,r.a.off,r.n⟩:L) else μ i) i=some l→(i=S.n∧l=⟨r.a.block,r.a.off,r.n⟩)∨(i≠S.n∧μ i=some l):=fun i l h=>by
  simp only at h
  split at h
  ·rename_i e;simp only[Ys3]at h;exact .inl ⟨e,h.symm⟩
  ·rename_i e;exact .inr ⟨e,h⟩
 have hnew:(S.h.set S.n (.cells ((List.range r.n).map r.g) (eOf W r.a) false)).get S.n=some (.cells ((List.range r.n).map r.g) (eOf W r.a) false):=by simp[T.get_set]
 have hold:∀i,i≠S.n→(S.h.set S.n (.cells ((List.range r.n).map r.g) (eOf W r.a) false)).get i=S.h.get i:=fun i hi=>by simp[T.get_set,hi]
 have hro:∀i l o,(fun i=>if i=S.n then some (⟨r.a.block,r.a.off,r.n⟩:L) else μ i) i=some l→(S.h.set S.n (.cells ((List.range r.n).map r.g) (eOf W r.a) false)).get i=some o→o.wr=false:=fun i l o hl ho=>by
  rcases hsplit i l hl with⟨rfl,rfl⟩|⟨h1,h2⟩
  ·rw[hnew]at ho;simp only[Ys3]at ho;subst ho;rfl
  ·rw[hold i h1]at ho;exact s.ro i l o h2 ho
 refine⟨_,⟨S.h.set S.n (.cells ((List.range r.n).map r.g) (eOf W r.a) false),S.n+1,[]⟩,⟨⟨fun i l hl=>?_,fun i l hl=>?_,fun i j l l' o o' hi' hj hne ho ho' hw hlv=>?_,fun g hg=>?_⟩,rfl,hro⟩,⟨hmono,by simp,fun i hi=>hold i (by omega)⟩,rfl,by simp,hnew⟩
 ·rcases hsplit i l hl with⟨rfl,rfl⟩|⟨h1,h2⟩
  ·exact⟨by simp,hlt⟩
  ·obtain⟨q1,q2⟩:=s.hr.dom i l h2
   exact⟨by simp only;omega,q2⟩
 ·rcases hsplit i l hl with⟨rfl,rfl⟩|⟨h1,h2⟩
  ·refine⟨_,hnew,c',lo,hi,hb,hend,by simp,fun j v hvj=>?_,fun j x hj hx=>?_,fun h=>by cases h⟩
   ·have hj:j<r.n:=by have:=(Yuc.1 hvj).1;simpa using this
    have hv':v=r.g j:=by simpa[hj]using hvj.symm
    subst hv'
    exact⟨_,hcell j hj,VR.mono hmono _ _ (hv j hj)⟩
   ·have hj:j<r.n:=hj
    rw[hcell j hj]at hx
    simp only[Ys3]at hx
    subst hx
    exact g3 j hj
  ·obtain⟨o,q1,q2⟩:=s.hr.obj i l h2
   exact⟨o,by rw[hold i h1];exact q1,q2.mono hmono⟩
 ·rw[hro i l o hi' ho]at hw;cases hw
 ·obtain⟨t,ht⟩:=s.hr.glob g hg
  exact⟨t,hmono _ _ ht⟩
def Zol.slice(s:Zol P W μ S){r:Ypq}(hok:r.ok W)(hv:∀i,i<r.n→VR μ (r.g i) (r.f i)){len cap z:Nat}(hn:r.n=cap*z)(hl:len≤cap)(hz:0<z):
  ∃μ' S' i,Zol P W μ' S'∧Zgn μ S μ' S'∧VR μ' (.slice i 0 len (some cap) z) (.slice (some r.a) len cap)∧i<S'.n∧S'.h.get i=some (.cells ((List.range r.n).map r.g) (eOf W r.a) false):=by
 obtain⟨μ',S',q1,q2,q3,q4,q5⟩:=s.row hok hv
 refine⟨μ',S',S.n,q1,q2,?_,by omega,q5⟩
 obtain⟨⟨b,off,sp⟩,n,f,g⟩:=r
 obtain⟨g1,g2,_⟩:=hok
 obtain⟨_,_,_,_,hs,_,_,_⟩:=Zxa g1 g2
 simp only at hs hn q4
 subst hs
 simp only[VR]
 exact⟨⟨b,off,n⟩,cap,q4,by simp,hl,by simp[hn],fun k hk=>by simpa using hk,fun h=>by cases h⟩
def Zol.list{P:Program}{W:World}{μ:Mu}{S:St}(s:Zol P W μ S){i:Zlx}(hi:i.ok W):
  ∃μ' S' v,Zol P W μ' S'∧Zgn μ S μ' S'∧VR μ' v i.val∧Sl S'.h S'.n v (strs i.strs):=by
 cases i with
 |nil=>exact⟨μ,S,.nilslice,s,Zgn.refl,by simp[Zlx.val,VR],Sl.nil⟩
 |emp b=>exact⟨μ,S,.empty,s,Zgn.refl,by simp[Zlx.val,VR],.inl ⟨rfl,.inr rfl⟩⟩
 |sl b l c f=>
  obtain⟨h1,h2,h3⟩:=hi
  obtain⟨μ',S',k,q1,q2,q3,q4,q5⟩:=s.slice (r:=⟨b,c,fun i=>.string (f i),fun i=>.str (f i).data.toList⟩) ⟨h2,h3,fun _ _=>rfl⟩ (fun i _=>by simp[VR]) (len:=l) (cap:=c) (z:=1) (by simp) h1 (by decide)
  refine⟨μ',S',_,q1,q2,q3,.inr ⟨k,0,some c,_,_,false,by simp[strs,Zlx.strs],q4,q5,fun j hj=>?_,by simp[strs,Zlx.strs];omega,fun k hk=>by simp[strs,Zlx.strs]at hk ⊢;omega⟩⟩
  have hj2:j<l:=by simpa[strs,Zlx.strs]using hj
  simp[strs,Zlx.strs,hj2,show j<c by omega]
inductive Ys1 where
 |nil
 |emp (b:Addr)
 |sl (b:Addr) (l c:Nat) (f:Nat→Int)
def Zol.lists{P:Program}{W:World}{F:Nat→Zlx}:∀(n:Nat),(∀i,i<n→(F i).ok W)→∀{μ:Mu} {S:St},Zol P W μ S→
  ∃μ' S',Zol P W μ' S'∧Zgn μ S μ' S'∧∀i,i<n→∃v,VR μ' v (F i).val∧Sl S'.h S'.n v (strs (F i).strs)
 |0,_,μ,S,s=>⟨μ,S,s,Zgn.refl,fun i hi=>absurd hi (by omega)⟩
 |n+1,hF,μ,S,s=>by
  obtain⟨μ1,S1,s1,g1,a1⟩:=Zol.lists n (fun i hi=>hF i (by omega)) s
  obtain⟨μ2,S2,v,s2,g2,a2,a3⟩:=s1.list (hF n (by omega))
  refine⟨μ2,S2,s2,g1.trans g2,fun i hi=>?_⟩
  by_cases e:i=n
  ·subst e;exact⟨v,a2,a3⟩
  ·obtain⟨u,b1,b2⟩:=a1 i (by omega)
   exact⟨u,VR.mono g2.mu _ _ b1,b2.keep g2.keep⟩
inductive Ys0 where
 |nil
 |emp (b:Addr)
 |sl (b:Addr) (l c:Nat) (F:Nat→Zlx)
def Zlx.one{i:Zlx}:i.val.oneCell'=true:=by cases i<;>rfl
open Go Go.ChangeShapes Go.WideShapes Go.RowKit Go.Deep
def Ybs{P:Program}{t s:TypeId}(ht:P.underlying t=some (.slice s))(hs:P.underlying s=some .string)(hc:P.cellsOf s=1){H:Type}{enc:TypeId×Value→H}{W:World}{fuel:Nat}{c:Value}{x:DataW H×List MemPlace}
  (h:DataW.trod enc P W 0 (fun _=>true) true fuel t [c]=some x):∃i:Zlx,c=i.val∧i.ok W∧i.strs.length<9223372036854775808:=by
 rcases open_slice1 ht hc h with⟨hc,_⟩|⟨a,len,cap,m,n,Vf,D,Pl,hc,_,hl,hmx,hm,_,hx⟩
 ·have hc':c=.slice none 0 0:=by simpa using hc
  exact⟨.nil,hc',trivial,by simp[Zlx.strs]⟩
 ·simp only[if_true]at hm
  subst hm
  have hc':c=.slice (some a) len m:=by simpa using hc
  rcases Yvt m with h0|h0
  ·subst h0
   have:len=0:=by omega
   subst this
   exact⟨.emp a,hc',trivial,by simp[Zlx.strs]⟩
  ·refine⟨.sl a len m fun i=>match Vf i with|.string s=>s|_=>⟨#[]⟩,hc',⟨hl,h0,fun i hi=>?_⟩,by simp only[Zlx.strs,Ytr,List.length_range];unfold maxLen at hmx;omega⟩
   obtain⟨g1,g2⟩:=hx i hi
   obtain⟨s,e0,_⟩:=DataW.trod_string hs g2
   simp only[Ytq,and_true]at e0
   rw[g1]
   simp only[e0]
def tabs_of_laid{P:Program}{W:World}{laid:List (String×DataW Unit)}{name:String}{k:IntKind}{zs:List Int}{g:Nat}{t e:TypeId}{n:Nat}{z:Array Value}
  (hg:P.globalNamed name=some g) (hty:(P.globals[g]?).map (·.type)=some t) (ht:P.underlying t=some (.array n e)) (he:P.underlying e=some (.int k)) (hce:P.cellsOf e=1) (hct:P.cellsOf t=n)
  (hf:laid.filter (fun x=>x.1==name)=[(name,Lib.tabData k zs)]) (hlt:g<P.globals.size) (hz:((begin P (fun _ _=>0) default).world.heap[g]?).bind Obj.row?=some (z,t))
  (hl:laidMet P laid W) (hs:W.ShapedOpen P):TabsIn P W [(g,.cells (zs.map fun z=>V.int k z) t false)]:=by
 have h1:=laidMet.filter (fun x=>x.1==name) hl
 rw[hf]at h1
 have h2:=Lib.tabIs_of_head hg hty ht he hce hct h1
 unfold Lib.TabIs World.var? at h2
 rw[hg]at h2
 obtain⟨cs,h3,_⟩:=hs.1 g z t hlt hz
 simp only[Option.bind_some,h3,Ys3]at h2
 subst h2
 exact TabsIn.one h3
structure PkI where
 act:Int
 am:ByteArray
 sl:Zlx
inductive Ysz where
 |nil
 |emp (b:Addr)
 |sl (b:Addr) (l c:Nat) (F:Nat→PkI)
def Yeo(a:Addr)(x y:Nat):(a.add x).add y=a.add (x+y):=by
 unfold Addr.add
 by_cases hx:x=0
 ·subst hx;simp
 ·by_cases hy:y=0
  ·subst hy;simp[hx]
  ·simp[hx,hy,Yul]
variable {P:Program}
structure FmI where
 n:Int
 a:Int
 d:Int
 val:ByteArray
def FmI.cell(p:FmI):Nat→Value
 |0=>.int .i64 p.n
 |1=>.int .i64 p.a
 |2=>.int .i64 p.d
 |_=>.string p.val
def FmI.mc(p:FmI):Nat→V
 |0=>.int .i64 p.n
 |1=>.int .i64 p.a
 |2=>.int .i64 p.d
 |_=>.str p.val.data.toList
inductive Zqy where
 |nil
 |emp (b:Addr)
 |sl (b:Addr) (l c:Nat) (F:Nat→FmI)
def Zqy.val:Zqy→Value
 |.nil=>.slice none 0 0
 |.emp b=>.slice (some b) 0 0
 |.sl b l c f=>.slice (some b) l c
def Zqy.ok(W:World):Zqy→Prop
 |.sl b l c F=>l≤c∧0<c∧∀j,j<c*4→W.cell? (b.add j)=some ((F (j/4)).cell (j%4))
 |_=>True
def Zqy.ps:Zqy→List FmI
 |.sl b l c F=>(List.range l).map F
 |_=>[]
def FmI.row(p:FmI):List V:=[.int .i64 p.n,.int .i64 p.a,.int .i64 p.d,.str p.val.data.toList]
def Zol.frames{P:Program}{W:World}{μ:Mu}{S:St}(s:Zol P W μ S){m:Zqy}(hm:m.ok W):
  ∃μ' S' v,Zol P W μ' S'∧Zgn μ S μ' S'∧VR μ' v m.val∧Sn 4 S'.h S'.n v (m.ps.map FmI.row):=by
 cases m with
 |nil=>exact⟨μ,S,.nilslice,s,Zgn.refl,by simp[Zqy.val,VR],Sn.nil⟩
 |emp b=>exact⟨μ,S,.empty,s,Zgn.refl,by simp[Zqy.val,VR],.inl ⟨rfl,.inr rfl⟩⟩
 |sl b l c F=>
  obtain⟨h1,h2,h3⟩:=hm
  have hone:∀i t,((F i).cell t).oneCell'=true:=fun i t=>by
   match t with
   |0=>rfl
   |1=>rfl
   |2=>rfl
   |t+3=>rfl
  have hvr:∀i t,VR μ ((F i).mc t) ((F i).cell t):=fun i t=>by
   match t with
   |0=>simp[FmI.mc,FmI.cell,VR]
   |1=>simp[FmI.mc,FmI.cell,VR]
   |2=>simp[FmI.mc,FmI.cell,VR]
   |t+3=>simp[FmI.mc,FmI.cell,VR]
  obtain⟨μ',S',k,q1,q2,q3,q4,q5⟩:=s.slice (r:=⟨b,c*4,fun j=>(F (j/4)).cell (j%4),fun j=>(F (j/4)).mc (j%4)⟩) ⟨by show 0<c*4;omega,h3,fun _ _=>hone _ _⟩ (fun j hj=>hvr _ _) (len:=l) (cap:=c) (z:=4) rfl h1 (by decide)
  refine⟨μ',S',_,q1,q2,q3,.inr ⟨k,0,some c,_,_,false,by simp[Zqy.ps],q4,q5,fun j x hj=>?_,by simp[Zqy.ps];omega,fun k hk=>by simp[Zqy.ps]at hk ⊢;omega⟩⟩
  have hjl:j<l:=by have:=Zat hj;simpa[Zqy.ps]using this
  have hx:x=(F j).row:=by simpa[Zqy.ps,hjl]using hj.symm
  subst hx
  unfold slc
  rw[Ys8 (by simp;omega)]
  congr 1
  apply Yt4
  intro t
  rw[Ytk]
  by_cases ht:t<4
  ·rw[Ys8 ht,Ytg]
   have e1:(0+j*4+t)/4=j:=by omega
   have e2:(0+j*4+t)%4=t:=by omega
   have e3:0+j*4+t<c*4:=by omega
   rw[Ytb,Yvr e3]
   simp only[Yu4,e1,e2]
   have:t=0∨t=1∨t=2∨t=3:=by omega
   rcases this with rfl|rfl|rfl|rfl<;>rfl
  ·rw[Ys5 ht,Ytn (by simp[FmI.row];omega)]
def Zx9{P:Program}{r i s:TypeId}{f0 f1 f2 f3:Field}(hr:P.underlying r=some (.struct #[f0,f1,f2,f3]))(o0:f0.offset=0∧f0.type=i)(o1:f1.offset=1∧f1.type=i)(o2:f2.offset=2∧f2.type=i)(o3:f3.offset=3∧f3.type=s)(hi:P.underlying i=some (.int .i64))(hs:P.underlying s=some .string)(cr:P.cellsOf r=4)(ci:P.cellsOf i=1)(cs:P.cellsOf s=1){H:Type}{enc:TypeId×Value→H}{W:World}{fuel:Nat}{xs:List Value}{x:DataW H×List MemPlace}
  (h:DataW.trod enc P W 0 (fun _=>true) true fuel r xs=some x):∃p:FmI,∀t,t<4→xs[t]?=some (p.cell t):=by
 obtain⟨ys,n,_,rfl,hn,hlen,hf⟩:=DataW.trod_struct hr h
 rw[cr]at hn
 match xs,hn with
 |[c0,c1,c2,c3],_=>
  match ys,hlen with
  |[y0,y1,y2,y3],_=>
   have h0:=hf 0 _ rfl
   have h1:=hf 1 _ rfl
   have h2:=hf 2 _ rfl
   have h3:=hf 3 _ rfl
   simp[o0.1,o0.2,o1.1,o1.2,o2.1,o2.2,o3.1,o3.2,ci,cs]at h0 h1 h2 h3
   obtain⟨m0,e0,_⟩:=DataW.trod_int hi h0
   obtain⟨m1,e1,_⟩:=DataW.trod_int hi h1
   obtain⟨m2,e2,_⟩:=DataW.trod_int hi h2
   obtain⟨m3,e3,_⟩:=DataW.trod_string hs h3
   simp only[Ytq,and_true]at e0 e1 e2 e3
   refine⟨⟨m0,m1,m2,m3⟩,fun t ht=>?_⟩
   have:t=0∨t=1∨t=2∨t=3:=by omega
   rcases this with rfl|rfl|rfl|rfl<;>simp[FmI.cell,e0,e1,e2,e3]
def open_frames{t r i s:TypeId}{f0 f1 f2 f3:Field}(ht:P.underlying t=some (.slice r))(hr:P.underlying r=some (.struct #[f0,f1,f2,f3]))(o0:f0.offset=0∧f0.type=i)(o1:f1.offset=1∧f1.type=i)(o2:f2.offset=2∧f2.type=i)(o3:f3.offset=3∧f3.type=s)(hi:P.underlying i=some (.int .i64))(hs:P.underlying s=some .string)(cr:P.cellsOf r=4)(ci:P.cellsOf i=1)(cs:P.cellsOf s=1){H:Type}{enc:TypeId×Value→H}{W:World}{fuel:Nat}{a:Option Addr}{n c:Nat}{x:DataW H×List MemPlace}
  (h:DataW.trod enc P W 0 (fun _=>true) true fuel t [.slice a n c]=some x):∃m:Zqy,Value.slice a n c=m.val∧m.ok W∧m.ps.length<9223372036854775808:=by
 rcases open_slice ht h with⟨hc,_⟩|⟨a',len',cap',m,n',D,Pl,hc,_,hl',hmx,hm,_,hx⟩
 ·have hc':Value.slice a n c=.slice none 0 0:=by simpa using hc
  exact⟨.nil,hc',trivial,by simp[Zqy.ps]⟩
 ·simp only[if_true]at hm
  subst hm
  have hc':Value.slice a n c=.slice (some a') len' m:=by simpa using hc
  rcases Yvt m with h0|h0
  ·subst h0
   have:len'=0:=by omega
   subst this
   exact⟨.emp a',hc',trivial,by simp[Zqy.ps]⟩
  ·rw[cr]at hx
   have hst:∀k,∃p:FmI,k<m→∀t,t<4→W.cell? (a'.add (k*4+t))=some (p.cell t):=fun k=>by
    by_cases hk:k<m
    ·obtain⟨cs',g1,g2⟩:=hx k hk
     obtain⟨p,q1⟩:=Zx9 hr o0 o1 o2 o3 hi hs cr ci cs g2
     obtain⟨_,_,g3⟩:=World.cells?_some g1
     exact⟨p,fun _ t ht=>by rw[←Yeo,g3 t ht];exact q1 t ht⟩
    ·exact⟨⟨0,0,0,⟨#[]⟩⟩,fun h=>absurd h hk⟩
   obtain⟨F,hF⟩:=Classical.axiomOfChoice hst
   refine⟨.sl a' len' m F,hc',⟨hl',h0,fun j hj=>?_⟩,by simp only[Zqy.ps,Ytr,List.length_range];unfold maxLen at hmx;omega⟩
   have:=hF (j/4) (by omega) (j%4) (Yuf _ (by decide))
   rw[show j/4*4+j%4=j by omega]at this
   exact this
variable {P:Program}
structure IgS where
 name:ByteArray
 op:ByteArray
 fac:ByteArray
 inp:Zlx
 cost:Int
def IgS.cell(s:IgS):Nat→Value
 |0=>.string s.name
 |1=>.string s.op
 |2=>.string s.fac
 |3=>s.inp.val
 |_=>.int .i64 s.cost
def IgS.stg(s:IgS):Stg:=⟨s.name.data.toList,s.op.data.toList,s.fac.data.toList,s.inp.strs,s.cost⟩
def IgS.mc(s:IgS)(u:V):Nat→V
 |0=>.str s.name.data.toList
 |1=>.str s.op.data.toList
 |2=>.str s.fac.data.toList
 |3=>u
 |_=>.int .i64 s.cost
inductive IgL where
 |nil
 |emp (b:Addr)
 |sl (b:Addr) (l c:Nat) (F:Nat→IgS)
def IgL.val:IgL→Value
 |.nil=>.slice none 0 0
 |.emp b=>.slice (some b) 0 0
 |.sl b l c f=>.slice (some b) l c
def IgL.ok(W:World):IgL→Prop
 |.sl b l c F=>l≤c∧0<c∧(∀j,j<c*5→W.cell? (b.add j)=some ((F (j/5)).cell (j%5)))∧∀i,i<c→(F i).inp.ok W
 |_=>True
def IgL.ps:IgL→List Stg
 |.sl b l c F=>(List.range l).map fun i=>(F i).stg
 |_=>[]
def Zol.stages{P:Program}{W:World}{μ:Mu}{S:St}(s:Zol P W μ S){m:IgL}(hm:m.ok W):
  ∃μ' S' v,Zol P W μ' S'∧Zgn μ S μ' S'∧VR μ' v m.val∧Gr S'.h S'.n v m.ps:=by
 cases m with
 |nil=>exact⟨μ,S,.nilslice,s,Zgn.refl,by simp[IgL.val,VR],[],Sn.nil,rfl,fun j l h=>by simp[IgL.ps]at h⟩
 |emp b=>exact⟨μ,S,.empty,s,Zgn.refl,by simp[IgL.val,VR],[],.inl ⟨rfl,.inr rfl⟩,rfl,fun j l h=>by simp[IgL.ps]at h⟩
 |sl b l c F=>
  obtain⟨h1,h2,h3,h4⟩:=hm
  obtain⟨μ1,S1,s1,g1,a1⟩:=Zol.lists (F:=fun i=>(F i).inp) c h4 s
  have hex:∀i,∃v:V,i<c→VR μ1 v (F i).inp.val∧Sl S1.h S1.n v (strs (F i).inp.strs):=fun i=>by
   by_cases hi:i<c
   ·obtain⟨v,hv⟩:=a1 i hi;exact⟨v,fun _=>hv⟩
   ·exact⟨.nilslice,fun h=>absurd h hi⟩
  obtain⟨g,hg⟩:=Classical.axiomOfChoice hex
  have hone:∀i t,((F i).cell t).oneCell'=true:=fun i t=>by
   match t with
   |0=>rfl
   |1=>rfl
   |2=>rfl
   |3=>exact Zlx.one
   |t+4=>rfl
  have hvr:∀i t,i<c→VR μ1 ((F i).mc (g i) t) ((F i).cell t):=fun i t hi=>by
   match t with
   |0=>simp[IgS.mc,IgS.cell,VR]
   |1=>simp[IgS.mc,IgS.cell,VR]
   |2=>simp[IgS.mc,IgS.cell,VR]
   |3=>exact(hg i hi).1
   |t+4=>simp[IgS.mc,IgS.cell,VR]
  obtain⟨μ',S',k,q1,q2,q3,q4,q5⟩:=s1.slice (r:=⟨b,c*5,fun j=>(F (j/5)).cell (j%5),fun j=>(F (j/5)).mc (g (j/5)) (j%5)⟩) ⟨by show 0<c*5;omega,h3,fun _ _=>hone _ _⟩ (fun j hj=>hvr _ _ (by have:j<c*5:=hj;omega)) (len:=l) (cap:=c) (z:=5) rfl h1 (by decide)
  refine⟨μ',S',_,q1,g1.trans q2,q3,(List.range l).map fun i=>Zb2 (F i).stg (g i),.inr ⟨k,0,some c,_,_,false,by simp,q4,q5,fun j x hj=>?_,by simp;omega,fun k hk=>by simp at hk ⊢;omega⟩,by simp[IgL.ps],fun j x hj=>?_⟩
  ·have hjl:j<l:=by have:=Zat hj;simpa using this
   have hx:x=Zb2 (F j).stg (g j):=by simpa[hjl]using hj.symm
   subst hx
   unfold slc
   rw[Ys8 (by simp;omega)]
   congr 1
   apply Yt4
   intro t
   rw[Ytk]
   by_cases ht:t<5
   ·rw[Ys8 ht,Ytg]
    have e1:(0+j*5+t)/5=j:=by omega
    have e2:(0+j*5+t)%5=t:=by omega
    have e3:0+j*5+t<c*5:=by omega
    rw[Ytb,Yvr e3]
    simp only[Yu4,e1,e2]
    have:t=0∨t=1∨t=2∨t=3∨t=4:=by omega
    rcases this with rfl|rfl|rfl|rfl|rfl<;>rfl
   ·rw[Ys5 ht,Ytn (by simp[Zb2];omega)]
  ·have hjl:j<l:=by
    apply Yuh;intro hc
    rw[Ytn (by simp[IgL.ps];omega)]at hj;cases hj
   have hx:x=(F j).stg:=by simpa[IgL.ps,hjl]using hj.symm
   subst hx
   exact⟨g j,by simp[hjl],((hg j (by omega)).2).keep q2.keep⟩
def Zx8{P:Program}{r i s f l:TypeId}{f0 f1 f2 f3 f4:Field}(hr:P.underlying r=some (.struct #[f0,f1,f2,f3,f4]))(o0:f0.offset=0∧f0.type=s)(o1:f1.offset=1∧f1.type=s)(o2:f2.offset=2∧f2.type=f)(o3:f3.offset=3∧f3.type=l)(o4:f4.offset=4∧f4.type=i)(hi:P.underlying i=some (.int .i64))(hs:P.underlying s=some .string)(hf:P.underlying f=some .string)(hl:P.underlying l=some (.slice s))(cr:P.cellsOf r=5)(ci:P.cellsOf i=1)(cs:P.cellsOf s=1)(cf:P.cellsOf f=1)(cl:P.cellsOf l=1){H:Type}{enc:TypeId×Value→H}{W:World}{fuel:Nat}{xs:List Value}{x:DataW H×List MemPlace}
  (h:DataW.trod enc P W 0 (fun _=>true) true fuel r xs=some x):∃p:IgS,(∀t,t<5→xs[t]?=some (p.cell t))∧p.inp.ok W∧p.inp.strs.length<9223372036854775808:=by
 obtain⟨ys,n,_,rfl,hn,hlen,hff⟩:=DataW.trod_struct hr h
 rw[cr]at hn
 match xs,hn with
 |[c0,c1,c2,c3,c4],_=>
  match ys,hlen with
  |[y0,y1,y2,y3,y4],_=>
   have h0:=hff 0 _ rfl
   have h1:=hff 1 _ rfl
   have h2:=hff 2 _ rfl
   have h3:=hff 3 _ rfl
   have h4:=hff 4 _ rfl
   simp[o0.1,o0.2,o1.1,o1.2,o2.1,o2.2,o3.1,o3.2,o4.1,o4.2,ci,cs,cl,cf]at h0 h1 h2 h3 h4
   obtain⟨m0,e0,_⟩:=DataW.trod_string hs h0
   obtain⟨m1,e1,_⟩:=DataW.trod_string hs h1
   obtain⟨m2,e2,_⟩:=DataW.trod_string hf h2
   obtain⟨i3,e3,ok⟩:=Ybs hl hs cs h3
   obtain⟨m4,e4,_⟩:=DataW.trod_int hi h4
   simp only[Ytq,and_true]at e0 e1 e2 e4
   refine⟨⟨m0,m1,m2,i3,m4⟩,fun t ht=>?_,ok⟩
   have:t=0∨t=1∨t=2∨t=3∨t=4:=by omega
   rcases this with rfl|rfl|rfl|rfl|rfl<;>simp[IgS.cell,e0,e1,e2,e3,e4]
def open_stages{t r i s f l:TypeId}{f0 f1 f2 f3 f4:Field}(ht:P.underlying t=some (.slice r))(hr:P.underlying r=some (.struct #[f0,f1,f2,f3,f4]))(o0:f0.offset=0∧f0.type=s)(o1:f1.offset=1∧f1.type=s)(o2:f2.offset=2∧f2.type=f)(o3:f3.offset=3∧f3.type=l)(o4:f4.offset=4∧f4.type=i)(hi:P.underlying i=some (.int .i64))(hs:P.underlying s=some .string)(hf:P.underlying f=some .string)(hl:P.underlying l=some (.slice s))(cr:P.cellsOf r=5)(ci:P.cellsOf i=1)(cs:P.cellsOf s=1)(cf:P.cellsOf f=1)(cl:P.cellsOf l=1){H:Type}{enc:TypeId×Value→H}{W:World}{fuel:Nat}{a:Option Addr}{n c:Nat}{x:DataW H×List MemPlace}
  (h:DataW.trod enc P W 0 (fun _=>true) true fuel t [.slice a n c]=some x):∃m:IgL,Value.slice a n c=m.val∧m.ok W∧m.ps.length<9223372036854775808∧∀p∈m.ps,p.inputs.length<9223372036854775808:=by
 rcases open_slice ht h with⟨hc,_⟩|⟨a',len',cap',m,n',D,Pl,hc,_,hl',hmx,hm,_,hx⟩
 ·have hc':Value.slice a n c=.slice none 0 0:=by simpa using hc
  exact⟨.nil,hc',trivial,by simp[IgL.ps],fun p hp=>by simp[IgL.ps]at hp⟩
 ·simp only[if_true]at hm
  subst hm
  have hc':Value.slice a n c=.slice (some a') len' m:=by simpa using hc
  rcases Yvt m with h0|h0
  ·subst h0
   have:len'=0:=by omega
   subst this
   exact⟨.emp a',hc',trivial,by simp[IgL.ps],fun p hp=>by simp[IgL.ps]at hp⟩
  ·rw[cr]at hx
   have hst:∀k,∃p:IgS,k<m→(∀t,t<5→W.cell? (a'.add (k*5+t))=some (p.cell t))∧p.inp.ok W∧p.inp.strs.length<9223372036854775808:=fun k=>by
    by_cases hk:k<m
    ·obtain⟨cs',g1,g2⟩:=hx k hk
     obtain⟨p,q1,q2⟩:=Zx8 hr o0 o1 o2 o3 o4 hi hs hf hl cr ci cs cf cl g2
     obtain⟨_,_,g3⟩:=World.cells?_some g1
     exact⟨p,fun _=>⟨fun t ht=>by rw[←Yeo,g3 t ht];exact q1 t ht,q2⟩⟩
    ·exact⟨⟨⟨#[]⟩,⟨#[]⟩,⟨#[]⟩,.nil,0⟩,fun h=>absurd h hk⟩
   obtain⟨F,hF⟩:=Classical.axiomOfChoice hst
   refine⟨.sl a' len' m F,hc',⟨hl',h0,fun j hj=>?_,fun k hk=>(hF k hk).2.1⟩,by simp only[IgL.ps,Ytr,List.length_range];unfold maxLen at hmx;omega,fun p hp=>?_⟩
   ·have:=(hF (j/5) (by omega)).1 (j%5) (Yuf _ (by decide))
    rw[show j/5*5+j%5=j by omega]at this
    exact this
   ·obtain⟨k,hk,rfl⟩:=Yup.1 hp
    exact(hF k (by have:=Yv7.1 hk;omega)).2.2
open Go Go.Proofs
set_option maxRecDepth 1000000
def frR(p:FmI):FmR:=⟨p.n,p.a,p.d,p.val.data.toList⟩
def Yqx{h:T O}{N:Nat}{v:V}{l:List FmI}(s:Sn 4 h N v (l.map FmI.row)):Sn 4 h N v ((l.map frR).map fmC):=by rw[List.map_map];exact s
def Ydm{h:T O}{N:Nat}{u v:V}{g:List Stg}{l:List FmI}(hg:Gr h N u g)(hs:Sn 4 h N v (l.map FmI.row))(hP:P10 h N)(hgl:g.length<9223372036854775808)(hin:∀s∈g,s.inputs.length<9223372036854775808)(hll:l.length<9223372036854775808):Fn A.C 3 [u,v] h N (fun x _ _=>x=.bool true):=
 Ydl hg hgl hin (Yqx hs) (by rw[Ytr];exact hll) hP
end Go.Mx
