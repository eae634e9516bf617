/-The operations of M stand for the Go mod-/
import Derived.Test.YtmhlaoiplmemiaaGreatDoorMxOp10
import Derived.Lib.Builder
import Derived.Lib.UnsafeStr
import Derived.RangeFuncRecord
import Derived.OrdersIn
set_option linter.all false
namespace Go.Mx
open Go
section
variable {P:Program} {μ:Mu} {w:World} {st st':St} {r:T V} {n:Nat} {a:Act} {call:Za1} {v:V}
def Zir{b:Nat}{c:Array Value}{e:TypeId}{f:Nat×Nat}(h:w.heap[b]?=some (.cells c e f)):w.shape? b=some (e,c.size):=by
 simp[World.shape?,h]
def Zkl{t:TypeId}{z:Nat}(h:Zby P t=some z):P.cellsOf t=z:=by
 unfold Zby at h
 simp[Program.cellsOf,h]
def Zpl{t:TypeId}{z:Nat}(h:Zby P t=some z):∃j,P.info? t=some j∧j.size=z:=by
 unfold Zby at h
 simp only[Yu2]at h
 exact h
def Zuw{u:TypeId}{z:Nat}(hc:P.cellsOf u=z+1)(count:Nat)(hn:1≤count):liesAt P P.depth u count 0 u 1=true:=by
 have hd:P.depth=(2*(P.types.size+Made.depth)+1)+1:=rfl
 rw[hd]
 simp only[liesAt,Yx6]
 left
 rw[hd]
 simp[rowAt,hc,sameLayout]
 left;omega
def Yal(hh:Zbc P μ w st)(hr:RR μ r n a.tmps){src dst t:TypeId}{x:Operand}{s:Src}{z:Nat}(hs:P.underlying src=some (.pointer t))(hd:P.underlying dst=some .unsafePointer)(hz:Zby P t=some (z+1))
  (hx:Zbk P x=some s) (h:Zjx none s call r st=some (v,st')):Za3 P μ w st (do pure (.value (←convert src dst (a.eval x)))) v st':=by
 unfold Zjx at h
 split at h
 ·rename_i i hm
  obtain⟨l,hl,h1⟩:=Zar hh hr hx hm
  split at h
  ·rename_i c e' hrow
   simp only[]at h
   split at h
   ·rename_i hlt
    simp only[Yup,Yuv]at h
    obtain⟨rfl,rfl⟩:=h
    obtain⟨c',lo,hi,g1,g2,g3,_,_,g6⟩:=hh.row hl hrow
    have hd0:=(g6 rfl).1
    obtain⟨j,hj,hjs⟩:=Zpl hz
    refine Za3.value hh (x:=.pointer (some ⟨l.b,l.d+0,none⟩)) ?_ ⟨l,hl,rfl⟩
    rw[h1]
    exact Go.Lib.run_to_unsafe w ⟨l.b,l.d+0,none⟩ hs hd hj (by omega) (Zir g1) (by show l.d+0<c'.size;omega)
   ·cases h
  ·cases h
 ·cases h
def Zth(hh:Zbc P μ w st)(hr:RR μ r n a.tmps){src dst u:TypeId}{x:Operand}{s:Src}{z:Nat}(hs:P.underlying src=some .unsafePointer)(hd:P.underlying dst=some (.pointer u))(hz:Zby P u=some (z+1))
  (hx:Zbk P x=some s) (h:Zjx (some (u,z+1)) s call r st=some (v,st')):Za3 P μ w st (do pure (.value (←convert src dst (a.eval x)))) v st':=by
 unfold Zjx at h
 split at h
 ·rename_i i hm
  obtain⟨l,hl,h1⟩:=Zar hh hr hx hm
  split at h
  ·rename_i c e' hrow
   simp only[]at h
   split at h
   ·rename_i hlt
    obtain⟨rfl,_,hle⟩:=hlt
    simp only[Yup,Yuv]at h
    obtain⟨rfl,rfl⟩:=h
    obtain⟨c',lo,hi,g1,g2,g3,_,_,g6⟩:=hh.row hl hrow
    have hd0:=(g6 rfl).1
    obtain⟨j,hj,hjs⟩:=Zpl hz
    have hco:=Zkl hz
    refine Za3.value hh (x:=.pointer (some ⟨l.b,l.d+0,none⟩)) ?_ ⟨l,hl,rfl⟩
    rw[h1]
    refine Go.Lib.run_from_unsafe w ⟨l.b,l.d+0,none⟩ hs hd hj (Zir g1) ?_
    show liesAt P P.depth e' (c'.size/P.cellsOf e') (l.d+0) e' 1=true
    rw[hd0]
    refine Zuw hco _ ?_
    rw[hco]
    exact Nat.div_pos (by omega) (by omega)
   ·cases h
  ·cases h
 ·cases h
def Yf4(hh:Zbc P μ w st)(hr:RR μ r n a.tmps){ts:Array TypeId}{ty:TypeId}{x:Operand}{s:Src}
  (hx:Zbk P x=some s) (h:Zh2 s call r st=some (v,st')):Za3 P μ w st (do pure (.value (←Builtin.unsafeSliceData_ ts ty #[a.eval x]))) v st':=by
 unfold Zh2 at h
 split at h
 ·rename_i i o len cap sz hm
  obtain⟨l,c,hl,h1,hlc,_⟩:=Zar hh hr hx hm
  split at h
  ·rename_i hlt
   simp only[Yup,Yuv]at h
   obtain⟨rfl,rfl⟩:=h
   refine Za3.value hh (x:=.pointer (some ⟨l.b,l.d+o,none⟩)) ?_ ⟨l,hl,rfl⟩
   rw[h1]
   exact Go.Lib.run_unsafeSliceData_row w ts ty _ _ _ (by omega)
  ·cases h
 ·cases h
def Zn7:∀{vs:List V} {s:List UInt8},Zn8 vs=some s→vs.length=s.length∧∀(j:Nat) (b:UInt8),s[j]?=some b→vs[j]?=some (.int .u8 b.toNat)
 |[],s,h=>by
  simp only[Zn8,Yup]at h;subst h
  exact⟨rfl,fun j b hb=>by simp at hb⟩
 |v::vs,s,h=>by
  simp only[Zn8]at h
  split at h
  ·rename_i b s' hb hs
   simp only[Yup]at h;subst h
   obtain⟨h1,h2⟩:=Zn7 hs
   refine⟨by simp[h1],fun j c hc=>?_⟩
   cases j with
   |zero=>
    simp only[Ywm,Yup]at hc;subst hc
    cases v<;>simp only[Yis,reduceCtorEq]at hb
    rename_i k m
    cases k<;>simp only[reduceCtorEq]at hb
    split at hb
    ·rename_i hm
     simp only[Yup]at hb;subst hb
     simp only[Ywm,Yup,V.int.injEq,true_and]
     have:m.toNat<256:=by omega
     simp[Nat.toUInt8]
     omega
    ·cases hb
   |succ j=>
    simp only[Yw2]at hc ⊢
    exact h2 j c hc
  ·cases h
def Ykt(hh:Zbc P μ w st)(hr:RR μ r n a.tmps){pt it ty e:TypeId}{x y:Operand}{s q:Src}(hp:P.underlying pt=some (.pointer e))(hz:Zby P e=some 1)(hx:Zbk P x=some s)(hy:Zbk P y=some q)
  (h:Zk3 e s q call r st=some (v,st')):Za3 P μ w st (do pure (.value (←Builtin.unsafeString_ #[pt,it] ty #[a.eval x,a.eval y]))) v st':=by
 unfold Zk3 at h
 split at h
 ·rename_i i k hm hq
  obtain⟨l,hl,h1⟩:=Zar hh hr hx hm
  have h2:=Zar hh hr hy hq
  simp only[VR]at h2
  split at h
  ·rename_i hk
   split at h
   ·rename_i c e' hrow
    split at h
    ·rename_i he
     subst he
     split at h
     ·rename_i seg hseg
      split at h
      ·rename_i str hstr
       simp only[Yup,Yuv]at h
       obtain⟨rfl,rfl⟩:=h
       obtain⟨c',lo,hi,g1,g2,g3,g4,g5,g6⟩:=hh.row hl hrow
       have hd0:=(g6 rfl).1
       obtain⟨b1,b2⟩:=Zn7 hstr
       obtain⟨xs,hxs,hxl,hload,hcell,_⟩:=(hh.row hl hrow).seg hseg
       have hsl:str.length=k.toNat:=by have:=hxs.length;omega
       have hle:k.toNat≤c.length:=by
        unfold slc at hseg
        split at hseg
        ·omega
        ·cases hseg
       have hkn:k=(str.length:Int):=by omega
       have hne:str≠[]:=by intro h0;rw[h0]at hsl;simp at hsl;omega
       have hcells:∀(j:Nat) (b:UInt8),str[j]?=some b→w.cell? ((⟨l.b,0,none⟩:Addr).add j)=some (.int .u8 b.toNat):=by
        intro j b hb
        have hv:=b2 j b hb
        obtain⟨y,hy1,hy2⟩:=hxs.get hv
        simp only[VR]at hy2
        subst hy2
        have:=hcell j _ hy1
        rw[Zch]
        rw[hd0,Yv7]at this
        exact this
       have h63:str.length≤9223372036854775807:=by omega
       have hrun:=Go.Lib.run_unsafeString_row (P:=P) w pt it ty e' hp (Zkl hz) l.b c'.size (Zir g1) str hne (by omega) h63 hcells
       have hw:Stp P μ w st μ (w.freeze ⟨l.b,0,none⟩ str.length) (st.write i (.cells c e' false)) [i]:=by
        have hn0:str.length≠0:=by simpa using hne
        have hfr:(w.freeze ⟨l.b,0,none⟩ str.length).heap[l.b]?=some (.cells c' e' (if lo==hi then (0,0+str.length) else (min lo 0,max hi (0+str.length)))):=by
         simp[World.freeze,hn0,Array.getElem?_modify,g1]
        obtain⟨lo',hi',hlh⟩:∃p q,(if lo==hi then (0,0+str.length) else (min lo 0,max hi (0+str.length)))=(p,q):=⟨_,_,rfl⟩
        rw[hlh]at hfr
        refine Stp.write hh hl (Zjt hrow) rfl ?_ ?_ ?_ ?_ ?_ ⟨c',lo',hi',hfr,g2,g3,g4,g5,fun hc=>by cases hc⟩
        ·simp[World.freeze,hn0]
        ·simp[World.freeze,hn0]
        ·simp[World.freeze,hn0]
        ·simp[World.freeze,hn0]
        ·intro b hb
         simp only[World.freeze,hn0,if_false,Array.getElem?_modify]
         rw[Yur (fun h=>hb h.symm)]
       refine⟨.value (.string ⟨str.toArray⟩),_,_,μ,[i],?_,.inl rfl,rfl,hw⟩
       rw[h1,h2,hd0,hkn]
       simp[hrun,Result.andThen]
      ·cases h
     ·cases h
    ·cases h
   ·cases h
  ·cases h
 ·cases h
end
section
variable {P:Program} {μ:Mu} {w:World} {st st':St} {r:T V} {n:Nat} {a:Act} {call:Za1} {v:V}
def MOp.isCall:MOp→Bool
 |.call _ _=>true
 |_=>false
def Zyx{α:Type}{a:Array α}{x:α}(h:a.toList=[x]):a=#[x]:=by
 apply Array.ext';simpa using h
def Yc3{α:Type}{a:Array α}{x y:α}(h:a.toList=[x,y]):a=#[x,y]:=by
 apply Array.ext';simpa using h
def Zvf(hh:Zbc P μ w st)(hr:RR μ r n a.tmps){b:Builtin}{ts:Array TypeId}{xs:Array Operand}{ty:TypeId}{cs:Array Bool}{m:MOp}(hc:Zs0 P ⟨.builtin b,xs,ts⟩=some m)
  (h:mop m call r st=some (v,st')):Za3 P μ w st (builtin b ts ty cs (xs.map a.eval)) v st':=by
 simp only[Zs0]at hc
 split at hc
 ·rename_i t x ht hx
  have e1:=Zyx ht
  have e2:=Zyx hx
  subst e1 e2
  simp only[builtin,Yya,Yvq,Yxd]
  split at hc
  ·rename_i s hu hs
   simp only[Yup]at hc;subst hc
   exact Zyy (call:=call) hh hr hu hs h
  ·rename_i e s hu hs
   simp only[Yup]at hc;subst hc
   exact Zsb (call:=call) hh hr hu hs h
  ·rename_i k e s hu hs
   simp only[Yup]at hc;subst hc
   exact Zyz (call:=call) hh hr hu hs h
  ·cases hc
 ·rename_i t x ht hx
  have e1:=Zyx ht
  have e2:=Zyx hx
  subst e1 e2
  simp only[builtin,Yya,Yvq,Yxd]
  split at hc
  ·rename_i e s hu hs
   simp only[Yup]at hc;subst hc
   exact Yqi (call:=call) hh hr hu hs h
  ·cases hc
 ·split at hc
  ·rename_i l hl
   simp only[Yup]at hc;subst hc
   exact Ysd (call:=call) hh hr hl h
  ·cases hc
 ·split at hc
  ·rename_i l hl
   simp only[Yup]at hc;subst hc
   exact Ysb (call:=call) hh hr hl h
  ·cases hc
 ·rename_i t u s x ht hx
  have e1:=Yc3 ht
  have e2:=Yc3 hx
  subst e1 e2
  simp only[builtin,Yya,Yvq,Yxd]
  split at hc
  ·rename_i e hu
   split at hc
   ·rename_i n' b' z s' x' d hs hb hz hs' hx' hd
    rw[Yw7]at hc
    obtain⟨hcond,hc⟩:=hc
    simp only[not_or,Decidable.not_not]at hcond
    obtain⟨c1,c2,c3,c4⟩:=hcond
    simp only[Yup]at hc;subst hc
    have c4':z.cells.all V.one=true:=by simpa using c4
    exact Yeu (call:=call) hh hr (by rfl) hu (by rfl) hd (fun k hk=>by subst hk;simp at c1) hs hb hz c3 c4' c2 hs' hx' h
   ·cases hc
  ·cases hc
 ·rename_i t ts' d s ht hx
  have e2:=Yc3 hx
  subst e2
  simp only[builtin,Yya,Yvq,Yxd]
  split at hc
  ·rename_i e hu
   split at hc
   ·rename_i n' d' s' hs hd hs'
    simp only[Yup]at hc;subst hc
    exact Ynm (call:=call) hh hr (by rw[←Ywy,ht];rfl) hu hs hd hs' h
   ·cases hc
  ·cases hc
 ·rename_i t s ht hx
  have e1:=Zyx ht
  have e2:=Zyx hx
  subst e1 e2
  simp only[builtin,Yya,Yvq,Yxd]
  simp only[Yu2]at hc
  obtain⟨s',hs,rfl⟩:=hc
  exact Yf4 (call:=call) hh hr hs h
 ·rename_i t u x y ht hx
  have e1:=Yc3 ht
  have e2:=Yc3 hx
  subst e1 e2
  simp only[builtin,Yya,Yvq,Yxd]
  split at hc
  ·rename_i e hu
   split at hc
   ·rename_i s q hs hx hy
    simp only[Yup]at hc;subst hc
    exact Ykt (call:=call) hh hr hu hs hx hy h
   ·cases hc
  ·cases hc
 ·cases hc
def Ypa(hh:Zbc P μ w st)(hr:RR μ r n a.tmps)(hE:Zeq P){o:Oper}{m:MOp}(hc:Yon P o.op=some m)(hn:m.isCall=false)(h:mop m call r st=some (v,st')):
  Za3 P μ w st (execOp a.eval o) v st':=by
 obtain⟨dst,op,ty,pos,af,g⟩:=o
 cases op<;>simp only[Yon]at hc<;>try (cases hc;done)
 case move x=>simp only[Yu2]at hc;obtain⟨s,h1,rfl⟩:=hc;exact Yjo (call:=call) hh hr h1 h
 case assign x=>simp only[Yu2]at hc;obtain⟨s,h1,rfl⟩:=hc;exact Yjo (call:=call) hh hr h1 h
 case pick c x y=>
  split at hc
  ·rename_i h1 h2 h3
   simp only[Yup]at hc;subst hc
   exact Ylk (call:=call) hh hr h1 h2 h3 h
  ·cases hc
 case alloc e=>
  split at hc
  ·rename_i z hz
   split at hc
   ·rename_i hone
    simp only[Yup]at hc;subst hc
    exact Yiy (call:=call) (r:=r) hh hz hone h
   ·cases hc
  ·cases hc
 case box e x=>simp only[Yu2]at hc;obtain⟨s,h1,rfl⟩:=hc;exact Yqk (call:=call) hh hr h1 h
 case build t parts=>
  split at hc
  ·cases hc
  ·rename_i z hz
   split at hc
   ·rename_i fs hfs
    split at hc
    ·rename_i pl hpl
     simp only[Yu2]at hc
     obtain⟨cps,h1,rfl⟩:=hc
     exact Zoa (call:=call) hh hr hz hfs hpl h1 h
    ·cases hc
   ·rename_i k e hu
    split at hc
    ·rename_i s hs
     simp only[Yu2]at hc
     obtain⟨cps,h1,rfl⟩:=hc
     exact Zoq (call:=call) hh hr hz hu hs h1 h
    ·cases hc
   ·cases hc
 case buildSlice t len parts=>
  split at hc
  ·rename_i e hu
   split at hc
   ·rename_i s z hs hz
    split at hc
    ·cases hc
    ·rename_i hcond
     simp only[not_or,Decidable.not_not]at hcond
     simp only[Yu2]at hc
     obtain⟨cps,h1,rfl⟩:=hc
     exact Yes (call:=call) hh hr hu hs hz hcond.1 hcond.2.1 h1 h
   ·cases hc
  ·cases hc
 case load t x=>
  split at hc
  ·rename_i h1 h2
   simp only[Yup]at hc;subst hc
   exact Ymh (call:=call) hh hr h1 h2 h
  ·cases hc
 case store t x y=>
  split at hc
  ·rename_i h1 h2 h3
   simp only[Yup]at hc;subst hc
   exact Yfw (call:=call) hh hr h1 h2 h3 h
  ·cases hc
 case nilCheck x=>simp only[Yu2]at hc;obtain⟨s,h1,rfl⟩:=hc;exact Yg0 (call:=call) hh hr h1 h
 case binOp op t x y p=>
  split at hc
  ·rename_i s u h1 h2
   have fin:∀q ng,Yoi P op t x y q ng→m=.bin op q ng s u→Za3 P μ w st (execOp a.eval ⟨dst,.binOp op t x y p,ty,pos,af,g⟩) v st':=by
    intro q ng hq hm
    subst hm
    exact Yql (call:=call) hh hr h1 h2 hq h
   cases op
   case eql=>
    simp only at hc
    split at hc
    ·rename_i q hq
     rw[Yw7]at hc
     obtain⟨hcond,hc⟩:=hc
     simp only[Yup]at hc
     exact fin _ _ (fun _=>⟨hq,by rw[Bool.not_eq_true]at hcond;exact hcond,rfl⟩) hc.symm
    ·cases hc
   case neq=>
    simp only at hc
    split at hc
    ·rename_i q hq
     rw[Yw7]at hc
     obtain⟨hcond,hc⟩:=hc
     simp only[Yup]at hc
     exact fin _ _ (fun _=>⟨hq,by rw[Bool.not_eq_true]at hcond;exact hcond,rfl⟩) hc.symm
    ·cases hc
   all_goals
    simp only[Yup]at hc
    exact fin _ _ (fun hq=>by rcases hq with hq|hq<;>cases hq) hc.symm
  ·cases hc
 case unOp op t x=>simp only[Yu2]at hc;obtain⟨s,h1,rfl⟩:=hc;exact Yra (call:=call) hh hr h1 h
 case convert src dst' x=>
  split at hc
  ·cases hc
  ·rename_i s h1
   split at hc
   ·rename_i q k hq hk
    simp only[Yup]at hc;subst hc
    exact Zzx (call:=call) hh hr ⟨_,hq⟩ hk h1 h
   ·rename_i e hq hk
    split at hc
    ·rename_i he
     simp only[Yup]at hc;subst hc
     exact Ztr (call:=call) hh hr hq hk he h1 h
    ·cases hc
   ·rename_i e hq hk
    split at hc
    ·rename_i he
     simp only[Yup]at hc;subst hc
     exact Zve (call:=call) hh hr hq hk he h1 h
    ·cases hc
   ·rename_i t hq hk
    split at hc
    ·rename_i z hz
     simp only[Yup]at hc;subst hc
     exact Yal (call:=call) hh hr hq hk hz h1 h
    ·cases hc
   ·rename_i u hq hk
    split at hc
    ·rename_i z hz
     simp only[Yup]at hc;subst hc
     exact Zth (call:=call) hh hr hq hk hz h1 h
    ·cases hc
   ·cases hc
 case makeInterface t x=>
  split at hc
  ·cases hc
  ·rename_i d hne hd
   simp only[Yu2]at hc;obtain⟨s,h1,rfl⟩:=hc
   exact Zyr (call:=call) hh hr hd (fun k hk=>hne k hk) h1 h
  ·cases hc
 case makeFunc f first caps=>
  cases f<;>simp only[reduceCtorEq]at hc
  split at hc
  ·rename_i h1 h2
   simp only[Yup]at hc;subst hc
   exact Ycq (call:=call) hh hr h1 h2 h
  ·cases hc
 case makeMap t rsv=>
  cases rsv<;>simp only[reduceCtorEq]at hc
  simp only[Yup]at hc;subst hc
  exact Yg9 (call:=call) (r:=r) hh h
 case makeSlice t x y=>
  split at hc
  ·rename_i e hu
   split at hc
   ·rename_i hs hb hz hx hy
    split at hc
    ·rename_i hone
     simp only[Yup]at hc;subst hc
     exact Zyq (call:=call) hh hr hu hs hb hz hone hx hy h
    ·cases hc
   ·cases hc
  ·cases hc
 case slice t x lo hi mx=>
  split at hc
  ·rename_i hx hlo hhi hmx
   split at hc
   ·rename_i hu
    split at hc
    ·cases hc
    ·rename_i hnone
     simp only[Yup]at hc;subst hc
     have hm:mx=none:=by
      cases mx with
      |none=>rfl
      |some q=>
       simp only[Ztb]at hmx
       split at hmx
       ·simp only[Yup]at hmx
        subst hmx;simp at hnone
       ·cases hmx
     subst hm
     exact Ztt (call:=call) hh hr hu hx hlo hhi h
   ·rename_i e hu
    simp only[Yu2]at hc;obtain⟨s,h1,rfl⟩:=hc
    exact Zxy (call:=call) hh hr hu h1 hx hlo hhi hmx h
   ·rename_i k e hu
    simp only[Yu2]at hc;obtain⟨s,h1,rfl⟩:=hc
    exact Ztu (call:=call) hh hr hu h1 hx hlo hhi hmx h
   ·cases hc
  ·cases hc
 case fieldAddr t x i=>
  split at hc
  ·rename_i hu hx
   split at hc
   ·rename_i f hf
    split at hc
    ·rename_i hk
     simp only[Yup]at hc;subst hc
     exact Yh4 (call:=call) hh hr hu hf hk hx h
    ·cases hc
   ·cases hc
  ·cases hc
 case indexAddr t x i=>
  split at hc
  ·rename_i hu hx hi
   simp only[Yu2]at hc;obtain⟨s,h1,rfl⟩:=hc
   exact Zu0 (call:=call) hh hr hu h1 hx hi h
  ·rename_i hu hx hi
   simp only[Yu2]at hc;obtain⟨s,h1,rfl⟩:=hc
   exact Zzj (call:=call) hh hr hu h1 hx hi h
  ·cases hc
 case index t x i=>
  split at hc
  ·rename_i hu hx hi
   simp only[Yup]at hc;subst hc
   exact Ydf (call:=call) hh hr hu hx hi h
  ·cases hc
 case lookup t x k ok=>
  split at hc
  ·rename_i hu hx hk
   split at hc
   ·rename_i h1 h2
    simp only[Yup]at hc;subst hc
    exact Ycy (call:=call) hh hr hu h1 h2 hx hk h
   ·cases hc
  ·cases hc
 case mapUpdate t x k y=>
  split at hc
  ·rename_i hu hx hk hy
   simp only[Yu2]at hc;obtain⟨s,h1,rfl⟩:=hc
   exact Zr8 (call:=call) hh hr hu h1 hx hk hy h
  ·cases hc
 case insert t x k y=>
  split at hc
  ·rename_i hu hx hk hy
   simp only[Yu2]at hc;obtain⟨s,h1,rfl⟩:=hc
   exact Zr8 (call:=call) hh hr hu h1 hx hk hy h
  ·cases hc
 case range t x=>
  split at hc
  ·rename_i hu hx
   simp only[Yup]at hc;subst hc
   exact Zt5 (call:=call) hh hr hu hx h
  ·cases hc
 case next it isS=>
  cases isS<;>simp only[reduceCtorEq]at hc
  simp only[Yu2]at hc;obtain⟨s,h1,rfl⟩:=hc
  exact Zyd (call:=call) hh hr h1 h
 case extract x i=>simp only[Yu2]at hc;obtain⟨s,h1,rfl⟩:=hc;exact Zzn (call:=call) hh hr h1 h
 case call c=>
  obtain⟨callee,args,ats⟩:=c
  cases callee with
  |invoke r' nm=>simp only[Zs0,reduceCtorEq]at hc
  |builtin b=>
   have:=Zvf (ty:=ty) (cs:=args.map fun|.const _=>true|_=>false) hh hr hc h
   obtain⟨nx,x,w',μ',ws,k1,k2⟩:=this
   refine⟨nx,x,w',μ',ws,?_,k2⟩
   rw[←k1]
   simp[execOp,resolve,invoke]
   rfl
  |value f=>
   simp only[Zs0]at hc
   split at hc
   ·cases hc
   ·rename_i ss hss
    cases f<;>simp only at hc
    case func gid=>
     split at hc
     ·rename_i fn hfn
      split at hc
      ·simp only[Yup]at hc;subst hc;simp[MOp.isCall]at hn
      ·rename_i hb
       split at hc
       ·rename_i e he
        simp only[Yup]at hc;subst hc
        have:=Yp4 (call:=call) hh hr hE hfn (by simpa using hb) he hss h
        obtain⟨nx,x,w',μ',ws,k1,k2⟩:=this
        refine⟨nx,x,w',μ',ws,?_,k2⟩
        rw[←k1]
        have e0:(⟨List.map a.eval args.toList⟩:Array Value)=args.map a.eval:=by apply Array.ext';simp
        rw[e0]
        simp[execOp,resolve,invoke,Deferred.ofValue,Act.eval]
       ·cases hc
     ·cases hc
    all_goals
     split at hc
     ·simp only[Yup]at hc;subst hc;simp[MOp.isCall]at hn
     ·cases hc
end
abbrev FE(lb:Option Nat):Fence:={Fence.wide with round:=lb}
def Yle(R:Value→World→Prop):Ending→World→Prop
 |.returned x,w=>R x w
 |_,_=>False
def Zks(P:Program)(y:Bool)(G:Value)(xs:Array Value)(w:World)(R:Value→World→Prop):Prop:=
 (∃d,(Deferred.ofValue G xs).run P w=.ok d w∧
  ((y=false∧∃f args,(invoke d.target d.args).run P w=.ok (.enter f args) w∧CallsIn Fence.wide 0 P f args w (Yle R))∨
     (y=true∧∃l f tmps asg bod,(invoke d.target d.args).run P w=.ok (.round l f tmps asg bod) w∧RoundIn Fence.wide 0 P l f tmps asg bod w (Yle R))))
def Zbx(P:Program)(call:Za1):Prop:=
 ∀(g:V) (args:List V) (st:St) (v:V) (st':St),call g args st=some (v,st')→∀(μ:Mu) (w:World) (G:Value) (xs:List Value),Zbc P μ w st→VR μ g G→VRs μ args xs→
  Zks P g.isY G ⟨xs⟩ w fun x w'=>∃μ' ws,VR μ' v x∧Stp P μ w st μ' w' st' ws
def Zot(μ:Mu):List Nat→List Deferred→Prop
 |[],ds=>ds=[]
 |m::ms,ds=>∃l ds',μ m=some l∧ds={target:=.collected l.b,args:=#[]}::ds'∧Zot μ ms ds'
def Zot.mono{μ μ':Mu}(h:∀i l,μ i=some l→μ' i=some l):∀{ms:List Nat} {ds:List Deferred},Zot μ ms ds→Zot μ' ms ds
 |[],_,hd=>hd
 |_::_,_,⟨l,ds',h1,h2,h3⟩=>⟨l,ds',h _ _ h1,h2,Zot.mono h h3⟩
def FrR(μ:Mu)(fr:Fr)(a:Act):Prop:=RR μ fr.r fr.n a.tmps∧Zot μ fr.marks a.defers
def FrR.mono{μ μ':Mu}(h:∀i l,μ i=some l→μ' i=some l){fr:Fr}{a:Act}(hf:FrR μ fr a):FrR μ' fr a:=⟨hf.1.mono h,hf.2.mono h⟩
section
variable {P:Program} {μ:Mu} {w:World} {st st':St} {fr fr':Fr} {a:Act} {call:Za1} {v:V} {lb:Option Nat}
def Stp.mono{μ':Mu}{w':World}{ws:List Nat}(hh:Zbc P μ w st)(h:Stp P μ w st μ' w' st' ws):∀i l,μ i=some l→μ' i=some l:=Zbc.ext_of hh h.ext
def FrR.put(hf:FrR μ fr a){d:Option Nat}{x:Value}(hv:VR μ v x)(h:fr.put d v=some fr'):FrR μ fr' (a.put d x):=by
 cases d with
 |none=>
  simp only[Fr.put,Yup]at h;subst h
  exact hf
 |some d=>
  simp only[Fr.put]at h
  split at h
  ·rename_i hd
   simp only[Yup]at h;subst h
   exact⟨hf.1.set hd hv,hf.2⟩
  ·cases h
def Yls(hcall:Zbx P call)(hE:Zeq P)(hh:Zbc P μ w st)(hf:FrR μ fr a){o:Oper}(h:mop (cOp P o.op) call fr.r st=some (v,st')){K:Act→World→Prop}{Q:Exit→Act→World→Prop}
  (hK:∀x w' μ' ws,VR μ' v x→Stp P μ w st μ' w' st' ws→K (a.put o.dst x) w'):o.wpIn (FE lb) 0 P a w K Q:=by
 refine⟨fun _ _=>trivial,?_⟩
 have hnd:∀c,o.op≠.defer c:=by
  intro c hc
  rw[hc]at h
  simp only[cOp,Yon,Option.getD_none]at h
  cases h
 show o.uponIn (FE lb) 0 P a K Q ((o.semAt lb a.eval).run P w)
 rw[Oper.semAt_eq _ _ _ hnd]
 cases hc:Yon P o.op with
 |none=>
  simp only[cOp,hc,Option.getD_none]at h
  cases h
 |some m=>
  simp only[cOp,hc,Yxj]at h
  by_cases hn:m.isCall=true
  ·-- a call
   obtain⟨dst,op,ty,pos,af,g⟩:=o
   cases m<;>simp only[MOp.isCall,Yu5]at hn
   rename_i sf ss
   have hop:∃c f,op=.call c∧c.callee=.value f∧Zbk P f=some sf∧Zi8 P c.args.toList=some ss:=by
    cases op<;>simp only[Yon]at hc<;>try (cases hc;done)
    case call c=>
     obtain⟨callee,args,ats⟩:=c
     cases callee with
     |invoke r' nm=>simp only[Zs0,reduceCtorEq]at hc
     |builtin b=>
      exfalso
      simp only[Zs0]at hc
      repeat' split at hc
      all_goals first|(cases hc;done)|(simp at hc;done)
     |value f=>
      simp only[Zs0]at hc
      split at hc
      ·cases hc
      ·rename_i ss' hss
       refine⟨_,f,rfl,rfl,?_⟩
       cases f<;>simp only at hc
       case func gid=>
        split at hc
        ·split at hc
         ·simp only[Yup,MOp.call.injEq]at hc
          obtain⟨rfl,rfl⟩:=hc
          exact⟨rfl,hss⟩
         ·split at hc
          ·simp at hc
          ·cases hc
        ·cases hc
       all_goals
        split at hc
        ·rename_i h1
         simp only[Yup,MOp.call.injEq]at hc
         obtain⟨rfl,rfl⟩:=hc
         exact⟨h1,hss⟩
        ·cases hc
    all_goals
     exfalso
     repeat' split at hc
     all_goals first|(cases hc;done)|contradiction|(simp at hc;done)|(rw[Yw7]at hc;simp at hc;done)
   obtain⟨c,f,rfl,hcal,h1,h2⟩:=hop
   have h':Zeo sf ss call fr.r st=some (v,st'):=h
   unfold Zeo at h'
   split at h'
   ·rename_i gv l hg hl
    have hG:=Zar hh hf.1 h1 hg
    have hX:=Zfa hh hf.1 h2 hl
    obtain⟨d,hd,hrest⟩:=hcall _ _ _ _ _ h' μ w _ _ hh hG hX
    have e0:(⟨List.map a.eval c.args.toList⟩:Array Value)=c.args.map a.eval:=by apply Array.ext';simp
    rw[e0]at hd
    have hres:(resolve a.eval c ty).run P w=.ok d w:=by
     simp only[resolve,hcal]
     exact hd
    rcases hrest with⟨_,g',args,hinv,hci⟩|⟨_,l',g',tmps,asg,bod,hinv,hri⟩
    ·have hrun:(execOp a.eval ⟨dst,.call c,ty,pos,af,g⟩).run P w=.ok (.enter g' args) w:=by
      simp only[execOp,Sem.run_bind,hres,Result.andThen_ok,hinv]
     rw[hrun,Oper.uponIn_enter]
     refine⟨fun hx=>by simp[Fence.wide]at hx,?_⟩
     refine CallsIn.mono (F:=Fence.wide) hci fun e w' he=>?_
     cases e with
     |returned x=>
      obtain⟨μ',ws,q1,q2⟩:=he
      exact hK x w' μ' ws q1 q2
     |panicked _=>exact he.elim
     |outgrown=>exact he.elim
    ·have hrun:(execOp a.eval ⟨dst,.call c,ty,pos,af,g⟩).run P w=.ok (.round l' g' tmps asg bod) w:=by
      simp only[execOp,Sem.run_bind,hres,Result.andThen_ok,hinv]
     rw[hrun,Oper.uponIn_round]
     refine⟨fun hx=>by simp[Fence.wide]at hx,?_⟩
     refine RoundIn.mono (F:=Fence.wide) hri fun e w' he=>?_
     cases e with
     |returned x=>
      obtain⟨μ',ws,q1,q2⟩:=he
      exact hK x w' μ' ws q1 q2
     |panicked _=>exact he.elim
     |outgrown=>exact he.elim
   ·cases h'
  ·obtain⟨nx,x,w',μ',ws,k1,k2,k3,k4⟩:=Ypa hh hf.1 hE hc (by simpa using hn) h
   rw[k1]
   rcases k2 with rfl|⟨rfl,rfl⟩
   ·rw[Oper.uponIn_value];exact hK x w' μ' ws k3 k4
   ·rw[Oper.uponIn_skip];exact hK undef w' μ' ws k3 k4
def Zov{ops:Array Oper}{o:Oper}{g:Option (Nat×Bool)}(hr:RR μ fr.r fr.n a.tmps)(hg:Zn5 ops o.guard=some g){b:Bool}(h:wantedV fr.r g=some b):Region.wanted o (yielded ops a.tmps)=b:=by
 unfold Region.wanted
 cases ho:o.guard with
 |none=>
  rw[ho]at hg
  simp only[Zn5,Yup]at hg;subst hg
  simp only[wantedV,Yup]at h
  exact h
 |some p=>
  obtain⟨j,want⟩:=p
  rw[ho]at hg
  simp only[Zn5]at hg
  split at hg
  ·rename_i t ht
   simp only[Yup]at hg;subst hg
   simp only[wantedV]at h
   split at h
   ·rename_i b' hb
    simp only[Yup]at h;subst h
    obtain⟨x,hx,hv⟩:=hr.2 _ _ hb
    simp only[VR]at hv
    subst hv
    simp[yielded,ht,hx]
   ·rename_i l hb
    simp only[Yup]at h;subst h
    obtain⟨x,hx,y,hv,_⟩:=hr.2 _ _ hb
    subst hv
    simp[yielded,ht,hx]
   ·cases h
  ·cases hg
end
end Go.Mx
