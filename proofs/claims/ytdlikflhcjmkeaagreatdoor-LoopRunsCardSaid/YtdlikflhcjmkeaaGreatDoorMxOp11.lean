/-The operations of M stand for the Go mod-/
import Derived.Test.YtdlikflhcjmkeaaGreatDoorMxOp10
import Derived.Lib.Builder
import Derived.Lib.UnsafeStr
import Derived.RangeFuncRecord
import Derived.OrdersIn
set_option linter.all false
namespace Go.Mx
open Go
section
variable {P:Program} {μ:Mu} {w:World} {st st':St} {r:T V} {n:Nat} {a:Act} {call:Za0} {v:V}
def Zic{b:Nat}{c:Array Value}{e:TypeId}{f:Nat×Nat}(h:w.heap[b]?=some (.cells c e f)):w.shape? b=some (e,c.size):=by
 simp[World.shape?,h]
def Zj2{t:TypeId}{z:Nat}(h:Zbr P t=some z):P.cellsOf t=z:=by
 unfold Zbr at h
 simp[Program.cellsOf,h]
def Zod{t:TypeId}{z:Nat}(h:Zbr P t=some z):∃j,P.info? t=some j∧j.size=z:=by
 unfold Zbr at h
 simp only[Yql]at h
 exact h
def Zta{u:TypeId}{z:Nat}(hc:P.cellsOf u=z+1)(count:Nat)(hn:1≤count):liesAt P P.depth u count 0 u 1=true:=by
 have hd:P.depth=(2*(P.types.size+Made.depth)+1)+1:=rfl
 rw[hd]
 simp only[liesAt,Yto]
 left
 rw[hd]
 simp[rowAt,hc,sameLayout]
 left;omega
def Zyo(hh:Za7 P μ w st)(hr:RR μ r n a.tmps){src dst t:TypeId}{x:Operand}{s:Src}{z:Nat}(hs:P.underlying src=some (.pointer t))(hd:P.underlying dst=some .unsafePointer)(hz:Zbr P t=some (z+1))
  (hx:Zba P x=some s) (h:Zkw none s call r st=some (v,st')):Za3 P μ w st (do pure (.value (←convert src dst (a.eval x)))) v st':=by
 unfold Zkw at h
 split at h
 ·rename_i i hm
  obtain⟨l,hl,h1⟩:=Zap hh hr hx hm
  split at h
  ·rename_i c e' hrow
   simp only[]at h
   split at h
   ·rename_i hlt
    simp only[Yqc,Yqf]at h
    obtain⟨rfl,rfl⟩:=h
    obtain⟨c',lo,hi,g1,g2,g3,_,_,g6⟩:=hh.row hl hrow
    have hd0:=(g6 rfl).1
    obtain⟨j,hj,hjs⟩:=Zod hz
    refine Za3.value hh (x:=.pointer (some ⟨l.b,l.d+0,none⟩)) ?_ ⟨l,hl,rfl⟩
    rw[h1]
    exact Go.Lib.run_to_unsafe w ⟨l.b,l.d+0,none⟩ hs hd hj (by omega) (Zic g1) (by show l.d+0<c'.size;omega)
   ·cases h
  ·cases h
 ·cases h
def Zry(hh:Za7 P μ w st)(hr:RR μ r n a.tmps){src dst u:TypeId}{x:Operand}{s:Src}{z:Nat}(hs:P.underlying src=some .unsafePointer)(hd:P.underlying dst=some (.pointer u))(hz:Zbr P u=some (z+1))
  (hx:Zba P x=some s) (h:Zkw (some (u,z+1)) s call r st=some (v,st')):Za3 P μ w st (do pure (.value (←convert src dst (a.eval x)))) v st':=by
 unfold Zkw at h
 split at h
 ·rename_i i hm
  obtain⟨l,hl,h1⟩:=Zap hh hr hx hm
  split at h
  ·rename_i c e' hrow
   simp only[]at h
   split at h
   ·rename_i hlt
    obtain⟨rfl,_,hle⟩:=hlt
    simp only[Yqc,Yqf]at h
    obtain⟨rfl,rfl⟩:=h
    obtain⟨c',lo,hi,g1,g2,g3,_,_,g6⟩:=hh.row hl hrow
    have hd0:=(g6 rfl).1
    obtain⟨j,hj,hjs⟩:=Zod hz
    have hco:=Zj2 hz
    refine Za3.value hh (x:=.pointer (some ⟨l.b,l.d+0,none⟩)) ?_ ⟨l,hl,rfl⟩
    rw[h1]
    refine Go.Lib.run_from_unsafe w ⟨l.b,l.d+0,none⟩ hs hd hj (Zic g1) ?_
    show liesAt P P.depth e' (c'.size/P.cellsOf e') (l.d+0) e' 1=true
    rw[hd0]
    refine Zta hco _ ?_
    rw[hco]
    exact Nat.div_pos (by omega) (by omega)
   ·cases h
  ·cases h
 ·cases h
def Ydm(hh:Za7 P μ w st)(hr:RR μ r n a.tmps){ts:Array TypeId}{ty:TypeId}{x:Operand}{s:Src}
  (hx:Zba P x=some s) (h:Zhm s call r st=some (v,st')):Za3 P μ w st (do pure (.value (←Builtin.unsafeSliceData_ ts ty #[a.eval x]))) v st':=by
 unfold Zhm at h
 split at h
 ·rename_i i o len cap sz hm
  obtain⟨l,c,hl,h1,hlc,_⟩:=Zap hh hr hx hm
  split at h
  ·rename_i hlt
   simp only[Yqc,Yqf]at h
   obtain⟨rfl,rfl⟩:=h
   refine Za3.value hh (x:=.pointer (some ⟨l.b,l.d+o,none⟩)) ?_ ⟨l,hl,rfl⟩
   rw[h1]
   exact Go.Lib.run_unsafeSliceData_row w ts ty _ _ _ (by omega)
  ·cases h
 ·cases h
def Zm8:∀{vs:List V} {s:List UInt8},Zm9 vs=some s→vs.length=s.length∧∀(j:Nat) (b:UInt8),s[j]?=some b→vs[j]?=some (.int .u8 b.toNat)
 |[],s,h=>by
  simp only[Zm9,Yqc]at h;subst h
  exact⟨rfl,fun j b hb=>by simp at hb⟩
 |v::vs,s,h=>by
  simp only[Zm9]at h
  split at h
  ·rename_i b s' hb hs
   simp only[Yqc]at h;subst h
   obtain⟨h1,h2⟩:=Zm8 hs
   refine⟨by simp[h1],fun j c hc=>?_⟩
   cases j with
   |zero=>
    simp only[Yrx,Yqc]at hc;subst hc
    cases v<;>simp only[Yfp,reduceCtorEq]at hb
    rename_i k m
    cases k<;>simp only[reduceCtorEq]at hb
    split at hb
    ·rename_i hm
     simp only[Yqc]at hb;subst hb
     simp only[Yrx,Yqc,V.int.injEq,true_and]
     have:m.toNat<256:=by omega
     simp[Nat.toUInt8]
     omega
    ·cases hb
   |succ j=>
    simp only[Ysc]at hc ⊢
    exact h2 j c hc
  ·cases h
def Yhd(hh:Za7 P μ w st)(hr:RR μ r n a.tmps){pt it ty e:TypeId}{x y:Operand}{s q:Src}(hp:P.underlying pt=some (.pointer e))(hz:Zbr P e=some 1)(hx:Zba P x=some s)(hy:Zba P y=some q)
  (h:Zki e s q call r st=some (v,st')):Za3 P μ w st (do pure (.value (←Builtin.unsafeString_ #[pt,it] ty #[a.eval x,a.eval y]))) v st':=by
 unfold Zki at h
 split at h
 ·rename_i i k hm hq
  obtain⟨l,hl,h1⟩:=Zap hh hr hx hm
  have h2:=Zap hh hr hy hq
  simp only[VR]at h2
  split at h
  ·rename_i hk
   split at h
   ·rename_i c e' hrow
    split at h
    ·rename_i he
     subst he
     split at h
     ·rename_i seg hseg
      split at h
      ·rename_i str hstr
       simp only[Yqc,Yqf]at h
       obtain⟨rfl,rfl⟩:=h
       obtain⟨c',lo,hi,g1,g2,g3,g4,g5,g6⟩:=hh.row hl hrow
       have hd0:=(g6 rfl).1
       obtain⟨b1,b2⟩:=Zm8 hstr
       obtain⟨xs,hxs,hxl,hload,hcell,_⟩:=(hh.row hl hrow).seg hseg
       have hsl:str.length=k.toNat:=by have:=hxs.length;omega
       have hle:k.toNat≤c.length:=by
        unfold slc at hseg
        split at hseg
        ·omega
        ·cases hseg
       have hkn:k=(str.length:Int):=by omega
       have hne:str≠[]:=by intro h0;rw[h0]at hsl;simp at hsl;omega
       have hcells:∀(j:Nat) (b:UInt8),str[j]?=some b→w.cell? ((⟨l.b,0,none⟩:Addr).add j)=some (.int .u8 b.toNat):=by
        intro j b hb
        have hv:=b2 j b hb
        obtain⟨y,hy1,hy2⟩:=hxs.get hv
        simp only[VR]at hy2
        subst hy2
        have:=hcell j _ hy1
        rw[Zcd]
        rw[hd0,Ysh]at this
        exact this
       have h63:str.length≤9223372036854775807:=by omega
       have hrun:=Go.Lib.run_unsafeString_row (P:=P) w pt it ty e' hp (Zj2 hz) l.b c'.size (Zic g1) str hne (by omega) h63 hcells
       have hw:Stp P μ w st μ (w.freeze ⟨l.b,0,none⟩ str.length) (st.write i (.cells c e' false)) [i]:=by
        have hn0:str.length≠0:=by simpa using hne
        have hfr:(w.freeze ⟨l.b,0,none⟩ str.length).heap[l.b]?=some (.cells c' e' (if lo==hi then (0,0+str.length) else (min lo 0,max hi (0+str.length)))):=by
         simp[World.freeze,hn0,Array.getElem?_modify,g1]
        obtain⟨lo',hi',hlh⟩:∃p q,(if lo==hi then (0,0+str.length) else (min lo 0,max hi (0+str.length)))=(p,q):=⟨_,_,rfl⟩
        rw[hlh]at hfr
        refine Stp.write hh hl (Zjj hrow) rfl ?_ ?_ ?_ ?_ ?_ ⟨c',lo',hi',hfr,g2,g3,g4,g5,fun hc=>by cases hc⟩
        ·simp[World.freeze,hn0]
        ·simp[World.freeze,hn0]
        ·simp[World.freeze,hn0]
        ·simp[World.freeze,hn0]
        ·intro b hb
         simp only[World.freeze,hn0,if_false,Array.getElem?_modify]
         rw[Yqe (fun h=>hb h.symm)]
       refine⟨.value (.string ⟨str.toArray⟩),_,_,μ,[i],?_,.inl rfl,rfl,hw⟩
       rw[h1,h2,hd0,hkn]
       simp[hrun,Result.andThen]
      ·cases h
     ·cases h
    ·cases h
   ·cases h
  ·cases h
 ·cases h
end
section
variable {P:Program} {μ:Mu} {w:World} {st st':St} {r:T V} {n:Nat} {a:Act} {call:Za0} {v:V}
def Zxs{op:BinOp}{t:TypeId}{k:FloatKind}{p q:Nat}{z:V}(h:Ybi op k p q=some z):∃y,(binOp op t (.float k p) (.float k q)).run P w=.ok y w∧VR μ z y:=by
 unfold Ybi at h
 cases op<;>simp only[reduceCtorEq]at h
 case add=> 
  simp only[Yql]at h
  obtain⟨m,hm,rfl⟩:=h
  exact⟨.float k m,by simp[binOp,Op.floatArith,hm],by simp[VR]⟩
 case sub=> 
  simp only[Yql]at h
  obtain⟨m,hm,rfl⟩:=h
  exact⟨.float k m,by simp[binOp,Op.floatArith,hm],by simp[VR]⟩
 case mul=> 
  simp only[Yql]at h
  obtain⟨m,hm,rfl⟩:=h
  exact⟨.float k m,by simp[binOp,Op.floatArith,hm],by simp[VR]⟩
 case quo=> 
  simp only[Yql]at h
  obtain⟨m,hm,rfl⟩:=h
  exact⟨.float k m,by simp[binOp,Op.floatArith,hm],by simp[VR]⟩
 all_goals
  simp only[Yqc]at h;subst h
  exact⟨_,by simp[binOp,Op.floatCmp];rfl,by simp[VR]⟩
def Yjm(hh:Za7 P μ w st)(hr:RR μ r n a.tmps){op:BinOp}{t:TypeId}{x y:Operand}{s u:Src}(hx:Zba P x=some s)(hy:Zba P y=some u)
  (h:Zme op s u call r st=some (v,st')):
  Za3 P μ w st (do pure (.value (←(do eqGuard op t x y (a.eval x) (a.eval y);binOp op t (a.eval x) (a.eval y):Sem Value)))) v st':=by
 unfold Zme at h
 split at h
 ·rename_i k p k' q hs hu
  have h1:=Zap hh hr hx hs
  have h2:=Zap hh hr hy hu
  simp only[VR]at h1 h2
  rw[h1,h2]
  split at h
  ·rename_i e;subst e
   split at h
   ·rename_i z hz
    simp only[Yqc,Yqf]at h
    obtain⟨rfl,rfl⟩:=h
    obtain⟨y',h3,h4⟩:=Zxs (P:=P) (μ:=μ) (w:=w) (t:=t) hz
    exact Za3.value hh (Zfy (Ze0 (by intro h;cases h) (by intro _ _ h;cases h)) h3) h4
   ·cases h
  ·cases h
 ·cases h
def Yjo(hh:Za7 P μ w st)(hr:RR μ r n a.tmps){src dst:TypeId}{k:IntKind}{q:FloatKind}{x:Operand}{s:Src}(hs:P.underlying src=some (.float q))(hd:P.underlying dst=some (.int k))(hx:Zba P x=some s)
  (h:Zmf k s call r st=some (v,st')):Za3 P μ w st (do pure (.value (←convert src dst (a.eval x)))) v st':=by
 unfold Zmf at h
 split at h
 ·rename_i q' b hm
  have he:=Zap hh hr hx hm
  simp only[VR]at he
  split at h
  ·rename_i m hmm
   split at h
   ·rename_i hb
    simp only[Yqc,Yqf]at h
    obtain⟨rfl,rfl⟩:=h
    exact Za3.value hh (x:=.int k m) (by simp[convert,run_underlying hs,run_underlying hd,he,Conv.floatToInt,hmm,hb]) (by simp[VR])
   ·cases h
  ·cases h
 ·cases h
def Ym2(hh:Za7 P μ w st)(hr:RR μ r n a.tmps){ts:Array TypeId}{ty:TypeId}{x:Operand}{s:Src}
  (hx:Zba P x=some s) (h:Zif false s call r st=some (v,st')):Za3 P μ w st (do pure (.value (←Builtin.real_ ts ty #[a.eval x]))) v st':=by
 unfold Zif at h
 split at h
 ·rename_i k p q hm
  have he:=Zap hh hr hx hm
  simp only[VR]at he
  simp only[Yqc,Yqf]at h
  obtain⟨rfl,rfl⟩:=h
  exact Za3.value hh (x:=.float k p) (by rw[he];rfl) (by simp[VR])
 ·cases h
def Yn1(hh:Za7 P μ w st)(hr:RR μ r n a.tmps){ts:Array TypeId}{ty:TypeId}{x:Operand}{s:Src}
  (hx:Zba P x=some s) (h:Zif true s call r st=some (v,st')):Za3 P μ w st (do pure (.value (←Builtin.imag_ ts ty #[a.eval x]))) v st':=by
 unfold Zif at h
 split at h
 ·rename_i k p q hm
  have he:=Zap hh hr hx hm
  simp only[VR]at he
  simp only[Yqc,Yqf]at h
  obtain⟨rfl,rfl⟩:=h
  exact Za3.value hh (x:=.float k q) (by rw[he];rfl) (by simp[VR])
 ·cases h
end
section
variable {P:Program} {μ:Mu} {w:World} {st st':St} {r:T V} {n:Nat} {a:Act} {call:Za0} {v:V}
def MOp.isCall:MOp→Bool
 |.call _ _=>true
 |_=>false
def Zkl{α:Type}{a:Array α}{x:α}(h:a.toList=[x]):a=#[x]:=by
 apply Ytm;simpa using h
def Yay{α:Type}{a:Array α}{x y:α}(h:a.toList=[x,y]):a=#[x,y]:=by
 apply Ytm;simpa using h
def Ztq(hh:Za7 P μ w st)(hr:RR μ r n a.tmps){b:Builtin}{ts:Array TypeId}{xs:Array Operand}{ty:TypeId}{cs:Array Bool}{m:MOp}(hc:Zrk P ⟨.builtin b,xs,ts⟩=some m)
  (h:mop m call r st=some (v,st')):Za3 P μ w st (builtin b ts ty cs (xs.map a.eval)) v st':=by
 simp only[Zrk]at hc
 split at hc
 ·rename_i t x ht hx
  have e1:=Zkl ht
  have e2:=Zkl hx
  subst e1 e2
  simp only[builtin,Yss,Yrj,Yta]
  split at hc
  ·rename_i s hu hs
   simp only[Yqc]at hc;subst hc
   exact Zw6 (call:=call) hh hr hu hs h
  ·rename_i e s hu hs
   simp only[Yqc]at hc;subst hc
   exact Zqw (call:=call) hh hr hu hs h
  ·rename_i k e s hu hs
   simp only[Yqc]at hc;subst hc
   exact Zw7 (call:=call) hh hr hu hs h
  ·rename_i k e s hu
   simp only[Yqc]at hc;subst hc
   exact Zqx (call:=call) (r:=r) hh (.inl ⟨_,hu⟩) h
  ·rename_i u s hu
   split at hc
   ·rename_i k e hu2
    simp only[Yqc]at hc;subst hc
    exact Zqx (call:=call) (r:=r) hh (.inr ⟨_,_,hu,hu2⟩) h
   ·cases hc
  ·cases hc
 ·rename_i t x ht hx
  have e1:=Zkl ht
  have e2:=Zkl hx
  subst e1 e2
  simp only[builtin,Yss,Yrj,Yta]
  split at hc
  ·rename_i e s hu hs
   simp only[Yqc]at hc;subst hc
   exact Ymc (call:=call) hh hr hu hs h
  ·cases hc
 ·split at hc
  ·rename_i l hl
   simp only[Yqc]at hc;subst hc
   exact Ynv (call:=call) hh hr hl h
  ·cases hc
 ·split at hc
  ·rename_i l hl
   simp only[Yqc]at hc;subst hc
   exact Ynu (call:=call) hh hr hl h
  ·cases hc
 ·rename_i t u s x ht hx
  have e1:=Yay ht
  have e2:=Yay hx
  subst e1 e2
  simp only[builtin,Yss,Yrj,Yta]
  split at hc
  ·rename_i e hu
   split at hc
   ·rename_i n' b' z s' x' d hs hb hz hs' hx' hd
    rw[Ysk]at hc
    obtain⟨hcond,hc⟩:=hc
    simp only[not_or,Decidable.not_not]at hcond
    obtain⟨c1,c2,c3,c4⟩:=hcond
    simp only[Yqc]at hc;subst hc
    have c4':z.cells.all V.one=true:=by simpa using c4
    exact Yco (call:=call) hh hr (by rfl) hu (by rfl) hd (fun k hk=>by subst hk;simp at c1) hs hb hz c3 c4' c2 hs' hx' h
   ·cases hc
  ·cases hc
 ·rename_i t ts' d s ht hx
  have e2:=Yay hx
  subst e2
  simp only[builtin,Yss,Yrj,Yta]
  split at hc
  ·rename_i e hu
   split at hc
   ·rename_i n' d' s' hs hd hs'
    simp only[Yqc]at hc;subst hc
    exact Yj1 (call:=call) hh hr (by rw[←Yrv,ht];rfl) hu hs hd hs' h
   ·cases hc
  ·cases hc
 ·rename_i t s ht hx
  have e1:=Zkl ht
  have e2:=Zkl hx
  subst e1 e2
  simp only[builtin,Yss,Yrj,Yta]
  split at hc
  ·rename_i e hu
   split at hc
   ·rename_i n' z s' hs hz hs'
    split at hc
    ·rename_i hone
     simp only[Yqc]at hc;subst hc
     exact Yfl (call:=call) hh hr hu hz hone hs' h
    ·cases hc
   ·cases hc
  ·cases hc
 ·rename_i t s ht hx
  have e1:=Zkl ht
  have e2:=Zkl hx
  subst e1 e2
  simp only[builtin,Yss,Yrj,Yta]
  simp only[Yql]at hc
  obtain⟨s',hs,rfl⟩:=hc
  exact Ydm (call:=call) hh hr hs h
 ·rename_i t s ht hx
  have e1:=Zkl ht
  have e2:=Zkl hx
  subst e1 e2
  simp only[builtin,Yss,Yrj,Yta]
  simp only[Yql]at hc
  obtain⟨s',hs,rfl⟩:=hc
  exact Ym2 (call:=call) hh hr hs h
 ·rename_i t s ht hx
  have e1:=Zkl ht
  have e2:=Zkl hx
  subst e1 e2
  simp only[builtin,Yss,Yrj,Yta]
  simp only[Yql]at hc
  obtain⟨s',hs,rfl⟩:=hc
  exact Yn1 (call:=call) hh hr hs h
 ·rename_i t u x y ht hx
  have e1:=Yay ht
  have e2:=Yay hx
  subst e1 e2
  simp only[builtin,Yss,Yrj,Yta]
  split at hc
  ·rename_i e hu
   split at hc
   ·rename_i s q hs hx hy
    simp only[Yqc]at hc;subst hc
    exact Yhd (call:=call) hh hr hu hs hx hy h
   ·cases hc
  ·cases hc
 ·cases hc
def Ylh(hh:Za7 P μ w st)(hr:RR μ r n a.tmps)(hE:Zej P){o:Oper}{m:MOp}(hc:Ykw P o.op=some m)(hn:m.isCall=false)(h:mop m call r st=some (v,st')):
  Za3 P μ w st (execOp a.eval o) v st':=by
 obtain⟨dst,op,ty,pos,af,g⟩:=o
 cases op<;>simp only[Ykw]at hc<;>try (cases hc;done)
 case move x=>simp only[Yql]at hc;obtain⟨s,h1,rfl⟩:=hc;exact Ygh (call:=call) hh hr h1 h
 case assign x=>simp only[Yql]at hc;obtain⟨s,h1,rfl⟩:=hc;exact Ygh (call:=call) hh hr h1 h
 case pick c x y=>
  split at hc
  ·rename_i h1 h2 h3
   simp only[Yqc]at hc;subst hc
   exact Yic (call:=call) hh hr h1 h2 h3 h
  ·cases hc
 case alloc e=>
  split at hc
  ·rename_i z hz
   split at hc
   ·rename_i hone
    simp only[Yqc]at hc;subst hc
    exact Yfv (call:=call) (r:=r) hh hz hone h
   ·cases hc
  ·cases hc
 case box e x=>simp only[Yql]at hc;obtain⟨s,h1,rfl⟩:=hc;exact Yme (call:=call) hh hr h1 h
 case build t parts=>
  split at hc
  ·cases hc
  ·rename_i z hz
   split at hc
   ·rename_i fs hfs
    split at hc
    ·rename_i pl hpl
     simp only[Yql]at hc
     obtain⟨cps,h1,rfl⟩:=hc
     exact Znb (call:=call) hh hr hz hfs hpl h1 h
    ·cases hc
   ·rename_i k e hu
    split at hc
    ·rename_i s hs
     simp only[Yql]at hc
     obtain⟨cps,h1,rfl⟩:=hc
     exact Znn (call:=call) hh hr hz hu hs h1 h
    ·cases hc
   ·cases hc
 case buildSlice t len parts=>
  split at hc
  ·rename_i e hu
   split at hc
   ·rename_i s z hs hz
    split at hc
    ·cases hc
    ·rename_i hcond
     simp only[not_or,Decidable.not_not]at hcond
     simp only[Yql]at hc
     obtain⟨cps,h1,rfl⟩:=hc
     exact Ycl (call:=call) hh hr hu hs hz hcond.1 hcond.2.1 h1 h
   ·cases hc
  ·cases hc
 case load t x=>
  split at hc
  ·rename_i h1 h2
   simp only[Yqc]at hc;subst hc
   exact Yi5 (call:=call) hh hr h1 h2 h
  ·cases hc
 case store t x y=>
  split at hc
  ·rename_i h1 h2 h3
   simp only[Yqc]at hc;subst hc
   exact Ydg (call:=call) hh hr h1 h2 h3 h
  ·cases hc
 case nilCheck x=>simp only[Yql]at hc;obtain⟨s,h1,rfl⟩:=hc;exact Yea (call:=call) hh hr h1 h
 case binOp op t x y p=>
  split at hc
  ·rename_i s u h1 h2
   split at hc
   ·rename_i hflt
    simp only[Yqc]at hc;subst hc
    exact Yjm (call:=call) hh hr h1 h2 h
   have fin:∀q ng,Ykq P op t x y q ng→m=.bin op q ng s u→Za3 P μ w st (execOp a.eval ⟨dst,.binOp op t x y p,ty,pos,af,g⟩) v st':=by
    intro q ng hq hm
    subst hm
    exact Ymf (call:=call) hh hr h1 h2 hq h
   cases op
   case eql=>
    simp only at hc
    split at hc
    ·rename_i q hq
     rw[Ysk]at hc
     obtain⟨hcond,hc⟩:=hc
     simp only[Yqc]at hc
     exact fin _ _ (fun _=>⟨hq,by rw[Bool.not_eq_true]at hcond;exact hcond,rfl⟩) hc.symm
    ·cases hc
   case neq=>
    simp only at hc
    split at hc
    ·rename_i q hq
     rw[Ysk]at hc
     obtain⟨hcond,hc⟩:=hc
     simp only[Yqc]at hc
     exact fin _ _ (fun _=>⟨hq,by rw[Bool.not_eq_true]at hcond;exact hcond,rfl⟩) hc.symm
    ·cases hc
   all_goals
    simp only[Yqc]at hc
    exact fin _ _ (fun hq=>by rcases hq with hq|hq<;>cases hq) hc.symm
  ·cases hc
 case unOp op t x=>simp only[Yql]at hc;obtain⟨s,h1,rfl⟩:=hc;exact Ymx (call:=call) hh hr h1 h
 case convert src dst' x=>
  split at hc
  ·cases hc
  ·rename_i s h1
   split at hc
   ·rename_i q k hq hk
    simp only[Yqc]at hc;subst hc
    exact Zx6 (call:=call) hh hr ⟨_,hq⟩ hk h1 h
   ·rename_i q k hq hk
    simp only[Yqc]at hc;subst hc
    exact Yjo (call:=call) hh hr hq hk h1 h
   ·rename_i hq hk
    simp only[Yqc]at hc;subst hc
    exact Zx5 (call:=call) hh hr hq hk h1 h
   ·rename_i e hq hk
    split at hc
    ·rename_i he
     simp only[Yqc]at hc;subst hc
     exact Zr4 (call:=call) hh hr hq hk he h1 h
    ·cases hc
   ·rename_i e hq hk
    split at hc
    ·rename_i he
     simp only[Yqc]at hc;subst hc
     exact Ztp (call:=call) hh hr hq hk he h1 h
    ·cases hc
   ·rename_i t hq hk
    split at hc
    ·rename_i z hz
     simp only[Yqc]at hc;subst hc
     exact Zyo (call:=call) hh hr hq hk hz h1 h
    ·cases hc
   ·rename_i u hq hk
    split at hc
    ·rename_i z hz
     simp only[Yqc]at hc;subst hc
     exact Zry (call:=call) hh hr hq hk hz h1 h
    ·cases hc
   ·cases hc
 case makeInterface t x=>
  split at hc
  ·cases hc
  ·rename_i d hne hd
   simp only[Yql]at hc;obtain⟨s,h1,rfl⟩:=hc
   exact Zw0 (call:=call) hh hr hd (fun k hk=>hne k hk) h1 h
  ·cases hc
 case makeFunc f first caps=>
  cases f<;>simp only[reduceCtorEq]at hc
  split at hc
  ·rename_i h1 h2
   simp only[Yqc]at hc;subst hc
   exact Yal (call:=call) hh hr h1 h2 h
  ·cases hc
 case makeMap t rsv=>
  cases rsv<;>simp only[reduceCtorEq]at hc
  simp only[Yqc]at hc;subst hc
  exact Yek (call:=call) (r:=r) hh h
 case makeChan t x=>
  split at hc
  ·rename_i d e hu
   split at hc
   ·rename_i hb hx
    simp only[Yqc]at hc;subst hc
    exact Yam (call:=call) hh hr hu hb hx h
   ·cases hc
  ·cases hc
 case makeSlice t x y=>
  split at hc
  ·rename_i e hu
   split at hc
   ·rename_i hs hb hz hx hy
    split at hc
    ·rename_i hone
     simp only[Yqc]at hc;subst hc
     exact Zwz (call:=call) hh hr hu hs hb hz hone hx hy h
    ·cases hc
   ·cases hc
  ·cases hc
 case slice t x lo hi mx=>
  split at hc
  ·rename_i hx hlo hhi hmx
   split at hc
   ·rename_i hu
    split at hc
    ·cases hc
    ·rename_i hnone
     simp only[Yqc]at hc;subst hc
     have hm:mx=none:=by
      cases mx with
      |none=>rfl
      |some q=>
       simp only[Zpt]at hmx
       split at hmx
       ·simp only[Yqc]at hmx
        subst hmx;simp at hnone
       ·cases hmx
     subst hm
     exact Zr7 (call:=call) hh hr hu hx hlo hhi h
   ·rename_i e hu
    simp only[Yql]at hc;obtain⟨s,h1,rfl⟩:=hc
    exact Zv2 (call:=call) hh hr hu h1 hx hlo hhi hmx h
   ·rename_i k e hu
    simp only[Yql]at hc;obtain⟨s,h1,rfl⟩:=hc
    exact Zr8 (call:=call) hh hr hu h1 hx hlo hhi hmx h
   ·cases hc
  ·cases hc
 case fieldAddr t x i=>
  split at hc
  ·rename_i hu hx
   split at hc
   ·rename_i f hf
    split at hc
    ·rename_i hk
     simp only[Yqc]at hc;subst hc
     exact Ye2 (call:=call) hh hr hu hf hk hx h
    ·cases hc
   ·cases hc
  ·cases hc
 case field t x i=>
  split at hc
  ·rename_i hu hx
   split at hc
   ·rename_i f hf
    simp only[Yql]at hc;obtain⟨s,h1,rfl⟩:=hc
    exact Ye1 (call:=call) hh hr hu hf h1 hx h
   ·cases hc
  ·cases hc
 case indexAddr t x i=>
  split at hc
  ·rename_i hu hx hi
   simp only[Yql]at hc;obtain⟨s,h1,rfl⟩:=hc
   exact Zte (call:=call) hh hr hu h1 hx hi h
  ·rename_i hu hx hi
   simp only[Yql]at hc;obtain⟨s,h1,rfl⟩:=hc
   exact Zxq (call:=call) hh hr hu h1 hx hi h
  ·cases hc
 case index t x i=>
  split at hc
  ·rename_i hu hx hi
   split at hc
   ·rename_i hs ha
    simp only[Yqc]at hc;subst hc
    exact Yba (call:=call) hh hr hu hs ha hx hi h
   ·cases hc
  ·rename_i hu hx hi
   simp only[Yqc]at hc;subst hc
   exact Ya8 (call:=call) hh hr hu hx hi h
  ·cases hc
 case lookup t x k ok=>
  split at hc
  ·rename_i hu hx hk
   split at hc
   ·rename_i h1 h2
    simp only[Yqc]at hc;subst hc
    exact Yat (call:=call) hh hr hu h1 h2 hx hk h
   ·cases hc
  ·cases hc
 case mapUpdate t x k y=>
  split at hc
  ·rename_i hu hx hk hy
   simp only[Yql]at hc;obtain⟨s,h1,rfl⟩:=hc
   exact Zqu (call:=call) hh hr hu h1 hx hk hy h
  ·cases hc
 case insert t x k y=>
  split at hc
  ·rename_i hu hx hk hy
   simp only[Yql]at hc;obtain⟨s,h1,rfl⟩:=hc
   exact Zqu (call:=call) hh hr hu h1 hx hk hy h
  ·cases hc
 case range t x=>
  split at hc
  ·rename_i hu hx
   simp only[Yqc]at hc;subst hc
   exact Zsj (call:=call) hh hr hu hx h
  ·cases hc
 case next it isS=>
  cases isS<;>simp only[reduceCtorEq]at hc
  simp only[Yql]at hc;obtain⟨s,h1,rfl⟩:=hc
  exact Zwm (call:=call) hh hr h1 h
 case extract x i=>simp only[Yql]at hc;obtain⟨s,h1,rfl⟩:=hc;exact Zxv (call:=call) hh hr h1 h
 case call c=>
  obtain⟨callee,args,ats⟩:=c
  cases callee with
  |invoke r' nm=>simp only[Zrk,reduceCtorEq]at hc
  |builtin b=>
   have:=Ztq (ty:=ty) (cs:=args.map fun|.const _=>true|_=>false) hh hr hc h
   obtain⟨nx,x,w',μ',ws,k1,k2⟩:=this
   refine⟨nx,x,w',μ',ws,?_,k2⟩
   rw[←k1]
   simp[execOp,resolve,invoke]
   rfl
  |value f=>
   simp only[Zrk]at hc
   split at hc
   ·cases hc
   ·rename_i ss hss
    cases f<;>simp only at hc
    case func gid=>
     split at hc
     ·rename_i fn hfn
      split at hc
      ·simp only[Yqc]at hc;subst hc;simp[MOp.isCall]at hn
      ·rename_i hb
       split at hc
       ·rename_i e he
        simp only[Yqc]at hc;subst hc
        have:=Yl5 (call:=call) hh hr hE hfn (by simpa using hb) he hss h
        obtain⟨nx,x,w',μ',ws,k1,k2⟩:=this
        refine⟨nx,x,w',μ',ws,?_,k2⟩
        rw[←k1]
        have e0:(⟨List.map a.eval args.toList⟩:Array Value)=args.map a.eval:=by apply Ytm;simp
        rw[e0]
        simp[execOp,resolve,invoke,Deferred.ofValue,Act.eval]
       ·cases hc
     ·cases hc
    all_goals
     split at hc
     ·simp only[Yqc]at hc;subst hc;simp[MOp.isCall]at hn
     ·cases hc
end
abbrev FE(lb:Option Nat):Fence:={Fence.wide with round:=lb}
def Yh3(R:Value→World→Prop):Ending→World→Prop
 |.returned x,w=>R x w
 |_,_=>False
def Zj7(P:Program)(y:Bool)(G:Value)(xs:Array Value)(w:World)(R:Value→World→Prop):Prop:=
 (∃d,(Deferred.ofValue G xs).run P w=.ok d w∧
  ((y=false∧∃f args,(invoke d.target d.args).run P w=.ok (.enter f args) w∧CallsIn Fence.wide 0 P f args w (Yh3 R))∨
     (y=true∧∃l f tmps asg bod,(invoke d.target d.args).run P w=.ok (.round l f tmps asg bod) w∧RoundIn Fence.wide 0 P l f tmps asg bod w (Yh3 R))))
def Zbv(P:Program)(call:Za0):Prop:=
 ∀(g:V) (args:List V) (st:St) (v:V) (st':St),call g args st=some (v,st')→∀(μ:Mu) (w:World) (G:Value) (xs:List Value),Za7 P μ w st→VR μ g G→VRs μ args xs→
  Zj7 P g.isY G ⟨xs⟩ w fun x w'=>∃μ' ws,VR μ' v x∧Stp P μ w st μ' w' st' ws
def Znp(μ:Mu):List Nat→List Deferred→Prop
 |[],ds=>ds=[]
 |m::ms,ds=>∃l ds',μ m=some l∧ds={target:=.collected l.b,args:=#[]}::ds'∧Znp μ ms ds'
def Znp.mono{μ μ':Mu}(h:∀i l,μ i=some l→μ' i=some l):∀{ms:List Nat} {ds:List Deferred},Znp μ ms ds→Znp μ' ms ds
 |[],_,hd=>hd
 |_::_,_,⟨l,ds',h1,h2,h3⟩=>⟨l,ds',h _ _ h1,h2,Znp.mono h h3⟩
def FrR(μ:Mu)(fr:Fr)(a:Act):Prop:=RR μ fr.r fr.n a.tmps∧Znp μ fr.marks a.defers
def FrR.mono{μ μ':Mu}(h:∀i l,μ i=some l→μ' i=some l){fr:Fr}{a:Act}(hf:FrR μ fr a):FrR μ' fr a:=⟨hf.1.mono h,hf.2.mono h⟩
section
variable {P:Program} {μ:Mu} {w:World} {st st':St} {fr fr':Fr} {a:Act} {call:Za0} {v:V} {lb:Option Nat}
def Stp.mono{μ':Mu}{w':World}{ws:List Nat}(hh:Za7 P μ w st)(h:Stp P μ w st μ' w' st' ws):∀i l,μ i=some l→μ' i=some l:=Za7.ext_of hh h.ext
def FrR.put(hf:FrR μ fr a){d:Option Nat}{x:Value}(hv:VR μ v x)(h:fr.put d v=some fr'):FrR μ fr' (a.put d x):=by
 cases d with
 |none=>
  simp only[Fr.put,Yqc]at h;subst h
  exact hf
 |some d=>
  simp only[Fr.put]at h
  split at h
  ·rename_i hd
   simp only[Yqc]at h;subst h
   exact⟨hf.1.set hd hv,hf.2⟩
  ·cases h
def Yih(hcall:Zbv P call)(hE:Zej P)(hh:Za7 P μ w st)(hf:FrR μ fr a){o:Oper}(h:mop (cOp P o.op) call fr.r st=some (v,st')){K:Act→World→Prop}{Q:Exit→Act→World→Prop}
  (hK:∀x w' μ' ws,VR μ' v x→Stp P μ w st μ' w' st' ws→K (a.put o.dst x) w'):o.wpIn (FE lb) 0 P a w K Q:=by
 refine⟨fun _ _=>trivial,?_⟩
 have hnd:∀c,o.op≠.defer c:=by
  intro c hc
  rw[hc]at h
  simp only[cOp,Ykw,Option.getD_none]at h
  cases h
 show o.uponIn (FE lb) 0 P a K Q ((o.semAt lb a.eval).run P w)
 rw[Oper.semAt_eq _ _ _ hnd]
 cases hc:Ykw P o.op with
 |none=>
  simp only[cOp,hc,Option.getD_none]at h
  cases h
 |some m=>
  simp only[cOp,hc,Option.getD_some]at h
  by_cases hn:m.isCall=true
  ·-- a call
   obtain⟨dst,op,ty,pos,af,g⟩:=o
   cases m<;>simp only[MOp.isCall,Yqm]at hn
   rename_i sf ss
   have hop:∃c f,op=.call c∧c.callee=.value f∧Zba P f=some sf∧Ziw P c.args.toList=some ss:=by
    cases op<;>simp only[Ykw]at hc<;>try (cases hc;done)
    case call c=>
     obtain⟨callee,args,ats⟩:=c
     cases callee with
     |invoke r' nm=>simp only[Zrk,reduceCtorEq]at hc
     |builtin b=>
      exfalso
      simp only[Zrk]at hc
      repeat' split at hc
      all_goals first|(cases hc;done)|(simp at hc;done)
     |value f=>
      simp only[Zrk]at hc
      split at hc
      ·cases hc
      ·rename_i ss' hss
       refine⟨_,f,rfl,rfl,?_⟩
       cases f<;>simp only at hc
       case func gid=>
        split at hc
        ·split at hc
         ·simp only[Yqc,MOp.call.injEq]at hc
          obtain⟨rfl,rfl⟩:=hc
          exact⟨rfl,hss⟩
         ·split at hc
          ·simp at hc
          ·cases hc
        ·cases hc
       all_goals
        split at hc
        ·rename_i h1
         simp only[Yqc,MOp.call.injEq]at hc
         obtain⟨rfl,rfl⟩:=hc
         exact⟨h1,hss⟩
        ·cases hc
    all_goals
     exfalso
     repeat' split at hc
     all_goals first|(cases hc;done)|contradiction|(simp at hc;done)|(rw[Ysk]at hc;simp at hc;done)
   obtain⟨c,f,rfl,hcal,h1,h2⟩:=hop
   have h':Zeg sf ss call fr.r st=some (v,st'):=h
   unfold Zeg at h'
   split at h'
   ·rename_i gv l hg hl
    have hG:=Zap hh hf.1 h1 hg
    have hX:=Zez hh hf.1 h2 hl
    obtain⟨d,hd,hrest⟩:=hcall _ _ _ _ _ h' μ w _ _ hh hG hX
    have e0:(⟨List.map a.eval c.args.toList⟩:Array Value)=c.args.map a.eval:=by apply Ytm;simp
    rw[e0]at hd
    have hres:(resolve a.eval c ty).run P w=.ok d w:=by
     simp only[resolve,hcal]
     exact hd
    rcases hrest with⟨_,g',args,hinv,hci⟩|⟨_,l',g',tmps,asg,bod,hinv,hri⟩
    ·have hrun:(execOp a.eval ⟨dst,.call c,ty,pos,af,g⟩).run P w=.ok (.enter g' args) w:=by
      simp only[execOp,Sem.run_bind,hres,Result.andThen_ok,hinv]
     rw[hrun,Oper.uponIn_enter]
     refine⟨fun hx=>by simp[Fence.wide]at hx,?_⟩
     refine CallsIn.mono (F:=Fence.wide) hci fun e w' he=>?_
     cases e with
     |returned x=>
      obtain⟨μ',ws,q1,q2⟩:=he
      exact hK x w' μ' ws q1 q2
     |panicked _=>exact he.elim
     |outgrown=>exact he.elim
    ·have hrun:(execOp a.eval ⟨dst,.call c,ty,pos,af,g⟩).run P w=.ok (.round l' g' tmps asg bod) w:=by
      simp only[execOp,Sem.run_bind,hres,Result.andThen_ok,hinv]
     rw[hrun,Oper.uponIn_round]
     refine⟨fun hx=>by simp[Fence.wide]at hx,?_⟩
     refine RoundIn.mono (F:=Fence.wide) hri fun e w' he=>?_
     cases e with
     |returned x=>
      obtain⟨μ',ws,q1,q2⟩:=he
      exact hK x w' μ' ws q1 q2
     |panicked _=>exact he.elim
     |outgrown=>exact he.elim
   ·cases h'
  ·obtain⟨nx,x,w',μ',ws,k1,k2,k3,k4⟩:=Ylh hh hf.1 hE hc (by simpa using hn) h
   rw[k1]
   rcases k2 with rfl|⟨rfl,rfl⟩
   ·rw[Oper.uponIn_value];exact hK x w' μ' ws k3 k4
   ·rw[Oper.uponIn_skip];exact hK undef w' μ' ws k3 k4
def Znr{ops:Array Oper}{o:Oper}{g:Option (Nat×Bool)}(hr:RR μ fr.r fr.n a.tmps)(hg:Zm6 ops o.guard=some g){b:Bool}(h:wantedV fr.r g=some b):Region.wanted o (yielded ops a.tmps)=b:=by
 unfold Region.wanted
 cases ho:o.guard with
 |none=>
  rw[ho]at hg
  simp only[Zm6,Yqc]at hg;subst hg
  simp only[wantedV,Yqc]at h
  exact h
 |some p=>
  obtain⟨j,want⟩:=p
  rw[ho]at hg
  simp only[Zm6]at hg
  split at hg
  ·rename_i t ht
   simp only[Yqc]at hg;subst hg
   simp only[wantedV]at h
   split at h
   ·rename_i b' hb
    simp only[Yqc]at h;subst h
    obtain⟨x,hx,hv⟩:=hr.2 _ _ hb
    simp only[VR]at hv
    subst hv
    simp[yielded,ht,hx]
   ·rename_i l hb
    simp only[Yqc]at h;subst h
    obtain⟨x,hx,y,hv,_⟩:=hr.2 _ _ hb
    subst hv
    simp[yielded,ht,hx]
   ·cases h
  ·cases hg
end
end Go.Mx
