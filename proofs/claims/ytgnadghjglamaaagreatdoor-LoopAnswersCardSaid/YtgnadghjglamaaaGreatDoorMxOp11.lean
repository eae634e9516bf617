/-The operations of M stand for the Go mod-/
import Derived.Test.YtgnadghjglamaaaGreatDoorMxOp10
import Derived.Lib.Builder
import Derived.Lib.UnsafeStr
import Derived.RangeFuncRecord
import Derived.OrdersIn
set_option linter.all false
namespace Go.Mx
open Go
section
variable {P:Program} {μ:Mu} {w:World} {st st':St} {r:T V} {n:Nat} {a:Act} {call:Za1} {v:V}
def Zil{b:Nat}{c:Array Value}{e:TypeId}{f:Nat×Nat}(h:w.heap[b]?=some (.cells c e f)):w.shape? b=some (e,c.size):=by
 simp[World.shape?,h]
def Zki{t:TypeId}{z:Nat}(h:Zbt P t=some z):P.cellsOf t=z:=by
 unfold Zbt at h
 simp[Program.cellsOf,h]
def Zox{t:TypeId}{z:Nat}(h:Zbt P t=some z):∃j,P.info? t=some j∧j.size=z:=by
 unfold Zbt at h
 simp only[Yr0]at h
 exact h
def Zt0{u:TypeId}{z:Nat}(hc:P.cellsOf u=z+1)(count:Nat)(hn:1≤count):liesAt P P.depth u count 0 u 1=true:=by
 have hd:P.depth=(2*(P.types.size+Made.depth)+1)+1:=rfl
 rw[hd]
 simp only[liesAt,Yu6]
 left
 rw[hd]
 simp[rowAt,hc,sameLayout]
 left;omega
def Zzn(hh:Zba P μ w st)(hr:RR μ r n a.tmps){src dst t:TypeId}{x:Operand}{s:Src}{z:Nat}(hs:P.underlying src=some (.pointer t))(hd:P.underlying dst=some .unsafePointer)(hz:Zbt P t=some (z+1))
  (hx:Zbe P x=some s) (h:Zju none s call r st=some (v,st')):Za4 P μ w st (do pure (.value (←convert src dst (a.eval x)))) v st':=by
 unfold Zju at h
 split at h
 ·rename_i i hm
  obtain⟨l,hl,h1⟩:=Zar hh hr hx hm
  split at h
  ·rename_i c e' hrow
   simp only[]at h
   split at h
   ·rename_i hlt
    simp only[Yrs,Yrv]at h
    obtain⟨rfl,rfl⟩:=h
    obtain⟨c',lo,hi,g1,g2,g3,_,_,g6⟩:=hh.row hl hrow
    have hd0:=(g6 rfl).1
    obtain⟨j,hj,hjs⟩:=Zox hz
    refine Za4.value hh (x:=.pointer (some ⟨l.b,l.d+0,none⟩)) ?_ ⟨l,hl,rfl⟩
    rw[h1]
    exact Go.Lib.run_to_unsafe w ⟨l.b,l.d+0,none⟩ hs hd hj (by omega) (Zil g1) (by show l.d+0<c'.size;omega)
   ·cases h
  ·cases h
 ·cases h
def Zsl(hh:Zba P μ w st)(hr:RR μ r n a.tmps){src dst u:TypeId}{x:Operand}{s:Src}{z:Nat}(hs:P.underlying src=some .unsafePointer)(hd:P.underlying dst=some (.pointer u))(hz:Zbt P u=some (z+1))
  (hx:Zbe P x=some s) (h:Zju (some (u,z+1)) s call r st=some (v,st')):Za4 P μ w st (do pure (.value (←convert src dst (a.eval x)))) v st':=by
 unfold Zju at h
 split at h
 ·rename_i i hm
  obtain⟨l,hl,h1⟩:=Zar hh hr hx hm
  split at h
  ·rename_i c e' hrow
   simp only[]at h
   split at h
   ·rename_i hlt
    obtain⟨rfl,_,hle⟩:=hlt
    simp only[Yrs,Yrv]at h
    obtain⟨rfl,rfl⟩:=h
    obtain⟨c',lo,hi,g1,g2,g3,_,_,g6⟩:=hh.row hl hrow
    have hd0:=(g6 rfl).1
    obtain⟨j,hj,hjs⟩:=Zox hz
    have hco:=Zki hz
    refine Za4.value hh (x:=.pointer (some ⟨l.b,l.d+0,none⟩)) ?_ ⟨l,hl,rfl⟩
    rw[h1]
    refine Go.Lib.run_from_unsafe w ⟨l.b,l.d+0,none⟩ hs hd hj (Zil g1) ?_
    show liesAt P P.depth e' (c'.size/P.cellsOf e') (l.d+0) e' 1=true
    rw[hd0]
    refine Zt0 hco _ ?_
    rw[hco]
    exact Nat.div_pos (by omega) (by omega)
   ·cases h
  ·cases h
 ·cases h
def Yes(hh:Zba P μ w st)(hr:RR μ r n a.tmps){ts:Array TypeId}{ty:TypeId}{x:Operand}{s:Src}
  (hx:Zbe P x=some s) (h:Zhw s call r st=some (v,st')):Za4 P μ w st (do pure (.value (←Builtin.unsafeSliceData_ ts ty #[a.eval x]))) v st':=by
 unfold Zhw at h
 split at h
 ·rename_i i o len cap sz hm
  obtain⟨l,c,hl,h1,hlc,_⟩:=Zar hh hr hx hm
  split at h
  ·rename_i hlt
   simp only[Yrs,Yrv]at h
   obtain⟨rfl,rfl⟩:=h
   refine Za4.value hh (x:=.pointer (some ⟨l.b,l.d+o,none⟩)) ?_ ⟨l,hl,rfl⟩
   rw[h1]
   exact Go.Lib.run_unsafeSliceData_row w ts ty _ _ _ (by omega)
  ·cases h
 ·cases h
def Znp:∀{vs:List V} {s:List UInt8},Znq vs=some s→vs.length=s.length∧∀(j:Nat) (b:UInt8),s[j]?=some b→vs[j]?=some (.int .u8 b.toNat)
 |[],s,h=>by
  simp only[Znq,Yrs]at h;subst h
  exact⟨rfl,fun j b hb=>by simp at hb⟩
 |v::vs,s,h=>by
  simp only[Znq]at h
  split at h
  ·rename_i b s' hb hs
   simp only[Yrs]at h;subst h
   obtain⟨h1,h2⟩:=Znp hs
   refine⟨by simp[h1],fun j c hc=>?_⟩
   cases j with
   |zero=>
    simp only[Yth,Yrs]at hc;subst hc
    cases v<;>simp only[Ygy,reduceCtorEq]at hb
    rename_i k m
    cases k<;>simp only[reduceCtorEq]at hb
    split at hb
    ·rename_i hm
     simp only[Yrs]at hb;subst hb
     simp only[Yth,Yrs,V.int.injEq,true_and]
     have:m.toNat<256:=by omega
     simp[Nat.toUInt8]
     omega
    ·cases hb
   |succ j=>
    simp only[Ytv]at hc ⊢
    exact h2 j c hc
  ·cases h
def Yim(hh:Zba P μ w st)(hr:RR μ r n a.tmps){pt it ty e:TypeId}{x y:Operand}{s q:Src}(hp:P.underlying pt=some (.pointer e))(hz:Zbt P e=some 1)(hx:Zbe P x=some s)(hy:Zbe P y=some q)
  (h:Zkx e s q call r st=some (v,st')):Za4 P μ w st (do pure (.value (←Builtin.unsafeString_ #[pt,it] ty #[a.eval x,a.eval y]))) v st':=by
 unfold Zkx at h
 split at h
 ·rename_i i k hm hq
  obtain⟨l,hl,h1⟩:=Zar hh hr hx hm
  have h2:=Zar hh hr hy hq
  simp only[VR]at h2
  split at h
  ·rename_i hk
   split at h
   ·rename_i c e' hrow
    split at h
    ·rename_i he
     subst he
     split at h
     ·rename_i seg hseg
      split at h
      ·rename_i str hstr
       simp only[Yrs,Yrv]at h
       obtain⟨rfl,rfl⟩:=h
       obtain⟨c',lo,hi,g1,g2,g3,g4,g5,g6⟩:=hh.row hl hrow
       have hd0:=(g6 rfl).1
       obtain⟨b1,b2⟩:=Znp hstr
       obtain⟨xs,hxs,hxl,hload,hcell,_⟩:=(hh.row hl hrow).seg hseg
       have hsl:str.length=k.toNat:=by have:=hxs.length;omega
       have hle:k.toNat≤c.length:=by
        unfold slc at hseg
        split at hseg
        ·omega
        ·cases hseg
       have hkn:k=(str.length:Int):=by omega
       have hne:str≠[]:=by intro h0;rw[h0]at hsl;simp at hsl;omega
       have hcells:∀(j:Nat) (b:UInt8),str[j]?=some b→w.cell? ((⟨l.b,0,none⟩:Addr).add j)=some (.int .u8 b.toNat):=by
        intro j b hb
        have hv:=b2 j b hb
        obtain⟨y,hy1,hy2⟩:=hxs.get hv
        simp only[VR]at hy2
        subst hy2
        have:=hcell j _ hy1
        rw[Zci]
        rw[hd0,Yty]at this
        exact this
       have h63:str.length≤9223372036854775807:=by omega
       have hrun:=Go.Lib.run_unsafeString_row (P:=P) w pt it ty e' hp (Zki hz) l.b c'.size (Zil g1) str hne (by omega) h63 hcells
       have hw:Stp P μ w st μ (w.freeze ⟨l.b,0,none⟩ str.length) (st.write i (.cells c e' false)) [i]:=by
        have hn0:str.length≠0:=by simpa using hne
        have hfr:(w.freeze ⟨l.b,0,none⟩ str.length).heap[l.b]?=some (.cells c' e' (if lo==hi then (0,0+str.length) else (min lo 0,max hi (0+str.length)))):=by
         simp[World.freeze,hn0,Array.getElem?_modify,g1]
        obtain⟨lo',hi',hlh⟩:∃p q,(if lo==hi then (0,0+str.length) else (min lo 0,max hi (0+str.length)))=(p,q):=⟨_,_,rfl⟩
        rw[hlh]at hfr
        refine Stp.write hh hl (Zjr hrow) rfl ?_ ?_ ?_ ?_ ?_ ⟨c',lo',hi',hfr,g2,g3,g4,g5,fun hc=>by cases hc⟩
        ·simp[World.freeze,hn0]
        ·simp[World.freeze,hn0]
        ·simp[World.freeze,hn0]
        ·simp[World.freeze,hn0]
        ·intro b hb
         simp only[World.freeze,hn0,if_false,Array.getElem?_modify]
         rw[Yrt (fun h=>hb h.symm)]
       refine⟨.value (.string ⟨str.toArray⟩),_,_,μ,[i],?_,.inl rfl,rfl,hw⟩
       rw[h1,h2,hd0,hkn]
       simp[hrun,Result.andThen]
      ·cases h
     ·cases h
    ·cases h
   ·cases h
  ·cases h
 ·cases h
end
section
variable {P:Program} {μ:Mu} {w:World} {st st':St} {r:T V} {n:Nat} {a:Act} {call:Za1} {v:V}
def Zyo{op:BinOp}{t:TypeId}{k:FloatKind}{p q:Nat}{z:V}(h:Ycl op k p q=some z):∃y,(binOp op t (.float k p) (.float k q)).run P w=.ok y w∧VR μ z y:=by
 unfold Ycl at h
 cases op<;>simp only[reduceCtorEq]at h
 case add=> 
  simp only[Yr0]at h
  obtain⟨m,hm,rfl⟩:=h
  exact⟨.float k m,by simp[binOp,Op.floatArith,hm],by simp[VR]⟩
 case sub=> 
  simp only[Yr0]at h
  obtain⟨m,hm,rfl⟩:=h
  exact⟨.float k m,by simp[binOp,Op.floatArith,hm],by simp[VR]⟩
 case mul=> 
  simp only[Yr0]at h
  obtain⟨m,hm,rfl⟩:=h
  exact⟨.float k m,by simp[binOp,Op.floatArith,hm],by simp[VR]⟩
 case quo=> 
  simp only[Yr0]at h
  obtain⟨m,hm,rfl⟩:=h
  exact⟨.float k m,by simp[binOp,Op.floatArith,hm],by simp[VR]⟩
 all_goals
  simp only[Yrs]at h;subst h
  exact⟨_,by simp[binOp,Op.floatCmp];rfl,by simp[VR]⟩
def Ykr(hh:Zba P μ w st)(hr:RR μ r n a.tmps){op:BinOp}{t:TypeId}{x y:Operand}{s u:Src}(hx:Zbe P x=some s)(hy:Zbe P y=some u)
  (h:Zmt op s u call r st=some (v,st')):
  Za4 P μ w st (do pure (.value (←(do eqGuard op t x y (a.eval x) (a.eval y);binOp op t (a.eval x) (a.eval y):Sem Value)))) v st':=by
 unfold Zmt at h
 split at h
 ·rename_i k p k' q hs hu
  have h1:=Zar hh hr hx hs
  have h2:=Zar hh hr hy hu
  simp only[VR]at h1 h2
  rw[h1,h2]
  split at h
  ·rename_i e;subst e
   split at h
   ·rename_i z hz
    simp only[Yrs,Yrv]at h
    obtain⟨rfl,rfl⟩:=h
    obtain⟨y',h3,h4⟩:=Zyo (P:=P) (μ:=μ) (w:=w) (t:=t) hz
    exact Za4.value hh (Zf4 (Ze4 (by intro h;cases h) (by intro _ _ h;cases h)) h3) h4
   ·cases h
  ·cases h
 ·cases h
def Ykt(hh:Zba P μ w st)(hr:RR μ r n a.tmps){src dst:TypeId}{k:IntKind}{q:FloatKind}{x:Operand}{s:Src}(hs:P.underlying src=some (.float q))(hd:P.underlying dst=some (.int k))(hx:Zbe P x=some s)
  (h:Zmu k s call r st=some (v,st')):Za4 P μ w st (do pure (.value (←convert src dst (a.eval x)))) v st':=by
 unfold Zmu at h
 split at h
 ·rename_i q' b hm
  have he:=Zar hh hr hx hm
  simp only[VR]at he
  split at h
  ·rename_i m hmm
   split at h
   ·rename_i hb
    simp only[Yrs,Yrv]at h
    obtain⟨rfl,rfl⟩:=h
    exact Za4.value hh (x:=.int k m) (by simp[convert,run_underlying hs,run_underlying hd,he,Conv.floatToInt,hmm,hb]) (by simp[VR])
   ·cases h
  ·cases h
 ·cases h
def Yod(hh:Zba P μ w st)(hr:RR μ r n a.tmps){ts:Array TypeId}{ty:TypeId}{x:Operand}{s:Src}
  (hx:Zbe P x=some s) (h:Zio false s call r st=some (v,st')):Za4 P μ w st (do pure (.value (←Builtin.real_ ts ty #[a.eval x]))) v st':=by
 unfold Zio at h
 split at h
 ·rename_i k p q hm
  have he:=Zar hh hr hx hm
  simp only[VR]at he
  simp only[Yrs,Yrv]at h
  obtain⟨rfl,rfl⟩:=h
  exact Za4.value hh (x:=.float k p) (by rw[he];rfl) (by simp[VR])
 ·cases h
def Ypc(hh:Zba P μ w st)(hr:RR μ r n a.tmps){ts:Array TypeId}{ty:TypeId}{x:Operand}{s:Src}
  (hx:Zbe P x=some s) (h:Zio true s call r st=some (v,st')):Za4 P μ w st (do pure (.value (←Builtin.imag_ ts ty #[a.eval x]))) v st':=by
 unfold Zio at h
 split at h
 ·rename_i k p q hm
  have he:=Zar hh hr hx hm
  simp only[VR]at he
  simp only[Yrs,Yrv]at h
  obtain⟨rfl,rfl⟩:=h
  exact Za4.value hh (x:=.float k q) (by rw[he];rfl) (by simp[VR])
 ·cases h
end
section
variable {P:Program} {μ:Mu} {w:World} {st st':St} {r:T V} {n:Nat} {a:Act} {call:Za1} {v:V}
def MOp.isCall:MOp→Bool
 |.call _ _=>true
 |_=>false
def Zkz{α:Type}{a:Array α}{x:α}(h:a.toList=[x]):a=#[x]:=by
 apply Yu3;simpa using h
def Yb1{α:Type}{a:Array α}{x y:α}(h:a.toList=[x,y]):a=#[x,y]:=by
 apply Yu3;simpa using h
def Zun(hh:Zba P μ w st)(hr:RR μ r n a.tmps){b:Builtin}{ts:Array TypeId}{xs:Array Operand}{ty:TypeId}{cs:Array Bool}{m:MOp}(hc:Zr4 P ⟨.builtin b,xs,ts⟩=some m)
  (h:mop m call r st=some (v,st')):Za4 P μ w st (builtin b ts ty cs (xs.map a.eval)) v st':=by
 simp only[Zr4]at hc
 split at hc
 ·rename_i t x ht hx
  have e1:=Zkz ht
  have e2:=Zkz hx
  subst e1 e2
  simp only[builtin,Yuh,Ys1,Yua]
  split at hc
  ·rename_i s hu hs
   simp only[Yrs]at hc;subst hc
   exact Zx1 (call:=call) hh hr hu hs h
  ·rename_i e s hu hs
   simp only[Yrs]at hc;subst hc
   exact Zre (call:=call) hh hr hu hs h
  ·rename_i k e s hu hs
   simp only[Yrs]at hc;subst hc
   exact Zx2 (call:=call) hh hr hu hs h
  ·rename_i k e s hu
   simp only[Yrs]at hc;subst hc
   exact Zrf (call:=call) (r:=r) hh (.inl ⟨_,hu⟩) h
  ·rename_i u s hu
   split at hc
   ·rename_i k e hu2
    simp only[Yrs]at hc;subst hc
    exact Zrf (call:=call) (r:=r) hh (.inr ⟨_,_,hu,hu2⟩) h
   ·cases hc
  ·cases hc
 ·rename_i t x ht hx
  have e1:=Zkz ht
  have e2:=Zkz hx
  subst e1 e2
  simp only[builtin,Yuh,Ys1,Yua]
  split at hc
  ·rename_i e s hu hs
   simp only[Yrs]at hc;subst hc
   exact Ynh (call:=call) hh hr hu hs h
  ·cases hc
 ·split at hc
  ·rename_i l hl
   simp only[Yrs]at hc;subst hc
   exact Yo6 (call:=call) hh hr hl h
  ·cases hc
 ·split at hc
  ·rename_i l hl
   simp only[Yrs]at hc;subst hc
   exact Yo5 (call:=call) hh hr hl h
  ·cases hc
 ·rename_i t u s x ht hx
  have e1:=Yb1 ht
  have e2:=Yb1 hx
  subst e1 e2
  simp only[builtin,Yuh,Ys1,Yua]
  split at hc
  ·rename_i e hu
   split at hc
   ·rename_i n' b' z s' x' d hs hb hz hs' hx' hd
    rw[Yt4]at hc
    obtain⟨hcond,hc⟩:=hc
    simp only[not_or,Decidable.not_not]at hcond
    obtain⟨c1,c2,c3,c4⟩:=hcond
    simp only[Yrs]at hc;subst hc
    have c4':z.cells.all V.one=true:=by simpa using c4
    exact Ydq (call:=call) hh hr (by rfl) hu (by rfl) hd (fun k hk=>by subst hk;simp at c1) hs hb hz c3 c4' c2 hs' hx' h
   ·cases hc
  ·cases hc
 ·rename_i t ts' d s ht hx
  have e2:=Yb1 hx
  subst e2
  simp only[builtin,Yuh,Ys1,Yua]
  split at hc
  ·rename_i e hu
   split at hc
   ·rename_i n' d' s' hs hd hs'
    simp only[Yrs]at hc;subst hc
    exact Yk6 (call:=call) hh hr (by rw[←Ytf,ht];rfl) hu hs hd hs' h
   ·cases hc
  ·cases hc
 ·rename_i t s ht hx
  have e1:=Zkz ht
  have e2:=Zkz hx
  subst e1 e2
  simp only[builtin,Yuh,Ys1,Yua]
  split at hc
  ·rename_i e hu
   split at hc
   ·rename_i n' z s' hs hz hs'
    split at hc
    ·rename_i hone
     simp only[Yrs]at hc;subst hc
     exact Ygv (call:=call) hh hr hu hz hone hs' h
    ·cases hc
   ·cases hc
  ·cases hc
 ·rename_i t s ht hx
  have e1:=Zkz ht
  have e2:=Zkz hx
  subst e1 e2
  simp only[builtin,Yuh,Ys1,Yua]
  simp only[Yr0]at hc
  obtain⟨s',hs,rfl⟩:=hc
  exact Yes (call:=call) hh hr hs h
 ·rename_i t s ht hx
  have e1:=Zkz ht
  have e2:=Zkz hx
  subst e1 e2
  simp only[builtin,Yuh,Ys1,Yua]
  simp only[Yr0]at hc
  obtain⟨s',hs,rfl⟩:=hc
  exact Yod (call:=call) hh hr hs h
 ·rename_i t s ht hx
  have e1:=Zkz ht
  have e2:=Zkz hx
  subst e1 e2
  simp only[builtin,Yuh,Ys1,Yua]
  simp only[Yr0]at hc
  obtain⟨s',hs,rfl⟩:=hc
  exact Ypc (call:=call) hh hr hs h
 ·rename_i t u x y ht hx
  have e1:=Yb1 ht
  have e2:=Yb1 hx
  subst e1 e2
  simp only[builtin,Yuh,Ys1,Yua]
  split at hc
  ·rename_i e hu
   split at hc
   ·rename_i s q hs hx hy
    simp only[Yrs]at hc;subst hc
    exact Yim (call:=call) hh hr hu hs hx hy h
   ·cases hc
  ·cases hc
 ·cases hc
def Ymi(hh:Zba P μ w st)(hr:RR μ r n a.tmps)(hE:Zeo P){o:Oper}{m:MOp}(hc:Ylx P o.op=some m)(hn:m.isCall=false)(h:mop m call r st=some (v,st')):
  Za4 P μ w st (execOp a.eval o) v st':=by
 obtain⟨dst,op,ty,pos,af,g⟩:=o
 cases op<;>simp only[Ylx]at hc<;>try (cases hc;done)
 case move x=>simp only[Yr0]at hc;obtain⟨s,h1,rfl⟩:=hc;exact Yhp (call:=call) hh hr h1 h
 case assign x=>simp only[Yr0]at hc;obtain⟨s,h1,rfl⟩:=hc;exact Yhp (call:=call) hh hr h1 h
 case pick c x y=>
  split at hc
  ·rename_i h1 h2 h3
   simp only[Yrs]at hc;subst hc
   exact Yjh (call:=call) hh hr h1 h2 h3 h
  ·cases hc
 case alloc e=>
  split at hc
  ·rename_i z hz
   split at hc
   ·rename_i hone
    simp only[Yrs]at hc;subst hc
    exact Yg4 (call:=call) (r:=r) hh hz hone h
   ·cases hc
  ·cases hc
 case box e x=>simp only[Yr0]at hc;obtain⟨s,h1,rfl⟩:=hc;exact Ynj (call:=call) hh hr h1 h
 case build t parts=>
  split at hc
  ·cases hc
  ·rename_i z hz
   split at hc
   ·rename_i fs hfs
    split at hc
    ·rename_i pl hpl
     simp only[Yr0]at hc
     obtain⟨cps,h1,rfl⟩:=hc
     exact Zns (call:=call) hh hr hz hfs hpl h1 h
    ·cases hc
   ·rename_i k e hu
    split at hc
    ·rename_i s hs
     simp only[Yr0]at hc
     obtain⟨cps,h1,rfl⟩:=hc
     exact Zn7 (call:=call) hh hr hz hu hs h1 h
    ·cases hc
   ·cases hc
 case buildSlice t len parts=>
  split at hc
  ·rename_i e hu
   split at hc
   ·rename_i s z hs hz
    split at hc
    ·cases hc
    ·rename_i hcond
     simp only[not_or,Decidable.not_not]at hcond
     simp only[Yr0]at hc
     obtain⟨cps,h1,rfl⟩:=hc
     exact Ydo (call:=call) hh hr hu hs hz hcond.1 hcond.2.1 h1 h
   ·cases hc
  ·cases hc
 case load t x=>
  split at hc
  ·rename_i h1 h2
   simp only[Yrs]at hc;subst hc
   exact Yka (call:=call) hh hr h1 h2 h
  ·cases hc
 case store t x y=>
  split at hc
  ·rename_i h1 h2 h3
   simp only[Yrs]at hc;subst hc
   exact Yen (call:=call) hh hr h1 h2 h3 h
  ·cases hc
 case nilCheck x=>simp only[Yr0]at hc;obtain⟨s,h1,rfl⟩:=hc;exact Yfj (call:=call) hh hr h1 h
 case binOp op t x y p=>
  split at hc
  ·rename_i s u h1 h2
   split at hc
   ·rename_i hflt
    simp only[Yrs]at hc;subst hc
    exact Ykr (call:=call) hh hr h1 h2 h
   have fin:∀q ng,Ylu P op t x y q ng→m=.bin op q ng s u→Za4 P μ w st (execOp a.eval ⟨dst,.binOp op t x y p,ty,pos,af,g⟩) v st':=by
    intro q ng hq hm
    subst hm
    exact Ynk (call:=call) hh hr h1 h2 hq h
   cases op
   case eql=>
    simp only at hc
    split at hc
    ·rename_i q hq
     rw[Yt4]at hc
     obtain⟨hcond,hc⟩:=hc
     simp only[Yrs]at hc
     exact fin _ _ (fun _=>⟨hq,by rw[Bool.not_eq_true]at hcond;exact hcond,rfl⟩) hc.symm
    ·cases hc
   case neq=>
    simp only at hc
    split at hc
    ·rename_i q hq
     rw[Yt4]at hc
     obtain⟨hcond,hc⟩:=hc
     simp only[Yrs]at hc
     exact fin _ _ (fun _=>⟨hq,by rw[Bool.not_eq_true]at hcond;exact hcond,rfl⟩) hc.symm
    ·cases hc
   all_goals
    simp only[Yrs]at hc
    exact fin _ _ (fun hq=>by rcases hq with hq|hq<;>cases hq) hc.symm
  ·cases hc
 case unOp op t x=>simp only[Yr0]at hc;obtain⟨s,h1,rfl⟩:=hc;exact Yn6 (call:=call) hh hr h1 h
 case convert src dst' x=>
  split at hc
  ·cases hc
  ·rename_i s h1
   split at hc
   ·rename_i q k hq hk
    simp only[Yrs]at hc;subst hc
    exact Zy4 (call:=call) hh hr ⟨_,hq⟩ hk h1 h
   ·rename_i q k hq hk
    simp only[Yrs]at hc;subst hc
    exact Ykt (call:=call) hh hr hq hk h1 h
   ·rename_i hq hk
    simp only[Yrs]at hc;subst hc
    exact Zy3 (call:=call) hh hr hq hk h1 h
   ·rename_i e hq hk
    split at hc
    ·rename_i he
     simp only[Yrs]at hc;subst hc
     exact Zss (call:=call) hh hr hq hk he h1 h
    ·cases hc
   ·rename_i e hq hk
    split at hc
    ·rename_i he
     simp only[Yrs]at hc;subst hc
     exact Zum (call:=call) hh hr hq hk he h1 h
    ·cases hc
   ·rename_i t hq hk
    split at hc
    ·rename_i z hz
     simp only[Yrs]at hc;subst hc
     exact Zzn (call:=call) hh hr hq hk hz h1 h
    ·cases hc
   ·rename_i u hq hk
    split at hc
    ·rename_i z hz
     simp only[Yrs]at hc;subst hc
     exact Zsl (call:=call) hh hr hq hk hz h1 h
    ·cases hc
   ·cases hc
 case makeInterface t x=>
  split at hc
  ·cases hc
  ·rename_i d hne hd
   simp only[Yr0]at hc;obtain⟨s,h1,rfl⟩:=hc
   exact Zxw (call:=call) hh hr hd (fun k hk=>hne k hk) h1 h
  ·cases hc
 case makeFunc f first caps=>
  cases f<;>simp only[reduceCtorEq]at hc
  split at hc
  ·rename_i h1 h2
   simp only[Yrs]at hc;subst hc
   exact Ybn (call:=call) hh hr h1 h2 h
  ·cases hc
 case makeMap t rsv=>
  cases rsv<;>simp only[reduceCtorEq]at hc
  simp only[Yrs]at hc;subst hc
  exact Yfs (call:=call) (r:=r) hh h
 case makeChan t x=>
  split at hc
  ·rename_i d e hu
   split at hc
   ·rename_i hb hx
    simp only[Yrs]at hc;subst hc
    exact Ybo (call:=call) hh hr hu hb hx h
   ·cases hc
  ·cases hc
 case makeSlice t x y=>
  split at hc
  ·rename_i e hu
   split at hc
   ·rename_i hs hb hz hx hy
    split at hc
    ·rename_i hone
     simp only[Yrs]at hc;subst hc
     exact Zxv (call:=call) hh hr hu hs hb hz hone hx hy h
    ·cases hc
   ·cases hc
  ·cases hc
 case slice t x lo hi mx=>
  split at hc
  ·rename_i hx hlo hhi hmx
   split at hc
   ·rename_i hu
    split at hc
    ·cases hc
    ·rename_i hnone
     simp only[Yrs]at hc;subst hc
     have hm:mx=none:=by
      cases mx with
      |none=>rfl
      |some q=>
       simp only[Zqc]at hmx
       split at hmx
       ·simp only[Yrs]at hmx
        subst hmx;simp at hnone
       ·cases hmx
     subst hm
     exact Zsv (call:=call) hh hr hu hx hlo hhi h
   ·rename_i e hu
    simp only[Yr0]at hc;obtain⟨s,h1,rfl⟩:=hc
    exact Zw0 (call:=call) hh hr hu h1 hx hlo hhi hmx h
   ·rename_i k e hu
    simp only[Yr0]at hc;obtain⟨s,h1,rfl⟩:=hc
    exact Zsw (call:=call) hh hr hu h1 hx hlo hhi hmx h
   ·cases hc
  ·cases hc
 case fieldAddr t x i=>
  split at hc
  ·rename_i hu hx
   split at hc
   ·rename_i f hf
    split at hc
    ·rename_i hk
     simp only[Yrs]at hc;subst hc
     exact Yga (call:=call) hh hr hu hf hk hx h
    ·cases hc
   ·cases hc
  ·cases hc
 case field t x i=>
  split at hc
  ·rename_i hu hx
   split at hc
   ·rename_i f hf
    simp only[Yr0]at hc;obtain⟨s,h1,rfl⟩:=hc
    exact Yf9 (call:=call) hh hr hu hf h1 hx h
   ·cases hc
  ·cases hc
 case indexAddr t x i=>
  split at hc
  ·rename_i hu hx hi
   simp only[Yr0]at hc;obtain⟨s,h1,rfl⟩:=hc
   exact Zt4 (call:=call) hh hr hu h1 hx hi h
  ·rename_i hu hx hi
   simp only[Yr0]at hc;obtain⟨s,h1,rfl⟩:=hc
   exact Zyl (call:=call) hh hr hu h1 hx hi h
  ·cases hc
 case index t x i=>
  split at hc
  ·rename_i hu hx hi
   split at hc
   ·rename_i hs ha
    simp only[Yrs]at hc;subst hc
    exact Ycd (call:=call) hh hr hu hs ha hx hi h
   ·cases hc
  ·rename_i hu hx hi
   simp only[Yrs]at hc;subst hc
   exact Ycb (call:=call) hh hr hu hx hi h
  ·cases hc
 case lookup t x k ok=>
  split at hc
  ·rename_i hu hx hk
   split at hc
   ·rename_i h1 h2
    simp only[Yrs]at hc;subst hc
    exact Ybw (call:=call) hh hr hu h1 h2 hx hk h
   ·cases hc
  ·cases hc
 case mapUpdate t x k y=>
  split at hc
  ·rename_i hu hx hk hy
   simp only[Yr0]at hc;obtain⟨s,h1,rfl⟩:=hc
   exact Zrc (call:=call) hh hr hu h1 hx hk hy h
  ·cases hc
 case insert t x k y=>
  split at hc
  ·rename_i hu hx hk hy
   simp only[Yr0]at hc;obtain⟨s,h1,rfl⟩:=hc
   exact Zrc (call:=call) hh hr hu h1 hx hk hy h
  ·cases hc
 case range t x=>
  split at hc
  ·rename_i hu hx
   simp only[Yrs]at hc;subst hc
   exact Zs9 (call:=call) hh hr hu hx h
  ·cases hc
 case next it isS=>
  cases isS<;>simp only[reduceCtorEq]at hc
  simp only[Yr0]at hc;obtain⟨s,h1,rfl⟩:=hc
  exact Zxi (call:=call) hh hr h1 h
 case extract x i=>simp only[Yr0]at hc;obtain⟨s,h1,rfl⟩:=hc;exact Zyt (call:=call) hh hr h1 h
 case call c=>
  obtain⟨callee,args,ats⟩:=c
  cases callee with
  |invoke r' nm=>simp only[Zr4,reduceCtorEq]at hc
  |builtin b=>
   have:=Zun (ty:=ty) (cs:=args.map fun|.const _=>true|_=>false) hh hr hc h
   obtain⟨nx,x,w',μ',ws,k1,k2⟩:=this
   refine⟨nx,x,w',μ',ws,?_,k2⟩
   rw[←k1]
   simp[execOp,resolve,invoke]
   rfl
  |value f=>
   simp only[Zr4]at hc
   split at hc
   ·cases hc
   ·rename_i ss hss
    cases f<;>simp only at hc
    case func gid=>
     split at hc
     ·rename_i fn hfn
      split at hc
      ·simp only[Yrs]at hc;subst hc;simp[MOp.isCall]at hn
      ·rename_i hb
       split at hc
       ·rename_i e he
        simp only[Yrs]at hc;subst hc
        have:=Yna (call:=call) hh hr hE hfn (by simpa using hb) he hss h
        obtain⟨nx,x,w',μ',ws,k1,k2⟩:=this
        refine⟨nx,x,w',μ',ws,?_,k2⟩
        rw[←k1]
        have e0:(⟨List.map a.eval args.toList⟩:Array Value)=args.map a.eval:=by apply Yu3;simp
        rw[e0]
        simp[execOp,resolve,invoke,Deferred.ofValue,Act.eval]
       ·cases hc
     ·cases hc
    all_goals
     split at hc
     ·simp only[Yrs]at hc;subst hc;simp[MOp.isCall]at hn
     ·cases hc
end
abbrev FE(lb:Option Nat):Fence:={Fence.wide with round:=lb}
def Yi7(R:Value→World→Prop):Ending→World→Prop
 |.returned x,w=>R x w
 |_,_=>False
def Zkn(P:Program)(y:Bool)(G:Value)(xs:Array Value)(w:World)(R:Value→World→Prop):Prop:=
 (∃d,(Deferred.ofValue G xs).run P w=.ok d w∧
  ((y=false∧∃f args,(invoke d.target d.args).run P w=.ok (.enter f args) w∧CallsIn Fence.wide 0 P f args w (Yi7 R))∨
     (y=true∧∃l f tmps asg bod,(invoke d.target d.args).run P w=.ok (.round l f tmps asg bod) w∧RoundIn Fence.wide 0 P l f tmps asg bod w (Yi7 R))))
def Zbx(P:Program)(call:Za1):Prop:=
 ∀(g:V) (args:List V) (st:St) (v:V) (st':St),call g args st=some (v,st')→∀(μ:Mu) (w:World) (G:Value) (xs:List Value),Zba P μ w st→VR μ g G→VRs μ args xs→
  Zkn P g.isY G ⟨xs⟩ w fun x w'=>∃μ' ws,VR μ' v x∧Stp P μ w st μ' w' st' ws
def Zn9(μ:Mu):List Nat→List Deferred→Prop
 |[],ds=>ds=[]
 |m::ms,ds=>∃l ds',μ m=some l∧ds={target:=.collected l.b,args:=#[]}::ds'∧Zn9 μ ms ds'
def Zn9.mono{μ μ':Mu}(h:∀i l,μ i=some l→μ' i=some l):∀{ms:List Nat} {ds:List Deferred},Zn9 μ ms ds→Zn9 μ' ms ds
 |[],_,hd=>hd
 |_::_,_,⟨l,ds',h1,h2,h3⟩=>⟨l,ds',h _ _ h1,h2,Zn9.mono h h3⟩
def FrR(μ:Mu)(fr:Fr)(a:Act):Prop:=RR μ fr.r fr.n a.tmps∧Zn9 μ fr.marks a.defers
def FrR.mono{μ μ':Mu}(h:∀i l,μ i=some l→μ' i=some l){fr:Fr}{a:Act}(hf:FrR μ fr a):FrR μ' fr a:=⟨hf.1.mono h,hf.2.mono h⟩
section
variable {P:Program} {μ:Mu} {w:World} {st st':St} {fr fr':Fr} {a:Act} {call:Za1} {v:V} {lb:Option Nat}
def Stp.mono{μ':Mu}{w':World}{ws:List Nat}(hh:Zba P μ w st)(h:Stp P μ w st μ' w' st' ws):∀i l,μ i=some l→μ' i=some l:=Zba.ext_of hh h.ext
def FrR.put(hf:FrR μ fr a){d:Option Nat}{x:Value}(hv:VR μ v x)(h:fr.put d v=some fr'):FrR μ fr' (a.put d x):=by
 cases d with
 |none=>
  simp only[Fr.put,Yrs]at h;subst h
  exact hf
 |some d=>
  simp only[Fr.put]at h
  split at h
  ·rename_i hd
   simp only[Yrs]at h;subst h
   exact⟨hf.1.set hd hv,hf.2⟩
  ·cases h
def Yjm(hcall:Zbx P call)(hE:Zeo P)(hh:Zba P μ w st)(hf:FrR μ fr a){o:Oper}(h:mop (cOp P o.op) call fr.r st=some (v,st')){K:Act→World→Prop}{Q:Exit→Act→World→Prop}
  (hK:∀x w' μ' ws,VR μ' v x→Stp P μ w st μ' w' st' ws→K (a.put o.dst x) w'):o.wpIn (FE lb) 0 P a w K Q:=by
 refine⟨fun _ _=>trivial,?_⟩
 have hnd:∀c,o.op≠.defer c:=by
  intro c hc
  rw[hc]at h
  simp only[cOp,Ylx,Option.getD_none]at h
  cases h
 show o.uponIn (FE lb) 0 P a K Q ((o.semAt lb a.eval).run P w)
 rw[Oper.semAt_eq _ _ _ hnd]
 cases hc:Ylx P o.op with
 |none=>
  simp only[cOp,hc,Option.getD_none]at h
  cases h
 |some m=>
  simp only[cOp,hc,Yux]at h
  by_cases hn:m.isCall=true
  ·-- a call
   obtain⟨dst,op,ty,pos,af,g⟩:=o
   cases m<;>simp only[MOp.isCall,Yr3]at hn
   rename_i sf ss
   have hop:∃c f,op=.call c∧c.callee=.value f∧Zbe P f=some sf∧Zi2 P c.args.toList=some ss:=by
    cases op<;>simp only[Ylx]at hc<;>try (cases hc;done)
    case call c=>
     obtain⟨callee,args,ats⟩:=c
     cases callee with
     |invoke r' nm=>simp only[Zr4,reduceCtorEq]at hc
     |builtin b=>
      exfalso
      simp only[Zr4]at hc
      repeat' split at hc
      all_goals first|(cases hc;done)|(simp at hc;done)
     |value f=>
      simp only[Zr4]at hc
      split at hc
      ·cases hc
      ·rename_i ss' hss
       refine⟨_,f,rfl,rfl,?_⟩
       cases f<;>simp only at hc
       case func gid=>
        split at hc
        ·split at hc
         ·simp only[Yrs,MOp.call.injEq]at hc
          obtain⟨rfl,rfl⟩:=hc
          exact⟨rfl,hss⟩
         ·split at hc
          ·simp at hc
          ·cases hc
        ·cases hc
       all_goals
        split at hc
        ·rename_i h1
         simp only[Yrs,MOp.call.injEq]at hc
         obtain⟨rfl,rfl⟩:=hc
         exact⟨h1,hss⟩
        ·cases hc
    all_goals
     exfalso
     repeat' split at hc
     all_goals first|(cases hc;done)|contradiction|(simp at hc;done)|(rw[Yt4]at hc;simp at hc;done)
   obtain⟨c,f,rfl,hcal,h1,h2⟩:=hop
   have h':Zem sf ss call fr.r st=some (v,st'):=h
   unfold Zem at h'
   split at h'
   ·rename_i gv l hg hl
    have hG:=Zar hh hf.1 h1 hg
    have hX:=Ze3 hh hf.1 h2 hl
    obtain⟨d,hd,hrest⟩:=hcall _ _ _ _ _ h' μ w _ _ hh hG hX
    have e0:(⟨List.map a.eval c.args.toList⟩:Array Value)=c.args.map a.eval:=by apply Yu3;simp
    rw[e0]at hd
    have hres:(resolve a.eval c ty).run P w=.ok d w:=by
     simp only[resolve,hcal]
     exact hd
    rcases hrest with⟨_,g',args,hinv,hci⟩|⟨_,l',g',tmps,asg,bod,hinv,hri⟩
    ·have hrun:(execOp a.eval ⟨dst,.call c,ty,pos,af,g⟩).run P w=.ok (.enter g' args) w:=by
      simp only[execOp,Sem.run_bind,hres,Result.andThen_ok,hinv]
     rw[hrun,Oper.uponIn_enter]
     refine⟨fun hx=>by simp[Fence.wide]at hx,?_⟩
     refine CallsIn.mono (F:=Fence.wide) hci fun e w' he=>?_
     cases e with
     |returned x=>
      obtain⟨μ',ws,q1,q2⟩:=he
      exact hK x w' μ' ws q1 q2
     |panicked _=>exact he.elim
     |outgrown=>exact he.elim
    ·have hrun:(execOp a.eval ⟨dst,.call c,ty,pos,af,g⟩).run P w=.ok (.round l' g' tmps asg bod) w:=by
      simp only[execOp,Sem.run_bind,hres,Result.andThen_ok,hinv]
     rw[hrun,Oper.uponIn_round]
     refine⟨fun hx=>by simp[Fence.wide]at hx,?_⟩
     refine RoundIn.mono (F:=Fence.wide) hri fun e w' he=>?_
     cases e with
     |returned x=>
      obtain⟨μ',ws,q1,q2⟩:=he
      exact hK x w' μ' ws q1 q2
     |panicked _=>exact he.elim
     |outgrown=>exact he.elim
   ·cases h'
  ·obtain⟨nx,x,w',μ',ws,k1,k2,k3,k4⟩:=Ymi hh hf.1 hE hc (by simpa using hn) h
   rw[k1]
   rcases k2 with rfl|⟨rfl,rfl⟩
   ·rw[Oper.uponIn_value];exact hK x w' μ' ws k3 k4
   ·rw[Oper.uponIn_skip];exact hK undef w' μ' ws k3 k4
def Zob{ops:Array Oper}{o:Oper}{g:Option (Nat×Bool)}(hr:RR μ fr.r fr.n a.tmps)(hg:Znn ops o.guard=some g){b:Bool}(h:wantedV fr.r g=some b):Region.wanted o (yielded ops a.tmps)=b:=by
 unfold Region.wanted
 cases ho:o.guard with
 |none=>
  rw[ho]at hg
  simp only[Znn,Yrs]at hg;subst hg
  simp only[wantedV,Yrs]at h
  exact h
 |some p=>
  obtain⟨j,want⟩:=p
  rw[ho]at hg
  simp only[Znn]at hg
  split at hg
  ·rename_i t ht
   simp only[Yrs]at hg;subst hg
   simp only[wantedV]at h
   split at h
   ·rename_i b' hb
    simp only[Yrs]at h;subst h
    obtain⟨x,hx,hv⟩:=hr.2 _ _ hb
    simp only[VR]at hv
    subst hv
    simp[yielded,ht,hx]
   ·rename_i l hb
    simp only[Yrs]at h;subst h
    obtain⟨x,hx,y,hv,_⟩:=hr.2 _ _ hb
    subst hv
    simp[yielded,ht,hx]
   ·cases h
  ·cases hg
end
end Go.Mx
