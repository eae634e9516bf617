/-The operations of M stand for the Go mod-/
import Derived.Test.YtjjmkflbfpeagaaGreatDoorMxOp10
import Derived.Lib.Builder
import Derived.Lib.UnsafeStr
import Derived.RangeFuncRecord
import Derived.OrdersIn
set_option linter.all false
namespace Go.Mx
open Go
section
variable {P:Program} {μ:Mu} {w:World} {st ax:St} {r:T V} {n:Nat} {a:Act} {call:cH} {v:V}
def S7{b:Nat}{c:Array Value}{e:TypeId}{f:Nat×Nat}(h:w.heap[b]?=some (.cells c e f)):w.shape? b=some (e,c.size):=by
 simp[World.shape?,h]
def ZI{t:TypeId}{z:Nat}(h:eD P t=some z):P.cellsOf t=z:=by
 unfold eD at h
 simp[Program.cellsOf,h]
def ZJ{t:TypeId}{z:Nat}(h:eD P t=some z):∃j,P.info? t=some j/\j.size=z:=by
 unfold eD at h
 simp only[fZ]at h
 exact h
def Zt6{u:TypeId}{z:Nat}(hc:P.cellsOf u=z+1)(count:Nat)(hn:1<=count):liesAt P P.depth u count 0 u 1=true:=by
 have hd:P.depth=(2*(P.types.size+Made.depth)+1)+1:=rfl
 rw[hd]
 simp only[liesAt,Du]
 left
 rw[hd]
 simp[rowAt,hc,sameLayout]
 left;omega
def Zz0(hh:a_ P μ w st)(hr:RR μ r n a.tmps){src dst t:TypeId}{x:Operand}{s:Src}{z:Nat}(hs:P.underlying src=some (.pointer t))(hd:P.underlying dst=some .unsafePointer)(hz:eD P t=some (z+1))
  (hx:bk P x=some s) (h:BZ none s call r st=some (v,ax)):aS P μ w st (do pure (.value (<-convert src dst (a.eval x)))) v ax:=by
 unfold BZ at h
 split at h
 ·rename_i i hm
  obtain⟨l,hl,h1⟩:=cE hh hr hx hm
  split at h
  ·rename_i c e' aE
   simp only[]at h
   split at h
   ·rename_i aO
    simp only[ak,bh]at h
    obtain⟨rfl,rfl⟩:=h
    obtain⟨c',lo,hi,g1,g2,g3,_,_,g6⟩:=hh.row hl aE
    have kM:=(g6 rfl).1
    obtain⟨j,hj,hjs⟩:=ZJ hz
    refine aS.value hh (x:=.pointer (some ⟨l.b,l.d+0,none⟩)) ?_ ⟨l,hl,rfl⟩
    rw[h1]
    exact Go.Lib.run_to_unsafe w ⟨l.b,l.d+0,none⟩ hs hd hj (by omega) (S7 g1) (by show l.d+0<c'.size;omega)
   ·cases h
  ·cases h
 ·cases h
def Zsr(hh:a_ P μ w st)(hr:RR μ r n a.tmps){src dst u:TypeId}{x:Operand}{s:Src}{z:Nat}(hs:P.underlying src=some .unsafePointer)(hd:P.underlying dst=some (.pointer u))(hz:eD P u=some (z+1))
  (hx:bk P x=some s) (h:BZ (some (u,z+1)) s call r st=some (v,ax)):aS P μ w st (do pure (.value (<-convert src dst (a.eval x)))) v ax:=by
 unfold BZ at h
 split at h
 ·rename_i i hm
  obtain⟨l,hl,h1⟩:=cE hh hr hx hm
  split at h
  ·rename_i c e' aE
   simp only[]at h
   split at h
   ·rename_i aO
    obtain⟨rfl,_,hle⟩:=aO
    simp only[ak,bh]at h
    obtain⟨rfl,rfl⟩:=h
    obtain⟨c',lo,hi,g1,g2,g3,_,_,g6⟩:=hh.row hl aE
    have kM:=(g6 rfl).1
    obtain⟨j,hj,hjs⟩:=ZJ hz
    have ZK:=ZI hz
    refine aS.value hh (x:=.pointer (some ⟨l.b,l.d+0,none⟩)) ?_ ⟨l,hl,rfl⟩
    rw[h1]
    refine Go.Lib.run_from_unsafe w ⟨l.b,l.d+0,none⟩ hs hd hj (S7 g1) ?_
    show liesAt P P.depth e' (c'.size/P.cellsOf e') (l.d+0) e' 1=true
    rw[kM]
    refine Zt6 ZK _ ?_
    rw[ZK]
    exact Nat.div_pos (by omega) (by omega)
   ·cases h
  ·cases h
 ·cases h
def Ye2(hh:a_ P μ w st)(hr:RR μ r n a.tmps){ts:Array TypeId}{ty:TypeId}{x:Operand}{s:Src}
  (hx:bk P x=some s) (h:GM s call r st=some (v,ax)):aS P μ w st (do pure (.value (<-Builtin.unsafeSliceData_ ts ty #[a.eval x]))) v ax:=by
 unfold GM at h
 split at h
 ·rename_i i o len cap sz hm
  obtain⟨l,c,hl,h1,zD,_⟩:=cE hh hr hx hm
  split at h
  ·rename_i aO
   simp only[ak,bh]at h
   obtain⟨rfl,rfl⟩:=h
   refine aS.value hh (x:=.pointer (some ⟨l.b,l.d+o,none⟩)) ?_ ⟨l,hl,rfl⟩
   rw[h1]
   exact Go.Lib.run_unsafeSliceData_row w ts ty _ _ _ (by omega)
  ·cases h
 ·cases h
def ZL:∀{vs:List V} {s:List UInt8},DR vs=some s->vs.length=s.length/\∀(j:Nat) (b:UInt8),s[j]?=some b->vs[j]?=some (.int .u8 b.toNat)
 |[],s,h=>by
  simp only[DR,ak]at h;subst h
  exact⟨rfl,fun j b hb=>by simp at hb⟩
 |v::vs,s,h=>by
  simp only[DR]at h
  split at h
  ·rename_i b s' hb hs
   simp only[ak]at h;subst h
   obtain⟨h1,h2⟩:=ZL hs
   refine⟨by simp[h1],fun j c hc=>?_⟩
   cases j with
   |zero=>
    simp only[zq,ak]at hc;subst hc
    cases v<;>simp only[Nh,reduceCtorEq]at hb
    rename_i k m
    cases k<;>simp only[reduceCtorEq]at hb
    split at hb
    ·rename_i hm
     simp only[ak]at hb;subst hb
     simp only[zq,ak,V.int.injEq,true_and]
     have:m.toNat<256:=by omega
     simp[Nat.toUInt8]
     omega
    ·cases hb
   |succ j=>
    simp only[BP]at hc ⊢
    exact h2 j c hc
  ·cases h
def Yi0(hh:a_ P μ w st)(hr:RR μ r n a.tmps){pt it ty e:TypeId}{x y:Operand}{s q:Src}(hp:P.underlying pt=some (.pointer e))(hz:eD P e=some 1)(hx:bk P x=some s)(hy:bk P y=some q)
  (h:GN e s q call r st=some (v,ax)):aS P μ w st (do pure (.value (<-Builtin.unsafeString_ #[pt,it] ty #[a.eval x,a.eval y]))) v ax:=by
 unfold GN at h
 split at h
 ·rename_i i k hm hq
  obtain⟨l,hl,h1⟩:=cE hh hr hx hm
  have h2:=cE hh hr hy hq
  simp only[VR]at h2
  split at h
  ·rename_i hk
   split at h
   ·rename_i c e' aE
    split at h
    ·rename_i he
     subst he
     split at h
     ·rename_i xH qI
      split at h
      ·rename_i str S8
       simp only[ak,bh]at h
       obtain⟨rfl,rfl⟩:=h
       obtain⟨c',lo,hi,g1,g2,g3,g4,g5,g6⟩:=hh.row hl aE
       have kM:=(g6 rfl).1
       obtain⟨b1,b2⟩:=ZL S8
       obtain⟨xs,oB,AL,uG,fO,_⟩:=(hh.row hl aE).xH qI
       have cO:str.length=k.toNat:=by have:=oB.length;omega
       have hle:k.toNat<=c.length:=by
        unfold aM at qI
        split at qI
        ·omega
        ·cases qI
       have YK:k=(str.length:Int):=by omega
       have bK:str≠[]:=by intro h0;rw[h0]at cO;simp at cO;omega
       have gD:∀(j:Nat) (b:UInt8),str[j]?=some b->w.cell? ((⟨l.b,0,none⟩:Addr).add j)=some (.int .u8 b.toNat):=by
        intro j b hb
        have hv:=b2 j b hb
        obtain⟨y,qf,uH⟩:=oB.get hv
        simp only[VR]at uH
        subst uH
        have:=fO j _ qf
        rw[uJ]
        rw[kM,ri]at this
        exact this
       have h63:str.length<=9223372036854775807:=by omega
       have bH:=Go.Lib.run_unsafeString_row (P:=P) w pt it ty e' hp (ZI hz) l.b c'.size (S7 g1) str bK (by omega) h63 gD
       have hw:bA P μ w st μ (w.freeze ⟨l.b,0,none⟩ str.length) (st.write i (.cells c e' false)) [i]:=by
        have uK:str.length≠0:=by simpa using bK
        have wL:(w.freeze ⟨l.b,0,none⟩ str.length).heap[l.b]?=some (.cells c' e' (if lo==hi then (0,0+str.length) else (min lo 0,max hi (0+str.length)))):=by
         simp[World.freeze,uK,Array.getElem?_modify,g1]
        obtain⟨lo',iV,Jr⟩:∃p q,(if lo==hi then (0,0+str.length) else (min lo 0,max hi (0+str.length)))=(p,q):=⟨_,_,rfl⟩
        rw[Jr]at wL
        refine bA.write hh hl (Jg aE) rfl ?_ ?_ ?_ ?_ ?_ ⟨c',lo',iV,wL,g2,g3,g4,g5,fun hc=>by cases hc⟩
        ·simp[World.freeze,uK]
        ·simp[World.freeze,uK]
        ·simp[World.freeze,uK]
        ·simp[World.freeze,uK]
        ·intro b hb
         simp only[World.freeze,uK,if_false,Array.getElem?_modify]
         rw[aq (fun h=>hb h.symm)]
       refine⟨.value (.string ⟨str.toArray⟩),_,_,μ,[i],?_,.inl rfl,rfl,hw⟩
       rw[h1,h2,kM,YK]
       simp[bH,Result.andThen]
      ·cases h
     ·cases h
    ·cases h
   ·cases h
  ·cases h
 ·cases h
end
section
variable {P:Program} {μ:Mu} {w:World} {st ax:St} {r:T V} {n:Nat} {a:Act} {call:cH} {v:V}
def Zyz{op:BinOp}{t:TypeId}{k:FloatKind}{p q:Nat}{z:V}(h:Sd op k p q=some z):∃y,(binOp op t (.float k p) (.float k q)).run P w=.ok y w/\VR μ z y:=by
 unfold Sd at h
 cases op<;>simp only[reduceCtorEq]at h
 case add=> 
  simp only[fZ]at h
  obtain⟨m,hm,rfl⟩:=h
  exact⟨.float k m,by simp[binOp,Op.floatArith,hm],by simp[VR]⟩
 case sub=> 
  simp only[fZ]at h
  obtain⟨m,hm,rfl⟩:=h
  exact⟨.float k m,by simp[binOp,Op.floatArith,hm],by simp[VR]⟩
 case mul=> 
  simp only[fZ]at h
  obtain⟨m,hm,rfl⟩:=h
  exact⟨.float k m,by simp[binOp,Op.floatArith,hm],by simp[VR]⟩
 case quo=> 
  simp only[fZ]at h
  obtain⟨m,hm,rfl⟩:=h
  exact⟨.float k m,by simp[binOp,Op.floatArith,hm],by simp[VR]⟩
 all_goals
  simp only[ak]at h;subst h
  exact⟨_,by simp[binOp,Op.floatCmp];rfl,by simp[VR]⟩
def Ylc(hh:a_ P μ w st)(hr:RR μ r n a.tmps){op:BinOp}{t:TypeId}{x y:Operand}{s u:Src}(hx:bk P x=some s)(hy:bk P y=some u)
  (h:IL op s u call r st=some (v,ax)):
  aS P μ w st (do pure (.value (<-(do eqGuard op t x y (a.eval x) (a.eval y);binOp op t (a.eval x) (a.eval y):Sem Value)))) v ax:=by
 unfold IL at h
 split at h
 ·rename_i k p k' q hs hu
  have h1:=cE hh hr hx hs
  have h2:=cE hh hr hy hu
  simp only[VR]at h1 h2
  rw[h1,h2]
  split at h
  ·rename_i e;subst e
   split at h
   ·rename_i z hz
    simp only[ak,bh]at h
    obtain⟨rfl,rfl⟩:=h
    obtain⟨y',h3,h4⟩:=Zyz (P:=P) (μ:=μ) (w:=w) (t:=t) hz
    exact aS.value hh (AP (Jh (by intro h;cases h) (by intro _ _ h;cases h)) h3) h4
   ·cases h
  ·cases h
 ·cases h
def Yle(hh:a_ P μ w st)(hr:RR μ r n a.tmps){src dst:TypeId}{k:IntKind}{q:FloatKind}{x:Operand}{s:Src}(hs:P.underlying src=some (.float q))(hd:P.underlying dst=some (.int k))(hx:bk P x=some s)
  (h:IM k s call r st=some (v,ax)):aS P μ w st (do pure (.value (<-convert src dst (a.eval x)))) v ax:=by
 unfold IM at h
 split at h
 ·rename_i q' b hm
  have he:=cE hh hr hx hm
  simp only[VR]at he
  split at h
  ·rename_i m S9
   split at h
   ·rename_i hb
    simp only[ak,bh]at h
    obtain⟨rfl,rfl⟩:=h
    exact aS.value hh (x:=.int k m) (by simp[convert,run_underlying hs,run_underlying hd,he,Conv.floatToInt,S9,hb]) (by simp[VR])
   ·cases h
  ·cases h
 ·cases h
def Yo3(hh:a_ P μ w st)(hr:RR μ r n a.tmps){ts:Array TypeId}{ty:TypeId}{x:Operand}{s:Src}
  (hx:bk P x=some s) (h:DS false s call r st=some (v,ax)):aS P μ w st (do pure (.value (<-Builtin.real_ ts ty #[a.eval x]))) v ax:=by
 unfold DS at h
 split at h
 ·rename_i k p q hm
  have he:=cE hh hr hx hm
  simp only[VR]at he
  simp only[ak,bh]at h
  obtain⟨rfl,rfl⟩:=h
  exact aS.value hh (x:=.float k p) (by rw[he];rfl) (by simp[VR])
 ·cases h
def Yp4(hh:a_ P μ w st)(hr:RR μ r n a.tmps){ts:Array TypeId}{ty:TypeId}{x:Operand}{s:Src}
  (hx:bk P x=some s) (h:DS true s call r st=some (v,ax)):aS P μ w st (do pure (.value (<-Builtin.imag_ ts ty #[a.eval x]))) v ax:=by
 unfold DS at h
 split at h
 ·rename_i k p q hm
  have he:=cE hh hr hx hm
  simp only[VR]at he
  simp only[ak,bh]at h
  obtain⟨rfl,rfl⟩:=h
  exact aS.value hh (x:=.float k q) (by rw[he];rfl) (by simp[VR])
 ·cases h
end
section
variable {P:Program} {μ:Mu} {w:World} {st ax:St} {r:T V} {n:Nat} {a:Act} {call:cH} {v:V}
def fS.mT:fS->Bool
 |.call _ _=>true
 |_=>false
def vK{α:Type}{a:Array α}{x:α}(h:a.toList=[x]):a=#[x]:=by
 apply xD;simpa using h
def Js{α:Type}{a:Array α}{x y:α}(h:a.toList=[x,y]):a=#[x,y]:=by
 apply xD;simpa using h
def Zuq(hh:a_ P μ w st)(hr:RR μ r n a.tmps){b:Builtin}{ts:Array TypeId}{xs:Array Operand}{ty:TypeId}{cs:Array Bool}{m:fS}(hc:BL P ⟨.builtin b,xs,ts⟩=some m)
  (h:bX m call r st=some (v,ax)):aS P μ w st (builtin b ts ty cs (xs.map a.eval)) v ax:=by
 simp only[BL]at hc
 split at hc
 ·rename_i t x ht hx
  have e1:=vK ht
  have e2:=vK hx
  subst e1 e2
  simp only[builtin,Am,km,rV]
  split at hc
  ·rename_i s hu hs
   simp only[ak]at hc;subst hc
   exact Zyd (call:=call) hh hr hu hs h
  ·rename_i e s hu hs
   simp only[ak]at hc;subst hc
   exact Zrm (call:=call) hh hr hu hs h
  ·rename_i k e s hu hs
   simp only[ak]at hc;subst hc
   exact Zye (call:=call) hh hr hu hs h
  ·rename_i k e s hu
   simp only[ak]at hc;subst hc
   exact ZM (call:=call) (r:=r) hh (.inl ⟨_,hu⟩) h
  ·rename_i u s hu
   split at hc
   ·rename_i k e eX
    simp only[ak]at hc;subst hc
    exact ZM (call:=call) (r:=r) hh (.inr ⟨_,_,hu,eX⟩) h
   ·cases hc
  ·cases hc
 ·rename_i t x ht hx
  have e1:=vK ht
  have e2:=vK hx
  subst e1 e2
  simp only[builtin,Am,km,rV]
  split at hc
  ·rename_i e s hu hs
   simp only[ak]at hc;subst hc
   exact Yoa (call:=call) hh hr hu hs h
  ·cases hc
 ·split at hc
  ·rename_i l hl
   simp only[ak]at hc;subst hc
   exact Ypx (call:=call) hh hr hl h
  ·cases hc
 ·split at hc
  ·rename_i l hl
   simp only[ak]at hc;subst hc
   exact Ypw (call:=call) hh hr hl h
  ·cases hc
 ·rename_i t u s x ht hx
  have e1:=Js ht
  have e2:=Js hx
  subst e1 e2
  simp only[builtin,Am,km,rV]
  split at hc
  ·rename_i e hu
   split at hc
   ·rename_i n' b' z s' x' d hs hb hz iU nz hd
    rw[Gy]at hc
    obtain⟨cL,hc⟩:=hc
    simp only[not_or,Decidable.not_not]at cL
    obtain⟨c1,c2,c3,c4⟩:=cL
    simp only[ak]at hc;subst hc
    have c4':z.cells.all V.one=true:=by simpa using c4
    exact Yd2 (call:=call) hh hr (by rfl) hu (by rfl) hd (fun k hk=>by subst hk;simp at c1) hs hb hz c3 c4' c2 iU nz h
   ·cases hc
  ·cases hc
 ·rename_i t ts' d s ht hx
  have e2:=Js hx
  subst e2
  simp only[builtin,Am,km,rV]
  split at hc
  ·rename_i e hu
   split at hc
   ·rename_i n' d' s' hs hd iU
    simp only[ak]at hc;subst hc
    exact Ylr (call:=call) hh hr (by rw[<-xz,ht];rfl) hu hs hd iU h
   ·cases hc
  ·cases hc
 ·rename_i t s ht hx
  have e1:=vK ht
  have e2:=vK hx
  subst e1 e2
  simp only[builtin,Am,km,rV]
  split at hc
  ·rename_i e hu
   split at hc
   ·rename_i n' z s' hs hz iU
    split at hc
    ·rename_i cy
     simp only[ak]at hc;subst hc
     exact Yg5 (call:=call) hh hr hu hz cy iU h
    ·cases hc
   ·cases hc
  ·cases hc
 ·rename_i t s ht hx
  have e1:=vK ht
  have e2:=vK hx
  subst e1 e2
  simp only[builtin,Am,km,rV]
  simp only[fZ]at hc
  obtain⟨s',hs,rfl⟩:=hc
  exact Ye2 (call:=call) hh hr hs h
 ·rename_i t s ht hx
  have e1:=vK ht
  have e2:=vK hx
  subst e1 e2
  simp only[builtin,Am,km,rV]
  simp only[fZ]at hc
  obtain⟨s',hs,rfl⟩:=hc
  exact Yo3 (call:=call) hh hr hs h
 ·rename_i t s ht hx
  have e1:=vK ht
  have e2:=vK hx
  subst e1 e2
  simp only[builtin,Am,km,rV]
  simp only[fZ]at hc
  obtain⟨s',hs,rfl⟩:=hc
  exact Yp4 (call:=call) hh hr hs h
 ·rename_i t u x y ht hx
  have e1:=Js ht
  have e2:=Js hx
  subst e1 e2
  simp only[builtin,Am,km,rV]
  split at hc
  ·rename_i e hu
   split at hc
   ·rename_i s q hs hx hy
    simp only[ak]at hc;subst hc
    exact Yi0 (call:=call) hh hr hu hs hx hy h
   ·cases hc
  ·cases hc
 ·cases hc
def Ym8(hh:a_ P μ w st)(hr:RR μ r n a.tmps)(hE:rn P){o:Oper}{m:fS}(hc:Gs P o.op=some m)(hn:m.mT=false)(h:bX m call r st=some (v,ax)):
  aS P μ w st (execOp a.eval o) v ax:=by
 obtain⟨dst,op,ty,pos,af,g⟩:=o
 cases op<;>simp only[Gs]at hc<;>try (cases hc;done)
 case move x=>simp only[fZ]at hc;obtain⟨s,h1,rfl⟩:=hc;exact Zw (call:=call) hh hr h1 h
 case assign x=>simp only[fZ]at hc;obtain⟨s,h1,rfl⟩:=hc;exact Zw (call:=call) hh hr h1 h
 case pick c x y=>
  split at hc
  ·rename_i h1 h2 h3
   simp only[ak]at hc;subst hc
   exact Yjz (call:=call) hh hr h1 h2 h3 h
  ·cases hc
 case alloc e=>
  split at hc
  ·rename_i z hz
   split at hc
   ·rename_i cy
    simp only[ak]at hc;subst hc
    exact Yhe (call:=call) (r:=r) hh hz cy h
   ·cases hc
  ·cases hc
 case box e x=>simp only[fZ]at hc;obtain⟨s,h1,rfl⟩:=hc;exact Yoc (call:=call) hh hr h1 h
 case build t parts=>
  split at hc
  ·cases hc
  ·rename_i z hz
   split at hc
   ·rename_i fs vX
    split at hc
    ·rename_i pl AQ
     simp only[fZ]at hc
     obtain⟨rD,h1,rfl⟩:=hc
     exact Zny (call:=call) hh hr hz vX AQ h1 h
    ·cases hc
   ·rename_i k e hu
    split at hc
    ·rename_i s hs
     simp only[fZ]at hc
     obtain⟨rD,h1,rfl⟩:=hc
     exact Zn9 (call:=call) hh hr hz hu hs h1 h
    ·cases hc
   ·cases hc
 case buildSlice t len parts=>
  split at hc
  ·rename_i e hu
   split at hc
   ·rename_i s z hs hz
    split at hc
    ·cases hc
    ·rename_i cL
     simp only[not_or,Decidable.not_not]at cL
     simp only[fZ]at hc
     obtain⟨rD,h1,rfl⟩:=hc
     exact Yd0 (call:=call) hh hr hu hs hz cL.1 cL.2.1 h1 h
   ·cases hc
  ·cases hc
 case load t x=>
  split at hc
  ·rename_i h1 h2
   simp only[ak]at hc;subst hc
   exact Ykv (call:=call) hh hr h1 h2 h
  ·cases hc
 case store t x y=>
  split at hc
  ·rename_i h1 h2 h3
   simp only[ak]at hc;subst hc
   exact Yew (call:=call) hh hr h1 h2 h3 h
  ·cases hc
 case nilCheck x=>simp only[fZ]at hc;obtain⟨s,h1,rfl⟩:=hc;exact Yfu (call:=call) hh hr h1 h
 case binOp op t x y p=>
  split at hc
  ·rename_i s u h1 h2
   split at hc
   ·rename_i zas
    simp only[ak]at hc;subst hc
    exact Ylc (call:=call) hh hr h1 h2 h
   have fin:∀q ng,Ta P op t x y q ng->m=.bin op q ng s u->aS P μ w st (execOp a.eval ⟨dst,.binOp op t x y p,ty,pos,af,g⟩) v ax:=by
    intro q ng hq hm
    subst hm
    exact Yod (call:=call) hh hr h1 h2 hq h
   cases op
   case eql=>
    simp only at hc
    split at hc
    ·rename_i q hq
     rw[Gy]at hc
     obtain⟨cL,hc⟩:=hc
     simp only[ak]at hc
     exact fin _ _ (fun _=>⟨hq,by rw[Bool.not_eq_true]at cL;exact cL,rfl⟩) hc.symm
    ·cases hc
   case neq=>
    simp only at hc
    split at hc
    ·rename_i q hq
     rw[Gy]at hc
     obtain⟨cL,hc⟩:=hc
     simp only[ak]at hc
     exact fin _ _ (fun _=>⟨hq,by rw[Bool.not_eq_true]at cL;exact cL,rfl⟩) hc.symm
    ·cases hc
   all_goals
    simp only[ak]at hc
    exact fin _ _ (fun hq=>by rcases hq with hq|hq<;>cases hq) hc.symm
  ·cases hc
 case unOp op t x=>simp only[fZ]at hc;obtain⟨s,h1,rfl⟩:=hc;exact Yox (call:=call) hh hr h1 h
 case convert src dst' x=>
  split at hc
  ·cases hc
  ·rename_i s h1
   split at hc
   ·rename_i q k hq hk
    simp only[ak]at hc;subst hc
    exact Zzf (call:=call) hh hr ⟨_,hq⟩ hk h1 h
   ·rename_i q k hq hk
    simp only[ak]at hc;subst hc
    exact Yle (call:=call) hh hr hq hk h1 h
   ·rename_i hq hk
    simp only[ak]at hc;subst hc
    exact Zze (call:=call) hh hr hq hk h1 h
   ·rename_i e hq hk
    split at hc
    ·rename_i he
     simp only[ak]at hc;subst hc
     exact Zsy (call:=call) hh hr hq hk he h1 h
    ·cases hc
   ·rename_i e hq hk
    split at hc
    ·rename_i he
     simp only[ak]at hc;subst hc
     exact Zup (call:=call) hh hr hq hk he h1 h
    ·cases hc
   ·rename_i t hq hk
    split at hc
    ·rename_i z hz
     simp only[ak]at hc;subst hc
     exact Zz0 (call:=call) hh hr hq hk hz h1 h
    ·cases hc
   ·rename_i u hq hk
    split at hc
    ·rename_i z hz
     simp only[ak]at hc;subst hc
     exact Zsr (call:=call) hh hr hq hk hz h1 h
    ·cases hc
   ·cases hc
 case makeInterface t x=>
  split at hc
  ·cases hc
  ·rename_i d bK hd
   simp only[fZ]at hc;obtain⟨s,h1,rfl⟩:=hc
   exact Zx7 (call:=call) hh hr hd (fun k hk=>bK k hk) h1 h
  ·cases hc
 case makeFunc f first fT=>
  cases f<;>simp only[reduceCtorEq]at hc
  split at hc
  ·rename_i h1 h2
   simp only[ak]at hc;subst hc
   exact Yby (call:=call) hh hr h1 h2 h
  ·cases hc
 case makeMap t rsv=>
  cases rsv<;>simp only[reduceCtorEq]at hc
  simp only[ak]at hc;subst hc
  exact Yf3 (call:=call) (r:=r) hh h
 case makeChan t x=>
  split at hc
  ·rename_i d e hu
   split at hc
   ·rename_i hb hx
    simp only[ak]at hc;subst hc
    exact Ybz (call:=call) hh hr hu hb hx h
   ·cases hc
  ·cases hc
 case makeSlice t x y=>
  split at hc
  ·rename_i e hu
   split at hc
   ·rename_i hs hb hz hx hy
    split at hc
    ·rename_i cy
     simp only[ak]at hc;subst hc
     exact Zx6 (call:=call) hh hr hu hs hb hz cy hx hy h
    ·cases hc
   ·cases hc
  ·cases hc
 case slice t x lo hi mx=>
  split at hc
  ·rename_i hx fA il dJ
   split at hc
   ·rename_i hu
    split at hc
    ·cases hc
    ·rename_i Jt
     simp only[ak]at hc;subst hc
     have hm:mx=none:=by
      cases mx with
      |none=>rfl
      |some q=>
       simp only[p9]at dJ
       split at dJ
       ·simp only[ak]at dJ
        subst dJ;simp at Jt
       ·cases dJ
     subst hm
     exact Zs1 (call:=call) hh hr hu hx fA il h
   ·rename_i e hu
    simp only[fZ]at hc;obtain⟨s,h1,rfl⟩:=hc
    exact Zw9 (call:=call) hh hr hu h1 hx fA il dJ h
   ·rename_i k e hu
    simp only[fZ]at hc;obtain⟨s,h1,rfl⟩:=hc
    exact Zs2 (call:=call) hh hr hu h1 hx fA il dJ h
   ·cases hc
  ·cases hc
 case fieldAddr t x i=>
  split at hc
  ·rename_i hu hx
   split at hc
   ·rename_i f hf
    split at hc
    ·rename_i hk
     simp only[ak]at hc;subst hc
     exact Ygl (call:=call) hh hr hu hf hk hx h
    ·cases hc
   ·cases hc
  ·cases hc
 case field t x i=>
  split at hc
  ·rename_i hu hx
   split at hc
   ·rename_i f hf
    simp only[fZ]at hc;obtain⟨s,h1,rfl⟩:=hc
    exact Ygk (call:=call) hh hr hu hf h1 hx h
   ·cases hc
  ·cases hc
 case indexAddr t x i=>
  split at hc
  ·rename_i hu hx hi
   simp only[fZ]at hc;obtain⟨s,h1,rfl⟩:=hc
   exact Zua (call:=call) hh hr hu h1 hx hi h
  ·rename_i hu hx hi
   simp only[fZ]at hc;obtain⟨s,h1,rfl⟩:=hc
   exact Zyx (call:=call) hh hr hu h1 hx hi h
  ·cases hc
 case index t x i=>
  split at hc
  ·rename_i hu hx hi
   split at hc
   ·rename_i hs ha
    simp only[ak]at hc;subst hc
    exact Ycp (call:=call) hh hr hu hs ha hx hi h
   ·cases hc
  ·rename_i hu hx hi
   simp only[ak]at hc;subst hc
   exact Ycn (call:=call) hh hr hu hx hi h
  ·cases hc
 case lookup t x k ok=>
  split at hc
  ·rename_i hu hx hk
   split at hc
   ·rename_i h1 h2
    simp only[ak]at hc;subst hc
    exact Yb6 (call:=call) hh hr hu h1 h2 hx hk h
   ·cases hc
  ·cases hc
 case mapUpdate t x k y=>
  split at hc
  ·rename_i hu hx hk hy
   simp only[fZ]at hc;obtain⟨s,h1,rfl⟩:=hc
   exact ZN (call:=call) hh hr hu h1 hx hk hy h
  ·cases hc
 case insert t x k y=>
  split at hc
  ·rename_i hu hx hk hy
   simp only[fZ]at hc;obtain⟨s,h1,rfl⟩:=hc
   exact ZN (call:=call) hh hr hu h1 hx hk hy h
  ·cases hc
 case range t x=>
  split at hc
  ·rename_i hu hx
   simp only[ak]at hc;subst hc
   exact Zte (call:=call) hh hr hu hx h
  ·rename_i hu hx
   simp only[ak]at hc;subst hc
   exact Ztf (call:=call) hh hr hu hx h
  ·cases hc
 case next it isS=>
  cases isS
  ·simp only[fZ]at hc;obtain⟨s,h1,rfl⟩:=hc
   exact Zxt (call:=call) hh hr h1 h
  ·simp only[fZ]at hc;obtain⟨s,h1,rfl⟩:=hc
   exact Zxs (call:=call) hh hr h1 h
 case extract x i=>simp only[fZ]at hc;obtain⟨s,h1,rfl⟩:=hc;exact Zy4 (call:=call) hh hr h1 h
 case call c=>
  obtain⟨callee,args,ats⟩:=c
  cases callee with
  |invoke r' nm=>simp only[BL,reduceCtorEq]at hc
  |builtin b=>
   have:=Zuq (ty:=ty) (cs:=args.map fun|.const _=>true|_=>false) hh hr hc h
   obtain⟨nx,x,w',μ',ws,k1,k2⟩:=this
   refine⟨nx,x,w',μ',ws,?_,k2⟩
   rw[<-k1]
   simp[execOp,resolve,invoke]
   rfl
  |value f=>
   simp only[BL]at hc
   split at hc
   ·cases hc
   ·rename_i ss Cf
    cases f<;>simp only at hc
    case func gid=>
     split at hc
     ·rename_i fn zE
      split at hc
      ·simp only[ak]at hc;subst hc;simp[fS.mT]at hn
      ·rename_i hb
       split at hc
       ·rename_i e he
        simp only[ak]at hc;subst hc
        have:=Yn1 (call:=call) hh hr hE zE (by simpa using hb) he Cf h
        obtain⟨nx,x,w',μ',ws,k1,k2⟩:=this
        refine⟨nx,x,w',μ',ws,?_,k2⟩
        rw[<-k1]
        have e0:(⟨List.map a.eval args.toList⟩:Array Value)=args.map a.eval:=by apply xD;simp
        rw[e0]
        simp[execOp,resolve,invoke,Deferred.ofValue,Act.eval]
       ·cases hc
     ·cases hc
    all_goals
     split at hc
     ·simp only[ak]at hc;subst hc;simp[fS.mT]at hn
     ·cases hc
end
abbrev FE(lb:Option Nat):Fence:={Fence.wide with round:=lb}
def Ea(R:Value->World->Prop):Ending->World->Prop
 |.returned x,w=>R x w
 |_,_=>False
def I5(P:Program)(y:Bool)(G:Value)(xs:Array Value)(w:World)(R:Value->World->Prop):Prop:=
 (∃d,(Deferred.ofValue G xs).run P w=.ok d w/\
  ((y=false/\∃f args,(invoke d.target d.args).run P w=.ok (.enter f args) w/\CallsIn Fence.wide 0 P f args w (Ea R))\/
     (y=true/\∃l f tmps fw fx,(invoke d.target d.args).run P w=.ok (.round l f tmps fw fx) w/\RoundIn Fence.wide 0 P l f tmps fw fx w (Ea R))))
def iO(P:Program)(call:cH):Prop:=
 ∀(g:V) (args:List V) (st:St) (v:V) (ax:St),call g args st=some (v,ax)->∀(μ:Mu) (w:World) (G:Value) (xs:List Value),a_ P μ w st->VR μ g G->aP μ args xs->
  I5 P g.GO G ⟨xs⟩ w fun x w'=>∃μ' ws,VR μ' v x/\bA P μ w st μ' w' ax ws
def nJ(μ:Mu):List Nat->List Deferred->Prop
 |[],ds=>ds=[]
 |m::ms,ds=>∃l B8,μ m=some l/\ds={target:=.collected l.b,args:=#[]}::B8/\nJ μ ms B8
def nJ.mono{μ μ':Mu}(h:∀i l,μ i=some l->μ' i=some l):∀{ms:List Nat} {ds:List Deferred},nJ μ ms ds->nJ μ' ms ds
 |[],_,hd=>hd
 |_::_,_,⟨l,B8,h1,h2,h3⟩=>⟨l,B8,h _ _ h1,h2,nJ.mono h h3⟩
def kr(μ:Mu)(fr:Fr)(a:Act):Prop:=RR μ fr.r fr.n a.tmps/\nJ μ fr.marks a.defers
def kr.mono{μ μ':Mu}(h:∀i l,μ i=some l->μ' i=some l){fr:Fr}{a:Act}(hf:kr μ fr a):kr μ' fr a:=⟨hf.1.mono h,hf.2.mono h⟩
section
variable {P:Program} {μ:Mu} {w:World} {st ax:St} {fr bB:Fr} {a:Act} {call:cH} {v:V} {lb:Option Nat}
def bA.mono{μ':Mu}{w':World}{ws:List Nat}(hh:a_ P μ w st)(h:bA P μ w st μ' w' ax ws):∀i l,μ i=some l->μ' i=some l:=a_.Dl hh h.ext
def kr.put(hf:kr μ fr a){d:Option Nat}{x:Value}(hv:VR μ v x)(h:fr.put d v=some bB):kr μ bB (a.put d x):=by
 cases d with
 |none=>
  simp only[Fr.put,ak]at h;subst h
  exact hf
 |some d=>
  simp only[Fr.put]at h
  split at h
  ·rename_i hd
   simp only[ak]at h;subst h
   exact⟨hf.1.set hd hv,hf.2⟩
  ·cases h
def RT(bR:iO P call)(hE:rn P)(hh:a_ P μ w st)(hf:kr μ fr a){o:Oper}(h:bX (xx P o.op) call fr.r st=some (v,ax)){K:Act->World->Prop}{Q:Exit->Act->World->Prop}
  (hK:∀x w' μ' ws,VR μ' v x->bA P μ w st μ' w' ax ws->K (a.put o.dst x) w'):o.wpIn (FE lb) 0 P a w K Q:=by
 refine⟨fun _ _=>trivial,?_⟩
 have zC:∀c,o.op≠.defer c:=by
  intro c hc
  rw[hc]at h
  simp only[xx,Gs,Option.getD_none]at h
  cases h
 show o.uponIn (FE lb) 0 P a K Q ((o.semAt lb a.eval).run P w)
 rw[Oper.semAt_eq _ _ _ zC]
 cases hc:Gs P o.op with
 |none=>
  simp only[xx,hc,Option.getD_none]at h
  cases h
 |some m=>
  simp only[xx,hc,BH]at h
  by_cases hn:m.mT=true
  ·-- a call
   obtain⟨dst,op,ty,pos,af,g⟩:=o
   cases m<;>simp only[fS.mT,fY]at hn
   rename_i sf ss
   have vJ:∃c f,op=.call c/\c.callee=.value f/\bk P f=some sf/\sH P c.args.toList=some ss:=by
    cases op<;>simp only[Gs]at hc<;>try (cases hc;done)
    case call c=>
     obtain⟨callee,args,ats⟩:=c
     cases callee with
     |invoke r' nm=>simp only[BL,reduceCtorEq]at hc
     |builtin b=>
      exfalso
      simp only[BL]at hc
      repeat' split at hc
      all_goals first|(cases hc;done)|(simp at hc;done)
     |value f=>
      simp only[BL]at hc
      split at hc
      ·cases hc
      ·rename_i ss' Cf
       refine⟨_,f,rfl,rfl,?_⟩
       cases f<;>simp only at hc
       case func gid=>
        split at hc
        ·split at hc
         ·simp only[ak,fS.call.injEq]at hc
          obtain⟨rfl,rfl⟩:=hc
          exact⟨rfl,Cf⟩
         ·split at hc
          ·simp at hc
          ·cases hc
        ·cases hc
       all_goals
        split at hc
        ·rename_i h1
         simp only[ak,fS.call.injEq]at hc
         obtain⟨rfl,rfl⟩:=hc
         exact⟨h1,Cf⟩
        ·cases hc
    all_goals
     exfalso
     repeat' split at hc
     all_goals first|(cases hc;done)|contradiction|(simp at hc;done)|(rw[Gy]at hc;simp at hc;done)
   obtain⟨c,f,rfl,Tb,h1,h2⟩:=vJ
   have h':wI sf ss call fr.r st=some (v,ax):=h
   unfold wI at h'
   split at h'
   ·rename_i gv l hg hl
    have hG:=cE hh hf.1 h1 hg
    have hX:=Ef hh hf.1 h2 hl
    obtain⟨d,hd,gw⟩:=bR _ _ _ _ _ h' μ w _ _ hh hG hX
    have e0:(⟨List.map a.eval c.args.toList⟩:Array Value)=c.args.map a.eval:=by apply xD;simp
    rw[e0]at hd
    have qK:(resolve a.eval c ty).run P w=.ok d w:=by
     simp only[resolve,Tb]
     exact hd
    rcases gw with⟨_,g',args,hinv,D5⟩|⟨_,l',g',tmps,fw,fx,hinv,GS⟩
    ·have bH:(execOp a.eval ⟨dst,.call c,ty,pos,af,g⟩).run P w=.ok (.enter g' args) w:=by
      simp only[execOp,Sem.run_bind,qK,Result.andThen_ok,hinv]
     rw[bH,Oper.uponIn_enter]
     refine⟨fun hx=>by simp[Fence.wide]at hx,?_⟩
     refine CallsIn.mono (F:=Fence.wide) D5 fun e w' he=>?_
     cases e with
     |returned x=>
      obtain⟨μ',ws,q1,q2⟩:=he
      exact hK x w' μ' ws q1 q2
     |panicked _=>exact he.elim
     |outgrown=>exact he.elim
    ·have bH:(execOp a.eval ⟨dst,.call c,ty,pos,af,g⟩).run P w=.ok (.round l' g' tmps fw fx) w:=by
      simp only[execOp,Sem.run_bind,qK,Result.andThen_ok,hinv]
     rw[bH,Oper.uponIn_round]
     refine⟨fun hx=>by simp[Fence.wide]at hx,?_⟩
     refine RoundIn.mono (F:=Fence.wide) GS fun e w' he=>?_
     cases e with
     |returned x=>
      obtain⟨μ',ws,q1,q2⟩:=he
      exact hK x w' μ' ws q1 q2
     |panicked _=>exact he.elim
     |outgrown=>exact he.elim
   ·cases h'
  ·obtain⟨nx,x,w',μ',ws,k1,k2,k3,k4⟩:=Ym8 hh hf.1 hE hc (by simpa using hn) h
   rw[k1]
   rcases k2 with rfl|⟨rfl,rfl⟩
   ·rw[Oper.uponIn_value];exact hK x w' μ' ws k3 k4
   ·rw[Oper.uponIn_skip];exact hK undef w' μ' ws k3 k4
def Yq{ops:Array Oper}{o:Oper}{g:Option (Nat×Bool)}(hr:RR μ fr.r fr.n a.tmps)(hg:Dd ops o.guard=some g){b:Bool}(h:bM fr.r g=some b):Region.wanted o (yielded ops a.tmps)=b:=by
 unfold Region.wanted
 cases ho:o.guard with
 |none=>
  rw[ho]at hg
  simp only[Dd,ak]at hg;subst hg
  simp only[bM,ak]at h
  exact h
 |some p=>
  obtain⟨j,want⟩:=p
  rw[ho]at hg
  simp only[Dd]at hg
  split at hg
  ·rename_i t ht
   simp only[ak]at hg;subst hg
   simp only[bM]at h
   split at h
   ·rename_i b' hb
    simp only[ak]at h;subst h
    obtain⟨x,hx,hv⟩:=hr.2 _ _ hb
    simp only[VR]at hv
    subst hv
    simp[yielded,ht,hx]
   ·rename_i l hb
    simp only[ak]at h;subst h
    obtain⟨x,hx,y,hv,_⟩:=hr.2 _ _ hb
    subst hv
    simp[yielded,ht,hx]
   ·cases h
  ·cases hg
end
end Go.Mx
