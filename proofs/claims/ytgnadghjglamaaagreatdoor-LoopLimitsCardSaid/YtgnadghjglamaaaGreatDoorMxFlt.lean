/-The operations of M stand for the Go mod-/
import Derived.Test.YtgnadghjglamaaaGreatDoorMxOp10
import Derived.RangeFuncRecord
import Derived.OrdersIn
set_option linter.all false
namespace Go.Mx
open Go
section
variable {P:Program} {μ:Mu} {w:World} {st aB:St} {r:T V} {n:Nat} {a:Act} {call:cM} {v:V}
def Zyo{op:BinOp}{t:TypeId}{k:FloatKind}{p q:Nat}{z:V}(h:Ycl op k p q=some z):∃y,(binOp op t (.float k p) (.float k q)).run P w=.ok y w/\VR μ z y:=by
 unfold Ycl at h
 cases op<;>simp only[reduceCtorEq]at h
 case add=> 
  simp only[ig]at h
  obtain⟨m,hm,rfl⟩:=h
  exact⟨.float k m,by simp[binOp,Op.floatArith,hm],by simp[VR]⟩
 case sub=> 
  simp only[ig]at h
  obtain⟨m,hm,rfl⟩:=h
  exact⟨.float k m,by simp[binOp,Op.floatArith,hm],by simp[VR]⟩
 case mul=> 
  simp only[ig]at h
  obtain⟨m,hm,rfl⟩:=h
  exact⟨.float k m,by simp[binOp,Op.floatArith,hm],by simp[VR]⟩
 case quo=> 
  simp only[ig]at h
  obtain⟨m,hm,rfl⟩:=h
  exact⟨.float k m,by simp[binOp,Op.floatArith,hm],by simp[VR]⟩
 all_goals
  simp only[au]at h;subst h
  exact⟨_,by simp[binOp,Op.floatCmp];rfl,by simp[VR]⟩
def Ykr(hh:bk P μ w st)(hr:RR μ r n a.tmps){op:BinOp}{t:TypeId}{x y:Operand}{s u:Src}(hx:bo P x=some s)(hy:bo P y=some u)
  (h:Ok op s u call r st=some (v,aB)):
  a_ P μ w st (do pure (.value (<-(do eqGuard op t x y (a.eval x) (a.eval y);binOp op t (a.eval x) (a.eval y):Sem Value)))) v aB:=by
 unfold Ok at h
 split at h
 ·rename_i k p k' q hs hu
  have h1:=cO hh hr hx hs
  have h2:=cO hh hr hy hu
  simp only[VR]at h1 h2
  rw[h1,h2]
  split at h
  ·rename_i e;subst e
   split at h
   ·rename_i z hz
    simp only[au,bj]at h
    obtain⟨rfl,rfl⟩:=h
    obtain⟨y',h3,h4⟩:=Zyo (P:=P) (μ:=μ) (w:=w) (t:=t) hz
    exact a_.value hh (Cu (OK (by intro h;cases h) (by intro _ _ h;cases h)) h3) h4
   ·cases h
  ·cases h
 ·cases h
def Ykt(hh:bk P μ w st)(hr:RR μ r n a.tmps){src dst:TypeId}{k:IntKind}{q:FloatKind}{x:Operand}{s:Src}(hs:P.underlying src=some (.float q))(hd:P.underlying dst=some (.int k))(hx:bo P x=some s)
  (h:Ol k s call r st=some (v,aB)):a_ P μ w st (do pure (.value (<-convert src dst (a.eval x)))) v aB:=by
 unfold Ol at h
 split at h
 ·rename_i q' b hm
  have he:=cO hh hr hx hm
  simp only[VR]at he
  split at h
  ·rename_i m hmm
   split at h
   ·rename_i hb
    simp only[au,bj]at h
    obtain⟨rfl,rfl⟩:=h
    exact a_.value hh (x:=.int k m) (by simp[convert,run_underlying hs,run_underlying hd,he,Conv.floatToInt,hmm,hb]) (by simp[VR])
   ·cases h
  ·cases h
 ·cases h
def Yod(hh:bk P μ w st)(hr:RR μ r n a.tmps){ts:Array TypeId}{ty:TypeId}{x:Operand}{s:Src}
  (hx:bo P x=some s) (h:Jj false s call r st=some (v,aB)):a_ P μ w st (do pure (.value (<-Builtin.real_ ts ty #[a.eval x]))) v aB:=by
 unfold Jj at h
 split at h
 ·rename_i k p q hm
  have he:=cO hh hr hx hm
  simp only[VR]at he
  simp only[au,bj]at h
  obtain⟨rfl,rfl⟩:=h
  exact a_.value hh (x:=.float k p) (by rw[he];rfl) (by simp[VR])
 ·cases h
def Ypc(hh:bk P μ w st)(hr:RR μ r n a.tmps){ts:Array TypeId}{ty:TypeId}{x:Operand}{s:Src}
  (hx:bo P x=some s) (h:Jj true s call r st=some (v,aB)):a_ P μ w st (do pure (.value (<-Builtin.imag_ ts ty #[a.eval x]))) v aB:=by
 unfold Jj at h
 split at h
 ·rename_i k p q hm
  have he:=cO hh hr hx hm
  simp only[VR]at he
  simp only[au,bj]at h
  obtain⟨rfl,rfl⟩:=h
  exact a_.value hh (x:=.float k q) (by rw[he];rfl) (by simp[VR])
 ·cases h
end
section
variable {P:Program} {μ:Mu} {w:World} {st aB:St} {r:T V} {n:Nat} {a:Act} {call:cM} {v:V}
def gF.oh:gF->Bool
 |.call _ _=>true
 |_=>false
def xJ{α:Type}{a:Array α}{x:α}(h:a.toList=[x]):a=#[x]:=by
 apply zz;simpa using h
def OW{α:Type}{a:Array α}{x y:α}(h:a.toList=[x,y]):a=#[x,y]:=by
 apply zz;simpa using h
def Zun(hh:bk P μ w st)(hr:RR μ r n a.tmps){b:Builtin}{ts:Array TypeId}{xs:Array Operand}{ty:TypeId}{cs:Array Bool}{m:gF}(hc:DD P ⟨.builtin b,xs,ts⟩=some m)
  (h:cG m call r st=some (v,aB)):a_ P μ w st (builtin b ts ty cs (xs.map a.eval)) v aB:=by
 simp only[DD]at hc
 split at hc
 ·rename_i t x ht hx
  have e1:=xJ ht
  have e2:=xJ hx
  subst e1 e2
  simp only[builtin,B2,lF,uH]
  split at hc
  ·rename_i s hu hs
   simp only[au]at hc;subst hc
   exact Zx1 (call:=call) hh hr hu hs h
  ·rename_i e s hu hs
   simp only[au]at hc;subst hc
   exact Zre (call:=call) hh hr hu hs h
  ·rename_i k e s hu hs
   simp only[au]at hc;subst hc
   exact Zx2 (call:=call) hh hr hu hs h
  ·rename_i k e s hu
   simp only[au]at hc;subst hc
   exact Zrf (call:=call) (r:=r) hh (.inl ⟨_,hu⟩) h
  ·rename_i u s hu
   split at hc
   ·rename_i k e fD
    simp only[au]at hc;subst hc
    exact Zrf (call:=call) (r:=r) hh (.inr ⟨_,_,hu,fD⟩) h
   ·cases hc
  ·cases hc
 ·rename_i t x ht hx
  have e1:=xJ ht
  have e2:=xJ hx
  subst e1 e2
  simp only[builtin,B2,lF,uH]
  split at hc
  ·rename_i e s hu hs
   simp only[au]at hc;subst hc
   exact Ynh (call:=call) hh hr hu hs h
  ·cases hc
 ·split at hc
  ·rename_i l hl
   simp only[au]at hc;subst hc
   exact Yo6 (call:=call) hh hr hl h
  ·cases hc
 ·split at hc
  ·rename_i l hl
   simp only[au]at hc;subst hc
   exact Yo5 (call:=call) hh hr hl h
  ·cases hc
 ·rename_i t u s x ht hx
  have e1:=OW ht
  have e2:=OW hx
  subst e1 e2
  simp only[builtin,B2,lF,uH]
  split at hc
  ·rename_i e hu
   split at hc
   ·rename_i n' b' z s' x' d hs hb hz kQ mI hd
    rw[Lv]at hc
    obtain⟨cW,hc⟩:=hc
    simp only[not_or,Decidable.not_not]at cW
    obtain⟨c1,c2,c3,c4⟩:=cW
    simp only[au]at hc;subst hc
    have c4':z.cells.all V.one=true:=by simpa using c4
    exact Ydq (call:=call) hh hr (by rfl) hu (by rfl) hd (fun k hk=>by subst hk;simp at c1) hs hb hz c3 c4' c2 kQ mI h
   ·cases hc
  ·cases hc
 ·rename_i t ts' d s ht hx
  have e2:=OW hx
  subst e2
  simp only[builtin,B2,lF,uH]
  split at hc
  ·rename_i e hu
   split at hc
   ·rename_i n' d' s' hs hd kQ
    simp only[au]at hc;subst hc
    exact Yk6 (call:=call) hh hr (by rw[<-zw,ht];rfl) hu hs hd kQ h
   ·cases hc
  ·cases hc
 ·rename_i t s ht hx
  have e1:=xJ ht
  have e2:=xJ hx
  subst e1 e2
  simp only[builtin,B2,lF,uH]
  split at hc
  ·rename_i e hu
   split at hc
   ·rename_i n' z s' hs hz kQ
    split at hc
    ·rename_i cI
     simp only[au]at hc;subst hc
     exact Ygv (call:=call) hh hr hu hz cI kQ h
    ·cases hc
   ·cases hc
  ·cases hc
 ·rename_i t s ht hx
  have e1:=xJ ht
  have e2:=xJ hx
  subst e1 e2
  simp only[builtin,B2,lF,uH]
  simp only[ig]at hc
  obtain⟨s',hs,rfl⟩:=hc
  exact Yes (call:=call) hh hr hs h
 ·rename_i t s ht hx
  have e1:=xJ ht
  have e2:=xJ hx
  subst e1 e2
  simp only[builtin,B2,lF,uH]
  simp only[ig]at hc
  obtain⟨s',hs,rfl⟩:=hc
  exact Yod (call:=call) hh hr hs h
 ·rename_i t s ht hx
  have e1:=xJ ht
  have e2:=xJ hx
  subst e1 e2
  simp only[builtin,B2,lF,uH]
  simp only[ig]at hc
  obtain⟨s',hs,rfl⟩:=hc
  exact Ypc (call:=call) hh hr hs h
 ·rename_i t u x y ht hx
  have e1:=OW ht
  have e2:=OW hx
  subst e1 e2
  simp only[builtin,B2,lF,uH]
  split at hc
  ·rename_i e hu
   split at hc
   ·rename_i s q hs hx hy
    simp only[au]at hc;subst hc
    exact Yim (call:=call) hh hr hu hs hx hy h
   ·cases hc
  ·cases hc
 ·cases hc
def Ymi(hh:bk P μ w st)(hr:RR μ r n a.tmps)(hE:tN P){o:Oper}{m:gF}(hc:LA P o.op=some m)(hn:m.oh=false)(h:cG m call r st=some (v,aB)):
  a_ P μ w st (execOp a.eval o) v aB:=by
 obtain⟨dst,op,ty,pos,af,g⟩:=o
 cases op<;>simp only[LA]at hc<;>try (cases hc;done)
 case move x=>simp only[ig]at hc;obtain⟨s,h1,rfl⟩:=hc;exact Yhp (call:=call) hh hr h1 h
 case assign x=>simp only[ig]at hc;obtain⟨s,h1,rfl⟩:=hc;exact Yhp (call:=call) hh hr h1 h
 case pick c x y=>
  split at hc
  ·rename_i h1 h2 h3
   simp only[au]at hc;subst hc
   exact Yjh (call:=call) hh hr h1 h2 h3 h
  ·cases hc
 case alloc e=>
  split at hc
  ·rename_i z hz
   split at hc
   ·rename_i cI
    simp only[au]at hc;subst hc
    exact Yg4 (call:=call) (r:=r) hh hz cI h
   ·cases hc
  ·cases hc
 case box e x=>simp only[ig]at hc;obtain⟨s,h1,rfl⟩:=hc;exact Ynj (call:=call) hh hr h1 h
 case build t parts=>
  split at hc
  ·cases hc
  ·rename_i z hz
   split at hc
   ·rename_i fs yc
    split at hc
    ·rename_i pl Cv
     simp only[ig]at hc
     obtain⟨tZ,h1,rfl⟩:=hc
     exact Zns (call:=call) hh hr hz yc Cv h1 h
    ·cases hc
   ·rename_i k e hu
    split at hc
    ·rename_i s hs
     simp only[ig]at hc
     obtain⟨tZ,h1,rfl⟩:=hc
     exact Zn7 (call:=call) hh hr hz hu hs h1 h
    ·cases hc
   ·cases hc
 case buildSlice t len parts=>
  split at hc
  ·rename_i e hu
   split at hc
   ·rename_i s z hs hz
    split at hc
    ·cases hc
    ·rename_i cW
     simp only[not_or,Decidable.not_not]at cW
     simp only[ig]at hc
     obtain⟨tZ,h1,rfl⟩:=hc
     exact Ydo (call:=call) hh hr hu hs hz cW.1 cW.2.1 h1 h
   ·cases hc
  ·cases hc
 case load t x=>
  split at hc
  ·rename_i h1 h2
   simp only[au]at hc;subst hc
   exact Yka (call:=call) hh hr h1 h2 h
  ·cases hc
 case store t x y=>
  split at hc
  ·rename_i h1 h2 h3
   simp only[au]at hc;subst hc
   exact Yen (call:=call) hh hr h1 h2 h3 h
  ·cases hc
 case nilCheck x=>simp only[ig]at hc;obtain⟨s,h1,rfl⟩:=hc;exact Yfj (call:=call) hh hr h1 h
 case binOp op t x y p=>
  split at hc
  ·rename_i s u h1 h2
   split at hc
   ·rename_i ze5
    simp only[au]at hc;subst hc
    exact Ykr (call:=call) hh hr h1 h2 h
   have fin:∀q ng,Ylu P op t x y q ng->m=.bin op q ng s u->a_ P μ w st (execOp a.eval ⟨dst,.binOp op t x y p,ty,pos,af,g⟩) v aB:=by
    intro q ng hq hm
    subst hm
    exact Ynk (call:=call) hh hr h1 h2 hq h
   cases op
   case eql=>
    simp only at hc
    split at hc
    ·rename_i q hq
     rw[Lv]at hc
     obtain⟨cW,hc⟩:=hc
     simp only[au]at hc
     exact fin _ _ (fun _=>⟨hq,by rw[Bool.not_eq_true]at cW;exact cW,rfl⟩) hc.symm
    ·cases hc
   case neq=>
    simp only at hc
    split at hc
    ·rename_i q hq
     rw[Lv]at hc
     obtain⟨cW,hc⟩:=hc
     simp only[au]at hc
     exact fin _ _ (fun _=>⟨hq,by rw[Bool.not_eq_true]at cW;exact cW,rfl⟩) hc.symm
    ·cases hc
   all_goals
    simp only[au]at hc
    exact fin _ _ (fun hq=>by rcases hq with hq|hq<;>cases hq) hc.symm
  ·cases hc
 case unOp op t x=>simp only[ig]at hc;obtain⟨s,h1,rfl⟩:=hc;exact Yn6 (call:=call) hh hr h1 h
 case convert src dst' x=>
  split at hc
  ·cases hc
  ·rename_i s h1
   split at hc
   ·rename_i q k hq hk
    simp only[au]at hc;subst hc
    exact Zy4 (call:=call) hh hr ⟨_,hq⟩ hk h1 h
   ·rename_i q k hq hk
    simp only[au]at hc;subst hc
    exact Ykt (call:=call) hh hr hq hk h1 h
   ·rename_i hq hk
    simp only[au]at hc;subst hc
    exact Zy3 (call:=call) hh hr hq hk h1 h
   ·rename_i e hq hk
    split at hc
    ·rename_i he
     simp only[au]at hc;subst hc
     exact Zss (call:=call) hh hr hq hk he h1 h
    ·cases hc
   ·rename_i e hq hk
    split at hc
    ·rename_i he
     simp only[au]at hc;subst hc
     exact Zum (call:=call) hh hr hq hk he h1 h
    ·cases hc
   ·rename_i t hq hk
    split at hc
    ·rename_i z hz
     simp only[au]at hc;subst hc
     exact Zzn (call:=call) hh hr hq hk hz h1 h
    ·cases hc
   ·rename_i u hq hk
    split at hc
    ·rename_i z hz
     simp only[au]at hc;subst hc
     exact Zsl (call:=call) hh hr hq hk hz h1 h
    ·cases hc
   ·cases hc
 case makeInterface t x=>
  split at hc
  ·cases hc
  ·rename_i d bF hd
   simp only[ig]at hc;obtain⟨s,h1,rfl⟩:=hc
   exact Zxw (call:=call) hh hr hd (fun k hk=>bF k hk) h1 h
  ·cases hc
 case makeFunc f first gD=>
  cases f<;>simp only[reduceCtorEq]at hc
  split at hc
  ·rename_i h1 h2
   simp only[au]at hc;subst hc
   exact Ybn (call:=call) hh hr h1 h2 h
  ·cases hc
 case makeMap t rsv=>
  cases rsv<;>simp only[reduceCtorEq]at hc
  simp only[au]at hc;subst hc
  exact Yfs (call:=call) (r:=r) hh h
 case makeChan t x=>
  split at hc
  ·rename_i d e hu
   split at hc
   ·rename_i hb hx
    simp only[au]at hc;subst hc
    exact Ybo (call:=call) hh hr hu hb hx h
   ·cases hc
  ·cases hc
 case makeSlice t x y=>
  split at hc
  ·rename_i e hu
   split at hc
   ·rename_i hs hb hz hx hy
    split at hc
    ·rename_i cI
     simp only[au]at hc;subst hc
     exact Zxv (call:=call) hh hr hu hs hb hz cI hx hy h
    ·cases hc
   ·cases hc
  ·cases hc
 case slice t x lo hi mx=>
  split at hc
  ·rename_i hx fZ iZ dP
   split at hc
   ·rename_i hu
    split at hc
    ·cases hc
    ·rename_i OX
     simp only[au]at hc;subst hc
     have hm:mx=none:=by
      cases mx with
      |none=>rfl
      |some q=>
       simp only[rW]at dP
       split at dP
       ·simp only[au]at dP
        subst dP;simp at OX
       ·cases dP
     subst hm
     exact Zsv (call:=call) hh hr hu hx fZ iZ h
   ·rename_i e hu
    simp only[ig]at hc;obtain⟨s,h1,rfl⟩:=hc
    exact Zw0 (call:=call) hh hr hu h1 hx fZ iZ dP h
   ·rename_i k e hu
    simp only[ig]at hc;obtain⟨s,h1,rfl⟩:=hc
    exact Zsw (call:=call) hh hr hu h1 hx fZ iZ dP h
   ·cases hc
  ·cases hc
 case fieldAddr t x i=>
  split at hc
  ·rename_i hu hx
   split at hc
   ·rename_i f hf
    split at hc
    ·rename_i hk
     simp only[au]at hc;subst hc
     exact Yga (call:=call) hh hr hu hf hk hx h
    ·cases hc
   ·cases hc
  ·cases hc
 case field t x i=>
  split at hc
  ·rename_i hu hx
   split at hc
   ·rename_i f hf
    simp only[ig]at hc;obtain⟨s,h1,rfl⟩:=hc
    exact Yf9 (call:=call) hh hr hu hf h1 hx h
   ·cases hc
  ·cases hc
 case indexAddr t x i=>
  split at hc
  ·rename_i hu hx hi
   simp only[ig]at hc;obtain⟨s,h1,rfl⟩:=hc
   exact Zt4 (call:=call) hh hr hu h1 hx hi h
  ·rename_i hu hx hi
   simp only[ig]at hc;obtain⟨s,h1,rfl⟩:=hc
   exact Zyl (call:=call) hh hr hu h1 hx hi h
  ·cases hc
 case index t x i=>
  split at hc
  ·rename_i hu hx hi
   split at hc
   ·rename_i hs ha
    simp only[au]at hc;subst hc
    exact Ycd (call:=call) hh hr hu hs ha hx hi h
   ·cases hc
  ·rename_i hu hx hi
   simp only[au]at hc;subst hc
   exact Ycb (call:=call) hh hr hu hx hi h
  ·cases hc
 case lookup t x k ok=>
  split at hc
  ·rename_i hu hx hk
   split at hc
   ·rename_i h1 h2
    simp only[au]at hc;subst hc
    exact Ybw (call:=call) hh hr hu h1 h2 hx hk h
   ·cases hc
  ·cases hc
 case mapUpdate t x k y=>
  split at hc
  ·rename_i hu hx hk hy
   simp only[ig]at hc;obtain⟨s,h1,rfl⟩:=hc
   exact Zrc (call:=call) hh hr hu h1 hx hk hy h
  ·cases hc
 case insert t x k y=>
  split at hc
  ·rename_i hu hx hk hy
   simp only[ig]at hc;obtain⟨s,h1,rfl⟩:=hc
   exact Zrc (call:=call) hh hr hu h1 hx hk hy h
  ·cases hc
 case range t x=>
  split at hc
  ·rename_i hu hx
   simp only[au]at hc;subst hc
   exact Zs9 (call:=call) hh hr hu hx h
  ·cases hc
 case next it isS=>
  cases isS<;>simp only[reduceCtorEq]at hc
  simp only[ig]at hc;obtain⟨s,h1,rfl⟩:=hc
  exact Zxi (call:=call) hh hr h1 h
 case extract x i=>simp only[ig]at hc;obtain⟨s,h1,rfl⟩:=hc;exact Zyt (call:=call) hh hr h1 h
 case call c=>
  obtain⟨callee,args,ats⟩:=c
  cases callee with
  |invoke r' nm=>simp only[DD,reduceCtorEq]at hc
  |builtin b=>
   have:=Zun (ty:=ty) (cs:=args.map fun|.const _=>true|_=>false) hh hr hc h
   obtain⟨nx,x,w',μ',ws,k1,k2⟩:=this
   refine⟨nx,x,w',μ',ws,?_,k2⟩
   rw[<-k1]
   simp[execOp,resolve,invoke]
   rfl
  |value f=>
   simp only[DD]at hc
   split at hc
   ·cases hc
   ·rename_i ss D8
    cases f<;>simp only at hc
    case func gid=>
     split at hc
     ·rename_i fn Be
      split at hc
      ·simp only[au]at hc;subst hc;simp[gF.oh]at hn
      ·rename_i hb
       split at hc
       ·rename_i e he
        simp only[au]at hc;subst hc
        have:=Yna (call:=call) hh hr hE Be (by simpa using hb) he D8 h
        obtain⟨nx,x,w',μ',ws,k1,k2⟩:=this
        refine⟨nx,x,w',μ',ws,?_,k2⟩
        rw[<-k1]
        have e0:(⟨List.map a.eval args.toList⟩:Array Value)=args.map a.eval:=by apply zz;simp
        rw[e0]
        simp[execOp,resolve,invoke,Deferred.ofValue,Act.eval]
       ·cases hc
     ·cases hc
    all_goals
     split at hc
     ·simp only[au]at hc;subst hc;simp[gF.oh]at hn
     ·cases hc
end
abbrev FE(lb:Option Nat):Fence:={Fence.wide with round:=lb}
def IF(R:Value->World->Prop):Ending->World->Prop
 |.returned x,w=>R x w
 |_,_=>False
def OC(P:Program)(y:Bool)(G:Value)(xs:Array Value)(w:World)(R:Value->World->Prop):Prop:=
 (∃d,(Deferred.ofValue G xs).run P w=.ok d w/\
  ((y=false/\∃f args,(invoke d.target d.args).run P w=.ok (.enter f args) w/\CallsIn Fence.wide 0 P f args w (IF R))\/
     (y=true/\∃l f tmps fU fV,(invoke d.target d.args).run P w=.ok (.round l f tmps fU fV) w/\RoundIn Fence.wide 0 P l f tmps fU fV w (IF R))))
def js(P:Program)(call:cM):Prop:=
 ∀(g:V) (args:List V) (st:St) (v:V) (aB:St),call g args st=some (v,aB)->∀(μ:Mu) (w:World) (G:Value) (xs:List Value),bk P μ w st->VR μ g G->aW μ args xs->
  OC P g.Lw G ⟨xs⟩ w fun x w'=>∃μ' ws,VR μ' v x/\bD P μ w st μ' w' aB ws
def ph(μ:Mu):List Nat->List Deferred->Prop
 |[],ds=>ds=[]
 |m::ms,ds=>∃l Dy,μ m=some l/\ds={target:=.collected l.b,args:=#[]}::Dy/\ph μ ms Dy
def ph.mono{μ μ':Mu}(h:∀i l,μ i=some l->μ' i=some l):∀{ms:List Nat} {ds:List Deferred},ph μ ms ds->ph μ' ms ds
 |[],_,hd=>hd
 |_::_,_,⟨l,Dy,h1,h2,h3⟩=>⟨l,Dy,h _ _ h1,h2,ph.mono h h3⟩
def l9(μ:Mu)(fr:Fr)(a:Act):Prop:=RR μ fr.r fr.n a.tmps/\ph μ fr.marks a.defers
def l9.mono{μ μ':Mu}(h:∀i l,μ i=some l->μ' i=some l){fr:Fr}{a:Act}(hf:l9 μ fr a):l9 μ' fr a:=⟨hf.1.mono h,hf.2.mono h⟩
section
variable {P:Program} {μ:Mu} {w:World} {st aB:St} {fr bG:Fr} {a:Act} {call:cM} {v:V} {lb:Option Nat}
def bD.mono{μ':Mu}{w':World}{ws:List Nat}(hh:bk P μ w st)(h:bD P μ w st μ' w' aB ws):∀i l,μ i=some l->μ' i=some l:=bk.IQ hh h.ext
def l9.put(hf:l9 μ fr a){d:Option Nat}{x:Value}(hv:VR μ v x)(h:fr.put d v=some bG):l9 μ bG (a.put d x):=by
 cases d with
 |none=>
  simp only[Fr.put,au]at h;subst h
  exact hf
 |some d=>
  simp only[Fr.put]at h
  split at h
  ·rename_i hd
   simp only[au]at h;subst h
   exact⟨hf.1.set hd hv,hf.2⟩
  ·cases h
def Yjm(b_:js P call)(hE:tN P)(hh:bk P μ w st)(hf:l9 μ fr a){o:Oper}(h:cG (zt P o.op) call fr.r st=some (v,aB)){K:Act->World->Prop}{Q:Exit->Act->World->Prop}
  (hK:∀x w' μ' ws,VR μ' v x->bD P μ w st μ' w' aB ws->K (a.put o.dst x) w'):o.wpIn (FE lb) 0 P a w K Q:=by
 refine⟨fun _ _=>trivial,?_⟩
 have Bl:∀c,o.op≠.defer c:=by
  intro c hc
  rw[hc]at h
  simp only[zt,LA,Option.getD_none]at h
  cases h
 show o.uponIn (FE lb) 0 P a K Q ((o.semAt lb a.eval).run P w)
 rw[Oper.semAt_eq _ _ _ Bl]
 cases hc:LA P o.op with
 |none=>
  simp only[zt,hc,Option.getD_none]at h
  cases h
 |some m=>
  simp only[zt,hc,Yxv]at h
  by_cases hn:m.oh=true
  ·-- a call
   obtain⟨dst,op,ty,pos,af,g⟩:=o
   cases m<;>simp only[gF.oh,gV]at hn
   rename_i sf ss
   have xL:∃c f,op=.call c/\c.callee=.value f/\bo P f=some sf/\uW P c.args.toList=some ss:=by
    cases op<;>simp only[LA]at hc<;>try (cases hc;done)
    case call c=>
     obtain⟨callee,args,ats⟩:=c
     cases callee with
     |invoke r' nm=>simp only[DD,reduceCtorEq]at hc
     |builtin b=>
      exfalso
      simp only[DD]at hc
      repeat' split at hc
      all_goals first|(cases hc;done)|(simp at hc;done)
     |value f=>
      simp only[DD]at hc
      split at hc
      ·cases hc
      ·rename_i ss' D8
       refine⟨_,f,rfl,rfl,?_⟩
       cases f<;>simp only at hc
       case func gid=>
        split at hc
        ·split at hc
         ·simp only[au,gF.call.injEq]at hc
          obtain⟨rfl,rfl⟩:=hc
          exact⟨rfl,D8⟩
         ·split at hc
          ·simp at hc
          ·cases hc
        ·cases hc
       all_goals
        split at hc
        ·rename_i h1
         simp only[au,gF.call.injEq]at hc
         obtain⟨rfl,rfl⟩:=hc
         exact⟨h1,D8⟩
        ·cases hc
    all_goals
     exfalso
     repeat' split at hc
     all_goals first|(cases hc;done)|contradiction|(simp at hc;done)|(rw[Lv]at hc;simp at hc;done)
   obtain⟨c,f,rfl,zdY,h1,h2⟩:=xL
   have h':yt sf ss call fr.r st=some (v,aB):=h
   unfold yt at h'
   split at h'
   ·rename_i gv l hg hl
    have hG:=cO hh hf.1 h1 hg
    have hX:=Ju hh hf.1 h2 hl
    obtain⟨d,hd,ik⟩:=b_ _ _ _ _ _ h' μ w _ _ hh hG hX
    have e0:(⟨List.map a.eval c.args.toList⟩:Array Value)=c.args.map a.eval:=by apply zz;simp
    rw[e0]at hd
    have tg:(resolve a.eval c ty).run P w=.ok d w:=by
     simp only[resolve,zdY]
     exact hd
    rcases ik with⟨_,g',args,hinv,IK⟩|⟨_,l',g',tmps,fU,fV,hinv,LZ⟩
    ·have bL:(execOp a.eval ⟨dst,.call c,ty,pos,af,g⟩).run P w=.ok (.enter g' args) w:=by
      simp only[execOp,Sem.run_bind,tg,Result.andThen_ok,hinv]
     rw[bL,Oper.uponIn_enter]
     refine⟨fun hx=>by simp[Fence.wide]at hx,?_⟩
     refine CallsIn.mono (F:=Fence.wide) IK fun e w' he=>?_
     cases e with
     |returned x=>
      obtain⟨μ',ws,q1,q2⟩:=he
      exact hK x w' μ' ws q1 q2
     |panicked _=>exact he.elim
     |outgrown=>exact he.elim
    ·have bL:(execOp a.eval ⟨dst,.call c,ty,pos,af,g⟩).run P w=.ok (.round l' g' tmps fU fV) w:=by
      simp only[execOp,Sem.run_bind,tg,Result.andThen_ok,hinv]
     rw[bL,Oper.uponIn_round]
     refine⟨fun hx=>by simp[Fence.wide]at hx,?_⟩
     refine RoundIn.mono (F:=Fence.wide) LZ fun e w' he=>?_
     cases e with
     |returned x=>
      obtain⟨μ',ws,q1,q2⟩:=he
      exact hK x w' μ' ws q1 q2
     |panicked _=>exact he.elim
     |outgrown=>exact he.elim
   ·cases h'
  ·obtain⟨nx,x,w',μ',ws,k1,k2,k3,k4⟩:=Ymi hh hf.1 hE hc (by simpa using hn) h
   rw[k1]
   rcases k2 with rfl|⟨rfl,rfl⟩
   ·rw[Oper.uponIn_value];exact hK x w' μ' ws k3 k4
   ·rw[Oper.uponIn_skip];exact hK undef w' μ' ws k3 k4
def Zob{ops:Array Oper}{o:Oper}{g:Option (Nat×Bool)}(hr:RR μ fr.r fr.n a.tmps)(hg:IB ops o.guard=some g){b:Bool}(h:bW fr.r g=some b):Region.wanted o (yielded ops a.tmps)=b:=by
 unfold Region.wanted
 cases ho:o.guard with
 |none=>
  rw[ho]at hg
  simp only[IB,au]at hg;subst hg
  simp only[bW,au]at h
  exact h
 |some p=>
  obtain⟨j,want⟩:=p
  rw[ho]at hg
  simp only[IB]at hg
  split at hg
  ·rename_i t ht
   simp only[au]at hg;subst hg
   simp only[bW]at h
   split at h
   ·rename_i b' hb
    simp only[au]at h;subst h
    obtain⟨x,hx,hv⟩:=hr.2 _ _ hb
    simp only[VR]at hv
    subst hv
    simp[yielded,ht,hx]
   ·rename_i l hb
    simp only[au]at h;subst h
    obtain⟨x,hx,y,hv,_⟩:=hr.2 _ _ hb
    subst hv
    simp[yielded,ht,hx]
   ·cases h
  ·cases hg
end
def Lo:Ex->Exit
 |.normal=>.normal
 |.exit id=>.exit id
 |.ret=>.ret
def Lp(μ:Mu):Option Nat->Option Nat->Prop
 |none,none=>True
 |some l,some b=>∃L,μ l=some L/\L.b=b
 |_,_=>False
def Lp.mono{μ μ':Mu}(h:∀i l,μ i=some l->μ' i=some l){ro lb:Option Nat}(hr:Lp μ ro lb):Lp μ' ro lb:=by
 cases ro<;>cases lb<;>simp only[Lp]at*
 obtain⟨L,h1,h2⟩:=hr
 exact⟨L,h _ _ h1,h2⟩
def tM(P:Program)(μ:Mu)(w:World)(st:St)(ex:Ex)(bG:Fr)(aB:St):Exit->Act->World->Prop:=fun e a' w'=>
 e=Lo ex/\∃μ' ws,bD P μ w st μ' w' aB ws/\l9 μ' bG a'
section
variable {P:Program} {μ:Mu} {w:World} {st aB:St} {fr bG:Fr} {a:Act} {call:cM} {v:V} {lb:Option Nat}
def Ybc(b_:js P call)(hE:tN P){ops:Array Oper}{Q:Exit->Act->World->Prop}:∀(is:List Nat) (os:List Oper),is.map (fun i=>ops[i]?)=os.map some->
  ∀{st:St} {fr:Fr} {a:Act} {w:World} {μ:Mu},bk P μ w st->l9 μ fr a->dG call (os.map (qF P ops)) fr st=some (bG,aB)->
   (∀a' w' μ' ws,l9 μ' bG a'->bD P μ w st μ' w' aB ws->Q .normal a' w')->wpOpsIn (FE lb) 0 P ops Q is a w:=by
 intro is
 induction is with
 |nil=>
  intro os zi st fr a w μ hh hf h hQ
  cases os with
  |cons o os=>simp at zi
  |nil=>
   simp only[uH,dG,Yhm,au,bj]at h
   obtain⟨rfl,rfl⟩:=h
   exact hQ a w μ [] hf (bD.refl hh)
 |cons i is ih=>
  intro os zi st fr a w μ hh hf h hQ
  cases os with
  |nil=>simp at zi
  |cons o os=>
   simp only[lF,gC]at zi
   obtain⟨hoi,zi⟩:=zi
   simp only[lF,dG,AS]at h
   unfold wpOpsIn
   rw[hoi]
   simp only[]
   have go:∀(v:V) (cr:St) (dS:Fr) (x:Value) (w1:World) (μ1:Mu) (ws:List Nat),VR μ1 v x->bD P μ w st μ1 w1 cr ws->fr.put o.dst v=some dS->dG call (os.map (qF P ops)) dS cr=some (bG,aB)->
     wpOpsIn (FE lb) 0 P ops Q is (a.put o.dst x) w1:=by
    intro v cr dS x w1 μ1 ws hv hs hp hm
    refine ih os zi hs.hr ((hf.mono (hs.mono hh)).put hv hp) hm fun a' w' μ' NU yV kQ=>?_
    exact hQ a' w' μ' _ yV (hs.trans kQ)
   unfold qF at h
   cases hg:IB ops o.guard with
   |none=>
    rw[hg]at h
    simp only[bW,cG,Ztb]at h
    cases h
   |some g=>
    rw[hg]at h
    simp only at h
    cases hw:bW fr.r g with
    |none=>rw[hw]at h;cases h
    |some b=>
     rw[hw]at h
     have wh:=Zob hf.1 hg hw
     cases b with
     |true=>
      rw[aQ wh]
      simp only at h
      split at h
      ·rename_i v1 cr hm
       split at h
       ·rename_i dS hp
        exact Yjm b_ hE hh hf hm fun x w' μ' ws q1 q2=>go v1 cr dS x w' μ' ws q1 q2 hp h
       ·cases h
      ·cases h
     |false=>
      rw[aA (by rw[wh];simp)]
      simp only at h
      split at h
      ·rename_i dS hp
       exact⟨fun _ _=>trivial,go (.aS []) st dS undef w μ [] ⟨[],rfl,by simp[aW]⟩ (bD.refl hh) hp h⟩
      ·cases h
def Yal{ops:Array Oper}:(List.range ops.size).map (fun i=>ops[i]?)=ops.toList.map some:=by
 apply qG
 intro i
 simp only[mL]
 by_cases h:i<ops.size
 ·simp[h]
 ·simp[h]
def Zn1{F:Fence}{n:Nat}{c:Code}{Q:Exit->Act->World->Prop}(J:Nat->Act->World->Prop)
  (round:∀f a w,J f a w->c.wpIn F n P (Exit.then (fun a' w'=>∃f',f'<f/\J f' a' w') Q) a w) {f:Nat} (h₀:J f a w):(Code.loop c).wpIn F n P Q a w:=by
 intro b k cs mM hb hr
 have key:∀j a w,J j a w->
   ∃e a' w',Q e a' w'/\ArrivesIn (Machine.fenced P F) P (lone (b.atR a (.code c::.inLoop c::k)) cs w) b k cs e a' w':=by
  intro j
  induction j using Nat.strongRecOn with
  |_ j ih=>
   intro a w hI
   obtain⟨e,a₁,w₁,hq,ib⟩:=round j a w hI b (.inLoop c::k) cs mM hb hr
   cases e with
   |normal=>
    obtain⟨f',aP,hI₁⟩:=hq
    obtain⟨e₂,a₂,w₂,hq₂,NV⟩:=ih f' aP a₁ w₁ hI₁
    exact⟨e₂,a₂,w₂,hq₂,.of_steps (StepsIn.trans ib (.one (fenced_calm hb hr rfl) stepR_inLoop)) NV⟩
   |exit id=>exact⟨_,a₁,w₁,hq,.pass (x:=.inLoop c) rfl (fun _ _=>.inl (by simp)) ib⟩
   |goto l=>exact⟨_,a₁,w₁,hq,.pass (x:=.inLoop c) rfl (fun _ _=>.inl (by simp)) ib⟩
   |ret=>exact⟨_,a₁,w₁,hq,.pass (x:=.inLoop c) rfl (fun _ _=>.inl (by simp)) ib⟩
   |panic ch=>exact⟨_,a₁,w₁,hq,.pass (x:=.inLoop c) rfl (fun _ _=>.inl (by simp)) ib⟩
   |outgrown=>exact⟨_,a₁,w₁,hq,.pass (x:=.inLoop c) rfl (fun _ _=>.inl (by simp)) ib⟩
 obtain⟨e,a',w',hq,ib⟩:=key _ a w h₀
 exact⟨e,a',w',hq,.of_steps (.one (fenced_calm hb hr rfl) stepR_loop) ib⟩
def Lq{b:Frame}{k:List Item}{cs:List Frame}{c:Code}:
  step P (lone (b.atR a (.code (.scope c)::k)) cs w)=.next (lone (b.atR a (.code c::.inScope c::k)) cs w):=
 step_lone_go (by simp[stepG,stepG.exec,Frame.atR])
def Zpe{b:Frame}{k:List Item}{cs:List Frame}{c:Code}:
  step P (lone (b.atR a (.inScope c::k)) cs w)=.next (lone (b.atR a k) cs w):=
 step_lone_go (by simp[stepG,stepG.exec,Frame.atR])
def Zwt{F:Fence}{n:Nat}{c:Code}{Q:Exit->Act->World->Prop}(h:c.wpIn F n P Q a w)(hq:∀l a w,¬Q (.goto l) a w):(Code.scope c).wpIn F n P Q a w:=by
 intro b k cs mM hb hr
 have h0:(lone (b.atR a (.code (.scope c)::k)) cs w).fenced P F:=fenced_calm hb hr rfl
 obtain⟨e,a₁,w₁,hQ,ib⟩:=h b (.inScope c::k) cs mM hb hr
 cases e with
 |normal=>exact⟨.normal,a₁,w₁,hQ,.head h0 Lq (StepsIn.trans ib (.one (fenced_calm hb hr rfl) Zpe))⟩
 |exit id=>
  have hx:exitTo id (.inScope c::k)=exitTo id k:=by simp[exitTo]
  exact⟨.exit id,a₁,w₁,hQ,fun k' hk=>.head h0 Lq (ib.1 k' (by rw[hx];exact hk)),
   fun rQ hk=>let ⟨k₁,h1,h2⟩:=ib.2 rQ (by rw[hx];exact hk);⟨k₁,h1,.head h0 Lq h2⟩⟩
 |goto l=>exact absurd hQ (hq l a₁ w₁)
 |ret=>exact⟨_,a₁,w₁,hQ,.of_steps (.one h0 Lq) ib⟩
 |panic ch=>exact⟨_,a₁,w₁,hQ,.of_steps (.one h0 Lq) ib⟩
 |outgrown=>exact⟨_,a₁,w₁,hQ,.of_steps (.one h0 Lq) ib⟩
def tM.after{μ1:Mu}{w1:World}{cr:St}{ws:List Nat}(hs:bD P μ w st μ1 w1 cr ws){ex:Ex}{e:Exit}{a':Act}{w':World}(h:tM P μ1 w1 cr ex bG aB e a' w'):tM P μ w st ex bG aB e a' w':=by
 obtain⟨h1,μ',NU,h2,h3⟩:=h
 exact⟨h1,μ',_,hs.trans h2,h3⟩
def tM.then{μ:Mu}{ex:Ex}{dS:Fr}{cr:St}{K:Act->World->Prop}{Q:Exit->Act->World->Prop}{e:Exit}{a':Act}{w':World}(h:tM P μ w st ex dS cr e a' w')
  (hn:ex=.normal->K a' w') (hq:ex≠.normal->Q e a' w'):Exit.then K Q e a' w':=by
 obtain⟨rfl,h⟩:=h
 cases ex<;>simp only[Lo,Exit.then]
 ·exact hn rfl
 ·exact hq (by simp)
 ·exact hq (by simp)
def Lr(P:Program)(code:pF):Prop:=
 ∀(ro:Option Nat) (c:Code) (fr:Fr) (st:St) (ex:Ex) (bG:Fr) (aB:St),code ro (iS P c) fr st=some (ex,bG,aB)->
  ∀(μ:Mu) (w:World) (a:Act) (lb:Option Nat),bk P μ w st->l9 μ fr a->Lp μ ro lb->c.wpIn (FE lb) 0 P (tM P μ w st ex bG aB) a w
def Yif(P:Program)(call:cM):Prop:=
 ∀(id:Nat) (ops:Array Oper) (fr:Fr) (st:St) (ex:Ex) (bG:Fr) (aB:St),Yi9 P ops=true->zj (ops.toList.map (qF P ops)) (uP ops.toList []) call SB none fr st=some (ex,bG,aB)->
  ∀(μ:Mu) (w:World) (a:Act) (lb:Option Nat),bk P μ w st->l9 μ fr a->(Code.region id ops true).wpIn (FE lb) 0 P (tM P μ w st ex bG aB) a w
def Ynn(P:Program)(call:cM):Prop:=
 ∀(id:Nat) (ops:Array Oper) (o:Oper) (rest:List Oper) (d:Option Nat) (ch:Src) (s:Option Src) (z:V) (fr:Fr) (st:St) (ex:Ex) (bG:Fr) (aB:St),ops.toList=o::rest->SC P o=some (d,ch,s,z)->
  zk d ch s z (rest.map (qF P ops)) call SB none fr st=some (ex,bG,aB)->
  ∀(μ:Mu) (w:World) (a:Act) (lb:Option Nat),bk P μ w st->l9 μ fr a->(Code.region id ops false).wpIn (FE lb) 0 P (tM P μ w st ex bG aB) a w
def Ydx(P:Program)(call:cM):Prop:=
 ∀(ro:Option Nat) (g:Operand) (s:Src) (ps:Array Nat) (fU fV:Code) (fr:Fr) (st:St) (ex:Ex) (bG:Fr) (aB:St),bo P g=some s->
  BU s ps.toList (iS P fU) (iS P fV) call SB ro fr st=some (ex,bG,aB)->
  ∀(μ:Mu) (w:World) (a:Act) (lb:Option Nat),bk P μ w st->l9 μ fr a->Lp μ ro lb->(Code.rangeFunc g ps fU fV).wpIn (FE lb) 0 P (tM P μ w st ex bG aB) a w
def Ydd(b_:js P call)(hE:tN P)(hD:Yif P call)(hS:Ynn P call)(hR:Ydx P call):∀fuel,Lr P (dV call fuel):=by
 intro fuel
 induction fuel using Nat.strongRecOn with
 |_ fuel ihs=>
 cases fuel with
 |zero=>intro ro c fr st ex bG aB h;cases h
 |succ f=>
  have ih:Lr P (dV call f):=ihs f (tO f)
  intro ro c fr st ex bG aB h μ w a lb hh hf mM
  cases c with
  |skip=>
   simp only[iS,dV,mO,Ydk,au,bj]at h
   obtain⟨rfl,rfl,rfl⟩:=h
   exact wpIn_skip ⟨rfl,μ,[],bD.refl hh,hf⟩
  |label l=>
   simp only[iS,dV,mO,Ydk,au,bj]at h
   obtain⟨rfl,rfl,rfl⟩:=h
   exact wpIn_label ⟨rfl,μ,[],bD.refl hh,hf⟩
  |exit id=>
   simp only[iS,dV,mO,Yh9,au,bj]at h
   obtain⟨rfl,rfl,rfl⟩:=h
   exact wpIn_exit ⟨rfl,μ,[],bD.refl hh,hf⟩
  |ret=>
   simp only[iS,dV,mO,Yni,au,bj]at h
   obtain⟨rfl,rfl,rfl⟩:=h
   exact wpIn_ret ⟨rfl,μ,[],bD.refl hh,hf⟩
  |goto l=>simp only[iS,dV,mO,Ls]at h;cases h
  |refuse why=>simp only[iS,dV,mO,Ls]at h;cases h
  |region id ops draw=>
   cases draw with
   |true=>
    simp only[iS]at h
    split at h
    ·rename_i hp
     simp only[dV,mO]at h
     exact hD id ops fr st ex bG aB hp h μ w a lb hh hf
    ·simp only[dV,mO,Ls]at h;cases h
   |false=>
    have plain:zl (ops.toList.map (qF P ops)) call (dV call f) ro fr st=some (ex,bG,aB)->(Code.region id ops false).wpIn (FE lb) 0 P (tM P μ w st ex bG aB) a w:=by
     intro h
     simp only[zl]at h
     split at h
     ·rename_i dS cr hm
      simp only[au,bj]at h
      obtain⟨rfl,rfl,rfl⟩:=h
      exact wpIn_region (Ybc b_ hE _ _ Yal hh hf hm fun a' w' μ' ws q1 q2=>⟨rfl,μ',ws,q2,q1⟩)
     ·cases h
    simp only[iS,dV]at h
    split at h
    ·rename_i ho
     exact plain (by rw[ho];exact h)
    ·rename_i o rest ho
     split at h
     ·rename_i d ch s z hs
      exact hS id ops o rest d ch s z fr st ex bG aB ho hs h μ w a lb hh hf
     ·exact plain (by rw[ho];exact h)
  |seq x y=>
   simp only[iS,dV,mO,AT]at h
   refine wpIn_seq ?_
   split at h
   ·rename_i dS cr hx
    refine wpIn_mono (ih ro x fr st _ _ _ hx μ w a lb hh hf mM) fun e a' w' hp=>?_
    have uQ:=hp
    obtain⟨he,μ1,ws,hs,xp⟩:=hp
    refine uQ.then (fun _=>?_) (fun bF=>absurd rfl bF)
    exact wpIn_mono (ih ro y dS cr ex bG aB h μ1 w' a' lb hs.hr xp (mM.mono (hs.mono hh))) fun e2 a2 w2 ye=>ye.after hs
   ·rename_i hx
    refine wpIn_mono (ih ro x fr st _ _ _ h μ w a lb hh hf mM) fun e a' w' hp=>?_
    refine hp.then (fun hn=>?_) (fun _=>hp)
    subst hn
    exact absurd h (hx bG aB)
  |cond x p q=>
   simp only[iS]at h
   split at h
   ·rename_i s hs
    simp only[dV,mO,xq]at h
    split at h
    ·rename_i hv
     have:=cO hh hf.1 hs hv
     exact wpIn_cond_true (by simpa[VR]using this) (ih ro p fr st ex bG aB h μ w a lb hh hf mM)
    ·rename_i hv
     have:=cO hh hf.1 hs hv
     exact wpIn_cond_false (by simpa[VR]using this) (ih ro q fr st ex bG aB h μ w a lb hh hf mM)
    ·cases h
   ·simp only[dV,mO,Ls]at h;cases h
  |block id c=>
   simp only[iS,dV,mO,AU]at h
   refine wpIn_block ?_
   split at h
   ·rename_i AV dS cr hx
    refine wpIn_mono (ih ro c fr st _ _ _ hx μ w a lb hh hf mM) fun e a' w' hp=>?_
    obtain⟨rfl,hp⟩:=hp
    simp only[Lo,Exit.inBlock]
    split at h
    ·rename_i hid
     simp only[au,bj]at h
     obtain⟨rfl,rfl,rfl⟩:=h
     rw[aQ (SD hid)]
     exact⟨rfl,hp⟩
    ·rename_i hid
     simp only[au,bj]at h
     obtain⟨rfl,rfl,rfl⟩:=h
     rw[aA (Nat.ne_of_beq_eq_false hid)]
     exact⟨rfl,hp⟩
   ·rename_i hx
    refine wpIn_mono (ih ro c fr st _ _ _ h μ w a lb hh hf mM) fun e a' w' hp=>?_
    have uQ:=hp
    obtain⟨rfl,hp⟩:=hp
    cases ex with
    |normal=>exact uQ
    |ret=>exact uQ
    |exit AV=>exact absurd h (hx AV bG aB)
  |loop c=>
   refine Zn1 (fun k a1 w1=>k<=f+1/\∃dS cr μ1 ws,bD P μ w st μ1 w1 cr ws/\l9 μ1 dS a1/\dV call k ro (.loop (iS P c)) dS cr=some (ex,bG,aB)) ?_
    (f:=f+1) ⟨aZ _,fr,st,μ,[],bD.refl hh,hf,h⟩
   intro k a1 w1 hJ
   obtain⟨hk,dS,cr,μ1,ws,hs,xp,hm⟩:=hJ
   cases k with
   |zero=>cases hm
   |succ k=>
    simp only[dV,mO,AW]at hm
    have ihk:Lr P (dV call k):=ihs k (by omega)
    split at hm
    ·rename_i yf fi hx
     refine wpIn_mono (ihk ro c dS cr _ _ _ hx μ1 w1 a1 lb hs.hr xp (mM.mono (hs.mono hh))) fun e a' w' hp=>?_
     have uQ:=hp
     obtain⟨he,μ2,ws2,nP,jv⟩:=hp
     refine uQ.then (fun _=>?_) (fun bF=>absurd rfl bF)
     exact⟨k,tO k,by omega,yf,fi,μ2,_,hs.trans nP,jv,hm⟩
    ·rename_i hx
     refine wpIn_mono (ihk ro c dS cr _ _ _ hm μ1 w1 a1 lb hs.hr xp (mM.mono (hs.mono hh))) fun e a' w' hp=>?_
     refine hp.then (fun hn=>?_) (fun _=>hp.after hs)
     subst hn
     exact absurd hm (hx bG aB)
  |scope c=>
   simp only[iS,dV,mO,Ydl]at h
   refine Zwt (ih ro c fr st ex bG aB h μ w a lb hh hf mM) fun l a' w' hp=>?_
   obtain⟨he,_⟩:=hp
   cases ex<;>simp[Lo]at he
  |rangeFunc g ps fU fV=>
   simp only[iS]at h
   split at h
   ·rename_i s hs
    simp only[dV,mO]at h
    exact hR ro g s ps fU fV fr st ex bG aB hs h μ w a lb hh hf mM
   ·simp only[dV,mO,Ls]at h;cases h
end
end Go.Mx
