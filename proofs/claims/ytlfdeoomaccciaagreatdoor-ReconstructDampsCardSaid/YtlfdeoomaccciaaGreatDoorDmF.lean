/-lensletlaw05-/
import Derived.Test.YtlfdeoomaccciaaGreatDoorDmB
import Derived.Deep.Slices
import Derived.Lib.LaidTab
import Derived.LaidSub
import Derived.ChangeShapes
import Derived.WideShapes
set_option linter.all false
namespace Go.Mx
open Go Go.Proofs
variable {s:aM}
set_option maxHeartbeats 4000000
set_option maxRecDepth 1000000
noncomputable def A.b3:=A.q Tryz.f3
def A.c3:A.F 3=some ⟨68,[.tmp 6],A.b3⟩:=by kernel_rfl
def A.k3:=@A.kk 3 _ _ _ A.c3 rfl
noncomputable def A.b12:=A.q Tryz.f12
def A.c12:A.F 12=some ⟨4,[.tmp 2],A.b12⟩:=by kernel_rfl
def A.k12:=@A.kk 12 _ _ _ A.c12 rfl
def Ymr{h:T O}{N:Nat}{w:List Nat}{v:V}:A.C.call (.func 12 [] []) [v] ⟨h,N,w⟩=some (v,⟨h,N,w⟩):=by
 apply Call.eq
 rw[aN,A.k12 (by simp)]
 simp(disch:=first|(simp;done)|omega|rfl) [-getElem?_pos,A.b12,aA]
def Yjw:nY [s] 1 1=kL 1 s:=by
 unfold nY
 rw[ay (show [s].length=1 from rfl)]
 simp only[nZ,wW,cH]
 split<;>simp_all
def Yo4{m:List (List aM)}{l:List aM}{s:aM}:FU m l s=if mb m 64 16=0 then cH [nY l m.length 1,nY [s] 1 1] else mb m 64 16:=by
 rw[Yjw]
 unfold FU B6
 by_cases h:mb m 64 16=0
 ·rw[ay h]
  by_cases h2:nY l m.length 1=0<;>simp[cH,h,h2]
 ·rw[ak h]
  simp[cH,h]
def Yjn{h:T O}{N:Nat}{u v:V}{m:List (List aM)}{l:List aM}{s:aM}(hm:iJ h N u m)(hl:Sl h N v (strs l))(hP:l_ h N)(m1:m.length<9223372036854775808)(m2:∀x∈m,x.length<9223372036854775808)(l1:l.length<9223372036854775808):Fn A.C 3 [u,v,.str s] h N (fun z _ _=>z=.bool true):=by
 intro w
 have Ve:=fun w=>KD (w:=w) hP
 have FZ:∀w,A.C.call (.func 4 [] []) [u,.int .i64 5,.int .i64 4] ⟨h,N,w⟩=some (.bool (pR 5 4 m),⟨h,N,w⟩):=fun w=>Ygw (w:=w) (n:=5) (p:=4) hm m1 m2 (by decide) (by decide)
 have IT:∀w,A.C.call (.func 5 [] []) [v,.int .i64 5] ⟨h,N,w⟩=some (.bool (fW 5 l),⟨h,N,w⟩):=fun w=>Vg (w:=w) (n:=5) hl l1 (by decide)
 rw[aN,A.k3 (by simp)]
 cases sm:pR 5 4 m with
 |false=>
  rw[sm]at FZ
  simp(disch:=first|(simp;done)|omega|rfl) [-getElem?_pos,A.b3,FZ,Ve,aA]
  exact ab.refl
 |true=>
  rw[sm]at FZ
  cases sl:fW 5 l with
  |false=>
   rw[sl]at IT
   simp(disch:=first|(simp;done)|omega|rfl) [-getElem?_pos,A.b3,FZ,IT,Ve,aA]
   exact ab.refl
  |true=>
   rw[sl]at IT
   by_cases h9:9<s.length
   ·have zC:(9:Int)<(s.length:Int):=by omega
    simp(disch:=first|(simp;done)|omega|rfl) [-getElem?_pos,A.b3,FZ,IT,h9,zC,Ve,aA]
    exact ab.refl
   ·have zC:¬(9:Int)<(s.length:Int):=by omega
    have KE:=Zus sm (show 5<=6 by decide) (show 4<=6 by decide)
    have PI:=Zne sl (show 5<=6 by decide)
    have f1:=hl.form.one
    have f2:=hl.form.cells
    have qI:ad [V.aa] 0 [v]=[v]:=rfl
    have ml:=Yin (Ymg sm).1 (by decide)
    obtain⟨x1,h1,n1,w1,p1,p2,p3,us,p4,p5,p6⟩:=Yva (w:=[]) hl hm (by omega)
    have q4:=(p6.ae p2).mts p5.sl
    have hB:∀w,A.C.call (.func 6 [] []) [x1,.int .i64 9] ⟨h1,n1,w⟩=some (.bool (IM 9 ([l]++m)),⟨h1,n1,w⟩):=fun w=>Yjz (w:=w) (n:=9) q4 (by simp;omega) (fun x hx=>by
     rcases kh.1 hx with hx|hx
     ·obtain rfl:x=l:=by simpa using hx
      exact(PH PI).1
     ·exact((U9 KE).2 x hx).1)
    have KF:=fun w=>KD (w:=w) (hP.ae p2)
    have Ba:av N w1=[]:=by rw[p3];rfl
    simp(disch:=first|(simp;done)|omega|rfl) [-getElem?_pos, -V.cells, -V.one,A.b3,FZ,IT,h9,zC,f1,f2,qI,wU,p1]
    cases hy:IM 9 ([l]++m)with
    |false=>
     rw[hy]at hB
     simp(disch:=first|(simp;done)|omega|rfl) [-getElem?_pos,hB,KF,aA]
     exact⟨Ba,p2⟩
    |true=>
     rw[hy]at hB
     simp(disch:=first|(simp;done)|omega|rfl) [-getElem?_pos,hB]
     clear p1 p3 p4 p5 p6 q4 hB KF FZ IT hy
     obtain⟨mm1,mm2⟩:=U9 KE
     obtain⟨ll1,ll2⟩:=PH PI
     refine aB (Yp8 (hm.ae p2) (hl.ae p2) (hP.ae p2) KE PI (by omega)) ?_
     rintro _ H2 n2 k2 ⟨z,c,rfl,t2⟩
     have j2:=p2.trans k2
     simp(disch:=first|(simp;done)|omega|rfl) [-getElem?_pos,]
     refine aB (Yhd (hm.ae j2) mm1 mm2) ?_
     rintro _ H3 n3 k3 rfl
     have j3:=j2.trans k3
     have t3:=t2.ae k3
     have B8:=@Yo4 m l s
     by_cases hE:mb m 64 16=0
     ·have hM:=Zx5 hE KE
      rw[ay hE]at B8
      have lm:=(hm.ae j3).len
      simp(disch:=first|(simp;done)|omega|rfl) [-getElem?_pos,hE,aE,lm]
      refine aB (Yle (n:=m.length) (z:=1) (hl.ae j3) ll1 ll2) ?_
      rintro _ H4 n4 k4 rfl
      have kS:ab H4 n4 (H4.set n4 (.cells [.str s] 24 true)) (n4+1):=ab.refl.new _
      have gS:(H4.set n4 (.cells [.str s] 24 true)).get n4=some (.cells [.str s] 24 true):=by rw[T.ag,ay rfl]
      have sS:Sl (H4.set n4 (.cells [.str s] 24 true)) (n4+1) (.slice n4 0 1 (some 1) 1) (strs [s]):=Sl.row (by omega) gS rfl (fun k hk=>by simp at hk;omega)
      simp(disch:=first|(simp;done)|omega|rfl) [-getElem?_pos,ad,Ymr]
      generalize H4.set n4 (.cells [.str s] 24 true)=G4 at*
      refine aB (Yle (n:=1) (z:=1) sS (by simp) (fun x hx=>by
       obtain rfl:x=s:=by simpa using hx
       omega)) ?_
      rintro _ H5 n5 k5 rfl
      have j5:=((j3.trans k4).trans kS).trans k5
      have t5:=(((t3.ae k4).ae kS).ae k5)
      have lf:=fun w=>Yn7 (h:=H5) (N:=n5+1) (i:=n5) (w:=w) (a0:=nY l m.length 1) (a1:=nY [s] 1 1) (by omega)
      rw[<-B8]at lf
      have kD:ab H5 n5 (H5.set n5 (.cells [.int .i64 (nY l m.length 1),.int .i64 (nY [s] 1 1)] 3 true)) (n5+1):=ab.refl.new _
      simp(disch:=first|(simp;done)|omega|rfl) [-getElem?_pos,ad,lf]
      generalize H5.set n5 (.cells [.int .i64 (nY l m.length 1),.int .i64 (nY [s] 1 1)] 3 true)=G at*
      have j6:=j5.trans kD
      have t6:=t5.ae kD
      by_cases hZ:FU m l s=0
      ·obtain⟨_,zl,hL⟩:=Ykp (A8 hZ (B6 m l) (by simp)) KE PI
       have xU:=Yfj (A8 hZ (kL 1 s) (by simp))
       have qs:=Va xU (show s.length<=24 by omega)
       obtain⟨es,_,_⟩:=FR xU
       have n6:=hM.n6
       have mle:=hM.le
       have m0:=hM.pos
       have qM:cW (eP m) 100:=fun r hr=>(hM.rat r hr).2
       have lM:(eP m).length=m.length:=Zww
       have lL:(l9 l).length=(eP m).length:=by simp[l9,eP,zl]
       have key:=Yhc (n:=dR m) (q:=fw s) ((hm.ae j6).rat fun r hr=>(hM.row r hr).2) (wV.sl (hl.ae j6) hL) hM.qb.1 lL hM.n1 n6 (by omega) (by omega) qM hL.qb qs
       rw[es]at key
       simp(disch:=first|(simp;done)|omega|rfl) [-getElem?_pos,hZ,aE]
       refine aB key ?_
       rintro x7 H7 n7 k7 Ky
       have j7:=j6.trans k7
       have t7:=t6.ae k7
       have Vh:=fun w=>KD (w:=w) (hP.ae j7)
       rw[hZ]at t7
       obtain⟨f1,f2,f3⟩:cW (DJ m l s) 183232/\(DJ m l s).length<=6/\∀r∈DJ m l s,r.length<=6:=by
        unfold DJ DG
        cases hS:sU (uj (eP m) (l9 l) (dR m) (fw s)) (iW (eP m) (l9 l) (dR m)) (dR m) (eP m).length with
        |none=>exact⟨by simp[cW],by simp,by simp⟩
        |some Hs=>
         obtain⟨f1,f2,f3⟩:=Ztr qM hL.qb qs n6 (by omega) lL hS
         exact⟨f1,by simp;omega,fun r hr=>by rw[f3 r hr];omega⟩
       have zD:=fun w=>Vi (w:=w) t7 (fun _=>Ky) (by omega) (fun _ r hr=>⟨by have:=f3 r hr;omega,Ym1 (f1.mono (by decide)) r hr⟩)
       simp(disch:=first|(simp;done)|omega|rfl) [-getElem?_pos,zD,Vh,aA]
       exact⟨Ba,j7⟩
      ·have t7:DK (FU m l s) [] z c G (n5+1):=by
        rcases t6 with s|⟨a,_⟩
        ·exact .inl s
        ·exact absurd a hZ
       have zD:=fun w=>Vi (w:=w) (u:=.aa) t7 (fun h=>absurd h hZ) (by simp) (fun h=>absurd h hZ)
       have Vj:=fun w=>KD (w:=w) (hP.ae j6)
       simp(disch:=first|(simp;done)|omega|rfl) [-getElem?_pos,hZ,aE,zD,Vj,aA]
       exact⟨Ba,j6⟩
     ·rw[ak hE]at B8
      rw[B8]at t3
      have t7:DK (mb m 64 16) [] z c H3 n3:=by
       rcases t3 with s|⟨a,_⟩
       ·exact .inl s
       ·exact absurd a hE
      have zD:=fun w=>Vi (w:=w) (u:=.aa) t7 (fun h=>absurd h hE) (by simp) (fun h=>absurd h hE)
      have Vk:=fun w=>KD (w:=w) (hP.ae j3)
      simp(disch:=first|(simp;done)|omega|rfl) [-getElem?_pos,hE,aE,zD,Vk,aA]
      exact⟨Ba,j3⟩
open Go
inductive mJ where
 |nil
 |emp (b:Addr)
 |sl (b:Addr) (l c:Nat) (f:Nat->ByteArray)
def mJ.val:mJ->Value
 |.nil=>.slice none 0 0
 |.emp b=>.slice (some b) 0 0
 |.sl b l c f=>.slice (some b) l c
def mJ.ok(W:World):mJ->Prop
 |.sl b l c f=>l<=c/\0<c/\∀i,i<c->W.cell? (b.add i)=some (.string (f i))
 |_=>True
def mJ.strs:mJ->List aM
 |.sl b l c f=>(List.range l).map fun i=>(f i).data.toList
 |_=>[]
def B9(W:World)(a:Addr):TypeId:=match W.heap[a.block]? with
 |some (.cells _ e _)=>e
 |_=>0
def Zx9{W:World}{a:Addr}{n:Nat}{f:Nat->Value}(hn:0<n)(hc:∀i,i<n->W.cell? (a.add i)=some (f i)):
  ∃c' lo hi,W.heap[a.block]?=some (.cells c' (B9 W a) (lo,hi))/\a.spot=none/\(∀i,i<n->c'[a.off+i]?=some (f i))/\a.off+n<=c'.size/\a.block<W.heap.size:=by
 have h0:=hc 0 hn
 have Vl:a.add 0=a:=by simp[Addr.add]
 rw[Vl]at h0
 obtain⟨c',e,fr,hb⟩:∃c' e fr,W.heap[a.block]?=some (.cells c' e fr):=by
  unfold World.cell? at h0
  split at h0
  ·rename_i c' e fr hb;exact⟨c',e,fr,hb⟩
  ·cases h0
 have hs:a.spot=none:=by
  unfold World.cell? at h0
  rw[hb]at h0
  simp only at h0
  split at h0
  ·cases h0
  ·rename_i h;simpa using h
 have fX:∀i,i<n->c'[a.off+i]?=some (f i):=fun i hi=>by
  have:=hc i hi
  unfold World.cell? at this
  have e1:(a.add i).block=a.block:=by unfold Addr.add;split<;>rfl
  have e2:(a.add i).off=a.off+i:=by unfold Addr.add;split<;>simp_all
  have e3:(a.add i).spot=none:=by unfold Addr.add;split<;>simp_all
  rw[e1,hb]at this
  simp only[e2,e3,Option.isSome_none,fI,if_false]at this
  exact this
 have ax:a.block<W.heap.size:=by
  rcases Nat.lt_or_ge a.block W.heap.size with h|h
  ·exact h
  ·rw[Array.getElem?_eq_none h]at hb;cases hb
 have eK:a.off+n<=c'.size:=by
  have:=fX (n-1) (by omega)
  have h2:=(Array.getElem?_eq_some_iff.1 this).1
  omega
 obtain⟨lo,hi⟩:=fr
 exact⟨c',lo,hi,by rw[hb];simp[B9,hb],hs,fX,eK,ax⟩
structure PJ where
 a:Addr
 n:Nat
 f:Nat->Value
 g:Nat->V
def PJ.ok(W:World)(r:PJ):Prop:=0<r.n/\(∀i,i<r.n->W.cell? (r.a.add i)=some (r.f i))/\∀i,i<r.n->(r.f i).oneCell'=true
def Zsj{P:Program}{dE:Nat->Option lF}{G:Nat}(hP:DD P dE G){x:cD}(hx:jv P x){F d:Nat}{f:FuncId}{mf:lF}(hf:yB P f=some mf){args:List V}{xs:List Value}{v:V}{y:Value}{S:St}{μ:Mu}{W:World}
  (h:Ysv (Ca mf (dK (yO x dE F d) F) args S) v) (hh:bm P μ W S) (hS:S.w=[]) (zE:aS μ args xs) (hv:∀μ z,VR μ v z->z=y):
  Calls P f ⟨xs⟩ W fun e W'=>e=.returned y/\RowKit.Below W.heap.size W W':=by
 obtain⟨s,bM,hw⟩:=h.ex
 obtain⟨fn,A1,_⟩:=Zyb hf
 have ih:=PL hP.m hP.e hP.t hx F d
 have:=Yee (Yff ih hP.e (Yeq hP.m hP.e ih) (Ykj ih hP.e) (Zwx ih) F) A1 hf hh zE bM
 refine callsIn_wide.1 (CallsIn.mono (F:=Fence.wide) this fun e W' he=>?_)
 cases e with
 |returned z=>
  obtain⟨μ',ws,h1,h2⟩:=he
  have pT:ws=[]:=by have:=h2.wl;rw[hw,hS]at this;simpa using this.symm
  subst pT
  exact⟨by rw[hv _ _ h1],h2.ed.os,h2.ed.tape,h2.ed.output,h2.ed.size,fun k hk=>h2.ed.block k hk fun i hi=>by cases hi⟩
 |panicked _=>exact he.elim
 |outgrown=>exact he.elim
def Cx.calls{P:Program}{C:Cx}{G:Nat}(hP:DD P C.dE G)(hx:jv P C.x){f:Nat}{mf:lF}(hf:yB P f=some mf)(ht:C.dE f=some mf){args:List V}{xs:List Value}{v:V}{y:Value}{S:St}{μ:Mu}{W:World}
  (hn:∀st,C.x (.func f [] []) args st=none) (h:Fn C f args S.h S.n (fun u _ _=>u=v)) (hh:bm P μ W S) (hS:S.w=[]) (zE:aS μ args xs) (hv:∀μ z,VR μ v z->z=y):
  Calls P f ⟨xs⟩ W fun e W'=>e=.returned y/\RowKit.Below W.heap.size W W':=by
 obtain⟨u,az,hc,hw,hk,hu⟩:=(h []).ex
 subst hu
 have hS':(⟨S.h,S.n,[]⟩:St)=S:=by obtain⟨a,b,c⟩:=S;simp only at hS;subst hS;rfl
 rw[hS']at hc
 rw[Cx.mK]at hc
 unfold sX at hc
 rw[hn]at hc
 simp only at hc
 obtain⟨n,sO⟩:=Zk0 (q:=fun n=>dK (C.at n) n) (fun n m hnm=>zG (Cx.dS hnm) n m hnm) (fun _ _ _ _ _ e=>Cx.pU e) hc
 unfold yb at sO
 simp only[ht,List.nil_append,zy]at sO
 exact Zsj (F:=n) (d:=n) hP hx hf ⟨_,sO,hw⟩ hh hS zE hv
variable {P:Program} {S:St} {W:World} {μ:Mu}
def uW(tb:List (Nat×O))(i:Nat):Nat:=match lk tb i with
 |some (.cells c _ _)=>c.length
 |_=>0
def jh(P:Program)(W:World)(tb:List (Nat×O)):Prop:=∀i o,lk tb i=some o->∀μ,OM P μ W o ⟨i,0,uW tb i⟩
def jh.one{g:Nat}{k:IntKind}{zs:List Int}{e:TypeId}{f:Nat×Nat}(h:W.heap[g]?=some (.cells (zs.map fun z=>Value.int k z).toArray e f)):jh P W [(g,.cells (zs.map fun z=>V.int k z) e false)]:=by
 intro i o ho μ
 obtain⟨lo,hi⟩:=f
 simp only[lk]at ho
 split at ho
 ·rename_i hb
  have:=jD hb
  subst this
  simp only[aq]at ho
  subst ho
  have hl:uW [(g,O.cells (zs.map fun z=>V.int k z) e false)] g=zs.length:=by simp[uW,lk,hb]
  rw[hl]
  refine⟨_,lo,hi,h,by simp,by simp,fun j v hv=>?_,fun j x hj hx=>?_,fun h=>by cases h⟩
  ·rw[fV]at hv
   cases hz:zs[j]? with
   |none=>rw[hz]at hv;cases hv
   |some z=>
    rw[hz]at hv
    simp only[xV,aq]at hv
    subst hv
    exact⟨.int k z,by simp[hz],by simp[VR]⟩
  ·simp only[wX,List.getElem?_toArray,fV,kj]at hx
   obtain⟨z,_,rfl⟩:=hx
   rfl
 ·cases ho
structure sY (P:Program) (W:World) (μ:Mu) (S:St):Prop where
 hr:bm P μ W S
 w:S.w=[]
 ro:∀i l o,μ i=some l->S.h.get i=some o->o.wr=false
structure uo (μ:Mu) (S:St) (μ':Mu) (S':St):Prop where
 mu:∀i l,μ i=some l->μ' i=some l
 ae:ab S.h S.n S'.h S'.n
def uo.refl:uo μ S μ S:=⟨fun _ _ h=>h,ab.refl⟩
def uo.trans{μ1 μ2:Mu}{S1 S2:St}(a:uo μ S μ1 S1)(b:uo μ1 S1 μ2 S2):uo μ S μ2 S2:=⟨fun i l h=>b.mu i l (a.mu i l h),a.ae.trans b.ae⟩
def Yms{tb:List (Nat×O)}{G:Nat}(hG:P.globals.size=G)(hW:G<=W.heap.size)(mL:KG G tb=true)(DM:jh P W tb):∃μ,sY P W μ (DN G tb):=by
 subst hG
 have get:∀i,i<P.globals.size->(DN P.globals.size tb).h.get i=some (match lk tb i with|some o=>o|none=>.dead):=fun i hi=>by
  show (tm (yP P.globals.size) tb).get i=_
  rw[Bb]
  cases lk tb i with
  |some o=>rfl
  |none=>exact PM _ _ hi
 have hwr:∀i o,i<P.globals.size->(DN P.globals.size tb).h.get i=some o->o.wr=false:=fun i o hi ho=>by
  rw[get i hi]at ho
  simp only[aq]at ho
  cases hl:lk tb i with
  |none=>rw[hl]at ho;subst ho;rfl
  |some o'=>
   rw[hl]at ho
   simp only at ho
   subst ho
   have:=(Vm mL hl).2
   cases o' with
   |cells c e rw=>cases rw with
    |true=>cases this
    |false=>rfl
   |_=>cases this
 have PN:∀i l,(fun i=>if i<P.globals.size then some (⟨i,0,uW tb i⟩:L) else none) i=some l->i<P.globals.size/\l=⟨i,0,uW tb i⟩:=fun i l h=>by
  simp only at h
  split at h
  ·rename_i hi;simp only[aq]at h;exact⟨hi,h.symm⟩
  ·cases h
 refine⟨fun i=>if i<P.globals.size then some ⟨i,0,uW tb i⟩ else none,⟨fun i l hl=>?_,fun i l hl=>?_,fun i j l l' o o' hi hj aW ho wY hw n9=>?_,fun g hg=>⟨uW tb g,by simp[hg]⟩⟩,rfl,fun i l o hl ho=>?_⟩
 ·obtain⟨h,rfl⟩:=PN i l hl
  exact⟨h,by simp only;omega⟩
 ·obtain⟨h,rfl⟩:=PN i l hl
  refine⟨_,get i h,?_⟩
  cases fJ:lk tb i with
  |none=>trivial
  |some o=>exact DM i o fJ _
 ·rw[hwr i o (PN i l hi).1 ho]at hw;cases hw
 ·exact hwr i o (PN i l hl).1 ho
def Yl6{tb:List (Nat×O)}{G g:Nat}{o:O}(h:lk tb g=some o):(DN G tb).h.get g=some o:=by
 show (tm (yP G) tb).get g=_
 rw[Bb,h]
def sY.row(s:sY P W μ S){r:PJ}(mL:r.ok W)(hv:∀i,i<r.n->VR μ (r.g i) (r.f i)):
  ∃μ' S',sY P W μ' S'/\uo μ S μ' S'/\S'.n=S.n+1/\μ' S.n=some ⟨r.a.block,r.a.off,r.n⟩/\S'.h.get S.n=some (.cells ((List.range r.n).map r.g) (B9 W r.a) false):=by
 obtain⟨g1,g2,g3⟩:=mL
 obtain⟨c',lo,hi,hb,hs,fX,eK,ax⟩:=Zx9 g1 g2
 have dr:∀i l,μ i=some l->(fun i=>if i=S.n then some (⟨r.a.block,r.a.off,r.n⟩:L) else μ i) i=some l:=fun i l hl=>by
  have:=(s.hr.c_ i l hl).1
  simp only
  rw[ak (by omega)];exact hl
 have uX:∀i l,(fun i=>if i=S.n then some (⟨r.a.block,r.a.off,r.n⟩:L) else μ i) i=some l->(i=S.n/\l=⟨r.a.block,r.a.off,r.n⟩)\/(i≠S.n/\μ i=some l):=fun i l h=>by
  simp only at h
  split at h
  ·rename_i e;simp only[aq]at h;exact .inl ⟨e,h.symm⟩
  ·rename_i e;exact .inr ⟨e,h⟩
 have qK:(S.h.set S.n (.cells ((List.range r.n).map r.g) (B9 W r.a) false)).get S.n=some (.cells ((List.range r.n).map r.g) (B9 W r.a) false):=by simp[T.ag]
 have hold:∀i,i≠S.n->(S.h.set S.n (.cells ((List.range r.n).map r.g) (B9 W r.a) false)).get i=S.h.get i:=fun i hi=>by simp[T.ag,hi]
 have pk:∀i l o,(fun i=>if i=S.n then some (⟨r.a.block,r.a.off,r.n⟩:L) else μ i) i=some l->(S.h.set S.n (.cells ((List.range r.n).map r.g) (B9 W r.a) false)).get i=some o->o.wr=false:=fun i l o hl ho=>by
  rcases uX i l hl with⟨rfl,rfl⟩|⟨h1,h2⟩
  ·rw[qK]at ho;simp only[aq]at ho;subst ho;rfl
  ·rw[hold i h1]at ho;exact s.ro i l o h2 ho
 refine⟨_,⟨S.h.set S.n (.cells ((List.range r.n).map r.g) (B9 W r.a) false),S.n+1,[]⟩,⟨⟨fun i l hl=>?_,fun i l hl=>?_,fun i j l l' o o' iK hj aW ho wY hw n9=>?_,fun g hg=>?_⟩,rfl,pk⟩,⟨dr,by simp,fun i hi=>hold i (by omega)⟩,rfl,by simp,qK⟩
 ·rcases uX i l hl with⟨rfl,rfl⟩|⟨h1,h2⟩
  ·exact⟨by simp,ax⟩
  ·obtain⟨q1,q2⟩:=s.hr.c_ i l h2
   exact⟨by simp only;omega,q2⟩
 ·rcases uX i l hl with⟨rfl,rfl⟩|⟨h1,h2⟩
  ·refine⟨_,qK,c',lo,hi,hb,eK,by simp,fun j v hvj=>?_,fun j x hj hx=>?_,fun h=>by cases h⟩
   ·have hj:j<r.n:=by have:=(zH.1 hvj).1;simpa using this
    have F0:v=r.g j:=by simpa[hj]using hvj.symm
    subst F0
    exact⟨_,fX j hj,VR.mono dr _ _ (hv j hj)⟩
   ·have hj:j<r.n:=hj
    rw[fX j hj]at hx
    simp only[aq]at hx
    subst hx
    exact g3 j hj
  ·obtain⟨o,q1,q2⟩:=s.hr.obj i l h2
   exact⟨o,by rw[hold i h1];exact q1,q2.mono dr⟩
 ·rw[pk i l o iK ho]at hw;cases hw
 ·obtain⟨t,ht⟩:=s.hr.gU g hg
  exact⟨t,dr _ _ ht⟩
def sY.slice(s:sY P W μ S){r:PJ}(mL:r.ok W)(hv:∀i,i<r.n->VR μ (r.g i) (r.f i)){len cap z:Nat}(hn:r.n=cap*z)(hl:len<=cap)(hz:0<z):
  ∃μ' S' i,sY P W μ' S'/\uo μ S μ' S'/\VR μ' (.slice i 0 len (some cap) z) (.slice (some r.a) len cap)/\i<S'.n/\S'.h.get i=some (.cells ((List.range r.n).map r.g) (B9 W r.a) false):=by
 obtain⟨μ',S',q1,q2,q3,q4,q5⟩:=s.row mL hv
 refine⟨μ',S',S.n,q1,q2,?_,by omega,q5⟩
 obtain⟨⟨b,off,sp⟩,n,f,g⟩:=r
 obtain⟨g1,g2,_⟩:=mL
 obtain⟨_,_,_,_,hs,_,_,_⟩:=Zx9 g1 g2
 simp only at hs hn q4
 subst hs
 simp only[VR]
 exact⟨⟨b,off,n⟩,cap,q4,by simp,hl,by simp[hn],fun k hk=>by simpa using hk,fun h=>by cases h⟩
def sY.list{P:Program}{W:World}{μ:Mu}{S:St}(s:sY P W μ S){i:mJ}(hi:i.ok W):
  ∃μ' S' v,sY P W μ' S'/\uo μ S μ' S'/\VR μ' v i.val/\Sl S'.h S'.n v (strs i.strs):=by
 cases i with
 |nil=>exact⟨μ,S,.aa,s,uo.refl,by simp[mJ.val,VR],Sl.nil⟩
 |emp b=>exact⟨μ,S,.empty,s,uo.refl,by simp[mJ.val,VR],.inl ⟨rfl,.inr rfl⟩⟩
 |sl b l c f=>
  obtain⟨h1,h2,h3⟩:=hi
  obtain⟨μ',S',k,q1,q2,q3,q4,q5⟩:=s.slice (r:=⟨b,c,fun i=>.string (f i),fun i=>.str (f i).data.toList⟩) ⟨h2,h3,fun _ _=>rfl⟩ (fun i _=>by simp[VR]) (len:=l) (cap:=c) (z:=1) (by simp) h1 (by decide)
  refine⟨μ',S',_,q1,q2,q3,.inr ⟨k,0,some c,_,_,false,by simp[strs,mJ.strs],q4,q5,fun j hj=>?_,by simp[strs,mJ.strs];omega,fun k hk=>by simp[strs,mJ.strs]at hk ⊢;omega⟩⟩
  have n_:j<l:=by simpa[strs,mJ.strs]using hj
  simp[strs,mJ.strs,n_,show j<c by omega]
inductive Ywn where
 |nil
 |emp (b:Addr)
 |sl (b:Addr) (l c:Nat) (f:Nat->Int)
def sY.lists{P:Program}{W:World}{F:Nat->mJ}:∀(n:Nat),(∀i,i<n->(F i).ok W)->∀{μ:Mu} {S:St},sY P W μ S->
  ∃μ' S',sY P W μ' S'/\uo μ S μ' S'/\∀i,i<n->∃v,VR μ' v (F i).val/\Sl S'.h S'.n v (strs (F i).strs)
 |0,_,μ,S,s=>⟨μ,S,s,uo.refl,fun i hi=>absurd hi (by omega)⟩
 |n+1,hF,μ,S,s=>by
  obtain⟨μ1,S1,s1,g1,a1⟩:=sY.lists n (fun i hi=>hF i (by omega)) s
  obtain⟨μ2,S2,v,s2,g2,a2,a3⟩:=s1.list (hF n (by omega))
  refine⟨μ2,S2,s2,g1.trans g2,fun i hi=>?_⟩
  by_cases e:i=n
  ·subst e;exact⟨v,a2,a3⟩
  ·obtain⟨u,b1,b2⟩:=a1 i (by omega)
   exact⟨u,VR.mono g2.mu _ _ b1,b2.ae g2.ae⟩
inductive pV where
 |nil
 |emp (b:Addr)
 |sl (b:Addr) (l c:Nat) (F:Nat->mJ)
def pV.val:pV->Value
 |.nil=>.slice none 0 0
 |.emp b=>.slice (some b) 0 0
 |.sl b l c f=>.slice (some b) l c
def pV.ok(W:World):pV->Prop
 |.sl b l c F=>l<=c/\0<c/\∀i,i<c->W.cell? (b.add i)=some (F i).val/\(F i).ok W
 |_=>True
def pV.rows:pV->List (List aM)
 |.sl b l c F=>(List.range l).map fun i=>(F i).strs
 |_=>[]
def mJ.one{i:mJ}:i.val.oneCell'=true:=by cases i<;>rfl
def sY.UX{P:Program}{W:World}{μ:Mu}{S:St}(s:sY P W μ S){m:pV}(hm:m.ok W):
  ∃μ' S' v,sY P W μ' S'/\uo μ S μ' S'/\VR μ' v m.val/\∃us:List V,Sl S'.h S'.n v us/\us.length=m.rows.length/\∀(j:Nat) (l:List aM),m.rows[j]?=some l->∃u,us[j]?=some u/\Sl S'.h S'.n u (strs l):=by
 cases m with
 |nil=>exact⟨μ,S,.aa,s,uo.refl,by simp[pV.val,VR],[],Sl.nil,rfl,fun j l h=>by simp[pV.rows]at h⟩
 |emp b=>exact⟨μ,S,.empty,s,uo.refl,by simp[pV.val,VR],[],.inl ⟨rfl,.inr rfl⟩,rfl,fun j l h=>by simp[pV.rows]at h⟩
 |sl b l c F=>
  obtain⟨h1,h2,h3⟩:=hm
  obtain⟨μ1,S1,s1,g1,a1⟩:=sY.lists c (fun i hi=>(h3 i hi).2) s
  have hex:∀i,∃v:V,i<c->VR μ1 v (F i).val/\Sl S1.h S1.n v (strs (F i).strs):=fun i=>by
   by_cases hi:i<c
   ·obtain⟨v,hv⟩:=a1 i hi;exact⟨v,fun _=>hv⟩
   ·exact⟨.aa,fun h=>absurd h hi⟩
  obtain⟨g,hg⟩:=Classical.axiomOfChoice hex
  obtain⟨μ',S',k,q1,q2,q3,q4,q5⟩:=s1.slice (r:=⟨b,c,fun i=>(F i).val,g⟩) ⟨h2,fun i hi=>(h3 i hi).1,fun _ _=>mJ.one⟩ (fun i hi=>(hg i hi).1) (len:=l) (cap:=c) (z:=1) (by simp) h1 (by decide)
  refine⟨μ',S',_,q1,g1.trans q2,q3,(List.range l).map g,.inr ⟨k,0,some c,_,_,false,by simp,q4,q5,fun j hj=>?_,by simp;omega,fun k hk=>by simp at hk ⊢;omega⟩,by simp[pV.rows],fun j x hj=>?_⟩
  ·have n_:j<l:=by simpa using hj
   simp[n_,show j<c by omega]
  ·have F3:j<l:=by
    apply tn;intro hc
    rw[fl (by simp[pV.rows];omega)]at hj;cases hj
   have hx:x=(F j).strs:=by simpa[pV.rows,F3]using hj.symm
   subst hx
   exact⟨g j,by simp[F3],((hg j (by omega)).2).ae q2.ae⟩
open Go Go.ChangeShapes Go.WideShapes Go.RowKit Go.Deep
variable {P:Program}
def pW{t s:TypeId}(ht:P.underlying t=some (.slice s))(hs:P.underlying s=some .string)(hc:P.cellsOf s=1){H:Type}{enc:TypeId×Value->H}{W:World}{fuel:Nat}{c:Value}{x:DataW H×List MemPlace}
  (h:DataW.trod enc P W 0 (fun _=>true) true fuel t [c]=some x):∃i:mJ,c=i.val/\i.ok W/\i.strs.length<9223372036854775808:=by
 rcases open_slice1 ht hc h with⟨hc,_⟩|⟨a,len,cap,m,n,Vf,D,Pl,hc,_,hl,df,hm,_,hx⟩
 ·have pF:c=.slice none 0 0:=by simpa using hc
  exact⟨.nil,pF,trivial,by simp[mJ.strs]⟩
 ·simp only[if_true]at hm
  subst hm
  have pF:c=.slice (some a) len m:=by simpa using hc
  rcases F4 m with h0|h0
  ·subst h0
   have:len=0:=by omega
   subst this
   exact⟨.emp a,pF,trivial,by simp[mJ.strs]⟩
  ·refine⟨.sl a len m fun i=>match Vf i with|.string s=>s|_=>⟨#[]⟩,pF,⟨hl,h0,fun i hi=>?_⟩,by simp only[mJ.strs,je,List.length_range];unfold maxLen at df;omega⟩
   obtain⟨g1,g2⟩:=hx i hi
   obtain⟨s,e0,_⟩:=DataW.trod_string hs g2
   simp only[iY,and_true]at e0
   rw[g1]
   simp only[e0]
def zJ{t l s:TypeId}(ht:P.underlying t=some (.slice l))(ax:P.underlying l=some (.slice s))(hs:P.underlying s=some .string)(cO:P.cellsOf l=1)(hc:P.cellsOf s=1){H:Type}{enc:TypeId×Value->H}{W:World}{fuel:Nat}{c:Value}{x:DataW H×List MemPlace}
  (h:DataW.trod enc P W 0 (fun _=>true) true fuel t [c]=some x):∃m:pV,c=m.val/\m.ok W/\m.rows.length<9223372036854775808/\∀r∈m.rows,r.length<9223372036854775808:=by
 rcases open_slice1 ht cO h with⟨hc,_⟩|⟨a,len,cap,m,n,Vf,D,Pl,pF,_,hl,df,hm,_,hx⟩
 ·have pF:c=.slice none 0 0:=by simpa using hc
  exact⟨.nil,pF,trivial,by simp[pV.rows],fun r hr=>by simp[pV.rows]at hr⟩
 ·simp only[if_true]at hm
  subst hm
  have pF:c=.slice (some a) len m:=by simpa using pF
  rcases F4 m with h0|h0
  ·subst h0
   have:len=0:=by omega
   subst this
   exact⟨.emp a,pF,trivial,by simp[pV.rows],fun r hr=>by simp[pV.rows]at hr⟩
  ·have dJ:∀i,∃s:mJ,i<m->Vf i=s.val/\s.ok W/\s.strs.length<9223372036854775808:=fun i=>by
    by_cases hi:i<m
    ·obtain⟨g1,g2⟩:=hx i hi
     obtain⟨s,q⟩:=pW ax hs hc g2
     exact⟨s,fun _=>q⟩
    ·exact⟨.nil,fun h=>absurd h hi⟩
   obtain⟨F,hF⟩:=Classical.axiomOfChoice dJ
   refine⟨.sl a len m F,pF,⟨hl,h0,fun i hi=>⟨?_,(hF i hi).2.1⟩⟩,by simp only[pV.rows,je,List.length_range];unfold maxLen at df;omega,fun r hr=>?_⟩
   ·rw[(hx i hi).1,(hF i hi).1]
   ·obtain⟨i,hi,rfl⟩:=fv.1 hr
    exact(hF i (by have:=zq.1 hi;omega)).2.2
def qL{W:World}{laid:List (String×DataW Unit)}{name:String}{k:IntKind}{zs:List Int}{g:Nat}{t e:TypeId}{n:Nat}{z:Array Value}
  (hg:P.globalNamed name=some g) (KH:(P.globals[g]?).map (·.type)=some t) (ht:P.underlying t=some (.array n e)) (he:P.underlying e=some (.int k)) (hce:P.cellsOf e=1) (hct:P.cellsOf t=n)
  (hf:laid.filter (fun x=>x.1==name)=[(name,Lib.tabData k zs)]) (ax:g<P.globals.size) (hz:((begin P (fun _ _=>0) default).world.heap[g]?).bind Obj.row?=some (z,t))
  (hl:laidMet P laid W) (hs:W.ShapedOpen P):jh P W [(g,.cells (zs.map fun z=>V.int k z) t false)]:=by
 have h1:=laidMet.filter (fun x=>x.1==name) hl
 rw[hf]at h1
 have h2:=Lib.tabIs_of_head hg KH ht he hce hct h1
 unfold Lib.TabIs World.var? at h2
 rw[hg]at h2
 obtain⟨cs,h3,_⟩:=hs.1 g z t ax hz
 simp only[Option.bind_some,h3,aq]at h2
 subst h2
 exact jh.one h3
end Go.Mx
