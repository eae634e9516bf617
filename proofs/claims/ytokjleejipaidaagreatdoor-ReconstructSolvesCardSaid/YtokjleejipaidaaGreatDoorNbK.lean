/-number-/
import Derived.Test.YtokjleejipaidaaGreatDoorPaD
set_option linter.all false
namespace Go.Mx
open Go Go.Proofs
variable {s:aQ}
set_option maxHeartbeats 1000000
set_option maxRecDepth 1000000
def A.dX:bN:=.seq (sr [mv 46 8,ge 47 (.un .not (tq 46)),ge 48 (.call (fq 193) [tq 47,.const (.int .i64 1)]),mv 49 5,ge 50 (.len 0 (tq 49)),bc 51 .gtr 50 600,mv 52 51,mh 53 6 52,gz 54 52 (.len 0 (tq 53)),gz 55 52 (.bin .gtr (.node []) false (tq 54) (kq 600)),pt 56 52 55,ge 57 (.call (fq 193) [tq 56,.const (.int .i64 4)]),ge 58 (.eh 28 1 2 [.int .i64 0,.int .i64 0] [(0,1,(tq 48)),(1,1,(tq 57))]),c1 59 192 58,mv 9 59]
 (sr [mv 60 9,ni 61 60 0]
 (cd 61
 (sr [mv 62 9,mv 2 62]
 (.ret))
 (.skip))))
 (sr [mv 63 7,mv 64 63,mg 65 5 64,gy 66 64 (.call (fq 158) [tq 65]),mg 67 6 64,gy 68 64 (.call (fq 158) [tq 67]),gy 69 64 (.call (fq 194) [tq 66,tq 68]),gy 70 64 (.call (fq 171) [.const (.int .i64 1)]),gy 71 64 (.call (fq 195) [tq 69,tq 70]),gy 72 64 (.bin .neq (.bI .int) true (tq 71) (kq 0)),pf 73 64 72,mv 10 73]
 (sr [mv 74 10,ge 75 (.call (fq 193) [tq 74,.const (.int .i64 1)]),mv 2 75]
 (.ret)))
def A.b143:bN:=sr [mc 2 0]
 (sr [mv 12 0,ge 13 (.call (fq 190) [tq 12,(.const (.str [45]))]),mv 11 13,xt 14 11 0,xt 15 11 1,mv 3 14,mv 4 15]
 (sr [mv 17 3,ge 18 (.call (fq 157) [tq 17,(.const (.str [47]))]),mv 16 18,xt 19 16 0,xt 20 16 1,xt 21 16 2,mv 5 19,mv 6 20,mv 7 21]
 (sr [mv 22 5,c1 23 191 22,mv 24 23,mg 25 4 24,gy 26 24 (.un .not (tq 25)),mg 27 26 24,mh 28 5 27,gz 29 27 (.bin .neq (.bI .str) true (tq 28) (.const (.str [48]))),gy 30 24 (.pick (tq 27) (.const (.bool true)) (tq 29)),pf 31 24 30,mv 8 31]
 (.seq (sr [mv 32 7]
 (cd 32
 (.dN [mv 33 8,mv 34 33,mg 35 6 34,gy 36 34 (.call (fq 191) [tq 35]),pf 37 34 36,mv 38 37,mg 39 6 38,gy 40 38 (.bin .neq (.bI .str) true (tq 39) (.const (.str [48]))),pf 41 38 40,mv 42 41,mg 43 6 42,gy 44 42 (.bin .neq (.bI .str) true (tq 43) (.const (.str [49]))),pf 45 42 44,mv 8 45])
 (.skip)))
 A.dX))))
def A.k143:=@A.kk 143 76 [.tmp 2] A.b143 (by kernel_rfl) rfl
def Zt9{s:aQ}(h:ja s=true):cI s=true/\1<=s.length:=by
 cases s with
 |nil=>cases h
 |cons c s=>
  unfold ja at h
  rw[iz]at h
  exact⟨h.1,by simp⟩
def ph(form br:Bool)(p d:aQ):Nat:=if form=false then 1 else if 600<p.length\/600<d.length then 4 else if br=true/\Nat.gcd (aF p) (aF d)≠1 then 1 else 0
def Yjf{s:aQ}(h:cI s=true):cy s=false/\bk s=s:=by
 cases s with
 |nil=>exact⟨rfl,rfl⟩
 |cons c s=>
  have hc:kl c=true:=by simp[cI]at h;exact h.1
  unfold kl at hc
  simp only[decide_eq_true_eq]at hc
  have:cy (c::s)=false:=by simp[cy];omega
  refine⟨this,?_⟩
  unfold bk;rw[this];rfl
def Zxt{h:T O}{N:Nat}(hd:cI s=true)(hl:s.length<=100000):Fn A.C 158 [.str s] h N (fun v h' n'=>In h' n' v (aF s:Nat)):=by
 obtain⟨h1,h2⟩:=Yjf hd
 have:=Ydt (s:=s) (h:=h) (N:=N) (by rw[h2];exact hd) (by rw[h2];exact hl)
 rw[h1,h2]at this
 exact this
def Yq4{H:T O}{n:Nat}{r0:T V}{p d:aQ}{form br:Bool}(hp:form=true->cI p=true)(hd:form=true->br=true->cI d=true)(lp:p.length<=100000)(ld:d.length<=100000)(a5:r0.get 5=some (.str p))(a6:r0.get 6=some (.str d))(a7:r0.get 7=some (.bool br))(a8:r0.get 8=some (.bool form)):
  Code A.C none A.dX ⟨r0,76,[]⟩ ⟨H,n,[]⟩ (fun e fr st=>e=.ret/\∃r,fr=⟨r,76,[]⟩/\r.get 2=some (.int .i64 (ph form br p d:Nat))/\ar n st.w=[]/\ab H n st.h st.n):=by
 rw[bb]
 cases form with
 |false=>
  by_cases c1:600<p.length
  ·have c1':(600:Int)<(p.length:Int):=by omega
   simp[A.dX,a5,a6,a7,a8,DP,c1',ae,IA,bn,aJ,ph]
   exact aN ab.refl _
  ·have c1':¬(600:Int)<(p.length:Int):=by omega
   by_cases c2:600<d.length
   ·have c2':(600:Int)<(d.length:Int):=by omega
    simp[A.dX,a5,a6,a7,a8,DP,c1',c2',ae,IA,bn,aJ,ph]
    exact aN ab.refl _
   ·have c2':¬(600:Int)<(d.length:Int):=by omega
    simp[A.dX,a5,a6,a7,a8,DP,c1',c2',ae,IA,bn,aJ,ph]
    exact aN ab.refl _
 |true=>
  by_cases c1:600<p.length
  ·have c1':(600:Int)<(p.length:Int):=by omega
   simp[A.dX,a5,a6,a7,a8,DP,c1,c1',ae,IA,bn,aJ,ph]
   exact aN ab.refl _
  ·have c1':¬(600:Int)<(p.length:Int):=by omega
   by_cases c2:600<d.length
   ·have c2':(600:Int)<(d.length:Int):=by omega
    simp[A.dX,a5,a6,a7,a8,DP,c1,c2,c1',c2',ae,IA,bn,aJ,ph]
    exact aN ab.refl _
   ·have c2':¬(600:Int)<(d.length:Int):=by omega
    have c3:¬(600<p.length\/600<d.length):=by omega
    cases br with
    |false=>
     simp[A.dX,a5,a6,a7,a8,DP,c1,c2,c1',c2',ae,IA,bn,aJ,ph]
     exact aN ab.refl _
    |true=>
     have lwp:wl ((aF p:Nat):Int)<=100000:=p9 (F0 (B7 (hp rfl))) lp
     have lwd:wl ((aF d:Nat):Int)<=100000:=p9 (F0 (B7 (hd rfl rfl))) ld
     simp[A.dX,a5,a6,a7,a8,DP,c1,c2,c1',c2',ae,IA,bn,aJ]
     have kz:=aN (ab.refl (h:=H) (n:=n)) (.cells [.int .i64 0,.int .i64 0] 28 true)
     refine ay (Zxt (hp rfl) (by omega)) ?_
     rintro v3 h3 n3 k3 Sq
     simp[a6]
     refine ay (Zxt (hd rfl rfl) (by omega)) ?_
     rintro v4 h4 n4 k4 Oc
     simp[]
     refine ay (Ymj (Sq.ad k4) Oc (by omega) (by omega)) ?_
     rintro v5 h5 n5 k5 hv5
     simp[]
     refine ay Il ?_
     rintro _ h6 n6 k6 rfl
     simp[]
     have hg:Int.gcd (aF p:Nat) (aF d:Nat)=Nat.gcd (aF p) (aF d):=rfl
     rw[hg]at hv5
     have lg:wl ((Nat.gcd (aF p) (aF d):Nat):Int)<100000000000:=by
      by_cases hz:aF p=0
      ·rw[hz,Nat.gcd_zero_left];omega
      ·have:=Iv (a:=((Nat.gcd (aF p) (aF d):Nat):Int)) (b:=((aF p:Nat):Int)) (by
        have:=Nat.gcd_le_left (aF d) (show 0<aF p by omega)
        omega)
       omega
     have l1:wl (1:Int)<100000000000:=by decide+kernel
     refine ay (Ymv (hv5.ad k6) (In.small (z:=1) (by omega) (by omega)) lg l1) ?_
     rintro _ h7 n7 k7 rfl
     have kk:=((((kz.trans k3).trans k4).trans k5).trans k6).trans k7
     generalize hgg:Nat.gcd (aF p) (aF d)=g at*
     by_cases g1:g=1
     ·subst g1
      simp[aJ,DP,ph,c1,c2,dL,hgg]
      exact kk
     ·have g2:¬dL ((g:Int)-1)=0:=by unfold dL;split<;>(try split)<;>omega
      simp[aJ,DP,ph,c1,c2,g1,g2,hgg]
      exact kk
def Zy4(hl:s.length<=100000){h:T O}{N:Nat}:Fn A.C 143 [.str s] h N (fun v _ _=>v=.int .i64 (bj s:Nat)):=by
 intro w
 have hb:(bk s).length<=s.length:=by unfold bk;split<;>simp
 have hc:=fun st=>Ymt (s:=bk s) (st:=st) (by omega)
 rw[aM,A.k143 (by simp)]
 show bz _ _ _ (Dl (az (fun v _ _=>v=.int .i64 (Kt (cy s) (bk s):Nat)) h N w))
 unfold Kt
 have hle:=FF (bk s)
 have ym:((bk s).take (ah (bk s))).length<=100000:=by simp;omega
 have uf:((bk s).drop (ah (bk s)+1)).length<=100000:=by simp;omega
 simp[A.b143,Zur,hc]
 generalize cy s=neg at*
 generalize qf:decide (ah (bk s)<(bk s).length)=br at*
 generalize BF:(bk s).take (ah (bk s))=p at*
 generalize Cn:(bk s).drop (ah (bk s)+1)=d at*
 clear qf BF Cn hc
 have cr:kp neg p br d=ph (gH neg p br d) br p d:=rfl
 rw[cr]
 have fin:∀(h1:T O) (n1:Nat) (r:T V) (form:Bool),ab h N h1 n1->form=gH neg p br d->r.get 5=some (.str p)->r.get 6=some (.str d)->r.get 7=some (.bool br)->r.get 8=some (.bool form)->bz A.C [.fin [.tmp 2] ⟨h,N,w⟩] (eK (A.C.code none A.dX ⟨r,76,[]⟩ ⟨h1,n1,[]⟩)) (Dl (az (fun v _ _=>v=.int .i64 (ph (gH neg p br d) br p d:Nat)) h N w)):=by
  intro h1 n1 r form k1 dE a5 a6 a7 a8
  refine lG (Yq4 (form:=form) (br:=br) (p:=p) (d:=d) ?_ ?_ ym uf a5 a6 a7 a8) ?_
  ·intro hf
   rw[dE]at hf
   unfold gH at hf
   simp only[iz]at hf
   exact(Zt9 hf.1.1).1
  ·intro hf pM
   rw[dE]at hf
   unfold gH at hf
   rw[pM]at hf
   simp only[iz,Bool.not_true,Bool.false_or]at hf
   exact(Zt9 hf.2.1.1).1
  ·rintro e fr ⟨h2,n2,W2⟩ ⟨rfl,r2,rfl,dt,hW,hK⟩
   simp only at hW hK
   have dZ:=Ky k1.le hW
   simp[dt,az,dZ,dE]
   exact k1.trans hK
 refine ay (Zq (by omega)) ?_
 rintro v h1 n1 k1 rfl
 have z0:ja [48]=true:=by decide
 by_cases hA:ja p=true
 ·have hB:(neg=true/\p=[48])\/(neg=false)\/(neg=true/\p≠[48]):=by
   cases neg
   ·exact .inr (.inl rfl)
   ·by_cases hq:p=[48]
    ·exact .inl ⟨rfl,hq⟩
    ·exact .inr (.inr ⟨rfl,hq⟩)
  rcases hB with⟨rfl,rfl⟩|rfl|⟨rfl,Dx⟩
  ·cases br
   ·simp[aJ,z0]
    exact fin _ _ _ false k1 (by simp[gH]) (by simp) (by simp) (by simp) (by simp)
   ·simp[aJ,z0]
    exact fin _ _ _ false k1 (by simp[gH]) (by simp) (by simp) (by simp) (by simp)
  ·cases br
   ·simp[aJ,hA]
    exact fin _ _ _ true k1 (by simp[gH,hA]) (by simp) (by simp) (by simp) (by simp)
   ·simp[aJ,hA]
    refine ay (Zq (by omega)) ?_
    rintro v h2 n2 k2 rfl
    by_cases hD:ja d=true
    ·by_cases h48:d=[48]
     ·subst h48
      simp[aJ,z0,hA]
      exact fin _ _ _ false (k1.trans k2) (by simp[gH]) (by simp) (by simp) (by simp) (by simp)
     ·have e8:(d==[48])=false:=by simp[h48]
      have e9:(d==[49])=decide (d=[49]):=by by_cases h:d=[49]<;>simp[h]
      simp[aJ,hA,hD,e8,h48]
      exact fin _ _ _ (!(d==[49])) (k1.trans k2) (by simp[gH,hA,hD,h48,e9]) (by simp) (by simp) (by simp) (by simp)
    ·have hD:ja d=false:=by simpa using hD
     simp[aJ,hA,hD]
     exact fin _ _ _ false (k1.trans k2) (by simp[gH,hD]) (by simp) (by simp) (by simp) (by simp)
  ·have e1:(p==[48])=false:=by simp[Dx]
   cases br
   ·simp[aJ,hA,e1,Dx]
    exact fin _ _ _ true k1 (by simp[gH,hA,Dx]) (by simp) (by simp) (by simp) (by simp)
   ·simp[aJ,hA,e1,Dx]
    refine ay (Zq (by omega)) ?_
    rintro v h2 n2 k2 rfl
    by_cases hD:ja d=true
    ·by_cases h48:d=[48]
     ·subst h48
      simp[aJ,z0,hA]
      exact fin _ _ _ false (k1.trans k2) (by simp[gH]) (by simp) (by simp) (by simp) (by simp)
     ·have e8:(d==[48])=false:=by simp[h48]
      have e9:(d==[49])=decide (d=[49]):=by by_cases h:d=[49]<;>simp[h]
      simp[aJ,hA,hD,e8,h48]
      exact fin _ _ _ (!(d==[49])) (k1.trans k2) (by simp[gH,hA,hD,h48,Dx,e9]) (by simp) (by simp) (by simp) (by simp)
    ·have hD:ja d=false:=by simpa using hD
     simp[aJ,hA,hD]
     exact fin _ _ _ false (k1.trans k2) (by simp[gH,hD]) (by simp) (by simp) (by simp) (by simp)
 ·have hA:ja p=false:=by simpa using hA
  cases br
  ·simp[aJ,hA]
   exact fin _ _ _ false k1 (by simp[gH,hA]) (by simp) (by simp) (by simp) (by simp)
  ·simp[aJ,hA]
   exact fin _ _ _ false k1 (by simp[gH,hA]) (by simp) (by simp) (by simp) (by simp)
variable {H h:T O} {N Z a i ir k n2 o u x:Nat} {W:List Nat} {cp:Option Nat} {r:T V}
set_option maxHeartbeats 4000000
def sh:List UInt8:=[48,48,48,49,48,50,48,51,48,52,48,53,48,54,48,55,48,56,48,57,49,48,49,49,49,50,49,51,49,52,49,53,49,54,49,55,49,56,49,57,50,48,50,49,50,50,50,51,50,52,50,53,50,54,50,55,50,56,50,57,51,48,51,49,51,50,51,51,51,52,51,53,51,54,51,55,51,56,51,57,52,48,52,49,52,50,52,51,52,52,52,53,52,54,52,55,52,56,52,57,53,48,53,49,53,50,53,51,53,52,53,53,53,54,53,55,53,56,53,57,54,48,54,49,54,50,54,51,54,52,54,53,54,54,54,55,54,56,54,57,55,48,55,49,55,50,55,51,55,52,55,53,55,54,55,55,55,56,55,57,56,48,56,49,56,50,56,51,56,52,56,53,56,54,56,55,56,56,56,57,57,48,57,49,57,50,57,51,57,52,57,53,57,54,57,55,57,56,57,57]
def Zr:List UInt8:=[48,49,50,51,52,53,54,55,56,57,97,98,99,100,101,102,103,104,105,106,107,108,109,110,111,112,113,114,115,116,117,118,119,120,121,122]
noncomputable def A.b280:=A.q Tryz.f280
def A.k280:=@A.kk 280 15 [.tmp 2] A.b280 (by kernel_rfl) rfl
noncomputable def A.b296:=A.q Tryz.f296
def A.k296:=@A.kk 296 6 [.tmp 2] A.b296 (by kernel_rfl) rfl
noncomputable def A.b297:=A.q Tryz.f297
def A.k297:=@A.kk 297 4 [.tmp 2] A.b297 (by kernel_rfl) rfl
def A.np:bN:=.seq (sr [mv 19 4,bc 20 .geq 19 8]
 (cd 20
 (.skip)
 (.exit 0)))
 (.block 1 (sr [mv 21 1,ge 22 (.bin .rem (.node []) false (tq 21) (.const (.int .u64 100000000))),ge 23 (.cR .u32 (tq 22)),mv 5 23]
 (sr [mv 24 1,ge 25 (.bin .quo (.node []) false (tq 24) (.const (.int .u64 100000000))),mv 1 25]
 (sr [mv 26 5,ge 27 (.bin .quo (.node []) false (tq 26) (.const (.int .u32 10000))),mv 28 5,ge 29 (.bin .rem (.node []) false (tq 28) (.const (.int .u32 10000))),mv 6 27,mv 7 29]
 (sr [mv 30 7,ge 31 (.bin .quo (.node []) false (tq 30) (.const (.int .u32 100))),ge 32 (.bin .mul (.node []) false (tq 31) (.const (.int .u32 2))),mv 33 7,ge 34 (.bin .rem (.node []) false (tq 33) (.const (.int .u32 100))),ge 35 (.bin .mul (.node []) false (tq 34) (.const (.int .u32 2))),mv 8 32,mv 9 35]
 (sr [mv 36 6,ge 37 (.bin .quo (.node []) false (tq 36) (.const (.int .u32 100))),ge 38 (.bin .mul (.node []) false (tq 37) (.const (.int .u32 2))),mv 39 6,ge 40 (.bin .rem (.node []) false (tq 39) (.const (.int .u32 100))),ge 41 (.bin .mul (.node []) false (tq 40) (.const (.int .u32 2))),mv 10 38,mv 11 41]
 (.seq (.dc [mv 42 0,mv 43 4,bc 44 .sub 43 1,mv 45 0,mv 46 4,bc 47 .sub 46 2,mv 48 9,ge 49 (.bin .add (.node []) false (tq 48) (.const (.int .u32 1))),ge 50 (.bJ (.const (.str sh)) (tq 49)),mv 51 9,ge 52 (.bJ (.const (.str sh)) (tq 51)),ia 53 1 42 44,so 53 50,ia 54 1 45 47,so 54 52] [0,0,2,0,0,16,0,64,192,0,512,455,2503,8191,16383])
 (.seq (.dc [mv 55 0,mv 56 4,bc 57 .sub 56 3,mv 58 0,mv 59 4,bc 60 .sub 59 4,mv 61 8,ge 62 (.bin .add (.node []) false (tq 61) (.const (.int .u32 1))),ge 63 (.bJ (.const (.str sh)) (tq 62)),mv 64 8,ge 65 (.bJ (.const (.str sh)) (tq 64)),ia 66 1 55 57,so 66 63,ia 67 1 58 60,so 67 65] [0,0,2,0,0,16,0,64,192,0,512,455,2503,8191,16383])
 (.seq (.dc [mv 68 0,mv 69 4,bc 70 .sub 69 5,mv 71 0,mv 72 4,bc 73 .sub 72 6,mv 74 11,ge 75 (.bin .add (.node []) false (tq 74) (.const (.int .u32 1))),ge 76 (.bJ (.const (.str sh)) (tq 75)),mv 77 11,ge 78 (.bJ (.const (.str sh)) (tq 77)),ia 79 1 68 70,so 79 76,ia 80 1 71 73,so 80 78] [0,0,2,0,0,16,0,64,192,0,512,455,2503,8191,16383])
 (.seq (.dc [mv 81 0,mv 82 4,bc 83 .sub 82 7,mv 84 0,mv 85 4,bc 86 .sub 85 8,mv 87 10,ge 88 (.bin .add (.node []) false (tq 87) (.const (.int .u32 1))),ge 89 (.bJ (.const (.str sh)) (tq 88)),mv 90 10,ge 91 (.bJ (.const (.str sh)) (tq 90)),ia 92 1 81 83,so 92 89,ia 93 1 84 86,so 93 91] [0,0,2,0,0,16,0,64,192,0,512,455,2503,8191,16383])
 (.dN [mv 94 4,bc 95 .sub 94 8,mv 4 95])))))))))))
def A.nt:bN:=sr [mv 160 4,bc 161 .gtr 160 0]
 (cd 161
 (.dN [mv 162 0,mv 163 12,ge 164 (.bin .add (.node []) false (.const (.int .u32 48)) (tq 163)),ge 165 (.cR .u8 (tq 164)),ge 166 (.dh 1 (tq 162) (kq 0)),so 166 165])
 (.skip))
def A.nv:bN:=.seq (sr [mv 138 4,bc 139 .geq 138 2]
 (cd 139
 (sr [mv 140 12,ge 141 (.bin .rem (.node []) false (tq 140) (.const (.int .u32 100))),ge 142 (.bin .mul (.node []) false (tq 141) (.const (.int .u32 2))),mv 16 142]
 (sr [mv 143 12,ge 144 (.bin .quo (.node []) false (tq 143) (.const (.int .u32 100))),mv 12 144]
 (.seq (.dc [mv 145 0,mv 146 4,bc 147 .sub 146 1,mv 148 0,mv 149 4,bc 150 .sub 149 2,mv 151 16,ge 152 (.bin .add (.node []) false (tq 151) (.const (.int .u32 1))),ge 153 (.bJ (.const (.str sh)) (tq 152)),mv 154 16,ge 155 (.bJ (.const (.str sh)) (tq 154)),ia 156 1 145 147,so 156 153,ia 157 1 148 150,so 157 155] [0,0,2,0,0,16,0,64,192,0,512,455,2503,8191,16383])
 (.dN [mv 158 4,bc 159 .sub 158 2,mv 4 159]))))
 (.skip)))
 A.nt
def A.nw:bN:=.seq (sr [mv 98 4,bc 99 .geq 98 4]
 (cd 99
 (sr [mv 100 12,ge 101 (.bin .rem (.node []) false (tq 100) (.const (.int .u32 10000))),mv 13 101]
 (sr [mv 102 12,ge 103 (.bin .quo (.node []) false (tq 102) (.const (.int .u32 10000))),mv 12 103]
 (sr [mv 104 13,ge 105 (.bin .quo (.node []) false (tq 104) (.const (.int .u32 100))),ge 106 (.bin .mul (.node []) false (tq 105) (.const (.int .u32 2))),mv 107 13,ge 108 (.bin .rem (.node []) false (tq 107) (.const (.int .u32 100))),ge 109 (.bin .mul (.node []) false (tq 108) (.const (.int .u32 2))),mv 14 106,mv 15 109]
 (.seq (.dc [mv 110 0,mv 111 4,bc 112 .sub 111 1,mv 113 0,mv 114 4,bc 115 .sub 114 2,mv 116 15,ge 117 (.bin .add (.node []) false (tq 116) (.const (.int .u32 1))),ge 118 (.bJ (.const (.str sh)) (tq 117)),mv 119 15,ge 120 (.bJ (.const (.str sh)) (tq 119)),ia 121 1 110 112,so 121 118,ia 122 1 113 115,so 122 120] [0,0,2,0,0,16,0,64,192,0,512,455,2503,8191,16383])
 (.seq (.dc [mv 123 0,mv 124 4,bc 125 .sub 124 3,mv 126 0,mv 127 4,bc 128 .sub 127 4,mv 129 14,ge 130 (.bin .add (.node []) false (tq 129) (.const (.int .u32 1))),ge 131 (.bJ (.const (.str sh)) (tq 130)),mv 132 14,ge 133 (.bJ (.const (.str sh)) (tq 132)),ia 134 1 123 125,so 134 131,ia 135 1 126 128,so 135 133] [0,0,2,0,0,16,0,64,192,0,512,455,2503,8191,16383])
 (.dN [mv 136 4,bc 137 .sub 136 4,mv 4 137]))))))
 (.skip)))
 A.nv
def A.b281:bN:=sr [mv 17 0,ln 18 17,mv 4 18]
 (.seq (.block 0 (.loop A.np))
 (sr [mv 96 1,ge 97 (.cR .u32 (tq 96)),mv 12 97]
 A.nw))
def A.k281:=@A.kk 281 167 [] A.b281 (by kernel_rfl) rfl
def A.b279:bN:=sr [ge 2 (.jF (.const (.str [])))]
 (.seq (sr [mv 3 0,bc 4 .lss 3 10]
 (cd 4
 (sr [mv 5 0,mv 6 0,bc 7 .add 6 1,ge 8 (.ct (.const (.str Zr)) (some (tq 5)) (some (tq 7))),mv 2 8]
 (.ret))
 (.skip)))
 (sr [mv 9 0,bc 10 .mul 9 2,mv 11 0,bc 12 .mul 11 2,bc 13 .add 12 2,ge 14 (.ct (.const (.str sh)) (some (tq 10)) (some (tq 13))),mv 2 14]
 (.ret)))
def A.k279:=@A.kk 279 15 [.tmp 2] A.b279 (by kernel_rfl) rfl
@[simp] def Ywh {a b:Nat}:a<b\/b<=a:=Nat.lt_or_ge a b
def KJ{n:Int}(h1:0<=n)(h2:n<4294967296):bh .u32 n=n:=by rw[AB];show n%4294967296=n;omega
def Zs:List Nat:=[1,10,100,1000,10000,100000,1000000,10000000,100000000,1000000000,10000000000,100000000000,1000000000000,10000000000000,100000000000000,1000000000000000,10000000000000000,100000000000000000,1000000000000000000,10000000000000000000]
def lE(h:T O)(N:Nat):Prop:=5<N/\h.get 5=some A.LZ
def lE.ad{h':T O}{N':Nat}(s:lE h N)(k:ab h N h' N'):lE h' N':=by
 exact⟨e_ s.1 k.le,(k.get _ s.1).trans s.2⟩
def lE.ex(s:lE h N):5<N/\∃e rw,h.get 5=some (.cells (dg Zs) e rw):=⟨s.1,_,_,s.2.trans rfl⟩
def Yi2:∀j:Nat,j<20->Zs[j]?=some (10^j):=by decide+kernel
def You{j:Nat}(h:j<20):(dg Zs)[j]?=some (.int .u64 ((10^j:Nat):Int)):=fz (Yi2 j h)
def Ymd:∀b:Nat,b<65->0<b->10^(b*78913/262144)<=10*2^(b-1)/\2^b<=10^(b*78913/262144+1)/\b*78913/262144<20:=by decide+kernel
def Yvw{b:Nat}(hb:b<65)(hk:b*78913/262144=k){h:T O}{N:Nat}:Fn A.C 296 [.int .i64 b] h N (fun v h' N'=>h'=h/\N'=N/\v=.int .i64 (k:Nat)):=by
 intro w
 rw[aM,A.k296 (by simp)]
 have e1:bh .i64 ((b:Int)*78913)=(b:Int)*78913:=cE (by omega) (by omega)
 have e2:zC .shr .i64 ((b:Int)*78913) 18=some (.int .i64 ((b:Int)*78913/262144)):=by
  unfold zC
  rw[ak (by omega)]
  show some (V.int .i64 (Int.fdiv _ 262144))=_
  rw[Int.fdiv_eq_ediv_of_nonneg _ (by omega)]
 have e3:(b:Int)*78913/262144=k:=by omega
 simp[A.b296,e1,e2,e3,az]
 exact ab.refl
def Yv9{b:Bool}:Fn A.C 297 [.bool b] h N (fun v h' N'=>h'=h/\N'=N/\v=.int .i64 (if b=true then 1 else 0)):=by
 intro w
 rw[aM,A.k297 (by simp)]
 cases b
 ·simp[A.b297,az]
  exact ab.refl
 ·simp[A.b297,az]
  exact ab.refl
def Zsg(hx:0<x)(hb:aX x<65):(if 10^(aX x*78913/262144)<=x then 1 else 0)+aX x*78913/262144=(de x).length:=by
 have nz:x≠0:=by omega
 have h1:=Sf x
 have h2:=KE nz
 have h0:0<aX x:=by unfold aX;rw[ak nz];omega
 obtain⟨g1,g2,g3⟩:=Ymd _ hb h0
 generalize hk:aX x*78913/262144=k at*
 have u1:(de x).length<=k+1:=qd.1 (by omega)
 by_cases c:10^k<=x
 ·rw[ax c]
  have:¬(de x).length<=k:=fun hc=>by have:=qd.2 hc;omega
  omega
 ·rw[ak c]
  have u2:(de x).length<=k:=qd.1 (by omega)
  cases k with
  |zero=>omega
  |succ j=>
   have:¬(de x).length<=j:=fun hc=>by
    have:=qd.2 hc
    rw[gw]at g1
    omega
   omega
def Zt(hx:x<18446744073709551616)(h0:0<x){h:T O}{N:Nat}(hp:lE h N):Fn A.C 280 [.int .u64 x] h N (fun v h' N'=>h'=h/\N'=N/\v=.int .i64 ((de x).length:Nat)):=by
 intro w
 have hb:aX x<65:=by
  apply tW
  intro hc
  have h2:=KE (show x≠0 by omega)
  have:2^64<=2^(aX x-1):=rJ (by decide) (by omega)
  omega
 rw[aM,A.k280 (by simp)]
 simp[A.b280]
 refine ay (Zd hx) ?_
 rintro _ _ _ _ ⟨rfl,rfl,rfl⟩
 simp[]
 refine ay (Yvw hb rfl) ?_
 rintro _ _ _ _ ⟨rfl,rfl,rfl⟩
 have jj:0<aX x:=by unfold aX;rw[ak (by omega)];omega
 have hl:=Zsg h0 hb
 have g3:=(Ymd _ hb jj).2.2
 generalize aX x*78913/262144=k at*
 obtain⟨q1,e,rw,q2⟩:=hp.ex
 have q3:=You g3
 have g4:(k:Int)<20:=by omega
 simp[C1,g3,g4,q2,q3]
 refine ay Yv9 ?_
 rintro _ _ _ _ ⟨rfl,rfl,rfl⟩
 simp(disch:=omega) [az]
 refine⟨ab.refl,?_⟩
 rw[<-hl]
 have cc:((10:Int)^k<=(x:Int))↔10^k<=x:=by exact_mod_cast Iff.rfl
 by_cases c:10^k<=x
 ·rw[ax (cc.2 c),ax c];omega
 ·rw[ak (fun hc=>c (cc.1 hc)),ak c];omega
def wM(N:Nat)(f:Nat->V):List V:=(List.range N).map f
def Bb(N:Nat)(f:Nat->V):(wM N f).length=N:=by simp[wM]
def Sr{j:Nat}{f:Nat->V}(h:j<N):(wM N f)[j]?=some (f j):=by simp[wM,h]
def lZ(f:Nat->V)(k:Nat)(v:V):Nat->V:=fun j=>if j=k then v else f j
def Zvh{f:Nat->V}{v:V}(h:k<N):ae (wM N f) k [v]=wM N (lZ f k v):=by
 apply og
 intro j
 rw[Kj (by rw[Bb];simp;omega)]
 by_cases hj:k<=j/\j<k+[v].length
 ·rw[ax hj]
  simp at hj
  have:j=k:=by omega
  subst this
  rw[Sr h]
  simp[lZ]
 ·rw[ak hj]
  simp at hj
  by_cases hN:j<N
  ·rw[Sr hN,Sr hN,lZ,ak (by omega)]
  ·rw[fv (by rw[Bb];omega),fv (by rw[Bb];omega)]
def Od{w:List Nat}{p:Nat}{f:Nat->V}{e:TypeId}{k:IntKind}{n:Int}(hp:p<Z):
  bD 1 ⟨h,N,w⟩ i p (.int k n) (some (.cells (wM Z f) e true))=some (.aV [],⟨h.set i (.cells (wM Z (lZ f p (.int k n))) e true),N,i::w⟩):=by
 rw[Zmd (by rfl) (by rw[Bb];omega) (by rfl)]
 show some (_,St.mk (h.set i (.cells (ae (wM Z f) p [.int k n]) e true)) _ _)=_
 rw[Zvh hp]
def vB(c:UInt8):V:=.int .u8 (cK c)
def IB:∀p:Nat,p<100->sh[2*p+1]?=some (cZ p):=by decide+kernel
def IC:∀p:Nat,p<100->sh[2*p]?=some (cZ (p/10)):=by decide+kernel
def yn{b:Nat}(h:a%10=b%10):cZ a=cZ b:=by unfold cZ;rw[h]
structure pN (Z o L x i u:Nat) (f0 f:Nat->V):Prop where
 le:i<=L
 u:u=x/10^(L-i)
 Zu:∀j,i<=j->j<L->f (o+j)=vB (cZ (x/10^(L-1-j)))
 out:∀j,j<o\/o+L<=j->f j=f0 j
def pN.one{L:Nat}{f0 f:Nat->V}(s:pN Z o L x (i+1) u f0 f){c:UInt8}(hc:c=cZ u):pN Z o L x i (u/10) f0 (lZ f (o+i) (vB c)):=by
 subst hc
 have hle:=s.le
 refine⟨by omega,?_,fun j h1 h2=>?_,fun j hj=>?_⟩
 ·rw[s.u,GY,<-gw]
  congr 2;omega
 ·by_cases hj:j=i
  ·subst hj
   rw[lZ,ax rfl,s.u]
   congr 4
   omega
  ·rw[lZ,ak (by omega)]
   exact s.Zu j (by omega) h2
 ·rw[lZ,ak (by omega)]
  exact s.out j hj
def pN.two{L:Nat}{f0 f:Nat->V}(s:pN Z o L x (i+2) u f0 f){c d:UInt8}(hc:c=cZ u)(hd:d=cZ (u/10)):pN Z o L x i (u/100) f0 (lZ (lZ f (o+(i+1)) (vB c)) (o+i) (vB d)):=by
 have:=(pN.one (i:=i+1) s hc).one hd
 rw[GY]at this
 exact this
structure ID (h:T O) (N ir n2 Z o L x:Nat) (f0:Nat->V) (e:TypeId) (i u:Nat) (f:Nat->V) (r:T V) (st:St):Prop where
 r4:r.get 4=some (.int .i64 i)
 n:st.n=N
 w:ar n2 st.w=[]
 row:st.h.get ir=some (.cells (wM Z f) e true)
 Oe:∀t,t≠ir->st.h.get t=h.get t
 fmt:pN Z o L x i u f0 f
def pN.eight{L:Nat}{f0 f:Nat->V}(s:pN Z o L x (i+8) u f0 f):pN Z o L x i (u/100000000) f0
  (lZ (lZ (lZ (lZ (lZ (lZ (lZ (lZ f (o+(i+7)) (vB (cZ (u%100000000%10000%100)))) (o+(i+6)) (vB (cZ (u%100000000%10000%100/10)))) (o+(i+5)) (vB (cZ (u%100000000%10000/100)))) (o+(i+4)) (vB (cZ (u%100000000%10000/100/10))))
     (o+(i+3)) (vB (cZ (u%100000000/10000%100)))) (o+(i+2)) (vB (cZ (u%100000000/10000%100/10)))) (o+(i+1)) (vB (cZ (u%100000000/10000/100)))) (o+i) (vB (cZ (u%100000000/10000/100/10)))):=by
 have s1:=pN.two (i:=i+6) s (c:=cZ (u%100000000%10000%100)) (d:=cZ (u%100000000%10000%100/10)) (yn (by omega)) (yn (by omega))
 have s2:=pN.two (i:=i+4) s1 (c:=cZ (u%100000000%10000/100)) (d:=cZ (u%100000000%10000/100/10)) (yn (by omega)) (yn (by omega))
 have s3:=pN.two (i:=i+2) s2 (c:=cZ (u%100000000/10000%100)) (d:=cZ (u%100000000/10000%100/10)) (yn (by omega)) (yn (by omega))
 have s4:=pN.two (i:=i) s3 (c:=cZ (u%100000000/10000/100)) (d:=cZ (u%100000000/10000/100/10)) (yn (by omega)) (yn (by omega))
 rw[show u/100/100/100/100=u/100000000 by omega]at s4
 exact s4
def tm8:(a:Int).tmod 100000000=((a%100000000:Nat):Int):=Int.ofNat_tmod a 100000000 |>.symm
def tm4:(a:Int).tmod 10000=((a%10000:Nat):Int):=Int.ofNat_tmod a 10000 |>.symm
def Ss:(a:Int).tmod 100=((a%100:Nat):Int):=Int.ofNat_tmod a 100 |>.symm
def Ywr(h:a<18446744073709551616):bh .u64 ((a:Int)/100000000)=((a/100000000:Nat):Int):=by
 rw[FK (by omega) (by omega)];omega
def Ywf(h:a<4294967296):bh .u32 ((a:Int)/10000)=((a/10000:Nat):Int):=by
 rw[KJ (by omega) (by omega)];omega
def Su(h:a<4294967296):bh .u32 ((a:Int)/100)=((a/100:Nat):Int):=by
 rw[KJ (by omega) (by omega)];omega
def tw(h:a<4294967296):bh .u32 (a:Int)=(a:Int):=KJ (by omega) (by omega)
def IE(h:a<100):bh .u32 ((a:Int)*2)=((2*a:Nat):Int):=by rw[KJ (by omega) (by omega)];omega
def IF(h:a<100):bh .u32 (((2*a:Nat):Int)+1)=((2*a+1:Nat):Int):=by rw[KJ (by omega) (by omega)];omega
def Yqg{L:Nat}{f0 f:Nat->V}{e:TypeId}(hT:o+L<=Z)(hL:L<100)(fg:n2<=ir)(hN:ir<N){rr:T V}(hf:Fx [(1,1),(4,11),(19,95)] rr 167 ⟨r,167,[]⟩)(r0:r.get 0=some (.slice ir o L cp 1))(a1:r.get 1=some (.int .u64 u))(ub:u<18446744073709551616)(s:ID h N ir n2 Z o L x f0 e (k+8) u f r ⟨H,N,W⟩):
  Code A.C none A.np ⟨r,167,[]⟩ ⟨H,N,W⟩ (fun ex fr st=>ex=.normal/\∃r' f',fr=⟨r',167,[]⟩/\Fx [(1,1),(4,11),(19,95)] rr 167 ⟨r',167,[]⟩/\r'.get 1=some (.int .u64 (u/100000000:Nat))/\ID h N ir n2 Z o L x f0 e k (u/100000000) f' r' st):=by
 rw[bb]
 obtain⟨a4,_,aw,jX,ao,af⟩:=s
 simp only at aw jX ao
 have hle:=af.le
 have v8:=af.eight
 obtain⟨us,tZ⟩:∃y,u%100000000=y:=⟨_,rfl⟩
 obtain⟨uq,FO⟩:∃y,u/100000000=y:=⟨_,rfl⟩
 have t1:=tm8 (a:=u)
 have t2:=Ywr (a:=u) ub
 rw[tZ]at t1 v8
 rw[FO]at t2 v8
 have us0:us<100000000:=by omega
 have t3:=tw (a:=us) (by omega)
 obtain⟨hi,g_⟩:∃y,us/10000=y:=⟨_,rfl⟩
 obtain⟨lo,fS⟩:∃y,us%10000=y:=⟨_,rfl⟩
 have t4:=Ywf (a:=us) (by omega)
 have t5:=tm4 (a:=us)
 rw[g_]at t4 v8
 rw[fS]at t5 v8
 have t6:=Su (a:=hi) (by omega)
 have t7:=Ss (a:=hi)
 have t8:=Su (a:=lo) (by omega)
 have t9:=Ss (a:=lo)
 obtain⟨p1,ym⟩:∃y,hi/100=y:=⟨_,rfl⟩
 obtain⟨p2,zN⟩:∃y,hi%100=y:=⟨_,rfl⟩
 obtain⟨p3,hp3⟩:∃y,lo/100=y:=⟨_,rfl⟩
 obtain⟨p4,hp4⟩:∃y,lo%100=y:=⟨_,rfl⟩
 rw[ym]at t6 v8
 rw[zN]at t7 v8
 rw[hp3]at t8 v8
 rw[hp4]at t9 v8
 have b1:p1<100:=by omega
 have m1:=IE b1
 have Bc:=IF b1
 have d1:=IB _ b1
 have g1:=IC _ b1
 obtain⟨y1,tD⟩:∃y,2*p1+1=y:=⟨_,rfl⟩
 rw[tD]at Bc d1
 obtain⟨z1,wD⟩:∃y,2*p1=y:=⟨_,rfl⟩
 rw[wD]at m1 Bc g1
 have b2:p2<100:=by omega
 have m2:=IE b2
 have IG:=IF b2
 have d2:=IB _ b2
 have g2:=IC _ b2
 obtain⟨y2,x_⟩:∃y,2*p2+1=y:=⟨_,rfl⟩
 rw[x_]at IG d2
 obtain⟨z2,eg⟩:∃y,2*p2=y:=⟨_,rfl⟩
 rw[eg]at m2 IG g2
 have b3:p3<100:=by omega
 have m3:=IE b3
 have Zv:=IF b3
 have d3:=IB _ b3
 have g3:=IC _ b3
 obtain⟨y3,hy3⟩:∃y,2*p3+1=y:=⟨_,rfl⟩
 rw[hy3]at Zv d3
 obtain⟨z3,DR⟩:∃y,2*p3=y:=⟨_,rfl⟩
 rw[DR]at m3 Zv g3
 have b4:p4<100:=by omega
 have m4:=IE b4
 have Zw:=IF b4
 have d4:=IB _ b4
 have g4:=IC _ b4
 obtain⟨y4,V1⟩:∃y,2*p4+1=y:=⟨_,rfl⟩
 rw[V1]at Zw d4
 obtain⟨z4,zV⟩:∃y,2*p4=y:=⟨_,rfl⟩
 rw[zV]at m4 Zw g4
 have e1:(k:Int)+8-1=(k:Int)+7:=by omega
 have e2:(k:Int)+8-2=(k:Int)+6:=by omega
 have e3:(k:Int)+8-3=(k:Int)+5:=by omega
 have e4:(k:Int)+8-4=(k:Int)+4:=by omega
 have e5:(k:Int)+8-5=(k:Int)+3:=by omega
 have e6:(k:Int)+8-6=(k:Int)+2:=by omega
 have e7:(k:Int)+8-7=(k:Int)+1:=by omega
 have e8:(k:Int)+8-8=(k:Int):=by omega
 have f1:((k:Int)+7).toNat=k+7:=by omega
 have f2:((k:Int)+6).toNat=k+6:=by omega
 have f3:((k:Int)+5).toNat=k+5:=by omega
 have f4:((k:Int)+4).toNat=k+4:=by omega
 have f5:((k:Int)+3).toNat=k+3:=by omega
 have f6:((k:Int)+2).toNat=k+2:=by omega
 have f7:((k:Int)+1).toNat=k+1:=by omega
 have c8:(8:Int)<=(k:Int)+8:=by omega
 have wH:¬N<=ir:=by omega
 have ir0:∀t,(T.set H ir t).get ir=some t:=fun t=>by rw[T.ag,ax rfl]
 simp(disch:=first|(simp;done)|omega|(simp only[bB,cC,bo];omega)|rfl) [A.np,hf,r0,a1,a4,c8,jX,hN,wH,cn.cr,Od,t1,t2,t3,t4,t5,t6,t7,t8,t9,m1,m2,m3,m4,Bc,IG,Zv,Zw,d1,d2,d3,d4,g1,g2,g3,g4,e1,e2,e3,e4,e5,e6,e7,e8,f1,f2,f3,f4,f5,f6,f7]
 subst FO
 refine⟨by omega,_,⟨by simp,rfl,by simpa[ar,tK.2 fg]using aw,by simp only[T.ag,ax];rfl,fun t ht=>by simp only[T.ag,ak ht];exact ao t ht,v8⟩⟩
structure Zx (h:T O) (N ir n2 Z o L x:Nat) (f0:Nat->V) (e:TypeId) (st:St):Prop where
 n:st.n=N
 w:ar n2 st.w=[]
 Oe:∀t,t≠ir->st.h.get t=h.get t
 ex:∃f,st.h.get ir=some (.cells (wM Z f) e true)/\(∀j,j<L->f (o+j)=vB (cZ (x/10^(L-1-j))))/\∀j,j<o\/o+L<=j->f j=f0 j
def Ysa(h:u<10):V.int .u8 (48+(u:Int))=vB (cZ u):=by
 unfold vB cK
 rw[HS]
 congr 1;omega
def Ytp{L:Nat}{f0 f:Nat->V}{e:TypeId}(hZ:o+L<=Z)(fg:n2<=ir)(hN:ir<N)(hi:i<2)(hu:u<10^i)(r0:r.get 0=some (.slice ir o L cp 1))(Cl:r.get 12=some (.int .u32 u))(s:ID h N ir n2 Z o L x f0 e i u f r ⟨H,N,W⟩):
  Code A.C none A.nt ⟨r,167,[]⟩ ⟨H,N,W⟩ (fun ex fr st=>ex=.normal/\∃r',fr=⟨r',167,[]⟩/\Zx h N ir n2 Z o L x f0 e st):=by
 rw[bb]
 obtain⟨a4,_,aw,jX,ao,af⟩:=s
 simp only at aw jX ao
 have hle:=af.le
 obtain rfl|rfl:i=0\/i=1:=by omega
 ·simp[A.nt,r0,a4]
  exact⟨rfl,aw,ao,f,jX,fun j hj=>af.Zu j (uN _) hj,af.out⟩
 ·have mS:u<10:=by omega
  have e1:bh .u32 (48+(u:Int))=48+(u:Int):=KJ (by omega) (by omega)
  have e2:bh .u8 (48+(u:Int))=48+(u:Int):=B6 (by omega) (by omega)
  have hL:(0:Int)<(L:Int):=by omega
  simp(disch:=omega) [A.nt,r0,a4,Cl,e1,e2,hL,jX,Od]
  have v:=pN.one (i:=0) af (c:=cZ u) rfl
  rw[<-Ysa mS,iX]at v
  exact⟨rfl,by simpa[ar,tK.2 fg]using aw,fun t ht=>by rw[T.ag,ak ht];exact ao t ht,_,by rw[T.ag,ax rfl],fun j hj=>v.Zu j (uN _) hj,v.out⟩
def Yto{L:Nat}{f0 f:Nat->V}{e:TypeId}(hZ:o+L<=Z)(fg:n2<=ir)(hN:ir<N)(hi:i<4)(hu:u<10^i)(r0:r.get 0=some (.slice ir o L cp 1))(Cl:r.get 12=some (.int .u32 u))(s:ID h N ir n2 Z o L x f0 e i u f r ⟨H,N,W⟩):
  Code A.C none A.nv ⟨r,167,[]⟩ ⟨H,N,W⟩ (fun ex fr st=>ex=.normal/\∃r',fr=⟨r',167,[]⟩/\Zx h N ir n2 Z o L x f0 e st):=by
 rw[bb]
 have s0:=s
 obtain⟨a4,_,aw,jX,ao,af⟩:=s
 simp only at aw jX ao
 have hle:=af.le
 by_cases hc:i<2
 ·have c1:¬(2:Int)<=(i:Int):=by omega
  simp[A.nv,r0,a4,c1]
  refine lG (Ytp (i:=i) (u:=u) (f:=f) (cp:=cp) hZ fg hN hc hu (by simp[r0]) (by simp[Cl]) ⟨by simp[a4],rfl,aw,jX,ao,af⟩) ?_
  rintro ex fr st ⟨rfl,r',rfl,hE⟩
  simp
  exact hE
 ·obtain⟨k,rfl⟩:∃k,i=k+2:=⟨i-2,by omega⟩
  have Of:u<10000:=by
   have:10^(k+2)<=10^4:=rJ (by decide) (by omega)
   omega
  have c1:(2:Int)<=(k:Int)+2:=by omega
  have wH:¬N<=ir:=by omega
  have t6:=Su (a:=u) (by omega)
  have t7:=Ss (a:=u)
  have v:=pN.two (i:=k) af (c:=cZ (u%100)) (d:=cZ (u%100/10)) (yn (by omega)) (yn (by omega))
  have fy:u/100<10^k:=by
   rw[qs (by decide)]
   rw[kj]at hu
   exact hu
  obtain⟨uq,FO⟩:∃y,u/100=y:=⟨_,rfl⟩
  obtain⟨p1,ym⟩:∃y,u%100=y:=⟨_,rfl⟩
  rw[FO]at t6 v fy
  rw[ym]at t7 v
  have b1:p1<100:=by omega
  have m1:=IE b1
  have Bc:=IF b1
  have d1:=IB _ b1
  have g1:=IC _ b1
  obtain⟨y1,tD⟩:∃y,2*p1+1=y:=⟨_,rfl⟩
  rw[tD]at Bc d1
  obtain⟨z1,wD⟩:∃y,2*p1=y:=⟨_,rfl⟩
  rw[wD]at m1 Bc g1
  have e1:(k:Int)+2-1=(k:Int)+1:=by omega
  have e2:(k:Int)+2-2=(k:Int):=by omega
  have f1:((k:Int)+1).toNat=k+1:=by omega
  have hI:∀t n,(((H.set ir t).set ir n):T O).get ir=some n:=fun t n=>by rw[T.ag,ax rfl]
  simp(disch:=first|(simp;done)|omega|(simp only[bB,cC,bo];omega)|rfl) [A.nv,r0,a4,Cl,c1,jX,hN,wH,cn.cr,Od,t6,t7,m1,Bc,d1,g1,e1,e2,f1]
  refine lG (Ytp (i:=k) (u:=uq) (cp:=cp) (e:=e) hZ fg hN (by omega) fy (by simp[r0]) (by simp) ⟨by simp,rfl,by simpa[ar,tK.2 fg]using aw,by simp only[T.ag,ax];rfl,fun t ht=>by simp only[T.ag,ak ht];exact ao t ht,v⟩) ?_
  rintro ex fr st ⟨rfl,r',rfl,hE⟩
  simp
  exact hE
def pN.four{T L:Nat}{f0 f:Nat->V}(s:pN T o L x (i+4) u f0 f):pN T o L x i (u/10000) f0
  (lZ (lZ (lZ (lZ f (o+(i+3)) (vB (cZ (u%10000%100)))) (o+(i+2)) (vB (cZ (u%10000%100/10)))) (o+(i+1)) (vB (cZ (u%10000/100)))) (o+i) (vB (cZ (u%10000/100/10)))):=by
 have s1:=pN.two (i:=i+2) s (c:=cZ (u%10000%100)) (d:=cZ (u%10000%100/10)) (yn (by omega)) (yn (by omega))
 have s2:=pN.two (i:=i) s1 (c:=cZ (u%10000/100)) (d:=cZ (u%10000/100/10)) (yn (by omega)) (yn (by omega))
 rw[show u/100/100=u/10000 by omega]at s2
 exact s2
def Yv4{L:Nat}{f0 f:Nat->V}{e:TypeId}(hZ:o+L<=Z)(fg:n2<=ir)(hN:ir<N)(hi:i<8)(hu:u<10^i)(r0:r.get 0=some (.slice ir o L cp 1))(Cl:r.get 12=some (.int .u32 u))(s:ID h N ir n2 Z o L x f0 e i u f r ⟨H,N,W⟩):
  Code A.C none A.nw ⟨r,167,[]⟩ ⟨H,N,W⟩ (fun ex fr st=>ex=.normal/\∃r',fr=⟨r',167,[]⟩/\Zx h N ir n2 Z o L x f0 e st):=by
 rw[bb]
 obtain⟨a4,_,aw,jX,ao,af⟩:=s
 simp only at aw jX ao
 have hle:=af.le
 by_cases hc:i<4
 ·have c1:¬(4:Int)<=(i:Int):=by omega
  simp[A.nw,r0,a4,c1]
  refine lG (Yto (i:=i) (u:=u) (f:=f) (cp:=cp) hZ fg hN hc hu (by simp[r0]) (by simp[Cl]) ⟨by simp[a4],rfl,aw,jX,ao,af⟩) ?_
  rintro ex fr st ⟨rfl,r',rfl,hE⟩
  simp
  exact hE
 ·obtain⟨k,rfl⟩:∃k,i=k+4:=⟨i-4,by omega⟩
  have Of:u<100000000:=by
   have:10^(k+4)<=10^8:=rJ (by decide) (by omega)
   omega
  have c1:(4:Int)<=(k:Int)+4:=by omega
  have wH:¬N<=ir:=by omega
  have t4:=Ywf (a:=u) (by omega)
  have t5:=tm4 (a:=u)
  have v:=af.four
  have fy:u/10000<10^k:=by
   rw[qs (by decide)]
   rw[kj]at hu
   exact hu
  obtain⟨uq,FO⟩:∃y,u/10000=y:=⟨_,rfl⟩
  obtain⟨lo,fS⟩:∃y,u%10000=y:=⟨_,rfl⟩
  rw[FO]at t4 v fy
  rw[fS]at t5 v
  have t6:=Su (a:=lo) (by omega)
  have t7:=Ss (a:=lo)
  obtain⟨p1,ym⟩:∃y,lo/100=y:=⟨_,rfl⟩
  obtain⟨p2,zN⟩:∃y,lo%100=y:=⟨_,rfl⟩
  rw[ym]at t6 v
  rw[zN]at t7 v
  have b1:p1<100:=by omega
  have m1:=IE b1
  have Bc:=IF b1
  have d1:=IB _ b1
  have g1:=IC _ b1
  obtain⟨y1,tD⟩:∃y,2*p1+1=y:=⟨_,rfl⟩
  rw[tD]at Bc d1
  obtain⟨z1,wD⟩:∃y,2*p1=y:=⟨_,rfl⟩
  rw[wD]at m1 Bc g1
  have b2:p2<100:=by omega
  have m2:=IE b2
  have IG:=IF b2
  have d2:=IB _ b2
  have g2:=IC _ b2
  obtain⟨y2,x_⟩:∃y,2*p2+1=y:=⟨_,rfl⟩
  rw[x_]at IG d2
  obtain⟨z2,eg⟩:∃y,2*p2=y:=⟨_,rfl⟩
  rw[eg]at m2 IG g2
  have e1:(k:Int)+4-1=(k:Int)+3:=by omega
  have e2:(k:Int)+4-2=(k:Int)+2:=by omega
  have e3:(k:Int)+4-3=(k:Int)+1:=by omega
  have e4:(k:Int)+4-4=(k:Int):=by omega
  have f1:((k:Int)+3).toNat=k+3:=by omega
  have f2:((k:Int)+2).toNat=k+2:=by omega
  have f3:((k:Int)+1).toNat=k+1:=by omega
  simp(disch:=first|(simp;done)|omega|(simp only[bB,cC,bo];omega)|rfl) [A.nw,r0,a4,Cl,c1,jX,hN,wH,Od,t4,t5,t6,t7,m1,Bc,d1,g1,m2,IG,d2,g2,e1,e2,e3,e4,f1,f2,f3]
  refine lG (Yto (i:=k) (u:=uq) (cp:=cp) (e:=e) hZ fg hN (by omega) fy (by simp[r0]) (by simp) ⟨by simp,rfl,by simpa[ar,tK.2 fg]using aw,by simp only[T.ag,ax];rfl,fun t ht=>by simp only[T.ag,ak ht];exact ao t ht,v⟩) ?_
  rintro ex fr st ⟨rfl,r',rfl,hE⟩
  simp
  exact hE
def Code.mono{C:Cx}{ro:Option Nat}{c:bN}{fr:Fr}{st:St}{P Q:Ex->Fr->St->Prop}(h:Code C ro c fr st P)(k:∀e fr st,P e fr st->Q e fr st):Code C ro c fr st Q:=by
 rw[bb]
 refine lG h ?_
 intro e fr st hp
 simp
 exact k _ _ _ hp
structure FbR (h:T O) (N ir n2 Z o L x:Nat) (f0:Nat->V) (e:TypeId) (w:List Nat) (st:St):Prop where
 n:st.n=N
 w:ar n2 st.w=ar n2 w
 Oe:∀t,t≠ir->st.h.get t=h.get t
 ex:∃f,st.h.get ir=some (.cells (wM Z f) e true)/\(∀j,j<L->f (o+j)=vB (cZ (x/10^(L-1-j))))/\∀j,j<o\/o+L<=j->f j=f0 j
def Zy{L:Nat}{f0:Nat->V}{e:TypeId}{w:List Nat}(hZ:o+L<=Z)(hL:L<100)(fg:n2<=ir)(hN:ir<N)(hx:x<10^L)(Og:x<18446744073709551616)(hr:h.get ir=some (.cells (wM Z f0) e true)):
  Call A.C (.func 281 [] []) [.slice ir o L cp 1,.int .u64 x] ⟨h,N,w⟩ (fun _ st=>FbR h N ir n2 Z o L x f0 e w st):=by
 rw[aM,A.k281 (by simp)]
 simp[A.b281]
 refine bA [(1,1),(4,11),(19,95)] (fun ex r st=>ex=.exit 0/\∃(i u:Nat) (f:Nat->V),i<8/\u<10^i/\r.get 1=some (.int .u64 u)/\ID h N ir n2 Z o L x f0 e i u f r st) (fun i r st=>∃(u:Nat) (f:Nat->V),u<10^i/\u<18446744073709551616/\r.get 1=some (.int .u64 u)/\ID h N ir n2 Z o L x f0 e i u f r st) L ?_ ?_ ?_
 ·refine⟨x,f0,hx,Og,by simp,by simp,rfl,by simp[ar],hr,fun t _=>rfl,⟨aO _,by simp,fun j h1 h2=>by omega,fun j _=>rfl⟩⟩
 ·rintro i r ⟨H,n1,W⟩ hr hf ⟨u,f,hu,IH,a1,J⟩
  have hn:=J.n
  simp only at hn
  subst hn
  have r0:r.get 0=some (.slice ir o L cp 1):=by rw[hr 0 (by decide)];simp
  by_cases h8:i<8
  ·have c8:¬(8:Int)<=(i:Int):=by omega
   have a4:=J.r4
   rw[bb]
   simp[A.np,hr,hf,a4,c8]
   exact⟨i,h8,u,hu,by simp[a1],f,⟨by simp[a4],J.n,J.w,J.row,J.Oe,J.fmt⟩⟩
  ·obtain⟨k,rfl⟩:∃k,i=k+8:=⟨i-8,by omega⟩
   refine Code.mono (Yqg hZ hL fg hN hf r0 a1 IH J) ?_
   rintro ex fr st ⟨rfl,r',f',rfl,A3,Sv,J'⟩
   refine Zu1.2 ⟨A3,k,by omega,_,f',?_,by omega,Sv,J'⟩
   rw[qs (by decide)]
   rw[kj]at hu
   exact hu
 ·rintro ex r ⟨H,n1,W⟩ hr ⟨rfl,i,u,f,h8,hu,a1,J⟩
  have hn:=J.n
  simp only at hn
  subst hn
  have hu7:u<4294967296:=by
   have:10^i<=10^7:=rJ (by decide) (by omega)
   omega
  have e1:=tw hu7
  simp[a1,e1]
  refine lG (Yv4 (i:=i) (u:=u) (f:=f) (cp:=cp) (e:=e) (H:=H) (W:=W) hZ fg hN h8 hu (by simp;rw[hr 0 (by decide)];simp) (by simp) ⟨by simpa using J.r4,rfl,J.w,J.row,J.Oe,J.fmt⟩) ?_
  rintro ex fr ⟨H2,kY,W2⟩ ⟨rfl,r',rfl,hn,hW,hO,hE⟩
  simp only at hn
  subst hn
  simp[]
  exact⟨rfl,by rw[Nw (Nx hW)],hO,hE⟩
end Go.Mx
