/-pipeline-/
import Derived.Test.YtalhlaaapkpkiaaGreatDoorNfB
set_option linter.all false
namespace Go.Mx
open Go Go.Proofs
variable {N:Nat} {bf fr ow:List V} {h:T O} {ins:V} {qc qf qo:Rat} {qi:List Rat}
set_option maxRecDepth 1000000
noncomputable def A.b143:=A.q Tryz.f143
def A.k143:=@A.kk 143 5 [.cell 2 (some 4)] A.b143 (by kernel_rfl) rfl
noncomputable def A.b144:=A.q Tryz.f144
def A.k144:=@A.kk 144 6 [.cell 2 (some 4)] A.b144 (by kernel_rfl) rfl
noncomputable def A.b146:=A.q Tryz.f146
def A.k146:=@A.kk 146 10 [.cell 2 (some 4)] A.b146 (by kernel_rfl) rfl
noncomputable def A.b148:=A.q Tryz.f148
def A.k148:=@A.kk 148 6 [.cell 2 (some 4)] A.b148 (by kernel_rfl) rfl
noncomputable def A.b151:=A.q Tryz.f151
def A.k151:=@A.kk 151 5 [.cell 2 (some 4)] A.b151 (by kernel_rfl) rfl
noncomputable def A.b152:=A.q Tryz.f152
def A.k152:=@A.kk 152 13 [.cell 2 (some 4)] A.b152 (by kernel_rfl) rfl
def Yn1{fc:List V}{qb qc:Rat}(s:VaC h N fr ins bf ow fc qf qi qo):Fn A.C 143 [.agg (vC fr ins bf ow fc)] h N (fun x h' n'=>Fc h' n' x qf):=by
 intro w
 obtain⟨f1,f2⟩:=s.fr.len
 obtain⟨b1,b2⟩:=s.bf
 obtain⟨o1,o2⟩:=s.ow.len
 obtain⟨c1,c2⟩:=s.fc
 obtain⟨i1,i2,_⟩:=s.ins.form
 obtain⟨g1,g2,g3,g4,g5,g6⟩:=Zjg (ins:=ins) f1 b1 o1 c1
 have lv:=Zgo (ins:=ins) f1 b1 o1 c1
 have vo:=Zmo f2 b2 o2 c2 i1
 have hcc:∀c:List V,(V.agg c).cells=c:=fun _=>rfl
 have kB:Keeps h N ((h.set N (.cells (vC fr ins bf ow fc) 180 true)).set (N+1) (.cells [.int .i64 0,.nilslice,.int .i64 0,.nilslice] 175 true)) (N+1+1):=(Keeps.refl.new _).new _
 have hnz:NoU [V.int .i64 0,.nilslice,.int .i64 0,.nilslice]:=by intro x hx m;simp at hx;rcases hx with rfl|rfl|rfl|rfl<;>simp
 rw[Zae,A.k143 (by simp)]
 simp(disch:=first|(simp;done)|omega|rfl) [-getElem?_pos, -V.cells, -V.one,A.b143,hcc,lv,vo,g1,f1,f2,Zak,Zlo f1,Zik f1,Ret]
 exact⟨kB.set (by omega),((s.fr.keep kB).setNU (c1:=fr) (e1:=175) (w1:=true) (by rw[T.get_set,Ys8 rfl]) hnz (by rw[f1];rfl)).fc⟩
def Ynx{fc:List V}{qb qc:Rat}(s:VaC h N fr ins bf ow fc qf qi qo)(hb:FcC h N bf qb):Fn A.C 151 [.agg (vC fr ins bf ow fc)] h N (fun x h' n'=>Fc h' n' x qb):=by
 intro w
 obtain⟨f1,f2⟩:=s.fr.len
 obtain⟨b1,b2⟩:=s.bf
 obtain⟨o1,o2⟩:=s.ow.len
 obtain⟨c1,c2⟩:=s.fc
 obtain⟨i1,i2,_⟩:=s.ins.form
 obtain⟨g1,g2,g3,g4,g5,g6⟩:=Zjg (ins:=ins) f1 b1 o1 c1
 have lv:=Zgo (ins:=ins) f1 b1 o1 c1
 have vo:=Zmo f2 b2 o2 c2 i1
 have hcc:∀c:List V,(V.agg c).cells=c:=fun _=>rfl
 have kB:Keeps h N ((h.set N (.cells (vC fr ins bf ow fc) 180 true)).set (N+1) (.cells [.int .i64 0,.nilslice,.int .i64 0,.nilslice] 175 true)) (N+1+1):=(Keeps.refl.new _).new _
 have hnz:NoU [V.int .i64 0,.nilslice,.int .i64 0,.nilslice]:=by intro x hx m;simp at hx;rcases hx with rfl|rfl|rfl|rfl<;>simp
 rw[Zae,A.k151 (by simp)]
 simp(disch:=first|(simp;done)|omega|rfl) [-getElem?_pos, -V.cells, -V.one,A.b151,hcc,lv,vo,g3,b1,b2,Zak,Zlo b1,Zik b1,Ret]
 exact⟨kB.set (by omega),((hb.keep kB).setNU (c1:=bf) (e1:=175) (w1:=true) (by rw[T.get_set,Ys8 rfl]) hnz (by rw[b1];rfl)).fc⟩
def Yn0{fc:List V}{qb qc:Rat}(s:VaC h N fr ins bf ow fc qf qi qo)(hl:qi.length≤16)(hq:∀q∈qi,Qb 2400 q):Fn A.C 144 [.agg (vC fr ins bf ow fc)] h N (fun x h' n'=>Fc h' n' x (qi.foldl (fun a b=>a+b) 0)):=by
 intro w
 obtain⟨f1,f2⟩:=s.fr.len
 obtain⟨b1,b2⟩:=s.bf
 obtain⟨o1,o2⟩:=s.ow.len
 obtain⟨c1,c2⟩:=s.fc
 obtain⟨i1,i2,_⟩:=s.ins.form
 obtain⟨g1,g2,g3,g4,g5,g6⟩:=Zjg (ins:=ins) f1 b1 o1 c1
 have lv:=Zgo (ins:=ins) f1 b1 o1 c1
 have vo:=Zmo f2 b2 o2 c2 i1
 have hcc:∀c:List V,(V.agg c).cells=c:=fun _=>rfl
 have kB:Keeps h N ((h.set N (.cells (vC fr ins bf ow fc) 180 true)).set (N+1) (.cells [.int .i64 0,.nilslice,.int .i64 0,.nilslice] 175 true)) (N+1+1):=(Keeps.refl.new _).new _
 have hnz:NoU [V.int .i64 0,.nilslice,.int .i64 0,.nilslice]:=by intro x hx m;simp at hx;rcases hx with rfl|rfl|rfl|rfl<;>simp
 rw[Zae,A.k144 (by simp)]
 simp(disch:=first|(simp;done)|omega|rfl) [-getElem?_pos, -V.cells, -V.one,A.b144,hcc,lv,vo,g2]
 generalize hH:(h.set N (.cells (vC fr ins bf ow fc) 180 true)).set (N+1) (.cells [.int .i64 0,.nilslice,.int .i64 0,.nilslice] 175 true)=H at*
 have gB:H.get (N+1)=some (.cells [.int .i64 0,.nilslice,.int .i64 0,.nilslice] 175 true):=by rw[←hH];simp
 have gV:H.get N=some (.cells (vC fr ins bf ow fc) 180 true):=by rw[←hH];simp
 clear hH
 refine Zaf (Ynj (j:=2400) (s.ins.keep kB) hl hq (by decide)) ?_
 rintro _ H4 n4 k4 hz
 obtain⟨z,rfl,hzc⟩:=hz.c
 obtain⟨z1,z2⟩:=hzc.len
 have gB4:=(k4.get (N+1) (by omega)).trans gB
 have e4:=Zlo z1
 have s4:=Zik z1
 simp(disch:=first|(simp;done)|omega|rfl) [-getElem?_pos, -V.cells, -V.one,hcc,z1,z2,gB4,Zak,e4,s4,Ret]
 exact⟨(kB.trans k4).set (by omega),(hzc.setNU gB4 hnz (by rw[z1];rfl)).fc⟩
def Yny{fc:List V}{qb qc:Rat}(s:VaC h N fr ins bf ow fc qf qi qo)(h0:0<qi.length)(hl:qi.length≤16)(hq:∀q∈qi,Qb 2400 q):Fn A.C 148 [.agg (vC fr ins bf ow fc)] h N (fun x h' n'=>Fc h' n' x (Zmc qi)):=by
 intro w
 obtain⟨f1,f2⟩:=s.fr.len
 obtain⟨b1,b2⟩:=s.bf
 obtain⟨o1,o2⟩:=s.ow.len
 obtain⟨c1,c2⟩:=s.fc
 obtain⟨i1,i2,_⟩:=s.ins.form
 obtain⟨g1,g2,g3,g4,g5,g6⟩:=Zjg (ins:=ins) f1 b1 o1 c1
 have lv:=Zgo (ins:=ins) f1 b1 o1 c1
 have vo:=Zmo f2 b2 o2 c2 i1
 have hcc:∀c:List V,(V.agg c).cells=c:=fun _=>rfl
 have kB:Keeps h N ((h.set N (.cells (vC fr ins bf ow fc) 180 true)).set (N+1) (.cells [.int .i64 0,.nilslice,.int .i64 0,.nilslice] 175 true)) (N+1+1):=(Keeps.refl.new _).new _
 have hnz:NoU [V.int .i64 0,.nilslice,.int .i64 0,.nilslice]:=by intro x hx m;simp at hx;rcases hx with rfl|rfl|rfl|rfl<;>simp
 rw[Zae,A.k148 (by simp)]
 simp(disch:=first|(simp;done)|omega|rfl) [-getElem?_pos, -V.cells, -V.one,A.b148,hcc,lv,vo,g2]
 generalize hH:(h.set N (.cells (vC fr ins bf ow fc) 180 true)).set (N+1) (.cells [.int .i64 0,.nilslice,.int .i64 0,.nilslice] 175 true)=H at*
 have gB:H.get (N+1)=some (.cells [.int .i64 0,.nilslice,.int .i64 0,.nilslice] 175 true):=by rw[←hH];simp
 have gV:H.get N=some (.cells (vC fr ins bf ow fc) 180 true):=by rw[←hH];simp
 clear hH
 refine Zaf (Yoc (j:=2400) (s.ins.keep kB) h0 hl hq (by decide)) ?_
 rintro _ H4 n4 k4 hz
 obtain⟨z,rfl,hzc⟩:=hz.c
 obtain⟨z1,z2⟩:=hzc.len
 have gB4:=(k4.get (N+1) (by omega)).trans gB
 have e4:=Zlo z1
 have s4:=Zik z1
 simp(disch:=first|(simp;done)|omega|rfl) [-getElem?_pos, -V.cells, -V.one,hcc,z1,z2,gB4,Zak,e4,s4,Ret]
 exact⟨(kB.trans k4).set (by omega),(hzc.setNU gB4 hnz (by rw[z1];rfl)).fc⟩
def Ynz{fc:List V}{qb:Rat}(s:VaC h N fr ins bf ow fc qf qi qo)(hf:FcC h N fc qc)(hl:0<qi.length)(hq:∀q∈qi,Qb 2400 q)(hc:Qb 2400 qc):Fn A.C 146 [.agg (vC fr ins bf ow fc)] h N (fun x h' n'=>Fc h' n' x (qc*qi[0]?.getD 0)):=by
 have l1:=s.ins.len
 have hl':(0:Int)<(qi.length:Int):=by omega
 obtain⟨x0,hx0⟩:=Zag hl
 obtain⟨i0,o0,cc0,e0,rw0,ca0,y1,y2,y3,y4,y5⟩:=s.ins.at hx0
 rw[Nat.zero_mul,Yue]at y4
 have ex:qi[0]?.getD 0=x0:=by rw[hx0];rfl
 rw[ex]
 have d1:¬i0=N:=by omega
 have d2:¬i0=N+1:=by omega
 have d3:i0<N+1+1:=by omega
 have w1:=(hq x0 (Ys9 hx0)).wls
 have w2:=hc.wls
 intro w
 obtain⟨f1,f2⟩:=s.fr.len
 obtain⟨b1,b2⟩:=s.bf
 obtain⟨o1,o2⟩:=s.ow.len
 obtain⟨c1,c2⟩:=s.fc
 obtain⟨i1,i2,_⟩:=s.ins.form
 obtain⟨g1,g2,g3,g4,g5,g6⟩:=Zjg (ins:=ins) f1 b1 o1 c1
 have lv:=Zgo (ins:=ins) f1 b1 o1 c1
 have vo:=Zmo f2 b2 o2 c2 i1
 have hcc:∀c:List V,(V.agg c).cells=c:=fun _=>rfl
 have kB:Keeps h N ((h.set N (.cells (vC fr ins bf ow fc) 180 true)).set (N+1) (.cells [.int .i64 0,.nilslice,.int .i64 0,.nilslice] 175 true)) (N+1+1):=(Keeps.refl.new _).new _
 have hnz:NoU [V.int .i64 0,.nilslice,.int .i64 0,.nilslice]:=by intro x hx m;simp at hx;rcases hx with rfl|rfl|rfl|rfl<;>simp
 rw[Zae,A.k146 (by simp)]
 simp(disch:=first|(simp;done)|omega|rfl) [-getElem?_pos, -V.cells, -V.one,A.b146,hcc,lv,vo,g2,g5,l1,hl,hl',y1,y2,y3,y4,d1,d2,d3]
 generalize hH:(h.set N (.cells (vC fr ins bf ow fc) 180 true)).set (N+1) (.cells [.int .i64 0,.nilslice,.int .i64 0,.nilslice] 175 true)=H at*
 have gB:H.get (N+1)=some (.cells [.int .i64 0,.nilslice,.int .i64 0,.nilslice] 175 true):=by rw[←hH];simp
 have gV:H.get N=some (.cells (vC fr ins bf ow fc) 180 true):=by rw[←hH];simp
 clear hH
 refine Zaf (Ydk (hf.keep kB).fc (y5.keep kB).fc (by omega) (by omega) (by omega) (by omega)) ?_
 rintro _ H4 n4 k4 hz
 have le4:=k4.le
 have d5:N+1<n4:=by omega
 obtain⟨z,rfl,hzc⟩:=hz.c
 obtain⟨z1,z2⟩:=hzc.len
 have gB4:=(k4.get (N+1) (by omega)).trans gB
 have e4:=Zlo z1
 have s4:=Zik z1
 simp(disch:=first|(simp;done)|omega|rfl) [-getElem?_pos, -V.cells, -V.one,hcc,z1,z2,gB4,Zak,e4,s4,d5,Ret]
 exact⟨(kB.trans k4).set (by omega),(hzc.setNU gB4 hnz (by rw[z1];rfl)).fc⟩
def Ynw{fc:List V}{qb:Rat}(s:VaC h N fr ins bf ow fc qf qi qo)(hf:FcC h N fc qc)(hl:0<qi.length)(hq:∀q∈qi,Qb 2400 q)(hc:Qb 2400 qc)(ho:Qb 2400 qo):Fn A.C 152 [.agg (vC fr ins bf ow fc)] h N (fun x h' n'=>Fc h' n' x (qc*qo+qi[0]?.getD 0)):=by
 have l1:=s.ins.len
 have hl':(0:Int)<(qi.length:Int):=by omega
 obtain⟨x0,hx0⟩:=Zag hl
 obtain⟨i0,o0,cc0,e0,rw0,ca0,y1,y2,y3,y4,y5⟩:=s.ins.at hx0
 rw[Nat.zero_mul,Yue]at y4
 have ex:qi[0]?.getD 0=x0:=by rw[hx0];rfl
 rw[ex]
 have d1:¬i0=N:=by omega
 have d2:¬i0=N+1:=by omega
 have d3:i0<N+1+1:=by omega
 have w1:=(hq x0 (Ys9 hx0)).wls
 have w2:=hc.wls
 have w3:=ho.wls
 have w4:=(hc.mul ho).wls
 intro w
 obtain⟨f1,f2⟩:=s.fr.len
 obtain⟨b1,b2⟩:=s.bf
 obtain⟨o1,o2⟩:=s.ow.len
 obtain⟨c1,c2⟩:=s.fc
 obtain⟨i1,i2,_⟩:=s.ins.form
 obtain⟨g1,g2,g3,g4,g5,g6⟩:=Zjg (ins:=ins) f1 b1 o1 c1
 have lv:=Zgo (ins:=ins) f1 b1 o1 c1
 have vo:=Zmo f2 b2 o2 c2 i1
 have hcc:∀c:List V,(V.agg c).cells=c:=fun _=>rfl
 have kB:Keeps h N ((h.set N (.cells (vC fr ins bf ow fc) 180 true)).set (N+1) (.cells [.int .i64 0,.nilslice,.int .i64 0,.nilslice] 175 true)) (N+1+1):=(Keeps.refl.new _).new _
 have hnz:NoU [V.int .i64 0,.nilslice,.int .i64 0,.nilslice]:=by intro x hx m;simp at hx;rcases hx with rfl|rfl|rfl|rfl<;>simp
 rw[Zae,A.k152 (by simp)]
 simp(disch:=first|(simp;done)|omega|rfl) [-getElem?_pos, -V.cells, -V.one,A.b152,hcc,lv,vo,g5,g4]
 generalize hH:(h.set N (.cells (vC fr ins bf ow fc) 180 true)).set (N+1) (.cells [.int .i64 0,.nilslice,.int .i64 0,.nilslice] 175 true)=H at*
 have gB:H.get (N+1)=some (.cells [.int .i64 0,.nilslice,.int .i64 0,.nilslice] 175 true):=by rw[←hH];simp
 have gV:H.get N=some (.cells (vC fr ins bf ow fc) 180 true):=by rw[←hH];simp
 clear hH
 refine Zaf (Ydk (hf.keep kB).fc (s.ow.keep kB).fc (by omega) (by omega) (by omega) (by omega)) ?_
 rintro xm H3 n3 k3 hm
 have le3:=k3.le
 have gV3:=(k3.get N (by omega)).trans gV
 have y3':=((kB.trans k3).get i0 y2).trans y3
 have d4:N<n3:=by omega
 have d6:i0<n3:=by omega
 simp(disch:=first|(simp;done)|omega|rfl) [-getElem?_pos, -V.cells, -V.one,gV3,g2,l1,hl,hl',y1,y3',y4,d1,d2,d3,d4,d6]
 refine Zaf (Ydp hm ((y5.keep kB).keep k3).fc (by omega) (by omega) (by omega) (by omega)) ?_
 rintro _ H4 n4 k4' hz
 have k4:=k3.trans k4'
 have le4:=k4.le
 have d5:N+1<n4:=by omega
 obtain⟨z,rfl,hzc⟩:=hz.c
 obtain⟨z1,z2⟩:=hzc.len
 have gB4:=(k4.get (N+1) (by omega)).trans gB
 have e4:=Zlo z1
 have s4:=Zik z1
 simp(disch:=first|(simp;done)|omega|rfl) [-getElem?_pos, -V.cells, -V.one,hcc,z1,z2,gB4,Zak,e4,s4,d5,Ret]
 exact⟨(kB.trans k4).set (by omega),(hzc.setNU gB4 hnz (by rw[z1];rfl)).fc⟩
structure OkG (g:List Stg):Prop where
 v:Yjq g
 ne:0<g.length
 op:∀s∈g,∃o,opOf s.op=some o∧Zct o s.factor=0∧o.lo≤s.inputs.length∧s.inputs.length≤o.hi
def Zu4{g:List Stg}{s:Stg}(h:chkStage g s=0):∃o,opOf s.op=some o∧Zct o s.factor=0∧o.lo≤s.inputs.length∧s.inputs.length≤o.hi:=by
 unfold chkStage at h
 split at h
 ·cases h
 split at h
 ·cases h
 split at h
 ·cases h
 rename_i o ho
 split at h
 ·rename_i h1
  exact absurd h h1
 split at h
 ·cases h
 split at h
 ·cases h
 rename_i h1 h2 h3
 exact⟨o,ho,by omega,by omega,by omega⟩
def Zlm{g:List Stg}(h:chkGraph g=0):OkG g:=by
 obtain⟨h1,h2⟩:=Zu6 h
 refine⟨h1,Ywu.2 h2,fun s hs=>?_⟩
 obtain⟨j,hj⟩:=Yvh hs
 unfold chkGraph at h
 split at h
 ·cases h
 split at h
 ·cases h
 have hk:=Zu5 h j s hj
 exact Zu4 hk
def Yix{h:T O}{N:Nat}{fr bf ow fc:List V}{ins:V}{qf:Rat}{qi:List Rat}{qb qo qc:Rat}(s:VaC h N fr ins bf ow fc qf qi qo){op:Str}{o:Opn}(ho:opOf op=some o)(h1:o.lo≤qi.length)(h2:qi.length≤o.hi)(hq:∀q∈qi,Qb 2400 q)(hqo:Qb 2400 qo)(hb:0<qi.length→FcC h N bf qb)(hf:o.factor=true→FcC h N fc qc∧Qb 2400 qc):FnV A.C (opV op) [.agg (vC fr ins bf ow fc)] h N (fun x h' n'=>Fc h' n' x (opQ op qf qi qb qo qc)):=by
 unfold opOf at ho
 unfold opV opQ
 by_cases c1:op=[102,114,97,109,101]
 ·subst c1
  exact Yn1 (qb:=qb) (qc:=qc) s
 rw[Ys5 c1]at ho ⊢
 rw[Ys5 c1]
 by_cases c2:op=[97,100,100]
 ·subst c2
  simp at ho
  subst ho
  exact Yn0 (qb:=qb) (qc:=qc) s h2 hq
 rw[Ys5 c2]at ho ⊢
 rw[Ys5 c2]
 by_cases c3:op=[115,99,97,108,101]
 ·subst c3
  simp at ho
  subst ho
  obtain⟨f1,f2⟩:=hf rfl
  exact Ynz (qb:=qb) (qc:=qc) s f1 h1 hq f2
 rw[Ys5 c3]at ho ⊢
 rw[Ys5 c3]
 by_cases c4:op=[109,97,120]
 ·subst c4
  simp at ho
  subst ho
  exact Yny (qb:=qb) (qc:=qc) s h1 h2 hq
 rw[Ys5 c4]at ho ⊢
 rw[Ys5 c4]
 by_cases c5:op=[100,101,108,97,121]
 ·subst c5
  simp at ho
  subst ho
  exact Ynx (qb:=qb) (qc:=qc) s (hb h1)
 rw[Ys5 c5]at ho ⊢
 rw[Ys5 c5]
 by_cases c6:op=[115,117,109]
 ·subst c6
  simp at ho
  subst ho
  obtain⟨f1,f2⟩:=hf rfl
  exact Ynw (qb:=qb) (qc:=qc) s f1 h1 hq f2 hqo
 rw[Ys5 c6]at ho
 cases ho
def Yjg{n k:Nat}(h:(decN n).length≤k)(hk:0<k):n<2^(4*k):=Yti ((Ze2 hk).1 h) (Ybm k)
def Yau{q:Rat}{k:Nat}(hk:k=600)(h:Zvb q=false):Qb (4*k) q:=by
 unfold Zvb at h
 have:=of_decide_eq_false h
 exact⟨Yjg (by omega) (by omega),Yjg (by omega) (by omega)⟩
def Zvs{q:Rat}(h:Zvb q=false):Qb 2400 q:=(Yau rfl h).mono (by decide)
variable {G M N:Nat} {h:T O} {l:List Rat}
structure Zz6 (h:T O) (N M G:Nat) (l:List Rat):Prop where
 lt:M<N
 le:l.length≤G
 ex:∃c:List V,h.get M=some (.cells c 175 true)∧c.length=G*4∧NoU c∧∀(j:Nat) (q:Rat),l[j]?=some q→∃x,slc c (j*4) 4=some x∧FcC h N x q
def Zz6.keep{h':T O}{N':Nat}(s:Zz6 h N M G l)(k:Keeps h N h' N'):Zz6 h' N' M G l:=by
 obtain⟨c,g1,g2,g3,g4⟩:=s.ex
 refine⟨Yti s.lt k.le,s.le,c,(k.get M s.lt).trans g1,g2,g3,fun j q hq=>?_⟩
 obtain⟨x,a1,a2⟩:=g4 j q hq
 exact⟨x,a1,a2.keep k⟩
def Zz6.frt(s:Zz6 h N M G l):FrT h N (.slice M 0 l.length (some G) 4) l:=by
 obtain⟨c,g1,g2,g3,g4⟩:=s.ex
 have le:=s.le
 have hL:((List.range l.length).map fun j=>(slc c (j*4) 4).getD []).length=l.length:=by simp
 refine⟨⟨(List.range l.length).map fun j=>(slc c (j*4) 4).getD [],.inr ⟨M,0,some G,c,_,true,by rw[hL],s.lt,g1,fun j x hj=>?_,by rw[hL];omega,fun k hk=>?_⟩,hL,fun j q hq=>?_⟩,fun i hi=>?_⟩
 ·have hjl:j<l.length:=by have:=Zat hj;omega
  rw[Ytb,Yvr hjl]at hj
  obtain⟨q,hq⟩:=Zag hjl
  obtain⟨y,a1,a2⟩:=g4 j q hq
  rw[Yvn,a1]
  simp only[Yu4,a1,Yvi]at hj
  exact hj
 ·simp only[Ys3]at hk
  rw[hL]
  omega
 ·obtain⟨y,a1,a2⟩:=g4 j q hq
  exact⟨y,by rw[Ytb,Yvr (Zat hq),Yu4,a1];rfl,a2⟩
 ·simp[Zff]at hi
  subst hi
  exact⟨c,true,g1⟩
def Zxt{c x:List V}{j k:Nat}(hx:x.length=4)(hk:k*4+4≤c.length):(splice c (k*4) x).length=c.length∧slc (splice c (k*4) x) (k*4) 4=some x∧(j<k→slc (splice c (k*4) x) (j*4) 4=slc c (j*4) 4):=by
 have hl:(splice c (k*4) x).length=c.length:=by
  unfold splice
  simp only[Ytu,Yth,Yu6,hx]
  omega
 have ht:(c.take (k*4)).length=k*4:=by rw[Yth];omega
 refine⟨hl,?_,fun hj=>?_⟩
 ·unfold slc
  rw[hl,Ys8 hk]
  unfold splice
  rw[Yum,List.drop_append_of_le_length (by omega),List.drop_of_length_le (by omega),List.nil_append,List.take_append_of_le_length (by omega),Ytd (by omega)]
 ·unfold slc
  rw[hl]
  have h1:j*4+4≤k*4:=by omega
  have h2:j*4+4≤c.length:=by omega
  rw[Ys8 h2,Ys8 h2]
  unfold splice
  rw[Yum,List.drop_append_of_le_length (by omega),List.take_append_of_le_length (by rw[Yu6];omega),List.drop_take,List.take_take]
  congr 2
  omega
def Zz6.push{u:V}{x:List V}{q:Rat}{w:List Nat}(s:Zz6 h N M G l)(hc:FcC h N x q)(hu:Za0 ⟨h,N,w⟩ 4 u=some (1,x))(hG:l.length<G)(hb:G≤1000):
  ∃c',Zbi ⟨h,N,w⟩ 4 64 175 (.slice M 0 l.length (some G) 4) u=some (.slice M 0 (l.length+1) (some G) 4,⟨h.set M (.cells c' 175 true),N,M::w⟩)∧Zz6 (h.set M (.cells c' 175 true)) N M G (l++[q])∧∀y p,FcC h N y p→FcC (h.set M (.cells c' 175 true)) N y p:=by
 obtain⟨c,g1,g2,g3,g4⟩:=s.ex
 obtain⟨x1,x2⟩:=hc.len
 have hk:l.length*4+4≤c.length:=by omega
 have hsp:=fun j=>Zxt (c:=c) (x:=x) (j:=j) (k:=l.length) x1 hk
 have hlen:=(hsp 0).1
 have hset:∀y p,FcC h N y p→FcC (h.set M (.cells (splice c (l.length*4) x) 175 true)) N y p:=fun y p hy=>hy.setNU g1 g3 hlen
 refine⟨splice c (l.length*4) x,?_,⟨s.lt,by simp;omega,splice c (l.length*4) x,by rw[T.get_set,Ys8 rfl],by rw[hlen,g2],?_,fun j p hj=>?_⟩,hset⟩
 ·have e1:0+(l.length+1)*4≤c.length:=by omega
  simp only[Zbi,hu,Zca,St.row,St.write,g1]
  rw[Ys5 (by omega),Ys5 (by omega)]
  rw[Ys8 (by omega),Ys8 ⟨trivial,e1⟩,Yvn]
 ·intro y hy m hm
  unfold splice at hy
  rcases Yty.1 hy with hy|hy
  ·rcases Yty.1 hy with hy|hy
   ·exact g3 y (Yuk hy) m hm
   ·exact hc.noU y hy m hm
  ·exact g3 y (Ywp hy) m hm
 ·by_cases hjl:j<l.length
  ·rw[Yto hjl]at hj
   obtain⟨y,a1,a2⟩:=g4 j p hj
   exact⟨y,by rw[(hsp j).2.2 hjl];exact a1,hset y p a2⟩
  ·obtain rfl:j=l.length:=by
    have:=Zat hj
    simp at this
    omega
   rw[Yt0 (Ys6 _),Nat.sub_self]at hj
   obtain rfl:q=p:=by simpa using hj
   exact⟨x,(hsp 0).2.1,hset x q hc⟩
set_option maxHeartbeats 4000000
noncomputable def A.w41:=A.q Tryz.f41
noncomputable def A.lb41_0:=A.ql A.w41 2 []
noncomputable def A.lb41_1:=(fun x0=>A.ql A.w41 1 [x0]) A.lb41_0
noncomputable def A.lb41_2:=(fun x0=>A.ql A.w41 0 [x0]) A.lb41_1
noncomputable def A.b41:=(fun x0=>A.qb A.w41 [x0]) A.lb41_2
def A.k41:=@A.kk 41 101 [.tmp 4,.tmp 5] A.b41 (by kernel_rfl) rfl
def bfN(g:List Stg)(s:Stg)(before:List Rat)(t:Nat):Rat:=match (s.inputs.take t).getLast? with
 |some n=>before[pos g n]?.getD 0
 |none=>0
def Yh6{g:List Stg}{s:Stg}{before:List Rat}{t:Nat}{n:Str}(h:s.inputs[t]?=some n):bfN g s before (t+1)=before[pos g n]?.getD 0:=by
 unfold bfN
 rw[Yug,h]
 simp
def Yaf{fr bf ow fc:List V}{ins:V}(h1:NoU fr)(h2:NoU bf)(h3:NoU ow)(h4:NoU fc)(hi:∀n,ins≠.int .u64 n):NoU (vC fr ins bf ow fc):=fun x hx m=>by
 unfold vC at hx
 rcases Yty.1 hx with hx|hx
 ·exact h1 x hx m
 rcases Yt1.1 hx with rfl|hx
 ·exact hi m
 rcases Yty.1 hx with hx|hx
 ·exact h2 x hx m
 rcases Yty.1 hx with hx|hx
 ·exact h3 x hx m
 ·exact h4 x hx m
def FrO.setV{N0:Nat}{h:T O}{N V0:Nat}{v:V}{l:List Rat}{c c':List V}{e:TypeId}(s:FrO N0 h N v l)(g:h.get V0=some (.cells c e true))(hV:V0<N0)(hn:NoU c)(hl:c'.length=c.length):FrO N0 (h.set V0 (.cells c' e true)) N v l:=by
 obtain⟨cs,⟨p0,p1⟩,h2,h3,h4⟩:=s
 refine⟨cs,⟨p0,p1.imp id ?_⟩,h2,h3,fun j q hq=>?_⟩
 ·rintro⟨i,a,b,c,d⟩
  exact⟨i,a,b,c,by rw[T.get_set,Ys5 (by omega)];exact d⟩
 ·obtain⟨x,a1,a2⟩:=h4 j q hq
  exact⟨x,a1,a2.setNU g hn hl⟩
def FrO.nou{N0:Nat}{h:T O}{N:Nat}{v:V}{l:List Rat}(s:FrO N0 h N v l):V.one v=true∧V.cells v=[v]∧NW v:=s.frs.form
def Zvj:NoU zF:=by intro x hx m;simp[zF]at hx;rcases hx with rfl|rfl|rfl|rfl<;>simp
structure InI (nB:Nat) (B:T O) (n0:Nat) (g:List Stg) (s:Stg) (now before:List Rat) (fr ow:List V) (m:Nat) (r:T V) (st:St):Prop where
 w:Zac nB st.w=[]
 keep:Keeps B n0 st.h st.n
 ex:∃(t:Nat) (ins:V) (bef:List V),t+m=s.inputs.length∧r.get 49=some (.int .i64 t)∧n0<st.n∧st.h.get n0=some (.cells (vC fr ins bef ow zF) 180 true)∧FrO (n0+1) st.h st.n ins ((Zcv g s now).take t)∧bef.length=4∧bef.all V.one=true∧NoU bef∧(0<t→FcC st.h st.n bef (bfN g s before t))
def Yg3{nB:Nat}{B:T O}{n0 M G:Nat}{vg vb vi:V}{g:List Stg}{s:Stg}{now before:List Rat}{fr ow:List V}{qf qo:Rat}{r0:T V}(hBn:nB≤n0)(hg:Gr B n0 vg g)(hgl:g.length<1000)(hi:Sl B n0 vi (strs s.inputs))(hil:s.inputs.length≤16)(hN:Zz6 B n0 M G now)(hb:FrS B n0 vb before)(hbl:before.length=g.length)(hpos:∀n∈s.inputs,pos g n<now.length)(hng:now.length≤g.length)(hfr:FcC B n0 fr qf)(how:FcC B n0 ow qo)(a0:r0.get 0=some vg)(a7:r0.get 7=some vb)(a11:r0.get 11=some (.slice M 0 now.length (some G) 4))(a14:r0.get 14=some (.ptr n0 0))(a47:r0.get 47=some vi)(a48:r0.get 48=some (.int .i64 s.inputs.length)):
  ∀m r st,(∀t,inD [(16,17),(49,70)] t=false→r.get t=r0.get t)→Fx [(16,17),(49,70)] r0 101 ⟨r,101,[]⟩→InI nB B n0 g s now before fr ow m r st→Code A.C none A.lb41_0 ⟨r,101,[]⟩ st (Rd [(16,17),(49,70)] r0 101 (InI nB B n0 g s now before fr ow) m (fun e r st=>e=.exit 4∧InI nB B n0 g s now before fr ow 0 r st)):=by
 rintro m r ⟨H,n1,W⟩ hr hf ⟨hW,hK,t,ins,bef,ht,h49,hlt0,gV,hO,b1,b2,b3,b4⟩
 simp only at hW hK hlt0 gV hO b4
 rw[Zai]
 have leK:=hK.le
 cases m with
 |zero=>
  obtain rfl:t=s.inputs.length:=by omega
  simp(disch:=first|(simp;done)|omega|rfl) [-getElem?_pos,A.lb41_0,hr,hf,h49,a48]
  exact⟨hW,hK,_,ins,bef,by omega,by simp[h49],hlt0,gV,hO,b1,b2,b3,b4⟩
 |succ m=>
  have hlt:t<s.inputs.length:=by omega
  have hlt':(t:Int)<(s.inputs.length:Int):=by omega
  obtain⟨nm,hnm⟩:=Zag hlt
  have hk:=hpos nm (Ys9 hnm)
  have hkg:pos g nm<g.length:=by omega
  have hpI:Zh4 g nm=(pos g nm:Int):=by unfold Zh4;rw[Ys8 hkg]
  obtain⟨i2,o2,cc2,e2,rw2,p1,p2,p3,p4⟩:=(hi.keep hK).at (Zb3 hnm)
  have lvi:=hi.len
  rw[Zbv]at lvi
  simp(disch:=first|(simp;done)|omega|rfl) [-getElem?_pos,A.lb41_0,hr,hf,h49,a48,a47,a0,lvi,hlt,hlt',p1,p2,p3,p4]
  refine Zaf (Zqj (n:=nm) (hg.keep hK) (by omega)) ?_
  rintro _ H4 n4 k4 rfl
  rw[hpI]
  have k04:=hK.trans k4
  have le4:=k4.le
  obtain⟨qn,hqn⟩:=Zag hk
  obtain⟨qb,hqb⟩:=Zag (l:=before) (k:=pos g nm) (by omega)
  obtain⟨c,c1,c2,c3,c4⟩:=(hN.keep k04).ex
  obtain⟨x,x1,x2⟩:=c4 _ qn hqn
  obtain⟨x3,x4⟩:=x2.len
  obtain⟨ib,ob,cb,eb,rwb,y,y1,y2,y3,y4,y5⟩:=hb.at hqb
  obtain⟨y6,y7⟩:=y5.len
  have lN:=(hN.keep k04).lt
  have lb:=hb.len
  have gV4:=(k4.get n0 hlt0).trans gV
  obtain⟨v1,v2,v3,v4,v5,v6⟩:=Zjg (ins:=ins) (fr:=fr) (bf:=bef) (ow:=ow) (fc:=zF) hfr.len.1 b1 how.len.1 rfl
  have lk':((pos g nm:Nat):Int)<(now.length:Int):=by omega
  have lkb':((pos g nm:Nat):Int)<(before.length:Int):=by omega
  have hcx:(V.agg x).cells=x:=rfl
  have hcy:(V.agg y).cells=y:=rfl
  have kX:Keeps H4 n4 (H4.set n4 (.cells x 175 true)) (n4+1):=Keeps.refl.new _
  have spx:splice [V.int .i64 0,.nilslice,.int .i64 0,.nilslice] 0 x=x:=Zlo x3
  obtain⟨ins',h',w',f1,f2,f3,f4⟩:=FrO.push (x:=.slice n4 0 1 (some 1) 4) (w:=[]) ((hO.keep k4).keep kX) (x2.keep kX) (by omega) (Ypu x3) (by rw[Yth];omega)
  simp(disch:=first|(simp;done)|omega|rfl) [-getElem?_pos, -V.cells, -V.one,hr,hf,h49,a14,a11,a7,gV4,v2,hk,lk',c1,x1,lN,x3,x4,hcx,spx,Zdg,f1]
  have le5:=f3.le
  have gV5:=(f3.get n0 (by omega)).trans ((kX.get n0 (by omega)).trans gV4)
  have kY:Keeps B n0 h' (n4+1+1):=(k04.trans kX).then (show Keeps _ n0 h' (n4+1+1) from ⟨by omega,fun i hi=>f3.get i (by omega)⟩)
  have q5:=y5.keep kY
  have gb5:=(kY.get ib y2).trans y3
  have d1:n0<n4:=by omega
  have d2:n0<n4+1+1:=by omega
  have d3:ib<n4+1+1:=by omega
  have spV:=(Yae (fr:=fr) (bf:=bef) (ow:=ow) (fc:=zF) (ins:=ins) (y:=ins') (x:=y) hfr.len.1 b1 how.len.1 rfl y6).1
  have spW:=(Yae (fr:=fr) (bf:=bef) (ow:=ow) (fc:=zF) (ins:=ins') (y:=ins') (x:=y) hfr.len.1 b1 how.len.1 rfl y6).2.1
  obtain⟨n1',n2',_⟩:=f4.nou
  have lV1:=Zgo (fr:=fr) (bf:=bef) (ow:=ow) (fc:=zF) (ins:=ins) hfr.len.1 b1 how.len.1 rfl
  have lV2:=Zgo (fr:=fr) (bf:=bef) (ow:=ow) (fc:=zF) (ins:=ins') hfr.len.1 b1 how.len.1 rfl
  simp(disch:=first|(simp;done)|omega|rfl) [-getElem?_pos, -V.cells, -V.one,hr,hf,h49,a14,lb,lkb',y1,gb5,y4,gV5,spV,spW,n1',n2',lV1,lV2,Zak,d1,d2,d3,y6,y7,hcy]
  have hw':∀i∈w',n0<i:=fun i hi=>by
   apply Yuh
   intro hc
   have:=(Zfn w' (n0+1) i (by omega)).2 hi
   rw[f2]at this
   simp[Zac]at this
  have hWn:∀i∈W,nB≤i:=fun i hi=>by
   apply Yu0
   intro hc
   have:=(Zfn W nB i hc).2 hi
   rw[hW]at this
   simp at this
  refine(Zr5 (by simp[-Zac,Yia,Yck];exact⟨fun x hx hc=>by have:=hw' x (Zkz hx).1;omega,by omega⟩)).2 ?_
  simp(disch:=first|(simp;done)|omega|rfl) [-getElem?_pos,hr,hf,h49]
  have hW2:Zac nB (n0::n0::(Zac (n4+1) w'++W))=[]:=Zng fun i hi=>by
   rcases Yt1.1 hi with rfl|hi
   ·exact hBn
   rcases Yt1.1 hi with rfl|hi
   ·exact hBn
   rcases Yty.1 hi with hi|hi
   ·have:=hw' i (Zkz hi).1
    omega
   ·exact hWn i hi
  have nuV:NoU (vC fr ins bef ow zF):=Yaf hfr.noU b3 how.noU Zvj hO.nou.2.2
  have nuW:NoU (vC fr ins' bef ow zF):=Yaf hfr.noU b3 how.noU Zvj f4.nou.2.2
  have t1:=f4.setV (c':=vC fr ins' bef ow zF) gV5 (by omega) nuV (by rw[lV1,lV2])
  have gV6:(h'.set n0 (.cells (vC fr ins' bef ow zF) 180 true)).get n0=some (.cells (vC fr ins' bef ow zF) 180 true):=by rw[T.get_set,Ys8 rfl]
  have lV3:=Zgo (fr:=fr) (bf:=y) (ow:=ow) (fc:=zF) (ins:=ins') hfr.len.1 y6 how.len.1 rfl
  have t2:=t1.setV (c':=vC fr ins' y ow zF) gV6 (by omega) nuW (by rw[lV2,lV3])
  have t3:=(q5.setNU (c1:=vC fr ins' bef ow zF) (e1:=180) (w1:=true) gV5 nuV (by rw[lV1,lV2])).setNU (c1:=vC fr ins' y ow zF) (e1:=180) (w1:=true) gV6 nuW (by rw[lV2,lV3])
  have e6:(Zcv g s now).take t++[qn]=(Zcv g s now).take (t+1):=by
   unfold Zcv
   rw[Yug,Ytb,hnm]
   simp[hqn]
  have e7:bfN g s before (t+1)=qb:=by rw[Yh6 hnm,hqb];rfl
  rw[e6]at t2
  refine⟨m,by omega,hW2,⟨show n0≤n4+1+1 by omega,fun i hi=>?_⟩,t+1,ins',y,by omega,by simp,d2,by show T.get _ n0=_;rw[T.get_set,Ys8 rfl],t2,y6,y7,y5.noU,fun _=>?_⟩
  ·have hne:¬i=n0:=by omega
   show T.get _ i=_
   simp only[T.get_set,hne,Ne.symm hne,if_false]
   exact kY.get i hi
  ·rw[e7]
   exact t3
end Go.Mx
