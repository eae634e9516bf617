/-pipeline-/
import Derived.Test.YtkfkpkejgchcpaaGreatDoorNfB
set_option linter.all false
namespace Go.Mx
open Go Go.Proofs
variable {N:Nat} {bf fr ow:List V} {h:T O} {ins:V} {qb qc qf qo:Rat} {qi:List Rat}
set_option maxRecDepth 1000000
def A.b128:Zah:=sr [bx 1 163 0,ge 2 (.alloc [.int .i64 0,.nilslice,.int .i64 0,.nilslice] 158)]
 (sr [fa 3 0 1,lN 4 4 3,gn (.store 4 (tq 2) (tq 4))]
 (.ret))
def A.k128:=@A.kk 128 5 [.cell 2 (some 4)] A.b128 (by kernel_rfl) rfl
def A.b129:Zah:=sr [bx 1 163 0,ge 2 (.alloc [.int .i64 0,.nilslice,.int .i64 0,.nilslice] 158)]
 (sr [fa 3 4 1,ld 4 3,c1 5 130 4,gn (.store 4 (tq 2) (tq 5))]
 (.ret))
def A.k129:=@A.kk 129 6 [.cell 2 (some 4)] A.b129 (by kernel_rfl) rfl
def A.b131:Zah:=sr [bx 1 163 0,ge 2 (.alloc [.int .i64 0,.nilslice,.int .i64 0,.nilslice] 158)]
 (.seq (.regD [fa 3 13 1,lN 4 4 3,fa 5 4 1,ld 6 5,ge 7 (.iaddrSl 4 (tq 6) (kq 0)),lN 8 4 7,c2 9 132 4 8,gn (.store 4 (tq 2) (tq 9))] [0,1,0,4,12,28,63,127])
 (.ret))
def A.k131:=@A.kk 131 10 [.cell 2 (some 4)] A.b131 (by kernel_rfl) rfl
def A.b133:Zah:=sr [bx 1 163 0,ge 2 (.alloc [.int .i64 0,.nilslice,.int .i64 0,.nilslice] 158)]
 (sr [fa 3 4 1,ld 4 3,ge 5 (.call (fq 134) [tq 4,(fq 135)]),gn (.store 4 (tq 2) (tq 5))]
 (.ret))
def A.k133:=@A.kk 133 6 [.cell 2 (some 4)] A.b133 (by kernel_rfl) rfl
def A.b136:Zah:=sr [bx 1 163 0,ge 2 (.alloc [.int .i64 0,.nilslice,.int .i64 0,.nilslice] 158)]
 (sr [fa 3 5 1,lN 4 4 3,gn (.store 4 (tq 2) (tq 4))]
 (.ret))
def A.k136:=@A.kk 136 5 [.cell 2 (some 4)] A.b136 (by kernel_rfl) rfl
def A.b137:Zah:=sr [bx 1 163 0,ge 2 (.alloc [.int .i64 0,.nilslice,.int .i64 0,.nilslice] 158)]
 (.seq (.regD [fa 3 13 1,lN 4 4 3,fa 5 9 1,lN 6 4 5,c2 7 132 4 6,fa 8 4 1,ld 9 8,ge 10 (.iaddrSl 4 (tq 9) (kq 0)),lN 11 4 10,c2 12 138 7 11,gn (.store 4 (tq 2) (tq 12))] [0,1,0,4,15,0,32,96,224,511,1023])
 (.ret))
def A.k137:=@A.kk 137 13 [.cell 2 (some 4)] A.b137 (by kernel_rfl) rfl
def Ym2{fc:List V}{qb qc:Rat}(s:VaC h N fr ins bf ow fc qf qi qo):Fn A.C 128 [.agg (vC fr ins bf ow fc)] h N (fun x h' n'=>Fc h' n' x qf):=by
 intro w
 obtain⟨f1,f2⟩:=s.fr.len
 obtain⟨b1,b2⟩:=s.bf
 obtain⟨o1,o2⟩:=s.ow.len
 obtain⟨c1,c2⟩:=s.fc
 obtain⟨i1,i2,_⟩:=s.ins.form
 obtain⟨g1,g2,g3,g4,g5,g6⟩:=Zi5 (ins:=ins) f1 b1 o1 c1
 have lv:=Zgj (ins:=ins) f1 b1 o1 c1
 have vo:=Zl7 f2 b2 o2 c2 i1
 have hcc:∀c:List V,(V.agg c).cells=c:=fun _=>rfl
 have kB:Keeps h N ((h.set N (.cells (vC fr ins bf ow fc) 163 true)).set (N+1) (.cells [.int .i64 0,.nilslice,.int .i64 0,.nilslice] 158 true)) (N+1+1):=(Keeps.refl.new _).new _
 have hnz:NoU [V.int .i64 0,.nilslice,.int .i64 0,.nilslice]:=by intro x hx m;simp at hx;rcases hx with rfl|rfl|rfl|rfl<;>simp
 rw[Zac,A.k128 (by simp)]
 simp(disch:=first|(simp;done)|omega|rfl) [-getElem?_pos, -V.cells, -V.one,A.b128,hcc,lv,vo,g1,f1,f2,Zal,Zld f1,Zic f1,Ret]
 exact⟨kB.set (by omega),((s.fr.keep kB).setNU (c1:=fr) (e1:=158) (w1:=true) (by rw[T.get_set,Yr6 rfl]) hnz (by rw[f1];rfl)).fc⟩
def Ymy{fc:List V}{qc:Rat}(s:VaC h N fr ins bf ow fc qf qi qo)(hb:FcC h N bf qb):Fn A.C 136 [.agg (vC fr ins bf ow fc)] h N (fun x h' n'=>Fc h' n' x qb):=by
 intro w
 obtain⟨f1,f2⟩:=s.fr.len
 obtain⟨b1,b2⟩:=s.bf
 obtain⟨o1,o2⟩:=s.ow.len
 obtain⟨c1,c2⟩:=s.fc
 obtain⟨i1,i2,_⟩:=s.ins.form
 obtain⟨g1,g2,g3,g4,g5,g6⟩:=Zi5 (ins:=ins) f1 b1 o1 c1
 have lv:=Zgj (ins:=ins) f1 b1 o1 c1
 have vo:=Zl7 f2 b2 o2 c2 i1
 have hcc:∀c:List V,(V.agg c).cells=c:=fun _=>rfl
 have kB:Keeps h N ((h.set N (.cells (vC fr ins bf ow fc) 163 true)).set (N+1) (.cells [.int .i64 0,.nilslice,.int .i64 0,.nilslice] 158 true)) (N+1+1):=(Keeps.refl.new _).new _
 have hnz:NoU [V.int .i64 0,.nilslice,.int .i64 0,.nilslice]:=by intro x hx m;simp at hx;rcases hx with rfl|rfl|rfl|rfl<;>simp
 rw[Zac,A.k136 (by simp)]
 simp(disch:=first|(simp;done)|omega|rfl) [-getElem?_pos, -V.cells, -V.one,A.b136,hcc,lv,vo,g3,b1,b2,Zal,Zld b1,Zic b1,Ret]
 exact⟨kB.set (by omega),((hb.keep kB).setNU (c1:=bf) (e1:=158) (w1:=true) (by rw[T.get_set,Yr6 rfl]) hnz (by rw[b1];rfl)).fc⟩
def Ym1{fc:List V}{qb qc:Rat}(s:VaC h N fr ins bf ow fc qf qi qo)(hl:qi.length≤16)(hq:∀q∈qi,Qb 2400 q):Fn A.C 129 [.agg (vC fr ins bf ow fc)] h N (fun x h' n'=>Fc h' n' x (qi.foldl (fun a b=>a+b) 0)):=by
 intro w
 obtain⟨f1,f2⟩:=s.fr.len
 obtain⟨b1,b2⟩:=s.bf
 obtain⟨o1,o2⟩:=s.ow.len
 obtain⟨c1,c2⟩:=s.fc
 obtain⟨i1,i2,_⟩:=s.ins.form
 obtain⟨g1,g2,g3,g4,g5,g6⟩:=Zi5 (ins:=ins) f1 b1 o1 c1
 have lv:=Zgj (ins:=ins) f1 b1 o1 c1
 have vo:=Zl7 f2 b2 o2 c2 i1
 have hcc:∀c:List V,(V.agg c).cells=c:=fun _=>rfl
 have kB:Keeps h N ((h.set N (.cells (vC fr ins bf ow fc) 163 true)).set (N+1) (.cells [.int .i64 0,.nilslice,.int .i64 0,.nilslice] 158 true)) (N+1+1):=(Keeps.refl.new _).new _
 have hnz:NoU [V.int .i64 0,.nilslice,.int .i64 0,.nilslice]:=by intro x hx m;simp at hx;rcases hx with rfl|rfl|rfl|rfl<;>simp
 rw[Zac,A.k129 (by simp)]
 simp(disch:=first|(simp;done)|omega|rfl) [-getElem?_pos, -V.cells, -V.one,A.b129,hcc,lv,vo,g2]
 generalize hH:(h.set N (.cells (vC fr ins bf ow fc) 163 true)).set (N+1) (.cells [.int .i64 0,.nilslice,.int .i64 0,.nilslice] 158 true)=H at*
 have gB:H.get (N+1)=some (.cells [.int .i64 0,.nilslice,.int .i64 0,.nilslice] 158 true):=by rw[←hH];simp
 have gV:H.get N=some (.cells (vC fr ins bf ow fc) 163 true):=by rw[←hH];simp
 clear hH
 refine Zaf (Ymn (j:=2400) (s.ins.keep kB) hl hq (by decide)) ?_
 rintro _ H4 n4 k4 hz
 obtain⟨z,rfl,hzc⟩:=hz.c
 obtain⟨z1,z2⟩:=hzc.len
 have gB4:=(k4.get (N+1) (by omega)).trans gB
 have e4:=Zld z1
 have s4:=Zic z1
 simp(disch:=first|(simp;done)|omega|rfl) [-getElem?_pos, -V.cells, -V.one,hcc,z1,z2,gB4,Zal,e4,s4,Ret]
 exact⟨(kB.trans k4).set (by omega),(hzc.setNU gB4 hnz (by rw[z1];rfl)).fc⟩
def Ymz{fc:List V}{qb qc:Rat}(s:VaC h N fr ins bf ow fc qf qi qo)(h0:0<qi.length)(hl:qi.length≤16)(hq:∀q∈qi,Qb 2400 q):Fn A.C 133 [.agg (vC fr ins bf ow fc)] h N (fun x h' n'=>Fc h' n' x (Zos qi)):=by
 intro w
 obtain⟨f1,f2⟩:=s.fr.len
 obtain⟨b1,b2⟩:=s.bf
 obtain⟨o1,o2⟩:=s.ow.len
 obtain⟨c1,c2⟩:=s.fc
 obtain⟨i1,i2,_⟩:=s.ins.form
 obtain⟨g1,g2,g3,g4,g5,g6⟩:=Zi5 (ins:=ins) f1 b1 o1 c1
 have lv:=Zgj (ins:=ins) f1 b1 o1 c1
 have vo:=Zl7 f2 b2 o2 c2 i1
 have hcc:∀c:List V,(V.agg c).cells=c:=fun _=>rfl
 have kB:Keeps h N ((h.set N (.cells (vC fr ins bf ow fc) 163 true)).set (N+1) (.cells [.int .i64 0,.nilslice,.int .i64 0,.nilslice] 158 true)) (N+1+1):=(Keeps.refl.new _).new _
 have hnz:NoU [V.int .i64 0,.nilslice,.int .i64 0,.nilslice]:=by intro x hx m;simp at hx;rcases hx with rfl|rfl|rfl|rfl<;>simp
 rw[Zac,A.k133 (by simp)]
 simp(disch:=first|(simp;done)|omega|rfl) [-getElem?_pos, -V.cells, -V.one,A.b133,hcc,lv,vo,g2]
 generalize hH:(h.set N (.cells (vC fr ins bf ow fc) 163 true)).set (N+1) (.cells [.int .i64 0,.nilslice,.int .i64 0,.nilslice] 158 true)=H at*
 have gB:H.get (N+1)=some (.cells [.int .i64 0,.nilslice,.int .i64 0,.nilslice] 158 true):=by rw[←hH];simp
 have gV:H.get N=some (.cells (vC fr ins bf ow fc) 163 true):=by rw[←hH];simp
 clear hH
 refine Zaf (Yne (j:=2400) (s.ins.keep kB) h0 hl hq (by decide)) ?_
 rintro _ H4 n4 k4 hz
 obtain⟨z,rfl,hzc⟩:=hz.c
 obtain⟨z1,z2⟩:=hzc.len
 have gB4:=(k4.get (N+1) (by omega)).trans gB
 have e4:=Zld z1
 have s4:=Zic z1
 simp(disch:=first|(simp;done)|omega|rfl) [-getElem?_pos, -V.cells, -V.one,hcc,z1,z2,gB4,Zal,e4,s4,Ret]
 exact⟨(kB.trans k4).set (by omega),(hzc.setNU gB4 hnz (by rw[z1];rfl)).fc⟩
def Ym0{fc:List V}{qb:Rat}(s:VaC h N fr ins bf ow fc qf qi qo)(hf:FcC h N fc qc)(hl:0<qi.length)(hq:∀q∈qi,Qb 2400 q)(hc:Qb 2400 qc):Fn A.C 131 [.agg (vC fr ins bf ow fc)] h N (fun x h' n'=>Fc h' n' x (qc*qi[0]?.getD 0)):=by
 have l1:=s.ins.len
 have hl':(0:Int)<(qi.length:Int):=by omega
 obtain⟨x0,hx0⟩:=Zag hl
 obtain⟨i0,o0,cc0,e0,rw0,ca0,y1,y2,y3,y4,y5⟩:=s.ins.at hx0
 rw[Nat.zero_mul,Ytb]at y4
 have ex:qi[0]?.getD 0=x0:=by rw[hx0];rfl
 rw[ex]
 have d1:¬i0=N:=by omega
 have d2:¬i0=N+1:=by omega
 have d3:i0<N+1+1:=by omega
 have w1:=(hq x0 (Yr8 hx0)).wls
 have w2:=hc.wls
 intro w
 obtain⟨f1,f2⟩:=s.fr.len
 obtain⟨b1,b2⟩:=s.bf
 obtain⟨o1,o2⟩:=s.ow.len
 obtain⟨c1,c2⟩:=s.fc
 obtain⟨i1,i2,_⟩:=s.ins.form
 obtain⟨g1,g2,g3,g4,g5,g6⟩:=Zi5 (ins:=ins) f1 b1 o1 c1
 have lv:=Zgj (ins:=ins) f1 b1 o1 c1
 have vo:=Zl7 f2 b2 o2 c2 i1
 have hcc:∀c:List V,(V.agg c).cells=c:=fun _=>rfl
 have kB:Keeps h N ((h.set N (.cells (vC fr ins bf ow fc) 163 true)).set (N+1) (.cells [.int .i64 0,.nilslice,.int .i64 0,.nilslice] 158 true)) (N+1+1):=(Keeps.refl.new _).new _
 have hnz:NoU [V.int .i64 0,.nilslice,.int .i64 0,.nilslice]:=by intro x hx m;simp at hx;rcases hx with rfl|rfl|rfl|rfl<;>simp
 rw[Zac,A.k131 (by simp)]
 simp(disch:=first|(simp;done)|omega|rfl) [-getElem?_pos, -V.cells, -V.one,A.b131,hcc,lv,vo,g2,g5,l1,hl,hl',y1,y2,y3,y4,d1,d2,d3]
 generalize hH:(h.set N (.cells (vC fr ins bf ow fc) 163 true)).set (N+1) (.cells [.int .i64 0,.nilslice,.int .i64 0,.nilslice] 158 true)=H at*
 have gB:H.get (N+1)=some (.cells [.int .i64 0,.nilslice,.int .i64 0,.nilslice] 158 true):=by rw[←hH];simp
 have gV:H.get N=some (.cells (vC fr ins bf ow fc) 163 true):=by rw[←hH];simp
 clear hH
 refine Zaf (Ycr (hf.keep kB).fc (y5.keep kB).fc (by omega) (by omega) (by omega) (by omega)) ?_
 rintro _ H4 n4 k4 hz
 have le4:=k4.le
 have d5:N+1<n4:=by omega
 obtain⟨z,rfl,hzc⟩:=hz.c
 obtain⟨z1,z2⟩:=hzc.len
 have gB4:=(k4.get (N+1) (by omega)).trans gB
 have e4:=Zld z1
 have s4:=Zic z1
 simp(disch:=first|(simp;done)|omega|rfl) [-getElem?_pos, -V.cells, -V.one,hcc,z1,z2,gB4,Zal,e4,s4,d5,Ret]
 exact⟨(kB.trans k4).set (by omega),(hzc.setNU gB4 hnz (by rw[z1];rfl)).fc⟩
def Ymx{fc:List V}{qb:Rat}(s:VaC h N fr ins bf ow fc qf qi qo)(hf:FcC h N fc qc)(hl:0<qi.length)(hq:∀q∈qi,Qb 2400 q)(hc:Qb 2400 qc)(ho:Qb 2400 qo):Fn A.C 137 [.agg (vC fr ins bf ow fc)] h N (fun x h' n'=>Fc h' n' x (qc*qo+qi[0]?.getD 0)):=by
 have l1:=s.ins.len
 have hl':(0:Int)<(qi.length:Int):=by omega
 obtain⟨x0,hx0⟩:=Zag hl
 obtain⟨i0,o0,cc0,e0,rw0,ca0,y1,y2,y3,y4,y5⟩:=s.ins.at hx0
 rw[Nat.zero_mul,Ytb]at y4
 have ex:qi[0]?.getD 0=x0:=by rw[hx0];rfl
 rw[ex]
 have d1:¬i0=N:=by omega
 have d2:¬i0=N+1:=by omega
 have d3:i0<N+1+1:=by omega
 have w1:=(hq x0 (Yr8 hx0)).wls
 have w2:=hc.wls
 have w3:=ho.wls
 have w4:=(hc.mul ho).wls
 intro w
 obtain⟨f1,f2⟩:=s.fr.len
 obtain⟨b1,b2⟩:=s.bf
 obtain⟨o1,o2⟩:=s.ow.len
 obtain⟨c1,c2⟩:=s.fc
 obtain⟨i1,i2,_⟩:=s.ins.form
 obtain⟨g1,g2,g3,g4,g5,g6⟩:=Zi5 (ins:=ins) f1 b1 o1 c1
 have lv:=Zgj (ins:=ins) f1 b1 o1 c1
 have vo:=Zl7 f2 b2 o2 c2 i1
 have hcc:∀c:List V,(V.agg c).cells=c:=fun _=>rfl
 have kB:Keeps h N ((h.set N (.cells (vC fr ins bf ow fc) 163 true)).set (N+1) (.cells [.int .i64 0,.nilslice,.int .i64 0,.nilslice] 158 true)) (N+1+1):=(Keeps.refl.new _).new _
 have hnz:NoU [V.int .i64 0,.nilslice,.int .i64 0,.nilslice]:=by intro x hx m;simp at hx;rcases hx with rfl|rfl|rfl|rfl<;>simp
 rw[Zac,A.k137 (by simp)]
 simp(disch:=first|(simp;done)|omega|rfl) [-getElem?_pos, -V.cells, -V.one,A.b137,hcc,lv,vo,g5,g4]
 generalize hH:(h.set N (.cells (vC fr ins bf ow fc) 163 true)).set (N+1) (.cells [.int .i64 0,.nilslice,.int .i64 0,.nilslice] 158 true)=H at*
 have gB:H.get (N+1)=some (.cells [.int .i64 0,.nilslice,.int .i64 0,.nilslice] 158 true):=by rw[←hH];simp
 have gV:H.get N=some (.cells (vC fr ins bf ow fc) 163 true):=by rw[←hH];simp
 clear hH
 refine Zaf (Ycr (hf.keep kB).fc (s.ow.keep kB).fc (by omega) (by omega) (by omega) (by omega)) ?_
 rintro xm H3 n3 k3 hm
 have le3:=k3.le
 have gV3:=(k3.get N (by omega)).trans gV
 have y3':=((kB.trans k3).get i0 y2).trans y3
 have d4:N<n3:=by omega
 have d6:i0<n3:=by omega
 simp(disch:=first|(simp;done)|omega|rfl) [-getElem?_pos, -V.cells, -V.one,gV3,g2,l1,hl,hl',y1,y3',y4,d1,d2,d3,d4,d6]
 refine Zaf (Ycu hm ((y5.keep kB).keep k3).fc (by omega) (by omega) (by omega) (by omega)) ?_
 rintro _ H4 n4 k4' hz
 have k4:=k3.trans k4'
 have le4:=k4.le
 have d5:N+1<n4:=by omega
 obtain⟨z,rfl,hzc⟩:=hz.c
 obtain⟨z1,z2⟩:=hzc.len
 have gB4:=(k4.get (N+1) (by omega)).trans gB
 have e4:=Zld z1
 have s4:=Zic z1
 simp(disch:=first|(simp;done)|omega|rfl) [-getElem?_pos, -V.cells, -V.one,hcc,z1,z2,gB4,Zal,e4,s4,d5,Ret]
 exact⟨(kB.trans k4).set (by omega),(hzc.setNU gB4 hnz (by rw[z1];rfl)).fc⟩
structure OkG (g:List Stg):Prop where
 v:Yiv g
 ne:0<g.length
 op:∀s∈g,∃o,opOf s.op=some o∧Zcl o s.factor=0∧o.lo≤s.inputs.length∧s.inputs.length≤o.hi
def Zug{g:List Stg}{s:Stg}(h:chkStage g s=0):∃o,opOf s.op=some o∧Zcl o s.factor=0∧o.lo≤s.inputs.length∧s.inputs.length≤o.hi:=by
 unfold chkStage at h
 split at h
 ·cases h
 split at h
 ·cases h
 split at h
 ·cases h
 rename_i o ho
 split at h
 ·rename_i h1
  exact absurd h h1
 split at h
 ·cases h
 split at h
 ·cases h
 rename_i h1 h2 h3
 exact⟨o,ho,by omega,by omega,by omega⟩
def Zhe{g:List Stg}(h:chkGraph g=0):OkG g:=by
 obtain⟨h1,h2⟩:=Zui h
 refine⟨h1,Yvq.2 h2,fun s hs=>?_⟩
 obtain⟨j,hj⟩:=Yuk hs
 unfold chkGraph at h
 split at h
 ·cases h
 split at h
 ·cases h
 have hk:=Zuh h j s hj
 exact Zug hk
def Yh3{h:T O}{N:Nat}{fr bf ow fc:List V}{ins:V}{qf:Rat}{qi:List Rat}{qb qo qc:Rat}(s:VaC h N fr ins bf ow fc qf qi qo){op:Str}{o:Opn}(ho:opOf op=some o)(h1:o.lo≤qi.length)(h2:qi.length≤o.hi)(hq:∀q∈qi,Qb 2400 q)(hqo:Qb 2400 qo)(hb:0<qi.length→FcC h N bf qb)(hf:o.factor=true→FcC h N fc qc∧Qb 2400 qc):FnV A.C (opV op) [.agg (vC fr ins bf ow fc)] h N (fun x h' n'=>Fc h' n' x (opQ op qf qi qb qo qc)):=by
 unfold opOf at ho
 unfold opV opQ
 by_cases c1:op=[102,114,97,109,101]
 ·subst c1
  exact Ym2 (qb:=qb) (qc:=qc) s
 rw[Yr3 c1]at ho ⊢
 rw[Yr3 c1]
 by_cases c2:op=[97,100,100]
 ·subst c2
  simp at ho
  subst ho
  exact Ym1 (qb:=qb) (qc:=qc) s h2 hq
 rw[Yr3 c2]at ho ⊢
 rw[Yr3 c2]
 by_cases c3:op=[115,99,97,108,101]
 ·subst c3
  simp at ho
  subst ho
  obtain⟨f1,f2⟩:=hf rfl
  exact Ym0 (qb:=qb) (qc:=qc) s f1 h1 hq f2
 rw[Yr3 c3]at ho ⊢
 rw[Yr3 c3]
 by_cases c4:op=[109,97,120]
 ·subst c4
  simp at ho
  subst ho
  exact Ymz (qb:=qb) (qc:=qc) s h1 h2 hq
 rw[Yr3 c4]at ho ⊢
 rw[Yr3 c4]
 by_cases c5:op=[100,101,108,97,121]
 ·subst c5
  simp at ho
  subst ho
  exact Ymy (qb:=qb) (qc:=qc) s (hb h1)
 rw[Yr3 c5]at ho ⊢
 rw[Yr3 c5]
 by_cases c6:op=[115,117,109]
 ·subst c6
  simp at ho
  subst ho
  obtain⟨f1,f2⟩:=hf rfl
  exact Ymx (qb:=qb) (qc:=qc) s f1 h1 hq f2 hqo
 rw[Yr3 c6]at ho
 cases ho
def Yim{n k:Nat}(h:(decN n).length≤k)(hk:0<k):n<2^(4*k):=Ysg ((Ze2 hk).1 h) (Yat k)
def Zzy{q:Rat}{k:Nat}(hk:k=600)(h:Zy6 q=false):Qb (4*k) q:=by
 unfold Zy6 at h
 have:=of_decide_eq_false h
 exact⟨Yim (by omega) (by omega),Yim (by omega) (by omega)⟩
def Zjf{q:Rat}(h:Zy6 q=false):Qb 2400 q:=(Zzy rfl h).mono (by decide)
variable {G M N:Nat} {h:T O} {l:List Rat}
structure Zzc (h:T O) (N M G:Nat) (l:List Rat):Prop where
 lt:M<N
 le:l.length≤G
 ex:∃c:List V,h.get M=some (.cells c 158 true)∧c.length=G*4∧NoU c∧∀(j:Nat) (q:Rat),l[j]?=some q→∃x,slc c (j*4) 4=some x∧FcC h N x q
def Zzc.keep{h':T O}{N':Nat}(s:Zzc h N M G l)(k:Keeps h N h' N'):Zzc h' N' M G l:=by
 obtain⟨c,g1,g2,g3,g4⟩:=s.ex
 refine⟨Ysg s.lt k.le,s.le,c,(k.get M s.lt).trans g1,g2,g3,fun j q hq=>?_⟩
 obtain⟨x,a1,a2⟩:=g4 j q hq
 exact⟨x,a1,a2.keep k⟩
def Zzc.frt(s:Zzc h N M G l):FrT h N (.slice M 0 l.length (some G) 4) l:=by
 obtain⟨c,g1,g2,g3,g4⟩:=s.ex
 have le:=s.le
 have hL:((List.range l.length).map fun j=>(slc c (j*4) 4).getD []).length=l.length:=by simp
 refine⟨⟨(List.range l.length).map fun j=>(slc c (j*4) 4).getD [],.inr ⟨M,0,some G,c,_,true,by rw[hL],s.lt,g1,fun j x hj=>?_,by rw[hL];omega,fun k hk=>?_⟩,hL,fun j q hq=>?_⟩,fun i hi=>?_⟩
 ·have hjl:j<l.length:=by have:=Zaz hj;omega
  rw[Ysa,Yuo hjl]at hj
  obtain⟨q,hq⟩:=Zag hjl
  obtain⟨y,a1,a2⟩:=g4 j q hq
  rw[Yul,a1]
  simp only[Yt0,a1,Yuq]at hj
  exact hj
 ·simp only[Yr1]at hk
  rw[hL]
  omega
 ·obtain⟨y,a1,a2⟩:=g4 j q hq
  exact⟨y,by rw[Ysa,Yuo (Zaz hq),Yt0,a1];rfl,a2⟩
 ·simp[Zfc]at hi
  subst hi
  exact⟨c,true,g1⟩
def Zw0{c x:List V}{j k:Nat}(hx:x.length=4)(hk:k*4+4≤c.length):(splice c (k*4) x).length=c.length∧slc (splice c (k*4) x) (k*4) 4=some x∧(j<k→slc (splice c (k*4) x) (j*4) 4=slc c (j*4) 4):=by
 have hl:(splice c (k*4) x).length=c.length:=by
  unfold splice
  simp only[Ysn,Ysi,Yt2,hx]
  omega
 have ht:(c.take (k*4)).length=k*4:=by rw[Ysi];omega
 refine⟨hl,?_,fun hj=>?_⟩
 ·unfold slc
  rw[hl,Yr6 hk]
  unfold splice
  rw[Yth,List.drop_append_of_le_length (by omega),List.drop_of_length_le (by omega),List.nil_append,List.take_append_of_le_length (by omega),Ysd (by omega)]
 ·unfold slc
  rw[hl]
  have h1:j*4+4≤k*4:=by omega
  have h2:j*4+4≤c.length:=by omega
  rw[Yr6 h2,Yr6 h2]
  unfold splice
  rw[Yth,List.drop_append_of_le_length (by omega),List.take_append_of_le_length (by rw[Yt2];omega),List.drop_take,List.take_take]
  congr 2
  omega
def Zzc.push{u:V}{x:List V}{q:Rat}{w:List Nat}(s:Zzc h N M G l)(hc:FcC h N x q)(hu:Zax ⟨h,N,w⟩ 4 u=some (1,x))(hG:l.length<G)(hb:G≤1000):
  ∃c',Zbp ⟨h,N,w⟩ 4 64 158 (.slice M 0 l.length (some G) 4) u=some (.slice M 0 (l.length+1) (some G) 4,⟨h.set M (.cells c' 158 true),N,M::w⟩)∧Zzc (h.set M (.cells c' 158 true)) N M G (l++[q])∧∀y p,FcC h N y p→FcC (h.set M (.cells c' 158 true)) N y p:=by
 obtain⟨c,g1,g2,g3,g4⟩:=s.ex
 obtain⟨x1,x2⟩:=hc.len
 have hk:l.length*4+4≤c.length:=by omega
 have hsp:=fun j=>Zw0 (c:=c) (x:=x) (j:=j) (k:=l.length) x1 hk
 have hlen:=(hsp 0).1
 have hset:∀y p,FcC h N y p→FcC (h.set M (.cells (splice c (l.length*4) x) 158 true)) N y p:=fun y p hy=>hy.setNU g1 g3 hlen
 refine⟨splice c (l.length*4) x,?_,⟨s.lt,by simp;omega,splice c (l.length*4) x,by rw[T.get_set,Yr6 rfl],by rw[hlen,g2],?_,fun j p hj=>?_⟩,hset⟩
 ·have e1:0+(l.length+1)*4≤c.length:=by omega
  simp only[Zbp,hu,Zcd,St.row,St.write,g1]
  rw[Yr3 (by omega),Yr3 (by omega)]
  rw[Yr6 (by omega),Yr6 ⟨trivial,e1⟩,Yul]
 ·intro y hy m hm
  unfold splice at hy
  rcases Ysv.1 hy with hy|hy
  ·rcases Ysv.1 hy with hy|hy
   ·exact g3 y (Ytn hy) m hm
   ·exact hc.noU y hy m hm
  ·exact g3 y (Yvk hy) m hm
 ·by_cases hjl:j<l.length
  ·rw[Yss hjl]at hj
   obtain⟨y,a1,a2⟩:=g4 j p hj
   exact⟨y,by rw[(hsp j).2.2 hjl];exact a1,hset y p a2⟩
  ·obtain rfl:j=l.length:=by
    have:=Zaz hj
    simp at this
    omega
   rw[Ys6 (Yr4 _),Nat.sub_self]at hj
   obtain rfl:q=p:=by simpa using hj
   exact⟨x,(hsp 0).2.1,hset x q hc⟩
set_option maxHeartbeats 4000000
def A.lb35_0:Zah:=sr [bi 50 .lss 49 48]
 (.seq (cd 50
 (.skip)
 (.exit 4))
 (.seq (.block 5 (sr [ia 51 1 47 49,ld 52 51,mv 16 52]
 (sr [mv 53 0,mv 54 16,c2 55 71 53 54,mv 17 55]
 (.regD [fa 56 4 14,ld 57 56,mv 58 11,mv 59 17,ia 60 4 58 59,lN 61 4 60,ge 62 (.bslice 158 4 1 [.int .i64 0,.nilslice,.int .i64 0,.nilslice] [(0,4,(tq 61))]),ge 63 (.append 4 64 158 [.int .i64 0,.nilslice,.int .i64 0,.nilslice] (tq 57) (tq 62)),mv 64 7,mv 65 17,ia 66 4 64 65,lN 67 4 66,fa 68 4 14,so 68 63,fa 69 5 14,gn (.store 4 (tq 69) (tq 67))] [0,1,0,0,12,28,60,127,0,0,768,1792,255,4351,16383,32767]))))
 (.reg [bc 70 .add 49 1,mv 49 70])))
def A.lb35_1:Zah:=sr [bi 34 .lss 33 32]
 (.seq (cd 34
 (.skip)
 (.exit 2))
 (.seq (.block 3 (sr [mv 35 33,ia 36 5 31 33,lN 37 5 36,ge 13 (.alloc [(.str []),(.str []),(.str []),.nilslice,.int .i64 0] 104),mv 12 35,gn (.store 5 (tq 13) (tq 37))]
 (.seq (.regD [fa 38 3 10,ld 39 38,c1 40 70 39,mv 41 7,mv 42 12,ia 43 4 41 42,lN 44 4 43,ge 45 (.build [.int .i64 0,.nilslice,.int .i64 0,.nilslice,.nilslice,.int .i64 0,.nilslice,.int .i64 0,.nilslice,.int .i64 0,.nilslice,.int .i64 0,.nilslice,.int .i64 0,.nilslice,.int .i64 0,.nilslice] [(0,4,(tq 40)),(9,4,(tq 44))]),ge 14 (.alloc [.int .i64 0,.nilslice,.int .i64 0,.nilslice,.nilslice,.int .i64 0,.nilslice,.int .i64 0,.nilslice,.int .i64 0,.nilslice,.int .i64 0,.nilslice,.int .i64 0,.nilslice,.int .i64 0,.nilslice] 163),gn (.store 17 (tq 14) (tq 45))] [0,1,3,0,0,24,56,127,0,511])
 (.seq (sr [fa 46 3 13,ld 47 46,ln 48 47,mc 49 0]
 (.block 4 (.loop A.lb35_0)))
 (.seq (sr [mv 71 6,fa 72 1 13,ld 73 72,ge 74 (.lookup .str (.agg [.bool false,.int .i64 0,.int .i64 0,.nilfunc]) (tq 71) (tq 73) false),ge 75 (.field 0 none (tq 74))]
 (cd 75
 (.reg [fa 76 2 13,ld 77 76,c1 78 70 77,fa 79 13 14,gn (.store 4 (tq 79) (tq 78))])
 (.skip)))
 (sr [mv 80 6,fa 81 1 13,ld 82 81,ge 83 (.lookup .str (.agg [.bool false,.int .i64 0,.int .i64 0,.nilfunc]) (tq 80) (tq 82) false),ge 84 (.field 3 none (tq 83)),lN 85 17 14,ge 86 (.call (tq 84) [tq 85]),ge 18 (.alloc [.int .i64 0,.nilslice,.int .i64 0,.nilslice] 158),gn (.store 4 (tq 18) (tq 86))]
 (.seq (sr [lN 87 4 18,c1 88 72 87]
 (cd 88
 (sr [mN 4,mc 5 4]
 (.ret))
 (.skip)))
 (.reg [mv 89 11,lN 90 4 18,ge 91 (.bslice 158 4 1 [.int .i64 0,.nilslice,.int .i64 0,.nilslice] [(0,4,(tq 90))]),ge 92 (.append 4 64 158 [.int .i64 0,.nilslice,.int .i64 0,.nilslice] (tq 89) (tq 91)),mv 11 92]))))))))
 (.reg [bc 93 .add 33 1,mv 33 93])))
def A.lb35_2:Zah:=sr [bi 25 .lss 24 23]
 (.seq (cd 25
 (.skip)
 (.exit 0))
 (.seq (.block 1 (sr [ia 26 4 22 24,lN 27 4 26,ge 10 (.alloc [.int .i64 0,.int .i64 0,.int .i64 0,(.str [])] 51),gn (.store 4 (tq 10) (tq 27))]
 (sr [mv 28 0,ln 29 28,ge 30 (.mkslice 158 4 64 [.int .i64 0,.nilslice,.int .i64 0,.nilslice] (kq 0) (tq 29)),mv 11 30]
 (.seq (sr [mv 31 0,ln 32 31,mc 33 0]
 (.block 2 (.loop A.lb35_1)))
 (sr [mv 94 8,mv 95 11,ge 96 (.bslice 102 1 1 [.nilslice] [(0,1,(tq 95))]),ge 97 (.append 1 24 102 [.nilslice] (tq 94) (tq 96)),mv 8 97]
 (.reg [mv 98 11,mv 7 98]))))))
 (.reg [bc 99 .add 24 1,mv 24 99])))
def A.b35:Zah:=sr [mN 4,mc 5 0]
 (sr [ge 19 (.call (fq 66) []),mv 6 19]
 (sr [mv 20 0,ge 21 (.call (fq 67) [tq 20,(fq 68)]),mv 7 21]
 (sr [mN 8]
 (.seq (sr [mv 22 1,ln 23 22,mc 24 0]
 (.block 0 (.loop A.lb35_2)))
 (sr [mv 100 8,mv 4 100,mc 5 0]
 (.ret))))))
def A.k35:=@A.kk 35 101 [.tmp 4,.tmp 5] A.b35 (by kernel_rfl) rfl
def bfN(g:List Stg)(s:Stg)(before:List Rat)(t:Nat):Rat:=match (s.inputs.take t).getLast? with
 |some n=>before[pos g n]?.getD 0
 |none=>0
def Yhc{g:List Stg}{s:Stg}{before:List Rat}{t:Nat}{n:Str}(h:s.inputs[t]?=some n):bfN g s before (t+1)=before[pos g n]?.getD 0:=by
 unfold bfN
 rw[Yta,h]
 simp
def Zzl{fr bf ow fc:List V}{ins:V}(h1:NoU fr)(h2:NoU bf)(h3:NoU ow)(h4:NoU fc)(hi:∀n,ins≠.int .u64 n):NoU (vC fr ins bf ow fc):=fun x hx m=>by
 unfold vC at hx
 rcases Ysv.1 hx with hx|hx
 ·exact h1 x hx m
 rcases Ysz.1 hx with rfl|hx
 ·exact hi m
 rcases Ysv.1 hx with hx|hx
 ·exact h2 x hx m
 rcases Ysv.1 hx with hx|hx
 ·exact h3 x hx m
 ·exact h4 x hx m
def FrO.setV{N0:Nat}{h:T O}{N V0:Nat}{v:V}{l:List Rat}{c c':List V}{e:TypeId}(s:FrO N0 h N v l)(g:h.get V0=some (.cells c e true))(hV:V0<N0)(hn:NoU c)(hl:c'.length=c.length):FrO N0 (h.set V0 (.cells c' e true)) N v l:=by
 obtain⟨cs,⟨p0,p1⟩,h2,h3,h4⟩:=s
 refine⟨cs,⟨p0,p1.imp id ?_⟩,h2,h3,fun j q hq=>?_⟩
 ·rintro⟨i,a,b,c,d⟩
  exact⟨i,a,b,c,by rw[T.get_set,Yr3 (by omega)];exact d⟩
 ·obtain⟨x,a1,a2⟩:=h4 j q hq
  exact⟨x,a1,a2.setNU g hn hl⟩
def FrO.nou{N0:Nat}{h:T O}{N:Nat}{v:V}{l:List Rat}(s:FrO N0 h N v l):V.one v=true∧V.cells v=[v]∧NW v:=s.frs.form
def Zuy:NoU zF:=by intro x hx m;simp[zF]at hx;rcases hx with rfl|rfl|rfl|rfl<;>simp
structure InI (nB:Nat) (B:T O) (n0:Nat) (g:List Stg) (s:Stg) (now before:List Rat) (fr ow:List V) (m:Nat) (r:T V) (st:St):Prop where
 w:Zad nB st.w=[]
 keep:Keeps B n0 st.h st.n
 ex:∃(t:Nat) (ins:V) (bef:List V),t+m=s.inputs.length∧r.get 49=some (.int .i64 t)∧n0<st.n∧st.h.get n0=some (.cells (vC fr ins bef ow zF) 163 true)∧FrO (n0+1) st.h st.n ins ((Zfa g s now).take t)∧bef.length=4∧bef.all V.one=true∧NoU bef∧(0<t→FcC st.h st.n bef (bfN g s before t))
def Ygc{nB:Nat}{B:T O}{n0 M G:Nat}{vg vb vi:V}{g:List Stg}{s:Stg}{now before:List Rat}{fr ow:List V}{qf qo:Rat}{r0:T V}(hBn:nB≤n0)(hg:Gr B n0 vg g)(hgl:g.length<1000)(hi:Sl B n0 vi (strs s.inputs))(hil:s.inputs.length≤16)(hN:Zzc B n0 M G now)(hb:FrS B n0 vb before)(hbl:before.length=g.length)(hpos:∀n∈s.inputs,pos g n<now.length)(hng:now.length≤g.length)(hfr:FcC B n0 fr qf)(how:FcC B n0 ow qo)(a0:r0.get 0=some vg)(a7:r0.get 7=some vb)(a11:r0.get 11=some (.slice M 0 now.length (some G) 4))(a14:r0.get 14=some (.ptr n0 0))(a47:r0.get 47=some vi)(a48:r0.get 48=some (.int .i64 s.inputs.length)):
  ∀m r st,(∀t,inD [(16,17),(49,70)] t=false→r.get t=r0.get t)→Fx [(16,17),(49,70)] r0 101 ⟨r,101,[]⟩→InI nB B n0 g s now before fr ow m r st→Code A.C none A.lb35_0 ⟨r,101,[]⟩ st (Rd [(16,17),(49,70)] r0 101 (InI nB B n0 g s now before fr ow) m (fun e r st=>e=.exit 4∧InI nB B n0 g s now before fr ow 0 r st)):=by
 rintro m r ⟨H,n1,W⟩ hr hf ⟨hW,hK,t,ins,bef,ht,h49,hlt0,gV,hO,b1,b2,b3,b4⟩
 simp only at hW hK hlt0 gV hO b4
 rw[Zaj]
 have leK:=hK.le
 cases m with
 |zero=>
  obtain rfl:t=s.inputs.length:=by omega
  simp(disch:=first|(simp;done)|omega|rfl) [-getElem?_pos,A.lb35_0,hr,hf,h49,a48]
  exact⟨hW,hK,_,ins,bef,by omega,by simp[h49],hlt0,gV,hO,b1,b2,b3,b4⟩
 |succ m=>
  have hlt:t<s.inputs.length:=by omega
  have hlt':(t:Int)<(s.inputs.length:Int):=by omega
  obtain⟨nm,hnm⟩:=Zag hlt
  have hk:=hpos nm (Yr8 hnm)
  have hkg:pos g nm<g.length:=by omega
  have hpI:Zhy g nm=(pos g nm:Int):=by unfold Zhy;rw[Yr6 hkg]
  obtain⟨i2,o2,cc2,e2,rw2,p1,p2,p3,p4⟩:=(hi.keep hK).at (Zb5 hnm)
  have lvi:=hi.len
  rw[Zby]at lvi
  simp(disch:=first|(simp;done)|omega|rfl) [-getElem?_pos,A.lb35_0,hr,hf,h49,a48,a47,a0,lvi,hlt,hlt',p1,p2,p3,p4]
  refine Zaf (Zp3 (n:=nm) (hg.keep hK) (by omega)) ?_
  rintro _ H4 n4 k4 rfl
  rw[hpI]
  have k04:=hK.trans k4
  have le4:=k4.le
  obtain⟨qn,hqn⟩:=Zag hk
  obtain⟨qb,hqb⟩:=Zag (l:=before) (k:=pos g nm) (by omega)
  obtain⟨c,c1,c2,c3,c4⟩:=(hN.keep k04).ex
  obtain⟨x,x1,x2⟩:=c4 _ qn hqn
  obtain⟨x3,x4⟩:=x2.len
  obtain⟨ib,ob,cb,eb,rwb,y,y1,y2,y3,y4,y5⟩:=hb.at hqb
  obtain⟨y6,y7⟩:=y5.len
  have lN:=(hN.keep k04).lt
  have lb:=hb.len
  have gV4:=(k4.get n0 hlt0).trans gV
  obtain⟨v1,v2,v3,v4,v5,v6⟩:=Zi5 (ins:=ins) (fr:=fr) (bf:=bef) (ow:=ow) (fc:=zF) hfr.len.1 b1 how.len.1 rfl
  have lk':((pos g nm:Nat):Int)<(now.length:Int):=by omega
  have lkb':((pos g nm:Nat):Int)<(before.length:Int):=by omega
  have hcx:(V.agg x).cells=x:=rfl
  have hcy:(V.agg y).cells=y:=rfl
  have kX:Keeps H4 n4 (H4.set n4 (.cells x 158 true)) (n4+1):=Keeps.refl.new _
  have spx:splice [V.int .i64 0,.nilslice,.int .i64 0,.nilslice] 0 x=x:=Zld x3
  obtain⟨ins',h',w',f1,f2,f3,f4⟩:=FrO.push (x:=.slice n4 0 1 (some 1) 4) (w:=[]) ((hO.keep k4).keep kX) (x2.keep kX) (by omega) (Yot x3) (by rw[Ysi];omega)
  simp(disch:=first|(simp;done)|omega|rfl) [-getElem?_pos, -V.cells, -V.one,hr,hf,h49,a14,a11,a7,gV4,v2,hk,lk',c1,x1,lN,x3,x4,hcx,spx,Zb1,f1]
  have le5:=f3.le
  have gV5:=(f3.get n0 (by omega)).trans ((kX.get n0 (by omega)).trans gV4)
  have kY:Keeps B n0 h' (n4+1+1):=(k04.trans kX).then (show Keeps _ n0 h' (n4+1+1) from ⟨by omega,fun i hi=>f3.get i (by omega)⟩)
  have q5:=y5.keep kY
  have gb5:=(kY.get ib y2).trans y3
  have d1:n0<n4:=by omega
  have d2:n0<n4+1+1:=by omega
  have d3:ib<n4+1+1:=by omega
  have spV:=(Zzk (fr:=fr) (bf:=bef) (ow:=ow) (fc:=zF) (ins:=ins) (y:=ins') (x:=y) hfr.len.1 b1 how.len.1 rfl y6).1
  have spW:=(Zzk (fr:=fr) (bf:=bef) (ow:=ow) (fc:=zF) (ins:=ins') (y:=ins') (x:=y) hfr.len.1 b1 how.len.1 rfl y6).2.1
  obtain⟨n1',n2',_⟩:=f4.nou
  have lV1:=Zgj (fr:=fr) (bf:=bef) (ow:=ow) (fc:=zF) (ins:=ins) hfr.len.1 b1 how.len.1 rfl
  have lV2:=Zgj (fr:=fr) (bf:=bef) (ow:=ow) (fc:=zF) (ins:=ins') hfr.len.1 b1 how.len.1 rfl
  simp(disch:=first|(simp;done)|omega|rfl) [-getElem?_pos, -V.cells, -V.one,hr,hf,h49,a14,lb,lkb',y1,gb5,y4,gV5,spV,spW,n1',n2',lV1,lV2,Zal,d1,d2,d3,y6,y7,hcy]
  have hw':∀i∈w',n0<i:=fun i hi=>by
   apply Ytc
   intro hc
   have:=(Zcr w' (n0+1) i (by omega)).2 hi
   rw[f2]at this
   simp[Zad]at this
  have hWn:∀i∈W,nB≤i:=fun i hi=>by
   apply Yto
   intro hc
   have:=(Zcr W nB i hc).2 hi
   rw[hW]at this
   simp at this
  refine(Zro (by simp[-Zad,Yhf,Ybt];exact⟨fun x hx hc=>by have:=hw' x (Zg5 hx).1;omega,by omega⟩)).2 ?_
  simp(disch:=first|(simp;done)|omega|rfl) [-getElem?_pos,hr,hf,h49]
  have hW2:Zad nB (n0::n0::(Zad (n4+1) w'++W))=[]:=Zgy fun i hi=>by
   rcases Ysz.1 hi with rfl|hi
   ·exact hBn
   rcases Ysz.1 hi with rfl|hi
   ·exact hBn
   rcases Ysv.1 hi with hi|hi
   ·have:=hw' i (Zg5 hi).1
    omega
   ·exact hWn i hi
  have nuV:NoU (vC fr ins bef ow zF):=Zzl hfr.noU b3 how.noU Zuy hO.nou.2.2
  have nuW:NoU (vC fr ins' bef ow zF):=Zzl hfr.noU b3 how.noU Zuy f4.nou.2.2
  have t1:=f4.setV (c':=vC fr ins' bef ow zF) gV5 (by omega) nuV (by rw[lV1,lV2])
  have gV6:(h'.set n0 (.cells (vC fr ins' bef ow zF) 163 true)).get n0=some (.cells (vC fr ins' bef ow zF) 163 true):=by rw[T.get_set,Yr6 rfl]
  have lV3:=Zgj (fr:=fr) (bf:=y) (ow:=ow) (fc:=zF) (ins:=ins') hfr.len.1 y6 how.len.1 rfl
  have t2:=t1.setV (c':=vC fr ins' y ow zF) gV6 (by omega) nuW (by rw[lV2,lV3])
  have t3:=(q5.setNU (c1:=vC fr ins' bef ow zF) (e1:=163) (w1:=true) gV5 nuV (by rw[lV1,lV2])).setNU (c1:=vC fr ins' y ow zF) (e1:=163) (w1:=true) gV6 nuW (by rw[lV2,lV3])
  have e6:(Zfa g s now).take t++[qn]=(Zfa g s now).take (t+1):=by
   unfold Zfa
   rw[Yta,Ysa,hnm]
   simp[hqn]
  have e7:bfN g s before (t+1)=qb:=by rw[Yhc hnm,hqb];rfl
  rw[e6]at t2
  refine⟨m,by omega,hW2,⟨show n0≤n4+1+1 by omega,fun i hi=>?_⟩,t+1,ins',y,by omega,by simp,d2,by show T.get _ n0=_;rw[T.get_set,Yr6 rfl],t2,y6,y7,y5.noU,fun _=>?_⟩
  ·have hne:¬i=n0:=by omega
   show T.get _ i=_
   simp only[T.get_set,hne,Ne.symm hne,if_false]
   exact kY.get i hi
  ·rw[e7]
   exact t3
end Go.Mx
