/-pipeline-/
import Derived.Test.YtalhlaaapkpkiaaGreatDoorOuD
set_option linter.all false
namespace Go.Mx
open Go Go.Proofs
set_option maxHeartbeats 8000000
set_option maxRecDepth 1000000
def Yec{s:Str}{n:Nat}(h:chkNum s=0)(hn:s.length≤n)(h1:0<n):Qb (4*n) (Zdv s):=by
 obtain⟨e,_,_⟩:=Zi3 h
 have hb:=Zn9 (Zdv s)
 have l1:(Zao (Zaz (Zdv s))).length≤n:=by
  rw[e];unfold Zao;split
  ·simp;omega
  ·exact hn
 rw[hb]at l1
 have g:∀m:Nat,(decN m).length≤n→m<2^(4*n):=fun m hm=>Yti ((Ze2 h1).1 hm) (Ybm n)
 split at l1
 ·rename_i h2
  have h3:(decN 1).length=1:=by rw[Zw4];rfl
  exact⟨g _ l1,by rw[h2];exact g 1 (by omega)⟩
 ·simp at l1
  exact⟨g _ (by omega),g _ (by omega)⟩
def Zm0{g:List Stg}{fr:Rat}{before:List Rat}{i:Nat}(h:Zh3 g fr before i=none):∀{j:Nat},i≤j→Zh3 g fr before j=none
 |0,hj=>by
  obtain rfl:i=0:=by omega
  exact h
 |j+1,hj=>by
  by_cases e:i=j+1
  ·rw[←e];exact h
  ·rw[Zh3,Zm0 h (show i≤j by omega)]
def Ynv{op:Str}{fr bf ow fc:Rat}{ins:List Rat}(h1:Qb 2400 fr)(h2:∀q∈ins,Qb 2400 q)(h3:Qb 2400 bf)(h4:Qb 2400 ow)(h5:Qb 2400 fc)(hl:ins.length≤16):Qb 40000 (opQ op fr ins bf ow fc):=by
 have hi:Qb 2400 (ins[0]?.getD 0):=by
  cases h:ins[0]? with
  |none=>exact Qb.zero.mono (by decide)
  |some q=>exact h2 q (Ys9 h)
 unfold opQ
 split
 ·exact h1.mono (by decide)
 split
 ·have:=Yan h2 ins.length
  rw[Yuu]at this
  exact this.mono (by omega)
 split
 ·exact(h5.mul hi).mono (by decide)
 split
 ·cases ins with
  |nil=>exact Qb.zero.mono (by decide)
  |cons x t=>exact(h2 _ (Ycl (l:=x::t) (by simp))).mono (by decide)
 split
 ·exact h3.mono (by decide)
 ·exact((h5.mul h4).add hi).mono (by decide)
def Zw9{s:Str}{h:T O}{N:Nat}(hc:chkNum s=0)(hl:s.length≤100000):Fn A.C 84 [.str s] h N (fun x h' n'=>Fc h' n' x (Zdv s)):=by
 obtain⟨t1,t2,t3⟩:=Zi3 hc
 have l1:(decI (Zdv s).num).length≤100000:=by
  have:(decI (Zdv s).num).length≤(decN (Zdv s).num.natAbs).length+1:=by unfold decI;split<;>simp
  omega
 have hfr:=Yl3 (q:=Zdv s) (h:=h) (N:=N) l1 (by omega)
 rw[t1]at hfr
 exact hfr
def Ynf{fr ow:List V}(h1:fr.length=4)(h2:ow.length=4):splice (splice [V.int .i64 0,.nilslice,.int .i64 0,.nilslice,.nilslice,.int .i64 0,.nilslice,.int .i64 0,.nilslice,.int .i64 0,.nilslice,.int .i64 0,.nilslice,.int .i64 0,.nilslice,.int .i64 0,.nilslice] 0 fr) 9 ow=vC fr .nilslice zF ow zF:=by
 obtain⟨a1,a2,a3,a4,rfl⟩:=four h1
 obtain⟨b1,b2,b3,b4,rfl⟩:=four h2
 rfl
def Yj0{fr:List V}(h1:fr.length=4):(splice [V.int .i64 0,.nilslice,.int .i64 0,.nilslice,.nilslice,.int .i64 0,.nilslice,.int .i64 0,.nilslice,.int .i64 0,.nilslice,.int .i64 0,.nilslice,.int .i64 0,.nilslice,.int .i64 0,.nilslice] 0 fr).length=17:=by
 obtain⟨a1,a2,a3,a4,rfl⟩:=four h1
 rfl
def oks{op:Str}{o:Opn}(h:opOf op=some o):o.hi≤16:=by
 unfold opOf at h
 repeat' split at h
 all_goals first|(simp at h;subst h;decide)|cases h
structure SgI (nB:Nat) (B:T O) (n0:Nat) (g:List Stg) (fc:List V) (fr:Rat) (before:List Rat) (m:Nat) (r:T V) (st:St):Prop where
 w:Zac nB st.w=[]
 keep:Keeps B n0 st.h st.n
 ex:∃(i:Nat) (now:List Rat),i+m=g.length∧r.get 33=some (.int .i64 i)∧r.get 11=some (.slice (n0+1) 0 i (some g.length) 4)∧now.length=i∧Zh3 g fr before i=some now∧n0+1<st.n∧st.h.get n0=some (.cells fc 56 true)∧Zz6 st.h st.n (n0+1) g.length now∧∀q∈now,Qb 2400 q
def Ztq{g:List Stg}(hg:OkG g){i:Nat}{s:Stg}(hs:g[i]?=some s):∀n∈s.inputs,pos g n<i:=fun n hn=>by
 have h1:=hg.v.inp i s hs n hn
 have hl:(g.take i).length=i:=by rw[Yth];have:=Zat hs;omega
 rw[Zv4 (j:=i) (by rw[hl];exact h1)]
 exact h1
def Yff{nB:Nat}{B:T O}{n0 mp:Nat}{vg vb:V}{g:List Stg}{before:List Rat}{r0:T V}{a1 a2 a3:Int}{val:Str}(hBn:nB≤n0)(hg:Gr B n0 vg g)(hG:OkG g)(hfl:∀s∈g,s.factor.length≤20)(hb:FrS B n0 vb before)(hbl:before.length=g.length)(hbq:∀q∈before,Qb 2400 q)(hP:P10 B n0)(hmp:B.get mp=some (.map Yiv))(hmpl:mp<n0)(hv:chkNum val=0)(hvl:val.length≤400)(a0:r0.get 0=some vg)(a7:r0.get 7=some vb)(a6:r0.get 6=some (.map mp))(a10:r0.get 10=some (.ptr n0 0))(a31:r0.get 31=some vg)(a32:r0.get 32=some (.int .i64 g.length)):
  ∀m r st,(∀t,inD [(4,5),(11,14),(16,18),(33,93)] t=false→r.get t=r0.get t)→Fx [(4,5),(11,14),(16,18),(33,93)] r0 101 ⟨r,101,[]⟩→SgI nB B n0 g [.int .i64 a1,.int .i64 a2,.int .i64 a3,.str val] (Zdv val) before m r st→Code A.C none A.lb41_1 ⟨r,101,[]⟩ st (Rd [(4,5),(11,14),(16,18),(33,93)] r0 101 (SgI nB B n0 g [.int .i64 a1,.int .i64 a2,.int .i64 a3,.str val] (Zdv val) before) m (fun e r st=>Zac nB st.w=[]∧Keeps B n0 st.h st.n∧((e=.exit 2∧SgI nB B n0 g [.int .i64 a1,.int .i64 a2,.int .i64 a3,.str val] (Zdv val) before 0 r st)∨(e=.ret∧Zh3 g (Zdv val) before g.length=none∧r.get 4=some .nilslice∧r.get 5=some (.int .i64 4))))):=by
 rintro m r ⟨H,n1,W⟩ hr hf ⟨hW,hK,i,now,hi,h33,h11,hnl,hrow,hlt0,gF,hN,hNq⟩
 simp only at hW hK hlt0 gF hN
 rw[Zai]
 have leK:=hK.le
 cases m with
 |zero=>
  obtain rfl:i=g.length:=by omega
  simp(disch:=first|(simp;done)|omega|rfl) [-getElem?_pos,A.lb41_1,hr,hf,h33,a32]
  exact⟨hW,hK,hW,hK,g.length,now,by omega,by simp[h33],by simp[h11],hnl,hrow,hlt0,gF,hN,hNq⟩
 |succ m=>
  have g16:=hG.v.le
  have hlt:i<g.length:=by omega
  have hlt':(i:Int)<(g.length:Int):=by omega
  obtain⟨s,hs⟩:=Zag hlt
  have hsm:=Ys9 hs
  have lg:=hg.len
  obtain⟨o,ho1,ho2,ho3,ho4⟩:=hG.op s hsm
  obtain⟨qb,hqb⟩:=Zag (l:=before) (k:=i) (by omega)
  obtain⟨ig,og,cg,eg,rwg,inp,q1,q2,q3,q4,q5⟩:=(hg.keep hK).at hs
  obtain⟨z1,z2,z3,z4,z5,z6⟩:=Zms q4
  have hio:=q5.form.one
  have hlb:=hb.len
  have kS:Keeps H n1 ((H.set n1 (.cells [.str [],.str [],.str [],.nilslice,.int .i64 0] 109 true)).set n1 (.cells (Zb2 s inp) 109 true)) (n1+1):=(Keeps.refl.new _).set (Ys6 _)
  have gS:((H.set n1 (.cells [.str [],.str [],.str [],.nilslice,.int .i64 0] 109 true)).set n1 (.cells (Zb2 s inp) 109 true)).get n1=some (.cells (Zb2 s inp) 109 true):=by rw[T.get_set,Ys8 rfl]
  have hcs:(V.agg (Zb2 s inp)).cells=Zb2 s inp:=rfl
  have hls:(Zb2 s inp).length=5:=rfl
  have hos:(Zb2 s inp).all V.one=true:=by
   unfold Zb2
   simp only[List.all_cons,List.all_nil,hio]
   rfl
  have sps:splice [.str [],.str [],.str [],.nilslice,.int .i64 0] 0 (Zb2 s inp)=Zb2 s inp:=rfl
  have d1:¬n0=n1:=by omega
  simp(disch:=first|(simp;done)|omega|rfl) [-getElem?_pos, -V.cells, -V.one,A.lb41_1,hr,hf,h33,a32,a31,lg,hlt,hlt',q1,q2,q3,q4,hcs,hls,hos,sps,Zak,a10,gF,d1]
  generalize (H.set n1 (.cells [.str [],.str [],.str [],.nilslice,.int .i64 0] 109 true)).set n1 (.cells (Zb2 s inp) 109 true)=G1 at*
  refine Zaf (Zw9 hv (by omega)) ?_
  rintro _ H4 n4 k4 hxf
  obtain⟨frc,rfl,hfr⟩:=hxf.c
  obtain⟨fr1,fr2⟩:=hfr.len
  have le4:=k4.le
  have k04:=(hK.trans kS).trans k4
  have gS4:=(k4.get n1 (by omega)).trans gS
  have gF4:H4.get n0=some (.cells [.int .i64 a1,.int .i64 a2,.int .i64 a3,.str val] 56 true):=(k4.get n0 (by omega)).trans ((kS.get n0 (by omega)).trans gF)
  have hN4:=(hN.keep kS).keep k4
  obtain⟨ib,ob,cb,eb,rwb,y,y1,y2,y3,y4,y5⟩:=hb.at hqb
  obtain⟨y6,y7⟩:=y5.len
  have gb4:=(k04.get ib y2).trans y3
  have yK:=y5.keep k04
  have hcf:(V.agg frc).cells=frc:=rfl
  have hcy:(V.agg y).cells=y:=rfl
  have hcV:(V.agg (vC frc .nilslice zF y zF)).cells=vC frc .nilslice zF y zF:=rfl
  have hnw:=Ynf fr1 y6
  have hn0:=Yj0 fr1
  have lV:=Zgo (fr:=frc) (ins:=.nilslice) (bf:=zF) (ow:=y) (fc:=zF) fr1 rfl y6 rfl
  have zo:zF.all V.one=true:=rfl
  have vo:=Zmo (fr:=frc) (ins:=.nilslice) (bf:=zF) (ow:=y) (fc:=zF) fr2 zo y7 zo rfl
  have spV:∀c:List V,c.length=17→splice [V.int .i64 0,.nilslice,.int .i64 0,.nilslice,.nilslice,.int .i64 0,.nilslice,.int .i64 0,.nilslice,.int .i64 0,.nilslice,.int .i64 0,.nilslice,.int .i64 0,.nilslice,.int .i64 0,.nilslice] 0 c=c:=fun c hc=>by unfold splice;rw[hc];simp
  have d2:n1<n4:=by omega
  have d3:n0<n1+1:=by omega
  have d4:ib<n4:=by omega
  have d5:¬n1=n4:=by omega
  have hs3:(Zb2 s inp)[3]?=some inp:=rfl
  have lq:=q5.len
  rw[Zbv]at lq
  simp(disch:=first|(simp;done)|omega|rfl) [-getElem?_pos, -V.cells, -V.one,hr,hf,h33,a7,hlb,hbl,hlt,hlt',y1,gb4,y4,hcf,hcy,hnw,hn0,hcV,lV,vo,spV,fr1,fr2,y6,y7,Zak,gS4,d2,d3,d4,d5,hs3,lq]
  obtain⟨G5,hG5⟩:∃G5,G5=(H4.set n4 (.cells [.int .i64 0,.nilslice,.int .i64 0,.nilslice,.nilslice,.int .i64 0,.nilslice,.int .i64 0,.nilslice,.int .i64 0,.nilslice,.int .i64 0,.nilslice,.int .i64 0,.nilslice,.int .i64 0,.nilslice] 180 true)).set n4 (.cells (vC frc .nilslice zF y zF) 180 true):=⟨_,rfl⟩
  rw[←hG5]
  have k5:Keeps H4 n4 G5 (n4+1):=by rw[hG5];exact(Keeps.refl.new _).set (Ys6 _)
  have gV5:G5.get n4=some (.cells (vC frc .nilslice zF y zF) 180 true):=by rw[hG5,T.get_set,Ys8 rfl]
  clear hG5
  have kA:=(kS.trans k4)
  have hpos:=Ztq hG hs
  rw[←hnl]at hpos
  have h11':r.get 11=some (.slice (n0+1) 0 now.length (some g.length) 4):=by rw[h11,hnl]
  refine Zah [(16,17),(49,70)] (fun e r st=>e=.exit 4∧InI nB H4 n4 g s now before frc y 0 r st) (InI nB H4 n4 g s now before frc y) s.inputs.length ?_ (Yg3 (M:=n0+1) (G:=g.length) (qf:=Zdv val) (qo:=qb) (by omega) (hg.keep k04) (by have:=hG.v.le;omega) (q5.keep kA) (by have:=oks ho1;omega) hN4 (hb.keep k04) hbl hpos (by omega) hfr yK (by simp[hr,a0]) (by simp[hr,a7]) (by simp[h11']) (by simp) (by simp) (by simp)) ?_
  ·refine⟨?_,k5,0,.nilslice,zF,by omega,by simp,(show n4<n4+1 by omega),gV5,?_,rfl,rfl,Zvj,fun h=>absurd h (by omega)⟩
   ·have z1:¬n4<nB:=by omega
    have z2:¬n1<nB:=by omega
    simp[Zac,hW,z1,z2]
   ·exact FrO.nil
  ·rintro _ r2 ⟨H6,n6,W6⟩ hr2 ⟨rfl,hW6,hK6,t,ins,bef,ht,h49,hlt6,gV6,hO6,b1,b2,b3,b4⟩
   simp only at hW6 hK6 hlt6 gV6 hO6 b4
   obtain rfl:t=s.inputs.length:=by omega
   have hfi:=hf.inner (D':=[(16,17),(49,70)]) rfl (by simp) hr2
   have hil:(Zcv g s now).length=s.inputs.length:=by simp[Zcv]
   rw[Ytd (by rw[hil];exact Ys6 _)]at hO6
   have eb:bfN g s before s.inputs.length=Zsx g s before:=by unfold bfN Zsx;rw[Yuu];cases s.inputs.getLast?<;>rfl
   rw[eb]at b4
   have le6:=hK6.le
   have gM6:=(hK6.get mp (by omega)).trans ((k04.get mp (by omega)).trans hmp)
   have gS6:=(hK6.get n1 (by omega)).trans gS4
   have hop:(opOf s.op).getD ⟨false,0,0⟩=o:=by rw[ho1];rfl
   have lk:=fun st=>Ybp (st:=st) (s:=s.op) (by rw[ho1];rfl)
   rw[hop]at lk
   have hs1:(Zb2 s inp)[1]?=some (.str s.op):=rfl
   have hs2:(Zb2 s inp)[2]?=some (.str s.factor):=rfl
   have d6:n1<n6:=by omega
   have d7:mp<n6:=by omega
   have dm:n4<n6:=hlt6
   have hqi:∀q∈Zcv g s now,Qb 2400 q:=fun q hq=>by
    obtain⟨n,hn,rfl⟩:=Yup.1 hq
    cases h:now[pos g n]? with
    |none=>exact Qb.zero.mono (by decide)
    |some x=>exact hNq x (Ys9 h)
   have hqb2:=hbq qb (Ys9 hqb)
   have hbf2:Qb 2400 (Zsx g s before):=by
    unfold Zsx
    split
    ·rename_i n _
     cases h:before[pos g n]? with
     |none=>exact Qb.zero.mono (by decide)
     |some x=>exact hbq x (Ys9 h)
    ·exact Qb.zero.mono (by decide)
   have hfq:Qb 2400 (Zwz s):=by
    unfold Zwz
    rw[hop]
    split
    ·rename_i h
     unfold Zct at ho2
     rw[Ys8 h]at ho2
     exact(Yec ho2 (hfl s hsm) (by decide)).mono (by decide)
    ·exact Qb.zero.mono (by decide)
   have hxq:=Ynv (op:=s.op) ((Yec hv hvl (by decide)).mono (show 4*400≤2400 by decide)) hqi hbf2 hqb2 hfq (by rw[hil];have:=oks ho1;omega)
   have w6:=(Zjg (ins:=ins) (fr:=frc) (bf:=bef) (ow:=y) (fc:=zF) fr1 b1 y6 rfl).2.2.2.2.2
   have K6:=hK6
   have dm6:=dm
   have d66:=d6
   have d76:=d7
   have hB6:0<s.inputs.length→FcC H6 n6 bef (Zsx g s before):=b4
   cases hfa:o.factor with
   |false=>
    simp(disch:=first|(simp;done)|omega|rfl) [-getElem?_pos, -V.cells, -V.one,hr,hr2,a6,gM6,gS6,lk,hs1,hfa,dm,d6,d7]
    simp(disch:=first|(simp;done)|omega|rfl) [-getElem?_pos, -V.cells, -V.one,hr,hr2,a6,gM6,gS6,lk,gV6,hs1,w6,dm6,d66,d76]
    refine Zgz (Yix (fr:=frc) (ins:=ins) (bf:=bef) (ow:=y) (fc:=zF) (qf:=Zdv val) (qi:=Zcv g s now) (qb:=Zsx g s before) (qo:=qb) (qc:=Zwz s) ⟨(hfr.keep K6),hO6.frs,⟨b1,b2⟩,(yK.keep K6),⟨rfl,rfl⟩⟩ ho1 (by rw[hil];exact ho3) (by rw[hil];exact ho4) hqi hqb2 (by rw[hil];exact hB6) (fun h=>absurd h (by rw[hfa];decide))) ?_
    rintro _ H8 n8 k8 hx
    obtain⟨z,rfl,hz⟩:=hx.c
    obtain⟨x1,x2⟩:=hz.len
    have le8:=k8.le
    have hcz:(V.agg z).cells=z:=rfl
    have spz:=Zlo x1
    have s4z:=Zik x1
    have kZ:Keeps H8 n8 ((H8.set n8 (.cells [.int .i64 0,.nilslice,.int .i64 0,.nilslice] 175 true)).set n8 (.cells z 175 true)) (n8+1):=(Keeps.refl.new _).set (Ys6 _)
    have gZ:((H8.set n8 (.cells [.int .i64 0,.nilslice,.int .i64 0,.nilslice] 175 true)).set n8 (.cells z 175 true)).get n8=some (.cells z 175 true):=by rw[T.get_set,Ys8 rfl]
    simp(disch:=first|(simp;done)|omega|rfl) [-getElem?_pos, -V.cells, -V.one,hcz,x1,x2,spz,s4z,Zak]
    generalize (H8.set n8 (.cells [.int .i64 0,.nilslice,.int .i64 0,.nilslice] 175 true)).set n8 (.cells z 175 true)=G8 at*
    have KB8:Keeps B n0 G8 (n8+1):=((k04.trans K6).trans k8).trans kZ
    refine Zaf (Zsh (hz.keep kZ).fc (hP.keep KB8) hxq (by decide)) ?_
    rintro _ H9 n9 k9 rfl
    have le9:=k9.le
    have KB9:=KB8.trans k9
    have z1:¬n8<nB:=by omega
    have z2:¬n4<nB:=by omega
    cases hbig:Zvb (opQ s.op (Zdv val) (Zcv g s now) (Zsx g s before) qb (Zwz s))with
    |true=>
     have hnone:Zh3 g (Zdv val) before (i+1)=none:=by
      rw[Zh3,hrow]
      simp only[hs]
      rw[hqb,Yvi]
      exact Ys8 hbig
     simp(disch:=first|(simp;done)|omega|rfl) [-getElem?_pos,hbig,hfi]
     exact⟨by simp[Zac,hW6,z1,z2],KB9,Zm0 hnone (by omega)⟩
    |false=>
     have hsome:Zh3 g (Zdv val) before (i+1)=some (now++[opQ s.op (Zdv val) (Zcv g s now) (Zsx g s before) qb (Zwz s)]):=by
      rw[Zh3,hrow]
      simp only[hs]
      rw[hqb,Yvi]
      unfold Zkm
      rw[Ys5 (by rw[hbig];simp)]
     have gZ9:=(k9.get n8 (by omega)).trans gZ
     have d9:n8<n9:=by omega
     have hN9:=((((hN4.keep K6).keep k8).keep kZ).keep k9)
     have kX:Keeps H9 n9 (H9.set n9 (.cells z 175 true)) (n9+1):=Keeps.refl.new _
     obtain⟨c',f1,f2,_⟩:=Zz6.push (w:=n8::W6) (u:=.slice n9 0 1 (some 1) 4) (hN9.keep kX) ((((hz.keep kZ).keep k9).keep kX)) (Ypu x1) (by omega) (by have:=hG.v.le;omega)
     rw[hnl]at f1
     simp(disch:=first|(simp;done)|omega|rfl) [-getElem?_pos, -V.cells, -V.one,hr,hr2,hbig,gZ9,s4z,d9,h11,h33,hfi,hcz,spz,x1,x2,Zdg,f1]
     have z3:¬n0+1<nB:=by omega
     have gF9:=(kX.get n0 (by omega)).trans ((k9.get n0 (by omega)).trans ((kZ.get n0 (by omega)).trans ((k8.get n0 (by omega)).trans ((K6.get n0 (by omega)).trans gF4))))
     refine⟨m,by omega,by simp[Zac,hW6,z1,z2,z3],(KB9.trans kX).set (by omega),i+1,_,by omega,by simp,by simp,by simp[hnl],hsome,(show n0+1<n9+1 by omega),?_,f2,fun q hq=>?_⟩
     ·show T.get _ n0=_
      rw[T.get_set,Ys5 (by omega)]
      exact gF9
     ·rcases Yty.1 hq with hq|hq
      ·exact hNq q hq
      ·obtain rfl:q=_:=by simpa using hq
       exact Zvs hbig
   |true=>
    have hfe:chkNum s.factor=0:=by
     unfold Zct at ho2
     rw[Ys8 hfa]at ho2
     exact ho2
    have efq:Zwz s=Zdv s.factor:=by unfold Zwz;rw[hop,Ys8 hfa]
    simp(disch:=first|(simp;done)|omega|rfl) [-getElem?_pos, -V.cells, -V.one,hr,hr2,a6,gM6,gS6,lk,hs1,hs2,hfa,dm,d6,d7]
    refine Zaf (Zw9 hfe (by have:=hfl s hsm;omega)) ?_
    rintro _ H7 n7 k7 hfx
    obtain⟨fcx,rfl,hfcx⟩:=hfx.c
    obtain⟨u1,u2⟩:=hfcx.len
    have le7:=k7.le
    have gV6':=(k7.get n4 (by omega)).trans gV6
    have spx:=(Yae (fr:=frc) (bf:=bef) (ow:=y) (fc:=zF) (ins:=ins) (y:=ins) (x:=fcx) fr1 b1 y6 rfl u1).2.2
    have hcx:(V.agg fcx).cells=fcx:=rfl
    have lV6:=Zgo (fr:=frc) (ins:=ins) (bf:=bef) (ow:=y) (fc:=zF) fr1 b1 y6 rfl
    have lV7:=Zgo (fr:=frc) (ins:=ins) (bf:=bef) (ow:=y) (fc:=fcx) fr1 b1 y6 u1
    have nuV:=Yaf (fr:=frc) (bf:=bef) (ow:=y) (fc:=zF) (ins:=ins) hfr.noU b3 yK.noU Zvj hO6.nou.2.2
    simp(disch:=first|(simp;done)|omega|rfl) [-getElem?_pos, -V.cells, -V.one,hr,hr2,hcx,u1,u2,gV6',lV6,spx,Zak]
    have hO7:FrO (n4+1) (H7.set n4 (.cells (vC frc ins bef y fcx) 180 true)) n7 ins (Zcv g s now):=(hO6.keep k7).setV gV6' (by omega) nuV (by rw[lV6,lV7])
    have hB7:0<s.inputs.length→FcC (H7.set n4 (.cells (vC frc ins bef y fcx) 180 true)) n7 bef (Zsx g s before):=fun h=>((b4 h).keep k7).setNU gV6' nuV (by rw[lV6,lV7])
    have hF7:FcC (H7.set n4 (.cells (vC frc ins bef y fcx) 180 true)) n7 fcx (Zwz s):=by
     rw[efq]
     exact hfcx.setNU gV6' nuV (by rw[lV6,lV7])
    have K7:Keeps H4 n4 (H7.set n4 (.cells (vC frc ins bef y fcx) 180 true)) n7:=(K6.trans k7).set (Ys6 _)
    have gV7:(H7.set n4 (.cells (vC frc ins bef y fcx) 180 true)).get n4=some (.cells (vC frc ins bef y fcx) 180 true):=by rw[T.get_set,Ys8 rfl]
    generalize H7.set n4 (.cells (vC frc ins bef y fcx) 180 true)=G7 at*
    have gM7:=(K7.get mp (by omega)).trans ((k04.get mp (by omega)).trans hmp)
    have gS7:=(K7.get n1 (by omega)).trans gS4
    have w7:=(Zjg (ins:=ins) (fr:=frc) (bf:=bef) (ow:=y) (fc:=fcx) fr1 b1 y6 u1).2.2.2.2.2
    have dm7:n4<n7:=by omega
    have d67:n1<n7:=by omega
    have d77:mp<n7:=by omega
    simp(disch:=first|(simp;done)|omega|rfl) [-getElem?_pos, -V.cells, -V.one,hr,hr2,a6,gM7,gS7,lk,gV7,hs1,w7,dm7,d67,d77]
    refine Zgz (Yix (fr:=frc) (ins:=ins) (bf:=bef) (ow:=y) (fc:=fcx) (qf:=Zdv val) (qi:=Zcv g s now) (qb:=Zsx g s before) (qo:=qb) (qc:=Zwz s) ⟨(hfr.keep K7),hO7.frs,⟨b1,b2⟩,(yK.keep K7),⟨u1,u2⟩⟩ ho1 (by rw[hil];exact ho3) (by rw[hil];exact ho4) hqi hqb2 (by rw[hil];exact hB7) (fun _=>⟨hF7,hfq⟩)) ?_
    rintro _ H8 n8 k8 hx
    obtain⟨z,rfl,hz⟩:=hx.c
    obtain⟨x1,x2⟩:=hz.len
    have le8:=k8.le
    have hcz:(V.agg z).cells=z:=rfl
    have spz:=Zlo x1
    have s4z:=Zik x1
    have kZ:Keeps H8 n8 ((H8.set n8 (.cells [.int .i64 0,.nilslice,.int .i64 0,.nilslice] 175 true)).set n8 (.cells z 175 true)) (n8+1):=(Keeps.refl.new _).set (Ys6 _)
    have gZ:((H8.set n8 (.cells [.int .i64 0,.nilslice,.int .i64 0,.nilslice] 175 true)).set n8 (.cells z 175 true)).get n8=some (.cells z 175 true):=by rw[T.get_set,Ys8 rfl]
    simp(disch:=first|(simp;done)|omega|rfl) [-getElem?_pos, -V.cells, -V.one,hcz,x1,x2,spz,s4z,Zak]
    generalize (H8.set n8 (.cells [.int .i64 0,.nilslice,.int .i64 0,.nilslice] 175 true)).set n8 (.cells z 175 true)=G8 at*
    have KB8:Keeps B n0 G8 (n8+1):=((k04.trans K7).trans k8).trans kZ
    refine Zaf (Zsh (hz.keep kZ).fc (hP.keep KB8) hxq (by decide)) ?_
    rintro _ H9 n9 k9 rfl
    have le9:=k9.le
    have KB9:=KB8.trans k9
    have z1:¬n8<nB:=by omega
    have z2:¬n4<nB:=by omega
    cases hbig:Zvb (opQ s.op (Zdv val) (Zcv g s now) (Zsx g s before) qb (Zwz s))with
    |true=>
     have hnone:Zh3 g (Zdv val) before (i+1)=none:=by
      rw[Zh3,hrow]
      simp only[hs]
      rw[hqb,Yvi]
      exact Ys8 hbig
     simp(disch:=first|(simp;done)|omega|rfl) [-getElem?_pos,hbig,hfi]
     exact⟨by simp[Zac,hW6,z1,z2],KB9,Zm0 hnone (by omega)⟩
    |false=>
     have hsome:Zh3 g (Zdv val) before (i+1)=some (now++[opQ s.op (Zdv val) (Zcv g s now) (Zsx g s before) qb (Zwz s)]):=by
      rw[Zh3,hrow]
      simp only[hs]
      rw[hqb,Yvi]
      unfold Zkm
      rw[Ys5 (by rw[hbig];simp)]
     have gZ9:=(k9.get n8 (by omega)).trans gZ
     have d9:n8<n9:=by omega
     have hN9:=((((hN4.keep K7).keep k8).keep kZ).keep k9)
     have kX:Keeps H9 n9 (H9.set n9 (.cells z 175 true)) (n9+1):=Keeps.refl.new _
     obtain⟨c',f1,f2,_⟩:=Zz6.push (w:=n8::(n4::W6)) (u:=.slice n9 0 1 (some 1) 4) (hN9.keep kX) ((((hz.keep kZ).keep k9).keep kX)) (Ypu x1) (by omega) (by have:=hG.v.le;omega)
     rw[hnl]at f1
     simp(disch:=first|(simp;done)|omega|rfl) [-getElem?_pos, -V.cells, -V.one,hr,hr2,hbig,gZ9,s4z,d9,h11,h33,hfi,hcz,spz,x1,x2,Zdg,f1]
     have z3:¬n0+1<nB:=by omega
     have gF9:=(kX.get n0 (by omega)).trans ((k9.get n0 (by omega)).trans ((kZ.get n0 (by omega)).trans ((k8.get n0 (by omega)).trans ((K7.get n0 (by omega)).trans gF4))))
     refine⟨m,by omega,by simp[Zac,hW6,z1,z2,z3],(KB9.trans kX).set (by omega),i+1,_,by omega,by simp,by simp,by simp[hnl],hsome,(show n0+1<n9+1 by omega),?_,f2,fun q hq=>?_⟩
     ·show T.get _ n0=_
      rw[T.get_set,Ys5 (by omega)]
      exact gF9
     ·rcases Yty.1 hq with hq|hq
      ·exact hNq q hq
      ·obtain rfl:q=_:=by simpa using hq
       exact Zvs hbig
variable {N:Nat} {h:T O} {m:List (List Rat)} {v:V}
noncomputable def A.w81:=A.q Tryz.f81
noncomputable def A.lb81_0:=A.ql A.w81 0 []
noncomputable def A.b81:=(fun x0=>A.qb A.w81 [x0]) A.lb81_0
def A.k81:=@A.kk 81 22 [.tmp 4] A.b81 (by kernel_rfl) rfl
def Ygy{f:V}{l:List (List V)}{Q:Nat→T O→Nat→List V→Prop}(Y:V→Prop)(hQ:∀j h n h' n' c u,Q j h n c→Upd (fun i=>i∈Zff u) h n h' n'→Zz7 175 Y h u→Q j h' n' c)(hs:Sn 5 h N v l)(hl:l.length<1000000000)(h1:∀(j:Nat) (x:List V),l[j]?=some x→x.length=5∧x.all V.one=true)(hf:∀(j:Nat) (x:List V),l[j]?=some x→∀h' n',Keeps h N h' n'→FnV A.C f [(.agg x)] h' n' (fun u h2 n2=>∃c,u=(.agg c)∧c.length=4∧c.all V.one=true∧(∀q∈c,Y q)∧Q j h2 n2 c)):Fn A.C 81 [v,f] h N (fun u h' n'=>∃out,Own 4 175 N h' n' u out∧out.length=l.length∧∀(j:Nat),j<l.length→∃c,out[j]?=some c∧Q j h' n' c):=by
 intro w
 have hlen:=hs.len
 rw[Zae,A.k81 (by simp)]
 simp(disch:=first|(simp;done)|omega|rfl) [-getElem?_pos,A.b81,hlen]
 refine Zah [(5,5),(7,7),(10,20)] (fun e r st=>e=.exit 0∧Zac N st.w=[]∧Keeps h N st.h st.n∧∃u out,r.get 5=some u∧Own 4 175 N st.h st.n u out∧out.length=l.length∧∀(j:Nat),j<l.length→∃c,out[j]?=some c∧Q j st.h st.n c) (fun m r st=>Zac N st.w=[]∧Keeps h N st.h st.n∧∃k u out,k+m=l.length∧r.get 10=some (.int .i64 k)∧r.get 5=some u∧Own 4 175 N st.h st.n u out∧out.length=k∧(out=[]→u=.nilslice)∧(∀c∈out,∀y∈c,Y y)∧∀(j:Nat),j<k→∃c,out[j]?=some c∧Q j st.h st.n c) l.length ?_ ?_ ?_
 ·exact⟨by simp,Keeps.refl,0,.nilslice,[],by omega,by simp,by simp,Own.nil,rfl,fun _=>rfl,by simp,fun j hj=>by omega⟩
 ·rintro m r ⟨H,n1,W⟩ hr hf2 ⟨hW,hK,k,u,out,hk,h10,h5,ho,hol,hnil,hY,hout⟩
  simp only at hW hK ho hout
  rw[Zai]
  cases m with
  |zero=>
   have hkk:k=l.length:=by omega
   subst hkk
   simp(disch:=first|(simp;done)|omega|rfl) [-getElem?_pos,A.lb81_0,hr,hf2,h10,hW,hK]
   exact⟨u,h5,out,ho,hol,hout⟩
  |succ m=>
   have hlt:k<l.length:=by omega
   obtain⟨x,hx⟩:=Zag hlt
   obtain⟨i,o,cc,e,rw,q1,q2,q3,q4⟩:=(hs.keep hK).at hx
   have hk1:(k:Int)<(l.length:Int):=by omega
   obtain⟨e1,e2⟩:=h1 k x hx
   have d1:¬i=n1:=by omega
   have d4:n1<n1+1:=by omega
   have kA:=(hK.new (.cells [(.str []),(.str []),(.str []),.nilslice,(.int .i64 0)] 109 true)).set (i:=n1) (o:=.cells x 109 true) hK.le
   have e3:∀v:List V,(V.agg v).cells=v:=fun _=>rfl
   have e4:splice [(.str []),(.str []),(.str []),.nilslice,(.int .i64 0)] 0 x=x:=by unfold splice;rw[e1];simp[e1]
   have e5:slc x 0 5=some x:=by unfold slc;rw[Ys8 (by omega)];simp;exact Ytd (by omega)
   simp(disch:=first|(simp;done)|omega|rfl) [-getElem?_pos, -V.cells, -V.one,A.lb81_0,hr,hf2,h10,h5,hk1,hlt,hlen,q1,q3,q4,Zal,d1,Zak,e3,e1,e2,e4,e5]
   refine Zgz (hf k x hx _ _ kA) ?_
   rintro _ h3 n3 k3 ⟨c,rfl,c1,c2,cY,c3⟩
   have kle3:=k3.le
   have kn:=hK.le
   have kB:=kA.trans k3
   have b1:∀v:List V,(V.agg v).cells=v:=fun _=>rfl
   have b2:splice [(.int .i64 0),.nilslice,(.int .i64 0),.nilslice] 0 c=c:=by unfold splice;rw[c1];simp[c1]
   simp(disch:=first|(simp;done)|omega|rfl) [-getElem?_pos, -V.cells, -V.one,hr,hf2,h10,h5,b1,b2,c1,c2]
   have ho3:Own 4 175 N (h3.set n3 (.cells c 175 true)) (n3+1) u out:=(ho.keep (((Keeps.refl.new _).set (Ys6 n1)).trans k3)).keep (Keeps.refl.new _)
   obtain⟨v',h',w',f1,f2,f3,f4,fD,f5⟩:=Zgm (Y:=Y) (x:=c) (u:=.slice n3 0 1 (some 1) 4) (bytes:=64) (w:=n1::W) ho3 hnil hY (by omega) (by decide) c1 (by simp only[Za0,St.row,T.get_set,if_true];unfold slc;simp[c1];exact Ytd (by omega)) (by omega)
   rw[f1]
   have wok:¬n1<N:=by omega
   have f6:Zac N w'=[]:=by rw[f2];simp[Zac,hW,wok]
   have kz:=(kB.new (.cells c 175 true)).then f3
   have k4:Keeps h3 n3 (h3.set n3 (.cells c 175 true)) (n3+1):=Keeps.refl.new _
   have hq4:Q k (h3.set n3 (.cells c 175 true)) (n3+1) c:=hQ _ _ _ _ _ _ .nilslice c3 k4.upd Zz7.nil
   simp(disch:=first|(simp;done)|omega|rfl) [-getElem?_pos,hr,hf2,h10,f6]
   refine⟨m,by omega,kz,k+1,by omega,by simp,out++[c],f5,by simp[hol],by simp,fun c' hc z hz=>?_,fun j hj=>?_⟩
   ·rcases Yty.1 hc with hc|hc
    ·exact hY c' hc z hz
    ·simp only[Yuv]at hc;subst hc;exact cY z hz
   by_cases hjk:j<k
   ·obtain⟨c,g1,g2⟩:=hout j hjk
    exact⟨c,by rw[Yto (by omega)];exact g1,hQ _ _ _ _ _ _ _ (hQ _ _ _ _ _ _ .nilslice g2 ((((Keeps.refl.new _).set (Ys6 n1)).trans k3).trans k4).upd Zz7.nil) f4 fD⟩
   ·obtain rfl:j=k:=by omega
    exact⟨c,by rw[Yt0 (by omega),hol];simp,hQ _ _ _ _ _ _ _ hq4 f4 fD⟩
 ·rintro _ r ⟨H,n1,W⟩ hr ⟨rfl,hW,hK,u,out,h5,ho,hol,hout⟩
  simp only at hW hK ho hout
  simp(disch:=first|(simp;done)|omega|rfl) [-getElem?_pos,hr,h5,Ret,hW,hK]
  exact⟨out,ho,hol,hout⟩
noncomputable def A.b82:=A.q Tryz.f82
def A.k82:=@A.kk 82 4 [.cell 2 (some 4)] A.b82 (by kernel_rfl) rfl
def MfS(h:T O)(N:Nat)(v:V)(m:List (List Rat)):Prop:=∃us:List V,Sl h N v us∧us.length=m.length∧∀(j:Nat) (l:List Rat),m[j]?=some l→∃u,us[j]?=some u∧FrT h N u l
def MfO(N0:Nat)(h:T O)(N:Nat)(v:V)(m:List (List Rat)):Prop:=∃us:List V,Own 1 107 N0 h N v (us.map fun y=>[y])∧(us=[]→v=.nilslice)∧us.length=m.length∧∀(j:Nat) (l:List Rat),m[j]?=some l→∃u,us[j]?=some u∧FrT h N u l
def MfO.nil{N0:Nat}:MfO N0 h N .nilslice []:=⟨[],Own.nil,fun _=>rfl,rfl,fun j l hl=>by simp at hl⟩
def MfO.keep{N0:Nat}{h':T O}{N':Nat}(s:MfO N0 h N v m)(k:Keeps h N h' N'):MfO N0 h' N' v m:=by
 obtain⟨us,h1,h2,h3,h4⟩:=s
 refine⟨us,h1.keep k,h2,h3,fun j l hl=>?_⟩
 obtain⟨u,g1,g2⟩:=h4 j l hl
 exact⟨u,g1,g2.keep k⟩
def MfO.mfs{N0:Nat}(s:MfO N0 h N v m):MfS h N v m:=by
 obtain⟨us,h1,h2,h3,h4⟩:=s
 exact⟨us,Sn.one.1 h1.sn,h3,h4⟩
def MfO.push2{N0:Nat}{u x:V}{l:List Rat}{w:List Nat}(s:MfO N0 h N v m)(hu:FrT h N u l)(hN:N0≤N)(hx:Za0 ⟨h,N,w⟩ 1 x=some (1,[u]))(hm:m.length<100000):
  ∃v' h' w',Zbi ⟨h,N,w⟩ 1 24 107 v x=some (v',⟨h',N+1,w'⟩)∧Zac N0 w'=Zac N0 w∧Keeps h N0 h' (N+1)∧MfO N0 h' (N+1) v' (m++[l])∧FrT h' (N+1) u l:=by
 obtain⟨us,h1,h2,h3,h4⟩:=s
 obtain⟨v',h',w',f1,f2,f3,f4,fD,f5⟩:=Zgm (Y:=NW) (x:=[u]) (u:=x) (bytes:=24) (w:=w) h1 (fun h0=>h2 (List.map_eq_nil_iff.1 h0)) (fun c hc y hy=>by
  obtain⟨z,hz,rfl⟩:=Yup.1 hc
  obtain rfl:y=z:=by simpa using hy
  obtain⟨j,hj⟩:=Yvh hz
  obtain⟨r,hr⟩:=Zag (l:=m) (k:=j) (by have:=Zat hj;omega)
  obtain⟨u',g1,g2⟩:=h4 j r hr
  rw[hj]at g1
  obtain rfl:y=u':=by simpa using g1
  exact g2.1.form.2.2) hN (by decide) rfl hx (by rw[Ytr];omega)
 refine⟨v',h',w',f1,f2,f3,⟨us++[u],by simpa using f5,by simp,by simp[h3],fun j r hr=>?_⟩,hu.moved f4 fD (by simp)⟩
 by_cases hj:j<m.length
 ·rw[Yto hj]at hr
  obtain⟨u',g1,g2⟩:=h4 j r hr
  exact⟨u',by rw[Yto (by omega)];exact g1,g2.moved f4 fD (by simp)⟩
 ·rw[Yt0 (by omega)]at hr
  cases hd:j-m.length with
  |zero=>
   rw[hd]at hr
   simp at hr
   subst hr
   exact⟨u,by rw[Yt0 (by omega),h3,hd];rfl,hu.moved f4 fD (by simp)⟩
  |succ d=>rw[hd]at hr;simp at hr
def Yk0{x:List V}(h1:x.length=5)(h2:x.all V.one=true):FnV A.C (.func 82 [] []) [.agg x] h N (fun z h' n'=>Fc h' n' z 0):=by
 intro w
 have hcx:(V.agg x).cells=x:=rfl
 have vo:(∀y,y∈x→V.one y=true)=True:=eq_true fun y hy=>Yt8.1 h2 y hy
 rw[Zae,A.k82 (by simp)]
 simp(disch:=first|(simp;done)|omega|rfl) [-getElem?_pos, -V.cells, -V.one,A.b82,hcx,h1,h2,vo]
 generalize hH:(h.set N (.cells x 109 true)).set (N+1) (.cells [.int .i64 0,.nilslice,.int .i64 0,.nilslice] 175 true)=H at*
 have kB:Keeps h N H (N+1+1):=by rw[←hH];exact(Keeps.refl.new _).new _
 have gB:H.get (N+1)=some (.cells [.int .i64 0,.nilslice,.int .i64 0,.nilslice] 175 true):=by rw[←hH];simp
 clear hH
 refine Zaf (Yop (by omega) (by omega)) ?_
 rintro _ H4 n4 k4 hz
 obtain⟨z,rfl,hzc⟩:=hz.c
 obtain⟨z1,z2⟩:=hzc.len
 have le4:=k4.le
 have hcc:(V.agg z).cells=z:=rfl
 have gB4:=(k4.get (N+1) (by omega)).trans gB
 have e4:=Zlo z1
 have s4:=Zik z1
 have hnz:NoU [V.int .i64 0,.nilslice,.int .i64 0,.nilslice]:=by intro x hx m;simp at hx;rcases hx with rfl|rfl|rfl|rfl<;>simp
 simp(disch:=first|(simp;done)|omega|rfl) [-getElem?_pos, -V.cells, -V.one,hcc,z1,z2,gB4,Zak,e4,s4,Ret]
 exact⟨(kB.trans k4).set (by omega),(hzc.setNU gB4 hnz (by rw[z1];rfl)).fc⟩
def Yej{g:List Stg}(hg:Gr h N v g)(hl:g.length<1000):Fn A.C 81 [v,.func 82 [] []] h N (fun u h' n'=>FrT h' n' u (g.map fun _=>0)):=by
 obtain⟨cs,h1,h2,h3⟩:=hg
 have key:=Ygy (f:=.func 82 [] []) (Q:=fun j h n c=>FcC h n c 0) NW (fun j h n h' n' c u hq k hd=>hq.moved k hd) h1 (by omega) (fun j x hx=>?_) ?_
 ·intro w
  refine(key w).mono fun u st=>?_
  rintro⟨q1,q2,out,o1,o2,o3⟩
  exact⟨q1,q2,Ynq o1 (by simpa[h2]using o2) fun j hj=>by
   rw[Ytr]at hj
   obtain⟨c,c1,c2⟩:=o3 j (by omega)
   exact⟨c,c1,fun q hq=>by
    rw[Ytb]at hq
    cases hgj:g[j]? with
    |none=>rw[hgj]at hq;simp at hq
    |some s=>
     rw[hgj]at hq
     obtain rfl:0=q:=by simpa using hq
     exact c2⟩⟩
 ·obtain⟨s,hs⟩:=Zag (l:=g) (k:=j) (by have:=Zat hx;omega)
  obtain⟨inp,g1,g2⟩:=h3 j s hs
  rw[hx]at g1
  obtain rfl:x=_:=Ytz g1
  refine⟨rfl,?_⟩
  unfold Zb2
  simp only[List.all_cons,List.all_nil,g2.form.one]
  rfl
 ·intro j x hx h' n' hk
  obtain⟨s,hs⟩:=Zag (l:=g) (k:=j) (by have:=Zat hx;omega)
  obtain⟨inp,g1,g2⟩:=h3 j s hs
  rw[hx]at g1
  obtain rfl:x=_:=Ytz g1
  refine fun w=>(Yk0 (x:=Zb2 s inp) rfl (by
   unfold Zb2
   simp only[List.all_cons,List.all_nil,g2.form.one]
   rfl) w).mono fun y st=>?_
  rintro⟨q1,q2,q3⟩
  obtain⟨c,rfl,hc⟩:=q3.c
  exact⟨q1,q2,c,rfl,hc.len.1,hc.len.2,hc.noU,hc⟩
def Ylk{st:St}{e:TypeId}{k:Nat}(hk:k≤1000):mkK st e 4 64 [.int .i64 0,.nilslice,.int .i64 0,.nilslice] (some (.int .i64 0)) (some (.int .i64 (k:Nat)))=some (.slice st.n 0 0 (some k) 4,st.alloc (.cells (Zkl [.int .i64 0,.nilslice,.int .i64 0,.nilslice] k) e true)):=by
 unfold mkK
 simp only[]
 rw[Ys8 ⟨by omega,by omega,by omega,by omega,rfl,by decide⟩]
 rfl
end Go.Mx
