/-Flows-/
import Derived.Test.YtalhlaaapkpkiaaGreatDoorRaG
set_option linter.all false
namespace Go.Mx
open Go Go.Proofs
variable {l:List Rat}
set_option maxHeartbeats 8000000
set_option maxRecDepth 1000000
noncomputable def A.w16:=A.q Tryz.f16
noncomputable def A.lb16_0:=A.ql A.w16 0 []
noncomputable def A.b16:=(fun x0=>A.qb A.w16 [x0]) A.lb16_0
def A.c16:A.F 16=some ⟨135,[.tmp 12],A.b16⟩:=by kernel_rfl
def A.k16:=@A.kk 16 _ _ _ A.c16 rfl
def Zog(l:List Rat):Rat:=l.foldl (fun a b=>a+b) 0
def Zpu{q:Rat}:Zog (l++[q])=Zog l+q:=by simp[Zog]
def Ziv:∀{l:List Rat} {a x:Rat},¬a<x→¬l.foldl mx2 a<x
 |[],a,x,h=>h
 |y::l,a,x,h=>by
  show ¬l.foldl mx2 (mx2 a y)<x
  refine Ziv ?_
  unfold mx2
  split
  ·rename_i hy;intro hc;grind
  ·exact h
def Ycn{l:List Rat}{x:Rat}(hx0:x∈l):¬Zmc l<x:=by
 cases l with
 |nil=>simp at hx0
 |cons a l=>
  show ¬l.foldl mx2 a<x
  rcases Yt1.1 hx0 with rfl|hx
  ·exact Ziv (Rat.lt_irrefl)
  ·clear hx0
   induction l generalizing a with
   |nil=>simp at hx
   |cons y l ih=>
    show ¬l.foldl mx2 (mx2 a y)<x
    rcases Yt1.1 hx with rfl|hx
    ·refine Ziv ?_
     unfold mx2
     split
     ·exact Rat.lt_irrefl
     ·rename_i h;exact h
    ·exact ih _ hx
def Zlj:∀{l:List Rat} {a:Rat},l.foldl mx2 a=a∨l.foldl mx2 a∈l
 |[],a=>.inl rfl
 |y::l,a=>by
  show l.foldl mx2 (mx2 a y)=a∨l.foldl mx2 (mx2 a y)∈y::l
  rcases Zlj (l:=l) (a:=mx2 a y)with h|h
  ·rw[h]
   unfold mx2
   split
   ·exact .inr (by simp)
   ·exact .inl rfl
  ·exact .inr (by simp[h])
def Ygu{l:List Rat}(h:0<l.length):Zmc l∈l:=by
 cases l with
 |nil=>simp at h
 |cons a l=>
  rcases Zlj (l:=l) (a:=a)with e|e
  ·show l.foldl mx2 a∈a::l
   rw[e];simp
  ·exact Ytv _ e
def Yaz{a b:Rat}(h:¬b<a):¬0<sg3 (a-b).num:=by
 intro hc
 have h1:0<(a-b).num:=by unfold sg3 at hc;split at hc<;>(try split at hc)<;>omega
 have h2:0≤(b-a).num:=by rw[Rat.num_nonneg,←Rat.le_iff_sub_nonneg];exact Rat.not_lt.1 h
 have h3:(a-b).num= -(b-a).num:=by rw[←Rat.neg_num,Rat.neg_sub]
 omega
def Zsu{a b:Rat}:(Zaz a==Zaz b)=decide (a=b):=by
 by_cases h:a=b
 ·subst h;simp
 ·have:¬Zaz a=Zaz b:=fun hc=>h (Zvo hc)
  simp[h,this]
def Yc9{g:List Stg}(hG:OkG g){i:Nat}{s:Stg}(hs:g[i]?=some s)(r:List Rat):Zcv g s (r.take i)=Zcv g s r:=by
 unfold Zcv
 apply List.map_congr_left
 intro n hn
 have:=Ztq hG hs n hn
 rw[Ytk,Ys8 this]
def Zzh{g:List Stg}(hG:OkG g){i:Nat}{s:Stg}(hs:g[i]?=some s){fr ow:Rat}{r b:List Rat}:Zkm g s fr ow (r.take i) b=Zkm g s fr ow r b:=by
 unfold Zkm
 rw[Yc9 hG hs]
def Zte:∀{n:Nat} {l:List Rat},l.length=n→(∀q∈l,Qb 2400 q)→Qb (n*2401+1) (Zog l)
 |0,[],_,_=>Qb.zero.mono (by omega)
 |n+1,l,hl,h=>by
  have hne:l≠[]:=fun e=>by rw[e]at hl;cases hl
  obtain⟨t,q,rfl⟩:∃t q,l=t++[q]:=⟨l.dropLast,l.getLast hne,(Ywf hne).symm⟩
  have ht:t.length=n:=by simpa using hl
  rw[Zpu]
  exact((Zte ht (fun x hx=>h x (by simp[hx]))).add (h q (by simp))).mono (by omega)
def Tx.all{h:T O}{N:Nat}{v:V}(s:Tx h N v l)(hl:0<l.length):∃i o c e rw,Zlv v=some (i,o)∧i<N∧h.get i=some (.cells c e rw)∧∀(j:Nat) (q:Rat),l[j]?=some q→c[o+j]?=some (.str (Zaz q)):=by
 obtain⟨q0,h0⟩:=Zag hl
 obtain⟨i,o,c,e,rw,a1,a2,a3,_⟩:=s.at h0
 refine⟨i,o,c,e,rw,a1,a2,a3,fun j q hj=>?_⟩
 obtain⟨i',o',c',e',rw',b1,b2,b3,b4⟩:=s.at hj
 rw[a1]at b1
 simp only[Ys3,Ys7]at b1
 obtain⟨rfl,rfl⟩:=b1
 rw[a3]at b3
 simp only[Ys3,O.cells.injEq]at b3
 obtain⟨rfl,rfl,rfl⟩:=b3
 exact b4
def Yl5{h:T O}{N i:Nat}{vg vn inp fo:V}{g:List Stg}{s:Stg}{val:Str}{now before:List Rat}(hg:Gr h N vg g)(hG:OkG g)(hs:g[i]?=some s)(hfl:s.factor.length≤20)(hnow:Tx h N vn now)(hnl:now.length=g.length)(hbl:before.length=g.length)(hfv:chkNum val=0)(hq:∀q∈now,Qb 2400 q)(hbq:∀q∈before,Qb 2400 q)(q5:Sl h N inp (strs s.inputs))(hval:now[i]?=some (Zkm g s (Zdv val) (before[i]?.getD 0) (now.take i) before))
  (hold:∀h' n',Keeps h N h' n'→∀j q,before[j]?=some q→FnV A.C fo [.int .i64 (j:Nat)] h' n' (fun u _ _=>u=.str (Zaz q))):Fn A.C 16 [vg,.agg (Zb2 s inp),vn,.int .i64 i,.str val,fo] h N (fun u _ _=>u=.bool true):=by
 intro w
 have g16:=hG.v.le
 have hlt:=Zat hs
 have lg:=hg.len
 have hlt':(i:Int)<(g.length:Int):=by omega
 obtain⟨o,ho1,ho2,ho3,ho4⟩:=hG.op s (Ys9 hs)
 have hio:=q5.form.one
 have hil:=q5.len
 rw[Zbv]at hil
 have rp:=Ztq hG hs
 have hcs:(V.agg (Zb2 s inp)).cells=Zb2 s inp:=rfl
 have hls:(Zb2 s inp).length=5:=rfl
 have hos:(Zb2 s inp).all V.one=true:=by
  unfold Zb2
  simp only[List.all_cons,List.all_nil,hio]
  rfl
 have kG:Keeps h N (h.set N (.cells (Zb2 s inp) 46 true)) (N+1):=Keeps.refl.new _
 have gS:(h.set N (.cells (Zb2 s inp) 46 true)).get N=some (.cells (Zb2 s inp) 46 true):=by rw[T.get_set,Ys8 rfl]
 have s0:(Zb2 s inp)[1]?=some (.str s.op):=rfl
 have s1:(Zb2 s inp)[2]?=some (.str s.factor):=rfl
 have s2:(Zb2 s inp)[3]?=some inp:=rfl
 rw[Zzh hG hs]at hval
 have lnw:=hnow.len
 rw[hnl]at lnw
 obtain⟨iV,oV,cV,eV,rwV,y1,y2,y3,y4f⟩:=hnow.all (by omega)
 have y4:=y4f _ _ hval
 have y3:=(kG.get iV y2).trans y3
 have y5:iV<N+1:=by omega
 rw[Zae,A.k16 (by simp)]
 rcases Yns ho1 with⟨hop,rfl⟩|⟨hop,rfl⟩|⟨hop,rfl⟩|⟨hop,rfl⟩|⟨hop,rfl⟩|⟨hop,rfl⟩
 ·have e:Zkm g s (Zdv val) (before[i]?.getD 0) now before=Zdv val:=by simp[Zkm,opQ,hop]
  rw[e,(Zi3 hfv).1]at y4
  simp(disch:=first|(simp;done)|omega|rfl) [-getElem?_pos, -V.cells, -V.one,A.b16,lnw,hlt,hlt',y1,y3,y4,hcs,hls,hos,s0,gS,hop,Zad,Ret]
  exact kG
 ·obtain⟨n0,tl,hin⟩:∃n0 tl,s.inputs=n0::tl:=by
   match hI:s.inputs,(show 1≤s.inputs.length from ho3)with
   |n0::tl,_=>exact⟨n0,tl,rfl⟩
   |[],h=>simp at h
  have p0:=rp n0 (by rw[hin];simp)
  have hn0:s.inputs[0]?=some n0:=by rw[hin];rfl
  obtain⟨x0,hx0⟩:=Zag (l:=now) (k:=pos g n0) (by omega)
  obtain⟨ii,oi,ci,ei,rwi,t1,t2,t3,t4⟩:=q5.at (Zb3 hn0)
  rw[Yue]at t4
  have t3:=(kG.get ii t2).trans t3
  have t5:ii<N+1:=by omega
  have u4:=y4f _ _ hx0
  have hpi:Zh4 g n0=(pos g n0:Int):=by unfold Zh4;rw[Ys8 (by omega)]
  have hat:=fun w=>Zqv (n:=n0) (w:=w) (hg.keep kG) (by omega)
  simp only[hpi]at hat
  have e1:pos g n0<g.length:=by omega
  have e1':(pos g n0:Int)<(g.length:Int):=by omega
  have e4:(0:Int)<(s.inputs.length:Int):=by rw[hin];simp
  have e5:0<s.inputs.length:=by rw[hin];simp
  have i16:s.inputs.length≤16:=ho4
  have hiq:∀q∈Zcv g s now,Qb 2400 q:=fun q hqm=>by
   obtain⟨nm,hnm,rfl⟩:=Yup.1 hqm
   obtain⟨y,hy⟩:=Zag (l:=now) (k:=pos g nm) (by have:=rp nm hnm;omega)
   rw[hy]
   exact hq y (Ys9 hy)
  have hiql:(Zcv g s now).length=s.inputs.length:=Ytr ..
  obtain⟨v,ev⟩:∃v,Zkm g s (Zdv val) (before[i]?.getD 0) now before=v:=⟨_,rfl⟩
  rw[ev]at y4 hval
  have eF:v=Zog (Zcv g s now):=by rw[←ev];simp[Zkm,opQ,hop,Zog]
  have hvq:Qb 2400 v:=hq v (Ys9 hval)
  simp(disch:=first|(simp;done)|omega|rfl) [-getElem?_pos, -V.cells, -V.one,A.b16,lnw,hlt,hlt',y1,y3,y4,y5,hcs,hls,hos,s0,s1,s2,gS,hop,Zad,hat,hil,t1,t3,t4,t5,e4,e5,u4,e1,e1']
  clear hat t3
  generalize hH:h.set N (.cells (Zb2 s inp) 46 true)=G at*
  clear hH
  refine Zah [(12,12),(14,15),(17,18),(85,119)] (fun e r st=>e=.exit 1∧Zac N st.w=[]∧Keeps G (N+1) st.h st.n∧r.get 14=some (.str (Zaz (v-Zog (Zcv g s now))))∧r.get 15=some (.bool (decide (v∈Zcv g s now)))) (fun m r st=>Zac N st.w=[]∧Keeps G (N+1) st.h st.n∧∃k,k+m=s.inputs.length∧r.get 85=some (.int .i64 k)∧r.get 14=some (.str (Zaz (v-Zog ((Zcv g s now).take k))))∧r.get 15=some (.bool (decide (v∈(Zcv g s now).take k)))) s.inputs.length ?_ ?_ ?_
  ·exact⟨by simp[Zac],Keeps.refl,0,by omega,by simp,by simp[Zog,Rat.sub_eq_add_neg,Rat.neg_zero,Rat.add_zero],by simp⟩
  ·rintro m r ⟨H,n1,W⟩ hr hf ⟨hW,hK,k,hk,h85,h14,h15⟩
   simp only at hW hK
   rw[Zai]
   have leK:=hK.le
   have gS':=(hK.get N (by omega)).trans gS
   have w1:N<n1:=by omega
   cases m with
   |zero=>
    obtain rfl:k=s.inputs.length:=by omega
    rw[Ytd (by omega)]at h14 h15
    simp(disch:=first|(simp;done)|omega|rfl) [-getElem?_pos,A.lb16_0,hr,hf,h85,hil,h14,h15,hW,hK]
   |succ m=>
    obtain⟨nk,hnk⟩:=Zag (l:=s.inputs) (k:=k) (by omega)
    have pk:=rp nk (Ys9 hnk)
    obtain⟨xk,hxk⟩:=Zag (l:=now) (k:=pos g nk) (by omega)
    obtain⟨ii,oi,ci,ei,rwi,t1,t2,t3,t4⟩:=(q5.keep (kG.trans hK)).at (Zb3 hnk)
    have u4:=y4f _ _ hxk
    have y6:=(hK.get iV y5).trans y3
    have hpi:Zh4 g nk=(pos g nk:Int):=by unfold Zh4;rw[Ys8 (by omega)]
    have hat:=fun w=>Zqv (n:=nk) (w:=w) (hg.keep (kG.trans hK)) (by omega)
    simp only[hpi]at hat
    have f1:k<s.inputs.length:=by omega
    have f1':(k:Int)<(s.inputs.length:Int):=by omega
    have f2:pos g nk<g.length:=by omega
    have f2':(pos g nk:Int)<(g.length:Int):=by omega
    have hxq:=hq xk (Ys9 hxk)
    have hxi:(Zcv g s now)[k]?=some xk:=by unfold Zcv;rw[Ytb,hnk];simp[hxk]
    have htk:(Zcv g s now).take (k+1)=(Zcv g s now).take k++[xk]:=by rw[Yug,hxi];rfl
    have hsq:=Zte (l:=(Zcv g s now).take k) (n:=k) (by rw[Yth];omega) (fun q hqm=>hiq q (Yuk hqm))
    have hrq:Qb 60000 (v-Zog ((Zcv g s now).take k)):=(hvq.sub hsq).mono (by omega)
    have hnx:v-Zog ((Zcv g s now).take k)-xk=v-Zog ((Zcv g s now).take (k+1)):=by rw[htk,Zpu];grind
    have hfn:decide (v∈(Zcv g s now).take (k+1))=(decide (v∈(Zcv g s now).take k)||decide (xk=v)):=by
     rw[htk]
     have hvx:(v=xk)=(xk=v):=propext eq_comm
     by_cases c1:v∈(Zcv g s now).take k<;>by_cases c2:xk=v<;>simp[c1,c2,hvx]
    have hin1:(i:Int)<(g.length:Int):=hlt'
    simp(disch:=first|(simp;done)|omega|rfl) [-getElem?_pos,A.lb16_0,hr,hf,h85,h14,h15,gS',w1,s0,s2,hil,f1,f1',f2,f2',t1,t2,t3,t4,y1,y6,u4,hat,lnw,hop,Zad]
    refine Zaf (Zl6 hrq hxq (by decide) (by decide) (by have:=Zmp hxq;omega)) ?_
    rintro _ H3 n3 k3 rfl
    rw[hnx]
    have le3:=k3.le
    have gS3:=(k3.get N w1).trans gS'
    have y7:=(k3.get iV (by omega)).trans y6
    have w3:N<n3:=by omega
    have hbe:(Zaz xk==Zaz v)=decide (xk=v):=Zsu
    by_cases c1:v∈(Zcv g s now).take k
    ·simp only[c1,decide_true]at h15
     simp(disch:=first|(simp;done)|omega|rfl) [-getElem?_pos, -V.cells, -V.one,hr,hf,h85,h15,gS3,w3,s0,hop,Zad,y1,y7,y4,hlt,hlt',lnw,hW]
     exact⟨m,by omega,hK.trans k3,k+1,by omega,by simp,by simp,by rw[htk];simp[c1]⟩
    ·simp only[c1,decide_false]at h15
     simp(disch:=first|(simp;done)|omega|rfl) [-getElem?_pos, -V.cells, -V.one,hr,hf,h85,h15,gS3,w3,s0,hop,Zad,y1,y7,y4,hlt,hlt',lnw,hbe,hW]
     exact⟨m,by omega,hK.trans k3,k+1,by omega,by simp,by simp,by rw[htk];simp only[Yty,Yuv,c1,false_or];exact eq_comm⟩
  ·rintro _ r ⟨H,n1,W⟩ hr ⟨rfl,hW,hK,h14,h15⟩
   simp only at hW hK
   have gS':=(hK.get N (by omega)).trans gS
   have w1:N<n1:=by have:=hK.le;omega
   rw[eF,show Zog (Zcv g s now)-Zog (Zcv g s now)=0 by grind]at h14
   have hiz:=fun st=>Yc6 (q:=0) (st:=st)
   simp(disch:=first|(simp;done)|omega|rfl) [-getElem?_pos, -V.cells, -V.one,hr,h14,h15,gS',w1,s0,hop,Zad,hiz,Ret,hW]
   exact kG.trans hK
 ·obtain⟨n0,hin⟩:=List.length_eq_one_iff.1 (show s.inputs.length=1 from Nat.le_antisymm ho4 ho3)
  have p0:=rp n0 (by rw[hin];simp)
  have hn0:s.inputs[0]?=some n0:=by rw[hin];rfl
  obtain⟨x0,hx0⟩:=Zag (l:=now) (k:=pos g n0) (by omega)
  obtain⟨ii,oi,ci,ei,rwi,t1,t2,t3,t4⟩:=q5.at (Zb3 hn0)
  rw[Yue]at t4
  have t3:=(kG.get ii t2).trans t3
  have t5:ii<N+1:=by omega
  have u4:=y4f _ _ hx0
  have hpi:Zh4 g n0=(pos g n0:Int):=by unfold Zh4;rw[Ys8 (by omega)]
  have hat:=fun w=>Zqv (n:=n0) (w:=w) (hg.keep kG) (by omega)
  simp only[hpi]at hat
  have e1:pos g n0<g.length:=by omega
  have e1':(pos g n0:Int)<(g.length:Int):=by omega
  have e4:(0:Int)<(s.inputs.length:Int):=by rw[hin];simp
  have e5:0<s.inputs.length:=by rw[hin];simp
  have hc:chkNum s.factor=0:=by simpa[Zct]using ho2
  have hm:∀{h':T O} {N':Nat},Fn A.C 12 [.str s.factor,.str (Zaz x0)] h' N' (fun u _ _=>u=.str (Zaz (Zdv s.factor*x0))):=fun {h' N'}=>by
   have:=Zuc (h:=h') (N:=N') (Zss hc hfl) (hq x0 (Ys9 hx0)) (by decide) (by decide)
   rwa [(Zi3 hc).1]at this
  have e:Zkm g s (Zdv val) (before[i]?.getD 0) now before=Zdv s.factor*x0:=by simp[Zkm,opQ,hop,Zcv,hin,hx0,Zwz,opOf]
  rw[e]at y4
  simp(disch:=first|(simp;done)|omega|rfl) [-getElem?_pos, -V.cells, -V.one,A.b16,lnw,hlt,hlt',y1,y3,y4,y5,hcs,hls,hos,s0,s1,s2,gS,hop,Zad,hat,hil,t1,t3,t4,t5,e4,e5,u4,e1,e1']
  refine Zaf hm ?_
  rintro _ H2 n2 k2 rfl
  simp(disch:=first|(simp;done)|omega|rfl) [-getElem?_pos,Zad,Ret,Zan.chk]
  exact kG.trans k2
 ·obtain⟨n0,tl,hin⟩:∃n0 tl,s.inputs=n0::tl:=by
   match hI:s.inputs,(show 1≤s.inputs.length from ho3)with
   |n0::tl,_=>exact⟨n0,tl,rfl⟩
   |[],h=>simp at h
  have p0:=rp n0 (by rw[hin];simp)
  have hn0:s.inputs[0]?=some n0:=by rw[hin];rfl
  obtain⟨x0,hx0⟩:=Zag (l:=now) (k:=pos g n0) (by omega)
  obtain⟨ii,oi,ci,ei,rwi,t1,t2,t3,t4⟩:=q5.at (Zb3 hn0)
  rw[Yue]at t4
  have t3:=(kG.get ii t2).trans t3
  have t5:ii<N+1:=by omega
  have u4:=y4f _ _ hx0
  have hpi:Zh4 g n0=(pos g n0:Int):=by unfold Zh4;rw[Ys8 (by omega)]
  have hat:=fun w=>Zqv (n:=n0) (w:=w) (hg.keep kG) (by omega)
  simp only[hpi]at hat
  have e1:pos g n0<g.length:=by omega
  have e1':(pos g n0:Int)<(g.length:Int):=by omega
  have e4:(0:Int)<(s.inputs.length:Int):=by rw[hin];simp
  have e5:0<s.inputs.length:=by rw[hin];simp
  have i16:s.inputs.length≤16:=ho4
  have hiq:∀q∈Zcv g s now,Qb 2400 q:=fun q hqm=>by
   obtain⟨nm,hnm,rfl⟩:=Yup.1 hqm
   obtain⟨y,hy⟩:=Zag (l:=now) (k:=pos g nm) (by have:=rp nm hnm;omega)
   rw[hy]
   exact hq y (Ys9 hy)
  have hiql:(Zcv g s now).length=s.inputs.length:=Ytr ..
  obtain⟨v,ev⟩:∃v,Zkm g s (Zdv val) (before[i]?.getD 0) now before=v:=⟨_,rfl⟩
  rw[ev]at y4 hval
  have eF:v=Zmc (Zcv g s now):=by rw[←ev];simp[Zkm,opQ,hop,Zog]
  have hvq:Qb 2400 v:=hq v (Ys9 hval)
  simp(disch:=first|(simp;done)|omega|rfl) [-getElem?_pos, -V.cells, -V.one,A.b16,lnw,hlt,hlt',y1,y3,y4,y5,hcs,hls,hos,s0,s1,s2,gS,hop,Zad,hat,hil,t1,t3,t4,t5,e4,e5,u4,e1,e1']
  clear hat t3
  generalize hH:h.set N (.cells (Zb2 s inp) 46 true)=G at*
  clear hH
  refine Zah [(12,12),(14,15),(17,18),(85,119)] (fun e r st=>e=.exit 1∧Zac N st.w=[]∧Keeps G (N+1) st.h st.n∧r.get 14=some (.str (Zaz (v-Zog (Zcv g s now))))∧r.get 15=some (.bool (decide (v∈Zcv g s now)))) (fun m r st=>Zac N st.w=[]∧Keeps G (N+1) st.h st.n∧∃k,k+m=s.inputs.length∧r.get 85=some (.int .i64 k)∧r.get 14=some (.str (Zaz (v-Zog ((Zcv g s now).take k))))∧r.get 15=some (.bool (decide (v∈(Zcv g s now).take k)))) s.inputs.length ?_ ?_ ?_
  ·exact⟨by simp[Zac],Keeps.refl,0,by omega,by simp,by simp[Zog,Rat.sub_eq_add_neg,Rat.neg_zero,Rat.add_zero],by simp⟩
  ·rintro m r ⟨H,n1,W⟩ hr hf ⟨hW,hK,k,hk,h85,h14,h15⟩
   simp only at hW hK
   rw[Zai]
   have leK:=hK.le
   have gS':=(hK.get N (by omega)).trans gS
   have w1:N<n1:=by omega
   cases m with
   |zero=>
    obtain rfl:k=s.inputs.length:=by omega
    rw[Ytd (by omega)]at h14 h15
    simp(disch:=first|(simp;done)|omega|rfl) [-getElem?_pos,A.lb16_0,hr,hf,h85,hil,h14,h15,hW,hK]
   |succ m=>
    obtain⟨nk,hnk⟩:=Zag (l:=s.inputs) (k:=k) (by omega)
    have pk:=rp nk (Ys9 hnk)
    obtain⟨xk,hxk⟩:=Zag (l:=now) (k:=pos g nk) (by omega)
    obtain⟨ii,oi,ci,ei,rwi,t1,t2,t3,t4⟩:=(q5.keep (kG.trans hK)).at (Zb3 hnk)
    have u4:=y4f _ _ hxk
    have y6:=(hK.get iV y5).trans y3
    have hpi:Zh4 g nk=(pos g nk:Int):=by unfold Zh4;rw[Ys8 (by omega)]
    have hat:=fun w=>Zqv (n:=nk) (w:=w) (hg.keep (kG.trans hK)) (by omega)
    simp only[hpi]at hat
    have f1:k<s.inputs.length:=by omega
    have f1':(k:Int)<(s.inputs.length:Int):=by omega
    have f2:pos g nk<g.length:=by omega
    have f2':(pos g nk:Int)<(g.length:Int):=by omega
    have hxq:=hq xk (Ys9 hxk)
    have hxi:(Zcv g s now)[k]?=some xk:=by unfold Zcv;rw[Ytb,hnk];simp[hxk]
    have htk:(Zcv g s now).take (k+1)=(Zcv g s now).take k++[xk]:=by rw[Yug,hxi];rfl
    have hsq:=Zte (l:=(Zcv g s now).take k) (n:=k) (by rw[Yth];omega) (fun q hqm=>hiq q (Yuk hqm))
    have hrq:Qb 60000 (v-Zog ((Zcv g s now).take k)):=(hvq.sub hsq).mono (by omega)
    have hnx:v-Zog ((Zcv g s now).take k)-xk=v-Zog ((Zcv g s now).take (k+1)):=by rw[htk,Zpu];grind
    have hfn:decide (v∈(Zcv g s now).take (k+1))=(decide (v∈(Zcv g s now).take k)||decide (xk=v)):=by
     rw[htk]
     have hvx:(v=xk)=(xk=v):=propext eq_comm
     by_cases c1:v∈(Zcv g s now).take k<;>by_cases c2:xk=v<;>simp[c1,c2,hvx]
    have hin1:(i:Int)<(g.length:Int):=hlt'
    simp(disch:=first|(simp;done)|omega|rfl) [-getElem?_pos,A.lb16_0,hr,hf,h85,h14,h15,gS',w1,s0,s2,hil,f1,f1',f2,f2',t1,t2,t3,t4,y1,y6,u4,hat,lnw,hop,Zad]
    refine Zaf (Zl6 hrq hxq (by decide) (by decide) (by have:=Zmp hxq;omega)) ?_
    rintro _ H3 n3 k3 rfl
    rw[hnx]
    have le3:=k3.le
    have gS3:=(k3.get N w1).trans gS'
    have y7:=(k3.get iV (by omega)).trans y6
    have w3:N<n3:=by omega
    have hbe:(Zaz xk==Zaz v)=decide (xk=v):=Zsu
    by_cases c1:v∈(Zcv g s now).take k
    ·simp only[c1,decide_true]at h15
     simp(disch:=first|(simp;done)|omega|rfl) [-getElem?_pos, -V.cells, -V.one,hr,hf,h85,h15,gS3,w3,s0,hop,Zad,y1,y7,y4,hlt,hlt',lnw]
     refine Zaf (Zv1 hxq hvq (by decide) (by decide) (by have:=Zmp hvq;omega)) ?_
     rintro _ H4 n4 k4 rfl
     have hsg:¬0<sg3 (xk-v).num:=Yaz (by rw[eF];exact Ycn (Ys9 hxi))
     simp(disch:=first|(simp;done)|omega|rfl) [-getElem?_pos,hr,hf,h85,hW,hsg]
     exact⟨m,by omega,(hK.trans k3).trans k4,k+1,by omega,by simp,by simp,by rw[htk];simp[c1]⟩
    ·simp only[c1,decide_false]at h15
     simp(disch:=first|(simp;done)|omega|rfl) [-getElem?_pos, -V.cells, -V.one,hr,hf,h85,h15,gS3,w3,s0,hop,Zad,y1,y7,y4,hlt,hlt',lnw,hbe]
     refine Zaf (Zv1 hxq hvq (by decide) (by decide) (by have:=Zmp hvq;omega)) ?_
     rintro _ H4 n4 k4 rfl
     have hsg:¬0<sg3 (xk-v).num:=Yaz (by rw[eF];exact Ycn (Ys9 hxi))
     simp(disch:=first|(simp;done)|omega|rfl) [-getElem?_pos,hr,hf,h85,hW,hsg]
     exact⟨m,by omega,(hK.trans k3).trans k4,k+1,by omega,by simp,by simp,by rw[htk];simp only[Yty,Yuv,c1,false_or];exact eq_comm⟩
  ·rintro _ r ⟨H,n1,W⟩ hr ⟨rfl,hW,hK,h14,h15⟩
   simp only at hW hK
   have gS':=(hK.get N (by omega)).trans gS
   have w1:N<n1:=by have:=hK.le;omega
   have hvm:v∈Zcv g s now:=by rw[eF];exact Ygu (by rw[hiql];exact e5)
   simp only[hvm,decide_true]at h15
   simp(disch:=first|(simp;done)|omega|rfl) [-getElem?_pos, -V.cells, -V.one,hr,h14,h15,gS',w1,s0,hop,Zad,Ret,hW]
   exact kG.trans hK
 ·obtain⟨n0,hin⟩:=List.length_eq_one_iff.1 (show s.inputs.length=1 from Nat.le_antisymm ho4 ho3)
  have p0:=rp n0 (by rw[hin];simp)
  have hn0:s.inputs[0]?=some n0:=by rw[hin];rfl
  obtain⟨x0,hx0⟩:=Zag (l:=now) (k:=pos g n0) (by omega)
  obtain⟨ii,oi,ci,ei,rwi,t1,t2,t3,t4⟩:=q5.at (Zb3 hn0)
  rw[Yue]at t4
  have t3:=(kG.get ii t2).trans t3
  have t5:ii<N+1:=by omega
  have u4:=y4f _ _ hx0
  have hpi:Zh4 g n0=(pos g n0:Int):=by unfold Zh4;rw[Ys8 (by omega)]
  have hat:=fun w=>Zqv (n:=n0) (w:=w) (hg.keep kG) (by omega)
  simp only[hpi]at hat
  have e1:pos g n0<g.length:=by omega
  have e1':(pos g n0:Int)<(g.length:Int):=by omega
  have e4:(0:Int)<(s.inputs.length:Int):=by rw[hin];simp
  have e5:0<s.inputs.length:=by rw[hin];simp
  have e:Zkm g s (Zdv val) (before[i]?.getD 0) now before=before[pos g n0]?.getD 0:=by simp[Zkm,opQ,hop,Zsx,hin]
  obtain⟨b0,hb0⟩:=Zag (l:=before) (k:=pos g n0) (by omega)
  rw[e,hb0]at y4
  simp only[Yvi]at y4
  simp(disch:=first|(simp;done)|omega|rfl) [-getElem?_pos, -V.cells, -V.one,A.b16,lnw,hlt,hlt',y1,y3,y4,y5,hcs,hls,hos,s0,s1,s2,gS,hop,Zad,hat,hil,t1,t3,t4,t5,e4,e5,u4,e1,e1']
  refine Zgz (hold _ _ kG _ _ hb0) ?_
  rintro _ H2 n2 k2 rfl
  simp(disch:=first|(simp;done)|omega|rfl) [-getElem?_pos,Zad,Ret,Zan.chk]
  exact kG.trans k2
 ·obtain⟨n0,hin⟩:=List.length_eq_one_iff.1 (show s.inputs.length=1 from Nat.le_antisymm ho4 ho3)
  have p0:=rp n0 (by rw[hin];simp)
  have hn0:s.inputs[0]?=some n0:=by rw[hin];rfl
  obtain⟨x0,hx0⟩:=Zag (l:=now) (k:=pos g n0) (by omega)
  obtain⟨ii,oi,ci,ei,rwi,t1,t2,t3,t4⟩:=q5.at (Zb3 hn0)
  rw[Yue]at t4
  have t3:=(kG.get ii t2).trans t3
  have t5:ii<N+1:=by omega
  have u4:=y4f _ _ hx0
  have hpi:Zh4 g n0=(pos g n0:Int):=by unfold Zh4;rw[Ys8 (by omega)]
  have hat:=fun w=>Zqv (n:=n0) (w:=w) (hg.keep kG) (by omega)
  simp only[hpi]at hat
  have e1:pos g n0<g.length:=by omega
  have e1':(pos g n0:Int)<(g.length:Int):=by omega
  have e4:(0:Int)<(s.inputs.length:Int):=by rw[hin];simp
  have e5:0<s.inputs.length:=by rw[hin];simp
  obtain⟨bi,hbi⟩:=Zag (l:=before) (k:=i) (by omega)
  have hc:chkNum s.factor=0:=by simpa[Zct]using ho2
  have hm:∀{h':T O} {N':Nat},Fn A.C 12 [.str s.factor,.str (Zaz bi)] h' N' (fun u _ _=>u=.str (Zaz (Zdv s.factor*bi))):=fun {h' N'}=>by
   have:=Zuc (h:=h') (N:=N') (Zss hc hfl) (hbq bi (Ys9 hbi)) (by decide) (by decide)
   rwa [(Zi3 hc).1]at this
  have e:Zkm g s (Zdv val) (before[i]?.getD 0) now before=Zdv s.factor*bi+x0:=by simp[Zkm,opQ,hop,Zcv,hin,hx0,Zwz,opOf,hbi]
  have hvq:=hq _ (Ys9 hval)
  rw[e]at y4 hvq
  have hx0q:=hq x0 (Ys9 hx0)
  simp(disch:=first|(simp;done)|omega|rfl) [-getElem?_pos, -V.cells, -V.one,A.b16,lnw,hlt,hlt',y1,y3,y4,y5,hcs,hls,hos,s0,s1,s2,gS,hop,Zad,hat,hil,t1,t3,t4,t5,e4,e5,u4,e1,e1']
  refine Zaf (Zl6 hvq hx0q (by decide) (by decide) (by have:=Zmp hx0q;omega)) ?_
  rintro _ H2 n2 k2 rfl
  have le2:=k2.le
  have gS2:=(k2.get N (by omega)).trans gS
  have w2:N<n2:=by omega
  rw[show Zdv s.factor*bi+x0-x0=Zdv s.factor*bi by grind]
  simp(disch:=first|(simp;done)|omega|rfl) [-getElem?_pos, -V.cells, -V.one,gS2,w2,s1]
  refine Zgz (hold _ _ (kG.trans k2) _ _ hbi) ?_
  rintro _ H3 n3 k3 rfl
  simp(disch:=first|(simp;done)|omega|rfl) [-getElem?_pos,Zan.chk]
  refine Zaf hm ?_
  rintro _ H4 n4 k4 rfl
  simp(disch:=first|(simp;done)|omega|rfl) [-getElem?_pos,Zad,Ret,Zan.chk]
  exact((kG.trans k2).trans k3).trans k4
variable {N:Nat} {h:T O}
set_option maxHeartbeats 8000000
noncomputable def A.w18:=A.q Tryz.f18
noncomputable def A.lb18_0:=A.ql A.w18 0 []
noncomputable def A.b18:=(fun x0=>A.qb A.w18 [x0]) A.lb18_0
def A.k18:=@A.kk 18 19 [.tmp 2] A.b18 (by kernel_rfl) rfl
noncomputable def A.w7:=A.q Tryz.f7
noncomputable def A.lb7_0:=A.ql A.w7 0 []
noncomputable def A.b7:=(fun x0=>A.qb A.w7 [x0]) A.lb7_0
def A.k7:=@A.kk 7 77 [.tmp 2] A.b7 (by kernel_rfl) rfl
def Zx1{v:V}{l:List Int}{w:List Nat}(hs:Sl h N v (dI l))(hl:l.length<1000):A.C.call (.func 18 [] []) [v] ⟨h,N,w⟩=some (.int .i64 (Zam l),⟨h,N,w⟩):=by
 apply Call.eq
 have hlen:=hs.len
 rw[Zas]at hlen
 rw[Zae,A.k18 (by simp)]
 simp(disch:=first|(simp;done)|omega|rfl) [-getElem?_pos,A.b18]
 refine Zah [(2,18)] (fun e r st=>st=⟨h,N,[]⟩∧((e=.exit 0∧Zam l=0)∨(e=.ret∧r.get 2=some (.int .i64 (Zam l))))) (fun m r st=>st=⟨h,N,[]⟩∧∃k,k+m=l.length∧r.get 3=some (.int .i64 k)∧Zam l=Zam (l.drop k)) l.length ?_ ?_ ?_
 ·exact⟨rfl,0,by omega,by simp,by simp⟩
 ·rintro m r _ hr hf ⟨rfl,k,hk,h7,hz⟩
  rw[Zai]
  cases m with
  |zero=>
   obtain rfl:k=l.length:=by omega
   rw[Yub,Zam]at hz
   simp(disch:=first|(simp;done)|omega|rfl) [-getElem?_pos,A.lb18_0,hr,hf,h7,hlen,hz]
  |succ m=>
   have hlt:k<l.length:=by omega
   obtain⟨c,hc⟩:=Zag hlt
   obtain⟨i,o,cc,e,rw,q1,q2,q3,q4⟩:=hs.at (Zbf hc)
   rw[Zap hc,Zam]at hz
   have hk1:(k:Int)<(l.length:Int):=by omega
   by_cases h0:c=0
   ·rw[Ys8 h0]at hz
    simp(disch:=first|(simp;done)|omega|rfl) [-getElem?_pos,A.lb18_0,hr,hf,h7,hk1,hlt,hlen,q1,q3,q4,Zad,h0]
    exact⟨m,by omega,k+1,by omega,by simp,hz⟩
   ·rw[Ys5 h0]at hz
    simp(disch:=first|(simp;done)|omega|rfl) [-getElem?_pos,A.lb18_0,hr,hf,h7,hk1,hlt,hlen,q1,q3,q4,Zad,h0,hz]
 ·rintro _ r _ hr ⟨rfl,⟨rfl,hz⟩|⟨rfl,h2⟩⟩
  ·simp(disch:=first|(simp;done)|omega|rfl) [-getElem?_pos,hr,hz]
  ·simp(disch:=first|(simp;done)|omega|rfl) [-getElem?_pos,hr,h2]
def Yf0{i:Nat}{w:List Nat}{a0 a1 a2 a3:Int}(hi:i<N):A.C.call (.func 18 [] []) [.slice i 0 4 (some 4) 1] ⟨h.set i (.cells [.int .i64 a0,.int .i64 a1,.int .i64 a2,.int .i64 a3] 3 true),N,w⟩=some (.int .i64 (Zam [a0,a1,a2,a3]),⟨h.set i (.cells [.int .i64 a0,.int .i64 a1,.int .i64 a2,.int .i64 a3] 3 true),N,w⟩):=
 Zx1 (l:=[a0,a1,a2,a3]) (Sl.row (e:=3) (rw:=true) (cp:=some 4) hi (by simp[dI]) rfl (by simp)) (by simp)
def Zia{c l:List V}{o n j:Nat}(h:slc c o n=some l)(hj:j<n):c[o+j]?=l[j]?:=by
 unfold slc at h
 split at h
 ·obtain rfl:=Ytz h
  rw[List.getElem?_take_of_lt hj,Ytg]
 ·cases h
def Yss{a b c d e:Int}:Zam [a,b,c,d,e]=if Zam [a,b,c,d]=0 then e else Zam [a,b,c,d]:=by
 simp only[Zam]
 by_cases h1:a=0
 ·by_cases h2:b=0
  ·by_cases h3:c=0
   ·by_cases h4:d=0
    ·by_cases h5:e=0<;>simp[h1,h2,h3,h4,h5]
    ·simp[h1,h2,h3,h4]
   ·simp[h1,h2,h3]
  ·simp[h1,h2]
 ·simp[h1]
def Ykr{v:V}{l:List FmR}(hs:Sn 4 h N v (l.map fmC))(hv:∀f∈l,f.val.length≤100000)(hl:l.length<100000):Fn A.C 7 [v] h N (fun u _ _=>u=.int .i64 (Zc2 l)):=by
 intro w
 have hlv:=hs.len
 rw[Ytr]at hlv
 rw[Zae,A.k7 (by simp)]
 by_cases h256:256<l.length
 ·have h256':(256:Int)<(l.length:Int):=by omega
  simp(disch:=first|(simp;done)|omega|rfl) [-getElem?_pos,A.b7,hlv,h256,h256',Ret,Zc2]
  exact Keeps.refl
 ·have h256':¬(256:Int)<(l.length:Int):=by omega
  have hc:Zc2 l=Zam ((List.range l.length).map (frE l)):=Ys5 h256
  rw[hc]
  simp(disch:=first|(simp;done)|omega|rfl) [-getElem?_pos,A.b7,hlv,h256,h256']
  refine Zah [(2,4),(8,76)] (fun e r st=>Zac N st.w=[]∧Keeps h N st.h st.n∧((e=.exit 0∧∀j,j<l.length→frE l j=0)∨(e=.ret∧∃k,k<l.length∧(∀j,j<k→frE l j=0)∧frE l k≠0∧r.get 2=some (.int .i64 (frE l k))))) (fun m r st=>Zac N st.w=[]∧Keeps h N st.h st.n∧∃k,k+m=l.length∧r.get 3=some (.int .i64 k)∧∀j,j<k→frE l j=0) l.length ?_ ?_ ?_
  ·exact⟨by simp,Keeps.refl,0,by omega,by simp,by omega⟩
  ·rintro m r ⟨H,n1,W⟩ hr hf ⟨hW,hK,k,hk,h12,hz⟩
   simp only at hW hK
   rw[Zai]
   have leK:=hK.le
   cases m with
   |zero=>
    obtain rfl:k=l.length:=by omega
    simp(disch:=first|(simp;done)|omega|rfl) [-getElem?_pos,A.lb7_0,hr,hf,h12,hlv,hW,hK]
    exact hz
   |succ m=>
    have hlt:k<l.length:=by omega
    have hlt':(k:Int)<(l.length:Int):=by omega
    obtain⟨f,hfk⟩:=Zag hlt
    have hfl:=hv f (Ys9 hfk)
    have hpl:k-1<l.length:=by omega
    have hpl':((k-1:Nat):Int)<(l.length:Int):=by omega
    obtain⟨p,hpk⟩:=Zag hpl
    obtain⟨i0,o0,c0,e0,rw0,q1,q2,q3,q4⟩:=hs.at (show (l.map fmC)[k]?=some (fmC f) by rw[Ytb,hfk];rfl)
    obtain⟨i1,o1,c1,e1,rw1,p1,p2,p3,p4⟩:=hs.at (show (l.map fmC)[k-1]?=some (fmC p) by rw[Ytb,hpk];rfl)
    rw[q1]at p1
    simp only[Ys3,Ys7]at p1
    obtain⟨rfl,rfl⟩:=p1
    rw[q3]at p3
    simp only[Ys3,O.cells.injEq]at p3
    obtain⟨rfl,rfl,rfl⟩:=p3
    have u0:c0[o0+k*4]?=some (.int .i64 f.n):=Zia (j:=0) q4 (by decide)
    have u1:c0[o0+k*4+1]?=some (.int .i64 f.a):=Zia q4 (by decide)
    have u2:c0[o0+k*4+2]?=some (.int .i64 f.d):=Zia q4 (by decide)
    have u3:c0[o0+k*4+3]?=some (.str f.val):=Zia q4 (by decide)
    have v0:c0[o0+(k-1)*4]?=some (.int .i64 p.n):=Zia (j:=0) p4 (by decide)
    have v1:c0[o0+(k-1)*4+1]?=some (.int .i64 p.a):=Zia p4 (by decide)
    have g0:=(hK.get i0 q2).trans q3
    have gl:i0<n1:=by omega
    simp(disch:=first|(simp;done)|omega|rfl) [-getElem?_pos,A.lb7_0,hr,hf,h12,hlv,hlt,hlt',q1,q2,g0,gl,u0,u1,u2,u3,Zks]
    refine Zaf (Zm4 hfl) ?_
    rintro _ H4 n4 k4 rfl
    have le4:=k4.le
    have g4:=(k4.get i0 gl).trans g0
    have gl4:i0<n4:=by omega
    have gl5:¬i0=n4:=by omega
    have gl6:i0<n4+1:=by omega
    have kX:∀c,Keeps h N (H4.set n4 (.cells c 3 true)) (n4+1):=fun c=>((hK.trans k4).new _)
    have hgd:(l[k-1]?).getD f=p:=by rw[hpk];rfl
    have efr:frE l k=Zam [wz f.n 1 999999999,wz f.a 0 100000000,wz f.d 0 100000000,((chkNum f.val:Nat):Int),Zs5 l k f]:=by
     unfold frE
     rw[hfk]
    rw[Yss]at efr
    have eor:Zs5 l k f=if 0<k∧(f.n≤p.n∨f.a<p.a) then 11 else 0:=by
     unfold Zs5
     rw[hgd]
    have w3:¬n4<N:=by omega
    have hz2:frE l k=0→∀j,j<k+1→frE l j=0:=fun h0 j hj=>by
     by_cases e:j=k
     ·subst e;exact h0
     ·exact hz j (by omega)
    have pf:=fun w=>Yf0 (h:=H4) (N:=n4+1) (i:=n4) (w:=w) (a0:=wz f.n 1 999999999) (a1:=wz f.a 0 100000000) (a2:=wz f.d 0 100000000) (a3:=((chkNum f.val:Nat):Int)) (by omega)
    generalize hE:Zam [wz f.n 1 999999999,wz f.a 0 100000000,wz f.d 0 100000000,((chkNum f.val:Nat):Int)]=E at*
    unfold wz at pf
    by_cases hE0:E=0
    ·rw[Ys8 hE0]at efr
     by_cases k0:0<k
     ·have k0':(0:Int)<(k:Int):=by omega
      have hk1:(k:Int)-1=((k-1:Nat):Int):=by omega
      by_cases c1:f.n≤p.n
      ·have ho:frE l k=11:=by rw[efr,eor,Ys8 ⟨k0,.inl c1⟩]
       simp(disch:=first|(simp;done)|omega|rfl) [-getElem?_pos,hr,hf,h12,hlv,splice,pf,hE0,Zad,k0,k0',hk1,hlt,hlt',hpl,hpl',q1,g4,gl4,gl5,gl6,u0,u1,v0,v1,c1,hW]
       exact⟨kX _,k,hlt,hz,by rw[ho];decide,ho.symm⟩
      ·by_cases c2:f.a<p.a
       ·have ho:frE l k=11:=by rw[efr,eor,Ys8 ⟨k0,.inr c2⟩]
        simp(disch:=first|(simp;done)|omega|rfl) [-getElem?_pos,hr,hf,h12,hlv,splice,pf,hE0,Zad,k0,k0',hk1,hlt,hlt',hpl,hpl',q1,g4,gl4,gl5,gl6,u0,u1,v0,v1,c1,c2,hW]
        exact⟨kX _,k,hlt,hz,by rw[ho];decide,ho.symm⟩
       ·have ho:frE l k=0:=by rw[efr,eor,Ys5 (by rintro⟨_,h|h⟩<;>omega)]
        simp(disch:=first|(simp;done)|omega|rfl) [-getElem?_pos,hr,hf,h12,hlv,splice,pf,hE0,Zad,k0,k0',hk1,hlt,hlt',hpl,hpl',q1,g4,gl4,gl5,gl6,u0,u1,v0,v1,c1,c2,hW]
        exact⟨m,by omega,kX _,k+1,by omega,by simp,hz2 ho⟩
     ·have k0':¬(0:Int)<(k:Int):=by omega
      have ho:frE l k=0:=by rw[efr,eor,Ys5 (by rintro⟨h,_⟩;omega)]
      simp(disch:=first|(simp;done)|omega|rfl) [-getElem?_pos,hr,hf,h12,hlv,splice,pf,hE0,Zad,k0,k0',hW]
      exact⟨m,by omega,kX _,k+1,by omega,by simp,hz2 ho⟩
    ·rw[Ys5 hE0]at efr
     simp(disch:=first|(simp;done)|omega|rfl) [-getElem?_pos,hr,hf,h12,hlv,splice,pf,hE0,Zad,hW]
     exact⟨kX _,k,hlt,hz,by rw[efr];exact hE0,efr.symm⟩
  ·rintro e r ⟨H,n,W⟩ hr ⟨hW,hK,⟨rfl,hz⟩|⟨rfl,k,hk,hz,h0,h2⟩⟩
   ·simp only at hW hK
    simp(disch:=first|(simp;done)|omega|rfl) [-getElem?_pos,hr,Ret,Zk1 hz]
    exact⟨hW,hK⟩
   ·simp only at hW hK
    simp(disch:=first|(simp;done)|omega|rfl) [-getElem?_pos,hr,h2,Ret,Yjb hk hz h0]
    exact⟨hW,hK⟩
noncomputable def A.w5:=A.q Tryz.f5
noncomputable def A.lb5_0:=A.ql A.w5 0 []
noncomputable def A.b5:=(fun x0=>A.qb A.w5 [x0]) A.lb5_0
def A.k5:=@A.kk 5 25 [.tmp 2] A.b5 (by kernel_rfl) rfl
def shF(f:FmR):Bool:=decide (f.val.length≤20)
def Zlc(l:List FmR):Bool:=decide (l.length≤8∨l.length=257)&&l.all shF
def Yaw{h:T O}{N:Nat}{v:V}{l:List FmR}{w:List Nat}(hs:Sn 4 h N v (l.map fmC))(hl:l.length<9223372036854775808):A.C.call (.func 5 [] []) [v] ⟨h,N,w⟩=some (.bool (Zlc l),⟨h,N,w⟩):=by
 apply Call.eq
 have lg:=hs.len
 rw[Ytr]at lg
 rw[Zae,A.k5 (by simp)]
 by_cases c1:l.length≤8∨l.length=257
 ·have fin:Zlc l=l.all shF:=by simp[Zlc,c1]
  rw[fin]
  have c2:8<(l.length:Int)→(l.length:Int)=257:=by omega
  by_cases c3:8<(l.length:Int)
  ·have c4:=c2 c3
   have c5:8<l.length:=by omega
   have c6:l.length=257:=by omega
   simp(disch:=first|(simp;done)|omega|rfl) [-getElem?_pos,A.b5,lg,c3,c4,c5,c6,Zad]
   refine Zah [(2,3),(12,24)] (fun e r st=>st=⟨h,N,[]⟩∧((e=.exit 0∧l.all shF=true)∨(e=.ret∧l.all shF=false∧r.get 2=some (.bool false)))) (fun m r st=>st=⟨h,N,[]⟩∧∃k,k+m=l.length∧r.get 3=some (.int .i64 k)∧l.all shF=(l.drop k).all shF) l.length ?_ ?_ ?_
   ·exact⟨rfl,0,by omega,by simp,by simp⟩
   ·rintro m r _ hr hf ⟨rfl,k,hk,hx,hz⟩
    rw[Zai]
    cases m with
    |zero=>
     obtain rfl:k=l.length:=by omega
     rw[Yub,List.all_nil]at hz
     simp(disch:=first|(simp;done)|omega|rfl) [-getElem?_pos,A.lb5_0,hr,hf,hx,lg,hz]
    |succ m=>
     have hlt:k<l.length:=by omega
     have hk1:(k:Int)<(l.length:Int):=by omega
     obtain⟨f,hc⟩:=Zag hlt
     rw[Zap hc,List.all_cons]at hz
     obtain⟨i0,o0,c0,e0,rw0,q1,q2,q3,q4⟩:=hs.at (show (l.map fmC)[k]?=some (fmC f) by rw[Ytb,hc];rfl)
     have u3:c0[o0+k*4+3]?=some (.str f.val):=Zia q4 (by decide)
     by_cases c8:20<f.val.length
     ·have c8':(20:Int)<(f.val.length:Int):=by omega
      have e1:shF f=false:=by simp[shF];omega
      rw[e1,Bool.false_and]at hz
      simp(disch:=first|(simp;done)|omega|rfl) [-getElem?_pos,A.lb5_0,hr,hf,hx,lg,hk1,hlt,q1,q2,q3,u3,c8,c8',hz]
     ·have c8':¬(20:Int)<(f.val.length:Int):=by omega
      have e1:shF f=true:=by simp[shF];omega
      rw[e1,Bool.true_and]at hz
      simp(disch:=first|(simp;done)|omega|rfl) [-getElem?_pos,A.lb5_0,hr,hf,hx,lg,hk1,hlt,q1,q2,q3,u3,c8,c8']
      exact⟨m,by omega,k+1,by omega,by simp,hz⟩
   ·rintro _ r _ hr ⟨rfl,⟨rfl,hz⟩|⟨rfl,hz,h2⟩⟩
    ·simp(disch:=first|(simp;done)|omega|rfl) [-getElem?_pos,hr,hz]
    ·simp(disch:=first|(simp;done)|omega|rfl) [-getElem?_pos,hr,h2,hz]
  ·have c5:¬8<l.length:=by omega
   simp(disch:=first|(simp;done)|omega|rfl) [-getElem?_pos,A.b5,lg,c3,c5,Zad]
   refine Zah [(2,3),(12,24)] (fun e r st=>st=⟨h,N,[]⟩∧((e=.exit 0∧l.all shF=true)∨(e=.ret∧l.all shF=false∧r.get 2=some (.bool false)))) (fun m r st=>st=⟨h,N,[]⟩∧∃k,k+m=l.length∧r.get 3=some (.int .i64 k)∧l.all shF=(l.drop k).all shF) l.length ?_ ?_ ?_
   ·exact⟨rfl,0,by omega,by simp,by simp⟩
   ·rintro m r _ hr hf ⟨rfl,k,hk,hx,hz⟩
    rw[Zai]
    cases m with
    |zero=>
     obtain rfl:k=l.length:=by omega
     rw[Yub,List.all_nil]at hz
     simp(disch:=first|(simp;done)|omega|rfl) [-getElem?_pos,A.lb5_0,hr,hf,hx,lg,hz]
    |succ m=>
     have hlt:k<l.length:=by omega
     have hk1:(k:Int)<(l.length:Int):=by omega
     obtain⟨f,hc⟩:=Zag hlt
     rw[Zap hc,List.all_cons]at hz
     obtain⟨i0,o0,c0,e0,rw0,q1,q2,q3,q4⟩:=hs.at (show (l.map fmC)[k]?=some (fmC f) by rw[Ytb,hc];rfl)
     have u3:c0[o0+k*4+3]?=some (.str f.val):=Zia q4 (by decide)
     by_cases c8:20<f.val.length
     ·have c8':(20:Int)<(f.val.length:Int):=by omega
      have e1:shF f=false:=by simp[shF];omega
      rw[e1,Bool.false_and]at hz
      simp(disch:=first|(simp;done)|omega|rfl) [-getElem?_pos,A.lb5_0,hr,hf,hx,lg,hk1,hlt,q1,q2,q3,u3,c8,c8',hz]
     ·have c8':¬(20:Int)<(f.val.length:Int):=by omega
      have e1:shF f=true:=by simp[shF];omega
      rw[e1,Bool.true_and]at hz
      simp(disch:=first|(simp;done)|omega|rfl) [-getElem?_pos,A.lb5_0,hr,hf,hx,lg,hk1,hlt,q1,q2,q3,u3,c8,c8']
      exact⟨m,by omega,k+1,by omega,by simp,hz⟩
   ·rintro _ r _ hr ⟨rfl,⟨rfl,hz⟩|⟨rfl,hz,h2⟩⟩
    ·simp(disch:=first|(simp;done)|omega|rfl) [-getElem?_pos,hr,hz]
    ·simp(disch:=first|(simp;done)|omega|rfl) [-getElem?_pos,hr,h2,hz]
 ·have fin:Zlc l=false:=by simp[Zlc,c1]
  have c3:8<(l.length:Int):=by omega
  have c4:¬(l.length:Int)=257:=by omega
  have c5:8<l.length:=by omega
  have c6:¬l.length=257:=by omega
  simp(disch:=first|(simp;done)|omega|rfl) [-getElem?_pos,A.b5,lg,c3,c4,c5,c6,Zad,fin]
end Go.Mx
