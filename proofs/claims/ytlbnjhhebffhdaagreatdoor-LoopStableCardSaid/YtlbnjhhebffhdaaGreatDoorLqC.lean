/-loop-/
import Derived.Test.YtlbnjhhebffhdaaGreatDoorLpF
set_option linter.all false
set_option maxHeartbeats 8000000
namespace Go.Mx
noncomputable section
open Go Go.Proofs
variable {a b:List Rat} {x:Rat}
set_option maxRecDepth 1000000
def A.w69:=A.q Tryz.f69
def A.zgP:=A.ql A.w69 0 []
def A.b69:=(fun x0=>A.qb A.w69 [x0]) A.zgP
def A.k69:=@A.kk 69 34 [.tmp 4] A.b69 (by kernel_rfl) rfl
def pwR(x:Rat):Nat->Rat
 |0=>1
 |k+1=>pwR x k*x
def Xae(p:List Rat)(x:Rat):List Rat:=(List.range p.length).map fun k=>(p[k]?.getD 0)*pwR x k
def Xbk(a b:List Rat)(t:Nat):List Rat:=a.take t++b.drop t
def Yz1{p:List Rat}:(Xae p x).length=p.length:=by simp[Xae]
def Xag{p:List Rat}{q:Rat}{t:Nat}(h:p[t]?=some q):(Xae p x)[t]?=some (q*pwR x t):=by have ht:=yz h;obtain⟨_,e⟩:=AM.1 h;simp[Xae,ht,e]
def Xdj{t:Nat}(h:a.length=b.length)(ht:t<=b.length):(Xbk a b t).length=b.length:=by simp[Xbk];omega
def Xdk{t:Nat}{q:Rat}(h:a.length=b.length)(hq:b[t]?=some q):(Xbk a b t)[t]?=some q:=by have:=yz hq;unfold Xbk;rw[Ig (by simp;omega),gH,j9,oW (by omega),Nat.sub_self,mY,hq]
def Xdi{t:Nat}{q:Rat}(h:a.length=b.length)(hq:a[t]?=some q):(Xbk a b t).set t q=Xbk a b (t+1):=by have ht:=yz hq;obtain⟨_,e⟩:=AM.1 hq;unfold Xbk;rw[List.set_append_right _ _ (by simp;omega),j9,oW (by omega),Nat.sub_self,HQ,hq,rB];congr 1;rw[IC (by omega:t<b.length)];rfl
def Xd5:Xbk a b 0=b:=by simp[Xbk]
def Xdl(h:a.length=b.length):Xbk a b b.length=a:=by unfold Xbk;rw[xD,AP,jP (by omega)]
def Xa8{x:Rat}{k:Nat}(hx:Qb k x):∀t,Qb (t*k+1) (pwR x t)
 |0=>(Qb.int (z:=1) (k:=1) (by decide) (by decide)).mono (by omega)
 |t+1=>((Xa8 hx t).mul hx).mono (by rw[ku];omega)
def jQ.zhR{h:T O}{N R m B:Nat}{l:List Rat}{c0 c1:List V}{e0 e1:TypeId}{w0 w1:Bool}(s:jQ h N R l m)(g:h.get B=some (.cells c0 e0 w0))(hn:sY c0)(hc:c1.length=c0.length)(hB:¬B=R):jQ (h.set B (.cells c1 e1 w1)) N R l m:=by obtain⟨cs,g1,g2,g3⟩:=s.ex;refine⟨s.lt,cs,by rw[T.al,aA (fun hc=>hB hc.symm)];exact g1,g2,fun j q hq=>?_⟩;obtain⟨c,a,b⟩:=g3 j q hq;exact⟨c,a,b.ay g hn hc⟩
def Ia{c:List V}(h:c.length=4):aK c 0 4=some c:=by unfold aK;rw[h];simp;exact jP (by omega)
def BD{c d:List V}(h:c.length=4)(hd:d.length=4):aj d 0 c=c:=by unfold aj;rw[h];simp[h,hd]
def Xbr{h:T O}{N k j:Nat}{v y:V}{p:List Rat}(hs:Al h N v p)(hx:Fc h N y x)(bp:∀q∈p,Qb j q)(bx:Qb k x)(hl:p.length<=100)(h0:0<p.length)(hj:j<=100000000)(hk:k<=100000):Fn A.C 69 [v,y] h N (fun z h' n'=>Al h' n' z (Xae p x)):=by
 intro w;obtain⟨c,rfl,hc⟩:=hx.c;obtain⟨c1,c2⟩:=hc.len;have lO:∀c:List V,(V.agg c).cells=c:=fun _=>rfl;have lv:=hs.1.len;obtain⟨cs,q1,q2,q3⟩:=hs.1;have k0:ah h N (h.set N (.cells c 102 true)) (N+1):=ah.refl.new _;have k1:ah h N ((h.set N (.cells c 102 true)).set (N+1) (.cells (dr zF p.length) 102 true)) (N+1+1):=k0.new _;have s0:jQ ((h.set N (.cells c 102 true)).set (N+1) (.cells (dr zF p.length) 102 true)) (N+1+1) (N+1) [] (p.length+0):=⟨by omega,[],by rw[T.al,aR rfl];rfl,rfl,fun j q hq=>by simp at hq⟩;obtain⟨X,x1,x2,x3⟩:=s0.dup (xs:=cs) (ws:=p) q2 rfl fun i q hq=>by obtain⟨c',a,b⟩:=q3 i q hq;exact⟨c',a,b.ai k1⟩
 have zhS:=fun w=>Xbn (w:=w) (q1.ai k1);have hcp:=fun w=>Xd8 (w:=w) (i:=N+1) (o:=0) (n:=p.length) (cp:=some p.length) h0 (by omega) (zhS w) x1 (by simp at x2 ⊢;omega);obtain⟨f1,_,_⟩:=jQ.RG q2 q3;have oQ:min cs.length p.length=p.length:=by omega
 have oX:cs.flatten.take (p.length*4)=cs.flatten:=jP (by rw[Zbj f1];omega);simp only[oQ,oX]at hcp;simp only[List.length_nil,Nat.zero_mul,List.nil_append]at x3;have gN:(((h.set N (.cells c 102 true)).set (N+1) (.cells (dr zF p.length) 102 true)).set (N+1) (.cells (aj X 0 cs.flatten) 102 true)).get N=some (.cells c 102 true):=by simp
 have k2:ah h N (((h.set N (.cells c 102 true)).set (N+1) (.cells (dr zF p.length) 102 true)).set (N+1) (.cells (aj X 0 cs.flatten) 102 true)) (N+1+1):=k1.set (by omega);have cc1:(64:Int)*(p.length:Int)<=140737488355328:=by omega
 have cc2:(p.length:Int)<4611686018427387904:=by omega
 have hz:∀n,dr zF n=dr [V.int .i64 0,V.ziA,V.int .i64 0,V.ziA] n:=fun _=>rfl;rw[hz]at hcp x3 gN k2;rw[aZ,A.k69 (by simp)];simp(disch:=first|(simp;done)|omega|rfl) [-getElem?_pos, -V.cells, -V.one,A.b69,lO,c1,c2,lv,cc1,cc2,hcp];generalize ((h.set N (.cells c 102 true)).set (N+1) (.cells (dr [V.int .i64 0,V.ziA,V.int .i64 0,V.ziA] p.length) 102 true)).set (N+1) (.cells (aj X 0 cs.flatten) 102 true)=G at*;refine av (BI (z:=1) (by decide) (by decide)) ?_;rintro _ h3 n3 k3 h1;obtain⟨c3,rfl,hc3⟩:=h1.c;obtain⟨e31,e32⟩:=hc3.len;have KU:=k3.le;have e4:=BD (d:=zF) e31 rfl;unfold zF at e4;have kB:ah h3 n3 ((h3.set n3 (.cells [.int .i64 0,.ziA,.int .i64 0,.ziA] 102 true)).set n3 (.cells c3 102 true)) (n3+1):=(ah.refl.new _).set (Yv5 _);have gB:((h3.set n3 (.cells [.int .i64 0,.ziA,.int .i64 0,.ziA] 102 true)).set n3 (.cells c3 102 true)).get n3=some (.cells c3 102 true):=by simp
 simp(disch:=first|(simp;done)|omega|rfl) [-getElem?_pos, -V.cells, -V.one,lO,e31,e32,bM,e4];generalize (h3.set n3 (.cells [.int .i64 0,.ziA,.int .i64 0,.ziA] 102 true)).set n3 (.cells c3 102 true)=H4 at*;refine Zal [(7,7),(17,32)] (fun e r st=>e=.exit 0/\aL N st.w=[]/\ah h N st.h st.n/\jQ st.h st.n (N+1) (Xae p x) 0) (fun m r st=>aL N st.w=[]/\ah h N st.h st.n/\n3<st.n/\st.h.get N=some (.cells c 102 true)/\fz st.h st.n c x/\∃t,t+m=p.length/\r.get 17=some (.int .i64 t)/\∃cf,st.h.get n3=some (.cells cf 102 true)/\fz st.h st.n cf (pwR x t)/\jQ st.h st.n (N+1) (Xbk (Xae p x) p t) 0) p.length ?_ ?_ ?_
 ·exact⟨by simp;omega,(k2.trans k3).trans kB,by show n3<n3+1;omega,(kB.get N (by omega)).trans ((k3.get N (by omega)).trans gN),((hc.ai k2).ai k3).ai kB,0,by omega,by simp,c3,gB,hc3.ai kB,by rw[Xd5];exact(x3.ai k3).ai kB⟩
 ·rintro m r ⟨H,n1,W⟩ hr hf ⟨hW,hK,hB,g0,hcx,t,ht,Un,cf,gF,hcf,hQ⟩;simp only at hW hK hB g0 hcx gF hcf hQ;rw[cn];cases m with
  |zero=>
   obtain rfl:t=p.length:=by omega
   rw[Xdl Yz1]at hQ;simp(disch:=first|(simp;done)|omega|rfl) [-getElem?_pos,A.zgP,hr,hf,Un,hW,hK];exact hQ
  |succ m=>
   have aW:t<p.length:=by omega
   have zij:(t:Int)<(p.length:Int):=by omega
   obtain⟨q,hq⟩:=eQ aW;obtain⟨cs0,y1,_,_⟩:=hQ.ex;obtain⟨ct,s1,fct⟩:=hQ.at (Xdk Yz1 hq) y1;obtain⟨z1,z2⟩:=fct.len;obtain⟨f31,f32⟩:=hcf.len;have sf:=Ia f31;have sc:=Ia c1;have lR:=hQ.lt;have wq:=(bp q (eI hq)).eX;have bw:=Xa8 bx t;have wb:=bw.eX;have wx:=bx.eX;have hkt:t*k+1<=100000001:=by have:t*k<=100*100000:=tU (by omega) hk;omega
   generalize cs0.flatten++dr zF 0=X0 at*;simp(disch:=first|(simp;done)|omega|rfl) [-getElem?_pos, -V.cells, -V.one,A.zgP,hr,hf,Un,aW,zij,y1,s1,gF,hB,lR,aI,sf];refine av (KZ fct.up hcf.up (by omega) (by omega) (by omega) (by omega)) ?_;rintro _ h5 n5 k5 hm5;obtain⟨c5,rfl,hc5⟩:=hm5.c;obtain⟨e51,e52⟩:=hc5.len;have le5:=k5.le;obtain⟨Y,p1,p2,p3⟩:=(hQ.ai k5).put hc5 (j:=t) (by rw[Xdj Yz1 (by omega)];exact aW);rw[Xdi Yz1 (Xag hq)]at p3;have lR5:N+1<n5:=by omega
   have lB5:n3<n5:=by omega
   have lN5:N<n5:=by omega
   have nuY:=jQ.nou (hQ.ai k5) p1;have slY:(aj Y (t*4) c5).length=Y.length:=Jx (by omega);have gF5:=(k5.get n3 hB).trans gF;have g05:=(k5.get N (by omega)).trans g0;have zhT:¬n3=N+1:=by omega
   have zia:¬N=N+1:=by omega
   simp(disch:=first|(simp;done)|omega|rfl) [-getElem?_pos, -V.cells, -V.one,hr,hf,lO,e51,e52,bM,p1,p2,lR5,aW,zij,gF5,g05,lB5,lN5,zhT,aI,sf,sc];have zhU:=(hcf.ai k5).ay (c1:=aj Y (t*4) c5) (e1:=102) (w1:=true) p1 nuY slY;have zhC:=(hcx.ai k5).ay (c1:=aj Y (t*4) c5) (e1:=102) (w1:=true) p1 nuY slY;have gF6:(h5.set (N+1) (.cells (aj Y (t*4) c5) 102 true)).get n3=some (.cells cf 102 true):=by rw[T.al,aA (by omega)];exact gF5
   have g06:(h5.set (N+1) (.cells (aj Y (t*4) c5) 102 true)).get N=some (.cells c 102 true):=by rw[T.al,aA (by omega)];exact g05
   have K6:ah h N (h5.set (N+1) (.cells (aj Y (t*4) c5) 102 true)) n5:=(hK.trans k5).set (by omega);generalize h5.set (N+1) (.cells (aj Y (t*4) c5) 102 true)=H6 at*;refine av (KZ zhU.up zhC.up (by omega) (by omega) (by omega) (by omega)) ?_;rintro _ h7 n7 k7 hm7;obtain⟨c7,rfl,Vr⟩:=hm7.c;obtain⟨e71,e72⟩:=Vr.len;have le7:=k7.le;have gF7:=(k7.get n3 lB5).trans gF6;have g07:=(k7.get N lN5).trans g06;have lB7:n3<n7:=by omega
   have e7:=BD (d:=cf) e71 f31;have l7:4<=cf.length:=by omega
   simp(disch:=first|(simp;done)|omega|rfl) [-getElem?_pos, -V.cells, -V.one,hr,hf,Un,lO,e71,e72,bM,gF7,lB7,e7,l7];have nuF:=hcf.Sk;have s7:c7.length=cf.length:=by omega
   refine⟨m,by omega,?_,(K6.trans k7).set (by omega),by rw[aA (by omega)];exact g07,(zhC.ai k7).ay gF7 nuF s7,t+1,by omega,by simp,Vr.ay gF7 nuF s7,(p3.ai k7).zhR gF7 nuF s7 (by omega)⟩;simp[aL,hW];omega
 rintro _ r ⟨H,n1,W⟩ hr ⟨rfl,hW,hK,hQ⟩;simp only at hW hK hQ;have fin:=hQ.frt;rw[Yz1]at fin;simp(disch:=first|(simp;done)|omega|rfl) [-getElem?_pos,hr,hW,hK,Ret];exact fin
variable {l:List bj}
def A.b62:=A.q Tryz.f62
def A.k62:=@A.kk 62 5 [.tmp 2] A.b62 (by kernel_rfl) rfl
def Zvp{h:T O}{N:Nat}{v:V}{l:List Rat}{k0:Nat}(hs:Sl h N v (tx l))(hl:l.length<1000000000)(hq:∀q∈l,Qb k0 q)(sW:k0<=4000):Fn A.C 125 [v] h N (fun u h' n'=>u=.slice N 0 l.length (some l.length) 4/\jQ h' n' N l 0):=by
 intro w;have hlen:=hs.len;rw[Sb]at hlen;have c1:(64:Int)*(l.length:Int)<=140737488355328:=by omega
 have c2:(l.length:Int)<4611686018427387904:=by omega
 have kB:ah h N (h.set N (.cells (dr zF l.length) 102 true)) (N+1):=ah.refl.new _;rw[aZ,A.k125 (by simp)];simp(disch:=first|(simp;done)|omega|rfl) [-getElem?_pos,A.b125,hlen,c1,c2];refine Zal [(4,5),(11,21)] (fun e r st=>e=.exit 0/\FaI h N l 0 r st) (FaI h N l) l.length ?_ ?_ ?_
 ·exact⟨by simp,kB,0,[],by omega,by simp,by simp,by show N<N+1;omega,by rw[T.al,aR rfl];rfl,rfl,fun j q hj=>by omega⟩
 ·rintro m r ⟨H,n1,W⟩ hr hf ⟨hW,hK,k,cs,hk,jR,h3,tW,hM,dW,sX⟩;simp only at hW hK hM tW sX;rw[cn];cases m with
  |zero=>
   obtain rfl:k=l.length:=by omega
   simp(disch:=first|(simp;done)|omega|rfl) [-getElem?_pos,A.pT,hr,hf,jR];exact⟨hW,hK,l.length,cs,by omega,by simp[jR],by simp[h3],tW,hM,dW,sX⟩
  |succ m=>
   have aW:k<l.length:=by omega
   have zij:(k:Int)<(l.length:Int):=by omega
   obtain⟨q,Ib⟩:=eQ aW;have Ic:=hq q (eI Ib);obtain⟨i,o,cc,e,rw,q1,q2,q3,q4⟩:=(hs.ai hK).at (Ykf Ib);have la:=BE Ic.1;have la2:=Ie Ic.2;simp(disch:=first|(simp;done)|omega|rfl) [-getElem?_pos,A.pT,hr,hf,jR,h3,aW,zij,hlen,q1,q3,q4];refine av (Ye6 (q:=q) (by omega) (by omega)) ?_;rintro _ H2 n2 k2 ik;obtain⟨c,rfl,hc⟩:=ik.c;have oH:=k2.le;have gW:=hK.le;have tX:=(k2.get N tW).trans hM;have zdX:∀(j:Nat) (q:Rat),j<cs.length->l[j]?=some q->∃c,cs[j]?=some c/\fz H2 n2 c q:=fun j q hj hq=>by obtain⟨c,g1,g2⟩:=sX j q (by omega) hq;exact⟨c,g1,g2.ai k2⟩
   obtain⟨f1,f2,f3⟩:=Zvs (l:=l) (by omega) zdX;have oX:=Zbj f1;obtain⟨e1,e2⟩:=hc.len;have hsp:aj (cs.flatten++dr zF (m+1)) (k*4) c=(cs++[c]).flatten++dr zF m:=by rw[KT,Sd (n:=4) (by rw[oX,dW]) rfl e1,Se,rB]
   have hb:k*4+4<=(cs.flatten++dr zF (m+1)).length:=by rw[iJ,oX,Ykc];omega
   have lO:(V.agg c).cells=c:=rfl;have Dc:sY (cs.flatten++dr zF (m+1)):=f2.app Ni;have yC:((cs++[c]).flatten++dr zF m).length=(cs.flatten++dr zF (m+1)).length:=by rw[KT,Se];simp[e1,zF];omega
   generalize cs.flatten++dr zF (m+1)=X at*;obtain⟨Y,hY⟩:∃Y,(cs++[c]).flatten++dr zF m=Y:=⟨_,rfl⟩;rw[hY]at hsp yC;simp(disch:=first|(simp;done)|omega|rfl) [-getElem?_pos, -V.cells, -V.one,hr,hf,jR,h3,aW,zij,tX,bM,lO,e1,e2,hb,hsp];have lP:¬N<N:=by omega
   refine⟨m,by omega,⟨by simp[aL,hW],(hK.trans k2).set (Yv5 N),k+1,cs++[c],by omega,by simp,by simp[h3],by show N<n2;omega,by show T.get _ N=_;rw[T.al,aR rfl,hY],by simp[dW],fun j q' hj Sf=>?_⟩⟩;by_cases Az:j<k
   ·obtain⟨c',g1,g2⟩:=sX j q' Az Sf;exact⟨c',by rw[xJ (by omega)];exact g1,(g2.ai k2).ay tX Dc yC⟩
   obtain rfl:j=k:=by omega
   rw[Ib]at Sf;simp only[au]at Sf;subst Sf;exact⟨c,by rw[Ig (by omega),dW];simp,hc.ay tX Dc yC⟩
 rintro _ r ⟨H,n1,W⟩ hr ⟨rfl,hW,hK,k,cs,hk,jR,h3,tW,hM,dW,sX⟩;simp only at hW hK hM tW sX;obtain rfl:k=l.length:=by omega
 simp(disch:=first|(simp;done)|omega|rfl) [-getElem?_pos,hr,h3,Ret,hW,hK];have hz:dr zF 0=[]:=by simp[dr]
 obtain⟨f1,_,_⟩:=Zvs (l:=l) (by omega) (fun j q hj hq=>sX j q (by omega) hq);have oX:=Zbj f1;exact⟨tW,cs,hM,dW,fun j q hq=>sX j q (yz hq) hq⟩
def Yhs{h:T O}{N:Nat}{v:V}{l:List Rat}{k0:Nat}(hs:Sl h N v (tx l))(hl:l.length<1000000000)(hq:∀q∈l,Qb k0 q)(sW:k0<=4000):Fn A.C 62 [v] h N (fun u h' n'=>u=.slice N 0 l.length (some l.length) 4/\jQ h' n' N l 0):=by intro w;rw[aZ,A.k62 (by simp)];simp(disch:=first|(simp;done)|omega|rfl) [-getElem?_pos,A.b62];refine av (Zvp hs hl hq sW) ?_;rintro _ h1 n1 k1 ⟨rfl,hu⟩;simp(disch:=first|(simp;done)|omega|rfl) [-getElem?_pos,Ret];exact⟨k1,hu⟩
def ziB(l:List bj):List Rat:=l.map aY
def Ymk(h:gV l=0):strs l=tx (ziB l):=by
 unfold tx ziB;congr 1;rw[List.map_map];conv=>lhs;rw[<-List.map_id l]
 apply Nj;intro s hs;exact((kr (Nh h s hs)).1).symm
def Yht{l:List bj}:(ziB l).length=l.length:=by simp[ziB]
def Yti(h:ks l=0):0<l.length/\l.length<=13/\gV l=0/\pg (ziB l) (l.length-1)≠0:=by
 unfold ks at h;split at h
 ·omega
 rename_i h0;split at h
 ·omega
 rename_i h1;split at h
 ·rename_i ha;split at h
  ·omega
  rename_i hz;refine⟨by omega,by omega,ha,fun hc=>hz ?_⟩;obtain⟨s,hs⟩:=eQ (l:=l) (k:=l.length-1) (by omega);have e:pg (ziB l) (l.length-1)=aY s:=by simp[pg,ziB,hs]
  rw[e]at hc;rw[hs,<-(kr (Nh ha s (eI hs))).1,hc,xI]
 omega
def A.w86:=A.q Tryz.f86
def A.zgQ:=A.ql A.w86 0 []
def A.b86:=(fun x0=>A.qb A.w86 [x0]) A.zgQ
def A.k86:=@A.kk 86 27 [.tmp 4] A.b86 (by kernel_rfl) rfl
def Ytr(p:List Rat)(x:Rat):Nat->Rat
 |0=>0
 |k+1=>Ytr p x k*x+pg p (p.length-1-k)
def Ytf(p:List Rat)(x:Rat):Rat:=Ytr p x p.length
def Xbt{h:T O}{N:Nat}{u:V}{p:List Rat}{x:Rat}{ja jk:Nat}(hu:Tx h N u p)(qa:∀y∈p,Qb ja y)(qx:Qb jk x)(a1:p.length<=13)(hA:ja<=100000)(hKK:jk<=100000):Fn A.C 86 [u,.str (Zao x)] h N (fun y h' n'=>TxT h' n' y (Xae p x)):=by
 intro w;have lu:=hu.len;try rw[Sb]at lu
 rw[aZ,A.k86 (by simp)];simp(disch:=first|(simp;done)|omega|rfl) [-getElem?_pos,A.b86];refine Zal [(5,25)] (fun e r st=>e=.exit 0/\aL N st.w=[]/\ah h N st.h st.n/\∃y,r.get 5=some y/\TxT st.h st.n y (Xae p x)) (fun m r st=>aL N st.w=[]/\ah h N st.h st.n/\∃t,t+m=p.length/\r.get 7=some (.int .i64 t)/\r.get 6=some (.str (Zao (pwR x t)))/\∃y,r.get 5=some y/\Own 1 30 N st.h st.n y ((tx ((Xae p x).take t)).map fun y=>[y])) p.length ?_ ?_ ?_
 ·exact⟨by simp,ah.refl,0,by omega,by simp,by simp[pwR,Yts],.ziA,by simp,by simpa[tx,strs]using Own.nil⟩
 ·rintro m r ⟨H,n6,W⟩ hr hf ⟨hW,hK,t,ht,h7,h6,y,h5,hy⟩;simp only at hW hK hy;rw[cn];cases m with
  |zero=>
   obtain rfl:t=p.length:=by omega
   rw[jP (by rw[Yz1];omega)]at hy;simp(disch:=first|(simp;done)|omega|rfl) [-getElem?_pos,A.zgQ,hr,hf,h7,h6,h5,lu,hW,hK];exact Xa9 hy
  |succ m=>
   have aW:t<p.length:=by omega
   have zij:(t:Int)<(p.length:Int):=by omega
   obtain⟨q,hq⟩:=eQ aW;obtain⟨i,o,cc,e,rw,q1,q2,q3,q4⟩:=(hu.ai hK).at (Ykf hq);have bq:=qa q (eI hq);have bw:=Xa8 qx t;have htk:t*jk<=13*100000:=tU (by omega) hKK;simp(disch:=first|(simp;done)|omega|rfl) [-getElem?_pos,A.zgQ,hr,hf,h7,h6,h5,lu,aW,zij,q1,q2,q3,q4];refine av (SP bq bw (by omega) (by omega)) ?_;rintro _ h3 n3 k3 rfl;have Nx:=hK.le;have KU:=k3.le;obtain⟨v',h',w',f1,f2,f3,_,f5⟩:=Bj (x:=[.str (Zao (q*pwR x t))]) (u:=.slice n3 0 1 (some 1) 1) (bytes:=16) (w:=W) ((hy.ai k3).ai (ah.refl.new (.cells [.str (Zao (q*pwR x t))] 30 true))) (by omega) (by decide) rfl (by simp[oL,St.row,aK]) (by simp[Sb];omega);have e7:((tx ((Xae p x).take t)).map fun y=>[y])++[[.str (Zao (q*pwR x t))]]=(tx ((Xae p x).take (t+1))).map fun y=>[y]:=by rw[HQ,Xag hq];simp[tx,strs]
   rw[e7]at f5;simp(disch:=first|(simp;done)|omega|rfl) [-getElem?_pos,hr,hf,aj,f1,h6];refine av (SP bw qx (by omega) (by omega)) ?_;rintro _ h8 n8 k8 rfl;have ow:aL N w'=[]:=Zqo f2 (by omega) hW;simp(disch:=first|(simp;done)|omega|rfl) [-getElem?_pos,hr,hf,h7];exact⟨m,by omega,ow,((hK.trans (k3.trans (ah.refl.new (.cells [.str (Zao (q*pwR x t))] 30 true)))).then f3).trans k8,t+1,by omega,by simp,rfl,f5.ai k8⟩
 rintro _ r ⟨H,n6,W⟩ hr ⟨rfl,hW,hK,y,h5,hy⟩;simp only at hW hK hy;simp(disch:=first|(simp;done)|omega|rfl) [-getElem?_pos,hr,h5,hW,hK,Ret];exact hy
def Xbs{p:List Rat}{x:Rat}{ja jk:Nat}(hp:∀y∈p,Qb ja y)(hx:Qb jk x):∀y∈Xae p x,Qb (ja+(p.length*jk+1)) y:=fun y hy=>by
 obtain⟨j,hj⟩:=Nd hy
 have hl:=yz hj
 rw[Yz1]at hl
 obtain⟨q,hq⟩:=eQ hl
 rw[Xag hq]at hj
 simp only[au]at hj
 rw[<-hj]
 have:=ot jk (show j<=p.length by omega)
 exact((hp q (eI hq)).mul (Xa8 hx j)).mono (by omega)
open Go
def Xhg(r:T V)(n:Nat)(ps:List Nat)(a b:cC)(d:Nat):Yrr:={st:=.ready,iD:=none,r:=r,n:=n,ps:=ps,assign:=a,body:=b,defs:=d}
def Xgg:Option Ex->Ex
 |none=>.normal
 |some e=>e
def Xgv{C:Cx}{K:List Kf}{Q:Rs->Prop}{g:Src}{ps:List Nat}{a b:cC}{r:T V}{n N:Nat}{h:T O}{w:List Nat}{gv:V}{P:V->St->Prop}(hg:g.ev r=some gv)(hy:gv.LQ=false)(hc:Call C gv [.yield (N+1)] ⟨(h.set N (.defs true)).set (N+1) (.loop (Xhg r n ps a b N)),N+1+1,w⟩ P)(k:∀v st',P v st'->∃R,st'.h.get (N+1)=some (.loop R)/\R.st≠.busy/\Run C K (some (.ex (Xgg R.iD) ⟨r,n,[N]⟩ (st'.write (N+1) (.loop {R with st:=.exhausted})))) Q):Run C K (fx (C.code none (.zim g ps a b) ⟨r,n,[]⟩ ⟨h,N,w⟩)) Q:=by
 obtain⟨v,st',e,p⟩:=hc.ex;obtain⟨R,h1,h2,h3⟩:=k v st' p;have e2:C.code none (.zim g ps a b) ⟨r,n,[]⟩ ⟨h,N,w⟩=some (Xgg R.iD,⟨r,n,[N]⟩,st'.write (N+1) (.loop {R with st:=.exhausted})):=by rw[Cx.dJ];show B6 g ps a b C.call C.code none ⟨r,n,[]⟩ ⟨h,N,w⟩=_;unfold B6;simp only[hg,hy,Zuk,St.alloc];unfold Xhg at e;simp only[gj,if_false,e,h1,h2];unfold Xgg;rfl
 rw[e2];exact h3
def Xgq{C:Cx}{K:List Kf}{Q:Rs->Prop}{rs:List Iw}{st:St}{e:Ex}{r:T V}{n d:Nat}{h1:T O}{n1:Nat}{w1:List Nat}(hd:h1.get d=some (.defs true))(he:∀i,e≠.exit i):Run C (.fin rs st::K) (some (.ex e ⟨r,n,[d]⟩ ⟨h1,n1,w1⟩)) Q↔Run C K (Ytc (h1.set d (.defs false)) n1 (aL st.n (d::w1)++st.w) (gJ r ⟨h1.set d (.defs false),n1,d::w1⟩ rs)) Q:=iW (by
 have:shut ⟨h1,n1,w1⟩ [d]=some ⟨h1.set d (.defs false),n1,d::w1⟩:=by
  unfold shut
  simp only[hd]
  rfl
 cases e with
 |exit i=>exact absurd rfl (he i)
 |normal=>
  simp only[iV,l9,sE,this]
  rcases gJ r _ rs with _|_<;>rfl
 |ret=>
  simp only[iV,l9,sE,this]
  rcases gJ r _ rs with _|_<;>rfl)
def Xgz{C:Cx}{l:Nat}{args:List V}{st:St}{R:Yrr}{r0:T V}{P:V->St->Prop}(hx:C.x (.yield l) args st=none)(hl:st.h.get l=some (.loop R))(hs:R.st=.ready)(hp:I7 R.r R.n R.ps args=some r0)(hc:Code C (some l) R.assign ⟨r0,R.n,[]⟩ st (fun e fr cj=>e=.normal/\cj.h.get l=some (.loop R)/\Code C (some l) R.body fr (cj.write l (.loop {R with st:=.busy})) (fun e2 _ fh=>∃R2,fh.h.get l=some (.loop R2)/\P (.bool (Zev e2).isNone) (fh.write l (.loop {R2 with st:=Oe (Zev e2),iD:=Zev e2}))))):Call C (.yield l) args st P:=by obtain⟨e,fr,cj,e1,rfl,g1,hb⟩:=hc.ex;obtain⟨e2,yc,fh,e3,R2,g2,p⟩:=hb.ex;refine⟨_,_,?_,p⟩;rw[Cx.qI];unfold rZ;rw[hx];show I8 C.code l args st=_;unfold I8;simp only[hl,hp,e1,g1,hs,if_true,e3,g2]
def Xba{N n:Nat}{w:List Nat}(h:aL n w=[])(hN:N<=n):aL N w=[]:=KY fun i hi=>by
 have:=Ykw h i hi
 omega
def Yvu(x:V)(bad:Int)(q:Rat):Prop:=(bad≠0/\x=.aX [.str [],.int .i64 bad])\/(bad=0/\x=if vk q=true then .aX [.str [],.int .i64 4] else .aX [.str (Zao q),.int .i64 0])
def A.b18:=A.q Tryz.f18
def A.c18:A.F 18=some ⟨7,[.tmp 4],A.b18⟩:=by kernel_rfl
def A.k18:=@A.kk 18 _ _ _ A.c18 rfl
def Xcf{b:Bool}{e:Int}{st:St}:A.C.call (.func 18 [] []) [.bool b,.int .i64 e] st=some (.int .i64 (if b=true then e else 0),st):=by apply Call.eq;rw[aZ,A.k18 (by simp)];cases b<;>simp(disch:=first|(simp;done)|omega|rfl) [-getElem?_pos,A.b18]
def Xa6{h:T O}{N i:Nat}{w:List Nat}{a0 a1 a2:Int}(hi:i<N):A.C.call (.func 16 [] []) [.slice i 0 3 (some 3) 1] ⟨h.set i (.cells [.int .i64 a0,.int .i64 a1,.int .i64 a2] 3 true),N,w⟩=some (.int .i64 (cN [a0,a1,a2]),⟨h.set i (.cells [.int .i64 a0,.int .i64 a1,.int .i64 a2] 3 true),N,w⟩):=
 Zy8 (l:=[a0,a1,a2]) (Sl.row (e:=3) (rw:=true) (cp:=some 3) hi (by simp[dI]) rfl (by simp)) (by simp)
def Xb1{m e:V}{bad:Int}{q:Rat}{s:bj}{st:St}(hx:Yvu (.aX [m,e]) bad q)(hs:bad=0->s=Zao q)(hq:bad=0->(Zao q).length<1000000000):A.C.call (.func 23 [] []) [m,e,.int .i64 bad,.str s] st=some (.bool true,st):=by
 rcases hx with⟨c,hx⟩|⟨c,hx⟩
 ·simp only[V.aX.injEq,iA,and_true]at hx;obtain⟨rfl,rfl⟩:=hx;exact Xdh c
 subst c;rw[hs rfl];by_cases cb:vk q=true
 ·rw[aR cb]at hx;simp only[V.aX.injEq,iA,and_true]at hx;obtain⟨rfl,rfl⟩:=hx;exact Xdg (hq rfl) cb
 rw[aA cb]at hx;simp only[V.aX.injEq,iA,and_true]at hx;obtain⟨rfl,rfl⟩:=hx;exact Xck (hq rfl) (by simpa using cb)
def Yvu.two{x:V}{bad:Int}{q:Rat}(s:Yvu x bad q):∃a b,x=.aX [a,b]:=by
 rcases s with⟨_,h⟩|⟨_,h⟩
 ·exact⟨_,_,h⟩
 split at h<;>exact⟨_,_,h⟩
def Db(D B:Nat)(q:Rat):Prop:=∃z:Int,q*(D:Rat)=(z:Rat)/\z.natAbs<=B
def Db.own{k:Nat}{q:Rat}(h:Qb k q):Db q.den (2^k) q:=⟨q.num,by
 have h1:=AA q
 rw[Rat.divInt_eq_div]at h1
 have h2:(((q.den:Nat):Int):Rat)=(q.den:Rat):=rfl
 rw[h2]at h1
 have hD:(q.den:Rat)≠0:=by
  intro hc
  have:((q.den:Nat):Rat)=((0:Nat):Rat):=hc
  rw[Rat.natCast_inj]at this
  have:=q.den_pos
  omega
 grind,by have:=h.1;omega⟩
def A.w81:=A.q Tryz.f81
def A.zgR:=A.ql A.w81 0 []
def A.b81:=(fun x0=>A.qb A.w81 [x0]) A.zgR
def A.k81:=@A.kk 81 22 [.cell 4 (some 4)] A.b81 (by kernel_rfl) rfl
def A.zhD:=A.q Tryz.f215
def A.zgD:=A.ql A.zhD 0 []
def A.b215:=(fun x0=>A.qb A.zhD [x0]) A.zgD
def A.k215:=@A.kk 215 25 [.tmp 4] A.b215 (by kernel_rfl) rfl
def Yrg(l:List bj):Int:=if 64<l.length then 5 else gV l
structure RnH (g l p:bj) (D:Int) (d:List bj):Prop where
 lg:g.length<=40
 ll:l.length<=40
 lp:p.length<=40
 ld:d.length<100000
 fd:∀s∈d,s.length<=64
 q:gT g l p D=0->Qb 40 (aY g)/\Qb 40 (aY l)/\Qb 40 (aY p)
 s:Yrg d=0->d.length<=12
def A.b60:=A.q Tryz.f60
def A.k60:=@A.kk 60 31 [.tmp 4] A.b60 (by kernel_rfl) rfl
def A.w10:=A.q Tryz.f10
def A.tY:=A.ql A.w10 0 []
def A.b10:=(fun x0=>A.qb A.w10 [x0]) A.tY
def A.k10:=@A.kk 10 25 [.tmp 6] A.b10 (by kernel_rfl) rfl
def Nk(q:Rat)(d:Nat):Bool:=decide ((aq q.num.natAbs).length<=d)&&decide ((aq q.den).length<=d)
def pU(s:bj)(d:Nat):Bool:=decide (s.length<=2*d+2)&&(decide (aV s=0)&&Nk (aY s) d)
def wO(l:List bj)(n d:Nat):Bool:=decide (l.length<=n)&&l.all fun s=>pU s d
def Ztz(q:Rat):(aU q.num).length<=(Zao q).length:=by unfold Zao;split<;>simp
def Yfd{h:T O}{N d:Nat}{s:bj}(hd:d<=100):Fn A.C 60 [.str s,.int .i64 (d:Nat)] h N (fun u _ _=>u=.bool (pU s d)):=by
 intro w;rw[aZ,A.k60 (by simp)];by_cases c1:s.length<=2*d+2
 ·have c1':(s.length:Int)<=2*(d:Int)+2:=by omega
  simp(disch:=omega) [A.b60,c1'];refine av (Ycy (s:=s) (by omega)) ?_;rintro _ h1 n1 k1 rfl;by_cases c2:aV s=0
  ·have et:=(kr c2).1;obtain⟨q,hq⟩:∃q,aY s=q:=⟨_,rfl⟩;rw[hq]at et;have hl:(Zao q).length<1000000000:=by rw[et];omega
   have e1:=fun st=>Ymx (q:=q) (st:=st) hl;have e2:=fun st=>Yok (q:=q) (st:=st) hl;rw[et]at e1 e2;have yD:(aU q.num).length<1000000000:=by have:=Ztz q;rw[et]at this;omega
   have e3:=fun st=>Yo5 (z:=q.num) (st:=st) yD;by_cases c3:(aq q.num.natAbs).length<=d
   ·have c3':((aq q.num.natAbs).length:Int)<=(d:Int):=by omega
    by_cases c4:(aq q.den).length<=d
    ·have c4':((aq q.den).length:Int)<=(d:Int):=by omega
     simp[c2,e1,e2,e3,c3',c4',Ret];exact⟨k1,by simp[pU,Nk,c1,c2,hq,c3,c4]⟩
    have c4':¬((aq q.den).length:Int)<=(d:Int):=by omega
    simp[c2,e1,e2,e3,c3',c4',Ret];exact⟨k1,by simp[pU,Nk,c1,c2,hq,c3,c4]⟩
   have c3':¬((aq q.num.natAbs).length:Int)<=(d:Int):=by omega
   simp[c2,e1,e3,c3',Ret];exact⟨k1,by simp[pU,Nk,c1,c2,hq,c3]⟩
  have c2':¬((aV s:Nat):Int)=0:=by omega
  simp[c2,Ret];exact⟨k1,by simp[pU,c2]⟩
 have c1':¬(s.length:Int)<=2*(d:Int)+2:=by omega
 simp(disch:=omega) [A.b60,c1',Ret];exact⟨ah.refl,by simp[pU,c1]⟩
def Yn4{h:T O}{N d n:Nat}{v:V}{l:List bj}(hs:Sl h N v (strs l))(hl:l.length<9223372036854775808)(hd:d<=100)(hn:n<=1000):Fn A.C 10 [v,.int .i64 (n:Nat),.int .i64 (d:Nat)] h N (fun u _ _=>u=.bool (wO l n d)):=by
 intro w;have hlen:=hs.len;rw[HZ]at hlen;rw[aZ,A.k10 (by simp)];by_cases c0:l.length<=n
 ·have c0':¬(n:Int)<(l.length:Int):=by omega
  have e0:wO l n d=l.all fun s=>pU s d:=by simp[wO,c0]
  rw[e0];simp[A.b10,hlen,c0'];refine Zal [(6,7),(12,24)] (fun e r st=>aL N st.w=[]/\ah h N st.h st.n/\((e=.exit 0/\(l.all fun s=>pU s d)=true)\/(e=.ret/\(l.all fun s=>pU s d)=false/\r.get 6=some (.bool false)))) (fun m r st=>aL N st.w=[]/\ah h N st.h st.n/\∃k,k+m=l.length/\r.get 7=some (.int .i64 k)/\(l.all fun s=>pU s d)=((l.drop k).all fun s=>pU s d)) l.length ?_ ?_ ?_
  ·exact⟨by simp,ah.refl,0,by omega,by simp,by simp⟩
  ·rintro m r ⟨H,n1,W⟩ hr hf ⟨hW,hK,k,hk,h7,hz⟩;simp only at hW hK;rw[cn];cases m with
   |zero=>
    obtain rfl:k=l.length:=by omega
    rw[xD,List.all_nil]at hz;simp[A.tY,hr,hf,h7,hlen,hW,hK];simpa using hz
   |succ m=>
    have aW:k<l.length:=by omega
    have zij:(k:Int)<(l.length:Int):=by omega
    obtain⟨s,hsk⟩:=eQ aW;obtain⟨i,o,cc,e,rw,q1,q2,q3,q4⟩:=(hs.ai hK).at (KR hsk);rw[rV hsk,List.all_cons]at hz;simp[A.tY,hr,h7,hlen,zij,q1,q3,q4];refine av (Yfd (s:=s) hd) ?_;rintro _ h3 n3 k3 rfl;have kk:=hK.trans k3;cases xK:pU s d with
    |true=> rw[xK,Bool.true_and]at hz;simp(disch:=first|(simp;done)|omega|rfl) [hf,h7,hW];exact⟨m,by omega,kk,k+1,by omega,by simp,by simpa using hz⟩
    |false=> rw[xK,Bool.false_and]at hz;simp[hf,hW];exact⟨kk,by simpa using hz⟩
  rintro e r ⟨H,n1,W⟩ hr ⟨hW,hK,⟨rfl,hz⟩|⟨rfl,hz,h6⟩⟩
  ·simp only at hW hK;simp[Ret,hW,hK];simpa using hz
  simp only at hW hK;simp[h6,Ret,hW,hK];simpa using hz
 have c0':(n:Int)<(l.length:Int):=by omega
 simp[A.b10,hlen,c0',Ret];exact⟨ah.refl,by simp[wO,c0]⟩
variable {a b:Rat}
def Sg:0<sg3 (a.num*(b.den:Nat)-b.num*(a.den:Nat))↔b<a:=by
 rw[Rat.lt_iff];unfold sg3;split
 ·constructor<;>intro h<;>omega
 split<;>constructor<;>intro h<;>omega
def KV{a b:Rat}:sg3 (a-b).num<0↔a<b:=by rw[wL];constructor<;>intro h<;>grind
def Ycb:0<sg3 (a-b).num↔b<a:=by
 have e:b<a↔0<a-b:=by constructor<;>intro h<;>grind
 have e2:0<a-b↔0<(a-b).num:=by rw[Rat.lt_iff];simp
 rw[e,e2];unfold sg3;split
 ·constructor<;>intro h<;>omega
 split<;>constructor<;>intro h<;>omega
def Bc(h:T O)(N:Nat)(x:V)(a b:Rat):Prop:=∃n1 u1 n2 u2 n3 u3 n4 u4,x=.agg [.int .i64 n1,u1,.int .i64 n2,u2,.int .i64 n3,u3,.int .i64 n4,u4]/\In h N (.agg [.int .i64 n1,u1]) a.num/\In h N (.agg [.int .i64 n2,u2]) (a.den:Nat)/\In h N (.agg [.int .i64 n3,u3]) b.num/\In h N (.agg [.int .i64 n4,u4]) (b.den:Nat)
def sZ:sY [V.int .i64 0,.ziA,.int .i64 0,.ziA,.int .i64 0,.ziA,.int .i64 0,.ziA]:=by intro x hx m;simp at hx;rcases hx with rfl|rfl|rfl|rfl|rfl|rfl|rfl|rfl<;>simp
def mV.Np{h:T O}{N i:Nat}{e:TypeId}{rw:Bool}{a1 a2 a3 a4:Int}{x1 x2 x3 x4:V}{p q:Rat}(hi:i<N)(g:h.get i=some (.cells [.int .i64 a1,x1,.int .i64 a2,x2,.int .i64 a3,x3,.int .i64 a4,x4] e rw))(f1:fz h N [.int .i64 a1,x1,.int .i64 a2,x2] p)(f2:fz h N [.int .i64 a3,x3,.int .i64 a4,x4] q):mV h N (.slice i 0 2 (some 2) 4) [p,q]:=by
 refine⟨[[.int .i64 a1,x1,.int .i64 a2,x2],[.int .i64 a3,x3,.int .i64 a4,x4]],.inr ⟨i,0,some 2,_,e,rw,rfl,hi,g,fun j x hj=>?_,by simp,by simp⟩,rfl,fun j y hj=>?_⟩
 ·rcases j with _|_|j
  ·simp at hj;subst hj;simp[aK]
  ·simp at hj;subst hj;simp[aK]
  simp at hj
 rcases j with _|_|j
 ·simp at hj;subst hj;exact⟨_,rfl,f1⟩
 ·simp at hj;subst hj;exact⟨_,rfl,f2⟩
 simp at hj
def yH{q:Rat}{k:Nat}(h:Qb k q):Qb k (zgb q):=by
 unfold zgb;split
 ·exact h.neg
 exact h
def A.b46:=A.q Tryz.f46
def A.k46:=@A.kk 46 11 [.tmp 4] A.b46 (by kernel_rfl) rfl
def Xci{h:T O}{N K:Nat}{a b:Rat}(qa:Qb K a)(qb:Qb K b)(hK:K<=100000000):Fn A.C 46 [.str (Zao a),.str (Zao b)] h N (fun v _ _=>v=.str (Zao (if a<b then b else a))):=by
 intro w;have tb:=SN qb;rw[aZ,A.k46 (by simp)];simp(disch:=first|(simp;done)|omega|rfl) [-getElem?_pos,A.b46];refine av (KX qa qb (by omega) (by omega) (by omega)) ?_;rintro _ h1 n1 k1 rfl;by_cases c:a<b
 ·have s1:¬0<=sg3 (a-b).num:=by have:=KV.2 c;omega
  simp(disch:=first|(simp;done)|omega|rfl) [-getElem?_pos,s1,c,Ret];exact k1
 have s1:0<=sg3 (a-b).num:=by have:=mt KV.1 c;omega
 simp(disch:=first|(simp;done)|omega|rfl) [-getElem?_pos,s1,c,Ret];exact k1
variable {b:Rat}
def Zb2{q:Rat}:0<=zgb q:=by unfold zgb;split<;>grind
def Nw{q:Rat}:q<=zgb q/\ -q<=zgb q:=by unfold zgb;split<;>constructor<;>grind
def Zwd{q:Rat}(h1: -b<=q)(h2:q<=b):zgb q<=b:=by unfold zgb;split<;>grind
def BJ{a:Rat}:zgb (a*b)=zgb a*zgb b:=by
 unfold zgb;by_cases ha:a<0
 ·by_cases hb:b<0
  ·have h:=Rat.mul_pos (show (0:Rat)< -a by grind) (show (0:Rat)< -b by grind);rw[aR ha,aR hb,aA (by grind)];grind
  have h:=Rat.mul_nonneg (show (0:Rat)<= -a by grind) (show (0:Rat)<=b by grind);rw[aR ha,aA hb];split<;>grind
 by_cases hb:b<0
 ·have h:=Rat.mul_nonneg (show (0:Rat)<=a by grind) (show (0:Rat)<= -b by grind);rw[aA ha,aR hb];split<;>grind
 have h:=Rat.mul_nonneg (show (0:Rat)<=a by grind) (show (0:Rat)<=b by grind);rw[aA ha,aA hb,aA (by grind)]
def Zrh{a b:Rat}:zgb (a+b)<=zgb a+zgb b:=by have h1:=@Nw a;have h2:=@Nw b;exact Zwd (by grind) (by grind)
def iK{x y d:Rat}(hd:0<=d)(h:x<=y):x*d<=y*d:=by have:=Rat.mul_nonneg (show (0:Rat)<=y-x by grind) hd;grind
def rG(h:T O)(N:Nat)(c:List V)(x:Rat×Rat):Prop:=Bc h N (.agg c) x.1 x.2
structure rE (N0:Nat) (h:T O) (N:Nat) (v:V) (f:Nat->Rat×Rat) (t:Nat) (out:List (List V)):Prop where
 own:Own 8 142 N0 h N v out
 len:out.length=t
 nil:out=[]->v=.ziA
 nw:∀c∈out,∀y∈c,NW y
 bc:∀j,j<t->∃c,out[j]?=some c/\rG h N c (f j)
def Dl(E:Int)(b:Bool):V:=if E≠0 then .aX [.bool false,.int .i64 E] else .aX [.bool b,.int .i64 0]
def A.b11:=A.q Tryz.f11
def A.k11:=@A.kk 11 13 [.tmp 2,.tmp 3] A.b11 (by kernel_rfl) rfl
def Zza{h:T O}{N k:Nat}{u:V}{a:List bj}(hu:Sl h N u (strs a))(la:a.length<100000)(fa:∀s∈a,s.length<=20000)(hk:1<=k)(hk1:k<=4000)(hq:ks a=0->(∀q∈ziB a,Qb k q)/\k*5^(a.length-1)<=400000000):Fn A.C 11 [u] h N (fun x _ _=>x=Dl (ks a) (mW a.length (ziB a))):=by
 intro w;rw[aZ,A.k11 (by simp)];simp(disch:=first|(simp;done)|omega|rfl) [-getElem?_pos,A.b11];refine av (Yqd hu la fun s hs=>by have:=fa s hs;omega) ?_;rintro _ h1 n1 k1 rfl;by_cases c:ks a=0
 ·obtain⟨a0,a1,a2,a3⟩:=Yti c;obtain⟨q1,q2⟩:=hq c;have ta:=Ymk a2;have lra:=@Yht a;have Il:Sl h1 n1 u (tx (ziB a)):=by rw[<-ta];exact hu.ai k1
  rw[c];rw[<-lra]at a0 a1 a3 q2 ⊢;generalize ziB a=p at*;simp(disch:=first|(simp;done)|omega|rfl) [-getElem?_pos,a_];refine av (Yhs Il (by omega) q1 hk1) ?_;rintro _ h2 n2 k2 ⟨rfl,rq⟩;simp(disch:=first|(simp;done)|omega|rfl) [-getElem?_pos,];refine av (Zrw (k:=k) rq.frt (by omega) (by omega) a3 q1 hk q2) ?_;rintro _ h3 n3 k3 rfl;simp(disch:=first|(simp;done)|omega|rfl) [-getElem?_pos,Ret,Dl];exact(k1.trans k2).trans k3
 simp(disch:=first|(simp;done)|omega|rfl) [-getElem?_pos,c,a_,Dl,Ret];exact k1
variable {a:Nat}
def A.b67:=A.q Tryz.f67
def A.k67:=@A.kk 67 14 [.cell 4 (some 4)] A.b67 (by kernel_rfl) rfl
def uf:((a:Nat):Rat).num=(a:Int)/\((a:Nat):Rat).den=1:=⟨Rat.num_natCast _,Rat.den_natCast _⟩
def BM{k:Nat}(h:a<2^k)(hk:1<=k):Qb k ((a:Nat):Rat):=⟨by rw[uf.1];simpa using h,by
 rw[uf.2]
 have:=Ywo (show 0<2 by decide) hk
 omega⟩
def Yn2{h:T O}{N k:Nat}{x:V}(hx:Fc h N x ((a:Nat):Rat))(ha:1<=a)(hk:k<1000)(la:wl a<1000)(hM:wl ((a^k:Nat):Int)<1000):Fn A.C 67 [x,.int .i64 k] h N (fun v h' n'=>Fc h' n' v ((a^k:Nat):Rat)):=by
 intro w;obtain⟨n1,u1,n2,u2,rfl,s1,s2⟩:=hx;rw[uf.1]at s1;rw[uf.2]at s2;have o1:=Zaj s1;have o2:=Zaj s2;unfold V.one at o1 o2;have kB:ah h N ((h.set N (.cells [.int .i64 n1,u1,.int .i64 n2,u2] 102 true)).set (N+1) (.cells [.int .i64 0,.ziA,.int .i64 0,.ziA] 102 true)) (N+1+1):=(ah.refl.new _).new _;have b0:((h.set N (.cells [.int .i64 n1,u1,.int .i64 n2,u2] 102 true)).set (N+1) (.cells [.int .i64 0,.ziA,.int .i64 0,.ziA] 102 true)).get N=some (.cells [.int .i64 n1,u1,.int .i64 n2,u2] 102 true):=by simp
 have b1:((h.set N (.cells [.int .i64 n1,u1,.int .i64 n2,u2] 102 true)).set (N+1) (.cells [.int .i64 0,.ziA,.int .i64 0,.ziA] 102 true)).get (N+1)=some (.cells [.int .i64 0,.ziA,.int .i64 0,.ziA] 102 true):=by simp
 have l2:wl (((1:Nat):Int))<10000000000:=by have:=(BM (a:=1) (k:=2) (by decide) (by decide)).eX.1;rw[uf.1]at this;omega
 have l1:wl (((1:Nat)^k:Nat):Int)<10000000000:=by rw[Nat.one_pow];exact l2
 generalize hM':a^k=M at*;rw[aZ,A.k67 (by simp)];simp(disch:=first|(simp;done)|omega|rfl) [-getElem?_pos,A.b67,o1,o2,aI,aK];generalize (h.set N (.cells [.int .i64 n1,u1,.int .i64 n2,u2] 102 true)).set (N+1) (.cells [.int .i64 0,.ziA,.int .i64 0,.ziA] 102 true)=HB at*;refine av (Yc1 (k:=k) (s1.ai kB) ha (by omega) (by omega) (by rw[hM'];omega)) ?_;rintro v1 h1 m1 k1 t1;rw[hM']at t1;obtain⟨a1,x1,rfl,q1⟩:=t1.cells;have b01:=(k1.get N (by omega)).trans b0;have b11:=(k1.get (N+1) (by omega)).trans b1;have xF:=k1.le;have e0:N<m1:=by omega
 have e1:N+1<m1:=by omega
 simp(disch:=first|(simp;done)|omega|rfl) [-getElem?_pos,b01,e0,aI,aK];refine av (Yc1 (a:=1) (k:=k) ((s2.ai kB).ai k1) (by decide) (by omega) l2 l1) ?_;rintro v2 h2 m2 k2 t2;obtain⟨a2,x2,rfl,q2⟩:=t2.cells;have b12:=(k2.get (N+1) e1).trans b11;have oH:=k2.le;have e2:N+1<m2:=by omega
 unfold V.one at q1 q2;rw[Nat.one_pow]at t2;simp(disch:=first|(simp;done)|omega|rfl) [-getElem?_pos,b12,e2,q1,q2,aI,aK,aj,bM,b_.chk,Ret];refine⟨((kB.trans k1).trans k2).set (by omega),a1,x1,a2,x2,rfl,?_,?_⟩
 ·rw[uf.1];exact(t1.ai k2).ay b12 nu0 rfl
 rw[uf.2];exact t2.ay b12 nu0 rfl
def Ybt{dec:Nat}(h:dec<=3):10^dec<=1000/\1<=10^dec:=⟨p9 (Ywo (by omega) h) (by decide),vu (by decide)⟩
end
end Go.Mx
