/-lensletref01-/
import Derived.Test.YtnkdakmfipgidaaGreatDoorMxDec
set_option linter.all false
namespace Go.Mx
noncomputable section
open Go Go.Proofs
variable {s:aD}
set_option maxRecDepth 1000000
def A.w79:=A.q Tryz.f79
def A.tm:=A.ql A.w79 0 []
def A.b79:=(fun x0=>A.qb A.w79 [x0]) A.tm
def A.k79:=@A.kk 79 17 [.tmp 2] A.b79 (by kernel_rfl) rfl
def A.QX:=A.q Tryz.f153
def A.lJ:=A.ql A.QX 0 []
def A.b153:=(fun x0=>A.qb A.QX [x0]) A.lJ
def A.k153:=@A.kk 153 20 [.tmp 2] A.b153 (by kernel_rfl) rfl
def A.b80:=A.q Tryz.f80
def A.k80:=@A.kk 80 18 [.tmp 2] A.b80 (by kernel_rfl) rfl
def A.QY:=A.q Tryz.f139
def A.tn:=A.ql A.QY 0 []
def A.b139:=(fun x0=>A.qb A.QY [x0]) A.tn
def A.k139:=@A.kk 139 20 [.tmp 2] A.b139 (by kernel_rfl) rfl
def Hq{st:St}(hl:s.length<9223372036854775808):A.C.call (.func 79 [] []) [.str s] st=some (.int .i64 (ah s:Nat),st):=by
 apply Call.eq;rw[aN,A.k79 (by simp)];simp(disch:=first|(simp;done)|omega|rfl) [-getElem?_pos,A.b79];refine cm [(2,14)] (fun e r s1=>s1=⟨st.h,st.n,[]⟩/\((e=.exit 0/\ah s=s.length)\/(e=.ret/\r.get 2=some (.int .i64 (ah s:Nat))))) (fun m r s1=>s1=⟨st.h,st.n,[]⟩/\∃k,k+m=s.length/\r.get 3=some (.int .i64 k)/\ah s=k+ah (s.drop k)) s.length ?_ ?_ ?_
 ·exact⟨rfl,0,by omega,by simp,by simp⟩
 ·rintro m r _ hr hf ⟨rfl,k,hk,h3,hz⟩;rw[bu];cases m with
  |zero=>
   have:k=s.length:=by omega
   subst this;rw[pw,ah]at hz;simp(disch:=first|(simp;done)|omega|rfl) [-getElem?_pos,A.tm,hr,hf,h3];omega
  |succ m=>
   obtain⟨c,hc⟩:=bj (l:=s) (k:=k) (by omega);have cI:(k:Int)<(s.length:Int):=by omega
   have kc:k<s.length:=by omega
   rw[jN hc,ah]at hz;by_cases h47:cW c=47
   ·rw[ar (by unfold cW at h47;omega)]at hz;simp(disch:=first|(simp;done)|omega|rfl) [-getElem?_pos,A.tm,hr,hf,h3,cI,hc,h47];rw[hz];simp
   rw[ak (by unfold cW at h47;omega)]at hz;simp(disch:=first|(simp;done)|omega|rfl) [-getElem?_pos,A.tm,hr,hf,h3,cI,hc,h47];exact⟨m,by omega,k+1,by omega,by simp,by omega⟩
 rintro e r _ hr ⟨rfl,⟨rfl,hz⟩|⟨rfl,h2⟩⟩
 ·simp(disch:=first|(simp;done)|omega|rfl) [-getElem?_pos,hr,hz]
 simp(disch:=first|(simp;done)|omega|rfl) [-getElem?_pos,h2]
def Yhz{st:St}(hl:s.length<9223372036854775808):A.C.call (.func 153 [] []) [.str s] st=some (.bool (cK s),st):=by
 apply Call.eq;rw[aN,A.k153 (by simp)];simp(disch:=first|(simp;done)|omega|rfl) [-getElem?_pos,A.b153];refine cm [(2,19)] (fun e r s1=>s1=⟨st.h,st.n,[]⟩/\((e=.exit 0/\cK s=true)\/(e=.ret/\cK s=false/\r.get 2=some (.bool false)))) (fun m r s1=>s1=⟨st.h,st.n,[]⟩/\∃k,k+m=s.length/\r.get 3=some (.int .i64 k)/\cK s=cK (s.drop k)) s.length ?_ ?_ ?_
 ·exact⟨rfl,0,by omega,by simp,by simp⟩
 ·rintro m r _ hr hf ⟨rfl,k,hk,h3,hz⟩;rw[bu];cases m with
  |zero=>
   have:k=s.length:=by omega
   subst this;rw[pw]at hz;have hz:cK s=true:=hz;simp(disch:=first|(simp;done)|omega|rfl) [A.lJ,hr,hf,h3,hz]
  |succ m=>
   obtain⟨c,hc⟩:=bj (l:=s) (k:=k) (by omega);have cI:(k:Int)<(s.length:Int):=by omega
   have kc:k<s.length:=by omega
   have eW:cK s=(my c&&cK (s.drop (k+1))):=by rw[hz,jN hc];rfl
   rw[Yh1]at eW;by_cases h1:cW c<48
   ·have:¬(48<=cW c/\cW c<=57):=by omega
    rw[decide_eq_false this,Eu]at eW;simp(disch:=first|(simp;done)|omega|rfl) [-getElem?_pos,A.lJ,hr,hf,h3,cI,hc,h1,eW]
   by_cases h2:57<cW c
   ·have:¬(48<=cW c/\cW c<=57):=by omega
    rw[decide_eq_false this,Eu]at eW;simp(disch:=first|(simp;done)|omega|rfl) [-getElem?_pos,A.lJ,hr,hf,h3,cI,hc,h1,h2,eW]
   have:(48<=cW c/\cW c<=57):=by omega
   rw[decide_eq_true this,Bool.true_and]at eW;simp(disch:=first|(simp;done)|omega|rfl) [-getElem?_pos,A.lJ,hr,hf,h3,cI,hc,h1,h2];exact⟨m,by omega,k+1,by omega,by simp,eW⟩
 rintro e r _ hr ⟨rfl,⟨rfl,hz⟩|⟨rfl,hz,h2⟩⟩
 ·simp(disch:=first|(simp;done)|omega|rfl) [-getElem?_pos,hz]
 simp(disch:=first|(simp;done)|omega|rfl) [-getElem?_pos,h2,hz]
def QZ{s:aD}{st:St}(hl:s.length<9223372036854775808):A.C.call (.func 80 [] []) [.str s] st=some (.bool (jx s),st):=by
 apply Call.eq;rw[aN,A.k80 (by simp)];cases s with
 |nil=>simp[A.b80,jx]
 |cons c s=>
  have hd:jx (c::s)=(cK (c::s)&&(decide (cW c≠48)||decide (s=[]))):=by
   have:decide (c.toNat≠48)=decide (cW c≠48):=by unfold cW;rw[decide_eq_decide];omega
   simp only[jx,this];rfl
  have hdg:=fun st=>Yhz (s:=c::s) (st:=st) hl;by_cases h0:s=[]
  ·subst h0;simp[A.b80,hd,hdg]
  have h1:0<s.length:=by
   cases s with
   |nil=>exact absurd rfl h0
   |cons=>simp
  have a1:¬((s.length:Int)+1=0):=by omega
  have a2:(1:Int)<(s.length:Int)+1:=by omega
  have a3:(0:Int)<(s.length:Int):=by omega
  by_cases h48:cW c=48
  ·simp[A.b80,hd,h0,a1,a2,h48]
  simp[A.b80,hd,hdg,h0,a1,a2,h48]
def Q0{st:St}(hd:cK s=true)(hl:s.length<=18):A.C.call (.func 139 [] []) [.str s] st=some (.int .i64 (aE s:Nat),st):=by
 apply Call.eq;rw[aN,A.k139 (by simp)];simp[A.b139];refine cm [(3,18)] (fun e r s1=>s1=⟨st.h,st.n,[]⟩/\e=.exit 0/\r.get 3=some (.int .i64 (aE s:Nat))) (fun m r s1=>s1=⟨st.h,st.n,[]⟩/\∃k,k+m=s.length/\r.get 4=some (.int .i64 k)/\r.get 3=some (.int .i64 (aE (s.take k):Nat))) s.length ?_ ?_ ?_
 ·exact⟨rfl,0,by omega,by simp,by simp[aE]⟩
 ·rintro m r _ hr hf ⟨rfl,k,hk,h4,h3⟩;rw[bu];cases m with
  |zero=>
   have:k=s.length:=by omega
   subst this;rw[C3]at h3;simp[A.tn,hr,hf,h4,h3]
  |succ m=>
   obtain⟨c,hc⟩:=bj (l:=s) (k:=k) (by omega);have cI:(k:Int)<(s.length:Int):=by omega
   have kc:k<s.length:=by omega
   have uP:=Ou hd hc;have hv:=Zpf hc;have Lh:=TK hd k (by omega);have q8:=TL (a:=k) (b:=17) (by omega);have b3:((aE (s.take (k+1)):Nat):Int)=10*(aE (s.take k):Nat)+cW c-48:=by rw[hv];unfold cW at*;omega
   have b4:((aE (s.take k):Nat):Int)<100000000000000000:=by
    have:(10:Nat)^17=100000000000000000:=by decide
    omega
   generalize hy:aE (s.take (k+1))=y at*;generalize aE (s.take k)=x at*;simp(disch:=first|(simp;done)|omega|rfl) [-getElem?_pos,A.tn,hr,hf,h4,h3,cI,hc];exact⟨m,by omega,k+1,by omega,by simp,by rw[hy,b3]⟩
 rintro e r _ hr ⟨rfl,rfl,h3⟩;simp[h3]
def A.Q1:=A.q Tryz.f189
def A.oT:=A.ql A.Q1 0 []
def A.b189:=(fun x0=>A.qb A.Q1 [x0]) A.oT
def A.k189:=@A.kk 189 21 [.tmp 2] A.b189 (by kernel_rfl) rfl
def A.b145:=A.q Tryz.f145
def A.k145:=@A.kk 145 15 [.cell 4 (some 2)] A.b145 (by kernel_rfl) rfl
def A.Q2:=A.q Tryz.f147
def A.lK:=A.ql A.Q2 0 []
def A.b147:=(fun x0=>A.qb A.Q2 [x0]) A.lK
def A.k147:=@A.kk 147 41 [.tmp 4] A.b147 (by kernel_rfl) rfl
def A.Q3:=A.q Tryz.f188
def A.tr:=A.ql A.Q3 0 []
def A.b188:=(fun x0=>A.qb A.Q3 [x0]) A.tr
def A.k188:=@A.kk 188 39 [.tmp 4,.tmp 5] A.b188 (by kernel_rfl) rfl
def JS{h:T O}{N:Nat}{v:V}{l:List Int}(hs:Sl h N v (dI l))(hl:l.length<1152921504606846976):Fn A.C 189 [v] h N (fun v' h' N'=>Sl h' N' v' (dI (sM l))):=by
 intro w;rw[aN,A.k189 (by simp)];simp[A.b189];refine cm [(0,0),(3,19)] (fun e r st=>e=.exit 0/\st=⟨h,N,[]⟩/\∃u,r.get 0=some u/\Sl h N u (dI (sM l))) (fun m r st=>st=⟨h,N,[]⟩/\m<=l.length/\∃u,r.get 0=some u/\Sl h N u (dI (l.take m))/\sM (l.take m)=sM l) l.length ?_ ?_ ?_
 ·exact⟨rfl,aO _,v,rfl,by rw[C3];exact hs,by rw[C3]⟩
 ·rintro m r _ hr hf ⟨rfl,hm,u,h0,hu,ht⟩;rw[bu];have lu:=hu.len;rw[iJ,iX,rj hm]at lu;cases m with
  |zero=> simp[A.oT,hf,h0,lu];rw[<-ht];exact hu
  |succ k=>
   obtain⟨d,hd⟩:=bj (l:=l) (k:=k) (by omega);have Vm:(l.take (k+1))[k]?=some d:=by rw[jL,ar (by omega)];exact hd
   obtain⟨i,o,c,e,rw,q1,q2,q3,q4⟩:=hu.at (iP Vm);have e1:l.take (k+1)=l.take k++[d]:=by rw[DQ,hd];rfl
   have k1:(0:Int)<(k:Int)+1:=by omega
   have k2:(k:Int)<(k:Int)+1:=by omega
   have k3:(k:Int)+1-1=(k:Int):=by omega
   by_cases hz:d=0
   ·subst hz;rw[e1,Zmi]at ht;obtain⟨v',x1,x2⟩:=MD (w:=[]) hu (lo:=0) (hi:=k) (wh _) (by rw[iJ,iX];omega) none (some (.int .i64 k)) (.inr ⟨rfl,rfl⟩) (.inl rfl);have x3:((dI (l.take (k+1))).take k).drop 0=dI (l.take k):=by rw[Br,dI,<-List.map_take,List.take_take,rj (by omega)];rfl
    rw[x3]at x2;simp(disch:=first|(simp;done)|omega|rfl) [A.oT,hf,h0,lu,k1,k3,q1,q3,q4,FZ,aB,x1];exact⟨k,by omega,by omega,x2,ht⟩
   rw[e1,Zqr hz,<-e1]at ht;simp(disch:=first|(simp;done)|omega|rfl) [A.oT,hf,h0,lu,k1,k3,q1,q3,q4,hz];rw[<-ht];exact hu
 rintro _ r _ hr ⟨rfl,rfl,u,h0,hu⟩;simp[h0,ax];exact⟨ab.refl,hu⟩
def Rg(h:T O)(N:Nat)(v:V)(z:Int):Prop:=∃u,v=.agg [.bool (decide (z<0)),u]/\Dn h N u z.natAbs
def yU{h:T O}{N:Nat}{v:V}{l:List Int}{b:Bool}{n:Nat}(hs:Sl h N v (dI l))(hd:Di l)(hn:vI l=n)(hl:l.length<1152921504606846976):Fn A.C 145 [.bool b,v] h N (fun v' h' N'=>Rg h' N' v' (if b=true then -(n:Int) else n)):=by
 intro w;rw[aN,A.k145 (by simp)];simp[A.b145];refine av (JS (hs.ad (ab.refl.new _)) hl) ?_;rintro u h1 n1 k1 hu;rw[Jq hd hn]at hu;have lu:=hu.len;rw[iJ]at lu;have wE:=k1.le;have az:=k1.get N (by omega);simp at az;have DC:=hu.form.one;have Vn:=hu.form.cells;unfold V.one at DC;unfold V.cells at Vn;have k0:=(ab.refl (h:=h) (n:=N)).new (.cells [.bool false,.aa] 93 true);have kx:=fun o=>((k0.trans k1).set (i:=N) (o:=o) (aO N));have fZ:=fun c1 (hc:c1.length=2)=>hu.setInt (i:=N) (c1:=c1) (e1:=93) (w1:=true) az (by intro x hx k m;simp at hx;rcases hx with rfl|rfl<;>simp) hc;cases b with
 |false=>
  simp[ag,az,DC,Vn,bO,aQ,aL,ax];refine⟨kx _,u,?_,?_⟩
  ·have:¬(n:Int)<0:=by omega
   simp
  exact fZ _ rfl
 |true=>
  by_cases hz:n=0
  ·have cH:(ds n).length=0:=by rw[hz,uJ];rfl
   simp[lu,cH,ag,az,DC,Vn,bO,aQ,aL,ax];refine⟨kx _,u,?_,?_⟩
   ·simp[hz]
   simpa[hz,Dn]using fZ _ rfl
  have cH:¬(ds n).length=0:=fun hc=>hz (EI.1 (rS hc));have JE:(0:Int)<((ds n).length:Int):=by omega
  have il:0<(ds n).length:=by omega
  have hl3:ds n≠[]:=fun hc=>hz (EI.1 hc);simp[lu,il,ag,az,DC,Vn,bO,aQ,aL,ax];refine⟨kx _,u,?_,?_⟩
  ·have: -(n:Int)<0:=by omega
   simp;try omega
  simpa[Dn]using fZ _ rfl
def vQ:∀{b a:Nat},a<=b->(ds a).length<=(ds b).length:=by
 intro b;induction b using Nat.strongRecOn with
 |_ b ih=>
  intro a h;by_cases h0:a=0
  ·rw[h0,uJ];simp
  rw[BA h0,BA (n:=b) (by omega)];have:=ih (b/1000000000) (Et (by omega) (by decide)) (a:=a/1000000000) (Nat.div_le_div_right h);simp only[bk];omega
def Q4{A:List Int}{k:Nat}{x:Int}(hx:A[k]?=some x):vI A=vI (A.take k)+pI k*(x+1000000000*vI (A.drop (k+1))):=by have hk:=gZ hx;rw[Oo A k (by omega),jN hx,vI]
def Yoz{A B:List Int}{k:Nat}{x y:Int}(hA:Di A)(hB:Di B)(hx:A[k]?=some x)(hy:B[k]?=some y)(he:A.drop (k+1)=B.drop (k+1))(Vo:x<y):vI A<vI B:=by
 have hk:=gZ hx;rw[Q4 hx,Q4 hy,he];have h1:=wZ (hA.take k);have h2:=wY (hB.take k);rw[iX,rj (by omega)]at h1;have h3:pI k*(x+1000000000*vI (B.drop (k+1))+1)<=pI k*(y+1000000000*vI (B.drop (k+1))):=sI (by omega) (vN (EF k));have h4:pI k*(x+1000000000*vI (B.drop (k+1))+1)=pI k*(x+1000000000*vI (B.drop (k+1)))+pI k:=by grind
 omega
def Du(a b:Nat):Int:=if a<b then -1 else if b<a then 1 else 0
def Zx3{h:T O}{N:Nat}{u v:V}{a b:Nat}{w:List Nat}(hu:Dn h N u a)(hv:Dn h N v b)(hl:(ds a).length<1152921504606846976)(il:(ds b).length<1152921504606846976):A.C.call (.func 147 [] []) [u,v] ⟨h,N,w⟩=some (.int .i64 (Du a b),⟨h,N,w⟩):=by
 apply Call.eq;have lu:=hu.len;have lv:=hv.len;rw[iJ]at lu lv;have va:=iC a;have vb:=iC b;have da:=ig a;have db:=ig b;rw[aN,A.k147 (by simp)];unfold Du;by_cases h1:(ds a).length=(ds b).length
 ·have h_:((ds a).length:Int)=((ds b).length:Int):=by omega
  simp(disch:=omega) [A.b147,lu,lv,h1];generalize hA:ds a=X at*;generalize hB:ds b=Y at*;refine cm [(4,5),(19,40)] (fun e r st=>st=⟨h,N,[]⟩/\((e=.exit 0/\a=b)\/(e=.ret/\a<b/\r.get 4=some (.int .i64 (-1)))\/(e=.ret/\b<a/\r.get 4=some (.int .i64 1)))) (fun m r st=>st=⟨h,N,[]⟩/\m<=X.length/\r.get 5=some (.int .i64 ((m:Int)-1))/\X.drop m=Y.drop m) X.length ?_ ?_ ?_
  ·exact⟨rfl,aO _,by simp[h1],by rw[pw,h1,pw]⟩
  ·rintro m r _ hr hf ⟨rfl,hm,h5,he⟩;rw[bu];cases m with
   |zero=>
    have:a=b:=by simp at he;rw[he]at va;omega
    simp[A.lK,hf,h5,this]
   |succ k=>
    obtain⟨x,hx⟩:=bj (l:=X) (k:=k) (by omega);obtain⟨y,hy⟩:=bj (l:=Y) (k:=k) (by omega);obtain⟨b1,b2,b3,b4,b5,z1,z2,z3,z4⟩:=Sl.at (show Sl h N u (dI (ds a)) from hu) (by rw[hA];exact iP hx);obtain⟨c1,c2,c3,c4,c5,y1,y2,y3,y4⟩:=Sl.at (show Sl h N v (dI (ds b)) from hv) (by rw[hB];exact iP hy);have vi:(((k+1:Nat):Int)-1)=(k:Int):=by omega
    rw[vi]at h5;have cI:(k:Int)<(X.length:Int):=by omega
    have kc:(k:Int)<(Y.length:Int):=by omega
    have ER:(0:Int)<=(k:Int):=by omega
    have hk4:k<Y.length:=by omega
    by_cases aC:x<y
    ·have:=Yoz da db hx hy he aC;have fX:a<b:=by omega
     simp[A.lK,hr,hf,h5,lu,lv,cI,kc,ER,z1,z2,z3,z4,y1,y2,y3,y4,aC,fX]
    by_cases Mn:y<x
    ·have:=Yoz db da hy hx he.symm Mn;have fX:b<a:=by omega
     have KD:¬a<b:=by omega
     simp[A.lK,hr,hf,h5,lu,lv,cI,kc,ER,z1,z2,z3,z4,y1,y2,y3,y4,aC,Mn,fX,KD]
    have Vo:x=y:=by omega
    simp(disch:=first|(simp;done)|omega|rfl) [A.lK,hr,hf,h5,lu,lv,ER,z1,z2,z3,z4,y1,y2,y3,y4,aC,Mn];exact⟨k,by omega,by omega,rfl,by rw[jN hx,jN hy,he,Vo]⟩
  rintro e r _ hr ⟨rfl,⟨rfl,hz⟩|⟨rfl,hz,h4⟩|⟨rfl,hz,h4⟩⟩
  ·simp[hz]
  ·simp[h4,hz]
  have:¬a<b:=by omega
  simp[h4,hz,this]
 have h_:¬((ds a).length:Int)=((ds b).length:Int):=by omega
 by_cases h2:(ds a).length<(ds b).length
 ·have fX:a<b:=by apply uH;intro hc;have:=vQ hc;omega
  simp[A.b147,lu,lv,h1,h2,fX]
 have fX:b<a:=by apply uH;intro hc;have:=vQ hc;omega
 have KD:¬a<b:=by omega
 simp[A.b147,lu,lv,h1,h2,fX,KD]
structure DdA (h:T O) (N:Nat) (l:List Int) (d:Int) (m:Nat) (r:T V) (st:St):Prop where
 w:ay N st.w=[]
 ad:ab h N st.h (N+1)
 n:st.n=N+1
 r8:r.get 8=some (.int .i64 ((m:Int)-1))
 hm:m<=l.length
 ex:∃out rest,st.h.get N=some (.cells (dI out) 3 true)/\out.length=l.length/\r.get 7=some (.int .i64 rest)/\0<=rest/\rest<d/\Di (out.drop m)/\vI (out.drop m)*d+rest=vI (l.drop m)
def Zpu{h:T O}{N:Nat}{v:V}{l:List Int}{d:Int}(hs:Sl h N v (dI l))(hd:Di l)(hl:l.length<1099511627776)(h0:0<d)(h1:d<1000000000):Fn A.C 188 [v,.int .i64 d] h N (fun u h' n'=>∃q,u=.aV [q,.int .i64 ((vI l).toNat%d.toNat:Nat)]/\Dn h' n' q ((vI l).toNat/d.toNat)):=by
 intro w;have lv:=hs.len;rw[iJ]at lv;rw[aN,A.k188 (by simp)];simp(disch:=first|(simp;done)|omega|rfl) [A.b188,lv];refine cm [(7,9),(16,35)] (fun e r st=>e=.exit 0/\DdA h N l d 0 r st) (DdA h N l d) l.length ?_ ?_ ?_
 ·refine⟨by simp,ab.refl.new _,rfl,by simp,aO _,List.replicate l.length 0,0,by simp[Z9],by simp,by simp,by omega,h0,?_,?_⟩
  ·rw[wP (by simp)];exact Di.nil
  rw[wP (by simp),pw];simp[vI]
 ·rintro m r ⟨H,n1,W⟩ hr hf ⟨hW,hK,hn,h8,hm,out,rest,az,iI,h7,fv,HE,jt,hv⟩;simp only at hW hK hn az;subst hn;rw[bu];cases m with
  |zero=> simp[A.tr,hf,h8];exact⟨hW,hK,rfl,by simpa using h8,hm,out,rest,az,iI,by simp[h7],fv,HE,jt,hv⟩
  |succ k=>
   obtain⟨x,hx⟩:=bj (l:=l) (k:=k) (by omega);obtain⟨b1,b2,b3,b4,b5,z1,z2,z3,z4⟩:=hs.at (iP hx);have z3:=(hK.get _ z2).trans z3;have Q5:=hd.get hx;have vi:(((k+1:Nat):Int)-1)=(k:Int):=by omega
   rw[vi]at h8;have cI:(k:Int)<(l.length:Int):=by omega
   have kc:k<l.length:=by omega
   have ER:(0:Int)<=(k:Int):=by omega
   have w1:bo .i64 (rest*1000000000)=rest*1000000000:=cP (by omega) (by omega);have w2:bo .i64 (rest*1000000000+x)=rest*1000000000+x:=cP (by omega) (by omega);have s0:0<=rest*1000000000+x:=by omega
   have qf:¬d=0:=by omega
   have t1:(rest*1000000000+x).tdiv d=(rest*1000000000+x)/d:=C2 s0;have t2:(rest*1000000000+x).tmod d=(rest*1000000000+x)%d:=Gl s0;have t3:=Gj (rest*1000000000+x) d;have t4:0<=(rest*1000000000+x)/d:=Int.ediv_nonneg s0 (by omega);have t5:(rest*1000000000+x)/d<1000000000:=by apply Int.ediv_lt_of_lt_mul h0;omega
   have t6:=Gt (rest*1000000000+x) qf;have t7:=Gq (rest*1000000000+x) h0;have w3:bo .i64 ((rest*1000000000+x)/d)=(rest*1000000000+x)/d:=cP (by omega) (by omega);have w8:=iJ out;have w7:=Dh (l:=out) (k:=k) (v:=(rest*1000000000+x)/d) (by omega);simp(disch:=first|(simp;done)|omega|rfl) [A.tr,hr,hf,h8,h7,ER,lv,z1,z3,z4,w1,w2,w3,t1,t2,az,w7];have e1:(out.set k ((rest*1000000000+x)/d)).drop k=((rest*1000000000+x)/d)::out.drop (k+1):=by rw[jN (d:=(rest*1000000000+x)/d) (by rw[mD (by omega)])];rw[List.drop_set_of_lt (by omega)]
   generalize (rest*1000000000+x)/d=q at*;generalize (rest*1000000000+x)%d=r' at*;refine⟨k,by omega,⟨by simp[ay,hW],hK.set (aO N),rfl,by simp,by omega,out.set k q,r',by simp,by simp[iI],by simp,t6,t7,?_,?_⟩⟩
   ·rw[e1];exact Di.app (Di.one t4 t5) jt
   rw[e1,jN hx,vI,vI,<-hv];grind
 rintro _ r ⟨H,n1,W⟩ hr ⟨rfl,hW,hK,hn,h8,hm,out,rest,az,iI,h7,fv,HE,jt,hv⟩;simp only at hW hK hn az;subst hn;rw[Br,Br]at*;have na:Sl H (N+1) (.slice N 0 l.length (some l.length) 1) (dI out):=Sl.row (by omega) az (by simp[iI]) (fun k hk=>by simp at hk;omega);simp[hr];refine av (JS na (by omega)) ?_;rintro u h2 n2 k2 hu;have hvo:=wY jt;have hvl:=wY hd;have m1:(vI l).toNat/d.toNat=(vI out).toNat:=by
  have:(vI l)/d=vI out:=by rw[<-hv,Int.mul_comm,Int.add_comm,Int.add_mul_ediv_left _ _ (by omega),Int.ediv_eq_zero_of_lt fv HE];omega
  rw[<-this];obtain⟨a,ha⟩:=Gn hvl;obtain⟨b,hb⟩:=Gn (vN h0);rw[ha,hb];rfl
 have m2:(((vI l).toNat%d.toNat:Nat):Int)=rest:=by
  have:(vI l)%d=rest:=by rw[<-hv,Int.mul_comm,Int.add_comm,Int.add_mul_emod_self_left,Int.emod_eq_of_lt fv HE]
  rw[<-this];obtain⟨a,ha⟩:=Gn hvl;obtain⟨b,hb⟩:=Gn (vN h0);rw[ha,hb];rfl
 rw[Zrv jt]at hu;have m2':rest=max (vI l) 0%max d 0:=by rw[<-m2];simp
 simp[h7,ax,hW];refine⟨hK.trans k2,u,⟨rfl,m2'⟩,?_⟩;rw[m1];exact hu
def A.KE:=A.q Tryz.f149
def A.tu:=A.ql A.KE 1 []
def A.tv:=(fun x0=>A.ql A.KE 0 [x0]) A.tu
def A.b149:=(fun x0=>A.qb A.KE [x0]) A.tv
def A.k149:=@A.kk 149 72 [.tmp 4] A.b149 (by kernel_rfl) rfl
structure MuB (h:T O) (N:Nat) (la lb:List Int) (i:Nat) (zaE:List Int) (a:Int) (m:Nat) (r:T V) (st:St):Prop where
 w:ay N st.w=[]
 ad:ab h N st.h (N+1)
 n:st.n=N+1
 ex:∃k out c,k+m=lb.length/\r.get 8=some (.int .i64 k)/\st.h.get N=some (.cells (dI out) 3 true)/\out.length=la.length+lb.length/\r.get 7=some (.int .i64 c)/\0<=c/\c<1000000000/\Di out/\(∀t,i+lb.length<=t->t<out.length->out[t]?=some 0)/\vI out+pI (i+k)*c=vI zaE+pI i*(a*vI (lb.take k))
structure MuA (h:T O) (N:Nat) (la lb:List Int) (m:Nat) (r:T V) (st:St):Prop where
 w:ay N st.w=[]
 ad:ab h N st.h (N+1)
 n:st.n=N+1
 ex:∃i out,i+m=la.length/\r.get 6=some (.int .i64 i)/\st.h.get N=some (.cells (dI out) 3 true)/\out.length=la.length+lb.length/\Di out/\(∀t,i+lb.length<=t->t<out.length->out[t]?=some 0)/\vI out=vI (la.take i)*vI lb
def Zwh{h:T O}{N:Nat}{u v:V}{la lb:List Int}{a b:Nat}(hu:Sl h N u (dI la))(hv:Sl h N v (dI lb))(da:Di la)(db:Di lb)(ea:vI la=a)(eb:vI lb=b)(hl:la.length+lb.length<1099511627776):Fn A.C 149 [u,v] h N (fun x h' n'=>Dn h' n' x (a*b)):=by
 intro w;have lu:=hu.len;have lv:=hv.len;rw[iJ]at lu lv;rw[aN,A.k149 (by simp)];have cs:((la.length:Int)+(lb.length:Int)).toNat=la.length+lb.length:=by omega
 simp(disch:=first|(simp;done)|omega|rfl) [A.b149,lu,lv,cs];refine cm [(6,9),(16,69)] (fun e r st=>e=.exit 0/\MuA h N la lb 0 r st) (MuA h N la lb) la.length ?_ ?_ ?_
 ·refine⟨by simp,ab.refl.new _,rfl,0,List.replicate (la.length+lb.length) 0,by omega,by simp,by simp[Z9],by simp,Di.GG _,fun t _ ht=>?_,by simp[Z5,vI]⟩;simp at ht;simp[ht]
 ·rintro m r ⟨H,n1,W⟩ hr hf ⟨hW,hK,hn,i,out,hi,h6,az,iI,jt,hz,nA⟩;simp only at hW hK hn az;subst hn;rw[bu];cases m with
  |zero=>
   have:i=la.length:=by omega
   subst this;simp[A.tv,hr,hf,h6,lu];exact⟨hW,hK,rfl,la.length,out,by omega,by simp[h6],az,iI,jt,hz,nA⟩
  |succ m=>
   obtain⟨x,hx⟩:=bj (l:=la) (k:=i) (by omega);obtain⟨b1,b2,b3,b4,b5,z1,z2,z3,z4⟩:=hu.at (iP hx);have z3:=(hK.get _ z2).trans z3;have Q5:=da.get hx;have Au:(i:Int)<(la.length:Int):=by omega
   have hi2:i<la.length:=by omega
   simp[A.tv,hr,h6,Au,lu];refine cm [(7,9),(22,54)] (fun e r st=>e=.exit 2/\MuB h N la lb i out x 0 r st) (MuB h N la lb i out x) lb.length ?_ ?_ ?_
   ·exact⟨hW,hK,rfl,0,out,0,by omega,by simp,az,iI,by simp,by omega,by omega,jt,hz,by simp[vI]⟩
   ·rintro m2 r2 ⟨H2,n2,W2⟩ fi dT ⟨gS,pP,ib,k,pT,c,hk,h8,rJ,FD,h7,c0,c1,mU,eW,kK⟩;simp only at gS pP ib rJ;subst ib;rw[bu];cases m2 with
    |zero=>
     have:k=lb.length:=by omega
     subst this;simp[A.tu,hr,fi,dT,h8,lv];exact⟨gS,pP,rfl,lb.length,pT,c,by omega,by simp[h8],rJ,FD,by simp[h7],c0,c1,mU,eW,kK⟩
    |succ m2=>
     obtain⟨y,hy⟩:=bj (l:=lb) (k:=k) (by omega);obtain⟨g1,g2,g3,g4,g5,y1,y2,y3,y4⟩:=hv.at (iP hy);have y3:=(pP.get _ y2).trans y3;have z3:=(pP.get _ z2).trans ((hK.get _ z2).symm.trans z3);have MR:=db.get hy;obtain⟨o,ho⟩:=bj (l:=pT) (k:=i+k) (by omega);have hod:=mU.get ho;have cI:(k:Int)<(lb.length:Int):=by omega
     have kc:k<lb.length:=by omega
     have p0:0<=x*y:=yF Q5.1 MR.1;have p1:x*y<=999999999*999999999:=Int.mul_le_mul (by omega) (by omega) MR.1 (by omega);have q1:(i:Int)+(k:Int)<(la.length:Int)+(lb.length:Int):=by omega
     have q2:i+k<la.length+lb.length:=by omega
     have q3:(0:Int)<=(i:Int)+(k:Int):=by omega
     have t1:(o+x*y+c).tmod 1000000000=(o+x*y+c)%1000000000:=Gl (by omega);have t2:(o+x*y+c).tdiv 1000000000=(o+x*y+c)/1000000000:=C2 (by omega);have w8:=iJ pT;have w7:=Dh (l:=pT) (k:=i+k) (v:=(o+x*y+c)%1000000000) (by omega);have e1:vI (pT.set (i+k) ((o+x*y+c)%1000000000))+pI (i+(k+1))*((o+x*y+c)/1000000000)=vI out+pI i*(x*vI (lb.take (k+1))):=by
      have hm:=Gj (o+x*y+c) 1000000000;rw[EH ho,Ap hy,show i+(k+1)=(i+k)+1 by omega,wX];have hp:=TJ i k;generalize (o+x*y+c)/1000000000=Q at*;generalize (o+x*y+c)%1000000000=R at*;have:R=o+x*y+c-1000000000*Q:=by omega
      rw[this];have h3:vI pT=vI out+pI i*(x*vI (lb.take k))-pI (i+k)*c:=by omega
      rw[h3,hp];grind
     generalize hP:x*y=P at*;have b1':bo .i64 P=P:=cP (by omega) (by omega);have b2':bo .i64 (o+P)=o+P:=cP (by omega) (by omega);have b3':bo .i64 (o+P+c)=o+P+c:=cP (by omega) (by omega);have b4':bo .i64 ((o+P+c)/1000000000)=(o+P+c)/1000000000:=cP (by omega) (by omega);have f1:b1<N+1:=by omega
     have f2:g1<N+1:=by omega
     have r0:=Gt (o+P+c) (b:=1000000000) (by decide);have r1:=Gq (o+P+c) (b:=1000000000) (by decide);have d0:0<=(o+P+c)/1000000000:=Int.ediv_nonneg (by omega) (by decide);have d1:(o+P+c)/1000000000<1000000000:=Int.ediv_lt_of_lt_mul (by decide) (by omega);simp(disch:=first|(simp;done)|omega|rfl) [-getElem?_pos,A.tu,hr,fi,dT,h6,h7,h8,lu,lv,cI,rJ,iP ho,z1,z3,z4,y1,y3,y4,hP,b1',b2',b3',b4',t1,t2,w7,f1,f2];refine⟨m2,by omega,⟨by simp[ay,gS],pP.set (aO N),rfl,k+1,_,_,by omega,by simp,by simp,by simp[FD],by simp,d0,d1,mU.set r0 r1,fun t ht1 yW=>?_,e1⟩⟩;rw[eX (by omega)];exact eW t ht1 (by simpa using yW)
   rintro _ r2 ⟨H2,n2,W2⟩ fi ⟨rfl,gS,pP,ib,k,pT,c,hk,h8,rJ,FD,h7,c0,c1,mU,eW,kK⟩;simp only at gS pP ib rJ;subst ib;have:k=lb.length:=by omega
   subst this;have ho:=eW (i+lb.length) (by omega) (by omega);have Vp:=hf.inner (D':=[(7,9),(22,54)]) rfl (by simp) fi;have q1:(i:Int)+(lb.length:Int)<(la.length:Int)+(lb.length:Int):=by omega
   have q2:i+lb.length<la.length+lb.length:=by omega
   have q3:(0:Int)<=(i:Int)+(lb.length:Int):=by omega
   have w8:=iJ pT;have w7:=Dh (l:=pT) (k:=i+lb.length) (v:=c) (by omega);rw[C3]at kK;have e1:vI (pT.set (i+lb.length) c)=vI (la.take (i+1))*vI lb:=by
    rw[EH ho,Ap hx];have:vI pT+pI (i+lb.length)*(c-0)=vI out+pI i*(x*vI lb):=by rw[Int.sub_zero];exact kK
    rw[this,nA];grind
   simp(disch:=first|(simp;done)|omega|rfl) [-getElem?_pos,hr,fi,h6,h7,lv,rJ,iP ho,w7,Vp];refine⟨m,by omega,⟨by simp[ay,gS],pP.set (aO N),rfl,i+1,_,by omega,by simp,by simp,by simp[FD],mU.set c0 c1,fun t ht1 yW=>?_,e1⟩⟩;rw[eX (by omega)];exact eW t (by omega) (by simpa using yW)
 rintro _ r ⟨H,n1,W⟩ hr ⟨rfl,hW,hK,hn,i,out,hi,h6,az,iI,jt,hz,nA⟩;simp only at hW hK hn az;subst hn;have:i=la.length:=by omega
 subst this;rw[C3,ea,eb]at nA;have na:Sl H (N+1) (.slice N 0 (la.length+lb.length) (some (la.length+lb.length)) 1) (dI out):=Sl.row (by omega) az (by simp[iI]) (fun k hk=>by simp at hk;omega);simp[hr];refine av (JS na (by omega)) ?_;rintro y h2 n2 k2 hy;rw[Jq jt (n:=a*b) (by rw[nA];simp)]at hy;simp[ax,hW];exact⟨hK.trans k2,hy⟩
open Go
variable {N i n n1:Nat} {h h1:T O} {r:T V} {v:V} {w:List Nat}
structure er (D:Nat->Prop) (h:T O) (n:Nat) (h':T O) (n':Nat):Prop where
 le:n<=n'
 get:∀i,i<n->¬D i->h'.get i=h.get i
def er.refl{D:Nat->Prop}:er D h n h n:=⟨aO _,fun _ _ _=>rfl⟩
def ab.upd{D:Nat->Prop}{h':T O}{n':Nat}(k:ab h n h' n'):er D h n h' n':=⟨k.le,fun i hi _=>k.get i hi⟩
def er.trans{D:Nat->Prop}{h2:T O}{n2:Nat}(a:er D h n h1 n1)(b:er D h1 n1 h2 n2):er D h n h2 n2:=
 ⟨j_ a.le b.le,fun i hi hd=>(b.get i (fm hi a.le) hd).trans (a.get i hi hd)⟩
def er.mono{D D2:Nat->Prop}(a:er D h n h1 n1)(hd:∀i,i<n->D i->D2 i):er D2 h n h1 n1:=⟨a.le,fun i hi hn=>a.get i hi fun hc=>hn (hd i hi hc)⟩
def er.set{D:Nat->Prop}{o:O}(a:er D h n h1 n1)(hi:D i\/n<=i):er D h n (h1.set i o) n1:=
 ⟨a.le,fun j hj hd=>by
  rw[T.ae,ak ?_]
  ·exact a.get j hj hd
  ·rintro rfl
   rcases hi with hi|hi
   ·exact hd hi
   ·omega⟩
def er.up{D:Nat->Prop}{n2:Nat}(a:er D h n h1 n1)(hn:n1<=n2):er D h n h1 n2:=⟨j_ a.le hn,a.get⟩
def er.new{D:Nat->Prop}(a:er D h n h1 n1)(o:O):er D h n (h1.set n1 o) (n1+1):=(a.set (.inr a.le)).up (wm _)
def Ig{N i:Nat}:∀{w:List Nat},i∈ay N w->i∈w/\i<N
 |[],h=>by simp[ay]at h
 |j::w,h=>by
  simp only[ay]at h
  split at h
  ·unfold wG at h
   split at h
   ·have:=Ig h;exact⟨qz _ this.1,this.2⟩
   ·rcases iW.1 h with h|h
    ·subst h;exact⟨qQ,by assumption⟩
    ·have:=Ig h;exact⟨qz _ this.1,this.2⟩
  ·have:=Ig h;exact⟨qz _ this.1,this.2⟩
def Ybr:ay N []=[]:=rfl
attribute [simp] Ybr
def Ng(h:∀i∈w,N<=i):ay N w=[]:=Zq6 h
def pU(st:St)(i:Nat)(send:Option V)(zero:V):Option O->Option (V×St)
 |some (.chan cap buf)=>match send with
  |some v=>if buf.length<cap then some (.aV [.int .i64 0,.bool false],st.write i (.chan cap (buf++[v]))) else some (.aV [.int .i64 (-1),.bool false],st)
  |none=>match buf with
   |v::buf=>some (.aV [.int .i64 0,.bool true,v],st.write i (.chan cap buf))
   |[]=>some (.aV [.int .i64 (-1),.bool false,zero],st)
 |_=>none
def Yuw{st:St}{send:Option V}{zero:V}:Z0 st i send zero=pU st i send zero (st.h.get i):=by
 unfold Z0 pU;rcases st.h.get i with _|o
 ·rfl
 cases o with
 |chan cap buf=>cases send with
  |some v=>rfl
  |none=>cases buf<;>rfl
 |_=>cases send<;>rfl
def Vq(C:Cx)(K:List Kf)(Q:Rs->Prop)(d:Nat)(ops:List dK)(r:T V)(n:Nat)(m:List Nat):Option (V×St)->Prop
 |some (v,bX)=>bD C (.fY::K) (Dq (dR C.call ops ⟨r.set d v,n,m⟩ bX)) Q
 |none=>False
def Yxw(C:Cx)(K:List Kf)(Q:Rs->Prop)(d:Nat)(ops:List dK)(r:T V)(n:Nat)(m:List Nat)(st:St)(zero:V):Option V->Option (Option V)->Prop
 |some (.chan i),some sv=>Vq C K Q d ops r n m (pU st i sv zero (st.h.get i))
 |_,_=>False
def Yj7{C:Cx}{K:List Kf}{Q:Rs->Prop}{ro:Option Nat}{d:Nat}{ch:Src}{send:Option Src}{zero:V}{ops:List dK}{m:List Nat}{st:St}(hd:d<n):bD C K (ff (C.code ro (.zy (some d) ch send zero ops) ⟨r,n,m⟩ st)) Q↔Yxw C K Q d ops r n m st zero (ch.ev r) (aB r send):=by
 have e:C.code ro (.zy (some d) ch send zero ops) ⟨r,n,m⟩ st=Db (some d) ch send zero ops C.call C.code ro ⟨r,n,m⟩ st:=Cx.dw ..;rw[e];unfold Db Yxw;simp only[];rcases ch.ev r with _|v
 ·exact Ml
 cases v<;>try exact Ml
 rename_i i;rcases aB r send with _|sv
 ·exact Ml
 simp only[Yuw];rcases pU st i sv zero (st.h.get i)with _|⟨v,bX⟩
 ·exact Ml
 simp only[Fr.put,hd,if_true,Vq];refine jC ?_;show _=jl C K (mY C .fY (Dq (dR C.call ops ⟨r.set d v,n,m⟩ bX)));rcases dR C.call ops ⟨r.set d v,n,m⟩ bX with _|⟨_,_⟩<;>rfl
def Yeu{C K Q d ops r n m st zero i sv}:Yxw C K Q d ops r n m st zero (some (.chan i)) (some sv)=Vq C K Q d ops r n m (pU st i sv zero (st.h.get i)):=rfl
def Yet{C K Q d ops r n m v bX}:Vq C K Q d ops r n m (some (v,bX))=bD C (.fY::K) (Dq (dR C.call ops ⟨r.set d v,n,m⟩ bX)) Q:=rfl
def Ybd{st:St}{cap:Nat}{buf:List V}{zero:V}:pU st i none zero (some (.chan cap (v::buf)))=some (.aV [.int .i64 0,.bool true,v],st.write i (.chan cap buf)):=rfl
def Yes{st:St}{cap:Nat}{zero:V}:pU st i none zero (some (.chan cap []))=some (.aV [.int .i64 (-1),.bool false,zero],st):=rfl
attribute [simp] Yj7 Yeu Yet Ybd Yes
def Vr(st:St)(bytes:Nat):Option V->Option (V×St)
 |some (.int _ k)=>if k<0\/k > IntKind.i64.max\/bytes*k > 2^48-112 then none else some (.chan st.n,st.alloc (.chan k.toNat []))
 |_=>none
def Zwo{bytes:Nat}{x:Src}{call:cM}{st:St}:Gz bytes x call r st=Vr st bytes (x.ev r):=by unfold Gz Vr;rfl
def Yb9{st:St}{kk:IntKind}{k:Int}(h0:0<=k)(h1:k<=100):Vr st 16 (some (.int kk k))=some (.chan st.n,st.alloc (.chan k.toNat [])):=by unfold Vr;simp only[];rw[ak];have:IntKind.i64.max=9223372036854775807:=rfl;omega
attribute [simp] Zwo Yb9
def dk:V->List Nat
 |.slice i _ _ _ _=>[i]
 |_=>[]
def Sl.bY{D:Nat->Prop}{h':T O}{N':Nat}{l:List V}(s:Sl h N v l)(k:er D h N h' N')(hd:∀i∈dk v,¬D i):Sl h' N' v l:=by
 rcases s with s|⟨i,o,cp,c,e,rw,rfl,h2,h3,h4⟩
 ·exact .inl s
 exact .inr ⟨i,o,cp,c,e,rw,rfl,fm h2 k.le,(k.get i h2 (hd i (by simp[dk]))).trans h3,h4⟩
def Row(z:Nat)(e:TypeId)(h:T O)(v:V)(l:List (List V)):Prop:=(∀x∈l,x.length=z)/\((l=[]/\v=.aa)\/∃i x m,v=.slice i 0 l.length none z/\x.length=m*z/\h.get i=some (.cells (l.flatten++x) e true))
def MQ(l:List (List V))(x:List V):(l++[x]).flatten=l.flatten++x:=by simp
def Ywp(st:St)(size:Nat)(zero:List V):Option V->Option (V×St)
 |some v=>LS size zero (.const v) Z3 .nil st
 |none=>none
structure Xbc (z bytes:Nat) (e:TypeId) (zero:List V) (h:T O) (N:Nat) (v:V) (l:List (List V)) (k:Nat) (v1 v2 v3 v4:V) (h3 h4:T O) (w3:List Nat):Prop where
 a:∀w,∃u,nV ⟨h,N,w⟩ z (some v) (some (some (.int .i64 k))) (some (some (.int .i64 ((k:Int)+1)))) (some (some (.int .i64 l.length)))=some (u,⟨h,N,w⟩)
 b:∀w,nV ⟨h,N,w⟩ z (some v) (some none) (some (some (.int .i64 k))) (some none)=some (v1,⟨h,N,w⟩)
 c:∀w,nV ⟨h,N,w⟩ z (some v) (some (some (.int .i64 ((k:Int)+1)))) (some none) (some none)=some (v2,⟨h,N,w⟩)
 d:∀w,mm ⟨h,N,w⟩ z bytes e v1 v2=some (v3,⟨h3,N,w3++w⟩)
 len:qg v3=some (l.length-1)
 f:∀w,nV ⟨h3,N,w⟩ z (some v3) (some (some (.int .i64 ((l.length-1:Nat):Int)))) (some (some (.int .i64 l.length))) (some none)=some (v4,⟨h3,N,w⟩)
 g:∀w,∃i,i∈dk v/\Ywp ⟨h3,N,w⟩ z zero (some v4)=some (.aV [],⟨h4,N,i::w⟩)
 w:∀i∈w3,i∈dk v
 upd:er (fun i=>i∈dk v) h N h4 N
 ids:dk v3=dk v
 row:Row z e h4 v3 (l.take k++l.drop (k+1))
def Vs(st:St)(size:Nat):Option V->Option V->Option (V×St)
 |some d,some s=>EC size (.const d) (.const s) Z3 .nil st
 |_,_=>none
def Yfp{size:Nat}{d s:Src}{call:cM}{st:St}:EC size d s call r st=Vs st size (d.ev r) (s.ev r):=by
 unfold EC Vs;rcases d.ev r with _|d
 ·rfl
 rcases s.ev r with _|s<;>rfl
def Ydd{cp:Option Nat}{c xs:List V}{e:TypeId}{s:V}(hn:0<n)(hs:gb ⟨h,N,w⟩ 1 s=some (n,xs))(hx:xs.length=n)(hg:h.get i=some (.cells c e true))(hc:c.length=n):Vs ⟨h,N,w⟩ 1 (some (.slice i 0 n cp 1)) (some s)=some (.int .i64 n,⟨h.set i (.cells xs e true),N,i::w⟩):=by
 have km:¬n=0:=by omega
 have hd:c.drop n=[]:=List.drop_of_length_le (by omega);have ht:xs.take n=xs:=gp (by omega);simp only[Vs,EC,Src.ev,hs,St.row,hg];simp[km,hc,ag,St.write,ht,hx,hd]
attribute [simp] Yfp
def nQ(e:TypeId)(Y:V->Prop)(h:T O)(u:V):Prop:=∀i∈dk u,∃z,h.get i=some (.cells z e true)/\z≠[]/\∀y∈z,Y y
def nQ.nil{e:TypeId}{Y:V->Prop}:nQ e Y h .aa:=fun i hi=>by simp[dk]at hi
def FO{z:Nat}{e:TypeId}{N0:Nat}{u:V}{l:List (List V)}{x:List V}{bytes:Nat}{Y:V->Prop}(s:Own z e N0 h N v l)(hn:l=[]->v=.aa)(hY:∀c∈l,∀y∈c,Y y)(hN:N0<=N)(hz:0<z)(hx:x.length=z)
  (hu:gb ⟨h,N,w⟩ z u=some (1,x)) (hb:2*(l.length+1)*bytes<=281474976710656):
  ∃v' h' w',mm ⟨h,N,w⟩ z bytes e v u=some (v',⟨h',N+1,w'⟩)/\ay N0 w'=ay N0 w/\ab h N0 h' (N+1)/\er (fun i=>i∈dk v) h N h' (N+1)/\nQ e Y h v/\Own z e N0 h' (N+1) v' (l++[x]):=by
 obtain⟨v',h',w',f1,f2,f3,f4,f5⟩:=A7 s hN hz hx hu hb;refine⟨v',h',w',f1,f2,f3,⟨wm _,fun j hj hd=>?_⟩,fun i hi=>?_,f5⟩
 ·rcases f4 j with h1|h1|⟨o,n,c,q,h1⟩
  ·exact h1
  ·omega
  exact absurd (by rw[h1];simp[dk]) hd
 obtain⟨hl,⟨rfl,rfl⟩|⟨j,rfl,h2,h3,h4⟩⟩:=s
 ·simp[dk]at hi
 simp only[dk,uv]at hi;subst hi;refine⟨_,h4,fun hc=>?_,fun y hy=>?_⟩
 ·have kg:=AH hl;rw[hc]at kg;have:l.length=0:=by
   rcases Nat.mul_eq_zero.1 kg.symm with h|h
   ·exact h
   omega
  have:=hn (rS this);cases this
 obtain⟨c,hc,Ic⟩:=List.mem_flatten.1 hy;exact hY c hc y Ic
def Yau{l:List Nat}:(l.any fun i=>Nat.ble n i&&Nat.blt i n)=false:=by rw[List.any_eq_false];intro i _ hc;rw[gI]at hc;have h1:=wQ hc.1;have h2:i<n:=wQ hc.2;omega
def Zuo{l:List Nat}:ED l (some [])=false:=by unfold ED;rw[List.any_eq_false];intro i _ hc;simp at hc
end
end Go.Mx
