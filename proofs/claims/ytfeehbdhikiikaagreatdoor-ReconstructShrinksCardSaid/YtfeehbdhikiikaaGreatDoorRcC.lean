/-lensletref01-/
import Derived.Test.YtfeehbdhikiikaaGreatDoorRbM
set_option linter.all false
set_option maxHeartbeats 4000000
namespace Go.Mx
variable{A0 P U' V' X d d1 d2 d3 tt v1 v2 z:Int}{Q U U2 Y l:List Int}{N a b iq iu j k m n2:Nat}{h h2:T O}{r0:T V}{u v x:V}
noncomputable section
open Go Go.Proofs
set_option maxRecDepth 1000000
structure SuI (h:T O) (N:Nat) (la lb:List Int) (m:Nat) (r:T V) (st:St):Prop where
 w:az N st.w=[]
 ad:ab h N st.h st.n
 ex:∃k c out D,k+m=la.length/\r.get 7=some (.int .i64 k)/\r.get 6=some (.int .i64 c)/\r.get 5=some out/\0<=c/\c<=1/\Own 1 3 N st.h st.n out (rF D)/\D.length=k/\Di D/\vI D-pI k*c=vI (la.take k)-vI (lb.take k)
def Yfs(hu:Dn h N u a)(hv:Dn h N v b)(eF:b<=a)(l1:(ds a).length<1099511627776):Fn A.C 160 [u,v] h N (fun x h' n'=>Dn h' n' x (a-b)):=by
 intro w;have l2:=wC eF;have da:=iB a;have db:=iB b;have va:=iJ a;have vb:=iJ b;have lu:=Sl.len hu;have lv:=Sl.len hv;rw[jo]at lu lv;have hu:Sl h N u (dI (ds a)):=hu;have hv:Sl h N v (dI (ds b)):=hv;generalize hA:ds a=la at*;generalize hB:ds b=lb at*;rw[aP,A.k160 (by simp)];simp[A.b160];refine cB [(5,32)] (fun e r st=>e=.exit 0/\SuI h N la lb 0 r st) (SuI h N la lb) la.length ?_ ?_ ?_
 ·exact⟨by simp,ab.refl,0,0,.aa,[],by omega,by simp,by simp,by simp,by omega,by omega,Own.nil,rfl,Di.nil,by simp[vI]⟩
 ·rintro m r ⟨H,n1,W⟩ hr hf ⟨hW,hK,k,c,out,D,hk,h7,h6,h5,c0,c1,ho,hD,dD,nW⟩;simp only at hW hK ho;rw[bG];cases m with
  |zero=>
   obtain rfl:k=la.length:=by omega
   simp[A.oL,hr,hf,h7,lu];exact⟨hW,hK,la.length,c,out,D,by omega,by simp[h7],by simp[h6],by simp[h5],c0,c1,ho,hD,dD,nW⟩
  |succ m=>
   have aD:k<la.length:=by omega
   have dj:(k:Int)<(la.length:Int):=by omega
   obtain⟨x,hx⟩:=bs aD;have dx:=da.get hx;have dy:=Yps db k;obtain⟨i,o,cc,e,rw,q1,q2,q3,q4⟩:=(hu.ad hK).at (jq hx);have e2:=fun w=>Zth (w:=w) (i:=k) (hv.ad hK) (by omega) (by omega);obtain⟨y,hy⟩:∃y,zI lb k=y:=⟨_,rfl⟩;rw[hy]at dy e2;have t3:bn .i64 (x-y)=x-y:=cN (by omega) (by omega);have t4:bn .i64 (x-y-c)=x-y-c:=cN (by omega) (by omega);have t5:bn .i64 (x-y-c+1000000000)=x-y-c+1000000000:=cN (by omega) (by omega);have hs:∀d c':Int,d-1000000000*c'=x-y-c->vI (D++[d])-pI (k+1)*c'=vI (la.take (k+1))-vI (lb.take (k+1)):=fun d c' he=>by
    rw[EL,hD,AS hx,Zol,hy,xC];have:d=x-y-c+1000000000*c':=by omega
    subst this;grind
   have ap:∀d:Int,∃v' h' w',mR ⟨H.set n1 (.cells [.int .i64 d] 3 true),n1+1,W⟩ 1 8 3 out (.slice n1 0 1 (some 1) 1)=some (v',⟨h',n1+1+1,w'⟩)/\az N w'=[]/\ab h N h' (n1+1+1)/\Own 1 3 N h' (n1+1+1) v' (rF (D++[d])):=fun d=>by have Ab:=ho.ad (ab.refl.new (.cells [.int .i64 d] 3 true));obtain⟨v',h',w',f1,f2,f3,_,f5⟩:=Az (x:=[.int .i64 d]) (u:=.slice n1 0 1 (some 1) 1) (bytes:=8) (w:=W) Ab (by have:=hK.le;omega) (by decide) rfl (by simp[fO,St.row,aO]) (by simp[rF];omega);rw[<-GN]at f5;exact⟨v',h',w',f1,by rw[f2];exact hW,(hK.new (.cells [.int .i64 d] 3 true)).then f3,f5⟩
   by_cases eD:x-y-c<0
   ·obtain⟨v',h',w',f1,f2,f3,f5⟩:=ap (x-y-c+1000000000);simp[A.oL,hr,h7,h6,h5,lu,dj,q1,q2,q3,q4,e2,t3,t4,t5,eD,ae,c9.c_];simp(disch:=first|(simp;done)|omega|rfl) [f1,hf,h7];exact⟨m,by omega,⟨f2,f3,k+1,1,v',D++[x-y-c+1000000000],by omega,by simp,by simp,by simp,by omega,by omega,f5,by simp[hD],dD.app (Di.one (by omega) (by omega)),hs _ _ (by omega)⟩⟩
   obtain⟨v',h',w',f1,f2,f3,f5⟩:=ap (x-y-c);simp[A.oL,hr,h7,h6,h5,lu,dj,q1,q2,q3,q4,e2,t3,t4,eD,ae,c9.c_];simp(disch:=first|(simp;done)|omega|rfl) [f1,hf,h7];exact⟨m,by omega,⟨f2,f3,k+1,0,v',D++[x-y-c],by omega,by simp,by simp,by simp,by omega,by omega,f5,by simp[hD],dD.app (Di.one (by omega) (by omega)),hs _ _ (by omega)⟩⟩
 rintro _ r ⟨H,n1,W⟩ hr ⟨rfl,hW,hK,k,c,out,D,hk,h7,h6,h5,c0,c1,ho,hD,dD,nW⟩;simp only at hW hK ho;obtain rfl:k=la.length:=by omega
 rw[UN (aN _),UN (by omega),va,vb]at nW;have aD:=xE dD;rw[hD]at aD;have c2:c=0:=by
  apply Int.le_antisymm _ c0;apply Gt;intro hc;have:c=1:=by omega
  subst this;omega
 subst c2;have hvD:vI D=((a-b:Nat):Int):=by omega
 simp[h5];refine au (J4 ho.sl (by omega)) ?_;rintro v2 h2 n2 k2 q2;rw[JD dD hvD]at q2;simp[ay,hW];exact⟨hK.trans k2,q2⟩
def Yi3:(0<=DK a b)↔b<=a:=by unfold DK;split<;>(try split)<;>omega
def Yrd{y:V}{a b:Int}(hx:Rg h N x a)(hy:Rg h N y b)(l1:(ds a.natAbs).length<500000000000)(l2:(ds b.natAbs).length<500000000000):Fn A.C 92 [x,y] h N (fun u h' n'=>Rg h' n' u (a+b)):=by
 intro w;obtain⟨u,rfl,hu⟩:=hx;obtain⟨v,rfl,hv⟩:=hy;have o1:=Sl.form hu |>.one;have o2:=Sl.form hu |>.cells;have o3:=Sl.form hv |>.one;have o4:=Sl.form hv |>.cells;unfold V.one at o1 o3;unfold V.cells at o2 o4;have kB:=((((ab.refl (h:=h) (n:=N)).new (.cells [.bool (decide (a<0)),u] 80 true)).new (.cells [.bool (decide (b<0)),v] 80 true)).new (.cells [.bool false,.aa] 80 true));rw[aP,A.k92 (by simp)];generalize hB:((h.set N (.cells [.bool (decide (a<0)),u] 80 true)).set (N+1) (.cells [.bool (decide (b<0)),v] 80 true)).set (N+1+1) (.cells [.bool false,.aa] 80 true)=HB at kB;have gr:HB.get (N+1+1)=some (.cells [.bool false,.aa] 80 true):=by rw[<-hB];simp
 have gx:HB.get N=some (.cells [.bool (decide (a<0)),u] 80 true):=by rw[<-hB];simp
 have gy:HB.get (N+1)=some (.cells [.bool (decide (b<0)),v] 80 true):=by rw[<-hB];simp
 by_cases wM:decide (a<0)=decide (b<0)
 ·have AZ:(decide (a<0)==decide (b<0))=true:=by rw[wM];simp
  simp[A.b92,o1,o3,aS,bz,AZ];simp only[hB];refine au (Yq9 (Sl.ad hu kB) (Sl.ad hv kB) (iB _) (iB _) (by omega) (by omega)) ?_;rintro v1 h1 n1 k1 ⟨l,q1,q2,q3,q4⟩;rw[iJ,iJ]at q3;have ez:(if decide (a<0)=true then -((a.natAbs+b.natAbs:Nat):Int) else ((a.natAbs+b.natAbs:Nat):Int))=a+b:=by by_cases h1:a<0<;>by_cases h2:b<0<;>simp[h1,h2]at wM ⊢<;>omega
  simp[];refine au (zn (b:=decide (a<0)) (n:=a.natAbs+b.natAbs) q1 q2 (by rw[q3];try simp) (by omega)) ?_;rintro v2 h2 n2 k2 fL;rw[ez]at fL;have yJ:=k1.le;have lf:=k2.le;have g1:=(k2.get (N+1+1) (by omega)).trans ((k1.get (N+1+1) (by omega)).trans gr);obtain⟨u2,rfl,gp⟩:=fL;have p1:=Sl.form gp |>.one;have p2:=Sl.form gp |>.cells;unfold V.one at p1;unfold V.cells at p2;simp[g1,p1,ae,bM,aS,aO,ay,c9.c_];exact⟨by split<;>simp[az],((kB.trans k1).trans k2).set (by omega),u2,rfl,Sl.setInt gp g1 kr rfl⟩
 have AZ:(decide (a<0)==decide (b<0))=false:=by simpa using wM
 have Co:=fun w=>Zyr (w:=w) (Sl.ad hu kB) (Sl.ad hv kB) (by omega) (by omega);by_cases re:b.natAbs<=a.natAbs
 ·have Cj:0<=DK a.natAbs b.natAbs:=Yi3.2 re;simp[A.b92,o1,o3,aS,bz,AZ];simp only[hB];simp[Co,Cj,gx,gy,aS];refine au (Yfs (Sl.ad hu kB) (Sl.ad hv kB) re (by omega)) ?_;rintro v1 h1 n1 k1 q1;have q2:=iB (a.natAbs-b.natAbs);have q3:=iJ (a.natAbs-b.natAbs);have q4:=wC (Nat.sub_le a.natAbs b.natAbs);have ez:(if decide (a<0)=true then -((a.natAbs-b.natAbs:Nat):Int) else ((a.natAbs-b.natAbs:Nat):Int))=a+b:=by by_cases h1:a<0<;>by_cases h2:b<0<;>simp[h1,h2]at wM ⊢<;>omega
  simp[];refine au (zn (b:=decide (a<0)) (n:=a.natAbs-b.natAbs) q1 q2 (by rw[q3];try simp) (by omega)) ?_;rintro v2 h2 n2 k2 fL;rw[ez]at fL;have yJ:=k1.le;have lf:=k2.le;have g1:=(k2.get (N+1+1) (by omega)).trans ((k1.get (N+1+1) (by omega)).trans gr);obtain⟨u2,rfl,gp⟩:=fL;have p1:=Sl.form gp |>.one;have p2:=Sl.form gp |>.cells;unfold V.one at p1;unfold V.cells at p2;simp[g1,p1,ae,bM,aS,aO,ay,c9.c_];exact⟨by split<;>simp[az],((kB.trans k1).trans k2).set (by omega),u2,rfl,Sl.setInt gp g1 kr rfl⟩
 have Cj:¬0<=DK a.natAbs b.natAbs:=fun hc=>re (Yi3.1 hc);simp[A.b92,o1,o3,aS,bz,AZ];simp only[hB];simp[Co,Cj,gx,gy,aS];refine au (Yfs (Sl.ad hv kB) (Sl.ad hu kB) (by omega) (by omega)) ?_;rintro v1 h1 n1 k1 q1;have q2:=iB (b.natAbs-a.natAbs);have q3:=iJ (b.natAbs-a.natAbs);have q4:=wC (Nat.sub_le b.natAbs a.natAbs);have ez:(if decide (b<0)=true then -((b.natAbs-a.natAbs:Nat):Int) else ((b.natAbs-a.natAbs:Nat):Int))=a+b:=by by_cases h1:a<0<;>by_cases h2:b<0<;>simp[h1,h2]at wM ⊢<;>omega
 simp[];refine au (zn (b:=decide (b<0)) (n:=b.natAbs-a.natAbs) q1 q2 (by rw[q3];try simp) (by omega)) ?_;rintro v2 h2 n2 k2 fL;rw[ez]at fL;have yJ:=k1.le;have lf:=k2.le;have g1:=(k2.get (N+1+1) (by omega)).trans ((k1.get (N+1+1) (by omega)).trans gr);obtain⟨u2,rfl,gp⟩:=fL;have p1:=Sl.form gp |>.one;have p2:=Sl.form gp |>.cells;unfold V.one at p1;unfold V.cells at p2;simp[g1,p1,ae,bM,aS,aO,ay,c9.c_];exact⟨by split<;>simp[az],((kB.trans k1).trans k2).set (by omega),u2,rfl,Sl.setInt gp g1 kr rfl⟩
variable {n:Nat}
def A.RQ:=A.q Tryz.f128
def A.pj:=A.ql A.RQ 0 []
def A.b128:=(fun x0=>A.qb A.RQ [x0]) A.pj
def A.k128:=@A.kk 128 25 [.tmp 4] A.b128 (by kernel_rfl) rfl
def A.RS:=A.q Tryz.f132
def A.uv:=A.ql A.RS 0 []
def A.b132:=(fun x0=>A.qb A.RS [x0]) A.uv
def A.k132:=@A.kk 132 39 [.tmp 2] A.b132 (by kernel_rfl) rfl
def Yio:js 0 0=[]:=by simp[js,vK]
def Yip(h:n≠0\/0<m):js n m=js (n/10) (m-1)++[dv n]:=by
 unfold js;by_cases hn:n=0
 ·subst hn;have hm:0<m:=by omega
  simp only[vK,Nat.zero_div,List.length_nil,Nat.sub_zero,zO];obtain⟨k,rfl⟩:∃k,m=k+1:=⟨m-1,by omega⟩;have:dv 0=48:=by decide
  rw[this,List.replicate_succ',Nat.add_sub_cancel]
 rw[zv hn];have:m-(dC (n/10)++[dv n]).length=m-1-(dC (n/10)).length:=by simp;omega
 rw[this,uJ]
def Ytn(hk:k<10):(Yz9.take (k+1)).drop k=[dv k]:=by
 have:k=0\/k=1\/k=2\/k=3\/k=4\/k=5\/k=6\/k=7\/k=8\/k=9:=by omega
 rcases this with rfl|rfl|rfl|rfl|rfl|rfl|rfl|rfl|rfl|rfl<;>decide
def Ytr(n:Nat):dv (n%10)=dv n:=by unfold dv;rw[Nat.mod_mod]
def Nk{st:St}(hn:n<9223372036854775808)(hm:m<1000):A.C.call (.func 128 [] []) [.int .i64 n,.int .i64 m] st=some (.str (js n m),st):=by
 apply Call.eq;rw[aP,A.k128 (by simp)];simp[A.b128];have hlen:(js n m).length<2000:=by have:(dC n).length<=19:=rI.1 (by omega);unfold js;simp;omega
 refine cB [(0,0),(5,23)] (fun e r s1=>s1=⟨st.h,st.n,[]⟩/\e=.exit 0/\r.get 5=some (.str (js n m))) (fun q r s1=>s1=⟨st.h,st.n,[]⟩/\∃k s,q=k+(m-s.length)/\k<9223372036854775808/\r.get 0=some (.int .i64 k)/\r.get 5=some (.str s)/\js n m=js k (m-s.length)++s) (n+m) ?_ ?_ ?_
 ·exact⟨rfl,n,[],by simp,hn,by simp,by simp,by simp⟩
 ·rintro q r _ hr hf ⟨rfl,k,s,rfl,hk,h0,h5,hd⟩;rw[bG];by_cases vE:k≠0\/0<m-s.length
  ·have fF:=Yip (n:=k) (m:=m-s.length) vE;rw[fF,uJ,TW]at hd;have cv:s.length+1<2000:=by have:=congrArg List.length hd;simp at this;omega
   have t1:(k:Int).tmod 10=((k%10:Nat):Int):=by rw[Gq (by omega)];omega
   have t2:(k:Int).tdiv 10=((k/10:Nat):Int):=by rw[Dd (by omega)];omega
   have t3:bn .i64 ((k/10:Nat):Int)=((k/10:Nat):Int):=cN (by omega) (by omega);have t4:bn .i64 (((k%10:Nat):Int)+1)=((k%10+1:Nat):Int):=by rw[cN (by omega) (by omega)];omega
   have RT:¬(9223372036854775807:Int)<1+(s.length:Int):=by omega
   have dq:IntKind.max .i64=9223372036854775807:=rfl;have sl:∀st:St,uS st (some (.str [48,49,50,51,52,53,54,55,56,57])) (some (some (.int .i64 ((k:Int)%10)))) (some (some (.int .i64 ((k:Int)%10+1))))=some (.str [dv k],st):=fun st=>by
    rw[Zq7 (by omega) (by omega) (by simp;omega)];have e1:((k:Int)%10).toNat=k%10:=by omega
    have e2:((k:Int)%10+1).toNat=k%10+1:=by omega
    rw[e1,e2];have:=Ytn (k:=k%10) (by omega);rw[Ytr]at this;exact congrArg (fun x=>some (V.str x,st)) this
   have J3:0<k\/(¬0<k/\s.length<m):=by omega
   rcases J3 with g1|⟨g1,g2⟩
   ·have i1:(0:Int)<(k:Int):=by omega
    simp(disch:=first|(simp;done)|omega|rfl) [A.pj,hf,h0,h5,g1,t1,t2,jJ,dq,sl,RT];exact⟨k/10+(m-(s.length+1)),by omega,k/10,dv k::s,by simp,by omega,by simp,by simp,by rw[hd,bl,Nat.sub_sub]⟩
   have i1:¬(0:Int)<(k:Int):=by omega
   have i2:(s.length:Int)<(m:Int):=by omega
   simp(disch:=first|(simp;done)|omega|rfl) [A.pj,hr,hf,h0,h5,g1,i2,t1,t2,jJ,dq,sl,RT];exact⟨k/10+(m-(s.length+1)),by omega,k/10,dv k::s,by simp,by omega,by simp,by simp,by rw[hd,bl,Nat.sub_sub]⟩
  have g1:¬0<k:=by omega
  have g2:¬s.length<m:=by omega
  have i1:¬(0:Int)<(k:Int):=by omega
  have i2:¬(s.length:Int)<(m:Int):=by omega
  obtain rfl:k=0:=by omega
  rw[show m-s.length=0 by omega,Yio,List.nil_append]at hd;simp[A.pj,hr,hf,h0,h5,i2,hd]
 rintro _ r _ hr ⟨rfl,rfl,h5⟩;simp[h5]
def RU:(aq n).length<=9*(ds n).length+1:=by
 have h1:n<10^(9*(ds n).length):=by have h2:=xE (iB n);rw[iJ,UO]at h2;have h3:=Int.ofNat_lt.1 h2;rw[Nat.pow_mul];exact h3
 have:=rI.1 h1;unfold aq;split<;>simp<;>omega
def Zyo:(aq (n/k)).length<=9*(ds n).length+1:=by have h1:=RU (n:=n/k);have h2:=wC (xy n k);omega
def Nl(hx:Rg h N x z)(hl:(ds z.natAbs).length<100000000000):Fn A.C 132 [x] h N (fun u _ _=>u=.str (aM z)):=by
 intro w;obtain⟨u,rfl,hu⟩:=hx;have o1:=Sl.form hu |>.one;have o2:=Sl.form hu |>.cells;unfold V.one at o1;unfold V.cells at o2;have kB:=((ab.refl (h:=h) (n:=N)).new (.cells [.bool (decide (z<0)),u] 80 true));have gp:Sl (h.set N (.cells [.bool (decide (z<0)),u] 80 true)) (N+1) u (dI (ds z.natAbs)):=Sl.ad hu kB;have lu:=gp.len;rw[jo]at lu;rw[aP,A.k132 (by simp)];by_cases h0:z=0
 ·subst h0;have e0:(ds (0:Int).natAbs).length=0:=by rw[show (0:Int).natAbs=0 from rfl,ve];rfl
  rw[e0]at lu;have e1:aM 0=[48]:=by decide
  simp[A.b132,o1,lu,ay,e1];exact kB
 obtain⟨n,hn⟩:∃n,z.natAbs=n:=⟨_,rfl⟩;rw[hn]at lu gp hl;have A5:n≠0:=by omega
 have qz:(ds n).length≠0:=fun hc=>A5 (EN.1 (tC hc));obtain⟨L,hL⟩:∃L,(ds n).length=L+1:=⟨(ds n).length-1,by omega⟩;have Ak:=fun (k:Nat)=>Zyo (n:=n) (k:=k);rw[hL]at lu;obtain⟨f,hF⟩:∃f:Nat->aH,∀m,f m=aq (n/1000000000^m):=⟨_,fun _=>rfl⟩;obtain⟨g,hG⟩:∃g:Nat->Nat,∀m,g m=n/1000000000^m%1000000000:=⟨_,fun _=>rfl⟩;have wG:f 0=aq n:=by rw[hF];simp
 have zw:∀m,g m<1000000000:=fun m=>by rw[hG];exact m_ _ (by omega)
 have hg:∀m,m<L+1->(ds n)[m]?=some (g m):=fun m hm=>by rw[hG];exact UM (by omega)
 have VX:f L=js (g L) 1:=by rw[hF,hG];exact Ym7 hL.symm
 have xf:∀m,m<L->f m=f (m+1)++js (g m) 9:=fun m hm=>by rw[hF,hF,hG];exact Yiq (by omega)
 have lG:∀m,(f m).length<=9*(L+1)+1:=fun m=>by rw[hF,<-hL];exact Ak _
 clear hF hG Ak;obtain⟨i,o,c,e,rw,q1,q2,q3,q4⟩:=gp.at (jq (hg L (by omega)));have c1:¬((L:Int)+1=0):=by omega
 have c2:((L:Int)+1-1)=(L:Int):=by omega
 have c3:(L:Int)<(L:Int)+1:=by omega
 have c4:((L:Int)+1-2)=(L:Int)-1:=by omega
 have c5:bn .i64 ((L:Int)+1-1)=(L:Int):=by rw[c2];exact cN (by omega) (by omega)
 have c6:bn .i64 ((L:Int)+1-2)=(L:Int)-1:=by rw[c4];exact cN (by omega) (by omega)
 have KF:∀m st,A.C.call (.func 128 [] []) [.int .i64 (g m),.int .i64 1] st=some (.str (js (g m) 1),st):=fun m st=>Nk (n:=g m) (m:=1) (st:=st) (by have:=zw m;omega) (by omega);have qc:∀m st,A.C.call (.func 128 [] []) [.int .i64 (g m),.int .i64 9] st=some (.str (js (g m) 9),st):=fun m st=>Nk (n:=g m) (m:=9) (st:=st) (by have:=zw m;omega) (by omega);simp(disch:=omega) [A.b132,o1,lu,c1,c2,c6,q1,q3,q4,KF];rw[<-VX];refine cB [(3,4),(22,33)] (fun e r s1=>s1=⟨h.set N (.cells [.bool (decide (z<0)),u] 80 true),N+1,[]⟩/\e=.exit 0/\r.get 1=some (.ptr N 0)/\r.get 3=some (.str (aq n))) (fun m r s1=>s1=⟨h.set N (.cells [.bool (decide (z<0)),u] 80 true),N+1,[]⟩/\m<=L/\r.get 1=some (.ptr N 0)/\r.get 4=some (.int .i64 ((m:Int)-1))/\r.get 3=some (.str (f m))) L ?_ ?_ ?_
 ·exact⟨rfl,by omega,by simp,by simp,by simp⟩
 ·rintro m r _ hr hf ⟨rfl,hm,h1,h4,h3⟩;rw[bG];rcases m with _|m
  ·have e1:(((0:Nat):Int)-1<0):=by omega
   rw[wG]at h3;simp[A.uv,hr,hf,h3,h4]
  have e3:(((m+1:Nat):Int)-1)=(m:Int):=by omega
  have e4:¬((m:Int)<0):=by omega
  rw[e3]at h4;obtain⟨i,o,c,e,rw,q1,q2,q3,q4⟩:=gp.at (jq (hg m (by omega)));have hp:(f m).length=(f (m+1)).length+(js (g m) 9).length:=by rw[xf m (by omega),iU]
  have AU:¬(9223372036854775807:Int)<((f (m+1)).length:Int)+((js (g m) 9).length:Int):=by have:=lG m;omega
  have dq:IntKind.max .i64=9223372036854775807:=rfl;have w1:bn .i64 ((m:Int)-1)=(m:Int)-1:=cN (by omega) (by omega);have c7:(m:Int)<(L:Int)+1:=by omega
  have f1:=(xf m (by omega)).symm;have f2:m<m+1/\m<=L:=by omega
  have Ee:=qc m;clear hp qz A5 hn hm hl hL xf lG qc KF VX hg zw wG;simp[A.uv,hr,hf,h3,h4,lu,c7,q1,q3,q4,Ee,jJ,dq,AU,w1,f1];exact⟨m,f2.1,f2.2,rfl,rfl⟩
 rintro _ r _ hr ⟨rfl,rfl,h1,h3⟩;have iC:=RU (n:=n);have dq:IntKind.max .i64=9223372036854775807:=rfl;have cv:¬(9223372036854775807:Int)<1+((aq n).length:Int):=by omega
 by_cases hz:z<0
 ·have e1:aM z=45::aq n:=by unfold aM;rw[av hz,hn]
  clear iC qz A5 hn hL xf lG qc KF VX hg zw wG hl;simp[hr,h3,hz,jJ,dq,cv,ay,e1];simpa[hz]using kB
 have e1:aM z=aq n:=by unfold aM;rw[ak hz,hn]
 clear iC qz A5 hn hL xf lG qc KF VX hg zw wG hl;simp[hr,h3,hz,ay,e1];simpa[hz]using kB
open Go
def Yw6{t r:Int}(hP:0<P)(Kh:0<=U')(hU:U'<P)(zb:0<=V')(hV:V'<P)(h1:0<=d1)(iz:d1<1000000000)(h2:0<=d2)(h3:0<=d3)(w1:500000000<=v1)(w2:0<=v2)(w2':v2<1000000000)
  (hW:U'+P*(d1+1000000000*(d3*1000000000+d2))<1000000000*(V'+P*(v2+1000000000*v1))) (ht:d3*1000000000+d2=t*v1+r) (gI:0<=r) (Hk:r<v1):
  0<=t/\t<=1000000001/\U'+P*(d1+1000000000*(d3*1000000000+d2))<(t+1)*(V'+P*(v2+1000000000*v1)):=by
 generalize hT:d3*1000000000+d2=T at*;have LA:0<=T:=by omega
 have t0:0<=t:=by apply Gt;intro hc;have:t*v1<=(-1)*v1:=Gs (by omega) (by omega);omega
 have a1:T<1000000000*(v1+1):=by
  apply Mk;intro hc;have b1:P*(1000000000*(v1+1))<=P*T:=tD hc (by omega);have b2:0<=P*d1:=yX (by omega) h1;have b3:P*v2<=P*999999999:=tD (by omega) (by omega);have b4:P*(d1+1000000000*T)=P*d1+1000000000*(P*T):=by grind
  have b5:P*(v2+1000000000*v1)=P*v2+1000000000*(P*v1):=by grind
  have b6:P*(1000000000*(v1+1))=1000000000*(P*v1)+1000000000*P:=by grind
  omega
 have a2:t<=1000000001:=by apply Gt;intro hc;have b1:1000000002*v1<=t*v1:=Gs (by omega) (by omega);omega
 refine⟨t0,a2,?_⟩;have c1:(t+1)*v1=t*v1+v1:=by grind
 have b1:P*(T+1)<=P*((t+1)*v1):=tD (by omega) (by omega);have b2:P*d1<=P*999999999:=tD (by omega) (by omega);have b3:0<=(t+1)*V':=yX (by omega) zb;have b4:0<=(t+1)*(P*v2):=yX (by omega) (yX (by omega) w2);have b5:P*(d1+1000000000*T)=P*d1+1000000000*(P*T):=by grind
 have b6:(t+1)*(V'+P*(v2+1000000000*v1))=(t+1)*V'+(t+1)*(P*v2)+1000000000*(P*((t+1)*v1)):=by grind
 have b7:P*(T+1)=P*T+P:=by grind
 omega
def A.RV:=A.q Tryz.f191
def A.jx:=A.ql A.RV 0 []
def A.b191:=(fun x0=>A.qb A.RV [x0]) A.jx
def A.k191:=@A.kk 191 77 [.tmp 6] A.b191 (by kernel_rfl) rfl
structure GuR (W D v1 top:Int) (m:Nat) (r:T V):Prop where
 ex:∃t q:Int,t.toNat=m/\r.get 9=some (.int .i64 t)/\r.get 10=some (.int .i64 q)/\0<=t/\t<=1000000001/\0<=q/\q<1000000000/\top=t*v1+q/\W<(t+1)*D
def Ymk{L:List Int}{W D:Int}{w:List Nat}(hu:Sl h N u (dI L))(hv:Sl h N v (dI Y))(hY:Y.length=k+2)(hL:L.length<1099511627776)(e1:L[j+k]?=some d1)(e2:L[j+k+1]?=some d2)(e3:L[j+k+2]?=some d3)(f2:Y[k]?=some v2)(f1:Y[k+1]?=some v1)
  (r1:0<=d1/\d1<1000000000) (r2:0<=d2/\d2<1000000000) (r3:0<=d3/\d3<1000000000) (r4:500000000<=v1/\v1<1000000000) (r5:0<=v2/\v2<1000000000) (hP:0<P) (Kh:0<=U') (hU:U'<P) (zb:0<=V') (hV:V'<P) (hW:W=U'+P*(d1+1000000000*(d3*1000000000+d2))) (hD:D=V'+P*(v2+1000000000*v1)) (hWD:W<1000000000*D):
  ∃t,A.C.call (.func 191 [] []) [u,v,.int .i64 j] ⟨h,N,w⟩=some (.int .i64 t,⟨h,N,w⟩)/\0<=t/\t<=1000000000/\(t-1)*D<=W/\W<(t+1)*D:=by
 have lu:=hu.len;have lv:=hv.len;rw[jo]at lu lv;rw[hY]at lv;have qW:=fv e3;have goal:Call A.C (.func 191 [] []) [u,v,.int .i64 j] ⟨h,N,w⟩ (fun x s=>s=⟨h,N,w⟩/\∃t,x=.int .i64 t/\0<=t/\t<=1000000000/\(t-1)*D<=W/\W<(t+1)*D):=by
  obtain⟨a1,a2,a3,a4,a5,x1,x2,x3,x4⟩:=hu.at (jq e1);obtain⟨Vr,a2',a3',a4',a5',x1',x2',x3',x4'⟩:=hu.at (jq e2);obtain⟨zbT,zbU,zbV,zbW,zbX,KR,zbY,KS,zaW⟩:=hu.at (jq e3);rw[x1]at x1' KR;simp only[ar,bB]at x1' KR;obtain⟨rfl,rfl⟩:=x1';obtain⟨rfl,rfl⟩:=KR;rw[x3]at x3' KS;simp only[ar,O.cells.injEq]at x3' KS;obtain⟨rfl,rfl,rfl⟩:=x3';obtain⟨rfl,_,_⟩:=KS;obtain⟨b1,b2,b3,b4,b5,y1,y2,y3,y4⟩:=hv.at (jq f2);obtain⟨b1',b2',b3',b4',b5',y1',y2',y3',RW⟩:=hv.at (jq f1);rw[y1]at y1';simp only[ar,bB]at y1';obtain⟨rfl,rfl⟩:=y1';rw[y3]at y3';simp only[ar,O.cells.injEq]at y3';obtain⟨rfl,_,_⟩:=y3';have c1:((k:Int)+2-1)=(k:Int)+1:=by omega
  have c4:((k:Int)+2-2)=(k:Int):=by omega
  have c5:((j:Int)+((k:Int)+2))=(j:Int)+(k:Int)+2:=by omega
  have n1:((j:Int)+(k:Int)+2).toNat=j+k+2:=by omega
  have n3:((j:Int)+(k:Int)).toNat=j+k:=by omega
  have n4:((k:Int)+1).toNat=k+1:=by omega
  have k2:(k:Int)<(k:Int)+2:=by omega
  have k3:(0:Int)<=(k:Int)+1:=by omega
  have u1:bn .i64 (d3*1000000000)=d3*1000000000:=cN (by omega) (by omega);have u2:bn .i64 (d3*1000000000+d2)=d3*1000000000+d2:=cN (by omega) (by omega);have s0:0<=d3*1000000000+d2:=by omega
  have v0:¬v1=0:=by omega
  have t1:(d3*1000000000+d2).tdiv v1=(d3*1000000000+d2)/v1:=Dd s0;have t2:(d3*1000000000+d2).tmod v1=(d3*1000000000+d2)%v1:=Gq s0;have t3:=Gy (d3*1000000000+d2) v1;have t4:=Gu (d3*1000000000+d2) v0;have t5:=Gz (d3*1000000000+d2) (b:=v1) (by omega);have gi:=Yw6 (t:=(d3*1000000000+d2)/v1) (r:=(d3*1000000000+d2)%v1) hP Kh hU zb hV r1.1 r1.2 r2.1 r3.1 r4.1 r5.1 r5.2 (by rw[<-hW,<-hD];exact hWD) (by rw[Int.mul_comm (_/_) v1];exact t3.symm) t4 t5;rw[<-hW,<-hD]at gi;obtain⟨g1,g2,g3⟩:=gi;have t6:bn .i64 ((d3*1000000000+d2)/v1)=(d3*1000000000+d2)/v1:=cN (by omega) (by omega);rw[aP,A.k191 (by simp)];simp(disch:=first|(simp;done)|omega|rfl) [A.b191,lv,lu,c1,c5,n1,n4,x1,x2,x3,x4',zaW,y1,y2,y3,RW,u1,u2,t1,t2,t6];generalize Cw:d3*1000000000+d2=D1 at*;refine cB [(6,6),(9,10),(42,75)] (fun e r st=>st=⟨h,N,[]⟩/\((e=.exit 0/\∃t,r.get 9=some (.int .i64 t)/\0<=t/\t<=1000000000/\(t-1)*D<=W/\W<(t+1)*D)\/(e=.ret/\∃t,r.get 6=some (.int .i64 t)/\0<=t/\t<=1000000000/\(t-1)*D<=W/\W<(t+1)*D))) (fun m r st=>st=⟨h,N,[]⟩/\GuR W D v1 D1 m r) (D1/v1).toNat ?_ ?_ ?_
  ·exact⟨rfl,⟨D1/v1,D1%v1,rfl,by simp,by simp,g1,g2,t4,by omega,by rw[Int.mul_comm (_/_) v1];exact t3.symm,g3⟩⟩
  ·rintro m r _ hr hf ⟨rfl,⟨t,q,rfl,h9,iN,VY,tq1,q0,q1,mK,aD⟩⟩;rw[bG];by_cases hA:1000000000<=t
   ·have aD:W<t*D:=by
     have d0:0<=D:=by have:=yX (wx hP) (show 0<=v2+1000000000*v1 by omega);omega
     have:=Gs hA d0;omega
    have tp:1<=t:=by omega
    have mV:bn .i64 (q+v1)=q+v1:=cN (by omega) (by omega);have zp:bn .i64 (t-1)=t-1:=cN (by omega) (by omega);have e5:D1=t*v1+q:=mK;have e6:(t-1)*v1+(q+v1)=t*v1+q:=by grind
    by_cases re:1000000000<=q+v1
    ·simp(disch:=first|(simp;done)|omega|rfl) [A.jx,hr,hf,h9,iN,lv,c1,n4,y1,y3,RW,hA,mV,zp,re];refine⟨by omega,by omega,?_,aD⟩;have m1:(t-1)*v2<=1000000000*v2:=Gs (by omega) r5.1;have:=Zx6 (t:=t-1) (r:=q+v1) (v1:=v1) (u1:=D1) hP Kh r1.1 s0 (by omega) r5.1 zb hV (by omega) (by omega) (by rw[e6];exact mK) (by omega);rw[hW,hD];exact this
    simp(disch:=first|(simp;done)|omega|rfl) [A.jx,hr,hf,h9,iN,lv,c1,n4,y1,y3,RW,hA,mV,zp,re];exact⟨(t-1).toNat,by omega,⟨t-1,q+v1,rfl,by simp,by simp,by omega,by omega,by omega,by omega,by rw[e6];exact mK,by rw[show t-1+1=t by omega];exact aD⟩⟩
   have hA':¬1000000000<=t:=hA;have m0:0<=t*v2:=yX VY r5.1;have m1:t*v2<=1000000000*1000000000:=Int.mul_le_mul (by omega) (by omega) r5.1 (by omega);have b1':bn .i64 (t*v2)=t*v2:=cN (by omega) (by omega);have b2':bn .i64 (q*1000000000)=q*1000000000:=cN (by omega) (by omega);have b3':bn .i64 (q*1000000000+d1)=q*1000000000+d1:=cN (by omega) (by omega);by_cases hB:q*1000000000+d1<t*v2
   ·have aD:W<t*D:=by have:=Ysv (t:=t) (r:=q) (v1:=v1) (u1:=D1) hP hU zb VY mK hB;rw[hW,hD];exact this
    have tz:t≠0:=fun hc=>by rw[hc]at hB;simp at hB;omega
    have tp:1<=t:=by omega
    have mV:bn .i64 (q+v1)=q+v1:=cN (by omega) (by omega);have zp:bn .i64 (t-1)=t-1:=cN (by omega) (by omega);have e5:D1=t*v1+q:=mK;have e6:(t-1)*v1+(q+v1)=t*v1+q:=by grind
    by_cases re:1000000000<=q+v1
    ·simp(disch:=first|(simp;done)|omega|rfl) [A.jx,hr,hf,h9,iN,lv,lu,c1,c4,c5,n3,n4,x1,x2,x3,x4,y1,y2,y3,y4,RW,hA',b1',b2',b3',hB,mV,zp,re];refine⟨by omega,by omega,?_,aD⟩;have m1:(t-1)*v2<=1000000000*v2:=Gs (by omega) r5.1;have:=Zx6 (t:=t-1) (r:=q+v1) (v1:=v1) (u1:=D1) hP Kh r1.1 s0 (by omega) r5.1 zb hV (by omega) (by omega) (by rw[e6];exact mK) (by omega);rw[hW,hD];exact this
    simp(disch:=first|(simp;done)|omega|rfl) [A.jx,hr,hf,h9,iN,lv,lu,c1,c4,c5,n3,n4,x1,x2,x3,x4,y1,y2,y3,y4,RW,hA',b1',b2',b3',hB,mV,zp,re];exact⟨(t-1).toNat,by omega,⟨t-1,q+v1,rfl,by simp,by simp,by omega,by omega,by omega,by omega,by rw[e6];exact mK,by rw[show t-1+1=t by omega];exact aD⟩⟩
   simp(disch:=first|(simp;done)|omega|rfl) [A.jx,hr,hf,h9,iN,lv,lu,c4,c5,n3,x1,x2,x3,x4,y1,y2,y3,y4,hA',b1',b2',b3',hB];refine⟨VY,by omega,?_,aD⟩;have:=Zx6 (t:=t) (r:=q) (u1:=D1) hP Kh r1.1 s0 (by omega) r5.1 zb hV VY (by omega) mK (by omega);rw[hW,hD];exact this
  rintro e r _ hr ⟨rfl,⟨rfl,t,h9,ht⟩|⟨rfl,t,h6,ht⟩⟩
  ·simp[h9];exact ht
  simp[h6];exact ht
 obtain⟨x,s,hc,rfl,t,rfl,h1,h2,h3,h4⟩:=goal.ex;exact⟨t,hc,h1,h2,h3,h4⟩
def A.CF:=A.q Tryz.f131
def A.pk:=A.ql A.CF 3 []
def A.mL:=A.ql A.CF 2 []
def A.pn:=(fun x0 x1=>A.ql A.CF 1 [x0,x1]) A.mL A.pk
def A.ph:=A.ql A.CF 0 []
def A.b131:=(fun x0 x1=>A.qb A.CF [x0,x1]) A.ph A.pn
def A.k131:=@A.kk 131 206 [.tmp 4,.tmp 5] A.b131 (by kernel_rfl) rfl
structure DvS (N:Nat) (h2:T O) (n2 iu iq n:Nat) (U Q:List Int) (st:St):Prop where
 w:az N st.w=[]
 ad:ab h2 n2 st.h n
 n:st.n=n
 ru:st.h.get iu=some (.cells (dI U) 3 true)
 rq:st.h.get iq=some (.cells (dI Q) 3 true)
structure DvR (r0:T V) (v:V) (iu lu L j:Nat):Prop where
 r9:r0.get 9=some v
 wD:r0.get 10=some (.int .i64 L)
 yb:r0.get 11=some (.slice iu 0 lu none 1)
 wF:r0.get 13=some (.int .i64 j)
structure RX (N:Nat) (h2:T O) (n2 iu iq n:Nat) (U Q Y:List Int) (L j:Nat) (t:Int) (m:Nat) (r:T V) (st:St):Prop where
 ex:∃i U' c,i+m=L/\r.get 16=some (.int .i64 i)/\r.get 15=some (.int .i64 c)/\0<=c/\c<=1000000000/\DvS N h2 n2 iu iq n U' Q st/\U'.length=U.length/\(∀s,(s<j\/j+i<=s)->U'[s]?=U[s]?)/\Di U'/\vI U'-pI (j+i)*c=vI U-pI j*(t*vI (Y.take i))
def Ykc{L:Nat}{t:Int}(hv:Sl h2 n2 v (dI Y))(hY:Y.length=L)(dY:Di Y)(JT:j+L<U.length)(CR:U.length<1099511627776)(R:DvR r0 v iu U.length L j)(M9:r0.get 14=some (.int .i64 t))(t0:0<=t)(t1:t<=1000000000)(a1:N<=n2)(a2:n2<=iu)(a3:iu<iq)(a4:iq<n):
  ∀k r st,(∀t,kV [(15,18),(90,125)] t=false->r.get t=r0.get t)->Fx [(15,18),(90,125)] r0 206 ⟨r,206,[]⟩->RX N h2 n2 iu iq n U Q Y L j t k r st->Code A.C none A.mL ⟨r,206,[]⟩ st (Rd [(15,18),(90,125)] r0 206 (RX N h2 n2 iu iq n U Q Y L j t) k (fun e r st=>e=.exit 4/\RX N h2 n2 iu iq n U Q Y L j t 0 r st)):=by
 rintro m r ⟨H,n1,W⟩ hr hf ⟨i,U',c,hi,RY,Fz,c0,c1,⟨hW,hK,hn,ru,rq⟩,lH,fu,jL,jj⟩;simp only at hW hK hn ru rq;subst hn;obtain⟨r9,wD,yb,wF⟩:=R;rw[bG];cases m with
 |zero=>
  have:i=L:=by omega
  subst this;simp[A.mL,hr,hf,RY,wD];exact⟨i,U',c,by omega,by simp[RY],by simp[Fz],c0,c1,⟨hW,hK,rfl,ru,rq⟩,lH,fu,jL,jj⟩
 |succ m=>
  obtain⟨y,hy⟩:=bs (l:=Y) (k:=i) (by omega);have lv:=hv.len;rw[jo,hY]at lv;obtain⟨b1,b2,b3,b4,b5,z1,z2,z3,z4⟩:=hv.at (jq hy);have z3:=(hK.get _ z2).trans z3;have Nh:=dY.get hy;obtain⟨o,ho⟩:=bs (l:=U') (k:=i+j) (by omega);have hod:=jL.get ho;have AX:(i:Int)<(L:Int):=by omega
  have p0:0<=t*y:=yX t0 Nh.1;have p1:t*y<=1000000000*999999999:=Int.mul_le_mul t1 (by omega) Nh.1 (by omega);have q1:(i:Int)+(j:Int)<(U.length:Int):=by omega
  have q2:i+j<U.length:=by omega
  have q3:(0:Int)<=(i:Int)+(j:Int):=by omega
  have nn:¬iu<N:=by omega
  have w8:=jo U';have hsu:=EM ho;have Pw:=AS hy;have hp:=T3 i j;have th:=xC (j+i);generalize hP:t*y=P at*;have b1':bn .i64 P=P:=cN (by omega) (by omega);have b2':bn .i64 (P+c)=P+c:=cN (by omega) (by omega);have VZ:(P+c).tmod 1000000000=(P+c)%1000000000:=Gq (by omega);have V0:(P+c).tdiv 1000000000=(P+c)/1000000000:=Dd (by omega);have hm:=Gy (P+c) 1000000000;have e0:=Gu (P+c) (b:=1000000000) (by decide);have e1:=Gz (P+c) (b:=1000000000) (by decide);have key:∀(x' c':Int),x'-1000000000*c'=o-(P+c)->vI (U'.set (i+j) x')-pI (j+(i+1))*c'=vI U-pI j*(t*vI (Y.take (i+1))):=by
   intro x' c' hx;rw[hsu,Pw,show j+(i+1)=j+i+1 by omega,th,show i+j=j+i by omega];have h3:vI U'=vI U-pI j*(t*vI (Y.take i))+pI (j+i)*c:=by omega
   have h4:x'=o-(P+c)+1000000000*c':=by omega
   rw[h3,h4,show j+i=i+j by omega,hp,<-hP];grind
  have same:∀(x':Int) (s:Nat),(s<j\/j+(i+1)<=s)->(U'.set (i+j) x')[s]?=U[s]?:=by intro x' s hs;rw[fk (by omega)];exact fu s (by omega)
  generalize (P+c)/1000000000=D at*;generalize (P+c)%1000000000=M at*;have b3':bn .i64 D=D:=cN (by omega) (by omega);have b4':bn .i64 (o-M)=o-M:=cN (by omega) (by omega);have d4:b1<n1:=by have:=hK.le;omega
  have d5:¬iq=iu:=by omega
  by_cases eD:o-M<0
  ·have b5':bn .i64 (o-M+1000000000)=o-M+1000000000:=cN (by omega) (by omega);have b6':bn .i64 (D+1)=D+1:=cN (by omega) (by omega);have w7:=Dw (l:=U') (k:=i+j) (v:=o-M+1000000000) (by omega);simp(disch:=first|(simp;done)|omega|rfl) [-getElem?_pos,A.mL,hr,hf,RY,Fz,r9,wD,yb,wF,M9,AX,lv,ru,jq ho,z1,z3,z4,hP,b1',b2',b3',b4',b5',b6',VZ,V0,eD,w7];refine⟨m,by omega,⟨i+1,U'.set (i+j) (o-M+1000000000),D+1,by omega,by simp,by simp,by omega,by omega,⟨by simp[az,hW,nn],hK.set (by omega),rfl,by simp,by simp[d5,rq]⟩,by simp[lH],same _,jL.set (by omega) (by omega),key _ _ (by omega)⟩⟩
  have w7:=Dw (l:=U') (k:=i+j) (v:=o-M) (by omega);simp(disch:=first|(simp;done)|omega|rfl) [-getElem?_pos,A.mL,hr,hf,RY,Fz,r9,wD,yb,wF,M9,AX,lv,ru,jq ho,z1,z3,z4,hP,b1',b2',b3',b4',VZ,V0,eD,w7];refine⟨m,by omega,⟨i+1,U'.set (i+j) (o-M),D,by omega,by simp,by simp,by omega,by omega,⟨by simp[az,hW,nn],hK.set (by omega),rfl,by simp,by simp[d5,rq]⟩,by simp[lH],same _,jL.set (by omega) (by omega),key _ _ (by omega)⟩⟩
structure RZ (N:Nat) (h2:T O) (n2 iu iq n:Nat) (U Q Y:List Int) (L j:Nat) (m:Nat) (r:T V) (st:St):Prop where
 ex:∃i U' c,i+m=L/\r.get 20=some (.int .i64 i)/\r.get 19=some (.int .i64 c)/\0<=c/\c<=1/\DvS N h2 n2 iu iq n U' Q st/\U'.length=U.length/\(∀s,(s<j\/j+i<=s)->U'[s]?=U[s]?)/\(∀(s:Nat) (d:Int),s≠j+L->U'[s]?=some d->0<=d/\d<1000000000)/\vI U'+pI (j+i)*c=vI U+pI j*vI (Y.take i)
def Ynx{L:Nat}(hv:Sl h2 n2 v (dI Y))(hY:Y.length=L)(dY:Di Y)(JT:j+L<U.length)(CR:U.length<1099511627776)(R:DvR r0 v iu U.length L j)(a1:N<=n2)(a2:n2<=iu)(a3:iu<iq)(a4:iq<n):
  ∀k r st,(∀t,kV [(19,21),(148,174)] t=false->r.get t=r0.get t)->Fx [(19,21),(148,174)] r0 206 ⟨r,206,[]⟩->RZ N h2 n2 iu iq n U Q Y L j k r st->Code A.C none A.pk ⟨r,206,[]⟩ st (Rd [(19,21),(148,174)] r0 206 (RZ N h2 n2 iu iq n U Q Y L j) k (fun e r st=>e=.exit 6/\RZ N h2 n2 iu iq n U Q Y L j 0 r st)):=by
 rintro m r ⟨H,n1,W⟩ hr hf ⟨i,U',c,hi,V1,V2,c0,c1,⟨hW,hK,hn,ru,rq⟩,lH,fu,jL,jj⟩;simp only at hW hK hn ru rq;subst hn;obtain⟨r9,wD,yb,wF⟩:=R;rw[bG];cases m with
 |zero=>
  have:i=L:=by omega
  subst this;simp[A.pk,hr,hf,V1,wD];exact⟨i,U',c,by omega,by simp[V1],by simp[V2],c0,c1,⟨hW,hK,rfl,ru,rq⟩,lH,fu,jL,jj⟩
 |succ m=>
  obtain⟨y,hy⟩:=bs (l:=Y) (k:=i) (by omega);have lv:=hv.len;rw[jo,hY]at lv;obtain⟨b1,b2,b3,b4,b5,z1,z2,z3,z4⟩:=hv.at (jq hy);have z3:=(hK.get _ z2).trans z3;have Nh:=dY.get hy;obtain⟨o,ho⟩:=bs (l:=U') (k:=i+j) (by omega);have hod:=jL _ _ (by omega) ho;have AX:(i:Int)<(L:Int):=by omega
  have nn:¬iu<N:=by omega
  have w8:=jo U';have hsu:=EM ho;have Pw:=AS hy;have hp:=T3 i j;have th:=xC (j+i);have b1':bn .i64 (o+y)=o+y:=cN (by omega) (by omega);have b2':bn .i64 (o+y+c)=o+y+c:=cN (by omega) (by omega);have VZ:(o+y+c).tmod 1000000000=(o+y+c)%1000000000:=Gq (by omega);have V0:(o+y+c).tdiv 1000000000=(o+y+c)/1000000000:=Dd (by omega);have hm:=Gy (o+y+c) 1000000000;have e0:=Gu (o+y+c) (b:=1000000000) (by decide);have e1:=Gz (o+y+c) (b:=1000000000) (by decide);have w7:=Dw (l:=U') (k:=i+j) (v:=(o+y+c)%1000000000) (by omega);have d4:b1<n1:=by have:=hK.le;omega
  have d5:¬iq=iu:=by omega
  have d6:iu<n1:=by omega
  have b3':bn .i64 ((o+y+c)/1000000000)=(o+y+c)/1000000000:=cN (by omega) (by omega);simp(disch:=first|(simp;done)|omega|rfl) [-getElem?_pos,A.pk,hr,hf,V1,V2,r9,wD,yb,wF,AX,lv,ru,jq ho,z1,z3,z4,b1',b2',b3',VZ,V0,w7,d4,d6];generalize (o+y+c)/1000000000=D at*;generalize (o+y+c)%1000000000=M at*;refine⟨m,by omega,⟨i+1,U'.set (i+j) M,D,by omega,by simp,by simp,by omega,by omega,⟨by simp[az,hW,nn],hK.set (by omega),rfl,by simp,by simp[d5,rq]⟩,by simp[lH],fun s hs=>?_,fun s d hs hd=>?_,?_⟩⟩
  ·rw[fk (by omega)];exact fu s (by omega)
  ·by_cases hsi:s=i+j
   ·subst hsi;rw[mQ (by omega)]at hd;simp at hd;omega
   rw[fk (fun h=>hsi h.symm)]at hd;exact jL s d hs hd
  rw[hsu,Pw,show j+(i+1)=j+i+1 by omega,th,show i+j=j+i by omega];have h3:vI U'=vI U+pI j*vI (Y.take i)-pI (j+i)*c:=by omega
  have h4:M=o+y+c-1000000000*D:=by omega
  rw[h3,h4,show j+i=i+j by omega,hp];grind
def Ysb(h:d∈l):∃s:Nat,l[s]?=some d:=nP h
def Yxq(h:∀(s:Nat) (d:Int),l[s]?=some d->0<=d/\d<1000000000):Di l:=fun d hd=>by
 obtain⟨s,hs⟩:=Ysb hd
 exact h s d hs
def Ya3(hj:j<=U.length)(hl:U2.length=U.length)(hs:∀s,s<j->U2[s]?=U[s]?)(hv:vI U2=vI U-pI j*X):vI (U2.drop j)=vI (U.drop j)-X:=by
 have h1:=O3 U j hj;have h2:=O3 U2 j (by omega);have h3:U2.take j=U.take j:=by
  apply pM;intro s;rw[jZ,jZ];by_cases h:s<j
  ·rw[av h,av h];exact hs s h
  rw[ak h,ak h]
 rw[h3]at h2;have h4:pI j*vI (U2.drop j)=pI j*(vI (U.drop j)-X):=by
  have:pI j*(vI (U.drop j)-X)=pI j*vI (U.drop j)-pI j*X:=by grind
  omega
 exact Int.eq_of_mul_eq_mul_left (Int.ne_of_gt (EK j)) h4
def Yn2{L:Nat}(hd:∀(s:Nat) (d:Int),s<j+L->U[s]?=some d->0<=d/\d<1000000000)(ht:U[j+L]?=some tt)(hz:∀s,j+L<s->s<U.length->U[s]?=some 0)(aD:vI (U.drop j)<pI L):(0<=vI (U.drop j)->tt=0)/\(vI (U.drop j)<0->tt<0):=by
 refine Yj7 (w:=U.drop j) (n:=L) ?_ (by rw[fU];exact ht) ?_ aD
 ·refine Yxq fun s d hs=>?_;by_cases h:s<L
  ·rw[jZ,av h,fU]at hs;exact hd (j+s) d (by omega) hs
  rw[jZ,ak h]at hs;cases hs
 intro s h1 h2;rw[fU];exact hz (j+s) (by omega) (by simp at h2;omega)
structure RG (N:Nat) (h2:T O) (n2 iu iq n lu L:Nat) (A0:Int) (Y:List Int) (m:Nat) (r:T V) (st:St):Prop where
 ex:∃U Q,DvS N h2 n2 iu iq n U Q st/\r.get 13=some (.int .i64 ((m:Int)-1))/\U.length=lu/\Q.length=lu-L/\m<=lu-L/\Di U/\Di Q/\(∀s,m+L<=s->s<lu->U[s]?=some 0)/\vI (U.drop m)<vI Y/\(∀s,s<m->Q[s]?=some 0)/\vI U+vI Y*vI Q=A0
def Yla{lu:Nat}(hv:Sl h2 n2 v (dI Y))(hY:Y.length=k+2)(dY:Di Y)(pW:Y[k+1]?=some v1)(h5:500000000<=v1)(LI:k+2<lu)(CR:lu<1099511627776)(r9:r0.get 9=some v)(wD:r0.get 10=some (.int .i64 (k+2:Nat)))(yb:r0.get 11=some (.slice iu 0 lu none 1))(Q9:r0.get 12=some (.slice iq 0 (lu-(k+2)) (some (lu-(k+2))) 1))(a1:N<=n2)(a2:n2<=iu)(a3:iu<iq)(a4:iq<n):
  ∀m r st,(∀t,kV [(13,21),(82,191)] t=false->r.get t=r0.get t)->Fx [(13,21),(82,191)] r0 206 ⟨r,206,[]⟩->RG N h2 n2 iu iq n lu (k+2) A0 Y m r st->Code A.C none A.pn ⟨r,206,[]⟩ st (Rd [(13,21),(82,191)] r0 206 (RG N h2 n2 iu iq n lu (k+2) A0 Y) m (fun e r st=>e=.exit 2/\RG N h2 n2 iu iq n lu (k+2) A0 Y 0 r st)):=by
 rintro m r ⟨H,n1,W⟩ hr hf ⟨U,Q,⟨hW,hK,hn,ru,rq⟩,wF,lH,hql,hm,dU,dQ,hz,zq,R4,jj⟩;simp only at hW hK hn ru rq;subst hn;rw[bG];cases m with
 |zero=> simp[A.pn,hf,wF];exact⟨U,Q,⟨hW,hK,rfl,ru,rq⟩,by simp[wF],lH,hql,hm,dU,dQ,hz,zq,R4,jj⟩
 |succ j=>
  have uP:(((j+1:Nat):Int)-1)=(j:Int):=by omega
  rw[uP]at wF;have Cv:(0:Int)<=(j:Int):=by omega
  obtain⟨v2,l8⟩:=bs (l:=Y) (k:=k) (by omega);obtain⟨d1,e1⟩:=bs (l:=U) (k:=j+k) (by omega);obtain⟨d2,e2⟩:=bs (l:=U) (k:=j+k+1) (by omega);obtain⟨d3,e3⟩:=bs (l:=U) (k:=j+k+2) (by omega);obtain⟨x0,jP⟩:=bs (l:=U) (k:=j) (by omega);have hWt:=Ypx (w:=U.drop j) (k:=k) (a:=d1) (c:=d2) (d:=d3) (by rw[fU];exact e1) (by rw[fU,<-pE];exact e2) (by rw[fU,<-pE];exact e3) (fun t h1 h2=>by rw[fU];exact hz _ (by omega) (by simp at h2;omega));have Zd:=Ypy l8 pW hY;have hWd:vI (U.drop j)<1000000000*vI Y:=by rw[oh jP,vI];have:=dU.get jP;omega
  have hUk:=xE ((dU.drop j).take k);rw[iV,zX,rP (by omega)]at hUk;have hVk:=xE (dY.take k);rw[iV,rP (by omega)]at hVk;obtain⟨t,hg,t0,t1,h_,iY⟩:=Ymk (w:=W) (Sl.row (cp:=none) (L:=lu) (show iu<n1 by omega) ru (by simp[lH]) (fun k hk=>by cases hk)) (hv.ad hK) hY (by omega) e1 e2 e3 l8 pW (dU.get e1) (dU.get e2) (dU.get e3) ⟨h5,(dY.get pW).2⟩ (dY.get l8) (EK k) (xD ((dU.drop j).take k)) hUk (xD (dY.take k)) hVk hWt Zd hWd;have hVl:=xE dY;rw[hY]at hVl;have hVp:0<vI Y:=by have:=xD (dU.drop (j+1));omega
  simp[A.pn,hr,wF,Cv,r9,yb,hg];refine cB [(15,18),(90,125)] (fun e r st=>e=.exit 4/\RX N h2 n2 iu iq n1 U Q Y (k+2) j t 0 r st) (RX N h2 n2 iu iq n1 U Q Y (k+2) j t) (k+2) ?_ ?_ ?_
  ·exact⟨0,U,0,by omega,by simp,by simp,by omega,by omega,⟨hW,hK,rfl,ru,rq⟩,rfl,fun _ _=>rfl,dU,by simp[vI]⟩
  ·exact Ykc hv hY dY (by omega) (by omega) ⟨by simp[hr,r9],by simp[hr,wD],by simp[hr,yb,lH],by simp[wF]⟩ (by simp) t0 t1 a1 a2 a3 a4
  rintro _ r2 ⟨H2,n3,W2⟩ fL ⟨rfl,i,U',c,hi,RY,Fz,c0,c1,⟨g_,qm,gE,ru2,rq2⟩,Bu,fu,nA,R5⟩;simp only at g_ qm gE ru2 rq2;subst gE;obtain rfl:i=k+2:=by omega
  have VI:=hf.inner (D':=[(15,18),(90,125)]) rfl (by simp) fL;rw[<-hY,Ay,hY]at R5;have e3':U'[j+(k+2)]?=some d3:=by rw[fu _ (.inr (aN _))];rw[<-pE];exact e3
  have hd3:=dU.get e3;have q1:(j:Int)+((k:Int)+2)<(lu:Int):=by omega
  have q2:j+(k+2)<lu:=by omega
  have q3:(0:Int)<=(j:Int)+((k:Int)+2):=by omega
  have q4:((j:Int)+((k:Int)+2)).toNat=j+(k+2):=by omega
  have w8:=jo U';have b1':bn .i64 (d3-c)=d3-c:=cN (by omega) (by omega);have w7:=Dw (l:=U') (k:=j+(k+2)) (v:=d3-c) (by omega);have nn:¬iu<N:=by omega
  have d5:¬iq=iu:=by omega
  have d6:¬iu=iq:=by omega
  have nq:¬iq<N:=by omega
  have v2e:vI (U'.set (j+(k+2)) (d3-c))=vI U-pI j*(t*vI Y):=by
   rw[EM e3'];have:pI (j+(k+2))*(d3-c-d3)= -(pI (j+(k+2))*c):=by grind
   omega
  have p_:∀s,s<j->(U'.set (j+(k+2)) (d3-c))[s]?=U[s]?:=fun s hs=>by rw[fk (by omega)];exact fu s (.inl hs)
  have er:∀s,j+(k+2)<s->s<lu->(U'.set (j+(k+2)) (d3-c))[s]?=some 0:=fun s h1 h2=>by rw[fk (by omega),fu s (.inr (by omega))];exact hz s (by omega) h2
  have Bw:=Ya3 (by omega) (by simp[Bu]) p_ v2e;have mK:(U'.set (j+(k+2)) (d3-c))[j+(k+2)]?=some (d3-c):=mQ (by omega);have fi:vI ((U'.set (j+(k+2)) (d3-c)).drop j)<vI Y:=by
   rw[Bw];have:(t+1)*vI Y=t*vI Y+vI Y:=by grind
   omega
  have hto:=Yn2 (U:=U'.set (j+(k+2)) (d3-c)) (fun s d hs hd=>by rw[fk (by omega)]at hd;exact nA.get hd) mK (fun s h1 h2=>er s h1 (by simp at h2;omega)) (by omega);have qj1:(j:Int)<((lu-(k+2):Nat):Int):=by omega
  have qj2:j<lu-(k+2):=by omega
  have wq8:=jo Q;by_cases eD:d3-c<0
  ·have t1w:bn .i64 (t-1)=t-1:=cN (by omega) (by omega);simp(disch:=first|(simp;done)|omega|rfl) [-getElem?_pos,hr,fL,Fz,wD,yb,wF,q4,ru2,jq e3',b1',w7,jq mK,eD,t1w];generalize hU2:U'.set (j+(k+2)) (d3-c)=U2 at*;have iC:U2.length=lu:=by rw[<-hU2];simp[Bu,lH]
   have zbZ:vI (U2.drop j)<0:=by apply Mk;intro hc;have:=hto.1 hc;omega
   have zaX:∀(s:Nat) (d:Int),s≠j+(k+2)->U2[s]?=some d->0<=d/\d<1000000000:=fun s d hs hd=>by rw[<-hU2,fk (by omega)]at hd;exact nA.get hd
   refine cB [(19,21),(148,174)] (fun e r st=>e=.exit 6/\RZ N h2 n2 iu iq n3 U2 Q Y (k+2) j 0 r st) (RZ N h2 n2 iu iq n3 U2 Q Y (k+2) j) (k+2) ?_ ?_ ?_
   ·exact⟨0,U2,0,by omega,by simp,by simp,by omega,by omega,⟨by simp[az,g_,nn],qm.set (by omega),rfl,by simp,by simp[d5,rq2]⟩,rfl,fun _ _=>rfl,zaX,by simp[vI]⟩
   ·exact Ynx hv hY dY (by omega) (by omega) ⟨by simp[hr,fL,r9],by simp[hr,fL,wD],by simp[hr,fL,yb,iC],by simp[fL,wF]⟩ a1 a2 a3 a4
   rintro _ r4 ⟨H4,n4,W4⟩ xc ⟨rfl,i4,U3,c4,hi4,V1,V2,c40,c41,⟨DF,Nj,RH,RI,RJ⟩,R6,yi,R7,R8⟩;simp only at DF Nj RH RI RJ;subst RH;obtain rfl:i4=k+2:=by omega
   have zaY:=VI.inner (D':=[(19,21),(148,174)]) rfl (by simp) xc;rw[<-hY,Ay,hY]at R8;have e4:U3[j+(k+2)]?=some (d3-c):=by rw[yi _ (.inr (aN _))];exact mK
   have x8:=jo U3;have b4':bn .i64 (d3-c+c4)=d3-c+c4:=cN (by omega) (by omega);have x7:=Dw (l:=U3) (k:=j+(k+2)) (v:=d3-c+c4) (by omega);have v4e:vI (U3.set (j+(k+2)) (d3-c+c4))=vI U-pI j*((t-1)*vI Y):=by
    rw[EM e4];have x1:pI (j+(k+2))*(d3-c+c4-(d3-c))=pI (j+(k+2))*c4:=by grind
    have x2:pI j*((t-1)*vI Y)=pI j*(t*vI Y)-pI j*vI Y:=by grind
    omega
   have V3:∀s,s<j->(U3.set (j+(k+2)) (d3-c+c4))[s]?=U[s]?:=fun s hs=>by rw[fk (by omega),yi s (.inl hs)];exact p_ s hs
   have A3:∀s,j+(k+2)<s->s<lu->(U3.set (j+(k+2)) (d3-c+c4))[s]?=some 0:=fun s h1 h2=>by rw[fk (by omega),yi s (.inr (by omega))];exact er s h1 h2
   have R9:=Ya3 (by omega) (by simp[R6,iC,lH]) V3 v4e;have CG:(U3.set (j+(k+2)) (d3-c+c4))[j+(k+2)]?=some (d3-c+c4):=mQ (by omega);have xt:(t-1)*vI Y=t*vI Y-vI Y:=by grind
   have zaZ:vI ((U3.set (j+(k+2)) (d3-c+c4)).drop j)<vI Y:=by rw[R9];omega
   have za0:0<=vI ((U3.set (j+(k+2)) (d3-c+c4)).drop j):=by rw[R9];omega
   have za1:=Yn2 (U:=U3.set (j+(k+2)) (d3-c+c4)) (fun s d hs hd=>by rw[fk (by omega)]at hd;exact R7 s d (by omega) hd) CG (fun s h1 h2=>A3 s h1 (by simp at h2;omega)) (by omega);have uQ:=za1.1 za0;have w9:=Dw (l:=Q) (k:=j) (v:=t-1) (by omega);have w_:=R4 j (by omega);have zb0:1<=t:=by
    apply Gt;intro hc;have:t=0:=by omega
    rw[this]at Bw;have:=xD (dU.drop j);omega
   simp(disch:=first|(simp;done)|omega|rfl) [-getElem?_pos,hr,fL,xc,zaY,V2,wD,yb,Q9,wF,q4,RI,RJ,jq e4,b4',x7,d5,w9];refine⟨j,by omega,⟨U3.set (j+(k+2)) (d3-c+c4),Q.set j (t-1),⟨by simp[az,DF,nn,nq],?_,rfl,by simp[d6],by simp⟩,by simp,by simp[R6,iC],by simp[hql],by omega,?_,dQ.set (by omega) (by omega),?_,?_,?_,?_⟩⟩
   ·exact(Nj.set (by omega)).set (by omega)
   ·refine Yxq fun s d hd=>?_;by_cases hs:s=j+(k+2)
    ·subst hs;rw[CG,uQ]at hd;simp at hd;omega
    rw[fk (fun h=>hs h.symm)]at hd;exact R7 s d hs hd
   ·intro s h1 h2;by_cases hs:s=j+(k+2)
    ·rw[hs,CG,uQ]
    exact A3 s (by omega) h2
   ·exact zaZ
   ·intro s hs;rw[fk (by omega)];exact R4 s (by omega)
   rw[v4e,EM w_,<-jj];grind
  have Vx:0<=vI ((U'.set (j+(k+2)) (d3-c)).drop j):=by apply Gt;intro hc;exact eD (hto.2 hc)
  have uQ:=hto.1 Vx;have w9:=Dw (l:=Q) (k:=j) (v:=t) (by omega);have w_:=R4 j (by omega);rw[Bw]at Vx fi;have tlt:t<1000000000:=by apply Mk;intro hc;have:=Gs hc (wx hVp);omega
  simp(disch:=first|(simp;done)|omega|rfl) [-getElem?_pos,hr,fL,VI,Fz,wD,yb,Q9,wF,q4,ru2,rq2,jq e3',b1',w7,jq mK,eD,d5,w9];refine⟨j,by omega,⟨U'.set (j+(k+2)) (d3-c),Q.set j t,⟨by simp[az,g_,nn,nq],?_,rfl,by simp[d6],by simp⟩,by simp,by simp[Bu,lH],by simp[hql],by omega,?_,dQ.set t0 tlt,?_,?_,?_,?_⟩⟩
  ·exact(qm.set (by omega)).set (by omega)
  ·rw[uQ];exact nA.set (by omega) (by omega)
  ·intro s h1 h2;by_cases hs:s=j+(k+2)
   ·rw[hs,mK,uQ]
   exact er s (by omega) h2
  ·rw[Bw];exact fi
  ·intro s hs;rw[fk (by omega)];exact R4 s (by omega)
  rw[v2e,EM w_,<-jj];grind
end
end Go.Mx
