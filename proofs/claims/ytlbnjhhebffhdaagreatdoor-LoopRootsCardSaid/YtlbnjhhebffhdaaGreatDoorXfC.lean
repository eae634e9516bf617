/-Polynomials with known roots-/
import Derived.Test.YtlbnjhhebffhdaaGreatDoorXdC
set_option linter.all false
namespace Go.Mx
open Go Go.Proofs
variable {X d n:Nat} {sq x:Rat}
set_option maxRecDepth 1000000
def RM.st{p p':List Rat}(R:RM p d sq)(hx:0<x)(hl:p'.length=d+1)(hk:∀k,k<=d->pg p' k=pg p k*pwR x k):mW (d+1) p'=true↔sq<x*x:=by
 have xn:x≠0:=by intro hc;rw[hc]at hx;exact Rat.lt_irrefl hx
 have hz:pg p' d≠0:=by
  rw[hk d (Yv5 _)]
  exact R.sz xn
 have h:=Xeh (p:=p') (by omega) (by rw[hl,Nat.add_sub_cancel];exact hz)
 rw[hl,Nat.add_sub_cancel]at h
 rw[h,<-R.h x hx]
 exact⟨Xeq hk,Xeq fun k jO=>(hk k jO).symm⟩
def Xhl:∀{k:Nat},pwR 1 k=1
 |0=>rfl
 |k+1=>by
  have:=Xhl (k:=k)
  show pwR 1 k*1=1
  rw[this]
  grind
def Xhn{x y:Rat}:∀{k:Nat},pwR x k*pwR y k=pwR (x*y) k
 |0=>by show (1:Rat)*1=1;grind
 |k+1=>by
  have:=Xhn (x:=x) (y:=y) (k:=k)
  show pwR x k*x*(pwR y k*y)=pwR (x*y) k*(x*y)
  rw[<-this]
  grind
def RM.zjo{p:List Rat}(R:RM p d sq):mW p.length p=true↔sq<1:=by
 have:=R.st (x:=1) (by decide) R.l fun k _=>by rw[Xhl];grind
 rw[R.l,this]
 constructor<;>intro h<;>grind
def RM.inS{p:List Rat}{U:Nat}(R:RM p d sq)(hx:0<(n:Rat)/(U:Rat)):inS p U n=true↔sq<(n:Rat)/(U:Rat)*((n:Rat)/(U:Rat)):=by
 unfold Mx.inS
 rw[R.l]
 exact R.st hx (by rw[Yz1,R.l]) fun k hk=>Xcu (by rw[R.l];omega)
def RM.zi9{p:List Rat}{U:Nat}{y:Rat}(R:RM p d sq)(hy:0<y)(hx:0<(n:Rat)/(U:Rat)):Mx.inS (Xae p y) U n=true↔sq<y*((n:Rat)/(U:Rat))*(y*((n:Rat)/(U:Rat))):=by
 unfold Mx.inS
 rw[Yz1,R.l]
 refine R.st (Rat.mul_pos hy hx) (by rw[Yz1,Yz1,R.l]) fun k hk=>?_
 rw[Xcu (by rw[Yz1,R.l];omega),Xcu (by rw[R.l];omega),<-Xhn]
 grind
def Xg0{p:List Rat}{x:Rat}:∀{k:Nat},k<=p.length->Ytr p x k=sR (fun j=>pg p (p.length-k+j)*pwR x j) k
 |0,_=>rfl
 |k+1,h=>by
  have ih:=Xg0 (p:=p) (x:=x) (k:=k) (by omega)
  rw[Ytr,ih,<-HW,Rat.mul_comm,<-yZ]
  have e:sR (fun j=>x*(pg p (p.length-k+j)*pwR x j)) k=sR (fun j=>pg p (p.length-(k+1)+(j+1))*pwR x (j+1)) k:=il fun j _=>by
   rw[show p.length-(k+1)+(j+1)=p.length-k+j by omega]
   show _=_*(pwR x j*x)
   grind
  rw[e,mY,show p.length-1-k=p.length-(k+1) by omega]
  show _=_+pg p (p.length-(k+1))*1
  grind
def Xgn{p:List Rat}{t:Nat}(hl:p.length=d+1):Tn (pg p) d (pwR x) t=pwR x t*Ytf p x:=by
 unfold Ytf
 rw[Xg0 (Yv5 _),Nat.sub_self,hl,<-yZ]
 unfold Tn
 refine il fun j _=>?_
 rw[Xe4,oJ]
 grind
def Xgs{p q:List Rat}{m:Nat}(hp:p.length=m+1)(hq:q.length=n+1):Ytf (Xgd p q) x=Ytf p x*Ytf q x:=by
 have hl:(Xgd p q).length=m+n+1:=by rw[Xgp,hp,hq];omega
 have e1:=Xgn (p:=Xgd p q) (x:=x) (t:=0) hl
 have e2:Tn (pg (Xgd p q)) (m+n) (pwR x) 0=Tn (cvF (pg p) m (pg q)) (m+n) (pwR x) 0:=il fun j _=>by rw[Xgb hp hq]
 have e3:Tn (pg p) m (fun s=>Tn (pg q) n (pwR x) s) 0=Ytf q x*Tn (pg p) m (pwR x) 0:=by
  unfold Tn
  rw[<-yZ]
  refine il fun j _=>?_
  have:=Xgn (p:=q) (x:=x) (t:=0+j) hq
  unfold Tn at this
  show _*sR (fun j_1=>pg q j_1*pwR x (0+j+j_1)) (n+1)=_
  rw[this]
  grind
 have e4:=Xgn (p:=p) (x:=x) (t:=0) hp
 rw[e2,Xhz fun l hl=>Xf6 (by rw[hq];omega),e3,e4]at e1
 have p0:pwR x 0=1:=rfl
 rw[p0]at e1
 grind
def Dy(p:List Rat)(d X:Nat):Prop:=∀k,∃z:Int,pg p k*((64^d:Nat):Rat)=(z:Rat)/\z.natAbs<=X*64^d
def sN(z:Nat->Int):Nat->Nat
 |0=>0
 |k+1=>sN z k+(z k).natAbs
def Dy.sum{p:List Rat}{d X e k:Nat}{c:Nat->Rat}{z:Nat->Int}(D:Dy p d X)(hz:∀s,c s*((64^e:Nat):Rat)=(z s:Rat)):∀n,∃y:Int,sR (fun s=>if s<=k then c s*pg p (k-s) else 0) n*((64^(e+d):Nat):Rat)=(y:Rat)/\y.natAbs<=sN z n*(X*64^d)
 |0=>⟨0,by show (0:Rat)*_=_;rw[Rat.zero_mul];rfl,by simp[sN]⟩
 |n+1=>by
  obtain⟨y,y1,y2⟩:=Dy.sum (k:=k) D hz n
  obtain⟨w,w1,w2⟩:=D (k-n)
  rw[tj,Rat.add_mul,y1]
  by_cases h:n<=k
  ·refine⟨y+z n*w,?_,?_⟩
   ·rw[aR h,Rat.intCast_add,Rat.intCast_mul,<-hz n,<-w1,Yw8,Rat.natCast_mul]
    grind
   ·refine p9 (Int.natAbs_add_le _ _) ?_
    rw[wY,sN,ku]
    exact Nat.add_le_add y2 (jh _ w2)
  ·refine⟨y,?_,?_⟩
   ·rw[aA h]
    grind
   ·rw[sN,ku]
    omega
def Dy.mul{p q:List Rat}{e Y:Nat}{z:Nat->Int}(hp:p.length=d+1)(hq:q.length=e+1)(D:Dy p d X)(hz:∀s,pg q s*((64^e:Nat):Rat)=(z s:Rat))(hY:sN z (e+1)<=Y*64^e):Dy (Xgd p q) (d+e) (Y*X):=fun k=>by
 obtain⟨y,y1,y2⟩:=Dy.sum (k:=k) D hz (e+1)
 refine⟨y,?_,?_⟩
 ·rw[Xgb hp hq,Xhb (m:=d) (n:=e) (fun l hl=>Xf6 (by rw[hp];omega)) (fun l hl=>Xf6 (by rw[hq];omega)),<-y1,Nat.add_comm d e]
  rfl
 ·have:=ot (X*64^d) hY
  rw[Yw8]
  have e2:Y*64^e*(X*64^d)=Y*X*(64^d*64^e):=by
   rw[AG,AG]
   congr 1
   rw[Nat.mul_left_comm,iz (64^e)]
  omega
def Dy.bnd{p:List Rat}{k:Nat}(D:Dy p d X):(pg p k).num.natAbs<=X*64^d/\(pg p k).den<=64^d:=by
 obtain⟨z,z1,z2⟩:=D k
 have hB:(64^d:Nat)≠0:=by
  have:0<64^d:=vu (by decide)
  omega
 generalize 64^d=B at*
 have b0:((B:Nat):Rat)≠0:=by
  intro hc
  have:=congrArg Rat.num hc
  rw[uf.1]at this
  simp at this
  exact hB this
 have e:pg p k=Rat.divInt z (B:Int):=by
  have dv:Rat.divInt z (B:Int)=(z:Rat)/(B:Rat):=by rw[Rat.divInt_eq_div];rfl
  rw[dv]
  have:=Rat.div_mul_cancel (a:=(z:Rat)) b0
  have h3:(pg p k-(z:Rat)/(B:Rat))*(B:Rat)=0:=by grind
  rcases Rat.mul_eq_zero.1 h3 with h4|h4
  ·grind
  ·exact absurd h4 b0
 have f:=Ye8 (a:=z) (m:=B) (by omega)
 rw[e]
 refine⟨by have:=f.2.1;omega,?_⟩
 rw[f.2.2]
 exact th _ _
def Xgu{l:List Rat}{K:Nat}(l1:1<=l.length)(l2:l.length<=13)(hK:K<=1800)(hq:∀q∈l,Qb K q)(hz:pg l (l.length-1)≠0):ks (l.map Zao)=0:=by
 have ca:gV (l.map Zao)=0:=by
  unfold gV
  refine Ye4 fun y hy=>?_
  obtain⟨s,hs,rfl⟩:=vo.1 hy
  obtain⟨q,Sf,rfl⟩:=vo.1 hs
  rw[ND (hq q Sf) hK]
  rfl
 have e:(l.map Zao)[l.length-1]?=some (Zao (pg l (l.length-1))):=by
  rw[jT,iy (by omega)]
  rfl
 rw[ks,Lh,aA (by omega),aA (by omega),aR ca,e,aA]
 intro hc
 simp only[au]at hc
 rw[<-xI]at hc
 exact hz (Zh8 hc)
variable {N d:Nat} {h:T O} {n:Int} {u:V}
def f64(n:Int):Rat:=Rat.divInt n 64
def Xf9{n:Int}:f64 n*64=(n:Rat):=by
 unfold f64
 rw[Rat.divInt_eq_div]
 have:=Rat.div_mul_cancel (a:=(n:Rat)) (b:=((64:Int):Rat)) (by decide)
 exact this
def Xf1(h:n.natAbs<=128):Qb 8 (f64 n):=Zhu (by decide) (by show _<256;omega) (by decide)
def Xid{st:St}(h:n.natAbs<=128):A.C.call (.func 30 [] []) [.int .i64 n,.int .i64 64] st=some (.str (Zao (f64 n)),st):=SR (a:=n) (m:=64) (by decide) (by omega) (by omega) (by decide)
structure Sm (p:List Rat) (d:Nat):Prop where
 l:p.length=d+1
 z:pg p d≠0
 b:∀k,(pg p k).num.natAbs<10^17/\(pg p k).den<10^13
def Sm.qb{p:List Rat}(M:Sm p d):∀q∈p,Qb 57 q:=fun q hq=>by
 obtain⟨k,hk⟩:=Nd hq
 have e:pg p k=q:=by unfold pg;rw[hk];rfl
 have:=M.b k
 rw[e]at this
 have e1:(10:Nat)^17<2^57:=by decide
 have e2:(10:Nat)^13<2^57:=by decide
 exact⟨by omega,by omega⟩
def Sm.txt{p:List Rat}(M:Sm p d):∀s∈p.map Zao,s.length<=40:=fun s hs=>by
 obtain⟨q,hq,rfl⟩:=vo.1 hs
 obtain⟨k,hk⟩:=Nd hq
 have e:pg p k=q:=by unfold pg;rw[hk];rfl
 have:=M.b k
 rw[e]at this
 have hb:NB q.num.natAbs q.den q:=⟨Yv5 _,Yv5 _⟩
 have:=hb.txt (a:=17) (b:=13) this.1 this.2 (by decide) (by decide)
 omega
def Sm.chk{p:List Rat}(M:Sm p d)(hd:d<=12):ks (p.map Zao)=0:=Xgu (by rw[M.l];omega) (by rw[M.l];omega) (by decide) M.qb (by rw[M.l,Nat.add_sub_cancel];exact M.z)
def Dy.sm{p:List Rat}{X:Nat}{sq:Rat}(D:Dy p d X)(R:RM p d sq)(hd:d<=7)(hX:X<=4563):Sm p d:=by
 refine⟨R.l,R.z,fun k=>?_⟩
 obtain⟨b1,b2⟩:=D.bnd (k:=k)
 have p7:64^d<=64^7:=Ywo (by decide) hd
 have e7:(64:Nat)^7=4398046511104:=by decide
 have e17:(10:Nat)^17=100000000000000000:=by decide
 have Ns:(10:Nat)^13=10000000000000:=by decide
 have:=tU hX p7
 rw[e7]at this p7
 exact⟨by omega,by omega⟩
def Xhk{e:Nat}{v:V}{p q:List Rat}(M1:Sm p d)(M2:Sm q e)(M3:Sm (Xgd p q) (d+e))(hd:d+e<=7)(hu:Tx h N u p)(hv:Tx h N v q)(hP:j_ h N):Fn A.C 44 [u,v] h N (fun x h' n'=>∃y,x=.aX [y,.int .i64 0]/\Tx h' n' y (Xgd p q)):=by
 have e0:Xie (p.map Zao) (q.map Zao)=0:=by
  unfold Xie
  rw[M1.chk (by omega),M2.chk (by omega),Lh,Lh,M1.l,M2.l,aA (by omega)]
  rfl
 have nb:=Yrl M3.qb (by decide)
 refine Fn.imp (Xhv (a:=p.map Zao) (b:=q.map Zao) hu hv hP (by rw[Lh,M1.l];omega) (by rw[Lh,M2.l];omega) M1.txt M2.txt) fun x h' n' hx=>?_
 rw[e0,Zw0,Zw0]at hx
 rcases hx with⟨c,_⟩|⟨_,⟨c,_⟩|⟨_,y,hx,ht⟩⟩
 ·exact absurd rfl c
 ·rw[nb]at c
  exact absurd c (by decide)
 ·exact⟨y,hx,ht.1⟩
def Xh6{p:List Rat}(M:Sm p d)(hd:d<=7)(hu:Tx h N u p):Fn A.C 9 [u] h N (fun x _ _=>x=.int .i64 0):=by
 have:=Yp9 (l:=p.map Zao) hu (by rw[Lh,M.l];omega) (fun s hs=>by have:=M.txt s hs;omega)
 rw[M.chk (by omega)]at this
 exact this
def Xh4{p:List Rat}{sq:Rat}(M:Sm p d)(R:RM p d sq)(hd:d<=7)(hu:Tx h N u p):Fn A.C 11 [u] h N (fun x _ _=>x=.aX [.bool (decide (sq<1)),.int .i64 0]):=by
 have p5:5^d<=5^7:=Ywo (by decide) hd
 have e5:(5:Nat)^7=78125:=by decide
 refine Fn.imp (Zza (k:=57) (a:=p.map Zao) hu (by rw[Lh,M.l];omega) (fun s hs=>by have:=M.txt s hs;omega) (by decide) (by decide) fun _=>⟨by rw[Zw0];exact M.qb,by rw[Lh,M.l,Nat.add_sub_cancel];omega⟩) fun x h' n' hx=>?_
 have eb:mW p.length p=decide (sq<1):=by
  have:=R.zjo
  by_cases c:sq<1
  ·rw[this.2 c];simp[c]
  ·have h2:¬mW p.length p=true:=fun h=>c (this.1 h)
   simp only[Bool.not_eq_true]at h2
   rw[h2];simp[c]
 rw[hx,M.chk (by omega),Lh,Zw0,eb,Xe6]
def Xhh{n:Nat}:((n:Nat):Rat)/((100:Nat):Rat)=(n:Rat)*(1/100):=by
 rw[show ((100:Nat):Rat)=100 from rfl]
 grind
def Xhj{j:Nat}{p:List Rat}(l1:1<=d)(hd:d<=7)(hl:p.length=d+1)(hz:pg p d≠0)(hq:∀q∈p,Qb j q)(hj:j<=1000)(hk:ks (p.map Zao)=0)(hb:∀n,2^9<=n->inS p 100 n=true)(hu:Tx h N u p)(hP:j_ h N):Fn A.C 13 [u,.int .i64 2] h N (fun x _ _=>x=.aX [.agg [.str (Zao (((Xa5 p 100 9).1:Rat)/((100:Nat):Rat))),.str (Zao (((Xa5 p 100 9).2:Rat)/((100:Nat):Rat)))],.int .i64 0]):=by
 have p5:5^d<=5^7:=Ywo (by decide) hd
 have e5:(5:Nat)^7=78125:=by decide
 have e0:Yz7 (p.map Zao) (RY 2)=0:=by
  unfold Yz7
  rw[hk,Lh,hl,aA (by omega),show RY 2=0 by unfold RY;rw[aA (by decide)]]
  rfl
 have R:RdH p j 9 (10^(2:Int).toNat) (2:Int).toNat:=by
  refine⟨by omega,by omega,by rw[hl,Nat.add_sub_cancel];exact hz,hq,hj,?_,by decide,hb,rfl,by decide⟩
  rw[hl,Nat.add_sub_cancel]
  have k1:j+((d+1)*(9+11)+1)<=1161:=by omega
  have:=tU k1 p5
  omega
 refine Fn.imp (Xdd (j:=j) (B:=9) (a:=p.map Zao) (z:=2) hu hP (by rw[Lh,hl];omega) (fun s hs=>?_) fun _=>⟨by rw[Zw0];exact R,rfl⟩) fun x h' n' hx=>?_
 ·obtain⟨q,Sf,rfl⟩:=vo.1 hs
  have:=SN (hq q Sf)
  omega
 ·rw[e0,Zw0]at hx
  rcases hx with⟨c,_⟩|⟨_,hx⟩
  ·exact absurd rfl c
  ·exact hx
def Xh8:aY [50]=2:=by
 rw[show ([50]:bj)=Zao 2 by decide+kernel,og]
def Xh5{p:List Rat}(M:Sm p d)(hd:d<=7)(hu:Tx h N u p)(hP:j_ h N):Fn A.C 43 [u,.str [50]] h N (fun x h' n'=>∃v,x=.aX [v,.int .i64 0]/\Tx h' n' v (Xae p 2)):=by
 have q2:Qb 2 (2:Rat):=Qb.int (z:=2) (k:=2) (by decide) (by decide)
 have e0:scE (p.map Zao) [50]=0:=by
  unfold scE
  rw[M.chk (by omega),show ([50]:bj)=Zao 2 by decide+kernel,ND q2 (by decide),aA (by decide+kernel)]
  rfl
 have nb:BB (Xae p 2)=false:=Yrl (Xbs M.qb q2) (by rw[M.l];omega)
 refine Fn.imp (Xfj (a:=p.map Zao) hu hP (by rw[Lh,M.l];omega) M.txt (by decide)) fun v h' n' hv=>?_
 rw[e0,Xh8,Zw0]at hv
 rcases hv with⟨c,_⟩|⟨_,⟨c,_⟩|⟨_,v',hv,ht⟩⟩
 ·exact absurd rfl c
 ·rw[nb]at c
  exact absurd c (by decide)
 ·exact⟨v',hv,ht.1⟩
def Xh3{p:List Rat}(M:Sm p d)(hd:d<=7)(hn:n.natAbs<=128)(h0:Ytf p (f64 n)=0)(hu:Tx h N u p)(hP:j_ h N):Fn A.C 48 [u,.str (Zao (f64 n))] h N (fun x _ _=>x=.aX [.str [48],.int .i64 0]):=by
 have qn:=Xf1 hn
 have e0:vaE (p.map Zao) (Zao (f64 n))=0:=by
  unfold vaE
  rw[M.chk (by omega),ND qn (by decide)]
  rfl
 have tn:=SN qn
 refine Fn.imp (Xht (a:=p.map Zao) hu hP (by rw[Lh,M.l];omega) M.txt (by omega)) fun v h' n' hv=>?_
 rw[e0,Zw0,og,h0]at hv
 rcases hv with⟨c,_⟩|⟨_,hv⟩
 ·exact absurd rfl c
 ·rw[hv,aA,xI]
  rw[(NC (show Qb 1 (0:Rat) from ⟨by decide,by decide⟩) (by decide)).1]
  decide
variable {i j:Nat} {m n:Int} {rs:List Int} {sq:Rat}
def Xg6{k:Nat}:pg [] k=0:=Xf6 (tR _)
def Xf5{q:Rat}{l:List Rat}{k:Nat}:pg (q::l) (k+1)=pg l k:=by unfold pg;rw[Yx6]
def Xh2{p:List Rat}{d:Nat}(hl:p.length=d+1)(hz:pg p d≠0)(hq:∀q∈p,Qb 40 q):Sm p d:=by
 refine⟨hl,hz,fun k=>?_⟩
 have e1:(2:Nat)^40<10^13:=by decide
 have e2:(2:Nat)^40<10^17:=by decide
 by_cases h:k<p.length
 ·have:=hq _ (eI (iy (p:=p) (i:=k) h))
  exact⟨by have:=this.1;omega,by have:=this.2;omega⟩
 ·rw[Xf6 (by omega)]
  exact⟨by decide,by decide⟩
def Xgr(h:n.natAbs<=128):f64 n*f64 n<=4/\0<=f64 n*f64 n/\(f64 n*f64 n<1↔ -64<n/\n<64):=by
 have e:=@Xf9 n
 have b1:((n:Int):Rat)<=((128:Int):Rat):=Rat.intCast_le_intCast.2 (by omega)
 have b2:((-128:Int):Rat)<=((n:Int):Rat):=Rat.intCast_le_intCast.2 (by omega)
 have c1:((128:Int):Rat)=128:=rfl
 have c2:((-128:Int):Rat)= -128:=rfl
 have c3:((64:Int):Rat)=64:=rfl
 have c4:((-64:Int):Rat)= -64:=rfl
 have i1:n<64↔((n:Int):Rat)<((64:Int):Rat):=Rat.intCast_lt_intCast.symm
 have i2: -64<n↔((-64:Int):Rat)<((n:Int):Rat):=Rat.intCast_lt_intCast.symm
 rw[i1,i2]
 rw[c1]at b1
 rw[c2]at b2
 rw[c3,c4]
 rw[<-e]at b1 b2 ⊢
 generalize f64 n=x at*
 have x1:x<=2:=by grind
 have x2: -2<=x:=by grind
 have k1:=Rat.mul_nonneg (show (0:Rat)<=2-x by grind) (show (0:Rat)<=2+x by grind)
 refine⟨by grind,lW,?_,?_⟩
 ·intro h
  constructor
  ·apply Rat.not_le.1
   intro hc
   have:=Rat.mul_nonneg (show (0:Rat)<= -1-x by grind) (show (0:Rat)<=1-x by grind)
   grind
  ·apply Rat.not_le.1
   intro hc
   have:=Rat.mul_nonneg (show (0:Rat)<=x-1 by grind) (show (0:Rat)<=x+1 by grind)
   grind
 ·rintro⟨h1,h2⟩
  have:=Rat.mul_pos (show (0:Rat)<1-x by grind) (show (0:Rat)<1+x by grind)
  grind
def Xf7{e:Nat}{x:Rat}:x*((64^(e+1):Nat):Rat)=x*64*((64^e:Nat):Rat):=by
 rw[fV,Rat.natCast_mul,show ((64:Nat):Rat)=64 from rfl]
 grind
def Xf3{x:Rat}:x*((64^0:Nat):Rat)=x:=by
 rw[AF,show ((1:Nat):Rat)=1 from rfl]
 grind
def zL(n:Int):Nat->Int
 |0=> -n
 |1=>64
 |_=>0
def zQ(n m:Int):Nat->Int
 |0=>n*n+m*m
 |1=> -128*n
 |2=>4096
 |_=>0
def Xii{n:Int}:∀s,pg [-f64 n,1] s*((64^1:Nat):Rat)=(zL n s:Rat)
 |0=>by
  rw[Xf7,Xf3]
  show -f64 n*64=((-n:Int):Rat)
  rw[Rat.intCast_neg,<-@Xf9 n]
  grind
 |1=>by
  rw[Xf7,Xf3]
  show (1:Rat)*64=((64:Int):Rat)
  rw[show ((64:Int):Rat)=64 from rfl]
  grind
 |s+2=>by
  rw[Xf5,Xf5,Xg6,Rat.zero_mul]
  rfl
def Xih{n m:Int}:∀s,pg [f64 n*f64 n+f64 m*f64 m, -2*f64 n,1] s*((64^2:Nat):Rat)=(zQ n m s:Rat)
 |0=>by
  rw[Xf7,Xf7,Xf3]
  show (f64 n*f64 n+f64 m*f64 m)*64*64=((n*n+m*m:Int):Rat)
  rw[Rat.intCast_add,Rat.intCast_mul,Rat.intCast_mul,<-@Xf9 n,<-@Xf9 m]
  grind
 |1=>by
  rw[Xf7,Xf7,Xf3]
  show -2*f64 n*64*64=((-128*n:Int):Rat)
  rw[Rat.intCast_mul,<-@Xf9 n,show ((-128:Int):Rat)= -128 from rfl]
  grind
 |2=>by
  rw[Xf7,Xf7,Xf3]
  show (1:Rat)*64*64=((4096:Int):Rat)
  rw[show ((4096:Int):Rat)=4096 from rfl]
  grind
 |s+3=>by
  rw[Xf5,Xf5,Xf5,Xg6,Rat.zero_mul]
  rfl
def Xgf(h:n.natAbs<=128):(n*n).natAbs<=16384:=by
 rw[wY]
 have:=tU h h
 omega
structure RtI (p:List Rat) (i j:Nat) (rs:List Int) (sq:Rat):Prop where
 rm:RM p (i+2*j) sq
 dy:Dy p (i+2*j) (3^i*13^j)
 s0:0<=sq
 s8:sq<=8
 sb:Qb 40 sq
 ev:∀n∈rs.take i,Ytf p (f64 n)=0
def RtI.one{rs:List Int}:RtI [1] 0 0 rs 0:=by
 refine⟨RM.one,fun k=>?_,Rat.le_refl,by decide,⟨by decide,by decide⟩,fun n hn=>by simp at hn⟩
 cases k with
 |zero=>exact⟨1,by show (1:Rat)*((64^0:Nat):Rat)=_;rw[Xf3];rfl,by decide⟩
 |succ k=>exact⟨0,by rw[Xf5,Xg6,Rat.zero_mul];rfl,by show 0<=_;omega⟩
def RtI.sm{p:List Rat}(R:RtI p i j rs sq)(hi:i<=3)(hj:j<=2):Sm p (i+2*j):=by
 refine R.dy.sm R.rm (by omega) ?_
 have h1:3^i<=3^3:=Ywo (by decide) hi
 have h2:13^j<=13^2:=Ywo (by decide) hj
 have:=tU h1 h2
 have e:(3:Nat)^3*13^2=4563:=by decide
 omega
def Xia(h:n.natAbs<=128):Sm [-f64 n,1] 1:=by
 refine Xh2 rfl (by show (1:Rat)≠0;decide) fun q hq=>?_
 simp only[kV,List.not_mem_nil,or_false]at hq
 rcases hq with rfl|rfl
 ·exact(Xf1 h).neg.mono (by decide)
 ·exact⟨by decide,by decide⟩
def Xgk(h1:n.natAbs<=128)(h2:m.natAbs<=128):Qb 40 (f64 n*f64 n+f64 m*f64 m):=(((Xf1 h1).mul (Xf1 h1)).add ((Xf1 h2).mul (Xf1 h2))).mono (by decide)
def Xhs(h1:n.natAbs<=128)(h2:m.natAbs<=128):Sm [f64 n*f64 n+f64 m*f64 m, -2*f64 n,1] 2:=by
 refine Xh2 rfl (by show (1:Rat)≠0;decide) fun q hq=>?_
 simp only[kV,List.not_mem_nil,or_false]at hq
 rcases hq with rfl|rfl|rfl
 ·exact Xgk h1 h2
 ·exact((show Qb 2 (-2:Rat) from ⟨by decide,by decide⟩).mul (Xf1 h1)).mono (by decide)
 ·exact⟨by decide,by decide⟩
def RtI.lin{p:List Rat}(R:RtI p i 0 rs sq)(hn:rs[i]?=some n)(h:n.natAbs<=128):RtI (Xgd p [-f64 n,1]) (i+1) 0 rs (if sq<f64 n*f64 n then f64 n*f64 n else sq):=by
 obtain⟨f1,f2,_⟩:=Xgr h
 have hl:p.length=i+1:=R.rm.l
 refine⟨R.rm.mul RM.lin,?_,?_,?_,?_,fun m hm=>?_⟩
 ·have:=R.dy.mul (e:=1) (Y:=3) (z:=zL n) hl rfl Xii (by
   show 0+(-n).natAbs+(64:Int).natAbs<=3*64^1
   omega)
  have e:3*(3^i*13^0)=3^(i+1)*13^0:=by rw[fV];omega
  rw[e]at this
  exact this
 ·have:=R.s0
  split<;>grind
 ·have:=R.s8
  split<;>grind
 ·have:=R.sb
  split
  ·exact((Xf1 h).mul (Xf1 h)).mono (by decide)
  ·exact this
 ·rw[Xgs (m:=i) (n:=1) hl rfl]
  have aW:=yz hn
  obtain⟨_,en⟩:=AM.1 hn
  rw[List.take_succ,hn,tg]at hm
  rcases hm with hm|hm
  ·rw[R.ev m hm]
   grind
  ·simp only[Option.toList_some,yW]at hm
   subst hm
   have:Ytf [-f64 m,1] (f64 m)=0:=by
    show (0*f64 m+1)*f64 m+ -f64 m=0
    grind
   rw[this]
   grind
def RtI.zi8{p:List Rat}(R:RtI p i j rs sq)(h1:n.natAbs<=128)(h2:m.natAbs<=128):RtI (Xgd p [f64 n*f64 n+f64 m*f64 m, -2*f64 n,1]) i (j+1) rs (if sq<f64 n*f64 n+f64 m*f64 m then f64 n*f64 n+f64 m*f64 m else sq):=by
 obtain⟨f1,f2,_⟩:=Xgr h1
 obtain⟨g1,g2,_⟩:=Xgr h2
 have hl:p.length=i+2*j+1:=R.rm.l
 refine⟨R.rm.mul RM.zi8,?_,?_,?_,?_,fun x hx=>?_⟩
 ·have a1:=Xgf h1
  have a2:=Xgf h2
  have:=R.dy.mul (e:=2) (Y:=13) (z:=zQ n m) hl rfl Xih (by
   show 0+(n*n+m*m).natAbs+(-128*n).natAbs+(4096:Int).natAbs<=13*64^2
   have:=Int.natAbs_add_le (n*n) (m*m)
   have e:(64:Nat)^2=4096:=by decide
   omega)
  have e:13*(3^i*13^j)=3^i*13^(j+1):=by rw[fV,Nat.mul_left_comm,iz 13]
  rw[e]at this
  exact this
 ·have:=R.s0
  split<;>grind
 ·have:=R.s8
  split<;>grind
 ·have:=R.sb
  split
  ·exact Xgk h1 h2
  ·exact this
 ·rw[Xgs (m:=i+2*j) (n:=2) hl rfl,R.ev x hx]
  grind
def Xic{n:Nat}(h:2^9<=n):0<((n:Nat):Rat)/((100:Nat):Rat)/\8<((n:Nat):Rat)/((100:Nat):Rat)*(((n:Nat):Rat)/((100:Nat):Rat)):=by
 have e9:(2:Nat)^9=512:=by decide
 have h1:((500:Nat):Rat)<=((n:Nat):Rat):=Rat.natCast_le_natCast.2 (by omega)
 rw[show ((500:Nat):Rat)=500 from rfl]at h1
 rw[Xhh]
 generalize ((n:Nat):Rat)=t at*
 have h2:5<=t*(1/100):=by grind
 have:=Rat.mul_nonneg (show (0:Rat)<=t*(1/100)-5 by grind) (show (0:Rat)<=t*(1/100)+5 by grind)
 constructor<;>grind
def RtI.big{p:List Rat}(R:RtI p i j rs sq):∀n,2^9<=n->inS p 100 n=true:=fun n hn=>by
 obtain⟨b1,b2⟩:=Xic hn
 have:=R.s8
 exact(R.rm.inS b1).2 (by grind)
def RtI.zjj{p:List Rat}(R:RtI p i j rs sq):∀n,2^9<=n->inS (Xae p 2) 100 n=true:=fun n hn=>by
 obtain⟨b1,b2⟩:=Xic hn
 have:=R.s8
 refine(R.rm.zi9 (by decide) b1).2 ?_
 generalize ((n:Nat):Rat)/((100:Nat):Rat)=x at*
 grind
def RtI.ends{p:List Rat}(R:RtI p i j rs sq):∃l:Nat,l<=511/\Xa5 p 100 9=(l,l+1)/\(l:Rat)*(1/100)*((l:Rat)*(1/100))<=sq/\sq<((l+1:Nat):Rat)*(1/100)*(((l+1:Nat):Rat)*(1/100)):=by
 obtain⟨I,e⟩:=Xdz (p:=p) (U:=100) (B:=9) R.big
 obtain⟨l,h⟩:∃l,(Xa5 p 100 9).1=l:=⟨_,rfl⟩
 have e2:(Xa5 p 100 9).2=l+1:=by rw[e,h]
 rw[h,e2]at I
 have e9:(2:Nat)^9=512:=by decide
 have pos:∀n:Nat,0<n->0<((n:Nat):Rat)/((100:Nat):Rat):=fun n hn=>by
  have:((0:Nat):Rat)<((n:Nat):Rat):=Rat.natCast_lt_natCast.2 hn
  rw[show ((0:Nat):Rat)=0 from rfl]at this
  rw[Xhh]
  grind
 have hi:=(R.rm.inS (pos (l+1) (by omega))).1 I.hi
 rw[Xhh]at hi
 refine⟨l,by have:=I.le;omega,by rw[<-h,<-e],?_,hi⟩
 rcases I.lo with h0|h0
 ·subst h0
  have:=R.s0
  rw[show ((0:Nat):Rat)=0 from rfl]
  grind
 ·by_cases c:l=0
  ·subst c
   have:=R.s0
   rw[show ((0:Nat):Rat)=0 from rfl]
   grind
  ·have:=R.rm.inS (U:=100) (pos l (by omega))
   rw[Xhh]at this
   apply Rat.not_lt.1
   intro hc
   rw[this.2 hc]at h0
   exact absurd h0 (by decide)
def RtI.zjk{p:List Rat}(R:RtI p i j rs sq):∃l:Nat,l<=511/\Xa5 (Xae p 2) 100 9=(l,l+1)/\2*((l:Rat)*(1/100))*(2*((l:Rat)*(1/100)))<=sq/\sq<2*(((l+1:Nat):Rat)*(1/100))*(2*(((l+1:Nat):Rat)*(1/100))):=by
 obtain⟨I,e⟩:=Xdz (p:=Xae p 2) (U:=100) (B:=9) R.zjj
 obtain⟨l,h⟩:∃l,(Xa5 (Xae p 2) 100 9).1=l:=⟨_,rfl⟩
 have e2:(Xa5 (Xae p 2) 100 9).2=l+1:=by rw[e,h]
 rw[h,e2]at I
 have e9:(2:Nat)^9=512:=by decide
 have pos:∀n:Nat,0<n->0<((n:Nat):Rat)/((100:Nat):Rat):=fun n hn=>by
  have:((0:Nat):Rat)<((n:Nat):Rat):=Rat.natCast_lt_natCast.2 hn
  rw[show ((0:Nat):Rat)=0 from rfl]at this
  rw[Xhh]
  grind
 have hi:=(R.rm.zi9 (y:=2) (by decide) (pos (l+1) (by omega))).1 I.hi
 rw[Xhh]at hi
 refine⟨l,by have:=I.le;omega,by rw[<-h,<-e],?_,hi⟩
 rcases I.lo with h0|h0
 ·subst h0
  have:=R.s0
  rw[show ((0:Nat):Rat)=0 from rfl]
  grind
 ·by_cases c:l=0
  ·subst c
   have:=R.s0
   rw[show ((0:Nat):Rat)=0 from rfl]
   grind
  ·have:=R.rm.zi9 (y:=2) (U:=100) (by decide) (pos l (by omega))
   rw[Xhh]at this
   apply Rat.not_lt.1
   intro hc
   rw[this.2 hc]at h0
   exact absurd h0 (by decide)
variable {H:T O} {M:Nat} {a b:Rat}
set_option maxHeartbeats 8000000
def A.ziU:cC:=sr [bi 238 .lss 237 236]
 (.seq (cd 238
 (.skip)
 (.exit 4))
 (.seq (.block 5 (sr [ia 239 1 235 237,ld 240 239,mv 29 240]
 (sr [mv 242 5,mv 243 29,ge 244 (.zig .i64 (tq 243)),ge 245 (.call (fq 30) [tq 244,.const (.int .i64 64)]),c2 246 48 242 245,mv 241 246,xt 247 241 0,xt 248 241 1,mv 30 247,mv 31 248]
 (sr [mv 249 31,ni 250 249 0,mv 251 250,mh 252 30 251,gz 253 251 (.bin .neq (.zgf .str) true (tq 252) (.const (.str [48]))),pt 254 251 253]
 (cd 254
 (sr [ge 4 (.kv (.const (.bool false)))]
 (.ret))
 (.skip))))))
 (.fk [bc 255 .add 237 1,mv 237 255])))
def A.ziV:cC:=sr [bi 99 .lss 98 97]
 (.seq (cd 99
 (.skip)
 (.exit 2))
 (.seq (.block 3 (sr [ia 100 2 96 98,lN 101 2 100,ge 14 (.alloc [.int .i8 0,.int .i8 0] 74),gn (.store 2 (tq 14) (tq 101))]
 (.seq (.eY [ge 102 (.dB 2 1 (tq 14) (kq 0)),ld 103 102,ge 104 (.zig .i64 (tq 103)),ge 105 (.call (fq 30) [tq 104,.const (.int .i64 64)]),ge 106 (.dB 2 1 (tq 14) (kq 1)),ld 107 106,ge 108 (.zig .i64 (tq 107)),ge 109 (.call (fq 30) [tq 108,.const (.int .i64 64)]),mv 15 105,mv 16 109] [0,1,3,7,0,16,48,127,255,511])
 (sr [mv 110 15,mv 111 15,c2 112 29 110 111,mv 113 16,mv 114 16,c2 115 29 113 114,c2 116 28 112 115,mv 17 116]
 (sr [mv 118 5,mv 119 17,mv 120 15,ge 121 (.call (fq 29) [(.const (.str [45,50])),tq 120]),ge 122 (.kb 30 1 3 [(.str []),(.str []),(.str [])] [(0,1,(tq 119)),(1,1,(tq 121)),(2,1,(.const (.str [49])))]),c2 123 44 118 122,mv 117 123,xt 124 117 0,xt 125 117 1,mv 18 124,mv 19 125]
 (.seq (sr [mv 126 19,ni 127 126 0,mv 128 127,mh 129 18 128,gz 130 128 (.call (fq 9) [tq 129]),gz 131 128 (.bin .neq (.zgf .int) true (tq 130) (kq 0)),pt 132 128 131]
 (cd 132
 (sr [ge 4 (.kv (.const (.bool false)))]
 (.ret))
 (.skip)))
 (sr [mv 133 18,mv 5 133]
 (sr [mv 134 6,mv 135 134,mg 136 17 135,gy 137 135 (.call (fq 35) [tq 136,(.const (.str [49]))]),gy 138 135 (.bin .lss (.node []) false (tq 137) (kq 0)),pf 139 135 138,mv 6 139]
 (.fk [mv 140 7,mv 141 17,c2 142 46 140 141,mv 7 142])))))))))
 (.fk [bc 143 .add 98 1,mv 98 143])))
def A.ziW:cC:=sr [bi 57 .lss 56 55]
 (.seq (cd 57
 (.skip)
 (.exit 0))
 (.seq (.block 1 (sr [ia 58 1 54 56,ld 59 58,mv 9 59]
 (sr [mv 60 9,ge 61 (.zig .i64 (tq 60)),ge 62 (.call (fq 30) [tq 61,.const (.int .i64 64)]),mv 10 62]
 (sr [mv 64 5,mv 65 10,c1 66 45 65,ge 67 (.kb 30 1 2 [(.str []),(.str [])] [(0,1,(tq 66)),(1,1,(.const (.str [49])))]),c2 68 44 64 67,mv 63 68,xt 69 63 0,xt 70 63 1,mv 11 69,mv 12 70]
 (.seq (sr [mv 71 12,ni 72 71 0,mv 73 72,mh 74 11 73,gz 75 73 (.call (fq 9) [tq 74]),gz 76 73 (.bin .neq (.zgf .int) true (tq 75) (kq 0)),pt 77 73 76]
 (cd 77
 (sr [ge 4 (.kv (.const (.bool false)))]
 (.ret))
 (.skip)))
 (sr [mv 78 11,mv 5 78]
 (sr [mv 79 6,mv 80 79,mg 81 9 80,gy 82 80 (.zig .i64 (tq 81)),gy 83 80 (.bin .gtr (.node []) false (tq 82) (.const (.int .i64 (-64)))),pf 84 80 83,mv 85 84,mg 86 9 85,gy 87 85 (.zig .i64 (tq 86)),gy 88 85 (.bin .lss (.node []) false (tq 87) (kq 64)),pf 89 85 88,mv 6 89]
 (.fk [mv 90 7,mv 91 10,mv 92 10,c2 93 29 91 92,c2 94 46 90 93,mv 7 94]))))))))
 (.fk [bc 95 .add 56 1,mv 56 95])))
def A.ziX:cC:=.seq (sr [mv 235 0,ln 236 235,mc 237 0]
 (.block 4 (.loop A.ziU)))
 (sr [ge 4 (.kv (.const (.bool true)))]
 (.ret))
def A.ziY:cC:=.seq (.seq (.eY [mv 210 27,ni 211 210 0,mv 212 211,gz 213 212 (.load (some 2) (tq 26)),gz 214 212 (.call (fq 42) [tq 213]),gz 215 212 (.bin .neq (.zgf .int) true (tq 214) (kq 0)),pt 216 212 215,mv 217 216,gz 218 217 (.ky 0 (tq 26)),gz 219 217 (.load none (tq 218)),gz 220 217 (.ky 1 (tq 22)),gz 221 217 (.load none (tq 220)),gz 222 217 (.call (fq 47) [tq 221]),gz 223 217 (.call (fq 35) [tq 219,tq 222]),gz 224 217 (.bin .gtr (.node []) false (tq 223) (kq 0)),pt 225 217 224,mv 226 225,gz 227 226 (.ky 0 (tq 22)),gz 228 226 (.load none (tq 227)),gz 229 226 (.call (fq 47) [tq 228]),gz 230 226 (.ky 1 (tq 26)),gz 231 226 (.load none (tq 230)),gz 232 226 (.call (fq 35) [tq 229,tq 231]),gz 233 226 (.bin .gtr (.node []) false (tq 232) (kq 0)),pt 234 226 233] [0,1,3,7,15,31,63,127,255,511,255,1279,3327,8191,16383,32767,65535,131071,262143,524287,131071,1179647,4194303,8388607,16777215])
 (cd 234
 (sr [ge 4 (.kv (.const (.bool false)))]
 (.ret))
 (.skip)))
 A.ziX
def A.ziZ:cC:=sr [mv 206 24,ge 207 (.call (fq 13) [tq 206,.const (.int .i64 2)]),mv 205 207,xt 208 205 0,xt 209 205 1,ge 26 (.alloc [(.str []),(.str [])] 32),gn (.store 2 (tq 26) (tq 208)),mv 27 209]
 A.ziY
def A.zi0:cC:=.seq (sr [fa 187 0 22,ld 188 187,fa 189 0 22,ld 190 189,c2 191 29 188 190,mv 192 7,c2 193 35 191 192,bc 194 .gtr 193 0,mv 195 194,mh 196 7 195,gz 197 195 (.ky 1 (tq 22)),gz 198 195 (.load none (tq 197)),gz 199 195 (.ky 1 (tq 22)),gz 200 195 (.load none (tq 199)),gz 201 195 (.call (fq 29) [tq 198,tq 200]),gz 202 195 (.call (fq 35) [tq 196,tq 201]),gz 203 195 (.bin .geq (.node []) false (tq 202) (kq 0)),pt 204 195 203]
 (cd 204
 (sr [ge 4 (.kv (.const (.bool false)))]
 (.ret))
 (.skip)))
 A.ziZ
def A.zi1:cC:=.seq (sr [mv 159 21,ni 160 159 0,mv 161 160,mh 162 23 161,gz 163 161 (.bin .neq (.zgf .int) true (tq 162) (kq 0)),pt 164 161 163,mv 165 164,mh 166 25 165,gz 167 165 (.bin .neq (.zgf .int) true (tq 166) (kq 0)),pt 168 165 167,mv 169 168,mh 170 20 169,mh 171 6 169,gz 172 169 (.bin .neq (.zgf .bool) false (tq 170) (tq 171)),pt 173 169 172,mv 174 173,gz 175 174 (.load (some 2) (tq 22)),gz 176 174 (.call (fq 42) [tq 175]),gz 177 174 (.bin .neq (.zgf .int) true (tq 176) (kq 0)),pt 178 174 177,mv 179 178,gz 180 179 (.ky 1 (tq 22)),gz 181 179 (.load none (tq 180)),gz 182 179 (.ky 0 (tq 22)),gz 183 179 (.load none (tq 182)),gz 184 179 (.call (fq 27) [tq 181,tq 183]),gz 185 179 (.bin .neq (.zgf .str) true (tq 184) (.const (.str [49,47,49,48,48]))),pt 186 179 185]
 (cd 186
 (sr [ge 4 (.kv (.const (.bool false)))]
 (.ret))
 (.skip)))
 A.zi0
def A.zi2:cC:=sr [mv 145 5,c1 146 11 145,mv 144 146,xt 147 144 0,xt 148 144 1,mv 20 147,mv 21 148]
 (sr [mv 150 5,ge 151 (.call (fq 13) [tq 150,.const (.int .i64 2)]),mv 149 151,xt 152 149 0,xt 153 149 1,ge 22 (.alloc [(.str []),(.str [])] 32),gn (.store 2 (tq 22) (tq 152)),mv 23 153]
 (sr [mv 155 5,ge 156 (.call (fq 43) [tq 155,(.const (.str [50]))]),mv 154 156,xt 157 154 0,xt 158 154 1,mv 24 157,mv 25 158]
 A.zi1))
def A.zi3:cC:=.seq (sr [mv 96 1,ln 97 96,mc 98 0]
 (.block 2 (.loop A.ziV)))
 A.zi2
def A.b6:cC:=sr [ge 4 (.kv (.const (.bool false)))]
 (.seq (sr [ge 32 (.call (fq 7) []),ge 33 (.un .not (tq 32)),mv 34 33,mh 35 0 34,gz 36 34 (.len 1 (tq 35)),gz 37 34 (.bin .gtr (.node []) false (tq 36) (kq 3)),pt 38 34 37,mv 39 38,mh 40 1 39,gz 41 39 (.len 1 (tq 40)),gz 42 39 (.bin .gtr (.node []) false (tq 41) (kq 2)),pt 43 39 42,mv 44 43,mh 45 0 44,gz 46 44 (.len 1 (tq 45)),mh 47 1 44,gz 48 44 (.len 1 (tq 47)),gz 49 44 (.bin .add (.node []) false (tq 46) (tq 48)),gz 50 44 (.bin .eql (.zgf .int) true (tq 49) (kq 0)),pt 51 44 50]
 (cd 51
 (sr [ge 52 (.call (fq 7) []),mv 4 52]
 (.ret))
 (.skip)))
 (sr [ge 53 (.kb 30 1 1 [(.str [])] [(0,1,(.const (.str [49])))]),mv 5 53]
 (sr [ge 6 (.kv (.const (.bool true)))]
 (sr [ge 7 (.kv (.const (.str [48])))]
 (.seq (sr [mv 54 0,ln 55 54,mc 56 0]
 (.block 0 (.loop A.ziW)))
 A.zi3)))))
def A.c6:A.F 6=some ⟨256,[.tmp 4],A.b6⟩:=by kernel_rfl
def A.k6:=@A.kk 6 _ _ _ A.c6 rfl
def Xhc(M:Nat)(e:Ex)(fr:Fr)(st:St)(H:T O)(n:Nat):Prop:=e=.ret/\∃r,fr=⟨r,256,[]⟩/\r.get 4=some (.bool true)/\aL M st.w=[]/\ah H n st.h st.n
def Xhc.trans{H2:T O}{n n2:Nat}{e:Ex}{fr:Fr}{st:St}(s:Xhc M e fr st H2 n2)(k:ah H n H2 n2):Xhc M e fr st H n:=by
 obtain⟨h1,r,h2,h3,h4,h5⟩:=s
 exact⟨h1,r,h2,h3,h4,k.trans h5⟩
def i8s(l:List Int):List V:=l.map fun z=>.int .i8 z
def Xha{l:List Int}{t:Nat}{z:Int}(h:l[t]?=some z):(i8s l)[t]?=some (.int .i8 z):=by
 unfold i8s
 rw[jT,h]
 rfl
def Xg9{l:List Int}:(i8s l).length=l.length:=Lh ..
def Xip{N d:Nat}{W:List Nat}{r:T V}{u v:V}{p:List Rat}{rs:List Int}(hM:Sm p d)(hd:d<=7)(hn:rs.length<=3)(hb:∀n∈rs,n.natAbs<=128)(ev:∀n∈rs,Ytf p (f64 n)=0)(hu:Sl H N u (i8s rs))(hv:Tx H N v p)(hP:j_ H N)(hW:aL M W=[])(hMN:M<=N)(r0:r.get 0=some u)(r5:r.get 5=some v):
  Code A.C none A.ziX ⟨r,256,[]⟩ ⟨H,N,W⟩ (fun e fr st=>Xhc M e fr st H N):=by
 rw[cn]
 have lu:=hu.len
 rw[Xg9]at lu
 simp(disch:=first|(simp;done)|omega|rfl) [-getElem?_pos,A.ziX,r0,lu]
 refine Zal [(4,4),(29,31),(237,255)] (fun e r' st=>e=.exit 4/\aL M st.w=[]/\ah H N st.h st.n) (fun m r' st=>aL M st.w=[]/\ah H N st.h st.n/\∃t,t+m=rs.length/\r'.get 237=some (.int .i64 t)) rs.length ?_ ?_ ?_
 ·exact⟨hW,ah.refl,0,by omega,by simp⟩
 ·rintro m r' ⟨H1,n1,W1⟩ hr hf ⟨Tw,hK,t,ht,zi_⟩
  simp only at Tw hK
  rw[cn]
  have Nx:=hK.le
  cases m with
  |zero=>
   obtain rfl:t=rs.length:=by omega
   simp(disch:=first|(simp;done)|omega|rfl) [-getElem?_pos,A.ziU,hr,hf,zi_,Tw,hK]
  |succ m=>
   have aW:t<rs.length:=by omega
   have zij:(t:Int)<(rs.length:Int):=by omega
   obtain⟨z,hz⟩:=eQ aW
   have zm:=eI hz
   have bz:=hb z zm
   obtain⟨i1,o1,c1,y1,w1,a1,a2,a3,a4⟩:=(hu.ai hK).at (Xha hz)
   have wz:bA .i64 z=z:=cH (by omega) (by omega)
   have oz:=fun st:St=>Xid (st:=st) bz
   have wt:bA .i64 ((t:Int)+1)=((t+1:Nat):Int):=by
    rw[show (t:Int)+1=((t+1:Nat):Int) by omega]
    exact cH (by omega) (by omega)
   simp(disch:=first|(simp;done)|omega|rfl) [-getElem?_pos,A.ziU,hr,hf,zi_,aW,zij,lu,r0,r5,a1,a2,a3,a4,wz,oz]
   refine av (Xh3 hM hd bz (ev z zm) (hv.ai hK) (hP.ai hK)) ?_
   rintro _ h2 n2 k2 rfl
   simp(disch:=first|(simp;done)|omega|rfl) [-getElem?_pos,hr,hf,zi_,aW,zij,a_]
   exact⟨m,by omega,Tw,hK.trans k2,t+1,by omega,by omega⟩
 ·rintro e r' ⟨H1,n1,W1⟩ hr ⟨rfl,Tw,hK⟩
  simp only at Tw hK
  simp(disch:=first|(simp;done)|omega|rfl) [-getElem?_pos,hr]
  exact⟨rfl,_,rfl,by simp,by simpa using Tw,hK⟩
def Xhi{K:Nat}(qa:Qb K a)(qb:Qb K b)(hK:K<=1800)(h:a<=b):lS (Zao a) (Zao b)=0:=by
 have ca:gV [Zao a,Zao b]=0:=Ye4 fun y hy=>by
  simp only[Yw1,tV,kV,List.not_mem_nil,or_false]at hy
  rcases hy with rfl|rfl
  ·rw[ND qa hK];rfl
  ·rw[ND qb hK];rfl
 rw[lS,aR ca,og,og,aA (Rat.not_lt.2 h)]
def Xg1(h:a<=b):¬0<sg3 (a-b).num:=fun c=>(Rat.not_lt.2 h) (Ycb.1 c)
def Xhd(h:a<b):¬0<=sg3 (a-b).num:=fun c=>(Rat.not_lt.2 (Xe8.1 c)) h
def Xio{N d C C2:Nat}{W:List Nat}{r:T V}{u v:V}{p:List Rat}{rs:List Int}{c e:Rat}(hM:Sm p d)(hd:d<=7)(hn:rs.length<=3)(hb:∀n∈rs,n.natAbs<=128)(ev:∀n∈rs,Ytf p (f64 n)=0)(qa:Qb 20 a)(qb:Qb 20 b)(qc:Qb 20 c)(qe:Qb 20 e)(ce:c<=e)(cb:c<=b*(1/2))(ae:a*(1/2)<=e)(hu:Sl H N u (i8s rs))(hv:Tx H N v p)(hP:j_ H N)(hC:H.get C=some (.cells [.str (Zao a),.str (Zao b)] 32 true))(hCN:C<N)(hC2:H.get C2=some (.cells [.str (Zao c),.str (Zao e)] 32 true))(zi6:C2<N)(hW:aL M W=[])(hMN:M<=N)(r0:r.get 0=some u)(r5:r.get 5=some v)(r22:r.get 22=some (.ptr C 0))(r26:r.get 26=some (.ptr C2 0))(r27:r.get 27=some (.int .i64 0)):
  Code A.C none A.ziY ⟨r,256,[]⟩ ⟨H,N,W⟩ (fun e fr st=>Xhc M e fr st H N):=by
 rw[cn]
 have t1:=SN qa
 have t2:=SN qb
 have t3:=SN qc
 have t4:=SN qe
 have qh:Qb 2 ((1:Rat)/2):=⟨by decide+kernel,by decide+kernel⟩
 have q1:=qb.mul qh
 have q2:=qa.mul qh
 have t5:=SN q1
 have csp:=Xhi qc qe (by decide) ce
 have n1:=Xg1 cb
 have n2:=Xg1 ae
 simp(disch:=first|(simp;done)|omega|rfl) [-getElem?_pos,A.ziY,r27,r26,hC2,zi6,aI,aK,a_]
 refine av (Zwy (by omega) (by omega)) ?_
 rintro _ h1 m1 k1 rfl
 have xF:=k1.le
 have g1:=(k1.get C hCN).trans hC
 have g2:=(k1.get C2 zi6).trans hC2
 have i1:C<m1:=by omega
 have i2:C2<m1:=by omega
 simp(disch:=first|(simp;done)|omega|rfl) [-getElem?_pos,csp,a_,r22,r26,g1,g2,i1,i2,aI,aK]
 refine av (Xdo qb (by decide)) ?_
 rintro _ h2 m2 k2 rfl
 simp(disch:=first|(simp;done)|omega|rfl) [-getElem?_pos,]
 refine av (KX qc q1 (by decide) (by decide) (by omega)) ?_
 rintro _ h3 m3 k3 rfl
 have K3:=(k1.trans k2).trans k3
 have KU:=K3.le
 have g3:=(K3.get C hCN).trans hC
 have g4:=(K3.get C2 zi6).trans hC2
 have i3:C<m3:=by omega
 have i4:C2<m3:=by omega
 simp(disch:=first|(simp;done)|omega|rfl) [-getElem?_pos,n1,r22,g3,i3,aI,aK]
 refine av (Xdo qa (by decide)) ?_
 rintro _ h4 m4 k4 rfl
 have K4:=K3.trans k4
 have le4:=K4.le
 have g5:=(K4.get C2 zi6).trans hC2
 have i5:C2<m4:=by omega
 simp(disch:=first|(simp;done)|omega|rfl) [-getElem?_pos,r26,g5,i5,aI,aK]
 refine av (KX q2 qe (by decide) (by decide) (by omega)) ?_
 rintro _ h5 m5 k5 rfl
 have K5:=K4.trans k5
 have le5:=K5.le
 simp(disch:=first|(simp;done)|omega|rfl) [-getElem?_pos,n2]
 refine nc (Xip (M:=M) hM hd hn hb ev (hu.ai K5) (hv.ai K5) (hP.ai K5) (by simpa using hW) (by omega) (by simp[r0]) (by simp[r5])) ?_
 intro e fr st hq
 simp(disch:=first|(simp;done)|omega|rfl) [-getElem?_pos,]
 exact hq.trans K5
end Go.Mx
