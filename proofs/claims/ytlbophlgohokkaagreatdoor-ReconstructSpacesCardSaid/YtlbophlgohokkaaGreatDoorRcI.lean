/-
  lensletref01: parts.
-/
import Derived.Test.YtlbophlgohokkaaGreatDoorRcE
import Derived.Test.YtlbophlgohokkaaGreatDoorMxDec
set_option linter.all false
namespace Go.Mx
open Go Go.Proofs
set_option maxRecDepth 1000000
theorem Zc{h h2:T O}{N n2:Nat}{a b:Int}{x y:V}(hx:Sl h2 n2 x (dI (ds a.natAbs)))(hy:Sl h2 n2 y (dI (ds b.natAbs)))(r0:h2.get N=some (.cells [.bool false,.aa] 175 true))(r1:h2.get (N+1)=some (.cells [.bool false,.aa] 175 true)):Rg ((h2.set N (.cells [.bool (decide (a<0)),x] 175 true)).set (N+1) (.cells [.bool (decide (b<0)),y] 175 true)) n2 (.agg [.bool (decide (a<0)),x]) a/\Rg ((h2.set N (.cells [.bool (decide (a<0)),x] 175 true)).set (N+1) (.cells [.bool (decide (b<0)),y] 175 true)) n2 (.agg [.bool (decide (b<0)),y]) b:=by
 have C6:(h2.set N (.cells [.bool (decide (a<0)),x] 175 true)).get (N+1)=some (.cells [.bool false,.aa] 175 true):=by rw[T.ah,ar (by omega)];exact r1
 exact⟨⟨x,rfl,Sl.setInt (Sl.setInt hx r0 ig rfl) C6 ig rfl⟩,⟨y,rfl,Sl.setInt (Sl.setInt hy r0 ig rfl) C6 ig rfl⟩⟩
theorem HF{q:Rat}{h:T O}{N:Nat}(l1:(aK q.num).length<=1000000)(l2:(ak q.den).length<=1000000):Fn A.C 160 [.str (aN q)] h N (fun v h' n'=>∃x y,v=.bb [x,y]/\Rg h' n' x q.num/\Rg h' n' y (q.den:Int)):=by
 intro w
 have aB:(aN q).length<=3000000:=by
  unfold aN
  split
  ·omega
  ·simp only[fK,bq];omega
 have cC:=fun st=>AJ (s:=aN q) (st:=st) (by omega)
 have hsa:=EC q
 have Su:=GV q
 have oV:=(ab.refl (h:=h) (n:=N)).new (.cells [.bool false,.aa] 175 true)
 have k0:=oV.new (.cells [.bool false,.aa] 175 true)
 have d4':¬N+1=N:=by omega
 have d5':¬N=N+1:=by omega
 rw[aP,A.k160 (by simp)]
 by_cases hd:q.den=1
 ·have he:ae (aN q)=(aN q).length:=by
   have:=yJ q
   have h2:ae (aN q)<=(aN q).length:=by
    rw[hsa]
    unfold aN
    rw[aF hd]
    exact aV _
   omega
  have jx:aN q=aK q.num:=by unfold aN;rw[aF hd]
  have c1:((ae (aN q):Int)=((aN q).length:Int)):=by omega
  rw[hd]
  simp[A.b160,cC,he]
  rw[jx]
  refine ax (Zb (z:=q.num) (by omega)) ?_
  rintro v1 h1 n1 k1 ⟨x,rfl,hx⟩
  simp[]
  refine ax (Yav (z:=1) (by omega) (by omega)) ?_
  rintro v2 h2 n2 k2 ⟨y,rfl,hy⟩
  have ep:=k1.le
  have fH:=k2.le
  have hx:=Sl.ad hx k2
  have r0:=(k2.get N (by omega)).trans (k1.get N (by omega))
  have r1:=(k2.get (N+1) (by omega)).trans (k1.get (N+1) (by omega))
  simp at r0 r1
  have rY:=(Sl.form hx).one
  have rZ:=(Sl.form hy).one
  have CY:=(Sl.form hx).cells
  have GS:=(Sl.form hy).cells
  unfold V.one at rY rZ
  unfold V.cells at CY GS
  obtain⟨e1,e2⟩:=Zc (h:=h) (b:=1) hx hy r0 r1
  have LH:N<n1:=by omega
  have LI:N<n2:=by omega
  have LJ:N+1<n2:=by omega
  simp[r0,r1,ag,bL,rY,rZ,aO,aM,aA]
  simp only[show decide ((1:Int)<0)=false from rfl]at e1 e2
  exact⟨(((k0.trans k1).trans k2).set (by omega)).set (by omega),_,_,⟨rfl,rfl⟩,e1,e2⟩
 ·have dW:=(yJ q).2 hd
  have rT:=GW q hd
  have c1:¬((ae (aN q):Int)=((aN q).length:Int)):=by omega
  have c2:¬(ae (aN q)=(aN q).length):=by omega
  have c3:(ae (aN q):Int)<=((aN q).length:Int):=by omega
  have c4:(ae (aN q):Int)+1<=((aN q).length:Int):=by omega
  have c5:((ae (aN q):Int)+1).toNat=ae (aN q)+1:=by omega
  have xf:aC (ak q.den)=q.den:=yI _
  simp[A.b160,cC,c1,c3,ay,Su]
  refine ax (Zb (z:=q.num) (by omega)) ?_
  rintro v1 h1 n1 k1 ⟨x,rfl,hx⟩
  simp(disch:=omega) [c5,ay,rT]
  refine ax (LG (tR q.den) (List.length_pos_iff.2 (Cg _)) (by omega)) ?_
  rintro v2 h2 n2 k2 hy
  rw[xf]at hy
  obtain⟨y,rfl,hy⟩:=hy
  have ep:=k1.le
  have fH:=k2.le
  have hx:=Sl.ad hx k2
  have r0:=(k2.get N (by omega)).trans (k1.get N (by omega))
  have r1:=(k2.get (N+1) (by omega)).trans (k1.get (N+1) (by omega))
  simp at r0 r1
  have rY:=(Sl.form hx).one
  have rZ:=(Sl.form hy).one
  have CY:=(Sl.form hx).cells
  have GS:=(Sl.form hy).cells
  unfold V.one at rY rZ
  unfold V.cells at CY GS
  obtain⟨e1,e2⟩:=Zc (h:=h) (b:=(q.den:Int)) hx hy r0 r1
  have LH:N<n1:=by omega
  have LI:N<n2:=by omega
  have LJ:N+1<n2:=by omega
  have pL:¬(q.den:Int)<0:=by omega
  simp only[show decide ((q.den:Int)<0)=false by simp[pL]]at e1 e2
  simp[r0,r1,ag,bL,rY,rZ,LH,LI,LJ,aO,aM,dn.dp,aA,pL]
  exact⟨(((k0.trans k1).trans k2).set (by omega)).set (by omega),_,_,⟨rfl,rfl⟩,e1,e2⟩
theorem IS{n:Nat}:(ak n).length<=9↔n<1000000000:=Jn (k:=9) (by omega)
theorem Zd{n:Nat}(h:n<1000000000)(st:St):A.C.call (.func 229 [] []) [.str (ak n)] st=some (.int .i64 n,st):=by
 have:=Io (s:=ak n) (st:=st) (tR n) (by have:=IS.2 h;omega)
 rwa [yI]at this
variable {q:Rat}
def A.b162:aq:=sr [mc 2 0,mc 3 0,⟨(some 4),.aZ (.const (.bool false)),none⟩]
 (sr [mv 10 0,mv 5 10]
 (.seq (sr [mv 11 5,⟨(some 12),.len 0 (.tmp 11),none⟩,bc 13 .gtr 12 20]
 (cd 13
 (sr [mc 2 0,mc 3 0,⟨(some 4),.aZ (.const (.bool false)),none⟩]
 (.ret))
 (.skip)))
 (sr [mv 14 5,⟨(some 15),.len 0 (.tmp 14),none⟩,bc 16 .gtr 15 0,mv 17 16,mg 18 5 17,⟨(some 19),.aQ (.tmp 18) (.const (.int .i64 0)),(some (17,true))⟩,⟨(some 20),.bin .eql (.aH .int) true (.tmp 19) (.const (.int .u8 45)),(some (17,true))⟩,pf 21 17 20,mv 6 21]
 (.seq (sr [mv 22 6]
 (cd 22
 (.aL [mv 23 5,⟨(some 24),.az (.tmp 23) (some (.const (.int .i64 1))) none,none⟩,mv 5 24])
 (.skip)))
 (sr [mv 25 5,c1 26 158 25,mv 7 26]
 (.seq (sr [mv 27 7,bc 28 .gtr 27 9,mv 29 28,mh 30 5 29,⟨(some 31),.len 0 (.tmp 30),(some (29,false))⟩,mh 32 7 29,⟨(some 33),.bin .sub (.node []) false (.tmp 31) (.tmp 32),(some (29,false))⟩,⟨(some 34),.bin .gtr (.node []) false (.tmp 33) (.const (.int .i64 10)),(some (29,false))⟩,pt 35 29 34]
 (cd 35
 (sr [mc 2 0,mc 3 0,⟨(some 4),.aZ (.const (.bool false)),none⟩]
 (.ret))
 (.skip)))
 (sr [mv 36 5,mv 37 7,⟨(some 38),.az (.tmp 36) none (some (.tmp 37)),none⟩,c1 39 229 38,mv 8 39,mc 9 1]
 (.seq (sr [mv 40 7,mv 41 5,⟨(some 42),.len 0 (.tmp 41),none⟩,bi 43 .lss 40 42]
 (cd 43
 (.aL [mv 44 5,mv 45 7,bc 46 .add 45 1,⟨(some 47),.az (.tmp 44) (some (.tmp 46)) none,none⟩,c1 48 229 47,mv 9 48])
 (.skip)))
 (.seq (sr [mv 49 6]
 (cd 49
 (.aL [mv 50 8,⟨(some 51),.bin .sub (.node []) false (.const (.int .i64 0)) (.tmp 50),none⟩,mv 8 51])
 (.skip)))
 (sr [mv 52 8,mv 53 9,mv 2 52,mv 3 53,⟨(some 4),.aZ (.const (.bool true)),none⟩]
 (.ret)))))))))))
theorem A.c162:A.F 162=some ⟨54,[.tmp 2,.tmp 3,.tmp 4],A.b162⟩:=by kernel_rfl
def A.k162:=@A.kk 162 _ _ _ A.c162 rfl
def QB(q:Rat):aX:=if q.den=1 then ak q.num.natAbs else ak q.num.natAbs++47::ak q.den
theorem xy(q:Rat):aN q=if q.num<0 then 45::QB q else QB q:=by
 unfold aN QB aK
 by_cases h1:q.den=1<;>by_cases h2:q.num<0<;>simp[h1,h2]
theorem Yif(q:Rat):ae (QB q)=(ak q.num.natAbs).length:=by
 unfold QB
 split
 ·exact Kt (Ez (tR _))
 ·exact Ks (Ez (tR _))
theorem Ynb(q:Rat):(QB q).take (ak q.num.natAbs).length=ak q.num.natAbs:=by
 unfold QB
 split
 ·exact fN (aV _)
 ·exact List.take_left
theorem Ync(h:q.den≠1):(QB q).drop ((ak q.num.natAbs).length+1)=ak q.den:=by
 unfold QB
 rw[ar h,<-List.drop_drop,List.drop_left];rfl
theorem Ze(q:Rat):(QB q).length=(ak q.num.natAbs).length+(if q.den=1 then 0 else (ak q.den).length+1):=by
 unfold QB
 split<;>simp
theorem QL(q:Rat):∃c t,QB q=c::t/\48<=c.toNat:=by
 obtain⟨c,t,h,h1,_⟩:=Vz (n:=q.num.natAbs)
 unfold QB
 split
 ·exact⟨c,t,h,h1⟩
 ·exact⟨c,t++47::ak q.den,by rw[h];rfl,h1⟩
theorem Ybf{st:St}(hl:(aN q).length<=20):A.C.call (.func 162 [] []) [.str (aN q)] st=some (if q.num.natAbs<1000000000/\q.den<1000000000 then .bb [.int .i64 q.num,.int .i64 q.den,.bool true] else .bb [.int .i64 0,.int .i64 0,.bool false],st):=by
 obtain⟨c,t,hB,hc⟩:=QL q
 have hs:=Yif q
 have ht:=Ynb q
 have s_:=Ze q
 have h9:=IS (n:=q.num.natAbs)
 have Zf:=IS (n:=q.den)
 have hn:=fun h st=>Zd (n:=q.num.natAbs) h st
 have hd:=fun h st=>Zd (n:=q.den) h st
 have rT:=Ync (q:=q)
 have zd:¬cE c=45:=by unfold cE;omega
 have jx:=xy q
 have hBl:(QB q).length<=20:=by
  rw[jx]at hl
  split at hl
  ·simp only[bq]at hl;omega
  ·exact hl
 have cC:=fun st=>AJ (s:=QB q) (st:=st) (by omega)
 rw[hs]at cC
 have k_:(QB q)[0]?=some c:=by rw[hB];rfl
 have hh:(QB q).head?=some c:=by rw[hB];rfl
 have bA:QB q≠[]:=by rw[hB];simp
 have y_:0<(QB q).length:=by rw[hB];simp
 have zaK:(0:Int)<((QB q).length:Int):=by omega
 have ze:¬(20:Int)<((QB q).length:Int):=by omega
 have nZ:(ak q.num.natAbs).length<=(QB q).length:=by omega
 have zaL:((ak q.num.natAbs).length:Int)<=((QB q).length:Int):=by omega
 have k0:0<=(ak q.num.natAbs).length:=pC _
 have w1:bk .i64 (((QB q).length:Int)-((ak q.num.natAbs).length:Int))=((QB q).length:Int)-((ak q.num.natAbs).length:Int):=ct (by omega) (by omega)
 have w2:bk .i64 (((ak q.num.natAbs).length:Int)+1)=((ak q.num.natAbs).length:Int)+1:=ct (by omega) (by omega)
 have a3:∀st:St,ph st (some (.str (45::QB q))) (some (some (.int .i64 1))) (some none)=some (.str (QB q),st):=fun st=>by rw[Cq (by omega) (by simp only[bq];omega)];rfl
 have a4:∀st:St,ph st (some (.str (QB q))) (some none) (some (some (.int .i64 (ak q.num.natAbs).length)))=some (.str (ak q.num.natAbs),st):=fun st=>by rw[Qh (by omega) (by omega),Int.toNat_natCast,ht]
 apply Call.eq
 rw[aP,A.k162 (by simp),jx]
 by_cases e9:q.num.natAbs<1000000000
 ·have g9:¬(9:Int)<((ak q.num.natAbs).length:Int):=by have:=h9.2 e9;omega
  have hn:=hn e9
  by_cases e1:q.den=1
  ·rw[aF e1]at s_
   have AS:¬(10:Int)<((QB q).length:Int)-((ak q.num.natAbs).length:Int):=by omega
   have IT:¬((ak q.num.natAbs).length:Int)<((QB q).length:Int):=by omega
   have g12:¬(ak q.num.natAbs).length<(QB q).length:=by omega
   rw[e1]
   by_cases hz:q.num<0
   ·have ez:(q.num.natAbs:Int)= -q.num:=by omega
    have w3:bk .i64 (0-(q.num.natAbs:Int))=q.num:=by rw[ez];rw[ct (by omega) (by omega)];omega
    have a5:cE 45=45:=rfl
    have dP:(QB q).length+1<=20:=by rw[jx,aF hz]at hl;simpa using hl
    have yZ:¬(20:Int)<((QB q).length:Int)+1:=by omega
    have t_:(0:Int)<((QB q).length:Int)+1:=by omega
    simp(disch:=first|(simp;done)|omega|rfl) [-getElem?_pos,A.b162,hz,yZ,t_,a3,a5,cC,ay,g9,AS,IT,w1,a4,hn,e9]
    omega
   ·have ez:(q.num.natAbs:Int)=q.num:=by omega
    simp(disch:=first|(simp;done)|omega|rfl) [-getElem?_pos,A.b162,hz,k_,y_,ze,zd,cC,ay,g9,AS,IT,w1,a4,hn,ez,e9]
  ·rw[ar e1]at s_
   have rT:=rT e1
   have IT:((ak q.num.natAbs).length:Int)<((QB q).length:Int):=by omega
   have g12:(ak q.num.natAbs).length<(QB q).length:=by omega
   have a6:∀st:St,ph st (some (.str (QB q))) (some (some (.int .i64 (((ak q.num.natAbs).length:Int)+1)))) (some none)=some (.str (ak q.den),st):=fun st=>by
    rw[Cq (by omega) (by omega)]
    have:(((ak q.num.natAbs).length:Int)+1).toNat=(ak q.num.natAbs).length+1:=by omega
    rw[this,rT]
   by_cases e10:q.den<1000000000
   ·have AS:¬(10:Int)<((QB q).length:Int)-((ak q.num.natAbs).length:Int):=by have:=Zf.2 e10;omega
    have hd:=hd e10
    by_cases hz:q.num<0
    ·have ez:(q.num.natAbs:Int)= -q.num:=by omega
     have w3:bk .i64 (0-(q.num.natAbs:Int))=q.num:=by rw[ez];rw[ct (by omega) (by omega)];omega
     have a5:cE 45=45:=rfl
     have dP:(QB q).length+1<=20:=by rw[jx,aF hz]at hl;simpa using hl
     have yZ:¬(20:Int)<((QB q).length:Int)+1:=by omega
     have t_:(0:Int)<((QB q).length:Int)+1:=by omega
     simp(disch:=first|(simp;done)|omega|rfl) [-getElem?_pos,A.b162,hz,yZ,t_,a3,a5,a6,cC,ay,g9,AS,IT,w1,w2,a4,hn,hd,e9,e10]
     omega
    ·have ez:(q.num.natAbs:Int)=q.num:=by omega
     simp(disch:=first|(simp;done)|omega|rfl) [-getElem?_pos,A.b162,hz,k_,y_,ze,zd,a6,cC,ay,g9,AS,IT,w1,w2,a4,hn,hd,ez,e9,e10]
   ·have AS:(10:Int)<((QB q).length:Int)-((ak q.num.natAbs).length:Int):=by
     have:¬(ak q.den).length<=9:=fun hc=>e10 (Zf.1 hc)
     omega
    by_cases hz:q.num<0
    ·have a5:cE 45=45:=rfl
     have dP:(QB q).length+1<=20:=by rw[jx,aF hz]at hl;simpa using hl
     have yZ:¬(20:Int)<((QB q).length:Int)+1:=by omega
     have t_:(0:Int)<((QB q).length:Int)+1:=by omega
     simp(disch:=first|(simp;done)|omega|rfl) [-getElem?_pos,A.b162,hz,yZ,t_,a3,a5,cC,ay,g9,AS,w1,e9,e10]
    ·simp(disch:=first|(simp;done)|omega|rfl) [-getElem?_pos,A.b162,hz,k_,y_,ze,zd,cC,g9,AS,w1,e9,e10]
 ·have g9:(9:Int)<((ak q.num.natAbs).length:Int):=by
   have:¬(ak q.num.natAbs).length<=9:=fun hc=>e9 (h9.1 hc)
   omega
  by_cases hz:q.num<0
  ·have a5:cE 45=45:=rfl
   have dP:(QB q).length+1<=20:=by rw[jx,aF hz]at hl;simpa using hl
   have yZ:¬(20:Int)<((QB q).length:Int)+1:=by omega
   have t_:(0:Int)<((QB q).length:Int)+1:=by omega
   simp(disch:=first|(simp;done)|omega|rfl) [-getElem?_pos,A.b162,hz,yZ,t_,a3,a5,cC,ay,g9,e9]
  ·simp(disch:=first|(simp;done)|omega|rfl) [-getElem?_pos,A.b162,hz,k_,y_,ze,zd,cC,g9,e9]
theorem Zxv{st:St}(h1:20<(aN q).length):A.C.call (.func 162 [] []) [.str (aN q)] st=some (.bb [.int .i64 0,.int .i64 0,.bool false],st):=by
 have h2:(20:Int)<((aN q).length:Int):=by omega
 apply Call.eq
 rw[aP,A.k162 (by simp)]
 simp[A.b162,h2]
theorem Ydi(h:q.num.natAbs<1000000000/\q.den<1000000000):(aN q).length<=20:=by
 have h1:=IS.2 h.1
 have h2:=IS.2 h.2
 have h3:=Ze q
 rw[xy]
 split
 ·simp only[bq];split at h3<;>omega
 ·split at h3<;>omega
theorem Zg{st:St}:A.C.call (.func 162 [] []) [.str (aN q)] st=some (if q.num.natAbs<1000000000/\q.den<1000000000 then .bb [.int .i64 q.num,.int .i64 q.den,.bool true] else .bb [.int .i64 0,.int .i64 0,.bool false],st):=by
 by_cases h:(aN q).length<=20
 ·exact Ybf h
 ·rw[ar fun hc=>h (Ydi hc)]
  exact Zxv (by omega)
variable {j:Nat}
set_option maxHeartbeats 2000000
def A.b96:aq:=sr [⟨(some 4),.aZ (.const (.str [])),none⟩]
 (sr [mv 16 0,c1 17 162 16,mv 15 17,xt 18 15 0,xt 19 15 1,xt 20 15 2,mv 5 18,mv 6 19,mv 7 20]
 (sr [mv 22 1,c1 23 162 22,mv 21 23,xt 24 21 0,xt 25 21 1,xt 26 21 2,mv 8 24,mv 9 25,mv 10 26]
 (.seq (sr [mv 27 7,mv 28 27,mg 29 10 28,pf 30 28 29]
 (cd 30
 (sr [mv 31 5,mv 32 8,bi 33 .mul 31 32,mv 34 6,mv 35 9,bi 36 .mul 34 35,c2 37 163 33 36,mv 4 37]
 (.ret))
 (.skip)))
 (sr [mv 39 0,c1 40 160 39,mv 38 40,xt 41 38 0,xt 42 38 1,⟨(some 11),.alloc [(.bool false),.aa] 175,none⟩,⟨(some 12),.alloc [(.bool false),.aa] 175,none⟩,⟨none,.store 2 (.tmp 11) (.tmp 41),none⟩,⟨none,.store 2 (.tmp 12) (.tmp 42),none⟩]
 (sr [mv 44 1,c1 45 160 44,mv 43 45,xt 46 43 0,xt 47 43 1,⟨(some 13),.alloc [(.bool false),.aa] 175,none⟩,⟨(some 14),.alloc [(.bool false),.aa] 175,none⟩,⟨none,.store 2 (.tmp 13) (.tmp 46),none⟩,⟨none,.store 2 (.tmp 14) (.tmp 47),none⟩]
 (.seq (.aS [lN 48 2 11,lN 49 2 13,c2 50 166 48 49,lN 51 2 12,lN 52 2 14,c2 53 166 51 52,c2 54 164 50 53,mv 4 54] [0,0,3,0,0,31,63,127])
 (.ret)))))))
theorem A.c96:A.F 96=some ⟨55,[.tmp 4],A.b96⟩:=by kernel_rfl
def A.k96:=@A.kk 96 _ _ _ A.c96 rfl
theorem Zh(a b:Rat):a*b=Rat.divInt (a.num*b.num) ((a.den:Int)*(b.den:Int)):=by
 rw[Rat.mul_def,Rat.normalize_eq_mkRat,<-Rat.divInt_ofNat]
 simp
theorem Zi(a b:Rat):a+b=Rat.divInt (a.num*(b.den:Int)+b.num*(a.den:Int)) ((a.den:Int)*(b.den:Int)):=by
 rw[Rat.add_def,Rat.normalize_eq_mkRat,<-Rat.divInt_ofNat]
 simp
theorem IU{a b:Nat}(h1:a<1000000000)(h2:b<1000000000):a*b<=1000000000000000000:=by
 have:=sM (Nat.le_of_lt h1) (Nat.le_of_lt h2)
 omega
theorem LU(q:Rat):∃(n d:Int) (o:Bool),(∀st,A.C.call (.func 162 [] []) [.str (aN q)] st=some (.bb [.int .i64 n,.int .i64 d,.bool o],st))/\(o=true->n=q.num/\d=(q.den:Int)/\q.num.natAbs<1000000000/\q.den<1000000000):=by
 by_cases f:q.num.natAbs<1000000000/\q.den<1000000000
 ·exact⟨q.num,q.den,true,fun st=>by rw[Zg,aF f],fun _=>⟨rfl,rfl,f⟩⟩
 ·exact⟨0,0,false,fun st=>by rw[Zg,ar f],fun h=>by cases h⟩
theorem Rg.l7{h:T O}{N:Nat}{v:V}{z:Int}(s:Rg h N v z):∃u,v=.agg [.bool (decide (z<0)),u]/\V.one u=true/\V.cells u=[u]/\zV u:=by
 obtain⟨u,rfl,hu⟩:=s
 exact⟨u,rfl,(Sl.form hu).one,(Sl.form hu).cells,Sl.form hu⟩
theorem IV{a b:Int}{k:Nat}(h1:a.natAbs<2^j)(h2:b.natAbs<2^k):(a*b).natAbs<2^(j+k):=by
 rw[q8,jr]
 exact x9 h1 h2
theorem Zp5{a b:Int}(h1:a.natAbs<2^j)(h2:b.natAbs<2^j):(a+b).natAbs<2^(j+1):=by
 have:=Int.natAbs_add_le a b
 rw[fJ];omega
theorem Yk4{a b:Rat}{k:Nat}{h:T O}{N:Nat}(ha:Qb j a)(hb:Qb k b)(hj:j<=400000)(hk:k<=400000):Fn A.C 96 [.str (aN a),.str (aN b)] h N (fun u _ _=>u=.str (aN (a*b))):=by
 intro w
 obtain⟨n1,d1,o1,mj,f1⟩:=LU a
 obtain⟨n2,d2,o2,gh,f2⟩:=LU b
 have pa:=Rat.den_pos a
 have pb:=Rat.den_pos b
 rw[aP,A.k96 (by simp)]
 have key:(o1=true/\o2=true)\/(o1=false\/(o1=true/\o2=false)):=by cases o1<;>cases o2<;>simp
 rcases key with⟨rfl,rfl⟩|key
 ·obtain⟨rfl,rfl,g1⟩:=f1 rfl
  obtain⟨rfl,rfl,g2⟩:=f2 rfl
  have m1:(a.num*b.num).natAbs<=1000000000000000000:=by rw[q8];exact IU g1.1 g2.1
  have m2:a.den*b.den<=1000000000000000000:=IU g1.2 g2.2
  have m3:0<a.den*b.den:=wQ pa pb
  have e2:(a.den:Int)*(b.den:Int)=((a.den*b.den:Nat):Int):=by simp
  have w1:bk .i64 (a.num*b.num)=a.num*b.num:=ct (by omega) (by omega)
  have w2:bk .i64 ((a.den:Int)*(b.den:Int))=(a.den:Int)*(b.den:Int):=by rw[e2];exact ct (by omega) (by omega)
  have ho:=fun st=>Y8 (p:=a.num*b.num) (q:=(a.den:Int)*(b.den:Int)) (st:=st) (by omega) (by omega) (by omega) (by omega) (by omega)
  rw[<-Zh]at ho
  simp[A.b96,mj,gh,w1,w2,ho,aA]
  exact ab.refl
 ·have la:=A5 ha.1
  have K9:=zp ha.2
  have lb:=A5 hb.1
  have lb2:=zp hb.2
  have z1:=pP ha.1
  have z2:=pP hb.1
  have z3:=pP ha.2
  have z4:=pP hb.2
  rcases key with rfl|⟨rfl,rfl⟩
  all_goals simp[A.b96,mj,gh]
  all_goals
   refine ax (HF (q:=a) (by omega) (by omega)) ?_
   rintro _ h1 t1 k1 ⟨x1,y1,rfl,X1,Y1⟩
   obtain⟨u1,rfl,p1,p2,F1⟩:=X1.l7
   obtain⟨v1,rfl,p3,p4,G1⟩:=Y1.l7
   unfold V.one at p1 p3
   unfold V.cells at p2 p4
   have KA:=((((ab.refl (h:=h1) (n:=t1)).new (.cells [.bool false,.aa] 175 true)).new (.cells [.bool false,.aa] 175 true)).set (i:=t1) (o:=.cells [.bool (decide (a.num<0)),u1] 175 true) (aV _)).set (i:=t1+1) (o:=.cells [.bool (decide ((a.den:Int)<0)),v1] 175 true) (by omega)
   have c0:¬t1+1=t1:=by omega
   have c00:¬t1=t1+1:=by omega
   simp[p1,p3,bL,ag]
   generalize vT:(((h1.set t1 (.cells [.bool false,.aa] 175 true)).set (t1+1) (.cells [.bool false,.aa] 175 true)).set t1 (.cells [.bool (decide (a.num<0)),u1] 175 true)).set (t1+1) (.cells [.bool (decide ((a.den:Int)<0)),v1] 175 true)=HA at*
   have Bb:HA.get t1=some (.cells [.bool (decide (a.num<0)),u1] 175 true):=by rw[<-vT];simp
   have HG:HA.get (t1+1)=some (.cells [.bool (decide ((a.den:Int)<0)),v1] 175 true):=by rw[<-vT];simp
   have X1:=X1.ad KA
   have Y1:=Y1.ad KA
   clear vT
   refine ax (HF (q:=b) (by omega) (by omega)) ?_
   rintro _ h2 t2 k2 ⟨x2,y2,rfl,X2,Y2⟩
   obtain⟨u2,rfl,p5,p6,F2⟩:=X2.l7
   obtain⟨v2,rfl,p7,p8,G2⟩:=Y2.l7
   unfold V.one at p5 p7
   unfold V.cells at p6 p8
   have KB:=((((ab.refl (h:=h2) (n:=t2)).new (.cells [.bool false,.aa] 175 true)).new (.cells [.bool false,.aa] 175 true)).set (i:=t2) (o:=.cells [.bool (decide (b.num<0)),u2] 175 true) (aV _)).set (i:=t2+1) (o:=.cells [.bool (decide ((b.den:Int)<0)),v2] 175 true) (by omega)
   have c1:¬t2+1=t2:=by omega
   have c11:¬t2=t2+1:=by omega
   have i2:=k2.le
   generalize Dd:(((h2.set t2 (.cells [.bool false,.aa] 175 true)).set (t2+1) (.cells [.bool false,.aa] 175 true)).set t2 (.cells [.bool (decide (b.num<0)),u2] 175 true)).set (t2+1) (.cells [.bool (decide ((b.den:Int)<0)),v2] 175 true)=HB at*
   have Sv:HB.get t2=some (.cells [.bool (decide (b.num<0)),u2] 175 true):=by rw[<-Dd];simp
   have LV:HB.get (t2+1)=some (.cells [.bool (decide ((b.den:Int)<0)),v2] 175 true):=by rw[<-Dd];simp
   have Sw:=(KB.get t1 (by omega)).trans ((k2.get t1 (by omega)).trans Bb)
   have Sx:=(KB.get (t1+1) (by omega)).trans ((k2.get (t1+1) (by omega)).trans HG)
   have X1:=(X1.ad k2).ad KB
   have Y1:=(Y1.ad k2).ad KB
   have X2:=X2.ad KB
   have Y2:=Y2.ad KB
   have K2:ab h N HB (t2+1+1):=((k1.trans KA).trans k2).trans KB
   have j1:t1<t2+1+1:=by omega
   have j2:t1+1<t2+1+1:=by omega
   have j3:t2<t2+1+1:=by omega
   simp[p5,p7,bL,ag,Dd,Sv,Sw,aO,aM]
   refine ax (IL X1 X2 (by omega) (by omega)) ?_
   rintro _ h3 t3 k3 X3
   have i3:=k3.le
   have Sy:=(k3.get (t2+1) (by omega)).trans LV
   have LW:=(k3.get (t1+1) (by omega)).trans Sx
   simp[Sy,LW,aO,aM]
   refine ax (IL (Y1.ad k3) (Y2.ad k3) (by rw[dN];omega) (by rw[dN];omega)) ?_
   rintro _ h4 t4 k4 X4
   have m1:=pP (IV ha.1 hb.1)
   have m2:=pP (IV (a:=(a.den:Int)) (b:=(b.den:Int)) (j:=j) (k:=k) (by rw[dN];exact ha.2) (by rw[dN];exact hb.2))
   simp[]
   refine ax (QM (X3.ad k4) X4 (DQ (by omega) (by omega)) (by omega) (by omega)) ?_
   rintro _ h5 t5 k5 rfl
   have j4:t2+1<t3:=by omega
   have j5:t1+1<t3:=by omega
   rw[<-Zh]
   have i1:=k1.le
   simp[-au,dn.dp,j1,j4,j5,aA]
   exact⟨Dr (by simp;omega),((K2.trans k3).trans k4).trans k5⟩
set_option maxHeartbeats 2000000
def A.b95:aq:=sr [⟨(some 4),.aZ (.const (.str [])),none⟩]
 (sr [mv 16 0,c1 17 162 16,mv 15 17,xt 18 15 0,xt 19 15 1,xt 20 15 2,mv 5 18,mv 6 19,mv 7 20]
 (sr [mv 22 1,c1 23 162 22,mv 21 23,xt 24 21 0,xt 25 21 1,xt 26 21 2,mv 8 24,mv 9 25,mv 10 26]
 (.seq (sr [mv 27 7,mv 28 27,mg 29 10 28,pf 30 28 29]
 (cd 30
 (sr [mv 31 5,mv 32 9,bi 33 .mul 31 32,mv 34 8,mv 35 6,bi 36 .mul 34 35,bi 37 .add 33 36,mv 38 6,mv 39 9,bi 40 .mul 38 39,c2 41 163 37 40,mv 4 41]
 (.ret))
 (.skip)))
 (sr [mv 43 0,c1 44 160 43,mv 42 44,xt 45 42 0,xt 46 42 1,⟨(some 11),.alloc [(.bool false),.aa] 175,none⟩,⟨(some 12),.alloc [(.bool false),.aa] 175,none⟩,⟨none,.store 2 (.tmp 11) (.tmp 45),none⟩,⟨none,.store 2 (.tmp 12) (.tmp 46),none⟩]
 (sr [mv 48 1,c1 49 160 48,mv 47 49,xt 50 47 0,xt 51 47 1,⟨(some 13),.alloc [(.bool false),.aa] 175,none⟩,⟨(some 14),.alloc [(.bool false),.aa] 175,none⟩,⟨none,.store 2 (.tmp 13) (.tmp 50),none⟩,⟨none,.store 2 (.tmp 14) (.tmp 51),none⟩]
 (.seq (.aS [lN 52 2 11,lN 53 2 14,c2 54 166 52 53,lN 55 2 13,lN 56 2 12,c2 57 166 55 56,c2 58 165 54 57,lN 59 2 12,lN 60 2 14,c2 61 166 59 60,c2 62 164 58 61,mv 4 62] [0,0,3,0,0,31,63,0,0,511,1023,2047])
 (.ret)))))))
theorem A.c95:A.F 95=some ⟨63,[.tmp 4],A.b95⟩:=by kernel_rfl
def A.k95:=@A.kk 95 _ _ _ A.c95 rfl
theorem Ym5{a b:Rat}{j k:Nat}{h:T O}{N:Nat}(ha:Qb j a)(hb:Qb k b)(hj:j<=400000)(hk:k<=400000):Fn A.C 95 [.str (aN a),.str (aN b)] h N (fun u _ _=>u=.str (aN (a+b))):=by
 intro w
 obtain⟨n1,d1,o1,mj,f1⟩:=LU a
 obtain⟨n2,d2,o2,gh,f2⟩:=LU b
 have pa:=Rat.den_pos a
 have pb:=Rat.den_pos b
 rw[aP,A.k95 (by simp)]
 have key:(o1=true/\o2=true)\/(o1=false\/(o1=true/\o2=false)):=by cases o1<;>cases o2<;>simp
 rcases key with⟨rfl,rfl⟩|key
 ·obtain⟨rfl,rfl,g1⟩:=f1 rfl
  obtain⟨rfl,rfl,g2⟩:=f2 rfl
  have m1:(a.num*(b.den:Int)).natAbs<=1000000000000000000:=by rw[q8,dN];exact IU g1.1 g2.2
  have m4:(b.num*(a.den:Int)).natAbs<=1000000000000000000:=by rw[q8,dN];exact IU g2.1 g1.2
  have m2:a.den*b.den<=1000000000000000000:=IU g1.2 g2.2
  have m3:0<a.den*b.den:=wQ pa pb
  have e2:(a.den:Int)*(b.den:Int)=((a.den*b.den:Nat):Int):=by simp
  have w1:bk .i64 (a.num*(b.den:Int))=a.num*(b.den:Int):=ct (by omega) (by omega)
  have w3:bk .i64 (b.num*(a.den:Int))=b.num*(a.den:Int):=ct (by omega) (by omega)
  have w2:bk .i64 ((a.den:Int)*(b.den:Int))=(a.den:Int)*(b.den:Int):=by rw[e2];exact ct (by omega) (by omega)
  have w4:bk .i64 (a.num*(b.den:Int)+b.num*(a.den:Int))=a.num*(b.den:Int)+b.num*(a.den:Int):=ct (by omega) (by omega)
  have ho:=fun st=>Y8 (p:=a.num*(b.den:Int)+b.num*(a.den:Int)) (q:=(a.den:Int)*(b.den:Int)) (st:=st) (by omega) (by omega) (by omega) (by omega) (by omega)
  rw[<-Zi]at ho
  simp[A.b95,mj,gh,w1,w2,w3,w4,ho,aA]
  exact ab.refl
 ·have la:=A5 ha.1
  have K9:=zp ha.2
  have lb:=A5 hb.1
  have lb2:=zp hb.2
  have z1:=pP ha.1
  have z2:=pP hb.1
  have z3:=pP ha.2
  have z4:=pP hb.2
  rcases key with rfl|⟨rfl,rfl⟩
  all_goals simp[A.b95,mj,gh]
  all_goals
   refine ax (HF (q:=a) (by omega) (by omega)) ?_
   rintro _ h1 t1 k1 ⟨x1,y1,rfl,X1,Y1⟩
   obtain⟨u1,rfl,p1,p2,F1⟩:=X1.l7
   obtain⟨v1,rfl,p3,p4,G1⟩:=Y1.l7
   unfold V.one at p1 p3
   unfold V.cells at p2 p4
   have KA:=((((ab.refl (h:=h1) (n:=t1)).new (.cells [.bool false,.aa] 175 true)).new (.cells [.bool false,.aa] 175 true)).set (i:=t1) (o:=.cells [.bool (decide (a.num<0)),u1] 175 true) (aV _)).set (i:=t1+1) (o:=.cells [.bool (decide ((a.den:Int)<0)),v1] 175 true) (by omega)
   have c0:¬t1+1=t1:=by omega
   have c00:¬t1=t1+1:=by omega
   simp[p1,p3,bL,ag]
   generalize vT:(((h1.set t1 (.cells [.bool false,.aa] 175 true)).set (t1+1) (.cells [.bool false,.aa] 175 true)).set t1 (.cells [.bool (decide (a.num<0)),u1] 175 true)).set (t1+1) (.cells [.bool (decide ((a.den:Int)<0)),v1] 175 true)=HA at*
   have Bb:HA.get t1=some (.cells [.bool (decide (a.num<0)),u1] 175 true):=by rw[<-vT];simp
   have HG:HA.get (t1+1)=some (.cells [.bool (decide ((a.den:Int)<0)),v1] 175 true):=by rw[<-vT];simp
   have X1:=X1.ad KA
   have Y1:=Y1.ad KA
   clear vT
   refine ax (HF (q:=b) (by omega) (by omega)) ?_
   rintro _ h2 t2 k2 ⟨x2,y2,rfl,X2,Y2⟩
   obtain⟨u2,rfl,p5,p6,F2⟩:=X2.l7
   obtain⟨v2,rfl,p7,p8,G2⟩:=Y2.l7
   unfold V.one at p5 p7
   unfold V.cells at p6 p8
   have KB:=((((ab.refl (h:=h2) (n:=t2)).new (.cells [.bool false,.aa] 175 true)).new (.cells [.bool false,.aa] 175 true)).set (i:=t2) (o:=.cells [.bool (decide (b.num<0)),u2] 175 true) (aV _)).set (i:=t2+1) (o:=.cells [.bool (decide ((b.den:Int)<0)),v2] 175 true) (by omega)
   have c1:¬t2+1=t2:=by omega
   have c11:¬t2=t2+1:=by omega
   have i2:=k2.le
   generalize Dd:(((h2.set t2 (.cells [.bool false,.aa] 175 true)).set (t2+1) (.cells [.bool false,.aa] 175 true)).set t2 (.cells [.bool (decide (b.num<0)),u2] 175 true)).set (t2+1) (.cells [.bool (decide ((b.den:Int)<0)),v2] 175 true)=HB at*
   have Sv:HB.get t2=some (.cells [.bool (decide (b.num<0)),u2] 175 true):=by rw[<-Dd];simp
   have LV:HB.get (t2+1)=some (.cells [.bool (decide ((b.den:Int)<0)),v2] 175 true):=by rw[<-Dd];simp
   have Sw:=(KB.get t1 (by omega)).trans ((k2.get t1 (by omega)).trans Bb)
   have Sx:=(KB.get (t1+1) (by omega)).trans ((k2.get (t1+1) (by omega)).trans HG)
   have X1:=(X1.ad k2).ad KB
   have Y1:=(Y1.ad k2).ad KB
   have X2:=X2.ad KB
   have Y2:=Y2.ad KB
   have K2:ab h N HB (t2+1+1):=((k1.trans KA).trans k2).trans KB
   have j1:t1<t2+1+1:=by omega
   have j2:t1+1<t2+1+1:=by omega
   have j3:t2<t2+1+1:=by omega
   simp[p5,p7,bL,ag,Dd,LV,Sw,aO,aM]
   refine ax (IL X1 Y2 (by omega) (by rw[dN];omega)) ?_
   rintro _ h3 t3 k3 X3
   have i3:=k3.le
   have gC1:=(k3.get t2 (by omega)).trans Sv
   have Sy:=(k3.get (t2+1) (by omega)).trans LV
   have LW:=(k3.get (t1+1) (by omega)).trans Sx
   simp[gC1,LW,aO,aM]
   refine ax (IL (X2.ad k3) (Y1.ad k3) (by omega) (by rw[dN];omega)) ?_
   rintro _ h4 t4 k4 X4
   have i4:=k4.le
   have b1:=IV (b:=(b.den:Int)) (k:=k) ha.1 (by rw[dN];exact hb.2)
   have b2:=IV (b:=(a.den:Int)) (k:=j) hb.1 (by rw[dN];exact ha.2)
   rw[Nat.add_comm k j]at b2
   have m1:=pP b1
   have m2:=pP b2
   have m3:=pP (Zp5 b1 b2)
   have m4:=pP (IV (a:=(a.den:Int)) (b:=(b.den:Int)) (j:=j) (k:=k) (by rw[dN];exact ha.2) (by rw[dN];exact hb.2))
   simp[]
   refine ax (Ykr (X3.ad k4) X4 (by omega) (by omega)) ?_
   rintro _ h5 t5 k5 X5
   have i5:=k5.le
   have gD2:=(k5.get (t2+1) (by omega)).trans ((k4.get (t2+1) (by omega)).trans Sy)
   have gD4:=(k5.get (t1+1) (by omega)).trans ((k4.get (t1+1) (by omega)).trans LW)
   simp[gD2,gD4,aO,aM]
   refine ax (IL (((Y1.ad k3).ad k4).ad k5) (((Y2.ad k3).ad k4).ad k5) (by rw[dN];omega) (by rw[dN];omega)) ?_
   rintro _ h6 t6 k6 X6
   simp[]
   refine ax (QM (X5.ad k6) X6 (DQ (by omega) (by omega)) (by omega) (by omega)) ?_
   rintro _ h7 t7 k7 rfl
   have j4:t2+1<t3:=by omega
   have j5:t1+1<t3:=by omega
   have j6:t2<t3:=by omega
   have j7:t2+1<t5:=by omega
   have j8:t1+1<t5:=by omega
   rw[<-Zi]
   have i1:=k1.le
   simp[-au,dn.dp,j1,j5,j6,j7,j8,aA]
   exact⟨Dr (by simp;omega),((((K2.trans k3).trans k4).trans k5).trans k6).trans k7⟩
set_option maxHeartbeats 2000000
def A.b220:aq:=sr [⟨(some 4),.aZ (.const (.int .u64 0)),none⟩,⟨(some 5),.aZ (.const (.int .u64 0)),none⟩]
 (sr [mv 14 0,⟨(some 15),.bin .and (.node []) false (.tmp 14) (.const (.int .u64 4294967295)),none⟩,mv 6 15]
 (sr [mv 16 0,⟨(some 17),.bin .shr (.node []) false (.tmp 16) (.const (.int .u64 32)),none⟩,mv 7 17]
 (sr [mv 18 1,⟨(some 19),.bin .and (.node []) false (.tmp 18) (.const (.int .u64 4294967295)),none⟩,mv 8 19]
 (sr [mv 20 1,⟨(some 21),.bin .shr (.node []) false (.tmp 20) (.const (.int .u64 32)),none⟩,mv 9 21]
 (sr [mv 22 6,mv 23 8,bi 24 .mul 22 23,mv 10 24]
 (sr [mv 25 7,mv 26 8,bi 27 .mul 25 26,mv 28 10,⟨(some 29),.bin .shr (.node []) false (.tmp 28) (.const (.int .u64 32)),none⟩,bi 30 .add 27 29,mv 11 30]
 (sr [mv 31 11,⟨(some 32),.bin .and (.node []) false (.tmp 31) (.const (.int .u64 4294967295)),none⟩,mv 12 32]
 (sr [mv 33 11,⟨(some 34),.bin .shr (.node []) false (.tmp 33) (.const (.int .u64 32)),none⟩,mv 13 34]
 (sr [mv 35 12,mv 36 6,mv 37 9,bi 38 .mul 36 37,bi 39 .add 35 38,mv 12 39]
 (sr [mv 40 7,mv 41 9,bi 42 .mul 40 41,mv 43 13,bi 44 .add 42 43,mv 45 12,⟨(some 46),.bin .shr (.node []) false (.tmp 45) (.const (.int .u64 32)),none⟩,bi 47 .add 44 46,mv 4 47]
 (sr [mv 48 0,mv 49 1,bi 50 .mul 48 49,mv 5 50]
 (.ret))))))))))))
theorem A.c220:A.F 220=some ⟨51,[.tmp 4,.tmp 5],A.b220⟩:=by kernel_rfl
def A.k220:=@A.kk 220 _ _ _ A.c220 rfl
theorem Yof{x y:Nat}(hx:x<18446744073709551616)(hy:y<18446744073709551616):cD (cD (cH (al x 32) (al y 32)) (al (cD (cH (al x 32) (eg y)) (al (cH (eg x) (eg y)) 32)) 32)) (al (cD (eg (cD (cH (al x 32) (eg y)) (al (cH (eg x) (eg y)) 32))) (cH (eg x) (al y 32))) 32)=bX (x*y):=by
 simp only[cD,cH,al,eg,bX,Nat.reducePow]
 have ex:x=x/4294967296*4294967296+x%4294967296:=by omega
 have ey:y=y/4294967296*4294967296+y%4294967296:=by omega
 have lC:x%4294967296<4294967296:=jd _ (by decide)
 have qZ:y%4294967296<4294967296:=jd _ (by decide)
 have vw:x/4294967296<4294967296:=by omega
 have nX:y/4294967296<4294967296:=by omega
 generalize x/4294967296=x1 at*
 generalize x%4294967296=x0 at*
 generalize y/4294967296=y1 at*
 generalize y%4294967296=y0 at*
 have a1:x0*y0<=4294967295*4294967295:=sM (by omega) (by omega)
 have a2:x1*y0<=4294967295*4294967295:=sM (by omega) (by omega)
 have a3:x0*y1<=4294967295*4294967295:=sM (by omega) (by omega)
 have a4:x1*y1<=4294967295*4294967295:=sM (by omega) (by omega)
 have e:x*y=x1*y1*18446744073709551616+(x1*y0+x0*y1)*4294967296+x0*y0:=by
  subst ex;subst ey
  grind
 rw[e]
 generalize x0*y0=p at*
 generalize x1*y0=q at*
 generalize x0*y1=u at*
 generalize x1*y1=z at*
 omega
theorem Hi{h:T O}{N:Nat}{x y:Nat}(hx:x<18446744073709551616)(hy:y<18446744073709551616):Fn A.C 220 [.int .u64 x,.int .u64 y] h N (fun v' h' N'=>h'=h/\N'=N/\v'=.bb [.int .u64 (bX (x*y):Nat),.int .u64 (bz (x*y):Nat)]):=by
 intro w
 rw[aP,A.k220 (by simp)]
 simp(disch:=first|(simp;done)|omega|(simp only[bC,cl,bq];omega)|rfl) [A.b220]
 rw[Yof hx hy]
 exact⟨rfl,ab.refl,rfl,rfl,rfl⟩
def A.zbB:aq:=.seq (sr [mv 6 3,bc 7 .gtr 6 0,mv 8 7,mg 9 0 8,mg 10 3 8,⟨(some 11),.bin .sub (.node []) false (.tmp 10) (.const (.int .i64 1)),(some (8,true))⟩,⟨(some 12),.aI 1 (.tmp 9) (.tmp 11),(some (8,true))⟩,⟨(some 13),.load none (.tmp 12),(some (8,true))⟩,⟨(some 14),.bin .eql (.aH .int) true (.tmp 13) (.const (.int .u64 0)),(some (8,true))⟩,pf 15 8 14]
 (cd 15
 (.skip)
 (.exit 0)))
 (.block 1 (.aL [mv 16 3,bc 17 .sub 16 1,mv 3 17]))
def A.b263:aq:=sr [mN 2]
 (sr [mv 4 0,ln 5 4,mv 3 5]
 (.seq (.block 0 (.loop A.zbB))
 (sr [mv 18 0,mv 19 3,⟨(some 20),.cP 1 (.tmp 18) none (some (.tmp 19)) none,none⟩,mv 2 20]
 (.ret))))
theorem A.c263:A.F 263=some ⟨21,[.tmp 2],A.b263⟩:=by kernel_rfl
def A.k263:=@A.kk 263 _ _ _ A.c263 rfl
theorem yP{h:T O}{N:Nat}{v:V}{l:List Nat}(hs:Sl h N v (dg l))(hl:l.length<1152921504606846976):Fn A.C 263 [v] h N (fun v' h' N'=>Sl h' N' v' (dg (n8 l))):=by
 intro w
 have hlen:=hs.len
 rw[bC]at hlen
 rw[aP,A.k263 (by simp)]
 simp[A.b263,hlen]
 refine bN [(3,3),(6,17)] (fun e r st=>e=.exit 0/\st=⟨h,N,[]⟩/\∃k,k<=l.length/\r.get 3=some (.int .i64 k)/\n8 l=l.take k) (fun k r st=>st=⟨h,N,[]⟩/\k<=l.length/\r.get 3=some (.int .i64 k)/\n8 (l.take k)=n8 l) l.length ?_ ?_ ?_
 ·exact⟨rfl,aV _,by simp,by simp⟩
 ·rintro k r _ hr hf ⟨rfl,hk,h3,ht⟩
  rw[bn]
  cases k with
  |zero=>
   have:n8 l=[]:=ht.symm
   simp[A.zbB,h3,hf,this]
   exact⟨0,by omega,rfl,.inl rfl⟩
  |succ k=>
   obtain⟨d,hd⟩:∃d,l[k]?=some d:=⟨_,cW (by omega)⟩
   obtain⟨i,o,c,e,rw,q1,q2,q3,q4⟩:=hs.at (eP hd)
   have e1:l.take (k+1)=l.take k++[d]:=by rw[wA,hd];rfl
   have k1:(0:Int)<(k:Int)+1:=by omega
   have k2:(k:Int)<(l.length:Int):=by omega
   by_cases h0:d=0
   ·subst h0
    rw[e1,VW]at ht
    simp(disch:=first|(simp;done)|omega|(simp only[bC,cl,bq];omega)|rfl) [A.zbB,h3,hr,hf,k1,hlen,q1,q3,q4]
    exact⟨k,by omega,by omega,rfl,ht⟩
   ·rw[e1,VX h0]at ht
    have hz:((d:Int)==0)=false:=by simp;omega
    simp(disch:=first|(simp;done)|omega|(simp only[bC,cl,bq];omega)|rfl) [A.zbB,h3,hr,hf,k1,hlen,q1,q3,q4,hz]
    exact⟨k+1,hk,rfl,by rw[e1];exact ht.symm⟩
 ·rintro _ r _ hr ⟨rfl,rfl,k,hk,h3,ht⟩
  simp[hr,h3,zu,ay]
  obtain⟨v',e1,e2⟩:=Ba (w:=[]) hs (lo:=0) (hi:=k) (pC _) (by rw[bC];exact hk) none (some (.int .i64 k)) (.inr ⟨rfl,rfl⟩) (.inl rfl)
  rw[e1]
  simp[aA]
  refine⟨ab.refl,?_⟩
  rw[ht,show dg (l.take k)=(dg l).take k by simp[dg]]
  exact e2
end Go.Mx
