/-
  lensletref01: parts.
-/
import Derived.Test.YtlbophlgohokkaaGreatDoorRcE
import Derived.Test.YtlbophlgohokkaaGreatDoorMxDec
set_option linter.all false
namespace Go.Mx
open Go Go.Proofs
set_option maxRecDepth 1000000
theorem Zrc{h h2:T O}{N n2:Nat}{a b:Int}{x y:V}(hx:Sl h2 n2 x (dI (ds a.natAbs)))(hy:Sl h2 n2 y (dI (ds b.natAbs)))(r0:h2.get N=some (.cells [.bool false,.aa] 175 true))(r1:h2.get (N+1)=some (.cells [.bool false,.aa] 175 true)):Rg ((h2.set N (.cells [.bool (decide (a<0)),x] 175 true)).set (N+1) (.cells [.bool (decide (b<0)),y] 175 true)) n2 (.agg [.bool (decide (a<0)),x]) a/\Rg ((h2.set N (.cells [.bool (decide (a<0)),x] 175 true)).set (N+1) (.cells [.bool (decide (b<0)),y] 175 true)) n2 (.agg [.bool (decide (b<0)),y]) b:=by
 have KP:(h2.set N (.cells [.bool (decide (a<0)),x] 175 true)).get (N+1)=some (.cells [.bool false,.aa] 175 true):=by rw[T.ai,au (by omega)];exact r1
 exact⟨⟨x,rfl,Sl.setInt (Sl.setInt hx r0 im rfl) KP im rfl⟩,⟨y,rfl,Sl.setInt (Sl.setInt hy r0 im rfl) KP im rfl⟩⟩
theorem KX{q:Rat}{h:T O}{N:Nat}(l1:(aK q.num).length<=1000000000)(l2:(ak q.den).length<=1000000000):Fn A.C 160 [.str (aW q)] h N (fun v h' n'=>∃x y,v=.aZ [x,y]/\Rg h' n' x q.num/\Rg h' n' y (q.den:Int)):=by
 intro w
 have aD:(aW q).length<=3000000000:=by
  unfold aW
  split
  ·omega
  ·simp only[fQ,bh];omega
 have cg:=fun st=>Ct (s:=aW q) (st:=st) (by omega)
 have hsa:=GH q
 have OF:=I6 q
 have zb:=(ab.refl (h:=h) (n:=N)).new (.cells [.bool false,.aa] 175 true)
 have k0:=zb.new (.cells [.bool false,.aa] 175 true)
 have d4':¬N+1=N:=by omega
 have d5':¬N=N+1:=by omega
 rw[aR,A.k160 (by simp)]
 by_cases hd:q.den=1
 ·have he:ah (aW q)=(aW q).length:=by
   have:=Au q
   have h2:ah (aW q)<=(aW q).length:=by
    rw[hsa]
    unfold aW
    rw[aF hd]
    exact aS _
   omega
  have jO:aW q=aK q.num:=by unfold aW;rw[aF hd]
  have c1:((ah (aW q):Int)=((aW q).length:Int)):=by omega
  rw[hd]
  simp[A.b160,cg,he]
  rw[jO]
  refine ax (Zrd (z:=q.num) (by omega)) ?_
  rintro v1 h1 n1 k1 ⟨x,rfl,hx⟩
  simp[]
  refine ax (Yah (z:=1) (by omega) (by omega)) ?_
  rintro v2 h2 n2 k2 ⟨y,rfl,hy⟩
  have eR:=k1.le
  have f_:=k2.le
  have hx:=Sl.ae hx k2
  have r0:=(k2.get N (by omega)).trans (k1.get N (by omega))
  have r1:=(k2.get (N+1) (by omega)).trans (k1.get (N+1) (by omega))
  simp at r0 r1
  have uM:=(Sl.form hx).one
  have q_:=(Sl.form hy).one
  have EJ:=(Sl.form hx).cells
  have B2:=(Sl.form hy).cells
  unfold V.one at uM q_
  unfold V.cells at EJ B2
  obtain⟨e1,e2⟩:=Zrc (h:=h) (b:=1) hx hy r0 r1
  have Ou:N<n1:=by omega
  have Ov:N<n2:=by omega
  have Ow:N+1<n2:=by omega
  simp[r0,r1,ag,bW,uM,q_,aU,aJ,aA]
  simp only[show decide ((1:Int)<0)=false from rfl]at e1 e2
  exact⟨(((k0.trans k1).trans k2).set (by omega)).set (by omega),_,_,⟨rfl,rfl⟩,e1,e2⟩
 ·have dr:=(Au q).2 hd
  have uL:=I7 q hd
  have c1:¬((ah (aW q):Int)=((aW q).length:Int)):=by omega
  have c2:¬(ah (aW q)=(aW q).length):=by omega
  have c3:(ah (aW q):Int)<=((aW q).length:Int):=by omega
  have c4:(ah (aW q):Int)+1<=((aW q).length:Int):=by omega
  have c5:((ah (aW q):Int)+1).toNat=ah (aW q)+1:=by omega
  have y_:aB (ak q.den)=q.den:=DW _
  simp[A.b160,cg,c1,c3,ay,OF]
  refine ax (Zrd (z:=q.num) (by omega)) ?_
  rintro v1 h1 n1 k1 ⟨x,rfl,hx⟩
  simp(disch:=omega) [c5,ay,uL]
  refine ax (Ot (zf q.den) (List.length_pos_iff.2 (GF _)) (by omega)) ?_
  rintro v2 h2 n2 k2 hy
  rw[y_]at hy
  obtain⟨y,rfl,hy⟩:=hy
  have eR:=k1.le
  have f_:=k2.le
  have hx:=Sl.ae hx k2
  have r0:=(k2.get N (by omega)).trans (k1.get N (by omega))
  have r1:=(k2.get (N+1) (by omega)).trans (k1.get (N+1) (by omega))
  simp at r0 r1
  have uM:=(Sl.form hx).one
  have q_:=(Sl.form hy).one
  have EJ:=(Sl.form hx).cells
  have B2:=(Sl.form hy).cells
  unfold V.one at uM q_
  unfold V.cells at EJ B2
  obtain⟨e1,e2⟩:=Zrc (h:=h) (b:=(q.den:Int)) hx hy r0 r1
  have Ou:N<n1:=by omega
  have Ov:N<n2:=by omega
  have Ow:N+1<n2:=by omega
  have vd:¬(q.den:Int)<0:=by omega
  simp only[show decide ((q.den:Int)<0)=false by simp[vd]]at e1 e2
  simp[r0,r1,ag,bW,uM,q_,Ou,Ov,Ow,aU,aJ,dw.dB,aA,vd]
  exact⟨(((k0.trans k1).trans k2).set (by omega)).set (by omega),_,_,⟨rfl,rfl⟩,e1,e2⟩
theorem KY{n:Nat}:(ak n).length<=9↔n<1000000000:=Ly (k:=9) (by omega)
theorem Yid{n:Nat}(h:n<1000000000)(st:St):A.C.call (.func 229 [] []) [.str (ak n)] st=some (.int .i64 n,st):=by
 have:=Kr (s:=ak n) (st:=st) (zf n) (by have:=KY.2 h;omega)
 rwa [DW]at this
variable {q:Rat}
def A.b162:aq:=sr [mc 2 0,mc 3 0,⟨(some 4),.aY (.const (.bool false)),none⟩]
 (sr [mv 10 0,mv 5 10]
 (.seq (sr [mv 11 5,⟨(some 12),.len 0 (.tmp 11),none⟩,bc 13 .gtr 12 20]
 (cd 13
 (sr [mc 2 0,mc 3 0,⟨(some 4),.aY (.const (.bool false)),none⟩]
 (.ret))
 (.skip)))
 (sr [mv 14 5,⟨(some 15),.len 0 (.tmp 14),none⟩,bc 16 .gtr 15 0,mv 17 16,mg 18 5 17,⟨(some 19),.aQ (.tmp 18) (.const (.int .i64 0)),(some (17,true))⟩,⟨(some 20),.bin .eql (.aI .int) true (.tmp 19) (.const (.int .u8 45)),(some (17,true))⟩,pf 21 17 20,mv 6 21]
 (.seq (sr [mv 22 6]
 (cd 22
 (.aM [mv 23 5,⟨(some 24),.az (.tmp 23) (some (.const (.int .i64 1))) none,none⟩,mv 5 24])
 (.skip)))
 (sr [mv 25 5,c1 26 158 25,mv 7 26]
 (.seq (sr [mv 27 7,bc 28 .gtr 27 9,mv 29 28,mh 30 5 29,⟨(some 31),.len 0 (.tmp 30),(some (29,false))⟩,mh 32 7 29,⟨(some 33),.bin .sub (.node []) false (.tmp 31) (.tmp 32),(some (29,false))⟩,⟨(some 34),.bin .gtr (.node []) false (.tmp 33) (.const (.int .i64 10)),(some (29,false))⟩,pt 35 29 34]
 (cd 35
 (sr [mc 2 0,mc 3 0,⟨(some 4),.aY (.const (.bool false)),none⟩]
 (.ret))
 (.skip)))
 (sr [mv 36 5,mv 37 7,⟨(some 38),.az (.tmp 36) none (some (.tmp 37)),none⟩,c1 39 229 38,mv 8 39,mc 9 1]
 (.seq (sr [mv 40 7,mv 41 5,⟨(some 42),.len 0 (.tmp 41),none⟩,bi 43 .lss 40 42]
 (cd 43
 (.aM [mv 44 5,mv 45 7,bc 46 .add 45 1,⟨(some 47),.az (.tmp 44) (some (.tmp 46)) none,none⟩,c1 48 229 47,mv 9 48])
 (.skip)))
 (.seq (sr [mv 49 6]
 (cd 49
 (.aM [mv 50 8,⟨(some 51),.bin .sub (.node []) false (.const (.int .i64 0)) (.tmp 50),none⟩,mv 8 51])
 (.skip)))
 (sr [mv 52 8,mv 53 9,mv 2 52,mv 3 53,⟨(some 4),.aY (.const (.bool true)),none⟩]
 (.ret)))))))))))
theorem A.c162:A.F 162=some ⟨54,[.tmp 2,.tmp 3,.tmp 4],A.b162⟩:=by kernel_rfl
def A.k162:=@A.kk 162 _ _ _ A.c162 rfl
def QB(q:Rat):a_:=if q.den=1 then ak q.num.natAbs else ak q.num.natAbs++47::ak q.den
theorem Fs(q:Rat):aW q=if q.num<0 then 45::QB q else QB q:=by
 unfold aW QB aK
 by_cases h1:q.den=1<;>by_cases h2:q.num<0<;>simp[h1,h2]
theorem Yht(q:Rat):ah (QB q)=(ak q.num.natAbs).length:=by
 unfold QB
 split
 ·exact SR (MF (zf _))
 ·exact SQ (MF (zf _))
theorem Ymt(q:Rat):(QB q).take (ak q.num.natAbs).length=ak q.num.natAbs:=by
 unfold QB
 split
 ·exact eF (aS _)
 ·exact List.take_left
theorem Ymu(h:q.den≠1):(QB q).drop ((ak q.num.natAbs).length+1)=ak q.den:=by
 unfold QB
 rw[au h,<-List.drop_drop,List.drop_left];rfl
theorem Yi0(q:Rat):(QB q).length=(ak q.num.natAbs).length+(if q.den=1 then 0 else (ak q.den).length+1):=by
 unfold QB
 split<;>simp
theorem VN(q:Rat):∃c t,QB q=c::t/\48<=c.toNat:=by
 obtain⟨c,t,h,h1,_⟩:=YB (n:=q.num.natAbs)
 unfold QB
 split
 ·exact⟨c,t,h,h1⟩
 ·exact⟨c,t++47::ak q.den,by rw[h];rfl,h1⟩
theorem Yat{st:St}(hl:(aW q).length<=20):A.C.call (.func 162 [] []) [.str (aW q)] st=some (if q.num.natAbs<1000000000/\q.den<1000000000 then .aZ [.int .i64 q.num,.int .i64 q.den,.bool true] else .aZ [.int .i64 0,.int .i64 0,.bool false],st):=by
 obtain⟨c,t,hB,hc⟩:=VN q
 have hs:=Yht q
 have ht:=Ymt q
 have AN:=Yi0 q
 have h9:=KY (n:=q.num.natAbs)
 have h9d:=KY (n:=q.den)
 have hn:=fun h st=>Yid (n:=q.num.natAbs) h st
 have hd:=fun h st=>Yid (n:=q.den) h st
 have uL:=Ymu (q:=q)
 have AX:¬cB c=45:=by unfold cB;omega
 have jO:=Fs q
 have hBl:(QB q).length<=20:=by
  rw[jO]at hl
  split at hl
  ·simp only[bh]at hl;omega
  ·exact hl
 have cg:=fun st=>Ct (s:=QB q) (st:=st) (by omega)
 rw[hs]at cg
 have nf:(QB q)[0]?=some c:=by rw[hB];rfl
 have hh:(QB q).head?=some c:=by rw[hB];rfl
 have bJ:QB q≠[]:=by rw[hB];simp
 have AL:0<(QB q).length:=by rw[hB];simp
 have zaM:(0:Int)<((QB q).length:Int):=by omega
 have AY:¬(20:Int)<((QB q).length:Int):=by omega
 have wg:(ak q.num.natAbs).length<=(QB q).length:=by omega
 have zaN:((ak q.num.natAbs).length:Int)<=((QB q).length:Int):=by omega
 have k0:0<=(ak q.num.natAbs).length:=tQ _
 have w1:bn .i64 (((QB q).length:Int)-((ak q.num.natAbs).length:Int))=((QB q).length:Int)-((ak q.num.natAbs).length:Int):=cj (by omega) (by omega)
 have w2:bn .i64 (((ak q.num.natAbs).length:Int)+1)=((ak q.num.natAbs).length:Int)+1:=cj (by omega) (by omega)
 have a3:∀st:St,rA st (some (.str (45::QB q))) (some (some (.int .i64 1))) (some none)=some (.str (QB q),st):=fun st=>by rw[GO (by omega) (by simp only[bh];omega)];rfl
 have a4:∀st:St,rA st (some (.str (QB q))) (some none) (some (some (.int .i64 (ak q.num.natAbs).length)))=some (.str (ak q.num.natAbs),st):=fun st=>by rw[Tl (by omega) (by omega),Int.toNat_natCast,ht]
 apply Call.eq
 rw[aR,A.k162 (by simp),jO]
 by_cases e9:q.num.natAbs<1000000000
 ·have g9:¬(9:Int)<((ak q.num.natAbs).length:Int):=by have:=h9.2 e9;omega
  have hn:=hn e9
  by_cases e1:q.den=1
  ·rw[aF e1]at AN
   have Cy:¬(10:Int)<((QB q).length:Int)-((ak q.num.natAbs).length:Int):=by omega
   have KZ:¬((ak q.num.natAbs).length:Int)<((QB q).length:Int):=by omega
   have g12:¬(ak q.num.natAbs).length<(QB q).length:=by omega
   rw[e1]
   by_cases hz:q.num<0
   ·have ez:(q.num.natAbs:Int)= -q.num:=by omega
    have w3:bn .i64 (0-(q.num.natAbs:Int))=q.num:=by rw[ez];rw[cj (by omega) (by omega)];omega
    have a5:cB 45=45:=rfl
    have cX:(QB q).length+1<=20:=by rw[jO,aF hz]at hl;simpa using hl
    have x5:¬(20:Int)<((QB q).length:Int)+1:=by omega
    have wu:(0:Int)<((QB q).length:Int)+1:=by omega
    simp(disch:=first|(simp;done)|omega|rfl) [-getElem?_pos,A.b162,hz,x5,wu,a3,a5,cg,ay,g9,Cy,KZ,w1,a4,hn,e9]
    omega
   ·have ez:(q.num.natAbs:Int)=q.num:=by omega
    simp(disch:=first|(simp;done)|omega|rfl) [-getElem?_pos,A.b162,hz,nf,AL,AY,AX,cg,ay,g9,Cy,KZ,w1,a4,hn,ez,e9]
  ·rw[au e1]at AN
   have uL:=uL e1
   have KZ:((ak q.num.natAbs).length:Int)<((QB q).length:Int):=by omega
   have g12:(ak q.num.natAbs).length<(QB q).length:=by omega
   have a6:∀st:St,rA st (some (.str (QB q))) (some (some (.int .i64 (((ak q.num.natAbs).length:Int)+1)))) (some none)=some (.str (ak q.den),st):=fun st=>by
    rw[GO (by omega) (by omega)]
    have:(((ak q.num.natAbs).length:Int)+1).toNat=(ak q.num.natAbs).length+1:=by omega
    rw[this,uL]
   by_cases e10:q.den<1000000000
   ·have Cy:¬(10:Int)<((QB q).length:Int)-((ak q.num.natAbs).length:Int):=by have:=h9d.2 e10;omega
    have hd:=hd e10
    by_cases hz:q.num<0
    ·have ez:(q.num.natAbs:Int)= -q.num:=by omega
     have w3:bn .i64 (0-(q.num.natAbs:Int))=q.num:=by rw[ez];rw[cj (by omega) (by omega)];omega
     have a5:cB 45=45:=rfl
     have cX:(QB q).length+1<=20:=by rw[jO,aF hz]at hl;simpa using hl
     have x5:¬(20:Int)<((QB q).length:Int)+1:=by omega
     have wu:(0:Int)<((QB q).length:Int)+1:=by omega
     simp(disch:=first|(simp;done)|omega|rfl) [-getElem?_pos,A.b162,hz,x5,wu,a3,a5,a6,cg,ay,g9,Cy,KZ,w1,w2,a4,hn,hd,e9,e10]
     omega
    ·have ez:(q.num.natAbs:Int)=q.num:=by omega
     simp(disch:=first|(simp;done)|omega|rfl) [-getElem?_pos,A.b162,hz,nf,AL,AY,AX,a6,cg,ay,g9,Cy,KZ,w1,w2,a4,hn,hd,ez,e9,e10]
   ·have Cy:(10:Int)<((QB q).length:Int)-((ak q.num.natAbs).length:Int):=by
     have:¬(ak q.den).length<=9:=fun hc=>e10 (h9d.1 hc)
     omega
    by_cases hz:q.num<0
    ·have a5:cB 45=45:=rfl
     have cX:(QB q).length+1<=20:=by rw[jO,aF hz]at hl;simpa using hl
     have x5:¬(20:Int)<((QB q).length:Int)+1:=by omega
     have wu:(0:Int)<((QB q).length:Int)+1:=by omega
     simp(disch:=first|(simp;done)|omega|rfl) [-getElem?_pos,A.b162,hz,x5,wu,a3,a5,cg,ay,g9,Cy,w1,e9,e10]
    ·simp(disch:=first|(simp;done)|omega|rfl) [-getElem?_pos,A.b162,hz,nf,AL,AY,AX,cg,g9,Cy,w1,e9,e10]
 ·have g9:(9:Int)<((ak q.num.natAbs).length:Int):=by
   have:¬(ak q.num.natAbs).length<=9:=fun hc=>e9 (h9.1 hc)
   omega
  by_cases hz:q.num<0
  ·have a5:cB 45=45:=rfl
   have cX:(QB q).length+1<=20:=by rw[jO,aF hz]at hl;simpa using hl
   have x5:¬(20:Int)<((QB q).length:Int)+1:=by omega
   have wu:(0:Int)<((QB q).length:Int)+1:=by omega
   simp(disch:=first|(simp;done)|omega|rfl) [-getElem?_pos,A.b162,hz,x5,wu,a3,a5,cg,ay,g9,e9]
  ·simp(disch:=first|(simp;done)|omega|rfl) [-getElem?_pos,A.b162,hz,nf,AL,AY,AX,cg,g9,e9]
theorem Zxf{st:St}(h1:20<(aW q).length):A.C.call (.func 162 [] []) [.str (aW q)] st=some (.aZ [.int .i64 0,.int .i64 0,.bool false],st):=by
 have h2:(20:Int)<((aW q).length:Int):=by omega
 apply Call.eq
 rw[aR,A.k162 (by simp)]
 simp[A.b162,h2]
theorem Ycv(h:q.num.natAbs<1000000000/\q.den<1000000000):(aW q).length<=20:=by
 have h1:=KY.2 h.1
 have h2:=KY.2 h.2
 have h3:=Yi0 q
 rw[Fs]
 split
 ·simp only[bh];split at h3<;>omega
 ·split at h3<;>omega
theorem Zvn{st:St}:A.C.call (.func 162 [] []) [.str (aW q)] st=some (if q.num.natAbs<1000000000/\q.den<1000000000 then .aZ [.int .i64 q.num,.int .i64 q.den,.bool true] else .aZ [.int .i64 0,.int .i64 0,.bool false],st):=by
 by_cases h:(aW q).length<=20
 ·exact Yat h
 ·rw[au fun hc=>h (Ycv hc)]
  exact Zxf (by omega)
variable {j:Nat}
set_option maxHeartbeats 2000000
def A.b96:aq:=sr [⟨(some 4),.aY (.const (.str [])),none⟩]
 (sr [mv 16 0,c1 17 162 16,mv 15 17,xt 18 15 0,xt 19 15 1,xt 20 15 2,mv 5 18,mv 6 19,mv 7 20]
 (sr [mv 22 1,c1 23 162 22,mv 21 23,xt 24 21 0,xt 25 21 1,xt 26 21 2,mv 8 24,mv 9 25,mv 10 26]
 (.seq (sr [mv 27 7,mv 28 27,mg 29 10 28,pf 30 28 29]
 (cd 30
 (sr [mv 31 5,mv 32 8,bi 33 .mul 31 32,mv 34 6,mv 35 9,bi 36 .mul 34 35,c2 37 163 33 36,mv 4 37]
 (.ret))
 (.skip)))
 (sr [mv 39 0,c1 40 160 39,mv 38 40,xt 41 38 0,xt 42 38 1,⟨(some 11),.alloc [(.bool false),.aa] 175,none⟩,⟨(some 12),.alloc [(.bool false),.aa] 175,none⟩,⟨none,.store 2 (.tmp 11) (.tmp 41),none⟩,⟨none,.store 2 (.tmp 12) (.tmp 42),none⟩]
 (sr [mv 44 1,c1 45 160 44,mv 43 45,xt 46 43 0,xt 47 43 1,⟨(some 13),.alloc [(.bool false),.aa] 175,none⟩,⟨(some 14),.alloc [(.bool false),.aa] 175,none⟩,⟨none,.store 2 (.tmp 13) (.tmp 46),none⟩,⟨none,.store 2 (.tmp 14) (.tmp 47),none⟩]
 (.seq (.aV [lN 48 2 11,lN 49 2 13,c2 50 166 48 49,lN 51 2 12,lN 52 2 14,c2 53 166 51 52,c2 54 164 50 53,mv 4 54] [0,0,3,0,0,31,63,127])
 (.ret)))))))
theorem A.c96:A.F 96=some ⟨55,[.tmp 4],A.b96⟩:=by kernel_rfl
def A.k96:=@A.kk 96 _ _ _ A.c96 rfl
theorem Zoz(a b:Rat):a*b=Rat.divInt (a.num*b.num) ((a.den:Int)*(b.den:Int)):=by
 rw[Rat.mul_def,Rat.normalize_eq_mkRat,<-Rat.divInt_ofNat]
 simp
theorem Zpb(a b:Rat):a+b=Rat.divInt (a.num*(b.den:Int)+b.num*(a.den:Int)) ((a.den:Int)*(b.den:Int)):=by
 rw[Rat.add_def,Rat.normalize_eq_mkRat,<-Rat.divInt_ofNat]
 simp
theorem K0{a b:Nat}(h1:a<1000000000)(h2:b<1000000000):a*b<=1000000000000000000:=by
 have:=uR (Nat.le_of_lt h1) (Nat.le_of_lt h2)
 omega
theorem OG(q:Rat):∃(n d:Int) (o:Bool),(∀st,A.C.call (.func 162 [] []) [.str (aW q)] st=some (.aZ [.int .i64 n,.int .i64 d,.bool o],st))/\(o=true->n=q.num/\d=(q.den:Int)/\q.num.natAbs<1000000000/\q.den<1000000000):=by
 by_cases f:q.num.natAbs<1000000000/\q.den<1000000000
 ·exact⟨q.num,q.den,true,fun st=>by rw[Zvn,aF f],fun _=>⟨rfl,rfl,f⟩⟩
 ·exact⟨0,0,false,fun st=>by rw[Zvn,au f],fun h=>by cases h⟩
theorem Rg.nv{h:T O}{N:Nat}{v:V}{z:Int}(s:Rg h N v z):∃u,v=.agg [.bool (decide (z<0)),u]/\V.one u=true/\V.cells u=[u]/\BE u:=by
 obtain⟨u,rfl,hu⟩:=s
 exact⟨u,rfl,(Sl.form hu).one,(Sl.form hu).cells,Sl.form hu⟩
theorem K3{a b:Int}{k:Nat}(h1:a.natAbs<2^j)(h2:b.natAbs<2^k):(a*b).natAbs<2^(j+k):=by
 rw[tP,jH]
 exact zG h1 h2
theorem Zpz{a b:Int}(h1:a.natAbs<2^j)(h2:b.natAbs<2^j):(a+b).natAbs<2^(j+1):=by
 have:=Int.natAbs_add_le a b
 rw[fL];omega
theorem Ws{a b:Rat}{k:Nat}{h:T O}{N:Nat}(ha:Qb j a)(hb:Qb k b)(hj:j<=400000000)(hk:k<=400000000):Fn A.C 96 [.str (aW a),.str (aW b)] h N (fun u _ _=>u=.str (aW (a*b))):=by
 intro w
 obtain⟨n1,d1,o1,nV,f1⟩:=OG a
 obtain⟨n2,d2,o2,jK,f2⟩:=OG b
 have pa:=Rat.den_pos a
 have pb:=Rat.den_pos b
 rw[aR,A.k96 (by simp)]
 have key:(o1=true/\o2=true)\/(o1=false\/(o1=true/\o2=false)):=by cases o1<;>cases o2<;>simp
 rcases key with⟨rfl,rfl⟩|key
 ·obtain⟨rfl,rfl,g1⟩:=f1 rfl
  obtain⟨rfl,rfl,g2⟩:=f2 rfl
  have m1:(a.num*b.num).natAbs<=1000000000000000000:=by rw[tP];exact K0 g1.1 g2.1
  have m2:a.den*b.den<=1000000000000000000:=K0 g1.2 g2.2
  have m3:0<a.den*b.den:=yH pa pb
  have e2:(a.den:Int)*(b.den:Int)=((a.den*b.den:Nat):Int):=by simp
  have w1:bn .i64 (a.num*b.num)=a.num*b.num:=cj (by omega) (by omega)
  have w2:bn .i64 ((a.den:Int)*(b.den:Int))=(a.den:Int)*(b.den:Int):=by rw[e2];exact cj (by omega) (by omega)
  have ho:=fun st=>Yny (p:=a.num*b.num) (q:=(a.den:Int)*(b.den:Int)) (st:=st) (by omega) (by omega) (by omega) (by omega) (by omega)
  rw[<-Zoz]at ho
  simp[A.b96,nV,jK,w1,w2,ho,aA]
  exact ab.refl
 ·have la:=FD ha.1
  have UR:=CL ha.2
  have lb:=FD hb.1
  have lb2:=CL hb.2
  have z1:=rz ha.1
  have z2:=rz hb.1
  have z3:=rz ha.2
  have z4:=rz hb.2
  rcases key with rfl|⟨rfl,rfl⟩
  all_goals simp[A.b96,nV,jK]
  all_goals
   refine ax (KX (q:=a) (by omega) (by omega)) ?_
   rintro _ h1 t1 k1 ⟨x1,y1,rfl,X1,Y1⟩
   obtain⟨u1,rfl,p1,p2,F1⟩:=X1.nv
   obtain⟨v1,rfl,p3,p4,G1⟩:=Y1.nv
   unfold V.one at p1 p3
   unfold V.cells at p2 p4
   have KA:=((((ab.refl (h:=h1) (n:=t1)).new (.cells [.bool false,.aa] 175 true)).new (.cells [.bool false,.aa] 175 true)).set (i:=t1) (o:=.cells [.bool (decide (a.num<0)),u1] 175 true) (aS _)).set (i:=t1+1) (o:=.cells [.bool (decide ((a.den:Int)<0)),v1] 175 true) (by omega)
   have c0:¬t1+1=t1:=by omega
   have c00:¬t1=t1+1:=by omega
   simp[p1,p3,bW,ag]
   generalize yk:(((h1.set t1 (.cells [.bool false,.aa] 175 true)).set (t1+1) (.cells [.bool false,.aa] 175 true)).set t1 (.cells [.bool (decide (a.num<0)),u1] 175 true)).set (t1+1) (.cells [.bool (decide ((a.den:Int)<0)),v1] 175 true)=HA at*
   have K4:HA.get t1=some (.cells [.bool (decide (a.num<0)),u1] 175 true):=by rw[<-yk];simp
   have Cz:HA.get (t1+1)=some (.cells [.bool (decide ((a.den:Int)<0)),v1] 175 true):=by rw[<-yk];simp
   have X1:=X1.ae KA
   have Y1:=Y1.ae KA
   clear yk
   refine ax (KX (q:=b) (by omega) (by omega)) ?_
   rintro _ h2 t2 k2 ⟨x2,y2,rfl,X2,Y2⟩
   obtain⟨u2,rfl,p5,p6,F2⟩:=X2.nv
   obtain⟨v2,rfl,p7,p8,G2⟩:=Y2.nv
   unfold V.one at p5 p7
   unfold V.cells at p6 p8
   have KB:=((((ab.refl (h:=h2) (n:=t2)).new (.cells [.bool false,.aa] 175 true)).new (.cells [.bool false,.aa] 175 true)).set (i:=t2) (o:=.cells [.bool (decide (b.num<0)),u2] 175 true) (aS _)).set (i:=t2+1) (o:=.cells [.bool (decide ((b.den:Int)<0)),v2] 175 true) (by omega)
   have c1:¬t2+1=t2:=by omega
   have c11:¬t2=t2+1:=by omega
   have i2:=k2.le
   generalize Ft:(((h2.set t2 (.cells [.bool false,.aa] 175 true)).set (t2+1) (.cells [.bool false,.aa] 175 true)).set t2 (.cells [.bool (decide (b.num<0)),u2] 175 true)).set (t2+1) (.cells [.bool (decide ((b.den:Int)<0)),v2] 175 true)=HB at*
   have K6:HB.get t2=some (.cells [.bool (decide (b.num<0)),u2] 175 true):=by rw[<-Ft];simp
   have OH:HB.get (t2+1)=some (.cells [.bool (decide ((b.den:Int)<0)),v2] 175 true):=by rw[<-Ft];simp
   have Kd:=(KB.get t1 (by omega)).trans ((k2.get t1 (by omega)).trans K4)
   have VO:=(KB.get (t1+1) (by omega)).trans ((k2.get (t1+1) (by omega)).trans Cz)
   have X1:=(X1.ae k2).ae KB
   have Y1:=(Y1.ae k2).ae KB
   have X2:=X2.ae KB
   have Y2:=Y2.ae KB
   have K2:ab h N HB (t2+1+1):=((k1.trans KA).trans k2).trans KB
   have j1:t1<t2+1+1:=by omega
   have j2:t1+1<t2+1+1:=by omega
   have j3:t2<t2+1+1:=by omega
   simp[p5,p7,bW,ag,Ft,K6,Kd,aU,aJ]
   refine ax (KS X1 X2 (by omega) (by omega)) ?_
   rintro _ h3 t3 k3 X3
   have i3:=k3.le
   have VP:=(k3.get (t2+1) (by omega)).trans OH
   have OI:=(k3.get (t1+1) (by omega)).trans VO
   simp[VP,OI,aU,aJ]
   refine ax (KS (Y1.ae k3) (Y2.ae k3) (by rw[dm];omega) (by rw[dm];omega)) ?_
   rintro _ h4 t4 k4 X4
   have m1:=rz (K3 ha.1 hb.1)
   have m2:=rz (K3 (a:=(a.den:Int)) (b:=(b.den:Int)) (j:=j) (k:=k) (by rw[dm];exact ha.2) (by rw[dm];exact hb.2))
   simp[]
   refine ax (VL (X3.ae k4) X4 (FY (by omega) (by omega)) (by omega) (by omega)) ?_
   rintro _ h5 t5 k5 rfl
   have j4:t2+1<t3:=by omega
   have j5:t1+1<t3:=by omega
   rw[<-Zoz]
   have i1:=k1.le
   simp[-ad,dw.dB,j1,j4,j5,aA]
   exact⟨B1 (by simp;omega),((K2.trans k3).trans k4).trans k5⟩
set_option maxHeartbeats 2000000
def A.b95:aq:=sr [⟨(some 4),.aY (.const (.str [])),none⟩]
 (sr [mv 16 0,c1 17 162 16,mv 15 17,xt 18 15 0,xt 19 15 1,xt 20 15 2,mv 5 18,mv 6 19,mv 7 20]
 (sr [mv 22 1,c1 23 162 22,mv 21 23,xt 24 21 0,xt 25 21 1,xt 26 21 2,mv 8 24,mv 9 25,mv 10 26]
 (.seq (sr [mv 27 7,mv 28 27,mg 29 10 28,pf 30 28 29]
 (cd 30
 (sr [mv 31 5,mv 32 9,bi 33 .mul 31 32,mv 34 8,mv 35 6,bi 36 .mul 34 35,bi 37 .add 33 36,mv 38 6,mv 39 9,bi 40 .mul 38 39,c2 41 163 37 40,mv 4 41]
 (.ret))
 (.skip)))
 (sr [mv 43 0,c1 44 160 43,mv 42 44,xt 45 42 0,xt 46 42 1,⟨(some 11),.alloc [(.bool false),.aa] 175,none⟩,⟨(some 12),.alloc [(.bool false),.aa] 175,none⟩,⟨none,.store 2 (.tmp 11) (.tmp 45),none⟩,⟨none,.store 2 (.tmp 12) (.tmp 46),none⟩]
 (sr [mv 48 1,c1 49 160 48,mv 47 49,xt 50 47 0,xt 51 47 1,⟨(some 13),.alloc [(.bool false),.aa] 175,none⟩,⟨(some 14),.alloc [(.bool false),.aa] 175,none⟩,⟨none,.store 2 (.tmp 13) (.tmp 50),none⟩,⟨none,.store 2 (.tmp 14) (.tmp 51),none⟩]
 (.seq (.aV [lN 52 2 11,lN 53 2 14,c2 54 166 52 53,lN 55 2 13,lN 56 2 12,c2 57 166 55 56,c2 58 165 54 57,lN 59 2 12,lN 60 2 14,c2 61 166 59 60,c2 62 164 58 61,mv 4 62] [0,0,3,0,0,31,63,0,0,511,1023,2047])
 (.ret)))))))
theorem A.c95:A.F 95=some ⟨63,[.tmp 4],A.b95⟩:=by kernel_rfl
def A.k95:=@A.kk 95 _ _ _ A.c95 rfl
theorem QT{a b:Rat}{j k:Nat}{h:T O}{N:Nat}(ha:Qb j a)(hb:Qb k b)(hj:j<=400000000)(hk:k<=400000000):Fn A.C 95 [.str (aW a),.str (aW b)] h N (fun u _ _=>u=.str (aW (a+b))):=by
 intro w
 obtain⟨n1,d1,o1,nV,f1⟩:=OG a
 obtain⟨n2,d2,o2,jK,f2⟩:=OG b
 have pa:=Rat.den_pos a
 have pb:=Rat.den_pos b
 rw[aR,A.k95 (by simp)]
 have key:(o1=true/\o2=true)\/(o1=false\/(o1=true/\o2=false)):=by cases o1<;>cases o2<;>simp
 rcases key with⟨rfl,rfl⟩|key
 ·obtain⟨rfl,rfl,g1⟩:=f1 rfl
  obtain⟨rfl,rfl,g2⟩:=f2 rfl
  have m1:(a.num*(b.den:Int)).natAbs<=1000000000000000000:=by rw[tP,dm];exact K0 g1.1 g2.2
  have m4:(b.num*(a.den:Int)).natAbs<=1000000000000000000:=by rw[tP,dm];exact K0 g2.1 g1.2
  have m2:a.den*b.den<=1000000000000000000:=K0 g1.2 g2.2
  have m3:0<a.den*b.den:=yH pa pb
  have e2:(a.den:Int)*(b.den:Int)=((a.den*b.den:Nat):Int):=by simp
  have w1:bn .i64 (a.num*(b.den:Int))=a.num*(b.den:Int):=cj (by omega) (by omega)
  have w3:bn .i64 (b.num*(a.den:Int))=b.num*(a.den:Int):=cj (by omega) (by omega)
  have w2:bn .i64 ((a.den:Int)*(b.den:Int))=(a.den:Int)*(b.den:Int):=by rw[e2];exact cj (by omega) (by omega)
  have w4:bn .i64 (a.num*(b.den:Int)+b.num*(a.den:Int))=a.num*(b.den:Int)+b.num*(a.den:Int):=cj (by omega) (by omega)
  have ho:=fun st=>Yny (p:=a.num*(b.den:Int)+b.num*(a.den:Int)) (q:=(a.den:Int)*(b.den:Int)) (st:=st) (by omega) (by omega) (by omega) (by omega) (by omega)
  rw[<-Zpb]at ho
  simp[A.b95,nV,jK,w1,w2,w3,w4,ho,aA]
  exact ab.refl
 ·have la:=FD ha.1
  have UR:=CL ha.2
  have lb:=FD hb.1
  have lb2:=CL hb.2
  have z1:=rz ha.1
  have z2:=rz hb.1
  have z3:=rz ha.2
  have z4:=rz hb.2
  rcases key with rfl|⟨rfl,rfl⟩
  all_goals simp[A.b95,nV,jK]
  all_goals
   refine ax (KX (q:=a) (by omega) (by omega)) ?_
   rintro _ h1 t1 k1 ⟨x1,y1,rfl,X1,Y1⟩
   obtain⟨u1,rfl,p1,p2,F1⟩:=X1.nv
   obtain⟨v1,rfl,p3,p4,G1⟩:=Y1.nv
   unfold V.one at p1 p3
   unfold V.cells at p2 p4
   have KA:=((((ab.refl (h:=h1) (n:=t1)).new (.cells [.bool false,.aa] 175 true)).new (.cells [.bool false,.aa] 175 true)).set (i:=t1) (o:=.cells [.bool (decide (a.num<0)),u1] 175 true) (aS _)).set (i:=t1+1) (o:=.cells [.bool (decide ((a.den:Int)<0)),v1] 175 true) (by omega)
   have c0:¬t1+1=t1:=by omega
   have c00:¬t1=t1+1:=by omega
   simp[p1,p3,bW,ag]
   generalize yk:(((h1.set t1 (.cells [.bool false,.aa] 175 true)).set (t1+1) (.cells [.bool false,.aa] 175 true)).set t1 (.cells [.bool (decide (a.num<0)),u1] 175 true)).set (t1+1) (.cells [.bool (decide ((a.den:Int)<0)),v1] 175 true)=HA at*
   have K4:HA.get t1=some (.cells [.bool (decide (a.num<0)),u1] 175 true):=by rw[<-yk];simp
   have Cz:HA.get (t1+1)=some (.cells [.bool (decide ((a.den:Int)<0)),v1] 175 true):=by rw[<-yk];simp
   have X1:=X1.ae KA
   have Y1:=Y1.ae KA
   clear yk
   refine ax (KX (q:=b) (by omega) (by omega)) ?_
   rintro _ h2 t2 k2 ⟨x2,y2,rfl,X2,Y2⟩
   obtain⟨u2,rfl,p5,p6,F2⟩:=X2.nv
   obtain⟨v2,rfl,p7,p8,G2⟩:=Y2.nv
   unfold V.one at p5 p7
   unfold V.cells at p6 p8
   have KB:=((((ab.refl (h:=h2) (n:=t2)).new (.cells [.bool false,.aa] 175 true)).new (.cells [.bool false,.aa] 175 true)).set (i:=t2) (o:=.cells [.bool (decide (b.num<0)),u2] 175 true) (aS _)).set (i:=t2+1) (o:=.cells [.bool (decide ((b.den:Int)<0)),v2] 175 true) (by omega)
   have c1:¬t2+1=t2:=by omega
   have c11:¬t2=t2+1:=by omega
   have i2:=k2.le
   generalize Ft:(((h2.set t2 (.cells [.bool false,.aa] 175 true)).set (t2+1) (.cells [.bool false,.aa] 175 true)).set t2 (.cells [.bool (decide (b.num<0)),u2] 175 true)).set (t2+1) (.cells [.bool (decide ((b.den:Int)<0)),v2] 175 true)=HB at*
   have K6:HB.get t2=some (.cells [.bool (decide (b.num<0)),u2] 175 true):=by rw[<-Ft];simp
   have OH:HB.get (t2+1)=some (.cells [.bool (decide ((b.den:Int)<0)),v2] 175 true):=by rw[<-Ft];simp
   have Kd:=(KB.get t1 (by omega)).trans ((k2.get t1 (by omega)).trans K4)
   have VO:=(KB.get (t1+1) (by omega)).trans ((k2.get (t1+1) (by omega)).trans Cz)
   have X1:=(X1.ae k2).ae KB
   have Y1:=(Y1.ae k2).ae KB
   have X2:=X2.ae KB
   have Y2:=Y2.ae KB
   have K2:ab h N HB (t2+1+1):=((k1.trans KA).trans k2).trans KB
   have j1:t1<t2+1+1:=by omega
   have j2:t1+1<t2+1+1:=by omega
   have j3:t2<t2+1+1:=by omega
   simp[p5,p7,bW,ag,Ft,OH,Kd,aU,aJ]
   refine ax (KS X1 Y2 (by omega) (by rw[dm];omega)) ?_
   rintro _ h3 t3 k3 X3
   have i3:=k3.le
   have gC1:=(k3.get t2 (by omega)).trans K6
   have VP:=(k3.get (t2+1) (by omega)).trans OH
   have OI:=(k3.get (t1+1) (by omega)).trans VO
   simp[gC1,OI,aU,aJ]
   refine ax (KS (X2.ae k3) (Y1.ae k3) (by omega) (by rw[dm];omega)) ?_
   rintro _ h4 t4 k4 X4
   have i4:=k4.le
   have b1:=K3 (b:=(b.den:Int)) (k:=k) ha.1 (by rw[dm];exact hb.2)
   have b2:=K3 (b:=(a.den:Int)) (k:=j) hb.1 (by rw[dm];exact ha.2)
   rw[Nat.add_comm k j]at b2
   have m1:=rz b1
   have m2:=rz b2
   have m3:=rz (Zpz b1 b2)
   have m4:=rz (K3 (a:=(a.den:Int)) (b:=(b.den:Int)) (j:=j) (k:=k) (by rw[dm];exact ha.2) (by rw[dm];exact hb.2))
   simp[]
   refine ax (Yj6 (X3.ae k4) X4 (by omega) (by omega)) ?_
   rintro _ h5 t5 k5 X5
   have i5:=k5.le
   have gD2:=(k5.get (t2+1) (by omega)).trans ((k4.get (t2+1) (by omega)).trans VP)
   have gD4:=(k5.get (t1+1) (by omega)).trans ((k4.get (t1+1) (by omega)).trans OI)
   simp[gD2,gD4,aU,aJ]
   refine ax (KS (((Y1.ae k3).ae k4).ae k5) (((Y2.ae k3).ae k4).ae k5) (by rw[dm];omega) (by rw[dm];omega)) ?_
   rintro _ h6 t6 k6 X6
   simp[]
   refine ax (VL (X5.ae k6) X6 (FY (by omega) (by omega)) (by omega) (by omega)) ?_
   rintro _ h7 t7 k7 rfl
   have j4:t2+1<t3:=by omega
   have j5:t1+1<t3:=by omega
   have j6:t2<t3:=by omega
   have j7:t2+1<t5:=by omega
   have j8:t1+1<t5:=by omega
   rw[<-Zpb]
   have i1:=k1.le
   simp[-ad,dw.dB,j1,j5,j6,j7,j8,aA]
   exact⟨B1 (by simp;omega),((((K2.trans k3).trans k4).trans k5).trans k6).trans k7⟩
set_option maxHeartbeats 2000000
def A.b220:aq:=sr [⟨(some 4),.aY (.const (.int .u64 0)),none⟩,⟨(some 5),.aY (.const (.int .u64 0)),none⟩]
 (sr [mv 14 0,⟨(some 15),.bin .and (.node []) false (.tmp 14) (.const (.int .u64 4294967295)),none⟩,mv 6 15]
 (sr [mv 16 0,⟨(some 17),.bin .shr (.node []) false (.tmp 16) (.const (.int .u64 32)),none⟩,mv 7 17]
 (sr [mv 18 1,⟨(some 19),.bin .and (.node []) false (.tmp 18) (.const (.int .u64 4294967295)),none⟩,mv 8 19]
 (sr [mv 20 1,⟨(some 21),.bin .shr (.node []) false (.tmp 20) (.const (.int .u64 32)),none⟩,mv 9 21]
 (sr [mv 22 6,mv 23 8,bi 24 .mul 22 23,mv 10 24]
 (sr [mv 25 7,mv 26 8,bi 27 .mul 25 26,mv 28 10,⟨(some 29),.bin .shr (.node []) false (.tmp 28) (.const (.int .u64 32)),none⟩,bi 30 .add 27 29,mv 11 30]
 (sr [mv 31 11,⟨(some 32),.bin .and (.node []) false (.tmp 31) (.const (.int .u64 4294967295)),none⟩,mv 12 32]
 (sr [mv 33 11,⟨(some 34),.bin .shr (.node []) false (.tmp 33) (.const (.int .u64 32)),none⟩,mv 13 34]
 (sr [mv 35 12,mv 36 6,mv 37 9,bi 38 .mul 36 37,bi 39 .add 35 38,mv 12 39]
 (sr [mv 40 7,mv 41 9,bi 42 .mul 40 41,mv 43 13,bi 44 .add 42 43,mv 45 12,⟨(some 46),.bin .shr (.node []) false (.tmp 45) (.const (.int .u64 32)),none⟩,bi 47 .add 44 46,mv 4 47]
 (sr [mv 48 0,mv 49 1,bi 50 .mul 48 49,mv 5 50]
 (.ret))))))))))))
theorem A.c220:A.F 220=some ⟨51,[.tmp 4,.tmp 5],A.b220⟩:=by kernel_rfl
def A.k220:=@A.kk 220 _ _ _ A.c220 rfl
theorem Yn3{x y:Nat}(hx:x<18446744073709551616)(hy:y<18446744073709551616):cy (cy (cE (al x 32) (al y 32)) (al (cy (cE (al x 32) (er y)) (al (cE (er x) (er y)) 32)) 32)) (al (cy (er (cy (cE (al x 32) (er y)) (al (cE (er x) (er y)) 32))) (cE (er x) (al y 32))) 32)=bX (x*y):=by
 simp only[cy,cE,al,er,bX,Nat.reducePow]
 have ex:x=x/4294967296*4294967296+x%4294967296:=by omega
 have ey:y=y/4294967296*4294967296+y%4294967296:=by omega
 have mW:x%4294967296<4294967296:=jg _ (by decide)
 have uC:y%4294967296<4294967296:=jg _ (by decide)
 have xB:x/4294967296<4294967296:=by omega
 have qh:y/4294967296<4294967296:=by omega
 generalize x/4294967296=x1 at*
 generalize x%4294967296=x0 at*
 generalize y/4294967296=y1 at*
 generalize y%4294967296=y0 at*
 have a1:x0*y0<=4294967295*4294967295:=uR (by omega) (by omega)
 have a2:x1*y0<=4294967295*4294967295:=uR (by omega) (by omega)
 have a3:x0*y1<=4294967295*4294967295:=uR (by omega) (by omega)
 have a4:x1*y1<=4294967295*4294967295:=uR (by omega) (by omega)
 have e:x*y=x1*y1*18446744073709551616+(x1*y0+x0*y1)*4294967296+x0*y0:=by
  subst ex;subst ey
  grind
 rw[e]
 generalize x0*y0=p at*
 generalize x1*y0=q at*
 generalize x0*y1=u at*
 generalize x1*y1=z at*
 omega
theorem Js{h:T O}{N:Nat}{x y:Nat}(hx:x<18446744073709551616)(hy:y<18446744073709551616):Fn A.C 220 [.int .u64 x,.int .u64 y] h N (fun v' h' N'=>h'=h/\N'=N/\v'=.aZ [.int .u64 (bX (x*y):Nat),.int .u64 (bz (x*y):Nat)]):=by
 intro w
 rw[aR,A.k220 (by simp)]
 simp(disch:=first|(simp;done)|omega|(simp only[bl,bG,bh];omega)|rfl) [A.b220]
 rw[Yn3 hx hy]
 exact⟨rfl,ab.refl,rfl,rfl,rfl⟩
def A.lP:aq:=.seq (sr [mv 6 3,bc 7 .gtr 6 0,mv 8 7,mg 9 0 8,mg 10 3 8,⟨(some 11),.bin .sub (.node []) false (.tmp 10) (.const (.int .i64 1)),(some (8,true))⟩,⟨(some 12),.aN 1 (.tmp 9) (.tmp 11),(some (8,true))⟩,⟨(some 13),.load none (.tmp 12),(some (8,true))⟩,⟨(some 14),.bin .eql (.aI .int) true (.tmp 13) (.const (.int .u64 0)),(some (8,true))⟩,pf 15 8 14]
 (cd 15
 (.skip)
 (.exit 0)))
 (.block 1 (.aM [mv 16 3,bc 17 .sub 16 1,mv 3 17]))
def A.b263:aq:=sr [mN 2]
 (sr [mv 4 0,ln 5 4,mv 3 5]
 (.seq (.block 0 (.loop A.lP))
 (sr [mv 18 0,mv 19 3,⟨(some 20),.dX 1 (.tmp 18) none (some (.tmp 19)) none,none⟩,mv 2 20]
 (.ret))))
theorem A.c263:A.F 263=some ⟨21,[.tmp 2],A.b263⟩:=by kernel_rfl
def A.k263:=@A.kk 263 _ _ _ A.c263 rfl
theorem AA{h:T O}{N:Nat}{v:V}{l:List Nat}(hs:Sl h N v (dg l))(hl:l.length<1152921504606846976):Fn A.C 263 [v] h N (fun v' h' N'=>Sl h' N' v' (dg (qk l))):=by
 intro w
 have hlen:=hs.len
 rw[bl]at hlen
 rw[aR,A.k263 (by simp)]
 simp[A.b263,hlen]
 refine bQ [(3,3),(6,17)] (fun e r st=>e=.exit 0/\st=⟨h,N,[]⟩/\∃k,k<=l.length/\r.get 3=some (.int .i64 k)/\qk l=l.take k) (fun k r st=>st=⟨h,N,[]⟩/\k<=l.length/\r.get 3=some (.int .i64 k)/\qk (l.take k)=qk l) l.length ?_ ?_ ?_
 ·exact⟨rfl,aS _,by simp,by simp⟩
 ·rintro k r _ hr hf ⟨rfl,hk,h3,ht⟩
  rw[bA]
  cases k with
  |zero=>
   have:qk l=[]:=ht.symm
   simp[A.lP,h3,hf,this]
   exact⟨0,by omega,rfl,.inl rfl⟩
  |succ k=>
   obtain⟨d,hd⟩:∃d,l[k]?=some d:=⟨_,dk (by omega)⟩
   obtain⟨i,o,c,e,rw,q1,q2,q3,q4⟩:=hs.at (eW hd)
   have e1:l.take (k+1)=l.take k++[d]:=by rw[pV,hd];rfl
   have k1:(0:Int)<(k:Int)+1:=by omega
   have k2:(k:Int)<(l.length:Int):=by omega
   by_cases h0:d=0
   ·subst h0
    rw[e1,YY]at ht
    simp(disch:=first|(simp;done)|omega|(simp only[bl,bG,bh];omega)|rfl) [A.lP,h3,hr,hf,k1,hlen,q1,q3,q4]
    exact⟨k,by omega,by omega,rfl,ht⟩
   ·rw[e1,YZ h0]at ht
    have hz:((d:Int)==0)=false:=by simp;omega
    simp(disch:=first|(simp;done)|omega|(simp only[bl,bG,bh];omega)|rfl) [A.lP,h3,hr,hf,k1,hlen,q1,q3,q4,hz]
    exact⟨k+1,hk,rfl,by rw[e1];exact ht.symm⟩
 ·rintro _ r _ hr ⟨rfl,rfl,k,hk,h3,ht⟩
  simp[hr,h3,Jn,ay]
  obtain⟨v',e1,e2⟩:=MY (w:=[]) hs (lo:=0) (hi:=k) (tQ _) (by rw[bl];exact hk) none (some (.int .i64 k)) (.inr ⟨rfl,rfl⟩) (.inl rfl)
  rw[e1]
  simp[aA]
  refine⟨ab.refl,?_⟩
  rw[ht,show dg (l.take k)=(dg l).take k by simp[dg]]
  exact e2
end Go.Mx
