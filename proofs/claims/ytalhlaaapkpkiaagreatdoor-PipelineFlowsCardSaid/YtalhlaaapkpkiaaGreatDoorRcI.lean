/-lensletref01-/
import Derived.Test.YtalhlaaapkpkiaaGreatDoorRcE
set_option linter.all false
namespace Go.Mx
open Go Go.Proofs
set_option maxRecDepth 1000000
def Zrf{h h2:T O}{N n2:Nat}{a b:Int}{x y:V}(hx:Sl h2 n2 x (dI (ds a.natAbs)))(hy:Sl h2 n2 y (dI (ds b.natAbs)))(r0:h2.get N=some (.cells [.bool false,.nilslice] 114 true))(r1:h2.get (N+1)=some (.cells [.bool false,.nilslice] 114 true)):Rg ((h2.set N (.cells [.bool (decide (a<0)),x] 114 true)).set (N+1) (.cells [.bool (decide (b<0)),y] 114 true)) n2 (.agg [.bool (decide (a<0)),x]) a∧Rg ((h2.set N (.cells [.bool (decide (a<0)),x] 114 true)).set (N+1) (.cells [.bool (decide (b<0)),y] 114 true)) n2 (.agg [.bool (decide (b<0)),y]) b:=by
 have r1':(h2.set N (.cells [.bool (decide (a<0)),x] 114 true)).get (N+1)=some (.cells [.bool false,.nilslice] 114 true):=by rw[T.get_set,Ys5 (by omega)];exact r1
 exact⟨⟨x,rfl,Sl.setInt (Sl.setInt hx r0 nint rfl) r1' nint rfl⟩,⟨y,rfl,Sl.setInt (Sl.setInt hy r0 nint rfl) r1' nint rfl⟩⟩
def Zjq{q:Rat}{h:T O}{N:Nat}(l1:(decI q.num).length≤1000000000)(l2:(decN q.den).length≤1000000000):Fn A.C 46 [.str (Zaz q)] h N (fun v h' n'=>∃x y,v=.tup [x,y]∧Rg h' n' x q.num∧Rg h' n' y (q.den:Int)):=by
 intro w
 have hlt:(Zaz q).length≤3000000000:=by
  unfold Zaz
  split
  ·omega
  ·simp only[Ytu,Ys4];omega
 have hsl:=fun st=>Zhq (s:=Zaz q) (st:=st) (by omega)
 have hsa:=Zf2 q
 have htk:=Zl1 q
 have hk0:=(Keeps.refl (h:=h) (n:=N)).new (.cells [.bool false,.nilslice] 114 true)
 have k0:=hk0.new (.cells [.bool false,.nilslice] 114 true)
 have d4':¬N+1=N:=by omega
 have d5':¬N=N+1:=by omega
 rw[Zae,A.k46 (by simp)]
 by_cases hd:q.den=1
 ·have he:slashAt (Zaz q)=(Zaz q).length:=by
   have:=Zk8 q
   have h2:slashAt (Zaz q)≤(Zaz q).length:=by
    rw[hsa]
    unfold Zaz
    rw[Ys8 hd]
    exact Ys6 _
   omega
  have htx:Zaz q=decI q.num:=by unfold Zaz;rw[Ys8 hd]
  have c1:((slashAt (Zaz q):Int)=((Zaz q).length:Int)):=by omega
  rw[hd]
  simp[A.b46,hsl,he,Zad]
  rw[htx]
  refine Zaf (Zrg (z:=q.num) (by omega)) ?_
  rintro v1 h1 n1 k1 ⟨x,rfl,hx⟩
  simp[]
  refine Zaf (Ya5 (z:=1) (by omega) (by omega)) ?_
  rintro v2 h2 n2 k2 ⟨y,rfl,hy⟩
  have kle1:=k1.le
  have kle2:=k2.le
  have hx:=Sl.keep hx k2
  have r0:=(k2.get N (by omega)).trans (k1.get N (by omega))
  have r1:=(k2.get (N+1) (by omega)).trans (k1.get (N+1) (by omega))
  simp at r0 r1
  have hxo:=(Sl.form hx).one
  have hyo:=(Sl.form hy).one
  have hxc:=(Sl.form hx).cells
  have hyc:=(Sl.form hy).cells
  unfold V.one at hxo hyo
  unfold V.cells at hxc hyc
  obtain⟨e1,e2⟩:=Zrf (h:=h) (b:=1) hx hy r0 r1
  have d1':N<n1:=by omega
  have d2':N<n2:=by omega
  have d3':N+1<n2:=by omega
  simp[r0,r1,splice,Zak,hxo,hyo,hxc,hyc,d1',d2',d3',d4',d5',Zal,slc,Zan.chk,Ret]
  simp only[show decide ((1:Int)<0)=false from rfl]at e1 e2
  exact⟨(((k0.trans k1).trans k2).set (by omega)).set (by omega),_,_,⟨rfl,rfl⟩,e1,e2⟩
 ·have hlt2:=(Zk8 q).2 hd
  have hdr:=Zl2 q hd
  have c1:¬((slashAt (Zaz q):Int)=((Zaz q).length:Int)):=by omega
  have c2:¬(slashAt (Zaz q)=(Zaz q).length):=by omega
  have c3:(slashAt (Zaz q):Int)≤((Zaz q).length:Int):=by omega
  have c4:(slashAt (Zaz q):Int)+1≤((Zaz q).length:Int):=by omega
  have c5:((slashAt (Zaz q):Int)+1).toNat=slashAt (Zaz q)+1:=by omega
  have hnd:numV (decN q.den)=q.den:=Zck _
  simp[A.b46,hsl,c1,c2,c3,c4,c5,Zad,evOpt,htk]
  refine Zaf (Zrg (z:=q.num) (by omega)) ?_
  rintro v1 h1 n1 k1 ⟨x,rfl,hx⟩
  simp(disch:=omega) [hsl,c1,c2,c3,c4,c5,Zad,evOpt,hdr]
  refine Zaf (Zma (Zb6 q.den) (Ywu.2 (Zi0 _)) (by omega)) ?_
  rintro v2 h2 n2 k2 hy
  rw[hnd]at hy
  obtain⟨y,rfl,hy⟩:=hy
  have kle1:=k1.le
  have kle2:=k2.le
  have hx:=Sl.keep hx k2
  have r0:=(k2.get N (by omega)).trans (k1.get N (by omega))
  have r1:=(k2.get (N+1) (by omega)).trans (k1.get (N+1) (by omega))
  simp at r0 r1
  have hxo:=(Sl.form hx).one
  have hyo:=(Sl.form hy).one
  have hxc:=(Sl.form hx).cells
  have hyc:=(Sl.form hy).cells
  unfold V.one at hxo hyo
  unfold V.cells at hxc hyc
  obtain⟨e1,e2⟩:=Zrf (h:=h) (b:=(q.den:Int)) hx hy r0 r1
  have d1':N<n1:=by omega
  have d2':N<n2:=by omega
  have d3':N+1<n2:=by omega
  have hdn:¬(q.den:Int)<0:=by omega
  simp only[show decide ((q.den:Int)<0)=false by simp[hdn]]at e1 e2
  simp[r0,r1,splice,Zak,hxo,hyo,hxc,hyc,d1',d2',d3',d4',d5',Zal,slc,Zan.chk,Ret,hdn]
  exact⟨(((k0.trans k1).trans k2).set (by omega)).set (by omega),_,_,⟨rfl,rfl⟩,e1,e2⟩
def Zso{n:Nat}:(decN n).length≤9↔n<1000000000:=Ze2 (k:=9) (by omega)
def Yiy{n:Nat}(h:n<1000000000)(st:St):A.C.call (.func 88 [] []) [.str (decN n)] st=some (.int .i64 n,st):=by
 have:=Zjc (s:=decN n) (st:=st) (Zb6 n) (by have:=Zso.2 h;omega)
 rwa [Zck]at this
noncomputable def A.b44:=A.q Tryz.f44
def A.k44:=@A.kk 44 54 [.tmp 2,.tmp 3,.tmp 4] A.b44 (by kernel_rfl) rfl
def QB(q:Rat):Str:=if q.den=1 then decN q.num.natAbs else decN q.num.natAbs++47::decN q.den
def Zh9(q:Rat):Zaz q=if q.num<0 then 45::QB q else QB q:=by
 unfold Zaz QB decI
 by_cases h1:q.den=1<;>by_cases h2:q.num<0<;>simp[h1,h2]
def Yig(q:Rat):slashAt (QB q)=(decN q.num.natAbs).length:=by
 unfold QB
 split
 ·exact Ze5 (Zk4 (Zb6 _))
 ·exact Zf3 (Zk4 (Zb6 _))
def Ym2(q:Rat):(QB q).take (decN q.num.natAbs).length=decN q.num.natAbs:=by
 unfold QB
 split
 ·exact Ytd (Ys6 _)
 ·exact List.take_left
def Ym3{q:Rat}(h:q.den≠1):(QB q).drop ((decN q.num.natAbs).length+1)=decN q.den:=by
 unfold QB
 rw[Ys5 h,←List.drop_drop,List.drop_left];rfl
def Yjr(q:Rat):(QB q).length=(decN q.num.natAbs).length+(if q.den=1 then 0 else (decN q.den).length+1):=by
 unfold QB
 split<;>simp
def Zvi(q:Rat):∃c t,QB q=c::t∧48≤c.toNat:=by
 obtain⟨c,t,h,h1,_⟩:=Zpf (n:=q.num.natAbs)
 unfold QB
 split
 ·exact⟨c,t,h,h1⟩
 ·exact⟨c,t++47::decN q.den,by rw[h];rfl,h1⟩
def Ybj{q:Rat}{st:St}(hl:(Zaz q).length≤20):A.C.call (.func 44 [] []) [.str (Zaz q)] st=some (if q.num.natAbs<1000000000∧q.den<1000000000 then .tup [.int .i64 q.num,.int .i64 q.den,.bool true] else .tup [.int .i64 0,.int .i64 0,.bool false],st):=by
 obtain⟨c,t,hB,hc⟩:=Zvi q
 have hs:=Yig q
 have ht:=Ym2 q
 have hln:=Yjr q
 have h9:=Zso (n:=q.num.natAbs)
 have h9d:=Zso (n:=q.den)
 have hn:=fun h st=>Yiy (n:=q.num.natAbs) h st
 have hd:=fun h st=>Yiy (n:=q.den) h st
 have hdr:=Ym3 (q:=q)
 have hc45:¬u8I c=45:=by unfold u8I;omega
 have htx:=Zh9 q
 have hBl:(QB q).length≤20:=by
  rw[htx]at hl
  split at hl
  ·simp only[Ys4]at hl;omega
  ·exact hl
 have hsl:=fun st=>Zhq (s:=QB q) (st:=st) (by omega)
 rw[hs]at hsl
 have hc0:(QB q)[0]?=some c:=by rw[hB];rfl
 have hh:(QB q).head?=some c:=by rw[hB];rfl
 have hne:QB q≠[]:=by rw[hB];simp
 have hB0:0<(QB q).length:=by rw[hB];simp
 have hB0':(0:Int)<((QB q).length:Int):=by omega
 have hB20:¬(20:Int)<((QB q).length:Int):=by omega
 have hkl:(decN q.num.natAbs).length≤(QB q).length:=by omega
 have hkl':((decN q.num.natAbs).length:Int)≤((QB q).length:Int):=by omega
 have k0:0≤(decN q.num.natAbs).length:=Yvy _
 have w1:Zaq .i64 (((QB q).length:Int)-((decN q.num.natAbs).length:Int))=((QB q).length:Int)-((decN q.num.natAbs).length:Int):=Zaj (by omega) (by omega)
 have w2:Zaq .i64 (((decN q.num.natAbs).length:Int)+1)=((decN q.num.natAbs).length:Int)+1:=Zaj (by omega) (by omega)
 have a3:∀st:St,Zdk st (some (.str (45::QB q))) (some (some (.int .i64 1))) (some none)=some (.str (QB q),st):=fun st=>by rw[Zfe (by omega) (by simp only[Ys4];omega)];rfl
 have a4:∀st:St,Zdk st (some (.str (QB q))) (some none) (some (some (.int .i64 (decN q.num.natAbs).length)))=some (.str (decN q.num.natAbs),st):=fun st=>by rw[Zou (by omega) (by omega),Int.toNat_natCast,ht]
 apply Call.eq
 rw[Zae,A.k44 (by simp),htx]
 by_cases e9:q.num.natAbs<1000000000
 ·have g9:¬(9:Int)<((decN q.num.natAbs).length:Int):=by have:=h9.2 e9;omega
  have hn:=hn e9
  by_cases e1:q.den=1
  ·rw[Ys8 e1]at hln
   have g10:¬(10:Int)<((QB q).length:Int)-((decN q.num.natAbs).length:Int):=by omega
   have g11:¬((decN q.num.natAbs).length:Int)<((QB q).length:Int):=by omega
   have g12:¬(decN q.num.natAbs).length<(QB q).length:=by omega
   rw[e1]
   by_cases hz:q.num<0
   ·have ez:(q.num.natAbs:Int)= -q.num:=by omega
    have w3:Zaq .i64 (0-(q.num.natAbs:Int))=q.num:=by rw[ez];rw[Zaj (by omega) (by omega)];omega
    have a5:u8I 45=45:=rfl
    have hz2:(QB q).length+1≤20:=by rw[htx,Ys8 hz]at hl;simpa using hl
    have hz3:¬(20:Int)<((QB q).length:Int)+1:=by omega
    have hz4:(0:Int)<((QB q).length:Int)+1:=by omega
    simp(disch:=first|(simp;done)|omega|rfl) [-getElem?_pos,A.b44,hz,hB20,hz3,hz4,a3,a5,hsl,Zad,evOpt,g9,g10,g11,g12,w1,w3,a4,hn,e9]
    omega
   ·have ez:(q.num.natAbs:Int)=q.num:=by omega
    simp(disch:=first|(simp;done)|omega|rfl) [-getElem?_pos,A.b44,hz,hc0,hh,hne,hB0,hB0',hB20,hc45,hsl,Zad,evOpt,g9,g10,g11,g12,w1,a4,hn,ez,e9]
  ·rw[Ys5 e1]at hln
   have hdr:=hdr e1
   have g11:((decN q.num.natAbs).length:Int)<((QB q).length:Int):=by omega
   have g12:(decN q.num.natAbs).length<(QB q).length:=by omega
   have a6:∀st:St,Zdk st (some (.str (QB q))) (some (some (.int .i64 (((decN q.num.natAbs).length:Int)+1)))) (some none)=some (.str (decN q.den),st):=fun st=>by
    rw[Zfe (by omega) (by omega)]
    have:(((decN q.num.natAbs).length:Int)+1).toNat=(decN q.num.natAbs).length+1:=by omega
    rw[this,hdr]
   by_cases e10:q.den<1000000000
   ·have g10:¬(10:Int)<((QB q).length:Int)-((decN q.num.natAbs).length:Int):=by have:=h9d.2 e10;omega
    have hd:=hd e10
    by_cases hz:q.num<0
    ·have ez:(q.num.natAbs:Int)= -q.num:=by omega
     have w3:Zaq .i64 (0-(q.num.natAbs:Int))=q.num:=by rw[ez];rw[Zaj (by omega) (by omega)];omega
     have a5:u8I 45=45:=rfl
     have hz2:(QB q).length+1≤20:=by rw[htx,Ys8 hz]at hl;simpa using hl
     have hz3:¬(20:Int)<((QB q).length:Int)+1:=by omega
     have hz4:(0:Int)<((QB q).length:Int)+1:=by omega
     simp(disch:=first|(simp;done)|omega|rfl) [-getElem?_pos,A.b44,hz,hB20,hz3,hz4,a3,a5,a6,hsl,Zad,evOpt,g9,g10,g11,g12,w1,w2,w3,a4,hn,hd,e9,e10]
     omega
    ·have ez:(q.num.natAbs:Int)=q.num:=by omega
     simp(disch:=first|(simp;done)|omega|rfl) [-getElem?_pos,A.b44,hz,hc0,hh,hne,hB0,hB0',hB20,hc45,a6,hsl,Zad,evOpt,g9,g10,g11,g12,w1,w2,a4,hn,hd,ez,e9,e10]
   ·have g10:(10:Int)<((QB q).length:Int)-((decN q.num.natAbs).length:Int):=by
     have:¬(decN q.den).length≤9:=fun hc=>e10 (h9d.1 hc)
     omega
    by_cases hz:q.num<0
    ·have a5:u8I 45=45:=rfl
     have hz2:(QB q).length+1≤20:=by rw[htx,Ys8 hz]at hl;simpa using hl
     have hz3:¬(20:Int)<((QB q).length:Int)+1:=by omega
     have hz4:(0:Int)<((QB q).length:Int)+1:=by omega
     simp(disch:=first|(simp;done)|omega|rfl) [-getElem?_pos,A.b44,hz,hB20,hz3,hz4,a3,a5,hsl,Zad,evOpt,g9,g10,w1,e9,e10]
    ·simp(disch:=first|(simp;done)|omega|rfl) [-getElem?_pos,A.b44,hz,hc0,hh,hne,hB0,hB0',hB20,hc45,hsl,Zad,evOpt,g9,g10,w1,e9,e10]
 ·have g9:(9:Int)<((decN q.num.natAbs).length:Int):=by
   have:¬(decN q.num.natAbs).length≤9:=fun hc=>e9 (h9.1 hc)
   omega
  by_cases hz:q.num<0
  ·have a5:u8I 45=45:=rfl
   have hz2:(QB q).length+1≤20:=by rw[htx,Ys8 hz]at hl;simpa using hl
   have hz3:¬(20:Int)<((QB q).length:Int)+1:=by omega
   have hz4:(0:Int)<((QB q).length:Int)+1:=by omega
   simp(disch:=first|(simp;done)|omega|rfl) [-getElem?_pos,A.b44,hz,hB20,hz3,hz4,a3,a5,hsl,Zad,evOpt,g9,e9]
  ·simp(disch:=first|(simp;done)|omega|rfl) [-getElem?_pos,A.b44,hz,hc0,hh,hne,hB0,hB0',hB20,hc45,hsl,Zad,evOpt,g9,e9]
def Zx2{q:Rat}{st:St}(h1:20<(Zaz q).length):A.C.call (.func 44 [] []) [.str (Zaz q)] st=some (.tup [.int .i64 0,.int .i64 0,.bool false],st):=by
 have h2:(20:Int)<((Zaz q).length:Int):=by omega
 apply Call.eq
 rw[Zae,A.k44 (by simp)]
 simp[A.b44,h2]
def Ydo{q:Rat}(h:q.num.natAbs<1000000000∧q.den<1000000000):(Zaz q).length≤20:=by
 have h1:=Zso.2 h.1
 have h2:=Zso.2 h.2
 have h3:=Yjr q
 rw[Zh9]
 split
 ·simp only[Ys4];split at h3<;>omega
 ·split at h3<;>omega
def Zv3{q:Rat}{st:St}:A.C.call (.func 44 [] []) [.str (Zaz q)] st=some (if q.num.natAbs<1000000000∧q.den<1000000000 then .tup [.int .i64 q.num,.int .i64 q.den,.bool true] else .tup [.int .i64 0,.int .i64 0,.bool false],st):=by
 by_cases h:(Zaz q).length≤20
 ·exact Ybj h
 ·rw[Ys5 fun hc=>h (Ydo hc)]
  exact Zx2 (by omega)
variable {j:Nat}
set_option maxHeartbeats 2000000
noncomputable def A.b12:=A.q Tryz.f12
def A.k12:=@A.kk 12 55 [.tmp 4] A.b12 (by kernel_rfl) rfl
def Zo7(a b:Rat):a*b=Rat.divInt (a.num*b.num) ((a.den:Int)*(b.den:Int)):=by
 rw[Rat.mul_def,Rat.normalize_eq_mkRat,←Rat.divInt_ofNat]
 simp
def Zpn(a b:Rat):a+b=Rat.divInt (a.num*(b.den:Int)+b.num*(a.den:Int)) ((a.den:Int)*(b.den:Int)):=by
 rw[Rat.add_def,Rat.normalize_eq_mkRat,←Rat.divInt_ofNat]
 simp
def Znr{a b:Nat}(h1:a<1000000000)(h2:b<1000000000):a*b≤1000000000000000000:=by
 have:=Yvf (Nat.le_of_lt h1) (Nat.le_of_lt h2)
 omega
def Zl8(q:Rat):∃(n d:Int) (o:Bool),(∀st,A.C.call (.func 44 [] []) [.str (Zaz q)] st=some (.tup [.int .i64 n,.int .i64 d,.bool o],st))∧(o=true→n=q.num∧d=(q.den:Int)∧q.num.natAbs<1000000000∧q.den<1000000000):=by
 by_cases f:q.num.natAbs<1000000000∧q.den<1000000000
 ·exact⟨q.num,q.den,true,fun st=>by rw[Zv3,Ys8 f],fun _=>⟨rfl,rfl,f⟩⟩
 ·exact⟨0,0,false,fun st=>by rw[Zv3,Ys5 f],fun h=>by cases h⟩
def Rg.ones{h:T O}{N:Nat}{v:V}{z:Int}(s:Rg h N v z):∃u,v=.agg [.bool (decide (z<0)),u]∧V.one u=true∧V.cells u=[u]∧SlF u:=by
 obtain⟨u,rfl,hu⟩:=s
 exact⟨u,rfl,(Sl.form hu).one,(Sl.form hu).cells,Sl.form hu⟩
def Zdp{a b:Int}{k:Nat}(h1:a.natAbs<2^j)(h2:b.natAbs<2^k):(a*b).natAbs<2^(j+k):=by
 rw[Yvg,Yuj]
 exact Yvw h1 h2
def Zqb{a b:Int}(h1:a.natAbs<2^j)(h2:b.natAbs<2^j):(a+b).natAbs<2^(j+1):=by
 have:=Int.natAbs_add_le a b
 rw[Ytw];omega
def Zuc{a b:Rat}{k:Nat}{h:T O}{N:Nat}(ha:Qb j a)(hb:Qb k b)(hj:j≤400000000)(hk:k≤400000000):Fn A.C 12 [.str (Zaz a),.str (Zaz b)] h N (fun u _ _=>u=.str (Zaz (a*b))):=by
 intro w
 obtain⟨n1,d1,o1,hq1,f1⟩:=Zl8 a
 obtain⟨n2,d2,o2,hq2,f2⟩:=Zl8 b
 have pa:=Rat.den_pos a
 have pb:=Rat.den_pos b
 rw[Zae,A.k12 (by simp)]
 have key:(o1=true∧o2=true)∨(o1=false∨(o1=true∧o2=false)):=by cases o1<;>cases o2<;>simp
 rcases key with⟨rfl,rfl⟩|key
 ·obtain⟨rfl,rfl,g1⟩:=f1 rfl
  obtain⟨rfl,rfl,g2⟩:=f2 rfl
  have m1:(a.num*b.num).natAbs≤1000000000000000000:=by rw[Yvg];exact Znr g1.1 g2.1
  have m2:a.den*b.den≤1000000000000000000:=Znr g1.2 g2.2
  have m3:0<a.den*b.den:=Ywh pa pb
  have e2:(a.den:Int)*(b.den:Int)=((a.den*b.den:Nat):Int):=by simp
  have w1:Zaq .i64 (a.num*b.num)=a.num*b.num:=Zaj (by omega) (by omega)
  have w2:Zaq .i64 ((a.den:Int)*(b.den:Int))=(a.den:Int)*(b.den:Int):=by rw[e2];exact Zaj (by omega) (by omega)
  have ho:=fun st=>Yn4 (p:=a.num*b.num) (q:=(a.den:Int)*(b.den:Int)) (st:=st) (by omega) (by omega) (by omega) (by omega) (by omega)
  rw[←Zo7]at ho
  simp[A.b12,hq1,hq2,w1,w2,ho,Ret]
  exact Keeps.refl
 ·have la:=Zny ha.1
  have la2:=Zhe ha.2
  have lb:=Zny hb.1
  have lb2:=Zhe hb.2
  have z1:=Zj5 ha.1
  have z2:=Zj5 hb.1
  have z3:=Zj5 ha.2
  have z4:=Zj5 hb.2
  rcases key with rfl|⟨rfl,rfl⟩
  all_goals simp[A.b12,hq1,hq2]
  all_goals
   refine Zaf (Zjq (q:=a) (by omega) (by omega)) ?_
   rintro _ h1 t1 k1 ⟨x1,y1,rfl,X1,Y1⟩
   obtain⟨u1,rfl,p1,p2,F1⟩:=X1.ones
   obtain⟨v1,rfl,p3,p4,G1⟩:=Y1.ones
   unfold V.one at p1 p3
   unfold V.cells at p2 p4
   have KA:=((((Keeps.refl (h:=h1) (n:=t1)).new (.cells [.bool false,.nilslice] 114 true)).new (.cells [.bool false,.nilslice] 114 true)).set (i:=t1) (o:=.cells [.bool (decide (a.num<0)),u1] 114 true) (Ys6 _)).set (i:=t1+1) (o:=.cells [.bool (decide ((a.den:Int)<0)),v1] 114 true) (by omega)
   have c0:¬t1+1=t1:=by omega
   have c00:¬t1=t1+1:=by omega
   simp[p1,p2,p3,p4,Zak,splice,c0]
   generalize hHA:(((h1.set t1 (.cells [.bool false,.nilslice] 114 true)).set (t1+1) (.cells [.bool false,.nilslice] 114 true)).set t1 (.cells [.bool (decide (a.num<0)),u1] 114 true)).set (t1+1) (.cells [.bool (decide ((a.den:Int)<0)),v1] 114 true)=HA at*
   have gA1:HA.get t1=some (.cells [.bool (decide (a.num<0)),u1] 114 true):=by rw[←hHA];simp[c0,c00]
   have gA2:HA.get (t1+1)=some (.cells [.bool (decide ((a.den:Int)<0)),v1] 114 true):=by rw[←hHA];simp
   have X1:=X1.keep KA
   have Y1:=Y1.keep KA
   clear hHA
   refine Zaf (Zjq (q:=b) (by omega) (by omega)) ?_
   rintro _ h2 t2 k2 ⟨x2,y2,rfl,X2,Y2⟩
   obtain⟨u2,rfl,p5,p6,F2⟩:=X2.ones
   obtain⟨v2,rfl,p7,p8,G2⟩:=Y2.ones
   unfold V.one at p5 p7
   unfold V.cells at p6 p8
   have KB:=((((Keeps.refl (h:=h2) (n:=t2)).new (.cells [.bool false,.nilslice] 114 true)).new (.cells [.bool false,.nilslice] 114 true)).set (i:=t2) (o:=.cells [.bool (decide (b.num<0)),u2] 114 true) (Ys6 _)).set (i:=t2+1) (o:=.cells [.bool (decide ((b.den:Int)<0)),v2] 114 true) (by omega)
   have c1:¬t2+1=t2:=by omega
   have c11:¬t2=t2+1:=by omega
   have i2:=k2.le
   generalize hHB:(((h2.set t2 (.cells [.bool false,.nilslice] 114 true)).set (t2+1) (.cells [.bool false,.nilslice] 114 true)).set t2 (.cells [.bool (decide (b.num<0)),u2] 114 true)).set (t2+1) (.cells [.bool (decide ((b.den:Int)<0)),v2] 114 true)=HB at*
   have gB1:HB.get t2=some (.cells [.bool (decide (b.num<0)),u2] 114 true):=by rw[←hHB];simp[c1,c11]
   have gB2:HB.get (t2+1)=some (.cells [.bool (decide ((b.den:Int)<0)),v2] 114 true):=by rw[←hHB];simp
   have gB3:=(KB.get t1 (by omega)).trans ((k2.get t1 (by omega)).trans gA1)
   have gB4:=(KB.get (t1+1) (by omega)).trans ((k2.get (t1+1) (by omega)).trans gA2)
   have X1:=(X1.keep k2).keep KB
   have Y1:=(Y1.keep k2).keep KB
   have X2:=X2.keep KB
   have Y2:=Y2.keep KB
   have K2:Keeps h N HB (t2+1+1):=((k1.trans KA).trans k2).trans KB
   have j1:t1<t2+1+1:=by omega
   have j2:t1+1<t2+1+1:=by omega
   have j3:t2<t2+1+1:=by omega
   simp[p5,p6,p7,p8,Zak,splice,c1,hHB,gB1,gB2,gB3,gB4,Zal,slc]
   refine Zaf (Zjk X1 X2 (by omega) (by omega)) ?_
   rintro _ h3 t3 k3 X3
   have i3:=k3.le
   have gC2:=(k3.get (t2+1) (by omega)).trans gB2
   have gC4:=(k3.get (t1+1) (by omega)).trans gB4
   simp[gC2,gC4,Zal,slc]
   refine Zaf (Zjk (Y1.keep k3) (Y2.keep k3) (by rw[Ytc];omega) (by rw[Ytc];omega)) ?_
   rintro _ h4 t4 k4 X4
   have m1:=Zj5 (Zdp ha.1 hb.1)
   have m2:=Zj5 (Zdp (a:=(a.den:Int)) (b:=(b.den:Int)) (j:=j) (k:=k) (by rw[Ytc];exact ha.2) (by rw[Ytc];exact hb.2))
   simp[]
   refine Zaf (Znp (X3.keep k4) X4 (Yww (by omega) (by omega)) (by omega) (by omega)) ?_
   rintro _ h5 t5 k5 rfl
   have j4:t2+1<t3:=by omega
   have j5:t1+1<t3:=by omega
   rw[←Zo7]
   have i1:=k1.le
   simp[-Zac,Zan.chk,j1,j2,j3,j4,j5,Ret]
   exact⟨Zng (by simp;omega),((K2.trans k3).trans k4).trans k5⟩
set_option maxHeartbeats 2000000
noncomputable def A.b98:=A.q Tryz.f98
def A.k98:=@A.kk 98 63 [.tmp 4] A.b98 (by kernel_rfl) rfl
def Ymx{a b:Rat}{j k:Nat}{h:T O}{N:Nat}(ha:Qb j a)(hb:Qb k b)(hj:j≤400000000)(hk:k≤400000000):Fn A.C 98 [.str (Zaz a),.str (Zaz b)] h N (fun u _ _=>u=.str (Zaz (a+b))):=by
 intro w
 obtain⟨n1,d1,o1,hq1,f1⟩:=Zl8 a
 obtain⟨n2,d2,o2,hq2,f2⟩:=Zl8 b
 have pa:=Rat.den_pos a
 have pb:=Rat.den_pos b
 rw[Zae,A.k98 (by simp)]
 have key:(o1=true∧o2=true)∨(o1=false∨(o1=true∧o2=false)):=by cases o1<;>cases o2<;>simp
 rcases key with⟨rfl,rfl⟩|key
 ·obtain⟨rfl,rfl,g1⟩:=f1 rfl
  obtain⟨rfl,rfl,g2⟩:=f2 rfl
  have m1:(a.num*(b.den:Int)).natAbs≤1000000000000000000:=by rw[Yvg,Ytc];exact Znr g1.1 g2.2
  have m4:(b.num*(a.den:Int)).natAbs≤1000000000000000000:=by rw[Yvg,Ytc];exact Znr g2.1 g1.2
  have m2:a.den*b.den≤1000000000000000000:=Znr g1.2 g2.2
  have m3:0<a.den*b.den:=Ywh pa pb
  have e2:(a.den:Int)*(b.den:Int)=((a.den*b.den:Nat):Int):=by simp
  have w1:Zaq .i64 (a.num*(b.den:Int))=a.num*(b.den:Int):=Zaj (by omega) (by omega)
  have w3:Zaq .i64 (b.num*(a.den:Int))=b.num*(a.den:Int):=Zaj (by omega) (by omega)
  have w2:Zaq .i64 ((a.den:Int)*(b.den:Int))=(a.den:Int)*(b.den:Int):=by rw[e2];exact Zaj (by omega) (by omega)
  have w4:Zaq .i64 (a.num*(b.den:Int)+b.num*(a.den:Int))=a.num*(b.den:Int)+b.num*(a.den:Int):=Zaj (by omega) (by omega)
  have ho:=fun st=>Yn4 (p:=a.num*(b.den:Int)+b.num*(a.den:Int)) (q:=(a.den:Int)*(b.den:Int)) (st:=st) (by omega) (by omega) (by omega) (by omega) (by omega)
  rw[←Zpn]at ho
  simp[A.b98,hq1,hq2,w1,w2,w3,w4,ho,Ret]
  exact Keeps.refl
 ·have la:=Zny ha.1
  have la2:=Zhe ha.2
  have lb:=Zny hb.1
  have lb2:=Zhe hb.2
  have z1:=Zj5 ha.1
  have z2:=Zj5 hb.1
  have z3:=Zj5 ha.2
  have z4:=Zj5 hb.2
  rcases key with rfl|⟨rfl,rfl⟩
  all_goals simp[A.b98,hq1,hq2]
  all_goals
   refine Zaf (Zjq (q:=a) (by omega) (by omega)) ?_
   rintro _ h1 t1 k1 ⟨x1,y1,rfl,X1,Y1⟩
   obtain⟨u1,rfl,p1,p2,F1⟩:=X1.ones
   obtain⟨v1,rfl,p3,p4,G1⟩:=Y1.ones
   unfold V.one at p1 p3
   unfold V.cells at p2 p4
   have KA:=((((Keeps.refl (h:=h1) (n:=t1)).new (.cells [.bool false,.nilslice] 114 true)).new (.cells [.bool false,.nilslice] 114 true)).set (i:=t1) (o:=.cells [.bool (decide (a.num<0)),u1] 114 true) (Ys6 _)).set (i:=t1+1) (o:=.cells [.bool (decide ((a.den:Int)<0)),v1] 114 true) (by omega)
   have c0:¬t1+1=t1:=by omega
   have c00:¬t1=t1+1:=by omega
   simp[p1,p2,p3,p4,Zak,splice,c0]
   generalize hHA:(((h1.set t1 (.cells [.bool false,.nilslice] 114 true)).set (t1+1) (.cells [.bool false,.nilslice] 114 true)).set t1 (.cells [.bool (decide (a.num<0)),u1] 114 true)).set (t1+1) (.cells [.bool (decide ((a.den:Int)<0)),v1] 114 true)=HA at*
   have gA1:HA.get t1=some (.cells [.bool (decide (a.num<0)),u1] 114 true):=by rw[←hHA];simp[c0,c00]
   have gA2:HA.get (t1+1)=some (.cells [.bool (decide ((a.den:Int)<0)),v1] 114 true):=by rw[←hHA];simp
   have X1:=X1.keep KA
   have Y1:=Y1.keep KA
   clear hHA
   refine Zaf (Zjq (q:=b) (by omega) (by omega)) ?_
   rintro _ h2 t2 k2 ⟨x2,y2,rfl,X2,Y2⟩
   obtain⟨u2,rfl,p5,p6,F2⟩:=X2.ones
   obtain⟨v2,rfl,p7,p8,G2⟩:=Y2.ones
   unfold V.one at p5 p7
   unfold V.cells at p6 p8
   have KB:=((((Keeps.refl (h:=h2) (n:=t2)).new (.cells [.bool false,.nilslice] 114 true)).new (.cells [.bool false,.nilslice] 114 true)).set (i:=t2) (o:=.cells [.bool (decide (b.num<0)),u2] 114 true) (Ys6 _)).set (i:=t2+1) (o:=.cells [.bool (decide ((b.den:Int)<0)),v2] 114 true) (by omega)
   have c1:¬t2+1=t2:=by omega
   have c11:¬t2=t2+1:=by omega
   have i2:=k2.le
   generalize hHB:(((h2.set t2 (.cells [.bool false,.nilslice] 114 true)).set (t2+1) (.cells [.bool false,.nilslice] 114 true)).set t2 (.cells [.bool (decide (b.num<0)),u2] 114 true)).set (t2+1) (.cells [.bool (decide ((b.den:Int)<0)),v2] 114 true)=HB at*
   have gB1:HB.get t2=some (.cells [.bool (decide (b.num<0)),u2] 114 true):=by rw[←hHB];simp[c1,c11]
   have gB2:HB.get (t2+1)=some (.cells [.bool (decide ((b.den:Int)<0)),v2] 114 true):=by rw[←hHB];simp
   have gB3:=(KB.get t1 (by omega)).trans ((k2.get t1 (by omega)).trans gA1)
   have gB4:=(KB.get (t1+1) (by omega)).trans ((k2.get (t1+1) (by omega)).trans gA2)
   have X1:=(X1.keep k2).keep KB
   have Y1:=(Y1.keep k2).keep KB
   have X2:=X2.keep KB
   have Y2:=Y2.keep KB
   have K2:Keeps h N HB (t2+1+1):=((k1.trans KA).trans k2).trans KB
   have j1:t1<t2+1+1:=by omega
   have j2:t1+1<t2+1+1:=by omega
   have j3:t2<t2+1+1:=by omega
   simp[p5,p6,p7,p8,Zak,splice,c1,hHB,gB1,gB2,gB3,gB4,Zal,slc]
   refine Zaf (Zjk X1 Y2 (by omega) (by rw[Ytc];omega)) ?_
   rintro _ h3 t3 k3 X3
   have i3:=k3.le
   have gC1:=(k3.get t2 (by omega)).trans gB1
   have gC2:=(k3.get (t2+1) (by omega)).trans gB2
   have gC4:=(k3.get (t1+1) (by omega)).trans gB4
   simp[gC1,gC4,Zal,slc]
   refine Zaf (Zjk (X2.keep k3) (Y1.keep k3) (by omega) (by rw[Ytc];omega)) ?_
   rintro _ h4 t4 k4 X4
   have i4:=k4.le
   have b1:=Zdp (b:=(b.den:Int)) (k:=k) ha.1 (by rw[Ytc];exact hb.2)
   have b2:=Zdp (b:=(a.den:Int)) (k:=j) hb.1 (by rw[Ytc];exact ha.2)
   rw[Nat.add_comm k j]at b2
   have m1:=Zj5 b1
   have m2:=Zj5 b2
   have m3:=Zj5 (Zqb b1 b2)
   have m4:=Zj5 (Zdp (a:=(a.den:Int)) (b:=(b.den:Int)) (j:=j) (k:=k) (by rw[Ytc];exact ha.2) (by rw[Ytc];exact hb.2))
   simp[]
   refine Zaf (Ykv (X3.keep k4) X4 (by omega) (by omega)) ?_
   rintro _ h5 t5 k5 X5
   have i5:=k5.le
   have gD2:=(k5.get (t2+1) (by omega)).trans ((k4.get (t2+1) (by omega)).trans gC2)
   have gD4:=(k5.get (t1+1) (by omega)).trans ((k4.get (t1+1) (by omega)).trans gC4)
   simp[gD2,gD4,Zal,slc]
   refine Zaf (Zjk (((Y1.keep k3).keep k4).keep k5) (((Y2.keep k3).keep k4).keep k5) (by rw[Ytc];omega) (by rw[Ytc];omega)) ?_
   rintro _ h6 t6 k6 X6
   simp[]
   refine Zaf (Znp (X5.keep k6) X6 (Yww (by omega) (by omega)) (by omega) (by omega)) ?_
   rintro _ h7 t7 k7 rfl
   have j4:t2+1<t3:=by omega
   have j5:t1+1<t3:=by omega
   have j6:t2<t3:=by omega
   have j7:t2+1<t5:=by omega
   have j8:t1+1<t5:=by omega
   rw[←Zpn]
   have i1:=k1.le
   simp[-Zac,Zan.chk,j1,j2,j3,j4,j5,j6,j7,j8,Ret]
   exact⟨Zng (by simp;omega),((((K2.trans k3).trans k4).trans k5).trans k6).trans k7⟩
noncomputable def A.b100:=A.q Tryz.f100
def A.k100:=@A.kk 100 13 [.tmp 2] A.b100 (by kernel_rfl) rfl
noncomputable def A.b99:=A.q Tryz.f99
def A.k99:=@A.kk 99 14 [.tmp 2] A.b99 (by kernel_rfl) rfl
noncomputable def A.b52:=A.q Tryz.f52
def A.k52:=@A.kk 52 5 [.tmp 2] A.b52 (by kernel_rfl) rfl
def Yj3:Zaz 0=[48]:=by decide+kernel
def Yai{q:Rat}:Zaz q=[48]↔q=0:=⟨fun h=>Zvo (h.trans Yj3.symm),fun h=>by rw[h,Yj3]⟩
def Yc6{q:Rat}{st:St}:A.C.call (.func 52 [] []) [.str (Zaz q)] st=some (.bool (decide (q=0)),st):=by
 have e:(Zaz q==[48])=decide (q=0):=by rw[Bool.eq_iff_iff,beq_iff_eq,decide_eq_true_eq];exact Yai
 apply Call.eq
 rw[Zae,A.k52 (by simp)]
 simp[A.b52,Zad,Zbe,e]
def Ypj{q:Rat}:q.num=0↔q=0:=Rat.num_eq_zero
def Yj2(q:Rat):0<(Zaz q).length:=by
 obtain⟨c,t,h,_⟩:=Zvi q
 rw[Zh9,h]
 split<;>simp
def Ye4(q:Rat):∃c,(Zaz q)[0]?=some c∧(Zaz q).head?=some c∧(u8I c=45↔q.num<0):=by
 obtain⟨c,t,h,h1⟩:=Zvi q
 by_cases hz:q.num<0
 ·refine⟨45,?_,?_,?_⟩
  ·rw[Zh9,Ys8 hz];rfl
  ·rw[Zh9,Ys8 hz];rfl
  ·exact⟨fun _=>hz,fun _=>rfl⟩
 ·refine⟨c,?_,?_,?_⟩
  ·rw[Zh9,Ys5 hz,h];rfl
  ·rw[Zh9,Ys5 hz,h];rfl
  ·exact⟨fun h2=>by unfold u8I at h2;omega,fun h2=>absurd h2 hz⟩
def Zvw{q:Rat}{st:St}:A.C.call (.func 100 [] []) [.str (Zaz q)] st=some (.int .i64 (sg3 q.num),st):=by
 have e:(Zaz q==[48])=decide (q=0):=by rw[Bool.eq_iff_iff,beq_iff_eq,decide_eq_true_eq];exact Yai
 obtain⟨c,h1,h2,h3⟩:=Ye4 q
 have hp:=Yj2 q
 have hp':(0:Int)<((Zaz q).length:Int):=by omega
 have hne:Zaz q≠[]:=fun hc=>by rw[hc]at hp;simp at hp
 apply Call.eq
 rw[Zae,A.k100 (by simp)]
 by_cases h0:q=0
 ·have hn:q.num=0:=Ypj.2 h0
  have hs:sg3 q.num=0:=by rw[hn];rfl
  have e0:(Zaz q==[48])=true:=by rw[e];simp[h0]
  rw[hs]
  simp(disch:=first|(simp;done)|omega|rfl) [-getElem?_pos,A.b100,Zad,Zbe,e0]
 ·have hn:q.num≠0:=fun hc=>h0 (Ypj.1 hc)
  by_cases hz:q.num<0
  ·have hs:sg3 q.num= -1:=by unfold sg3;rw[Ys8 hz]
   have hc:=h3.2 hz
   rw[hs]
   simp(disch:=first|(simp;done)|omega|rfl) [-getElem?_pos,A.b100,Zad,Zbe,e,h0,hp,hp',hne,h1,h2,hc]
  ·have hs:sg3 q.num=1:=by unfold sg3;rw[Ys5 hz,Ys5 hn]
   have hc:¬u8I c=45:=fun hc=>hz (h3.1 hc)
   rw[hs]
   simp(disch:=first|(simp;done)|omega|rfl) [-getElem?_pos,A.b100,Zad,Zbe,e,h0,hp,hp',hne,h1,h2,hc]
def Yo9(q:Rat):QB (-q)=QB q:=by
 unfold QB
 rw[Rat.neg_den,Rat.neg_num,Yv0]
def Yk5{q:Rat}{st:St}(hl:(Zaz q).length<1000000000):A.C.call (.func 99 [] []) [.str (Zaz q)] st=some (.str (Zaz (-q)),st):=by
 have hs:=fun st=>Zvw (q:=q) (st:=st)
 have hmx:IntKind.max .i64=9223372036854775807:=rfl
 apply Call.eq
 rw[Zae,A.k99 (by simp)]
 have hn2:=Zh9 (-q)
 rw[Yo9,Rat.neg_num]at hn2
 by_cases hz:q.num<0
 ·have e1:Zaz q=45::QB q:=by rw[Zh9,Ys8 hz]
  have e2:Zaz (-q)=QB q:=by rw[hn2,Ys5 (by omega)]
  have e3:sg3 q.num= -1:=by unfold sg3;rw[Ys8 hz]
  rw[e1,e3]at hs
  have a3:∀st:St,Zdk st (some (.str (45::QB q))) (some (some (.int .i64 1))) (some none)=some (.str (QB q),st):=fun st=>by rw[Zfe (by omega) (by simp only[Ys4];omega)];rfl
  rw[e1,e2]
  simp[A.b99,hs,evOpt,a3]
 ·by_cases h0:q=0
  ·have e3:sg3 q.num=0:=by rw[Ypj.2 h0];rfl
   rw[e3]at hs
   have e4: -q=q:=by rw[h0];rfl
   rw[e4]
   simp[A.b99,hs,Zad]
  ·have hn:q.num≠0:=fun hc=>h0 (Ypj.1 hc)
   have e1:Zaz q=QB q:=by rw[Zh9,Ys5 hz]
   have e2:Zaz (-q)=45::QB q:=by rw[hn2,Ys8 (by omega)]
   have e3:sg3 q.num=1:=by unfold sg3;rw[Ys5 hz,Ys5 hn]
   rw[e3]at hs
   rw[e1]at hs hl
   have hb:¬(9223372036854775807:Int)<1+((QB q).length:Int):=by omega
   rw[e2,e1]
   simp[A.b99,hs,Zad,Zbe,hmx,hb]
noncomputable def A.b50:=A.q Tryz.f50
def A.k50:=@A.kk 50 9 [.tmp 4] A.b50 (by kernel_rfl) rfl
noncomputable def A.b51:=A.q Tryz.f51
def A.k51:=@A.kk 51 9 [.tmp 4] A.b51 (by kernel_rfl) rfl
def Zl6{a b:Rat}{j k:Nat}{h:T O}{N:Nat}(ha:Qb j a)(hb:Qb k b)(hj:j≤400000000)(hk:k≤400000000)(hl:(Zaz b).length<1000000000):Fn A.C 50 [.str (Zaz a),.str (Zaz b)] h N (fun u _ _=>u=.str (Zaz (a-b))):=by
 intro w
 have hn:=fun st=>Yk5 (q:=b) (st:=st) hl
 rw[Zae,A.k50 (by simp)]
 simp(disch:=first|(simp;done)|omega|rfl) [-getElem?_pos,A.b50,hn]
 refine Zaf (Ymx (a:=a) (b:= -b) ha hb.neg hj hk) ?_
 rintro _ H1 n1 k1 rfl
 rw[←Rat.sub_eq_add_neg]
 simp(disch:=first|(simp;done)|omega|rfl) [-getElem?_pos,Ret]
 exact k1
def Zv1{a b:Rat}{j k:Nat}{h:T O}{N:Nat}(ha:Qb j a)(hb:Qb k b)(hj:j≤400000000)(hk:k≤400000000)(hl:(Zaz b).length<1000000000):Fn A.C 51 [.str (Zaz a),.str (Zaz b)] h N (fun u _ _=>u=.int .i64 (sg3 (a-b).num)):=by
 intro w
 rw[Zae,A.k51 (by simp)]
 simp(disch:=first|(simp;done)|omega|rfl) [-getElem?_pos,A.b51]
 refine Zaf (Zl6 ha hb hj hk hl) ?_
 rintro _ H1 n1 k1 rfl
 have hs:=fun st=>Zvw (q:=a-b) (st:=st)
 simp(disch:=first|(simp;done)|omega|rfl) [-getElem?_pos,hs,Ret]
 exact k1
noncomputable def A.w53:=A.q Tryz.f53
noncomputable def A.lb53_0:=A.ql A.w53 0 []
noncomputable def A.b53:=(fun x0=>A.qb A.w53 [x0]) A.lb53_0
def A.k53:=@A.kk 53 56 [.tmp 2] A.b53 (by kernel_rfl) rfl
def Zcp{s:Str}{st:St}:A.C.call (.func 53 [] []) [.str s] st=some (.bool (Zgr s),st):=by
 apply Call.eq
 rw[Zae,A.k53 (by simp)]
 unfold Zgr
 by_cases h1:s.length<1
 ·have:s=[]:=Ytl (by omega)
  subst this
  simp[A.b53]
 ·have hne:s≠[]:=fun h=>by rw[h]at h1;simp at h1
  have h1':¬((s.length:Int)<1):=by omega
  by_cases h2:s.length≤24
  ·have h2':¬(24<(s.length:Int)):=by omega
   simp[A.b53,h1',h2',hne,h2]
   refine Zah [(2,5),(14,55)] (fun e r s1=>s1=⟨st.h,st.n,[]⟩∧((e=.exit 0∧Zir 0 s=true)∨(e=.ret∧Zir 0 s=false∧r.get 2=some (.bool false)))) (fun m r s1=>s1=⟨st.h,st.n,[]⟩∧∃k,m=s.length-k∧k≤s.length∧r.get 3=some (.int .i64 k)∧Zir 0 s=Zir k (s.drop k)) s.length ?_ ?_ ?_
   ·exact⟨rfl,0,by omega,by omega,by simp,by simp⟩
   ·rintro m r _ hr hf ⟨rfl,k,rfl,hk,h3,hz⟩
    rw[Zai]
    by_cases hlt:k<s.length
    ·obtain⟨c,hc⟩:=Zag hlt
     rw[Zap hc,Zir]at hz
     simp only[Yk7,Yi3,Zsn,Ynh]at hz
     have hk1:(k:Int)<(s.length:Int):=by omega
     by_cases hk0:k=0
     ·have e0:=eq_true hk0
      obtain hx|hx|hx|hx|hx:u8I c<65∨(65≤u8I c∧u8I c≤90)∨(90<u8I c∧u8I c<97)∨(97≤u8I c∧u8I c≤122)∨122<u8I c:=by omega
      all_goals
       first|(have a0:97≤u8I c:=by omega)|(have a0:¬(97≤u8I c):=by omega)
       first|(have a1:u8I c≤122:=by omega)|(have a1:¬(u8I c≤122):=by omega)
       first|(have a2:65≤u8I c:=by omega)|(have a2:¬(65≤u8I c):=by omega)
       first|(have a3:u8I c≤90:=by omega)|(have a3:¬(u8I c≤90):=by omega)
       simp(disch:=first|(simp;done)|omega|rfl) [-getElem?_pos,A.lb53_0,hr,h3,hf,hc,hk1,e0,Zad,a0,a1,a2,a3]
       simp[Zwp,a0,a1,a2,a3,e0]at hz
       first|exact hz|exact⟨_,by omega,k+1,rfl,by omega,rfl,hz⟩
     ·obtain hx|hx|hx|hx|hx|hx|hx|hx|hx:u8I c<48∨(48≤u8I c∧u8I c≤57)∨(57<u8I c∧u8I c<65)∨(65≤u8I c∧u8I c≤90)∨(90<u8I c∧u8I c<95)∨u8I c=95∨u8I c=96∨(97≤u8I c∧u8I c≤122)∨122<u8I c:=by omega
      all_goals
       first|(have a0:97≤u8I c:=by omega)|(have a0:¬(97≤u8I c):=by omega)
       first|(have a1:u8I c≤122:=by omega)|(have a1:¬(u8I c≤122):=by omega)
       first|(have a2:65≤u8I c:=by omega)|(have a2:¬(65≤u8I c):=by omega)
       first|(have a3:u8I c≤90:=by omega)|(have a3:¬(u8I c≤90):=by omega)
       first|(have a4:48≤u8I c:=by omega)|(have a4:¬(48≤u8I c):=by omega)
       first|(have a5:u8I c≤57:=by omega)|(have a5:¬(u8I c≤57):=by omega)
       first|(have a6:u8I c=95:=by omega)|(have a6:¬(u8I c=95):=by omega)
       simp(disch:=first|(simp;done)|omega|rfl) [-getElem?_pos,A.lb53_0,hr,h3,hf,hc,hk1,hk0,Zad,a0,a1,a2,a3,a4,a5,a6]
       simp[Zwp,a0,a1,a2,a3,a4,a5,a6,hk0]at hz
       first|exact hz|exact⟨_,by omega,k+1,rfl,by omega,rfl,hz⟩
    ·have:s.drop k=[]:=Yui (by omega)
     rw[this,Zir]at hz
     have:k=s.length:=by omega
     subst this
     simp(disch:=first|(simp;done)|omega|rfl) [-getElem?_pos,A.lb53_0,hr,h3,hf,hz]
   ·rintro e r _ hr ⟨rfl,⟨rfl,hz⟩|⟨rfl,hz,h2⟩⟩
    ·simp[hz]
    ·simp[hz,h2]
  ·have h2':24<(s.length:Int):=by omega
   simp[A.b53,h1',h2',h2]
end Go.Mx
