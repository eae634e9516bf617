/-lensletref01-/
import Derived.Test.YtkfkpkejgchcpaaGreatDoorOuL
set_option linter.all false
namespace Go.Mx
open Go Go.Proofs
set_option maxRecDepth 1000000
def A.lb200_0:Zah:=.seq (sr [mv 3 0,ln 4 3,bc 5 .gtr 4 0,mv 6 5,mg 7 0 6,mg 8 0 6,gy 9 6 (.len 1 (tq 8)),gy 10 6 (.bin .sub (.node []) false (tq 9) (kq 1)),gy 11 6 (.iaddrSl 1 (tq 7) (tq 10)),gy 12 6 (.load none (tq 11)),gy 13 6 (.bin .eql (.prim .int) true (tq 12) (kq 0)),pf 14 6 13]
 (cd 14
 (.skip)
 (.exit 0)))
 (.block 1 (.reg [mv 15 0,mv 16 0,ln 17 16,bc 18 .sub 17 1,ge 19 (.sliceSl 1 (tq 15) none (some (tq 18)) none),mv 0 19]))
def A.b200:Zah:=sr [mN 2]
 (.seq (.block 0 (.loop A.lb200_0))
 (sr [mv 20 0,mv 2 20]
 (.ret)))
def A.k200:=@A.kk 200 21 [.tmp 2] A.b200 (by kernel_rfl) rfl
def A.b197:Zah:=sr [ge 4 (.alloc [.bool false,.nilslice] 176)]
 (sr [mv 5 1,c1 6 200 5,mv 1 6]
 (sr [mv 7 0,mv 8 7,mg 9 1 8,gy 10 8 (.len 1 (tq 9)),gy 11 8 (.bin .gtr (.node []) false (tq 10) (kq 0)),pf 12 8 11,mv 13 1,ge 14 (.build [.bool false,.nilslice] [(0,1,(tq 12)),(1,1,(tq 13))]),gn (.store 2 (tq 4) (tq 14))]
 (.ret)))
def A.k197:=@A.kk 197 15 [.cell 4 (some 2)] A.b197 (by kernel_rfl) rfl
def A.lb198_0:Zah:=.seq (sr [mv 19 5,bc 20 .geq 19 0]
 (cd 20
 (.skip)
 (.exit 0)))
 (.seq (.block 1 (.seq (.seq (.regD [mv 23 0,mv 24 5,ia 25 1 23 24,ld 26 25,mv 27 1,mv 28 5,ia 29 1 27 28,ld 30 29,bi 31 .lss 26 30] [0,0,3,7,0,0,48,112,255])
 (cd 31
 (sr [ge 4 (.mov (.const (.int .i64 (-1))))]
 (.ret))
 (.skip)))
 (.seq (.regD [mv 32 0,mv 33 5,ia 34 1 32 33,ld 35 34,mv 36 1,mv 37 5,ia 38 1 36 37,ld 39 38,bi 40 .gtr 35 39] [0,0,3,7,0,0,48,112,255])
 (cd 40
 (sr [mc 4 1]
 (.ret))
 (.skip)))))
 (.reg [mv 21 5,bc 22 .sub 21 1,mv 5 22]))
def A.b198:Zah:=sr [mc 4 0]
 (.seq (sr [mv 6 0,ln 7 6,mv 8 1,ln 9 8,ge 10 (.bin .neq (.prim .int) false (tq 7) (tq 9))]
 (cd 10
 (.seq (sr [mv 11 0,ln 12 11,mv 13 1,ln 14 13,bi 15 .lss 12 14]
 (cd 15
 (sr [ge 4 (.mov (.const (.int .i64 (-1))))]
 (.ret))
 (.skip)))
 (sr [mc 4 1]
 (.ret)))
 (.skip)))
 (.seq (sr [mv 16 0,ln 17 16,bc 18 .sub 17 1,mv 5 18]
 (.block 0 (.loop A.lb198_0)))
 (sr [mc 4 0]
 (.ret))))
def A.k198:=@A.kk 198 41 [.tmp 4] A.b198 (by kernel_rfl) rfl
def A.lb199_0:Zah:=.seq (sr [mv 16 8,bc 17 .geq 16 0]
 (cd 17
 (.skip)
 (.exit 0)))
 (.seq (.block 1 (sr [mv 20 7,bc 21 .mul 20 1000000000,mv 22 0,mv 23 8,ia 24 1 22 23,ld 25 24,bi 26 .add 21 25,mv 9 26]
 (sr [mv 27 6,mv 28 8,mv 29 9,mv 30 1,bi 31 .quo 29 30,ia 32 1 27 28,so 32 31]
 (.reg [mv 33 9,mv 34 1,bi 35 .rem 33 34,mv 7 35]))))
 (.reg [mv 18 8,bc 19 .sub 18 1,mv 8 19]))
def A.b199:Zah:=sr [mN 4,mc 5 0]
 (sr [mv 10 0,ln 11 10,ge 12 (.mkslice 3 1 8 [.int .i64 0] (tq 11) (tq 11)),mv 6 12]
 (sr [mc 7 0]
 (.seq (sr [mv 13 0,ln 14 13,bc 15 .sub 14 1,mv 8 15]
 (.block 0 (.loop A.lb199_0)))
 (sr [mv 36 6,c1 37 200 36,mv 38 7,mv 4 37,mv 5 38]
 (.ret)))))
def A.k199:=@A.kk 199 39 [.tmp 4,.tmp 5] A.b199 (by kernel_rfl) rfl
def Zf0{h:T O}{N:Nat}{v:V}{l:List Int}(hs:Sl h N v (dI l))(hl:l.length<1152921504606846976):Fn A.C 200 [v] h N (fun v' h' N'=>Sl h' N' v' (dI (Zfy l))):=by
 intro w
 rw[Zac,A.k200 (by simp)]
 simp[A.b200]
 refine Zai [(0,0),(3,19)] (fun e r st=>e=.exit 0∧st=⟨h,N,[]⟩∧∃u,r.get 0=some u∧Sl h N u (dI (Zfy l))) (fun m r st=>st=⟨h,N,[]⟩∧m≤l.length∧∃u,r.get 0=some u∧Sl h N u (dI (l.take m))∧Zfy (l.take m)=Zfy l) l.length ?_ ?_ ?_
 ·exact⟨rfl,Yr4 _,v,rfl,by rw[Ytr];exact hs,by rw[Ytr]⟩
 ·rintro m r _ hr hf ⟨rfl,hm,u,h0,hu,ht⟩
  rw[Zaj]
  have lu:=hu.len
  rw[Zat,Ysi,Ytf hm]at lu
  cases m with
  |zero=>
   simp[A.lb200_0,hr,hf,h0,lu]
   rw[←ht];exact hu
  |succ k=>
   obtain⟨d,hd⟩:=Zag (l:=l) (k:=k) (by omega)
   have hd':(l.take (k+1))[k]?=some d:=by rw[Yso,Yr6 (by omega)];exact hd
   obtain⟨i,o,c,e,rw,q1,q2,q3,q4⟩:=hu.at (Zbe hd')
   have e1:l.take (k+1)=l.take k++[d]:=by rw[Yta,hd];rfl
   have k1:(0:Int)<(k:Int)+1:=by omega
   have k2:(k:Int)<(k:Int)+1:=by omega
   have k3:(k:Int)+1-1=(k:Int):=by omega
   by_cases hz:d=0
   ·subst hz
    rw[e1,Zki]at ht
    obtain⟨v',x1,x2⟩:=Zjg (w:=[]) hu (lo:=0) (hi:=k) (Yuv _) (by rw[Zat,Ysi];omega) none (some (.int .i64 k)) (.inr ⟨rfl,rfl⟩) (.inl rfl)
    have x3:((dI (l.take (k+1))).take k).drop 0=dI (l.take k):=by
     rw[Yuj,dI,←List.map_take,List.take_take,Ytf (by omega)];rfl
    rw[x3]at x2
    simp(disch:=first|(simp;done)|omega|rfl) [A.lb200_0,hr,hf,h0,lu,k1,k2,k3,q1,q3,q4,Zae,Zcj,evOpt,x1]
    exact⟨k,by omega,by omega,x2,ht⟩
   ·rw[e1,Zoa hz,←e1]at ht
    simp(disch:=first|(simp;done)|omega|rfl) [A.lb200_0,hr,hf,h0,lu,k1,k2,k3,q1,q3,q4,Zae,hz]
    rw[←ht];exact hu
 ·rintro _ r _ hr ⟨rfl,rfl,u,h0,hu⟩
  simp[hr,h0,Ret]
  exact⟨Keeps.refl,hu⟩
def Rg(h:T O)(N:Nat)(v:V)(z:Int):Prop:=∃u,v=.agg [.bool (decide (z<0)),u]∧Dn h N u z.natAbs
def Zbz{h:T O}{N:Nat}{v:V}{l:List Int}{b:Bool}{n:Nat}(hs:Sl h N v (dI l))(hd:Di l)(hn:vI l=n)(hl:l.length<1152921504606846976):Fn A.C 197 [.bool b,v] h N (fun v' h' N'=>Rg h' N' v' (if b=true then -(n:Int) else n)):=by
 intro w
 rw[Zac,A.k197 (by simp)]
 simp[A.b197]
 refine Zaf (Zf0 (hs.keep (Keeps.refl.new _)) hl) ?_
 rintro u h1 n1 k1 hu
 rw[Zfx hd hn]at hu
 have lu:=hu.len
 rw[Zat]at lu
 have kle:=k1.le
 have hrow:=k1.get N (by omega)
 simp at hrow
 have huo:=hu.form.one
 have huc:=hu.form.cells
 unfold V.one at huo
 unfold V.cells at huc
 have k0:=(Keeps.refl (h:=h) (n:=N)).new (.cells [.bool false,.nilslice] 176 true)
 have kx:=fun o=>((k0.trans k1).set (i:=N) (o:=o) (Yr4 N))
 have hu2:=fun c1 (hc:c1.length=2)=>hu.setInt (i:=N) (c1:=c1) (e1:=176) (w1:=true) hrow (by intro x hx k m;simp at hx;rcases hx with rfl|rfl<;>simp) hc
 cases b with
 |false=>
  simp[lu,splice,hrow,huo,huc,Zal,Zam,slc,Ret]
  refine⟨kx _,u,?_,?_⟩
  ·have:¬(n:Int)<0:=by omega
   simp
  ·exact hu2 _ rfl
 |true=>
  by_cases hz:n=0
  ·have hl0:(ds n).length=0:=by rw[hz,Zcn];rfl
   simp[lu,hl0,splice,hrow,huo,huc,Zal,Zam,slc,Ret]
   refine⟨kx _,u,?_,?_⟩
   ·simp[hz]
   ·simpa[hz,Dn]using hu2 _ rfl
  ·have hl0:¬(ds n).length=0:=fun hc=>hz (Zdr.1 (Ysh hc))
   have hl1:(0:Int)<((ds n).length:Int):=by omega
   have hl2:0<(ds n).length:=by omega
   have hl3:ds n≠[]:=fun hc=>hz (Zdr.1 hc)
   simp[lu,hl1,hl2,hl3,splice,hrow,huo,huc,Zal,Zam,slc,Ret]
   refine⟨kx _,u,?_,?_⟩
   ·have: -(n:Int)<0:=by omega
    simp[this];try omega
   ·simpa[Dn]using hu2 _ rfl
def Zcv:∀{b a:Nat},a≤b→(ds a).length≤(ds b).length:=by
 intro b
 induction b using Nat.strongRecOn with
 |_ b ih=>
  intro a h
  by_cases h0:a=0
  ·rw[h0,Zcn];simp
  ·rw[Zha h0,Zha (n:=b) (by omega)]
   have:=ih (b/1000000000) (Yu0 (by omega) (by decide)) (a:=a/1000000000) (Nat.div_le_div_right h)
   simp only[Yr2];omega
def Zzj{A:List Int}{k:Nat}{x:Int}(hx:A[k]?=some x):vI A=vI (A.take k)+pI k*(x+1000000000*vI (A.drop (k+1))):=by
 have hk:=Zaz hx
 rw[Zi3 A k (by omega),Zaq hx,vI]
def Yiq{A B:List Int}{k:Nat}{x y:Int}(hA:Di A)(hB:Di B)(hx:A[k]?=some x)(hy:B[k]?=some y)(he:A.drop (k+1)=B.drop (k+1))(hxy:x<y):vI A<vI B:=by
 have hk:=Zaz hx
 rw[Zzj hx,Zzj hy,he]
 have h1:=Zia (hA.take k)
 have h2:=Zh9 (hB.take k)
 rw[Ysi,Ytf (by omega)]at h1
 have h3:pI k*(x+1000000000*vI (B.drop (k+1))+1)≤pI k*(y+1000000000*vI (B.drop (k+1))):=Ysj (by omega) (Yt4 (Zjm k))
 have h4:pI k*(x+1000000000*vI (B.drop (k+1))+1)=pI k*(x+1000000000*vI (B.drop (k+1)))+pI k:=by grind
 omega
def Yd7(a b:Nat):Int:=if a<b then -1 else if b<a then 1 else 0
def Zue{h:T O}{N:Nat}{u v:V}{a b:Nat}{w:List Nat}(hu:Dn h N u a)(hv:Dn h N v b)(hl:(ds a).length<1152921504606846976)(hl2:(ds b).length<1152921504606846976):A.C.call (.func 198 [] []) [u,v] ⟨h,N,w⟩=some (.int .i64 (Yd7 a b),⟨h,N,w⟩):=by
 apply Call.eq
 have lu:=hu.len
 have lv:=hv.len
 rw[Zat]at lu lv
 have va:=Zbb a
 have vb:=Zbb b
 have da:=Zca a
 have db:=Zca b
 rw[Zac,A.k198 (by simp)]
 unfold Yd7
 by_cases h1:(ds a).length=(ds b).length
 ·have h1':((ds a).length:Int)=((ds b).length:Int):=by omega
  simp(disch:=omega) [A.b198,lu,lv,Zae,h1]
  generalize hA:ds a=X at*
  generalize hB:ds b=Y at*
  refine Zai [(4,5),(19,40)] (fun e r st=>st=⟨h,N,[]⟩∧((e=.exit 0∧a=b)∨(e=.ret∧a<b∧r.get 4=some (.int .i64 (-1)))∨(e=.ret∧b<a∧r.get 4=some (.int .i64 1)))) (fun m r st=>st=⟨h,N,[]⟩∧m≤X.length∧r.get 5=some (.int .i64 ((m:Int)-1))∧X.drop m=Y.drop m) X.length ?_ ?_ ?_
  ·exact⟨rfl,Yr4 _,by simp[h1],by rw[Yti,h1,Yti]⟩
  ·rintro m r _ hr hf ⟨rfl,hm,h5,he⟩
   rw[Zaj]
   cases m with
   |zero=>
    have:a=b:=by
     simp at he;rw[he]at va;omega
    simp[A.lb198_0,hr,hf,h5,this]
   |succ k=>
    obtain⟨x,hx⟩:=Zag (l:=X) (k:=k) (by omega)
    obtain⟨y,hy⟩:=Zag (l:=Y) (k:=k) (by omega)
    obtain⟨b1,b2,b3,b4,b5,z1,z2,z3,z4⟩:=Sl.at (show Sl h N u (dI (ds a)) from hu) (by rw[hA];exact Zbe hx)
    obtain⟨c1,c2,c3,c4,c5,y1,y2,y3,y4⟩:=Sl.at (show Sl h N v (dI (ds b)) from hv) (by rw[hB];exact Zbe hy)
    have hq1:(((k+1:Nat):Int)-1)=(k:Int):=by omega
    rw[hq1]at h5
    have hk1:(k:Int)<(X.length:Int):=by omega
    have hk2:(k:Int)<(Y.length:Int):=by omega
    have hk3:(0:Int)≤(k:Int):=by omega
    have hk4:k<Y.length:=by omega
    by_cases hlt:x<y
    ·have:=Yiq da db hx hy he hlt
     have hab:a<b:=by omega
     simp[A.lb198_0,hr,hf,h5,lu,lv,hk1,hk2,hk3,hk4,z1,z2,z3,z4,y1,y2,y3,y4,hlt,hab]
    ·by_cases hgt:y<x
     ·have:=Yiq db da hy hx he.symm hgt
      have hab:b<a:=by omega
      have hab2:¬a<b:=by omega
      simp[A.lb198_0,hr,hf,h5,lu,lv,hk1,hk2,hk3,hk4,z1,z2,z3,z4,y1,y2,y3,y4,hlt,hgt,hab,hab2]
     ·have hxy:x=y:=by omega
      simp(disch:=first|(simp;done)|omega|rfl) [A.lb198_0,hr,hf,h5,lu,lv,hk1,hk2,hk3,hk4,z1,z2,z3,z4,y1,y2,y3,y4,hlt,hgt]
      exact⟨k,by omega,by omega,rfl,by rw[Zaq hx,Zaq hy,he,hxy]⟩
  ·rintro e r _ hr ⟨rfl,⟨rfl,hz⟩|⟨rfl,hz,h4⟩|⟨rfl,hz,h4⟩⟩
   ·simp[hr,hz]
   ·simp[hr,h4,hz]
   ·have:¬a<b:=by omega
    simp[hr,h4,hz,this]
 ·have h1':¬((ds a).length:Int)=((ds b).length:Int):=by omega
  by_cases h2:(ds a).length<(ds b).length
  ·have hab:a<b:=by
    apply Ytc;intro hc;have:=Zcv hc;omega
   simp[A.b198,lu,lv,Zae,h1,h2,hab]
  ·have hab:b<a:=by
    apply Ytc;intro hc;have:=Zcv hc;omega
   have hab2:¬a<b:=by omega
   simp[A.b198,lu,lv,Zae,h1,h2,hab,hab2]
structure DdA (h:T O) (N:Nat) (l:List Int) (d:Int) (m:Nat) (r:T V) (st:St):Prop where
 w:Zad N st.w=[]
 keep:Keeps h N st.h (N+1)
 n:st.n=N+1
 r8:r.get 8=some (.int .i64 ((m:Int)-1))
 hm:m≤l.length
 ex:∃out rest,st.h.get N=some (.cells (dI out) 3 true)∧out.length=l.length∧r.get 7=some (.int .i64 rest)∧0≤rest∧rest<d∧Di (out.drop m)∧vI (out.drop m)*d+rest=vI (l.drop m)
def Znd{h:T O}{N:Nat}{v:V}{l:List Int}{d:Int}(hs:Sl h N v (dI l))(hd:Di l)(hl:l.length<1099511627776)(h0:0<d)(h1:d<1000000000):Fn A.C 199 [v,.int .i64 d] h N (fun u h' n'=>∃q,u=.tup [q,.int .i64 ((vI l).toNat%d.toNat:Nat)]∧Dn h' n' q ((vI l).toNat/d.toNat)):=by
 intro w
 have lv:=hs.len
 rw[Zat]at lv
 rw[Zac,A.k199 (by simp)]
 simp(disch:=first|(simp;done)|omega|rfl) [A.b199,lv]
 refine Zai [(7,9),(16,35)] (fun e r st=>e=.exit 0∧DdA h N l d 0 r st) (DdA h N l d) l.length ?_ ?_ ?_
 ·refine⟨by simp,Keeps.refl.new _,rfl,by simp,Yr4 _,List.replicate l.length 0,0,by simp[Zp7],by simp,by simp,by omega,h0,?_,?_⟩
  ·rw[Ytd (by simp)];exact Di.nil
  ·rw[Ytd (by simp),Yti];simp[vI]
 ·rintro m r ⟨H,n1,W⟩ hr hf ⟨hW,hK,hn,h8,hm,out,rest,hrow,hol,h7,hr0,hrd,hdi,hv⟩
  simp only at hW hK hn hrow
  subst hn
  rw[Zaj]
  cases m with
  |zero=>
   simp[A.lb199_0,hr,hf,h8]
   exact⟨hW,hK,rfl,by simpa using h8,hm,out,rest,hrow,hol,by simp[h7],hr0,hrd,hdi,hv⟩
  |succ k=>
   obtain⟨x,hx⟩:=Zag (l:=l) (k:=k) (by omega)
   obtain⟨b1,b2,b3,b4,b5,z1,z2,z3,z4⟩:=hs.at (Zbe hx)
   have z3:=(hK.get _ z2).trans z3
   have hxd:=hd.get hx
   have hq1:(((k+1:Nat):Int)-1)=(k:Int):=by omega
   rw[hq1]at h8
   have hk1:(k:Int)<(l.length:Int):=by omega
   have hk2:k<l.length:=by omega
   have hk3:(0:Int)≤(k:Int):=by omega
   have w1:Zap .i64 (rest*1000000000)=rest*1000000000:=Zak (by omega) (by omega)
   have w2:Zap .i64 (rest*1000000000+x)=rest*1000000000+x:=Zak (by omega) (by omega)
   have s0:0≤rest*1000000000+x:=by omega
   have hd0:¬d=0:=by omega
   have t1:(rest*1000000000+x).tdiv d=(rest*1000000000+x)/d:=Ytk s0
   have t2:(rest*1000000000+x).tmod d=(rest*1000000000+x)%d:=Ytx s0
   have t3:=Yui (rest*1000000000+x) d
   have t4:0≤(rest*1000000000+x)/d:=Int.ediv_nonneg s0 (by omega)
   have t5:(rest*1000000000+x)/d<1000000000:=by
    apply Int.ediv_lt_of_lt_mul h0
    omega
   have t6:=Yu8 (rest*1000000000+x) hd0
   have t7:=Yus (rest*1000000000+x) h0
   have w3:Zap .i64 ((rest*1000000000+x)/d)=(rest*1000000000+x)/d:=Zak (by omega) (by omega)
   have w8:=Zat out
   have w7:=Zh5 (l:=out) (k:=k) (v:=(rest*1000000000+x)/d) (by omega)
   simp(disch:=first|(simp;done)|omega|rfl) [A.lb199_0,hr,hf,h8,h7,hk1,hk2,hk3,lv,z1,z3,z4,w1,w2,w3,hd0,t1,t2,hrow,w7]
   have e1:(out.set k ((rest*1000000000+x)/d)).drop k=((rest*1000000000+x)/d)::out.drop (k+1):=by
    rw[Zaq (d:=(rest*1000000000+x)/d) (by rw[Ys7 (by omega)])]
    rw[List.drop_set_of_lt (by omega)]
   generalize (rest*1000000000+x)/d=q at*
   generalize (rest*1000000000+x)%d=r' at*
   refine⟨k,by omega,⟨by simp[Zad,hW],hK.set (Yr4 N),rfl,by simp,by omega,out.set k q,r',by simp,by simp[hol],by simp,t6,t7,?_,?_⟩⟩
   ·rw[e1];exact Di.app (Di.one t4 t5) hdi
   ·rw[e1,Zaq hx,vI,vI,←hv]
    grind
 ·rintro _ r ⟨H,n1,W⟩ hr ⟨rfl,hW,hK,hn,h8,hm,out,rest,hrow,hol,h7,hr0,hrd,hdi,hv⟩
  simp only at hW hK hn hrow
  subst hn
  rw[Yuj,Yuj]at*
  have hs2:Sl H (N+1) (.slice N 0 l.length (some l.length) 1) (dI out):=Sl.row (by omega) hrow (by simp[hol]) (fun k hk=>by simp at hk;omega)
  simp[hr,h7]
  refine Zaf (Zf0 hs2 (by omega)) ?_
  rintro u h2 n2 k2 hu
  have hvo:=Zh9 hdi
  have hvl:=Zh9 hd
  have m1:(vI l).toNat/d.toNat=(vI out).toNat:=by
   have:(vI l)/d=vI out:=by
    rw[←hv,Int.mul_comm,Int.add_comm,Int.add_mul_ediv_left _ _ (by omega),Int.ediv_eq_zero_of_lt hr0 hrd];omega
   rw[←this]
   obtain⟨a,ha⟩:=Yua hvl
   obtain⟨b,hb⟩:=Yua (Yt4 h0)
   rw[ha,hb];rfl
  have m2:(((vI l).toNat%d.toNat:Nat):Int)=rest:=by
   have:(vI l)%d=rest:=by
    rw[←hv,Int.mul_comm,Int.add_comm,Int.add_mul_emod_self_left,Int.emod_eq_of_lt hr0 hrd]
   rw[←this]
   obtain⟨a,ha⟩:=Yua hvl
   obtain⟨b,hb⟩:=Yua (Yt4 h0)
   rw[ha,hb];rfl
  rw[Zpb hdi]at hu
  have m2':rest=max (vI l) 0%max d 0:=by rw[←m2];simp
  simp[hr,h7,Ret,hW]
  refine⟨hK.trans k2,u,⟨rfl,m2'⟩,?_⟩
  rw[m1]
  exact hu
def A.lb201_0:Zah:=.seq (sr [mv 22 8,mv 23 1,ln 24 23,bi 25 .lss 22 24]
 (cd 25
 (.skip)
 (.exit 2)))
 (.seq (.block 3 (.seq (.regD [mv 28 5,mv 29 6,mv 30 8,bi 31 .add 29 30,ia 32 1 28 31,ld 33 32,mv 34 0,mv 35 6,ia 36 1 34 35,ld 37 36,mv 38 1,mv 39 8,ia 40 1 38 39,ld 41 40,bi 42 .mul 37 41,bi 43 .add 33 42,mv 44 7,bi 45 .add 43 44,mv 9 45] [0,0,0,6,15,31,0,0,192,448,0,0,3072,7168,16320,32767,0,131071,262143])
 (sr [mv 46 5,mv 47 6,mv 48 8,bi 49 .add 47 48,mv 50 9,bc 51 .rem 50 1000000000,ia 52 1 46 49,so 52 51]
 (.reg [mv 53 9,bc 54 .quo 53 1000000000,mv 7 54]))))
 (.reg [mv 26 8,bc 27 .add 26 1,mv 8 27]))
def A.lb201_1:Zah:=.seq (sr [mv 16 6,mv 17 0,ln 18 17,bi 19 .lss 16 18]
 (cd 19
 (.skip)
 (.exit 0)))
 (.seq (.block 1 (sr [mc 7 0]
 (.seq (sr [mc 8 0]
 (.block 2 (.loop A.lb201_0)))
 (.reg [mv 55 5,mv 56 6,mv 57 1,ln 58 57,bi 59 .add 56 58,mv 60 5,mv 61 6,mv 62 1,ln 63 62,bi 64 .add 61 63,ia 65 1 60 64,ld 66 65,mv 67 7,bi 68 .add 66 67,ia 69 1 55 59,so 69 68]))))
 (.reg [mv 20 6,bc 21 .add 20 1,mv 6 21]))
def A.b201:Zah:=sr [mN 4]
 (sr [mv 10 0,ln 11 10,mv 12 1,ln 13 12,bi 14 .add 11 13,ge 15 (.mkslice 3 1 8 [.int .i64 0] (tq 14) (tq 14)),mv 5 15]
 (.seq (sr [mc 6 0]
 (.block 0 (.loop A.lb201_1)))
 (sr [mv 70 5,c1 71 200 70,mv 4 71]
 (.ret))))
def A.k201:=@A.kk 201 72 [.tmp 4] A.b201 (by kernel_rfl) rfl
structure MuB (h:T O) (N:Nat) (la lb:List Int) (i:Nat) (out0:List Int) (a:Int) (m:Nat) (r:T V) (st:St):Prop where
 w:Zad N st.w=[]
 keep:Keeps h N st.h (N+1)
 n:st.n=N+1
 ex:∃k out c,k+m=lb.length∧r.get 8=some (.int .i64 k)∧st.h.get N=some (.cells (dI out) 3 true)∧out.length=la.length+lb.length∧r.get 7=some (.int .i64 c)∧0≤c∧c<1000000000∧Di out∧(∀t,i+lb.length≤t→t<out.length→out[t]?=some 0)∧vI out+pI (i+k)*c=vI out0+pI i*(a*vI (lb.take k))
structure MuA (h:T O) (N:Nat) (la lb:List Int) (m:Nat) (r:T V) (st:St):Prop where
 w:Zad N st.w=[]
 keep:Keeps h N st.h (N+1)
 n:st.n=N+1
 ex:∃i out,i+m=la.length∧r.get 6=some (.int .i64 i)∧st.h.get N=some (.cells (dI out) 3 true)∧out.length=la.length+lb.length∧Di out∧(∀t,i+lb.length≤t→t<out.length→out[t]?=some 0)∧vI out=vI (la.take i)*vI lb
def Zs5{h:T O}{N:Nat}{u v:V}{la lb:List Int}{a b:Nat}(hu:Sl h N u (dI la))(hv:Sl h N v (dI lb))(da:Di la)(db:Di lb)(ea:vI la=a)(eb:vI lb=b)(hl:la.length+lb.length<1099511627776):Fn A.C 201 [u,v] h N (fun x h' n'=>Dn h' n' x (a*b)):=by
 intro w
 have lu:=hu.len
 have lv:=hv.len
 rw[Zat]at lu lv
 rw[Zac,A.k201 (by simp)]
 have cs:((la.length:Int)+(lb.length:Int)).toNat=la.length+lb.length:=by omega
 simp(disch:=first|(simp;done)|omega|rfl) [A.b201,lu,lv,cs]
 refine Zai [(6,9),(16,69)] (fun e r st=>e=.exit 0∧MuA h N la lb 0 r st) (MuA h N la lb) la.length ?_ ?_ ?_
 ·refine⟨by simp,Keeps.refl.new _,rfl,0,List.replicate (la.length+lb.length) 0,by omega,by simp,by simp[Zp7],by simp,Di.zeros _,fun t _ ht=>?_,by simp[Zpa,vI]⟩
  simp at ht
  simp[ht]
 ·rintro m r ⟨H,n1,W⟩ hr hf ⟨hW,hK,hn,i,out,hi,h6,hrow,hol,hdi,hz,hv0⟩
  simp only at hW hK hn hrow
  subst hn
  rw[Zaj]
  cases m with
  |zero=>
   have:i=la.length:=by omega
   subst this
   simp[A.lb201_1,hr,hf,h6,lu]
   exact⟨hW,hK,rfl,la.length,out,by omega,by simp[h6],hrow,hol,hdi,hz,hv0⟩
  |succ m=>
   obtain⟨x,hx⟩:=Zag (l:=la) (k:=i) (by omega)
   obtain⟨b1,b2,b3,b4,b5,z1,z2,z3,z4⟩:=hu.at (Zbe hx)
   have z3:=(hK.get _ z2).trans z3
   have hxd:=da.get hx
   have hi1:(i:Int)<(la.length:Int):=by omega
   have hi2:i<la.length:=by omega
   simp[A.lb201_1,hr,hf,h6,hi1,hi2,lu]
   refine Zai [(7,9),(22,54)] (fun e r st=>e=.exit 2∧MuB h N la lb i out x 0 r st) (MuB h N la lb i out x) lb.length ?_ ?_ ?_
   ·exact⟨hW,hK,rfl,0,out,0,by omega,by simp,hrow,hol,by simp,by omega,by omega,hdi,hz,by simp[vI]⟩
   ·rintro m2 r2 ⟨H2,n2,W2⟩ hr2 hf2 ⟨hW2,hK2,hn2,k,out2,c,hk,h8,hrow2,hol2,h7,c0,c1,hdi2,hz2,hv2⟩
    simp only at hW2 hK2 hn2 hrow2
    subst hn2
    rw[Zaj]
    cases m2 with
    |zero=>
     have:k=lb.length:=by omega
     subst this
     simp[A.lb201_0,hr,hr2,hf2,h8,lv]
     exact⟨hW2,hK2,rfl,lb.length,out2,c,by omega,by simp[h8],hrow2,hol2,by simp[h7],c0,c1,hdi2,hz2,hv2⟩
    |succ m2=>
     obtain⟨y,hy⟩:=Zag (l:=lb) (k:=k) (by omega)
     obtain⟨g1,g2,g3,g4,g5,y1,y2,y3,y4⟩:=hv.at (Zbe hy)
     have y3:=(hK2.get _ y2).trans y3
     have z3:=(hK2.get _ z2).trans ((hK.get _ z2).symm.trans z3)
     have hyd:=db.get hy
     obtain⟨o,ho⟩:=Zag (l:=out2) (k:=i+k) (by omega)
     have hod:=hdi2.get ho
     have hk1:(k:Int)<(lb.length:Int):=by omega
     have hk2:k<lb.length:=by omega
     have p0:0≤x*y:=Ytz hxd.1 hyd.1
     have p1:x*y≤999999999*999999999:=Int.mul_le_mul (by omega) (by omega) hyd.1 (by omega)
     have q1:(i:Int)+(k:Int)<(la.length:Int)+(lb.length:Int):=by omega
     have q2:i+k<la.length+lb.length:=by omega
     have q3:(0:Int)≤(i:Int)+(k:Int):=by omega
     have t1:(o+x*y+c).tmod 1000000000=(o+x*y+c)%1000000000:=Ytx (by omega)
     have t2:(o+x*y+c).tdiv 1000000000=(o+x*y+c)/1000000000:=Ytk (by omega)
     have w8:=Zat out2
     have w7:=Zh5 (l:=out2) (k:=i+k) (v:=(o+x*y+c)%1000000000) (by omega)
     have e1:vI (out2.set (i+k) ((o+x*y+c)%1000000000))+pI (i+(k+1))*((o+x*y+c)/1000000000)=vI out+pI i*(x*vI (lb.take (k+1))):=by
      have hm:=Yui (o+x*y+c) 1000000000
      rw[Zi4 ho,Zba hy,show i+(k+1)=(i+k)+1 by omega,Zc5]
      have hp:=Zvi i k
      generalize (o+x*y+c)/1000000000=Q at*
      generalize (o+x*y+c)%1000000000=R at*
      have:R=o+x*y+c-1000000000*Q:=by omega
      rw[this]
      have h3:vI out2=vI out+pI i*(x*vI (lb.take k))-pI (i+k)*c:=by omega
      rw[h3,hp]
      grind
     generalize hP:x*y=P at*
     have b1':Zap .i64 P=P:=Zak (by omega) (by omega)
     have b2':Zap .i64 (o+P)=o+P:=Zak (by omega) (by omega)
     have b3':Zap .i64 (o+P+c)=o+P+c:=Zak (by omega) (by omega)
     have b4':Zap .i64 ((o+P+c)/1000000000)=(o+P+c)/1000000000:=Zak (by omega) (by omega)
     have f1:b1<N+1:=by omega
     have f2:g1<N+1:=by omega
     have r0:=Yu8 (o+P+c) (b:=1000000000) (by decide)
     have r1:=Yus (o+P+c) (b:=1000000000) (by decide)
     have d0:0≤(o+P+c)/1000000000:=Int.ediv_nonneg (by omega) (by decide)
     have d1:(o+P+c)/1000000000<1000000000:=Int.ediv_lt_of_lt_mul (by decide) (by omega)
     simp(disch:=first|(simp;done)|omega|rfl) [-getElem?_pos,A.lb201_0,hr,hr2,hf2,h6,h7,h8,lu,lv,hk1,hk2,hi1,hi2,q1,q2,q3,hrow2,Zbe ho,z1,z2,z3,z4,y1,y2,y3,y4,hP,b1',b2',b3',b4',t1,t2,w7,cs,f1,f2]
     refine⟨m2,by omega,⟨by simp[Zad,hW2],hK2.set (Yr4 N),rfl,k+1,_,_,by omega,by simp,by simp,by simp[hol2],by simp,d0,d1,hdi2.set r0 r1,fun t ht1 ht2=>?_,e1⟩⟩
     rw[Ysb (by omega)]
     exact hz2 t ht1 (by simpa using ht2)
   ·rintro _ r2 ⟨H2,n2,W2⟩ hr2 ⟨rfl,hW2,hK2,hn2,k,out2,c,hk,h8,hrow2,hol2,h7,c0,c1,hdi2,hz2,hv2⟩
    simp only at hW2 hK2 hn2 hrow2
    subst hn2
    have:k=lb.length:=by omega
    subst this
    have ho:=hz2 (i+lb.length) (by omega) (by omega)
    have hfi:=hf.inner (D':=[(7,9),(22,54)]) rfl (by simp) hr2
    have q1:(i:Int)+(lb.length:Int)<(la.length:Int)+(lb.length:Int):=by omega
    have q2:i+lb.length<la.length+lb.length:=by omega
    have q3:(0:Int)≤(i:Int)+(lb.length:Int):=by omega
    have w8:=Zat out2
    have w7:=Zh5 (l:=out2) (k:=i+lb.length) (v:=c) (by omega)
    rw[Ytr]at hv2
    have e1:vI (out2.set (i+lb.length) c)=vI (la.take (i+1))*vI lb:=by
     rw[Zi4 ho,Zba hx]
     have:vI out2+pI (i+lb.length)*(c-0)=vI out+pI i*(x*vI lb):=by rw[Int.sub_zero];exact hv2
     rw[this,hv0]
     grind
    simp(disch:=first|(simp;done)|omega|rfl) [-getElem?_pos,hr,hr2,h6,h7,lv,hrow2,Zbe ho,q1,q2,q3,w7,hfi,cs]
    refine⟨m,by omega,⟨by simp[Zad,hW2],hK2.set (Yr4 N),rfl,i+1,_,by omega,by simp,by simp,by simp[hol2],hdi2.set c0 c1,fun t ht1 ht2=>?_,e1⟩⟩
    rw[Ysb (by omega)]
    exact hz2 t (by omega) (by simpa using ht2)
 ·rintro _ r ⟨H,n1,W⟩ hr ⟨rfl,hW,hK,hn,i,out,hi,h6,hrow,hol,hdi,hz,hv0⟩
  simp only at hW hK hn hrow
  subst hn
  have:i=la.length:=by omega
  subst this
  rw[Ytr,ea,eb]at hv0
  have hs2:Sl H (N+1) (.slice N 0 (la.length+lb.length) (some (la.length+lb.length)) 1) (dI out):=Sl.row (by omega) hrow (by simp[hol]) (fun k hk=>by simp at hk;omega)
  simp[hr]
  refine Zaf (Zf0 hs2 (by omega)) ?_
  rintro y h2 n2 k2 hy
  rw[Zfx hdi (n:=a*b) (by rw[hv0];simp)]at hy
  simp[hr,Ret,hW]
  exact⟨hK.trans k2,hy⟩
def A.b246:Zah:=sr [mc 4 0]
 (.seq (sr [mv 5 1,mv 6 0,ln 7 6,bi 8 .lss 5 7]
 (cd 8
 (sr [mv 9 0,mv 10 1,ia 11 1 9 10,ld 12 11,mv 4 12]
 (.ret))
 (.skip)))
 (sr [mc 4 0]
 (.ret)))
def A.k246:=@A.kk 246 13 [.tmp 4] A.b246 (by kernel_rfl) rfl
def A.lb207_0:Zah:=.seq (sr [mv 9 7,mv 10 0,ln 11 10,bi 12 .lss 9 11,mv 13 12,mh 14 7 13,mh 15 1 13,gz 16 13 (.len 1 (tq 15)),gz 17 13 (.bin .lss (.node []) false (tq 14) (tq 16)),pt 18 13 17,mv 19 18,mh 20 6 19,gz 21 19 (.bin .gtr (.node []) false (tq 20) (kq 0)),pt 22 19 21]
 (cd 22
 (.skip)
 (.exit 0)))
 (.seq (.block 1 (sr [mv 25 0,mv 26 7,c2 27 246 25 26,mv 28 1,mv 29 7,c2 30 246 28 29,bi 31 .add 27 30,mv 32 6,bi 33 .add 31 32,mv 8 33]
 (sr [mv 34 5,mv 35 8,bc 36 .rem 35 1000000000,ge 37 (.bslice 3 1 1 [.int .i64 0] [(0,1,(tq 36))]),ge 38 (.append 1 8 3 [.int .i64 0] (tq 34) (tq 37)),mv 5 38]
 (.reg [mv 39 8,bc 40 .quo 39 1000000000,mv 6 40]))))
 (.reg [mv 23 7,bc 24 .add 23 1,mv 7 24]))
def A.b207:Zah:=sr [mN 4]
 (sr [mN 5]
 (sr [mc 6 0]
 (.seq (sr [mc 7 0]
 (.block 0 (.loop A.lb207_0)))
 (sr [mv 41 5,mv 4 41]
 (.ret)))))
def A.k207:=@A.kk 207 42 [.tmp 4] A.b207 (by kernel_rfl) rfl
def A.lb208_0:Zah:=.seq (sr [mv 9 7,mv 10 0,ln 11 10,bi 12 .lss 9 11]
 (cd 12
 (.skip)
 (.exit 0)))
 (.seq (.block 1 (.seq (.regD [mv 15 0,mv 16 7,ia 17 1 15 16,ld 18 17,mv 19 1,mv 20 7,c2 21 246 19 20,bi 22 .sub 18 21,mv 23 6,bi 24 .sub 22 23,mv 8 24] [0,0,3,7,0,0,48,127,0,511,1023])
 (sr [mc 6 0]
 (.seq (sr [mv 25 8,bc 26 .lss 25 0]
 (cd 26
 (sr [mv 27 8,bc 28 .add 27 1000000000,mv 8 28]
 (.reg [mc 6 1]))
 (.skip)))
 (.reg [mv 29 5,mv 30 8,ge 31 (.bslice 3 1 1 [.int .i64 0] [(0,1,(tq 30))]),ge 32 (.append 1 8 3 [.int .i64 0] (tq 29) (tq 31)),mv 5 32])))))
 (.reg [mv 13 7,bc 14 .add 13 1,mv 7 14]))
def A.b208:Zah:=sr [mN 4]
 (sr [mN 5]
 (sr [mc 6 0]
 (.seq (sr [mc 7 0]
 (.block 0 (.loop A.lb208_0)))
 (sr [mv 33 5,c1 34 200 33,mv 4 34]
 (.ret)))))
def A.k208:=@A.kk 208 35 [.tmp 4] A.b208 (by kernel_rfl) rfl
def Zp5{h:T O}{N:Nat}{v:V}{l:List Int}{i:Nat}{w:List Nat}(hs:Sl h N v (dI l))(hi:i<4611686018427387904)(hl:l.length<4611686018427387904):A.C.call (.func 246 [] []) [v,.int .i64 i] ⟨h,N,w⟩=some (.int .i64 (zI l i),⟨h,N,w⟩):=by
 apply Call.eq
 have hlen:=hs.len
 rw[Zat]at hlen
 rw[Zac,A.k246 (by simp)]
 by_cases hc:i<l.length
 ·have hc1:(i:Int)<(l.length:Int):=by omega
  obtain⟨d,hd⟩:=Zag hc
  obtain⟨j,o,c,e,rw,q1,q2,q3,q4⟩:=hs.at (Zbe hd)
  simp[A.b246,hlen,hc,hc1,q1,q3,q4,Yi0 hd]
 ·have hc1:¬(i:Int)<(l.length:Int):=by omega
  simp[A.b246,hlen,hc,hc1,Zsl (Yto hc)]
structure AdI (h:T O) (N:Nat) (la lb:List Int) (m:Nat) (r:T V) (st:St):Prop where
 w:Zad N st.w=[]
 keep:Keeps h N st.h st.n
 ex:∃k c out D,k+m=max la.length lb.length+1∧r.get 7=some (.int .i64 k)∧r.get 6=some (.int .i64 c)∧r.get 5=some out∧0≤c∧c≤1∧(m=0→c=0)∧Own 1 3 N st.h st.n out (Zfb D)∧D.length=k∧Di D∧vI D+pI k*c=vI (la.take k)+vI (lb.take k)
def Zlp{l:List Int}{k:Nat}(h:l.length≤k):l.take k=l:=Ysd h
def Yju{h:T O}{N:Nat}{u v:V}{la lb:List Int}(hu:Sl h N u (dI la))(hv:Sl h N v (dI lb))(da:Di la)(db:Di lb)(l1:la.length<1099511627776)(l2:lb.length<1099511627776):Fn A.C 207 [u,v] h N (fun x h' n'=>∃l,Sl h' n' x (dI l)∧Di l∧vI l=vI la+vI lb∧l.length≤max la.length lb.length+1):=by
 intro w
 have lu:=hu.len
 have lv:=hv.len
 rw[Zat]at lu lv
 rw[Zac,A.k207 (by simp)]
 simp[A.b207]
 refine Zai [(5,40)] (fun e r st=>e=.exit 0∧Zad N st.w=[]∧Keeps h N st.h st.n∧∃out D,r.get 5=some out∧Own 1 3 N st.h st.n out (Zfb D)∧Di D∧vI D=vI la+vI lb∧D.length≤max la.length lb.length+1) (AdI h N la lb) (max la.length lb.length+1) ?_ ?_ ?_
 ·exact⟨by simp,Keeps.refl,0,0,.nilslice,[],by omega,by simp,by simp,by simp,by omega,by omega,fun _=>rfl,Own.nil,rfl,Di.nil,by simp[vI]⟩
 ·rintro m r ⟨H,n1,W⟩ hr hf ⟨hW,hK,k,c,out,D,hk,h7,h6,h5,c0,c1,cz,ho,hD,dD,hv0⟩
  simp only at hW hK ho
  rw[Zaj]
  by_cases hgo:k<la.length∨k<lb.length∨0<c
  ·obtain⟨m',rfl⟩:∃m',m=m'+1:=⟨m-1,by
    have:m≠0:=fun hm=>by have:=cz hm;omega
    omega⟩
   have dx:=Yi1 da k
   have dy:=Yi1 db k
   have e1:=fun w=>Zp5 (w:=w) (i:=k) (hu.keep hK) (by omega) (by omega)
   have e2:=fun w=>Zp5 (w:=w) (i:=k) (hv.keep hK) (by omega) (by omega)
   obtain⟨x,hx⟩:∃x,zI la k=x:=⟨_,rfl⟩
   obtain⟨y,hy⟩:∃y,zI lb k=y:=⟨_,rfl⟩
   rw[hx]at dx e1
   rw[hy]at dy e2
   have t1:(x+y+c).tmod 1000000000=(x+y+c)%1000000000:=Ytx (by omega)
   have t2:(x+y+c).tdiv 1000000000=(x+y+c)/1000000000:=Ytk (by omega)
   have t3:Zap .i64 (x+y)=x+y:=Zak (by omega) (by omega)
   have t4:Zap .i64 (x+y+c)=x+y+c:=Zak (by omega) (by omega)
   have t5:Zap .i64 ((x+y+c)/1000000000)=(x+y+c)/1000000000:=Zak (by omega) (by omega)
   have hfin:vI (D++[(x+y+c)%1000000000])+pI (k+1)*((x+y+c)/1000000000)=vI (la.take (k+1))+vI (lb.take (k+1)):=by
    rw[Zfv,hD,Zl5,Zl5,hx,hy,Zc5]
    have hm:=Yui (x+y+c) 1000000000
    generalize (x+y+c)/1000000000=Q at*
    generalize (x+y+c)%1000000000=R at*
    have:R=x+y+c-1000000000*Q:=by omega
    subst this
    grind
   have hz:m'=0→(x+y+c)/1000000000=0:=fun hm=>by
    have:x=0:=by rw[←hx];exact Zsl (by omega)
    have:y=0:=by rw[←hy];exact Zsl (by omega)
    omega
   have ho2:=ho.keep (Keeps.refl.new (.cells [.int .i64 ((x+y+c)%1000000000)] 3 true))
   obtain⟨v',h',w',f1,f2,f3,_,f5⟩:=Zbi (x:=[.int .i64 ((x+y+c)%1000000000)]) (u:=.slice n1 0 1 (some 1) 1) (bytes:=8) (w:=W) ho2 (by have:=hK.le;omega) (by decide) rfl (by simp[Zax,St.row,slc]) (by simp[Zfb];omega)
   rw[←Zde]at f5
   have f6:Zad N w'=[]:=by rw[f2];exact hW
   have kz:=(hK.new (.cells [.int .i64 ((x+y+c)%1000000000)] 3 true)).then f3
   have hgo':k<la.length∨(¬k<la.length∧k<lb.length)∨(¬k<la.length∧¬k<lb.length∧0<c):=by omega
   rcases hgo' with g1|⟨g1,g2⟩|⟨g1,g2,g3⟩
   ·have i1:(k:Int)<(la.length:Int):=by omega
    simp[A.lb207_0,hr,hf,h7,h6,h5,lu,lv,g1,i1,e1,e2,t1,t2,t3,t4,t5,splice]
    simp(disch:=first|(simp;done)|omega|rfl) [f1,f6,hr,hf,h7]
    exact⟨m',by omega,⟨f6,kz,k+1,(x+y+c)/1000000000,v',D++[(x+y+c)%1000000000],by omega,by simp,by simp[t2],by simp,by omega,by omega,hz,f5,by simp[hD],dD.app (Di.one (by omega) (by omega)),hfin⟩⟩
   ·have i1:¬(k:Int)<(la.length:Int):=by omega
    have i2:(k:Int)<(lb.length:Int):=by omega
    simp[A.lb207_0,hr,hf,h7,h6,h5,lu,lv,g1,g2,i1,i2,e1,e2,t1,t2,t3,t4,t5,splice]
    simp(disch:=first|(simp;done)|omega|rfl) [f1,f6,hr,hf,h7]
    exact⟨m',by omega,⟨f6,kz,k+1,(x+y+c)/1000000000,v',D++[(x+y+c)%1000000000],by omega,by simp,by simp[t2],by simp,by omega,by omega,hz,f5,by simp[hD],dD.app (Di.one (by omega) (by omega)),hfin⟩⟩
   ·have i1:¬(k:Int)<(la.length:Int):=by omega
    have i2:¬(k:Int)<(lb.length:Int):=by omega
    simp[A.lb207_0,hr,hf,h7,h6,h5,lu,lv,g1,g2,g3,i1,i2,e1,e2,t1,t2,t3,t4,t5,splice]
    simp(disch:=first|(simp;done)|omega|rfl) [f1,f6,hr,hf,h7]
    exact⟨m',by omega,⟨f6,kz,k+1,(x+y+c)/1000000000,v',D++[(x+y+c)%1000000000],by omega,by simp,by simp[t2],by simp,by omega,by omega,hz,f5,by simp[hD],dD.app (Di.one (by omega) (by omega)),hfin⟩⟩
  ·obtain⟨g1,g2,g3⟩:¬k<la.length∧¬k<lb.length∧¬0<c:=by omega
   have i1:¬(k:Int)<(la.length:Int):=by omega
   have i2:¬(k:Int)<(lb.length:Int):=by omega
   obtain rfl:c=0:=by omega
   rw[Zlp (by omega),Zlp (by omega),Int.mul_zero,Int.add_zero]at hv0
   simp[A.lb207_0,hr,hf,h7,h6,lu,lv,g1,g2,i1,i2,hW,hK]
   exact⟨out,h5,D,ho,dD,hv0,by omega⟩
 ·rintro _ r ⟨H,n1,W⟩ hr ⟨rfl,hW,hK,out,D,h5,ho,dD,hv0,hl⟩
  simp only at hW hK ho
  simp[hr,h5,Ret,hW,hK]
  exact⟨D,ho.sl,dD,hv0,hl⟩
variable {N:Nat} {h:T O}
def A.b153:Zah:=sr [bx 2 176 0,bx 3 176 1,ge 4 (.alloc [.bool false,.nilslice] 176)]
 (.seq (sr [fa 5 0 2,ld 6 5,fa 7 0 3,ld 8 7,ge 9 (.bin .eql (.prim .bool) false (tq 6) (tq 8))]
 (cd 9
 (.seq (.regD [fa 10 0 2,ld 11 10,fa 12 1 2,ld 13 12,fa 14 1 3,ld 15 14,c2 16 207 13 15,c2 17 197 11 16,gn (.store 2 (tq 4) (tq 17))] [0,1,0,4,0,16,60,127,255])
 (.ret))
 (.skip)))
 (.seq (sr [fa 18 1 2,ld 19 18,fa 20 1 3,ld 21 20,c2 22 198 19 21,bc 23 .geq 22 0]
 (cd 23
 (.seq (.regD [fa 24 0 2,ld 25 24,fa 26 1 2,ld 27 26,fa 28 1 3,ld 29 28,c2 30 208 27 29,c2 31 197 25 30,gn (.store 2 (tq 4) (tq 31))] [0,1,0,4,0,16,60,127,255])
 (.ret))
 (.skip)))
 (.seq (.regD [fa 32 0 3,ld 33 32,fa 34 1 3,ld 35 34,fa 36 1 2,ld 37 36,c2 38 208 35 37,c2 39 197 33 38,gn (.store 2 (tq 4) (tq 39))] [0,1,0,4,0,16,60,127,255])
 (.ret))))
def A.k153:=@A.kk 153 40 [.cell 4 (some 2)] A.b153 (by kernel_rfl) rfl
def A.b205:Zah:=sr [bx 1 176 0,ge 2 (.alloc [.bool false,.nilslice] 176)]
 (sr [fa 3 0 1,ld 4 3,ge 5 (.un .not (tq 4)),fa 6 1 1,ld 7 6,c2 8 197 5 7,gn (.store 2 (tq 2) (tq 8))]
 (.ret))
def A.k205:=@A.kk 205 9 [.cell 2 (some 2)] A.b205 (by kernel_rfl) rfl
def A.b152:Zah:=sr [bx 2 176 0,bx 3 176 1,ge 4 (.alloc [.bool false,.nilslice] 176)]
 (.seq (.regD [fa 5 0 2,ld 6 5,fa 7 0 3,ld 8 7,ge 9 (.bin .neq (.prim .bool) false (tq 6) (tq 8)),fa 10 1 2,ld 11 10,fa 12 1 3,ld 13 12,c2 14 201 11 13,c2 15 197 9 14,gn (.store 2 (tq 4) (tq 15))] [0,1,0,4,15,0,32,0,128,480,1023,2047])
 (.ret))
def A.k152:=@A.kk 152 16 [.cell 4 (some 2)] A.b152 (by kernel_rfl) rfl
def Zpp(k:Nat):pI k=((1000000000^k:Nat):Int):=by unfold pI;simp
def Rg.keep{h':T O}{N':Nat}{v:V}{z:Int}(s:Rg h N v z)(k:Keeps h N h' N'):Rg h' N' v z:=by
 obtain⟨u,h1,h2⟩:=s
 exact⟨u,h1,h2.keep k⟩
def nint:∀x∈[V.bool false,V.nilslice],∀k m,x≠.int k m:=by intro x hx k m;simp at hx;rcases hx with rfl|rfl<;>simp
def Ym6{b:Bool}{u:V}(hu:SlF u):∀x∈[V.bool b,u],∀k m,x≠.int k m:=by
 intro x hx k m
 simp at hx
 rcases hx with rfl|rfl
 ·simp
 ·rcases hu with rfl|rfl|⟨_,_,_,_,_,rfl⟩<;>simp
def Zyw(a b:Nat):(ds (a*b)).length≤(ds a).length+(ds b).length:=by
 refine Zfo ?_
 have h1:=Zia (Zca a)
 have h2:=Zia (Zca b)
 rw[Zbb]at h1 h2
 rw[Zpp]at h1 h2
 rw[Yte]
 exact Yut (Int.ofNat_lt.1 h1) (Int.ofNat_lt.1 h2)
def Zvr{v:V}{z:Int}(hs:Rg h N v z)(hl:(ds z.natAbs).length<1099511627776):Fn A.C 205 [v] h N (fun u h' n'=>Rg h' n' u (-z)):=by
 intro w
 obtain⟨u,rfl,hu⟩:=hs
 have o1:=Sl.form hu |>.one
 have o2:=Sl.form hu |>.cells
 unfold V.one at o1
 unfold V.cells at o2
 have kB:=(((Keeps.refl (h:=h) (n:=N)).new (.cells [.bool (decide (z<0)),u] 176 true)).new (.cells [.bool false,.nilslice] 176 true))
 rw[Zac,A.k205 (by simp)]
 simp[A.b205,o1,o2,splice,Zam,slc]
 refine Zaf (Zbz (b:=!decide (z<0)) (n:=z.natAbs) (Sl.keep hu kB) (Zca _) (Zbb _) (by omega)) ?_
 rintro v2 h2 n2 k2 hv
 have kle:=k2.le
 have g1:=(k2.get (N+1) (by omega))
 rw[T.get_set,Yr6 rfl]at g1
 have kk:=kB.trans k2
 have ez:(if (!decide (z<0))=true then -((z.natAbs:Nat):Int) else ((z.natAbs:Nat):Int))= -z:=by
  by_cases h0:z<0<;>simp[h0]<;>omega
 rw[ez]at hv
 obtain⟨u2,rfl,hu2⟩:=hv
 have p1:=Sl.form hu2 |>.one
 have p2:=Sl.form hu2 |>.cells
 unfold V.one at p1
 unfold V.cells at p2
 simp[g1,p1,p2,splice,Zal,Zam,slc,Ret]
 exact⟨kk.set (by omega),u2,by simp,Sl.setInt hu2 g1 nint rfl⟩
def Yjh(a b:Int):(if (!(decide (a<0)==decide (b<0)))=true then -((a.natAbs*b.natAbs:Nat):Int) else ((a.natAbs*b.natAbs:Nat):Int))=a*b:=by
 have h0:((a.natAbs*b.natAbs:Nat):Int)=(a.natAbs:Int)*(b.natAbs:Int):=by simp
 rw[h0]
 by_cases h1:a<0<;>by_cases h2:b<0
 ·have ha:(a.natAbs:Int)= -a:=by omega
  have hb:(b.natAbs:Int)= -b:=by omega
  rw[ha,hb];simp[h1,h2,Int.neg_mul,Int.mul_neg]
 ·have ha:(a.natAbs:Int)= -a:=by omega
  have hb:(b.natAbs:Int)=b:=by omega
  rw[ha,hb];simp[h1,h2,Int.neg_mul]
 ·have ha:(a.natAbs:Int)=a:=by omega
  have hb:(b.natAbs:Int)= -b:=by omega
  rw[ha,hb];simp[h1,h2,Int.mul_neg]
 ·have ha:(a.natAbs:Int)=a:=by omega
  have hb:(b.natAbs:Int)=b:=by omega
  rw[ha,hb];simp[h1,h2]
def Zjb{x y:V}{a b:Int}(hx:Rg h N x a)(hy:Rg h N y b)(l1:(ds a.natAbs).length<500000000000)(l2:(ds b.natAbs).length<500000000000):Fn A.C 152 [x,y] h N (fun u h' n'=>Rg h' n' u (a*b)):=by
 intro w
 obtain⟨u,rfl,hu⟩:=hx
 obtain⟨v,rfl,hv⟩:=hy
 have o1:=Sl.form hu |>.one
 have o2:=Sl.form hu |>.cells
 have o3:=Sl.form hv |>.one
 have o4:=Sl.form hv |>.cells
 unfold V.one at o1 o3
 unfold V.cells at o2 o4
 have kB:=((((Keeps.refl (h:=h) (n:=N)).new (.cells [.bool (decide (a<0)),u] 176 true)).new (.cells [.bool (decide (b<0)),v] 176 true)).new (.cells [.bool false,.nilslice] 176 true))
 rw[Zac,A.k152 (by simp)]
 simp[A.b152,o1,o2,o3,o4,splice,Zam,slc,Zae]
 generalize hB:((h.set N (.cells [.bool (decide (a<0)),u] 176 true)).set (N+1) (.cells [.bool (decide (b<0)),v] 176 true)).set (N+1+1) (.cells [.bool false,.nilslice] 176 true)=HB at*
 have gr:HB.get (N+1+1)=some (.cells [.bool false,.nilslice] 176 true):=by rw[←hB];simp
 refine Zaf (Zs5 (Sl.keep hu kB) (Sl.keep hv kB) (Zca _) (Zca _) (Zbb _) (Zbb _) (by omega)) ?_
 rintro v1 h1 n1 k1 q1
 have hlm:(ds (a.natAbs*b.natAbs)).length<1152921504606846976:=by
  have:=Zyw a.natAbs b.natAbs;omega
 simp[]
 refine Zaf (Zbz (n:=a.natAbs*b.natAbs) q1 (Zca _) (Zbb _) hlm) ?_
 rintro v2 h2 n2 k2 hr2
 have le1:=k1.le
 have le2:=k2.le
 have g1:=(k2.get (N+1+1) (by omega)).trans ((k1.get (N+1+1) (by omega)).trans gr)
 have ez:(if (!(decide (a<0)==decide (b<0)))=true then -((a.natAbs*b.natAbs:Nat):Int) else ((a.natAbs*b.natAbs:Nat):Int))=a*b:=Yjh a b
 rw[ez]at hr2
 obtain⟨u2,rfl,hu2⟩:=hr2
 have p1:=Sl.form hu2 |>.one
 have p2:=Sl.form hu2 |>.cells
 unfold V.one at p1
 unfold V.cells at p2
 simp[g1,p1,p2,splice,Zal,Zam,slc,Ret,Zao.chk]
 exact⟨by split<;>simp[Zad],((kB.trans k1).trans k2).set (by omega),u2,rfl,Sl.setInt hu2 g1 nint rfl⟩
end Go.Mx
