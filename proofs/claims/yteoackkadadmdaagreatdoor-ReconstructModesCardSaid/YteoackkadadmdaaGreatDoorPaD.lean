/-strings-/
import Derived.Test.YteoackkadadmdaaGreatDoorNbC
set_option linter.all false
namespace Go.Mx
open Go Go.Proofs
variable {N i:Nat} {h:T O} {rw:Bool} {s:aQ}
set_option maxRecDepth 1000000
def A.b235:av:=sr [ge 4 (.ba (.const (.str [])))]
 (.seq (sr [mv 7 0,ge 8 (.bin .eql (.aM .str) true (tq 7) (.const (.str []))),mv 9 8,mh 10 1 9,gz 11 9 (.bin .eql (.aM .str) true (tq 10) (.const (.str []))),pt 12 9 11]
 (cd 12
 (sr [mv 13 0,mv 4 13]
 (.ret))
 (.skip)))
 (.seq (sr [mv 14 1,ge 15 (.len 0 (tq 14)),ei 16 15 1,mv 17 16,mg 18 1 17,gy 19 17 (.aZ (tq 18) (kq 0)),gy 20 17 (.bin .lss (.node []) false (tq 19) (.const (.int .u8 128))),pf 21 17 20]
 (cd 21
 (.seq (.aX [mv 22 0,mv 23 1,ge 24 (.aZ (tq 23) (kq 0)),c2 25 260 22 24,mv 26 1,ge 27 (.aZ (tq 26) (kq 0)),c2 28 259 25 27,mv 4 28] [0,0,2,7,0,16,63,127])
 (.ret))
 (.skip)))
 (.seq (sr [mv 30 1,c1 31 261 30,mv 29 31,xt 32 29 0,xt 33 29 1,ge 5 (.alloc (nL 0) 251),gn (.store 256 (tq 5) (tq 32)),mv 6 33]
 (sr [mv 34 6]
 (cd 34
 (sr [mv 35 0,c2 36 263 35 5,c2 37 262 36 5,mv 4 37]
 (.ret))
 (.skip))))
 (sr [mv 38 0,mv 39 1,c2 40 265 38 39,mv 41 1,c2 42 264 40 41,mv 4 42]
 (.ret)))))
def A.c235:A.F 235=some ⟨43,[.tmp 4],A.b235⟩:=by kernel_rfl
def A.k235:=@A.kk 235 _ _ _ A.c235 rfl
def A.qW:av:=.seq (sr [mv 6 4,mv 7 0,ge 8 (.len 0 (tq 7)),bi 9 .lss 6 8]
 (cd 9
 (.skip)
 (.exit 0)))
 (.seq (.block 1 (sr [mv 12 0,mv 13 4,ge 14 (.aZ (tq 12) (tq 13)),mv 5 14]
 (.seq (sr [mv 15 5,ge 16 (.bin .geq (.node []) false (tq 15) (.const (.int .u8 128)))]
 (cd 16
 (sr [lN 17 256 2,gn (.store 256 (tq 2) (tq 17)),ge 3 (.ba (.const (.bool false)))]
 (.ret))
 (.skip)))
 (.aR [mv 18 5,ge 19 (.cr 256 1 (tq 2) (tq 18)),gn (.store 1 (tq 19) (.const (.bool true)))]))))
 (.aR [mv 10 4,bc 11 .add 10 1,mv 4 11]))
def A.b261:av:=sr [ge 2 (.alloc (nL 0) 251),ge 3 (.ba (.const (.bool false)))]
 (.seq (sr [mc 4 0]
 (.block 0 (.loop A.qW)))
 (sr [lN 20 256 2,gn (.store 256 (tq 2) (tq 20)),ge 3 (.ba (.const (.bool true)))]
 (.ret)))
def A.c261:A.F 261=some ⟨21,[.cell 2 (some 256),.tmp 3],A.b261⟩:=by kernel_rfl
def A.k261:=@A.kk 261 _ _ _ A.c261 rfl
def A.mZ:av:=.seq (sr [mv 5 0,ge 6 (.len 0 (tq 5)),bc 7 .gtr 6 0]
 (cd 7
 (.skip)
 (.exit 0)))
 (.block 1 (.seq (sr [mv 8 1,mv 9 0,ge 10 (.aZ (tq 9) (kq 0)),c2 11 285 8 10,ge 12 (.un .not (tq 11))]
 (cd 12
 (.exit 0)
 (.skip)))
 (.aR [mv 13 0,ge 14 (.aD (tq 13) (some (kq 1)) none),mv 0 14])))
def A.b262:av:=sr [ge 4 (.ba (.const (.str [])))]
 (.seq (.block 0 (.loop A.mZ))
 (sr [mv 15 0,mv 4 15]
 (.ret)))
def A.c262:A.F 262=some ⟨16,[.tmp 4],A.b262⟩:=by kernel_rfl
def A.k262:=@A.kk 262 _ _ _ A.c262 rfl
def A.m7:av:=.seq (sr [mv 5 0,ge 6 (.len 0 (tq 5)),bc 7 .gtr 6 0]
 (cd 7
 (.skip)
 (.exit 0)))
 (.block 1 (.seq (sr [mv 8 1,mv 9 0,mv 10 0,ge 11 (.len 0 (tq 10)),bc 12 .sub 11 1,ge 13 (.aZ (tq 9) (tq 12)),c2 14 285 8 13,ge 15 (.un .not (tq 14))]
 (cd 15
 (.exit 0)
 (.skip)))
 (.aR [mv 16 0,mv 17 0,ge 18 (.len 0 (tq 17)),bc 19 .sub 18 1,ge 20 (.aD (tq 16) none (some (tq 19))),mv 0 20])))
def A.b263:av:=sr [ge 4 (.ba (.const (.str [])))]
 (.seq (.block 0 (.loop A.m7))
 (sr [mv 21 0,mv 4 21]
 (.ret)))
def A.c263:A.F 263=some ⟨22,[.tmp 4],A.b263⟩:=by kernel_rfl
def A.k263:=@A.kk 263 _ _ _ A.c263 rfl
def A.b285:av:=sr [ge 4 (.ba (.const (.bool false)))]
 (sr [mv 5 0,mv 6 1,ge 7 (.fR (tq 5)),ge 8 (.cr 256 1 (tq 7) (tq 6)),ld 9 8,mv 4 9]
 (.ret))
def A.c285:A.F 285=some ⟨10,[.tmp 4],A.b285⟩:=by kernel_rfl
def A.k285:=@A.kk 285 _ _ _ A.c285 rfl
def A.b191:av:=sr [ge 2 (.ba (.const (.bool false)))]
 (sr [mv 3 0,ge 4 (.bin .neq (.aM .str) true (tq 3) (.const (.str []))),mv 5 4,mg 6 0 5,gy 7 5 (.call (fq 235) [tq 6,(.const (.str [48,49,50,51,52,53,54,55,56,57]))]),gy 8 5 (.bin .eql (.aM .str) true (tq 7) (.const (.str []))),pf 9 5 8,mv 10 9,mg 11 0 10,gy 12 10 (.aZ (tq 11) (kq 0)),gy 13 10 (.bin .neq (.aM .int) true (tq 12) (.const (.int .u8 48))),mg 14 13 10,mh 15 0 14,gz 16 14 (.bin .eql (.aM .str) true (tq 15) (.const (.str [48]))),gy 17 10 (.pick (tq 14) (.const (.bool true)) (tq 16)),pf 18 10 17,mv 2 18]
 (.ret))
def A.c191:A.F 191=some ⟨19,[.tmp 2],A.b191⟩:=by kernel_rfl
def A.k191:=@A.kk 191 _ _ _ A.c191 rfl
def Zzi:Fn A.C 261 [(.str [48,49,50,51,52,53,54,55,56,57])] h N (fun v _ _=>v=.bg [.agg (nL 10),.bool true]):=by
 intro w
 rw[aO,A.k261 (by simp)]
 simp[A.b261]
 refine bP [(3,19)] (fun e r st=>e=.exit 0/\st.n=N+1/\ax N st.w=[]/\ab h N st.h (N+1)/\st.h.get N=some (.cells (nL 10) 251 true)) (fun m r st=>st.n=N+1/\ax N st.w=[]/\ab h N st.h (N+1)/\∃k,m=10-k/\k<=10/\r.get 4=some (.int .i64 k)/\st.h.get N=some (.cells (nL k) 251 true)) 10 ?_ ?_ ?_
 ·exact⟨rfl,rfl,(ab.refl.set (aW _)).up (by omega),0,by omega,by omega,by simp,by simp⟩
 ·rintro m r ⟨H,n1,W⟩ hr hf ⟨hn,hW,hK,k,rfl,hk,h4,ak⟩
  simp only at hn hW hK ak
  subst hn
  rw[bq]
  by_cases ay:k<10
  ·obtain⟨c,hc,hcu⟩:=Yi2 ay
   unfold Uk at hc
   have a1:¬128<=cK c:=by omega
   have a2:cK c<256:=by omega
   have a3:0<=cK c:=by omega
   have a4:(cK c).toNat=48+k:=by omega
   have bn:(k:Int)<10:=by omega
   have hs:=Yjn ay
   have q1:=zw k
   simp(disch:=first|(simp;done)|omega|(simp only[bI,cC,bD];omega)|rfl) [-getElem?_pos,A.qW,hr,hf,h4,bn,hc,a1,a2,a3,a4,hs,ak,hW]
   exact⟨_,by omega,hK.set (aW N),k+1,rfl,by omega,by simp,rfl⟩
  ·have:k=10:=by omega
   subst this
   simp[A.qW,hr,hf,h4,ak,hW]
   exact hK
 ·rintro e r ⟨H,n1,W⟩ hr ⟨rfl,hn,hW,hK,ak⟩
  simp only at hn hW hK ak
  subst hn
  have q1:=zw 10
  simp[hr,az,hW,ak,aS,aE,zw,ZX]
  exact hK.set (aW N)
def Zok{c:UInt8}{w:List Nat}{e:TypeId}(hr:h.get i=some (.cells (nL 10) e rw)):A.C.call (.func 285 [] []) [.ptr i 0,.int .u8 (cK c)] ⟨h,N,w⟩=some (.bool (jU c),⟨h,N,w⟩):=by
 apply Call.eq
 rw[aO,A.k285 (by simp)]
 have hu:=Ya9 c
 have e2:(nL 10)[(cK c).toNat]?=some (.bool (jU c)):=by
  rw[IE (by omega),Uj]
  congr 2
  rw[decide_eq_decide];omega
 simp(disch:=omega) [A.b285,hr,hu,e2]
def Yi4{k:Nat}{c:UInt8}(hl:s.length=k+1)(hc:s[k]?=some c):cH s=(cH (s.take k)&&jU c):=by
 unfold cH
 have:s=s.take k++[c]:=by
  conv=>lhs;rw[<-BL k s]
  rw[jq hc,yd (by omega)]
 conv=>lhs;rw[this]
 simp
def Yev{s:aQ}{c:UInt8}(hc:s[0]?=some c):cH s=(jU c&&cH (s.drop 1)):=by
 cases s with
 |nil=>simp at hc
 |cons d s=>simp at hc;subst hc;rfl
def Yi3{k:Nat}{c:UInt8}(hc:s[k]?=some c)(hd:jU c=false):cH s=false:=by
 unfold cH
 rw[List.all_eq_false]
 exact⟨c,cm hc,by simp[hd]⟩
def MB(s:aQ)(v:V):Prop:=∃t:aQ,v=.str t/\t.length<=s.length/\cH t=cH s/\(cH s=true->t=[])
def Zry{e:TypeId}(eC:h.get i=some (.cells (nL 10) e rw))(hl:s.length<4611686018427387904):Fn A.C 263 [.str s,.ptr i 0] h N (fun v _ _=>MB s v):=by
 intro w
 rw[aO,A.k263 (by simp)]
 simp[A.b263]
 refine bP [(0,0),(5,20)] (fun e r st=>e=.exit 0/\st=⟨h,N,[]⟩/\∃t:aQ,r.get 0=some (.str t)/\t.length<=s.length/\cH t=cH s/\(cH s=true->t=[])) (fun m r st=>st=⟨h,N,[]⟩/\∃t:aQ,m=t.length/\t.length<=s.length/\r.get 0=some (.str t)/\cH t=cH s) s.length ?_ ?_ ?_
 ·exact⟨rfl,s,rfl,by omega,by simp,rfl⟩
 ·rintro m r _ hr hf ⟨rfl,t,rfl,hle,h0,ht⟩
  rw[bq]
  by_cases hz:t.length=0
  ·have:t=[]:=qj hz
   subst this
   simp[A.m7,hf,h0,ht]
  ·obtain⟨k,hk⟩:∃k,t.length=k+1:=⟨t.length-1,by omega⟩
   obtain⟨c,hc⟩:=bp (l:=t) (k:=k) (by omega)
   have gw:(t.length:Int)=k+1:=by omega
   have jW:(0:Int)<(k:Int)+1:=by omega
   have bR:(k:Int)+1-1=k:=by omega
   have Ah:=fun w=>Zok (c:=c) (N:=N) (w:=w) eC
   by_cases hd:jU c=true
   ·simp(disch:=first|(simp;done)|omega|(simp only[bI,cC,bD];omega)|rfl) [-getElem?_pos,A.m7,hr,hf,h0,gw,jW,bR,hc,Ah,hd,aC]
    exact⟨k,by omega,t.take k,by simp;omega,by simp;omega,rfl,by rw[<-ht,Yi4 hk hc,hd];simp⟩
   ·have hd:jU c=false:=by simpa using hd
    simp(disch:=first|(simp;done)|omega|(simp only[bI,cC,bD];omega)|rfl) [-getElem?_pos,A.m7,hr,hf,h0,gw,jW,bR,hc,Ah,hd]
    have hq:=Yi3 hc hd
    rw[ht]at hq
    simp[hq,hle]
    rw[ht];exact hq
 ·rintro _ r _ hr ⟨rfl,rfl,t,h0,hle,ht,he⟩
  simp[h0,az,MB]
  exact⟨ab.refl,hle,ht,he⟩
def Zt5{e:TypeId}(eC:h.get i=some (.cells (nL 10) e rw))(hl:s.length<4611686018427387904):Fn A.C 262 [.str s,.ptr i 0] h N (fun v _ _=>MB s v):=by
 intro w
 rw[aO,A.k262 (by simp)]
 simp[A.b262]
 refine bP [(0,0),(5,14)] (fun e r st=>e=.exit 0/\st=⟨h,N,[]⟩/\∃t:aQ,r.get 0=some (.str t)/\t.length<=s.length/\cH t=cH s/\(cH s=true->t=[])) (fun m r st=>st=⟨h,N,[]⟩/\∃t:aQ,m=t.length/\t.length<=s.length/\r.get 0=some (.str t)/\cH t=cH s) s.length ?_ ?_ ?_
 ·exact⟨rfl,s,rfl,by omega,by simp,rfl⟩
 ·rintro m r _ hr hf ⟨rfl,t,rfl,hle,h0,ht⟩
  rw[bq]
  by_cases hz:t.length=0
  ·have:t=[]:=qj hz
   subst this
   simp[A.mZ,hf,h0,ht]
  ·cases t with
   |nil=>simp at hz
   |cons c t=>
    have jW:(0:Int)<(t.length:Int)+1:=by omega
    have Ah:=fun w=>Zok (c:=c) (N:=N) (w:=w) eC
    have Jp:=Yev (s:=c::t) (c:=c) rfl
    by_cases hd:jU c=true
    ·simp(disch:=first|(simp;done)|omega|(simp only[bI,cC,bD];omega)|rfl) [A.mZ,hr,hf,h0,jW,Ah,hd,aC]
     simp only[bD]at hle
     rw[hd]at Jp
     exact⟨t.length,by omega,t,rfl,by omega,rfl,by rw[<-ht,Jp];rfl⟩
    ·have hd:jU c=false:=by simpa using hd
     simp[A.mZ,hr,hf,h0,jW,Ah,hd]
     rw[hd]at Jp
     rw[ht]at Jp
     simp only[bD]at hle
     simp[Jp,hle]
     rw[ht,Jp];rfl
 ·rintro _ r _ hr ⟨rfl,rfl,t,h0,hle,ht,he⟩
  simp[h0,az,MB]
  exact⟨ab.refl,hle,ht,he⟩
def Zya(hl:s.length<4611686018427387904):Fn A.C 235 [.str s,(.str [48,49,50,51,52,53,54,55,56,57])] h N (fun v _ _=>MB s v):=by
 intro w
 rw[aO,A.k235 (by simp)]
 by_cases he:s=[]
 ·subst he
  simp[A.b235,az]
  exact⟨ab.refl,[],rfl,aW _,rfl,fun _=>rfl⟩
 ·have e1:(s==[])=false:=by simp[he]
  have e2:s.isEmpty=false:=by simp[he]
  simp[A.b235,e1]
  refine aA Zzi ?_
  rintro v h1 n1 k1 rfl
  have q1:=zw 10
  simp[]
  refine aA (Zry (e:=251) (rw:=true) ?_ hl) ?_
  ·simp
  rintro v h2 n2 k2 ⟨t,rfl,hle,ht,hte⟩
  have oP:h2.get n1=some (.cells (nL 10) 251 true):=by
   rw[k2.get _ (by omega)]
   simp
  simp[]
  refine aA (Zt5 (e:=251) (rw:=true) oP (by omega)) ?_
  rintro v h3 n3 k3 ⟨u,rfl,zaI,hu,hue⟩
  have kk:ab h N h3 n3:=(((k1.set k1.le).set k1.le).up (uz n1)).trans (k2.trans k3)
  simp[az]
  exact⟨k1.le,kk,u,rfl,by omega,by rw[hu,ht],fun h=>hue (by rw[ht];exact h)⟩
def WB{s:aQ}{h:T O}{N:Nat}(hl:s.length<4611686018427387904):Fn A.C 191 [.str s] h N (fun v _ _=>v=.bool (iP s)):=by
 intro w
 rw[aO,A.k191 (by simp)]
 cases s with
 |nil=>simp[A.b191,az,iP];exact ab.refl
 |cons c s=>
  simp[A.b191]
  refine aA (Zya hl) ?_
  rintro v h1 n1 k1 ⟨t,rfl,hle,ht,hte⟩
  have hd:iP (c::s)=(cH (c::s)&&(decide (cK c≠48)||decide (s=[]))):=by
   have:decide (c.toNat≠48)=decide (cK c≠48):=by unfold cK;rw[decide_eq_decide];omega
   simp only[iP,this];rfl
  by_cases ha:cH (c::s)=true
  ·have:=hte ha
   subst this
   by_cases h0:cK c=48
   ·have hc:c=48:=by unfold cK at h0;exact UInt8.toNat_inj.1 (by show c.toNat=48;omega)
    subst hc
    simp[hd,ha,h0,az,k1]
    cases s<;>rfl
   ·simp[hd,ha,h0,az,k1]
  ·have ha:cH (c::s)=false:=by simpa using ha
   rw[ha]at ht
   have e1:(t==[])=false:=by
    cases t with
    |nil=>cases ht
    |cons=>rfl
   have e2:t.isEmpty=false:=by
    cases t with
    |nil=>cases ht
    |cons=>rfl
   simp[hd,ha,e1,az,k1]
def A.qX:av:=sr [bi 50 .lss 49 48]
 (.seq (cd 50
 (.skip)
 (.exit 0))
 (.seq (.block 1 (sr [ia 51 1 47 49,ld 52 51,mv 8 52]
 (sr [mv 53 8,ge 54 (.bin .sub (.node []) false (tq 53) (.const (.int .u8 48))),mv 8 54]
 (.seq (sr [mv 55 8,ge 56 (.bin .gtr (.node []) false (tq 55) (.const (.int .u8 9)))]
 (cd 56
 (sr [ge 57 (.e_ 258 (kq 2)),mc 2 0,mv 3 57]
 (.ret))
 (.skip)))
 (.aR [mv 58 6,bc 59 .mul 58 10,mv 60 8,ge 61 (.bj .i64 (tq 60)),bi 62 .add 59 61,mv 6 62])))))
 (.aR [bc 63 .add 49 1,mv 49 63])))
def A.b245:av:=sr [mc 2 0,ge 3 (.ba (.const .aY))]
 (sr [mv 11 0,ge 12 (.len 0 (tq 11)),mv 4 12]
 (.seq (sr [ge 13 (.ba (.const (.bool false))),mg 14 4 13,gy 15 13 (.bin .lss (.node []) false (kq 0) (tq 14)),mg 16 15 13,mg 17 4 16,gy 18 16 (.bin .lss (.node []) false (tq 17) (kq 10)),gy 19 13 (.pick (tq 16) (tq 18) (.const (.bool false))),pf 20 13 19,mv 21 20,gz 22 21 (.ba (.const (.bool true))),mg 23 4 22,gy 24 22 (.bin .lss (.node []) false (kq 0) (tq 23)),mg 25 24 22,mg 26 4 25,gy 27 25 (.bin .lss (.node []) false (tq 26) (kq 19)),gy 28 22 (.pick (tq 25) (tq 27) (.const (.bool false))),gz 29 21 (.pick (tq 22) (tq 28) (.const (.bool false))),pt 30 21 29]
 (cd 30
 (sr [mv 31 0,mv 5 31]
 (.seq (sr [mv 32 0,ge 33 (.aZ (tq 32) (kq 0)),ge 34 (.bin .eql (.aM .int) true (tq 33) (.const (.int .u8 45))),mv 35 34,mh 36 0 35,gz 37 35 (.aZ (tq 36) (kq 0)),gz 38 35 (.bin .eql (.aM .int) true (tq 37) (.const (.int .u8 43))),pt 39 35 38]
 (cd 39
 (sr [mv 40 0,ge 41 (.aD (tq 40) (some (kq 1)) none),mv 0 41]
 (sr [mv 42 0,ge 43 (.len 0 (tq 42)),bc 44 .lss 43 1]
 (cd 44
 (sr [ge 45 (.e_ 258 (kq 2)),mc 2 0,mv 3 45]
 (.ret))
 (.skip))))
 (.skip)))
 (sr [mc 6 0]
 (.seq (sr [mv 46 0,ge 47 (.gI 5 (tq 46)),ln 48 47,mc 49 0]
 (.block 0 (.loop A.qX)))
 (.seq (sr [mv 64 5,ge 65 (.aZ (tq 64) (kq 0)),ge 66 (.bin .eql (.aM .int) true (tq 65) (.const (.int .u8 45)))]
 (cd 66
 (.aR [mv 67 6,ge 68 (.un .neg (tq 67)),mv 6 68])
 (.skip)))
 (sr [mv 69 6,mv 2 69,ge 3 (.ba (.const .aY))]
 (.ret)))))))
 (.skip)))
 (sr [mv 71 0,ge 72 (.call (fq 270) [tq 71,.const (.int .i64 10),.const (.int .i64 0)]),mv 70 72,xt 73 70 0,xt 74 70 1,mv 9 73,mv 10 74]
 (sr [mv 75 9,mv 76 10,mv 2 75,mv 3 76]
 (.ret)))))
def A.c245:A.F 245=some ⟨77,[.tmp 2,.tmp 3],A.b245⟩:=by kernel_rfl
def A.k245:=@A.kk 245 _ _ _ A.c245 rfl
def A.b208:av:=sr [mc 2 0,ge 3 (.ba (.const .aY))]
 (sr [mv 7 0,c1 8 245 7,mv 6 8,xt 9 6 0,xt 10 6 1,mv 4 9,mv 5 10]
 (.seq (sr [mv 11 5,ge 12 (.bin .neq (.aM .iface) true (tq 11) (.const .aY))]
 (cd 12
 (sr [mv 13 4,mv 14 0,mv 15 5,ge 16 (.call (fq 246) [(.const (.str [65,116,111,105])),tq 14,.const (.int .i64 0),.const (.int .i64 0),tq 15]),mv 2 13,mv 3 16]
 (.ret))
 (.skip)))
 (sr [mv 17 4,mv 2 17,ge 3 (.ba (.const .aY))]
 (.ret))))
def A.c208:A.F 208=some ⟨18,[.tmp 2,.tmp 3],A.b208⟩:=by kernel_rfl
def A.k208:=@A.kk 208 _ _ _ A.c208 rfl
def Yin{s:aQ}{h:T O}{N:Nat}(hd:cH s=true)(h1:1<=s.length)(h2:s.length<=18):Fn A.C 245 [.str s] h N (fun v _ _=>v=.bg [.int .i64 (aH s:Nat),.aY]):=by
 intro w
 obtain⟨c,hc⟩:=bp (l:=s) (k:=0) (by omega)
 have oQ:=Kn hd hc
 have a1:¬cK c=45:=by omega
 have a2:¬cK c=43:=by omega
 have a3:(0:Int)<(s.length:Int):=by omega
 have a5:(s.length:Int)<19:=by omega
 have gY:0<s.length:=by omega
 have bB:s≠[]:=fun h=>by rw[h]at h1;simp at h1
 have fP:s.head?=some c:=by cases s with
  |nil=>simp at hc
  |cons=>simpa using hc
 rw[aO,A.k245 (by simp)]
 by_cases a4:(s.length:Int)<10
 all_goals
  simp(disch:=first|(simp;done)|omega|(simp only[bI,cC,bD];omega)|rfl) [-getElem?_pos,A.b245,a5,gY,hc,a1,a2]
  refine bP [(2,3),(6,6),(8,8),(49,63)] (fun e r st=>st.n=N+1/\ax N st.w=[]/\ab h N st.h (N+1)/\e=.exit 0/\r.get 6=some (.int .i64 (aH s:Nat))) (fun m r st=>st.n=N+1/\ax N st.w=[]/\ab h N st.h (N+1)/\st.h.get N=some (.cells (GI s) 5 true)/\∃k,m=s.length-k/\k<=s.length/\r.get 49=some (.int .i64 k)/\r.get 6=some (.int .i64 (aH (s.take k):Nat))) s.length ?_ ?_ ?_
  ·exact⟨rfl,rfl,(ab.refl.set (aW _)).up (by omega),by simp,0,by omega,by omega,by simp,by simp[aH]⟩
  ·rintro m r ⟨H,n1,W⟩ hr hf ⟨hn,hW,hK,ak,k,rfl,hk,yJ,h6⟩
   simp only at hn hW hK ak
   subst hn
   rw[bq]
   by_cases ay:k<s.length
   ·obtain⟨c,hc⟩:=bp ay
    have sX:=Kn hd hc
    have hb:=Yao hc
    have hv:=Ul hc
    have ED:=OF hd k hk
    have pe:=OG (a:=k) (b:=17) (by omega)
    have b1:¬9<cK c-48:=by omega
    have b2:bu .u8 (cK c-48)=cK c-48:=AY (by omega) (by omega)
    have b3:((aH (s.take (k+1)):Nat):Int)=(aH (s.take k):Nat)*10+(cK c-48):=by
     rw[hv];unfold cK at*;omega
    have b4:((aH (s.take k):Nat):Int)<100000000000000000:=by
     have:(10:Nat)^17=100000000000000000:=by decide
     omega
    generalize hy:aH (s.take (k+1))=y at*
    generalize aH (s.take k)=x at*
    simp(disch:=first|(simp;done)|omega|(simp only[bI,cC,bD];omega)|rfl) [A.qX,hr,hf,yJ,h6,ay,ak,hb,b1,b2,hW]
    exact⟨_,by omega,hK,k+1,rfl,by omega,by simp,by rw[hy,b3]⟩
   ·have:k=s.length:=by omega
    subst this
    simp[A.qX,hr,hf,yJ,hW]
    rw[wo]at h6
    exact⟨hK,h6⟩
  ·rintro _ r ⟨H,n1,W⟩ hr ⟨hn,hW,hK,rfl,h6⟩
   simp only at hn hW hK
   subst hn
   simp[hr,az,hW,hK,h6,hc,a1]
def Ypa{s:aQ}{h:T O}{N:Nat}(hd:cH s=true)(h1:1<=s.length)(h2:s.length<=18):Fn A.C 208 [.str s] h N (fun v _ _=>v=.bg [.int .i64 (aH s:Nat),.aY]):=by
 intro w
 rw[aO,A.k208 (by simp)]
 simp[A.b208]
 refine aA (Yin hd h1 h2) ?_
 rintro v h1 n1 k1 rfl
 simp[aI,az,k1]
variable {M N a k o:Nat} {h:T O} {s:aQ}
set_option maxHeartbeats 2000000
def A.jI:av:=.seq (sr [mv 7 1,bc 8 .gtr 7 0]
 (cd 8
 (.skip)
 (.exit 0)))
 (.seq (.block 1 (.seq (sr [mv 11 1,bc 12 .and 11 1,ei 13 12 1]
 (cd 13
 (.aR [lN 14 2 5,lN 15 2 2,c2 16 148 14 15,gn (.store 2 (tq 5) (tq 16))])
 (.skip)))
 (sr [mv 17 1,bc 18 .gtr 17 1]
 (cd 18
 (.aR [lN 19 2 2,lN 20 2 2,c2 21 148 19 20,gn (.store 2 (tq 2) (tq 21))])
 (.skip)))))
 (.aR [mv 9 1,ge 10 (.bin .shr (.node []) false (tq 9) (.const (.int .u64 1))),mv 1 10]))
def A.b209:av:=sr [bx 2 101 0,ge 4 (.alloc [.int .i64 0,.aa] 101)]
 (sr [ge 6 (.call (fq 163) [.const (.int .i64 1)]),ge 5 (.alloc [.int .i64 0,.aa] 101),gn (.store 2 (tq 5) (tq 6))]
 (.seq (.block 0 (.loop A.jI))
 (sr [lN 22 2 5,gn (.store 2 (tq 4) (tq 22))]
 (.ret))))
def A.c209:A.F 209=some ⟨23,[.cell 4 (some 2)],A.b209⟩:=by kernel_rfl
def A.k209:=@A.kk 209 _ _ _ A.c209 rfl
def A.m8:av:=.seq (sr [mv 13 0,ge 14 (.len 0 (tq 13)),bc 15 .gtr 14 0]
 (cd 15
 (.skip)
 (.exit 0)))
 (.block 1 (sr [mv 16 0,ge 17 (.len 0 (tq 16)),ge 18 (.mn [.const (.int .i64 18),tq 17]),mv 5 18]
 (sr [mv 20 0,mv 21 5,ge 22 (.aD (tq 20) none (some (tq 21))),c1 23 208 22,mv 19 23,xt 24 19 0,xt 25 19 1,mv 6 24,mv 7 25]
 (.seq (.aX [lN 26 2 4,ge 27 (.call (fq 163) [.const (.int .i64 10)]),mv 28 5,c2 29 209 27 28,c2 30 148 26 29,mv 31 6,c1 32 163 31,c2 33 146 30 32,gn (.store 2 (tq 4) (tq 33))] [0,0,0,6,15,0,63,127,255])
 (.aR [mv 34 0,mv 35 5,ge 36 (.aD (tq 34) (some (tq 35)) none),mv 0 36])))))
def A.b150:av:=sr [ge 2 (.alloc [.int .i64 0,.aa] 101)]
 (sr [mv 8 0,ge 9 (.call (fq 206) [tq 8,(.const (.str [45]))]),mv 3 9]
 (sr [mv 10 0,ge 11 (.call (fq 207) [tq 10,(.const (.str [45]))]),mv 0 11]
 (sr [ge 12 (.build [.int .i64 0,.aa] []),ge 4 (.alloc [.int .i64 0,.aa] 101),gn (.store 2 (tq 4) (tq 12))]
 (.seq (.block 0 (.loop A.m8))
 (.seq (sr [mv 37 3]
 (cd 37
 (sr [lN 38 2 4,c1 39 189 38,gn (.store 2 (tq 2) (tq 39))]
 (.ret))
 (.skip)))
 (sr [lN 40 2 4,gn (.store 2 (tq 2) (tq 40))]
 (.ret)))))))
def A.c150:A.F 150=some ⟨41,[.cell 2 (some 2)],A.b150⟩:=by kernel_rfl
def A.k150:=@A.kk 150 _ _ _ A.c150 rfl
def Yg5(h:o*a^k=M)(ha:1<=a)(ho:1<=o)(hk:1<=k):o*a<=M/\a<=M/\o<=M:=by
 have h1:a^1<=a^k:=sK ha hk
 rw[Nat.pow_one]at h1
 have h2:o*a<=o*a^k:=kg o h1
 have h3:1*a<=o*a:=lV a ho
 have h4:o*1<=o*a:=kg o ha
 omega
def Yqc(h:o*a^k=M)(ha:1<=a)(ho:1<=o)(hk:1<k):a*a<=M:=by
 have h1:a^2<=a^k:=sK ha hk
 have h2:1*a^k<=o*a^k:=lV _ ho
 have h3:a^2=a*a:=by rw[Nat.pow_two]
 omega
def Yqd(h:o*a^k=M)(hk:k%2=1):(o*a)*(a*a)^(k/2)=M:=by
 rw[<-h,<-Nat.pow_two,<-Nat.pow_mul,Dz]
 congr 1
 conv=>rhs;rw[show k=2*(k/2)+1 by omega,gE]
 rw[iX]
def Ymk(h:o*a^k=M)(hk:k%2=0):o*(a*a)^(k/2)=M:=by
 rw[<-h,<-Nat.pow_two,<-Nat.pow_mul,show 2*(k/2)=k by omega]
structure Qk (h:T O) (N q M m:Nat) (r:T V) (st:St):Prop where
 w:ax N st.w=[]
 ae:ab h N st.h st.n
 q1:N+2<=q
 q2:q<st.n
 row:st.h.get (N+1)=some (.cells [.int .i64 0,.aa] 101 true)
 r1:r.get 1=some (.int .i64 m)
 lm:m<4611686018427387904
 ex:∃(n1 n2:Int) (u1 u2:V) (a o:Nat),st.h.get N=some (.cells [.int .i64 n1,u1] 101 true)/\st.h.get q=some (.cells [.int .i64 n2,u2] 101 true)/\In st.h st.n (.agg [.int .i64 n1,u1]) a/\In st.h st.n (.agg [.int .i64 n2,u2]) o/\o*a^m=M/\1<=a/\1<=o/\wl a<10000000000
def Yg8{q:Nat}{r0:T V}(hM:wl M<10000000000)(a2:r0.get 2=some (.ptr N 0))(a5:r0.get 5=some (.ptr q 0)):
  ∀x r st,(∀t,jD [(1,1),(7,21)] t=false->r.get t=r0.get t)->Fx [(1,1),(7,21)] r0 23 ⟨r,23,[]⟩->Qk h N q M x r st->Code A.C none A.jI ⟨r,23,[]⟩ st (Rd [(1,1),(7,21)] r0 23 (Qk h N q M) x (fun e r st=>e=.exit 0/\Qk h N q M 0 r st)):=by
 rintro m r ⟨H,n0,W⟩ hr hf ⟨hW,hK,pr,jV,ak,r1,lm,n1,n2,u1,u2,a,o,g0,g1,ha,ho,qV,a1,o1,la⟩
 simp only at hW hK jV ak g0 g1 ha ho
 rw[bq]
 have b1:=Yjo (k:=m) (by omega)
 have b2:=Ygp (k:=m)
 by_cases h0:m=0
 ·subst h0
  simp[A.jI,hf,r1]
  exact⟨hW,hK,pr,jV,ak,by simp[r1],by omega,n1,n2,u1,u2,a,o,g0,g1,ha,ho,qV,a1,o1,la⟩
 ·have c1:(0:Int)<(m:Int):=by omega
  have c2:0<m:=by omega
  obtain⟨t1,t2,t3⟩:=Yg5 qV a1 o1 c2
  have lo:wl o<10000000000:=rW (GV (a:=(o:Int)) (b:=(M:Int)) (by omega)) hM
  have loa:wl ((o*a:Nat):Int)<10000000000:=rW (GV (a:=((o*a:Nat):Int)) (b:=(M:Int)) (by omega)) hM
  obtain⟨_,_,e5,o5⟩:=ha.cells
  simp only[V.agg.injEq,iO,V.int.injEq,true_and,and_true]at e5
  obtain⟨rfl,rfl⟩:=e5
  unfold V.one at o5
  have ik:¬q<N:=by omega
  by_cases hp:m%2=1
  ·have p1:(m:Int)%2=1:=by omega
   simp[A.jI,hr,r1,a2,a5,c2,b1,hp,g0,g1,aS,aE]
   refine aA (CS ho ha (by omega) (by omega)) ?_
   rintro v h3 n3 k3 hv
   rw[<-Ir]at hv
   obtain⟨n6,u6,rfl,o6⟩:=hv.cells
   unfold V.one at o6
   have jd:=k3.le
   have f0:=(k3.get N (by omega)).trans g0
   have f1:=(k3.get q (by omega)).trans g1
   have f2:=(k3.get (N+1) (by omega)).trans ak
   have d1:¬N=q:=by omega
   have d2:¬N+1=q:=by omega
   have d3:¬q=N:=by omega
   have Xm:=(ha.ae k3).aK (c1:=[.int .i64 n6,u6]) (e1:=101) (w1:=true) f1 ho.nu rfl
   have P4:=hv.aK (c1:=[.int .i64 n6,u6]) (e1:=101) (w1:=true) f1 ho.nu rfl
   have Xn:(h3.set q (.cells [.int .i64 n6,u6] 101 true)).get N=some (.cells [.int .i64 n1,u1] 101 true):=by rw[T.ag,ar d1];exact f0
   have MC:(h3.set q (.cells [.int .i64 n6,u6] 101 true)).get q=some (.cells [.int .i64 n6,u6] 101 true):=by simp
   have Ql:(h3.set q (.cells [.int .i64 n6,u6] 101 true)).get (N+1)=some (.cells [.int .i64 0,.aa] 101 true):=by rw[T.ag,ar d2];exact f2
   have kH:=(hK.trans k3).set (i:=q) (o:=.cells [.int .i64 n6,u6] 101 true) (by omega)
   by_cases xh:1<m
   ·have p2:(1:Int)<(m:Int):=by omega
    have t4:=Yqc qV a1 o1 xh
    have Xo:wl ((a*a:Nat):Int)<10000000000:=rW (GV (a:=((a*a:Nat):Int)) (b:=(M:Int)) (by omega)) hM
    generalize hH:h3.set q (.cells [.int .i64 n6,u6] 101 true)=H3 at*
    simp[r1,hr,a2,a5,f1,o6,ad,bO,p2,hH,Xn,aS,aE]
    refine aA (CS Xm Xm (by omega) (by omega)) ?_
    rintro v h4 n4 k4 Mo
    rw[<-Ir]at Mo
    obtain⟨n7,u7,rfl,o7⟩:=Mo.cells
    unfold V.one at o7
    have tm:=k4.le
    have e0:=(k4.get N (by omega)).trans Xn
    have e1:=(k4.get q (by omega)).trans MC
    have e2:=(k4.get (N+1) (by omega)).trans Ql
    simp[r1,hr,hf,a2,e0,o7,ad,bO,b2]
    refine⟨m/2,by omega,by simp[ax,hW,ik],(kH.trans k4).set (aW _),pr,by show q<n4;omega,by simp[e2],by simp,by omega,n7,n6,u7,u6,a*a,o*a,by simp,by simp[d3,e1],Mo.aK e0 ha.nu rfl,(P4.ae k4).aK e0 ha.nu rfl,Yqd qV hp,zc a1 a1,zc o1 a1,Xo⟩
   ·have p2:¬(1:Int)<(m:Int):=by omega
    have m0:m/2=0:=by omega
    have m1':m=1:=by omega
    simp[r1,hr,hf,a5,f1,o6,ad,bO,p2,b2]
    refine⟨m/2,by omega,by simp[ax,hW,ik],kH,pr,by show q<n3;omega,Ql,by simp,by omega,n1,n6,u1,u6,a,o*a,Xn,MC,Xm,P4,by rw[m0,<-qV,m1'];simp,a1,zc o1 a1,la⟩
  ·have p1:¬(m:Int)%2=1:=by omega
   have p0:m%2=0:=by omega
   have p2:(1:Int)<(m:Int):=by omega
   have xh:1<m:=by omega
   have t4:=Yqc qV a1 o1 xh
   have Xo:wl ((a*a:Nat):Int)<10000000000:=rW (GV (a:=((a*a:Nat):Int)) (b:=(M:Int)) (by omega)) hM
   simp[A.jI,hr,r1,a2,c2,b1,p1,p2,g0,aS,aE]
   refine aA (CS ha ha (by omega) (by omega)) ?_
   rintro v h3 n3 k3 hv
   rw[<-Ir]at hv
   obtain⟨n6,u6,rfl,o6⟩:=hv.cells
   unfold V.one at o6
   have jd:=k3.le
   have f0:=(k3.get N (by omega)).trans g0
   have f1:=(k3.get q (by omega)).trans g1
   have f2:=(k3.get (N+1) (by omega)).trans ak
   have d3:¬q=N:=by omega
   simp[r1,hr,hf,a2,f0,o6,ad,bO,b2]
   refine⟨m/2,by omega,by simp[ax,hW],(hK.trans k3).set (aW _),pr,by show q<n3;omega,by simp[f2],by simp,by omega,n6,n2,u6,u2,a*a,o,by simp,by simp[d3,f1],hv.aK f0 ha.nu rfl,(ho.ae k3).aK f0 ha.nu rfl,Ymk qV p0,zc a1 a1,o1,Xo⟩
def Yqf{x:V}(hx:In h N x a)(ha:1<=a)(hk:k<4611686018427387904)(la:wl a<10000000000)(hM:wl ((a^k:Nat):Int)<10000000000):Fn A.C 209 [x,.int .i64 k] h N (fun v h' n'=>In h' n' v ((a^k:Nat):Int)):=by
 intro w
 rw[aO,A.k209 (by simp)]
 obtain⟨n1,u1,rfl,o1⟩:=hx.cells
 have kk:=aP (aP (ab.refl (h:=h) (n:=N)) (.cells [.int .i64 n1,u1] 101 true)) (.cells [.int .i64 0,.aa] 101 true)
 have lI:=hx.ae kk
 unfold V.one at o1
 simp[A.b209,o1]
 refine aA GP ?_
 rintro _ h1 m1 k1 rfl
 have fl:=k1.le
 have g0:=k1.get N (by omega)
 have g1:=k1.get (N+1) (by omega)
 simp at g0 g1
 have sW:=lI.ae k1
 have d1:¬N=m1:=by omega
 have d2:¬N+1=m1:=by omega
 have ik:¬m1<N:=by omega
 have kE:=(aP (ab.refl (h:=h1) (n:=m1)) (.cells [.int .i64 0,.aa] 101 true)).set (i:=m1) (o:=.cells [.int .i64 1,.aa] 101 true) (aW _)
 simp[ad,bO]
 refine bP [(1,1),(7,21)] _ (Qk h N m1 (a^k)) k ?_ (Yg8 hM (by simp) (by simp)) ?_
 ·refine⟨by simp[ax,ik],((kk.trans k1).trans kE),by omega,by show m1<m1+1;omega,by simp[d2,g1],by simp,hk,n1,1,u1,.aa,a,1,by simp[d1,g0],by simp,sW.ae kE,In.small (by omega) (by omega),by simp,ha,by omega,la⟩
 rintro e r ⟨h5,m5,W5⟩ hr ⟨rfl,hW,hK,pr,jV,ak,r1,lm,n5,n6,u5,u6,a',o,g5,g6,ha5,jl,qV,a1,o1',Ez⟩
 simp only at hW hK jV ak g5 g6 ha5 jl
 obtain⟨_,_,e5,o5⟩:=jl.cells
 simp only[V.agg.injEq,iO,V.int.injEq,true_and,and_true]at e5
 obtain⟨rfl,rfl⟩:=e5
 unfold V.one at o5
 have he:(o:Int)=((a^k:Nat):Int):=by rw[<-qV];simp
 rw[he]at jl
 have ik:¬N+1<N:=by omega
 simp[hr,g6,ak,aS,aE,ad,bO,o5,az,hW,ik]
 exact⟨hK.set (by omega),jl.aK ak (by simp) rfl⟩
def Ycq(x:aQ):∀(y:aQ),aH (x++y)=aH x*10^y.length+aH y:=by
 intro y
 generalize hn:y.length=n
 induction n generalizing y with
 |zero=>
  have:y=[]:=qj hn
  subst this;simp[aH]
 |succ n ih=>
  obtain⟨u,d,rfl⟩:∃u d,y=u++[d]:=⟨y.dropLast,y.getLast (by rintro rfl;simp at hn),(TY _).symm⟩
  simp at hn
  rw[<-tL,Km,Km,ih u hn,gE]
  grind
def EB{n:Nat}(h:n<10^k):wl n<=k:=by
 unfold wl
 apply Xp
 have:(10:Nat)^k<=B^k:=FH (by decide) k
 simp;omega
def Zqa(h:cH s=true)(k:Nat):cH (s.take k)=true:=by
 unfold cH at*
 rw[lA]at*
 exact fun x hx=>h x (ym hx)
def Yar(h:cH s=true)(k:Nat):cH (s.drop k)=true:=by
 unfold cH at*
 rw[lA]at*
 exact fun x hx=>h x (Im hx)
structure Qm (h:T O) (N:Nat) (s:aQ) (m:Nat) (r:T V) (st:St):Prop where
 w:ax N st.w=[]
 ae:ab h N st.h st.n
 le:N+2<=st.n
 row:st.h.get N=some (.cells [.int .i64 0,.aa] 101 true)
 ex:∃(cur:aQ) (p:Nat) (n1:Int) (u1:V),r.get 0=some (.str cur)/\cur.length=m/\m<=s.length/\cH cur=true/\st.h.get (N+1)=some (.cells [.int .i64 n1,u1] 101 true)/\In st.h st.n (.agg [.int .i64 n1,u1]) p/\aH s=p*10^m+aH cur
def Yb8{r0:T V}(hd:cH s=true)(hl:s.length<=100000)(a4:r0.get 4=some (.ptr (N+1) 0)):
  ∀x r st,(∀t,jD [(0,0),(5,7),(13,36)] t=false->r.get t=r0.get t)->Fx [(0,0),(5,7),(13,36)] r0 41 ⟨r,41,[]⟩->Qm h N s x r st->Code A.C none A.m8 ⟨r,41,[]⟩ st (Rd [(0,0),(5,7),(13,36)] r0 41 (Qm h N s) x (fun e r st=>e=.exit 0/\Qm h N s 0 r st)):=by
 rintro m r ⟨H,n0,W⟩ hr hf ⟨hW,hK,hle,ak,cur,p,n1,u1,eC,cO,hms,oQ,g1,hp,hv⟩
 simp only at hW hK hle ak g1 hp
 rw[bq]
 by_cases h0:m=0
 ·subst h0
  have:cur=[]:=qj cO
  subst this
  simp[A.m8,hf,eC]
  exact⟨hW,hK,hle,ak,[],p,n1,u1,by simp[eC],rfl,by omega,rfl,g1,hp,hv⟩
 ·obtain⟨n,hn⟩:∃n,n=min 18 m:=⟨_,rfl⟩
  have c1:0<cur.length:=by omega
  have c2:(0:Int)<(cur.length:Int):=by omega
  have c3:(if (cur.length:Int)<18 then (cur.length:Int) else 18)=(n:Int):=by split<;>omega
  have c4:(n:Int)<=(cur.length:Int):=by omega
  have su:p<=aH s:=by
   rw[hv]
   have:p*1<=p*10^m:=kg p (zm (by decide))
   omega
  have cE:=AZ hd
  have lp:wl (p:Int)<=100000:=sJ (EB (rW su cE)) hl
  have Xq:=fun (h:T O) (N:Nat)=>Ypa (s:=cur.take n) (h:=h) (N:=N) (Zqa oQ n) (by rw[gm];omega) (by rw[gm];omega)
  have l10:wl ((10:Nat):Int)<10000000000:=by decide+kernel
  have lpw:wl ((10^n:Nat):Int)<=19:=EB (Nat.pow_lt_pow_right (by decide) (by omega))
  have EE:=AZ (Zqa oQ n)
  have htl:(cur.take n).length=n:=by rw[gm];omega
  rw[htl]at EE
  have h18:(10:Nat)^n<=10^18:=sK (by decide) (by omega)
  have e18:(10:Nat)^18=1000000000000000000:=by decide
  have lnv:wl ((aH (cur.take n):Nat):Int)<=18:=sJ (EB EE) (by omega)
  simp[A.m8,eC,c1,yu,BT,xK,c3,c4,aC]
  refine aA (Xq _ _) ?_
  rintro _ h1 m1 k1 rfl
  have fl:=k1.le
  have f1:=(k1.get (N+1) (by omega)).trans g1
  simp[a4,hr,f1,aS,aE]
  refine aA GP ?_
  rintro _ h2 m2 k2 rfl
  have gX:=k2.le
  simp[]
  refine aA (Yqf (In.small (z:=(10:Nat)) (by omega) (by omega)) (by omega) (by omega) l10 (by omega)) ?_
  rintro vp h3 m3 k3 hvp
  have jd:=k3.le
  simp[]
  refine aA (CS (((hp.ae k1).ae k2).ae k3) hvp (by omega) (by omega)) ?_
  rintro vm h4 m4 k4 hvm
  have tm:=k4.le
  have lm:=Hk (p:Int) ((10^n:Nat):Int)
  simp[]
  refine aA GP ?_
  rintro _ h5 m5 k5 rfl
  have Hl:=k5.le
  simp[]
  refine aA (Mi (hvm.ae k5) (In.small (z:=((aH (cur.take n):Nat):Int)) (by omega) (by omega)) (by omega) (by omega)) ?_
  rintro va h6 m6 k6 Xr
  have zaJ:=k6.le
  have k26:=(((k2.trans k3).trans k4).trans k5).trans k6
  have e1:=(k26.get (N+1) (by omega)).trans f1
  have e2:=(k26.get N (by omega)).trans ((k1.get N (by omega)).trans ak)
  obtain⟨n6,u6,rfl,o6⟩:=Xr.cells
  unfold V.one at o6
  have z1:N+1<m1:=by omega
  have z2:N+1<m6:=by omega
  have z3:¬N+1<N:=by omega
  have z4:N+1<m5:=by omega
  simp[hr,hf,a4,eC,e1,o6,z1,z2,z4,ad,bO,aC,c4,cA.cB]
  have AE:(p:Int)*((10^n:Nat):Int)+((aH (cur.take n):Nat):Int)=((p*10^n+aH (cur.take n):Nat):Int):=by simp
  rw[AE]at Xr
  refine⟨m-n,by omega,by simp[ax,hW,z3],((hK.trans k1).trans k26).set (by omega),by show N+2<=m6;omega,by simp[e2],cur.drop n,p*10^n+aH (cur.take n),n6,u6,by simp,by rw[xE];omega,by omega,Yar oQ n,by simp,Xr.aK e1 hp.nu rfl,?_⟩
  have h1:=Ycq (cur.take n) (cur.drop n)
  rw[BL,xE,cO]at h1
  rw[hv,h1,iW,Dz,<-kQ,show n+(m-n)=m by omega]
  omega
def Yb9{s:aQ}{h:T O}{N:Nat}(hd:cH (bC s)=true)(hl:(bC s).length<=100000):Fn A.C 150 [.str s] h N (fun v h' n'=>In h' n' v (if cI s=true then -(aH (bC s):Int) else (aH (bC s):Int))):=by
 intro w
 rw[aO,A.k150 (by simp)]
 simp[A.b150,Zs6,Zj1,ad]
 refine bP [(0,0),(5,7),(13,36)] _ (Qm h N (bC s)) (bC s).length ?_ (Yb8 hd hl (by simp)) ?_
 ·have kk:=(aP (aP (ab.refl (h:=h) (n:=N)) (.cells [.int .i64 0,.aa] 101 true)) (.cells [.int .i64 0,.aa] 101 true)).set (i:=N+1) (o:=.cells [.int .i64 0,.aa] 101 true) (by omega)
  exact⟨by simp[ax],kk,aW _,by simp,bC s,0,0,.aa,by simp,rfl,aW _,hd,by simp,In.small (by omega) (by omega),by simp⟩
 rintro e r ⟨h5,m5,W5⟩ hr ⟨rfl,hW,hK,hle,ak,cur,p,n1,u1,eC,cO,hms,oQ,g1,hp,hv⟩
 simp only at hW hK hle ak g1 hp
 have:cur=[]:=qj cO
 subst this
 have hv:aH (bC s)=p:=by rw[hv];simp[aH]
 have lp:wl (p:Int)<=100000:=by rw[<-hv];exact sJ (EB (AZ hd)) hl
 obtain⟨_,_,e5,o5⟩:=hp.cells
 simp only[V.agg.injEq,iO,V.int.injEq,true_and,and_true]at e5
 obtain⟨rfl,rfl⟩:=e5
 unfold V.one at o5
 have ik:¬N<N:=by omega
 cases hn:cI s with
 |true=>
  simp[hr,hn,g1,aS,aE]
  refine aA (Je hp (by omega)) ?_
  rintro v h6 m6 k6 hv6
  obtain⟨n6,u6,rfl,o6⟩:=hv6.cells
  unfold V.one at o6
  have e0:=(k6.get N (by omega)).trans ak
  have vt:=k6.le
  simp[hr,e0,o6,aS,aE,ad,bO,az,hW]
  exact⟨(hK.trans k6).set (aW _),by rw[hv];exact hv6.aK e0 (by simp) rfl⟩
 |false=>
  simp[hr,hn,g1,ak,o5,aS,aE,ad,bO,az,hW]
  exact⟨hK.set (aW _),by rw[hv];exact hp.aK ak (by simp) rfl⟩
variable {N:Nat} {h:T O} {w:List Nat}
def A.qY:av:=sr [bi 8 .lss 7 6]
 (.seq (cd 8
 (.skip)
 (.exit 0))
 (.seq (.block 1 (sr [ia 9 1 5 7,ld 10 9,mv 4 10]
 (sr [mv 11 4,ni 12 11 0]
 (cd 12
 (sr [mv 13 4,mv 2 13]
 (.ret))
 (.skip)))))
 (.aR [bc 14 .add 7 1,mv 7 14])))
def A.b70:av:=sr [mc 2 0]
 (.seq (sr [mv 5 0,ln 6 5,mc 7 0]
 (.block 0 (.loop A.qY)))
 (sr [mc 2 0]
 (.ret)))
def A.c70:A.F 70=some ⟨15,[.tmp 2],A.b70⟩:=by kernel_rfl
def A.k70:=@A.kk 70 _ _ _ A.c70 rfl
def A.m_:av:=sr [bi 8 .lss 7 6]
 (.seq (cd 8
 (.skip)
 (.exit 0))
 (.seq (.block 1 (sr [ia 9 1 5 7,ld 10 9,mv 4 10]
 (sr [mv 11 4,ni 12 11 0]
 (cd 12
 (sr [mv 13 4,mv 2 13]
 (.ret))
 (.skip)))))
 (.aR [bc 14 .add 7 1,mv 7 14])))
def A.b192:av:=sr [mc 2 0]
 (.seq (sr [mv 5 0,ln 6 5,mc 7 0]
 (.block 0 (.loop A.m_)))
 (sr [mc 2 0]
 (.ret)))
def A.c192:A.F 192=some ⟨15,[.tmp 2],A.b192⟩:=by kernel_rfl
def A.k192:=@A.kk 192 _ _ _ A.c192 rfl
def Yis{v:V}{l:List Int}(hs:Sl h N v (dI l))(hl:l.length<1000):A.C.call (.func 70 [] []) [v] ⟨h,N,w⟩=some (.int .i64 (bK l),⟨h,N,w⟩):=by
 apply Call.eq
 have hlen:=hs.len
 rw[gk]at hlen
 rw[aO,A.k70 (by simp)]
 simp[A.b70,hlen]
 refine bP [(2,2),(4,4),(7,14)] (fun e r st=>st=⟨h,N,[]⟩/\((e=.exit 0/\bK l=0)\/(e=.ret/\r.get 2=some (.int .i64 (bK l))))) (fun m r st=>st=⟨h,N,[]⟩/\∃k,m=l.length-k/\k<=l.length/\r.get 7=some (.int .i64 k)/\bK l=bK (l.drop k)) l.length ?_ ?_ ?_
 ·exact⟨rfl,0,by omega,by omega,by simp,by simp⟩
 ·rintro m r _ hr hf ⟨rfl,k,rfl,hk,h7,hz⟩
  rw[bq]
  by_cases ay:k<l.length
  ·obtain⟨c,hc⟩:=bp ay
   obtain⟨i,o,cc,e,rw,q1,q2,q3,q4⟩:=hs.at (gl hc)
   rw[jq hc,bK]at hz
   have bR:(k:Int)<(l.length:Int):=by omega
   by_cases h0:c=0
   ·rw[aF h0]at hz
    simp(disch:=first|(simp;done)|omega|(simp only[bI,cC,bD];omega)|rfl) [A.qY,hr,hf,h7,bR,hlen,q1,q3,q4,h0]
    exact⟨_,by omega,k+1,rfl,by omega,by simp,hz⟩
   ·rw[ar h0]at hz
    simp[A.qY,hr,hf,h7,bR,hlen,q1,q3,q4,h0,hz]
  ·have:l.drop k=[]:=yd (by omega)
   rw[this,bK]at hz
   have:k=l.length:=by omega
   subst this
   simp[A.qY,hr,hf,h7,hz]
 ·rintro _ r _ hr ⟨rfl,⟨rfl,hz⟩|⟨rfl,h2⟩⟩
  ·simp[hz]
  ·simp[h2]
def Yct{v:V}{l:List Int}(hs:Sl h N v (dI l))(hl:l.length<1000):A.C.call (.func 192 [] []) [v] ⟨h,N,w⟩=some (.int .i64 (bK l),⟨h,N,w⟩):=by
 apply Call.eq
 have hlen:=hs.len
 rw[gk]at hlen
 rw[aO,A.k192 (by simp)]
 simp[A.b192,hlen]
 refine bP [(2,2),(4,4),(7,14)] (fun e r st=>st=⟨h,N,[]⟩/\((e=.exit 0/\bK l=0)\/(e=.ret/\r.get 2=some (.int .i64 (bK l))))) (fun m r st=>st=⟨h,N,[]⟩/\∃k,m=l.length-k/\k<=l.length/\r.get 7=some (.int .i64 k)/\bK l=bK (l.drop k)) l.length ?_ ?_ ?_
 ·exact⟨rfl,0,by omega,by omega,by simp,by simp⟩
 ·rintro m r _ hr hf ⟨rfl,k,rfl,hk,h7,hz⟩
  rw[bq]
  by_cases ay:k<l.length
  ·obtain⟨c,hc⟩:=bp ay
   obtain⟨i,o,cc,e,rw,q1,q2,q3,q4⟩:=hs.at (gl hc)
   rw[jq hc,bK]at hz
   have bR:(k:Int)<(l.length:Int):=by omega
   by_cases h0:c=0
   ·rw[aF h0]at hz
    simp(disch:=first|(simp;done)|omega|(simp only[bI,cC,bD];omega)|rfl) [A.m_,hr,hf,h7,bR,hlen,q1,q3,q4,h0]
    exact⟨_,by omega,k+1,rfl,by omega,by simp,hz⟩
   ·rw[ar h0]at hz
    simp[A.m_,hr,hf,h7,bR,hlen,q1,q3,q4,h0,hz]
  ·have:l.drop k=[]:=yd (by omega)
   rw[this,bK]at hz
   have:k=l.length:=by omega
   subst this
   simp[A.m_,hr,hf,h7,hz]
 ·rintro _ r _ hr ⟨rfl,⟨rfl,hz⟩|⟨rfl,h2⟩⟩
  ·simp[hz]
  ·simp[h2]
def G5{i:Nat}{a0 a1:Int}(hi:i<N):A.C.call (.func 192 [] []) [.slice i 0 2 (some 2) 1] ⟨h.set i (.cells [.int .i64 a0,.int .i64 a1] 28 true),N,w⟩=some (.int .i64 (bK [a0,a1]),⟨h.set i (.cells [.int .i64 a0,.int .i64 a1] 28 true),N,w⟩):=
 Yct (l:=[a0,a1]) (Sl.row (e:=28) (rw:=true) (cp:=some 2) hi (by simp[dI]) rfl (by simp)) (by simp)
def Xs{i:Nat}{a0 a1:Int}(hi:i<N):A.C.call (.func 70 [] []) [.slice i 0 2 (some 2) 1] ⟨h.set i (.cells [.int .i64 a0,.int .i64 a1] 28 true),N,w⟩=some (.int .i64 (bK [a0,a1]),⟨h.set i (.cells [.int .i64 a0,.int .i64 a1] 28 true),N,w⟩):=
 Yis (l:=[a0,a1]) (Sl.row (e:=28) (rw:=true) (cp:=some 2) hi (by simp[dI]) rfl (by simp)) (by simp)
variable {s:aQ}
set_option maxHeartbeats 1000000
def A.dV:av:=.seq (sr [mv 46 8,ge 47 (.un .not (tq 46)),ge 48 (.call (fq 193) [tq 47,.const (.int .i64 1)]),mv 49 5,ge 50 (.len 0 (tq 49)),bc 51 .gtr 50 600,mv 52 51,mh 53 6 52,gz 54 52 (.len 0 (tq 53)),gz 55 52 (.bin .gtr (.node []) false (tq 54) (kq 600)),pt 56 52 55,ge 57 (.call (fq 193) [tq 56,.const (.int .i64 4)]),ge 58 (.aV 28 1 2 [.int .i64 0,.int .i64 0] [(0,1,(tq 48)),(1,1,(tq 57))]),c1 59 192 58,mv 9 59]
 (sr [mv 60 9,ni 61 60 0]
 (cd 61
 (sr [mv 62 9,mv 2 62]
 (.ret))
 (.skip))))
 (sr [mv 63 7,mv 64 63,mg 65 5 64,gy 66 64 (.call (fq 150) [tq 65]),mg 67 6 64,gy 68 64 (.call (fq 150) [tq 67]),gy 69 64 (.call (fq 194) [tq 66,tq 68]),gy 70 64 (.call (fq 163) [.const (.int .i64 1)]),gy 71 64 (.call (fq 195) [tq 69,tq 70]),gy 72 64 (.bin .neq (.aM .int) true (tq 71) (kq 0)),pf 73 64 72,mv 10 73]
 (sr [mv 74 10,ge 75 (.call (fq 193) [tq 74,.const (.int .i64 1)]),mv 2 75]
 (.ret)))
def A.b135:av:=sr [mc 2 0]
 (sr [mv 12 0,ge 13 (.call (fq 190) [tq 12,(.const (.str [45]))]),mv 11 13,xt 14 11 0,xt 15 11 1,mv 3 14,mv 4 15]
 (sr [mv 17 3,ge 18 (.call (fq 149) [tq 17,(.const (.str [47]))]),mv 16 18,xt 19 16 0,xt 20 16 1,xt 21 16 2,mv 5 19,mv 6 20,mv 7 21]
 (sr [mv 22 5,c1 23 191 22,mv 24 23,mg 25 4 24,gy 26 24 (.un .not (tq 25)),mg 27 26 24,mh 28 5 27,gz 29 27 (.bin .neq (.aM .str) true (tq 28) (.const (.str [48]))),gy 30 24 (.pick (tq 27) (.const (.bool true)) (tq 29)),pf 31 24 30,mv 8 31]
 (.seq (sr [mv 32 7]
 (cd 32
 (.aR [mv 33 8,mv 34 33,mg 35 6 34,gy 36 34 (.call (fq 191) [tq 35]),pf 37 34 36,mv 38 37,mg 39 6 38,gy 40 38 (.bin .neq (.aM .str) true (tq 39) (.const (.str [48]))),pf 41 38 40,mv 42 41,mg 43 6 42,gy 44 42 (.bin .neq (.aM .str) true (tq 43) (.const (.str [49]))),pf 45 42 44,mv 8 45])
 (.skip)))
 A.dV))))
def A.c135:A.F 135=some ⟨76,[.tmp 2],A.b135⟩:=by kernel_rfl
def A.k135:=@A.kk 135 _ _ _ A.c135 rfl
def Zs3{s:aQ}(h:iP s=true):cH s=true/\1<=s.length:=by
 cases s with
 |nil=>cases h
 |cons c s=>
  unfold iP at h
  rw[ib]at h
  exact⟨h.1,by simp⟩
def n_(form br:Bool)(p d:aQ):Nat:=if form=false then 1 else if 600<p.length\/600<d.length then 4 else if br=true/\Nat.gcd (aH p) (aH d)≠1 then 1 else 0
def Yhr{s:aQ}(h:cH s=true):cI s=false/\bC s=s:=by
 cases s with
 |nil=>exact⟨rfl,rfl⟩
 |cons c s=>
  have hc:jU c=true:=by simp[cH]at h;exact h.1
  unfold jU at hc
  simp only[decide_eq_true_eq]at hc
  have:cI (c::s)=false:=by simp[cI];omega
  refine⟨this,?_⟩
  unfold bC;rw[this];rfl
def Zwf{h:T O}{N:Nat}(hd:cH s=true)(hl:s.length<=100000):Fn A.C 150 [.str s] h N (fun v h' n'=>In h' n' v (aH s:Nat)):=by
 obtain⟨h1,h2⟩:=Yhr hd
 have:=Yb9 (s:=s) (h:=h) (N:=N) (by rw[h2];exact hd) (by rw[h2];exact hl)
 rw[h1,h2]at this
 exact this
def Yox{H:T O}{n:Nat}{r0:T V}{p d:aQ}{form br:Bool}(hp:form=true->cH p=true)(hd:form=true->br=true->cH d=true)(lp:p.length<=100000)(ld:d.length<=100000)(a5:r0.get 5=some (.str p))(a6:r0.get 6=some (.str d))(a7:r0.get 7=some (.bool br))(a8:r0.get 8=some (.bool form)):
  Code A.C none A.dV ⟨r0,76,[]⟩ ⟨H,n,[]⟩ (fun e fr st=>e=.ret/\∃r,fr=⟨r,76,[]⟩/\r.get 2=some (.int .i64 (n_ form br p d:Nat))/\ax n st.w=[]/\ab H n st.h st.n):=by
 rw[bq]
 cases form with
 |false=>
  by_cases c1:600<p.length
  ·have c1':(600:Int)<(p.length:Int):=by omega
   simp[A.dV,a5,a8,Bi,c1',ad,G5,bK,n_]
   exact aP ab.refl _
  ·have c1':¬(600:Int)<(p.length:Int):=by omega
   by_cases c2:600<d.length
   ·have c2':(600:Int)<(d.length:Int):=by omega
    simp[A.dV,a5,a6,a8,Bi,c1',c2',ad,G5,bK,n_]
    exact aP ab.refl _
   ·have c2':¬(600:Int)<(d.length:Int):=by omega
    simp[A.dV,a5,a6,a8,Bi,c1',c2',ad,G5,bK,n_]
    exact aP ab.refl _
 |true=>
  by_cases c1:600<p.length
  ·have c1':(600:Int)<(p.length:Int):=by omega
   simp[A.dV,a5,a8,Bi,c1,c1',ad,G5,bK,n_]
   exact aP ab.refl _
  ·have c1':¬(600:Int)<(p.length:Int):=by omega
   by_cases c2:600<d.length
   ·have c2':(600:Int)<(d.length:Int):=by omega
    simp[A.dV,a5,a6,a8,Bi,c1,c2,c1',c2',ad,G5,bK,n_]
    exact aP ab.refl _
   ·have c2':¬(600:Int)<(d.length:Int):=by omega
    have c3:¬(600<p.length\/600<d.length):=by omega
    cases br with
    |false=>
     simp[A.dV,a5,a6,a7,a8,Bi,c1,c2,c1',c2',ad,G5,bK,n_]
     exact aP ab.refl _
    |true=>
     have lwp:wl ((aH p:Nat):Int)<=100000:=sJ (EB (AZ (hp rfl))) lp
     have lwd:wl ((aH d:Nat):Int)<=100000:=sJ (EB (AZ (hd rfl rfl))) ld
     simp[A.dV,a5,a6,a7,a8,Bi,c1',c2',ad,G5,bK]
     have kz:=aP (ab.refl (h:=H) (n:=n)) (.cells [.int .i64 0,.int .i64 0] 28 true)
     refine aA (Zwf (hp rfl) (by omega)) ?_
     rintro v3 h3 n3 k3 P4
     simp[a6]
     refine aA (Zwf (hd rfl rfl) (by omega)) ?_
     rintro v4 h4 n4 k4 Mo
     simp[]
     refine aA (Ykr (P4.ae k4) Mo (by omega) (by omega)) ?_
     rintro v5 h5 n5 k5 hv5
     simp[]
     refine aA GP ?_
     rintro _ h6 n6 k6 rfl
     simp[]
     have hg:Int.gcd (aH p:Nat) (aH d:Nat)=Nat.gcd (aH p) (aH d):=rfl
     rw[hg]at hv5
     have lg:wl ((Nat.gcd (aH p) (aH d):Nat):Int)<100000000000:=by
      by_cases hz:aH p=0
      ·rw[hz,Nat.gcd_zero_left];omega
      ·have:=GV (a:=((Nat.gcd (aH p) (aH d):Nat):Int)) (b:=((aH p:Nat):Int)) (by
        have:=Nat.gcd_le_left (aH d) (show 0<aH p by omega)
        omega)
       omega
     have l1:wl (1:Int)<100000000000:=by decide+kernel
     refine aA (Yrr (hv5.ae k6) (In.small (z:=1) (by omega) (by omega)) lg l1) ?_
     rintro _ h7 n7 k7 rfl
     have kk:=((((kz.trans k3).trans k4).trans k5).trans k6).trans k7
     generalize hgg:Nat.gcd (aH p) (aH d)=g at*
     by_cases g1:g=1
     ·subst g1
      simp[Bi,n_,c1,c2,dW,hgg]
      exact kk
     ·have g2:¬dW ((g:Int)-1)=0:=by unfold dW;split<;>(try split)<;>omega
      simp[Bi,n_,c1,c2,g1,g2,hgg]
      exact kk
def Zxr(hl:s.length<=100000){h:T O}{N:Nat}:Fn A.C 135 [.str s] h N (fun v _ _=>v=.int .i64 (bz s:Nat)):=by
 intro w
 have hb:(bC s).length<=s.length:=by unfold bC;split<;>simp
 have hc:=fun st=>Yk0 (s:=bC s) (st:=st) (by omega)
 rw[aO,A.k135 (by simp)]
 show bH _ _ _ (Ci (az (fun v _ _=>v=.int .i64 (I3 (cI s) (bC s):Nat)) h N w))
 unfold I3
 have hle:=Ee (bC s)
 have xh:((bC s).take (ah (bC s))).length<=100000:=by simp;omega
 have sX:((bC s).drop (ah (bC s)+1)).length<=100000:=by simp;omega
 simp[A.b135,Ztl,hc]
 generalize cI s=neg at*
 generalize pg:decide (ah (bC s)<(bC s).length)=br at*
 generalize AE:(bC s).take (ah (bC s))=p at*
 generalize Bj:(bC s).drop (ah (bC s)+1)=d at*
 clear pg AE Bj hc
 have cB:jX neg p br d=n_ (gb neg p br d) br p d:=rfl
 rw[cB]
 have fin:∀(h1:T O) (n1:Nat) (r:T V) (form:Bool),ab h N h1 n1->form=gb neg p br d->r.get 5=some (.str p)->r.get 6=some (.str d)->r.get 7=some (.bool br)->r.get 8=some (.bool form)->bH A.C [.fin [.tmp 2] ⟨h,N,w⟩] (eH (A.C.code none A.dV ⟨r,76,[]⟩ ⟨h1,n1,[]⟩)) (Ci (az (fun v _ _=>v=.int .i64 (n_ (gb neg p br d) br p d:Nat)) h N w)):=by
  intro h1 n1 r form k1 dE a5 a6 a7 a8
  refine jZ (Yox (form:=form) (br:=br) (p:=p) (d:=d) ?_ ?_ xh sX a5 a6 a7 a8) ?_
  ·intro hf
   rw[dE]at hf
   unfold gb at hf
   simp only[ib]at hf
   exact(Zs3 hf.1.1).1
  ·intro hf oL
   rw[dE]at hf
   unfold gb at hf
   rw[oL]at hf
   simp only[ib,Bool.not_true,Bool.false_or]at hf
   exact(Zs3 hf.2.1.1).1
  ·rintro e fr ⟨h2,n2,W2⟩ ⟨rfl,r2,rfl,dK,hW,hK⟩
   simp only at hW hK
   have dX:=Jc k1.le hW
   simp[dK,az,dX,dE]
   exact k1.trans hK
 refine aA (WB (by omega)) ?_
 rintro v h1 n1 k1 rfl
 have z0:iP [48]=true:=by decide
 by_cases hA:iP p=true
 ·have hB:(neg=true/\p=[48])\/(neg=false)\/(neg=true/\p≠[48]):=by
   cases neg
   ·exact .inr (.inl rfl)
   ·by_cases hq:p=[48]
    ·exact .inl ⟨rfl,hq⟩
    ·exact .inr (.inr ⟨rfl,hq⟩)
  rcases hB with⟨rfl,rfl⟩|rfl|⟨rfl,Ct⟩
  ·cases br
   ·simp[z0]
    exact fin _ _ _ false k1 (by simp[gb]) (by simp) (by simp) (by simp) (by simp)
   ·simp[z0]
    exact fin _ _ _ false k1 (by simp[gb]) (by simp) (by simp) (by simp) (by simp)
  ·cases br
   ·simp[hA]
    exact fin _ _ _ true k1 (by simp[gb,hA]) (by simp) (by simp) (by simp) (by simp)
   ·simp[hA]
    refine aA (WB (by omega)) ?_
    rintro v h2 n2 k2 rfl
    by_cases hD:iP d=true
    ·by_cases h48:d=[48]
     ·subst h48
      simp[z0]
      exact fin _ _ _ false (k1.trans k2) (by simp[gb]) (by simp) (by simp) (by simp) (by simp)
     ·have e8:(d==[48])=false:=by simp[h48]
      have e9:(d==[49])=decide (d=[49]):=by by_cases h:d=[49]<;>simp[h]
      simp[hD,e8]
      exact fin _ _ _ (!(d==[49])) (k1.trans k2) (by simp[gb,hA,hD,h48,e9]) (by simp) (by simp) (by simp) (by simp)
    ·have hD:iP d=false:=by simpa using hD
     simp[hD]
     exact fin _ _ _ false (k1.trans k2) (by simp[gb,hD]) (by simp) (by simp) (by simp) (by simp)
  ·have e1:(p==[48])=false:=by simp[Ct]
   cases br
   ·simp[hA,e1]
    exact fin _ _ _ true k1 (by simp[gb,hA,Ct]) (by simp) (by simp) (by simp) (by simp)
   ·simp[hA,e1]
    refine aA (WB (by omega)) ?_
    rintro v h2 n2 k2 rfl
    by_cases hD:iP d=true
    ·by_cases h48:d=[48]
     ·subst h48
      simp[z0]
      exact fin _ _ _ false (k1.trans k2) (by simp[gb]) (by simp) (by simp) (by simp) (by simp)
     ·have e8:(d==[48])=false:=by simp[h48]
      have e9:(d==[49])=decide (d=[49]):=by by_cases h:d=[49]<;>simp[h]
      simp[hD,e8]
      exact fin _ _ _ (!(d==[49])) (k1.trans k2) (by simp[gb,hA,hD,h48,Ct,e9]) (by simp) (by simp) (by simp) (by simp)
    ·have hD:iP d=false:=by simpa using hD
     simp[hD]
     exact fin _ _ _ false (k1.trans k2) (by simp[gb,hD]) (by simp) (by simp) (by simp) (by simp)
 ·have hA:iP p=false:=by simpa using hA
  cases br
  ·simp[hA]
   exact fin _ _ _ false k1 (by simp[gb,hA]) (by simp) (by simp) (by simp) (by simp)
  ·simp[hA]
   exact fin _ _ _ false k1 (by simp[gb,hA]) (by simp) (by simp) (by simp) (by simp)
end Go.Mx
