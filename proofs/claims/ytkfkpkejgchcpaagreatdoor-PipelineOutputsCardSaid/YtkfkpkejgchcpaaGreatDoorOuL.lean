/-pipeline-/
import Derived.Test.YtkfkpkejgchcpaaGreatDoorOuI
set_option linter.all false
namespace Go.Mx
open Go Go.Proofs
set_option maxHeartbeats 4000000
set_option maxRecDepth 1000000
def Sn.keepz{z:Nat}{h h':T O}{N N':Nat}{v:V}{l:List (List V)}(s:Sn z h N v l)(k:Keeps h N h' N'):Sn z h' N' v l:=by
 rcases s with s|⟨i,o,cp,c,e,rw,rfl,h2,h3,h4⟩
 ·exact .inl s
 ·exact .inr ⟨i,o,cp,c,e,rw,rfl,Ysg h2 k.le,(k.get i h2).trans h3,h4⟩
def Yd3(g:List Stg)(l:List FmR):Option (List (List Rat)):=(Zpq g (l.map fmQ) l.length).map (·.1)
def Zxd{h:T O}{N:Nat}{u v:V}{g:List Stg}{l:List FmR}(hg:Gr h N u g)(hG:OkG g)(hfl:∀s∈g,s.factor.length≤20)(hs:Sn 4 h N v (l.map fmC))(hv:∀f∈l,chkNum f.val=0∧f.val.length≤20)(hl:l.length≤1000)(hP:P10 h N):Fn A.C 35 [u,v] h N (fun x h' n'=>(Yd3 g l=none∧x=.tup [.nilslice,.int .i64 4])∨∃z out,Yd3 g l=some out∧x=.tup [z,.int .i64 0]∧MfS h' n' z out∧out.length=l.length∧∀r∈out,r.length=g.length∧∀q∈r,Qb 2400 q):=by
 intro w
 have g16:=hG.v.le
 have lfs:(l.map fmQ).length=l.length:=Ysw ..
 have hlv:=hs.len
 rw[Ysw]at hlv
 rw[Zac,A.k35 (by simp)]
 simp(disch:=first|(simp;done)|omega|rfl) [-getElem?_pos,A.b35]
 refine Zaf Yhz ?_
 rintro _ H1 n1 k1 ⟨mp,m1,m2,rfl,hm⟩
 simp(disch:=first|(simp;done)|omega|rfl) [-getElem?_pos,]
 refine Zaf (Ydr (hg.keep k1) (by omega)) ?_
 rintro bv H2 n2 k2 hb
 have j2:=k1.trans k2
 have le1:=k1.le
 have le2:=k2.le
 have hm2:=(k2.get mp m2).trans hm
 simp(disch:=first|(simp;done)|omega|rfl) [-getElem?_pos,hlv]
 refine Zai [(4,5),(7,8),(10,14),(16,18),(24,99)] (fun e r st=>Zad N st.w=[]∧Keeps H2 n2 st.h st.n∧((e=.exit 0∧OtI N H2 n2 g (l.map fmQ) 0 r st)∨(e=.ret∧Zpq g (l.map fmQ) (l.map fmQ).length=none∧r.get 4=some .nilslice∧r.get 5=some (.int .i64 4)))) (OtI N H2 n2 g (l.map fmQ)) l.length ?_ (Ygj (mp:=mp) (by omega) (hg.keep j2) hG hfl (hs.keepz j2) hv hl (hP.keep j2) hm2 (by omega) (by simp) (by simp) (by simp) (by simp)) ?_
 ·exact⟨by simp[Zgy],Keeps.refl,0,[],_,_,_,by omega,by simp,by simp,by simp,rfl,MfO.nil,hb,by simp,fun q hq=>by
   obtain⟨_,_,rfl⟩:=Yt1.1 hq
   exact Qb.zero.mono (by decide),rfl,by simp⟩
 ·rintro e r ⟨H,n,W⟩ hr ⟨hW,hK,⟨rfl,_,_,k,out,before,ov,bv2,hk,h24,h8,h7,hout,hO,hB,hbl,hbq,hol,hoq⟩|⟨rfl,hnone,h4,h5⟩⟩
  ·simp only at hW hK hO
   obtain rfl:k=l.length:=by omega
   simp(disch:=first|(simp;done)|omega|rfl) [-getElem?_pos,hr,h8,Ret]
   exact⟨hW,j2.trans hK,_,out,by unfold Yd3;rw[hout];rfl,rfl,hO.mfs,hol,hoq⟩
  ·simp only at hW hK
   rw[lfs]at hnone
   simp(disch:=first|(simp;done)|omega|rfl) [-getElem?_pos,hr,h4,h5,Ret]
   exact⟨hW,j2.trans hK,by unfold Yd3;rw[hnone];rfl⟩
set_option maxHeartbeats 8000000
def A.lb14_0:Zah:=sr [bi 13 .lss 12 11]
 (.seq (cd 13
 (.skip)
 (.exit 0))
 (.seq (.block 1 (sr [mv 14 12,ia 15 4 10 12,lN 16 4 15,ge 4 (.alloc [.int .i64 0,.int .i64 0,.int .i64 0,(.str [])] 51),mv 3 14,gn (.store 4 (tq 4) (tq 16))]
 (sr [mv 17 0,mv 18 3,bc 19 .sub 18 1,ge 20 (.mx [.const (.int .i64 0),tq 19]),ia 21 4 17 20,lN 22 4 21,ge 5 (.alloc [.int .i64 0,.int .i64 0,.int .i64 0,(.str [])] 51),gn (.store 4 (tq 5) (tq 22))]
 (.seq (.regD [fa 23 0 4,ld 24 23,ge 25 (.call (fq 44) [tq 24,.const (.int .i64 1),.const (.int .i64 999999999)]),fa 26 1 4,ld 27 26,ge 28 (.call (fq 44) [tq 27,.const (.int .i64 0),.const (.int .i64 100000000)]),fa 29 2 4,ld 30 29,ge 31 (.call (fq 44) [tq 30,.const (.int .i64 0),.const (.int .i64 100000000)]),fa 32 3 4,ld 33 32,c1 34 45 33,mv 35 3,bc 36 .gtr 35 0,mv 37 36,gy 38 37 (.faddr 0 (tq 4)),gy 39 37 (.load none (tq 38)),gy 40 37 (.faddr 0 (tq 5)),gy 41 37 (.load none (tq 40)),gy 42 37 (.bin .leq (.node []) false (tq 39) (tq 41)),mg 43 42 37,gz 44 43 (.faddr 1 (tq 4)),gz 45 43 (.load none (tq 44)),gz 46 43 (.faddr 1 (tq 5)),gz 47 43 (.load none (tq 46)),gz 48 43 (.bin .lss (.node []) false (tq 45) (tq 47)),gy 49 37 (.pick (tq 43) (.const (.bool true)) (tq 48)),pf 50 37 49,ge 51 (.call (fq 46) [tq 50,.const (.int .i64 11)]),ge 52 (.bslice 28 1 5 [.int .i64 0,.int .i64 0,.int .i64 0,.int .i64 0,.int .i64 0] [(0,1,(tq 25)),(1,1,(tq 28)),(2,1,(tq 31)),(3,1,(tq 34)),(4,1,(tq 51))]),c1 53 33 52,mv 6 53] [0,1,3,0,8,31,0,64,255,0,512,2047,0,4096,16383,32767,65535,32767,163839,524287,1048575,2097151,4194303,2097151,10485759,33554431,67108863,134217727,268435455,536870911,1073741823,2147483647])
 (sr [mv 54 6,ni 55 54 0]
 (cd 55
 (sr [mv 56 6,mv 2 56]
 (.ret))
 (.skip)))))))
 (.reg [bc 57 .add 12 1,mv 12 57])))
def A.b14:Zah:=sr [mc 2 0]
 (.seq (sr [mv 7 0,ln 8 7,bc 9 .gtr 8 256]
 (cd 9
 (sr [mc 2 5]
 (.ret))
 (.skip)))
 (.seq (sr [mv 10 0,ln 11 10,mc 12 0]
 (.block 0 (.loop A.lb14_0)))
 (sr [mc 2 0]
 (.ret))))
def A.k14:=@A.kk 14 58 [.tmp 2] A.b14 (by kernel_rfl) rfl
def Ypp{k:IntKind}{a b:Int}:Ybw [.int k a,.int k b]=some (.int k (if a<b then b else a)):=rfl
def wz(x lo hi:Int):Int:=if x<lo∨hi<x then 3 else 0
def Yaw(l:List FmR)(i:Nat)(f:FmR):Int:=if 0<i∧(f.n≤((l[i-1]?).getD f).n∨f.a<((l[i-1]?).getD f).a) then 11 else 0
def frE(l:List FmR)(i:Nat):Int:=match l[i]? with
 |none=>0
 |some f=>Zan [wz f.n 1 999999999,wz f.a 0 100000000,wz f.d 0 100000000,((chkNum f.val:Nat):Int),Yaw l i f]
def Zcu(l:List FmR):Int:=if 256<l.length then 5 else Zan ((List.range l.length).map (frE l))
def Zp1{F:Nat→Int}:∀{n:Nat},(∀j,j<n→F j=0)→Zan ((List.range n).map F)=0
 |0,_=>rfl
 |n+1,h=>by
  rw[List.range_succ,List.map_append]
  have ih:=Zp1 (n:=n) fun j hj=>h j (by omega)
  have hz:∀(a:List Int) (b:Int),Zan a=0→b=0→Zan (a++[b])=0:=by
   intro a
   induction a with
   |nil=>intro b _ hb;subst hb;rfl
   |cons x t ih=>
    intro b ha hb
    rw[Yue,Zan]at*
    split at ha
    ·rename_i hx
     rw[Yr6 hx]
     exact ih b ha hb
    ·rename_i hx
     exact absurd ha hx
  exact hz _ _ ih (h n (by omega))
def Yih{F:Nat→Int}{k n:Nat}(hk:k<n)(h:∀j,j<k→F j=0)(h0:F k≠0):Zan ((List.range n).map F)=F k:=by
 obtain⟨d,rfl⟩:∃d,n=k+(d+1):=⟨n-k-1,by omega⟩
 have key:∀(a b:List Int),Zan a=0→Zan (a++b)=Zan b:=by
  intro a
  induction a with
  |nil=>intro b _;rfl
  |cons x t ih=>
   intro b ha
   rw[Yue,Zan]
   rw[Zan]at ha
   split at ha
   ·rename_i hx
    rw[Yr6 hx]
    exact ih b ha
   ·rename_i hx
    exact absurd ha hx
 rw[List.range_add,List.map_append,key _ _ (Zp1 h),List.range_succ_eq_map]
 simp[Zan,h0]
def Zwg{h:T O}{N:Nat}{v:V}{l:List FmR}(hs:Sn 4 h N v (l.map fmC))(hv:∀f∈l,f.val.length≤100000)(hl:l.length<100000):Fn A.C 14 [v] h N (fun u _ _=>u=.int .i64 (Zcu l)):=by
 intro w
 have hlv:=hs.len
 rw[Ysw]at hlv
 rw[Zac,A.k14 (by simp)]
 by_cases h256:256<l.length
 ·have h256':(256:Int)<(l.length:Int):=by omega
  simp(disch:=first|(simp;done)|omega|rfl) [-getElem?_pos,A.b14,hlv,h256,h256',Ret,Zcu]
  exact Keeps.refl
 ·have h256':¬(256:Int)<(l.length:Int):=by omega
  have hc:Zcu l=Zan ((List.range l.length).map (frE l)):=Yr3 h256
  rw[hc]
  simp(disch:=first|(simp;done)|omega|rfl) [-getElem?_pos,A.b14,hlv,h256,h256']
  refine Zai [(2,6),(12,57)] (fun e r st=>Zad N st.w=[]∧Keeps h N st.h st.n∧((e=.exit 0∧∀j,j<l.length→frE l j=0)∨(e=.ret∧∃k,k<l.length∧(∀j,j<k→frE l j=0)∧frE l k≠0∧r.get 2=some (.int .i64 (frE l k))))) (fun m r st=>Zad N st.w=[]∧Keeps h N st.h st.n∧∃k,k+m=l.length∧r.get 12=some (.int .i64 k)∧∀j,j<k→frE l j=0) l.length ?_ ?_ ?_
  ·exact⟨by simp,Keeps.refl,0,by omega,by simp,by omega⟩
  ·rintro m r ⟨H,n1,W⟩ hr hf ⟨hW,hK,k,hk,h12,hz⟩
   simp only at hW hK
   rw[Zaj]
   have leK:=hK.le
   cases m with
   |zero=>
    obtain rfl:k=l.length:=by omega
    simp(disch:=first|(simp;done)|omega|rfl) [-getElem?_pos,A.lb14_0,hr,hf,h12,hlv,hW,hK]
    exact hz
   |succ m=>
    have hlt:k<l.length:=by omega
    have hlt':(k:Int)<(l.length:Int):=by omega
    obtain⟨f,hfk⟩:=Zag hlt
    have hfl:=hv f (Yr8 hfk)
    have hpl:k-1<l.length:=by omega
    have hpl':((k-1:Nat):Int)<(l.length:Int):=by omega
    obtain⟨p,hpk⟩:=Zag hpl
    obtain⟨i0,o0,c0,e0,rw0,q1,q2,q3,q4⟩:=(hs.keepz hK).at (show (l.map fmC)[k]?=some (fmC f) by rw[Ysa,hfk];rfl)
    obtain⟨i1,o1,c1,e1,rw1,p1,p2,p3,p4⟩:=(hs.keepz hK).at (show (l.map fmC)[k-1]?=some (fmC p) by rw[Ysa,hpk];rfl)
    rw[q1]at p1
    simp only[Yr1,Yr5]at p1
    obtain⟨rfl,rfl⟩:=p1
    rw[q3]at p3
    simp only[Yr1,O.cells.injEq]at p3
    obtain⟨rfl,rfl,rfl⟩:=p3
    have hcs:∀f:FmR,(V.agg (fmC f)).cells=fmC f:=fun _=>rfl
    have hls:∀f:FmR,(fmC f).length=4:=fun _=>rfl
    have hos:∀f:FmR,(fmC f).all V.one=true:=fun _=>rfl
    have sps:∀f:FmR,splice [V.int .i64 0,.int .i64 0,.int .i64 0,.str []] 0 (fmC f)=fmC f:=fun _=>rfl
    have hmx:(if (1:Int)<(k:Int) then (k:Int)-1 else 0)=((k-1:Nat):Int):=by split<;>omega
    have fk0:(fmC f)[0]?=some (.int .i64 f.n):=rfl
    have fk1:(fmC f)[1]?=some (.int .i64 f.a):=rfl
    have fk2:(fmC f)[2]?=some (.int .i64 f.d):=rfl
    have fk3:(fmC f)[3]?=some (.str f.val):=rfl
    have pk0:(fmC p)[0]?=some (.int .i64 p.n):=rfl
    have pk1:(fmC p)[1]?=some (.int .i64 p.a):=rfl
    have d1:¬i0=n1:=by omega
    have d2:i0<n1+1:=by omega
    have z0:n1<n1+1:=by omega
    have z1:¬n1=n1+1:=by omega
    simp(disch:=first|(simp;done)|omega|rfl) [-getElem?_pos, -V.cells, -V.one,A.lb14_0,hr,hf,h12,hlv,hlt,hlt',q1,q2,q3,q4,hcs,hls,hos,sps,Zal,Zfh,Ypp,hmx,hpl,hpl',p2,p4,d1,d2,z0,z1,fk0,fk1,fk2,fk3,pk0,pk1,Zgo]
    generalize hH:(((H.set n1 (.cells [.int .i64 0,.int .i64 0,.int .i64 0,.str []] 51 true)).set n1 (.cells (fmC f) 51 true)).set (n1+1) (.cells [.int .i64 0,.int .i64 0,.int .i64 0,.str []] 51 true)).set (n1+1) (.cells (fmC p) 51 true)=G
    have kG:Keeps H n1 G (n1+1+1):=by rw[←hH];exact(((Keeps.refl.new _).set (Yr4 _)).new _).set (by omega)
    have gf:G.get n1=some (.cells (fmC f) 51 true):=by rw[←hH,T.get_set,Yr3 (by omega),T.get_set,Yr3 (by omega),T.get_set,Yr6 rfl]
    have gp:G.get (n1+1)=some (.cells (fmC p) 51 true):=by rw[←hH,T.get_set,Yr6 rfl]
    clear hH
    refine Zaf (Zwc hfl) ?_
    rintro _ H4 n4 k4 rfl
    have le4:=k4.le
    have gf4:=(k4.get n1 (by omega)).trans gf
    have gp4:=(k4.get (n1+1) (by omega)).trans gp
    have dn1:n1<n4:=by omega
    have dn2:n1+1<n4:=by omega
    have kX:∀c,Keeps h N (H4.set n4 (.cells c 28 true)) (n4+1):=fun c=>(((hK.trans kG).trans k4).new _)
    have hgd:(l[k-1]?).getD f=p:=by rw[hpk];rfl
    have efr:frE l k=Zan [wz f.n 1 999999999,wz f.a 0 100000000,wz f.d 0 100000000,((chkNum f.val:Nat):Int),Yaw l k f]:=by
     unfold frE
     rw[hfk]
    have eor:Yaw l k f=if 0<k∧(f.n≤p.n∨f.a<p.a) then 11 else 0:=by
     unfold Yaw
     rw[hgd]
    have w1:¬n1<N:=by omega
    have w2:¬n1+1<N:=by omega
    have w3:¬n4<N:=by omega
    have hz2:frE l k=0→∀j,j<k+1→frE l j=0:=fun h0 j hj=>by
     by_cases e:j=k
     ·subst e;exact h0
     ·exact hz j (by omega)
    unfold wz at efr
    have hci:∀z:Int,(V.int .i64 z).cells=[V.int .i64 z]:=fun _=>rfl
    have hco:∀z:Int,V.one (V.int .i64 z)=true:=fun _=>rfl
    by_cases k0:0<k
    ·have k0':(0:Int)<(k:Int):=by omega
     by_cases e1:f.n≤p.n
     ·have ho:Yaw l k f=11:=by rw[eor,Yr6 ⟨k0,.inl e1⟩]
      have pf:=fun w=>Zpn (h:=H4) (N:=n4+1) (i:=n4) (w:=w) (a0:=if f.n<1∨999999999<f.n then 3 else 0) (a1:=if f.a<0∨100000000<f.a then 3 else 0) (a2:=if f.d<0∨100000000<f.d then 3 else 0) (a3:=((chkNum f.val:Nat):Int)) (a4:=11) (by omega)
      rw[ho]at efr
      rw[←efr]at pf
      simp(disch:=first|(simp;done)|omega|rfl) [-getElem?_pos, -V.cells, -V.one,hr,hf,h12,gf4,gp4,dn1,dn2,fk0,fk1,pk0,pk1,k0,k0',e1,Zcg,splice,pf,hci,hco,Zae]
      by_cases h0:frE l k=0
      ·simp(disch:=first|(simp;done)|omega|rfl) [-getElem?_pos,h0,hr,hf,h12,hW]
       exact⟨m,by omega,by simp[Zad,hW,w1,w2,w3],kX _,k+1,by omega,by simp,hz2 h0⟩
      ·simp(disch:=first|(simp;done)|omega|rfl) [-getElem?_pos,h0,hr,hf,h12,hW]
       exact⟨by simp[Zad,hW,w1,w2,w3],kX _,k,hlt,hz,h0,by simp⟩
     ·by_cases e2:f.a<p.a
      ·have ho:Yaw l k f=11:=by rw[eor,Yr6 ⟨k0,.inr e2⟩]
       have pf:=fun w=>Zpn (h:=H4) (N:=n4+1) (i:=n4) (w:=w) (a0:=if f.n<1∨999999999<f.n then 3 else 0) (a1:=if f.a<0∨100000000<f.a then 3 else 0) (a2:=if f.d<0∨100000000<f.d then 3 else 0) (a3:=((chkNum f.val:Nat):Int)) (a4:=11) (by omega)
       rw[ho]at efr
       rw[←efr]at pf
       simp(disch:=first|(simp;done)|omega|rfl) [-getElem?_pos, -V.cells, -V.one,hr,hf,h12,gf4,gp4,dn1,dn2,fk0,fk1,pk0,pk1,k0,k0',e1,e2,Zcg,splice,pf,hci,hco,Zae]
       by_cases h0:frE l k=0
       ·simp(disch:=first|(simp;done)|omega|rfl) [-getElem?_pos,h0,hr,hf,h12,hW]
        exact⟨m,by omega,by simp[Zad,hW,w1,w2,w3],kX _,k+1,by omega,by simp,hz2 h0⟩
       ·simp(disch:=first|(simp;done)|omega|rfl) [-getElem?_pos,h0,hr,hf,h12,hW]
        exact⟨by simp[Zad,hW,w1,w2,w3],kX _,k,hlt,hz,h0,by simp⟩
      ·have ho:Yaw l k f=0:=by rw[eor,Yr3 (by rintro⟨_,h|h⟩<;>omega)]
       have pf:=fun w=>Zpn (h:=H4) (N:=n4+1) (i:=n4) (w:=w) (a0:=if f.n<1∨999999999<f.n then 3 else 0) (a1:=if f.a<0∨100000000<f.a then 3 else 0) (a2:=if f.d<0∨100000000<f.d then 3 else 0) (a3:=((chkNum f.val:Nat):Int)) (a4:=0) (by omega)
       rw[ho]at efr
       rw[←efr]at pf
       simp(disch:=first|(simp;done)|omega|rfl) [-getElem?_pos, -V.cells, -V.one,hr,hf,h12,gf4,gp4,dn1,dn2,fk0,fk1,pk0,pk1,k0,k0',e1,e2,Zcg,splice,pf,hci,hco,Zae]
       by_cases h0:frE l k=0
       ·simp(disch:=first|(simp;done)|omega|rfl) [-getElem?_pos,h0,hr,hf,h12,hW]
        exact⟨m,by omega,by simp[Zad,hW,w1,w2,w3],kX _,k+1,by omega,by simp,hz2 h0⟩
       ·simp(disch:=first|(simp;done)|omega|rfl) [-getElem?_pos,h0,hr,hf,h12,hW]
        exact⟨by simp[Zad,hW,w1,w2,w3],kX _,k,hlt,hz,h0,by simp⟩
    ·have k0':¬(0:Int)<(k:Int):=by omega
     have ho:Yaw l k f=0:=by rw[eor,Yr3 (by rintro⟨h,_⟩;omega)]
     have pf:=fun w=>Zpn (h:=H4) (N:=n4+1) (i:=n4) (w:=w) (a0:=if f.n<1∨999999999<f.n then 3 else 0) (a1:=if f.a<0∨100000000<f.a then 3 else 0) (a2:=if f.d<0∨100000000<f.d then 3 else 0) (a3:=((chkNum f.val:Nat):Int)) (a4:=0) (by omega)
     rw[ho]at efr
     rw[←efr]at pf
     simp(disch:=first|(simp;done)|omega|rfl) [-getElem?_pos, -V.cells, -V.one,hr,hf,h12,gf4,gp4,dn1,dn2,fk0,fk1,pk0,pk1,k0,k0',Zcg,splice,pf,hci,hco,Zae]
     by_cases h0:frE l k=0
     ·simp(disch:=first|(simp;done)|omega|rfl) [-getElem?_pos,h0,hr,hf,h12,hW]
      exact⟨m,by omega,by simp[Zad,hW,w1,w2,w3],kX _,k+1,by omega,by simp,hz2 h0⟩
     ·simp(disch:=first|(simp;done)|omega|rfl) [-getElem?_pos,h0,hr,hf,h12,hW]
      exact⟨by simp[Zad,hW,w1,w2,w3],kX _,k,hlt,hz,h0,by simp⟩
  ·rintro e r ⟨H,n,W⟩ hr ⟨hW,hK,⟨rfl,hz⟩|⟨rfl,k,hk,hz,h0,h2⟩⟩
   ·simp only at hW hK
    simp(disch:=first|(simp;done)|omega|rfl) [-getElem?_pos,hr,Ret,Zp1 hz]
    exact⟨hW,hK⟩
   ·simp only at hW hK
    simp(disch:=first|(simp;done)|omega|rfl) [-getElem?_pos,hr,h2,Ret,Yih hk hz h0]
    exact⟨hW,hK⟩
variable {N N':Nat} {h h':T O} {l:List Rat} {m:List (List Rat)} {v:V}
def Tx(h:T O)(N:Nat)(v:V)(l:List Rat):Prop:=Sl h N v (tx l)
def Tx.keep(s:Tx h N v l)(k:Keeps h N h' N'):Tx h' N' v l:=Sl.keep s k
def Tx.len(s:Tx h N v l):Zot v=some l.length:=by
 have:=Sl.len s
 rwa [Zu3]at this
def TxM(h:T O)(N:Nat)(v:V)(m:List (List Rat)):Prop:=∃us:List V,Sl h N v us∧us.length=m.length∧∀(j:Nat) (l:List Rat),m[j]?=some l→∃u,us[j]?=some u∧Tx h N u l
def TxM.keep(s:TxM h N v m)(k:Keeps h N h' N'):TxM h' N' v m:=by
 obtain⟨us,h1,h2,h3⟩:=s
 refine⟨us,h1.keep k,h2,fun j l hl=>?_⟩
 obtain⟨u,g1,g2⟩:=h3 j l hl
 exact⟨u,g1,g2.keep k⟩
def TxM.len(s:TxM h N v m):Zot v=some m.length:=by
 obtain⟨us,h1,h2,_⟩:=s
 rw[h1.len,h2]
def TxM.at(s:TxM h N v m){j:Nat}{l:List Rat}(hj:m[j]?=some l):∃i o c e rw u,Zns v=some (i,o)∧i<N∧h.get i=some (.cells c e rw)∧c[o+j]?=some u∧Tx h N u l:=by
 obtain⟨us,h1,h2,h3⟩:=s
 obtain⟨u,g1,g2⟩:=h3 j l hj
 obtain⟨i,o,c,e,rw,q1,q2,q3,q4⟩:=h1.at g1
 exact⟨i,o,c,e,rw,u,q1,q2,q3,q4,g2⟩
def TxT(h:T O)(N:Nat)(u:V)(l:List Rat):Prop:=Tx h N u l∧∀i∈Zfc u,∃z w,h.get i=some (.cells z 44 w)
def Yah{l:List V}(s:Sl h N v l):∀i∈Zfc v,i<N:=fun i hi=>by
 rcases s with⟨_,rfl|rfl⟩|⟨j,o,cp,c,e,rw,rfl,hj,_⟩
 ·simp[Zfc]at hi
 ·simp[Zfc]at hi
 ·simp[Zfc]at hi;omega
def TxT.keep{u:V}(s:TxT h N u l)(k:Keeps h N h' N'):TxT h' N' u l:=⟨s.1.keep k,fun i hi=>by rw[k.get i (Yah s.1 i hi)];exact s.2 i hi⟩
def TxT.moved{n n':Nat}{u:V}{Y:V→Prop}{e:TypeId}(s:TxT h n u l)(k:Upd (fun i=>i∈Zfc v) h n h' n')(hd:Zzd e Y h v)(he:e≠44):TxT h' n' u l:=by
 have hn:∀i∈Zfc u,i∉Zfc v:=fun i hi hc=>by
  obtain⟨z,w,hz⟩:=s.2 i hi
  obtain⟨z2,hz2,_⟩:=hd i hc
  rw[hz]at hz2
  simp at hz2
  exact he hz2.2.1.symm
 exact⟨Sl.moved s.1 k hn,fun i hi=>by rw[k.get i (Yah s.1 i hi) (hn i hi)];exact s.2 i hi⟩
def Yau{N0:Nat}(s:Own 1 44 N0 h N v ((tx l).map fun y=>[y])):TxT h N v l:=by
 refine⟨Sn.one.1 s.sn,fun i hi=>?_⟩
 obtain⟨_,⟨_,rfl⟩|⟨j,rfl,_,_,hg⟩⟩:=s
 ·simp[Zfc]at hi
 ·simp[Zfc]at hi;subst hi;exact⟨_,_,hg⟩
def MtO(N0:Nat)(h:T O)(N:Nat)(v:V)(m:List (List Rat)):Prop:=∃us:List V,Own 1 64 N0 h N v (us.map fun y=>[y])∧(us=[]→v=.nilslice)∧us.length=m.length∧∀(j:Nat) (l:List Rat),m[j]?=some l→∃u,us[j]?=some u∧TxT h N u l
def MtO.nil{N0:Nat}:MtO N0 h N .nilslice []:=⟨[],Own.nil,fun _=>rfl,rfl,fun j l hl=>by simp at hl⟩
def MtO.keep{N0:Nat}(s:MtO N0 h N v m)(k:Keeps h N h' N'):MtO N0 h' N' v m:=by
 obtain⟨us,h1,h2,h3,h4⟩:=s
 refine⟨us,h1.keep k,h2,h3,fun j l hl=>?_⟩
 obtain⟨u,g1,g2⟩:=h4 j l hl
 exact⟨u,g1,g2.keep k⟩
def MtO.txm{N0:Nat}(s:MtO N0 h N v m):TxM h N v m:=by
 obtain⟨us,h1,h2,h3,h4⟩:=s
 refine⟨us,Sn.one.1 h1.sn,h3,fun j l hl=>?_⟩
 obtain⟨u,g1,g2⟩:=h4 j l hl
 exact⟨u,g1,g2.1⟩
def Yfp{out:List (List V)}(h:∀x∈out,x.length=1):∃ys:List V,out=ys.map fun y=>[y]:=by
 induction out with
 |nil=>exact⟨[],rfl⟩
 |cons x t ih=>
  obtain⟨ys,rfl⟩:=ih fun x hx'=>h x (Ysu _ hx')
  have:=h x Ys0
  match x,this with
  |[y],_=>exact⟨y::ys,rfl⟩
def A.lb36_0:Zah:=sr [bi 11 .lss 10 9]
 (.seq (cd 11
 (.skip)
 (.exit 0))
 (.seq (.block 1 (sr [ia 12 1 8 10,ld 13 12,mv 7 13]
 (.reg [mv 14 5,mv 15 1,mv 16 7,ge 17 (.call (tq 15) [tq 16]),ge 18 (.bslice 64 1 1 [.nilslice] [(0,1,(tq 17))]),ge 19 (.append 1 24 64 [.nilslice] (tq 14) (tq 18)),mv 5 19])))
 (.reg [bc 20 .add 10 1,mv 10 20])))
def A.b36:Zah:=sr [mN 4]
 (sr [mN 5]
 (.seq (sr [mv 8 0,ln 9 8,mc 10 0]
 (.block 0 (.loop A.lb36_0)))
 (sr [mv 21 5,mv 4 21]
 (.ret))))
def A.k36:=@A.kk 36 22 [.tmp 4] A.b36 (by kernel_rfl) rfl
def Yf5{f:V}{l:List V}{Q:Nat→T O→Nat→V→Prop}(Y:V→Prop)(hQ:∀j h n h' n' c u,Q j h n c→Upd (fun i=>i∈Zfc u) h n h' n'→Zzd 64 Y h u→Q j h' n' c)(hs:Sl h N v l)(hl:l.length<1000000000)(hf:∀(j:Nat) (x:V),l[j]?=some x→∀h' n',Keeps h N h' n'→FnV A.C f [x] h' n' (fun u h2 n2=>∃y,u=y∧[y].length=1∧[y].all V.one=true∧(∀q∈[y],Y q)∧Q j h2 n2 y)):Fn A.C 36 [v,f] h N (fun u h' n'=>∃out,Own 1 64 N h' n' u out∧out.length=l.length∧∀(j:Nat),j<l.length→∃y,out[j]?=some [y]∧Q j h' n' y):=by
 intro w
 have hlen:=hs.len
 rw[Zac,A.k36 (by simp)]
 simp(disch:=first|(simp;done)|omega|rfl) [-getElem?_pos,A.b36,hlen]
 refine Zai [(5,5),(7,7),(10,20)] (fun e r st=>e=.exit 0∧Zad N st.w=[]∧Keeps h N st.h st.n∧∃u out,r.get 5=some u∧Own 1 64 N st.h st.n u out∧out.length=l.length∧∀(j:Nat),j<l.length→∃y,out[j]?=some [y]∧Q j st.h st.n y) (fun m r st=>Zad N st.w=[]∧Keeps h N st.h st.n∧∃k u out,k+m=l.length∧r.get 10=some (.int .i64 k)∧r.get 5=some u∧Own 1 64 N st.h st.n u out∧out.length=k∧(out=[]→u=.nilslice)∧(∀c∈out,∀y∈c,Y y)∧∀(j:Nat),j<k→∃y,out[j]?=some [y]∧Q j st.h st.n y) l.length ?_ ?_ ?_
 ·exact⟨by simp,Keeps.refl,0,.nilslice,[],by omega,by simp,by simp,Own.nil,rfl,fun _=>rfl,by simp,fun j hj=>by omega⟩
 ·rintro m r ⟨H,n1,W⟩ hr hf2 ⟨hW,hK,k,u,out,hk,h10,h5,ho,hol,hnil,hY,hout⟩
  simp only at hW hK ho hout
  rw[Zaj]
  cases m with
  |zero=>
   have hkk:k=l.length:=by omega
   subst hkk
   simp(disch:=first|(simp;done)|omega|rfl) [-getElem?_pos,A.lb36_0,hr,hf2,h10,hW,hK]
   exact⟨u,h5,out,ho,hol,hout⟩
  |succ m=>
   have hlt:k<l.length:=by omega
   obtain⟨x,hx⟩:=Zag hlt
   obtain⟨i,o,cc,e,rw,q1,q2,q3,q4⟩:=(hs.keep hK).at hx
   have hk1:(k:Int)<(l.length:Int):=by omega
   have kA:=hK
   simp(disch:=first|(simp;done)|omega|rfl) [-getElem?_pos,A.lb36_0,hr,hf2,h10,h5,hk1,hlt,hlen,q1,q3,q4]
   refine Zkn (hf k x hx _ _ kA) ?_
   rintro y h3 n3 k3 ⟨_,rfl,c1,c2,cY,c3⟩
   have kle3:=k3.le
   have kn:=hK.le
   have kB:=kA.trans k3
   have b1:V.one y=true:=by simpa using c2
   have b2:V.cells y=[y]:=by cases y<;>first|rfl|cases b1
   simp(disch:=first|(simp;done)|omega|rfl) [-getElem?_pos, -V.cells, -V.one,hr,hf2,h10,h5,b1,b2,splice]
   have ho3:Own 1 64 N (h3.set n3 (.cells [y] 64 true)) (n3+1) u out:=(ho.keep ((Keeps.refl).trans k3)).keep (Keeps.refl.new _)
   obtain⟨v',h',w',f1,f2,f3,f4,fD,f5⟩:=Ze3 (Y:=Y) (x:=[y]) (u:=.slice n3 0 1 (some 1) 1) (bytes:=24) (w:=W) ho3 hnil hY (by omega) (by decide) c1 (by simp[Zax,St.row,slc]) (by omega)
   rw[f1]
   have wok:¬n1<N:=by omega
   have f6:Zad N w'=[]:=by rw[f2];simp[Zad,hW,wok]
   have kz:=(kB.new (.cells [y] 64 true)).then f3
   have k4:Keeps h3 n3 (h3.set n3 (.cells [y] 64 true)) (n3+1):=Keeps.refl.new _
   have hq4:Q k (h3.set n3 (.cells [y] 64 true)) (n3+1) y:=hQ _ _ _ _ _ _ .nilslice c3 k4.upd Zzd.nil
   simp(disch:=first|(simp;done)|omega|rfl) [-getElem?_pos,hr,hf2,h10,f6]
   refine⟨m,by omega,kz,k+1,by omega,by simp,out++[[y]],f5,by simp[hol],by simp,fun c' hc z hz=>?_,fun j hj=>?_⟩
   ·rcases Ysv.1 hc with hc|hc
    ·exact hY c' hc z hz
    ·simp only[Yty]at hc;subst hc;exact cY z hz
   by_cases hjk:j<k
   ·obtain⟨y,g1,g2⟩:=hout j hjk
    exact⟨y,by rw[Yss (by omega)];exact g1,hQ _ _ _ _ _ _ _ (hQ _ _ _ _ _ _ .nilslice g2 (((Keeps.refl).trans k3).trans k4).upd Zzd.nil) f4 fD⟩
   ·obtain rfl:j=k:=by omega
    exact⟨y,by rw[Ys6 (by omega),hol];simp,hQ _ _ _ _ _ _ _ hq4 f4 fD⟩
 ·rintro _ r ⟨H,n1,W⟩ hr ⟨rfl,hW,hK,u,out,h5,ho,hol,hout⟩
  simp only at hW hK ho hout
  simp(disch:=first|(simp;done)|omega|rfl) [-getElem?_pos,hr,h5,Ret,hW,hK]
  exact⟨out,ho,hol,hout⟩
def Yf6{k0:Nat}(hs:MfS h N v m)(hl:m.length<100000)(hq:∀r∈m,r.length<1000000000∧∀q∈r,Qb k0 q)(hk0:k0≤400000000)(hP:P10 h N):Fn A.C 36 [v,.func 37 [] []] h N (fun u h' n'=>TxM h' n' u m):=by
 obtain⟨us,h1,h2,h3⟩:=hs
 have key:=Yf5 (f:=.func 37 [] []) (Q:=fun j h n u=>∀l,m[j]?=some l→TxT h n u l) NW (fun j h n h' n' c u hq k hd l hl=>(hq l hl).moved k hd (by simp)) h1 (by omega) ?_
 ·intro w
  refine(key w).mono fun y st=>?_
  rintro⟨q1,q2,out,o1,o2,o3⟩
  obtain⟨ys,rfl⟩:=Yfp o1.1
  refine⟨q1,q2,ys,Sn.one.1 o1.sn,by simpa[h2]using o2,fun j l hl=>?_⟩
  obtain⟨y,g1,g2⟩:=o3 j (by have:=Zaz hl;omega)
  refine⟨y,?_,(g2 l hl).1⟩
  rw[Ysa]at g1
  cases hy:ys[j]? with
  |none=>rw[hy]at g1;simp at g1
  |some z=>rw[hy]at g1;simpa using g1
 ·intro j x hx h' n' hk
  obtain⟨l,hl⟩:=Zag (l:=m) (k:=j) (by have:=Zaz hx;omega)
  obtain⟨u,g1,g2⟩:=h3 j l hl
  rw[hx]at g1
  obtain rfl:x=u:=by simpa using g1
  obtain⟨b1,b2⟩:=hq l (Yr8 hl)
  refine fun w=>(Yel (k0:=k0) (g2.keep hk).1 (hP.keep hk) b1 b2 hk0 w).mono fun y st=>?_
  rintro⟨q1,q2,q3⟩
  have f1:=q3.1.form.one
  refine⟨q1,q2,y,rfl,rfl,by simp only[List.all_cons,List.all_nil,f1,Bool.and_true],fun z hz m=>by
   obtain rfl:z=y:=by simpa using hz
   rcases q3.1 with⟨_,rfl|rfl⟩|⟨_,_,_,_,_,_,rfl,_⟩<;>simp,fun l' hl'=>?_⟩
  rw[hl]at hl'
  obtain rfl:l=l':=by simpa using hl'
  exact q3
set_option maxHeartbeats 4000000
def A.b7:Zah:=sr [mN 4,mc 5 0]
 (.seq (sr [mv 9 0,c1 10 34 9,mv 11 1,c1 12 14 11,ge 13 (.bslice 28 1 2 [.int .i64 0,.int .i64 0] [(0,1,(tq 10)),(1,1,(tq 12))]),c1 14 33 13,mv 6 14]
 (sr [mv 15 6,ni 16 15 0]
 (cd 16
 (sr [mv 17 6,mN 4,mv 5 17]
 (.ret))
 (.skip))))
 (sr [mv 19 0,mv 20 1,c2 21 35 19 20,mv 18 21,xt 22 18 0,xt 23 18 1,mv 7 22,mv 8 23]
 (.seq (sr [mv 24 8,ni 25 24 0]
 (cd 25
 (sr [mv 26 8,mN 4,mv 5 26]
 (.ret))
 (.skip)))
 (sr [mv 27 7,ge 28 (.call (fq 36) [tq 27,(fq 37)]),mv 4 28,mc 5 0]
 (.ret)))))
def A.k7:=@A.kk 7 29 [.tmp 4,.tmp 5] A.b7 (by kernel_rfl) rfl
def Zm7:∀{l:List Int},Zan l=0→∀x∈l,x=0
 |[],_,x,hx=>by simp at hx
 |y::t,h,x,hx=>by
  rw[Zan]at h
  split at h
  ·rename_i hy
   rcases Ysz.1 hx with rfl|hx
   ·exact hy
   ·exact Zm7 h x hx
  ·rename_i hy
   exact absurd h hy
def Zkw{l:List FmR}(h:Zcu l=0):l.length≤256∧∀f∈l,chkNum f.val=0:=by
 unfold Zcu at h
 split at h
 ·cases h
 rename_i hl
 refine⟨by omega,fun f hf=>?_⟩
 obtain⟨k,hk⟩:=List.mem_iff_getElem?.1 hf
 have h1:=Zm7 h (frE l k) (Yt1.2 ⟨k,Yvl.2 (Zaz hk),rfl⟩)
 unfold frE at h1
 rw[hk]at h1
 have h2:=Zm7 h1 ((chkNum f.val:Nat):Int) (by simp)
 omega
def Yd4(g:List Stg)(l:List FmR):Int:=Zan [(chkGraph g:Nat),Zcu l]
def Yav{g:List Stg}{l:List FmR}(h:Yd4 g l=0):chkGraph g=0∧Zcu l=0:=⟨by
 have:=Zm7 h ((chkGraph g:Nat):Int) (by simp)
 omega,Zm7 h _ (by simp)⟩
def Yfe{h:T O}{N:Nat}{u v:V}{g:List Stg}{l:List FmR}(hg:Gr h N u g)(hgl:g.length<1000000)(hf:Yp9 g)(hs:Sn 4 h N v (l.map fmC))(hv:∀f∈l,f.val.length≤20)(hl:l.length<1000)(hP:P10 h N):Fn A.C 7 [u,v] h N (fun x h' n'=>(Yd4 g l≠0∧x=.tup [.nilslice,.int .i64 (Yd4 g l)])∨(Yd4 g l=0∧Yd3 g l=none∧x=.tup [.nilslice,.int .i64 4])∨(Yd4 g l=0∧∃z out,Yd3 g l=some out∧x=.tup [z,.int .i64 0]∧TxM h' n' z out∧out.length=l.length∧∀r∈out,r.length=g.length∧∀q∈r,Qb 2400 q)):=by
 intro w
 rw[Zac,A.k7 (by simp)]
 simp(disch:=first|(simp;done)|omega|rfl) [-getElem?_pos,A.b7]
 refine Zaf (Zqb hg hgl hf) ?_
 rintro _ H1 n1 k1 rfl
 have le1:=k1.le
 simp(disch:=first|(simp;done)|omega|rfl) [-getElem?_pos,]
 refine Zaf (Zwg (hs.keepz k1) (fun f hf=>by have:=hv f hf;omega) (by omega)) ?_
 rintro _ H2 n2 k2 rfl
 have le2:=k2.le
 have j2:=k1.trans k2
 have pf:=fun w=>Zpo (h:=H2) (N:=n2+1) (i:=n2) (w:=w) (a0:=((chkGraph g:Nat):Int)) (a1:=Zcu l) (by omega)
 rw[show Zan [((chkGraph g:Nat):Int),Zcu l]=Yd4 g l from rfl]at pf
 have kB:Keeps H2 n2 (H2.set n2 (.cells [.int .i64 ((chkGraph g:Nat):Int),.int .i64 (Zcu l)] 28 true)) (n2+1):=Keeps.refl.new _
 by_cases h0:Yd4 g l=0
 ·obtain⟨c1,c2⟩:=Yav h0
  have hG:=Zhe c1
  obtain⟨c3,c4⟩:=Zkw c2
  simp(disch:=first|(simp;done)|omega|rfl) [-getElem?_pos,pf,splice,h0]
  refine Zaf (Zxd ((hg.keep j2).keep kB) hG (fun s hs=>(hf s hs).1) ((hs.keepz j2).keepz kB) (fun f hf=>⟨c4 f hf,hv f hf⟩) (by omega) ((hP.keep j2).keep kB)) ?_
  rintro x H3 n3 k3 (⟨e1,rfl⟩|⟨z,out,e1,rfl,hz,e2,e3⟩)
  ·simp(disch:=first|(simp;done)|omega|rfl) [-getElem?_pos,Ret]
   exact⟨(j2.trans kB).trans k3,e1⟩
  ·simp(disch:=first|(simp;done)|omega|rfl) [-getElem?_pos,]
   refine Zaf (Yf6 (k0:=2400) hz (by omega) (fun r hr=>⟨by have:=(e3 r hr).1;omega,(e3 r hr).2⟩) (by decide) (((hP.keep j2).keep kB).keep k3)) ?_
   rintro x H4 n4 k4 hx
   simp(disch:=first|(simp;done)|omega|rfl) [-getElem?_pos,Ret]
   exact⟨((j2.trans kB).trans k3).trans k4,_,out,e1,rfl,hx,e2,e3⟩
 ·simp(disch:=first|(simp;done)|omega|rfl) [-getElem?_pos,pf,splice,h0,Ret]
  exact j2.trans kB
variable {s:Str}
def A.lb77_0:Zah:=.seq (sr [mv 4 3,mv 5 0,ge 6 (.len 0 (tq 5)),bi 7 .lss 4 6]
 (cd 7
 (.skip)
 (.exit 0)))
 (.seq (.block 1 (sr [mv 10 0,mv 11 3,ge 12 (.idxStr (tq 10) (tq 11)),ge 13 (.bin .eql (.prim .int) true (tq 12) (.const (.int .u8 47)))]
 (cd 13
 (sr [mv 14 3,mv 2 14]
 (.ret))
 (.skip))))
 (.reg [mv 8 3,bc 9 .add 8 1,mv 3 9]))
def A.b77:Zah:=sr [mc 2 0]
 (.seq (sr [mc 3 0]
 (.block 0 (.loop A.lb77_0)))
 (sr [mv 15 0,ge 16 (.len 0 (tq 15)),mv 2 16]
 (.ret)))
def A.k77:=@A.kk 77 17 [.tmp 2] A.b77 (by kernel_rfl) rfl
def A.lb145_0:Zah:=.seq (sr [mv 4 3,mv 5 0,ge 6 (.len 0 (tq 5)),bi 7 .lss 4 6]
 (cd 7
 (.skip)
 (.exit 0)))
 (.seq (.block 1 (sr [mv 10 0,mv 11 3,ge 12 (.idxStr (tq 10) (tq 11)),ge 13 (.bin .lss (.node []) false (tq 12) (.const (.int .u8 48))),mv 14 13,mh 15 0 14,mh 16 3 14,gz 17 14 (.idxStr (tq 15) (tq 16)),gz 18 14 (.bin .gtr (.node []) false (tq 17) (.const (.int .u8 57))),pt 19 14 18]
 (cd 19
 (sr [ge 2 (.mov (.const (.bool false)))]
 (.ret))
 (.skip))))
 (.reg [mv 8 3,bc 9 .add 8 1,mv 3 9]))
def A.b145:Zah:=sr [ge 2 (.mov (.const (.bool false)))]
 (.seq (sr [mc 3 0]
 (.block 0 (.loop A.lb145_0)))
 (sr [ge 2 (.mov (.const (.bool true)))]
 (.ret)))
def A.k145:=@A.kk 145 20 [.tmp 2] A.b145 (by kernel_rfl) rfl
def A.b78:Zah:=sr [ge 2 (.mov (.const (.bool false)))]
 (.seq (sr [mv 3 0,ge 4 (.len 0 (tq 3)),ei 5 4 0,mv 6 5,mh 7 0 6,gz 8 6 (.len 0 (tq 7)),gz 9 6 (.bin .gtr (.node []) false (tq 8) (kq 1)),mh 10 9 6,mg 11 0 10,gy 12 10 (.idxStr (tq 11) (kq 0)),gy 13 10 (.bin .eql (.prim .int) true (tq 12) (.const (.int .u8 48))),gz 14 6 (.pick (tq 10) (tq 13) (.const (.bool false))),pt 15 6 14]
 (cd 15
 (sr [ge 2 (.mov (.const (.bool false)))]
 (.ret))
 (.skip)))
 (sr [mv 16 0,c1 17 145 16,mv 2 17]
 (.ret)))
def A.k78:=@A.kk 78 18 [.tmp 2] A.b78 (by kernel_rfl) rfl
def A.lb196_0:Zah:=.seq (sr [mv 5 4,mv 6 0,ge 7 (.len 0 (tq 6)),bi 8 .lss 5 7]
 (cd 8
 (.skip)
 (.exit 0)))
 (.seq (.block 1 (.reg [mv 11 3,ge 12 (.bin .mul (.node []) false (kq 10) (tq 11)),mv 13 0,mv 14 4,ge 15 (.idxStr (tq 13) (tq 14)),ge 16 (.convInt .i64 (tq 15)),bi 17 .add 12 16,bc 18 .sub 17 48,mv 3 18]))
 (.reg [mv 9 4,bc 10 .add 9 1,mv 4 10]))
def A.b196:Zah:=sr [mc 2 0]
 (sr [mc 3 0]
 (.seq (sr [mc 4 0]
 (.block 0 (.loop A.lb196_0)))
 (sr [mv 19 3,mv 2 19]
 (.ret))))
def A.k196:=@A.kk 196 20 [.tmp 2] A.b196 (by kernel_rfl) rfl
def Ze6{st:St}(hl:s.length<4611686018427387904):A.C.call (.func 77 [] []) [.str s] st=some (.int .i64 (slashAt s:Nat),st):=by
 apply Call.eq
 rw[Zac,A.k77 (by simp)]
 simp(disch:=first|(simp;done)|omega|rfl) [-getElem?_pos,A.b77]
 refine Zai [(2,14)] (fun e r s1=>s1=⟨st.h,st.n,[]⟩∧((e=.exit 0∧slashAt s=s.length)∨(e=.ret∧r.get 2=some (.int .i64 (slashAt s:Nat))))) (fun m r s1=>s1=⟨st.h,st.n,[]⟩∧∃k,k+m=s.length∧r.get 3=some (.int .i64 k)∧slashAt s=k+slashAt (s.drop k)) s.length ?_ ?_ ?_
 ·exact⟨rfl,0,by omega,by simp,by simp⟩
 ·rintro m r _ hr hf ⟨rfl,k,hk,h3,hz⟩
  rw[Zaj]
  cases m with
  |zero=>
   have:k=s.length:=by omega
   subst this
   rw[Yti,slashAt]at hz
   simp(disch:=first|(simp;done)|omega|rfl) [-getElem?_pos,A.lb77_0,hr,hf,h3]
   omega
  |succ m=>
   obtain⟨c,hc⟩:=Zag (l:=s) (k:=k) (by omega)
   have hk1:(k:Int)<(s.length:Int):=by omega
   have hk2:k<s.length:=by omega
   rw[Zaq hc,slashAt]at hz
   by_cases h47:u8I c=47
   ·rw[Yr6 (by unfold u8I at h47;omega)]at hz
    simp(disch:=first|(simp;done)|omega|rfl) [-getElem?_pos,A.lb77_0,hr,hf,h3,hk1,hk2,hc,h47,Zae]
    rw[hz];simp
   ·rw[Yr3 (by unfold u8I at h47;omega)]at hz
    simp(disch:=first|(simp;done)|omega|rfl) [-getElem?_pos,A.lb77_0,hr,hf,h3,hk1,hk2,hc,h47,Zae]
    exact⟨m,by omega,k+1,by omega,by simp,by omega⟩
 ·rintro e r _ hr ⟨rfl,⟨rfl,hz⟩|⟨rfl,h2⟩⟩
  ·simp(disch:=first|(simp;done)|omega|rfl) [-getElem?_pos,hr,hz]
  ·simp(disch:=first|(simp;done)|omega|rfl) [-getElem?_pos,hr,h2]
def Ycz{st:St}(hl:s.length<4611686018427387904):A.C.call (.func 145 [] []) [.str s] st=some (.bool (Zb8 s),st):=by
 apply Call.eq
 rw[Zac,A.k145 (by simp)]
 simp(disch:=first|(simp;done)|omega|rfl) [-getElem?_pos,A.b145]
 refine Zai [(2,19)] (fun e r s1=>s1=⟨st.h,st.n,[]⟩∧((e=.exit 0∧Zb8 s=true)∨(e=.ret∧Zb8 s=false∧r.get 2=some (.bool false)))) (fun m r s1=>s1=⟨st.h,st.n,[]⟩∧∃k,k+m=s.length∧r.get 3=some (.int .i64 k)∧Zb8 s=Zb8 (s.drop k)) s.length ?_ ?_ ?_
 ·exact⟨rfl,0,by omega,by simp,by simp⟩
 ·rintro m r _ hr hf ⟨rfl,k,hk,h3,hz⟩
  rw[Zaj]
  cases m with
  |zero=>
   have:k=s.length:=by omega
   subst this
   rw[Yti]at hz
   have hz:Zb8 s=true:=hz
   simp(disch:=first|(simp;done)|omega|rfl) [A.lb145_0,hr,hf,h3,hz]
  |succ m=>
   obtain⟨c,hc⟩:=Zag (l:=s) (k:=k) (by omega)
   have hk1:(k:Int)<(s.length:Int):=by omega
   have hk2:k<s.length:=by omega
   have hz2:Zb8 s=(Zj1 c&&Zb8 (s.drop (k+1))):=by rw[hz,Zaq hc];rfl
   rw[Zr5]at hz2
   by_cases h1:u8I c<48
   ·have:¬(48≤u8I c∧u8I c≤57):=by omega
    rw[decide_eq_false this,Bool.false_and]at hz2
    simp(disch:=first|(simp;done)|omega|rfl) [-getElem?_pos,A.lb145_0,hr,hf,h3,hk1,hk2,hc,h1,hz2]
   ·by_cases h2:57<u8I c
    ·have:¬(48≤u8I c∧u8I c≤57):=by omega
     rw[decide_eq_false this,Bool.false_and]at hz2
     simp(disch:=first|(simp;done)|omega|rfl) [-getElem?_pos,A.lb145_0,hr,hf,h3,hk1,hk2,hc,h1,h2,hz2]
    ·have:(48≤u8I c∧u8I c≤57):=by omega
     rw[decide_eq_true this,Bool.true_and]at hz2
     simp(disch:=first|(simp;done)|omega|rfl) [-getElem?_pos,A.lb145_0,hr,hf,h3,hk1,hk2,hc,h1,h2]
     exact⟨m,by omega,k+1,by omega,by simp,hz2⟩
 ·rintro e r _ hr ⟨rfl,⟨rfl,hz⟩|⟨rfl,hz,h2⟩⟩
  ·simp(disch:=first|(simp;done)|omega|rfl) [-getElem?_pos,hr,hz]
  ·simp(disch:=first|(simp;done)|omega|rfl) [-getElem?_pos,hr,h2,hz]
def Zfp{s:Str}{st:St}(hl:s.length<4611686018427387904):A.C.call (.func 78 [] []) [.str s] st=some (.bool (Zcy s),st):=by
 apply Call.eq
 rw[Zac,A.k78 (by simp)]
 cases s with
 |nil=>simp[A.b78,Zae,Zcy]
 |cons c s=>
  have hd:Zcy (c::s)=(Zb8 (c::s)&&(decide (u8I c≠48)||decide (s=[]))):=by
   have:decide (c.toNat≠48)=decide (u8I c≠48):=by unfold u8I;rw[decide_eq_decide];omega
   simp only[Zcy,this];rfl
  have hdg:=fun st=>Ycz (s:=c::s) (st:=st) hl
  by_cases h0:s=[]
  ·subst h0
   simp[A.b78,Zae,hd,hdg]
  ·have h1:0<s.length:=by
    cases s with
    |nil=>exact absurd rfl h0
    |cons=>simp
   have a1:¬((s.length:Int)+1=0):=by omega
   have a2:(1:Int)<(s.length:Int)+1:=by omega
   have a3:(0:Int)<(s.length:Int):=by omega
   by_cases h48:u8I c=48
   ·simp[A.b78,Zae,hd,hdg,h0,a1,a2,a3,h1,h48]
   ·simp[A.b78,Zae,hd,hdg,h0,a1,a2,a3,h1,h48]
def Zi1{st:St}(hd:Zb8 s=true)(hl:s.length≤18):A.C.call (.func 196 [] []) [.str s] st=some (.int .i64 (numV s:Nat),st):=by
 apply Call.eq
 rw[Zac,A.k196 (by simp)]
 simp[A.b196]
 refine Zai [(3,18)] (fun e r s1=>s1=⟨st.h,st.n,[]⟩∧e=.exit 0∧r.get 3=some (.int .i64 (numV s:Nat))) (fun m r s1=>s1=⟨st.h,st.n,[]⟩∧∃k,k+m=s.length∧r.get 4=some (.int .i64 k)∧r.get 3=some (.int .i64 (numV (s.take k):Nat))) s.length ?_ ?_ ?_
 ·exact⟨rfl,0,by omega,by simp,by simp[numV]⟩
 ·rintro m r _ hr hf ⟨rfl,k,hk,h4,h3⟩
  rw[Zaj]
  cases m with
  |zero=>
   have:k=s.length:=by omega
   subst this
   rw[Ytr]at h3
   simp[A.lb196_0,hr,hf,h4,h3]
  |succ m=>
   obtain⟨c,hc⟩:=Zag (l:=s) (k:=k) (by omega)
   have hk1:(k:Int)<(s.length:Int):=by omega
   have hk2:k<s.length:=by omega
   have hd1:=Zka hd hc
   have hv:=Zmx hc
   have hb1:=Zpt hd k (by omega)
   have hb2:=Zvk (a:=k) (b:=17) (by omega)
   have b3:((numV (s.take (k+1)):Nat):Int)=10*(numV (s.take k):Nat)+u8I c-48:=by
    rw[hv];unfold u8I at*;omega
   have b4:((numV (s.take k):Nat):Int)<100000000000000000:=by
    have:(10:Nat)^17=100000000000000000:=by decide
    omega
   generalize hy:numV (s.take (k+1))=y at*
   generalize numV (s.take k)=x at*
   simp(disch:=first|(simp;done)|omega|rfl) [-getElem?_pos,A.lb196_0,hr,hf,h4,h3,hk1,hk2,hc]
   exact⟨m,by omega,k+1,by omega,by simp,by rw[hy,b3]⟩
 ·rintro e r _ hr ⟨rfl,rfl,h3⟩
  simp[hr,h3]
end Go.Mx
