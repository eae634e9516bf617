/-
  PipelineRings.
-/
import Derived.Test.YtppobccilnifoaaGreatDoorKeK
import Derived.Test.YtppobccilnifoaaGreatDoorMxDraw5
import Derived.Test.YtppobccilnifoaaGreatDoorMxTab
import Derived.Test.YtppobccilnifoaaGreatDoorMxGr3
set_option linter.all false
namespace Go.Mx
open Go Go.Proofs
set_option maxRecDepth 1000000
def A.lb6_0:MCode:=.seq (.reg [bi 75 .lss 74 73])
 (.seq (.cond (.tmp 75)
 (.skip)
 (.exit 2))
 (.seq (.block 3 (.seq (.reg [ia 76 5 72 74,⟨(some 77),.load (some 5) (.tmp 76),none⟩,⟨(some 12),.alloc [(.int .i64 0),(.int .i64 0),(.int .i64 0),.nilslice,(.int .i64 0)] 94,none⟩,⟨none,.store 5 (.tmp 12) (.tmp 77),none⟩])
 (.seq (.reg [mv 78 10,⟨(some 79),.load (some 5) (.tmp 12),none⟩,⟨(some 80),.call (.const (.func 34 [] [])) [(.tmp 78),(.tmp 79)],none⟩,⟨(some 81),.un .not (.tmp 80),none⟩,mv 82 81,⟨(some 83),.mov (.tmp 10),(some (82,false))⟩,⟨(some 84),.call (.const (.func 35 [] [])) [(.tmp 83)],(some (82,false))⟩,⟨(some 85),.un .not (.tmp 84),(some (82,false))⟩,⟨(some 86),.pick (.tmp 82) (.const (.bool true)) (.tmp 85),none⟩])
 (.cond (.tmp 86)
 (.seq (.reg [⟨(some 4),.mov (.const (.bool false)),none⟩])
 (.ret))
 (.skip)))))
 (.reg [bc 87 .add 74 1,mv 74 87])))
def A.lb6_1:MCode:=.seq (.reg [bi 31 .lss 30 29])
 (.seq (.cond (.tmp 31)
 (.skip)
 (.exit 0))
 (.seq (.block 1 (.seq (.reg [ia 32 5 28 30,⟨(some 33),.load (some 5) (.tmp 32),none⟩,⟨(some 6),.alloc [(.int .i64 0),(.int .i64 0),(.int .i64 0),.nilslice,(.int .i64 0)] 94,none⟩,⟨none,.store 5 (.tmp 6) (.tmp 33),none⟩])
 (.seq (.reg [⟨(some 34),.faddr 1 (.tmp 6),none⟩,⟨(some 35),.load (some 3) (.tmp 34),none⟩,⟨(some 36),.bslice 68 3 1 [(.int .i64 0),(.int .i64 0),.nilslice] [(0,3,(.tmp 35))],none⟩,⟨(some 37),.call (.const (.func 21 [] [])) [(.tmp 36),(.const (.int .i64 8))],none⟩,⟨(some 38),.un .not (.tmp 37),none⟩])
 (.cond (.tmp 38)
 (.seq (.reg [⟨(some 39),.call (.const (.func 8 [] [])) [],none⟩,mv 4 39])
 (.ret))
 (.skip)))))
 (.reg [bc 40 .add 30 1,mv 30 40])))
def A.b6:MCode:=.seq (.reg [⟨(some 4),.mov (.const (.bool false)),none⟩])
 (.seq (.seq (.reg [mv 24 1,ln 25 24,bc 26 .gtr 25 24])
 (.cond (.tmp 26)
 (.seq (.reg [⟨(some 27),.call (.const (.func 8 [] [])) [],none⟩,mv 4 27])
 (.ret))
 (.skip)))
 (.seq (.seq (.reg [mv 28 1,ln 29 28,mc 30 0])
 (.block 0 (.loop A.lb6_1)))
 (.seq (.reg [mv 42 0,⟨(some 43),.call (.const (.func 24 [] [])) [(.tmp 42)],none⟩,mv 41 43,xt 44 41 0,xt 45 41 1,mv 7 44,mv 8 45])
 (.seq (.seq (.reg [mv 46 0,⟨(some 47),.call (.const (.func 23 [] [])) [(.tmp 46)],none⟩,mv 9 47])
 (.seq (.reg [mv 48 9,⟨(some 49),.bin .neq (.prim .int) true (.tmp 48) (.const (.int .i64 0)),none⟩])
 (.cond (.tmp 49)
 (.seq (.reg [mv 50 8,mv 51 9,⟨(some 52),.bin .eql (.prim .int) false (.tmp 50) (.tmp 51),none⟩,mv 53 52,⟨(some 54),.mov (.tmp 7),(some (53,true))⟩,⟨(some 55),.bin .eql (.prim .ptr) true (.tmp 54) (.const .nilptr),(some (53,true))⟩,⟨(some 56),.pick (.tmp 53) (.tmp 55) (.const (.bool false)),none⟩,mv 57 56,⟨(some 58),.call (.const (.func 8 [] [])) [],(some (57,true))⟩,⟨(some 59),.pick (.tmp 57) (.tmp 58) (.const (.bool false)),none⟩,mv 4 59])
 (.ret))
 (.skip))))
 (.seq (.seq (.reg [mv 60 8,⟨(some 61),.bin .neq (.prim .int) true (.tmp 60) (.const (.int .i64 0)),none⟩,mv 62 61,⟨(some 63),.mov (.tmp 7),(some (62,false))⟩,⟨(some 64),.bin .eql (.prim .ptr) true (.tmp 63) (.const .nilptr),(some (62,false))⟩,⟨(some 65),.pick (.tmp 62) (.const (.bool true)) (.tmp 64),none⟩])
 (.cond (.tmp 65)
 (.seq (.reg [⟨(some 4),.mov (.const (.bool false)),none⟩])
 (.ret))
 (.skip)))
 (.seq (.reg [mv 66 7,mv 67 0,⟨(some 68),.build [(.int .i64 0),.nilslice,(.int .i64 0),(.bool false),(.int .i64 0),(.int .i64 0),.nilslice] [(0,1,(.tmp 67))],none⟩,⟨(some 69),.box 99 (.tmp 68),none⟩,⟨(some 70),.build [.nilptr,.nilptr,.nilslice] [(0,1,(.tmp 66)),(1,1,(.tmp 69))],none⟩,⟨(some 71),.box 102 (.tmp 70),none⟩,mv 10 71])
 (.seq (.seq (.reg [mv 72 1,ln 73 72,mc 74 0])
 (.block 2 (.loop A.lb6_0)))
 (.seq (.reg [mv 89 7,⟨(some 90),.call (.const (.func 29 [] [])) [(.tmp 89),(.const .nilchan)],none⟩,mv 88 90,xt 91 88 0,xt 92 88 1,xt 93 88 2,mv 13 91,mv 14 92,mv 15 93])
 (.seq (.reg [⟨(some 16),.mov (.const .nilptr),none⟩])
 (.seq (.reg [mv 95 16,⟨(some 96),.call (.const (.func 30 [] [])) [(.tmp 95)],none⟩,mv 94 96,xt 97 94 0,xt 98 94 1,mv 17 97,mv 18 98])
 (.seq (.reg [mv 100 16,⟨(some 101),.call (.const (.func 25 [] [])) [(.tmp 100),(.const (.int .i64 1))],none⟩,mv 99 101,xt 102 99 0,xt 103 99 1,mv 19 102,mv 20 103])
 (.seq (.reg [mv 105 16,⟨(some 106),.call (.const (.func 29 [] [])) [(.tmp 105),(.const .nilchan)],none⟩,mv 104 106,xt 107 104 0,xt 108 104 1,xt 109 104 2,mv 21 107,mv 22 108,mv 23 109])
 (.seq (.reg [mv 110 15,⟨(some 111),.bin .eql (.prim .int) true (.tmp 110) (.const (.int .i64 10)),none⟩,mv 112 111,⟨(some 113),.mov (.tmp 7),(some (112,true))⟩,⟨(some 114),.call (.const (.func 36 [] [])) [(.tmp 113),(.const .nilchan)],(some (112,true))⟩,⟨(some 115),.bin .eql (.prim .int) true (.tmp 114) (.const (.int .i64 10)),(some (112,true))⟩,⟨(some 116),.pick (.tmp 112) (.tmp 115) (.const (.bool false)),none⟩,mv 117 116,⟨(some 118),.mov (.tmp 10),(some (117,true))⟩,⟨(some 119),.call (.const (.func 35 [] [])) [(.tmp 118)],(some (117,true))⟩,⟨(some 120),.pick (.tmp 117) (.tmp 119) (.const (.bool false)),none⟩,mv 121 120,⟨(some 122),.mov (.tmp 17),(some (121,true))⟩,⟨(some 123),.mov (.tmp 18),(some (121,true))⟩,⟨(some 124),.bin .add (.node []) false (.tmp 122) (.tmp 123),(some (121,true))⟩,⟨(some 125),.bin .eql (.prim .int) true (.tmp 124) (.const (.int .i64 0)),(some (121,true))⟩,⟨(some 126),.pick (.tmp 121) (.tmp 125) (.const (.bool false)),none⟩,mv 127 126,⟨(some 128),.mov (.tmp 16),(some (127,true))⟩,⟨(some 129),.call (.const (.func 33 [] [])) [(.tmp 128)],(some (127,true))⟩,⟨(some 130),.len 1 (.tmp 129),(some (127,true))⟩,⟨(some 131),.bin .eql (.prim .int) true (.tmp 130) (.const (.int .i64 0)),(some (127,true))⟩,⟨(some 132),.pick (.tmp 127) (.tmp 131) (.const (.bool false)),none⟩,mv 133 132,⟨(some 134),.mov (.tmp 16),(some (133,true))⟩,⟨(some 135),.build [(.int .i64 0),(.int .i64 0),.nilslice] [(0,1,(.const (.int .i64 1)))],(some (133,true))⟩,⟨(some 136),.call (.const (.func 28 [] [])) [(.tmp 134),(.tmp 135)],(some (133,true))⟩,⟨(some 137),.bin .eql (.prim .int) true (.tmp 136) (.const (.int .i64 19)),(some (133,true))⟩,⟨(some 138),.pick (.tmp 133) (.tmp 137) (.const (.bool false)),none⟩,mv 139 138,⟨(some 140),.mov (.tmp 16),(some (139,true))⟩,⟨(some 141),.call (.const (.func 27 [] [])) [(.tmp 140),(.const (.bool true))],(some (139,true))⟩,⟨(some 142),.bin .eql (.prim .int) true (.tmp 141) (.const (.int .i64 19)),(some (139,true))⟩,⟨(some 143),.pick (.tmp 139) (.tmp 142) (.const (.bool false)),none⟩,mv 144 143,⟨(some 145),.mov (.tmp 16),(some (144,true))⟩,⟨(some 146),.call (.const (.func 36 [] [])) [(.tmp 145),(.const .nilchan)],(some (144,true))⟩,⟨(some 147),.bin .eql (.prim .int) true (.tmp 146) (.const (.int .i64 19)),(some (144,true))⟩,⟨(some 148),.pick (.tmp 144) (.tmp 147) (.const (.bool false)),none⟩,mv 149 148,⟨(some 150),.mov (.tmp 20),(some (149,true))⟩,⟨(some 151),.bin .eql (.prim .int) true (.tmp 150) (.const (.int .i64 19)),(some (149,true))⟩,⟨(some 152),.pick (.tmp 149) (.tmp 151) (.const (.bool false)),none⟩,mv 153 152,⟨(some 154),.mov (.tmp 23),(some (153,true))⟩,⟨(some 155),.bin .eql (.prim .int) true (.tmp 154) (.const (.int .i64 19)),(some (153,true))⟩,⟨(some 156),.pick (.tmp 153) (.tmp 155) (.const (.bool false)),none⟩,mv 157 156,⟨(some 158),.call (.const (.func 8 [] [])) [],(some (157,true))⟩,⟨(some 159),.pick (.tmp 157) (.tmp 158) (.const (.bool false)),none⟩,mv 4 159])
 (.ret))))))))))))))
theorem A.c6:cFunc Tryz.prog 6=some ⟨160,[.tmp 4],A.b6⟩:=by kernel_rfl
def A.k6{K Q f c args st}:=@A.kk 6 _ _ _ A.c6 rfl K Q f c args st
structure Cl where
 kind:Int
 rc:Rc
 a:Int
def clC(c:Cl)(u:V):List V:=[.int .i64 c.kind,.int .i64 c.rc.f,.int .i64 c.rc.t,u,.int .i64 c.a]
def ClS(h:T O)(N:Nat)(v:V)(l:List Cl):Prop:=∃cs:List (List V),Sn 5 h N v cs∧cs.length=l.length∧∀(j:Nat) (x:Cl),l[j]?=some x→∃u,cs[j]?=some (clC x u)∧Sl h N u (strs x.rc.vs)
theorem ClS.len{h:T O}{N:Nat}{v:V}{l:List Cl}(s:ClS h N v l):lenV v=some l.length:=by
 obtain⟨cs,h1,h2,_⟩:=s
 rw[h1.len,h2]
theorem ClS.at{h:T O}{N:Nat}{v:V}{l:List Cl}(s:ClS h N v l){j:Nat}{x:Cl}(hj:l[j]?=some x):∃i o c e rw u,baseV v=some (i,o)∧i<N∧h.get i=some (.cells c e rw)∧slc c (o+j*5) 5=some (clC x u)∧Sl h N u (strs x.rc.vs):=by
 obtain⟨cs,h1,h2,h3⟩:=s
 obtain⟨u,h4,h5⟩:=h3 j x hj
 obtain⟨i,o,c,e,rw,q1,q2,q3,q4⟩:=h1.at h4
 exact⟨i,o,c,e,rw,u,q1,q2,q3,q4,h5⟩
theorem short1{x:Rc}(h:shortRc x=true):x.vs.length<1000∧∀s∈x.vs,s.length≤100000:=by
 unfold shortRc at h
 rw[Bool.and_eq_true,decide_eq_true_eq,List.all_eq_true]at h
 refine⟨by omega,fun s hs=>?_⟩
 have:=h.2 s hs
 simp at this;omega
structure KoI (h:T O) (N X R:Nat) (l:List Cl) (m:Nat) (r:T V) (st:St):Prop where
 ex:∃k,k+m=l.length∧r.get 74=some (.int .i64 k)∧(∀i∈st.w,N≤i)∧Keeps h N st.h st.n∧CI N st.h st.n X R k
set_option maxHeartbeats 4000000 in
theorem rings_round{h:T O}{N X R:Nat}{v:V}{l:List Cl}{r0:T V}(hs:ClS h N v l)(hl:l.length≤24)(hx:∀x∈l,shortRc x.rc=true)(b72:r0.get 72=some v)(b73:r0.get 73=some (.int .i64 l.length))(b10:r0.get 10=some (.ptr X 0)):
  ∀m r st,(∀t,inD [(4,4),(12,12),(74,87)] t=false→r.get t=r0.get t)→Fx [(4,4),(12,12),(74,87)] r0 160 ⟨r,160,[]⟩→KoI h N X R l m r st→Code A.C none A.lb6_0 ⟨r,160,[]⟩ st (Rd [(4,4),(12,12),(74,87)] r0 160 (KoI h N X R l) m (fun e r st=>e=.exit 2∧KoI h N X R l 0 r st)):=by
 rintro m r ⟨H,n,W⟩ hr hf ⟨k,hk,h74,hW,hK,⟨S,M,vF,F,J,rl,hR⟩⟩
 simp only at hW hK J
 rw[code_run]
 cases m with
 |zero=>
  obtain rfl:k=l.length:=by omega
  simp(disch:=first|(simp;done)|omega|rfl) [-getElem?_pos,A.lb6_0,hr,hf,h74,b73]
  exact⟨l.length,by omega,by simp[h74],hW,hK,⟨S,M,vF,F,J,rl,hR⟩⟩
 |succ m=>
  have hlt:k<l.length:=by omega
  have hlt':(k:Int)<(l.length:Int):=by omega
  obtain⟨x,hxk⟩:=get_of_lt hlt
  obtain⟨x1,x2⟩:=short1 (hx x (List.mem_of_getElem? hxk))
  obtain⟨i,o,c,e,rw,u,q1,q2,q3,q4,q5⟩:=hs.at hxk
  have q3':=(hK.get i q2).trans q3
  unfold clC at q4
  have kle:=hK.le
  have o1:=q5.form.one
  have o2:=q5.form.cells
  unfold V.one at o1
  unfold V.cells at o2
  have hlen:=hs.len
  have e4:splice [.int .i64 0,.int .i64 0,.int .i64 0,.nilslice,.int .i64 0] 0 [.int .i64 x.kind,.int .i64 x.rc.f,.int .i64 x.rc.t,u,.int .i64 x.a]=[.int .i64 x.kind,.int .i64 x.rc.f,.int .i64 x.rc.t,u,.int .i64 x.a]:=rfl
  have e5:slc [.int .i64 x.kind,.int .i64 x.rc.f,.int .i64 x.rc.t,u,.int .i64 x.a] 0 5=some [.int .i64 x.kind,.int .i64 x.rc.f,.int .i64 x.rc.t,u,.int .i64 x.a]:=rfl
  simp(disch:=first|(simp;done)|omega|rfl) [-getElem?_pos, -oldIds,A.lb6_0,hr,hf,h74,b72,b73,b10,hlt,hlt',hlen,q1,q3',q4,partV,storeK2,o1,o2,e4,e5]
  generalize hHa:(H.set n (.cells [.int .i64 0,.int .i64 0,.int .i64 0,.nilslice,.int .i64 0] 94 true)).set n (.cells [.int .i64 x.kind,.int .i64 x.rc.f,.int .i64 x.rc.t,u,.int .i64 x.a] 94 true)=Ha
  have ka:Keeps H n Ha (n+1):=by rw[←hHa];exact(Keeps.refl.new _).set (Nat.le_refl _)
  have hfl:=rl.fl
  refine run_fnD (call_fn (a:=x.a) (kind:=x.kind) (J.keep ka) rl (by omega) (by omega) ((q5.keep hK).keep ka) q5.row_lt x1 x2) ?_
  rintro _ Hb nb wb hwb Ub ⟨rfl,⟨S',M',vF',F',J',rl',hR'⟩⟩
  have kb:=Ub.le
  simp(disch:=first|(simp;done)|omega|rfl) [-getElem?_pos, -oldIds,hr,hf,b10,eqPrim]
  refine run_fn (same_fn J' rl') ?_
  rintro _ Hc nc kc rfl
  have J2:=J'.keep kc
  simp(disch:=first|(simp;done)|omega|rfl) [-getElem?_pos, -oldIds,hr,hf,h74,eqPrim]
  refine⟨m,by omega,k+1,by omega,by simp,?_,?_,⟨S',M',vF',F',J2,rl',hR'.trans hR⟩⟩
  ·intro i hi
   rcases hwb i hi with hi|hi
   ·rcases List.mem_cons.1 hi with rfl|hi
    ·omega
    ·exact hW i hi
   ·exact hi
  ·exact((hK.trans ka).then (Ub.keeps (by omega) fun i hi=>hi)).trans kc
set_option maxHeartbeats 8000000 in
theorem rings_fn{h:T O}{N:Nat}{v:V}{l:List Cl}{cap:Int}(hs:ClS h N v l)(hl:l.length<9223372036854775808)(hin:∀x∈l,x.rc.vs.length<9223372036854775808):Fn A.C 6 [.int .i64 cap,v] h N (fun u _ _=>u=.bool true):=by
 intro w
 have hlen:=hs.len
 rw[call_run,A.k6 (by simp)]
 by_cases c1:24<l.length
 ·have c1':24<(l.length:Int):=by omega
  simp(disch:=first|(simp;done)|omega|rfl) [-getElem?_pos, -oldIds,A.b6,hlen,c1',awake_eq,Ret]
  exact Keeps.refl
 have c1':¬24<(l.length:Int):=by omega
 simp(disch:=first|(simp;done)|omega|rfl) [-getElem?_pos, -oldIds,A.b6,hlen,c1']
 refine run_loopD [(4,4),(6,6),(30,40)] (fun e r st=>(∀i∈st.w,N≤i)∧Keeps h N st.h st.n∧((e=.exit 0∧∀x∈l,shortRc x.rc=true)∨(e=.ret∧r.get 4=some (.bool true)))) (fun m r st=>(∀i∈st.w,N≤i)∧Keeps h N st.h st.n∧∃k,k+m=l.length∧r.get 30=some (.int .i64 k)∧∀(j:Nat) (x:Cl),j<k→l[j]?=some x→shortRc x.rc=true) l.length ?_ ?_ ?_
 ·exact⟨by simp,Keeps.refl,0,by omega,by simp,fun j x hj=>by omega⟩
 ·rintro m r ⟨H,n,W⟩ hr hf ⟨hW,hK,k,hk,h30,ha⟩
  simp only at hW hK
  rw[code_run]
  cases m with
  |zero=>
   obtain rfl:k=l.length:=by omega
   simp(disch:=first|(simp;done)|omega|rfl) [-getElem?_pos, -oldIds,A.lb6_1,hr,hf,h30]
   refine⟨hW,hK,fun x hx=>?_⟩
   obtain⟨j,hj⟩:=List.getElem?_of_mem hx
   exact ha j x (lt_of_get hj) hj
  |succ m=>
   have hlt:k<l.length:=by omega
   have hlt':(k:Int)<(l.length:Int):=by omega
   obtain⟨x,hxk⟩:=get_of_lt hlt
   obtain⟨i,o,c,e,rw,u,q1,q2,q3,q4,q5⟩:=hs.at hxk
   have q3':=(hK.get i q2).trans q3
   unfold clC at q4
   have kle:=hK.le
   have o1:=q5.form.one
   have o2:=q5.form.cells
   unfold V.one at o1
   unfold V.cells at o2
   have e4:splice [.int .i64 0,.int .i64 0,.int .i64 0,.nilslice,.int .i64 0] 0 [.int .i64 x.kind,.int .i64 x.rc.f,.int .i64 x.rc.t,u,.int .i64 x.a]=[.int .i64 x.kind,.int .i64 x.rc.f,.int .i64 x.rc.t,u,.int .i64 x.a]:=rfl
   have e5:slc [.int .i64 x.kind,.int .i64 x.rc.f,.int .i64 x.rc.t,u,.int .i64 x.a] 1 3=some [.int .i64 x.rc.f,.int .i64 x.rc.t,u]:=rfl
   generalize hHa:((H.set n (.cells [.int .i64 0,.int .i64 0,.int .i64 0,.nilslice,.int .i64 0] 94 true)).set n (.cells [.int .i64 x.kind,.int .i64 x.rc.f,.int .i64 x.rc.t,u,.int .i64 x.a] 94 true)).set (n+1) (.cells [.int .i64 x.rc.f,.int .i64 x.rc.t,u] 68 true)=Ha
   have ka:Keeps H n Ha (n+1+1):=by rw[←hHa];exact((Keeps.refl.new _).set (Nat.le_refl _)).new _
   have ga:Ha.get (n+1)=some (.cells (rcC (x.rc,u)) 68 true):=by rw[←hHa,T.get_set,if_pos rfl];rfl
   have hrcs:RcS Ha (n+1+1) (.slice (n+1) 0 1 (some 1) 3) [x.rc]:=⟨[rcC (x.rc,u)],.inr ⟨n+1,0,some 1,rcC (x.rc,u),_,true,rfl,by omega,ga,fun j y hj=>by
    cases j with
    |zero=>simp at hj;subst hj;rfl
    |succ j=>simp at hj,by simp[rcC],by simp⟩,rfl,fun j y hj=>by
    cases j with
    |zero=>simp at hj;subst hj;exact⟨u,rfl,(q5.keep hK).keep ka⟩
    |succ j=>simp at hj⟩
   have e6:shortRcs [x.rc] 8=shortRc x.rc:=by simp[shortRcs]
   have hsh:∀w,A.C.call (.func 21 [] []) [.slice (n+1) 0 1 (some 1) 3,.int .i64 8] ⟨Ha,n+1+1,w⟩=some (.bool (shortRc x.rc),⟨Ha,n+1+1,w⟩):=fun w=>by
    rw[←e6]
    exact shr_eq (n:=8) (w:=w) hrcs (by simp) (fun y hy=>by simp at hy;rw[hy];exact hin x (List.mem_of_getElem? hxk)) (by omega)
   have hkk:=hK.trans ka
   have hWn:∀i∈n::W,N≤i:=fun i hi=>by
    rcases List.mem_cons.1 hi with rfl|hi
    ·omega
    ·exact hW i hi
   cases hb:shortRc x.rc with
   |true=>
    rw[hb]at hsh
    simp(disch:=first|(simp;done)|omega|rfl) [-getElem?_pos, -oldIds,A.lb6_1,hr,hf,h30,hlt,hlt',hlen,q1,q3',q4,partV,storeK2,o1,o2,e4,e5,splice]
    simp(disch:=first|(simp;done)|omega|rfl) [-getElem?_pos, -oldIds,hr,hf,h30,hHa,hsh]
    refine⟨m,by omega,by simpa using hWn,hkk,k+1,by omega,by simp,fun j y hj hy=>?_⟩
    by_cases hjk:j<k
    ·exact ha j y hjk hy
    ·obtain rfl:j=k:=by omega
     rw[hxk]at hy
     simp only[Option.some.injEq]at hy
     rw[←hy];exact hb
   |false=>
    rw[hb]at hsh
    simp(disch:=first|(simp;done)|omega|rfl) [-getElem?_pos, -oldIds,A.lb6_1,hr,hf,h30,hlt,hlt',hlen,q1,q3',q4,partV,storeK2,o1,o2,e4,e5,splice]
    simp(disch:=first|(simp;done)|omega|rfl) [-getElem?_pos, -oldIds,hr,hf,h30,hHa,hsh,awake_eq]
    exact⟨by simpa using hWn,hkk⟩
 ·rintro e r ⟨H,n,W⟩ hr ⟨hW,hK,⟨rfl,ha⟩|⟨rfl,h4⟩⟩
  ·simp only at hW hK
   simp(disch:=first|(simp;done)|omega|rfl) [-getElem?_pos, -oldIds,hr]
   by_cases c3:cap<1∨64<cap
   ·refine run_fn (new_bad c3) ?_
    rintro _ h1 n1 k1 rfl
    simp(disch:=first|(simp;done)|omega|rfl) [-getElem?_pos, -oldIds,hr,c3,ccap_eq,eqPrim,awake_eq,Ret]
    exact⟨old_nil hW,hK.trans k1⟩
   ·refine run_fn (new_ok (c:=cap) (by omega) (by omega)) ?_
    rintro _ h1 n1 k1 ⟨rfl,rfl,I1⟩
    have kn:=hK.le
    have k2:Keeps h1 (n+1) ((h1.set (n+1) (.cells [.int .i64 cap,.nilslice,.int .i64 0,.bool false,.int .i64 0,.int .i64 0,.nilslice] 99 true)).set (n+1+1) (.cells [.ptr n 0,.ptr (n+1) 0,.nilslice] 102 true)) (n+1+1+1):=(Keeps.refl.new _).new _
    simp(disch:=first|(simp;done)|omega|rfl) [-getElem?_pos, -oldIds,hr,hlen,c3,ccap_eq,eqPrim,splice]
    generalize hHa:(h1.set (n+1) (.cells [.int .i64 cap,.nilslice,.int .i64 0,.bool false,.int .i64 0,.int .i64 0,.nilslice] 99 true)).set (n+1+1) (.cells [.ptr n 0,.ptr (n+1) 0,.nilslice] 102 true)=Ha at*
    have ga:Ha.get (n+1+1)=some (.cells [.ptr n 0,.ptr (n+1) 0,.nilslice] 102 true):=by rw[←hHa,T.get_set,if_pos rfl]
    have gb:Ha.get (n+1)=some (.cells [.int .i64 cap,.nilslice,.int .i64 0,.bool false,.int .i64 0,.int .i64 0,.nilslice] 99 true):=by rw[←hHa,T.get_set,if_neg (by omega),T.get_set,if_pos rfl]
    have J0:JB N Ha (n+1+1+1) (n+1+1) ⟨n,cap,false,.nilslice,[],0,0,0,.nilslice,[]⟩ ⟨n+1,cap,.nilslice,[],0,false,0,0,.nilslice,[]⟩ .nilslice []:=
     ⟨ga,⟨by omega,by omega⟩,⟨by simp,.inl ⟨rfl,rfl⟩⟩,by simp[rowV],I1.keep (D:=fun _=>False) k2.upd (by simp) (by simp),⟨gb,⟨[],.inl ⟨rfl,.inl rfl⟩,by simp,rfl,by simp⟩,by simp[Has,rowV],⟨by simp,.inl ⟨rfl,rfl⟩⟩,by simp,⟨by show n+1<n+1+1+1;omega,by simp[rowV]⟩,⟨by show N≤n+1;omega,by simp[rowV]⟩⟩,by simp[RS.ids,rowV];omega,by simp,by simp⟩
    have R0:Rel ⟨n,cap,false,.nilslice,[],0,0,0,.nilslice,[]⟩ ⟨n+1,cap,.nilslice,[],0,false,0,0,.nilslice,[]⟩ [] 0:=
     ⟨rfl,by show 1≤cap;omega,by show cap≤64;omega,rfl,rfl,rfl,rfl,rfl,rfl,rfl,List.nodup_nil,by simp,⟨Int.le_refl 0,by simp⟩,by simp,by simp,⟨Int.le_refl 0,Int.le_refl 0,Int.le_refl 0,Int.le_refl 0⟩,Nat.le_refl 0,by show ((0:Nat):Int)≤cap;omega,by simp⟩
    have hK2:=(hK.trans k1).trans k2
    refine run_loopD [(4,4),(12,12),(74,87)] (fun e r st=>e=.exit 2∧KoI h N (n+1+1) n l 0 r st) (KoI h N (n+1+1) n l) l.length ?_ ?_ ?_
    ·exact⟨0,by omega,by simp,hW,hK2,⟨_,_,_,_,J0,R0,rfl⟩⟩
    ·exact rings_round hs (by omega) ha (by simp[hr]) (by simp) (by simp)
    ·rintro _ r2 ⟨H2,n2,W2⟩ hr2 ⟨rfl,k,hk,h74,hW2,hK2,⟨S,M,vF,F,J,rl,hR⟩⟩
     simp only at hW2 hK2 J
     have h8:=rl.l8
     have hdn:=drain_none J.I (.inl rfl) (by rw[lsAt_nil];decide) (by omega)
     rw[hR]at hdn
     simp(disch:=first|(simp;done)|omega|rfl) [-getElem?_pos, -oldIds,hr2]
     refine run_fn hdn ?_
     rintro _ h4 n4 k4 rfl
     simp(disch:=first|(simp;done)|omega|rfl) [-getElem?_pos, -oldIds,nil_lost,nil_sub]
     refine run_fn nil_drain ?_
     rintro _ h5 n5 k5 rfl
     have J5:=(J.keep k4).keep k5
     have hun:=unsub_none J5.I (.inl rfl) (by rw[lsAt_nil];decide) (by omega)
     rw[hR]at hun
     simp(disch:=first|(simp;done)|omega|rfl) [-getElem?_pos, -oldIds,hr2,eqPrim]
     refine run_fn hun ?_
     rintro _ h6 n6 k6 rfl
     have J6:=J5.keep k6
     simp(disch:=first|(simp;done)|omega|rfl) [-getElem?_pos, -oldIds,hr2,eqPrim]
     refine run_fn (same_fn J6 rl) ?_
     rintro _ h7 n7 k7 rfl
     simp(disch:=first|(simp;done)|omega|rfl) [-getElem?_pos, -oldIds,hr2,eqPrim,nil_records]
     refine run_fn (nil_put rfl rfl) ?_
     rintro _ h8' n8 k8 rfl
     simp(disch:=first|(simp;done)|omega|rfl) [-getElem?_pos, -oldIds,hr2,eqPrim,nil_freeze]
     refine run_fn nil_unsub ?_
     rintro _ h9 n9 k9 rfl
     simp(disch:=first|(simp;done)|omega|rfl) [-getElem?_pos, -oldIds,hr2,eqPrim,awake_eq,Ret]
     exact⟨old_nil hW2,(((((hK2.trans k4).trans k5).trans k6).trans k7).trans k8).trans k9⟩
  ·simp only at hW hK
   simp(disch:=first|(simp;done)|omega|rfl) [-getElem?_pos, -oldIds,h4,Ret]
   exact⟨old_nil hW,hK⟩
end Go.Mx
namespace Go.Mx
open Go
def PlR(ρ:Nat→Option Nat)(pl:Nat→L→L)(μ' μ2:Mu):Prop:=∀i i',ρ i=some i'→μ2 i'=(μ' i).map (pl i)
structure Viewed (P:Program) (σ ρ:Nat→Option Nat) (pl:Nat→L→L) (W:List Nat) (s s' S S':St):Prop where
 dom:∀i i',σ i=some i'→i<s.n∧i'<S.n
 inj:∀i j i' o,σ i=some i'→σ j=some i'→s.h.get i=some o→o.wr=true→i=j
 glob:∀g,g<P.globals.size→σ g=some g
 obj:∀i i',σ i=some i'→∃o O',s.h.get i=some o∧Less σ o O'∧(S.h.get i'=some O'∨o=.dead)
 old:∀i,i<s.n→ρ i=σ i
 plo:∀i l,i<s.n→pl i l=l
 plb:∀i l,(pl i l).b=l.b
 new:∀i i',s.n≤i→ρ i=some i'→S.n≤i'∧i'<S'.n∧i<s'.n
 ninj:∀i j i',s.n≤i→s.n≤j→ρ i=some i'→ρ j=some i'→i=j
 full:∀i',S.n≤i'→i'<S'.n→∃i,s.n≤i∧ρ i=some i'
 nle:S.n≤S'.n
 w0:s.w=[]
 W1:∀i i',i∈s'.w→σ i=some i'→i'∈W
 W2:∀j,j∈W→∃i,i∈s'.w∧σ i=some j
 wl:S'.w=W++S.w
 keep:∀j,j<S.n→j∉W→S'.h.get j=S.h.get j
 wr:∀i i',i∈s'.w→σ i=some i'→∃o O',s'.h.get i=some o∧S'.h.get i'=some O'∧(O'.wr=true→o.wr=true)∧(O'.live=true→o.live=true)∧∀μ' μ2 w l,PlR ρ pl μ' μ2→OM P μ' w o l→OM P μ2 w O' (pl i l)
 obn:∀i i',s.n≤i→ρ i=some i'→∃o O',s'.h.get i=some o∧S'.h.get i'=some O'∧(O'.wr=true→o.wr=true)∧(O'.live=true→o.live=true)∧∀μ' μ2 w l,PlR ρ pl μ' μ2→OM P μ' w o l→OM P μ2 w O' (pl i l)
section
variable {P:Program} {σ ρ:Nat→Option Nat} {pl:Nat→L→L} {W:List Nat} {s s' S S':St}
theorem Viewed.hrel(F:Viewed P σ ρ pl W s s' S S'){μ:Mu}{w:World}(hh:HRel P μ w S):HRel P (fun i=>(σ i).bind μ) w s:=by
 have hb:∀i l,(σ i).bind μ=some l→∃i',σ i=some i'∧μ i'=some l:=fun i l h=>by
  cases hs:σ i with
  |none=>rw[hs]at h;cases h
  |some i'=>rw[hs]at h;exact⟨i',rfl,h⟩
 refine⟨fun i l hl=>?_,fun i l hl=>?_,fun i j l l' o o' hi hj hne ho ho' hw hlv=>?_,fun g hg=>?_⟩
 ·obtain⟨i',h1,h2⟩:=hb i l hl
  exact⟨(F.dom i i' h1).1,(hh.dom i' l h2).2⟩
 ·obtain⟨i',h1,h2⟩:=hb i l hl
  obtain⟨o,O',g1,g2,g3⟩:=F.obj i i' h1
  refine⟨o,g1,?_⟩
  rcases g3 with g3|rfl
  ·obtain⟨O2,q1,q2⟩:=hh.obj i' l h2
   rw[g3]at q1;cases q1
   exact Less.om (fun i i' hi=>by simp[hi]) g2 q2
  ·trivial
 ·obtain⟨i',h1,h2⟩:=hb i l hi
  obtain⟨j',h3,h4⟩:=hb j l' hj
  obtain⟨o1,O1,a1,a2,a3⟩:=F.obj i i' h1
  obtain⟨o2,O2,b1,b2,b3⟩:=F.obj j j' h3
  rw[ho]at a1;cases a1
  rw[ho']at b1;cases b1
  have a3':S.h.get i'=some O1:=a3.resolve_right fun e=>by subst e;simp[O.wr]at hw
  have b3':S.h.get j'=some O2:=b3.resolve_right fun e=>by subst e;simp[O.live]at hlv
  refine hh.inj i' j' l l' O1 O2 h2 h4 (fun e=>hne ?_) a3' b3' (a2.wr hw).1 (b2.live hlv)
  subst e;exact F.inj i j i' o h1 h3 ho hw
 ·obtain⟨t,ht⟩:=hh.glob g hg
  exact⟨t,by simp[F.glob g hg,ht]⟩
theorem Viewed.stp(F:Viewed P σ ρ pl W s s' S S'){μ:Mu}{w w':World}(hh:HRel P μ w S){μ':Mu}{ws:List Nat}(h:Stp P (fun i=>(σ i).bind μ) w s μ' w' s' ws):
  ∃μ2,Stp P μ w S μ2 w' S' W∧PlR ρ pl μ' μ2:=by
 have hws:s'.w=ws:=by have:=h.wl;rw[F.w0]at this;simpa using this
 have hinv:∃τ:Nat→Nat,∀i',S.n≤i'→i'<S'.n→s.n≤τ i'∧ρ (τ i')=some i':=by
  classical
  refine⟨fun i'=>if hc:∃i,s.n≤i∧ρ i=some i' then hc.choose else 0,fun i' h1 h2=>?_⟩
  have hc:=F.full i' h1 h2
  simp only[dif_pos hc]
  exact hc.choose_spec
 obtain⟨τ,hτ⟩:=hinv
 let μ2:Mu:=fun i'=>if i'<S.n then μ i' else if i'<S'.n then (μ' (τ i')).map (pl (τ i')) else none
 have hold:∀i',i'<S.n→μ2 i'=μ i':=fun i' hi=>by show (if i'<S.n then _ else _)=_;rw[if_pos hi]
 have hnew:∀i',S.n≤i'→i'<S'.n→μ2 i'=(μ' (τ i')).map (pl (τ i')):=fun i' h1 h2=>by show (if i'<S.n then _ else _)=_;rw[if_neg (by omega),if_pos h2]
 have hout:∀i' l,μ2 i'=some l→i'<S'.n:=fun i' l hl=>by
  by_cases h1:i'<S.n
  ·exact Nat.lt_of_lt_of_le h1 F.nle
  ·by_cases h2:i'<S'.n
   ·exact h2
   ·have:μ2 i'=none:=by show (if i'<S.n then _ else _)=_;rw[if_neg h1,if_neg h2]
    rw[this]at hl;cases hl
 have hμs:∀i,i<s.n→μ' i=(σ i).bind μ:=fun i hi=>h.ext i hi
 have hρ:PlR ρ pl μ' μ2:=fun i i' hi=>by
  by_cases h1:i<s.n
  ·have h2:σ i=some i':=(F.old i h1).symm.trans hi
   rw[hμs i h1,h2,hold i' (F.dom i i' h2).2]
   show μ i'=(μ i').map (pl i)
   cases μ i' with
   |none=>rfl
   |some l=>simp[F.plo i l h1]
  ·obtain⟨g1,g2,_⟩:=F.new i i' (by omega) hi
   obtain⟨k1,k2⟩:=hτ i' g1 g2
   rw[hnew i' g1 g2,←F.ninj i (τ i') i' (by omega) k1 hi k2]
 have hwold:∀j,j∈W→∃i,i∈ws∧σ i=some j∧i<s.n∧j<S.n:=fun j hj=>by
  obtain⟨i,h1,h2⟩:=F.W2 j hj
  exact⟨i,hws▸h1,h2,F.dom i j h2⟩
 have hwas:∀i i',i∈ws→σ i=some i'→∃O',S.h.get i'=some O'∧O'.wr=true:=fun i i' hi hs=>by
  obtain⟨o,ho,hw⟩:=h.wrt i hi (F.dom i i' hs).1
  obtain⟨o1,O1,a1,a2,a3⟩:=F.obj i i' hs
  rw[ho]at a1;cases a1
  exact⟨O1,a3.resolve_right fun e=>by subst e;simp[O.wr]at hw,(a2.wr hw).1⟩
 have hblk:∀j l,j<S.n→j∉W→μ j=some l→∀O',S.h.get j=some O'→O'.live=true→w'.heap[l.b]?=w.heap[l.b]?:=fun j l hj hnW hl O' hO hlv=>by
  refine h.chg.block l.b (hh.dom j l hl).2 fun i hi li hli=>?_
  cases hs:σ i with
  |none=>simp[hs]at hli
  |some i'=>
   simp only[hs,Option.bind_some]at hli
   obtain⟨O1,q1,q2⟩:=hwas i i' hi hs
   refine hh.inj i' j li l O1 O' hli hl (fun e=>hnW ?_) q1 hO q2 hlv
   subst e;exact F.W1 i i' (hws▸hi) hs
 have hobj:∀i i' l0,ρ i=some i'→μ' i=some l0→(s.n≤i∨i∈ws)→∃o O',s'.h.get i=some o∧S'.h.get i'=some O'∧(O'.wr=true→o.wr=true)∧(O'.live=true→o.live=true)∧OM P μ2 w' O' (pl i l0):=fun i i' l0 hi hl hc=>by
  have key:∃o O',s'.h.get i=some o∧S'.h.get i'=some O'∧(O'.wr=true→o.wr=true)∧(O'.live=true→o.live=true)∧∀μ' μ2 w l,PlR ρ pl μ' μ2→OM P μ' w o l→OM P μ2 w O' (pl i l):=by
   by_cases h1:i<s.n
   ·rcases hc with hc|hc
    ·omega
    ·exact F.wr i i' (hws▸hc) ((F.old i h1).symm.trans hi)
   ·exact F.obn i i' (by omega) hi
  obtain⟨o,O',g1,g2,g3,g4,g5⟩:=key
  obtain⟨o2,q1,q2⟩:=h.hr.obj i l0 hl
  rw[g1]at q1;cases q1
  exact⟨o,O',g1,g2,g3,g4,g5 _ _ _ _ hρ q2⟩
 have hback:∀i i' l,ρ i=some i'→μ2 i'=some l→∃l0,μ' i=some l0∧pl i l0=l:=fun i i' l hi hl=>by
  rw[hρ i i' hi,Option.map_eq_some_iff]at hl
  exact hl
 have hcase:∀i' l,μ2 i'=some l→(i'<S.n∧i'∉W∧μ i'=some l∧S'.h.get i'=S.h.get i')∨∃i l0,ρ i=some i'∧μ' i=some l0∧(s.n≤i∨i∈ws)∧pl i l0=l:=fun i' l hl=>by
  by_cases h1:i'<S.n
  ·by_cases h2:i'∈W
   ·obtain⟨i,q1,q2,q3,_⟩:=hwold i' h2
    have hr:ρ i=some i':=(F.old i q3).trans q2
    obtain⟨l0,g1,g2⟩:=hback i i' l hr hl
    exact .inr ⟨i,l0,hr,g1,.inr q1,g2⟩
   ·exact .inl ⟨h1,h2,(hold i' h1)▸hl,F.keep i' h1 h2⟩
  ·have h2:=hout i' l hl
   obtain⟨k1,k2⟩:=hτ i' (by omega) h2
   obtain⟨l0,g1,g2⟩:=hback _ i' l k2 hl
   exact .inr ⟨τ i',l0,k2,g1,.inl k1,g2⟩
 have hapart:∀i' l O',i'<S.n→i'∉W→μ i'=some l→S.h.get i'=some O'→O'.live=true→∀k k' lk,ρ k=some k'→μ' k=some lk→(s.n≤k∨k∈ws)→l.b≠lk.b:=by
  intro i' l O' hi hnW hl hO hlv k k' lk hk hlk hc
  by_cases h1:k<s.n
  ·have hkw:k∈ws:=hc.resolve_left (by omega)
   have hs:σ k=some k':=(F.old k h1).symm.trans hk
   obtain⟨O1,q1,q2⟩:=hwas k k' hkw hs
   have hk2:μ k'=some lk:=by rw[hμs k h1,hs]at hlk;exact hlk
   have hne:k'≠i':=fun e=>hnW (e▸F.W1 k k' (hws▸hkw) hs)
   exact(hh.inj k' i' lk l O1 O' hk2 hl hne q1 hO q2 hlv).symm
  ·rcases h.new k lk (by omega) hlk with hge|⟨j,hj,hjn,lj,oj,hlj,hb,hoj,hjw⟩
   ·have:=(hh.dom i' l hl).2;omega
   ·cases hs:σ j with
    |none=>simp[hs]at hlj
    |some j'=>
     simp only[hs,Option.bind_some]at hlj
     obtain⟨O1,q1,q2⟩:=hwas j j' hj hs
     have hne:j'≠i':=fun e=>hnW (e▸F.W1 j j' (hws▸hj) hs)
     rw[←hb]
     exact(hh.inj j' i' lj l O1 O' hlj hl hne q1 hO q2 hlv).symm
 refine⟨μ2,⟨⟨fun i' l hl=>⟨hout i' l hl,?_⟩,fun i' l hl=>?_,fun i' j' l l' O1 O2 hi hj hne hO1 hO2 hw hlv=>?_,fun g hg=>?_⟩,hold,F.nle,F.wl,⟨h.chg.os,h.chg.tape,h.chg.output,h.chg.size,fun b hb hnot=>?_⟩,fun i' l hi' hl=>?_,F.keep,fun i' O' hi' hO=>?_,fun i' h1 h2=>?_,fun i' hi' _=>?_⟩,hρ⟩
 ·rcases hcase i' l hl with⟨_,_,g,_⟩|⟨i,l0,_,g,_,rfl⟩
  ·exact Nat.lt_of_lt_of_le (hh.dom i' l g).2 h.chg.size
  ·rw[F.plb];exact(h.hr.dom i l0 g).2
 ·rcases hcase i' l hl with⟨g1,g2,g3,g4⟩|⟨i,l0,g1,g2,g3,rfl⟩
  ·obtain⟨O',q1,q2⟩:=hh.obj i' l g3
   refine⟨O',g4.trans q1,?_⟩
   cases hlv:O'.live with
   |false=>cases O'<;>simp[O.live]at hlv;trivial
   |true=>
    refine OM.congr (w:=w) (hblk i' l g1 g2 g3 O' q1 hlv) (q2.mono fun k lk hk=>?_)
    rw[hold k (hh.dom k lk hk).1];exact hk
  ·obtain⟨o,O',q1,q2,_,_,q5⟩:=hobj i i' l0 g1 g2 g3
   exact⟨O',q2,q5⟩
 ·rcases hcase i' l hi with⟨a1,a2,a3,a4⟩|⟨i,li,a1,a2,a3,rfl⟩
  ·rw[a4]at hO1
   rcases hcase j' l' hj with⟨b1,b2,b3,b4⟩|⟨j,lj,b1,b2,b3,rfl⟩
   ·rw[b4]at hO2
    exact hh.inj i' j' l l' O1 O2 a3 b3 hne hO1 hO2 hw hlv
   ·rw[F.plb]
    exact hapart i' l O1 a1 a2 a3 hO1 (O.wr_live hw) j j' lj b1 b2 b3
  ·obtain⟨o1,O1',q1,q2,q3,_,_⟩:=hobj i i' li a1 a2 a3
   rw[hO1]at q2;cases q2
   have hw1:o1.wr=true:=q3 hw
   rcases hcase j' l' hj with⟨b1,b2,b3,b4⟩|⟨j,lj,b1,b2,b3,rfl⟩
   ·rw[b4]at hO2
    rw[F.plb]
    exact(hapart j' l' O2 b1 b2 b3 hO2 hlv i i' li a1 a2 a3).symm
   ·obtain⟨o2,O2',r1,r2,_,r4,_⟩:=hobj j j' lj b1 b2 b3
    rw[hO2]at r2;cases r2
    rw[F.plb,F.plb]
    refine h.hr.inj i j li lj o1 o2 a2 b2 (fun e=>hne ?_) q1 r1 hw1 (r4 hlv)
    subst e;rw[a1]at b1;cases b1;rfl
 ·obtain⟨t,ht⟩:=hh.glob g hg
  exact⟨t,by rw[hold g (hh.dom g _ ht).1];exact ht⟩
 ·refine h.chg.block b hb fun i hi l hl=>?_
  cases hs:σ i with
  |none=>simp[hs]at hl
  |some i'=>
   simp only[hs,Option.bind_some]at hl
   exact hnot i' (F.W1 i i' (hws▸hi) hs) l hl
 ·have h2:=hout i' l hl
  obtain⟨k1,k2⟩:=hτ i' hi' h2
  obtain⟨l0,g1,rfl⟩:=hback _ i' l k2 hl
  rw[F.plb]
  rcases h.new (τ i') l0 k1 g1 with hge|⟨j,hj,hjn,lj,oj,hlj,hb,hoj,hjw⟩
  ·exact .inl hge
  ·cases hs:σ j with
   |none=>simp[hs]at hlj
   |some j'=>
    simp only[hs,Option.bind_some]at hlj
    obtain⟨O1,q1,q2⟩:=hwas j j' hj hs
    exact .inr ⟨j',F.W1 j j' (hws▸hj) hs,(F.dom j j' hs).2,lj,O1,hlj,hb,q1,q2⟩
 ·by_cases hW:i'∈W
  ·obtain⟨i,q1,q2,q3,q4⟩:=hwold i' hW
   obtain⟨O1,r1,r2⟩:=hwas i i' q1 q2
   exact⟨O1,r1,fun _=>r2,fun _=>O.wr_live r2⟩
  ·exact⟨O',(F.keep i' hi' hW).symm.trans hO,id,id⟩
 ·obtain⟨k1,k2⟩:=hτ i' h1 h2
  obtain⟨l,hl⟩:=h.full (τ i') k1 (F.new _ _ k1 k2).2.2
  exact⟨pl (τ i') l,(hnew i' h1 h2).trans (by rw[hl];rfl)⟩
 ·obtain⟨i,q1,q2,_⟩:=hwold i' hi'
  exact hwas i i' q1 q2
theorem SemOk.view{g v:V}{args:List V}(h:SemOk P g args s v s')(F:Viewed P σ ρ pl W s s' S S'){g' v':V}{args':List V}(hg:V.ren σ g=some g')(ha:V.rens σ args=some args')(hv:∀μ' μ2 x,PlR ρ pl μ' μ2→VR μ' v x→VR μ2 v' x):
  SemOk P g' args' S v' S':=by
 intro μ w G xs hh hG hxs
 have hσ:∀i i',σ i=some i'→(fun i=>(σ i).bind μ) i=μ i':=fun i i' hi=>by simp[hi]
 have:=h (fun i=>(σ i).bind μ) w G xs (F.hrel hh) ((VR.ren hσ g g' G hg).2 hG) ((VRs.ren hσ args args' xs ha).2 hxs)
 rw[V.ren_isY hg]
 refine this.mono fun x w' ⟨μ',ws,h1,h2⟩=>?_
 obtain⟨μ2,k1,k2⟩:=F.stp hh h2
 exact⟨μ2,W,hv _ _ x k2 h1,k1⟩
end
end Go.Mx
namespace Go.Mx
open Go
def rowsT(h:T O):List O→Nat→T O
 |[],_=>h
 |o::l,n=>(rowsT h l (n+1)).set n o
theorem rowsT_get(h:T O):∀(l:List O) (n i:Nat),(rowsT h l n).get i=if n≤i∧i<n+l.length then l[i-n]? else h.get i
 |[],n,i=>by simp[rowsT];omega
 |o::l,n,i=>by
  simp only[rowsT,T.get_set]
  by_cases e:i=n
  ·subst e;simp
  ·rw[if_neg e,rowsT_get h l (n+1) i]
   by_cases h1:n+1≤i∧i<n+1+l.length
   ·rw[if_pos h1,if_pos (by simp;omega),show i-n=(i-(n+1))+1 by omega];simp
   ·rw[if_neg h1,if_neg (by simp;omega)]
structure View where
 k:Nat
 o:Nat
 len:Nat
 cap:Option Nat
 sz:Nat
 e:TypeId
 zs:List V
def View.pl(v:View)(l:L):L:=⟨l.b,l.d+v.o,match v.cap with|some c=>min (c*v.sz) (l.tot-v.o)|none=>l.tot-v.o⟩
end Go.Mx
namespace Go.Mx
open Go
inductive InpV where
 |nil
 |emp (b:Addr)
 |sl (b:Addr) (l c:Nat) (f:Nat→ByteArray)
def InpV.val:InpV→Value
 |.nil=>.slice none 0 0
 |.emp b=>.slice (some b) 0 0
 |.sl b l c f=>.slice (some b) l c
structure StgV where
 name:ByteArray
 op:ByteArray
 fac:ByteArray
 inp:InpV
 cost:Int
def StgV.cell(s:StgV):Nat→Value
 |0=>.string s.name
 |1=>.string s.op
 |2=>.string s.fac
 |3=>s.inp.val
 |_=>.int .i64 s.cost
def InpV.ok(W:World):InpV→Prop
 |.sl b l c f=>l≤c∧0<c∧∀i,i<c→W.cell? (b.add i)=some (.string (f i))
 |_=>True
def InpV.strs:InpV→List Str
 |.sl b l c f=>(List.range l).map fun i=>(f i).data.toList
 |_=>[]
def eOf(W:World)(a:Addr):TypeId:=match W.heap[a.block]? with
 |some (.cells _ e _)=>e
 |_=>0
def InpV.mv(i:Nat):InpV→V
 |.nil=>.nilslice
 |.emp b=>.empty
 |.sl b l c f=>.slice i 0 l (some c) 1
def InpV.row(W:World):InpV→O
 |.sl b l c f=>.cells ((List.range c).map fun i=>.str (f i).data.toList) (eOf W b) false
 |_=>.dead
def InpV.pl:InpV→Option L
 |.sl b l c f=>some ⟨b.block,b.off,c⟩
 |_=>none
def StgV.mcell(s:StgV)(i:Nat):Nat→V
 |0=>.str s.name.data.toList
 |1=>.str s.op.data.toList
 |2=>.str s.fac.data.toList
 |3=>s.inp.mv i
 |_=>.int .i64 s.cost
theorem cells_of{W:World}{a:Addr}{n:Nat}{f:Nat→Value}(hn:0<n)(hc:∀i,i<n→W.cell? (a.add i)=some (f i)):
  ∃c' lo hi,W.heap[a.block]?=some (.cells c' (eOf W a) (lo,hi))∧a.spot=none∧(∀i,i<n→c'[a.off+i]?=some (f i))∧a.off+n≤c'.size∧a.block<W.heap.size:=by
 have h0:=hc 0 hn
 have ha0:a.add 0=a:=by simp[Addr.add]
 rw[ha0]at h0
 obtain⟨c',e,fr,hb⟩:∃c' e fr,W.heap[a.block]?=some (.cells c' e fr):=by
  unfold World.cell? at h0
  split at h0
  ·rename_i c' e fr hb;exact⟨c',e,fr,hb⟩
  ·cases h0
 have hs:a.spot=none:=by
  unfold World.cell? at h0
  rw[hb]at h0
  simp only at h0
  split at h0
  ·cases h0
  ·rename_i h;simpa using h
 have hcell:∀i,i<n→c'[a.off+i]?=some (f i):=fun i hi=>by
  have:=hc i hi
  unfold World.cell? at this
  have e1:(a.add i).block=a.block:=by unfold Addr.add;split<;>rfl
  have e2:(a.add i).off=a.off+i:=by unfold Addr.add;split<;>simp_all
  have e3:(a.add i).spot=none:=by unfold Addr.add;split<;>simp_all
  rw[e1,hb]at this
  simp only[e2,e3,Option.isSome_none,Bool.false_eq_true,if_false]at this
  exact this
 have hlt:a.block<W.heap.size:=by
  rcases Nat.lt_or_ge a.block W.heap.size with h|h
  ·exact h
  ·rw[Array.getElem?_eq_none h]at hb;cases hb
 have hend:a.off+n≤c'.size:=by
  have:=hcell (n-1) (by omega)
  have h2:=(Array.getElem?_eq_some_iff.1 this).1
  omega
 obtain⟨lo,hi⟩:=fr
 exact⟨c',lo,hi,by rw[hb];simp[eOf,hb],hs,hcell,hend,hlt⟩
end Go.Mx
