/-
  PipelineKeeps: records, own.
-/
import Derived.Test.YtppobccilnifoaaGreatDoorRbK
set_option linter.all false
namespace Go.Mx
open Go Go.Proofs
set_option maxRecDepth 1000000
def A.lb26_0:MCode:=.seq (.reg [bi 10 .lss 9 8])
 (.seq (.cond (.tmp 10)
 (.skip)
 (.exit 0))
 (.seq (.block 1 (.seq (.reg [ia 11 3 7 9,⟨(some 12),.load (some 3) (.tmp 11),none⟩,⟨(some 5),.alloc [(.int .i64 0),(.int .i64 0),.nilslice] 68,none⟩,⟨none,.store 3 (.tmp 5) (.tmp 12),none⟩])
 (.seq (.reg [⟨(some 13),.load (some 3) (.tmp 5),none⟩,⟨(some 6),.alloc [(.int .i64 0),(.int .i64 0),.nilslice] 78,none⟩,⟨none,.store 3 (.tmp 6) (.tmp 13),none⟩])
 (.seq (.reg [⟨(some 14),.bslice 47 1 0 [] [],none⟩,⟨(some 15),.faddr 2 (.tmp 5),none⟩,ld 16 15,⟨(some 17),.append 1 16 47 [(.str [])] (.tmp 14) (.tmp 16),none⟩,⟨(some 18),.faddr 2 (.tmp 6),none⟩,so 18 17])
 (.reg [mv 19 3,⟨(some 20),.load (some 3) (.tmp 6),none⟩,⟨(some 21),.bslice 78 3 1 [(.int .i64 0),(.int .i64 0),.nilslice] [(0,3,(.tmp 20))],none⟩,⟨(some 22),.append 3 40 78 [(.int .i64 0),(.int .i64 0),.nilslice] (.tmp 19) (.tmp 21),none⟩,mv 3 22])))))
 (.reg [bc 23 .add 9 1,mv 9 23])))
def A.b26:MCode:=.seq (.reg [⟨(some 2),.mov (.const .nilslice),none⟩])
 (.seq (.reg [⟨(some 3),.mov (.const .nilslice),none⟩])
 (.seq (.seq (.reg [mv 7 0,ln 8 7,mc 9 0])
 (.block 0 (.loop A.lb26_0)))
 (.seq (.reg [mv 24 3,mv 2 24])
 (.ret))))
theorem A.c26:cFunc Tryz.prog 26=some ⟨25,[.tmp 2],A.b26⟩:=by kernel_rfl
def A.k26{K Q f c args st}:=@A.kk 26 _ _ _ A.c26 rfl K Q f c args st
def A.lb32_0:MCode:=.seq (.reg [bi 9 .lss 8 7])
 (.seq (.cond (.tmp 9)
 (.skip)
 (.exit 0))
 (.seq (.block 1 (.seq (.reg [ia 10 3 6 8,⟨(some 11),.load (some 3) (.tmp 10),none⟩,⟨(some 5),.alloc [(.int .i64 0),(.int .i64 0),.nilslice] 78,none⟩,⟨none,.store 3 (.tmp 5) (.tmp 11),none⟩])
 (.reg [mv 12 3,⟨(some 13),.load (some 3) (.tmp 5),none⟩,⟨(some 14),.bslice 68 3 1 [(.int .i64 0),(.int .i64 0),.nilslice] [(0,3,(.tmp 13))],none⟩,⟨(some 15),.append 3 40 68 [(.int .i64 0),(.int .i64 0),.nilslice] (.tmp 12) (.tmp 14),none⟩,mv 3 15])))
 (.reg [bc 16 .add 8 1,mv 8 16])))
def A.b32:MCode:=.seq (.reg [⟨(some 2),.mov (.const .nilslice),none⟩])
 (.seq (.reg [⟨(some 3),.mov (.const .nilslice),none⟩])
 (.seq (.seq (.reg [mv 6 0,ln 7 6,mc 8 0])
 (.block 0 (.loop A.lb32_0)))
 (.seq (.reg [mv 17 3,mv 2 17])
 (.ret))))
theorem A.c32:cFunc Tryz.prog 32=some ⟨18,[.tmp 2],A.b32⟩:=by kernel_rfl
def A.k32{K Q f c args st}:=@A.kk 32 _ _ _ A.c32 rfl K Q f c args st
theorem Sl.row_lt{h:T O}{N:Nat}{v:V}{l:List V}(s:Sl h N v l):∀i∈rowV v,i<N:=fun i hi=>by
 rcases s with⟨_,rfl|rfl⟩|⟨j,o,cp,c,e,rw,rfl,hj,_⟩
 ·simp[rowV]at hi
 ·simp[rowV]at hi
 ·simp[rowV]at hi;omega
theorem own_fn{h:T O}{N:Nat}{v:V}{l:List Rc}(hs:RcS h N v l)(hl:l.length<100000):Fn A.C 32 [v] h N (fun u h' n'=>RcS h' n' u l):=by
 intro w
 have hlen:=hs.len
 obtain⟨cs,hs1,hs2,hs3⟩:=hs
 rw[call_run,A.k32 (by simp)]
 simp(disch:=first|(simp;done)|omega|rfl) [-getElem?_pos,A.b32,hlen]
 refine run_loopD [(3,3),(5,5),(8,16)] (fun e r st=>e=.exit 0∧oldIds N st.w=[]∧Keeps h N st.h st.n∧∃u,r.get 3=some u∧Own 3 68 N st.h st.n u cs) (fun m r st=>oldIds N st.w=[]∧Keeps h N st.h st.n∧∃k u,k+m=l.length∧r.get 8=some (.int .i64 k)∧r.get 3=some u∧Own 3 68 N st.h st.n u (cs.take k)) l.length ?_ ?_ ?_
 ·exact⟨by simp,Keeps.refl,0,.nilslice,by omega,by simp,by simp,by simpa using Own.nil⟩
 ·rintro m r ⟨H,n1,W⟩ hr hf ⟨hW,hK,k,u,hk,h8,h3,ho⟩
  simp only at hW hK ho
  rw[code_run]
  cases m with
  |zero=>
   obtain rfl:k=l.length:=by omega
   rw[←hs2,List.take_length]at ho
   simp(disch:=first|(simp;done)|omega|rfl) [-getElem?_pos,A.lb32_0,hr,hf,h8,hW,hK]
   exact⟨u,h3,ho⟩
  |succ m=>
   have hlt:k<l.length:=by omega
   obtain⟨x,hx⟩:=get_of_lt hlt
   obtain⟨v0,hc,q5⟩:=hs3 k x hx
   obtain⟨i,o,cc,e,rw,q1,q2,q3,q4⟩:=(hs1.keep hK).at hc
   obtain⟨p1,_⟩:=rc_parts q4
   unfold rcC at p1
   have hk1:(k:Int)<(l.length:Int):=by omega
   have o1:=q5.form.one
   have o2:=q5.form.cells
   unfold V.one at o1
   unfold V.cells at o2
   have kn:=hK.le
   simp(disch:=first|(simp;done)|omega|rfl) [-getElem?_pos, -partV,A.lb32_0,hr,hf,h8,h3,hk1,hlt,hlen,q1,q3,p1,splice,storeK2,o1,o2]
   simp(disch:=first|(simp;done)|omega|rfl) [-getElem?_pos,hr,hf,partV,slc,splice,o1,o2]
   generalize hH:((H.set n1 (.cells [.int .i64 0,.int .i64 0,.nilslice] 78 true)).set n1 (.cells [.int .i64 x.f,.int .i64 x.t,v0] 78 true)).set (n1+1) (.cells [.int .i64 x.f,.int .i64 x.t,v0] 68 true)=H2
   have k2:Keeps H n1 H2 (n1+1+1):=by rw[←hH];exact((Keeps.refl.new _).set (Nat.le_refl _)).new _
   have g2:H2.get (n1+1)=some (.cells [.int .i64 x.f,.int .i64 x.t,v0] 68 true):=by rw[←hH];simp
   obtain⟨v',h',w',f1,f2,f3,f4,f5⟩:=append_own (x:=rcC (x,v0)) (u:=.slice (n1+1) 0 1 (some 1) 3) (bytes:=40) (w:=n1::W) (ho.keep k2) (by omega) (by decide) rfl (by simp[srcCells,St.row,g2,slc,rcC]) (by simp;omega)
   have wok:¬n1<N:=by omega
   have f6:oldIds N w'=[]:=by rw[f2];simp[oldIds,hW,wok]
   have kz:=(hK.trans k2).then f3
   have f7:cs.take k++[rcC (x,v0)]=cs.take (k+1):=by rw[List.take_add_one,hc];rfl
   rw[f7]at f5
   simp(disch:=first|(simp;done)|omega|rfl) [-getElem?_pos,hr,hf,h8,f1,f6]
   exact⟨m,by omega,kz,k+1,by omega,by simp,f5⟩
 ·rintro _ r ⟨H,n1,W⟩ hr ⟨rfl,hW,hK,u,h3,ho⟩
  simp only at hW hK ho
  simp(disch:=first|(simp;done)|omega|rfl) [-getElem?_pos,hr,h3,Ret,hW,hK]
  refine⟨cs,ho.sn,hs2,fun j x hx=>?_⟩
  obtain⟨y,y1,y2⟩:=hs3 j x hx
  exact⟨y,y1,y2.keep hK⟩
def SV(h:T O)(n:Nat)(u:V)(x:Rc):Prop:=Sl h n u (strs x.vs)∧∀i∈rowV u,∃z w,h.get i=some (.cells z 47 w)
theorem SV.keep{h h':T O}{n n':Nat}{u:V}{x:Rc}(s:SV h n u x)(k:Keeps h n h' n'):SV h' n' u x:=⟨s.1.keep k,fun i hi=>by rw[k.get i (s.1.row_lt i hi)];exact s.2 i hi⟩
theorem SV.moved{h h':T O}{n n':Nat}{u v:V}{x:Rc}{Y:V→Prop}(s:SV h n u x)(k:Upd (fun i=>i∈rowV v) h n h' n')(hd:Dies 78 Y h v):SV h' n' u x:=by
 have hn:∀i∈rowV u,i∉rowV v:=fun i hi hc=>by
  obtain⟨z,w,hz⟩:=s.2 i hi
  obtain⟨z2,hz2,_⟩:=hd i hc
  rw[hz]at hz2
  simp at hz2
 exact⟨s.1.moved k hn,fun i hi=>by rw[k.get i (s.1.row_lt i hi) (hn i hi)];exact s.2 i hi⟩
def RcT(h:T O)(N:Nat)(v:V)(l:List Rc):Prop:=∃cs:List (List V),Sn 3 h N v cs∧cs.length=l.length∧∀(j:Nat) (x:Rc),l[j]?=some x→∃u,cs[j]?=some (rcC (x,u))∧SV h N u x
theorem RcT.rcs{h:T O}{N:Nat}{v:V}{l:List Rc}(s:RcT h N v l):RcS h N v l:=by
 obtain⟨cs,h1,h2,h3⟩:=s
 refine⟨cs,h1,h2,fun j x hx=>?_⟩
 obtain⟨u,h4,h5⟩:=h3 j x hx
 exact⟨u,h4,h5.1⟩
theorem RcT.at{h:T O}{N:Nat}{v:V}{l:List Rc}(s:RcT h N v l){j:Nat}{x:Rc}(hj:l[j]?=some x):∃i o c e rw u,baseV v=some (i,o)∧i<N∧h.get i=some (.cells c e rw)∧slc c (o+j*3) 3=some (rcC (x,u))∧SV h N u x:=by
 obtain⟨cs,h1,h2,h3⟩:=s
 obtain⟨u,h4,h5⟩:=h3 j x hj
 obtain⟨i,o,c,e,rw,q1,q2,q3,q4⟩:=h1.at h4
 exact⟨i,o,c,e,rw,u,q1,q2,q3,q4,h5⟩
theorem lrecs_fn{h:T O}{N:Nat}{v:V}{l:List Rc}(hs:RcS h N v l)(hl:l.length<100000)(hv:∀x∈l,x.vs.length<100000):Fn A.C 26 [v] h N (fun u h' n'=>RcT h' n' u l∧∀i∈rowV u,N≤i):=by
 intro w
 have hlen:=hs.len
 rw[call_run,A.k26 (by simp)]
 simp(disch:=first|(simp;done)|omega|rfl) [-getElem?_pos,A.b26,hlen]
 refine run_loopD [(3,3),(5,6),(9,23)] (fun e r st=>e=.exit 0∧oldIds N st.w=[]∧Keeps h N st.h st.n∧∃u,r.get 3=some u∧RcT st.h st.n u l∧∀i∈rowV u,N≤i) (fun m r st=>oldIds N st.w=[]∧Keeps h N st.h st.n∧∃k u cs,k+m=l.length∧r.get 9=some (.int .i64 k)∧r.get 3=some u∧Own 3 78 N st.h st.n u cs∧(cs=[]→u=.nilslice)∧cs.length=k∧∀(j:Nat) (x:Rc),j<k→l[j]?=some x→∃y,cs[j]?=some (rcC (x,y))∧SV st.h st.n y x) l.length ?_ ?_ ?_
 ·exact⟨by simp,Keeps.refl,0,.nilslice,[],by omega,by simp,by simp,Own.nil,fun _=>rfl,rfl,fun j x hj=>by omega⟩
 ·rintro m r ⟨H,n1,W⟩ hr hf ⟨hW,hK,k,u,cs,hk,h9,h3,ho,hnil,hcl,hcs⟩
  simp only at hW hK ho hcs
  rw[code_run]
  cases m with
  |zero=>
   obtain rfl:k=l.length:=by omega
   simp(disch:=first|(simp;done)|omega|rfl) [-getElem?_pos,A.lb26_0,hr,hf,h9,hW,hK]
   exact⟨u,h3,⟨cs,ho.sn,hcl,fun j x hx=>hcs j x (lt_of_get hx) hx⟩,fun i hi=>by
    obtain⟨_,⟨_,rfl⟩|⟨i2,rfl,a1,_⟩⟩:=ho
    ·simp[rowV]at hi
    ·simp[rowV]at hi;omega⟩
  |succ m=>
   have hlt:k<l.length:=by omega
   obtain⟨x,hx⟩:=get_of_lt hlt
   obtain⟨i,o,cc,e,rw,v0,q1,q2,q3,q4,q5⟩:=(hs.keep hK).at hx
   obtain⟨p1,_⟩:=rc_parts q4
   unfold rcC at p1
   have hk1:(k:Int)<(l.length:Int):=by omega
   have o1:=q5.form.one
   have o2:=q5.form.cells
   unfold V.one at o1
   unfold V.cells at o2
   have kn:=hK.le
   have hxl:=hv x (List.mem_of_getElem? hx)
   simp(disch:=first|(simp;done)|omega|rfl) [-getElem?_pos, -partV,A.lb26_0,hr,hf,h9,h3,hk1,hlt,hlen,q1,q3,p1,splice,storeK2,o1,o2]
   simp(disch:=first|(simp;done)|omega|rfl) [-getElem?_pos,hr,hf,partV,slc,splice,o1,o2,storeK2]
   generalize hH:((((H.set n1 (.cells [.int .i64 0,.int .i64 0,.nilslice] 68 true)).set n1 (.cells [.int .i64 x.f,.int .i64 x.t,v0] 68 true)).set (n1+1) (.cells [.int .i64 0,.int .i64 0,.nilslice] 78 true)).set (n1+1) (.cells [.int .i64 x.f,.int .i64 x.t,v0] 78 true)).set (n1+1+1) (.cells [] 47 true)=H2
   have k2:Keeps H n1 H2 (n1+1+1+1):=by rw[←hH];exact((((Keeps.refl.new _).set (Nat.le_refl _)).new _).set (by omega)).new _
   have g2:H2.get (n1+1)=some (.cells [.int .i64 x.f,.int .i64 x.t,v0] 78 true):=by rw[←hH];simp
   have g3:H2.get (n1+1+1)=some (.cells [] 47 true):=by rw[←hH];simp
   obtain⟨y,h5,n5,c1,c2,c3,c4,c5⟩:=copy_vals (w:=(n1+1)::n1::W) g3 (by omega) (q5.keep k2) (by rw[strs_len];omega)
   have kle5:=c2.le
   have g4:=(c2.get (n1+1) (by omega)).trans g2
   have y1:=c3.form.one
   have y2:=c3.form.cells
   unfold V.one at y1
   unfold V.cells at y2
   simp(disch:=first|(simp;done)|omega|rfl) [-getElem?_pos,hr,hf,h9,h3,c1,g4,partV,slc,splice,storeK2,y1,y2]
   generalize hH3:(h5.set (n1+1) (.cells [.int .i64 x.f,.int .i64 x.t,y] 78 true)).set n5 (.cells [.int .i64 x.f,.int .i64 x.t,y] 78 true)=H3
   have k3:Upd (fun i=>i=n1+1) h5 n5 H3 (n5+1):=by rw[←hH3];exact(Upd.set (D:=fun i=>i=n1+1) Upd.refl (.inl rfl)).new _
   have k4:Keeps H n1 H3 (n5+1):=⟨by omega,fun i hi=>by rw[k3.get i (by omega) (by omega),c2.get i (by omega),k2.get i hi]⟩
   have g6:H3.get n5=some (.cells [.int .i64 x.f,.int .i64 x.t,y] 78 true):=by rw[←hH3];simp
   have sv:SV H3 (n5+1) y x:=by
    have hne:∀i∈rowV y,¬i=n1+1:=fun i hi=>by
     rcases c4 i hi with rfl|hh<;>omega
    exact⟨c3.moved k3 hne,fun i hi=>by rw[k3.get i (c3.row_lt i hi) (hne i hi)];exact c5 i hi⟩
   obtain⟨v',h',w',f1,f2,f3,f4,fD,f5⟩:=append_own2 (Y:=fun _=>True) (x:=rcC (x,y)) (u:=.slice n5 0 1 (some 1) 3) (bytes:=40) (w:=(n1+1)::(n1+1)::n1::W) (ho.keep k4) hnil (fun _ _ _ _=>trivial) (by omega) (by decide) rfl (by simp[srcCells,St.row,g6,slc,rcC]) (by omega)
   have wok:¬n1<N:=by omega
   have wok2:¬n1+1<N:=by omega
   have f6:oldIds N w'=[]:=by rw[f2];simp[oldIds,hW,wok,wok2]
   have kz:=(hK.trans k4).then f3
   simp(disch:=first|(simp;done)|omega|rfl) [-getElem?_pos,hr,hf,h9,f1,f6]
   refine⟨m,by omega,kz,k+1,by omega,by simp,cs++[rcC (x,y)],f5,by simp,by simp[hcl],fun j z hj hz=>?_⟩
   by_cases hjk:j<k
   ·obtain⟨a,a1,a2⟩:=hcs j z hjk hz
    exact⟨a,by rw[List.getElem?_append_left (by omega)];exact a1,(a2.keep k4).moved f4 fD⟩
   ·obtain rfl:j=k:=by omega
    rw[hx]at hz
    obtain rfl:x=z:=by simpa using hz
    exact⟨y,by rw[List.getElem?_append_right (by omega),hcl];simp,sv.moved f4 fD⟩
 ·rintro _ r ⟨H,n1,W⟩ hr ⟨rfl,hW,hK,u,h3,hu⟩
  simp only at hW hK hu
  simp(disch:=first|(simp;done)|omega|rfl) [-getElem?_pos,hr,h3,Ret,hW,hK]
  exact hu
end Go.Mx
namespace Go.Mx
open Go Go.Proofs
set_option maxRecDepth 1000000
def A.lb40_0:MCode:=.seq (.seq (.reg [mv 11 5,mv 12 0,ln 13 12,bi 14 .lss 11 13])
 (.cond (.tmp 14)
 (.skip)
 (.exit 0)))
 (.seq (.block 1 (.seq (.regD [mv 17 0,mv 18 5,ia 19 1 17 18,ld 20 19,mv 21 1,mv 22 5,ia 23 1 21 22,ld 24 23,⟨(some 25),.bin .neq (.prim .str) false (.tmp 20) (.tmp 24),none⟩] [0,0,3,7,0,0,48,112,255])
 (.cond (.tmp 25)
 (.seq (.reg [⟨(some 4),.mov (.const (.bool false)),none⟩])
 (.ret))
 (.skip))))
 (.reg [mv 15 5,bc 16 .add 15 1,mv 5 16]))
def A.b40:MCode:=.seq (.reg [⟨(some 4),.mov (.const (.bool false)),none⟩])
 (.seq (.seq (.reg [mv 6 0,ln 7 6,mv 8 1,ln 9 8,⟨(some 10),.bin .neq (.prim .int) false (.tmp 7) (.tmp 9),none⟩])
 (.cond (.tmp 10)
 (.seq (.reg [⟨(some 4),.mov (.const (.bool false)),none⟩])
 (.ret))
 (.skip)))
 (.seq (.seq (.reg [mc 5 0])
 (.block 0 (.loop A.lb40_0)))
 (.seq (.reg [⟨(some 4),.mov (.const (.bool true)),none⟩])
 (.ret))))
theorem A.c40:cFunc Tryz.prog 40=some ⟨26,[.tmp 4],A.b40⟩:=by kernel_rfl
def A.k40{K Q f c args st}:=@A.kk 40 _ _ _ A.c40 rfl K Q f c args st
def A.lb31_0:MCode:=.seq (.seq (.reg [mv 11 5,mv 12 0,ln 13 12,bi 14 .lss 11 13])
 (.cond (.tmp 14)
 (.skip)
 (.exit 0)))
 (.seq (.block 1 (.seq (.regD [mv 17 0,mv 18 5,ia 19 3 17 18,⟨(some 20),.faddr 0 (.tmp 19),none⟩,ld 21 20,mv 22 1,mv 23 5,ia 24 3 22 23,⟨(some 25),.faddr 0 (.tmp 24),none⟩,ld 26 25,⟨(some 27),.bin .neq (.prim .int) false (.tmp 21) (.tmp 26),none⟩,mv 28 27,⟨(some 29),.mov (.tmp 0),(some (28,false))⟩,⟨(some 30),.mov (.tmp 5),(some (28,false))⟩,⟨(some 31),.iaddrSl 3 (.tmp 29) (.tmp 30),(some (28,false))⟩,⟨(some 32),.faddr 1 (.tmp 31),(some (28,false))⟩,⟨(some 33),.load none (.tmp 32),(some (28,false))⟩,⟨(some 34),.mov (.tmp 1),(some (28,false))⟩,⟨(some 35),.mov (.tmp 5),(some (28,false))⟩,⟨(some 36),.iaddrSl 3 (.tmp 34) (.tmp 35),(some (28,false))⟩,⟨(some 37),.faddr 1 (.tmp 36),(some (28,false))⟩,⟨(some 38),.load none (.tmp 37),(some (28,false))⟩,⟨(some 39),.bin .neq (.prim .int) false (.tmp 33) (.tmp 38),(some (28,false))⟩,⟨(some 40),.pick (.tmp 28) (.const (.bool true)) (.tmp 39),none⟩,mv 41 40,⟨(some 42),.mov (.tmp 0),(some (41,false))⟩,⟨(some 43),.mov (.tmp 5),(some (41,false))⟩,⟨(some 44),.iaddrSl 3 (.tmp 42) (.tmp 43),(some (41,false))⟩,⟨(some 45),.faddr 2 (.tmp 44),(some (41,false))⟩,⟨(some 46),.load none (.tmp 45),(some (41,false))⟩,⟨(some 47),.mov (.tmp 1),(some (41,false))⟩,⟨(some 48),.mov (.tmp 5),(some (41,false))⟩,⟨(some 49),.iaddrSl 3 (.tmp 47) (.tmp 48),(some (41,false))⟩,⟨(some 50),.faddr 2 (.tmp 49),(some (41,false))⟩,⟨(some 51),.load none (.tmp 50),(some (41,false))⟩,⟨(some 52),.call (.const (.func 40 [] [])) [(.tmp 46),(.tmp 51)],(some (41,false))⟩,⟨(some 53),.un .not (.tmp 52),(some (41,false))⟩,⟨(some 54),.pick (.tmp 41) (.const (.bool true)) (.tmp 53),none⟩] [0,0,3,7,15,0,0,96,224,480,1023,2047,4095,4095,16383,32767,65535,4095,4095,397311,921599,1970175,4194303,8388607,16777215,33554431,33554431,134217727,268435455,536870911,33554431,33554431,3254779903,7549747199,16139681791,34359738367,68719476735,137438953471])
 (.cond (.tmp 54)
 (.seq (.reg [⟨(some 4),.mov (.const (.bool false)),none⟩])
 (.ret))
 (.skip))))
 (.reg [mv 15 5,bc 16 .add 15 1,mv 5 16]))
def A.b31:MCode:=.seq (.reg [⟨(some 4),.mov (.const (.bool false)),none⟩])
 (.seq (.seq (.reg [mv 6 0,ln 7 6,mv 8 1,ln 9 8,⟨(some 10),.bin .neq (.prim .int) false (.tmp 7) (.tmp 9),none⟩])
 (.cond (.tmp 10)
 (.seq (.reg [⟨(some 4),.mov (.const (.bool false)),none⟩])
 (.ret))
 (.skip)))
 (.seq (.seq (.reg [mc 5 0])
 (.block 0 (.loop A.lb31_0)))
 (.seq (.reg [⟨(some 4),.mov (.const (.bool true)),none⟩])
 (.ret))))
theorem A.c31:cFunc Tryz.prog 31=some ⟨55,[.tmp 4],A.b31⟩:=by kernel_rfl
def A.k31{K Q f c args st}:=@A.kk 31 _ _ _ A.c31 rfl K Q f c args st
def A.lb21_0:MCode:=.seq (.seq (.reg [mv 38 6,mv 39 0,mv 40 5,ia 41 3 39 40,⟨(some 42),.faddr 2 (.tmp 41),none⟩,ld 43 42,ln 44 43,bi 45 .lss 38 44])
 (.cond (.tmp 45)
 (.skip)
 (.exit 2)))
 (.seq (.block 3 (.seq (.reg [mv 48 0,mv 49 5,ia 50 3 48 49,⟨(some 51),.faddr 2 (.tmp 50),none⟩,ld 52 51,mv 53 6,ia 54 1 52 53,ld 55 54,⟨(some 56),.len 0 (.tmp 55),none⟩,bc 57 .gtr 56 60])
 (.cond (.tmp 57)
 (.seq (.reg [⟨(some 4),.mov (.const (.bool false)),none⟩])
 (.ret))
 (.skip))))
 (.reg [mv 46 6,bc 47 .add 46 1,mv 6 47]))
def A.lb21_1:MCode:=.seq (.seq (.reg [mv 16 5,mv 17 0,ln 18 17,bi 19 .lss 16 18])
 (.cond (.tmp 19)
 (.skip)
 (.exit 0)))
 (.seq (.block 1 (.seq (.seq (.reg [mv 22 0,mv 23 5,ia 24 3 22 23,⟨(some 25),.faddr 2 (.tmp 24),none⟩,ld 26 25,ln 27 26,bc 28 .gtr 27 7,mv 29 28,⟨(some 30),.mov (.tmp 0),(some (29,true))⟩,⟨(some 31),.mov (.tmp 5),(some (29,true))⟩,⟨(some 32),.iaddrSl 3 (.tmp 30) (.tmp 31),(some (29,true))⟩,⟨(some 33),.faddr 2 (.tmp 32),(some (29,true))⟩,⟨(some 34),.load none (.tmp 33),(some (29,true))⟩,⟨(some 35),.len 1 (.tmp 34),(some (29,true))⟩,⟨(some 36),.bin .neq (.prim .int) true (.tmp 35) (.const (.int .i64 17)),(some (29,true))⟩,⟨(some 37),.pick (.tmp 29) (.tmp 36) (.const (.bool false)),none⟩])
 (.cond (.tmp 37)
 (.seq (.reg [⟨(some 4),.mov (.const (.bool false)),none⟩])
 (.ret))
 (.skip)))
 (.seq (.reg [mc 6 0])
 (.block 2 (.loop A.lb21_0)))))
 (.reg [mv 20 5,bc 21 .add 20 1,mv 5 21]))
def A.b21:MCode:=.seq (.reg [⟨(some 4),.mov (.const (.bool false)),none⟩])
 (.seq (.seq (.reg [mv 7 0,ln 8 7,mv 9 1,bi 10 .gtr 8 9,mv 11 10,⟨(some 12),.mov (.tmp 0),(some (11,true))⟩,⟨(some 13),.len 1 (.tmp 12),(some (11,true))⟩,⟨(some 14),.bin .neq (.prim .int) true (.tmp 13) (.const (.int .i64 257)),(some (11,true))⟩,⟨(some 15),.pick (.tmp 11) (.tmp 14) (.const (.bool false)),none⟩])
 (.cond (.tmp 15)
 (.seq (.reg [⟨(some 4),.mov (.const (.bool false)),none⟩])
 (.ret))
 (.skip)))
 (.seq (.seq (.reg [mc 5 0])
 (.block 0 (.loop A.lb21_1)))
 (.seq (.reg [⟨(some 4),.mov (.const (.bool true)),none⟩])
 (.ret))))
theorem A.c21:cFunc Tryz.prog 21=some ⟨58,[.tmp 4],A.b21⟩:=by kernel_rfl
def A.k21{K Q f c args st}:=@A.kk 21 _ _ _ A.c21 rfl K Q f c args st
theorem srow_eq{h:T O}{N:Nat}{u v:V}{l:List Str}{w:List Nat}(hu:Sl h N u (strs l))(hv:Sl h N v (strs l))(hl:l.length<100000):A.C.call (.func 40 [] []) [u,v] ⟨h,N,w⟩=some (.bool true,⟨h,N,w⟩):=by
 apply Call.eq
 have l1:=hu.len
 have l2:=hv.len
 rw[strs_len]at l1 l2
 rw[call_run,A.k40 (by simp)]
 simp(disch:=first|(simp;done)|omega|rfl) [-getElem?_pos,A.b40,l1,l2,eqPrim]
 refine run_loopD [(4,5),(11,25)] (fun e r st=>st=⟨h,N,[]⟩∧e=.exit 0) (fun m r st=>st=⟨h,N,[]⟩∧∃k,k+m=l.length∧r.get 5=some (.int .i64 k)) l.length ?_ ?_ ?_
 ·exact⟨rfl,0,by omega,by simp⟩
 ·rintro m r _ hr hf ⟨rfl,k,hk,h5⟩
  rw[code_run]
  cases m with
  |zero=>
   obtain rfl:k=l.length:=by omega
   simp(disch:=first|(simp;done)|omega|rfl) [-getElem?_pos,A.lb40_0,hr,hf,h5,l1]
  |succ m=>
   have hlt:k<l.length:=by omega
   obtain⟨s,hs⟩:=get_of_lt hlt
   obtain⟨i,o,c,e,rw,q1,q2,q3,q4⟩:=hu.at (strs_get hs)
   obtain⟨i',o',c',e',rw',p1,p2,p3,p4⟩:=hv.at (strs_get hs)
   have hk1:(k:Int)<(l.length:Int):=by omega
   simp(disch:=first|(simp;done)|omega|rfl) [-getElem?_pos,A.lb40_0,hr,hf,h5,l1,l2,hk1,hlt,q1,q2,q3,q4,p1,p2,p3,p4,strBin,eqPrim,pairsOk.chk]
   exact⟨m,by omega,k+1,by omega,by simp⟩
 ·rintro _ r _ hr ⟨rfl,rfl⟩
  simp(disch:=first|(simp;done)|omega|rfl) [-getElem?_pos,hr]
set_option maxHeartbeats 4000000 in
theorem srec_eq{h:T O}{N:Nat}{u v:V}{l:List Rc}{w:List Nat}(hu:RcS h N u l)(hv:RcS h N v l)(hl:l.length<100000)(hx:∀x∈l,x.vs.length<100000):A.C.call (.func 31 [] []) [u,v] ⟨h,N,w⟩=some (.bool true,⟨h,N,w⟩):=by
 apply Call.eq
 have l1:=hu.len
 have l2:=hv.len
 rw[call_run,A.k31 (by simp)]
 simp(disch:=first|(simp;done)|omega|rfl) [-getElem?_pos,A.b31,l1,l2,eqPrim]
 refine run_loopD [(4,5),(11,54)] (fun e r st=>st=⟨h,N,[]⟩∧e=.exit 0) (fun m r st=>st=⟨h,N,[]⟩∧∃k,k+m=l.length∧r.get 5=some (.int .i64 k)) l.length ?_ ?_ ?_
 ·exact⟨rfl,0,by omega,by simp⟩
 ·rintro m r _ hr hf ⟨rfl,k,hk,h5⟩
  rw[code_run]
  cases m with
  |zero=>
   obtain rfl:k=l.length:=by omega
   simp(disch:=first|(simp;done)|omega|rfl) [-getElem?_pos,A.lb31_0,hr,hf,h5,l1]
  |succ m=>
   have hlt:k<l.length:=by omega
   obtain⟨x,hs⟩:=get_of_lt hlt
   obtain⟨i,o,c,e,rw,y,q1,q2,q3,q4,q5⟩:=hu.at hs
   obtain⟨i',o',c',e',rw',y',p1,p2,p3,p4,p5⟩:=hv.at hs
   obtain⟨_,a1,a2,a3⟩:=rc_parts q4
   obtain⟨_,b1,b2,b3⟩:=rc_parts p4
   have hk1:(k:Int)<(l.length:Int):=by omega
   have hc:=fun w=>srow_eq (w:=w) q5 p5 (hx x (List.mem_of_getElem? hs))
   simp(disch:=first|(simp;done)|omega|rfl) [-getElem?_pos,A.lb31_0,hr,hf,h5,l1,l2,hk1,hlt,q1,q2,q3,p1,p2,p3,a1,a2,a3,b1,b2,b3,hc,eqPrim,pairsOk.chk]
   exact⟨m,by omega,k+1,by omega,by simp⟩
 ·rintro _ r _ hr ⟨rfl,rfl⟩
  simp(disch:=first|(simp;done)|omega|rfl) [-getElem?_pos,hr]
def shortRc(x:Rc):Bool:=decide (x.vs.length≤7∨x.vs.length=17)&&x.vs.all fun s=>decide (s.length≤60)
def shortRcs(l:List Rc)(n:Nat):Bool:=decide (l.length≤n∨l.length=257)&&l.all shortRc
def SrI(h:T O)(N:Nat)(l:List Rc)(m:Nat)(r:T V)(st:St):Prop:=st=⟨h,N,[]⟩∧∃k,k+m=l.length∧r.get 5=some (.int .i64 k)∧l.all shortRc=(l.drop k).all shortRc
theorem shr_loop{h:T O}{N:Nat}{v:V}{l:List Rc}(hs:RcS h N v l)(hl:l.length<9223372036854775808)(hin:∀x∈l,x.vs.length<9223372036854775808){r0:T V}(a0:r0.get 0=some v):
  ∀k r st,(∀t,inD [(4,6),(16,57)] t=false→r.get t=r0.get t)→Fx [(4,6),(16,57)] r0 58 ⟨r,58,[]⟩→SrI h N l k r st→Code A.C none A.lb21_1 ⟨r,58,[]⟩ st (Rd [(4,6),(16,57)] r0 58 (SrI h N l) k (fun e r st=>st=⟨h,N,[]⟩∧((e=.exit 0∧l.all shortRc=true)∨(e=.ret∧l.all shortRc=false∧r.get 4=some (.bool false))))):=by
 rintro m r _ hr hf ⟨rfl,k,hk,h3,hz⟩
 have lg:=hs.len
 rw[code_run]
 cases m with
 |zero=>
  have:k=l.length:=by omega
  subst this
  rw[List.drop_length,List.all_nil]at hz
  simp(disch:=first|(simp;done)|omega|rfl) [-getElem?_pos,A.lb21_1,hr,hf,a0,h3,lg]
  simpa using hz
 |succ m=>
  have hlt:k<l.length:=by omega
  obtain⟨x,hx⟩:=get_of_lt hlt
  obtain⟨i,o,cc,e,rw,y,q1,q2,q3,q4,q5⟩:=hs.at hx
  obtain⟨_,p1,p2,p3⟩:=rc_parts q4
  have hk1:(k:Int)<(l.length:Int):=by omega
  have lz:=q5.len
  rw[strs_len]at lz
  have hinl:=hin x (List.mem_of_getElem? hx)
  rw[get_drop_cons hx,List.all_cons]at hz
  have fal:∀(hc:shortRc x=false),l.all shortRc=false:=fun hc=>by rw[hz,hc];rfl
  by_cases c4:x.vs.length≤7∨x.vs.length=17
  ·have hss:shortRc x=x.vs.all (fun n=>decide (n.length≤60)):=by simp[shortRc,c4]
   rcases c4 with c4|c4
   ·have c4':¬7<(x.vs.length:Int):=by omega
    simp(disch:=first|(simp;done)|omega|rfl) [-getElem?_pos,A.lb21_1,hr,hf,a0,h3,hk1,hlt,lg,q1,q3,p3,lz,c4']
    refine run_loopD [(4,4),(6,6),(38,57)] (fun e r st=>st=⟨h,N,[]⟩∧((e=.exit 2∧shortRc x=true)∨(e=.ret∧shortRc x=false∧r.get 4=some (.bool false)))) (fun m r st=>st=⟨h,N,[]⟩∧∃t,t+m=x.vs.length∧r.get 6=some (.int .i64 t)∧shortRc x=(x.vs.drop t).all (fun n=>decide (n.length≤60))) x.vs.length ?_ ?_ ?_
    ·exact⟨rfl,0,by omega,by simp,by simpa using hss⟩
    ·rintro m2 r2 _ hr2 hf2 ⟨rfl,t,ht,h4,hz2⟩
     rw[code_run]
     cases m2 with
     |zero=>
      have:t=x.vs.length:=by omega
      rw[this,List.drop_length,List.all_nil]at hz2
      rw[this]at h4
      simp(disch:=first|(simp;done)|omega|rfl) [-getElem?_pos,A.lb21_0,hr,hr2,hf2,a0,h3,h4,hk1,hlt,lg,q1,q3,p3,lz,hz2]
     |succ m2=>
      have htl:t<x.vs.length:=by omega
      have htl':(t:Int)<(x.vs.length:Int):=by omega
      obtain⟨n,hn⟩:=get_of_lt htl
      obtain⟨b1,b2,b3,b4,b5,z1,z2,z3,z4⟩:=q5.at (strs_get hn)
      rw[get_drop_cons hn,List.all_cons]at hz2
      by_cases cn:n.length≤60
      ·have cn':¬60<(n.length:Int):=by omega
       simp(disch:=first|(simp;done)|omega|rfl) [-getElem?_pos,A.lb21_0,hr,hr2,hf2,a0,h3,h4,hk1,hlt,htl,htl',lg,q1,q3,p3,lz,z1,z3,z4,cn']
       exact⟨m2,by omega,t+1,by omega,by simp,by rw[hz2];simp[cn]⟩
      ·have cn':60<(n.length:Int):=by omega
       have hq:shortRc x=false:=by rw[hz2];simp[cn]
       simp(disch:=first|(simp;done)|omega|rfl) [-getElem?_pos,A.lb21_0,hr,hr2,hf2,a0,h3,h4,hk1,hlt,htl,htl',lg,q1,q3,p3,lz,z1,z3,z4,cn',hq]
    ·rintro e r2 _ hr2 ⟨rfl,⟨rfl,hq⟩|⟨rfl,hq,h2⟩⟩
     ·have hfi:=hf.inner (D':=[(4,4),(6,6),(38,57)]) rfl (by simp) hr2
      have hz':l.all shortRc=(l.drop (k+1)).all shortRc:=by rw[hz,hq];simp
      simp(disch:=first|(simp;done)|omega|rfl) [-getElem?_pos,hr,hr2,h3,hfi]
      exact⟨m,by omega,rfl,k+1,by omega,by simp,hz'⟩
     ·have hfi:=hf.inner (D':=[(4,4),(6,6),(38,57)]) rfl (by simp) hr2
      have hq':=fal hq
      simp(disch:=first|(simp;done)|omega|rfl) [-getElem?_pos,hr,hr2,h2,hfi]
      simpa using hq'
   ·have c4':7<(x.vs.length:Int):=by omega
    have c5':(x.vs.length:Int)=17:=by omega
    simp(disch:=first|(simp;done)|omega|rfl) [-getElem?_pos,A.lb21_1,hr,hf,a0,h3,hk1,hlt,lg,q1,q3,p3,lz,c4',c4,eqPrim]
    refine run_loopD [(4,4),(6,6),(38,57)] (fun e r st=>st=⟨h,N,[]⟩∧((e=.exit 2∧shortRc x=true)∨(e=.ret∧shortRc x=false∧r.get 4=some (.bool false)))) (fun m r st=>st=⟨h,N,[]⟩∧∃t,t+m=x.vs.length∧r.get 6=some (.int .i64 t)∧shortRc x=(x.vs.drop t).all (fun n=>decide (n.length≤60))) x.vs.length ?_ ?_ ?_
    ·exact⟨rfl,0,by omega,by simp,by simpa using hss⟩
    ·rintro m2 r2 _ hr2 hf2 ⟨rfl,t,ht,h4,hz2⟩
     rw[code_run]
     cases m2 with
     |zero=>
      have:t=x.vs.length:=by omega
      rw[this,List.drop_length,List.all_nil]at hz2
      rw[this]at h4
      simp(disch:=first|(simp;done)|omega|rfl) [-getElem?_pos,A.lb21_0,hr,hr2,hf2,a0,h3,h4,hk1,hlt,lg,q1,q3,p3,lz,hz2]
     |succ m2=>
      have htl:t<x.vs.length:=by omega
      have htl':(t:Int)<(x.vs.length:Int):=by omega
      obtain⟨n,hn⟩:=get_of_lt htl
      obtain⟨b1,b2,b3,b4,b5,z1,z2,z3,z4⟩:=q5.at (strs_get hn)
      rw[get_drop_cons hn,List.all_cons]at hz2
      by_cases cn:n.length≤60
      ·have cn':¬60<(n.length:Int):=by omega
       simp(disch:=first|(simp;done)|omega|rfl) [-getElem?_pos,A.lb21_0,hr,hr2,hf2,a0,h3,h4,hk1,hlt,htl,htl',lg,q1,q3,p3,lz,z1,z3,z4,cn']
       exact⟨m2,by omega,t+1,by omega,by simp,by rw[hz2];simp[cn]⟩
      ·have cn':60<(n.length:Int):=by omega
       have hq:shortRc x=false:=by rw[hz2];simp[cn]
       simp(disch:=first|(simp;done)|omega|rfl) [-getElem?_pos,A.lb21_0,hr,hr2,hf2,a0,h3,h4,hk1,hlt,htl,htl',lg,q1,q3,p3,lz,z1,z3,z4,cn',hq]
    ·rintro e r2 _ hr2 ⟨rfl,⟨rfl,hq⟩|⟨rfl,hq,h2⟩⟩
     ·have hfi:=hf.inner (D':=[(4,4),(6,6),(38,57)]) rfl (by simp) hr2
      have hz':l.all shortRc=(l.drop (k+1)).all shortRc:=by rw[hz,hq];simp
      simp(disch:=first|(simp;done)|omega|rfl) [-getElem?_pos,hr,hr2,h3,hfi]
      exact⟨m,by omega,rfl,k+1,by omega,by simp,hz'⟩
     ·have hfi:=hf.inner (D':=[(4,4),(6,6),(38,57)]) rfl (by simp) hr2
      have hq':=fal hq
      simp(disch:=first|(simp;done)|omega|rfl) [-getElem?_pos,hr,hr2,h2,hfi]
      simpa using hq'
  ·have c4':7<(x.vs.length:Int):=by omega
   have c5':¬(x.vs.length:Int)=17:=by omega
   have c5:¬x.vs.length=17:=by omega
   have hq:=fal (by simp[shortRc,c4])
   simp(disch:=first|(simp;done)|omega|rfl) [-getElem?_pos,A.lb21_1,hr,hf,a0,h3,hk1,hlt,lg,q1,q3,p3,lz,c4',c5,c5',eqPrim]
   simpa using hq
theorem shr_eq{h:T O}{N:Nat}{v:V}{l:List Rc}{w:List Nat}{n:Nat}(hs:RcS h N v l)(hl:l.length<9223372036854775808)(hin:∀x∈l,x.vs.length<9223372036854775808)(hn:n<100):A.C.call (.func 21 [] []) [v,.int .i64 n] ⟨h,N,w⟩=some (.bool (shortRcs l n),⟨h,N,w⟩):=by
 apply Call.eq
 have lg:=hs.len
 rw[call_run,A.k21 (by simp)]
 by_cases hlen:l.length≤n∨l.length=257
 ·have hsg:shortRcs l n=l.all shortRc:=by simp[shortRcs,hlen]
  rw[hsg]
  rcases hlen with hl6|hl17
  ·have a1:¬(n:Int)<(l.length:Int):=by omega
   simp(disch:=first|(simp;done)|omega|rfl) [-getElem?_pos,A.b21,lg,a1]
   refine run_loopD [(4,6),(16,57)] (fun e r st=>st=⟨h,N,[]⟩∧((e=.exit 0∧l.all shortRc=true)∨(e=.ret∧l.all shortRc=false∧r.get 4=some (.bool false)))) (SrI h N l) l.length ?_ ?_ ?_
   ·exact⟨rfl,0,by omega,by simp,by simp⟩
   ·exact shr_loop hs hl hin (by simp)
   ·rintro e r _ hr ⟨rfl,⟨rfl,hz⟩|⟨rfl,hz,h2⟩⟩
    ·simp(disch:=first|(simp;done)|omega|rfl) [-getElem?_pos,hr];simpa using hz
    ·simp(disch:=first|(simp;done)|omega|rfl) [-getElem?_pos,hr,h2];simpa using hz
  ·have a1:(n:Int)<(l.length:Int):=by omega
   have a2:(l.length:Int)=257:=by omega
   have a4:(n:Int)<257:=by omega
   have a5:n<257:=by omega
   simp(disch:=first|(simp;done)|omega|rfl) [-getElem?_pos,A.b21,lg,a1,a2,a4,a5,hl17,eqPrim]
   refine run_loopD [(4,6),(16,57)] (fun e r st=>st=⟨h,N,[]⟩∧((e=.exit 0∧l.all shortRc=true)∨(e=.ret∧l.all shortRc=false∧r.get 4=some (.bool false)))) (SrI h N l) l.length ?_ ?_ ?_
   ·exact⟨rfl,0,by omega,by simp,by simp⟩
   ·exact shr_loop hs hl hin (by simp)
   ·rintro e r _ hr ⟨rfl,⟨rfl,hz⟩|⟨rfl,hz,h2⟩⟩
    ·simp(disch:=first|(simp;done)|omega|rfl) [-getElem?_pos,hr];simpa using hz
    ·simp(disch:=first|(simp;done)|omega|rfl) [-getElem?_pos,hr,h2];simpa using hz
 ·have hsg:shortRcs l n=false:=by simp[shortRcs,hlen]
  have a1:(n:Int)<(l.length:Int):=by omega
  have a2:¬(l.length:Int)=257:=by omega
  have a3:¬l.length=257:=by omega
  simp(disch:=first|(simp;done)|omega|rfl) [-getElem?_pos,A.b21,lg,a1,a2,a3,hsg,eqPrim]
end Go.Mx
