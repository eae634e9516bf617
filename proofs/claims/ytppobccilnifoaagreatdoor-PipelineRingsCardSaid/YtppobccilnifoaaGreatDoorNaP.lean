/-
  num.compareWords: compares words.
-/
import Derived.Test.YtppobccilnifoaaGreatDoorKaF
import Derived.Test.YtppobccilnifoaaGreatDoorMxWord
set_option linter.all false
namespace Go.Mx
open Go Go.Proofs
set_option maxRecDepth 1000000
def A.lb221_0:MCode:=.seq (.seq (.reg [mv 19 5,bc 20 .geq 19 0])
 (.cond (.tmp 20)
 (.skip)
 (.exit 0)))
 (.seq (.block 1 (.seq (.regD [mv 23 0,mv 24 5,ia 25 1 23 24,ld 26 25,mv 27 1,mv 28 5,ia 29 1 27 28,ld 30 29,⟨(some 31),.bin .neq (.prim .int) false (.tmp 26) (.tmp 30),none⟩] [0,0,3,7,0,0,48,112,255])
 (.cond (.tmp 31)
 (.seq (.seq (.regD [mv 32 0,mv 33 5,ia 34 1 32 33,ld 35 34,mv 36 1,mv 37 5,ia 38 1 36 37,ld 39 38,bi 40 .lss 35 39] [0,0,3,7,0,0,48,112,255])
 (.cond (.tmp 40)
 (.seq (.reg [⟨(some 4),.mov (.const (.int .i64 (-1))),none⟩])
 (.ret))
 (.skip)))
 (.seq (.reg [mc 4 1])
 (.ret)))
 (.skip))))
 (.reg [mv 21 5,bc 22 .sub 21 1,mv 5 22]))
def A.b221:MCode:=.seq (.reg [mc 4 0])
 (.seq (.seq (.reg [mv 6 0,ln 7 6,mv 8 1,ln 9 8,⟨(some 10),.bin .neq (.prim .int) false (.tmp 7) (.tmp 9),none⟩])
 (.cond (.tmp 10)
 (.seq (.seq (.reg [mv 11 0,ln 12 11,mv 13 1,ln 14 13,bi 15 .lss 12 14])
 (.cond (.tmp 15)
 (.seq (.reg [⟨(some 4),.mov (.const (.int .i64 (-1))),none⟩])
 (.ret))
 (.skip)))
 (.seq (.reg [mc 4 1])
 (.ret)))
 (.skip)))
 (.seq (.seq (.reg [mv 16 0,ln 17 16,bc 18 .sub 17 1,mv 5 18])
 (.block 0 (.loop A.lb221_0)))
 (.seq (.reg [mc 4 0])
 (.ret))))
theorem A.c221:cFunc Tryz.prog 221=some ⟨41,[.tmp 4],A.b221⟩:=by kernel_rfl
def A.k221{K Q f c args st}:=@A.kk 221 _ _ _ A.c221 rfl K Q f c args st
def cmp3(x y:Int):Int:=if x<y then -1 else if y<x then 1 else 0
theorem len_lt{x y:Nat}(h:(wds x).length<(wds y).length):x<y:=by
 apply Nat.lt_of_not_le
 intro hc
 have:=wds_len_le hc
 omega
theorem val_drop{b:Nat}{l:List Nat}{k d:Nat}(h:l[k]?=some d):val b (l.drop k)=d+b*val b (l.drop (k+1)):=by
 have hk:k<l.length:=by
  apply Nat.lt_of_not_le;intro hc;rw[List.getElem?_eq_none hc]at h;cases h
 rw[List.drop_eq_getElem_cons hk]
 rw[List.getElem?_eq_getElem hk]at h
 simp only[Option.some.injEq]at h
 rw[h];rfl
theorem val_split(b:Nat)(l:List Nat)(k:Nat)(hk:k≤l.length):val b l=val b (l.take k)+b^k*val b (l.drop k):=by
 have:=val_append b (l.take k) (l.drop k)
 rw[List.take_append_drop,List.length_take,Nat.min_eq_left hk]at this
 exact this
theorem top_lt{x y:List Nat}{k:Nat}(gx:Dg x)(hx:k≤x.length)(hy:k≤y.length)(h:val B (x.drop k)<val B (y.drop k)):val B x<val B y:=by
 rw[val_split B x k hx,val_split B y k hy]
 have h1:val B (x.take k)<B^k:=by
  have:=val_lt (b:=B) (l:=x.take k) fun d hd=>gx d (List.mem_of_mem_take hd)
  rwa [List.length_take,Nat.min_eq_left hx]at this
 have h2:B^k*(val B (x.drop k)+1)≤B^k*val B (y.drop k):=Nat.mul_le_mul_left _ h
 rw[Nat.mul_add]at h2
 omega
structure CmpI (h:T O) (N x y m:Nat) (r:T V) (st:St):Prop where
 hm:m≤(wds x).length
 r5:r.get 5=some (.int .i64 ((m:Int)-1))
 n:st.n=N
 w:st.w=[]
 keep:Keeps h N st.h N
 top:(wds x).drop m=(wds y).drop m
set_option maxHeartbeats 2000000 in
theorem compareWords_fn{h:T O}{N:Nat}{vx vy:V}{x y:Nat}(hx:Wn h N vx x)(hy:Wn h N vy y)(hxl:(wds x).length<1099511627776)(hyl:(wds y).length<1099511627776):Fn A.C 221 [vx,vy] h N (fun v' h' N'=>v'=.int .i64 (cmp3 x y)):=by
 intro w
 have lx:=hx.len
 have ly:=hy.len
 rw[dg_length]at lx ly
 rw[call_run,A.k221 (by simp)]
 by_cases hne:(wds x).length=(wds y).length
 ·have hne':((wds x).length:Int)=((wds y).length:Int):=by omega
  simp(disch:=first|(simp;done)|omega|(simp only[dg_length,dgi_length,List.length_cons];omega)|rfl) [-getElem?_pos,A.b221,lx,ly,hne]
  refine run_loopD [(4,5),(19,40)] (fun e r st=>(e=.exit 0∧CmpI h N x y 0 r st)∨(e=.ret∧r.get 4=some (.int .i64 (cmp3 x y))∧st.n=N∧st.w=[]∧Keeps h N st.h N)) (CmpI h N x y) (wds x).length ?_ ?_ ?_
  ·exact⟨by omega,by simp[hne],rfl,rfl,Keeps.refl,by rw[List.drop_length,hne,List.drop_length]⟩
  ·rintro m r ⟨H,n1,W⟩ hr hf ⟨hm,h5,hn,hW,hK,ht⟩
   simp only at hn hW hK
   subst hn;subst hW
   rw[code_run]
   cases m with
   |zero=>
    simp(disch:=first|(simp;done)|omega|(simp only[dg_length,dgi_length,List.length_cons];omega)|rfl) [-getElem?_pos,A.lb221_0,h5,hr,hf]
    exact⟨by omega,by simp[h5],rfl,rfl,hK,ht⟩
   |succ m=>
    have hmx:m<(wds x).length:=by omega
    have hmy:m<(wds y).length:=by omega
    have h5':r.get 5=some (.int .i64 (m:Int)):=by rw[h5];congr 2;omega
    have gx:=List.getElem?_eq_getElem hmx
    have gy:=List.getElem?_eq_getElem hmy
    obtain⟨i1,o1,c1,e1,w1,p1,p2,p3,p4⟩:=hx.at (dg_get gx)
    have p3:=(hK.get _ p2).trans p3
    obtain⟨i2,o2,c2,e2,w2,q1,q2,q3,q4⟩:=hy.at (dg_get gy)
    have q3:=(hK.get _ q2).trans q3
    rcases Nat.lt_trichotomy (wds x)[m] (wds y)[m]with hlt|heq|hgt
    ·have hlt2:x<y:=by
      have:=top_lt (x:=wds x) (y:=wds y) (k:=m) (wds_dg x) (by omega) (by omega) (by rw[val_drop gx,val_drop gy,ht];omega)
      rwa [wds_val,wds_val]at this
     have hne2:¬(wds x)[m]=(wds y)[m]:=by omega
     simp(disch:=first|(simp;done)|omega|(simp only[dg_length,dgi_length,List.length_cons];omega)|rfl) [-getElem?_pos,A.lb221_0,h5',hr,hf,lx,ly,p1,p2,p3,p4,q1,q2,q3,q4,eqPrim,hne2,hlt]
     exact⟨by simp[cmp3,hlt2],hK⟩
    ·have ht':(wds x).drop m=(wds y).drop m:=by rw[List.drop_eq_getElem_cons hmx,List.drop_eq_getElem_cons hmy,ht,heq]
     simp(disch:=first|(simp;done)|omega|(simp only[dg_length,dgi_length,List.length_cons];omega)|rfl) [-getElem?_pos,A.lb221_0,h5',hr,hf,lx,ly,p1,p2,p3,p4,q1,q2,q3,q4,eqPrim,heq]
     exact⟨m,by omega,⟨by omega,by simp,rfl,rfl,hK,ht'⟩⟩
    ·have hlt2:y<x:=by
      have:=top_lt (x:=wds y) (y:=wds x) (k:=m) (wds_dg y) (by omega) (by omega) (by rw[val_drop gx,val_drop gy,ht];omega)
      rwa [wds_val,wds_val]at this
     have hne2:¬(wds x)[m]=(wds y)[m]:=by omega
     have hlt:¬(wds x)[m]<(wds y)[m]:=by omega
     have hlt3:¬x<y:=by omega
     simp(disch:=first|(simp;done)|omega|(simp only[dg_length,dgi_length,List.length_cons];omega)|rfl) [-getElem?_pos,A.lb221_0,h5',hr,hf,lx,ly,p1,p2,p3,p4,q1,q2,q3,q4,eqPrim,hne2,hlt]
     exact⟨by simp[cmp3,hlt2,hlt3],hK⟩
  ·rintro e r ⟨H,n1,W⟩ hr (⟨rfl,hm,h5,hn,hW,hK,ht⟩|⟨rfl,h4,hn,hW,hK⟩)
   ·simp only at hn hW hK
    subst hn;subst hW
    simp only[List.drop_zero]at ht
    have:x=y:=by rw[←wds_val x,ht,wds_val]
    subst this
    simp(disch:=first|(simp;done)|omega|(simp only[dg_length,dgi_length,List.length_cons];omega)|rfl) [-getElem?_pos,hr,Ret]
    exact⟨hK,by simp[cmp3]⟩
   ·simp only at hn hW hK
    subst hn;subst hW
    simp(disch:=first|(simp;done)|omega|(simp only[dg_length,dgi_length,List.length_cons];omega)|rfl) [-getElem?_pos,h4,Ret]
    exact hK
 ·have hne':¬((wds x).length:Int)=((wds y).length:Int):=by omega
  by_cases hlt:(wds x).length<(wds y).length
  ·have:=len_lt hlt
   simp(disch:=first|(simp;done)|omega|(simp only[dg_length,dgi_length,List.length_cons];omega)|rfl) [-getElem?_pos,A.b221,lx,ly,hne,hlt,eqPrim,Ret]
   exact⟨Keeps.refl,by simp[cmp3,this]⟩
  ·have h1:=len_lt (x:=y) (y:=x) (by omega)
   have h2:¬x<y:=by omega
   simp(disch:=first|(simp;done)|omega|(simp only[dg_length,dgi_length,List.length_cons];omega)|rfl) [-getElem?_pos,A.b221,lx,ly,hne,hlt,eqPrim,Ret]
   exact⟨Keeps.refl,by simp[cmp3,h1,h2]⟩
end Go.Mx
namespace Go.Mx
open Go Go.Proofs
set_option maxRecDepth 1000000
def A.lb219_0:MCode:=.seq (.reg [bi 30 .lss 29 28])
 (.seq (.cond (.tmp 30)
 (.skip)
 (.exit 2))
 (.seq (.block 3 (.seq (.reg [mv 31 29,ia 32 1 27 29,ld 33 32,mv 9 31,mv 10 33])
 (.seq (.reg [mv 35 7,mv 36 10,⟨(some 37),.call (.const (.func 216 [] [])) [(.tmp 35),(.tmp 36)],none⟩,mv 34 37,xt 38 34 0,xt 39 34 1,mv 11 38,mv 12 39])
 (.seq (.reg [⟨(some 13),.mov (.const (.int .u64 0)),none⟩])
 (.seq (.reg [mv 41 12,mv 42 5,mv 43 6,mv 44 9,bi 45 .add 43 44,ia 46 1 42 45,ld 47 46,⟨(some 48),.ext .add64 [(.tmp 41),(.tmp 47),(.const (.int .u64 0))],none⟩,mv 40 48,xt 49 40 0,xt 50 40 1,mv 12 49,mv 13 50])
 (.seq (.reg [mv 51 11,mv 52 13,bi 53 .add 51 52,mv 11 53])
 (.seq (.reg [mv 55 12,mv 56 8,⟨(some 57),.ext .add64 [(.tmp 55),(.tmp 56),(.const (.int .u64 0))],none⟩,mv 54 57,xt 58 54 0,xt 59 54 1,mv 12 58,mv 13 59])
 (.reg [mv 60 5,mv 61 6,mv 62 9,bi 63 .add 61 62,mv 64 12,mv 65 11,mv 66 13,bi 67 .add 65 66,ia 68 1 60 63,so 68 64,mv 8 67]))))))))
 (.reg [bc 69 .add 29 1,mv 29 69])))
def A.lb219_1:MCode:=.seq (.reg [bi 23 .lss 22 21])
 (.seq (.cond (.tmp 23)
 (.skip)
 (.exit 0))
 (.seq (.block 1 (.seq (.reg [mv 24 22,ia 25 1 20 22,ld 26 25,mv 6 24,mv 7 26])
 (.seq (.reg [⟨(some 8),.mov (.const (.int .u64 0)),none⟩])
 (.seq (.seq (.reg [mv 27 1,ln 28 27,mc 29 0])
 (.block 2 (.loop A.lb219_0)))
 (.reg [mv 70 5,mv 71 6,mv 72 1,ln 73 72,bi 74 .add 71 73,mv 75 8,ia 76 1 70 74,so 76 75])))))
 (.reg [bc 77 .add 22 1,mv 22 77])))
def A.b219:MCode:=.seq (.reg [⟨(some 4),.mov (.const .nilslice),none⟩])
 (.seq (.reg [mv 14 0,ln 15 14,mv 16 1,ln 17 16,bi 18 .add 15 17,⟨(some 19),.mkslice 299 1 8 [(.int .u64 0)] (.tmp 18) (.tmp 18),none⟩,mv 5 19])
 (.seq (.seq (.reg [mv 20 0,ln 21 20,mc 22 0])
 (.block 0 (.loop A.lb219_1)))
 (.seq (.reg [mv 78 5,⟨(some 79),.call (.const (.func 244 [] [])) [(.tmp 78)],none⟩,mv 4 79])
 (.ret))))
theorem A.c219:cFunc Tryz.prog 219=some ⟨80,[.tmp 4],A.b219⟩:=by kernel_rfl
def A.k219{K Q f c args st}:=@A.kk 219 _ _ _ A.c219 rfl K Q f c args st
theorem val_set{b:Nat}:∀{l:List Nat} {k old v:Nat},l[k]?=some old→val b (l.set k v)+b^k*old=val b l+b^k*v
 |[],k,old,v,h=>by simp at h
 |d::l,0,old,v,h=>by simp at h;subst h;simp[val];omega
 |d::l,k+1,old,v,h=>by
  have ih:=val_set (b:=b) (l:=l) (k:=k) (old:=old) (v:=v) (by simpa using h)
  simp only[List.set_cons_succ,val,Nat.pow_succ]
  generalize val b (l.set k v)=p at*
  generalize val b l=q at*
  generalize b^k=z at*
  have:b*(p+z*old)=b*(q+z*v):=by rw[ih]
  grind
theorem Dg.set{l:List Nat}(h:Dg l){k v:Nat}(hv:v<B):Dg (l.set k v):=by
 intro d hd
 rcases List.mem_or_eq_of_mem_set hd with hd|hd
 ·exact h d hd
 ·subst hd;exact hv
def mulNew(x y o c:Nat):Nat:=lo64 (lo64 (lo64 (x*y)+o)+c)
def mulCar(x y o c:Nat):Nat:=addu (addu (hi64 (x*y)) (hi64 (lo64 (x*y)+o))) (hi64 (lo64 (lo64 (x*y)+o)+c))
theorem mul_step{x y o c:Nat}(hx:x<B)(hy:y<B)(ho:o<B)(hc:c<B):mulNew x y o c+B*mulCar x y o c=x*y+o+c∧mulNew x y o c<B∧mulCar x y o c<B:=by
 have:x*y≤18446744073709551615*18446744073709551615:=Nat.mul_le_mul (by unfold B at*;omega) (by unfold B at*;omega)
 unfold mulNew mulCar lo64 hi64 addu
 unfold B at*
 generalize x*y=p at*
 omega
structure MulJ (h:T O) (N x y i j:Nat) (o:List Nat) (c xi:Nat) (r:T V) (st:St):Prop where
 hj:j≤(wds y).length
 r29:r.get 29=some (.int .i64 j)
 r8:r.get 8=some (.int .u64 c)
 n:st.n=N+1
 w:oldIds N st.w=[]
 keep:Keeps h N st.h (N+1)
 row:st.h.get N=some (.cells (dg o) 299 true)
 len:o.length=(wds x).length+(wds y).length
 dg:Dg o
 zero:∀t,i+(wds y).length≤t→t<o.length→o[t]?=some 0
 lc:c<B
 ex:val B o+B^(i+j)*c=val B ((wds x).take i)*y+B^i*(xi*val B ((wds y).take j))
def MulI(h:T O)(N x y i xi m:Nat)(r:T V)(st:St):Prop:=∃j o c,m=(wds y).length-j∧MulJ h N x y i j o c xi r st
def MulE(h:T O)(N x y i xi:Nat)(r:T V)(st:St):Prop:=∃o c,MulJ h N x y i (wds y).length o c xi r st
structure MulJ2 (h:T O) (N x y i:Nat) (o:List Nat) (r:T V) (st:St):Prop where
 hi:i≤(wds x).length
 r22:r.get 22=some (.int .i64 i)
 n:st.n=N+1
 w:oldIds N st.w=[]
 keep:Keeps h N st.h (N+1)
 row:st.h.get N=some (.cells (Go.Mx.dg o) 299 true)
 len:o.length=(wds x).length+(wds y).length
 dg:Dg o
 zero:∀t,i+(wds y).length≤t→t<o.length→o[t]?=some 0
 ex:val B o=val B ((wds x).take i)*y
def MulI2(h:T O)(N x y m:Nat)(r:T V)(st:St):Prop:=∃i o,m=(wds x).length-i∧MulJ2 h N x y i o r st
def MulE2(h:T O)(N x y:Nat)(r:T V)(st:St):Prop:=∃o,MulJ2 h N x y (wds x).length o r st
set_option maxHeartbeats 4000000 in
theorem mulWords_fn{h:T O}{N:Nat}{vx vy:V}{x y:Nat}(hx:Wn h N vx x)(hy:Wn h N vy y)(hxl:(wds x).length<1099511627776)(hyl:(wds y).length<1099511627776):Fn A.C 219 [vx,vy] h N (fun v' h' N'=>Wn h' N' v' (x*y)):=by
 intro w
 have lx:=hx.len
 have ly:=hy.len
 rw[dg_length]at lx ly
 rw[call_run,A.k219 (by simp)]
 simp(disch:=first|(simp;done)|omega|(simp only[dg_length,dgi_length,List.length_cons];omega)|rfl) [-getElem?_pos,A.b219,lx,ly]
 refine run_loopD [(6,13),(22,77)] (fun e r st=>e=.exit 0∧MulE2 h N x y r st) (MulI2 h N x y) (wds x).length ?_ ?_ ?_
 ·refine⟨0,List.replicate ((wds x).length+(wds y).length) 0,by omega,⟨by omega,by simp,by simp,by simp,Keeps.refl.set (Nat.le_refl _) |>.up (by omega),?_,by simp,?_,?_,by simp[val,val_zeros]⟩⟩
  ·simp[dg_zeros]
  ·intro d hd
   rw[List.mem_replicate]at hd
   rw[hd.2];decide
  ·intro t _ ht
   simp at ht
   simp[ht]
 ·rintro m r ⟨H,n1,W⟩ hr hf ⟨i,o,rfl,hi,h22,hn,hW,hK,hN,ho,hd,hz,he⟩
  simp only at hn hW hK hN
  subst hn
  rw[code_run]
  by_cases hlt:i<(wds x).length
  ·obtain⟨i1,o1,c1,e1,w1,p1,p2,p3,p4⟩:=hx.at (dg_get (List.getElem?_eq_getElem hlt))
   have p3:=(hK.get _ p2).trans p3
   have gx:=List.getElem?_eq_getElem hlt
   generalize (wds x)[i]=xi at*
   simp(disch:=first|(simp;done)|omega|(simp only[dg_length,dgi_length,List.length_cons];omega)|rfl) [-getElem?_pos,A.lb219_1,hr,h22,hlt,lx,ly,p1,p3,p4]
   refine run_loopD [(8,13),(29,69)] (fun e r st=>e=.exit 2∧MulE h N x y i xi r st) (MulI h N x y i xi) (wds y).length ?_ ?_ ?_
   ·exact⟨0,o,0,by omega,⟨by omega,by simp,by simp,rfl,hW,hK,hN,ho,hd,hz,by decide,by simp[val,he]⟩⟩
   ·rintro m r2 ⟨H2,n2,W2⟩ hr2 hf2 ⟨j,o2,c,rfl,hj,h29,h8,hn2,hW2,hK2,hN2,ho2,hd2,hz2,hc2,he2⟩
    simp only at hn2 hW2 hK2 hN2
    subst hn2
    rw[code_run]
    have hi:xi<B:=(wds_dg x).get gx
    by_cases hlt2:j<(wds y).length
    ·obtain⟨i2,o3,c3,e3,w3,q1,q2,q3,q4⟩:=hy.at (dg_get (List.getElem?_eq_getElem hlt2))
     have q3:=(hK2.get _ q2).trans q3
     have gy:=List.getElem?_eq_getElem hlt2
     generalize (wds y)[j]=yj at*
     have hyj:yj<B:=(wds_dg y).get gy
     have go:=List.getElem?_eq_getElem (l:=o2) (i:=i+j) (by omega)
     generalize o2[i+j]'(by omega)=ov at*
     simp(disch:=first|(simp;done)|omega|(simp only[dg_length,dgi_length,List.length_cons];omega)|rfl) [-getElem?_pos,A.lb219_0,hr,hr2,h29,h8,hlt2,lx,ly,q1,q3,q4,hf2]
     refine run_fn (mul64_fn hi hyj) ?_
     rintro _ _ _ hk3 ⟨rfl,rfl,rfl⟩
     simp(disch:=first|(simp;done)|omega|(simp only[dg_length,dgi_length,List.length_cons];omega)|rfl) [-getElem?_pos,hr,hr2,h29,h8,hlt2,lx,ly,q1,q3,q4,hf2,hN2,dg_get go,dg_set]
     obtain⟨m1,m2,m3⟩:=mul_step hi hyj (hd2.get go) hc2
     refine⟨_,by omega,j+1,o2.set (i+j) (mulNew xi yj ov c),mulCar xi yj ov c,rfl,⟨by omega,by simp,?_,rfl,by simp[hW2],hK2.set (Nat.le_refl _),?_,by simp[ho2],hd2.set m2,?_,m3,?_⟩⟩
     ·simp[mulCar]
     ·simp[mulNew]
     ·intro t t1 t2
      rw[List.getElem?_set_ne (by omega)]
      exact hz2 t t1 (by simpa using t2)
     ·have v1:=val_set (b:=B) (v:=mulNew xi yj ov c) go
      rw[val_take_succ gy]
      have e1:B^(i+(j+1))=B^(i+j)*B:=by rw[show i+(j+1)=(i+j)+1 by omega,Nat.pow_succ]
      have e2:B^i*(xi*(B^j*yj))=B^(i+j)*(xi*yj):=by rw[Nat.pow_add];grind
      have e3:B^(i+j)*(mulNew xi yj ov c+B*mulCar xi yj ov c)=B^(i+j)*(xi*yj+ov+c):=by rw[m1]
      rw[e1]
      generalize val B (List.set o2 (i+j) (mulNew xi yj ov c))=z1 at*
      generalize val B o2=z2 at*
      generalize mulNew xi yj ov c=z3 at*
      generalize mulCar xi yj ov c=z4 at*
      generalize val B (List.take j (wds y))=z5 at*
      generalize B^(i+j)=z6 at*
      grind
    ·have:j=(wds y).length:=by omega
     subst this
     simp(disch:=first|(simp;done)|omega|(simp only[dg_length,dgi_length,List.length_cons];omega)|rfl) [-getElem?_pos,A.lb219_0,hr,hr2,h29,h8,hf2]
     exact⟨o2,c,⟨by omega,by simp[h29],by simp[h8],rfl,hW2,hK2,hN2,ho2,hd2,hz2,hc2,he2⟩⟩
   ·rintro e r2 ⟨H2,n2,W2⟩ hr2 ⟨rfl,o2,c,hj,h29,h8,hn2,hW2,hK2,hN2,ho2,hd2,hz2,hc2,he2⟩
    simp only at hn2 hW2 hK2 hN2
    subst hn2
    have hf2:=hf.inner (D':=[(8,13),(29,69)]) rfl (by simp) hr2
    simp(disch:=first|(simp;done)|omega|(simp only[dg_length,dgi_length,List.length_cons];omega)|rfl) [-getElem?_pos,hr,hr2,h22,h8,ly,hN2,dg_set,hf2]
    have hz0:o2[i+(wds y).length]?=some 0:=hz2 _ (Nat.le_refl _) (by omega)
    refine⟨_,by omega,i+1,o2.set (i+(wds y).length) c,rfl,⟨by omega,by simp,rfl,by simp[hW2],hK2.set (Nat.le_refl _),by simp,by simp[ho2],hd2.set hc2,?_,?_⟩⟩
    ·intro t t1 t2
     rw[List.getElem?_set_ne (by omega)]
     exact hz2 t (by omega) (by simpa using t2)
    ·have v1:=val_set (b:=B) (v:=c) hz0
     rw[List.take_of_length_le (Nat.le_refl _),wds_val]at he2
     rw[val_take_succ gx]
     simp only[Nat.mul_zero,Nat.add_zero]at v1
     rw[v1,he2]
     grind
  ·have:i=(wds x).length:=by omega
   subst this
   simp(disch:=first|(simp;done)|omega|(simp only[dg_length,dgi_length,List.length_cons];omega)|rfl) [-getElem?_pos,A.lb219_1,hr,h22,hf]
   exact⟨o,⟨by omega,by simp[h22],rfl,hW,hK,hN,ho,hd,hz,he⟩⟩
 ·rintro _ r ⟨H,n1,W⟩ hr ⟨rfl,o,hi,h22,hn,hW,hK,hN,ho,hd,hz,he⟩
  simp only at hn hW hK hN
  subst hn
  simp(disch:=first|(simp;done)|omega|(simp only[dg_length,dgi_length,List.length_cons];omega)|rfl) [-getElem?_pos,hr,hN]
  refine run_fn (trim_fn (l:=o) (Sl.row (e:=299) (rw:=true) (by omega) (by simp[hN]) (by simp[ho]) (by simp)) (by simp[ho];omega)) ?_
  intro v' h' n' hk' hs
  simp(disch:=first|(simp;done)|omega|(simp only[dg_length,dgi_length,List.length_cons];omega)|rfl) [-getElem?_pos,Ret]
  refine⟨hW,hK.trans hk',?_⟩
  rw[List.take_of_length_le (Nat.le_refl _),wds_val]at he
  rw[trimL_wds hd,he]at hs
  exact hs
end Go.Mx
namespace Go.Mx
open Go Go.Proofs
set_option maxRecDepth 1000000
def len8T:List UInt8:=[0,1,2,2,3,3,3,3,4,4,4,4,4,4,4,4,5,5,5,5,5,5,5,5,5,5,5,5,5,5,5,5,6,6,6,6,6,6,6,6,6,6,6,6,6,6,6,6,6,6,6,6,6,6,6,6,6,6,6,6,6,6,6,6,7,7,7,7,7,7,7,7,7,7,7,7,7,7,7,7,7,7,7,7,7,7,7,7,7,7,7,7,7,7,7,7,7,7,7,7,7,7,7,7,7,7,7,7,7,7,7,7,7,7,7,7,7,7,7,7,7,7,7,7,7,7,7,7,8,8,8,8,8,8,8,8,8,8,8,8,8,8,8,8,8,8,8,8,8,8,8,8,8,8,8,8,8,8,8,8,8,8,8,8,8,8,8,8,8,8,8,8,8,8,8,8,8,8,8,8,8,8,8,8,8,8,8,8,8,8,8,8,8,8,8,8,8,8,8,8,8,8,8,8,8,8,8,8,8,8,8,8,8,8,8,8,8,8,8,8,8,8,8,8,8,8,8,8,8,8,8,8,8,8,8,8,8,8,8,8,8,8,8,8,8,8,8,8,8,8,8,8,8,8,8,8]
def A.b241:MCode:=.seq (.reg [mc 2 0])
 (.seq (.seq (.reg [mv 3 0,⟨(some 4),.bin .geq (.node []) false (.tmp 3) (.const (.int .u64 4294967296)),none⟩])
 (.cond (.tmp 4)
 (.seq (.reg [mv 5 0,⟨(some 6),.bin .shr (.node []) false (.tmp 5) (.const (.int .u64 32)),none⟩,mv 0 6])
 (.reg [mc 2 32]))
 (.skip)))
 (.seq (.seq (.reg [mv 7 0,⟨(some 8),.bin .geq (.node []) false (.tmp 7) (.const (.int .u64 65536)),none⟩])
 (.cond (.tmp 8)
 (.seq (.reg [mv 9 0,⟨(some 10),.bin .shr (.node []) false (.tmp 9) (.const (.int .u64 16)),none⟩,mv 0 10])
 (.reg [mv 11 2,bc 12 .add 11 16,mv 2 12]))
 (.skip)))
 (.seq (.seq (.reg [mv 13 0,⟨(some 14),.bin .geq (.node []) false (.tmp 13) (.const (.int .u64 256)),none⟩])
 (.cond (.tmp 14)
 (.seq (.reg [mv 15 0,⟨(some 16),.bin .shr (.node []) false (.tmp 15) (.const (.int .u64 8)),none⟩,mv 0 16])
 (.reg [mv 17 2,bc 18 .add 17 8,mv 2 18]))
 (.skip)))
 (.seq (.reg [mv 19 2,mv 20 0,⟨(some 21),.convInt .u8 (.tmp 20),none⟩,⟨(some 22),.idxStr (.const (.str len8T)) (.tmp 21),none⟩,⟨(some 23),.convInt .i64 (.tmp 22),none⟩,bi 24 .add 19 23,mv 2 24])
 (.ret)))))
theorem A.c241:cFunc Tryz.prog 241=some ⟨25,[.tmp 2],A.b241⟩:=by kernel_rfl
def A.k241{K Q f c args st}:=@A.kk 241 _ _ _ A.c241 rfl K Q f c args st
def A.b245:MCode:=.seq (.reg [mc 2 0])
 (.seq (.reg [mv 3 0,⟨(some 4),.call (.const (.func 241 [] [])) [(.tmp 3)],none⟩,⟨(some 5),.bin .sub (.node []) false (.const (.int .i64 64)) (.tmp 4),none⟩,mv 2 5])
 (.ret))
theorem A.c245:cFunc Tryz.prog 245=some ⟨6,[.tmp 2],A.b245⟩:=by kernel_rfl
def A.k245{K Q f c args st}:=@A.kk 245 _ _ _ A.c245 rfl K Q f c args st
def blen(n:Nat):Nat:=if n=0 then 0 else Nat.log2 n+1
theorem blen_lt(n:Nat):n<2^blen n:=by
 unfold blen
 split
 ·simp[*]
 ·exact Nat.lt_log2_self
theorem blen_le{n:Nat}(h:n≠0):2^(blen n-1)≤n:=by
 unfold blen
 rw[if_neg h]
 exact Nat.log2_self_le h
theorem blen_eq{n k:Nat}(h1:2^k≤n)(h2:n<2^(k+1)):blen n=k+1:=by
 have hn:n≠0:=by have:=Nat.two_pow_pos k;omega
 unfold blen
 rw[if_neg hn]
 congr 1
 have h3:Nat.log2 n<k+1:=(Nat.log2_lt hn).2 h2
 have h4:k≤Nat.log2 n:=(Nat.le_log2 hn).2 h1
 omega
theorem blen_shr{n k:Nat}(h:2^k≤n):blen (shr64 n k)+k=blen n:=by
 unfold shr64
 have h0:n/2^k≠0:=by
  have:=Nat.div_pos h (Nat.two_pow_pos k);omega
 have h1:=blen_lt (n/2^k)
 have h2:=blen_le h0
 have hp:0<blen (n/2^k):=by unfold blen;rw[if_neg h0];omega
 have e:blen (n/2^k)+k=(blen (n/2^k)-1+k)+1:=by omega
 rw[e]
 symm
 apply blen_eq
 ·rw[Nat.pow_add]
  exact Nat.le_trans (Nat.mul_le_mul_right _ h2) (Nat.div_mul_le_self n _)
 ·rw[show blen (n/2^k)-1+k+1=blen (n/2^k)+k by omega,Nat.pow_add]
  exact(Nat.div_lt_iff_lt_mul (Nat.two_pow_pos k)).1 h1
theorem len8:∀{n:Nat},n<256→len8T[n]?=some (UInt8.ofNat (blen n)):=by decide+kernel
theorem blen8:∀{n:Nat},n<256→blen n<9:=by decide+kernel
theorem u8_blen{n:Nat}(h:n<256):u8I (UInt8.ofNat (blen n))=(blen n:Int):=by
 have:=blen8 h
 unfold u8I
 simp;omega
set_option maxHeartbeats 2000000 in
theorem len64_fn{h:T O}{N:Nat}{x:Nat}(hx:x<18446744073709551616):Fn A.C 241 [.int .u64 x] h N (fun v' h' N'=>h'=h∧N'=N∧v'=.int .i64 (blen x:Nat)):=by
 intro w
 rw[call_run,A.k241 (by simp)]
 by_cases h0:4294967296≤x
 ·have h0':(4294967296:Int)≤((x:Nat):Int):=by omega
  by_cases h1:65536≤shr64 (x) 32
  ·have h1':(65536:Int)≤((shr64 (x) 32:Nat):Int):=by omega
   by_cases h2:256≤shr64 (shr64 (x) 32) 16
   ·have h2':(256:Int)≤((shr64 (shr64 (x) 32) 16:Nat):Int):=by omega
    have hb:shr64 (shr64 (shr64 (x) 32) 16) 8<256:=by (try simp only[shr64]at*);omega
    have ht:=len8 hb
    have hv:u8I (UInt8.ofNat (blen (shr64 (shr64 (shr64 (x) 32) 16) 8)))=(blen (shr64 (shr64 (shr64 (x) 32) 16) 8):Int):=u8_blen hb
    have hl:=blen8 hb
    simp(disch:=first|(simp;done)|omega|(simp only[dg_length,dgi_length,List.length_cons];omega)|rfl) [-getElem?_pos,A.b241,h0',h1',h2',wrapF_u8,ht,hv,Ret]
    have:=blen_shr (k:=32) (n:=x) h0
    have:=blen_shr (k:=16) (n:=shr64 (x) 32) h1
    have:=blen_shr (k:=8) (n:=shr64 (shr64 (x) 32) 16) h2
    first|exact Keeps.refl|exact And.intro Keeps.refl (by omega)
   ·have h2':¬(256:Int)≤((shr64 (shr64 (x) 32) 16:Nat):Int):=by omega
    have hb:shr64 (shr64 (x) 32) 16<256:=by (try simp only[shr64]at*);omega
    have ht:=len8 hb
    have hv:u8I (UInt8.ofNat (blen (shr64 (shr64 (x) 32) 16)))=(blen (shr64 (shr64 (x) 32) 16):Int):=u8_blen hb
    have hl:=blen8 hb
    simp(disch:=first|(simp;done)|omega|(simp only[dg_length,dgi_length,List.length_cons];omega)|rfl) [-getElem?_pos,A.b241,h0',h1',h2',wrapF_u8,ht,hv,Ret]
    have:=blen_shr (k:=32) (n:=x) h0
    have:=blen_shr (k:=16) (n:=shr64 (x) 32) h1
    first|exact Keeps.refl|exact And.intro Keeps.refl (by omega)
  ·have h1':¬(65536:Int)≤((shr64 (x) 32:Nat):Int):=by omega
   by_cases h2:256≤shr64 (x) 32
   ·have h2':(256:Int)≤((shr64 (x) 32:Nat):Int):=by omega
    have hb:shr64 (shr64 (x) 32) 8<256:=by (try simp only[shr64]at*);omega
    have ht:=len8 hb
    have hv:u8I (UInt8.ofNat (blen (shr64 (shr64 (x) 32) 8)))=(blen (shr64 (shr64 (x) 32) 8):Int):=u8_blen hb
    have hl:=blen8 hb
    simp(disch:=first|(simp;done)|omega|(simp only[dg_length,dgi_length,List.length_cons];omega)|rfl) [-getElem?_pos,A.b241,h0',h1',h2',wrapF_u8,ht,hv,Ret]
    have:=blen_shr (k:=32) (n:=x) h0
    have:=blen_shr (k:=8) (n:=shr64 (x) 32) h2
    first|exact Keeps.refl|exact And.intro Keeps.refl (by omega)
   ·have h2':¬(256:Int)≤((shr64 (x) 32:Nat):Int):=by omega
    have hb:shr64 (x) 32<256:=by (try simp only[shr64]at*);omega
    have ht:=len8 hb
    have hv:u8I (UInt8.ofNat (blen (shr64 (x) 32)))=(blen (shr64 (x) 32):Int):=u8_blen hb
    have hl:=blen8 hb
    simp(disch:=first|(simp;done)|omega|(simp only[dg_length,dgi_length,List.length_cons];omega)|rfl) [-getElem?_pos,A.b241,h0',h1',h2',wrapF_u8,ht,hv,Ret]
    have:=blen_shr (k:=32) (n:=x) h0
    first|exact Keeps.refl|exact And.intro Keeps.refl (by omega)
 ·have h0':¬(4294967296:Int)≤((x:Nat):Int):=by omega
  by_cases h1:65536≤x
  ·have h1':(65536:Int)≤((x:Nat):Int):=by omega
   by_cases h2:256≤shr64 (x) 16
   ·have h2':(256:Int)≤((shr64 (x) 16:Nat):Int):=by omega
    have hb:shr64 (shr64 (x) 16) 8<256:=by (try simp only[shr64]at*);omega
    have ht:=len8 hb
    have hv:u8I (UInt8.ofNat (blen (shr64 (shr64 (x) 16) 8)))=(blen (shr64 (shr64 (x) 16) 8):Int):=u8_blen hb
    have hl:=blen8 hb
    simp(disch:=first|(simp;done)|omega|(simp only[dg_length,dgi_length,List.length_cons];omega)|rfl) [-getElem?_pos,A.b241,h0',h1',h2',wrapF_u8,ht,hv,Ret]
    have:=blen_shr (k:=16) (n:=x) h1
    have:=blen_shr (k:=8) (n:=shr64 (x) 16) h2
    first|exact Keeps.refl|exact And.intro Keeps.refl (by omega)
   ·have h2':¬(256:Int)≤((shr64 (x) 16:Nat):Int):=by omega
    have hb:shr64 (x) 16<256:=by (try simp only[shr64]at*);omega
    have ht:=len8 hb
    have hv:u8I (UInt8.ofNat (blen (shr64 (x) 16)))=(blen (shr64 (x) 16):Int):=u8_blen hb
    have hl:=blen8 hb
    simp(disch:=first|(simp;done)|omega|(simp only[dg_length,dgi_length,List.length_cons];omega)|rfl) [-getElem?_pos,A.b241,h0',h1',h2',wrapF_u8,ht,hv,Ret]
    have:=blen_shr (k:=16) (n:=x) h1
    first|exact Keeps.refl|exact And.intro Keeps.refl (by omega)
  ·have h1':¬(65536:Int)≤((x:Nat):Int):=by omega
   by_cases h2:256≤x
   ·have h2':(256:Int)≤((x:Nat):Int):=by omega
    have hb:shr64 (x) 8<256:=by (try simp only[shr64]at*);omega
    have ht:=len8 hb
    have hv:u8I (UInt8.ofNat (blen (shr64 (x) 8)))=(blen (shr64 (x) 8):Int):=u8_blen hb
    have hl:=blen8 hb
    simp(disch:=first|(simp;done)|omega|(simp only[dg_length,dgi_length,List.length_cons];omega)|rfl) [-getElem?_pos,A.b241,h0',h1',h2',wrapF_u8,ht,hv,Ret]
    have:=blen_shr (k:=8) (n:=x) h2
    first|exact Keeps.refl|exact And.intro Keeps.refl (by omega)
   ·have h2':¬(256:Int)≤((x:Nat):Int):=by omega
    have hb:x<256:=by (try simp only[shr64]at*);omega
    have ht:=len8 hb
    have hv:u8I (UInt8.ofNat (blen (x)))=(blen (x):Int):=u8_blen hb
    have hl:=blen8 hb
    simp(disch:=first|(simp;done)|omega|(simp only[dg_length,dgi_length,List.length_cons];omega)|rfl) [-getElem?_pos,A.b241,h0',h1',h2',wrapF_u8,ht,hv,Ret]
    first|exact Keeps.refl|exact And.intro Keeps.refl (by omega)
set_option maxHeartbeats 2000000 in
theorem lz64_fn{h:T O}{N:Nat}{x:Nat}(hx:x<18446744073709551616):Fn A.C 245 [.int .u64 x] h N (fun v' h' N'=>h'=h∧N'=N∧v'=.int .i64 ((64-blen x:Nat))):=by
 intro w
 have hl:blen x≤64:=by
  by_cases h0:x=0
  ·subst h0;decide
  ·apply Nat.le_of_not_lt
   intro hc
   have:=blen_le h0
   have:2^64≤2^(blen x-1):=Nat.pow_le_pow_right (by decide) (by omega)
   omega
 rw[call_run,A.k245 (by simp)]
 simp(disch:=first|(simp;done)|omega|(simp only[dg_length,dgi_length,List.length_cons];omega)|rfl) [-getElem?_pos,A.b245]
 refine run_fn (len64_fn hx) ?_
 rintro _ _ _ hk ⟨rfl,rfl,rfl⟩
 simp(disch:=first|(simp;done)|omega|(simp only[dg_length,dgi_length,List.length_cons];omega)|rfl) [-getElem?_pos,Ret]
 exact⟨hk,by omega⟩
end Go.Mx
namespace Go.Mx
open Go Go.Proofs
set_option maxRecDepth 1000000
def A.lb246_0:MCode:=.seq (.reg [bi 15 .lss 14 13])
 (.seq (.cond (.tmp 15)
 (.skip)
 (.exit 0))
 (.seq (.block 1 (.seq (.reg [mv 16 14,ia 17 1 12 14,ld 18 17,mv 6 16,mv 7 18])
 (.seq (.regD [mv 19 5,mv 20 6,ia 21 1 19 20,ld 22 21,mv 23 7,mv 24 1,bi 25 .shl 23 24,bi 26 .or 22 25,ia 27 1 19 20,so 27 26] [0,0,3,7,0,0,48,127,255,511])
 (.seq (.reg [mv 28 1,bc 29 .gtr 28 0])
 (.cond (.tmp 29)
 (.reg [mv 30 5,mv 31 6,bc 32 .add 31 1,mv 33 7,mv 34 1,⟨(some 35),.bin .sub (.node []) false (.const (.int .i64 64)) (.tmp 34),none⟩,bi 36 .shr 33 35,ia 37 1 30 32,so 37 36])
 (.skip))))))
 (.reg [bc 38 .add 14 1,mv 14 38])))
def A.b246:MCode:=.seq (.reg [⟨(some 4),.mov (.const .nilslice),none⟩])
 (.seq (.reg [mv 8 0,ln 9 8,bc 10 .add 9 1,⟨(some 11),.mkslice 299 1 8 [(.int .u64 0)] (.tmp 10) (.tmp 10),none⟩,mv 5 11])
 (.seq (.seq (.reg [mv 12 0,ln 13 12,mc 14 0])
 (.block 0 (.loop A.lb246_0)))
 (.seq (.reg [mv 39 5,mv 4 39])
 (.ret))))
theorem A.c246:cFunc Tryz.prog 246=some ⟨40,[.tmp 4],A.b246⟩:=by kernel_rfl
def A.k246{K Q f c args st}:=@A.kk 246 _ _ _ A.c246 rfl K Q f c args st
theorem or_add{c x s:Nat}(hs:s<64)(hc:c<2^s):or64 c (shl64 x s)=c+shl64 x s:=by
 unfold or64 shl64
 have e:x*2^s%18446744073709551616=(x%2^(64-s))<<<s:=by
  rw[Nat.shiftLeft_eq]
  have:(18446744073709551616:Nat)=2^(64-s)*2^s:=by rw[←Nat.pow_add,show 64-s+s=64 by omega]
  rw[this,Nat.mul_mod_mul_right]
 rw[e,Nat.or_comm,Nat.add_comm,Nat.shiftLeft_add_eq_or_of_lt hc]
theorem shl_shr{x s:Nat}(hs:s≤64):shl64 x s+B*shr64 x (64-s)=x*2^s:=by
 unfold shl64 shr64
 have e:x/2^(64-s)=x*2^s/18446744073709551616:=by
  have:(18446744073709551616:Nat)=2^(64-s)*2^s:=by rw[←Nat.pow_add,show 64-s+s=64 by omega]
  rw[this,Nat.mul_div_mul_right _ _ (Nat.two_pow_pos s)]
 rw[e]
 have:=Nat.div_add_mod (x*2^s) 18446744073709551616
 unfold B
 omega
theorem shr_lt{x s:Nat}(hx:x<B)(hs:s≤64):shr64 x (64-s)<2^s:=by
 unfold shr64
 apply (Nat.div_lt_iff_lt_mul (Nat.two_pow_pos _)).2
 rw[←Nat.pow_add,show s+(64-s)=64 by omega]
 exact hx
theorem shl_add_lt{x s c:Nat}(hs:s<64)(hc:c<2^s):c+shl64 x s<B:=by
 rw[←or_add hs hc]
 unfold or64
 apply Nat.or_lt_two_pow (n:=64)
 ·exact Nat.lt_trans hc (Nat.pow_lt_pow_right (by decide) hs)
 ·exact shl64_lt
structure ShJ (h:T O) (N:Nat) (l:List Nat) (s k:Nat) (o:List Nat) (c:Nat) (r:T V) (st:St):Prop where
 hk:k≤l.length
 r14:r.get 14=some (.int .i64 k)
 n:st.n=N+1
 w:oldIds N st.w=[]
 keep:Keeps h N st.h (N+1)
 row:st.h.get N=some (.cells (dg o) 299 true)
 len:o.length=l.length+1
 dg:Dg o
 zero:∀t,k<t→t<o.length→o[t]?=some 0
 top:o[k]?=some c
 lc:c<2^s
 ex:val B o=val B (l.take k)*2^s
def ShI(h:T O)(N:Nat)(l:List Nat)(s m:Nat)(r:T V)(st:St):Prop:=∃k o c,m=l.length-k∧ShJ h N l s k o c r st
def ShE(h:T O)(N:Nat)(l:List Nat)(s:Nat)(r:T V)(st:St):Prop:=∃o c,ShJ h N l s l.length o c r st
set_option maxHeartbeats 2000000 in
theorem shiftUp_fn{h:T O}{N:Nat}{v:V}{l:List Nat}{s:Nat}(hv:Sl h N v (Go.Mx.dg l))(hd:Dg l)(hs:s<64)(hl:l.length<1099511627776):Fn A.C 246 [v,.int .i64 s] h N (fun v' h' N'=>∃i o,N≤i∧i<N'∧v'=.slice i 0 (l.length+1) (some (l.length+1)) 1∧h'.get i=some (.cells (dg o) 299 true)∧o.length=l.length+1∧Dg o∧val B o=val B l*2^s):=by
 intro w
 have lx:=hv.len
 rw[dg_length]at lx
 rw[call_run,A.k246 (by simp)]
 simp(disch:=first|(simp;done)|omega|(simp only[dg_length,dgi_length,List.length_cons];omega)|rfl) [-getElem?_pos,A.b246,lx]
 refine run_loopD [(6,7),(14,38)] (fun e r st=>e=.exit 0∧ShE h N l s r st) (ShI h N l s) l.length ?_ ?_ ?_
 ·refine⟨0,List.replicate (l.length+1) 0,0,by omega,⟨by omega,by simp,by simp,by simp,Keeps.refl.set (Nat.le_refl _) |>.up (by omega),by simp[dg_zeros],by simp,?_,?_,by simp,Nat.two_pow_pos s,by simp[val,val_zeros]⟩⟩
  ·intro d hd
   rw[List.mem_replicate]at hd
   rw[hd.2];decide
  ·intro t _ ht
   simp at ht
   simp[ht]
 ·rintro m r ⟨H,n1,W⟩ hr hf ⟨k,o,c,rfl,hk,h14,hn,hW,hK,hN,ho,hdo,hz,hc,hlc,he⟩
  simp only at hn hW hK hN
  subst hn
  rw[code_run]
  by_cases hlt:k<l.length
  ·obtain⟨i1,o1,c1,e1,w1,p1,p2,p3,p4⟩:=hv.at (dg_get (List.getElem?_eq_getElem hlt))
   have p3:=(hK.get _ p2).trans p3
   have gx:=List.getElem?_eq_getElem hlt
   generalize l[k]=x at*
   have hx:x<B:=hd.get gx
   have hcB:c<18446744073709551616:=hdo.get hc
   have hsum:=or_add (x:=x) hs hlc
   have hlt2:=shl_add_lt (x:=x) hs hlc
   obtain⟨z,hzz⟩:∃z,c+shl64 x s=z:=⟨_,rfl⟩
   rw[hzz]at hsum hlt2
   have hlen1:(o.set k z).length=l.length+1:=by simp[ho]
   have hss:=shl_shr (x:=x) (s:=s) (by omega)
   have hsl:=shr_lt hx (s:=s) (by omega)
   have v1:=val_set (b:=B) (v:=z) hc
   have hz1:(o.set k z)[k+1]?=some 0:=by
    rw[List.getElem?_set_ne (by omega)];exact hz _ (by omega) (by omega)
   have v2:=val_set (b:=B) (v:=shr64 x (64-s)) hz1
   by_cases h0:0<s
   ·have h0':(0:Int)<(s:Int):=by omega
    simp(disch:=first|(simp;done)|omega|(simp only[dg_length,dgi_length,List.length_cons];omega)|rfl) [-getElem?_pos,A.lb246_0,hr,h14,hlt,lx,p1,p3,p4,hN,dg_get hc,hsum,dg_set,h0,hf]
    refine⟨_,by omega,k+1,(o.set k z).set (k+1) (shr64 x (64-s)),shr64 x (64-s),rfl,⟨by omega,by simp,rfl,by simp[hW],(hK.set (Nat.le_refl _)).set (Nat.le_refl _),by simp,by simp[ho],(hdo.set hlt2).set (Nat.lt_of_lt_of_le hsl (Nat.pow_le_pow_right (by decide) (by omega):2^s≤2^64)),?_,List.getElem?_set_self (by omega),hsl,?_⟩⟩
    ·intro t t1 t2
     rw[List.getElem?_set_ne (by omega),List.getElem?_set_ne (by omega)]
     exact hz t (by omega) (by simpa using t2)
    ·rw[val_take_succ gx,Nat.add_mul,←he]
     rw[←hzz]at v1 v2 ⊢
     have e3:B^k*(shl64 x s+B*shr64 x (64-s))=B^k*(x*2^s):=by rw[hss]
     rw[Nat.pow_succ]at v2
     generalize val B ((o.set k (c+shl64 x s)).set (k+1) (shr64 x (64-s)))=z1 at*
     generalize val B (o.set k (c+shl64 x s))=z2 at*
     generalize val B o=z3 at*
     generalize shl64 x s=z4 at*
     generalize shr64 x (64-s)=z5 at*
     generalize B^k=z6 at*
     grind
   ·have h0':¬(0:Int)<(s:Int):=by omega
    simp(disch:=first|(simp;done)|omega|(simp only[dg_length,dgi_length,List.length_cons];omega)|rfl) [-getElem?_pos,A.lb246_0,hr,h14,hlt,lx,p1,p3,p4,hN,dg_get hc,hsum,dg_set,h0,hf]
    have hs0:s=0:=by omega
    subst hs0
    have hc0:c=0:=by simpa using hlc
    subst hc0
    have e0:shl64 x 0=x:=by unfold shl64;unfold B at hx;simp;omega
    have hzx:z=x:=by rw[←hzz,e0];omega
    subst hzx
    refine⟨_,by omega,k+1,o.set k z,0,rfl,⟨by omega,by simp,rfl,by simp[hW],hK.set (Nat.le_refl _),by simp,by simp[ho],hdo.set hx,?_,?_,by decide,?_⟩⟩
    ·intro t t1 t2
     rw[List.getElem?_set_ne (by omega)]
     exact hz t (by omega) (by simpa using t2)
    ·rw[List.getElem?_set_ne (by omega)];exact hz _ (by omega) (by omega)
    ·rw[val_take_succ gx,Nat.add_mul,←he]
     simpa using v1
  ·have:k=l.length:=by omega
   subst this
   simp(disch:=first|(simp;done)|omega|(simp only[dg_length,dgi_length,List.length_cons];omega)|rfl) [-getElem?_pos,A.lb246_0,hr,h14,hf]
   exact⟨o,c,⟨by omega,by simp[h14],rfl,hW,hK,hN,ho,hdo,hz,hc,hlc,he⟩⟩
 ·rintro _ r ⟨H,n1,W⟩ hr ⟨rfl,o,c,hk,h14,hn,hW,hK,hN,ho,hdo,hz,hc,hlc,he⟩
  simp only at hn hW hK hN
  subst hn
  simp(disch:=first|(simp;done)|omega|(simp only[dg_length,dgi_length,List.length_cons];omega)|rfl) [-getElem?_pos,hr,hN,Ret]
  rw[List.take_of_length_le (Nat.le_refl _)]at he
  exact⟨hW,hK,N,Nat.le_refl _,by omega,rfl,o,hN,ho,hdo,he⟩
end Go.Mx
namespace Go.Mx
open Go
theorem d64_exit{u un yn1 yn0 q r b:Nat}(hi:u=q*yn1+r)(hc:q*yn0≤b*r+un):q*(yn1*b+yn0)≤u*b+un:=by
 subst hi
 rw[Nat.mul_add,Nat.add_mul,←Nat.mul_assoc,Nat.mul_comm r b]
 omega
theorem d64_step{u un yn1 yn0 q r b:Nat}(hi:u=q*yn1+r)(hc:b*r+un<q*yn0):u*b+un<q*(yn1*b+yn0):=by
 subst hi
 rw[Nat.mul_add,Nat.add_mul,←Nat.mul_assoc,Nat.mul_comm r b]
 omega
theorem div_lt_of{a y q:Nat}(h:a<q*y):a/y<q:=by
 rcases Nat.eq_zero_or_pos y with rfl|hy
 ·simp at h
 ·exact(Nat.div_lt_iff_lt_mul hy).2 h
theorem le_div_of{a y q:Nat}(hy:0<y)(h:q*y≤a):q≤a/y:=(Nat.le_div_iff_mul_le hy).2 h
theorem kN_exit{b P u1 u2 U' v1 v2 V' s r:Nat}(hv1:0<v1)(hV':V'<P)(ht:s≤b)(hinv:u1=(s+1)*v1+r)(hc:(s+1)*v2≤r*b+u2):
  s*(V'+P*(v2+b*v1))≤U'+P*(u2+b*u1):=by
 have h1:s*V'≤b*P:=Nat.mul_le_mul ht (by omega)
 have h2:b*P*1≤b*P*v1:=Nat.mul_le_mul_left _ hv1
 have h3:P*((s+1)*v2)≤P*(r*b+u2):=Nat.mul_le_mul_left _ hc
 have h4:P*((s+1)*v2)=P*(s*v2)+P*v2:=by grind
 have h5:s*(V'+P*(v2+b*v1))=s*V'+P*(s*v2)+b*(P*(s*v1)):=by grind
 have h6:U'+P*(u2+b*u1)=U'+P*(r*b+u2)+b*(P*(s*v1))+b*P*v1:=by subst hinv;grind
 omega
theorem kN_step{b P u1 u2 U' v1 v2 V' t r:Nat}(hU':U'<P)(hinv:u1=t*v1+r)(hc:r*b+u2<t*v2):
  U'+P*(u2+b*u1)<t*(V'+P*(v2+b*v1)):=by
 have h3:P*(r*b+u2+1)≤P*(t*v2):=Nat.mul_le_mul_left _ hc
 have h5:t*(V'+P*(v2+b*v1))=t*V'+P*(t*v2)+b*(P*(t*v1)):=by grind
 have h6:U'+P*(u2+b*u1)+P=U'+P*(r*b+u2+1)+b*(P*(t*v1)):=by subst hinv;grind
 omega
end Go.Mx
