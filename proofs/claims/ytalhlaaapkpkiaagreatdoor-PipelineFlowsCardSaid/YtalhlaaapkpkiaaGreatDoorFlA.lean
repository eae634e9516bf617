/-Flows-/
import Derived.Test.YtalhlaaapkpkiaaGreatDoorOuK
set_option linter.all false
namespace Go.Mx
open Go Go.Proofs
variable {before:List Rat} {fr:Rat}
set_option maxRecDepth 1000000
def Ze9(g:List Stg)(out:List (List Rat))(k:Nat):List Rat:=if k=0 then g.map (fun _=>0) else out[k-1]?.getD []
def Ztr{g:List Stg}{fr:Rat}{before:List Rat}:∀{n:Nat} {r:List Rat},Zh3 g fr before n=some r→r.length=n∧∀i,i<n→∃s,g[i]?=some s∧r[i]?=some (Zkm g s fr (before[i]?.getD 0) (r.take i) before)∧Zvb (Zkm g s fr (before[i]?.getD 0) (r.take i) before)=false
 |0,r,h=>by
  simp only[Zh3,Ys3]at h
  subst h
  exact⟨rfl,fun i hi=>by omega⟩
 |n+1,r,h=>by
  rw[Zh3]at h
  cases hr:Zh3 g fr before n with
  |none=>rw[hr]at h;cases h
  |some now=>
   rw[hr]at h
   simp only at h
   cases hg:g[n]? with
   |none=>rw[hg]at h;cases h
   |some s=>
    rw[hg]at h
    simp only at h
    obtain⟨h1,h2⟩:=Ztr hr
    cases hb:Zvb (Zkm g s fr (before[n]?.getD 0) now before)with
    |true=>rw[hb]at h;simp at h
    |false=>
     rw[hb]at h
     simp only[Ytj,if_false,Ys3]at h
     subst h
     refine⟨by simp[h1],fun i hi=>?_⟩
     by_cases e:i=n
     ·subst e
      refine⟨s,hg,?_,?_⟩
      ·rw[Yt0 (by omega),h1,Nat.sub_self,List.take_append_of_le_length (by omega),Ytd (by omega)];rfl
      ·rw[List.take_append_of_le_length (by omega),Ytd (by omega)];exact hb
     ·obtain⟨s',a1,a2,a3⟩:=h2 i (by omega)
      refine⟨s',a1,?_,?_⟩
      ·rw[Yto (by omega),List.take_append_of_le_length (by omega)];exact a2
      ·rw[List.take_append_of_le_length (by omega)];exact a3
def Zp7{g:List Stg}{fs:List Rat}:∀{n:Nat} {out:List (List Rat)} {b:List Rat},Zi9 g fs n=some (out,b)→out.length=n∧b=Ze9 g out n∧∀k,k<n→∃r,out[k]?=some r∧Zh3 g (fs[k]?.getD 0) (Ze9 g out k) g.length=some r
 |0,out,b,h=>by
  simp only[Zi9,Ys3,Ys7]at h
  obtain⟨rfl,rfl⟩:=h
  exact⟨rfl,rfl,fun k hk=>by omega⟩
 |n+1,out,b,h=>by
  rw[Zi9]at h
  cases ho:Zi9 g fs n with
  |none=>rw[ho]at h;cases h
  |some p=>
   obtain⟨o1,b1⟩:=p
   rw[ho]at h
   simp only at h
   obtain⟨h1,h2,h3⟩:=Zp7 ho
   cases hr:Zh3 g (fs[n]?.getD 0) b1 g.length with
   |none=>rw[hr]at h;cases h
   |some now=>
    rw[hr]at h
    simp only[Ys3,Ys7]at h
    obtain⟨rfl,rfl⟩:=h
    have hp:∀k,k≤n→Ze9 g (o1++[now]) k=Ze9 g o1 k:=fun k hk=>by
     unfold Ze9
     by_cases e:k=0
     ·rw[Ys8 e,Ys8 e]
     ·rw[Ys5 e,Ys5 e,Yto (by omega)]
    refine⟨by simp[h1],?_,fun k hk=>?_⟩
    ·unfold Ze9
     rw[Ys5 (by omega),Yt0 (by omega)]
     simp[h1]
    ·by_cases e:k=n
     ·subst e
      refine⟨now,by rw[Yt0 (by omega),h1,Nat.sub_self];rfl,?_⟩
      rw[hp k (Ys6 _),←h2]
      exact hr
     ·obtain⟨r,a1,a2⟩:=h3 k (by omega)
      exact⟨r,by rw[Yto (by omega)];exact a1,by rw[hp k (by omega)];exact a2⟩
def Zwb{g:List Stg}{fs:List Rat}:∀{d n:Nat} {out:List (List Rat)} {b:List Rat},Zi9 g fs (n+d)=some (out,b)→∃b',Zi9 g fs n=some (out.take n,b')
 |0,n,out,b,h=>by
  have:=(Zp7 h).1
  rw[Ytd (by omega)]
  exact⟨b,h⟩
 |d+1,n,out,b,h=>by
  rw[show n+(d+1)=(n+d)+1 by omega,Zi9]at h
  cases ho:Zi9 g fs (n+d)with
  |none=>rw[ho]at h;cases h
  |some p=>
   obtain⟨o1,b1⟩:=p
   rw[ho]at h
   simp only at h
   cases hr:Zh3 g (fs[n+d]?.getD 0) b1 g.length with
   |none=>rw[hr]at h;cases h
   |some now=>
    rw[hr]at h
    simp only[Ys3,Ys7]at h
    obtain⟨rfl,rfl⟩:=h
    obtain⟨b',h1⟩:=Zwb ho
    have:=(Zp7 ho).1
    rw[List.take_append_of_le_length (by omega)]
    exact⟨b',h1⟩
def Zkw{g:List Stg}{fs fs':List Rat}:∀{n:Nat},(∀k,k<n→fs[k]?.getD 0=fs'[k]?.getD 0)→Zi9 g fs n=Zi9 g fs' n
 |0,_=>rfl
 |n+1,h=>by
  rw[Zi9,Zi9,Zkw fun k hk=>h k (by omega),h n (by omega)]
def Ybn{g:List Stg}{l:List FmR}{out:List (List Rat)}{m:Nat}(h:Zty g l=some out)(hm:m≤l.length):Zty g (l.take m)=some (out.take m):=by
 unfold Zty at h ⊢
 rw[Yte]at h
 obtain⟨⟨o,b⟩,h1,rfl⟩:=h
 rw[show l.length=m+(l.length-m) by omega]at h1
 obtain⟨b',h2⟩:=Zwb h1
 rw[Yth,Yud hm,←Zkw (fs:=l.map fmQ) fun k hk=>?_,h2]
 ·rfl
 ·rw[Ytb,Ytb,Ytk,Ys8 hk]
def thr(l:List Rat):List Rat:=l.map fun q=>3*q
def Zho{l:List Rat}{i:Nat}:(thr l)[i]?.getD 0=3*(l[i]?.getD 0):=by
 unfold thr
 rw[Ytb]
 cases l[i]? with
 |none=>simp
 |some q=>rfl
def Yi1{a b:Rat}:3*a<3*b↔a<b:=by
 constructor
 ·intro h
  exact Rat.lt_of_mul_lt_mul_left h (by decide)
 ·intro h
  exact Rat.mul_lt_mul_of_pos_left h (by decide)
def Yk8{a b:Rat}:mx2 (3*a) (3*b)=3*mx2 a b:=by
 unfold mx2
 by_cases h:a<b
 ·rw[Ys8 h,Ys8 (Yi1.2 h)]
 ·rw[Ys5 h,Ys5 (fun hc=>h (Yi1.1 hc))]
def Zli:∀{l:List Rat} {a:Rat},(thr l).foldl mx2 (3*a)=3*l.foldl mx2 a
 |[],_=>rfl
 |x::l,a=>by
  show (thr l).foldl mx2 (mx2 (3*a) (3*x))=3*l.foldl mx2 (mx2 a x)
  rw[Yk8]
  exact Zli
def Ygt{l:List Rat}:Zmc (thr l)=3*Zmc l:=by
 cases l with
 |nil=>simp[Zmc,thr]
 |cons x l=>exact Zli
def Zj3:∀{l:List Rat} {a:Rat},(thr l).foldl (fun a b=>a+b) (3*a)=3*l.foldl (fun a b=>a+b) a
 |[],_=>rfl
 |x::l,a=>by
  show (thr l).foldl (fun a b=>a+b) (3*a+3*x)=3*l.foldl (fun a b=>a+b) (a+x)
  rw[←Rat.mul_add]
  exact Zj3
def Yg4{g:List Stg}{s:Stg}{now:List Rat}:Zcv g s (thr now)=thr (Zcv g s now):=by
 unfold Zcv
 show s.inputs.map (fun n=>(thr now)[pos g n]?.getD 0)=(s.inputs.map fun n=>now[pos g n]?.getD 0).map fun q=>3*q
 rw[List.map_map]
 apply List.map_congr_left
 intro n _
 exact Zho
def Yh7{g:List Stg}{s:Stg}{b:List Rat}:Zsx g s (thr b)=3*Zsx g s b:=by
 unfold Zsx
 cases s.inputs.getLast? with
 |none=>simp
 |some n=>exact Zho
def Yfg{g:List Stg}{s:Stg}{ow:Rat}{now:List Rat}:Zkm g s (3*fr) (3*ow) (thr now) (thr before)=3*Zkm g s fr ow now before:=by
 unfold Zkm opQ
 rw[Yg4,Yh7,Zho,Ygt]
 have h0:(thr (Zcv g s now)).foldl (fun a b=>a+b) 0=3*(Zcv g s now).foldl (fun a b=>a+b) 0:=by
  have:=Zj3 (l:=Zcv g s now) (a:=0)
  simpa using this
 rw[h0]
 repeat' split
 all_goals grind
def Zvz{g:List Stg}{fr:Rat}{before:List Rat}:∀{n:Nat} {r t:List Rat},Zh3 g fr before n=some r→Zh3 g (3*fr) (thr before) n=some t→t=thr r
 |0,r,t,h1,h2=>by
  simp only[Zh3,Ys3]at h1 h2
  subst h1 h2
  rfl
 |n+1,r,t,h1,h2=>by
  rw[Zh3]at h1 h2
  cases hr:Zh3 g fr before n with
  |none=>rw[hr]at h1;cases h1
  |some now=>
   cases ht:Zh3 g (3*fr) (thr before) n with
   |none=>rw[ht]at h2;cases h2
   |some now'=>
    obtain rfl:=Zvz hr ht
    rw[hr]at h1
    rw[ht]at h2
    simp only at h1 h2
    cases hg:g[n]? with
    |none=>rw[hg]at h1;cases h1
    |some s=>
     rw[hg]at h1 h2
     simp only[Zho,Yfg]at h1 h2
     split at h1
     ·cases h1
     ·split at h2
      ·cases h2
      ·simp only[Ys3]at h1 h2
       subst h1 h2
       simp[thr]
def Zwa{g:List Stg}{fs:List Rat}:∀{n:Nat} {r t:List (List Rat)} {b c:List Rat},Zi9 g fs n=some (r,b)→Zi9 g (thr fs) n=some (t,c)→t=r.map thr∧c=thr b
 |0,r,t,b,c,h1,h2=>by
  simp only[Zi9,Ys3,Ys7]at h1 h2
  obtain⟨rfl,rfl⟩:=h1
  obtain⟨rfl,rfl⟩:=h2
  exact⟨rfl,by simp[thr,Function.comp_def]⟩
 |n+1,r,t,b,c,h1,h2=>by
  rw[Zi9]at h1 h2
  cases hr:Zi9 g fs n with
  |none=>rw[hr]at h1;cases h1
  |some p=>
   cases ht:Zi9 g (thr fs) n with
   |none=>rw[ht]at h2;cases h2
   |some p'=>
    obtain⟨o1,b1⟩:=p
    obtain⟨o2,b2⟩:=p'
    obtain⟨rfl,rfl⟩:=Zwa hr ht
    rw[hr]at h1
    rw[ht]at h2
    simp only[Zho]at h1 h2
    cases hx:Zh3 g (fs[n]?.getD 0) b1 g.length with
    |none=>rw[hx]at h1;cases h1
    |some now=>
     cases hy:Zh3 g (3*(fs[n]?.getD 0)) (thr b1) g.length with
     |none=>rw[hy]at h2;cases h2
     |some now'=>
      obtain rfl:=Zvz hx hy
      rw[hx]at h1
      rw[hy]at h2
      simp only[Ys3,Ys7]at h1 h2
      obtain⟨rfl,rfl⟩:=h1
      obtain⟨rfl,rfl⟩:=h2
      exact⟨by simp,rfl⟩
variable {s:Str}
noncomputable def A.w55:=A.q Tryz.f55
noncomputable def A.lb55_0:=A.ql A.w55 0 []
noncomputable def A.b55:=(fun x0=>A.qb A.w55 [x0]) A.lb55_0
def A.k55:=@A.kk 55 17 [.tmp 2] A.b55 (by kernel_rfl) rfl
noncomputable def A.w101:=A.q Tryz.f101
noncomputable def A.lb101_0:=A.ql A.w101 0 []
noncomputable def A.b101:=(fun x0=>A.qb A.w101 [x0]) A.lb101_0
def A.k101:=@A.kk 101 20 [.tmp 2] A.b101 (by kernel_rfl) rfl
noncomputable def A.b56:=A.q Tryz.f56
def A.k56:=@A.kk 56 18 [.tmp 2] A.b56 (by kernel_rfl) rfl
noncomputable def A.w88:=A.q Tryz.f88
noncomputable def A.lb88_0:=A.ql A.w88 0 []
noncomputable def A.b88:=(fun x0=>A.qb A.w88 [x0]) A.lb88_0
def A.k88:=@A.kk 88 20 [.tmp 2] A.b88 (by kernel_rfl) rfl
def Zhq{st:St}(hl:s.length<4611686018427387904):A.C.call (.func 55 [] []) [.str s] st=some (.int .i64 (slashAt s:Nat),st):=by
 apply Call.eq
 rw[Zae,A.k55 (by simp)]
 simp(disch:=first|(simp;done)|omega|rfl) [-getElem?_pos,A.b55]
 refine Zah [(2,14)] (fun e r s1=>s1=⟨st.h,st.n,[]⟩∧((e=.exit 0∧slashAt s=s.length)∨(e=.ret∧r.get 2=some (.int .i64 (slashAt s:Nat))))) (fun m r s1=>s1=⟨st.h,st.n,[]⟩∧∃k,k+m=s.length∧r.get 3=some (.int .i64 k)∧slashAt s=k+slashAt (s.drop k)) s.length ?_ ?_ ?_
 ·exact⟨rfl,0,by omega,by simp,by simp⟩
 ·rintro m r _ hr hf ⟨rfl,k,hk,h3,hz⟩
  rw[Zai]
  cases m with
  |zero=>
   have:k=s.length:=by omega
   subst this
   rw[Yub,slashAt]at hz
   simp(disch:=first|(simp;done)|omega|rfl) [-getElem?_pos,A.lb55_0,hr,hf,h3]
   omega
  |succ m=>
   obtain⟨c,hc⟩:=Zag (l:=s) (k:=k) (by omega)
   have hk1:(k:Int)<(s.length:Int):=by omega
   have hk2:k<s.length:=by omega
   rw[Zap hc,slashAt]at hz
   by_cases h47:u8I c=47
   ·rw[Ys8 (by unfold u8I at h47;omega)]at hz
    simp(disch:=first|(simp;done)|omega|rfl) [-getElem?_pos,A.lb55_0,hr,hf,h3,hk1,hk2,hc,h47,Zad]
    rw[hz];simp
   ·rw[Ys5 (by unfold u8I at h47;omega)]at hz
    simp(disch:=first|(simp;done)|omega|rfl) [-getElem?_pos,A.lb55_0,hr,hf,h3,hk1,hk2,hc,h47,Zad]
    exact⟨m,by omega,k+1,by omega,by simp,by omega⟩
 ·rintro e r _ hr ⟨rfl,⟨rfl,hz⟩|⟨rfl,h2⟩⟩
  ·simp(disch:=first|(simp;done)|omega|rfl) [-getElem?_pos,hr,hz]
  ·simp(disch:=first|(simp;done)|omega|rfl) [-getElem?_pos,hr,h2]
def Ydu{st:St}(hl:s.length<4611686018427387904):A.C.call (.func 101 [] []) [.str s] st=some (.bool (Zb7 s),st):=by
 apply Call.eq
 rw[Zae,A.k101 (by simp)]
 simp(disch:=first|(simp;done)|omega|rfl) [-getElem?_pos,A.b101]
 refine Zah [(2,19)] (fun e r s1=>s1=⟨st.h,st.n,[]⟩∧((e=.exit 0∧Zb7 s=true)∨(e=.ret∧Zb7 s=false∧r.get 2=some (.bool false)))) (fun m r s1=>s1=⟨st.h,st.n,[]⟩∧∃k,k+m=s.length∧r.get 3=some (.int .i64 k)∧Zb7 s=Zb7 (s.drop k)) s.length ?_ ?_ ?_
 ·exact⟨rfl,0,by omega,by simp,by simp⟩
 ·rintro m r _ hr hf ⟨rfl,k,hk,h3,hz⟩
  rw[Zai]
  cases m with
  |zero=>
   have:k=s.length:=by omega
   subst this
   rw[Yub]at hz
   have hz:Zb7 s=true:=hz
   simp(disch:=first|(simp;done)|omega|rfl) [A.lb101_0,hr,hf,h3,hz]
  |succ m=>
   obtain⟨c,hc⟩:=Zag (l:=s) (k:=k) (by omega)
   have hk1:(k:Int)<(s.length:Int):=by omega
   have hk2:k<s.length:=by omega
   have hz2:Zb7 s=(Zj6 c&&Zb7 (s.drop (k+1))):=by rw[hz,Zap hc];rfl
   rw[Zsn]at hz2
   by_cases h1:u8I c<48
   ·have:¬(48≤u8I c∧u8I c≤57):=by omega
    rw[decide_eq_false this,Bool.false_and]at hz2
    simp(disch:=first|(simp;done)|omega|rfl) [-getElem?_pos,A.lb101_0,hr,hf,h3,hk1,hk2,hc,h1,hz2]
   ·by_cases h2:57<u8I c
    ·have:¬(48≤u8I c∧u8I c≤57):=by omega
     rw[decide_eq_false this,Bool.false_and]at hz2
     simp(disch:=first|(simp;done)|omega|rfl) [-getElem?_pos,A.lb101_0,hr,hf,h3,hk1,hk2,hc,h1,h2,hz2]
    ·have:(48≤u8I c∧u8I c≤57):=by omega
     rw[decide_eq_true this,Bool.true_and]at hz2
     simp(disch:=first|(simp;done)|omega|rfl) [-getElem?_pos,A.lb101_0,hr,hf,h3,hk1,hk2,hc,h1,h2]
     exact⟨m,by omega,k+1,by omega,by simp,hz2⟩
 ·rintro e r _ hr ⟨rfl,⟨rfl,hz⟩|⟨rfl,hz,h2⟩⟩
  ·simp(disch:=first|(simp;done)|omega|rfl) [-getElem?_pos,hr,hz]
  ·simp(disch:=first|(simp;done)|omega|rfl) [-getElem?_pos,hr,h2,hz]
def Zfq{s:Str}{st:St}(hl:s.length<4611686018427387904):A.C.call (.func 56 [] []) [.str s] st=some (.bool (Zcu s),st):=by
 apply Call.eq
 rw[Zae,A.k56 (by simp)]
 cases s with
 |nil=>simp[A.b56,Zad,Zcu]
 |cons c s=>
  have hd:Zcu (c::s)=(Zb7 (c::s)&&(decide (u8I c≠48)||decide (s=[]))):=by
   have:decide (c.toNat≠48)=decide (u8I c≠48):=by unfold u8I;rw[decide_eq_decide];omega
   simp only[Zcu,this];rfl
  have hdg:=fun st=>Ydu (s:=c::s) (st:=st) hl
  by_cases h0:s=[]
  ·subst h0
   simp[A.b56,Zad,hd,hdg]
  ·have h1:0<s.length:=by
    cases s with
    |nil=>exact absurd rfl h0
    |cons=>simp
   have a1:¬((s.length:Int)+1=0):=by omega
   have a2:(1:Int)<(s.length:Int)+1:=by omega
   have a3:(0:Int)<(s.length:Int):=by omega
   by_cases h48:u8I c=48
   ·simp[A.b56,Zad,hd,hdg,h0,a1,a2,a3,h1,h48]
   ·simp[A.b56,Zad,hd,hdg,h0,a1,a2,a3,h1,h48]
def Zjc{st:St}(hd:Zb7 s=true)(hl:s.length≤18):A.C.call (.func 88 [] []) [.str s] st=some (.int .i64 (numV s:Nat),st):=by
 apply Call.eq
 rw[Zae,A.k88 (by simp)]
 simp[A.b88]
 refine Zah [(3,18)] (fun e r s1=>s1=⟨st.h,st.n,[]⟩∧e=.exit 0∧r.get 3=some (.int .i64 (numV s:Nat))) (fun m r s1=>s1=⟨st.h,st.n,[]⟩∧∃k,k+m=s.length∧r.get 4=some (.int .i64 k)∧r.get 3=some (.int .i64 (numV (s.take k):Nat))) s.length ?_ ?_ ?_
 ·exact⟨rfl,0,by omega,by simp,by simp[numV]⟩
 ·rintro m r _ hr hf ⟨rfl,k,hk,h4,h3⟩
  rw[Zai]
  cases m with
  |zero=>
   have:k=s.length:=by omega
   subst this
   rw[Yuu]at h3
   simp[A.lb88_0,hr,hf,h4,h3]
  |succ m=>
   obtain⟨c,hc⟩:=Zag (l:=s) (k:=k) (by omega)
   have hk1:(k:Int)<(s.length:Int):=by omega
   have hk2:k<s.length:=by omega
   have hd1:=Zkh hd hc
   have hv:=Znh hc
   have hb1:=Zqa hd k (by omega)
   have hb2:=Zv9 (a:=k) (b:=17) (by omega)
   have b3:((numV (s.take (k+1)):Nat):Int)=10*(numV (s.take k):Nat)+u8I c-48:=by
    rw[hv];unfold u8I at*;omega
   have b4:((numV (s.take k):Nat):Int)<100000000000000000:=by
    have:(10:Nat)^17=100000000000000000:=by decide
    omega
   generalize hy:numV (s.take (k+1))=y at*
   generalize numV (s.take k)=x at*
   simp(disch:=first|(simp;done)|omega|rfl) [-getElem?_pos,A.lb88_0,hr,hf,h4,h3,hk1,hk2,hc]
   exact⟨m,by omega,k+1,by omega,by simp,by rw[hy,b3]⟩
 ·rintro e r _ hr ⟨rfl,rfl,h3⟩
  simp[hr,h3]
noncomputable def A.w162:=A.q Tryz.f162
noncomputable def A.lb162_0:=A.ql A.w162 0 []
noncomputable def A.b162:=(fun x0=>A.qb A.w162 [x0]) A.lb162_0
def A.k162:=@A.kk 162 21 [.tmp 2] A.b162 (by kernel_rfl) rfl
noncomputable def A.b96:=A.q Tryz.f96
def A.k96:=@A.kk 96 15 [.cell 4 (some 2)] A.b96 (by kernel_rfl) rfl
noncomputable def A.w160:=A.q Tryz.f160
noncomputable def A.lb160_0:=A.ql A.w160 0 []
noncomputable def A.b160:=(fun x0=>A.qb A.w160 [x0]) A.lb160_0
def A.k160:=@A.kk 160 41 [.tmp 4] A.b160 (by kernel_rfl) rfl
noncomputable def A.w161:=A.q Tryz.f161
noncomputable def A.lb161_0:=A.ql A.w161 0 []
noncomputable def A.b161:=(fun x0=>A.qb A.w161 [x0]) A.lb161_0
def A.k161:=@A.kk 161 39 [.tmp 4,.tmp 5] A.b161 (by kernel_rfl) rfl
def Zf5{h:T O}{N:Nat}{v:V}{l:List Int}(hs:Sl h N v (dI l))(hl:l.length<1152921504606846976):Fn A.C 162 [v] h N (fun v' h' N'=>Sl h' N' v' (dI (Zf1 l))):=by
 intro w
 rw[Zae,A.k162 (by simp)]
 simp[A.b162]
 refine Zah [(0,0),(3,19)] (fun e r st=>e=.exit 0∧st=⟨h,N,[]⟩∧∃u,r.get 0=some u∧Sl h N u (dI (Zf1 l))) (fun m r st=>st=⟨h,N,[]⟩∧m≤l.length∧∃u,r.get 0=some u∧Sl h N u (dI (l.take m))∧Zf1 (l.take m)=Zf1 l) l.length ?_ ?_ ?_
 ·exact⟨rfl,Ys6 _,v,rfl,by rw[Yuu];exact hs,by rw[Yuu]⟩
 ·rintro m r _ hr hf ⟨rfl,hm,u,h0,hu,ht⟩
  rw[Zai]
  have lu:=hu.len
  rw[Zas,Yth,Yud hm]at lu
  cases m with
  |zero=>
   simp[A.lb162_0,hr,hf,h0,lu]
   rw[←ht];exact hu
  |succ k=>
   obtain⟨d,hd⟩:=Zag (l:=l) (k:=k) (by omega)
   have hd':(l.take (k+1))[k]?=some d:=by rw[Ytk,Ys8 (by omega)];exact hd
   obtain⟨i,o,c,e,rw,q1,q2,q3,q4⟩:=hu.at (Zbf hd')
   have e1:l.take (k+1)=l.take k++[d]:=by rw[Yug,hd];rfl
   have k1:(0:Int)<(k:Int)+1:=by omega
   have k2:(k:Int)<(k:Int)+1:=by omega
   have k3:(k:Int)+1-1=(k:Int):=by omega
   by_cases hz:d=0
   ·subst hz
    rw[e1,Zkp]at ht
    obtain⟨v',x1,x2⟩:=Zgy (w:=[]) hu (lo:=0) (hi:=k) (Yvy _) (by rw[Zas,Yth];omega) none (some (.int .i64 k)) (.inr ⟨rfl,rfl⟩) (.inl rfl)
    have x3:((dI (l.take (k+1))).take k).drop 0=dI (l.take k):=by
     rw[Yu3,dI,←List.map_take,List.take_take,Yud (by omega)];rfl
    rw[x3]at x2
    simp(disch:=first|(simp;done)|omega|rfl) [A.lb162_0,hr,hf,h0,lu,k1,k2,k3,q1,q3,q4,Zad,Zb0,evOpt,x1]
    exact⟨k,by omega,by omega,x2,ht⟩
   ·rw[e1,Zor hz,←e1]at ht
    simp(disch:=first|(simp;done)|omega|rfl) [A.lb162_0,hr,hf,h0,lu,k1,k2,k3,q1,q3,q4,Zad,hz]
    rw[←ht];exact hu
 ·rintro _ r _ hr ⟨rfl,rfl,u,h0,hu⟩
  simp[hr,h0,Ret]
  exact⟨Keeps.refl,hu⟩
def Rg(h:T O)(N:Nat)(v:V)(z:Int):Prop:=∃u,v=.agg [.bool (decide (z<0)),u]∧Dn h N u z.natAbs
def Zbz{h:T O}{N:Nat}{v:V}{l:List Int}{b:Bool}{n:Nat}(hs:Sl h N v (dI l))(hd:Di l)(hn:vI l=n)(hl:l.length<1152921504606846976):Fn A.C 96 [.bool b,v] h N (fun v' h' N'=>Rg h' N' v' (if b=true then -(n:Int) else n)):=by
 intro w
 rw[Zae,A.k96 (by simp)]
 simp[A.b96]
 refine Zaf (Zf5 (hs.keep (Keeps.refl.new _)) hl) ?_
 rintro u h1 n1 k1 hu
 rw[Zf0 hd hn]at hu
 have lu:=hu.len
 rw[Zas]at lu
 have kle:=k1.le
 have hrow:=k1.get N (by omega)
 simp at hrow
 have huo:=hu.form.one
 have huc:=hu.form.cells
 unfold V.one at huo
 unfold V.cells at huc
 have k0:=(Keeps.refl (h:=h) (n:=N)).new (.cells [.bool false,.nilslice] 114 true)
 have kx:=fun o=>((k0.trans k1).set (i:=N) (o:=o) (Ys6 N))
 have hu2:=fun c1 (hc:c1.length=2)=>hu.setInt (i:=N) (c1:=c1) (e1:=114) (w1:=true) hrow (by intro x hx k m;simp at hx;rcases hx with rfl|rfl<;>simp) hc
 cases b with
 |false=>
  simp[lu,splice,hrow,huo,huc,Zak,Zal,slc,Ret]
  refine⟨kx _,u,?_,?_⟩
  ·have:¬(n:Int)<0:=by omega
   simp
  ·exact hu2 _ rfl
 |true=>
  by_cases hz:n=0
  ·have hl0:(ds n).length=0:=by rw[hz,Zcn];rfl
   simp[lu,hl0,splice,hrow,huo,huc,Zak,Zal,slc,Ret]
   refine⟨kx _,u,?_,?_⟩
   ·simp[hz]
   ·simpa[hz,Dn]using hu2 _ rfl
  ·have hl0:¬(ds n).length=0:=fun hc=>hz (Zds.1 (Ytl hc))
   have hl1:(0:Int)<((ds n).length:Int):=by omega
   have hl2:0<(ds n).length:=by omega
   have hl3:ds n≠[]:=fun hc=>hz (Zds.1 hc)
   simp[lu,hl1,hl2,hl3,splice,hrow,huo,huc,Zak,Zal,slc,Ret]
   refine⟨kx _,u,?_,?_⟩
   ·have: -(n:Int)<0:=by omega
    simp[this];try omega
   ·simpa[Dn]using hu2 _ rfl
def Zcw:∀{b a:Nat},a≤b→(ds a).length≤(ds b).length:=by
 intro b
 induction b using Nat.strongRecOn with
 |_ b ih=>
  intro a h
  by_cases h0:a=0
  ·rw[h0,Zcn];simp
  ·rw[Zhd h0,Zhd (n:=b) (by omega)]
   have:=ih (b/1000000000) (Yv2 (by omega) (by decide)) (a:=a/1000000000) (Nat.div_le_div_right h)
   simp only[Ys4];omega
def Yad{A:List Int}{k:Nat}{x:Int}(hx:A[k]?=some x):vI A=vI (A.take k)+pI k*(x+1000000000*vI (A.drop (k+1))):=by
 have hk:=Zat hx
 rw[Zje A k (by omega),Zap hx,vI]
def Yjl{A B:List Int}{k:Nat}{x y:Int}(hA:Di A)(hB:Di B)(hx:A[k]?=some x)(hy:B[k]?=some y)(he:A.drop (k+1)=B.drop (k+1))(hxy:x<y):vI A<vI B:=by
 have hk:=Zat hx
 rw[Yad hx,Yad hy,he]
 have h1:=Zih (hA.take k)
 have h2:=Zig (hB.take k)
 rw[Yth,Yud (by omega)]at h1
 have h3:pI k*(x+1000000000*vI (B.drop (k+1))+1)≤pI k*(y+1000000000*vI (B.drop (k+1))):=Ytm (by omega) (Yu8 (Zjr k))
 have h4:pI k*(x+1000000000*vI (B.drop (k+1))+1)=pI k*(x+1000000000*vI (B.drop (k+1)))+pI k:=by grind
 omega
def Yew(a b:Nat):Int:=if a<b then -1 else if b<a then 1 else 0
def Zu2{h:T O}{N:Nat}{u v:V}{a b:Nat}{w:List Nat}(hu:Dn h N u a)(hv:Dn h N v b)(hl:(ds a).length<1152921504606846976)(hl2:(ds b).length<1152921504606846976):A.C.call (.func 160 [] []) [u,v] ⟨h,N,w⟩=some (.int .i64 (Yew a b),⟨h,N,w⟩):=by
 apply Call.eq
 have lu:=hu.len
 have lv:=hv.len
 rw[Zas]at lu lv
 have va:=Zbb a
 have vb:=Zbb b
 have da:=Zcd a
 have db:=Zcd b
 rw[Zae,A.k160 (by simp)]
 unfold Yew
 by_cases h1:(ds a).length=(ds b).length
 ·have h1':((ds a).length:Int)=((ds b).length:Int):=by omega
  simp(disch:=omega) [A.b160,lu,lv,Zad,h1]
  generalize hA:ds a=X at*
  generalize hB:ds b=Y at*
  refine Zah [(4,5),(19,40)] (fun e r st=>st=⟨h,N,[]⟩∧((e=.exit 0∧a=b)∨(e=.ret∧a<b∧r.get 4=some (.int .i64 (-1)))∨(e=.ret∧b<a∧r.get 4=some (.int .i64 1)))) (fun m r st=>st=⟨h,N,[]⟩∧m≤X.length∧r.get 5=some (.int .i64 ((m:Int)-1))∧X.drop m=Y.drop m) X.length ?_ ?_ ?_
  ·exact⟨rfl,Ys6 _,by simp[h1],by rw[Yub,h1,Yub]⟩
  ·rintro m r _ hr hf ⟨rfl,hm,h5,he⟩
   rw[Zai]
   cases m with
   |zero=>
    have:a=b:=by
     simp at he;rw[he]at va;omega
    simp[A.lb160_0,hr,hf,h5,this]
   |succ k=>
    obtain⟨x,hx⟩:=Zag (l:=X) (k:=k) (by omega)
    obtain⟨y,hy⟩:=Zag (l:=Y) (k:=k) (by omega)
    obtain⟨b1,b2,b3,b4,b5,z1,z2,z3,z4⟩:=Sl.at (show Sl h N u (dI (ds a)) from hu) (by rw[hA];exact Zbf hx)
    obtain⟨c1,c2,c3,c4,c5,y1,y2,y3,y4⟩:=Sl.at (show Sl h N v (dI (ds b)) from hv) (by rw[hB];exact Zbf hy)
    have hq1:(((k+1:Nat):Int)-1)=(k:Int):=by omega
    rw[hq1]at h5
    have hk1:(k:Int)<(X.length:Int):=by omega
    have hk2:(k:Int)<(Y.length:Int):=by omega
    have hk3:(0:Int)≤(k:Int):=by omega
    have hk4:k<Y.length:=by omega
    by_cases hlt:x<y
    ·have:=Yjl da db hx hy he hlt
     have hab:a<b:=by omega
     simp[A.lb160_0,hr,hf,h5,lu,lv,hk1,hk2,hk3,hk4,z1,z2,z3,z4,y1,y2,y3,y4,hlt,hab]
    ·by_cases hgt:y<x
     ·have:=Yjl db da hy hx he.symm hgt
      have hab:b<a:=by omega
      have hab2:¬a<b:=by omega
      simp[A.lb160_0,hr,hf,h5,lu,lv,hk1,hk2,hk3,hk4,z1,z2,z3,z4,y1,y2,y3,y4,hlt,hgt,hab,hab2]
     ·have hxy:x=y:=by omega
      simp(disch:=first|(simp;done)|omega|rfl) [A.lb160_0,hr,hf,h5,lu,lv,hk1,hk2,hk3,hk4,z1,z2,z3,z4,y1,y2,y3,y4,hlt,hgt]
      exact⟨k,by omega,by omega,rfl,by rw[Zap hx,Zap hy,he,hxy]⟩
  ·rintro e r _ hr ⟨rfl,⟨rfl,hz⟩|⟨rfl,hz,h4⟩|⟨rfl,hz,h4⟩⟩
   ·simp[hr,hz]
   ·simp[hr,h4,hz]
   ·have:¬a<b:=by omega
    simp[hr,h4,hz,this]
 ·have h1':¬((ds a).length:Int)=((ds b).length:Int):=by omega
  by_cases h2:(ds a).length<(ds b).length
  ·have hab:a<b:=by
    apply Yuh;intro hc;have:=Zcw hc;omega
   simp[A.b160,lu,lv,Zad,h1,h2,hab]
  ·have hab:b<a:=by
    apply Yuh;intro hc;have:=Zcw hc;omega
   have hab2:¬a<b:=by omega
   simp[A.b160,lu,lv,Zad,h1,h2,hab,hab2]
structure DdA (h:T O) (N:Nat) (l:List Int) (d:Int) (m:Nat) (r:T V) (st:St):Prop where
 w:Zac N st.w=[]
 keep:Keeps h N st.h (N+1)
 n:st.n=N+1
 r8:r.get 8=some (.int .i64 ((m:Int)-1))
 hm:m≤l.length
 ex:∃out rest,st.h.get N=some (.cells (dI out) 3 true)∧out.length=l.length∧r.get 7=some (.int .i64 rest)∧0≤rest∧rest<d∧Di (out.drop m)∧vI (out.drop m)*d+rest=vI (l.drop m)
def Znv{h:T O}{N:Nat}{v:V}{l:List Int}{d:Int}(hs:Sl h N v (dI l))(hd:Di l)(hl:l.length<1099511627776)(h0:0<d)(h1:d<1000000000):Fn A.C 161 [v,.int .i64 d] h N (fun u h' n'=>∃q,u=.tup [q,.int .i64 ((vI l).toNat%d.toNat:Nat)]∧Dn h' n' q ((vI l).toNat/d.toNat)):=by
 intro w
 have lv:=hs.len
 rw[Zas]at lv
 rw[Zae,A.k161 (by simp)]
 simp(disch:=first|(simp;done)|omega|rfl) [A.b161,lv]
 refine Zah [(7,9),(16,35)] (fun e r st=>e=.exit 0∧DdA h N l d 0 r st) (DdA h N l d) l.length ?_ ?_ ?_
 ·refine⟨by simp,Keeps.refl.new _,rfl,by simp,Ys6 _,List.replicate l.length 0,0,by simp[Zqn],by simp,by simp,by omega,h0,?_,?_⟩
  ·rw[Yui (by simp)];exact Di.nil
  ·rw[Yui (by simp),Yub];simp[vI]
 ·rintro m r ⟨H,n1,W⟩ hr hf ⟨hW,hK,hn,h8,hm,out,rest,hrow,hol,h7,hr0,hrd,hdi,hv⟩
  simp only at hW hK hn hrow
  subst hn
  rw[Zai]
  cases m with
  |zero=>
   simp[A.lb161_0,hr,hf,h8]
   exact⟨hW,hK,rfl,by simpa using h8,hm,out,rest,hrow,hol,by simp[h7],hr0,hrd,hdi,hv⟩
  |succ k=>
   obtain⟨x,hx⟩:=Zag (l:=l) (k:=k) (by omega)
   obtain⟨b1,b2,b3,b4,b5,z1,z2,z3,z4⟩:=hs.at (Zbf hx)
   have z3:=(hK.get _ z2).trans z3
   have hxd:=hd.get hx
   have hq1:(((k+1:Nat):Int)-1)=(k:Int):=by omega
   rw[hq1]at h8
   have hk1:(k:Int)<(l.length:Int):=by omega
   have hk2:k<l.length:=by omega
   have hk3:(0:Int)≤(k:Int):=by omega
   have w1:Zaq .i64 (rest*1000000000)=rest*1000000000:=Zaj (by omega) (by omega)
   have w2:Zaq .i64 (rest*1000000000+x)=rest*1000000000+x:=Zaj (by omega) (by omega)
   have s0:0≤rest*1000000000+x:=by omega
   have hd0:¬d=0:=by omega
   have t1:(rest*1000000000+x).tdiv d=(rest*1000000000+x)/d:=Yun s0
   have t2:(rest*1000000000+x).tmod d=(rest*1000000000+x)%d:=Yu1 s0
   have t3:=Yvo (rest*1000000000+x) d
   have t4:0≤(rest*1000000000+x)/d:=Int.ediv_nonneg s0 (by omega)
   have t5:(rest*1000000000+x)/d<1000000000:=by
    apply Int.ediv_lt_of_lt_mul h0
    omega
   have t6:=Ywc (rest*1000000000+x) hd0
   have t7:=Yvv (rest*1000000000+x) h0
   have w3:Zaq .i64 ((rest*1000000000+x)/d)=(rest*1000000000+x)/d:=Zaj (by omega) (by omega)
   have w8:=Zas out
   have w7:=Zic (l:=out) (k:=k) (v:=(rest*1000000000+x)/d) (by omega)
   simp(disch:=first|(simp;done)|omega|rfl) [A.lb161_0,hr,hf,h8,h7,hk1,hk2,hk3,lv,z1,z3,z4,w1,w2,w3,hd0,t1,t2,hrow,w7]
   have e1:(out.set k ((rest*1000000000+x)/d)).drop k=((rest*1000000000+x)/d)::out.drop (k+1):=by
    rw[Zap (d:=(rest*1000000000+x)/d) (by rw[Yua (by omega)])]
    rw[List.drop_set_of_lt (by omega)]
   generalize (rest*1000000000+x)/d=q at*
   generalize (rest*1000000000+x)%d=r' at*
   refine⟨k,by omega,⟨by simp[Zac,hW],hK.set (Ys6 N),rfl,by simp,by omega,out.set k q,r',by simp,by simp[hol],by simp,t6,t7,?_,?_⟩⟩
   ·rw[e1];exact Di.app (Di.one t4 t5) hdi
   ·rw[e1,Zap hx,vI,vI,←hv]
    grind
 ·rintro _ r ⟨H,n1,W⟩ hr ⟨rfl,hW,hK,hn,h8,hm,out,rest,hrow,hol,h7,hr0,hrd,hdi,hv⟩
  simp only at hW hK hn hrow
  subst hn
  rw[Yu3,Yu3]at*
  have hs2:Sl H (N+1) (.slice N 0 l.length (some l.length) 1) (dI out):=Sl.row (by omega) hrow (by simp[hol]) (fun k hk=>by simp at hk;omega)
  simp[hr,h7]
  refine Zaf (Zf5 hs2 (by omega)) ?_
  rintro u h2 n2 k2 hu
  have hvo:=Zig hdi
  have hvl:=Zig hd
  have m1:(vI l).toNat/d.toNat=(vI out).toNat:=by
   have:(vI l)/d=vI out:=by
    rw[←hv,Int.mul_comm,Int.add_comm,Int.add_mul_ediv_left _ _ (by omega),Int.ediv_eq_zero_of_lt hr0 hrd];omega
   rw[←this]
   obtain⟨a,ha⟩:=Yve hvl
   obtain⟨b,hb⟩:=Yve (Yu8 h0)
   rw[ha,hb];rfl
  have m2:(((vI l).toNat%d.toNat:Nat):Int)=rest:=by
   have:(vI l)%d=rest:=by
    rw[←hv,Int.mul_comm,Int.add_comm,Int.add_mul_emod_self_left,Int.emod_eq_of_lt hr0 hrd]
   rw[←this]
   obtain⟨a,ha⟩:=Yve hvl
   obtain⟨b,hb⟩:=Yve (Yu8 h0)
   rw[ha,hb];rfl
  rw[Zpt hdi]at hu
  have m2':rest=max (vI l) 0%max d 0:=by rw[←m2];simp
  simp[hr,h7,Ret,hW]
  refine⟨hK.trans k2,u,⟨rfl,m2'⟩,?_⟩
  rw[m1]
  exact hu
noncomputable def A.w97:=A.q Tryz.f97
noncomputable def A.lb97_0:=A.ql A.w97 1 []
noncomputable def A.lb97_1:=(fun x0=>A.ql A.w97 0 [x0]) A.lb97_0
noncomputable def A.b97:=(fun x0=>A.qb A.w97 [x0]) A.lb97_1
def A.k97:=@A.kk 97 72 [.tmp 4] A.b97 (by kernel_rfl) rfl
structure MuB (h:T O) (N:Nat) (la lb:List Int) (i:Nat) (out0:List Int) (a:Int) (m:Nat) (r:T V) (st:St):Prop where
 w:Zac N st.w=[]
 keep:Keeps h N st.h (N+1)
 n:st.n=N+1
 ex:∃k out c,k+m=lb.length∧r.get 8=some (.int .i64 k)∧st.h.get N=some (.cells (dI out) 3 true)∧out.length=la.length+lb.length∧r.get 7=some (.int .i64 c)∧0≤c∧c<1000000000∧Di out∧(∀t,i+lb.length≤t→t<out.length→out[t]?=some 0)∧vI out+pI (i+k)*c=vI out0+pI i*(a*vI (lb.take k))
structure MuA (h:T O) (N:Nat) (la lb:List Int) (m:Nat) (r:T V) (st:St):Prop where
 w:Zac N st.w=[]
 keep:Keeps h N st.h (N+1)
 n:st.n=N+1
 ex:∃i out,i+m=la.length∧r.get 6=some (.int .i64 i)∧st.h.get N=some (.cells (dI out) 3 true)∧out.length=la.length+lb.length∧Di out∧(∀t,i+lb.length≤t→t<out.length→out[t]?=some 0)∧vI out=vI (la.take i)*vI lb
def Ztt{h:T O}{N:Nat}{u v:V}{la lb:List Int}{a b:Nat}(hu:Sl h N u (dI la))(hv:Sl h N v (dI lb))(da:Di la)(db:Di lb)(ea:vI la=a)(eb:vI lb=b)(hl:la.length+lb.length<1099511627776):Fn A.C 97 [u,v] h N (fun x h' n'=>Dn h' n' x (a*b)):=by
 intro w
 have lu:=hu.len
 have lv:=hv.len
 rw[Zas]at lu lv
 rw[Zae,A.k97 (by simp)]
 have cs:((la.length:Int)+(lb.length:Int)).toNat=la.length+lb.length:=by omega
 simp(disch:=first|(simp;done)|omega|rfl) [A.b97,lu,lv,cs]
 refine Zah [(6,9),(16,69)] (fun e r st=>e=.exit 0∧MuA h N la lb 0 r st) (MuA h N la lb) la.length ?_ ?_ ?_
 ·refine⟨by simp,Keeps.refl.new _,rfl,0,List.replicate (la.length+lb.length) 0,by omega,by simp,by simp[Zqn],by simp,Di.zeros _,fun t _ ht=>?_,by simp[Zps,vI]⟩
  simp at ht
  simp[ht]
 ·rintro m r ⟨H,n1,W⟩ hr hf ⟨hW,hK,hn,i,out,hi,h6,hrow,hol,hdi,hz,hv0⟩
  simp only at hW hK hn hrow
  subst hn
  rw[Zai]
  cases m with
  |zero=>
   have:i=la.length:=by omega
   subst this
   simp[A.lb97_1,hr,hf,h6,lu]
   exact⟨hW,hK,rfl,la.length,out,by omega,by simp[h6],hrow,hol,hdi,hz,hv0⟩
  |succ m=>
   obtain⟨x,hx⟩:=Zag (l:=la) (k:=i) (by omega)
   obtain⟨b1,b2,b3,b4,b5,z1,z2,z3,z4⟩:=hu.at (Zbf hx)
   have z3:=(hK.get _ z2).trans z3
   have hxd:=da.get hx
   have hi1:(i:Int)<(la.length:Int):=by omega
   have hi2:i<la.length:=by omega
   simp[A.lb97_1,hr,hf,h6,hi1,hi2,lu]
   refine Zah [(7,9),(22,54)] (fun e r st=>e=.exit 2∧MuB h N la lb i out x 0 r st) (MuB h N la lb i out x) lb.length ?_ ?_ ?_
   ·exact⟨hW,hK,rfl,0,out,0,by omega,by simp,hrow,hol,by simp,by omega,by omega,hdi,hz,by simp[vI]⟩
   ·rintro m2 r2 ⟨H2,n2,W2⟩ hr2 hf2 ⟨hW2,hK2,hn2,k,out2,c,hk,h8,hrow2,hol2,h7,c0,c1,hdi2,hz2,hv2⟩
    simp only at hW2 hK2 hn2 hrow2
    subst hn2
    rw[Zai]
    cases m2 with
    |zero=>
     have:k=lb.length:=by omega
     subst this
     simp[A.lb97_0,hr,hr2,hf2,h8,lv]
     exact⟨hW2,hK2,rfl,lb.length,out2,c,by omega,by simp[h8],hrow2,hol2,by simp[h7],c0,c1,hdi2,hz2,hv2⟩
    |succ m2=>
     obtain⟨y,hy⟩:=Zag (l:=lb) (k:=k) (by omega)
     obtain⟨g1,g2,g3,g4,g5,y1,y2,y3,y4⟩:=hv.at (Zbf hy)
     have y3:=(hK2.get _ y2).trans y3
     have z3:=(hK2.get _ z2).trans ((hK.get _ z2).symm.trans z3)
     have hyd:=db.get hy
     obtain⟨o,ho⟩:=Zag (l:=out2) (k:=i+k) (by omega)
     have hod:=hdi2.get ho
     have hk1:(k:Int)<(lb.length:Int):=by omega
     have hk2:k<lb.length:=by omega
     have p0:0≤x*y:=Yu2 hxd.1 hyd.1
     have p1:x*y≤999999999*999999999:=Int.mul_le_mul (by omega) (by omega) hyd.1 (by omega)
     have q1:(i:Int)+(k:Int)<(la.length:Int)+(lb.length:Int):=by omega
     have q2:i+k<la.length+lb.length:=by omega
     have q3:(0:Int)≤(i:Int)+(k:Int):=by omega
     have t1:(o+x*y+c).tmod 1000000000=(o+x*y+c)%1000000000:=Yu1 (by omega)
     have t2:(o+x*y+c).tdiv 1000000000=(o+x*y+c)/1000000000:=Yun (by omega)
     have w8:=Zas out2
     have w7:=Zic (l:=out2) (k:=i+k) (v:=(o+x*y+c)%1000000000) (by omega)
     have e1:vI (out2.set (i+k) ((o+x*y+c)%1000000000))+pI (i+(k+1))*((o+x*y+c)/1000000000)=vI out+pI i*(x*vI (lb.take (k+1))):=by
      have hm:=Yvo (o+x*y+c) 1000000000
      rw[Zjf ho,Zba hy,show i+(k+1)=(i+k)+1 by omega,Zc4]
      have hp:=Zv7 i k
      generalize (o+x*y+c)/1000000000=Q at*
      generalize (o+x*y+c)%1000000000=R at*
      have:R=o+x*y+c-1000000000*Q:=by omega
      rw[this]
      have h3:vI out2=vI out+pI i*(x*vI (lb.take k))-pI (i+k)*c:=by omega
      rw[h3,hp]
      grind
     generalize hP:x*y=P at*
     have b1':Zaq .i64 P=P:=Zaj (by omega) (by omega)
     have b2':Zaq .i64 (o+P)=o+P:=Zaj (by omega) (by omega)
     have b3':Zaq .i64 (o+P+c)=o+P+c:=Zaj (by omega) (by omega)
     have b4':Zaq .i64 ((o+P+c)/1000000000)=(o+P+c)/1000000000:=Zaj (by omega) (by omega)
     have f1:b1<N+1:=by omega
     have f2:g1<N+1:=by omega
     have r0:=Ywc (o+P+c) (b:=1000000000) (by decide)
     have r1:=Yvv (o+P+c) (b:=1000000000) (by decide)
     have d0:0≤(o+P+c)/1000000000:=Int.ediv_nonneg (by omega) (by decide)
     have d1:(o+P+c)/1000000000<1000000000:=Int.ediv_lt_of_lt_mul (by decide) (by omega)
     simp(disch:=first|(simp;done)|omega|rfl) [-getElem?_pos,A.lb97_0,hr,hr2,hf2,h6,h7,h8,lu,lv,hk1,hk2,hi1,hi2,q1,q2,q3,hrow2,Zbf ho,z1,z2,z3,z4,y1,y2,y3,y4,hP,b1',b2',b3',b4',t1,t2,w7,cs,f1,f2]
     refine⟨m2,by omega,⟨by simp[Zac,hW2],hK2.set (Ys6 N),rfl,k+1,_,_,by omega,by simp,by simp,by simp[hol2],by simp,d0,d1,hdi2.set r0 r1,fun t ht1 ht2=>?_,e1⟩⟩
     rw[Ytf (by omega)]
     exact hz2 t ht1 (by simpa using ht2)
   ·rintro _ r2 ⟨H2,n2,W2⟩ hr2 ⟨rfl,hW2,hK2,hn2,k,out2,c,hk,h8,hrow2,hol2,h7,c0,c1,hdi2,hz2,hv2⟩
    simp only at hW2 hK2 hn2 hrow2
    subst hn2
    have:k=lb.length:=by omega
    subst this
    have ho:=hz2 (i+lb.length) (by omega) (by omega)
    have hfi:=hf.inner (D':=[(7,9),(22,54)]) rfl (by simp) hr2
    have q1:(i:Int)+(lb.length:Int)<(la.length:Int)+(lb.length:Int):=by omega
    have q2:i+lb.length<la.length+lb.length:=by omega
    have q3:(0:Int)≤(i:Int)+(lb.length:Int):=by omega
    have w8:=Zas out2
    have w7:=Zic (l:=out2) (k:=i+lb.length) (v:=c) (by omega)
    rw[Yuu]at hv2
    have e1:vI (out2.set (i+lb.length) c)=vI (la.take (i+1))*vI lb:=by
     rw[Zjf ho,Zba hx]
     have:vI out2+pI (i+lb.length)*(c-0)=vI out+pI i*(x*vI lb):=by rw[Int.sub_zero];exact hv2
     rw[this,hv0]
     grind
    simp(disch:=first|(simp;done)|omega|rfl) [-getElem?_pos,hr,hr2,h6,h7,lv,hrow2,Zbf ho,q1,q2,q3,w7,hfi,cs]
    refine⟨m,by omega,⟨by simp[Zac,hW2],hK2.set (Ys6 N),rfl,i+1,_,by omega,by simp,by simp,by simp[hol2],hdi2.set c0 c1,fun t ht1 ht2=>?_,e1⟩⟩
    rw[Ytf (by omega)]
    exact hz2 t (by omega) (by simpa using ht2)
 ·rintro _ r ⟨H,n1,W⟩ hr ⟨rfl,hW,hK,hn,i,out,hi,h6,hrow,hol,hdi,hz,hv0⟩
  simp only at hW hK hn hrow
  subst hn
  have:i=la.length:=by omega
  subst this
  rw[Yuu,ea,eb]at hv0
  have hs2:Sl H (N+1) (.slice N 0 (la.length+lb.length) (some (la.length+lb.length)) 1) (dI out):=Sl.row (by omega) hrow (by simp[hol]) (fun k hk=>by simp at hk;omega)
  simp[hr]
  refine Zaf (Zf5 hs2 (by omega)) ?_
  rintro y h2 n2 k2 hy
  rw[Zf0 hdi (n:=a*b) (by rw[hv0];simp)]at hy
  simp[hr,Ret,hW]
  exact⟨hK.trans k2,hy⟩
end Go.Mx
