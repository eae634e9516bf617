/-lensletref05-/
import Derived.Test.YthekjfgljafnaaaGreatDoorSpB
set_option linter.all false
namespace Go.Mx
open Go Go.Proofs
variable {a b:Nat}
set_option maxHeartbeats 4000000
set_option maxRecDepth 1000000
noncomputable def A.w4:=A.q Tryz.f4
noncomputable def A.lb4_0:=A.ql A.w4 0 []
noncomputable def A.b4:=(fun x0=>A.qb A.w4 [x0]) A.lb4_0
def A.k4:=@A.kk 4 48 [.tmp 8] A.b4 (by kernel_rfl) rfl
def Zw7{k:Nat}(h:Zfv k a=true)(hab:a≤b):Zfv k b=true:=by
 unfold Zfv at*
 have:=of_decide_eq_true h
 exact decide_eq_true (by omega)
def Ybn{l:List Str}(h:Zbt a l=true)(hab:a≤b):Zbt b l=true:=by
 unfold Zbt at*
 rw[Ywo]at*
 exact⟨Zw7 h.1 hab,h.2⟩
def Zrx{m:List (List Str)}{c d:Nat}(h:Zcq a b m=true)(hac:a≤c)(hbd:b≤d):Zcq c d m=true:=by
 unfold Zcq at*
 rw[Ywo]at*
 exact⟨Zw7 h.1 hac,Yw1.2 fun x hx=>Ybn (Yw1.1 h.2 x hx) hbd⟩
def Yf0(m:List (List Str))(r c d:Nat):Bool:=Zcq r c m&&(decide (m.length≤r)&&(decide (Zg9 m 64 16=0)&&(decide (hdL m≤c)&&m.all fun l=>Yat l c d)))
def Yn7{h:T O}{N r0 c d:Nat}{v:V}{m:List (List Str)}(hs:MtS h N v m)(hl:m.length<9223372036854775808)(hx:∀x∈m,x.length<9223372036854775808)(hr0:r0≤6)(hc:c≤6)(hd:d≤100):Fn A.C 4 [v,.int .i64 (r0:Nat),.int .i64 (c:Nat),.int .i64 (d:Nat)] h N (fun u _ _=>u=.bool (Yf0 m r0 c d)):=by
 intro w
 have hlen:=hs.len
 have hsm:=fun w=>Ygq (w:=w) (n:=r0) (p:=c) hs hl hx (by omega) (by omega)
 rw[Zab,A.k4 (by simp)]
 cases hsh:Zcq r0 c m with
 |false=>
  rw[hsh]at hsm
  simp(disch:=first|(simp;done)|omega|rfl) [-getElem?_pos,A.b4,hsm,Ret]
  exact⟨Keeps.refl,by simp[Yf0,hsh]⟩
 |true=>
  rw[hsh]at hsm
  by_cases c1:m.length≤r0
  ·have c1':¬(r0:Int)<(m.length:Int):=by omega
   obtain⟨x1,x2⟩:=Ze9 (Zrx hsh hr0 hc)
   simp(disch:=first|(simp;done)|omega|rfl) [-getElem?_pos,A.b4,hsm,hlen,c1']
   refine Zac (Yg3 hs x1 x2) ?_
   rintro _ h1 n1 k1 rfl
   by_cases c2:Zg9 m 64 16=0
   ·obtain⟨l0,hl0,h0⟩:∃l0,m[0]?=some l0∧hdL m=l0.length:=by
     cases m with
     |nil=>simp[Zg9]at c2
     |cons a m=>exact⟨a,rfl,rfl⟩
    obtain⟨i,o,cc,e,rw,u0,q1,q2,q3,q4,q5⟩:=(hs.keep k1).at hl0
    have l5:=q5.len
    rw[Zb5]at l5
    have m0:0<m.length:=Zau hl0
    have m0':(0:Int)<(m.length:Int):=by omega
    rw[Yxc]at q4
    by_cases c3:hdL m≤c
    ·have c3':¬(c:Int)<(l0.length:Int):=by omega
     have e0:Yf0 m r0 c d=m.all fun l=>Yat l c d:=by simp[Yf0,hsh,c1,c2,c3]
     rw[e0]
     simp(disch:=first|(simp;done)|omega|rfl) [-getElem?_pos,c2,Zad,hlen,m0,m0',q1,q3,q4,l5,c3']
     refine Zai [(8,9),(34,47)] (fun e r st=>Zaa N st.w=[]∧Keeps h N st.h st.n∧((e=.exit 0∧(m.all fun l=>Yat l c d)=true)∨(e=.ret∧(m.all fun l=>Yat l c d)=false∧r.get 8=some (.bool false)))) (fun j r st=>Zaa N st.w=[]∧Keeps h N st.h st.n∧∃k,k+j=m.length∧r.get 9=some (.int .i64 k)∧(m.all fun l=>Yat l c d)=((m.drop k).all fun l=>Yat l c d)) m.length ?_ ?_ ?_
     ·exact⟨by simp,k1,0,by omega,by simp,by simp⟩
     ·rintro j r ⟨H,n2,W⟩ hr hf ⟨hW,hK,k,hk,h9,hz⟩
      simp only at hW hK
      rw[Zah]
      cases j with
      |zero=>
       obtain rfl:k=m.length:=by omega
       rw[Yw5,List.all_nil]at hz
       simp(disch:=first|(simp;done)|omega|rfl) [-getElem?_pos,A.lb4_0,hr,hf,h9,hlen,hW,hK]
       simpa using hz
      |succ j=>
       have hlt:k<m.length:=by omega
       have hlt':(k:Int)<(m.length:Int):=by omega
       obtain⟨l,hlk⟩:=Zae hlt
       obtain⟨i,o,cc,e,rw,u1,q1,q2,q3,q4,q5⟩:=(hs.keep hK).at hlk
       rw[Zan hlk,List.all_cons]at hz
       have hxl:=hx l (Yv7 hlk)
       simp(disch:=first|(simp;done)|omega|rfl) [-getElem?_pos,A.lb4_0,hr,hf,h9,hlen,hlt,hlt',q1,q2,q3,q4]
       refine Zac (Yn6 q5 hxl hd (by omega)) ?_
       rintro _ h3 n3 k3 rfl
       have kk:=hK.trans k3
       cases hfs:Yat l c d with
       |true=>
        rw[hfs,Bool.true_and]at hz
        simp(disch:=first|(simp;done)|omega|rfl) [-getElem?_pos,hr,hf,h9,hW]
        exact⟨j,by omega,kk,k+1,by omega,by simp,by simpa using hz⟩
       |false=>
        rw[hfs,Yzd]at hz
        simp(disch:=first|(simp;done)|omega|rfl) [-getElem?_pos,hr,hf,h9,hW]
        exact⟨kk,by simpa using hz⟩
     ·rintro e r ⟨H,n1,W⟩ hr ⟨hW,hK,⟨rfl,hz⟩|⟨rfl,hz,h6⟩⟩
      ·simp only at hW hK
       simp(disch:=first|(simp;done)|omega|rfl) [-getElem?_pos,hr,Ret,hW,hK]
       simpa using hz
      ·simp only at hW hK
       simp(disch:=first|(simp;done)|omega|rfl) [-getElem?_pos,hr,h6,Ret,hW,hK]
       simpa using hz
    ·have c3':(c:Int)<(l0.length:Int):=by omega
     simp(disch:=first|(simp;done)|omega|rfl) [-getElem?_pos,c2,Zad,hlen,m0,m0',q1,q3,q4,l5,c3',Ret]
     exact⟨k1,by simp[Yf0,c3]⟩
   ·simp(disch:=first|(simp;done)|omega|rfl) [-getElem?_pos,c2,Zad,Ret]
    exact⟨k1,by simp[Yf0,c2]⟩
  ·have c1':(r0:Int)<(m.length:Int):=by omega
   simp(disch:=first|(simp;done)|omega|rfl) [-getElem?_pos,A.b4,hsm,hlen,c1',Ret]
   exact⟨Keeps.refl,by simp[Yf0,c1]⟩
def Yh4{a b:List Rat}(h:a.length=b.length)(hg:∀i,i<a.length→a[i]?.getD 0=b[i]?.getD 0):a=b:=by
 apply List.ext_getElem h
 intro i h1 h2
 have:=hg i h1
 rw[Yv9 h1,Yv9 h2]at this
 exact this
variable {d i j k:Nat} {m:List (List Rat)}
def sN(f:Nat→Rat):Nat→Rat
 |0=>0
 |n+1=>sN f n+f n
def Zas{f g:Nat→Rat}:∀{n:Nat},(∀i,i<n→f i=g i)→sN f n=sN g n
 |0,_=>rfl
 |n+1,h=>by
  unfold sN
  rw[Zas fun i hi=>h i (by omega),h n (by omega)]
def Zj5{f g:Nat→Rat}:∀{n:Nat},sN (fun i=>f i+g i) n=sN f n+sN g n
 |0=>by simp[sN,Rat.add_zero]
 |n+1=>by
  unfold sN
  rw[Zj5]
  grind
def Zd5{f:Nat→Rat}{c:Rat}:∀{n:Nat},sN (fun i=>c*f i) n=c*sN f n
 |0=>by simp[sN,Rat.mul_zero]
 |n+1=>by
  unfold sN
  rw[Zd5]
  grind
def Yj0{f:Nat→Rat}:∀{n:Nat},(∀i,i<n→f i=0)→sN f n=0
 |0,_=>rfl
 |n+1,h=>by
  unfold sN
  rw[Yj0 fun i hi=>h i (by omega),h n (by omega),Rat.add_zero]
def Zqn{f:Nat→Nat→Rat}{m:Nat}:∀{n:Nat},sN (fun i=>sN (f i) m) n=sN (fun j=>sN (fun i=>f i j) n) m
 |0=>(Yj0 (n:=m) fun _ _=>rfl).symm
 |n+1=>by
  show sN (fun i=>sN (f i) m) n+sN (f n) m=sN (fun j=>sN (fun i=>f i j) n+f n j) m
  rw[Zqn,←Zj5]
def Zhm{f:Nat→Rat}{i:Nat}:∀{n:Nat},i<n→(∀j,j<n→j≠i→f j=0)→sN f n=f i
 |0,h,_=>by omega
 |n+1,h,hz=>by
  unfold sN
  by_cases e:i=n
  ·subst e
   rw[Yj0 fun j hj=>hz j (by omega) (by omega),Rat.zero_add]
  ·rw[Zhm (n:=n) (by omega) fun j hj hne=>hz j (by omega) hne,hz n (by omega) (by omega),Rat.add_zero]
def Yep{a b:List Rat}:∀{n:Nat},Zp1 a b n=sN (fun i=>a[i]?.getD 0*b[i]?.getD 0) n
 |0=>rfl
 |n+1=>by
  unfold Zp1 sN
  rw[Yep]
def Kil(m:List (List Rat))(c:Nat)(v:Nat→Rat):Prop:=∀i,i<m.length→sN (fun j=>atQ m i j*v j) c=0
def Ynk{c p:Nat}{v:Nat→Rat}(hd:d<m.length)(hp:p<m.length):Kil (Zb6 m d p) c v↔Kil m c v:=by
 have hs:∀i,sN (fun j=>atQ (Zb6 m d p) i j*v j) c=if i=d then sN (fun j=>atQ m p j*v j) c else if i=p then sN (fun j=>atQ m d j*v j) c else sN (fun j=>atQ m i j*v j) c:=fun i=>by
  split
  ·exact Zas fun j _=>by rw[Zos hd hp,Yv6 (by assumption)]
  ·split
   ·exact Zas fun j _=>by rw[Zos hd hp,Yv4 (by assumption),Yv6 (by assumption)]
   ·exact Zas fun j _=>by rw[Zos hd hp,Yv4 (by assumption),Yv4 (by assumption)]
 unfold Kil
 rw[Zcf]
 constructor
 ·intro h i hi
  by_cases e:i=p
  ·have:=h d hd
   rw[hs,Yv6 rfl]at this
   rw[e]
   exact this
  ·by_cases e2:i=d
   ·have:=h p hp
    rw[hs]at this
    by_cases e3:p=d
    ·rw[Yv6 e3]at this
     rw[e2,←e3]
     exact this
    ·rw[Yv4 e3,Yv6 rfl]at this
     rw[e2]
     exact this
   ·have:=h i hi
    rw[hs,Yv4 e2,Yv4 e]at this
    exact this
 ·intro h i hi
  rw[hs]
  split
  ·exact h p hp
  ·split
   ·exact h d hd
   ·exact h i hi
def Ynl{c:Nat}{v:Nat→Rat}(hd:d<m.length)(h0:atQ m d k≠0):Kil (Zhg m d k) c v↔Kil m c v:=by
 have hs:∀i,sN (fun j=>atQ (Zhg m d k) i j*v j) c=if i=d then (atQ m d k)⁻¹*sN (fun j=>atQ m d j*v j) c else sN (fun j=>atQ m i j*v j) c:=fun i=>by
  split
  ·rw[←Zd5]
   exact Zas fun j _=>by
    rw[Zx3 hd,Yv6 (by assumption),Rat.div_def]
    grind
  ·exact Zas fun j _=>by rw[Zx3 hd,Yv4 (by assumption)]
 unfold Kil
 rw[Zgq]
 constructor
 ·intro h i hi
  have:=h i hi
  rw[hs]at this
  by_cases e:i=d
  ·rw[Yv6 e]at this
   rw[e]
   rcases Rat.mul_eq_zero.1 this with h1|h1
   ·exact absurd h1 (fun hc=>h0 (by rw[←Rat.inv_inv (atQ m d k),hc,Rat.inv_zero]))
   ·exact h1
  ·rw[Yv4 e]at this
   exact this
 ·intro h i hi
  rw[hs]
  split
  ·rw[h d hd,Rat.mul_zero]
  ·exact h i hi
def Ynm{c:Nat}{v:Nat→Rat}(hc:RcN m c)(hd:d<m.length):Kil (elmQ m d k m.length) c v↔Kil m c v:=by
 have hs:∀i,i<m.length→sN (fun j=>atQ (elmQ m d k m.length) i j*v j) c=if i=d then sN (fun j=>atQ m i j*v j) c else sN (fun j=>atQ m i j*v j) c+ -atQ m i k*sN (fun j=>atQ m d j*v j) c:=fun i hi=>by
  split
  ·exact Zas fun j _=>by rw[Zx4 hc hi hd,Yv6 (by assumption)]
  ·rw[←Zd5,←Zj5]
   exact Zas fun j _=>by
    rw[Zx4 hc hi hd,Yv4 (by assumption)]
    grind
 unfold Kil
 rw[Zfx]
 constructor
 ·intro h i hi
  have hdd:=h d hd
  rw[hs d hd,Yv6 rfl]at hdd
  have:=h i hi
  rw[hs i hi,hdd,Rat.mul_zero,Rat.add_zero]at this
  split at this<;>exact this
 ·intro h i hi
  rw[hs i hi,h d hd,h i hi,Rat.mul_zero,Rat.add_zero]
  split<;>rfl
def Yh8{s:List (List Rat)×Nat×List Nat}{c:Nat}{v:Nat→Rat}(hc:RcN s.1 c):Kil (Zjp s k).1 c v↔Kil s.1 c v:=by
 obtain⟨m,d,ps⟩:=s
 simp only at hc
 have hle:=@Zng m k (m.length-d) d
 unfold Zjp
 simp only
 split
 ·rename_i hp
  have hd2:d<m.length:=by unfold pvQ at hp;omega
  have hne:atQ m (pvQ m d k) k≠0:=@Znf m k (m.length-d) d (by unfold pvQ at hp;omega)
  have hcs:=(hc.swp hd2 hp).scl (d:=d) (k:=k) (by rw[Zcf];exact hd2)
  have hl2:(Zhg (Zb6 m d (pvQ m d k)) d k).length=m.length:=by rw[Zgq,Zcf]
  have h3:=Ynm (k:=k) (d:=d) (v:=v) hcs (by rw[hl2];exact hd2)
  rw[hl2]at h3
  show Kil (elmQ (Zhg (Zb6 m d (pvQ m d k)) d k) d k m.length) c v↔_
  rw[h3,Ynl (by rw[Zcf];exact hd2) (by rw[Zos hd2 hp,Yv6 rfl];exact hne),Ynk hd2 hp]
 ·exact Iff.rfl
def Ydr{m:List (List Rat)}{c:Nat}{v:Nat→Rat}(hc:RcN m c):∀{n:Nat},Kil (Za0 m n).1 c v↔Kil m c v
 |0=>Iff.rfl
 |n+1=>by
  rw[Zcl,Yh8 (Zga hc).1]
  exact Ydr hc
def Zq0{c:Nat}{v:Nat→Rat}(hc:RcN m c):Kil (Zea m c) c v↔Kil m c v:=by
 rw[←Ydr hc (n:=c)]
 have I:=Zci hc (n:=c)
 have hl:=Zdx (n:=c) hc
 unfold Kil
 constructor
 ·intro h i hi
  by_cases e:i<(Za0 m c).2.1
  ·rw[←h i (by rw[hl];exact e)]
   exact Zas fun j _=>by rw[Zwf e]
  ·exact Yj0 fun j hj=>by rw[I.rest i j (by omega) hi hj,Rat.zero_mul]
 ·intro h i hi
  rw[hl]at hi
  rw[←h i (by have:=I.le;omega)]
  exact Zas fun j _=>by rw[Zwf hi]
def Zqq{c:Nat}(hc:RcN m c)(hi:i<(Za0 m c).2.1)(hj:j<(Za0 m c).2.1):atQ (Zea m c) j ((Za0 m c).2.2[i]?.getD 0)=if j=i then 1 else 0:=by
 have I:=Zci hc (n:=c)
 rw[Zwf hj]
 exact I.one i j hi (by have:=I.le;omega)
def kvF(m:List (List Rat))(c k j:Nat):Rat:=if j=k then 1 else if j∈(Za0 m c).2.2 then -atQ (Zea m c) ((Za0 m c).2.2.idxOf j) k else 0
def Yq2{c:Nat}(h:j<c):(kvQ (Zea m c) (Za0 m c).2.2 c k)[j]?.getD 0=kvF m c k j:=by simp[kvQ,kvF,h]
def Zui{c:Nat}(hc:RcN m c)(h:j∈(Za0 m c).2.2):∃i,i<(Za0 m c).2.1∧(Za0 m c).2.2[i]?.getD 0=j∧(Za0 m c).2.2.idxOf j=i:=by
 have I:=Zci hc (n:=c)
 obtain⟨i,hi⟩:=Yxq h
 have hl:i<(Za0 m c).2.1:=by rw[←I.len];exact(Yw9.1 hi).1
 have e:(Za0 m c).2.2[i]?.getD 0=j:=by rw[hi];rfl
 exact⟨i,hl,e,by rw[←e];exact I.idx hl⟩
def Yl3{c:Nat}{v:Nat→Rat}(hc:RcN m c)(hi:i<(Za0 m c).2.1):sN (fun j=>atQ (Zea m c) i j*v j) c=v ((Za0 m c).2.2[i]?.getD 0)+sN (fun j=>if j∈(Za0 m c).2.2 then 0 else atQ (Zea m c) i j*v j) c:=by
 have I:=Zci hc (n:=c)
 have hp:=I.lt i hi
 have e1:sN (fun j=>if j=(Za0 m c).2.2[i]?.getD 0 then v j else 0) c=v ((Za0 m c).2.2[i]?.getD 0):=by
  rw[Zhm (i:=(Za0 m c).2.2[i]?.getD 0) hp fun j _ hne=>by rw[Yv4 hne],Yv6 rfl]
 rw[←e1,←Zj5]
 apply Zas
 intro j _
 by_cases hj:j∈(Za0 m c).2.2
 ·obtain⟨a,ha,ea,_⟩:=Zui hc hj
  rw[Yv6 hj,Rat.add_zero,←ea,Zqq hc ha hi]
  by_cases e:i=a
  ·subst e
   rw[Yv6 rfl,Yv6 rfl,Rat.one_mul]
  ·rw[Yv4 e,Rat.zero_mul,Yv4]
   intro h
   rcases Nat.lt_or_gt_of_ne e with h1|h1
   ·have:=I.asc _ _ h1 ha;omega
   ·have:=I.asc _ _ h1 hi;omega
 ·rw[Yv4 hj,Yv4,Rat.zero_add]
  intro h
  subst h
  rw[Yv9 (by rw[I.len];exact hi)]at hj
  exact hj (List.getElem_mem _)
def Zsr{c:Nat}(hc:RcN m c)(hk:k<c)(hf:k∉(Za0 m c).2.2):Kil m c (kvF m c k):=by
 rw[←Zq0 hc]
 intro i hi
 rw[Zdx hc]at hi
 have I:=Zci hc (n:=c)
 have hpm:(Za0 m c).2.2[i]?.getD 0∈(Za0 m c).2.2:=by
  rw[Yv9 (by rw[I.len];exact hi)]
  exact List.getElem_mem _
 rw[Yl3 hc hi,Zhm (i:=k) hk]
 ·rw[Yv4 hf]
  have hne:¬(Za0 m c).2.2[i]?.getD 0=k:=fun h=>by rw[h]at hpm;exact hf hpm
  unfold kvF
  rw[Yv6 rfl,Yv4 hne,Yv6 hpm,I.idx hi]
  grind
 ·intro j _ hne
  by_cases hj:j∈(Za0 m c).2.2
  ·rw[Yv6 hj]
  ·rw[Yv4 hj]
   unfold kvF
   rw[Yv4 hne,Yv4 hj,Rat.mul_zero]
set_option maxHeartbeats 1000000
set_option maxHeartbeats 4000000
def Zot{m:List (List Rat)}{c i k j:Nat}(h:(Zdg (Za0 m c).2.2 c)[i]?=some k)(hj:j<c):atQ (Zhw m c) i j=kvF m c k j:=by
 unfold atQ Zhw
 rw[Ywj,h]
 simp only[Yya,Yxg]
 exact Yq2 hj
def Zxa{m:List (List Rat)}{c:Nat}(hc:RcN m c){i:Nat}(hi:i<(Zll m c).length):Kil m c fun l=>atQ (Zll m c) i l:=by
 intro b hb
 have h1:Kil (Zhw m c) c fun l=>atQ m b l:=by
  intro a ha
  obtain⟨k,hk⟩:=Zae (l:=Zdg (Za0 m c).2.2 c) (k:=a) (by simpa[Zhw]using ha)
  have hm:=Yv7 hk
  simp only[Zdg,List.mem_filter,Yx1]at hm
  have hf:k∉(Za0 m c).2.2:=by simpa using hm.2
  rw[←Zsr hc hm.1 hf b hb]
  exact Zas fun l hl=>by rw[Zot hk hl,Rat.mul_comm]
 rw[←Zq0 Zkj]at h1
 have:=h1 i hi
 rw[←this]
 exact Zas fun l _=>by rw[Rat.mul_comm];rfl
variable {n:Nat}
def Yqc{f g:Nat→Rat}:sN (fun i=>f i-g i) n=sN f n-sN g n:=by
 have:sN (fun i=>f i-g i) n=sN (fun i=>f i+ -1*g i) n:=Zas fun i _=>by grind
 rw[this,Zj5,Zd5]
 grind
def Zwe{a b:Nat→Rat}{M:List (List Rat)}{y:Nat→Rat}{c:Nat}(h:∀t,t<n→sN (fun l=>atQ M t l*a l) c=b t):sN (fun l=>a l*sN (fun t=>atQ M t l*y t) n) c=sN (fun t=>b t*y t) n:=by
 rw[Zas (g:=fun l=>sN (fun t=>y t*(atQ M t l*a l)) n) fun l _=>by rw[←Zd5];exact Zas fun t _=>by grind,Zqn]
 apply Zas
 intro t ht
 rw[Zd5,h t ht]
 grind
def Yeq{a b:List Rat}(h:a.length=n):Yau a b=sN (fun l=>a[l]?.getD 0*b[l]?.getD 0) n:=by
 unfold Yau
 rw[h,Yep]
variable {b i j n:Nat}
def skp(i r:Nat):Nat:=if r<i then r else r+1
def altS(i:Nat):Rat:=if i%2=0 then 1 else -1
def det:Nat→(Nat→Nat→Rat)→Rat
 |0,_=>1
 |n+1,A=>sN (fun i=>altS i*(A i 0*det n (fun r u=>A (skp i r) (u+1)))) (n+1)
def setR(A:Nat→Nat→Rat)(t:Nat)(a:Nat→Rat):Nat→Nat→Rat:=fun r u=>if r=t then a u else A r u
def Zb9:∀{n:Nat} {A B:Nat→Nat→Rat},(∀r u,r<n→u<n→A r u=B r u)→det n A=det n B
 |0,_,_,_=>rfl
 |n+1,A,B,h=>by
  unfold det
  apply Zas
  intro i hi
  rw[h i 0 hi (by omega),Zb9 fun r u hr hu=>h (skp i r) (u+1) (by unfold skp;split<;>omega) (by omega)]
def Yfn:altS (i+1)= -altS i:=by
 unfold altS
 by_cases h:i%2=0
 ·rw[Yv6 h,Yv4 (by omega)]
 ·rw[Yv4 h,Yv6 (by omega)]
  rfl
def Yqa{r:Nat}:skp i r≠i:=by unfold skp;split<;>omega
def Zq8{x y:Rat}{a b:Nat→Rat}:∀{n t:Nat} {A:Nat→Nat→Rat},t<n→det n (setR A t fun u=>x*a u+y*b u)=x*det n (setR A t a)+y*det n (setR A t b)
 |0,t,A,h=>by omega
 |n+1,t,A,h=>by
  unfold det
  rw[←Zd5,←Zd5,←Zj5]
  apply Zas
  intro i hi
  by_cases e:i=t
  ·subst e
   have hm:∀v:Nat→Rat,det n (fun r u=>setR A i v (skp i r) (u+1))=det n (fun r u=>A (skp i r) (u+1)):=fun v=>Zb9 fun r u _ _=>by
    unfold setR
    rw[Yv4 Yqa]
   rw[hm,hm,hm]
   unfold setR
   rw[Yv6 rfl,Yv6 rfl,Yv6 rfl]
   grind
  ·obtain⟨s,hs,hsn⟩:∃s,(∀r,skp i r=t↔r=s)∧s<n:=by
    unfold skp
    by_cases c:t<i
    ·exact⟨t,fun r=>by split<;>omega,by omega⟩
    ·exact⟨t-1,fun r=>by split<;>omega,by omega⟩
   have hm:∀v:Nat→Rat,det n (fun r u=>setR A t v (skp i r) (u+1))=det n (setR (fun r u=>A (skp i r) (u+1)) s fun u=>v (u+1)):=fun v=>Zb9 fun r u _ _=>by
    unfold setR
    by_cases hr:r=s
    ·rw[Yv6 ((hs r).2 hr),Yv6 hr]
    ·rw[Yv4 fun h=>hr ((hs r).1 h),Yv4 hr]
   rw[hm,hm,hm,Zq8 (n:=n) hsn]
   unfold setR
   rw[Yv4 e,Yv4 e,Yv4 e]
   grind
def Zq9:∀{n t:Nat} {A:Nat→Nat→Rat},t+1<n→(∀u,u<n→A t u=A (t+1) u)→det n A=0
 |0,t,A,h,_=>by omega
 |n+1,t,A,h,he=>by
  unfold det
  have hz:∀i,i<n+1→altS i*(A i 0*det n (fun r u=>A (skp i r) (u+1)))=(if i=t then altS t*(A t 0*det n (fun r u=>A (skp t r) (u+1))) else 0)+(if i=t+1 then altS (t+1)*(A (t+1) 0*det n (fun r u=>A (skp (t+1) r) (u+1))) else 0):=fun i hi=>by
   by_cases e1:i=t
   ·subst e1
    rw[Yv6 rfl,Yv4 (by omega),Rat.add_zero]
   ·by_cases e2:i=t+1
    ·subst e2
     rw[Yv6 rfl,Yv4 (by omega),Rat.zero_add]
    ·rw[Yv4 e1,Yv4 e2,Rat.add_zero]
     have:det n (fun r u=>A (skp i r) (u+1))=0:=by
      by_cases c:i<t
      ·refine Zq9 (t:=t-1) (by omega) fun u hu=>?_
       simp only[skp]
       rw[Yv4 (by omega),Yv4 (by omega),show t-1+1=t by omega]
       exact he (u+1) (by omega)
      ·refine Zq9 (t:=t) (by omega) fun u hu=>?_
       simp only[skp]
       rw[Yv6 (by omega),Yv6 (by omega)]
       exact he (u+1) (by omega)
     rw[this,Rat.mul_zero,Rat.mul_zero]
  rw[Zas hz,Zj5,Zhm (i:=t) (by omega) fun j _ hj=>Yv4 hj,Zhm (i:=t+1) (by omega) fun j _ hj=>Yv4 hj,Yv6 rfl,Yv6 rfl,Yfn,he 0 (by omega)]
  have:det n (fun r u=>A (skp t r) (u+1))=det n (fun r u=>A (skp (t+1) r) (u+1)):=Zb9 fun r u _ hu=>by
   unfold skp
   by_cases e:r=t
   ·subst e
    rw[Yv4 (by omega),Yv6 (by omega)]
    exact(he (u+1) (by omega)).symm
   ·by_cases c:r<t
    ·rw[Yv6 c,Yv6 (by omega)]
    ·rw[Yv4 c,Yv4 (by omega)]
  rw[this]
  grind
def Ybp{A:Nat→Nat→Rat}{t:Nat}{r u:Nat}:setR A t (A t) r u=A r u:=by
 unfold setR
 split
 ·rename_i h;rw[h]
 ·rfl
def Zq7{t:Nat}{A:Nat→Nat→Rat}:det n (setR A t (A t))=det n A:=Zb9 fun _ _ _ _=>Ybp
def Zra{a b:Nat→Rat}{t:Nat}{A:Nat→Nat→Rat}(h:t<n):det n (setR A t fun u=>a u+b u)=det n (setR A t a)+det n (setR A t b):=by
 have:=Zq8 (x:=1) (y:=1) (a:=a) (b:=b) (A:=A) h
 rw[Rat.one_mul,Rat.one_mul]at this
 rw[←this]
 exact Zb9 fun r u _ _=>by unfold setR;split<;>grind
def Yi4{a b:Nat→Rat}{t:Nat}{A:Nat→Nat→Rat}(h:t+1<n):det n (setR (setR A t a) (t+1) b)= -det n (setR (setR A t b) (t+1) a):=by
 have z:∀v:Nat→Rat,det n (setR (setR A t v) (t+1) v)=0:=fun v=>Zq9 h fun u _=>by
  unfold setR
  rw[Yv4 (by omega),Yv6 rfl,Yv6 rfl]
 have sw:∀v w:Nat→Rat,det n (setR (setR A t v) (t+1) w)=det n (setR (setR A (t+1) w) t v):=fun v w=>Zb9 fun r u _ _=>by
  unfold setR
  by_cases e1:r=t+1
  ·rw[Yv6 e1,Yv4 (by omega),Yv6 e1]
  ·rw[Yv4 e1,Yv4 e1]
 have h0:=z fun u=>a u+b u
 rw[Zra h,sw _ a,sw _ b,Zra (by omega),Zra (by omega),←sw,←sw,←sw,←sw,z,z]at h0
 grind
def Zvn{n:Nat}:∀{k s:Nat} {A:Nat→Nat→Rat},s+1+k<n→(∀u,u<n→A s u=A (s+1+k) u)→det n A=0
 |0,s,A,h,he=>Zq9 h he
 |k+1,s,A,h,he=>by
  have h1:det n A=det n (setR (setR A (s+1+k) (A (s+1+k))) (s+1+k+1) (A (s+1+k+1))):=Zb9 fun r u _ _=>by
   unfold setR
   by_cases e:r=s+1+k+1
   ·rw[Yv6 e,e]
   ·rw[Yv4 e]
    by_cases e2:r=s+1+k
    ·rw[Yv6 e2,e2]
    ·rw[Yv4 e2]
  rw[h1,Yi4 (by omega),Zvn (k:=k) (s:=s) (by omega) fun u hu=>?_]
  ·rfl
  ·unfold setR
   rw[Yv4 (by omega),Yv4 (by omega),Yv4 (by omega),Yv6 rfl]
   exact he u hu
def Yom{A:Nat→Nat→Rat}(hi:i<n)(hj:j<n)(hne:i≠j)(he:∀u,u<n→A i u=A j u):det n A=0:=by
 rcases Nat.lt_or_gt_of_ne hne with h|h
 ·exact Zvn (k:=j-i-1) (s:=i) (by omega) (by rw[show i+1+(j-i-1)=j by omega];exact he)
 ·exact Zvn (k:=i-j-1) (s:=j) (by omega) (by rw[show j+1+(i-j-1)=i by omega];exact fun u hu=>(he u hu).symm)
def Yew{A:Nat→Nat→Rat}(hi:i<n)(hj:j<n):det n (setR A j (A i))=if i=j then det n A else 0:=by
 by_cases e:i=j
 ·subst e
  rw[Yv6 rfl,Zq7]
 ·rw[Yv4 e]
  exact Yom hi hj e fun u _=>by
   unfold setR
   rw[Yv4 e,Yv6 rfl]
def Yi2{t:Nat}{A:Nat→Nat→Rat}(h:t<n):det n (setR A t fun _=>0)=0:=by
 have:=Zq8 (x:=0) (y:=0) (a:=fun _=>0) (b:=fun _=>0) (A:=A) h
 have e:det n (setR A t fun _=>0)=det n (setR A t fun _=>(0:Rat)*0+0*0):=Zb9 fun r u _ _=>by
  unfold setR
  split
  ·show (0:Rat)=0*0+0*0
   grind
  ·rfl
 rw[e,this]
 grind
def Zvl{n j:Nat}{A:Nat→Nat→Rat}{c:Nat→Rat}{w:Nat→Nat→Rat}(hj:j<n):∀{k:Nat},det n (setR A j fun u=>sN (fun t=>c t*w t u) k)=sN (fun t=>c t*det n (setR A j (w t))) k
 |0=>Yi2 hj
 |k+1=>by
  have:=Zq8 (x:=1) (y:=c k) (a:=fun u=>sN (fun t=>c t*w t u) k) (b:=w k) (A:=A) hj
  rw[Rat.one_mul,Zvl hj]at this
  unfold sN
  rw[←this]
  exact Zb9 fun r u _ _=>by
   unfold setR
   split
   ·show _=1*_+_
    rw[Rat.one_mul]
   ·rfl
def unR(l u:Nat):Rat:=if u=l then 1 else 0
def Yi3{A:Nat→Nat→Rat}{v:Nat→Rat}(hj:j<n):det n (setR A j v)=sN (fun l=>v l*det n (setR A j (unR l))) n:=by
 rw[←Zvl hj]
 apply Zb9
 intro r u _ hu
 unfold setR
 split
 ·show v u=sN (fun t=>v t*unR t u) n
  rw[Zhm (i:=u) hu]
  ·unfold unR
   rw[Yv6 rfl,Rat.mul_one]
  ·intro l _ hne
   unfold unR
   rw[Yv4 (Ne.symm hne),Rat.mul_zero]
 ·rfl
def Zxr{π:Rat}:∀{n:Nat} {A:Nat→Nat→Rat},(∀u,u<n→A n u=0)→A n n=π→det (n+1) A=π*det n A
 |0,A,_,h=>by
  simp only[det,sN,h,altS]
  grind
 |n+1,A,hz,h=>by
  rw[det]
  have e:∀i,i<n+1+1→altS i*(A i 0*det (n+1) (fun r u=>A (skp i r) (u+1)))=if i<n+1 then π*(altS i*(A i 0*det n (fun r u=>A (skp i r) (u+1)))) else 0:=fun i hi=>by
   by_cases c:i<n+1
   ·rw[Yv6 c,Zxr (n:=n) (π:=π) (fun u hu=>?_) ?_]
    ·grind
    ·simp only[skp]
     rw[Yv4 (by omega)]
     exact h
    ·simp only[skp]
     rw[Yv4 (by omega)]
     exact hz _ (by omega)
   ·obtain rfl:i=n+1:=by omega
    rw[Yv4 c,hz 0 (by omega),Rat.zero_mul,Rat.mul_zero]
  rw[Zas e]
  show sN _ (n+1)+(if n+1<n+1 then π*(altS (n+1)*(A (n+1) 0*det n (fun r u=>A (skp (n+1) r) (u+1)))) else 0)=_
  rw[Yv4 (by omega),Rat.add_zero,det,←Zd5]
  apply Zas
  intro i hi
  rw[Yv6 hi]
def IsI(b:Nat)(q:Rat):Prop:=∃z:Int,q=(z:Rat)∧z.natAbs<2^b
def IsI.mul{a:Nat}{p q:Rat}(hp:IsI a p)(hq:IsI b q):IsI (a+b) (p*q):=by
 obtain⟨x,rfl,hx⟩:=hp
 obtain⟨y,rfl,hy⟩:=hq
 refine⟨x*y,by rw[Rat.intCast_mul],?_⟩
 rw[Yx3,Yxe]
 exact Yyx hx hy
def IsI.neg{q:Rat}(hq:IsI b q):IsI b (-q):=by
 obtain⟨y,rfl,hy⟩:=hq
 exact⟨-y,by rw[Rat.intCast_neg],by rw[Yyz];exact hy⟩
def IsI.sum{b:Nat}{f:Nat→Rat}:∀{n:Nat},(∀i,i<n→IsI b (f i))→∃z:Int,sN f n=(z:Rat)∧z.natAbs≤n*2^b
 |0,_=>⟨0,rfl,by simp⟩
 |n+1,h=>by
  obtain⟨z,h1,h2⟩:=IsI.sum (n:=n) fun i hi=>h i (by omega)
  obtain⟨y,h3,h4⟩:=h n (by omega)
  refine⟨z+y,by unfold sN;rw[h1,h3,Rat.intCast_add],?_⟩
  have:=Int.natAbs_add_le z y
  rw[Yxd]
  omega
def IsI.sum2{m:Nat}{f:Nat→Rat}(h:∀i,i<n→IsI b (f i))(hn:n<2^m):IsI (b+m) (sN f n):=by
 obtain⟨z,h1,h2⟩:=IsI.sum h
 refine⟨z,h1,Yww h2 ?_⟩
 rw[Nat.add_comm,Yxe]
 exact Yyw hn (Yxl b)
def IsI.mono{a:Nat}{q:Rat}(h:IsI a q)(hab:a≤b):IsI b q:=by
 obtain⟨z,h1,h2⟩:=h
 exact⟨z,h1,Ywf h2 (Yw3 (by decide) hab)⟩
def IsI.altS:IsI 1 (altS i):=by
 unfold Go.Mx.altS
 split
 ·exact⟨1,rfl,by decide⟩
 ·exact⟨-1,rfl,by decide⟩
def Zvm{b:Nat}:∀{n:Nat} {A:Nat→Nat→Rat},(∀r u,r<n→u<n→IsI b (A r u))→IsI (n*(b+n+1)+1) (det n A)
 |0,_,_=>⟨1,rfl,by rw[Nat.zero_mul];decide⟩
 |n+1,A,h=>by
  unfold det
  have e:∀i,i<n+1→IsI (1+(b+(n*(b+n+1)+1))) (altS i*(A i 0*det n (fun r u=>A (skp i r) (u+1)))):=fun i hi=>IsI.altS.mul ((h i 0 hi (by omega)).mul (Zvm fun r u hr hu=>h _ _ (by unfold skp;split<;>omega) (by omega)))
  have:=IsI.sum2 (m:=n+1) e Nat.lt_two_pow_self
  refine this.mono ?_
  have:(n+1)*(b+(n+1)+1)=n*(b+n+1)+n+(b+n+2):=by grind
  omega
end Go.Mx
