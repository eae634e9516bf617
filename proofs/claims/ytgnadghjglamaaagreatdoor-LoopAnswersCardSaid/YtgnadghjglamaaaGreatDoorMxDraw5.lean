/-A region that draws its order-/
import Derived.Test.YtgnadghjglamaaaGreatDoorMxDraw
set_option linter.all false
namespace Go.Mx
open Go
section
variable {P:Program} {μ:Mu} {w:World} {st st':St} {fr fr':Fr} {a:Act} {call:Za1} {v:V} {lb:Option Nat}
def Yg7{listed:Array Bool}{i:Nat}(hi:i<listed.size):(fun k=>(listed.setIfInBounds i true).getD k false)=Zll (fun k=>listed.getD k false) i:=by
 funext k
 simp only[Zll,Ytt]
 by_cases e:k=i
 ·subst e;simp[hi]
 ·rw[Ytu (Ne.symm e),Yrt e]
def Ynl(hcall:Zbx P call)(hE:Zeo P){ops:Array Oper}{Q:Exit→Act→World→Prop}{stI:Nat→St}{frI:Nat→Fr}{vI:Nat→V}{fpI:Nat→FP}{W:List Nat}
  (h0:Zba P μ w (stI 0)) (hs:∀i o,ops[i]?=some o→Zhn P call ops o (stI i) (frI i) (vI i) (fpI i) (stI (i+1)) (frI (i+1)))
  (T:Txt P μ stI frI fpI ops.size) {ds:Nat→Option Nat} {mo:Nat→Zbc} (hmo:∀i o,ops[i]?=some o→mo i=Zgn P ops o) (hds:∀k,k<ops.size→ds k=(mo k).dst) (Pu:Ylr frI ds vI ops.size)
  (Or:Ord fpI mo ops.size (fun k i=>((Zc5 ops.toList []).getD k 0).testBit i=true)) (hW:∀k,k<ops.size→∀j∈(fpI k).wr,j∈W) (hedge:Zk0 0 ops.toList=true)
  (hdef:∀μ',(∀j,j<(stI 0).n→μ' j=μ j)→∀i,i<ops.size→∀ds,Zn9 μ' (frI 0).marks ds→Zn9 (Zm4 μ' (stI i).n) (frI 0).marks ds)
  (hQ:∀S μ' a' w',(∀k,k<ops.size→S k=true)→Inv P μ w stI frI fpI ds ops.size W S μ' a' w'→Q .normal a' w'):
  ∀(fuel:Nat) (listed:Array Bool) (μ':Mu) (a':Act) (w':World),listed.size=ops.size→(List.range ops.size).countP (fun k=>!listed.getD k false)=fuel→
   (Yig ops fun k=>listed.getD k false=true)→Inv P μ w stI frI fpI ds ops.size W (fun k=>listed.getD k false) μ' a' w'→wpAnyIn (FE lb) 0 P .any ops Q fuel listed a' w':=by
 intro fuel
 induction fuel with
 |zero=>
  intro listed μ' a' w' hsz hc hcl I
  have hall:∀k,k<ops.size→listed.getD k false=true:=fun k hk=>by
   rw[List.countP_eq_zero]at hc
   have:=hc k (List.mem_range.2 hk)
   simpa using this
  refine⟨?_,hQ _ μ' a' w' hall I⟩
  refine List.eq_nil_iff_forall_not_mem.2 fun j hj=>?_
  obtain⟨h1,h2,_⟩:=Zok hcl hj
  have:=hall j h1
  simp only[Ytt]at h2 this
  have hj2:j<listed.size:=by omega
  simp[hj2]at h2 this
  rw[h2]at this;cases this
 |succ fuel ih=>
  intro listed μ' a' w' hsz hc hcl I
  refine⟨fun hr=>hQ _ μ' a' w' (Zzc hedge hsz hr) I,fun i hi=>?_⟩
  obtain⟨h1,h2,h3⟩:=Zok hcl hi
  have hil:i<listed.size:=by omega
  have hSi:listed.getD i false=false:=by
   simp only[Ytt]at h2 ⊢
   simp[hil]at h2 ⊢
   exact h2
  refine Yfz (S:=fun k=>listed.getD k false) hcall hE h0 hs T hmo hds Pu Or I (fun k hk i hb=>hcl k i hk hb) hW (hdef μ' I.ext) h1 hSi h3 fun μ2 a2 w2 I2=>?_
  have hset:=Yg7 (listed:=listed) hil
  refine ih (listed.setIfInBounds i true) μ2 a2 w2 (by simp[hsz]) ?_ ?_ (by rw[hset];exact I2)
  ·have:=Yda (p:=fun k=>!listed.getD k false) (q:=fun k=>!(listed.setIfInBounds i true).getD k false) (i:=i) (by simp[hSi]) (by
    have:=congrFun hset i
    simp only[this];simp[Zll]) (fun k hk=>by
    have:=congrFun hset k
    simp only[this];simp[Zll,hk]) ops.size h1
   omega
  ·intro k j hk hb
   have e1:=congrFun hset k
   have e2:=congrFun hset j
   simp only[e1,e2,Zll]at hk ⊢
   by_cases ej:j=i
   ·rw[Yrw ej]
   ·rw[Yrt ej]
    by_cases ek:k=i
    ·subst ek;exact h3 j hb
    ·rw[Yrt ek]at hk;exact hcl k j hk hb
def Zn9.cut'{μ μ' μ2:Mu}{n:Nat}(hd:∀i l,μ i=some l→i<n)(h:∀i l,i<n→μ' i=some l→μ2 i=some l):∀{ms:List Nat} {ds ds':List Deferred},Zn9 μ ms ds→Zn9 μ' ms ds'→Zn9 μ2 ms ds'
 |[],_,_,_,h2=>h2
 |m::ms,_,_,⟨l,_,h1,_,h3⟩,⟨l',d',g1,g2,g3⟩=>⟨l',d',h m l' (hd m l h1) g1,g2,Zn9.cut' hd h h3 g3⟩
def Zof{stI:Nat→St}{frI:Nat→Fr}{fpI:Nat→FP}{N:Nat}(T:Txt P μ stI frI fpI N)(j:Nat):∀i,i≤N→(stI 0).n≤j→j<(stI i).n→∃k,k<i∧(stI k).n≤j∧j<(stI (k+1)).n
 |0,_,h1,h2=>by omega
 |i+1,hi,h1,h2=>by
  by_cases e:j<(stI i).n
  ·obtain⟨k,a1,a2⟩:=Zof T j i (by omega) h1 e
   exact⟨k,by omega,a2⟩
  ·exact⟨i,by omega,by omega,h2⟩
def Zqd{stI:Nat→St}{frI:Nat→Fr}{fpI:Nat→FP}{N:Nat}(T:Txt P μ stI frI fpI N):∀i,i≤N→∃Wi,(stI i).w=Wi++(stI 0).w∧∀k,k<i→∀j∈(fpI k).wr,j∈Wi
 |0,_=>⟨[],rfl,fun k hk=>by omega⟩
 |i+1,hi=>by
  obtain⟨Wi,h1,h2⟩:=Zqd T i (by omega)
  refine⟨(fpI i).wr++Wi,by rw[T.wl i (by omega),h1,Ysy],fun k hk j hj=>?_⟩
  by_cases e:k=i
  ·subst e;simp[hj]
  ·simp[h2 k (by omega) j hj]
def Yct(hm:P.follows .mixedOrders=true)(hE:Zeo P)(hcall:Zbx P call):Yif P call:=by
 intro id ops fr st ex fr' st' hp h μ w a lb hh hf
 unfold Yi9 at hp
 simp only[Ysd]at hp
 obtain⟨hedge,hpt⟩:=hp
 unfold Zhk at h
 split at h
 ·rename_i fps fr1 st1 hrun
  split at h
  ·rename_i hap
   simp only[Yrs,Yrv]at h
   obtain⟨rfl,rfl,rfl⟩:=h
   obtain⟨stI,frI,vI,fpI,e1,e2,e3,e4,e5,hs⟩:=Zq2 ops.toList fr st fps fr1 st1 hrun
   subst e1 e2
   have hN:ops.toList.length=ops.size:=by simp
   rw[hN]at e3 e4 e5
   have hs':∀i o,ops[i]?=some o→Zhn P call ops o (stI i) (frI i) (vI i) (fpI i) (stI (i+1)) (frI (i+1)):=fun i o ho=>(hs i o (by rw[Ytf];exact ho)).2
   have T:=Yl3 hcall hE hN hh hf fun i o ho=>(hs i o ho).2
   let mo:Nat→Zbc:=fun i=>match ops[i]? with|some o=>Zgn P ops o|none=>⟨none,.stop,none⟩
   have hmo:∀i o,ops[i]?=some o→mo i=Zgn P ops o:=fun i o ho=>by simp only[mo,ho]
   have hdst:∀i o,ops[i]?=some o→(mo i).dst=o.dst:=fun i o ho=>by rw[hmo i o ho];unfold Zgn;split<;>rfl
   have hget:∀i,i<ops.size→ops[i]?=some (ops[i]!):=fun i hi=>by simp[hi]
   have Pu:Ylr frI (fun k=>(mo k).dst) vI ops.size:=fun i hi t=>by
    obtain⟨g,b,_,_,hp,_⟩:=hs' i _ (hget i hi)
    show (frI (i+1)).r.get t=if (mo i).dst=some t then some (vI i) else (frI i).r.get t
    rw[hdst i _ (hget i hi)]
    cases hd:(ops[i]!).dst with
    |none=>rw[hd]at hp;simp only[Fr.put,Yrs]at hp;rw[←hp];simp
    |some d=>
     rw[hd]at hp
     simp only[Fr.put]at hp
     split at hp
     ·simp only[Yrs]at hp
      rw[←hp,Go.Mx.T.get_set]
      by_cases e:t=d
      ·subst e;simp
      ·rw[Yrt e,Yrt (by simp[Ne.symm e])]
     ·cases hp
   have Or:Ord fpI mo ops.size (fun k i=>((Zc5 ops.toList []).getD k 0).testBit i=true):=by
    refine⟨fun i k hik hk=>?_,fun i k hik hk=>?_⟩
    ·exact Zvb hap hik ((hs i _ (by rw[Ytf];exact hget i (by omega))).1) ((hs k _ (by rw[Ytf];exact hget k hk)).1)
    ·refine Zvb hpt hik ?_ ?_
     ·rw[Yso,Ytf,hget i (by omega),Yuq,hmo i _ (hget i (by omega))]
     ·rw[Yso,Ytf,hget k hk,Yuq,hmo k _ (hget k hk)]
   obtain⟨W,hW1,hW2⟩:=Zqd T ops.size (Yru _)
   obtain⟨wT,μT,aT,wsT,hT1,hT2⟩:=Zwf hcall hE hN hh hf (fun i o ho=>(hs i o ho).2) ops.size (Yru _)
   have hwsW:wsT=W:=List.append_cancel_right (hT1.wl.symm.trans hW1)
   subst hwsW
   have hsz0:∀k,(Array.replicate ops.size false).getD k false=false:=fun k=>by
    simp only[Ytt]
    by_cases hk:k<ops.size
    ·simp[hk]
    ·simp[hk]
   have hcH:∀M j,Zdr stI fpI (fun k=>(Array.replicate ops.size false).getD k false) M j=(stI 0).h.get j:=fun M j=>Zh3 (i:=0) (Yum _) fun k _ _ _=>hsz0 k
   have hcR:∀M t,Zi0 frI (fun k=>(mo k).dst) (fun k=>(Array.replicate ops.size false).getD k false) M t=(frI 0).r.get t:=fun M t=>Zh2 (i:=0) (Yum _) fun k _ _ _=>hsz0 k
   have I0:Inv P μ w stI frI fpI (fun k=>(mo k).dst) ops.size wsT (fun k=>(Array.replicate ops.size false).getD k false) μ a {w with drawn:=w.drawn+1}:=by
    refine⟨fun _ _=>rfl,fun j l hj=>⟨.inl (hh.dom j l hj).1,(hh.dom j l hj).2⟩,fun k _ hk=>?_,fun j l hj=>?_,fun i j l l' o o' h1 h2 h3 h4 h5=>?_,⟨hf.1.1,fun t v hv=>?_⟩,hf.2,⟨rfl,rfl,rfl,Yru _,fun _ _ _=>rfl⟩,fun i l h1 h2=>absurd (hh.dom i l h2).1 (by omega)⟩
    ·rw[hsz0 k]at hk;cases hk
    ·obtain⟨o,q1,q2⟩:=hh.obj j l hj
     exact⟨o,by rw[hcH];exact q1,OM.congr (w:=w) rfl q2⟩
    ·rw[hcH]at h4 h5
     exact hh.inj i j l l' o o' h1 h2 h3 h4 h5
    ·rw[hcR]at hv
     exact hf.1.2 t v hv
   refine wpIn_region_any hm (Ynl hcall hE hh hs' T hmo (fun _ _=>rfl) Pu Or hW2 hedge ?_ ?_ ops.size _ μ a _ (by simp) ?_ ?_ I0)
   ·intro μ' hext i hi ds hds
    exact Zn9.cut' (n:=(stI 0).n) (fun j l hj=>(hh.dom j l hj).1) (fun j l hj hl=>by
     have:=T.mono (i:=0) (k:=i) (by omega) (by omega)
     rw[Zjz (by omega)];exact hl) hf.2 hds
   ·intro S μ' a' w' hS I
    have hfH:∀j,j<(stI ops.size).n→Zdr stI fpI S ops.size j=(stI ops.size).h.get j:=fun j hj=>Zp4 T (Yru _) hj fun k hk _=>hS k hk
    have hfR:∀t,Zi0 frI (fun k=>(mo k).dst) S ops.size t=(frI ops.size).r.get t:=fun t=>Zp3 Pu (Yru _) fun k hk _=>hS k hk
    have hdom:∀j l,μ' j=some l→j<(stI ops.size).n:=fun j l hj=>by
     rcases(I.dom j l hj).1 with h|⟨k,h1,_,_,h2⟩
     ·have:=T.mono (i:=0) (k:=ops.size) (by omega) (by omega);omega
     ·have:=T.mono (i:=k+1) (k:=ops.size) (by omega) (by omega);omega
    rw[←e3,←e4]
    refine⟨rfl,μ',wsT,⟨⟨fun j l hj=>⟨hdom j l hj,(I.dom j l hj).2⟩,fun j l hj=>?_,fun i j l l' o o' h1 h2 h3 h4 h5=>?_,fun g hg=>?_⟩,I.ext,T.mono (Yum _) (Yru _),hW1,I.chg,I.new,hT1.keep,hT1.grow,fun j h1 h2=>?_,hT1.wrt⟩,⟨?_,fun t v hv=>?_⟩,?_⟩
    ·obtain⟨o,q1,q2⟩:=I.obj j l hj
     exact⟨o,by rw[←hfH j (hdom j l hj)];exact q1,q2⟩
    ·exact I.inj i j l l' o o' h1 h2 h3 (by rw[hfH i (hdom i l h1)];exact h4) (by rw[hfH j (hdom j l' h2)];exact h5)
    ·obtain⟨t,ht⟩:=hh.glob g hg
     exact⟨t,by rw[I.ext g (hh.dom g _ ht).1];exact ht⟩
    ·obtain⟨k,q1,q2,q3⟩:=Zof T j ops.size (Yru _) h1 h2
     exact I.full k q1 (hS k q1) j q2 q3
    ·rw[(T.fn ops.size (Yru _)).1];exact I.regs.1
    ·exact I.regs.2 t v (by rw[hfR];exact hv)
    ·rw[(T.fn ops.size (Yru _)).2];exact I.defs
   ·have:(fun k=>!(Array.replicate ops.size false).getD k false)=fun _=>true:=by funext k;rw[hsz0];rfl
    rw[this];simp
   ·intro k i hk
    rw[hsz0 k]at hk;cases hk
  ·cases h
 ·cases h
end
mutual
def V.ren(ρ:Nat→Option Nat):V→Option V
 |.bool b=>some (.bool b)
 |.int k n=>some (.int k n)
 |.flt k n=>some (.flt k n)
 |.cpl k a b=>some (.cpl k a b)
 |.str s=>some (.str s)
 |.nilptr=>some .nilptr
 |.ptr i o=>match ρ i with
  |some i=>some (.ptr i o)
  |none=>none
 |.nilslice=>some .nilslice
 |.slice i o len cap sz=>match ρ i with
  |some i=>some (.slice i o len cap sz)
  |none=>none
 |.empty=>some .empty
 |.nilmap=>some .nilmap
 |.map i=>match ρ i with
  |some i=>some (.map i)
  |none=>none
 |.nilchan=>some .nilchan
 |.chan i=>match ρ i with
  |some i=>some (.chan i)
  |none=>none
 |.func f a c=>match V.rens ρ a,V.rens ρ c with
  |some a,some c=>some (.func f a c)
  |_,_=>none
 |.yield i=>match ρ i with
  |some i=>some (.yield i)
  |none=>none
 |.nilfunc=>some .nilfunc
 |.iface t v=>match V.ren ρ v with
  |some v=>some (.iface t v)
  |none=>none
 |.niliface=>some .niliface
 |.agg l=>match V.rens ρ l with
  |some l=>some (.agg l)
  |none=>none
 |.tup l=>match V.rens ρ l with
  |some l=>some (.tup l)
  |none=>none
def V.rens(ρ:Nat→Option Nat):List V→Option (List V)
 |[]=>some []
 |v::vs=>match V.ren ρ v,V.rens ρ vs with
  |some v,some vs=>some (v::vs)
  |_,_=>none
end
mutual
def VR.ren{μ μ':Mu}{ρ:Nat→Option Nat}(h:∀i i',ρ i=some i'→μ i=μ' i'):∀(v v':V) (x:Value),V.ren ρ v=some v'→(VR μ v x↔VR μ' v' x)
 |.bool _,v',x,hv=>by simp only[V.ren,Yrs]at hv;subst hv;simp only[VR]
 |.int _ _,v',x,hv=>by simp only[V.ren,Yrs]at hv;subst hv;simp only[VR]
 |.flt _ _,v',x,hv=>by simp only[V.ren,Yrs]at hv;subst hv;simp only[VR]
 |.cpl _ _ _,v',x,hv=>by simp only[V.ren,Yrs]at hv;subst hv;simp only[VR]
 |.str _,v',x,hv=>by simp only[V.ren,Yrs]at hv;subst hv;simp only[VR]
 |.nilptr,v',x,hv=>by simp only[V.ren,Yrs]at hv;subst hv;simp only[VR]
 |.ptr _ _,v',x,hv=>by
  simp only[V.ren]at hv;split at hv
  ·rename_i i' hi;simp only[Yrs]at hv;subst hv;simp only[VR,h _ _ hi]
  ·cases hv
 |.nilslice,v',x,hv=>by simp only[V.ren,Yrs]at hv;subst hv;simp only[VR]
 |.slice _ _ _ _ _,v',x,hv=>by
  simp only[V.ren]at hv;split at hv
  ·rename_i i' hi;simp only[Yrs]at hv;subst hv;simp only[VR,h _ _ hi]
  ·cases hv
 |.empty,v',x,hv=>by simp only[V.ren,Yrs]at hv;subst hv;simp only[VR]
 |.nilmap,v',x,hv=>by simp only[V.ren,Yrs]at hv;subst hv;simp only[VR]
 |.map _,v',x,hv=>by
  simp only[V.ren]at hv;split at hv
  ·rename_i i' hi;simp only[Yrs]at hv;subst hv;simp only[VR,h _ _ hi]
  ·cases hv
 |.nilchan,v',x,hv=>by simp only[V.ren,Yrs]at hv;subst hv;simp only[VR]
 |.chan _,v',x,hv=>by
  simp only[V.ren]at hv;split at hv
  ·rename_i i' hi;simp only[Yrs]at hv;subst hv;simp only[VR,h _ _ hi]
  ·cases hv
 |.func _ a c,v',x,hv=>by
  simp only[V.ren]at hv;split at hv
  ·rename_i a' c' ha hc;simp only[Yrs]at hv;subst hv
   simp only[VR,fun xs=>VRs.ren h a a' xs ha,fun xs=>VRs.ren h c c' xs hc]
  ·cases hv
 |.yield _,v',x,hv=>by
  simp only[V.ren]at hv;split at hv
  ·rename_i i' hi;simp only[Yrs]at hv;subst hv;simp only[VR,h _ _ hi]
  ·cases hv
 |.nilfunc,v',x,hv=>by simp only[V.ren,Yrs]at hv;subst hv;simp only[VR]
 |.iface _ v,v',x,hv=>by
  simp only[V.ren]at hv;split at hv
  ·rename_i u hu;simp only[Yrs]at hv;subst hv;simp only[VR,fun y=>VR.ren h v u y hu]
  ·cases hv
 |.niliface,v',x,hv=>by simp only[V.ren,Yrs]at hv;subst hv;simp only[VR]
 |.agg l,v',x,hv=>by
  simp only[V.ren]at hv;split at hv
  ·rename_i l' hl;simp only[Yrs]at hv;subst hv;simp only[VR,fun xs=>VRs.ren h l l' xs hl]
  ·cases hv
 |.tup l,v',x,hv=>by
  simp only[V.ren]at hv;split at hv
  ·rename_i l' hl;simp only[Yrs]at hv;subst hv;simp only[VR,fun xs=>VRs.ren h l l' xs hl]
  ·cases hv
def VRs.ren{μ μ':Mu}{ρ:Nat→Option Nat}(h:∀i i',ρ i=some i'→μ i=μ' i'):∀(vs vs':List V) (xs:List Value),V.rens ρ vs=some vs'→(VRs μ vs xs↔VRs μ' vs' xs)
 |[],vs',xs,hv=>by simp only[V.rens,Yrs]at hv;subst hv;simp only[VRs]
 |v::vs,vs',xs,hv=>by
  simp only[V.rens]at hv;split at hv
  ·rename_i u us hu hus;simp only[Yrs]at hv;subst hv
   simp only[VRs,fun y=>VR.ren h v u y hu,fun ys=>VRs.ren h vs us ys hus]
  ·cases hv
end
def V.rens_length{ρ:Nat→Option Nat}:∀{vs vs':List V},V.rens ρ vs=some vs'→vs'.length=vs.length
 |[],vs',h=>by simp only[V.rens,Yrs]at h;subst h;rfl
 |v::vs,vs',h=>by
  simp only[V.rens]at h;split at h
  ·rename_i u us hu hus;simp only[Yrs]at h;subst h;simp[V.rens_length hus]
  ·cases h
def V.rens_get{ρ:Nat→Option Nat}:∀{vs vs':List V} {j:Nat} {v':V},V.rens ρ vs=some vs'→vs'[j]?=some v'→∃v,vs[j]?=some v∧V.ren ρ v=some v'
 |[],vs',j,v',h,hj=>by simp only[V.rens,Yrs]at h;subst h;simp at hj
 |v::vs,vs',j,v',h,hj=>by
  simp only[V.rens]at h;split at h
  ·rename_i u us hu hus;simp only[Yrs]at h;subst h
   cases j with
   |zero=>simp at hj;subst hj;exact⟨v,by simp,hu⟩
   |succ j=>simpa using V.rens_get hus (j:=j) (by simpa using hj)
  ·cases h
def V.rens_get'{ρ:Nat→Option Nat}:∀{vs vs':List V} {j:Nat} {v:V},V.rens ρ vs=some vs'→vs[j]?=some v→∃v',vs'[j]?=some v'∧V.ren ρ v=some v'
 |[],vs',j,v',h,hj=>by simp at hj
 |v::vs,vs',j,v',h,hj=>by
  simp only[V.rens]at h;split at h
  ·rename_i u us hu hus;simp only[Yrs]at h;subst h
   cases j with
   |zero=>simp at hj;subst hj;exact⟨u,by simp,hu⟩
   |succ j=>simpa using V.rens_get' hus (j:=j) (by simpa using hj)
  ·cases h
def V.ren_isY{ρ:Nat→Option Nat}{v v':V}(h:V.ren ρ v=some v'):v'.isY=v.isY:=by
 cases v<;>simp only[V.ren]at h<;>(try split at h)<;>simp only[Yrs,reduceCtorEq]at h<;>subst h<;>rfl
def Yag(ρ:Nat→Option Nat):List (V×V)→Option (List (V×V))
 |[]=>some []
 |(k,v)::es=>match V.ren ρ k,V.ren ρ v,Yag ρ es with
  |some k,some v,some es=>some ((k,v)::es)
  |_,_,_=>none
def Zh7.ren{μ μ':Mu}{ρ:Nat→Option Nat}(h:∀i i',ρ i=some i'→μ i=μ' i'):∀(es es':List (V×V)) (xs:List MapEntry) (i:Nat),Yag ρ es=some es'→(Zh7 μ es xs i↔Zh7 μ' es' xs i)
 |[],es',xs,i,he=>by simp only[Yag,Yrs]at he;subst he;simp only[Zh7]
 |(k,v)::es,es',xs,i,he=>by
  simp only[Yag]at he;split at he
  ·rename_i k' v' us hk hv hus;simp only[Yrs]at he;subst he
   simp only[Zh7,fun y=>VR.ren h k k' y hk,fun y=>VR.ren h v v' y hv,fun ys i=>Zh7.ren h es us ys i hus]
  ·cases he
def O.ren(ρ:Nat→Option Nat):O→Option O
 |.cells c e rw=>match V.rens ρ c with
  |some c=>some (.cells c e rw)
  |none=>none
 |.map es=>match Yag ρ es with
  |some es=>some (.map es)
  |none=>none
 |.chan cap buf=>match V.rens ρ buf with
  |some buf=>some (.chan cap buf)
  |none=>none
 |.siter s pos=>some (.siter s pos)
 |.defs o=>some (.defs o)
 |.loop _=>none
 |.dead=>some .dead
def O.ren_wr{ρ:Nat→Option Nat}{o o':O}(h:o.ren ρ=some o'):o'.wr=o.wr:=by
 cases o<;>simp only[O.ren]at h<;>(try split at h)<;>simp only[Yrs,reduceCtorEq]at h<;>subst h<;>rfl
def O.ren_live{ρ:Nat→Option Nat}{o o':O}(h:o.ren ρ=some o'):o'.live=o.live:=by
 cases o<;>simp only[O.ren]at h<;>(try split at h)<;>simp only[Yrs,reduceCtorEq]at h<;>subst h<;>rfl
def OM.ren{P:Program}{μ μ':Mu}{w:World}{ρ:Nat→Option Nat}(h:∀i i',ρ i=some i'→μ i=μ' i'){o o':O}{l:L}(ho:o.ren ρ=some o'):OM P μ w o l↔OM P μ' w o' l:=by
 cases o with
 |cells c e rw=>
  simp only[O.ren]at ho;split at ho
  ·rename_i c' hc;simp only[Yrs]at ho;subst ho
   constructor
   ·rintro⟨d,lo,hi,h1,h2,h3,h4,h5⟩
    refine⟨d,lo,hi,h1,h2,by rw[V.rens_length hc];exact h3,fun j v' hv'=>?_,h5⟩
    obtain⟨v,hv,hr⟩:=V.rens_get hc hv'
    obtain⟨x,hx,hxv⟩:=h4 j v hv
    exact⟨x,hx,(VR.ren h v v' x hr).1 hxv⟩
   ·rintro⟨d,lo,hi,h1,h2,h3,h4,h5⟩
    refine⟨d,lo,hi,h1,h2,by rw[V.rens_length hc]at h3;exact h3,fun j v hv=>?_,h5⟩
    obtain⟨v',hv',hr⟩:=V.rens_get' hc hv
    obtain⟨x,hx,hxv⟩:=h4 j v' hv'
    exact⟨x,hx,(VR.ren h v v' x hr).2 hxv⟩
  ·cases ho
 |map es=>
  simp only[O.ren]at ho;split at ho
  ·rename_i es' he;simp only[Yrs]at ho;subst ho
   simp only[OM,fun xs i=>Zh7.ren h es es' xs i he]
  ·cases ho
 |chan cap buf=>
  simp only[O.ren]at ho;split at ho
  ·rename_i c' hc;simp only[Yrs]at ho;subst ho
   simp only[OM,fun xs=>VRs.ren h buf c' xs hc]
  ·cases ho
 |siter s pos=>simp only[O.ren,Yrs]at ho;subst ho;simp only[OM]
 |loop R=>simp only[O.ren,reduceCtorEq]at ho
 |defs b=>simp only[O.ren,Yrs]at ho;subst ho;simp only[OM]
 |dead=>simp only[O.ren,Yrs]at ho;subst ho;simp only[OM]
def Yie(ρ:Nat→Option Nat)(o O':O):Prop:=
 o=.dead∨o.ren ρ=some O'∨∃c e c',o=.cells c e false∧V.rens ρ c=some c'∧O'=.cells c' e true
def Yie.om{P:Program}{μ μ':Mu}{w:World}{ρ:Nat→Option Nat}(h:∀i i',ρ i=some i'→μ i=μ' i'){o o':O}{l:L}(ho:Yie ρ o o')(hm:OM P μ' w o' l):OM P μ w o l:=by
 rcases ho with rfl|ho|⟨c,e,c',rfl,hc,rfl⟩
 ·trivial
 ·exact(OM.ren h ho).2 hm
 ·have h1:(O.cells c e true).ren ρ=some (.cells c' e true):=by simp only[O.ren,hc]
  obtain⟨d,lo,hi,q1,q2,q3,q4,q5,_⟩:=(OM.ren h h1).2 hm
  exact⟨d,lo,hi,q1,q2,q3,q4,q5,fun hx=>by cases hx⟩
def Yie.wr{ρ:Nat→Option Nat}{o o':O}(ho:Yie ρ o o')(h:o.wr=true):o'.wr=true∧o.ren ρ=some o':=by
 rcases ho with rfl|ho|⟨c,e,c',rfl,hc,rfl⟩
 ·simp[O.wr]at h
 ·exact⟨(O.ren_wr ho).trans h,ho⟩
 ·simp[O.wr]at h
def Yie.live{ρ:Nat→Option Nat}{o o':O}(ho:Yie ρ o o')(h:o.live=true):o'.live=true:=by
 rcases ho with rfl|ho|⟨c,e,c',rfl,hc,rfl⟩
 ·simp[O.live]at h
 ·exact(O.ren_live ho).trans h
 ·rfl
def O.wr_live{o:O}(h:o.wr=true):o.live=true:=by cases o<;>simp_all [O.wr,O.live]
def Zzg(P:Program)(g:V)(args:List V)(st:St)(v:V)(st':St):Prop:=
 ∀(μ:Mu) (w:World) (G:Value) (xs:List Value),Zba P μ w st→VR μ g G→VRs μ args xs→
  Zkn P g.isY G ⟨xs⟩ w fun x w'=>∃μ' ws,VR μ' v x∧Stp P μ w st μ' w' st' ws
def Zkn.mono{P:Program}{y:Bool}{G:Value}{xs:Array Value}{w:World}{R R':Value→World→Prop}(h:Zkn P y G xs w R)(hR:∀x w',R x w'→R' x w'):Zkn P y G xs w R':=by
 obtain⟨d,hd,hrest⟩:=h
 refine⟨d,hd,?_⟩
 rcases hrest with⟨hy,f,args,hinv,hci⟩|⟨hy,l,f,tmps,asg,bod,hinv,hri⟩
 ·refine .inl ⟨hy,f,args,hinv,CallsIn.mono (F:=Fence.wide) hci fun e w' he=>?_⟩
  cases e with
  |returned x=>exact hR x w' he
  |panicked _=>exact he.elim
  |outgrown=>exact he.elim
 ·refine .inr ⟨hy,l,f,tmps,asg,bod,hinv,RoundIn.mono (F:=Fence.wide) hri fun e w' he=>?_⟩
  cases e with
  |returned x=>exact hR x w' he
  |panicked _=>exact he.elim
  |outgrown=>exact he.elim
structure Zn0 (P:Program) (σ ρ:Nat→Option Nat) (W:List Nat) (s s' S S':St):Prop where
 dom:∀i i',σ i=some i'→i<s.n∧i'<S.n
 inj:∀i j i',σ i=some i'→σ j=some i'→i=j
 glob:∀g,g<P.globals.size→σ g=some g
 obj:∀i i',σ i=some i'→∃o O',s.h.get i=some o∧Yie σ o O'∧(S.h.get i'=some O'∨o=.dead)
 old:∀i,i<s.n→ρ i=σ i
 new:∀i i',s.n≤i→ρ i=some i'→S.n≤i'∧i'<S'.n∧i<s'.n
 ninj:∀i j i',s.n≤i→s.n≤j→ρ i=some i'→ρ j=some i'→i=j
 full:∀i',S.n≤i'→i'<S'.n→∃i,s.n≤i∧ρ i=some i'
 nle:S.n≤S'.n
 w0:s.w=[]
 W1:∀i i',i∈s'.w→σ i=some i'→i'∈W
 W2:∀j,j∈W→∃i,i∈s'.w∧σ i=some j
 wl:S'.w=W++S.w
 keep:∀j,j<S.n→j∉W→S'.h.get j=S.h.get j
 wr:∀i i',i∈s'.w→σ i=some i'→∃o O',s'.h.get i=some o∧S'.h.get i'=some O'∧(O'=.dead∨o.ren ρ=some O')
 obn:∀i i',s.n≤i→ρ i=some i'→∃o O',s'.h.get i=some o∧S'.h.get i'=some O'∧(O'=.dead∨o.ren ρ=some O')
section
variable {P:Program} {σ ρ:Nat→Option Nat} {W:List Nat} {s s' S S':St}
def Zn0.hrel(F:Zn0 P σ ρ W s s' S S'){μ:Mu}{w:World}(hh:Zba P μ w S):Zba P (fun i=>(σ i).bind μ) w s:=by
 have hb:∀i l,(σ i).bind μ=some l→∃i',σ i=some i'∧μ i'=some l:=fun i l h=>by
  cases hs:σ i with
  |none=>rw[hs]at h;cases h
  |some i'=>rw[hs]at h;exact⟨i',rfl,h⟩
 refine⟨fun i l hl=>?_,fun i l hl=>?_,fun i j l l' o o' hi hj hne ho ho' hw hlv=>?_,fun g hg=>?_⟩
 ·obtain⟨i',h1,h2⟩:=hb i l hl
  exact⟨(F.dom i i' h1).1,(hh.dom i' l h2).2⟩
 ·obtain⟨i',h1,h2⟩:=hb i l hl
  obtain⟨o,O',g1,g2,g3⟩:=F.obj i i' h1
  refine⟨o,g1,?_⟩
  rcases g3 with g3|rfl
  ·obtain⟨O2,q1,q2⟩:=hh.obj i' l h2
   rw[g3]at q1;cases q1
   exact Yie.om (fun i i' hi=>by simp[hi]) g2 q2
  ·trivial
 ·obtain⟨i',h1,h2⟩:=hb i l hi
  obtain⟨j',h3,h4⟩:=hb j l' hj
  obtain⟨o1,O1,a1,a2,a3⟩:=F.obj i i' h1
  obtain⟨o2,O2,b1,b2,b3⟩:=F.obj j j' h3
  rw[ho]at a1;cases a1
  rw[ho']at b1;cases b1
  have a3':S.h.get i'=some O1:=a3.resolve_right fun e=>by subst e;simp[O.wr]at hw
  have b3':S.h.get j'=some O2:=b3.resolve_right fun e=>by subst e;simp[O.live]at hlv
  refine hh.inj i' j' l l' O1 O2 h2 h4 (fun e=>hne ?_) a3' b3' (a2.wr hw).1 (b2.live hlv)
  subst e;exact F.inj i j i' h1 h3
 ·obtain⟨t,ht⟩:=hh.glob g hg
  exact⟨t,by simp[F.glob g hg,ht]⟩
def Zn0.stp(F:Zn0 P σ ρ W s s' S S'){μ:Mu}{w w':World}(hh:Zba P μ w S){μ':Mu}{ws:List Nat}(h:Stp P (fun i=>(σ i).bind μ) w s μ' w' s' ws):
  ∃μ2,Stp P μ w S μ2 w' S' W∧∀i i',ρ i=some i'→μ' i=μ2 i':=by
 have hws:s'.w=ws:=by have:=h.wl;rw[F.w0]at this;simpa using this
 have hinv:∃τ:Nat→Nat,∀i',S.n≤i'→i'<S'.n→s.n≤τ i'∧ρ (τ i')=some i':=by
  classical
  refine⟨fun i'=>if hc:∃i,s.n≤i∧ρ i=some i' then hc.choose else 0,fun i' h1 h2=>?_⟩
  have hc:=F.full i' h1 h2
  simp only[dif_pos hc]
  exact hc.choose_spec
 obtain⟨τ,hτ⟩:=hinv
 let μ2:Mu:=fun i'=>if i'<S.n then μ i' else if i'<S'.n then μ' (τ i') else none
 have hold:∀i',i'<S.n→μ2 i'=μ i':=fun i' hi=>by show (if i'<S.n then _ else _)=_;rw[Yrw hi]
 have hnew:∀i',S.n≤i'→i'<S'.n→μ2 i'=μ' (τ i'):=fun i' h1 h2=>by show (if i'<S.n then _ else _)=_;rw[Yrt (by omega),Yrw h2]
 have hout:∀i' l,μ2 i'=some l→i'<S'.n:=fun i' l hl=>by
  by_cases h1:i'<S.n
  ·exact Yr5 h1 F.nle
  ·by_cases h2:i'<S'.n
   ·exact h2
   ·have:μ2 i'=none:=by show (if i'<S.n then _ else _)=_;rw[Yrt h1,Yrt h2]
    rw[this]at hl;cases hl
 have hμs:∀i,i<s.n→μ' i=(σ i).bind μ:=fun i hi=>h.ext i hi
 have hρ:∀i i',ρ i=some i'→μ' i=μ2 i':=fun i i' hi=>by
  by_cases h1:i<s.n
  ·have h2:σ i=some i':=(F.old i h1).symm.trans hi
   rw[hμs i h1,h2,hold i' (F.dom i i' h2).2];rfl
  ·obtain⟨g1,g2,_⟩:=F.new i i' (by omega) hi
   obtain⟨k1,k2⟩:=hτ i' g1 g2
   rw[hnew i' g1 g2,F.ninj i (τ i') i' (by omega) k1 hi k2]
 have hwold:∀j,j∈W→∃i,i∈ws∧σ i=some j∧i<s.n∧j<S.n:=fun j hj=>by
  obtain⟨i,h1,h2⟩:=F.W2 j hj
  exact⟨i,hws▸h1,h2,F.dom i j h2⟩
 have hwas:∀i i',i∈ws→σ i=some i'→∃O',S.h.get i'=some O'∧O'.wr=true:=fun i i' hi hs=>by
  obtain⟨o,ho,hw⟩:=h.wrt i hi (F.dom i i' hs).1
  obtain⟨o1,O1,a1,a2,a3⟩:=F.obj i i' hs
  rw[ho]at a1;cases a1
  exact⟨O1,a3.resolve_right fun e=>by subst e;simp[O.wr]at hw,(a2.wr hw).1⟩
 have hblk:∀j l,j<S.n→j∉W→μ j=some l→∀O',S.h.get j=some O'→O'.live=true→w'.heap[l.b]?=w.heap[l.b]?:=fun j l hj hnW hl O' hO hlv=>by
  refine h.chg.block l.b (hh.dom j l hl).2 fun i hi li hli=>?_
  cases hs:σ i with
  |none=>simp[hs]at hli
  |some i'=>
   simp only[hs,Option.bind_some]at hli
   obtain⟨O1,q1,q2⟩:=hwas i i' hi hs
   refine hh.inj i' j li l O1 O' hli hl (fun e=>hnW ?_) q1 hO q2 hlv
   subst e;exact F.W1 i i' (hws▸hi) hs
 have hobj:∀i i' l,ρ i=some i'→μ2 i'=some l→(s.n≤i∨i∈ws)→∃o O',s'.h.get i=some o∧S'.h.get i'=some O'∧(O'=.dead∨o.ren ρ=some O')∧OM P μ2 w' O' l:=fun i i' l hi hl hc=>by
  have key:∃o O',s'.h.get i=some o∧S'.h.get i'=some O'∧(O'=.dead∨o.ren ρ=some O'):=by
   by_cases h1:i<s.n
   ·rcases hc with hc|hc
    ·omega
    ·exact F.wr i i' (hws▸hc) ((F.old i h1).symm.trans hi)
   ·exact F.obn i i' (by omega) hi
  obtain⟨o,O',g1,g2,g3⟩:=key
  refine⟨o,O',g1,g2,g3,?_⟩
  rcases g3 with rfl|g3
  ·trivial
  ·obtain⟨o2,q1,q2⟩:=h.hr.obj i l ((hρ i i' hi).trans hl)
   rw[g1]at q1;cases q1
   exact(OM.ren hρ g3).1 q2
 have hcase:∀i' l,μ2 i'=some l→(i'<S.n∧i'∉W∧μ i'=some l∧S'.h.get i'=S.h.get i')∨∃i,ρ i=some i'∧μ' i=some l∧(s.n≤i∨i∈ws):=fun i' l hl=>by
  by_cases h1:i'<S.n
  ·by_cases h2:i'∈W
   ·obtain⟨i,q1,q2,q3,_⟩:=hwold i' h2
    have hr:ρ i=some i':=(F.old i q3).trans q2
    exact .inr ⟨i,hr,(hρ i i' hr).trans hl,.inr q1⟩
   ·exact .inl ⟨h1,h2,(hold i' h1)▸hl,F.keep i' h1 h2⟩
  ·have h2:=hout i' l hl
   obtain⟨k1,k2⟩:=hτ i' (by omega) h2
   exact .inr ⟨τ i',k2,(hρ _ _ k2).trans hl,.inl k1⟩
 have hapart:∀i' l O',i'<S.n→i'∉W→μ i'=some l→S.h.get i'=some O'→O'.live=true→∀k k' lk,ρ k=some k'→μ' k=some lk→(s.n≤k∨k∈ws)→(O'.wr=true∨∃o,s'.h.get k=some o∧o.wr=true)→l.b≠lk.b:=by
  intro i' l O' hi hnW hl hO hlv k k' lk hk hlk hc hor
  by_cases h1:k<s.n
  ·have hkw:k∈ws:=hc.resolve_left (by omega)
   have hs:σ k=some k':=(F.old k h1).symm.trans hk
   obtain⟨O1,q1,q2⟩:=hwas k k' hkw hs
   have hk2:μ k'=some lk:=by rw[hμs k h1,hs]at hlk;exact hlk
   have hne:k'≠i':=fun e=>hnW (e▸F.W1 k k' (hws▸hkw) hs)
   exact(hh.inj k' i' lk l O1 O' hk2 hl hne q1 hO q2 hlv).symm
  ·rcases h.new k lk (by omega) hlk with hge|⟨j,hj,hjn,lj,oj,hlj,hb,hoj,hjw⟩
   ·have:=(hh.dom i' l hl).2;omega
   ·cases hs:σ j with
    |none=>simp[hs]at hlj
    |some j'=>
     simp only[hs,Option.bind_some]at hlj
     obtain⟨O1,q1,q2⟩:=hwas j j' hj hs
     have hne:j'≠i':=fun e=>hnW (e▸F.W1 j j' (hws▸hj) hs)
     rw[←hb]
     exact(hh.inj j' i' lj l O1 O' hlj hl hne q1 hO q2 hlv).symm
 refine⟨μ2,⟨⟨fun i' l hl=>⟨hout i' l hl,?_⟩,fun i' l hl=>?_,fun i' j' l l' O1 O2 hi hj hne hO1 hO2 hw hlv=>?_,fun g hg=>?_⟩,hold,F.nle,F.wl,⟨h.chg.os,h.chg.tape,h.chg.output,h.chg.size,fun b hb hnot=>?_⟩,fun i' l hi' hl=>?_,F.keep,fun i' O' hi' hO=>?_,fun i' h1 h2=>?_,fun i' hi' _=>?_⟩,hρ⟩
 ·rcases hcase i' l hl with⟨_,_,g,_⟩|⟨i,_,g,_⟩
  ·exact Yr5 (hh.dom i' l g).2 h.chg.size
  ·exact(h.hr.dom i l g).2
 ·rcases hcase i' l hl with⟨g1,g2,g3,g4⟩|⟨i,g1,g2,g3⟩
  ·obtain⟨O',q1,q2⟩:=hh.obj i' l g3
   refine⟨O',g4.trans q1,?_⟩
   cases hlv:O'.live with
   |false=>cases O'<;>simp[O.live]at hlv;trivial
   |true=>
    refine OM.congr (w:=w) (hblk i' l g1 g2 g3 O' q1 hlv) (q2.mono fun k lk hk=>?_)
    rw[hold k (hh.dom k lk hk).1];exact hk
  ·obtain⟨o,O',q1,q2,q3,q4⟩:=hobj i i' l g1 hl g3
   exact⟨O',q2,q4⟩
 ·rcases hcase i' l hi with⟨a1,a2,a3,a4⟩|⟨i,a1,a2,a3⟩
  ·rw[a4]at hO1
   rcases hcase j' l' hj with⟨b1,b2,b3,b4⟩|⟨j,b1,b2,b3⟩
   ·rw[b4]at hO2
    exact hh.inj i' j' l l' O1 O2 a3 b3 hne hO1 hO2 hw hlv
   ·exact hapart i' l O1 a1 a2 a3 hO1 (O.wr_live hw) j j' l' b1 b2 b3 (.inl hw)
  ·obtain⟨o1,O1',q1,q2,q3,_⟩:=hobj i i' l a1 hi a3
   rw[hO1]at q2;cases q2
   have q3':o1.ren ρ=some O1:=q3.resolve_left fun e=>by subst e;simp[O.wr]at hw
   have hw1:o1.wr=true:=(O.ren_wr q3').symm.trans hw
   rcases hcase j' l' hj with⟨b1,b2,b3,b4⟩|⟨j,b1,b2,b3⟩
   ·rw[b4]at hO2
    exact(hapart j' l' O2 b1 b2 b3 hO2 hlv i i' l a1 a2 a3 (.inr ⟨o1,q1,hw1⟩)).symm
   ·obtain⟨o2,O2',r1,r2,r3,_⟩:=hobj j j' l' b1 hj b3
    rw[hO2]at r2;cases r2
    have r3':o2.ren ρ=some O2:=r3.resolve_left fun e=>by subst e;simp[O.live]at hlv
    refine h.hr.inj i j l l' o1 o2 a2 b2 (fun e=>hne ?_) q1 r1 hw1 ((O.ren_live r3').symm.trans hlv)
    subst e;rw[a1]at b1;cases b1;rfl
 ·obtain⟨t,ht⟩:=hh.glob g hg
  exact⟨t,by rw[hold g (hh.dom g _ ht).1];exact ht⟩
 ·refine h.chg.block b hb fun i hi l hl=>?_
  cases hs:σ i with
  |none=>simp[hs]at hl
  |some i'=>
   simp only[hs,Option.bind_some]at hl
   exact hnot i' (F.W1 i i' (hws▸hi) hs) l hl
 ·have h2:=hout i' l hl
  obtain⟨k1,k2⟩:=hτ i' hi' h2
  rcases h.new (τ i') l k1 ((hρ _ _ k2).trans hl)with hge|⟨j,hj,hjn,lj,oj,hlj,hb,hoj,hjw⟩
  ·exact .inl hge
  ·cases hs:σ j with
   |none=>simp[hs]at hlj
   |some j'=>
    simp only[hs,Option.bind_some]at hlj
    obtain⟨O1,q1,q2⟩:=hwas j j' hj hs
    exact .inr ⟨j',F.W1 j j' (hws▸hj) hs,(F.dom j j' hs).2,lj,O1,hlj,hb,q1,q2⟩
 ·by_cases hW:i'∈W
  ·obtain⟨i,q1,q2,q3,q4⟩:=hwold i' hW
   obtain⟨O1,r1,r2⟩:=hwas i i' q1 q2
   exact⟨O1,r1,fun _=>r2,fun _=>O.wr_live r2⟩
  ·exact⟨O',(F.keep i' hi' hW).symm.trans hO,id,id⟩
 ·obtain⟨k1,k2⟩:=hτ i' h1 h2
  obtain⟨l,hl⟩:=h.full (τ i') k1 (F.new _ _ k1 k2).2.2
  exact⟨l,(hnew i' h1 h2).trans hl⟩
 ·obtain⟨i,q1,q2,_⟩:=hwold i' hi'
  exact hwas i i' q1 q2
def Zzg.frame{g v:V}{args:List V}(h:Zzg P g args s v s')(F:Zn0 P σ ρ W s s' S S'){g' v':V}{args':List V}(hg:V.ren σ g=some g')(ha:V.rens σ args=some args')(hv:V.ren ρ v=some v'):
  Zzg P g' args' S v' S':=by
 intro μ w G xs hh hG hxs
 have hσ:∀i i',σ i=some i'→(fun i=>(σ i).bind μ) i=μ i':=fun i i' hi=>by simp[hi]
 have:=h (fun i=>(σ i).bind μ) w G xs (F.hrel hh) ((VR.ren hσ g g' G hg).2 hG) ((VRs.ren hσ args args' xs ha).2 hxs)
 rw[V.ren_isY hg]
 refine this.mono fun x w' ⟨μ',ws,h1,h2⟩=>?_
 obtain⟨μ2,k1,k2⟩:=F.stp hh h2
 exact⟨μ2,W,(VR.ren k2 v v' x hv).1 h1,k1⟩
end
def Zee(a b:Za1):Za1:=fun g args st=>match a g args st with
 |some r=>some r
 |none=>b g args st
def Zbx.or{P:Program}{a b:Za1}(ha:Zbx P a)(hb:Zbx P b):Zbx P (Zee a b):=by
 intro g args st v st' h
 unfold Zee at h
 split at h
 ·rename_i r hr
  cases h
  exact ha g args st v st' hr
 ·exact hb g args st v st' h
end Go.Mx
