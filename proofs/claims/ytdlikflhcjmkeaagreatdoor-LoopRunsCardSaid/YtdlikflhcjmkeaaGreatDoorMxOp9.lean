/-The operations of M stand for the Go mod-/
import Derived.Test.YtdlikflhcjmkeaaGreatDoorMxOp7
import Derived.Shelf.Spec.BitsCarry
set_option linter.all false
namespace Go.Mx
open Go
section
variable {P:Program} {μ:Mu} {w:World} {st st':St} {r:T V} {n:Nat} {a:Act} {call:Za0} {v:V}
def Zmr{t:TypeId}{kd:Zkp}(h:Ya1 P t=some kd):(∃k,kd=.int k∧P.underlying t=some (.int k))∨(kd=.str∧P.underlying t=some .string):=by
 unfold Ya1 at h
 split at h
 ·simp only[Yqc]at h;subst h;rename_i k hk;exact .inl ⟨k,rfl,hk⟩
 ·simp only[Yqc]at h;subst h;rename_i hk;exact .inr ⟨rfl,hk⟩
 ·cases h
def Zqy{t:TypeId}{kd:Zkp}{d:TypeDesc}(hd:P.underlying t=some d)(h:Ya1 P t=some kd){k q:V}{x y:Value}(hx:VR μ k x)(hy:VR μ q y){b:Bool}(hb:Yer kd k q=some b):
  Instr.sameNow d x y=some b∧(b=true→x=y∧Instr.sameBits 10000 y x=true):=by
 rcases Zmr h with⟨kk,rfl,h1⟩|⟨rfl,h1⟩
 ·rw[hd,Yqc]at h1;subst h1
  cases k<;>cases q<;>simp only[Yer,reduceCtorEq]at hb
  split at hb
  ·rename_i hc
   obtain⟨rfl,rfl⟩:=hc
   simp only[Yqc]at hb;subst hb
   simp only[VR]at hx hy
   subst hx;subst hy
   refine⟨by simp[Instr.sameNow],fun hb=>?_⟩
   simp only[beq_iff_eq]at hb
   subst hb
   simp[Instr.sameBits]
  ·cases hb
 ·rw[hd,Yqc]at h1;subst h1
  cases k<;>cases q<;>simp only[Yer,reduceCtorEq]at hb
  rename_i s s'
  simp only[Yqc]at hb;subst hb
  simp only[VR]at hx hy
  subst hx;subst hy
  have e:((⟨s.toArray⟩:ByteArray)==⟨s'.toArray⟩)=(s==s'):=by
   show (s.toArray==s'.toArray)=(s==s')
   simp
  refine⟨by simp only[Instr.sameNow,e],fun hb=>?_⟩
  simp only[beq_iff_eq]at hb
  subst hb
  exact⟨rfl,by simp only[Instr.sameBits];rw[e];simp⟩
def Zjw{t:TypeId}{kd:Zkp}{d:TypeDesc}(hd:P.underlying t=some d)(h:Ya1 P t=some kd){k:V}{x:Value}(hx:VR μ k x):
  ∀{es:List (V×V)} {xs:List MapEntry} {i b:Nat} {o:Option (Nat×V)},Zhy μ es xs b→findV kd k es i=some o→
   match o with
   |none=>Instr.findNow d x xs i=some none
   |some (j,u)=>∃e:MapEntry,i≤j∧xs[j-i]?=some e∧VR μ u e.val∧Instr.findNow d x xs i=some (some (j,e.val))∧x=e.key∧Instr.sameBits 10000 e.key x=true:=by
 intro es
 induction es with
 |nil=>
  intro xs i b o hm hf
  simp only[Zhy]at hm;subst hm
  simp only[findV,Yqc]at hf;subst hf
  simp[Instr.findNow]
 |cons p es ih=>
  intro xs i b o hm hf
  obtain⟨q,u⟩:=p
  obtain⟨e,ys,rfl,h1,h2,h3,h4⟩:=hm
  simp only[findV]at hf
  split at hf
  ·rename_i hb
   simp only[Yqc]at hf;subst hf
   obtain⟨g1,g2⟩:=Zqy hd h hx h1 hb
   exact⟨e,Yqg _,by simp,h2,by simp[Instr.findNow,g1],(g2 rfl).1,(g2 rfl).2⟩
  ·rename_i hb
   obtain⟨g1,_⟩:=Zqy hd h hx h1 hb
   have:=ih h4 hf
   cases o with
   |none=>simpa[Instr.findNow,g1]using this
   |some ju=>
    obtain⟨j,u'⟩:=ju
    obtain⟨e',k1,k2,k3,k4,k5⟩:=this
    refine⟨e',by omega,?_,k3,by simpa[Instr.findNow,g1]using k4,k5⟩
    rw[show j-i=(j-(i+1))+1 by omega]
    simpa using k2
  ·cases hf
def Zoz{t:TypeId}{kd:Zkp}(h:Ya1 P t=some kd){b:Bool}{x:Value}(q:Nat):(Instr.checkKey b (q+1) t x).run P w=.ok () w:=by
 rcases Zmr h with⟨kk,rfl,h1⟩|⟨rfl,h1⟩
 ·cases x<;>simp only[Instr.checkKey,Sem.run_bind,run_underlying h1,Result.andThen_ok,Sem.run_pure]
 ·cases x<;>simp only[Instr.checkKey,Sem.run_bind,run_underlying h1,Result.andThen_ok,Sem.run_pure]
def Zd8{t:TypeId}{kd:Zkp}(h:Ya1 P t=some kd){b:Bool}{x:Value}:(Instr.checkKey b 10000 t x).run P w=.ok () w:=Zoz h 9999
def Zuz{t:TypeId}{kd:Zkp}(h:Ya1 P t=some kd):∃d,P.underlying t=some d:=by
 rcases Zmr h with⟨kk,_,h1⟩|⟨_,h1⟩<;>exact⟨_,h1⟩
def Yat(hh:Za7 P μ w st)(hr:RR μ r n a.tmps){t kt e:TypeId}{x y:Operand}{sm sk:Src}{kd:Zkp}{z:V}{ok:Bool}(ht:P.underlying t=some (.map kt e))(hk:Ya1 P kt=some kd)(hz:Ze1 P e=some z)
  (hx:Zba P x=some sm) (hy:Zba P y=some sk) (h:Zew kd z sm sk ok call r st=some (v,st')):
  Za3 P μ w st (do pure (.value (←Instr.lookup t (a.eval x) (a.eval y) ok))) v st':=by
 unfold Zew at h
 split at h
 ·rename_i m k hm hkk
  have h1:=Zap hh hr hx hm
  have h2:=Zap hh hr hy hkk
  obtain⟨d,hd⟩:=Zuz hk
  obtain⟨zx,hzr,hzv⟩:=Zp7 (w:=w) hz
  split at h
  ·cases m<;>simp at h
   case nilmap=>
    simp only[VR]at h1
    simp only[findV,Yqc,Yqf]at h
    obtain⟨rfl,rfl⟩:=h
    refine Za3.value hh (x:=if ok then .tuple #[zx,.bool false] else zx) ?_ ?_
    ·simp[Instr.lookup,run_underlying ht,h1,Zd8 hk,Instr.findKey,run_underlying hd,Instr.findNow,hzr,Result.andThen]
    ·cases ok
     ·simpa using hzv μ
     ·simp only[if_true,VR];exact⟨_,rfl,by simp[VRs,VR];exact hzv μ⟩
   case map i=>
    obtain⟨l,hl,h1⟩:=h1
    split at h
    ·rename_i es hes
     split at hes
     ·rename_i es0 hg
      simp only[Yqc]at hes;subst hes
      obtain⟨es',g1,g2⟩:=hh.get hl hg
      have hgo:=Zfx (P:=P) g1 (by simp)
      split at h
      ·rename_i j u ho
       simp only[Yqc,Yqf]at h
       obtain⟨rfl,rfl⟩:=h
       obtain⟨en,_,_,k3,k4,_⟩:=Zjw hd hk h2 g2 ho
       refine Za3.value hh (x:=if ok then .tuple #[en.val,.bool true] else en.val) ?_ ?_
       ·simp[Instr.lookup,run_underlying ht,h1,hgo,Zd8 hk,Instr.findKey,run_underlying hd,k4,Result.andThen]
       ·cases ok
        ·simpa using k3
        ·simp only[if_true,VR];exact⟨_,rfl,by simp[VRs,VR];exact k3⟩
      ·rename_i ho
       simp only[Yqc,Yqf]at h
       obtain⟨rfl,rfl⟩:=h
       have k4:=Zjw hd hk h2 g2 ho
       simp only at k4
       refine Za3.value hh (x:=if ok then .tuple #[zx,.bool false] else zx) ?_ ?_
       ·simp[Instr.lookup,run_underlying ht,h1,hgo,Zd8 hk,Instr.findKey,run_underlying hd,k4,hzr,Result.andThen]
       ·cases ok
        ·simpa using hzv μ
        ·simp only[if_true,VR];exact⟨_,rfl,by simp[VRs,VR];exact hzv μ⟩
      ·cases h
     ·cases hes
    ·cases h
  ·cases h
 ·cases h
def Zid(w:World)(b:Nat)(o:Obj):({w with heap:=w.heap.setIfInBounds b o}:World).heap[b]?=if b<w.heap.size then some o else none:=by
 show (w.heap.setIfInBounds b o)[b]?=_
 rw[Array.getElem?_setIfInBounds]
 simp
def Zie{i:Nat}{o o':Obj}(h:w.heap[i]?=some o)(ho:∀c e f,o≠.cells c e f):(setObj i o').run P w=.ok () {w with heap:=w.heap.setIfInBounds i o'}:=by
 simp only[setObj,Sem.run,h]
def Stp.setObj(hh:Za7 P μ w st){i:Nat}{l:L}(hl:μ i=some l){o o':O}(hg:st.h.get i=some o)(hw:o.wr=true){ob:Obj}
  (hm:OM P μ {w with heap:=w.heap.setIfInBounds l.b ob} o' l):Stp P μ w st μ {w with heap:=w.heap.setIfInBounds l.b ob} (st.write i o') [i]:=
 Stp.write hh hl hg hw rfl rfl rfl (by simp) (fun b hb=>by
  show (w.heap.setIfInBounds l.b ob)[b]?=_
  rw[Ysb (Ne.symm hb)]) hm
def Zhy.set:∀{es:List (V×V)} {xs:List MapEntry} {b:Nat},Zhy μ es xs b→∀{j:Nat} {k u:V} {x y:Value},VR μ k x→VR μ u y→∀{e:MapEntry},xs[j]?=some e→
  Zhy μ (es.set j (k,u)) (xs.set j {e with key:=x,val:=y}) b
 |[],xs,b,h,j,k,u,x,y,_,_,e,he=>by simp[Zhy]at h;subst h;simp at he
 |(k0,u0)::es,xs,b,h,j,k,u,x,y,h1,h2,e,he=>by
  obtain⟨e0,ys,rfl,g1,g2,g3,g4⟩:=h
  cases j with
  |zero=>simp at he;subst he;exact⟨_,_,rfl,h1,h2,g3,g4⟩
  |succ j=>exact⟨e0,_,rfl,g1,g2,g3,Zhy.set g4 h1 h2 (by simpa using he)⟩
def Zhy.push:∀{es:List (V×V)} {xs:List MapEntry} {b:Nat},Zhy μ es xs b→∀{k u:V} {x y:Value},VR μ k x→VR μ u y→∀{c:Nat},c=b+xs.length→
  Zhy μ (es++[(k,u)]) (xs++[{key:=x,val:=y,born:=c}]) b
 |[],xs,b,h,k,u,x,y,h1,h2,c,hc=>by simp[Zhy]at h;subst h;exact⟨_,_,rfl,h1,h2,by simpa using hc,rfl⟩
 |(k0,u0)::es,xs,b,h,k,u,x,y,h1,h2,c,hc=>by
  obtain⟨e0,ys,rfl,g1,g2,g3,g4⟩:=h
  exact⟨e0,_,rfl,g1,g2,g3,Zhy.push g4 h1 h2 (by simp at hc;omega)⟩
def Za3.skip{s:Sem Unit}{w':World}{μ':Mu}{ws:List Nat}(hs:s.run P w=.ok () w')(h:Stp P μ w st μ' w' st' ws):Za3 P μ w st (do s;pure .skip) (.tup []) st':=
 ⟨.skip,undef,w',μ',ws,by simp[hs,Result.andThen],.inr ⟨rfl,rfl⟩,⟨[],rfl,by simp[VRs]⟩,h⟩
def Zqu(hh:Za7 P μ w st)(hr:RR μ r n a.tmps){t kt e:TypeId}{x y z:Operand}{sm sk sv:Src}{kd:Zkp}(ht:P.underlying t=some (.map kt e))(hk:Ya1 P kt=some kd)
  (hx:Zba P x=some sm) (hy:Zba P y=some sk) (hz:Zba P z=some sv) (h:Zec kd sm sk sv call r st=some (v,st')):
  Za3 P μ w st (do Instr.mapUpdate t (a.eval x) (a.eval y) (a.eval z);pure .skip) v st':=by
 unfold Zec at h
 split at h
 ·rename_i i k u hm hkk hu
  obtain⟨l,hl,h1⟩:=Zap hh hr hx hm
  have h2:=Zap hh hr hy hkk
  have h3:=Zap hh hr hz hu
  obtain⟨d,hd⟩:=Zuz hk
  split at h
  ·split at h
   ·rename_i es hes
    obtain⟨es',g1,g2⟩:=hh.get hl hes
    have hgo:=Zfx (P:=P) g1 (by simp)
    have hb:l.b<w.heap.size:=(hh.dom i l hl).2
    split at h
    ·rename_i j _ hf
     simp only[Yqc,Yqf]at h
     obtain⟨rfl,rfl⟩:=h
     obtain⟨en,k1,k2,k3,k4,k5,k6⟩:=Zjw hd hk h2 g2 hf
     simp only[Nat.sub_zero]at k2
     have hso:=Zie (P:=P) (o':=.map ((⟨es'⟩:Array MapEntry).modify j fun e=>{e with key:=a.eval y,val:=a.eval z}) es'.length) g1 (by simp)
     refine Za3.skip (μ':=μ) (ws:=[i]) (w':={w with heap:=w.heap.setIfInBounds l.b (.map ((⟨es'⟩:Array MapEntry).modify j fun e=>{e with key:=a.eval y,val:=a.eval z}) es'.length)}) ?_ (Stp.setObj hh hl hes rfl ⟨es'.set j {en with key:=a.eval y,val:=a.eval z},?_,?_⟩)
     ·have hkeep:(Instr.keyThatStays en.key (a.eval y)).run P w=.ok (a.eval y) w:=by
       simp[Instr.keyThatStays,k6]
      have hget:(((⟨es'⟩:Array MapEntry)[j]?).map (·.key)).getD (a.eval y)=en.key:=by simp[k2]
      simp only[Instr.mapUpdate,Sem.run_bind,run_underlying ht,Result.andThen,h1,hgo,Zd8 hk,Instr.findKey,run_underlying hd,k4,Sem.run_pure,hget,hkeep,hso]
     ·rw[Zid,Yqi hb]
      congr 2
      ·apply Ytm
       apply Yq9
       intro q
       rw[Yrv,Array.getElem?_modify]
       by_cases e:j=q
       ·subst e
        obtain⟨hj,hje⟩:=Yro.1 k2
        simp[hj,hje]
       ·simp[e,Yqj e]
      ·simp
     ·exact g2.set h2 h3 k2
    ·rename_i hf
     simp only[Yqc,Yqf]at h
     obtain⟨rfl,rfl⟩:=h
     have k4:=Zjw hd hk h2 g2 hf
     simp only at k4
     have hso:=Zie (P:=P) (o':=.map ((⟨es'⟩:Array MapEntry).push {key:=a.eval y,val:=a.eval z,born:=es'.length}) (es'.length+1)) g1 (by simp)
     refine Za3.skip (μ':=μ) (ws:=[i]) (w':={w with heap:=w.heap.setIfInBounds l.b (.map ((⟨es'⟩:Array MapEntry).push {key:=a.eval y,val:=a.eval z,born:=es'.length}) (es'.length+1))}) ?_ (Stp.setObj hh hl hes rfl ⟨es'++[{key:=a.eval y,val:=a.eval z,born:=es'.length}],?_,?_⟩)
     ·simp only[Instr.mapUpdate,Sem.run_bind,run_underlying ht,Result.andThen,h1,hgo,Zd8 hk,Instr.findKey,run_underlying hd,k4,Sem.run_pure,hso]
     ·rw[Zid,Yqi hb]
      simp
     ·exact g2.push h2 h3 (by simp)
    ·cases h
   ·cases h
  ·cases h
 ·cases h
def Zwm(hh:Za7 P μ w st)(hr:RR μ r n a.tmps){ty:TypeId}{x:Operand}{s:Src}(hx:Zba P x=some s)
  (h:Zdv s call r st=some (v,st')):Za3 P μ w st (do pure (.value (←Instr.next (a.eval x) true ty))) v st':=by
 unfold Zdv at h
 split at h
 ·rename_i i hm
  obtain⟨l,hl,h1⟩:=Zap hh hr hx hm
  split at h
  ·rename_i q pos hg
   obtain⟨g1,g2⟩:=hh.get hl hg
   rw[g2]at h1
   have hgo:=Zfx (P:=P) g1 (by simp)
   have hb:l.b<w.heap.size:=(hh.dom i l hl).2
   have hsz:(⟨q.toArray⟩:ByteArray).size=q.length:=rfl
   split at h
   ·rename_i hp
    simp only[Yqc,Yqf]at h
    obtain⟨rfl,rfl⟩:=h
    have hso:=Zie (P:=P) (o':=.stringIter ⟨q.toArray⟩ (pos+(Utf8.decode ⟨q.toArray⟩ pos).2)) g1 (by simp)
    refine⟨.value (.tuple #[.bool true,.int .i64 pos,.int .i32 (Utf8.decode ⟨q.toArray⟩ pos).1]),_,_,μ,[i],?_,.inl rfl,?_,Stp.setObj hh hl hg rfl (ob:=.stringIter ⟨q.toArray⟩ (pos+(Utf8.decode ⟨q.toArray⟩ pos).2)) ⟨?_,g2⟩⟩
    ·simp[Instr.next,h1,hgo,Result.andThen,hsz,hp,hso,goInt, -ByteArray.size_data]
    ·simp only[VR];exact⟨_,rfl,by simp[VRs,VR]⟩
    ·rw[Zid,Yqi hb]
   ·rename_i hp
    simp only[Yqc,Yqf]at h
    obtain⟨rfl,rfl⟩:=h
    refine Za3.value hh (x:=.tuple #[.bool false]) ?_ (by simp only[VR];exact⟨_,rfl,by simp[VRs,VR]⟩)
    simp[Instr.next,h1,hgo,Result.andThen,hsz,hp, -ByteArray.size_data]
  ·cases h
 ·cases h
end
end Go.Mx
