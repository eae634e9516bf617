/-The operations of M stand for the Go mod-/
import Derived.Test.YtjjmkflbfpeagaaGreatDoorMxOp7
import Derived.Shelf.Spec.BitsCarry
set_option linter.all false
namespace Go.Mx
open Go
section
variable {P:Program} {μ:Mu} {w:World} {st ax:St} {r:T V} {n:Nat} {a:Act} {call:cH} {v:V}
def Ti{t:TypeId}{kd:jN}(h:xu P t=some kd):(∃k,kd=.int k/\P.underlying t=some (.int k))\/(kd=.str/\P.underlying t=some .string):=by
 unfold xu at h
 split at h
 ·simp only[ak]at h;subst h;rename_i k hk;exact .inl ⟨k,rfl,hk⟩
 ·simp only[ak]at h;subst h;rename_i hk;exact .inr ⟨rfl,hk⟩
 ·cases h
def ZU{t:TypeId}{kd:jN}{d:TypeDesc}(hd:P.underlying t=some d)(h:xu P t=some kd){k q:V}{x y:Value}(hx:VR μ k x)(hy:VR μ q y){b:Bool}(hb:Nf kd k q=some b):
  Instr.sameNow d x y=some b/\(b=true->x=y/\Instr.sameBits 10000 y x=true):=by
 rcases Ti h with⟨kk,rfl,h1⟩|⟨rfl,h1⟩
 ·rw[hd,ak]at h1;subst h1
  cases k<;>cases q<;>simp only[Nf,reduceCtorEq]at hb
  split at hb
  ·rename_i hc
   obtain⟨rfl,rfl⟩:=hc
   simp only[ak]at hb;subst hb
   simp only[VR]at hx hy
   subst hx;subst hy
   refine⟨by simp[Instr.sameNow],fun hb=>?_⟩
   simp only[beq_iff_eq]at hb
   subst hb
   simp[Instr.sameBits]
  ·cases hb
 ·rw[hd,ak]at h1;subst h1
  cases k<;>cases q<;>simp only[Nf,reduceCtorEq]at hb
  rename_i s s'
  simp only[ak]at hb;subst hb
  simp only[VR]at hx hy
  subst hx;subst hy
  have e:((⟨s.toArray⟩:ByteArray)==⟨s'.toArray⟩)=(s==s'):=by
   show (s.toArray==s'.toArray)=(s==s')
   simp
  refine⟨by simp only[Instr.sameNow,e],fun hb=>?_⟩
  simp only[beq_iff_eq]at hb
  subst hb
  exact⟨rfl,by simp only[Instr.sameBits];rw[e];simp⟩
def NL{t:TypeId}{kd:jN}{d:TypeDesc}(hd:P.underlying t=some d)(h:xu P t=some kd){k:V}{x:Value}(hx:VR μ k x):
  ∀{es:List (V×V)} {xs:List MapEntry} {i b:Nat} {o:Option (Nat×V)},gR μ es xs b->eP kd k es i=some o->
   match o with
   |none=>Instr.findNow d x xs i=some none
   |some (j,u)=>∃e:MapEntry,i<=j/\xs[j-i]?=some e/\VR μ u e.val/\Instr.findNow d x xs i=some (some (j,e.val))/\x=e.key/\Instr.sameBits 10000 e.key x=true:=by
 intro es
 induction es with
 |nil=>
  intro xs i b o hm hf
  simp only[gR]at hm;subst hm
  simp only[eP,ak]at hf;subst hf
  simp[Instr.findNow]
 |cons p es ih=>
  intro xs i b o hm hf
  obtain⟨q,u⟩:=p
  obtain⟨e,ys,rfl,h1,h2,h3,h4⟩:=hm
  simp only[eP]at hf
  split at hf
  ·rename_i hb
   simp only[ak]at hf;subst hf
   obtain⟨g1,g2⟩:=ZU hd h hx h1 hb
   exact⟨e,aR _,by simp,h2,by simp[Instr.findNow,g1],(g2 rfl).1,(g2 rfl).2⟩
  ·rename_i hb
   obtain⟨g1,_⟩:=ZU hd h hx h1 hb
   have:=ih h4 hf
   cases o with
   |none=>simpa[Instr.findNow,g1]using this
   |some ju=>
    obtain⟨j,u'⟩:=ju
    obtain⟨e',k1,k2,k3,k4,k5⟩:=this
    refine⟨e',by omega,?_,k3,by simpa[Instr.findNow,g1]using k4,k5⟩
    rw[show j-i=(j-(i+1))+1 by omega]
    simpa using k2
  ·cases hf
def Zpj{t:TypeId}{kd:jN}(h:xu P t=some kd){b:Bool}{x:Value}(q:Nat):(Instr.checkKey b (q+1) t x).run P w=.ok () w:=by
 rcases Ti h with⟨kk,rfl,h1⟩|⟨rfl,h1⟩
 ·cases x<;>simp only[Instr.checkKey,Sem.run_bind,run_underlying h1,Result.andThen_ok,Sem.run_pure]
 ·cases x<;>simp only[Instr.checkKey,Sem.run_bind,run_underlying h1,Result.andThen_ok,Sem.run_pure]
def JB{t:TypeId}{kd:jN}(h:xu P t=some kd){b:Bool}{x:Value}:(Instr.checkKey b 10000 t x).run P w=.ok () w:=Zpj h 9999
def ZV{t:TypeId}{kd:jN}(h:xu P t=some kd):∃d,P.underlying t=some d:=by
 rcases Ti h with⟨kk,_,h1⟩|⟨_,h1⟩<;>exact⟨_,h1⟩
def Yb6(hh:a_ P μ w st)(hr:RR μ r n a.tmps){t kt e:TypeId}{x y:Operand}{sm sk:Src}{kd:jN}{z:V}{ok:Bool}(ht:P.underlying t=some (.map kt e))(hk:xu P kt=some kd)(hz:nv P e=some z)
  (hx:bk P x=some sm) (hy:bk P y=some sk) (h:DM kd z sm sk ok call r st=some (v,ax)):
  aS P μ w st (do pure (.value (<-Instr.lookup t (a.eval x) (a.eval y) ok))) v ax:=by
 unfold DM at h
 split at h
 ·rename_i m k hm Tj
  have h1:=cE hh hr hx hm
  have h2:=cE hh hr hy Tj
  obtain⟨d,hd⟩:=ZV hk
  obtain⟨zx,Af,wO⟩:=Zi (w:=w) hz
  split at h
  ·cases m<;>simp at h
   case bL=>
    simp only[VR]at h1
    simp only[eP,ak,bh]at h
    obtain⟨rfl,rfl⟩:=h
    refine aS.value hh (x:=if ok then .tuple #[zx,.bool false] else zx) ?_ ?_
    ·simp[Instr.lookup,run_underlying ht,h1,JB hk,Instr.findKey,run_underlying hd,Instr.findNow,Af,Result.andThen]
    ·cases ok
     ·simpa using wO μ
     ·simp only[if_true,VR];exact⟨_,rfl,by simp[aP,VR];exact wO μ⟩
   case map i=>
    obtain⟨l,hl,h1⟩:=h1
    split at h
    ·rename_i es mA
     split at mA
     ·rename_i es0 hg
      simp only[ak]at mA;subst mA
      obtain⟨e_,g1,g2⟩:=hh.get hl hg
      have nM:=Em (P:=P) g1 (by simp)
      split at h
      ·rename_i j u ho
       simp only[ak,bh]at h
       obtain⟨rfl,rfl⟩:=h
       obtain⟨en,_,_,k3,k4,_⟩:=NL hd hk h2 g2 ho
       refine aS.value hh (x:=if ok then .tuple #[en.val,.bool true] else en.val) ?_ ?_
       ·simp[Instr.lookup,run_underlying ht,h1,nM,JB hk,Instr.findKey,run_underlying hd,k4,Result.andThen]
       ·cases ok
        ·simpa using k3
        ·simp only[if_true,VR];exact⟨_,rfl,by simp[aP,VR];exact k3⟩
      ·rename_i ho
       simp only[ak,bh]at h
       obtain⟨rfl,rfl⟩:=h
       have k4:=NL hd hk h2 g2 ho
       simp only at k4
       refine aS.value hh (x:=if ok then .tuple #[zx,.bool false] else zx) ?_ ?_
       ·simp[Instr.lookup,run_underlying ht,h1,nM,JB hk,Instr.findKey,run_underlying hd,k4,Af,Result.andThen]
       ·cases ok
        ·simpa using wO μ
        ·simp only[if_true,VR];exact⟨_,rfl,by simp[aP,VR];exact wO μ⟩
      ·cases h
     ·cases mA
    ·cases h
  ·cases h
 ·cases h
def Tk(w:World)(b:Nat)(o:Obj):({w with heap:=w.heap.setIfInBounds b o}:World).heap[b]?=if b<w.heap.size then some o else none:=by
 show (w.heap.setIfInBounds b o)[b]?=_
 rw[Array.getElem?_setIfInBounds]
 simp
def Tl{i:Nat}{o o':Obj}(h:w.heap[i]?=some o)(ho:∀c e f,o≠.cells c e f):(setObj i o').run P w=.ok () {w with heap:=w.heap.setIfInBounds i o'}:=by
 simp only[setObj,Sem.run,h]
def bA.setObj(hh:a_ P μ w st){i:Nat}{l:L}(hl:μ i=some l){o o':O}(hg:st.h.get i=some o)(hw:o.wr=true){ob:Obj}
  (hm:OM P μ {w with heap:=w.heap.setIfInBounds l.b ob} o' l):bA P μ w st μ {w with heap:=w.heap.setIfInBounds l.b ob} (st.write i o') [i]:=
 bA.write hh hl hg hw rfl rfl rfl (by simp) (fun b hb=>by
  show (w.heap.setIfInBounds l.b ob)[b]?=_
  rw[Gw (Ne.symm hb)]) hm
def gR.set:∀{es:List (V×V)} {xs:List MapEntry} {b:Nat},gR μ es xs b->∀{j:Nat} {k u:V} {x y:Value},VR μ k x->VR μ u y->∀{e:MapEntry},xs[j]?=some e->
  gR μ (es.set j (k,u)) (xs.set j {e with key:=x,val:=y}) b
 |[],xs,b,h,j,k,u,x,y,_,_,e,he=>by simp[gR]at h;subst h;simp at he
 |(k0,u0)::es,xs,b,h,j,k,u,x,y,h1,h2,e,he=>by
  obtain⟨e0,ys,rfl,g1,g2,g3,g4⟩:=h
  cases j with
  |zero=>simp at he;subst he;exact⟨_,_,rfl,h1,h2,g3,g4⟩
  |succ j=>exact⟨e0,_,rfl,g1,g2,g3,gR.set g4 h1 h2 (by simpa using he)⟩
def gR.push:∀{es:List (V×V)} {xs:List MapEntry} {b:Nat},gR μ es xs b->∀{k u:V} {x y:Value},VR μ k x->VR μ u y->∀{c:Nat},c=b+xs.length->
  gR μ (es++[(k,u)]) (xs++[{key:=x,val:=y,born:=c}]) b
 |[],xs,b,h,k,u,x,y,h1,h2,c,hc=>by simp[gR]at h;subst h;exact⟨_,_,rfl,h1,h2,by simpa using hc,rfl⟩
 |(k0,u0)::es,xs,b,h,k,u,x,y,h1,h2,c,hc=>by
  obtain⟨e0,ys,rfl,g1,g2,g3,g4⟩:=h
  exact⟨e0,_,rfl,g1,g2,g3,gR.push g4 h1 h2 (by simp at hc;omega)⟩
def aS.skip{s:Sem Unit}{w':World}{μ':Mu}{ws:List Nat}(hs:s.run P w=.ok () w')(h:bA P μ w st μ' w' ax ws):aS P μ w st (do s;pure .skip) (.aY []) ax:=
 ⟨.skip,undef,w',μ',ws,by simp[hs,Result.andThen],.inr ⟨rfl,rfl⟩,⟨[],rfl,by simp[aP]⟩,h⟩
def ZN(hh:a_ P μ w st)(hr:RR μ r n a.tmps){t kt e:TypeId}{x y z:Operand}{sm sk sv:Src}{kd:jN}(ht:P.underlying t=some (.map kt e))(hk:xu P kt=some kd)
  (hx:bk P x=some sm) (hy:bk P y=some sk) (hz:bk P z=some sv) (h:BX kd sm sk sv call r st=some (v,ax)):
  aS P μ w st (do Instr.mapUpdate t (a.eval x) (a.eval y) (a.eval z);pure .skip) v ax:=by
 unfold BX at h
 split at h
 ·rename_i i k u hm Tj hu
  obtain⟨l,hl,h1⟩:=cE hh hr hx hm
  have h2:=cE hh hr hy Tj
  have h3:=cE hh hr hz hu
  obtain⟨d,hd⟩:=ZV hk
  split at h
  ·split at h
   ·rename_i es mA
    obtain⟨e_,g1,g2⟩:=hh.get hl mA
    have nM:=Em (P:=P) g1 (by simp)
    have hb:l.b<w.heap.size:=(hh.cU i l hl).2
    split at h
    ·rename_i j _ hf
     simp only[ak,bh]at h
     obtain⟨rfl,rfl⟩:=h
     obtain⟨en,k1,k2,k3,k4,k5,k6⟩:=NL hd hk h2 g2 hf
     simp only[Nat.sub_zero]at k2
     have JC:=Tl (P:=P) (o':=.map ((⟨e_⟩:Array MapEntry).modify j fun e=>{e with key:=a.eval y,val:=a.eval z}) e_.length) g1 (by simp)
     refine aS.skip (μ':=μ) (ws:=[i]) (w':={w with heap:=w.heap.setIfInBounds l.b (.map ((⟨e_⟩:Array MapEntry).modify j fun e=>{e with key:=a.eval y,val:=a.eval z}) e_.length)}) ?_ (bA.setObj hh hl mA rfl ⟨e_.set j {en with key:=a.eval y,val:=a.eval z},?_,?_⟩)
     ·have JD:(Instr.keyThatStays en.key (a.eval y)).run P w=.ok (a.eval y) w:=by
       simp[Instr.keyThatStays,k6]
      have cK:(((⟨e_⟩:Array MapEntry)[j]?).map (·.key)).getD (a.eval y)=en.key:=by simp[k2]
      simp only[Instr.mapUpdate,Sem.run_bind,run_underlying ht,Result.andThen,h1,nM,JB hk,Instr.findKey,run_underlying hd,k4,Sem.run_pure,cK,JD,JC]
     ·rw[Tk,aJ hb]
      congr 2
      ·apply xD
       apply nX
       intro q
       rw[xz,Array.getElem?_modify]
       by_cases e:j=q
       ·subst e
        obtain⟨hj,hje⟩:=zo.1 k2
        simp[hj,hje]
       ·simp[e,eB e]
      ·simp
     ·exact g2.set h2 h3 k2
    ·rename_i hf
     simp only[ak,bh]at h
     obtain⟨rfl,rfl⟩:=h
     have k4:=NL hd hk h2 g2 hf
     simp only at k4
     have JC:=Tl (P:=P) (o':=.map ((⟨e_⟩:Array MapEntry).push {key:=a.eval y,val:=a.eval z,born:=e_.length}) (e_.length+1)) g1 (by simp)
     refine aS.skip (μ':=μ) (ws:=[i]) (w':={w with heap:=w.heap.setIfInBounds l.b (.map ((⟨e_⟩:Array MapEntry).push {key:=a.eval y,val:=a.eval z,born:=e_.length}) (e_.length+1))}) ?_ (bA.setObj hh hl mA rfl ⟨e_++[{key:=a.eval y,val:=a.eval z,born:=e_.length}],?_,?_⟩)
     ·simp only[Instr.mapUpdate,Sem.run_bind,run_underlying ht,Result.andThen,h1,nM,JB hk,Instr.findKey,run_underlying hd,k4,Sem.run_pure,JC]
     ·rw[Tk,aJ hb]
      simp
     ·exact g2.push h2 h3 (by simp)
    ·cases h
   ·cases h
  ·cases h
 ·cases h
def Zxs(hh:a_ P μ w st)(hr:RR μ r n a.tmps){ty:TypeId}{x:Operand}{s:Src}(hx:bk P x=some s)
  (h:DO s call r st=some (v,ax)):aS P μ w st (do pure (.value (<-Instr.next (a.eval x) true ty))) v ax:=by
 unfold DO at h
 split at h
 ·rename_i i hm
  obtain⟨l,hl,h1⟩:=cE hh hr hx hm
  split at h
  ·rename_i q pos hg
   obtain⟨g1,g2⟩:=hh.get hl hg
   rw[g2]at h1
   have nM:=Em (P:=P) g1 (by simp)
   have hb:l.b<w.heap.size:=(hh.cU i l hl).2
   have jc:(⟨q.toArray⟩:ByteArray).size=q.length:=rfl
   split at h
   ·rename_i hp
    simp only[ak,bh]at h
    obtain⟨rfl,rfl⟩:=h
    have JC:=Tl (P:=P) (o':=.stringIter ⟨q.toArray⟩ (pos+(Utf8.decode ⟨q.toArray⟩ pos).2)) g1 (by simp)
    refine⟨.value (.tuple #[.bool true,.int .i64 pos,.int .i32 (Utf8.decode ⟨q.toArray⟩ pos).1]),_,_,μ,[i],?_,.inl rfl,?_,bA.setObj hh hl hg rfl (ob:=.stringIter ⟨q.toArray⟩ (pos+(Utf8.decode ⟨q.toArray⟩ pos).2)) ⟨?_,g2⟩⟩
    ·simp[Instr.next,h1,nM,Result.andThen,jc,hp,JC,goInt, -ByteArray.size_data]
    ·simp only[VR];exact⟨_,rfl,by simp[aP,VR]⟩
    ·rw[Tk,aJ hb]
   ·rename_i hp
    simp only[ak,bh]at h
    obtain⟨rfl,rfl⟩:=h
    refine aS.value hh (x:=.tuple #[.bool false]) ?_ (by simp only[VR];exact⟨_,rfl,by simp[aP,VR]⟩)
    simp[Instr.next,h1,nM,Result.andThen,jc,hp, -ByteArray.size_data]
  ·cases h
 ·cases h
def Ztf(hh:a_ P μ w st)(hr:RR μ r n a.tmps){t kt e:TypeId}{x:Operand}{s:Src}(ht:P.underlying t=some (.map kt e))(hx:bk P x=some s)
  (h:II s call r st=some (v,ax)):aS P μ w st (do pure (.value (<-Instr.range t (a.eval x)))) v ax:=by
 unfold II at h
 split at h
 ·rename_i i hm
  obtain⟨l,hl,h1⟩:=cE hh hr hx hm
  split at h
  ·rename_i mA
   obtain⟨e_,g1,g2⟩:=hh.get hl mA
   have nM:=Em (P:=P) g1 (by simp)
   simp only[ak,bh]at h
   obtain⟨rfl,rfl⟩:=h
   refine aS.newObj hh (v:=.ptr st.n 0) (x:=.pointer (some ⟨w.heap.size,0,none⟩)) (ob:=.mapIter (some l.b) e_.length #[] e_.length) ?_ ?_ ?_
   ·simp[Instr.range,h1,run_underlying ht,Result.andThen,nM]
   ·have bK:¬i=st.n:=by have:=(hh.cU i l hl).1;omega
    simp only[OM]
    exact⟨l,by simp[bK,hl],⟨_,_,NK w _⟩,trivial⟩
   ·simp only[VR];exact⟨⟨w.heap.size,0,0⟩,by simp,rfl⟩
  ·cases h
 ·cases h
def Zxt(hh:a_ P μ w st)(hr:RR μ r n a.tmps){ty:TypeId}{x:Operand}{s:Src}(hx:bk P x=some s)
  (h:IJ s call r st=some (v,ax)):aS P μ w st (do pure (.value (<-Instr.next (a.eval x) false ty))) v ax:=by
 unfold IJ at h
 split at h
 ·rename_i i hm
  obtain⟨l,hl,h1⟩:=cE hh hr hx hm
  split at h
  ·rename_i m hg
   obtain⟨lm,q1,⟨since,last,g1⟩,g2⟩:=hh.get hl hg
   rw[g2]at h1
   split at h
   ·rename_i mA
    obtain⟨e_,k1,k2⟩:=hh.get q1 mA
    have he:e_=[]:=by
     cases e_ with
     |nil=>rfl
     |cons y ys=>simp[gR]at k2
    subst he
    have nM:=Em (P:=P) g1 (by simp)
    have hgm:=Em (P:=P) k1 (by simp)
    simp only[ak,bh]at h
    obtain⟨rfl,rfl⟩:=h
    refine aS.value hh (x:=.tuple #[.bool false]) ?_ (by simp only[VR];exact⟨_,rfl,by simp[aP,VR]⟩)
    simp[Instr.next,h1,nM,hgm,Result.andThen,choose,Sem.run,Question.forced]
   ·cases h
  ·cases h
 ·cases h
end
end Go.Mx
