/-
  lensletref01.divDigits.
-/
import Derived.Test.YtppobccilnifoaaGreatDoorRbG
set_option linter.all false
namespace Go.Mx
open Go Go.Proofs
set_option maxRecDepth 1000000
theorem oldIds_le{N n2:Nat}(h:N≤n2):∀{w:List Nat},oldIds n2 w=[]→oldIds N w=[]
 |[],_=>rfl
 |i::w,hw=>by
  simp only[oldIds]at hw ⊢
  by_cases h1:i<n2
  ·rw[if_pos h1]at hw
   unfold noteId at hw
   split at hw
   ·rename_i hc
    rw[hw]at hc;simp at hc
   ·cases hw
  ·rw[if_neg h1]at hw
   rw[if_neg (by omega)]
   exact oldIds_le h hw
theorem append_first{h:T O}{N i:Nat}{w:List Nat}{v:V}{l:List Int}(hr:h.get i=some (.cells [] 3 true))(hs:Sl h N v (dI l))(hne:l≠[])(hl:l.length<1099511627776):
  appendV ⟨h,N,w⟩ 1 8 3 (.slice i 0 0 (some 0) 1) v=some (.slice N 0 l.length none 1,⟨h.set N (.cells (dI l) 3 true),N+1,w⟩):=by
 have h0:l.length≠0:=fun hc=>hne (List.eq_nil_of_length_eq_zero hc)
 have hs':=src_sl (w:=w) hs
 rw[dI_length]at hs'
 have hb:¬(maxBytes<(2*(0+l.length)+1000)*8):=by unfold maxBytes;omega
 simp only[appendV,hs']
 rw[if_neg h0,if_neg (by rintro(h|h|h)<;>omega)]
 simp only[St.row,hr]
 rw[if_neg (by omega)]
 simp[slc,St.alloc]
theorem pI_nat(k:Nat):pI k=((1000000000^k:Nat):Int):=by unfold pI;simp
theorem ds_bounds{b k:Nat}(h:(ds b).length=k+1):∃x,(ds b)[k]?=some x∧0<x∧x<1000000000∧pI k*x≤b∧(b:Int)<pI k*(x+1):=by
 have hb:b≠0:=fun hc=>by rw[hc,ds_zero]at h;simp at h
 obtain⟨x,hx,hx0⟩:=ds_last hb
 rw[h,Nat.add_sub_cancel]at hx
 have hd:=(ds_di b).get hx
 have hv:=ds_val b
 rw[vI_at hx,List.drop_eq_nil_of_le (by omega),vI,Int.mul_zero,Int.add_zero]at hv
 have h1:=vI_nn ((ds_di b).take k)
 have h2:=vI_lt ((ds_di b).take k)
 rw[List.length_take,Nat.min_eq_left (by omega)]at h2
 have h3:pI k*(x+1)=pI k*x+pI k:=by grind
 exact⟨x,hx,hx0,hd.2,by omega,by omega⟩
theorem norm_ok{b k:Nat}(h:(ds b).length=k+1){x:Int}(hx:(ds b)[k]?=some x):∃f:Nat,(f:Int)=1000000000/(x+1)∧0<f∧f<1000000000∧(ds (b*f)).length=k+1∧∃y,(ds (b*f))[k]?=some y∧500000000≤y:=by
 obtain⟨x',hx',x0,x1,lo,hi⟩:=ds_bounds h
 obtain rfl:x=x':=Option.some.inj (hx.symm.trans hx')
 have hd:(x+1)*(1000000000/(x+1))+1000000000%(x+1)=1000000000:=Int.mul_ediv_add_emod ..
 have hr0:0≤1000000000%(x+1):=Int.emod_nonneg _ (by omega)
 have hr1:1000000000%(x+1)<x+1:=Int.emod_lt_of_pos _ (by omega)
 have hh:=norm_half (x:=x) (by omega) x1
 have f0:0<1000000000/(x+1):=by
  apply Int.lt_of_not_ge;intro hc
  have:=Int.mul_nonpos_of_nonneg_of_nonpos (a:=x) (by omega) hc
  omega
 have f1:1000000000/(x+1)<1000000000:=Int.ediv_lt_of_lt_mul (by omega) (by omega)
 obtain⟨f,hf⟩:=Int.eq_ofNat_of_zero_le (Int.le_of_lt f0)
 rw[hf]at hd hh f0 f1
 have hp:=pI_pos k
 have hb1:((b*f:Nat):Int)=(b:Int)*f:=by simp
 have up:(b:Int)*f<1000000000*pI k:=by
  have g1:(b:Int)*f<pI k*(x+1)*f:=Int.mul_lt_mul_of_pos_right hi f0
  have g2:pI k*(x+1)*f=pI k*((x+1)*f):=by grind
  have g3:pI k*((x+1)*f)≤pI k*1000000000:=Int.mul_le_mul_of_nonneg_left (by omega) (Int.le_of_lt hp)
  omega
 have low:500000000*pI k≤(b:Int)*f:=by
  have g1:pI k*x*f≤(b:Int)*f:=Int.mul_le_mul_of_nonneg_right lo (Int.le_of_lt f0)
  have g2:pI k*x*f=pI k*(x*f):=by grind
  have g3:pI k*500000000≤pI k*(x*f):=Int.mul_le_mul_of_nonneg_left hh (Int.le_of_lt hp)
  omega
 have len1:(ds (b*f)).length≤k+1:=ds_len_lt (by
  have:((b*f:Nat):Int)<((1000000000^(k+1):Nat):Int):=by rw[←pI_nat,pI_succ,hb1];exact up
  exact_mod_cast this)
 have len2:(ds b).length≤(ds (b*f)).length:=ds_mono (Nat.le_mul_of_pos_right b (by omega))
 have len:(ds (b*f)).length=k+1:=by omega
 obtain⟨y,hy,y0,y1,ylo,yhi⟩:=ds_bounds len
 refine⟨f,hf.symm,by omega,by omega,len,y,hy,?_⟩
 apply Int.le_of_not_gt
 intro hc
 have:pI k*(y+1)≤pI k*500000000:=Int.mul_le_mul_of_nonneg_left (by omega) (Int.le_of_lt hp)
 omega
def PdI(N:Nat)(h2:T O)(n2 la:Nat)(A0:Int)(m:Nat)(r:T V)(st:St):Prop:=oldIds n2 st.w=[]∧Keeps h2 n2 st.h st.n∧∃u l,r.get 11=some u∧Own 1 3 n2 st.h st.n u (rowsI l)∧l.length+m=la+1∧vI l=A0∧Di l
theorem pad_loop{N:Nat}{h2:T O}{n2 la:Nat}{A0:Int}{u0:V}{r0:T V}{la':List Int}(hu0:Sl h2 n2 u0 (dI la'))(hla:la'.length=la)(hl:la<1099511627776)(r0e:r0.get 0=some u0):
  ∀m r st,(∀t,inD [(11,11),(63,71)] t=false→r.get t=r0.get t)→Fx [(11,11),(63,71)] r0 206 ⟨r,206,[]⟩→PdI N h2 n2 la A0 m r st→Code A.C none A.lb160_3 ⟨r,206,[]⟩ st (Rd [(11,11),(63,71)] r0 206 (PdI N h2 n2 la A0) m (fun e r st=>e=.exit 0∧PdI N h2 n2 la A0 0 r st)):=by
 rintro m r ⟨H,n1,W⟩ hr hf ⟨hW,hK,u,l,h11,ho,hm,hv,hd⟩
 simp only at hW hK ho
 have lu:=hu0.len
 rw[dI_length,hla]at lu
 have lo:=ho.len
 rw[rowsI_len]at lo
 rw[code_run]
 cases m with
 |zero=>
  have:¬(l.length:Int)<(la:Int)+1:=by omega
  simp(disch:=first|(simp;done)|omega|rfl) [-getElem?_pos,A.lb160_3,hr,hf,r0e,h11,lu,lo,this]
  exact⟨hW,hK,u,l,by simp[h11],ho,hm,hv,hd⟩
 |succ m=>
  have h1:(l.length:Int)<(la:Int)+1:=by omega
  have nle:=hK.le
  obtain⟨v',h',w',e1,e2,e3,e4,e5⟩:=append_own (x:=[.int .i64 0]) (u:=.slice n1 0 1 (some 1) 1) (bytes:=8) (w:=W) (ho.keep (Keeps.refl.new (.cells [.int .i64 0] 3 true))) (by omega) (by decide) rfl (by simp[srcCells,St.row,slc]) (by rw[rowsI_len];omega)
  rw[←rowsI_snoc]at e5
  simp(disch:=first|(simp;done)|omega|rfl) [-getElem?_pos,A.lb160_3,hr,hf,r0e,h11,lu,lo,h1,splice,e1]
  refine⟨m,by omega,⟨by rw[e2];exact hW,((hK.new _).then e3),v',l++[0],by simp,e5,by simp;omega,by rw[vI_snoc,hv];simp,hd.app (Di.one (by omega) (by omega))⟩⟩
end Go.Mx
namespace Go.Mx
open Go Go.Proofs
set_option maxRecDepth 1000000
theorem ds_one{r:Nat}(h:r<1000000000):trimI [(r:Int)]=ds r:=trimI_eq (Di.one (by omega) (by omega)) (by simp[vI])
theorem rdiv_fn{h:T O}{N:Nat}{u v:V}{a b:Nat}(hu:Dn h N u a)(hv:Dn h N v b)(hb:0<b)(hl:(ds a).length<1000000000)(hl2:(ds b).length<1000000000):Fn A.C 160 [u,v] h N (fun x h' n'=>∃q r,x=.tup [q,r]∧Dn h' n' q (a/b)∧Dn h' n' r (a%b)):=by
 intro w
 have lu:=hu.len
 have lv:=hv.len
 rw[dI_length]at lu lv
 rw[call_run,A.k160 (by simp)]
 by_cases hab:a<b
 ·have hc0:cmpN a b= -1:=by simp[cmpN,hab]
  have hc:=fun w=>cmpD_eq (w:=w) hu hv (by omega) (by omega)
  simp(disch:=first|(simp;done)|omega|rfl) [-getElem?_pos,A.b160,hc,hc0,Ret]
  refine⟨Keeps.refl,.nilslice,u,⟨rfl,rfl⟩,?_,?_⟩
  ·rw[Nat.div_eq_of_lt hab];unfold Dn;rw[ds_zero];exact Sl.nil
  ·rw[Nat.mod_eq_of_lt hab];exact hu
 ·have hba:b≤a:=by omega
  have hlb:=ds_mono hba
  have hc:=fun w=>cmpD_eq (w:=w) hu hv (by omega) (by omega)
  have hcn:¬cmpN a b<0:=by unfold cmpN;rw[if_neg hab];split<;>omega
  have hL1:1≤(ds b).length:=by
   have:ds b≠[]:=fun hc=>by rw[ds_eq_nil]at hc;omega
   exact List.length_pos_iff.2 this
  by_cases hL:(ds b).length=1
  ·obtain⟨x,hx⟩:=get_of_lt (l:=ds b) (k:=0) (by omega)
   have hbx:ds b=[x]:=by
    cases hq:ds b with
    |nil=>rw[hq]at hL;simp at hL
    |cons y l=>
     rw[hq]at hL hx
     simp at hL hx
     rw[hL,hx]
   have hxv:=ds_val b
   rw[hbx]at hxv
   simp[vI]at hxv
   have hxd:=(ds_di b).get hx
   obtain⟨b1,b2,b3,b4,b5,z1,z2,z3,z4⟩:=Sl.at (show Sl h N v (dI (ds b)) from hv) (dI_get hx)
   simp at z4
   simp(disch:=first|(simp;done)|omega|rfl) [-getElem?_pos,A.b160,hc,hcn,lv,hL,eqPrim,z1,z3,z4]
   refine run_fn (divDigit_fn (show Sl h N u (dI (ds a)) from hu) (ds_di a) (by omega) (by omega) hxd.2) ?_
   rintro y h1 n1 k1 ⟨q,rfl,hq⟩
   rw[ds_val]at hq
   simp only[ds_val]
   have e1:(a:Int).toNat=a:=by omega
   have e2:x.toNat=b:=by omega
   rw[e1,e2]at hq
   rw[e1,e2]
   have hRb:=Nat.mod_lt a hb
   have hb9:b<1000000000:=by omega
   generalize hQ:a/b=Q at*
   generalize hR:a%b=R at*
   simp(disch:=first|(simp;done)|omega|rfl) [-getElem?_pos,splice]
   refine run_fn (rtrim_fn (l:=[(R:Int)]) (Sl.row (e:=3) (rw:=true) (cp:=some 1) (Nat.lt_succ_self n1) (by simp[dI]) rfl (fun k hk=>by simp at hk;omega)) (by simp)) ?_
   rintro y2 h2 n2 k2 hy2
   rw[ds_one (by omega)]at hy2
   have kk:=(Keeps.refl (h:=h1) (n:=n1)).new (.cells [.int .i64 (R:Int)] 3 true)
   simp(disch:=first|(simp;done)|omega|rfl) [-getElem?_pos,Ret]
   exact⟨(k1.trans kk).trans k2,q,y2,⟨rfl,rfl⟩,hq.keep (kk.trans k2),hy2⟩
  ·obtain⟨k,hk⟩:∃k,(ds b).length=k+2:=⟨(ds b).length-2,by omega⟩
   obtain⟨x,hx⟩:=get_of_lt (l:=ds b) (k:=k+1) (by omega)
   have hxd:=(ds_di b).get hx
   obtain⟨f,hf,f0,f1,hlen,y1,hy1,hy5⟩:=norm_ok (k:=k+1) (by omega) hx
   obtain⟨b1,b2,b3,b4,b5,z1,z2,z3,z4⟩:=Sl.at (show Sl h N v (dI (ds b)) from hv) (dI_get hx)
   have c1:((k:Int)+2-1)=(k:Int)+1:=by omega
   have c2:(k:Int)+1<(k:Int)+2:=by omega
   have c3:¬((k:Int)+2=1):=by omega
   have c4:((k:Int)+1).toNat=k+1:=by omega
   have c5:(0:Int)≤(k:Int)+1:=by omega
   have w1:wrapF .i64 (x+1)=x+1:=wrapF_i64 (by omega) (by omega)
   have w2:(1000000000:Int).tdiv (x+1)=f:=by rw[hf];exact Int.tdiv_eq_ediv_of_nonneg (by decide)
   have w3:wrapF .i64 (f:Int)=f:=wrapF_i64 (by omega) (by omega)
   have c6:¬x+1=0:=by omega
   rw[hk]at lv
   simp(disch:=first|(simp;done)|omega|rfl) [-getElem?_pos,A.b160,hc,hcn,lv,eqPrim,c1,c2,c3,c4,c5,c6,z1,z3,z4,w1,w2,w3,splice]
   have k0:=(Keeps.refl (h:=h) (n:=N)).new (.cells [.int .i64 (f:Int)] 3 true)
   have hfr:Sl (h.set N (.cells [.int .i64 (f:Int)] 3 true)) (N+1) (.slice N 0 1 (some 1) 1) (dI [(f:Int)]):=Sl.row (e:=3) (rw:=true) (Nat.lt_succ_self N) (by simp[dI]) rfl (fun k hk=>by simp at hk;omega)
   have dF:Di [(f:Int)]:=Di.one (by omega) (by omega)
   refine run_fn (rmul_fn (a:=b) (b:=f) (Sl.keep hv k0) hfr (ds_di b) dF (ds_val b) (by simp[vI]) (by simp;omega)) ?_
   rintro vv h1 n1 k1 hvv
   have kle1:=k1.le
   have lvv:=hvv.len
   have hlen':(ds (b*f)).length=k+2:=by omega
   rw[dI_length,hlen']at lvv
   simp(disch:=first|(simp;done)|omega|rfl) [-getElem?_pos,lvv]
   have k1a:=(Keeps.refl (h:=h1) (n:=n1)).new (.cells [] 3 true)
   refine run_fn (rmul_fn (a:=a) (b:=f) (((Sl.keep hu k0).keep k1).keep k1a) ((hfr.keep k1).keep k1a) (ds_di a) dF (ds_val a) (by simp[vI]) (by simp;omega)) ?_
   rintro uu h2 n2 k2 huu
   have kle2:=k2.le
   have hne:ds (a*f)≠[]:=fun hc=>by
    rw[ds_eq_nil]at hc
    have:0<a*f:=Nat.mul_pos (by omega) f0
    omega
   have hlaf:(ds (a*f)).length≤(ds a).length+1:=by
    apply ds_len_lt
    have g1:=vI_lt (ds_di a)
    rw[ds_val,pI_nat]at g1
    have g2:a<1000000000^(ds a).length:=by exact_mod_cast g1
    rw[Nat.pow_succ]
    exact Nat.mul_lt_mul'' g2 f1
   have hemp:=(k2.get n1 (by omega)).trans (show _=some (.cells [] 3 true) by simp)
   have hap:=append_first (w:=[]) hemp huu hne (by omega)
   simp(disch:=first|(simp;done)|omega|rfl) [-getElem?_pos,hap,lu]
   have hN2:N≤n2:=by omega
   have kk2:=(((k0.trans k1).trans k1a).trans k2)
   refine run_loopD [(11,11),(63,71)] (fun e r st=>e=.exit 0∧PdI N h2 n2 (ds a).length ((a*f:Nat):Int) 0 r st) (PdI N h2 n2 (ds a).length ((a*f:Nat):Int)) ((ds a).length+1-(ds (a*f)).length) ?_ ?_ ?_
   ·refine⟨by simp,Keeps.refl.new _,_,ds (a*f),by simp;rfl,⟨fun q hq=>?_,.inr ⟨n2,by rw[rowsI_len],Nat.le_refl _,by show n2<n2+1;omega,by simp[rowsI_flat]⟩⟩,by omega,ds_val _,ds_di _⟩
    simp[rowsI]at hq
    obtain⟨q',_,rfl⟩:=hq
    rfl
   ·exact pad_loop (((Sl.keep hu k0).keep k1).keep k1a |>.keep k2) rfl (by omega) (by simp)
   ·rintro _ r ⟨H,n3,W⟩ hr ⟨rfl,hW,hK,u3,l,h11,ho,hm,hval,hdl⟩
    simp only at hW hK ho
    obtain⟨_,⟨h0,_⟩|⟨iu,hu3,i1,i2,i3⟩⟩:=ho
    ·simp[rowsI]at h0;rw[h0]at hm;simp at hm
    ·rw[rowsI_len]at hu3
     rw[rowsI_flat]at i3
     subst hu3
     have hlu:l.length=(ds a).length+1:=by omega
     have hka:k+2<l.length:=by omega
     obtain⟨S,hS⟩:∃S,S=l.length-(k+2):=⟨_,rfl⟩
     have cS:((l.length:Int)-((k:Int)+2))=(S:Int):=by omega
     have oN:=oldIds_le hN2 hW
     have kH:=hK.new (.cells (dI (List.replicate S 0)) 3 true)
     have nle:=hK.le
     have mz:(zrep [.int .i64 0] S:List V)=dI (List.replicate S 0):=dI_zeros
     simp(disch:=first|(simp;done)|omega|rfl) [-getElem?_pos,hr,h11,cS,mz]
     have hvY:=Dn.keep hvv (k1a.trans k2)
     have hval':vI l=(a*f:Nat):=hval
     refine run_loopD [(13,21),(82,191)] (fun e r st=>e=.exit 2∧OuI N h2 n2 iu n3 (n3+1) l.length (k+2) ((a*f:Nat):Int) (ds (b*f)) 0 r st) (OuI N h2 n2 iu n3 (n3+1) l.length (k+2) ((a*f:Nat):Int) (ds (b*f))) S ?_ ?_ ?_
     ·refine⟨l,List.replicate S 0,⟨oN,kH,rfl,?_,by simp⟩,by simp,rfl,by simp[hS],by omega,hdl,Di.zeros _,fun s h1 h2=>by omega,?_,fun s hs=>by simp[hs],by rw[vI_zeros,hval];simp⟩
      ·rw[T.get_set,if_neg (by omega)];exact i3
      ·obtain⟨x',hx',x0,x1,lo,hi⟩:=ds_bounds (b:=b) (k:=k+1) (by omega)
       have g1:=vI_lt (ds_di a)
       rw[ds_val,show (ds a).length=S+(k+1) by omega,pI_add]at g1
       have g2:=vI_split l S (by omega)
       have g3:=vI_nn (hdl.take S)
       have g4:pI (k+1)*1≤pI (k+1)*x':=Int.mul_le_mul_of_nonneg_left (by omega) (Int.le_of_lt (pI_pos _))
       have g5:pI S*pI (k+1)≤pI S*b:=Int.mul_le_mul_of_nonneg_left (by omega) (Int.le_of_lt (pI_pos _))
       have g6:(a:Int)*f<pI S*b*f:=Int.mul_lt_mul_of_pos_right (by omega) (by omega)
       rw[ds_val]
       apply Int.lt_of_not_ge
       intro hc
       have g7:pI S*((b*f:Nat):Int)≤pI S*vI (l.drop S):=Int.mul_le_mul_of_nonneg_left hc (Int.le_of_lt (pI_pos _))
       have g8:pI S*((b*f:Nat):Int)=pI S*b*f:=by push_cast;grind
       have g9:((a*f:Nat):Int)=(a:Int)*f:=by push_cast;rfl
       omega
     ·exact out_loop hvY hlen' (ds_di _) hy1 hy5 hka (by omega) (by simp[hr]) (by simp[hr]) (by simp[hr,h11]) (by simp[hS]) hN2 i1 i2 (Nat.lt_succ_self n3)
     ·rintro _ r4 ⟨H4,n4,W4⟩ hr4 ⟨rfl,U,Q,⟨hW4,hK4,hn4,ru4,rq4⟩,r13,hUl,hQl,_,dU,dQ,hz,hdr,_,hfin⟩
      simp only at hW4 hK4 hn4 ru4 rq4
      subst hn4
      rw[List.drop_zero]at hdr
      rw[ds_val]at hdr hfin
      obtain⟨qn,hqn⟩:=Int.eq_ofNat_of_zero_le (vI_nn dQ)
      obtain⟨un,hun⟩:=Int.eq_ofNat_of_zero_le (vI_nn dU)
      rw[hqn,hun]at hfin
      rw[hun]at hdr
      have hfn:un+b*f*qn=a*f:=by exact_mod_cast hfin
      have hdn:un<b*f:=by exact_mod_cast hdr
      have m1:a/b=qn:=by
       have:a*f/(b*f)=qn:=by
        rw[←hfn,Nat.add_mul_div_left _ _ (by omega),Nat.div_eq_of_lt hdn,Nat.zero_add]
       rw[←this,Nat.mul_div_mul_right _ _ f0]
      have m2:un/f=a%b:=by
       have:a*f%(b*f)=un:=by rw[←hfn,Nat.add_mul_mod_self_left,Nat.mod_eq_of_lt hdn]
       rw[←this,Nat.mul_mod_mul_right,Nat.mul_div_cancel _ f0]
      have hsU:Sl H4 (n3+1) (.slice iu 0 l.length none 1) (dI U):=Sl.row (by omega) ru4 (by simp[hUl]) (fun k hk=>by cases hk)
      have hsQ:Sl H4 (n3+1) (.slice n3 0 S (some S) 1) (dI Q):=Sl.row (by omega) rq4 (by simp[hQl,hS]) (fun k hk=>by simp at hk;omega)
      obtain⟨v',e1,e2⟩:=sliceK_sl (w:=[]) hsU (lo:=0) (hi:=k+2) (by omega) (by rw[dI_length];omega) none (some (.int .i64 ((k+2:Nat):Int))) (.inr ⟨rfl,rfl⟩) (.inl rfl)
      have e3:((dI U).take (k+2)).drop 0=dI (U.take (k+2)):=by rw[List.drop_zero,dI,←List.map_take];rfl
      rw[e3]at e2
      have ck:((k+2:Nat):Int)=(k:Int)+2:=by omega
      rw[ck]at e1
      have frow:=(hK4.get N (by omega)).trans ((k2.get N (by omega)).trans ((show _=h1.get N by simp;omega).trans ((k1.get N (by omega)).trans (show _=some (.cells [.int .i64 (f:Int)] 3 true) by simp))))
      have hdU2:vI (U.take (k+2))=un:=by
       rw[←hun]
       exact(vI_take_zero (fun t h1 h2=>hz t (by omega) (by omega))).symm
      simp(disch:=first|(simp;done)|omega|rfl) [-getElem?_pos,hr,hr4,h11,op_sliceSl_K,evOpt,e1]
      refine run_fn (rtrim_fn e2 (by simp;omega)) ?_
      rintro y5 h5 n5 k5 hy5'
      rw[trimI_eq (dU.take _) hdU2]at hy5'
      have kle5:=k5.le
      have frow5:=(k5.get N (by omega)).trans frow
      have lt5:N<n5:=by omega
      have lt4:iu<n3+1:=by omega
      have lenun:(ds un).length<1099511627776:=by
       have:(ds un).length≤(ds (b*f)).length:=ds_mono (by omega)
       omega
      simp(disch:=first|(simp;done)|omega|rfl) [-getElem?_pos,hr,hr4,frow5]
      refine run_fn (divDigit_fn (d:=(f:Int)) hy5' (ds_di un) lenun (by omega) (by omega)) ?_
      rintro y6 h6 n6 k6 ⟨q6,rfl,hq6⟩
      have t1:(vI (ds un)).toNat=un:=by rw[ds_val];omega
      have t2:((f:Nat):Int).toNat=f:=by omega
      rw[t1,t2]at hq6
      rw[m2]at hq6
      generalize ((vI (ds un)).toNat%(f:Int).toNat)=ZZ
      simp(disch:=first|(simp;done)|omega|rfl) [-getElem?_pos,hr,hr4,lt4,lt5]
      refine run_fn (rtrim_fn ((hsQ.keep k5).keep k6) (by omega)) ?_
      rintro y7 h7 n7 k7 hy7
      rw[trimI_eq dQ hqn]at hy7
      have oN4:oldIds N W4=[]:=hW4
      have kall:=(((kk2.trans hK4).trans k5).trans k6).trans k7
      simp(disch:=first|(simp;done)|omega|rfl) [-getElem?_pos,hr,hr4,Ret,oN4]
      refine⟨kall,y7,q6,⟨rfl,rfl⟩,?_,?_⟩
      ·rw[m1];exact hy7
      ·exact Sl.keep hq6 k7
end Go.Mx
namespace Go.Mx
open Go Go.Proofs
set_option maxRecDepth 1000000
def A.lb98_0:MCode:=.seq (.seq (.reg [mv 7 1,ln 8 7,bc 9 .gtr 8 0])
 (.cond (.tmp 9)
 (.skip)
 (.exit 0)))
 (.block 1 (.seq (.reg [mv 11 0,mv 12 1,⟨(some 13),.call (.const (.func 160 [] [])) [(.tmp 11),(.tmp 12)],none⟩,mv 10 13,xt 14 10 0,xt 15 10 1,mv 5 14,mv 6 15])
 (.reg [mv 16 1,mv 17 6,mv 0 16,mv 1 17])))
def A.b98:MCode:=.seq (.reg [⟨(some 4),.mov (.const .nilslice),none⟩])
 (.seq (.block 0 (.loop A.lb98_0))
 (.seq (.reg [mv 18 0,mv 4 18])
 (.ret)))
theorem A.c98:cFunc Tryz.prog 98=some ⟨19,[.tmp 4],A.b98⟩:=by kernel_rfl
def A.k98{K Q f c args st}:=@A.kk 98 _ _ _ A.c98 rfl K Q f c args st
def A.lb158_0:MCode:=.seq (.seq (.reg [mv 16 0,⟨(some 17),.len 0 (.tmp 16),none⟩,bc 18 .gtr 17 9])
 (.cond (.tmp 18)
 (.skip)
 (.exit 0)))
 (.block 1 (.seq (.reg [mv 19 4,mv 20 0,mv 21 0,⟨(some 22),.len 0 (.tmp 21),none⟩,bc 23 .sub 22 9,⟨(some 24),.sliceStr (.tmp 20) (some (.tmp 23)) none,none⟩,⟨(some 25),.call (.const (.func 195 [] [])) [(.tmp 24)],none⟩,⟨(some 26),.bslice 3 1 1 [(.int .i64 0)] [(0,1,(.tmp 25))],none⟩,⟨(some 27),.append 1 8 3 [(.int .i64 0)] (.tmp 19) (.tmp 26),none⟩,mv 4 27])
 (.reg [mv 28 0,mv 29 0,⟨(some 30),.len 0 (.tmp 29),none⟩,bc 31 .sub 30 9,⟨(some 32),.sliceStr (.tmp 28) none (some (.tmp 31)),none⟩,mv 0 32])))
def A.b158:MCode:=.seq (.reg [⟨(some 2),.alloc [(.bool false),.nilslice] 203,none⟩])
 (.seq (.reg [mv 5 0,⟨(some 6),.len 0 (.tmp 5),none⟩,bc 7 .gtr 6 0,mv 8 7,⟨(some 9),.mov (.tmp 0),(some (8,true))⟩,⟨(some 10),.idxStr (.tmp 9) (.const (.int .i64 0)),(some (8,true))⟩,⟨(some 11),.bin .eql (.prim .int) true (.tmp 10) (.const (.int .u8 45)),(some (8,true))⟩,⟨(some 12),.pick (.tmp 8) (.tmp 11) (.const (.bool false)),none⟩,mv 3 12])
 (.seq (.seq (.reg [mv 13 3])
 (.cond (.tmp 13)
 (.reg [mv 14 0,⟨(some 15),.sliceStr (.tmp 14) (some (.const (.int .i64 1))) none,none⟩,mv 0 15])
 (.skip)))
 (.seq (.reg [⟨(some 4),.mov (.const .nilslice),none⟩])
 (.seq (.block 0 (.loop A.lb158_0))
 (.seq (.reg [mv 33 3,mv 34 4,mv 35 0,⟨(some 36),.call (.const (.func 195 [] [])) [(.tmp 35)],none⟩,⟨(some 37),.bslice 3 1 1 [(.int .i64 0)] [(0,1,(.tmp 36))],none⟩,⟨(some 38),.append 1 8 3 [(.int .i64 0)] (.tmp 34) (.tmp 37),none⟩,⟨(some 39),.call (.const (.func 196 [] [])) [(.tmp 33),(.tmp 38)],none⟩,⟨none,.store 2 (.tmp 2) (.tmp 39),none⟩])
 (.ret))))))
theorem A.c158:cFunc Tryz.prog 158=some ⟨40,[.cell 2 (some 2)],A.b158⟩:=by kernel_rfl
def A.k158{K Q f c args st}:=@A.kk 158 _ _ _ A.c158 rfl K Q f c args st
theorem common_fn{h:T O}{N:Nat}{u v:V}{a b:Nat}(hu:Dn h N u a)(hv:Dn h N v b)(hl:(ds a).length<1000000000)(hl2:(ds b).length<1000000000):Fn A.C 98 [u,v] h N (fun x h' n'=>Dn h' n' x (Nat.gcd a b)):=by
 intro w
 rw[call_run,A.k98 (by simp)]
 simp(disch:=first|(simp;done)|omega|rfl) [-getElem?_pos,A.b98]
 refine run_loopD [(0,1),(5,17)] (fun e r st=>e=.exit 0∧oldIds N st.w=[]∧Keeps h N st.h st.n∧∃x,r.get 0=some x∧Dn st.h st.n x (Nat.gcd a b)) (fun m r st=>oldIds N st.w=[]∧Keeps h N st.h st.n∧∃x y c,r.get 0=some x∧r.get 1=some y∧Dn st.h st.n x c∧Dn st.h st.n y m∧Nat.gcd c m=Nat.gcd a b∧(ds c).length<1000000000∧(ds m).length<1000000000) b ?_ ?_ ?_
 ·exact⟨by simp,Keeps.refl,u,v,a,by simp,by simp,hu,hv,rfl,hl,hl2⟩
 ·rintro m r ⟨H,n1,W⟩ hr hf ⟨hW,hK,x,y,c,h0,h1,hx,hy,hg,l1,l2⟩
  simp only at hW hK hx hy
  have ly:=hy.len
  rw[dI_length]at ly
  rw[code_run]
  by_cases hm:m=0
  ·subst hm
   have z0:(ds 0).length=0:=by rw[ds_zero];rfl
   rw[z0]at ly
   simp at hg
   simp(disch:=first|(simp;done)|omega|rfl) [-getElem?_pos,A.lb98_0,hr,hf,h0,h1,ly,hW,hK]
   rw[←hg];exact hx
  ·have hne:(ds m).length≠0:=fun hc=>hm (ds_eq_nil.1 (List.eq_nil_of_length_eq_zero hc))
   have p1:(0:Int)<((ds m).length:Int):=by omega
   have p2:0<(ds m).length:=by omega
   have p3:ds m≠[]:=fun hc=>hne (by rw[hc];rfl)
   simp(disch:=first|(simp;done)|omega|rfl) [-getElem?_pos,A.lb98_0,hr,hf,h0,h1,ly,p1,p2,p3]
   refine run_fn (rdiv_fn hx hy (by omega) l1 l2) ?_
   rintro z h3 n3 k3 ⟨q,r',rfl,hq,hr'⟩
   simp(disch:=first|(simp;done)|omega|rfl) [-getElem?_pos,hr,hf,h0,h1,hW]
   refine⟨c%m,Nat.mod_lt _ (by omega),hK.trans k3,m,hy.keep k3,hr',?_,l2,?_⟩
   ·rw[←hg,Nat.gcd_comm c m,Nat.gcd_rec m c,Nat.gcd_comm]
   ·have:=ds_mono (a:=c%m) (b:=m) (Nat.le_of_lt (Nat.mod_lt _ (by omega)));omega
 ·rintro _ r ⟨H,n1,W⟩ hr ⟨rfl,hW,hK,x,h0,hx⟩
  simp only at hW hK hx
  simp(disch:=first|(simp;done)|omega|rfl) [-getElem?_pos,hr,h0,Ret,hW,hK]
  exact hx
theorem numV_app(x:Str):∀(y:Str),numV (x++y)=numV x*10^y.length+numV y:=by
 have key:∀(y:Str) (n:Nat),y.foldl (fun n (c:UInt8)=>10*n+(c.toNat-48)) n=n*10^y.length+y.foldl (fun n (c:UInt8)=>10*n+(c.toNat-48)) 0:=by
  intro y
  induction y with
  |nil=>simp
  |cons c y ih=>
   intro n
   rw[List.foldl_cons,List.foldl_cons,ih,ih (10*0+(c.toNat-48)),List.length_cons,Nat.pow_succ]
   grind
 intro y
 unfold numV
 rw[List.foldl_append,key]
theorem allD_take{s:Str}(h:allD s=true)(k:Nat):allD (s.take k)=true:=by
 unfold allD at*
 rw[List.all_eq_true]at*
 exact fun c hc=>h c (List.mem_of_mem_take hc)
theorem allD_drop{s:Str}(h:allD s=true)(k:Nat):allD (s.drop k)=true:=by
 unfold allD at*
 rw[List.all_eq_true]at*
 exact fun c hc=>h c (List.mem_of_mem_drop hc)
def PsI(h0:T O)(N:Nat)(s:Str)(m:Nat)(r:T V)(st:St):Prop:=oldIds N st.w=[]∧Keeps h0 N st.h st.n∧∃cur w l,r.get 0=some (.str cur)∧cur.length=m∧1≤m∧m≤s.length∧allD cur=true∧r.get 4=some w∧Own 1 3 N st.h st.n w (rowsI l)∧Di l∧l.length+m≤s.length∧vI l+pI l.length*(numV cur:Nat)=(numV s:Nat)
theorem parse_fn{s:Str}(hd:allD s=true)(h1:1≤s.length)(h2:s.length≤100000){h:T O}{N:Nat}:Fn A.C 158 [.str s] h N (fun v h' n'=>Rg h' n' v (numV s:Nat)):=by
 intro w
 obtain⟨c,hc⟩:=get_of_lt (l:=s) (k:=0) (by omega)
 have hcd:=allD_get hd hc
 have hc0:s.head?=some c:=by cases s with
  |nil=>simp at hc
  |cons=>simpa using hc
 have a1:¬u8I c=45:=by omega
 have a2:(0:Int)<(s.length:Int):=by omega
 have a3:0<s.length:=by omega
 have hne:s≠[]:=fun h=>by rw[h]at h1;simp at h1
 rw[call_run,A.k158 (by simp)]
 simp(disch:=first|(simp;done)|omega|rfl) [-getElem?_pos,A.b158,a1,a2,a3,hne,hc0,hc,eqPrim]
 refine run_loopD [(0,0),(4,4),(16,32)] (fun e r st=>e=.exit 0∧∃m,m≤9∧PsI (h.set N (.cells [.bool false,.nilslice] 203 true)) (N+1) s m r st) (PsI (h.set N (.cells [.bool false,.nilslice] 203 true)) (N+1) s) s.length ?_ ?_ ?_
 ·exact⟨by simp,Keeps.refl,s,.nilslice,[],by simp,rfl,h1,Nat.le_refl _,hd,by simp,Own.nil,Di.nil,by simp,by simp[vI,pI]⟩
 ·rintro m r ⟨H,n1,W⟩ hr hf ⟨hW,hK,cur,u,l,g0,hcl,m1,m2,hcd,g4,ho,hdi,hll,hv⟩
  simp only at hW hK ho
  subst hcl
  rw[code_run]
  by_cases h9:9<cur.length
  ·have h9':(9:Int)<(cur.length:Int):=by omega
   have nle:=hK.le
   have hvd:=value_eq (s:=cur.drop (cur.length-9)) (st:=⟨H,n1,W⟩) (allD_drop hcd _) (by simp;omega)
   have hcn:((cur.length:Int)-9).toNat=cur.length-9:=by omega
   have hnv:=numV_lt' (allD_drop hcd (cur.length-9))
   have hdl:(cur.drop (cur.length-9)).length=9:=by simp;omega
   rw[hdl]at hnv
   have hsp:=numV_app (cur.take (cur.length-9)) (cur.drop (cur.length-9))
   rw[List.take_append_drop,hdl,show (10:Nat)^9=1000000000 by decide]at hsp
   generalize hD:numV (cur.drop (cur.length-9))=D at*
   obtain⟨v',h',w',e1,e2,e3,e4,e5⟩:=append_own (x:=[.int .i64 (D:Int)]) (u:=.slice n1 0 1 (some 1) 1) (bytes:=8) (w:=W) (ho.keep (Keeps.refl.new (.cells [.int .i64 (D:Int)] 3 true))) (by omega) (by decide) rfl (by simp[srcCells,St.row,slc]) (by rw[rowsI_len];omega)
   rw[←rowsI_snoc]at e5
   simp(disch:=first|(simp;done)|omega|rfl) [-getElem?_pos,A.lb158_0,hr,hf,g0,g4,h9,h9',hcn,evOpt,hvd,splice,e1]
   refine⟨cur.length-9,by omega,⟨by rw[e2];exact hW,(hK.new _).then e3,cur.take (cur.length-9),v',l++[(D:Int)],by simp,by simp,by omega,by omega,allD_take hcd _,by simp,e5,hdi.app (Di.one (by omega) (by omega)),by simp;omega,?_⟩⟩
   rw[vI_snoc,List.length_append,List.length_singleton,pI_succ,←hv]
   have hsp':((numV cur:Nat):Int)=(numV (cur.take (cur.length-9)):Nat)*1000000000+D:=by omega
   rw[hsp']
   generalize ((numV (cur.take (cur.length-9)):Nat):Int)=X
   generalize pI l.length=P
   grind
  ·have h9':¬(9:Int)<(cur.length:Int):=by omega
   simp(disch:=first|(simp;done)|omega|rfl) [-getElem?_pos,A.lb158_0,hr,hf,g0,h9,h9']
   exact⟨cur.length,by omega,hW,hK,cur,u,l,by simp[g0],rfl,m1,m2,hcd,by simp[g4],ho,hdi,hll,hv⟩
 ·rintro _ r ⟨H,n1,W⟩ hr ⟨rfl,m,m9,hW,hK,cur,u,l,g0,hcl,m1,m2,hcd,g4,ho,hdi,hll,hv⟩
  simp only at hW hK ho
  subst hcl
  have nle:=hK.le
  have hvd:=value_eq (s:=cur) (st:=⟨H,n1,W⟩) hcd (by omega)
  have hnv:=numV_lt' hcd
  have hp9:=p10_le m9
  generalize hD:numV cur=D at*
  obtain⟨v',h',w',e1,e2,e3,e4,e5⟩:=append_own (x:=[.int .i64 (D:Int)]) (u:=.slice n1 0 1 (some 1) 1) (bytes:=8) (w:=W) (ho.keep (Keeps.refl.new (.cells [.int .i64 (D:Int)] 3 true))) (by omega) (by decide) rfl (by simp[srcCells,St.row,slc]) (by rw[rowsI_len];omega)
  rw[←rowsI_snoc]at e5
  simp(disch:=first|(simp;done)|omega|rfl) [-getElem?_pos,hr,g0,g4,hvd,splice,e1]
  have hdi2:Di (l++[(D:Int)]):=hdi.app (Di.one (by omega) (by omega))
  refine run_fn (signed_fn (n:=numV s) e5.sl hdi2 (by rw[vI_snoc];exact hv) (by simp;omega)) ?_
  rintro y h5 n5 k5 hy
  have kk:=((hK.new (.cells [.int .i64 (D:Int)] 3 true)).then e3).trans k5
  have kle:=kk.le
  have nrow:=kk.get N (by omega)
  simp at nrow
  obtain⟨u5,rfl,hu5⟩:=hy
  have hu6:=fun c1 (hc:c1.length=2)=>Sl.setInt (i:=N) (c1:=c1) (e1:=203) (w1:=true) hu5 nrow (by intro x hx k m;simp at hx;rcases hx with rfl|rfl<;>simp) hc
  have huo:=Sl.form hu5 |>.one
  unfold V.one at huo
  have ow:oldIds N w'=[]:=oldIds_le (Nat.le_succ N) (by rw[e2];exact hW)
  have k0:=(Keeps.refl (h:=h) (n:=N)).new (.cells [.bool false,.nilslice] 203 true)
  simp(disch:=first|(simp;done)|omega|rfl) [-getElem?_pos,hr,nrow,splice,storeK2,huo,partV,slc,Ret,ow]
  exact⟨(k0.trans kk).set (Nat.le_refl N),u5,by simp,by simpa[Dn]using hu6 _ rfl⟩
end Go.Mx
