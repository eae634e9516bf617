/-
  Calls that write some of what was there; a select with a default; rows that are shortened.
-/
import Derived.Test.YtppobccilnifoaaGreatDoorMxGr3
import Derived.Test.YtppobccilnifoaaGreatDoorMxWord
set_option linter.all false
namespace Go.Mx
open Go
structure Upd (D:Nat→Prop) (h:T O) (n:Nat) (h':T O) (n':Nat):Prop where
 le:n≤n'
 get:∀i,i<n→¬D i→h'.get i=h.get i
theorem Upd.refl{D:Nat→Prop}{h:T O}{n:Nat}:Upd D h n h n:=⟨Nat.le_refl _,fun _ _ _=>rfl⟩
theorem Keeps.upd{D:Nat→Prop}{h h':T O}{n n':Nat}(k:Keeps h n h' n'):Upd D h n h' n':=⟨k.le,fun i hi _=>k.get i hi⟩
theorem Upd.trans{D:Nat→Prop}{h h1 h2:T O}{n n1 n2:Nat}(a:Upd D h n h1 n1)(b:Upd D h1 n1 h2 n2):Upd D h n h2 n2:=
 ⟨Nat.le_trans a.le b.le,fun i hi hd=>(b.get i (Nat.lt_of_lt_of_le hi a.le) hd).trans (a.get i hi hd)⟩
theorem Upd.then{D D2:Nat→Prop}{h h1 h2:T O}{n n1 n2:Nat}(a:Upd D h n h1 n1)(b:Upd D2 h1 n1 h2 n2)(hd:∀i,i<n→D2 i→D i):Upd D h n h2 n2:=
 ⟨Nat.le_trans a.le b.le,fun i hi hn=>(b.get i (Nat.lt_of_lt_of_le hi a.le) fun hc=>hn (hd i hi hc)).trans (a.get i hi hn)⟩
theorem Upd.mono{D D2:Nat→Prop}{h h1:T O}{n n1:Nat}(a:Upd D h n h1 n1)(hd:∀i,i<n→D i→D2 i):Upd D2 h n h1 n1:=⟨a.le,fun i hi hn=>a.get i hi fun hc=>hn (hd i hi hc)⟩
theorem Upd.set{D:Nat→Prop}{h h1:T O}{n n1 i:Nat}{o:O}(a:Upd D h n h1 n1)(hi:D i∨n≤i):Upd D h n (h1.set i o) n1:=
 ⟨a.le,fun j hj hd=>by
  rw[T.get_set,if_neg ?_]
  ·exact a.get j hj hd
  ·rintro rfl
   rcases hi with hi|hi
   ·exact hd hi
   ·omega⟩
theorem Upd.up{D:Nat→Prop}{h h1:T O}{n n1 n2:Nat}(a:Upd D h n h1 n1)(hn:n1≤n2):Upd D h n h1 n2:=⟨Nat.le_trans a.le hn,a.get⟩
theorem Upd.new{D:Nat→Prop}{h h1:T O}{n n1:Nat}(a:Upd D h n h1 n1)(o:O):Upd D h n (h1.set n1 o) (n1+1):=(a.set (.inr a.le)).up (Nat.le_succ _)
theorem Upd.keeps{D:Nat→Prop}{h h1:T O}{n n1 m:Nat}(a:Upd D h n h1 n1)(hm:m≤n)(hd:∀i,D i→m≤i):Keeps h m h1 n1:=⟨Nat.le_trans hm a.le,fun i hi=>a.get i (Nat.lt_of_lt_of_le hi hm) fun hc=>by have:=hd i hc;omega⟩
def RetD(D:Nat→Prop)(P:V→T O→Nat→Prop)(h:T O)(n:Nat)(w:List Nat)(v:V)(st:St):Prop:=(∀i∈st.w,i∈w∨D i)∧Upd D h n st.h st.n∧P v st.h st.n
abbrev FnD(C:Cx)(D:Nat→Prop)(f:Nat)(args:List V)(h:T O)(n:Nat)(P:V→T O→Nat→Prop):Prop:=∀w,Call C (.func f [] []) args ⟨h,n,w⟩ (RetD D P h n w)
theorem run_fnD{C:Cx}{D:Nat→Prop}{f args h n w P K Q}(hf:FnD C D f args h n P)(k:∀v h' n' w',(∀i∈w',i∈w∨D i)→Upd D h n h' n'→P v h' n'→Run C K (some (.val v ⟨h',n',w'⟩)) Q):Run C K (valR (C.call (.func f [] []) args ⟨h,n,w⟩)) Q:=
 run_call (hf w) fun v st'=>by
  obtain⟨h',n',w'⟩:=st'
  rintro⟨hw,hk,hp⟩
  exact k v h' n' w' hw hk hp
theorem mem_old{N i:Nat}:∀{w:List Nat},i∈oldIds N w→i∈w∧i<N
 |[],h=>by simp[oldIds]at h
 |j::w,h=>by
  simp only[oldIds]at h
  split at h
  ·unfold noteId at h
   split at h
   ·have:=mem_old h;exact⟨List.mem_cons_of_mem _ this.1,this.2⟩
   ·rcases List.mem_cons.1 h with h|h
    ·subst h;exact⟨List.mem_cons_self,by assumption⟩
    ·have:=mem_old h;exact⟨List.mem_cons_of_mem _ this.1,this.2⟩
  ·have:=mem_old h;exact⟨List.mem_cons_of_mem _ this.1,this.2⟩
theorem retD_fin{D:Nat→Prop}{P:V→T O→Nat→Prop}{h:T O}{N:Nat}{w w1:List Nat}{v:V}{h1:T O}{n1:Nat}(hw:∀i∈w1,i<N→D i)(hu:Upd D h N h1 n1)(hp:P v h1 n1):RetD D P h N w v ⟨h1,n1,oldIds N w1++w⟩:=
 ⟨fun i hi=>by
  rcases List.mem_append.1 hi with hi|hi
  ·exact .inr (hw i (mem_old hi).1 (mem_old hi).2)
  ·exact .inl hi,hu,hp⟩
theorem oldIds_nil{N:Nat}:oldIds N []=[]:=rfl
attribute [simp] oldIds_nil
theorem old_nil{N:Nat}{w:List Nat}(h:∀i∈w,N≤i):oldIds N w=[]:=oldIds_new h
def selV2(st:St)(i:Nat)(send:Option V)(zero:V):Option O→Option (V×St)
 |some (.chan cap buf)=>match send with
  |some v=>if buf.length<cap then some (.tup [.int .i64 0,.bool false],st.write i (.chan cap (buf++[v]))) else some (.tup [.int .i64 (-1),.bool false],st)
  |none=>match buf with
   |v::buf=>some (.tup [.int .i64 0,.bool true,v],st.write i (.chan cap buf))
   |[]=>some (.tup [.int .i64 (-1),.bool false,zero],st)
 |_=>none
theorem selV_K{st:St}{i:Nat}{send:Option V}{zero:V}:selV st i send zero=selV2 st i send zero (st.h.get i):=by
 unfold selV selV2
 rcases st.h.get i with _|o
 ·rfl
 ·cases o with
  |chan cap buf=>cases send with
   |some v=>rfl
   |none=>cases buf<;>rfl
  |_=>cases send<;>rfl
def selO(C:Cx)(K:List Kf)(Q:Rs→Prop)(d:Nat)(ops:List MOper)(r:T V)(n:Nat)(m:List Nat):Option (V×St)→Prop
 |some (v,st1)=>Run C (.reg::K) (opsR (mops C.call ops ⟨r.set d v,n,m⟩ st1)) Q
 |none=>False
def selC(C:Cx)(K:List Kf)(Q:Rs→Prop)(d:Nat)(ops:List MOper)(r:T V)(n:Nat)(m:List Nat)(st:St)(zero:V):Option V→Option (Option V)→Prop
 |some (.chan i),some sv=>selO C K Q d ops r n m (selV2 st i sv zero (st.h.get i))
 |_,_=>False
theorem run_regS{C:Cx}{K:List Kf}{Q:Rs→Prop}{ro:Option Nat}{d n:Nat}{ch:Src}{send:Option Src}{zero:V}{ops:List MOper}{r:T V}{m:List Nat}{st:St}(hd:d<n):Run C K (exR (C.code ro (.regS (some d) ch send zero ops) ⟨r,n,m⟩ st)) Q↔selC C K Q d ops r n m st zero (ch.ev r) (evOpt r send):=by
 have e:C.code ro (.regS (some d) ch send zero ops) ⟨r,n,m⟩ st=c_regS (some d) ch send zero ops C.call C.code ro ⟨r,n,m⟩ st:=Cx.code_eq ..
 rw[e]
 unfold c_regS selC
 simp only[]
 rcases ch.ev r with _|v
 ·exact run_none
 ·cases v<;>try exact run_none
  rename_i i
  rcases evOpt r send with _|sv
  ·exact run_none
  ·simp only[selV_K]
   rcases selV2 st i sv zero (st.h.get i)with _|⟨v,st1⟩
   ·exact run_none
   ·simp only[Fr.put,hd,if_true,selO]
    refine run_congr ?_
    show _=unw C K (stepO C .reg (opsR (mops C.call ops ⟨r.set d v,n,m⟩ st1)))
    rcases mops C.call ops ⟨r.set d v,n,m⟩ st1 with _|⟨_,_⟩<;>rfl
theorem selC_some{C K Q d ops r n m st zero i sv}:selC C K Q d ops r n m st zero (some (.chan i)) (some sv)=selO C K Q d ops r n m (selV2 st i sv zero (st.h.get i)):=rfl
theorem selO_some{C K Q d ops r n m v st1}:selO C K Q d ops r n m (some (v,st1))=Run C (.reg::K) (opsR (mops C.call ops ⟨r.set d v,n,m⟩ st1)) Q:=rfl
theorem selV2_full{st:St}{i cap:Nat}{buf:List V}{v zero:V}(h:¬buf.length<cap):selV2 st i (some v) zero (some (.chan cap buf))=some (.tup [.int .i64 (-1),.bool false],st):=by simp[selV2,h]
theorem selV2_room{st:St}{i cap:Nat}{buf:List V}{v zero:V}(h:buf.length<cap):selV2 st i (some v) zero (some (.chan cap buf))=some (.tup [.int .i64 0,.bool false],st.write i (.chan cap (buf++[v]))):=by simp[selV2,h]
theorem selV2_cons{st:St}{i cap:Nat}{buf:List V}{v zero:V}:selV2 st i none zero (some (.chan cap (v::buf)))=some (.tup [.int .i64 0,.bool true,v],st.write i (.chan cap buf)):=rfl
theorem selV2_nil{st:St}{i cap:Nat}{zero:V}:selV2 st i none zero (some (.chan cap []))=some (.tup [.int .i64 (-1),.bool false,zero],st):=rfl
attribute [simp] run_regS selC_some selO_some selV2_cons selV2_nil
def mkchK(st:St)(bytes:Nat):Option V→Option (V×St)
 |some (.int _ k)=>if k<0∨k > IntKind.i64.max∨bytes*k > 2^48-112 then none else some (.chan st.n,st.alloc (.chan k.toNat []))
 |_=>none
theorem op_mkchan_K{bytes:Nat}{x:Src}{call:CallT}{r:T V}{st:St}:op_mkchan bytes x call r st=mkchK st bytes (x.ev r):=by unfold op_mkchan mkchK;rfl
theorem mkchK_some{st:St}{kk:IntKind}{k:Int}(h0:0≤k)(h1:k≤100):mkchK st 16 (some (.int kk k))=some (.chan st.n,st.alloc (.chan k.toNat [])):=by
 unfold mkchK
 simp only[]
 rw[if_neg]
 have:IntKind.i64.max=9223372036854775807:=rfl
 omega
attribute [simp] op_mkchan_K mkchK_some
def rowV:V→List Nat
 |.slice i _ _ _ _=>[i]
 |_=>[]
theorem Sl.moved{D:Nat→Prop}{h h':T O}{N N':Nat}{v:V}{l:List V}(s:Sl h N v l)(k:Upd D h N h' N')(hd:∀i∈rowV v,¬D i):Sl h' N' v l:=by
 rcases s with s|⟨i,o,cp,c,e,rw,rfl,h2,h3,h4⟩
 ·exact .inl s
 ·exact .inr ⟨i,o,cp,c,e,rw,rfl,Nat.lt_of_lt_of_le h2 k.le,(k.get i h2 (hd i (by simp[rowV]))).trans h3,h4⟩
def Row(z:Nat)(e:TypeId)(h:T O)(v:V)(l:List (List V)):Prop:=(∀x∈l,x.length=z)∧((l=[]∧v=.nilslice)∨∃i x m,v=.slice i 0 l.length none z∧x.length=m*z∧h.get i=some (.cells (l.flatten++x) e true))
theorem Row.len{z:Nat}{e:TypeId}{h:T O}{v:V}{l:List (List V)}(s:Row z e h v l):lenV v=some l.length:=by
 obtain⟨_,⟨rfl,rfl⟩|⟨i,x,m,rfl,_⟩⟩:=s<;>rfl
theorem Row.eq{z:Nat}{e:TypeId}{h h':T O}{v:V}{l:List (List V)}(s:Row z e h v l)(k:∀i∈rowV v,h'.get i=h.get i):Row z e h' v l:=by
 obtain⟨h1,⟨rfl,rfl⟩|⟨i,x,m,rfl,hm,h2⟩⟩:=s
 ·exact⟨h1,.inl ⟨rfl,rfl⟩⟩
 ·exact⟨h1,.inr ⟨i,x,m,rfl,hm,(k i (by simp[rowV])).trans h2⟩⟩
theorem Row.sn{z:Nat}{e:TypeId}{h:T O}{N:Nat}{v:V}{l:List (List V)}(s:Row z e h v l)(k:∀i∈rowV v,i<N):Sn z h N v l:=by
 obtain⟨hl,⟨h1,h2⟩|⟨i,x,m,rfl,_,h4⟩⟩:=s
 ·exact .inl ⟨h1,.inl h2⟩
 ·refine .inr ⟨i,0,none,_,e,true,rfl,k i (by simp[rowV]),h4,fun j y hj=>?_,by rw[List.length_append,flatten_len hl];omega,fun k hk=>by cases hk⟩
  have:=flatten_slc hl hj
  obtain⟨q1,q2⟩:=slc_some this
  rw[Nat.zero_add]
  unfold slc
  rw[if_pos (by rw[List.length_append];omega),List.drop_append_of_le_length (by omega),List.take_append_of_le_length (by rw[List.length_drop];omega),←q2]
theorem flat_app(l:List (List V))(x:List V):(l++[x]).flatten=l.flatten++x:=by simp
theorem append_row{z:Nat}{e:TypeId}{h:T O}{N:Nat}{v u:V}{l:List (List V)}{x:List V}{bytes:Nat}{w:List Nat}(s:Row z e h v l)(hN:∀i∈rowV v,i<N)(hz:0<z)(hx:x.length=z)
  (hu:srcCells ⟨h,N,w⟩ z u=some (1,x)) (hb:(2*(l.length+1)+1000)*bytes≤281474976710656):
  ∃v' h' N' w',appendV ⟨h,N,w⟩ z bytes e v u=some (v',⟨h',N',w'⟩)∧(∀i∈w',i∈w∨i∈rowV v)∧Upd (fun i=>i∈rowV v) h N h' N'∧(∀i∈rowV v',i∈rowV v∨(N≤i∧i<N'))∧(rowV v').Nodup∧Row z e h' v' (l++[x]):=by
 obtain⟨hl,s⟩:=s
 have hl':∀y∈l++[x],y.length=z:=fun y hy=>by
  rcases List.mem_append.1 hy with hy|hy
  ·exact hl y hy
  ·simp at hy;rw[hy,hx]
 have hz0:z≠0:=by omega
 rcases s with⟨rfl,rfl⟩|⟨i,y,m,rfl,hm,h4⟩
 ·refine⟨.slice N 0 1 none z,h.set N (.cells x e true),N+1,w,?_,fun i hi=>.inl hi,⟨by omega,fun j hj _=>by rw[T.get_set,if_neg (by omega)]⟩,fun i hi=>by simp[rowV]at hi;omega,by simp[rowV],hl',.inr ⟨N,[],0,by simp,by simp,by rw[T.get_set];simp⟩⟩
  have hb':(2*1+1000)*bytes≤281474976710656:=by simpa using hb
  simp only[appendV,hu,maxBytes,St.alloc]
  simp[hb',hz0]
 ·have hfl:=flatten_len hl
  have hi:=hN i (by simp[rowV])
  simp only[appendV,hu,maxBytes,St.row,h4]
  rw[if_neg (by omega),if_neg (by rintro(h|h|h)<;>omega)]
  simp only[if_true]
  by_cases hr:0+(l.length+1)*z≤(l.flatten++y).length
  ·rw[if_pos hr]
   refine⟨_,_,_,_,rfl,?_,⟨Nat.le_refl _,fun j hj hd=>?_⟩,fun j hj=>.inl hj,by simp[rowV],hl',.inr ⟨i,y.drop z,m-1,by simp,by rw[List.length_drop,hm,Nat.sub_mul,Nat.one_mul],?_⟩⟩
   ·intro j hj
    rcases List.mem_cons.1 hj with hj|hj
    ·exact .inr (by simp[rowV,hj])
    ·exact .inl hj
   ·show (h.set i _).get j=_
    rw[T.get_set,if_neg (by rintro rfl;exact hd (by simp[rowV]))]
   ·show (h.set i _).get i=_
    rw[T.get_set,if_pos rfl]
    have e1:0+l.length*z=l.flatten.length:=by rw[hfl];omega
    unfold splice
    rw[e1,hx,List.take_left,flat_app]
    congr 2
    rw[List.drop_append,List.drop_of_length_le (by omega)]
    simp
  ·rw[if_neg hr]
   have hy:y=[]:=by
    apply List.eq_nil_of_length_eq_zero
    cases m with
    |zero=>simpa using hm
    |succ m=>exact absurd (by rw[List.length_append,hfl,hm];simp only[Nat.add_mul,Nat.one_mul,Nat.zero_add];omega) hr
   ·subst hy
    rw[List.append_nil,if_pos ⟨by rw[hfl];omega,trivial,trivial⟩]
    refine⟨_,_,_,_,rfl,?_,⟨Nat.le_succ _,fun j hj hd=>?_⟩,fun j hj=>by simp[rowV]at hj;exact .inr ⟨by omega,by show j<N+1;omega⟩,by simp[rowV],hl',.inr ⟨N,[],0,by simp,by simp,?_⟩⟩
    ·intro j hj
     rcases List.mem_cons.1 hj with hj|hj
     ·exact .inr (by simp[rowV,hj])
     ·exact .inl hj
    ·show ((h.set i _).set N _).get j=_
     rw[T.get_set,if_neg (by omega),T.get_set,if_neg (by rintro rfl;exact hd (by simp[rowV]))]
    ·show ((h.set i _).set N _).get N=_
     rw[T.get_set,if_pos rfl,flat_app];simp
theorem sl_none{h:T O}{N:Nat}{w:List Nat}{z i n m:Nat}{c:List V}{e:TypeId}{rw:Bool}(hz:0<z)(hg:h.get i=some (.cells c e rw))(hc:c.length=(n+m)*z){lo hi:Nat}(h1:lo≤hi)(h2:hi≤n+m)(x y:Option V)(hx:x=some (.int .i64 lo)∨x=none∧lo=0)(hy:y=some (.int .i64 hi)∨y=none∧hi=n):
  sliceK ⟨h,N,w⟩ z (some (.slice i 0 n none z)) (some x) (some y) (some none)=some (if lo<n+m then .slice i (lo*z) (hi-lo) none z else .empty,⟨h,N,w⟩):=by
 have hk:max n ((c.length-0)/z)=n+m:=by rw[hc,Nat.sub_zero,Nat.mul_div_cancel _ hz];omega
 have b1:boundO y (n+m) n=some hi:=by
  rcases hy with rfl|⟨rfl,rfl⟩
  ·simp[boundO,bound];omega
  ·rfl
 have b2:boundO x hi 0=some lo:=by
  rcases hx with rfl|⟨rfl,rfl⟩
  ·simp[boundO,bound];omega
  ·rfl
 have hz0:z≠0:=by omega
 simp only[sliceK,op_sliceSl,evOpt_const,Src.ev,St.row,hg]
 simp only[hk,b1,b2]
 by_cases hlt:lo<n+m<;>simp[hlt,hz0]
theorem sl_three{h:T O}{N:Nat}{w:List Nat}{z i n m:Nat}{c:List V}{e:TypeId}{rw:Bool}(hz:0<z)(hg:h.get i=some (.cells c e rw))(hc:c.length=(n+m)*z){lo hi:Nat}(h1:lo≤hi)(h2:hi≤n):
  ∃u,sliceK ⟨h,N,w⟩ z (some (.slice i 0 n none z)) (some (some (.int .i64 lo))) (some (some (.int .i64 hi))) (some (some (.int .i64 n)))=some (u,⟨h,N,w⟩):=by
 have hk:max n ((c.length-0)/z)=n+m:=by rw[hc,Nat.sub_zero,Nat.mul_div_cancel _ hz];omega
 have hz0:z≠0:=by omega
 simp only[sliceK,op_sliceSl,evOpt_const,Src.ev,St.row,hg]
 simp only[hk]
 simp only[boundO,bound]
 have a1:(0:Int)≤n∧(n:Int)≤((n+m:Nat):Int):=by omega
 have a2:(0:Int)≤hi∧(hi:Int)≤((n:Nat):Int):=by omega
 have a3:(0:Int)≤lo∧(lo:Int)≤((hi:Nat):Int):=by omega
 simp[hz0,a1,a2,a3]
 have a4:(n:Int)≤(n:Int)+(m:Int):=by omega
 simp[a4,h1,h2]
def clearK(st:St)(size:Nat)(zero:List V):Option V→Option (V×St)
 |some v=>op_clear size zero (.const v) callNone .nil st
 |none=>none
theorem op_clear_K{size:Nat}{zero:List V}{x:Src}{call:CallT}{r:T V}{st:St}:op_clear size zero x call r st=clearK st size zero (x.ev r):=by
 unfold op_clear clearK
 rcases x.ev r with _|v
 ·rfl
 ·cases v<;>rfl
theorem zrep_o1{zero:List V}(h:zero≠[]):zrep zero 1=zero:=by
 unfold zrep
 apply List.ext_getElem?
 intro j
 have hl:0<zero.length:=by cases zero with|nil=>exact absurd rfl h|cons=>simp
 simp only[Nat.one_mul,List.getElem?_map]
 by_cases hj:j<zero.length
 ·simp[hj,Nat.mod_eq_of_lt hj]
 ·simp[hj]
theorem flat_len{z:Nat}{l:List (List V)}(h:∀x∈l,x.length=z)(k:Nat):(l.drop k).flatten.length=(l.length-k)*z∧(l.take k).flatten.length=min k l.length*z:=by
 constructor
 ·rw[flatten_len (z:=z) fun x hx=>h x (List.mem_of_mem_drop hx),List.length_drop]
 ·rw[flatten_len (z:=z) fun x hx=>h x (List.mem_of_mem_take hx),List.length_take]
structure DelE (z bytes:Nat) (e:TypeId) (zero:List V) (h:T O) (N:Nat) (v:V) (l:List (List V)) (k:Nat) (v1 v2 v3 v4:V) (h3 h4:T O) (w3:List Nat):Prop where
 a:∀w,∃u,sliceK ⟨h,N,w⟩ z (some v) (some (some (.int .i64 k))) (some (some (.int .i64 ((k:Int)+1)))) (some (some (.int .i64 l.length)))=some (u,⟨h,N,w⟩)
 b:∀w,sliceK ⟨h,N,w⟩ z (some v) (some none) (some (some (.int .i64 k))) (some none)=some (v1,⟨h,N,w⟩)
 c:∀w,sliceK ⟨h,N,w⟩ z (some v) (some (some (.int .i64 ((k:Int)+1)))) (some none) (some none)=some (v2,⟨h,N,w⟩)
 d:∀w,appendV ⟨h,N,w⟩ z bytes e v1 v2=some (v3,⟨h3,N,w3++w⟩)
 len:lenV v3=some (l.length-1)
 f:∀w,sliceK ⟨h3,N,w⟩ z (some v3) (some (some (.int .i64 ((l.length-1:Nat):Int)))) (some (some (.int .i64 l.length))) (some none)=some (v4,⟨h3,N,w⟩)
 g:∀w,∃i,i∈rowV v∧clearK ⟨h3,N,w⟩ z zero (some v4)=some (.tup [],⟨h4,N,i::w⟩)
 w:∀i∈w3,i∈rowV v
 upd:Upd (fun i=>i∈rowV v) h N h4 N
 ids:rowV v3=rowV v
 row:Row z e h4 v3 (l.take k++l.drop (k+1))
theorem del_row{z bytes:Nat}{e:TypeId}{zero:List V}{h:T O}{N:Nat}{v:V}{l:List (List V)}{k:Nat}(s:Row z e h v l)(hz:0<z)(hzero:zero.length=z)(hk:k<l.length)(hb:(2*(l.length+1)+1000)*bytes≤281474976710656):∃v1 v2 v3 v4 h3 h4 w3,DelE z bytes e zero h N v l k v1 v2 v3 v4 h3 h4 w3:=by
 obtain⟨hl,⟨rfl,_⟩|⟨i,y,m,rfl,hm,hg⟩⟩:=s
 ·simp at hk
 have hfl:=flatten_len hl
 have hcl:(l.flatten++y).length=(l.length+m)*z:=by rw[List.length_append,hfl,hm,Nat.add_mul]
 obtain⟨d1,_⟩:=flat_len hl (k+1)
 obtain⟨_,d2⟩:=flat_len hl k
 rw[Nat.min_eq_left (by omega)]at d2
 have hz0:z≠0:=by omega
 have hzn:zero≠[]:=by intro hc;rw[hc]at hzero;simp at hzero;omega
 have hcut:l.flatten=(l.take k).flatten++(l.drop k).flatten:=by rw[←List.flatten_append,List.take_append_drop]
 have hcut2:l.flatten=(l.take (k+1)).flatten++(l.drop (k+1)).flatten:=by rw[←List.flatten_append,List.take_append_drop]
 obtain⟨_,d3⟩:=flat_len hl (k+1)
 rw[Nat.min_eq_left (by omega)]at d3
 have hall:∀x∈l.take k++l.drop (k+1),x.length=z:=fun x hx=>by
  rcases List.mem_append.1 hx with hx|hx
  ·exact hl x (List.mem_of_mem_take hx)
  ·exact hl x (List.mem_of_mem_drop hx)
 have hlen:(l.take k++l.drop (k+1)).length=l.length-1:=by simp;omega
 have ek:((k:Int)+1)=((k+1:Nat):Int):=by omega
 have hfin:∀c3:List V,c3.length=(l.length+m)*z→c3.take ((l.length-1)*z)=(l.take k++l.drop (k+1)).flatten→c3.drop (l.length*z)=y→splice c3 ((l.length-1)*z) zero=(l.take k++l.drop (k+1)).flatten++(zero++y):=fun c3 e1 e2 e3=>by
  unfold splice
  have:(l.length-1)*z+zero.length=l.length*z:=by rw[hzero,Nat.sub_mul,Nat.one_mul];have:=Nat.le_mul_of_pos_left z (show 0<l.length by omega);omega
  rw[e2,this,e3,List.append_assoc]
 have hslc:slc (l.flatten++y) ((k+1)*z) ((l.length-(k+1))*z)=some (l.drop (k+1)).flatten:=by
  unfold slc
  have:(k+1)*z+(l.length-(k+1))*z=l.length*z:=by rw[←Nat.add_mul];congr 1;omega
  rw[if_pos (by rw[hcl,this,Nat.add_mul];omega),hcut2,List.append_assoc,←d3,List.drop_left,List.take_left' d1]
 have hone:∀w (h3:T O) c3,h3.get i=some (.cells c3 e true)→c3.length=(l.length+m)*z→clearK ⟨h3,N,w⟩ z zero (some (.slice i ((l.length-1)*z) 1 none z))=some (.tup [],⟨h3.set i (.cells (splice c3 ((l.length-1)*z) zero) e true),N,i::w⟩):=fun w h3 c3 e1 e2=>by
  have h1:(l.length-1)*z+1*z≤c3.length:=by rw[e2,←Nat.add_mul];exact Nat.mul_le_mul_right _ (by omega)
  simp only[clearK,op_clear,Src.ev,St.row,e1,zrep_o1 hzn]
  rw[if_neg (by omega),if_neg (by omega),if_pos h1]
  rfl
 by_cases hke:k+1=l.length
 ·refine⟨.slice i (0*z) (k-0) none z,if k+1<l.length+m then .slice i ((k+1)*z) (l.length-(k+1)) none z else .empty,.slice i (0*z) (k-0) none z,.slice i ((l.length-1)*z) 1 none z,h,h.set i (.cells (splice (l.flatten++y) ((l.length-1)*z) zero) e true),[],?_⟩
  have hnil:l.drop (k+1)=[]:=List.drop_of_length_le (by omega)
  refine⟨fun w=>?_,fun w=>?_,fun w=>?_,fun w=>?_,?_,fun w=>?_,fun w=>⟨i,by simp[rowV],hone w h _ hg hcl⟩,by simp,Upd.refl.set (.inl (by simp[rowV])),rfl,hall,.inr ⟨i,zero++y,m+1,?_,?_,?_⟩⟩
  ·rw[ek];exact sl_three hz hg hcl (by omega) (by omega)
  ·have:=sl_none (w:=w) (N:=N) hz hg hcl (lo:=0) (hi:=k) (by omega) (by omega) none (some (.int .i64 k)) (.inr ⟨rfl,rfl⟩) (.inl rfl)
   rw[this,if_pos (by omega)]
  ·rw[ek];exact sl_none (w:=w) (N:=N) hz hg hcl (lo:=k+1) (hi:=l.length) (by omega) (by omega) (some (.int .i64 (k+1:Nat))) none (.inl rfl) (.inr ⟨rfl,rfl⟩)
  ·have e0:srcCells ⟨h,N,w⟩ z (if k+1<l.length+m then V.slice i ((k+1)*z) (l.length-(k+1)) none z else .empty)=some (0,[]):=by
    split
    ·simp only[srcCells,St.row,hg,if_true]
     rw[hslc,hnil]
     simp;omega
    ·rfl
   simp only[appendV,e0]
   simp
  ·simp[lenV];omega
  ·have:=sl_none (w:=w) (N:=N) (n:=k) (m:=m+1) hz hg (by rw[hcl];congr 1;omega) (lo:=l.length-1) (hi:=l.length) (by omega) (by omega) (some (.int .i64 (l.length-1:Nat))) (some (.int .i64 l.length)) (.inl rfl) (.inl rfl)
   rw[if_pos (by omega),show l.length-(l.length-1)=1 by omega]at this
   simpa using this
  ·rw[hlen];congr 1<;>omega
  ·rw[List.length_append,hzero,hm,Nat.add_mul];omega
  ·rw[T.get_set,if_pos rfl,hfin _ hcl ?_ ?_]
   ·rw[hnil,List.append_nil,show l.length-1=k by omega,hcut,List.append_assoc,←d2,List.take_left]
   ·rw[←hfl,List.drop_left]
 ·have hgt:k+1<l.length:=by omega
  have hsp:splice (l.flatten++y) (0+k*z) (l.drop (k+1)).flatten=(l.take k++l.drop (k+1)).flatten++(l.flatten++y).drop (k*z+(l.length-(k+1))*z):=by
   unfold splice
   rw[d1,Nat.zero_add,List.flatten_append]
   congr 2
   rw[hcut,List.append_assoc,←d2,List.take_left]
  have hm1:k*z+(l.length-(k+1))*z=(l.length-1)*z:=by rw[←Nat.add_mul];congr 1;omega
  rw[hm1]at hsp
  have hcl3:(splice (l.flatten++y) (0+k*z) (l.drop (k+1)).flatten).length=(l.length+m)*z:=by
   rw[hsp,List.length_append,flatten_len hall,hlen,List.length_drop,hcl]
   have:(l.length-1)*z≤(l.length+m)*z:=Nat.mul_le_mul_right _ (by omega)
   omega
  have hg3:(h.set i (.cells (splice (l.flatten++y) (0+k*z) (l.drop (k+1)).flatten) e true)).get i=some (.cells (splice (l.flatten++y) (0+k*z) (l.drop (k+1)).flatten) e true):=by rw[T.get_set,if_pos rfl]
  refine⟨.slice i (0*z) (k-0) none z,.slice i ((k+1)*z) (l.length-(k+1)) none z,.slice i 0 (l.length-1) none z,.slice i ((l.length-1)*z) 1 none z,h.set i (.cells (splice (l.flatten++y) (0+k*z) (l.drop (k+1)).flatten) e true),_,[i],fun w=>?_,fun w=>?_,fun w=>?_,fun w=>?_,rfl,fun w=>?_,fun w=>⟨i,by simp[rowV],hone w _ _ hg3 hcl3⟩,by simp[rowV],(Upd.refl.set (.inl (by simp[rowV]))).set (.inl (by simp[rowV])),rfl,hall,.inr ⟨i,zero++y,m+1,?_,?_,?_⟩⟩
  ·rw[ek];exact sl_three hz hg hcl (by omega) (by omega)
  ·have:=sl_none (w:=w) (N:=N) hz hg hcl (lo:=0) (hi:=k) (by omega) (by omega) none (some (.int .i64 k)) (.inr ⟨rfl,rfl⟩) (.inl rfl)
   rw[this,if_pos (by omega)]
  ·have:=sl_none (w:=w) (N:=N) hz hg hcl (lo:=k+1) (hi:=l.length) (by omega) (by omega) (some (.int .i64 (k+1:Nat))) none (.inl rfl) (.inr ⟨rfl,rfl⟩)
   rw[ek,this,if_pos (by omega)]
  ·have e0:srcCells ⟨h,N,w⟩ z (V.slice i ((k+1)*z) (l.length-(k+1)) none z)=some (l.length-(k+1),(l.drop (k+1)).flatten):=by
    simp only[srcCells,St.row,hg,if_true]
    rw[hslc]
   have hb2:¬281474976710656<(2*(k-0+(l.length-(k+1)))+1000)*bytes:=by
    have:(2*(k-0+(l.length-(k+1)))+1000)*bytes≤(2*(l.length+1)+1000)*bytes:=Nat.mul_le_mul_right _ (by omega)
    omega
   have hfit:0*z+(k-0+(l.length-(k+1)))*z≤(l.flatten++y).length:=by
    rw[hcl,Nat.zero_mul,Nat.zero_add];exact Nat.mul_le_mul_right _ (by omega)
   simp only[appendV,e0,maxBytes,St.row,hg]
   rw[if_neg (by omega),if_neg (by rintro(h|h|h)<;>omega)]
   simp only[if_true]
   rw[if_pos hfit]
   simp only[Nat.zero_mul,Nat.sub_zero,St.write,List.singleton_append]
   congr 2
   ·congr 1;omega
  ·have:=sl_none (w:=w) (N:=N) (n:=l.length-1) (m:=m+1) hz hg3 (by rw[hcl3];congr 1;omega) (lo:=l.length-1) (hi:=l.length) (by omega) (by omega) (some (.int .i64 (l.length-1:Nat))) (some (.int .i64 l.length)) (.inl rfl) (.inl rfl)
   rw[if_pos (by omega),show l.length-(l.length-1)=1 by omega]at this
   exact this
  ·rw[hlen]
  ·rw[List.length_append,hzero,hm,Nat.add_mul];omega
  ·rw[T.get_set,if_pos rfl,hfin _ hcl3 ?_ ?_]
   ·rw[hsp,←hlen,←flatten_len hall,List.take_left]
   ·rw[hsp]
    have e5:l.length*z=(l.take k++l.drop (k+1)).flatten.length+z:=by
     rw[flatten_len hall,hlen,Nat.sub_mul,Nat.one_mul];have:=Nat.le_mul_of_pos_left z (show 0<l.length by omega);omega
    rw[e5,List.drop_append,List.drop_of_length_le (by omega),List.nil_append,List.drop_drop]
    have e6:(l.length-1)*z+((l.take k++l.drop (k+1)).flatten.length+z-(l.take k++l.drop (k+1)).flatten.length)=l.flatten.length:=by
     rw[hfl,Nat.sub_mul,Nat.one_mul];have:=Nat.le_mul_of_pos_left z (show 0<l.length by omega);omega
    rw[e6,List.drop_left]
theorem nd_gen{R N:Nat}{A B L A' B' X:List Nat}(h:(R::(A++(B++L))).Nodup)(lt:∀i∈R::(A++(B++L)),i<N)(hA:∀i∈A',i∈A∨N≤i)(hB:∀i∈B',i∈B∨N≤i)(nA:A'.Nodup)(nB:B'.Nodup)(nX:X.Nodup)(hX:∀i∈X,N≤i)(dAB:∀i∈A',N≤i→i∉B')(dAX:∀i∈A',i∉X)(dBX:∀i∈B',i∉X):(R::(A'++(B'++(L++X)))).Nodup:=by
 simp only[List.nodup_cons,List.nodup_append,List.mem_append,List.mem_cons,not_or]at h lt ⊢
 grind
def copyK(st:St)(size:Nat):Option V→Option V→Option (V×St)
 |some d,some s=>op_copy size (.const d) (.const s) callNone .nil st
 |_,_=>none
theorem op_copy_K{size:Nat}{d s:Src}{call:CallT}{r:T V}{st:St}:op_copy size d s call r st=copyK st size (d.ev r) (s.ev r):=by
 unfold op_copy copyK
 rcases d.ev r with _|d
 ·rfl
 ·rcases s.ev r with _|s<;>rfl
theorem copyK_full{h:T O}{N:Nat}{w:List Nat}{i n:Nat}{cp:Option Nat}{c xs:List V}{e:TypeId}{s:V}(hn:0<n)(hs:srcCells ⟨h,N,w⟩ 1 s=some (n,xs))(hx:xs.length=n)(hg:h.get i=some (.cells c e true))(hc:c.length=n):copyK ⟨h,N,w⟩ 1 (some (.slice i 0 n cp 1)) (some s)=some (.int .i64 n,⟨h.set i (.cells xs e true),N,i::w⟩):=by
 have hn0:¬n=0:=by omega
 have hd:c.drop n=[]:=List.drop_of_length_le (by omega)
 have ht:xs.take n=xs:=List.take_of_length_le (by omega)
 simp only[copyK,op_copy,Src.ev,hs,St.row,hg]
 simp[hn0,hc,splice,St.write,ht,hx,hd]
theorem copyK_nil{h:T O}{N:Nat}{w:List Nat}{i:Nat}{cp:Option Nat}{xs:List V}{s:V}(hs:srcCells ⟨h,N,w⟩ 1 s=some (0,xs)):copyK ⟨h,N,w⟩ 1 (some (.slice i 0 0 cp 1)) (some s)=some (.int .i64 0,⟨h,N,w⟩):=by
 simp only[copyK,op_copy,Src.ev,hs]
 simp
attribute [simp] op_copy_K
def Dies(e:TypeId)(Y:V→Prop)(h:T O)(u:V):Prop:=∀i∈rowV u,∃z,h.get i=some (.cells z e true)∧z≠[]∧∀y∈z,Y y
theorem Dies.nil{e:TypeId}{Y:V→Prop}{h:T O}:Dies e Y h .nilslice:=fun i hi=>by simp[rowV]at hi
theorem append_own2{z:Nat}{e:TypeId}{N0:Nat}{h:T O}{N:Nat}{v u:V}{l:List (List V)}{x:List V}{bytes:Nat}{w:List Nat}{Y:V→Prop}(s:Own z e N0 h N v l)(hn:l=[]→v=.nilslice)(hY:∀c∈l,∀y∈c,Y y)(hN:N0≤N)(hz:0<z)(hx:x.length=z)
  (hu:srcCells ⟨h,N,w⟩ z u=some (1,x)) (hb:(2*(l.length+1)+1000)*bytes≤281474976710656):
  ∃v' h' w',appendV ⟨h,N,w⟩ z bytes e v u=some (v',⟨h',N+1,w'⟩)∧oldIds N0 w'=oldIds N0 w∧Keeps h N0 h' (N+1)∧Upd (fun i=>i∈rowV v) h N h' (N+1)∧Dies e Y h v∧Own z e N0 h' (N+1) v' (l++[x]):=by
 obtain⟨v',h',w',f1,f2,f3,f4,f5⟩:=append_own s hN hz hx hu hb
 refine⟨v',h',w',f1,f2,f3,⟨Nat.le_succ _,fun j hj hd=>?_⟩,fun i hi=>?_,f5⟩
 ·rcases f4 j with h1|h1|⟨o,n,c,q,h1⟩
  ·exact h1
  ·omega
  ·exact absurd (by rw[h1];simp[rowV]) hd
 ·obtain⟨hl,⟨rfl,rfl⟩|⟨j,rfl,h2,h3,h4⟩⟩:=s
  ·simp[rowV]at hi
  ·simp only[rowV,List.mem_singleton]at hi
   subst hi
   refine⟨_,h4,fun hc=>?_,fun y hy=>?_⟩
   ·have hfl:=flatten_len hl
    rw[hc]at hfl
    have:l.length=0:=by
     rcases Nat.mul_eq_zero.1 hfl.symm with h|h
     ·exact h
     ·omega
    have:=hn (List.eq_nil_of_length_eq_zero this)
    cases this
   ·obtain⟨c,hc,hyc⟩:=List.mem_flatten.1 hy
    exact hY c hc y hyc
theorem any_none{n:Nat}{l:List Nat}:(l.any fun i=>Nat.ble n i&&Nat.blt i n)=false:=by
 rw[List.any_eq_false]
 intro i _ hc
 rw[Bool.and_eq_true]at hc
 have h1:=Nat.le_of_ble_eq_true hc.1
 have h2:i<n:=Nat.le_of_ble_eq_true hc.2
 omega
theorem meets_nil{l:List Nat}:meets l (some [])=false:=by
 unfold meets
 rw[List.any_eq_false]
 intro i _ hc
 simp at hc
theorem copy_vals{h:T O}{N i:Nat}{w:List Nat}{v:V}{l:List V}{e:TypeId}(hr:h.get i=some (.cells [] e true))(hi:i<N)(hs:Sl h N v l)(hl:l.length<1000000):
  ∃y h' N',appendV ⟨h,N,w⟩ 1 16 e (.slice i 0 0 (some 0) 1) v=some (y,⟨h',N',w⟩)∧Keeps h N h' N'∧Sl h' N' y l∧(∀j∈rowV y,j=i∨N≤j)∧∀j∈rowV y,∃z w,h'.get j=some (.cells z e w):=by
 by_cases h0:l.length=0
 ·have:l=[]:=List.eq_nil_of_length_eq_zero h0
  subst this
  refine⟨.slice i 0 0 (some 0) 1,h,N,?_,Keeps.refl,.inr ⟨i,0,some 0,[],e,true,rfl,hi,hr,by simp,by simp,by simp⟩,by simp[rowV],by simp[rowV,hr]⟩
  simp[appendV,src_sl hs]
 ·refine⟨.slice N 0 l.length none 1,h.set N (.cells l e true),N+1,?_,Keeps.refl.new _,Sl.row (by omega) (by rw[T.get_set,if_pos rfl]) rfl (by simp),by simp[rowV],by simp[rowV]⟩
  have hb:¬(maxBytes<(2*(0+l.length)+1000)*16):=by unfold maxBytes;omega
  have hne:l≠[]:=fun hc=>h0 (by rw[hc];rfl)
  simp[appendV,src_sl hs,hb,St.row,hr,hne,slc,St.alloc]
  simp[maxBytes];omega
end Go.Mx
namespace Go.Mx
open Go Go.Proofs
set_option maxRecDepth 1000000
def A.b27:MCode:=.seq (.reg [mc 4 0])
 (.seq (.seq (.reg [mv 5 0,⟨(some 6),.bin .eql (.prim .ptr) true (.tmp 5) (.const .nilptr),none⟩])
 (.cond (.tmp 6)
 (.seq (.reg [mc 4 19])
 (.ret))
 (.skip)))
 (.seq (.reg [mv 7 0,mv 8 1,⟨(some 9),.nilck (.tmp 7),none⟩,⟨(some 10),.faddr 1 (.tmp 9),none⟩,so 10 8])
 (.seq (.reg [mc 4 0])
 (.ret))))
theorem A.c27:cFunc Tryz.prog 27=some ⟨11,[.tmp 4],A.b27⟩:=by kernel_rfl
def A.k27{K Q f c args st}:=@A.kk 27 _ _ _ A.c27 rfl K Q f c args st
def A.b30:MCode:=.seq (.reg [mc 2 0,mc 3 0])
 (.seq (.seq (.reg [mv 4 0,⟨(some 5),.bin .eql (.prim .ptr) true (.tmp 4) (.const .nilptr),none⟩])
 (.cond (.tmp 5)
 (.seq (.reg [mc 2 0,mc 3 0])
 (.ret))
 (.skip)))
 (.seq (.regD [mv 6 0,⟨(some 7),.nilck (.tmp 6),none⟩,⟨(some 8),.faddr 4 (.tmp 7),none⟩,ld 9 8,mv 10 0,⟨(some 11),.nilck (.tmp 10),none⟩,⟨(some 12),.faddr 5 (.tmp 11),none⟩,ld 13 12,mv 2 9,mv 3 13] [0,1,3,7,0,16,48,112,15,511])
 (.ret)))
theorem A.c30:cFunc Tryz.prog 30=some ⟨14,[.tmp 2,.tmp 3],A.b30⟩:=by kernel_rfl
def A.k30{K Q f c args st}:=@A.kk 30 _ _ _ A.c30 rfl K Q f c args st
def A.b24:MCode:=.seq (.reg [⟨(some 2),.mov (.const .nilptr),none⟩,mc 3 0])
 (.seq (.seq (.reg [mv 5 0,⟨(some 6),.call (.const (.func 58 [] [])) [(.tmp 5),(.const (.int .i64 1)),(.const (.int .i64 64))],none⟩,mv 4 6])
 (.seq (.reg [mv 7 4,⟨(some 8),.bin .neq (.prim .int) true (.tmp 7) (.const (.int .i64 0)),none⟩])
 (.cond (.tmp 8)
 (.seq (.reg [mv 9 4,⟨(some 2),.mov (.const .nilptr),none⟩,mv 3 9])
 (.ret))
 (.skip))))
 (.seq (.reg [mv 10 0,⟨(some 11),.build [(.int .i64 0),(.bool false),.nilslice,(.int .i64 0),(.int .i64 0),(.int .i64 0),.nilslice] [(0,1,(.tmp 10))],none⟩,⟨(some 12),.box 147 (.tmp 11),none⟩,mv 2 12,mc 3 0])
 (.ret)))
theorem A.c24:cFunc Tryz.prog 24=some ⟨13,[.tmp 2,.tmp 3],A.b24⟩:=by kernel_rfl
def A.k24{K Q f c args st}:=@A.kk 24 _ _ _ A.c24 rfl K Q f c args st
structure Rc where
 f:Int
 t:Int
 vs:List Str
structure Lr where
 L:Nat
 C:Nat
 cap:Nat
 buf:List (Int×Int)
 last:Int×Int
 lost:Int
def ntc(p:Int×Int):V:=.agg [.int .i64 p.1,.int .i64 p.2]
def Lr.cells(l:Lr):List V:=[.chan l.C,.int .i64 l.last.1,.int .i64 l.last.2,.int .i64 l.lost]
def Lr.ids(l:Lr):List Nat:=[l.L,l.C]
def rcC(p:Rc×V):List V:=[.int .i64 p.1.f,.int .i64 p.1.t,p.2]
def ptC(l:Lr):List V:=[.ptr l.L 0]
structure RS where
 R:Nat
 cap:Int
 fz:Bool
 vr:V
 rc:List (Rc×V)
 last:Int
 over:Int
 ref:Int
 vl:V
 ls:List Lr
def RS.cells(S:RS):List V:=[.int .i64 S.cap,.bool S.fz,S.vr,.int .i64 S.last,.int .i64 S.over,.int .i64 S.ref,S.vl]
def RS.ids(S:RS):List Nat:=S.R::(rowV S.vr++(rowV S.vl++S.ls.flatMap Lr.ids))
structure RI (h:T O) (N:Nat) (S:RS):Prop where
 r:h.get S.R=some (.cells S.cells 147 true)
 vr:Row 3 78 h S.vr (S.rc.map rcC)
 vl:Row 1 148 h S.vl (S.ls.map ptC)
 l:∀l∈S.ls,h.get l.L=some (.cells l.cells 151 true)∧h.get l.C=some (.chan l.cap (l.buf.map ntc))
 nd:S.ids.Nodup
 lt:∀i∈S.ids,i<N
 sl:∀p∈S.rc,Sl h N p.2 (strs p.1.vs)∧∀i∈rowV p.2,i∉S.ids
theorem RI.keep{h h':T O}{N N':Nat}{S:RS}{D:Nat→Prop}(I:RI h N S)(k:Upd D h N h' N')(hd:∀i∈S.ids,¬D i)(hs:∀p∈S.rc,∀i∈rowV p.2,¬D i):RI h' N' S:=by
 have g:∀i∈S.ids,h'.get i=h.get i:=fun i hi=>k.get i (I.lt i hi) (hd i hi)
 have m1:∀i∈rowV S.vr,i∈S.ids:=fun i hi=>by simp[RS.ids,hi]
 have m2:∀i∈rowV S.vl,i∈S.ids:=fun i hi=>by simp[RS.ids,hi]
 have m3:∀l∈S.ls,∀i∈l.ids,i∈S.ids:=fun l hl i hi=>by
  simp only[RS.ids,List.mem_cons,List.mem_append,List.mem_flatMap]
  exact .inr (.inr (.inr ⟨l,hl,hi⟩))
 refine⟨(g _ (by simp[RS.ids])).trans I.r,I.vr.eq fun i hi=>g i (m1 i hi),I.vl.eq fun i hi=>g i (m2 i hi),fun l hl=>⟨(g _ (m3 l hl _ (by simp[Lr.ids]))).trans (I.l l hl).1,(g _ (m3 l hl _ (by simp[Lr.ids]))).trans (I.l l hl).2⟩,I.nd,fun i hi=>Nat.lt_of_lt_of_le (I.lt i hi) k.le,fun p hp=>⟨(I.sl p hp).1.moved k (hs p hp),(I.sl p hp).2⟩⟩
theorem RI.mR{S:RS}:S.R∈S.ids:=by simp[RS.ids]
theorem RI.mr{S:RS}{i:Nat}(hi:i∈rowV S.vr):i∈S.ids:=by simp[RS.ids,hi]
theorem RI.ml{S:RS}{i:Nat}(hi:i∈rowV S.vl):i∈S.ids:=by simp[RS.ids,hi]
theorem RI.mL{S:RS}{l:Lr}(hl:l∈S.ls):l.L∈S.ids∧l.C∈S.ids:=by
 simp only[RS.ids,List.mem_cons,List.mem_append,List.mem_flatMap]
 exact⟨.inr (.inr (.inr ⟨l,hl,by simp[Lr.ids]⟩)),.inr (.inr (.inr ⟨l,hl,by simp[Lr.ids]⟩))⟩
theorem RI.nR{h:T O}{N:Nat}{S:RS}(I:RI h N S):S.R∉rowV S.vr∧S.R∉rowV S.vl∧∀l∈S.ls,S.R≠l.L∧S.R≠l.C:=by
 have:=(List.nodup_cons.1 I.nd).1
 simp only[List.mem_append,List.mem_flatMap,not_or,not_exists,not_and]at this
 exact⟨this.1,this.2.1,fun l hl=>⟨fun hc=>this.2.2 l hl (by simp[Lr.ids,hc]),fun hc=>this.2.2 l hl (by simp[Lr.ids,hc])⟩⟩
theorem RI.setR{h:T O}{N:Nat}{S:RS}(I:RI h N S)(cap:Int)(fz:Bool)(last over ref:Int):RI (h.set S.R (.cells (RS.cells {S with cap:=cap,fz:=fz,last:=last,over:=over,ref:=ref}) 147 true)) N {S with cap:=cap,fz:=fz,last:=last,over:=over,ref:=ref}:=by
 obtain⟨n1,n2,n3⟩:=I.nR
 refine⟨by rw[T.get_set,if_pos rfl],I.vr.eq fun i hi=>?_,I.vl.eq fun i hi=>?_,fun l hl=>⟨?_,?_⟩,I.nd,I.lt,fun p hp=>⟨(I.sl p hp).1.moved (D:=fun i=>i=S.R) (Upd.refl.set (.inl rfl)) fun i hi hc=>(I.sl p hp).2 i hi (hc▸RI.mR),(I.sl p hp).2⟩⟩
 ·rw[T.get_set,if_neg (by rintro rfl;exact n1 hi)]
 ·rw[T.get_set,if_neg (by rintro rfl;exact n2 hi)]
 ·rw[T.get_set,if_neg (fun hc=>(n3 l hl).1 hc.symm)];exact(I.l l hl).1
 ·rw[T.get_set,if_neg (fun hc=>(n3 l hl).2 hc.symm)];exact(I.l l hl).2
theorem Row.one{z:Nat}{e:TypeId}{h:T O}{v:V}{l:List (List V)}(s:Row z e h v l):V.one v=true∧V.cells v=[v]:=by
 obtain⟨_,⟨rfl,rfl⟩|⟨i,x,m,rfl,_⟩⟩:=s<;>exact⟨rfl,rfl⟩
theorem freeze_fn{h:T O}{N:Nat}{S:RS}{b:Bool}(I:RI h N S):FnD A.C (·∈S.ids) 27 [.ptr S.R 0,.bool b] h N (fun v h' n'=>v=.int .i64 0∧n'=N∧RI h' n' {S with fz:=b}):=by
 intro w
 have hI:=I.setR S.cap b S.last S.over S.ref
 have hr:=I.r
 have o1:=I.vr.one
 have o2:=I.vl.one
 unfold V.one at o1 o2
 unfold V.cells at o1 o2
 unfold RS.cells at hr
 simp only[RS.cells]at hI
 rw[call_run,A.k27 (by simp)]
 simp(disch:=first|(simp;done)|omega|rfl) [-getElem?_pos, -oldIds,A.b27,eqPrim,hr,splice,storeK2]
 refine retD_fin ?_ ?_ ?_
 ·simp[RS.ids]
 ·exact Upd.refl.set (.inl (by simp[RS.ids]))
 ·exact⟨rfl,rfl,hI⟩
theorem lost_eq{h:T O}{N:Nat}{S:RS}(I:RI h N S){w:List Nat}:A.C.call (.func 30 [] []) [.ptr S.R 0] ⟨h,N,w⟩=some (.tup [.int .i64 S.over,.int .i64 S.ref],⟨h,N,w⟩):=by
 apply Call.eq
 have hr:=I.r
 have hl:=I.lt _ RI.mR
 unfold RS.cells at hr
 rw[call_run,A.k30 (by simp)]
 simp(disch:=first|(simp;done)|omega|rfl) [-getElem?_pos,A.b30,eqPrim,hr,partV,pairsOk.chk,hl]
theorem new_ok{c:Int}(h1:1≤c)(h2:c≤64){h:T O}{N:Nat}:Fn A.C 24 [.int .i64 c] h N (fun v h' n'=>v=.tup [.ptr N 0,.int .i64 0]∧n'=N+1∧RI h' n' ⟨N,c,false,.nilslice,[],0,0,0,.nilslice,[]⟩):=by
 intro w
 rw[call_run,A.k24 (by simp)]
 have a1:¬(c<1∨64<c):=by omega
 simp(disch:=first|(simp;done)|omega|rfl) [-getElem?_pos,A.b24,within_eq,a1,eqPrim,splice,Ret]
 refine⟨Keeps.refl.new _,⟨?_,⟨by simp,.inl ⟨rfl,rfl⟩⟩,⟨by simp,.inl ⟨rfl,rfl⟩⟩,by simp,by simp[RS.ids,rowV],by simp[RS.ids,rowV],by simp⟩⟩
 simp[RS.cells]
theorem new_bad{c:Int}(h1:c<1∨64<c){h:T O}{N:Nat}:Fn A.C 24 [.int .i64 c] h N (fun v h' n'=>v=.tup [.nilptr,.int .i64 3]):=by
 intro w
 rw[call_run,A.k24 (by simp)]
 simp(disch:=first|(simp;done)|omega|rfl) [-getElem?_pos,A.b24,within_eq,h1,eqPrim,splice,Ret]
 exact Keeps.refl
end Go.Mx
