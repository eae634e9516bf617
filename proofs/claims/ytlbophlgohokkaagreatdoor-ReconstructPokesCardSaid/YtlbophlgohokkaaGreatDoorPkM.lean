/-
  Pokes as they come in.
-/
import Derived.Test.YtlbophlgohokkaaGreatDoorPkK
set_option linter.all false
namespace Go.Mx
open Go Go.Proofs
set_option maxRecDepth 1000000
def pkI(p:ti):Pk:=⟨p.act,p.am.data.toList,p.sl.strs⟩
def EZ(m:lG):List Pk:=m.ps.map pkI
theorem j_.pks{P:Program}{W:World}{μ:Mu}{S:St}(s:j_ P W μ S){m:lG}(hm:m.ok W):∃μ' S' v,j_ P W μ' S'/\nZ μ S μ' S'/\VR μ' v m.val/\nY S'.h S'.n v (EZ m):=by
 obtain⟨μ',S',v,q1,q2,q3,cs,q4,q5,q6⟩:=s.Cs hm
 refine⟨μ',S',v,q1,q2,q3,cs,q4,by simp[EZ,q5],fun j p hp=>?_⟩
 unfold EZ at hp
 rw[jf]at hp
 cases hj:m.ps[j]? with
 |none=>rw[hj]at hp;cases hp
 |some x=>
  rw[hj]at hp
  obtain rfl:pkI x=p:=by simpa using hp
  exact q6 j x hj
theorem Yj7{m:lG}{n:Nat}(h:m.ps.length=n)(hn:n*48<=140737488351232):2*(EZ m).length*48<=281474976710656:=by
 have:(EZ m).length=n:=by simp[EZ,h]
 omega
theorem Yj8{m:lG}(h:∀p∈m.ps,p.sl.strs.length<9223372036854775808):∀x∈EZ m,x.sl.length<9223372036854775808:=fun x hx=>by
 obtain⟨p,hp,rfl⟩:=iy.1 hx
 exact h p hp
end Go.Mx
