/-
  The known runs, by the kernel. Printed by a program (wip/dev/Gen.lean).
-/
import Derived.Test.YtppobccilnifoaaGreatDoorMxIn2
set_option linter.all false
namespace Go.Mx
open Go
set_option maxRecDepth 1000000
theorem A.p135_ok:A.p135.ok 10 (mcallX (xCall A.L134 A.E5) A.tbl 5000 40)=true:=by decide+kernel
end Go.Mx
namespace Go.Mx
open Go
set_option maxRecDepth 1000000
theorem A.e2_ok:A.e2.ok 10 (mcallX (xCall A.L131 A.E1) A.tbl 5000 40)=true:=by decide+kernel
theorem A.p4_ok:A.p4.ok 10 (mcallX (xCall A.L3 []) A.tbl 5000 40)=true:=by decide+kernel
theorem A.p62_ok:A.p62.ok 10 (mcallX (xCall A.L61 []) A.tbl 5000 40)=true:=by decide+kernel
theorem A.p78_ok:A.p78.ok 10 (mcallX (xCall A.L77 []) A.tbl 5000 40)=true:=by decide+kernel
theorem A.p28_ok:A.p28.ok 10 (mcallX (xCall A.L27 []) A.tbl 5000 40)=true:=by decide+kernel
theorem A.p29_ok:A.p29.ok 10 (mcallX (xCall A.L28 []) A.tbl 5000 40)=true:=by decide+kernel
end Go.Mx
namespace Go.Mx
open Go
set_option maxRecDepth 1000000
theorem A.e3_ok:A.e3.ok 10 (mcallX (xCall A.L131 A.E2) A.tbl 5000 40)=true:=by decide+kernel
theorem A.p41_ok:A.p41.ok 10 (mcallX (xCall A.L40 []) A.tbl 5000 40)=true:=by decide+kernel
theorem A.p63_ok:A.p63.ok 10 (mcallX (xCall A.L62 []) A.tbl 5000 40)=true:=by decide+kernel
theorem A.p81_ok:A.p81.ok 10 (mcallX (xCall A.L80 []) A.tbl 5000 40)=true:=by decide+kernel
theorem A.p70_ok:A.p70.ok 10 (mcallX (xCall A.L69 []) A.tbl 5000 40)=true:=by decide+kernel
theorem A.p69_ok:A.p69.ok 10 (mcallX (xCall A.L68 []) A.tbl 5000 40)=true:=by decide+kernel
end Go.Mx
