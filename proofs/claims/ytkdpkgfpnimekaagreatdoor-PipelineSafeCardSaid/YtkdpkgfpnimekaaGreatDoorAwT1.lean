/-
  The known runs, by the kernel. Printed by a program (wip/dev/Gen.lean).
-/
import Derived.Test.YtkdpkgfpnimekaaGreatDoorAwD
set_option linter.all false
namespace Go.Mx
open Go
set_option maxRecDepth 1000000
theorem A.e2_ok : A.e2.ok 10 (mcallX (xCall A.L131 A.E1) A.tbl 5000 40) = true := by decide +kernel
theorem A.p4_ok : A.p4.ok 10 (mcallX (xCall A.L3 []) A.tbl 5000 40) = true := by decide +kernel
theorem A.p62_ok : A.p62.ok 10 (mcallX (xCall A.L61 []) A.tbl 5000 40) = true := by decide +kernel
theorem A.p78_ok : A.p78.ok 10 (mcallX (xCall A.L77 []) A.tbl 5000 40) = true := by decide +kernel
theorem A.p28_ok : A.p28.ok 10 (mcallX (xCall A.L27 []) A.tbl 5000 40) = true := by decide +kernel
theorem A.p29_ok : A.p29.ok 10 (mcallX (xCall A.L28 []) A.tbl 5000 40) = true := by decide +kernel
end Go.Mx
