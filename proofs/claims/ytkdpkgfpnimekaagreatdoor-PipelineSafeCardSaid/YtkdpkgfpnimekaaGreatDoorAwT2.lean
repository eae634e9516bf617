/-
  The known runs, by the kernel. Printed by a program (wip/dev/Gen.lean).
-/
import Derived.Test.YtkdpkgfpnimekaaGreatDoorAwD
set_option linter.all false
namespace Go.Mx
open Go
set_option maxRecDepth 1000000
theorem A.e3_ok : A.e3.ok 10 (mcallX (xCall A.L131 A.E2) A.tbl 5000 40) = true := by decide +kernel
theorem A.p41_ok : A.p41.ok 10 (mcallX (xCall A.L40 []) A.tbl 5000 40) = true := by decide +kernel
theorem A.p63_ok : A.p63.ok 10 (mcallX (xCall A.L62 []) A.tbl 5000 40) = true := by decide +kernel
theorem A.p81_ok : A.p81.ok 10 (mcallX (xCall A.L80 []) A.tbl 5000 40) = true := by decide +kernel
theorem A.p70_ok : A.p70.ok 10 (mcallX (xCall A.L69 []) A.tbl 5000 40) = true := by decide +kernel
theorem A.p69_ok : A.p69.ok 10 (mcallX (xCall A.L68 []) A.tbl 5000 40) = true := by decide +kernel
end Go.Mx
