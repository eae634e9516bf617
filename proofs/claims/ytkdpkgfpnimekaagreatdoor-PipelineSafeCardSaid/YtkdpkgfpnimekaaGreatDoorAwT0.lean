/-
  The known runs, by the kernel. Printed by a program (wip/dev/Gen.lean).
-/
import Derived.Test.YtkdpkgfpnimekaaGreatDoorAwD
set_option linter.all false
namespace Go.Mx
open Go
set_option maxRecDepth 1000000
theorem A.p135_ok : A.p135.ok 10 (mcallX (xCall A.L134 A.E5) A.tbl 5000 40) = true := by decide +kernel
end Go.Mx
