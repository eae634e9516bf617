/-
  The acts in each valid state: the known runs, by the kernel. Printed by a program (wip/dev/GenStates.lean).
-/
import Derived.Test.YtkdpkgfpnimekaaGreatDoorStD
set_option linter.all false
namespace Go.Mx
open Go Go.Proofs
set_option maxRecDepth 1000000
theorem A.s172_ok : A.s172.ok 10 (mcallX (pCall A.LS) A.tbl 5000 40) = true := by decide +kernel
theorem A.g21_ok : A.g21.ok 10 (mcallX noCall A.tbl 5000 40) = true := by decide +kernel
theorem A.g12_ok : A.g12.ok 10 (mcallX noCall A.tbl 5000 40) = true := by decide +kernel
theorem A.g9_ok : A.g9.ok 10 (mcallX noCall A.tbl 5000 40) = true := by decide +kernel
theorem A.g17_ok : A.g17.ok 10 (mcallX noCall A.tbl 5000 40) = true := by decide +kernel
theorem A.s171_ok : A.s171.ok 10 (mcallX (pCall A.LS) A.tbl 5000 40) = true := by decide +kernel
theorem A.g15_ok : A.g15.ok 10 (mcallX noCall A.tbl 5000 40) = true := by decide +kernel
theorem A.g24_ok : A.g24.ok 10 (mcallX noCall A.tbl 5000 40) = true := by decide +kernel
theorem A.g5_ok : A.g5.ok 10 (mcallX noCall A.tbl 5000 40) = true := by decide +kernel
theorem A.g3_ok : A.g3.ok 10 (mcallX noCall A.tbl 5000 40) = true := by decide +kernel
theorem A.s191_ok : A.s191.ok 10 (mcallX (pCall A.LS) A.tbl 5000 40) = true := by decide +kernel
theorem A.s61_ok : A.s61.ok 10 (mcallX (pCall A.LS) A.tbl 5000 40) = true := by decide +kernel
theorem A.s80_ok : A.s80.ok 10 (mcallX (pCall A.LS) A.tbl 5000 40) = true := by decide +kernel
theorem A.s125_ok : A.s125.ok 10 (mcallX (pCall A.LS) A.tbl 5000 40) = true := by decide +kernel
theorem A.s189_ok : A.s189.ok 10 (mcallX (pCall A.LS) A.tbl 5000 40) = true := by decide +kernel
theorem A.s144_ok : A.s144.ok 10 (mcallX (pCall A.LS) A.tbl 5000 40) = true := by decide +kernel
theorem A.s188_ok : A.s188.ok 10 (mcallX (pCall A.LS) A.tbl 5000 40) = true := by decide +kernel
theorem A.s166_ok : A.s166.ok 10 (mcallX (pCall A.LS) A.tbl 5000 40) = true := by decide +kernel
theorem A.s90_ok : A.s90.ok 10 (mcallX (pCall A.LS) A.tbl 5000 40) = true := by decide +kernel
theorem A.s68_ok : A.s68.ok 10 (mcallX (pCall A.LS) A.tbl 5000 40) = true := by decide +kernel
theorem A.s89_ok : A.s89.ok 10 (mcallX (pCall A.LS) A.tbl 5000 40) = true := by decide +kernel
theorem A.s78_ok : A.s78.ok 10 (mcallX (pCall A.LS) A.tbl 5000 40) = true := by decide +kernel
theorem A.s66_ok : A.s66.ok 10 (mcallX (pCall A.LS) A.tbl 5000 40) = true := by decide +kernel
theorem A.s97_ok : A.s97.ok 10 (mcallX (pCall A.LS) A.tbl 5000 40) = true := by decide +kernel
theorem A.s173_ok : A.s173.ok 10 (mcallX (pCall A.LS) A.tbl 5000 40) = true := by decide +kernel
theorem A.s54_ok : A.s54.ok 10 (mcallX (pCall A.LS) A.tbl 5000 40) = true := by decide +kernel
theorem A.s75_ok : A.s75.ok 10 (mcallX (pCall A.LS) A.tbl 5000 40) = true := by decide +kernel
theorem A.s53_ok : A.s53.ok 10 (mcallX (pCall A.LS) A.tbl 5000 40) = true := by decide +kernel
theorem A.s74_ok : A.s74.ok 10 (mcallX (pCall A.LS) A.tbl 5000 40) = true := by decide +kernel
theorem A.s237_ok : A.s237.ok 10 (mcallX (pCall A.LS) A.tbl 5000 40) = true := by decide +kernel
theorem A.s214_ok : A.s214.ok 10 (mcallX (pCall A.LS) A.tbl 5000 40) = true := by decide +kernel
theorem A.s238_ok : A.s238.ok 10 (mcallX (pCall A.LS) A.tbl 5000 40) = true := by decide +kernel
theorem A.s204_ok : A.s204.ok 10 (mcallX (pCall A.LS) A.tbl 5000 40) = true := by decide +kernel
theorem A.s259_ok : A.s259.ok 10 (mcallX (pCall A.LS) A.tbl 5000 40) = true := by decide +kernel
theorem A.s267_ok : A.s267.ok 10 (mcallX (pCall A.LS) A.tbl 5000 40) = true := by decide +kernel
theorem A.s312_ok : A.s312.ok 10 (mcallX (pCall A.LS) A.tbl 5000 40) = true := by decide +kernel
theorem A.s324_ok : A.s324.ok 10 (mcallX (pCall A.LS) A.tbl 5000 40) = true := by decide +kernel
theorem A.s11_ok : A.s11.ok 10 (mcallX noCall A.tbl 5000 40) = true := by decide +kernel
theorem A.s202_ok : A.s202.ok 10 (mcallX (pCall A.LS) A.tbl 5000 40) = true := by decide +kernel
theorem A.s301_ok : A.s301.ok 10 (mcallX (pCall A.LS) A.tbl 5000 40) = true := by decide +kernel
theorem A.s7_ok : A.s7.ok 10 (mcallX noCall A.tbl 5000 40) = true := by decide +kernel
theorem A.s212_ok : A.s212.ok 10 (mcallX (pCall A.LS) A.tbl 5000 40) = true := by decide +kernel
theorem A.s311_ok : A.s311.ok 10 (mcallX (pCall A.LS) A.tbl 5000 40) = true := by decide +kernel
theorem A.s276_ok : A.s276.ok 10 (mcallX (pCall A.LS) A.tbl 5000 40) = true := by decide +kernel
theorem A.s2_ok : A.s2.ok 10 (mcallX noCall A.tbl 5000 40) = true := by decide +kernel
theorem A.s244_ok : A.s244.ok 10 (mcallX (pCall A.LS) A.tbl 5000 40) = true := by decide +kernel
theorem A.s1_ok : A.s1.ok 10 (mcallX noCall A.tbl 5000 40) = true := by decide +kernel
theorem A.s243_ok : A.s243.ok 10 (mcallX (pCall A.LS) A.tbl 5000 40) = true := by decide +kernel
theorem A.s198_ok : A.s198.ok 10 (mcallX (pCall A.LS) A.tbl 5000 40) = true := by decide +kernel
theorem A.s297_ok : A.s297.ok 10 (mcallX (pCall A.LS) A.tbl 5000 40) = true := by decide +kernel
theorem A.s285_ok : A.s285.ok 10 (mcallX (pCall A.LS) A.tbl 5000 40) = true := by decide +kernel
theorem A.s318_ok : A.s318.ok 10 (mcallX (pCall A.LS) A.tbl 5000 40) = true := by decide +kernel
theorem A.s196_ok : A.s196.ok 10 (mcallX (pCall A.LS) A.tbl 5000 40) = true := by decide +kernel
theorem A.s284_ok : A.s284.ok 10 (mcallX (pCall A.LS) A.tbl 5000 40) = true := by decide +kernel
theorem A.s49_ok : A.s49.ok 10 (mcallX (pCall A.LS) A.tbl 5000 40) = true := by decide +kernel
theorem A.s47_ok : A.s47.ok 10 (mcallX (pCall A.LS) A.tbl 5000 40) = true := by decide +kernel
theorem A.s250_ok : A.s250.ok 10 (mcallX (pCall A.LS) A.tbl 5000 40) = true := by decide +kernel
theorem A.s305_ok : A.s305.ok 10 (mcallX (pCall A.LS) A.tbl 5000 40) = true := by decide +kernel
theorem A.s26_ok : A.s26.ok 10 (mcallX (pCall A.LS) A.tbl 5000 40) = true := by decide +kernel
theorem A.s29_ok : A.s29.ok 10 (mcallX (pCall A.LS) A.tbl 5000 40) = true := by decide +kernel
theorem A.s35_ok : A.s35.ok 10 (mcallX (pCall A.LS) A.tbl 5000 40) = true := by decide +kernel
end Go.Mx
