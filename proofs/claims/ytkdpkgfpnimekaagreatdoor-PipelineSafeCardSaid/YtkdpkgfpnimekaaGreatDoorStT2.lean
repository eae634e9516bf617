/-
  The acts in each valid state: the known runs, by the kernel. Printed by a program (wip/dev/GenStates.lean).
-/
import Derived.Test.YtkdpkgfpnimekaaGreatDoorStD
set_option linter.all false
namespace Go.Mx
open Go Go.Proofs
set_option maxRecDepth 1000000
theorem A.s137_ok : A.s137.ok 10 (mcallX (pCall A.LS) A.tbl 5000 40) = true := by decide +kernel
theorem A.s183_ok : A.s183.ok 10 (mcallX (pCall A.LS) A.tbl 5000 40) = true := by decide +kernel
theorem A.g8_ok : A.g8.ok 10 (mcallX noCall A.tbl 5000 40) = true := by decide +kernel
theorem A.s104_ok : A.s104.ok 10 (mcallX (pCall A.LS) A.tbl 5000 40) = true := by decide +kernel
theorem A.s71_ok : A.s71.ok 10 (mcallX (pCall A.LS) A.tbl 5000 40) = true := by decide +kernel
theorem A.s117_ok : A.s117.ok 10 (mcallX (pCall A.LS) A.tbl 5000 40) = true := by decide +kernel
theorem A.s179_ok : A.s179.ok 10 (mcallX (pCall A.LS) A.tbl 5000 40) = true := by decide +kernel
theorem A.s146_ok : A.s146.ok 10 (mcallX (pCall A.LS) A.tbl 5000 40) = true := by decide +kernel
theorem A.s149_ok : A.s149.ok 10 (mcallX (pCall A.LS) A.tbl 5000 40) = true := by decide +kernel
theorem A.s181_ok : A.s181.ok 10 (mcallX (pCall A.LS) A.tbl 5000 40) = true := by decide +kernel
theorem A.s116_ok : A.s116.ok 10 (mcallX (pCall A.LS) A.tbl 5000 40) = true := by decide +kernel
theorem A.s169_ok : A.s169.ok 10 (mcallX (pCall A.LS) A.tbl 5000 40) = true := by decide +kernel
theorem A.s82_ok : A.s82.ok 10 (mcallX (pCall A.LS) A.tbl 5000 40) = true := by decide +kernel
theorem A.s147_ok : A.s147.ok 10 (mcallX (pCall A.LS) A.tbl 5000 40) = true := by decide +kernel
theorem A.s134_ok : A.s134.ok 10 (mcallX (pCall A.LS) A.tbl 5000 40) = true := by decide +kernel
theorem A.s145_ok : A.s145.ok 10 (mcallX (pCall A.LS) A.tbl 5000 40) = true := by decide +kernel
theorem A.s113_ok : A.s113.ok 10 (mcallX (pCall A.LS) A.tbl 5000 40) = true := by decide +kernel
theorem A.s155_ok : A.s155.ok 10 (mcallX (pCall A.LS) A.tbl 5000 40) = true := by decide +kernel
theorem A.s101_ok : A.s101.ok 10 (mcallX (pCall A.LS) A.tbl 5000 40) = true := by decide +kernel
theorem A.s99_ok : A.s99.ok 10 (mcallX (pCall A.LS) A.tbl 5000 40) = true := by decide +kernel
theorem A.s131_ok : A.s131.ok 10 (mcallX (pCall A.LS) A.tbl 5000 40) = true := by decide +kernel
theorem A.s56_ok : A.s56.ok 10 (mcallX (pCall A.LS) A.tbl 5000 40) = true := by decide +kernel
theorem A.s88_ok : A.s88.ok 10 (mcallX (pCall A.LS) A.tbl 5000 40) = true := by decide +kernel
theorem A.s87_ok : A.s87.ok 10 (mcallX (pCall A.LS) A.tbl 5000 40) = true := by decide +kernel
theorem A.s98_ok : A.s98.ok 10 (mcallX (pCall A.LS) A.tbl 5000 40) = true := by decide +kernel
theorem A.s119_ok : A.s119.ok 10 (mcallX (pCall A.LS) A.tbl 5000 40) = true := by decide +kernel
theorem A.s129_ok : A.s129.ok 10 (mcallX (pCall A.LS) A.tbl 5000 40) = true := by decide +kernel
theorem A.s118_ok : A.s118.ok 10 (mcallX (pCall A.LS) A.tbl 5000 40) = true := by decide +kernel
theorem A.s291_ok : A.s291.ok 10 (mcallX (pCall A.LS) A.tbl 5000 40) = true := by decide +kernel
theorem A.s226_ok : A.s226.ok 10 (mcallX (pCall A.LS) A.tbl 5000 40) = true := by decide +kernel
theorem A.s326_ok : A.s326.ok 10 (mcallX (pCall A.LS) A.tbl 5000 40) = true := by decide +kernel
theorem A.s205_ok : A.s205.ok 10 (mcallX (pCall A.LS) A.tbl 5000 40) = true := by decide +kernel
theorem A.s271_ok : A.s271.ok 10 (mcallX (pCall A.LS) A.tbl 5000 40) = true := by decide +kernel
theorem A.s292_ok : A.s292.ok 10 (mcallX (pCall A.LS) A.tbl 5000 40) = true := by decide +kernel
theorem A.s213_ok : A.s213.ok 10 (mcallX (pCall A.LS) A.tbl 5000 40) = true := by decide +kernel
theorem A.s24_ok : A.s24.ok 10 (mcallX (pCall A.LS) A.tbl 5000 40) = true := by decide +kernel
theorem A.s22_ok : A.s22.ok 10 (mcallX (pCall A.LS) A.tbl 5000 40) = true := by decide +kernel
theorem A.s300_ok : A.s300.ok 10 (mcallX (pCall A.LS) A.tbl 5000 40) = true := by decide +kernel
theorem A.s268_ok : A.s268.ok 10 (mcallX (pCall A.LS) A.tbl 5000 40) = true := by decide +kernel
theorem A.s19_ok : A.s19.ok 10 (mcallX (pCall A.LS) A.tbl 5000 40) = true := by decide +kernel
theorem A.s8_ok : A.s8.ok 10 (mcallX noCall A.tbl 5000 40) = true := by decide +kernel
theorem A.s277_ok : A.s277.ok 10 (mcallX (pCall A.LS) A.tbl 5000 40) = true := by decide +kernel
theorem A.s14_ok : A.s14.ok 10 (mcallX (pCall A.LS) A.tbl 5000 40) = true := by decide +kernel
theorem A.s264_ok : A.s264.ok 10 (mcallX (pCall A.LS) A.tbl 5000 40) = true := by decide +kernel
theorem A.s4_ok : A.s4.ok 10 (mcallX noCall A.tbl 5000 40) = true := by decide +kernel
theorem A.s222_ok : A.s222.ok 10 (mcallX (pCall A.LS) A.tbl 5000 40) = true := by decide +kernel
theorem A.s321_ok : A.s321.ok 10 (mcallX (pCall A.LS) A.tbl 5000 40) = true := by decide +kernel
theorem A.s254_ok : A.s254.ok 10 (mcallX (pCall A.LS) A.tbl 5000 40) = true := by decide +kernel
theorem A.s209_ok : A.s209.ok 10 (mcallX (pCall A.LS) A.tbl 5000 40) = true := by decide +kernel
theorem A.s308_ok : A.s308.ok 10 (mcallX (pCall A.LS) A.tbl 5000 40) = true := by decide +kernel
theorem A.s240_ok : A.s240.ok 10 (mcallX (pCall A.LS) A.tbl 5000 40) = true := by decide +kernel
theorem A.s296_ok : A.s296.ok 10 (mcallX (pCall A.LS) A.tbl 5000 40) = true := by decide +kernel
theorem A.s251_ok : A.s251.ok 10 (mcallX (pCall A.LS) A.tbl 5000 40) = true := by decide +kernel
theorem A.s273_ok : A.s273.ok 10 (mcallX (pCall A.LS) A.tbl 5000 40) = true := by decide +kernel
theorem A.s50_ok : A.s50.ok 10 (mcallX (pCall A.LS) A.tbl 5000 40) = true := by decide +kernel
theorem A.s48_ok : A.s48.ok 10 (mcallX (pCall A.LS) A.tbl 5000 40) = true := by decide +kernel
theorem A.s261_ok : A.s261.ok 10 (mcallX (pCall A.LS) A.tbl 5000 40) = true := by decide +kernel
theorem A.s316_ok : A.s316.ok 10 (mcallX (pCall A.LS) A.tbl 5000 40) = true := by decide +kernel
theorem A.s27_ok : A.s27.ok 10 (mcallX (pCall A.LS) A.tbl 5000 40) = true := by decide +kernel
theorem A.s30_ok : A.s30.ok 10 (mcallX (pCall A.LS) A.tbl 5000 40) = true := by decide +kernel
theorem A.s36_ok : A.s36.ok 10 (mcallX (pCall A.LS) A.tbl 5000 40) = true := by decide +kernel
end Go.Mx
