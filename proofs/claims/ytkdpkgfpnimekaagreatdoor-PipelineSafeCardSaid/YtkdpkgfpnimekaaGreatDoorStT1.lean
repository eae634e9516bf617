/-
  The acts in each valid state: the known runs, by the kernel. Printed by a program (wip/dev/GenStates.lean).
-/
import Derived.Test.YtkdpkgfpnimekaaGreatDoorStD
set_option linter.all false
namespace Go.Mx
open Go Go.Proofs
set_option maxRecDepth 1000000
theorem A.s161_ok : A.s161.ok 10 (mcallX (pCall A.LS) A.tbl 5000 40) = true := by decide +kernel
theorem A.g20_ok : A.g20.ok 10 (mcallX noCall A.tbl 5000 40) = true := by decide +kernel
theorem A.g7_ok : A.g7.ok 10 (mcallX noCall A.tbl 5000 40) = true := by decide +kernel
theorem A.g10_ok : A.g10.ok 10 (mcallX noCall A.tbl 5000 40) = true := by decide +kernel
theorem A.g13_ok : A.g13.ok 10 (mcallX noCall A.tbl 5000 40) = true := by decide +kernel
theorem A.g14_ok : A.g14.ok 10 (mcallX noCall A.tbl 5000 40) = true := by decide +kernel
theorem A.s160_ok : A.s160.ok 10 (mcallX (pCall A.LS) A.tbl 5000 40) = true := by decide +kernel
theorem A.s135_ok : A.s135.ok 10 (mcallX (pCall A.LS) A.tbl 5000 40) = true := by decide +kernel
theorem A.s138_ok : A.s138.ok 10 (mcallX (pCall A.LS) A.tbl 5000 40) = true := by decide +kernel
theorem A.s73_ok : A.s73.ok 10 (mcallX (pCall A.LS) A.tbl 5000 40) = true := by decide +kernel
theorem A.g0_ok : A.g0.ok 10 (mcallX noCall A.tbl 5000 40) = true := by decide +kernel
theorem A.s105_ok : A.s105.ok 10 (mcallX (pCall A.LS) A.tbl 5000 40) = true := by decide +kernel
theorem A.s190_ok : A.s190.ok 10 (mcallX (pCall A.LS) A.tbl 5000 40) = true := by decide +kernel
theorem A.s168_ok : A.s168.ok 10 (mcallX (pCall A.LS) A.tbl 5000 40) = true := by decide +kernel
theorem A.s70_ok : A.s70.ok 10 (mcallX (pCall A.LS) A.tbl 5000 40) = true := by decide +kernel
theorem A.s156_ok : A.s156.ok 10 (mcallX (pCall A.LS) A.tbl 5000 40) = true := by decide +kernel
theorem A.s177_ok : A.s177.ok 10 (mcallX (pCall A.LS) A.tbl 5000 40) = true := by decide +kernel
theorem A.s132_ok : A.s132.ok 10 (mcallX (pCall A.LS) A.tbl 5000 40) = true := by decide +kernel
theorem A.s112_ok : A.s112.ok 10 (mcallX (pCall A.LS) A.tbl 5000 40) = true := by decide +kernel
theorem A.s57_ok : A.s57.ok 10 (mcallX (pCall A.LS) A.tbl 5000 40) = true := by decide +kernel
theorem A.s111_ok : A.s111.ok 10 (mcallX (pCall A.LS) A.tbl 5000 40) = true := by decide +kernel
theorem A.s67_ok : A.s67.ok 10 (mcallX (pCall A.LS) A.tbl 5000 40) = true := by decide +kernel
theorem A.s77_ok : A.s77.ok 10 (mcallX (pCall A.LS) A.tbl 5000 40) = true := by decide +kernel
theorem A.s109_ok : A.s109.ok 10 (mcallX (pCall A.LS) A.tbl 5000 40) = true := by decide +kernel
theorem A.s184_ok : A.s184.ok 10 (mcallX (pCall A.LS) A.tbl 5000 40) = true := by decide +kernel
theorem A.s65_ok : A.s65.ok 10 (mcallX (pCall A.LS) A.tbl 5000 40) = true := by decide +kernel
theorem A.s63_ok : A.s63.ok 10 (mcallX (pCall A.LS) A.tbl 5000 40) = true := by decide +kernel
theorem A.s85_ok : A.s85.ok 10 (mcallX (pCall A.LS) A.tbl 5000 40) = true := by decide +kernel
theorem A.s96_ok : A.s96.ok 10 (mcallX (pCall A.LS) A.tbl 5000 40) = true := by decide +kernel
theorem A.s325_ok : A.s325.ok 10 (mcallX (pCall A.LS) A.tbl 5000 40) = true := by decide +kernel
theorem A.s302_ok : A.s302.ok 10 (mcallX (pCall A.LS) A.tbl 5000 40) = true := by decide +kernel
theorem A.s249_ok : A.s249.ok 10 (mcallX (pCall A.LS) A.tbl 5000 40) = true := by decide +kernel
theorem A.s215_ok : A.s215.ok 10 (mcallX (pCall A.LS) A.tbl 5000 40) = true := by decide +kernel
theorem A.s270_ok : A.s270.ok 10 (mcallX (pCall A.LS) A.tbl 5000 40) = true := by decide +kernel
theorem A.s278_ok : A.s278.ok 10 (mcallX (pCall A.LS) A.tbl 5000 40) = true := by decide +kernel
theorem A.s334_ok : A.s334.ok 10 (mcallX (pCall A.LS) A.tbl 5000 40) = true := by decide +kernel
theorem A.s335_ok : A.s335.ok 10 (mcallX (pCall A.LS) A.tbl 5000 40) = true := by decide +kernel
theorem A.s20_ok : A.s20.ok 10 (mcallX (pCall A.LS) A.tbl 5000 40) = true := by decide +kernel
theorem A.s21_ok : A.s21.ok 10 (mcallX (pCall A.LS) A.tbl 5000 40) = true := by decide +kernel
theorem A.s290_ok : A.s290.ok 10 (mcallX (pCall A.LS) A.tbl 5000 40) = true := by decide +kernel
theorem A.s287_ok : A.s287.ok 10 (mcallX (pCall A.LS) A.tbl 5000 40) = true := by decide +kernel
theorem A.s266_ok : A.s266.ok 10 (mcallX (pCall A.LS) A.tbl 5000 40) = true := by decide +kernel
theorem A.s15_ok : A.s15.ok 10 (mcallX (pCall A.LS) A.tbl 5000 40) = true := by decide +kernel
theorem A.s265_ok : A.s265.ok 10 (mcallX (pCall A.LS) A.tbl 5000 40) = true := by decide +kernel
theorem A.s242_ok : A.s242.ok 10 (mcallX (pCall A.LS) A.tbl 5000 40) = true := by decide +kernel
theorem A.s255_ok : A.s255.ok 10 (mcallX (pCall A.LS) A.tbl 5000 40) = true := by decide +kernel
theorem A.s0_ok : A.s0.ok 10 (mcallX noCall A.tbl 5000 40) = true := by decide +kernel
theorem A.s221_ok : A.s221.ok 10 (mcallX (pCall A.LS) A.tbl 5000 40) = true := by decide +kernel
theorem A.s320_ok : A.s320.ok 10 (mcallX (pCall A.LS) A.tbl 5000 40) = true := by decide +kernel
theorem A.s319_ok : A.s319.ok 10 (mcallX (pCall A.LS) A.tbl 5000 40) = true := by decide +kernel
theorem A.s208_ok : A.s208.ok 10 (mcallX (pCall A.LS) A.tbl 5000 40) = true := by decide +kernel
theorem A.s241_ok : A.s241.ok 10 (mcallX (pCall A.LS) A.tbl 5000 40) = true := by decide +kernel
theorem A.s195_ok : A.s195.ok 10 (mcallX (pCall A.LS) A.tbl 5000 40) = true := by decide +kernel
theorem A.s207_ok : A.s207.ok 10 (mcallX (pCall A.LS) A.tbl 5000 40) = true := by decide +kernel
theorem A.s295_ok : A.s295.ok 10 (mcallX (pCall A.LS) A.tbl 5000 40) = true := by decide +kernel
theorem A.s42_ok : A.s42.ok 10 (mcallX (pCall A.LS) A.tbl 5000 40) = true := by decide +kernel
theorem A.s44_ok : A.s44.ok 10 (mcallX (pCall A.LS) A.tbl 5000 40) = true := by decide +kernel
theorem A.s272_ok : A.s272.ok 10 (mcallX (pCall A.LS) A.tbl 5000 40) = true := by decide +kernel
theorem A.s40_ok : A.s40.ok 10 (mcallX (pCall A.LS) A.tbl 5000 40) = true := by decide +kernel
theorem A.s33_ok : A.s33.ok 10 (mcallX (pCall A.LS) A.tbl 5000 40) = true := by decide +kernel
end Go.Mx
