/-
  The acts in each valid state: the known runs, by the kernel. Printed by a program (wip/dev/GenStates.lean).
-/
import Derived.Test.YtkdpkgfpnimekaaGreatDoorStD
set_option linter.all false
namespace Go.Mx
open Go Go.Proofs
set_option maxRecDepth 1000000
theorem A.s126_ok : A.s126.ok 10 (mcallX (pCall A.LS) A.tbl 5000 40) = true := by decide +kernel
theorem A.s159_ok : A.s159.ok 10 (mcallX (pCall A.LS) A.tbl 5000 40) = true := by decide +kernel
theorem A.s182_ok : A.s182.ok 10 (mcallX (pCall A.LS) A.tbl 5000 40) = true := by decide +kernel
theorem A.s139_ok : A.s139.ok 10 (mcallX (pCall A.LS) A.tbl 5000 40) = true := by decide +kernel
theorem A.s128_ok : A.s128.ok 10 (mcallX (pCall A.LS) A.tbl 5000 40) = true := by decide +kernel
theorem A.g23_ok : A.g23.ok 10 (mcallX noCall A.tbl 5000 40) = true := by decide +kernel
theorem A.g4_ok : A.g4.ok 10 (mcallX noCall A.tbl 5000 40) = true := by decide +kernel
theorem A.g16_ok : A.g16.ok 10 (mcallX noCall A.tbl 5000 40) = true := by decide +kernel
theorem A.s192_ok : A.s192.ok 10 (mcallX (pCall A.LS) A.tbl 5000 40) = true := by decide +kernel
theorem A.s62_ok : A.s62.ok 10 (mcallX (pCall A.LS) A.tbl 5000 40) = true := by decide +kernel
theorem A.s83_ok : A.s83.ok 10 (mcallX (pCall A.LS) A.tbl 5000 40) = true := by decide +kernel
theorem A.s102_ok : A.s102.ok 10 (mcallX (pCall A.LS) A.tbl 5000 40) = true := by decide +kernel
theorem A.s93_ok : A.s93.ok 10 (mcallX (pCall A.LS) A.tbl 5000 40) = true := by decide +kernel
theorem A.s136_ok : A.s136.ok 10 (mcallX (pCall A.LS) A.tbl 5000 40) = true := by decide +kernel
theorem A.s103_ok : A.s103.ok 10 (mcallX (pCall A.LS) A.tbl 5000 40) = true := by decide +kernel
theorem A.s123_ok : A.s123.ok 10 (mcallX (pCall A.LS) A.tbl 5000 40) = true := by decide +kernel
theorem A.s122_ok : A.s122.ok 10 (mcallX (pCall A.LS) A.tbl 5000 40) = true := by decide +kernel
theorem A.s69_ok : A.s69.ok 10 (mcallX (pCall A.LS) A.tbl 5000 40) = true := by decide +kernel
theorem A.s79_ok : A.s79.ok 10 (mcallX (pCall A.LS) A.tbl 5000 40) = true := by decide +kernel
theorem A.s110_ok : A.s110.ok 10 (mcallX (pCall A.LS) A.tbl 5000 40) = true := by decide +kernel
theorem A.s142_ok : A.s142.ok 10 (mcallX (pCall A.LS) A.tbl 5000 40) = true := by decide +kernel
theorem A.s164_ok : A.s164.ok 10 (mcallX (pCall A.LS) A.tbl 5000 40) = true := by decide +kernel
theorem A.s153_ok : A.s153.ok 10 (mcallX (pCall A.LS) A.tbl 5000 40) = true := by decide +kernel
theorem A.s152_ok : A.s152.ok 10 (mcallX (pCall A.LS) A.tbl 5000 40) = true := by decide +kernel
theorem A.s130_ok : A.s130.ok 10 (mcallX (pCall A.LS) A.tbl 5000 40) = true := by decide +kernel
theorem A.s162_ok : A.s162.ok 10 (mcallX (pCall A.LS) A.tbl 5000 40) = true := by decide +kernel
theorem A.s52_ok : A.s52.ok 10 (mcallX (pCall A.LS) A.tbl 5000 40) = true := by decide +kernel
theorem A.s304_ok : A.s304.ok 10 (mcallX (pCall A.LS) A.tbl 5000 40) = true := by decide +kernel
theorem A.s107_ok : A.s107.ok 10 (mcallX (pCall A.LS) A.tbl 5000 40) = true := by decide +kernel
theorem A.s336_ok : A.s336.ok 10 (mcallX (pCall A.LS) A.tbl 5000 40) = true := by decide +kernel
theorem A.s313_ok : A.s313.ok 10 (mcallX (pCall A.LS) A.tbl 5000 40) = true := by decide +kernel
theorem A.s260_ok : A.s260.ok 10 (mcallX (pCall A.LS) A.tbl 5000 40) = true := by decide +kernel
theorem A.s248_ok : A.s248.ok 10 (mcallX (pCall A.LS) A.tbl 5000 40) = true := by decide +kernel
theorem A.s281_ok : A.s281.ok 10 (mcallX (pCall A.LS) A.tbl 5000 40) = true := by decide +kernel
theorem A.s289_ok : A.s289.ok 10 (mcallX (pCall A.LS) A.tbl 5000 40) = true := by decide +kernel
theorem A.s25_ok : A.s25.ok 10 (mcallX (pCall A.LS) A.tbl 5000 40) = true := by decide +kernel
theorem A.s23_ok : A.s23.ok 10 (mcallX (pCall A.LS) A.tbl 5000 40) = true := by decide +kernel
theorem A.s245_ok : A.s245.ok 10 (mcallX (pCall A.LS) A.tbl 5000 40) = true := by decide +kernel
theorem A.s224_ok : A.s224.ok 10 (mcallX (pCall A.LS) A.tbl 5000 40) = true := by decide +kernel
theorem A.s323_ok : A.s323.ok 10 (mcallX (pCall A.LS) A.tbl 5000 40) = true := by decide +kernel
theorem A.s17_ok : A.s17.ok 10 (mcallX (pCall A.LS) A.tbl 5000 40) = true := by decide +kernel
theorem A.s256_ok : A.s256.ok 10 (mcallX (pCall A.LS) A.tbl 5000 40) = true := by decide +kernel
theorem A.s6_ok : A.s6.ok 10 (mcallX noCall A.tbl 5000 40) = true := by decide +kernel
theorem A.s275_ok : A.s275.ok 10 (mcallX (pCall A.LS) A.tbl 5000 40) = true := by decide +kernel
theorem A.s253_ok : A.s253.ok 10 (mcallX (pCall A.LS) A.tbl 5000 40) = true := by decide +kernel
theorem A.s299_ok : A.s299.ok 10 (mcallX (pCall A.LS) A.tbl 5000 40) = true := by decide +kernel
theorem A.s199_ok : A.s199.ok 10 (mcallX (pCall A.LS) A.tbl 5000 40) = true := by decide +kernel
theorem A.s210_ok : A.s210.ok 10 (mcallX (pCall A.LS) A.tbl 5000 40) = true := by decide +kernel
theorem A.s309_ok : A.s309.ok 10 (mcallX (pCall A.LS) A.tbl 5000 40) = true := by decide +kernel
theorem A.s231_ok : A.s231.ok 10 (mcallX (pCall A.LS) A.tbl 5000 40) = true := by decide +kernel
theorem A.s274_ok : A.s274.ok 10 (mcallX (pCall A.LS) A.tbl 5000 40) = true := by decide +kernel
theorem A.s307_ok : A.s307.ok 10 (mcallX (pCall A.LS) A.tbl 5000 40) = true := by decide +kernel
theorem A.s51_ok : A.s51.ok 10 (mcallX (pCall A.LS) A.tbl 5000 40) = true := by decide +kernel
theorem A.s262_ok : A.s262.ok 10 (mcallX (pCall A.LS) A.tbl 5000 40) = true := by decide +kernel
theorem A.s328_ok : A.s328.ok 10 (mcallX (pCall A.LS) A.tbl 5000 40) = true := by decide +kernel
theorem A.s217_ok : A.s217.ok 10 (mcallX (pCall A.LS) A.tbl 5000 40) = true := by decide +kernel
theorem A.s239_ok : A.s239.ok 10 (mcallX (pCall A.LS) A.tbl 5000 40) = true := by decide +kernel
theorem A.s294_ok : A.s294.ok 10 (mcallX (pCall A.LS) A.tbl 5000 40) = true := by decide +kernel
theorem A.s39_ok : A.s39.ok 10 (mcallX (pCall A.LS) A.tbl 5000 40) = true := by decide +kernel
theorem A.s32_ok : A.s32.ok 10 (mcallX (pCall A.LS) A.tbl 5000 40) = true := by decide +kernel
theorem A.s38_ok : A.s38.ok 10 (mcallX (pCall A.LS) A.tbl 5000 40) = true := by decide +kernel
end Go.Mx
