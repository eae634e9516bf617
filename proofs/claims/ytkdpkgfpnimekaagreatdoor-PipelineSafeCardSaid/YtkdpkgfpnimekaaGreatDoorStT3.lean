/-
  The acts in each valid state: the known runs, by the kernel. Printed by a program (wip/dev/GenStates.lean).
-/
import Derived.Test.YtkdpkgfpnimekaaGreatDoorStD
set_option linter.all false
namespace Go.Mx
open Go Go.Proofs
set_option maxRecDepth 1000000
theorem A.s148_ok : A.s148.ok 10 (mcallX (pCall A.LS) A.tbl 5000 40) = true := by decide +kernel
theorem A.g19_ok : A.g19.ok 10 (mcallX noCall A.tbl 5000 40) = true := by decide +kernel
theorem A.s193_ok : A.s193.ok 10 (mcallX (pCall A.LS) A.tbl 5000 40) = true := by decide +kernel
theorem A.g6_ok : A.g6.ok 10 (mcallX noCall A.tbl 5000 40) = true := by decide +kernel
theorem A.s150_ok : A.s150.ok 10 (mcallX (pCall A.LS) A.tbl 5000 40) = true := by decide +kernel
theorem A.g18_ok : A.g18.ok 10 (mcallX noCall A.tbl 5000 40) = true := by decide +kernel
theorem A.s95_ok : A.s95.ok 10 (mcallX (pCall A.LS) A.tbl 5000 40) = true := by decide +kernel
theorem A.g25_ok : A.g25.ok 10 (mcallX noCall A.tbl 5000 40) = true := by decide +kernel
theorem A.s157_ok : A.s157.ok 10 (mcallX (pCall A.LS) A.tbl 5000 40) = true := by decide +kernel
theorem A.s94_ok : A.s94.ok 10 (mcallX (pCall A.LS) A.tbl 5000 40) = true := by decide +kernel
theorem A.g2_ok : A.g2.ok 10 (mcallX noCall A.tbl 5000 40) = true := by decide +kernel
theorem A.s180_ok : A.s180.ok 10 (mcallX (pCall A.LS) A.tbl 5000 40) = true := by decide +kernel
theorem A.s58_ok : A.s58.ok 10 (mcallX (pCall A.LS) A.tbl 5000 40) = true := by decide +kernel
theorem A.s114_ok : A.s114.ok 10 (mcallX (pCall A.LS) A.tbl 5000 40) = true := by decide +kernel
theorem A.s81_ok : A.s81.ok 10 (mcallX (pCall A.LS) A.tbl 5000 40) = true := by decide +kernel
theorem A.s59_ok : A.s59.ok 10 (mcallX (pCall A.LS) A.tbl 5000 40) = true := by decide +kernel
theorem A.s133_ok : A.s133.ok 10 (mcallX (pCall A.LS) A.tbl 5000 40) = true := by decide +kernel
theorem A.s143_ok : A.s143.ok 10 (mcallX (pCall A.LS) A.tbl 5000 40) = true := by decide +kernel
theorem A.s176_ok : A.s176.ok 10 (mcallX (pCall A.LS) A.tbl 5000 40) = true := by decide +kernel
theorem A.s165_ok : A.s165.ok 10 (mcallX (pCall A.LS) A.tbl 5000 40) = true := by decide +kernel
theorem A.s120_ok : A.s120.ok 10 (mcallX (pCall A.LS) A.tbl 5000 40) = true := by decide +kernel
theorem A.s175_ok : A.s175.ok 10 (mcallX (pCall A.LS) A.tbl 5000 40) = true := by decide +kernel
theorem A.s185_ok : A.s185.ok 10 (mcallX (pCall A.LS) A.tbl 5000 40) = true := by decide +kernel
theorem A.s163_ok : A.s163.ok 10 (mcallX (pCall A.LS) A.tbl 5000 40) = true := by decide +kernel
theorem A.s141_ok : A.s141.ok 10 (mcallX (pCall A.LS) A.tbl 5000 40) = true := by decide +kernel
theorem A.s108_ok : A.s108.ok 10 (mcallX (pCall A.LS) A.tbl 5000 40) = true := by decide +kernel
theorem A.s140_ok : A.s140.ok 10 (mcallX (pCall A.LS) A.tbl 5000 40) = true := by decide +kernel
theorem A.s64_ok : A.s64.ok 10 (mcallX (pCall A.LS) A.tbl 5000 40) = true := by decide +kernel
theorem A.s280_ok : A.s280.ok 10 (mcallX (pCall A.LS) A.tbl 5000 40) = true := by decide +kernel
theorem A.s258_ok : A.s258.ok 10 (mcallX (pCall A.LS) A.tbl 5000 40) = true := by decide +kernel
theorem A.s203_ok : A.s203.ok 10 (mcallX (pCall A.LS) A.tbl 5000 40) = true := by decide +kernel
theorem A.s216_ok : A.s216.ok 10 (mcallX (pCall A.LS) A.tbl 5000 40) = true := by decide +kernel
theorem A.s282_ok : A.s282.ok 10 (mcallX (pCall A.LS) A.tbl 5000 40) = true := by decide +kernel
theorem A.s303_ok : A.s303.ok 10 (mcallX (pCall A.LS) A.tbl 5000 40) = true := by decide +kernel
theorem A.s235_ok : A.s235.ok 10 (mcallX (pCall A.LS) A.tbl 5000 40) = true := by decide +kernel
theorem A.s225_ok : A.s225.ok 10 (mcallX (pCall A.LS) A.tbl 5000 40) = true := by decide +kernel
theorem A.s201_ok : A.s201.ok 10 (mcallX (pCall A.LS) A.tbl 5000 40) = true := by decide +kernel
theorem A.s322_ok : A.s322.ok 10 (mcallX (pCall A.LS) A.tbl 5000 40) = true := by decide +kernel
theorem A.s279_ok : A.s279.ok 10 (mcallX (pCall A.LS) A.tbl 5000 40) = true := by decide +kernel
theorem A.s9_ok : A.s9.ok 10 (mcallX noCall A.tbl 5000 40) = true := by decide +kernel
theorem A.s18_ok : A.s18.ok 10 (mcallX (pCall A.LS) A.tbl 5000 40) = true := by decide +kernel
theorem A.s288_ok : A.s288.ok 10 (mcallX (pCall A.LS) A.tbl 5000 40) = true := by decide +kernel
theorem A.s5_ok : A.s5.ok 10 (mcallX noCall A.tbl 5000 40) = true := by decide +kernel
theorem A.s13_ok : A.s13.ok 10 (mcallX (pCall A.LS) A.tbl 5000 40) = true := by decide +kernel
theorem A.s3_ok : A.s3.ok 10 (mcallX noCall A.tbl 5000 40) = true := by decide +kernel
theorem A.s211_ok : A.s211.ok 10 (mcallX (pCall A.LS) A.tbl 5000 40) = true := by decide +kernel
theorem A.s310_ok : A.s310.ok 10 (mcallX (pCall A.LS) A.tbl 5000 40) = true := by decide +kernel
theorem A.s232_ok : A.s232.ok 10 (mcallX (pCall A.LS) A.tbl 5000 40) = true := by decide +kernel
theorem A.s331_ok : A.s331.ok 10 (mcallX (pCall A.LS) A.tbl 5000 40) = true := by decide +kernel
theorem A.s263_ok : A.s263.ok 10 (mcallX (pCall A.LS) A.tbl 5000 40) = true := by decide +kernel
theorem A.s197_ok : A.s197.ok 10 (mcallX (pCall A.LS) A.tbl 5000 40) = true := by decide +kernel
theorem A.s230_ok : A.s230.ok 10 (mcallX (pCall A.LS) A.tbl 5000 40) = true := by decide +kernel
theorem A.s329_ok : A.s329.ok 10 (mcallX (pCall A.LS) A.tbl 5000 40) = true := by decide +kernel
theorem A.s229_ok : A.s229.ok 10 (mcallX (pCall A.LS) A.tbl 5000 40) = true := by decide +kernel
theorem A.s317_ok : A.s317.ok 10 (mcallX (pCall A.LS) A.tbl 5000 40) = true := by decide +kernel
theorem A.s41_ok : A.s41.ok 10 (mcallX (pCall A.LS) A.tbl 5000 40) = true := by decide +kernel
theorem A.s45_ok : A.s45.ok 10 (mcallX (pCall A.LS) A.tbl 5000 40) = true := by decide +kernel
theorem A.s327_ok : A.s327.ok 10 (mcallX (pCall A.LS) A.tbl 5000 40) = true := by decide +kernel
theorem A.s28_ok : A.s28.ok 10 (mcallX (pCall A.LS) A.tbl 5000 40) = true := by decide +kernel
theorem A.s31_ok : A.s31.ok 10 (mcallX (pCall A.LS) A.tbl 5000 40) = true := by decide +kernel
theorem A.s37_ok : A.s37.ok 10 (mcallX (pCall A.LS) A.tbl 5000 40) = true := by decide +kernel
end Go.Mx
