/-
  The known runs, by the kernel. Printed by a program (wip/dev/Gen.lean).
-/
import Derived.Test.YtppobccilnifoaaGreatDoorMxIn2
set_option linter.all false
namespace Go.Mx
open Go
set_option maxRecDepth 1000000
theorem A.e5_ok:A.e5.ok 10 (mcallX (xCall A.L131 A.E4) A.tbl 5000 40)=true:=by decide+kernel
theorem A.e0_ok:A.e0.ok 10 (mcallX (xCall A.L130 []) A.tbl 5000 40)=true:=by decide+kernel
theorem A.p72_ok:A.p72.ok 10 (mcallX (xCall A.L71 []) A.tbl 5000 40)=true:=by decide+kernel
theorem A.p20_ok:A.p20.ok 10 (mcallX (xCall A.L19 []) A.tbl 5000 40)=true:=by decide+kernel
theorem A.p87_ok:A.p87.ok 10 (mcallX (xCall A.L86 []) A.tbl 5000 40)=true:=by decide+kernel
theorem A.p109_ok:A.p109.ok 10 (mcallX (xCall A.L108 []) A.tbl 5000 40)=true:=by decide+kernel
theorem A.p19_ok:A.p19.ok 10 (mcallX (xCall A.L18 []) A.tbl 5000 40)=true:=by decide+kernel
theorem A.p86_ok:A.p86.ok 10 (mcallX (xCall A.L85 []) A.tbl 5000 40)=true:=by decide+kernel
theorem A.p108_ok:A.p108.ok 10 (mcallX (xCall A.L107 []) A.tbl 5000 40)=true:=by decide+kernel
theorem A.p106_ok:A.p106.ok 10 (mcallX (xCall A.L105 []) A.tbl 5000 40)=true:=by decide+kernel
theorem A.p88_ok:A.p88.ok 10 (mcallX (xCall A.L87 []) A.tbl 5000 40)=true:=by decide+kernel
theorem A.p111_ok:A.p111.ok 10 (mcallX (xCall A.L110 []) A.tbl 5000 40)=true:=by decide+kernel
theorem A.p129_ok:A.p129.ok 10 (mcallX (xCall A.L128 []) A.tbl 5000 40)=true:=by decide+kernel
theorem A.p32_ok:A.p32.ok 10 (mcallX (xCall A.L31 []) A.tbl 5000 40)=true:=by decide+kernel
theorem A.p99_ok:A.p99.ok 10 (mcallX (xCall A.L98 []) A.tbl 5000 40)=true:=by decide+kernel
theorem A.p92_ok:A.p92.ok 10 (mcallX (xCall A.L91 []) A.tbl 5000 40)=true:=by decide+kernel
theorem A.p55_ok:A.p55.ok 10 (mcallX (xCall A.L54 []) A.tbl 5000 40)=true:=by decide+kernel
theorem A.p6_ok:A.p6.ok 10 (mcallX (xCall A.L5 []) A.tbl 5000 40)=true:=by decide+kernel
theorem A.p83_ok:A.p83.ok 10 (mcallX (xCall A.L82 []) A.tbl 5000 40)=true:=by decide+kernel
theorem A.p94_ok:A.p94.ok 10 (mcallX (xCall A.L93 []) A.tbl 5000 40)=true:=by decide+kernel
theorem A.p12_ok:A.p12.ok 10 (mcallX (xCall A.L11 []) A.tbl 5000 40)=true:=by decide+kernel
theorem A.p13_ok:A.p13.ok 10 (mcallX (xCall A.L12 []) A.tbl 5000 40)=true:=by decide+kernel
theorem A.p31_ok:A.p31.ok 10 (mcallX (xCall A.L30 []) A.tbl 5000 40)=true:=by decide+kernel
theorem A.p131_ok:A.p131.ok 10 (mcallX (xCall A.L130 A.E1) A.tbl 5000 40)=true:=by decide+kernel
theorem A.p44_ok:A.p44.ok 10 (mcallX (xCall A.L43 []) A.tbl 5000 40)=true:=by decide+kernel
theorem A.p50_ok:A.p50.ok 10 (mcallX (xCall A.L49 []) A.tbl 5000 40)=true:=by decide+kernel
theorem A.p61_ok:A.p61.ok 10 (mcallX (xCall A.L60 []) A.tbl 5000 40)=true:=by decide+kernel
theorem A.p95_ok:A.p95.ok 10 (mcallX (xCall A.L94 []) A.tbl 5000 40)=true:=by decide+kernel
theorem A.p45_ok:A.p45.ok 10 (mcallX (xCall A.L44 []) A.tbl 5000 40)=true:=by decide+kernel
theorem A.p82_ok:A.p82.ok 10 (mcallX (xCall A.L81 []) A.tbl 5000 40)=true:=by decide+kernel
theorem A.p113_ok:A.p113.ok 10 (mcallX (xCall A.L112 []) A.tbl 5000 40)=true:=by decide+kernel
theorem A.p3_ok:A.p3.ok 10 (mcallX (xCall A.L2 []) A.tbl 5000 40)=true:=by decide+kernel
theorem A.p54_ok:A.p54.ok 10 (mcallX (xCall A.L53 []) A.tbl 5000 40)=true:=by decide+kernel
theorem A.p128_ok:A.p128.ok 10 (mcallX (xCall A.L127 []) A.tbl 5000 40)=true:=by decide+kernel
theorem A.p15_ok:A.p15.ok 10 (mcallX (xCall A.L14 []) A.tbl 5000 40)=true:=by decide+kernel
theorem A.p27_ok:A.p27.ok 10 (mcallX (xCall A.L26 []) A.tbl 5000 40)=true:=by decide+kernel
theorem A.p124_ok:A.p124.ok 10 (mcallX (xCall A.L123 []) A.tbl 5000 40)=true:=by decide+kernel
end Go.Mx
