/-
  The known runs, by the kernel. Printed by a program (wip/dev/Gen.lean).
-/
import Derived.Test.YtppobccilnifoaaGreatDoorMxIn2
set_option linter.all false
namespace Go.Mx
open Go
set_option maxRecDepth 1000000
theorem A.e1_ok:A.e1.ok 10 (mcallX (xCall A.L130 A.E0) A.tbl 5000 40)=true:=by decide+kernel
theorem A.p11_ok:A.p11.ok 10 (mcallX (xCall A.L10 []) A.tbl 5000 40)=true:=by decide+kernel
theorem A.p89_ok:A.p89.ok 10 (mcallX (xCall A.L88 []) A.tbl 5000 40)=true:=by decide+kernel
theorem A.p25_ok:A.p25.ok 10 (mcallX (xCall A.L24 []) A.tbl 5000 40)=true:=by decide+kernel
theorem A.p75_ok:A.p75.ok 10 (mcallX (xCall A.L74 []) A.tbl 5000 40)=true:=by decide+kernel
theorem A.p30_ok:A.p30.ok 10 (mcallX (xCall A.L29 []) A.tbl 5000 40)=true:=by decide+kernel
theorem A.p0_ok:A.p0.ok 10 (mcallX (xCall [] []) A.tbl 5000 40)=true:=by decide+kernel
theorem A.p85_ok:A.p85.ok 10 (mcallX (xCall A.L84 []) A.tbl 5000 40)=true:=by decide+kernel
theorem A.p103_ok:A.p103.ok 10 (mcallX (xCall A.L102 []) A.tbl 5000 40)=true:=by decide+kernel
theorem A.p96_ok:A.p96.ok 10 (mcallX (xCall A.L95 []) A.tbl 5000 40)=true:=by decide+kernel
theorem A.p84_ok:A.p84.ok 10 (mcallX (xCall A.L83 []) A.tbl 5000 40)=true:=by decide+kernel
theorem A.p102_ok:A.p102.ok 10 (mcallX (xCall A.L101 []) A.tbl 5000 40)=true:=by decide+kernel
theorem A.p114_ok:A.p114.ok 10 (mcallX (xCall A.L113 []) A.tbl 5000 40)=true:=by decide+kernel
theorem A.p35_ok:A.p35.ok 10 (mcallX (xCall A.L34 []) A.tbl 5000 40)=true:=by decide+kernel
theorem A.p93_ok:A.p93.ok 10 (mcallX (xCall A.L92 []) A.tbl 5000 40)=true:=by decide+kernel
theorem A.p127_ok:A.p127.ok 10 (mcallX (xCall A.L126 []) A.tbl 5000 40)=true:=by decide+kernel
theorem A.p24_ok:A.p24.ok 10 (mcallX (xCall A.L23 []) A.tbl 5000 40)=true:=by decide+kernel
theorem A.p76_ok:A.p76.ok 10 (mcallX (xCall A.L75 []) A.tbl 5000 40)=true:=by decide+kernel
theorem A.p90_ok:A.p90.ok 10 (mcallX (xCall A.L89 []) A.tbl 5000 40)=true:=by decide+kernel
theorem A.p43_ok:A.p43.ok 10 (mcallX (xCall A.L42 []) A.tbl 5000 40)=true:=by decide+kernel
theorem A.p37_ok:A.p37.ok 10 (mcallX (xCall A.L36 []) A.tbl 5000 40)=true:=by decide+kernel
theorem A.p130_ok:A.p130.ok 10 (mcallX (xCall A.L129 []) A.tbl 5000 40)=true:=by decide+kernel
theorem A.p68_ok:A.p68.ok 10 (mcallX (xCall A.L67 []) A.tbl 5000 40)=true:=by decide+kernel
theorem A.p10_ok:A.p10.ok 10 (mcallX (xCall A.L9 []) A.tbl 5000 40)=true:=by decide+kernel
theorem A.p2_ok:A.p2.ok 10 (mcallX (xCall A.L1 []) A.tbl 5000 40)=true:=by decide+kernel
theorem A.p26_ok:A.p26.ok 10 (mcallX (xCall A.L25 []) A.tbl 5000 40)=true:=by decide+kernel
theorem A.p73_ok:A.p73.ok 10 (mcallX (xCall A.L72 []) A.tbl 5000 40)=true:=by decide+kernel
theorem A.p40_ok:A.p40.ok 10 (mcallX (xCall A.L39 []) A.tbl 5000 40)=true:=by decide+kernel
theorem A.p49_ok:A.p49.ok 10 (mcallX (xCall A.L48 []) A.tbl 5000 40)=true:=by decide+kernel
theorem A.p56_ok:A.p56.ok 10 (mcallX (xCall A.L55 []) A.tbl 5000 40)=true:=by decide+kernel
theorem A.p79_ok:A.p79.ok 10 (mcallX (xCall A.L78 []) A.tbl 5000 40)=true:=by decide+kernel
theorem A.p7_ok:A.p7.ok 10 (mcallX (xCall A.L6 []) A.tbl 5000 40)=true:=by decide+kernel
theorem A.p66_ok:A.p66.ok 10 (mcallX (xCall A.L65 []) A.tbl 5000 40)=true:=by decide+kernel
theorem A.p105_ok:A.p105.ok 10 (mcallX (xCall A.L104 []) A.tbl 5000 40)=true:=by decide+kernel
theorem A.p119_ok:A.p119.ok 10 (mcallX (xCall A.L118 []) A.tbl 5000 40)=true:=by decide+kernel
theorem A.p53_ok:A.p53.ok 10 (mcallX (xCall A.L52 []) A.tbl 5000 40)=true:=by decide+kernel
theorem A.p126_ok:A.p126.ok 10 (mcallX (xCall A.L125 []) A.tbl 5000 40)=true:=by decide+kernel
theorem A.p118_ok:A.p118.ok 10 (mcallX (xCall A.L117 []) A.tbl 5000 40)=true:=by decide+kernel
theorem A.p16_ok:A.p16.ok 10 (mcallX (xCall A.L15 []) A.tbl 5000 40)=true:=by decide+kernel
theorem A.p123_ok:A.p123.ok 10 (mcallX (xCall A.L122 []) A.tbl 5000 40)=true:=by decide+kernel
end Go.Mx
