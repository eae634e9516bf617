/-
  The known runs, by the kernel. Printed by a program (wip/dev/Gen.lean).
-/
import Derived.Test.YtppobccilnifoaaGreatDoorMxIn2
set_option linter.all false
namespace Go.Mx
open Go
set_option maxRecDepth 1000000
theorem A.e4_ok:A.e4.ok 10 (mcallX (xCall A.L131 A.E3) A.tbl 5000 40)=true:=by decide+kernel
theorem A.p8_ok:A.p8.ok 10 (mcallX (xCall A.L7 []) A.tbl 5000 40)=true:=by decide+kernel
theorem A.p38_ok:A.p38.ok 10 (mcallX (xCall A.L37 []) A.tbl 5000 40)=true:=by decide+kernel
theorem A.p134_ok:A.p134.ok 10 (mcallX (xCall A.L133 A.E5) A.tbl 5000 40)=true:=by decide+kernel
theorem A.p133_ok:A.p133.ok 10 (mcallX (xCall A.L132 A.E5) A.tbl 5000 40)=true:=by decide+kernel
theorem A.p36_ok:A.p36.ok 10 (mcallX (xCall A.L35 []) A.tbl 5000 40)=true:=by decide+kernel
theorem A.p46_ok:A.p46.ok 10 (mcallX (xCall A.L45 []) A.tbl 5000 40)=true:=by decide+kernel
theorem A.p60_ok:A.p60.ok 10 (mcallX (xCall A.L59 []) A.tbl 5000 40)=true:=by decide+kernel
theorem A.p67_ok:A.p67.ok 10 (mcallX (xCall A.L66 []) A.tbl 5000 40)=true:=by decide+kernel
theorem A.p39_ok:A.p39.ok 10 (mcallX (xCall A.L38 []) A.tbl 5000 40)=true:=by decide+kernel
theorem A.p47_ok:A.p47.ok 10 (mcallX (xCall A.L46 []) A.tbl 5000 40)=true:=by decide+kernel
theorem A.p77_ok:A.p77.ok 10 (mcallX (xCall A.L76 []) A.tbl 5000 40)=true:=by decide+kernel
theorem A.p117_ok:A.p117.ok 10 (mcallX (xCall A.L116 []) A.tbl 5000 40)=true:=by decide+kernel
theorem A.p9_ok:A.p9.ok 10 (mcallX (xCall A.L8 []) A.tbl 5000 40)=true:=by decide+kernel
theorem A.p58_ok:A.p58.ok 10 (mcallX (xCall A.L57 []) A.tbl 5000 40)=true:=by decide+kernel
theorem A.p110_ok:A.p110.ok 10 (mcallX (xCall A.L109 []) A.tbl 5000 40)=true:=by decide+kernel
theorem A.p33_ok:A.p33.ok 10 (mcallX (xCall A.L32 []) A.tbl 5000 40)=true:=by decide+kernel
theorem A.p17_ok:A.p17.ok 10 (mcallX (xCall A.L16 []) A.tbl 5000 40)=true:=by decide+kernel
theorem A.p116_ok:A.p116.ok 10 (mcallX (xCall A.L115 []) A.tbl 5000 40)=true:=by decide+kernel
theorem A.p23_ok:A.p23.ok 10 (mcallX (xCall A.L22 []) A.tbl 5000 40)=true:=by decide+kernel
theorem A.p101_ok:A.p101.ok 10 (mcallX (xCall A.L100 []) A.tbl 5000 40)=true:=by decide+kernel
theorem A.p80_ok:A.p80.ok 10 (mcallX (xCall A.L79 []) A.tbl 5000 40)=true:=by decide+kernel
theorem A.p22_ok:A.p22.ok 10 (mcallX (xCall A.L21 []) A.tbl 5000 40)=true:=by decide+kernel
theorem A.p100_ok:A.p100.ok 10 (mcallX (xCall A.L99 []) A.tbl 5000 40)=true:=by decide+kernel
theorem A.p104_ok:A.p104.ok 10 (mcallX (xCall A.L103 []) A.tbl 5000 40)=true:=by decide+kernel
theorem A.p34_ok:A.p34.ok 10 (mcallX (xCall A.L33 []) A.tbl 5000 40)=true:=by decide+kernel
theorem A.p91_ok:A.p91.ok 10 (mcallX (xCall A.L90 []) A.tbl 5000 40)=true:=by decide+kernel
theorem A.p120_ok:A.p120.ok 10 (mcallX (xCall A.L119 []) A.tbl 5000 40)=true:=by decide+kernel
theorem A.p21_ok:A.p21.ok 10 (mcallX (xCall A.L20 []) A.tbl 5000 40)=true:=by decide+kernel
theorem A.p74_ok:A.p74.ok 10 (mcallX (xCall A.L73 []) A.tbl 5000 40)=true:=by decide+kernel
theorem A.p107_ok:A.p107.ok 10 (mcallX (xCall A.L106 []) A.tbl 5000 40)=true:=by decide+kernel
theorem A.p5_ok:A.p5.ok 10 (mcallX (xCall A.L4 []) A.tbl 5000 40)=true:=by decide+kernel
theorem A.p64_ok:A.p64.ok 10 (mcallX (xCall A.L63 []) A.tbl 5000 40)=true:=by decide+kernel
theorem A.p121_ok:A.p121.ok 10 (mcallX (xCall A.L120 []) A.tbl 5000 40)=true:=by decide+kernel
theorem A.p122_ok:A.p122.ok 10 (mcallX (xCall A.L121 []) A.tbl 5000 40)=true:=by decide+kernel
theorem A.p112_ok:A.p112.ok 10 (mcallX (xCall A.L111 []) A.tbl 5000 40)=true:=by decide+kernel
theorem A.p59_ok:A.p59.ok 10 (mcallX (xCall A.L58 []) A.tbl 5000 40)=true:=by decide+kernel
theorem A.p18_ok:A.p18.ok 10 (mcallX (xCall A.L17 []) A.tbl 5000 40)=true:=by decide+kernel
theorem A.p52_ok:A.p52.ok 10 (mcallX (xCall A.L51 []) A.tbl 5000 40)=true:=by decide+kernel
theorem A.p1_ok:A.p1.ok 10 (mcallX (xCall A.L0 []) A.tbl 5000 40)=true:=by decide+kernel
theorem A.p48_ok:A.p48.ok 10 (mcallX (xCall A.L47 []) A.tbl 5000 40)=true:=by decide+kernel
theorem A.p51_ok:A.p51.ok 10 (mcallX (xCall A.L50 []) A.tbl 5000 40)=true:=by decide+kernel
theorem A.p65_ok:A.p65.ok 10 (mcallX (xCall A.L64 []) A.tbl 5000 40)=true:=by decide+kernel
theorem A.p132_ok:A.p132.ok 10 (mcallX (xCall A.L131 A.E5) A.tbl 5000 40)=true:=by decide+kernel
theorem A.p57_ok:A.p57.ok 10 (mcallX (xCall A.L56 []) A.tbl 5000 40)=true:=by decide+kernel
theorem A.p98_ok:A.p98.ok 10 (mcallX (xCall A.L97 []) A.tbl 5000 40)=true:=by decide+kernel
theorem A.p115_ok:A.p115.ok 10 (mcallX (xCall A.L114 []) A.tbl 5000 40)=true:=by decide+kernel
theorem A.p42_ok:A.p42.ok 10 (mcallX (xCall A.L41 []) A.tbl 5000 40)=true:=by decide+kernel
theorem A.p125_ok:A.p125.ok 10 (mcallX (xCall A.L124 []) A.tbl 5000 40)=true:=by decide+kernel
theorem A.p97_ok:A.p97.ok 10 (mcallX (xCall A.L96 []) A.tbl 5000 40)=true:=by decide+kernel
theorem A.p14_ok:A.p14.ok 10 (mcallX (xCall A.L13 []) A.tbl 5000 40)=true:=by decide+kernel
theorem A.p71_ok:A.p71.ok 10 (mcallX (xCall A.L70 []) A.tbl 5000 40)=true:=by decide+kernel
end Go.Mx
