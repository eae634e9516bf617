/-The known runs-/
import Derived.Test.YtnkdakmfipgidaaGreatDoorMxDec
import Derived.Test.YtnkdakmfipgidaaGreatDoorChecked
set_option linter.all false
namespace Go.Mx
open Go Go.Proofs
set_option maxRecDepth 1000000
noncomputable def A.dV:Nat->Option mV:=zR Tryz.prog
abbrev A.p(L:List nP)(E:List mb):Prop:=Yol A.TB 10 A.dV L E=true
abbrev A.e(L:List nP)(E:List mb):Prop:=Yhb A.TB 10 A.dV L E=true
abbrev ai(n:Int):V:=.int .i64 n
abbrev aG:V:=.bool false
abbrev pX:V:=.bool true
abbrev aj:V:=.aa
def A.L:List nP:=[]
def A.E:List mb:=[]
def A.L0:=⟨230,[.str [49],.str [45]],aG⟩::A.L
def A.L1:=⟨229,[.str [49],.str [47]],ai (-1)⟩::A.L0
def A.L2:=⟨208,[.str [49],.str [47]],(.aV [.str [49],.str [],aG])⟩::A.L1
def A.L3:=⟨166,[.str [49],.str [47]],(.aV [.str [49],.str [],aG])⟩::A.L2
def A.L4:=⟨247,[.str [48,49,50,51,52,53,54,55,56,57]],(.aV [.agg (List.replicate 48 aG++List.replicate 10 pX++List.replicate 198 aG),pX])⟩::A.L3
def A.L5:=⟨222,[.str [49],.str [48,49,50,51,52,53,54,55,56,57]],.str []⟩::A.L4
def A.L6:=⟨193,[.str [49]],pX⟩::A.L5
def A.L7:=⟨150,[.str [49]],ai 0⟩::A.L6
def A.L8:=⟨150,[.str [45,49]],ai 0⟩::A.L7
def A.L9:=⟨208,[.str [48],.str [47]],(.aV [.str [48],.str [],aG])⟩::A.L8
def A.VY:=⟨166,[.str [48],.str [47]],(.aV [.str [48],.str [],aG])⟩::A.L9
def A.VZ:=⟨222,[.str [48],.str [48,49,50,51,52,53,54,55,56,57]],.str []⟩::A.VY
def A.V0:=⟨193,[.str [48]],pX⟩::A.VZ
def A.V1:=⟨150,[.str [48]],ai 0⟩::A.V0
def A.V2:=⟨232,[.str [49]],.aV [ai 1,.aY]⟩::A.V1
def A.V3:=⟨211,[.str [49]],.aV [ai 1,.aY]⟩::A.V2
def A.V4:=⟨205,[.int .u64 1,.int .u64 10],.aV [.int .u64 0,.int .u64 10]⟩::A.V3
def A.V5:=⟨165,[.agg [ai 1,aj],.agg [ai 10,aj]],.agg [ai 10,aj]⟩::A.V4
def A.V6:=⟨212,[.agg [ai 10,aj],ai 1],.agg [ai 10,aj]⟩::A.V5
def A.V7:=⟨205,[.int .u64 0,.int .u64 10],.aV [.int .u64 0,.int .u64 0]⟩::A.V6
def A.V8:=⟨165,[.agg [ai 0,aj],.agg [ai 10,aj]],.agg [ai 0,aj]⟩::A.V7
def A.V9:=⟨163,[.agg [ai 0,aj],.agg [ai 1,aj]],.agg [ai 1,aj]⟩::A.V8
def A.Wa:=⟨167,[.str [49]],.agg [ai 1,aj]⟩::A.V9
def A.Wb:=⟨99,[.str [49]],.agg [ai 1,aj,ai 1,aj]⟩::A.Wa
def A.Wc:=⟨167,[.str [45,49]],(.agg [ai (-1),aj])⟩::A.Wb
def A.Wd:=⟨99,[.str [45,49]],(.agg [ai (-1),aj,ai 1,aj])⟩::A.Wc
def A.We:=⟨167,[.str [48]],.agg [ai 0,aj]⟩::A.Wd
def A.Wf:=⟨99,[.str [48]],.agg [ai 0,aj,ai 1,aj]⟩::A.We
def A.Wg:=⟨164,[.agg [ai 1,aj],.agg [ai 1,aj]],.agg [ai 1,aj,ai 1,aj]⟩::A.Wf
def A.Wh:=⟨205,[.int .u64 1,.int .u64 1],.aV [.int .u64 0,.int .u64 1]⟩::A.Wg
def A.Wj:=⟨165,[.agg [ai 1,aj],.agg [ai 1,aj]],.agg [ai 1,aj]⟩::A.Wh
def A.Wk:=⟨105,[.agg [ai 1,aj,ai 1,aj],.agg [ai 1,aj,ai 1,aj]],.agg [ai 1,aj,ai 1,aj]⟩::A.Wj
def A.Wl:=⟨129,[.agg [ai 1,aj,ai 1,aj],.agg [ai 1,aj,ai 1,aj]],.agg [ai 1,aj,ai 1,aj]⟩::A.Wk
def A.Wm:=⟨165,[(.agg [ai (-1),aj]),.agg [ai 1,aj]],(.agg [ai (-1),aj])⟩::A.Wl
def A.Wo:=⟨105,[(.agg [ai (-1),aj,ai 1,aj]),.agg [ai 1,aj,ai 1,aj]],(.agg [ai (-1),aj,ai 1,aj])⟩::A.Wm
def A.Wp:=⟨129,[(.agg [ai (-1),aj,ai 1,aj]),.agg [ai 1,aj,ai 1,aj]],(.agg [ai (-1),aj,ai 1,aj])⟩::A.Wo
def A.Wq:=⟨165,[.agg [ai 0,aj],.agg [ai 1,aj]],.agg [ai 0,aj]⟩::A.Wp
def A.Wr:=⟨105,[.agg [ai 0,aj,ai 1,aj],.agg [ai 1,aj,ai 1,aj]],.agg [ai 0,aj,ai 1,aj]⟩::A.Wq
def A.Ws:=⟨129,[.agg [ai 0,aj,ai 1,aj],.agg [ai 1,aj,ai 1,aj]],.agg [ai 0,aj,ai 1,aj]⟩::A.Wr
def A.Wu:=⟨105,[(.agg [ai (-1),aj,ai 1,aj]),.agg [ai 0,aj,ai 1,aj]],.agg [ai 0,aj,ai 1,aj]⟩::A.Ws
def A.Wv:=⟨161,[.agg [ai 0,aj,ai 1,aj]],pX⟩::A.Wu
def A.Ww:=⟨165,[(.agg [ai (-1),aj]),(.agg [ai (-1),aj])],.agg [ai 1,aj]⟩::A.Wv
def A.Wx:=⟨105,[(.agg [ai (-1),aj,ai 1,aj]),(.agg [ai (-1),aj,ai 1,aj])],.agg [ai 1,aj,ai 1,aj]⟩::A.Ww
def A.Wy:=⟨213,[.agg [ai 1,aj]],ai 1⟩::A.Wx
def A.HL:=⟨168,[.agg [ai 1,aj]],aG⟩::A.Wy
def A.E0:=⟨31,[],[],[(.slice 12 0 2 (some 2) 1)],[(12,.cells [(.slice 10 0 3 (some 3) 1),(.slice 11 0 3 (some 3) 1)] 23 true),(10,.cells [.str [49],.str [45,49],.str [48]] 38 true),(11,.cells [.str [48],.str [49],.str [45,49]] 38 true)]++A.TB,136,.aV [.slice 136 0 1 none 1,ai 0],[(329,.cells [(.slice 137 0 3 (some 3) 1)] 23 true),(315,.cells [.str [49],.str [49],.str [49]] 38 true)],[]⟩::A.E
def A.E1:=⟨11,[],[],[(.slice 12 0 2 (some 2) 1)],[(12,.cells [(.slice 10 0 3 (some 3) 1),(.slice 11 0 3 (some 3) 1)] 23 true),(10,.cells [.str [49],.str [45,49],.str [48]] 38 true),(11,.cells [.str [48],.str [49],.str [45,49]] 38 true)]++A.TB,138,.aV [.slice 138 0 2 none 1,ai 0],[(309,.cells [(.slice 139 0 3 (some 3) 1),(.slice 140 0 3 (some 3) 1)] 23 true),(270,.cells [.str [49],.str [48],.str [45,49]] 38 true),(295,.cells [.str [48],.str [49],.str [45,49]] 38 true)],[]⟩::A.E0
def A.WA:=⟨222,[.str [51],.str [48,49,50,51,52,53,54,55,56,57]],.str []⟩::A.HL
def A.WB:=⟨193,[.str [51]],pX⟩::A.WA
def A.WC:=⟨167,[.str [51]],.agg [ai 3,aj]⟩::A.WB
def A.WD:=⟨98,[.agg [ai 0,aj,ai 1,aj],.agg [ai 1,aj,ai 1,aj]],.agg [ai 1,aj,ai 1,aj]⟩::A.WC
def A.WE:=⟨98,[.agg [ai 0,aj,ai 1,aj],.agg [ai 0,aj,ai 1,aj]],.agg [ai 0,aj,ai 1,aj]⟩::A.WD
def A.WG:=⟨165,[.agg [ai 1,aj],.agg [ai 3,aj]],.agg [ai 3,aj]⟩::A.WE
def A.WH:=⟨224,[.agg [ai 2,aj],.agg [ai 1,aj]],(.aV [.agg [ai 2,aj],.agg [ai 0,aj]])⟩::A.WG
def A.WI:=⟨196,[.agg [ai 1,aj],.agg [ai 2,aj]],.agg [ai 1,aj]⟩::A.WH
def A.WJ:=⟨224,[.agg [ai 1,aj],.agg [ai 1,aj]],(.aV [.agg [ai 1,aj],.agg [ai 0,aj]])⟩::A.WI
def A.WK:=⟨204,[.agg [ai 1,aj],.agg [ai 1,aj]],.agg [ai 1,aj]⟩::A.WJ
def A.WL:=⟨204,[.agg [ai 2,aj],.agg [ai 1,aj]],.agg [ai 2,aj]⟩::A.WK
def A.WM:=⟨164,[.agg [ai 1,aj],.agg [ai 2,aj]],.agg [ai 1,aj,ai 2,aj]⟩::A.WL
def A.WN:=⟨186,[.agg [ai 2,aj,ai 1,aj]],.agg [ai 1,aj,ai 2,aj]⟩::A.WM
def A.WO:=⟨165,[.agg [ai 2,aj],.agg [ai 1,aj]],.agg [ai 2,aj]⟩::A.WN
def A.WQ:=⟨205,[.int .u64 1,.int .u64 2],.aV [.int .u64 0,.int .u64 2]⟩::A.WO
def A.WR:=⟨165,[.agg [ai 1,aj],.agg [ai 2,aj]],.agg [ai 2,aj]⟩::A.WQ
def A.WS:=⟨105,[.agg [ai 2,aj,ai 1,aj],.agg [ai 1,aj,ai 2,aj]],.agg [ai 1,aj,ai 1,aj]⟩::A.WR
def A.WT:=⟨129,[.agg [ai 2,aj,ai 1,aj],.agg [ai 2,aj,ai 1,aj]],.agg [ai 1,aj,ai 1,aj]⟩::A.WS
def A.WU:=⟨105,[.agg [ai 1,aj,ai 1,aj],.agg [ai 1,aj,ai 2,aj]],.agg [ai 1,aj,ai 2,aj]⟩::A.WT
def A.WV:=⟨129,[.agg [ai 1,aj,ai 1,aj],.agg [ai 2,aj,ai 1,aj]],.agg [ai 1,aj,ai 2,aj]⟩::A.WU
def A.WW:=⟨165,[.agg [ai 3,aj],.agg [ai 1,aj]],.agg [ai 3,aj]⟩::A.WV
def A.WX:=⟨224,[.agg [ai 3,aj],.agg [ai 1,aj]],(.aV [.agg [ai 3,aj],.agg [ai 0,aj]])⟩::A.WW
def A.WY:=⟨204,[.agg [ai 3,aj],.agg [ai 1,aj]],.agg [ai 3,aj]⟩::A.WX
def A.WZ:=⟨196,[.agg [ai 2,aj],.agg [ai 3,aj]],.agg [ai 1,aj]⟩::A.WY
def A.W7:=⟨164,[.agg [ai 2,aj],.agg [ai 3,aj]],.agg [ai 2,aj,ai 3,aj]⟩::A.WZ
def A.HM:=⟨164,[.agg [ai 0,aj],.agg [ai 3,aj]],.agg [ai 0,aj,ai 1,aj]⟩::A.W7
def A.E2:=⟨44,[],[],[.slice 567 0 2 none 1],[(567,.cells [.slice 560 0 3 none 4,.slice 565 0 3 none 4] 81 true),(560,.cells [ai 2,aj,ai 1,aj,ai 1,aj,ai 1,aj,ai 3,aj,ai 1,aj] 123 true),(565,.cells [ai 1,aj,ai 1,aj,ai 2,aj,ai 1,aj,ai 0,aj,ai 1,aj] 123 true)]++A.TB,568,(.aV [(.slice 568 0 2 (some 2) 1),.slice 571 0 2 none 1]),[(568,.cells [(.slice 569 0 3 (some 3) 4),.slice 570 0 3 none 4] 81 true),(916,.cells [ai 1,aj,ai 1,aj,ai 0,aj,ai 1,aj,ai 2,aj,ai 1,aj] 123 true),(912,.cells [ai 0,aj,ai 1,aj,ai 1,aj,ai 1,aj,ai (-1),aj,ai 1,aj] 123 true),(1155,.cells [ai 0,ai 1] 3 true)],[]⟩::A.E1
def A.E3:=⟨32,[],[],[(.slice 12 0 2 (some 2) 1),(.slice 141 0 3 (some 3) 1)],[(12,.cells [(.slice 10 0 3 (some 3) 1),(.slice 11 0 3 (some 3) 1)] 23 true),(10,.cells [.str [49],.str [45,49],.str [48]] 38 true),(11,.cells [.str [48],.str [49],.str [45,49]] 38 true),(141,.cells [.str [51],.str [48],.str [48]] 38 true)]++A.TB,142,(.aV [(.slice 142 0 3 (some 3) 1),(.slice 143 0 3 (some 3) 1),ai 0]),[(753,.cells [.str [50],.str [45,49],.str [45,49]] 38 true),(804,.cells [.str [49],.str [49],.str [49]] 38 true)],[]⟩::A.E2
def A.W9:=⟨164,[.agg [ai 2,aj],.agg [ai 9,aj]],.agg [ai 2,aj,ai 9,aj]⟩::A.HM
def A.AA:=⟨186,[.agg [ai 9,aj,ai 2,aj]],.agg [ai 2,aj,ai 9,aj]⟩::A.W9
def A.E4:=⟨127,[],[],[(.slice 695 0 4 (some 4) 4),(.func 128 [] [.ptr 876 0])],[(695,.cells [ai 0,aj,ai 1,aj,ai 9,aj,ai 2,aj,ai (-3),aj,ai 2,aj,ai 3,aj,ai 2,aj] 123 true),(876,.cells [ai 9,aj,ai 2,aj] 123 true)]++A.TB,877,.slice 877 0 4 none 4,[(1120,.cells [ai 0,aj,ai 1,aj,ai 1,aj,ai 1,aj,ai (-1),aj,ai 3,aj,ai 1,aj,ai 3,aj] 123 true)],[]⟩::A.E3
def A.E5:=⟨92,[],[],[.slice 690 0 4 none 4,.slice 877 0 4 none 4,(.func 130 [] [.ptr 878 0])],[(690,.cells [ai 1,aj,ai 1,aj,ai 1,aj,ai 2,aj,ai 1,aj,ai 2,aj,ai 1,aj,ai 2,aj] 123 true),(877,.cells [ai 0,aj,ai 1,aj,ai 1,aj,ai 1,aj,ai (-1),aj,ai 3,aj,ai 1,aj,ai 3,aj] 123 true),(878,.cells [ai 1,aj,ai 2,aj] 123 true)]++A.TB,881,(.slice 881 0 4 (some 4) 4),[(881,.cells [ai 1,aj,ai 1,aj,ai 0,aj,ai 1,aj,ai 2,aj,ai 3,aj,ai 1,aj,ai 3,aj] 123 true)],[]⟩::A.E4
def A.E6:=⟨89,[],[],[.slice 654 0 2 none 1,.slice 493 0 2 none 1],[(654,.cells [.slice 571 0 2 none 4,.slice 652 0 2 none 4] 81 true),(571,.cells [ai 2,aj,ai 1,aj,ai 1,aj,ai 1,aj] 123 true),(652,.cells [ai 1,aj,ai 1,aj,ai 5,aj,ai 1,aj] 123 true),(493,.cells [(.slice 474 0 2 (some 2) 4),(.slice 484 0 2 (some 2) 4)] 81 true),(474,.cells [ai 1,aj,ai 1,aj,ai 1,aj,ai 1,aj] 123 true),(484,.cells [ai (-1),aj,ai 1,aj,ai 2,aj,ai 1,aj] 123 true)]++A.TB,655,.aV [.slice 655 0 2 none 1,pX],[(888,.cells [(.slice 656 8 2 (some 2) 4),.slice 657 8 2 none 4] 81 true),(881,.cells [ai 1,aj,ai 1,aj,ai 0,aj,ai 1,aj,ai 2,aj,ai 3,aj,ai 1,aj,ai 3,aj] 123 true),(877,.cells [ai 0,aj,ai 1,aj,ai 1,aj,ai 1,aj,ai (-1),aj,ai 3,aj,ai 1,aj,ai 3,aj] 123 true)],[]⟩::A.E5
def A.E7:=⟨70,[],[],[.slice 160 0 2 none 1,(.slice 161 0 2 (some 2) 4),(.slice 162 0 2 (some 2) 1)],[(160,.cells [(.slice 155 0 3 (some 3) 4),(.slice 158 0 3 (some 3) 4)] 81 true),(155,.cells [ai 1,aj,ai 1,aj,ai (-1),aj,ai 1,aj,ai 0,aj,ai 1,aj] 123 true),(158,.cells [ai 0,aj,ai 1,aj,ai 1,aj,ai 1,aj,ai (-1),aj,ai 1,aj] 123 true),(161,.cells [ai 1,aj,ai 1,aj,ai 1,aj,ai 1,aj] 123 true),(162,.cells [(.slice 210 0 3 (some 3) 4),.slice 206 0 3 none 4] 81 true),(210,.cells [ai 1,aj,ai 1,aj,ai 0,aj,ai 1,aj,ai (-1),aj,ai 1,aj] 123 true),(206,.cells [ai 0,aj,ai 1,aj,ai 1,aj,ai 1,aj,ai (-1),aj,ai 1,aj] 123 true)]++A.TB,275,.aV [.slice 275 0 2 none 1,pX],[(655,.cells [(.slice 276 8 2 (some 2) 4),.slice 277 8 2 none 4] 81 true),(656,.cells [ai 1,aj,ai 1,aj,ai 0,aj,ai 1,aj,ai 2,aj,ai 3,aj,ai 1,aj,ai 3,aj] 123 true),(657,.cells [ai 0,aj,ai 1,aj,ai 1,aj,ai 1,aj,ai (-1),aj,ai 3,aj,ai 1,aj,ai 3,aj] 123 true)],[]⟩::A.E6
def A.Xa:=⟨196,[.agg [ai 1,aj],.agg [ai 3,aj]],.agg [ai 1,aj]⟩::A.AA
def A.Xb:=⟨164,[.agg [ai 1,aj],.agg [ai 3,aj]],.agg [ai 1,aj,ai 3,aj]⟩::A.Xa
def A.Xc:=⟨98,[.agg [ai 0,aj,ai 1,aj],.agg [ai 1,aj,ai 3,aj]],.agg [ai 1,aj,ai 3,aj]⟩::A.Xb
def A.Xd:=⟨105,[.agg [ai 1,aj,ai 3,aj],.agg [ai 0,aj,ai 1,aj]],.agg [ai 0,aj,ai 1,aj]⟩::A.Xc
def A.Xe:=⟨164,[(.agg [ai (-1),aj]),.agg [ai 3,aj]],(.agg [ai (-1),aj,ai 3,aj])⟩::A.Xd
def A.DE:=⟨98,[.agg [ai 0,aj,ai 1,aj],(.agg [ai (-1),aj,ai 3,aj])],(.agg [ai (-1),aj,ai 3,aj])⟩::A.Xe
def A.E8:=⟨112,[],[],[.slice 322 0 2 none 1,(.func 152 [.slice 302 0 2 none 4] [])],[(322,.cells [.slice 311 0 2 none 4,.slice 320 0 2 none 4] 81 true),(311,.cells [ai 2,aj,ai 3,aj,ai (-1),aj,ai 3,aj] 123 true),(320,.cells [ai 1,aj,ai 3,aj,ai 1,aj,ai 3,aj] 123 true),(302,.cells [ai (-1),aj,ai 1,aj,ai (-1),aj,ai 1,aj] 123 true)]++A.TB,422,.slice 422 0 2 none 4,[(693,.cells [ai (-1),aj,ai 3,aj,ai (-2),aj,ai 3,aj] 123 true)],[]⟩::A.E7
def A.E9:=⟨48,[],[],[.slice 160 0 2 none 1,(.slice 161 0 2 (some 2) 4)],[(160,.cells [(.slice 155 0 3 (some 3) 4),(.slice 158 0 3 (some 3) 4)] 81 true),(155,.cells [ai 1,aj,ai 1,aj,ai (-1),aj,ai 1,aj,ai 0,aj,ai 1,aj] 123 true),(158,.cells [ai 0,aj,ai 1,aj,ai 1,aj,ai 1,aj,ai (-1),aj,ai 1,aj] 123 true),(161,.cells [ai 1,aj,ai 1,aj,ai 1,aj,ai 1,aj] 123 true)]++A.TB,162,.slice 162 0 3 none 1,[(424,.cells [.slice 163 0 2 none 4,.slice 164 0 2 none 4,.slice 165 0 2 none 4] 81 true),(385,.cells [ai 2,aj,ai 3,aj,ai 1,aj,ai 3,aj] 123 true),(419,.cells [ai (-1),aj,ai 3,aj,ai 1,aj,ai 3,aj] 123 true),(422,.cells [ai (-1),aj,ai 3,aj,ai (-2),aj,ai 3,aj] 123 true)],[]⟩::A.E8
def A.uo:=⟨12,[],[],[(.slice 12 0 2 (some 2) 1),(.slice 13 0 2 (some 2) 1)],[(12,.cells [(.slice 10 0 3 (some 3) 1),(.slice 11 0 3 (some 3) 1)] 23 true),(10,.cells [.str [49],.str [45,49],.str [48]] 38 true),(11,.cells [.str [48],.str [49],.str [45,49]] 38 true),(13,.cells [.str [49],.str [49]] 38 true)]++A.TB,144,.aV [.slice 144 0 3 none 1,ai 0],[(253,.cells [(.slice 145 0 2 (some 2) 1),(.slice 146 0 2 (some 2) 1),(.slice 147 0 2 (some 2) 1)] 23 true),(180,.cells [.str [50,47,51],.str [49,47,51]] 38 true),(207,.cells [.str [45,49,47,51],.str [49,47,51]] 38 true),(239,.cells [.str [45,49,47,51],.str [45,50,47,51]] 38 true)],[]⟩::A.E9
def A.Xf:=⟨222,[.str [50],.str [48,49,50,51,52,53,54,55,56,57]],.str []⟩::A.DE
def A.Xg:=⟨193,[.str [50]],pX⟩::A.Xf
def A.Xh:=⟨167,[.str [50]],.agg [ai 2,aj]⟩::A.Xg
def A.Xi:=⟨150,[.str [49,47,51]],ai 0⟩::A.Xh
def A.Xj:=⟨150,[.str [45,49,47,51]],ai 0⟩::A.Xi
def A.Xk:=⟨99,[.str [49,47,51]],.agg [ai 1,aj,ai 3,aj]⟩::A.Xj
def A.M5:=⟨99,[.str [45,49,47,51]],(.agg [ai (-1),aj,ai 3,aj])⟩::A.Xk
def A.HN:=⟨16,[],[],[.slice 144 0 3 none 1,(.slice 148 0 2 (some 2) 1)],[(144,.cells [(.slice 145 0 2 (some 2) 1),(.slice 146 0 2 (some 2) 1),(.slice 147 0 2 (some 2) 1)] 23 true),(145,.cells [.str [50,47,51],.str [49,47,51]] 38 true),(146,.cells [.str [45,49,47,51],.str [49,47,51]] 38 true),(147,.cells [.str [45,49,47,51],.str [45,50,47,51]] 38 true),(148,.cells [.str [51],.str [48]] 38 true)]++A.TB,149,(.aV [(.slice 149 0 3 (some 3) 1),ai 0]),[(443,.cells [.str [50],.str [45,49],.str [45,49]] 38 true)],[]⟩::A.uo
def A.Xl:=⟨150,[.str [50]],ai 0⟩::A.M5
def A.HO:=⟨99,[.str [50]],.agg [ai 2,aj,ai 1,aj]⟩::A.Xl
def A.Xm:=⟨127,[],[],[.slice 403 0 3 none 4,(.func 128 [] [.ptr 410 0])],[(403,.cells [ai 8,aj,ai 1,aj,ai 4,aj,ai 1,aj,ai 2,aj,ai 1,aj] 123 true),(410,.cells [ai 8,aj,ai 1,aj] 123 true)]++A.TB,411,.slice 411 0 3 none 4,[(709,.cells [ai 1,aj,ai 1,aj,ai 1,aj,ai 2,aj,ai 1,aj,ai 4,aj] 123 true)],[]⟩::A.HN
def A.M7:=⟨48,[],[],[.slice 192 0 2 none 1,(.slice 193 0 2 (some 2) 4)],[(192,.cells [(.slice 187 0 1 (some 1) 4),(.slice 190 0 1 (some 1) 4)] 81 true),(187,.cells [ai 1,aj,ai 1,aj] 123 true),(190,.cells [ai 2,aj,ai 1,aj] 123 true),(193,.cells [ai 4,aj,ai 1,aj,ai 1,aj,ai 1,aj] 123 true)]++A.TB,206,.slice 206 0 1 none 1,[(557,.cells [.slice 207 0 2 none 4] 81 true),(555,.cells [ai 1,aj,ai 2,aj,ai 1,aj,ai 4,aj] 123 true)],[]⟩::A.Xm
def A.zf:=⟨167,[.str [53]],.agg [ai 5,aj]⟩::A.HO
def A.Xn:=⟨89,[],[],[.slice 326 0 1 none 1,.slice 283 0 1 none 1],[(326,.cells [.slice 324 0 1 none 4] 81 true),(324,.cells [ai 10,aj,ai 1,aj] 123 true),(283,.cells [(.slice 274 0 2 (some 2) 4)] 81 true),(274,.cells [ai 1,aj,ai 1,aj,ai 2,aj,ai 1,aj] 123 true)]++A.TB,342,.aV [.slice 342 0 1 none 1,pX],[(634,.cells [.slice 343 4 2 none 4] 81 true),(629,.cells [ai 1,aj,ai 1,aj,ai 1,aj,ai 10,aj,ai 1,aj,ai 5,aj] 123 true)],[]⟩::A.M7
def A.Xo:=⟨34,[],[],[(.slice 160 0 2 (some 2) 1),(.slice 13 0 2 (some 2) 1),.str [53]],[(160,.cells [(.slice 158 0 1 (some 1) 1),(.slice 159 0 1 (some 1) 1)] 23 true),(158,.cells [.str [49]] 38 true),(159,.cells [.str [50]] 38 true),(13,.cells [.str [49],.str [49]] 38 true)]++A.TB,231,.aV [.slice 231 0 1 none 1,ai 0],[(366,.cells [(.slice 232 0 2 (some 2) 1)] 23 true),(354,.cells [.str [49,47,49,48],.str [49,47,53]] 38 true)],[]⟩::A.Xn
def A.Xp:=⟨35,[],[],[(.slice 160 0 2 (some 2) 1),(.slice 13 0 2 (some 2) 1),(.slice 233 0 2 (some 2) 1),(.slice 234 0 1 (some 1) 1)],[(160,.cells [(.slice 158 0 1 (some 1) 1),(.slice 159 0 1 (some 1) 1)] 23 true),(158,.cells [.str [49]] 38 true),(159,.cells [.str [50]] 38 true),(13,.cells [.str [49],.str [49]] 38 true),(233,.cells [.str [53],.str [48]] 38 true),(234,.cells [.str [49]] 38 true)]++A.TB,235,(.aV [.str [50,48],ai 0]),[],[]⟩::A.Xo
def A.Xq:=⟨104,[],[],[(.slice 313 0 2 (some 2) 4),(.slice 307 0 2 (some 2) 4)],[(313,.cells [ai 1,aj,ai 5,aj,ai 2,aj,ai 5,aj] 123 true),(307,.cells [ai 1,aj,ai 5,aj,ai 2,aj,ai 5,aj] 123 true)]++A.TB,403,.agg [ai 1,aj,ai 5,aj],[],[]⟩::A.Xp
def A.HP:=⟨36,[],[],[(.slice 236 0 1 (some 1) 1),(.slice 13 0 2 (some 2) 1)],[(236,.cells [(.slice 235 0 2 (some 2) 1)] 23 true),(235,.cells [.str [49,47,53],.str [50,47,53]] 38 true),(13,.cells [.str [49],.str [49]] 38 true)]++A.TB,237,(.aV [(.slice 237 0 1 (some 1) 1),ai 0]),[(410,.cells [.str [49,47,53]] 38 true)],[]⟩::A.Xq
def A.Xr:=⟨105,[.agg [ai 4,aj,ai 1,aj],.agg [ai 1,aj,ai 2,aj]],.agg [ai 2,aj,ai 1,aj]⟩::A.zf
def A.jX:=⟨129,[.agg [ai 4,aj,ai 1,aj],.agg [ai 2,aj,ai 1,aj]],.agg [ai 2,aj,ai 1,aj]⟩::A.Xr
def A.Xs:=⟨37,[],[],[(.slice 240 0 2 (some 2) 3),ai 2,ai 1],[(240,.cells [ai 0,.str [50],(.slice 238 0 2 (some 2) 1),ai 0,.str [45,49],(.slice 239 0 2 (some 2) 1)] 63 true),(238,.cells [.str [50],.str [52]] 38 true),(239,.cells [.str [45,51],.str [45,50]] 38 true)]++A.TB,241,.aV [.slice 241 0 2 none 1,ai 0],[(459,.cells [(.slice 242 0 1 (some 1) 1),(.slice 243 0 1 (some 1) 1)] 23 true),(441,.cells [.str [50]] 38 true),(453,.cells [.str [50]] 38 true)],[]⟩::A.HP
def A.Xt:=⟨38,[],[],[(.slice 240 0 2 (some 2) 3),ai 2,ai 1],[(240,.cells [ai 0,.str [50],(.slice 238 0 2 (some 2) 1),ai 0,.str [45,49],(.slice 239 0 2 (some 2) 1)] 63 true),(238,.cells [.str [50],.str [52]] 38 true),(239,.cells [.str [45,51],.str [45,50]] 38 true)]++A.TB,244,(.aV [(.slice 244 0 1 (some 1) 1),ai 0]),[(577,.cells [.str [50]] 38 true)],[]⟩::A.Xs
def A.Xu:=⟨17,[],[],[(.slice 12 0 2 (some 2) 1),(.slice 13 0 2 (some 2) 1),(.slice 255 0 1 (some 1) 1)],[(12,.cells [(.slice 10 0 3 (some 3) 1),(.slice 11 0 3 (some 3) 1)] 23 true),(10,.cells [.str [49],.str [45,49],.str [48]] 38 true),(11,.cells [.str [48],.str [49],.str [45,49]] 38 true),(13,.cells [.str [49],.str [49]] 38 true),(255,.cells [(.slice 254 0 3 (some 3) 1)] 23 true),(254,.cells [.str [49],.str [48],.str [45,49]] 38 true)]++A.TB,256,.aV [.slice 256 0 1 none 1,ai 0],[(478,.cells [(.slice 257 0 2 (some 2) 1)] 23 true),(466,.cells [.str [49,47,50],.str [49,47,50]] 38 true)],[]⟩::A.Xt
def A.Xv:=⟨70,[],[],[.slice 281 0 2 none 1,(.slice 282 0 2 (some 2) 4),.slice 285 0 1 none 1],[(281,.cells [(.slice 276 0 3 (some 3) 4),(.slice 279 0 3 (some 3) 4)] 81 true),(276,.cells [ai 1,aj,ai 1,aj,ai (-1),aj,ai 1,aj,ai 0,aj,ai 1,aj] 123 true),(279,.cells [ai 0,aj,ai 1,aj,ai 1,aj,ai 1,aj,ai (-1),aj,ai 1,aj] 123 true),(282,.cells [ai 1,aj,ai 1,aj,ai 1,aj,ai 1,aj] 123 true),(285,.cells [(.slice 283 0 3 (some 3) 4)] 81 true),(283,.cells [ai 1,aj,ai 1,aj,ai 1,aj,ai 1,aj,ai 1,aj,ai 1,aj] 123 true)]++A.TB,286,.aV [aj,aG],[],[]⟩::A.Xu
def A.Xw:=⟨18,[],[],[(.slice 288 0 2 (some 2) 1),(.slice 289 0 2 (some 2) 1)],[(288,.cells [(.slice 286 0 3 (some 3) 1),(.slice 287 0 3 (some 3) 1)] 23 true),(286,.cells [.str [49],.str [48],.str [45,49]] 38 true),(287,.cells [.str [48],.str [49],.str [45,49]] 38 true),(289,.cells [.str [50],.str [51]] 38 true)]++A.TB,290,(.aV [(.slice 290 0 3 (some 3) 1),ai 0]),[(484,.cells [.str [50],.str [51],.str [45,53]] 38 true)],[]⟩::A.Xv
def A.Xx:=⟨42,[],[],[(.slice 12 0 2 (some 2) 1),.slice 136 0 1 none 1],[(12,.cells [(.slice 10 0 3 (some 3) 1),(.slice 11 0 3 (some 3) 1)] 23 true),(10,.cells [.str [49],.str [45,49],.str [48]] 38 true),(11,.cells [.str [48],.str [49],.str [45,49]] 38 true),(136,.cells [(.slice 137 0 3 (some 3) 1)] 23 true),(137,.cells [.str [49],.str [49],.str [49]] 38 true)]++A.TB,339,ai 0,[],[]⟩::A.Xw
def A.Xy:=⟨127,[],[],[(.slice 899 0 4 (some 4) 4),(.func 128 [] [.ptr 1080 0])],[(899,.cells [ai 0,aj,ai 1,aj,ai 9,aj,ai 2,aj,ai (-3),aj,ai 2,aj,ai 3,aj,ai 2,aj] 123 true),(1080,.cells [ai 9,aj,ai 2,aj] 123 true)]++A.TB,1081,.slice 1081 0 4 none 4,[(1324,.cells [ai 0,aj,ai 1,aj,ai 1,aj,ai 1,aj,ai (-1),aj,ai 3,aj,ai 1,aj,ai 3,aj] 123 true)],[]⟩::A.Xx
def A.Xz:=⟨92,[],[],[.slice 894 0 4 none 4,.slice 1081 0 4 none 4,(.func 130 [] [.ptr 1082 0])],[(894,.cells [ai 1,aj,ai 1,aj,ai 1,aj,ai 2,aj,ai 1,aj,ai 2,aj,ai 1,aj,ai 2,aj] 123 true),(1081,.cells [ai 0,aj,ai 1,aj,ai 1,aj,ai 1,aj,ai (-1),aj,ai 3,aj,ai 1,aj,ai 3,aj] 123 true),(1082,.cells [ai 1,aj,ai 2,aj] 123 true)]++A.TB,1085,(.slice 1085 0 4 (some 4) 4),[(1085,.cells [ai 1,aj,ai 1,aj,ai 0,aj,ai 1,aj,ai 2,aj,ai 3,aj,ai 1,aj,ai 3,aj] 123 true)],[]⟩::A.Xy
def A.XA:=⟨89,[],[],[.slice 858 0 2 none 1,.slice 697 0 2 none 1],[(858,.cells [.slice 775 0 2 none 4,.slice 856 0 2 none 4] 81 true),(775,.cells [ai 2,aj,ai 1,aj,ai 1,aj,ai 1,aj] 123 true),(856,.cells [ai 1,aj,ai 1,aj,ai 5,aj,ai 1,aj] 123 true),(697,.cells [(.slice 678 0 2 (some 2) 4),(.slice 688 0 2 (some 2) 4)] 81 true),(678,.cells [ai 1,aj,ai 1,aj,ai 1,aj,ai 1,aj] 123 true),(688,.cells [ai (-1),aj,ai 1,aj,ai 2,aj,ai 1,aj] 123 true)]++A.TB,859,.aV [.slice 859 0 2 none 1,pX],[(1092,.cells [(.slice 860 8 2 (some 2) 4),.slice 861 8 2 none 4] 81 true),(1085,.cells [ai 1,aj,ai 1,aj,ai 0,aj,ai 1,aj,ai 2,aj,ai 3,aj,ai 1,aj,ai 3,aj] 123 true),(1081,.cells [ai 0,aj,ai 1,aj,ai 1,aj,ai 1,aj,ai (-1),aj,ai 3,aj,ai 1,aj,ai 3,aj] 123 true)],[]⟩::A.Xz
def A.XB:=⟨70,[],[],[.slice 364 0 2 none 1,(.slice 365 0 2 (some 2) 4),(.slice 366 0 2 (some 2) 1)],[(364,.cells [(.slice 359 0 3 (some 3) 4),(.slice 362 0 3 (some 3) 4)] 81 true),(359,.cells [ai 1,aj,ai 1,aj,ai (-1),aj,ai 1,aj,ai 0,aj,ai 1,aj] 123 true),(362,.cells [ai 0,aj,ai 1,aj,ai 1,aj,ai 1,aj,ai (-1),aj,ai 1,aj] 123 true),(365,.cells [ai 1,aj,ai 1,aj,ai 1,aj,ai 1,aj] 123 true),(366,.cells [(.slice 414 0 3 (some 3) 4),.slice 410 0 3 none 4] 81 true),(414,.cells [ai 1,aj,ai 1,aj,ai 0,aj,ai 1,aj,ai (-1),aj,ai 1,aj] 123 true),(410,.cells [ai 0,aj,ai 1,aj,ai 1,aj,ai 1,aj,ai (-1),aj,ai 1,aj] 123 true)]++A.TB,479,.aV [.slice 479 0 2 none 1,pX],[(859,.cells [(.slice 480 8 2 (some 2) 4),.slice 481 8 2 none 4] 81 true),(860,.cells [ai 1,aj,ai 1,aj,ai 0,aj,ai 1,aj,ai 2,aj,ai 3,aj,ai 1,aj,ai 3,aj] 123 true),(861,.cells [ai 0,aj,ai 1,aj,ai 1,aj,ai 1,aj,ai (-1),aj,ai 3,aj,ai 1,aj,ai 3,aj] 123 true)],[]⟩::A.XA
def A.XC:=⟨112,[],[],[.slice 526 0 2 none 1,(.func 152 [.slice 506 0 2 none 4] [])],[(526,.cells [.slice 515 0 2 none 4,.slice 524 0 2 none 4] 81 true),(515,.cells [ai 2,aj,ai 3,aj,ai (-1),aj,ai 3,aj] 123 true),(524,.cells [ai 1,aj,ai 3,aj,ai 1,aj,ai 3,aj] 123 true),(506,.cells [ai (-1),aj,ai 1,aj,ai (-1),aj,ai 1,aj] 123 true)]++A.TB,626,.slice 626 0 2 none 4,[(897,.cells [ai (-1),aj,ai 3,aj,ai (-2),aj,ai 3,aj] 123 true)],[]⟩::A.XB
def A.XD:=⟨48,[],[],[.slice 364 0 2 none 1,(.slice 365 0 2 (some 2) 4)],[(364,.cells [(.slice 359 0 3 (some 3) 4),(.slice 362 0 3 (some 3) 4)] 81 true),(359,.cells [ai 1,aj,ai 1,aj,ai (-1),aj,ai 1,aj,ai 0,aj,ai 1,aj] 123 true),(362,.cells [ai 0,aj,ai 1,aj,ai 1,aj,ai 1,aj,ai (-1),aj,ai 1,aj] 123 true),(365,.cells [ai 1,aj,ai 1,aj,ai 1,aj,ai 1,aj] 123 true)]++A.TB,366,.slice 366 0 3 none 1,[(628,.cells [.slice 367 0 2 none 4,.slice 368 0 2 none 4,.slice 369 0 2 none 4] 81 true),(589,.cells [ai 2,aj,ai 3,aj,ai 1,aj,ai 3,aj] 123 true),(623,.cells [ai (-1),aj,ai 3,aj,ai 1,aj,ai 3,aj] 123 true),(626,.cells [ai (-1),aj,ai 3,aj,ai (-2),aj,ai 3,aj] 123 true)],[]⟩::A.XC
def A.Se:=⟨14,[],[],[(.slice 12 0 2 (some 2) 1),(.slice 13 0 2 (some 2) 1),.slice 144 0 3 none 1],[(12,.cells [(.slice 10 0 3 (some 3) 1),(.slice 11 0 3 (some 3) 1)] 23 true),(10,.cells [.str [49],.str [45,49],.str [48]] 38 true),(11,.cells [.str [48],.str [49],.str [45,49]] 38 true),(13,.cells [.str [49],.str [49]] 38 true),(144,.cells [(.slice 145 0 2 (some 2) 1),(.slice 146 0 2 (some 2) 1),(.slice 147 0 2 (some 2) 1)] 23 true),(145,.cells [.str [50,47,51],.str [49,47,51]] 38 true),(146,.cells [.str [45,49,47,51],.str [49,47,51]] 38 true),(147,.cells [.str [45,49,47,51],.str [45,50,47,51]] 38 true)]++A.TB,339,ai 0,[],[]⟩::A.XD
def A.L91:=⟨10,[],pX⟩::A.jX
def A.mixed:Tryz.prog.follows .mixedOrders=true:=by kernel_rfl
def A.names:(Tryz.prog.funcs.toList.all fun fn=>!(fn.name== "runtime.NumGoroutine"))=true:=by kernel_rfl
def A.exts:((List.range Tryz.prog.funcs.size).all fun i=>match Tryz.prog.funcs[i]? with
  |some fn=>fn.body.isSome||(zS fn.name).isNone||HQ i [226,228,268,273]
  |none=>true)=true:=by kernel_rfl
def A.globals:Tryz.prog.globals.size=10:=by kernel_rfl
def A.XE(fn:Func)(e:Ext)(hf:Tryz.prog.funcs[226]?=some fn)(he:zS fn.name=some e):(fn.name== "runtime.NumGoroutine")=false/\Extern.findNext fn=none/\Extern.find fn=some (HR e):=by obtain rfl:fn=Tryz.f226:=(mC (Tryz.func226.symm.trans hf)).symm;obtain rfl:e=.pc:=(mC ((show zS Tryz.f226.name=some .pc by kernel_rfl).symm.trans he)).symm;exact⟨by kernel_rfl,by kernel_rfl,by kernel_rfl⟩
def A.XF(fn:Func)(e:Ext)(hf:Tryz.prog.funcs[228]?=some fn)(he:zS fn.name=some e):(fn.name== "runtime.NumGoroutine")=false/\Extern.findNext fn=none/\Extern.find fn=some (HR e):=by obtain rfl:fn=Tryz.f228:=(mC (Tryz.func228.symm.trans hf)).symm;obtain rfl:e=.pd:=(mC ((show zS Tryz.f228.name=some .pd by kernel_rfl).symm.trans he)).symm;exact⟨by kernel_rfl,by kernel_rfl,by kernel_rfl⟩
def A.XG(fn:Func)(e:Ext)(hf:Tryz.prog.funcs[268]?=some fn)(he:zS fn.name=some e):(fn.name== "runtime.NumGoroutine")=false/\Extern.findNext fn=none/\Extern.find fn=some (HR e):=by obtain rfl:fn=Tryz.f268:=(mC (Tryz.func268.symm.trans hf)).symm;obtain rfl:e=.same:=(mC ((show zS Tryz.f268.name=some .same by kernel_rfl).symm.trans he)).symm;exact⟨by kernel_rfl,by kernel_rfl,by kernel_rfl⟩
def A.XH(fn:Func)(e:Ext)(hf:Tryz.prog.funcs[273]?=some fn)(he:zS fn.name=some e):(fn.name== "runtime.NumGoroutine")=false/\Extern.findNext fn=none/\Extern.find fn=some (HR e):=by obtain rfl:fn=Tryz.f273:=(mC (Tryz.func273.symm.trans hf)).symm;obtain rfl:e=.cf:=(mC ((show zS Tryz.f273.name=some .cf by kernel_rfl).symm.trans he)).symm;exact⟨by kernel_rfl,by kernel_rfl,by kernel_rfl⟩
def A.HS:vn Tryz.prog:=by
 intro g fn e hf hb he;have h:=jY.1 A.exts g (gm.2 (by
  rcases Nat.lt_or_ge g Tryz.prog.funcs.size with h|h
  ·exact h
  ·rw[Array.getElem?_eq_none h]at hf;cases hf));rw[hf]at h;simp only[hb,he,Option.isNone_some,Bool.or_false,Bool.false_or]at h;have hm:=M8.1 h;simp only[iW,List.mem_nil_iff,or_false]at hm;rcases hm with rfl|rfl|rfl|rfl
 ·exact A.XE fn e hf he
 ·exact A.XF fn e hf he
 ·exact A.XG fn e hf he
 exact A.XH fn e hf he
def A.AB:FN Tryz.prog A.dV 10 where
 m:=A.mixed
 e:=A.HS
 t:=fun f mf hf=>⟨hf,fun fn CA=>by
  have h:=jY.1 A.names fn (Array.mem_toList_iff.2 (Array.mem_of_getElem? CA))
  simpa using h⟩
 g:=A.globals
end Go.Mx
