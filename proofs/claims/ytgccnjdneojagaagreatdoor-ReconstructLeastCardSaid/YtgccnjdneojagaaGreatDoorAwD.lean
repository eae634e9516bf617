/-The known runs-/
import Derived.Test.YtgccnjdneojagaaGreatDoorMxDec
import Derived.Test.YtgccnjdneojagaaGreatDoorChecked
set_option linter.all false
namespace Go.Mx
open Go Go.Proofs
set_option maxRecDepth 1000000
noncomputable def A.ec:Nat->Option nA:=Am Tryz.prog
abbrev A.p(L:List nZ)(E:List mE):Prop:=Yp6 A.TB 10 A.ec L E=true
abbrev A.e(L:List nZ)(E:List mE):Prop:=Yir A.TB 10 A.ec L E=true
abbrev ai(n:Int):V:=.int .i64 n
abbrev aH:V:=.bool false
abbrev qF:V:=.bool true
abbrev aj:V:=.aa
def A.L:List nZ:=[]
def A.E:List mE:=[]
def A.L0:=⟨251,[.str [49],.str [45]],aH⟩::A.L
def A.L1:=⟨250,[.str [49],.str [47]],ai (-1)⟩::A.L0
def A.L2:=⟨224,[.str [49],.str [47]],(.aX [.str [49],.str [],aH])⟩::A.L1
def A.L3:=⟨173,[.str [49],.str [47]],(.aX [.str [49],.str [],aH])⟩::A.L2
def A.L4:=⟨256,[.str [48,49,50,51,52,53,54,55,56,57]],(.aX [.agg (List.replicate 48 aH++List.replicate 10 qF++List.replicate 198 aH),qF])⟩::A.L3
def A.L5:=⟨231,[.str [49],.str [48,49,50,51,52,53,54,55,56,57]],.str []⟩::A.L4
def A.L6:=⟨197,[.str [49]],qF⟩::A.L5
def A.L7:=⟨136,[.str [49]],ai 0⟩::A.L6
def A.L8:=⟨136,[.str [45,49]],ai 0⟩::A.L7
def A.L9:=⟨224,[.str [48],.str [47]],(.aX [.str [48],.str [],aH])⟩::A.L8
def A.Wr:=⟨173,[.str [48],.str [47]],(.aX [.str [48],.str [],aH])⟩::A.L9
def A.Ws:=⟨231,[.str [48],.str [48,49,50,51,52,53,54,55,56,57]],.str []⟩::A.Wr
def A.Wu:=⟨197,[.str [48]],qF⟩::A.Ws
def A.Wv:=⟨136,[.str [48]],ai 0⟩::A.Wu
def A.Ww:=⟨252,[.str [49]],.aX [ai 1,.bb]⟩::A.Wv
def A.Wx:=⟨226,[.str [49]],.aX [ai 1,.bb]⟩::A.Ww
def A.Wy:=⟨203,[.int .u64 1,.int .u64 10],.aX [.int .u64 0,.int .u64 10]⟩::A.Wx
def A.WA:=⟨140,[.agg [ai 1,aj],.agg [ai 10,aj]],.agg [ai 10,aj]⟩::A.Wy
def A.WB:=⟨227,[.agg [ai 10,aj],ai 1],.agg [ai 10,aj]⟩::A.WA
def A.WC:=⟨203,[.int .u64 0,.int .u64 10],.aX [.int .u64 0,.int .u64 0]⟩::A.WB
def A.WD:=⟨140,[.agg [ai 0,aj],.agg [ai 10,aj]],.agg [ai 0,aj]⟩::A.WC
def A.WE:=⟨172,[.agg [ai 0,aj],.agg [ai 1,aj]],.agg [ai 1,aj]⟩::A.WD
def A.WG:=⟨174,[.str [49]],.agg [ai 1,aj]⟩::A.WE
def A.WH:=⟨102,[.str [49]],.agg [ai 1,aj,ai 1,aj]⟩::A.WG
def A.WI:=⟨174,[.str [45,49]],(.agg [ai (-1),aj])⟩::A.WH
def A.WJ:=⟨102,[.str [45,49]],(.agg [ai (-1),aj,ai 1,aj])⟩::A.WI
def A.WK:=⟨174,[.str [48]],.agg [ai 0,aj]⟩::A.WJ
def A.WL:=⟨102,[.str [48]],.agg [ai 0,aj,ai 1,aj]⟩::A.WK
def A.WM:=⟨139,[.agg [ai 1,aj],.agg [ai 1,aj]],.agg [ai 1,aj,ai 1,aj]⟩::A.WL
def A.WN:=⟨203,[.int .u64 1,.int .u64 1],.aX [.int .u64 0,.int .u64 1]⟩::A.WM
def A.WO:=⟨140,[.agg [ai 1,aj],.agg [ai 1,aj]],.agg [ai 1,aj]⟩::A.WN
def A.WQ:=⟨70,[.agg [ai 1,aj,ai 1,aj],.agg [ai 1,aj,ai 1,aj]],.agg [ai 1,aj,ai 1,aj]⟩::A.WO
def A.WR:=⟨163,[.agg [ai 1,aj,ai 1,aj],.agg [ai 1,aj,ai 1,aj]],.agg [ai 1,aj,ai 1,aj]⟩::A.WQ
def A.WS:=⟨140,[(.agg [ai (-1),aj]),.agg [ai 1,aj]],(.agg [ai (-1),aj])⟩::A.WR
def A.WT:=⟨70,[(.agg [ai (-1),aj,ai 1,aj]),.agg [ai 1,aj,ai 1,aj]],(.agg [ai (-1),aj,ai 1,aj])⟩::A.WS
def A.WU:=⟨163,[(.agg [ai (-1),aj,ai 1,aj]),.agg [ai 1,aj,ai 1,aj]],(.agg [ai (-1),aj,ai 1,aj])⟩::A.WT
def A.WV:=⟨140,[.agg [ai 0,aj],.agg [ai 1,aj]],.agg [ai 0,aj]⟩::A.WU
def A.WW:=⟨70,[.agg [ai 0,aj,ai 1,aj],.agg [ai 1,aj,ai 1,aj]],.agg [ai 0,aj,ai 1,aj]⟩::A.WV
def A.WX:=⟨163,[.agg [ai 0,aj,ai 1,aj],.agg [ai 1,aj,ai 1,aj]],.agg [ai 0,aj,ai 1,aj]⟩::A.WW
def A.WY:=⟨70,[(.agg [ai (-1),aj,ai 1,aj]),.agg [ai 0,aj,ai 1,aj]],.agg [ai 0,aj,ai 1,aj]⟩::A.WX
def A.WZ:=⟨142,[.agg [ai 0,aj,ai 1,aj]],qF⟩::A.WY
def A.W7:=⟨140,[(.agg [ai (-1),aj]),(.agg [ai (-1),aj])],.agg [ai 1,aj]⟩::A.WZ
def A.W9:=⟨70,[(.agg [ai (-1),aj,ai 1,aj]),(.agg [ai (-1),aj,ai 1,aj])],.agg [ai 1,aj,ai 1,aj]⟩::A.W7
def A.Xa:=⟨208,[.agg [ai 1,aj]],ai 1⟩::A.W9
def A.HM:=⟨141,[.agg [ai 1,aj]],aH⟩::A.Xa
def A.E0:=⟨11,[],[],[(.slice 12 0 2 (some 2) 1)],[(12,.cells [(.slice 10 0 3 (some 3) 1),(.slice 11 0 3 (some 3) 1)] 23 true),(10,.cells [.str [49],.str [45,49],.str [48]] 40 true),(11,.cells [.str [48],.str [49],.str [45,49]] 40 true)]++A.TB,136,.aX [.slice 136 0 1 none 1,ai 0],[(329,.cells [(.slice 137 0 3 (some 3) 1)] 23 true),(315,.cells [.str [49],.str [49],.str [49]] 40 true)],[]⟩::A.E
def A.E1:=⟨34,[],[],[(.slice 12 0 2 (some 2) 1)],[(12,.cells [(.slice 10 0 3 (some 3) 1),(.slice 11 0 3 (some 3) 1)] 23 true),(10,.cells [.str [49],.str [45,49],.str [48]] 40 true),(11,.cells [.str [48],.str [49],.str [45,49]] 40 true)]++A.TB,138,.aX [.slice 138 0 2 none 1,ai 0],[(309,.cells [(.slice 139 0 3 (some 3) 1),(.slice 140 0 3 (some 3) 1)] 23 true),(270,.cells [.str [49],.str [48],.str [45,49]] 40 true),(295,.cells [.str [48],.str [49],.str [45,49]] 40 true)],[]⟩::A.E0
def A.Xb:=⟨231,[.str [51],.str [48,49,50,51,52,53,54,55,56,57]],.str []⟩::A.HM
def A.Xc:=⟨197,[.str [51]],qF⟩::A.Xb
def A.Xd:=⟨174,[.str [51]],.agg [ai 3,aj]⟩::A.Xc
def A.Xe:=⟨101,[.agg [ai 0,aj,ai 1,aj],.agg [ai 1,aj,ai 1,aj]],.agg [ai 1,aj,ai 1,aj]⟩::A.Xd
def A.Xf:=⟨101,[.agg [ai 0,aj,ai 1,aj],.agg [ai 0,aj,ai 1,aj]],.agg [ai 0,aj,ai 1,aj]⟩::A.Xe
def A.Xg:=⟨140,[.agg [ai 1,aj],.agg [ai 3,aj]],.agg [ai 3,aj]⟩::A.Xf
def A.Xh:=⟨233,[.agg [ai 2,aj],.agg [ai 1,aj]],(.aX [.agg [ai 2,aj],.agg [ai 0,aj]])⟩::A.Xg
def A.Xi:=⟨200,[.agg [ai 1,aj],.agg [ai 2,aj]],.agg [ai 1,aj]⟩::A.Xh
def A.Xj:=⟨233,[.agg [ai 1,aj],.agg [ai 1,aj]],(.aX [.agg [ai 1,aj],.agg [ai 0,aj]])⟩::A.Xi
def A.Xk:=⟨202,[.agg [ai 1,aj],.agg [ai 1,aj]],.agg [ai 1,aj]⟩::A.Xj
def A.Xl:=⟨202,[.agg [ai 2,aj],.agg [ai 1,aj]],.agg [ai 2,aj]⟩::A.Xk
def A.Xm:=⟨139,[.agg [ai 1,aj],.agg [ai 2,aj]],.agg [ai 1,aj,ai 2,aj]⟩::A.Xl
def A.Xn:=⟨220,[.agg [ai 2,aj,ai 1,aj]],.agg [ai 1,aj,ai 2,aj]⟩::A.Xm
def A.Xo:=⟨140,[.agg [ai 2,aj],.agg [ai 1,aj]],.agg [ai 2,aj]⟩::A.Xn
def A.Xp:=⟨203,[.int .u64 1,.int .u64 2],.aX [.int .u64 0,.int .u64 2]⟩::A.Xo
def A.Xq:=⟨140,[.agg [ai 1,aj],.agg [ai 2,aj]],.agg [ai 2,aj]⟩::A.Xp
def A.Xr:=⟨70,[.agg [ai 2,aj,ai 1,aj],.agg [ai 1,aj,ai 2,aj]],.agg [ai 1,aj,ai 1,aj]⟩::A.Xq
def A.Xs:=⟨163,[.agg [ai 2,aj,ai 1,aj],.agg [ai 2,aj,ai 1,aj]],.agg [ai 1,aj,ai 1,aj]⟩::A.Xr
def A.Xt:=⟨70,[.agg [ai 1,aj,ai 1,aj],.agg [ai 1,aj,ai 2,aj]],.agg [ai 1,aj,ai 2,aj]⟩::A.Xs
def A.Xu:=⟨163,[.agg [ai 1,aj,ai 1,aj],.agg [ai 2,aj,ai 1,aj]],.agg [ai 1,aj,ai 2,aj]⟩::A.Xt
def A.Xv:=⟨140,[.agg [ai 3,aj],.agg [ai 1,aj]],.agg [ai 3,aj]⟩::A.Xu
def A.Xw:=⟨233,[.agg [ai 3,aj],.agg [ai 1,aj]],(.aX [.agg [ai 3,aj],.agg [ai 0,aj]])⟩::A.Xv
def A.Xx:=⟨202,[.agg [ai 3,aj],.agg [ai 1,aj]],.agg [ai 3,aj]⟩::A.Xw
def A.Xy:=⟨200,[.agg [ai 2,aj],.agg [ai 3,aj]],.agg [ai 1,aj]⟩::A.Xx
def A.Xz:=⟨139,[.agg [ai 2,aj],.agg [ai 3,aj]],.agg [ai 2,aj,ai 3,aj]⟩::A.Xy
def A.HN:=⟨139,[.agg [ai 0,aj],.agg [ai 3,aj]],.agg [ai 0,aj,ai 1,aj]⟩::A.Xz
def A.E2:=⟨85,[],[],[.slice 567 0 2 none 1],[(567,.cells [.slice 560 0 3 none 4,.slice 565 0 3 none 4] 82 true),(560,.cells [ai 2,aj,ai 1,aj,ai 1,aj,ai 1,aj,ai 3,aj,ai 1,aj] 96 true),(565,.cells [ai 1,aj,ai 1,aj,ai 2,aj,ai 1,aj,ai 0,aj,ai 1,aj] 96 true)]++A.TB,568,(.aX [(.slice 568 0 2 (some 2) 1),.slice 571 0 2 none 1]),[(568,.cells [(.slice 569 0 3 (some 3) 4),.slice 570 0 3 none 4] 82 true),(916,.cells [ai 1,aj,ai 1,aj,ai 0,aj,ai 1,aj,ai 2,aj,ai 1,aj] 96 true),(912,.cells [ai 0,aj,ai 1,aj,ai 1,aj,ai 1,aj,ai (-1),aj,ai 1,aj] 96 true),(1155,.cells [ai 0,ai 1] 3 true)],[]⟩::A.E1
def A.E3:=⟨21,[],[],[(.slice 12 0 2 (some 2) 1),(.slice 141 0 3 (some 3) 1)],[(12,.cells [(.slice 10 0 3 (some 3) 1),(.slice 11 0 3 (some 3) 1)] 23 true),(10,.cells [.str [49],.str [45,49],.str [48]] 40 true),(11,.cells [.str [48],.str [49],.str [45,49]] 40 true),(141,.cells [.str [51],.str [48],.str [48]] 40 true)]++A.TB,142,(.aX [(.slice 142 0 3 (some 3) 1),(.slice 143 0 3 (some 3) 1),ai 0]),[(753,.cells [.str [50],.str [45,49],.str [45,49]] 40 true),(804,.cells [.str [49],.str [49],.str [49]] 40 true)],[]⟩::A.E2
def A.XA:=⟨139,[.agg [ai 2,aj],.agg [ai 9,aj]],.agg [ai 2,aj,ai 9,aj]⟩::A.HN
def A.AZ:=⟨220,[.agg [ai 9,aj,ai 2,aj]],.agg [ai 2,aj,ai 9,aj]⟩::A.XA
def A.E4:=⟨161,[],[],[(.slice 695 0 4 (some 4) 4),(.func 162 [] [.ptr 876 0])],[(695,.cells [ai 0,aj,ai 1,aj,ai 9,aj,ai 2,aj,ai (-3),aj,ai 2,aj,ai 3,aj,ai 2,aj] 96 true),(876,.cells [ai 9,aj,ai 2,aj] 96 true)]++A.TB,877,.slice 877 0 4 none 4,[(1120,.cells [ai 0,aj,ai 1,aj,ai 1,aj,ai 1,aj,ai (-1),aj,ai 3,aj,ai 1,aj,ai 3,aj] 96 true)],[]⟩::A.E3
def A.E5:=⟨69,[],[],[.slice 690 0 4 none 4,.slice 877 0 4 none 4,(.func 164 [] [.ptr 878 0])],[(690,.cells [ai 1,aj,ai 1,aj,ai 1,aj,ai 2,aj,ai 1,aj,ai 2,aj,ai 1,aj,ai 2,aj] 96 true),(877,.cells [ai 0,aj,ai 1,aj,ai 1,aj,ai 1,aj,ai (-1),aj,ai 3,aj,ai 1,aj,ai 3,aj] 96 true),(878,.cells [ai 1,aj,ai 2,aj] 96 true)]++A.TB,881,(.slice 881 0 4 (some 4) 4),[(881,.cells [ai 1,aj,ai 1,aj,ai 0,aj,ai 1,aj,ai 2,aj,ai 3,aj,ai 1,aj,ai 3,aj] 96 true)],[]⟩::A.E4
def A.E6:=⟨87,[],[],[.slice 654 0 2 none 1,.slice 493 0 2 none 1],[(654,.cells [.slice 571 0 2 none 4,.slice 652 0 2 none 4] 82 true),(571,.cells [ai 2,aj,ai 1,aj,ai 1,aj,ai 1,aj] 96 true),(652,.cells [ai 1,aj,ai 1,aj,ai 5,aj,ai 1,aj] 96 true),(493,.cells [(.slice 474 0 2 (some 2) 4),(.slice 484 0 2 (some 2) 4)] 82 true),(474,.cells [ai 1,aj,ai 1,aj,ai 1,aj,ai 1,aj] 96 true),(484,.cells [ai (-1),aj,ai 1,aj,ai 2,aj,ai 1,aj] 96 true)]++A.TB,655,.aX [.slice 655 0 2 none 1,qF],[(888,.cells [(.slice 656 8 2 (some 2) 4),.slice 657 8 2 none 4] 82 true),(881,.cells [ai 1,aj,ai 1,aj,ai 0,aj,ai 1,aj,ai 2,aj,ai 3,aj,ai 1,aj,ai 3,aj] 96 true),(877,.cells [ai 0,aj,ai 1,aj,ai 1,aj,ai 1,aj,ai (-1),aj,ai 3,aj,ai 1,aj,ai 3,aj] 96 true)],[]⟩::A.E5
def A.E7:=⟨117,[],[],[.slice 160 0 2 none 1,(.slice 161 0 2 (some 2) 4),(.slice 162 0 2 (some 2) 1)],[(160,.cells [(.slice 155 0 3 (some 3) 4),(.slice 158 0 3 (some 3) 4)] 82 true),(155,.cells [ai 1,aj,ai 1,aj,ai (-1),aj,ai 1,aj,ai 0,aj,ai 1,aj] 96 true),(158,.cells [ai 0,aj,ai 1,aj,ai 1,aj,ai 1,aj,ai (-1),aj,ai 1,aj] 96 true),(161,.cells [ai 1,aj,ai 1,aj,ai 1,aj,ai 1,aj] 96 true),(162,.cells [(.slice 210 0 3 (some 3) 4),.slice 206 0 3 none 4] 82 true),(210,.cells [ai 1,aj,ai 1,aj,ai 0,aj,ai 1,aj,ai (-1),aj,ai 1,aj] 96 true),(206,.cells [ai 0,aj,ai 1,aj,ai 1,aj,ai 1,aj,ai (-1),aj,ai 1,aj] 96 true)]++A.TB,275,.aX [.slice 275 0 2 none 1,qF],[(655,.cells [(.slice 276 8 2 (some 2) 4),.slice 277 8 2 none 4] 82 true),(656,.cells [ai 1,aj,ai 1,aj,ai 0,aj,ai 1,aj,ai 2,aj,ai 3,aj,ai 1,aj,ai 3,aj] 96 true),(657,.cells [ai 0,aj,ai 1,aj,ai 1,aj,ai 1,aj,ai (-1),aj,ai 3,aj,ai 1,aj,ai 3,aj] 96 true)],[]⟩::A.E6
def A.XB:=⟨200,[.agg [ai 1,aj],.agg [ai 3,aj]],.agg [ai 1,aj]⟩::A.AZ
def A.XC:=⟨139,[.agg [ai 1,aj],.agg [ai 3,aj]],.agg [ai 1,aj,ai 3,aj]⟩::A.XB
def A.XD:=⟨101,[.agg [ai 0,aj,ai 1,aj],.agg [ai 1,aj,ai 3,aj]],.agg [ai 1,aj,ai 3,aj]⟩::A.XC
def A.XE:=⟨70,[.agg [ai 1,aj,ai 3,aj],.agg [ai 0,aj,ai 1,aj]],.agg [ai 0,aj,ai 1,aj]⟩::A.XD
def A.XF:=⟨139,[(.agg [ai (-1),aj]),.agg [ai 3,aj]],(.agg [ai (-1),aj,ai 3,aj])⟩::A.XE
def A.DW:=⟨101,[.agg [ai 0,aj,ai 1,aj],(.agg [ai (-1),aj,ai 3,aj])],(.agg [ai (-1),aj,ai 3,aj])⟩::A.XF
def A.E8:=⟨108,[],[],[.slice 322 0 2 none 1,(.func 138 [.slice 302 0 2 none 4] [])],[(322,.cells [.slice 311 0 2 none 4,.slice 320 0 2 none 4] 82 true),(311,.cells [ai 2,aj,ai 3,aj,ai (-1),aj,ai 3,aj] 96 true),(320,.cells [ai 1,aj,ai 3,aj,ai 1,aj,ai 3,aj] 96 true),(302,.cells [ai (-1),aj,ai 1,aj,ai (-1),aj,ai 1,aj] 96 true)]++A.TB,422,.slice 422 0 2 none 4,[(693,.cells [ai (-1),aj,ai 3,aj,ai (-2),aj,ai 3,aj] 96 true)],[]⟩::A.E7
def A.E9:=⟨49,[],[],[.slice 160 0 2 none 1,(.slice 161 0 2 (some 2) 4)],[(160,.cells [(.slice 155 0 3 (some 3) 4),(.slice 158 0 3 (some 3) 4)] 82 true),(155,.cells [ai 1,aj,ai 1,aj,ai (-1),aj,ai 1,aj,ai 0,aj,ai 1,aj] 96 true),(158,.cells [ai 0,aj,ai 1,aj,ai 1,aj,ai 1,aj,ai (-1),aj,ai 1,aj] 96 true),(161,.cells [ai 1,aj,ai 1,aj,ai 1,aj,ai 1,aj] 96 true)]++A.TB,162,.slice 162 0 3 none 1,[(424,.cells [.slice 163 0 2 none 4,.slice 164 0 2 none 4,.slice 165 0 2 none 4] 82 true),(385,.cells [ai 2,aj,ai 3,aj,ai 1,aj,ai 3,aj] 96 true),(419,.cells [ai (-1),aj,ai 3,aj,ai 1,aj,ai 3,aj] 96 true),(422,.cells [ai (-1),aj,ai 3,aj,ai (-2),aj,ai 3,aj] 96 true)],[]⟩::A.E8
def A.uY:=⟨10,[],[],[(.slice 12 0 2 (some 2) 1),(.slice 13 0 2 (some 2) 1)],[(12,.cells [(.slice 10 0 3 (some 3) 1),(.slice 11 0 3 (some 3) 1)] 23 true),(10,.cells [.str [49],.str [45,49],.str [48]] 40 true),(11,.cells [.str [48],.str [49],.str [45,49]] 40 true),(13,.cells [.str [49],.str [49]] 40 true)]++A.TB,144,.aX [.slice 144 0 3 none 1,ai 0],[(253,.cells [(.slice 145 0 2 (some 2) 1),(.slice 146 0 2 (some 2) 1),(.slice 147 0 2 (some 2) 1)] 23 true),(180,.cells [.str [50,47,51],.str [49,47,51]] 40 true),(207,.cells [.str [45,49,47,51],.str [49,47,51]] 40 true),(239,.cells [.str [45,49,47,51],.str [45,50,47,51]] 40 true)],[]⟩::A.E9
def A.XG:=⟨231,[.str [50],.str [48,49,50,51,52,53,54,55,56,57]],.str []⟩::A.DW
def A.XH:=⟨197,[.str [50]],qF⟩::A.XG
def A.XI:=⟨174,[.str [50]],.agg [ai 2,aj]⟩::A.XH
def A.XJ:=⟨136,[.str [49,47,51]],ai 0⟩::A.XI
def A.XK:=⟨136,[.str [45,49,47,51]],ai 0⟩::A.XJ
def A.XL:=⟨102,[.str [49,47,51]],.agg [ai 1,aj,ai 3,aj]⟩::A.XK
def A.M8:=⟨102,[.str [45,49,47,51]],(.agg [ai (-1),aj,ai 3,aj])⟩::A.XL
def A.HO:=⟨13,[],[],[.slice 144 0 3 none 1,(.slice 148 0 2 (some 2) 1)],[(144,.cells [(.slice 145 0 2 (some 2) 1),(.slice 146 0 2 (some 2) 1),(.slice 147 0 2 (some 2) 1)] 23 true),(145,.cells [.str [50,47,51],.str [49,47,51]] 40 true),(146,.cells [.str [45,49,47,51],.str [49,47,51]] 40 true),(147,.cells [.str [45,49,47,51],.str [45,50,47,51]] 40 true),(148,.cells [.str [51],.str [48]] 40 true)]++A.TB,149,(.aX [(.slice 149 0 3 (some 3) 1),ai 0]),[(443,.cells [.str [50],.str [45,49],.str [45,49]] 40 true)],[]⟩::A.uY
def A.XM:=⟨136,[.str [50]],ai 0⟩::A.M8
def A.HP:=⟨102,[.str [50]],.agg [ai 2,aj,ai 1,aj]⟩::A.XM
def A.XN:=⟨161,[],[],[.slice 403 0 3 none 4,(.func 162 [] [.ptr 410 0])],[(403,.cells [ai 8,aj,ai 1,aj,ai 4,aj,ai 1,aj,ai 2,aj,ai 1,aj] 96 true),(410,.cells [ai 8,aj,ai 1,aj] 96 true)]++A.TB,411,.slice 411 0 3 none 4,[(709,.cells [ai 1,aj,ai 1,aj,ai 1,aj,ai 2,aj,ai 1,aj,ai 4,aj] 96 true)],[]⟩::A.HO
def A.M9:=⟨49,[],[],[.slice 192 0 2 none 1,(.slice 193 0 2 (some 2) 4)],[(192,.cells [(.slice 187 0 1 (some 1) 4),(.slice 190 0 1 (some 1) 4)] 82 true),(187,.cells [ai 1,aj,ai 1,aj] 96 true),(190,.cells [ai 2,aj,ai 1,aj] 96 true),(193,.cells [ai 4,aj,ai 1,aj,ai 1,aj,ai 1,aj] 96 true)]++A.TB,206,.slice 206 0 1 none 1,[(557,.cells [.slice 207 0 2 none 4] 82 true),(555,.cells [ai 1,aj,ai 2,aj,ai 1,aj,ai 4,aj] 96 true)],[]⟩::A.XN
def A.zD:=⟨174,[.str [53]],.agg [ai 5,aj]⟩::A.HP
def A.XO:=⟨87,[],[],[.slice 326 0 1 none 1,.slice 283 0 1 none 1],[(326,.cells [.slice 324 0 1 none 4] 82 true),(324,.cells [ai 10,aj,ai 1,aj] 96 true),(283,.cells [(.slice 274 0 2 (some 2) 4)] 82 true),(274,.cells [ai 1,aj,ai 1,aj,ai 2,aj,ai 1,aj] 96 true)]++A.TB,342,.aX [.slice 342 0 1 none 1,qF],[(634,.cells [.slice 343 4 2 none 4] 82 true),(629,.cells [ai 1,aj,ai 1,aj,ai 1,aj,ai 10,aj,ai 1,aj,ai 5,aj] 96 true)],[]⟩::A.M9
def A.XP:=⟨36,[],[],[(.slice 160 0 2 (some 2) 1),(.slice 13 0 2 (some 2) 1),.str [53]],[(160,.cells [(.slice 158 0 1 (some 1) 1),(.slice 159 0 1 (some 1) 1)] 23 true),(158,.cells [.str [49]] 40 true),(159,.cells [.str [50]] 40 true),(13,.cells [.str [49],.str [49]] 40 true)]++A.TB,231,.aX [.slice 231 0 1 none 1,ai 0],[(366,.cells [(.slice 232 0 2 (some 2) 1)] 23 true),(354,.cells [.str [49,47,49,48],.str [49,47,53]] 40 true)],[]⟩::A.XO
def A.XQ:=⟨15,[],[],[(.slice 160 0 2 (some 2) 1),(.slice 13 0 2 (some 2) 1),(.slice 233 0 2 (some 2) 1),(.slice 234 0 1 (some 1) 1)],[(160,.cells [(.slice 158 0 1 (some 1) 1),(.slice 159 0 1 (some 1) 1)] 23 true),(158,.cells [.str [49]] 40 true),(159,.cells [.str [50]] 40 true),(13,.cells [.str [49],.str [49]] 40 true),(233,.cells [.str [53],.str [48]] 40 true),(234,.cells [.str [49]] 40 true)]++A.TB,235,(.aX [.str [50,48],ai 0]),[],[]⟩::A.XP
def A.XR:=⟨68,[],[],[(.slice 313 0 2 (some 2) 4),(.slice 307 0 2 (some 2) 4)],[(313,.cells [ai 1,aj,ai 5,aj,ai 2,aj,ai 5,aj] 96 true),(307,.cells [ai 1,aj,ai 5,aj,ai 2,aj,ai 5,aj] 96 true)]++A.TB,403,.agg [ai 1,aj,ai 5,aj],[],[]⟩::A.XQ
def A.HQ:=⟨37,[],[],[(.slice 236 0 1 (some 1) 1),(.slice 13 0 2 (some 2) 1)],[(236,.cells [(.slice 235 0 2 (some 2) 1)] 23 true),(235,.cells [.str [49,47,53],.str [50,47,53]] 40 true),(13,.cells [.str [49],.str [49]] 40 true)]++A.TB,237,(.aX [(.slice 237 0 1 (some 1) 1),ai 0]),[(410,.cells [.str [49,47,53]] 40 true)],[]⟩::A.XR
def A.XT:=⟨70,[.agg [ai 4,aj,ai 1,aj],.agg [ai 1,aj,ai 2,aj]],.agg [ai 2,aj,ai 1,aj]⟩::A.zD
def A.kv:=⟨163,[.agg [ai 4,aj,ai 1,aj],.agg [ai 2,aj,ai 1,aj]],.agg [ai 2,aj,ai 1,aj]⟩::A.XT
def A.XU:=⟨38,[],[],[(.slice 240 0 2 (some 2) 3),ai 2,ai 1],[(240,.cells [ai 0,.str [50],(.slice 238 0 2 (some 2) 1),ai 0,.str [45,49],(.slice 239 0 2 (some 2) 1)] 65 true),(238,.cells [.str [50],.str [52]] 40 true),(239,.cells [.str [45,51],.str [45,50]] 40 true)]++A.TB,241,.aX [.slice 241 0 2 none 1,ai 0],[(459,.cells [(.slice 242 0 1 (some 1) 1),(.slice 243 0 1 (some 1) 1)] 23 true),(441,.cells [.str [50]] 40 true),(453,.cells [.str [50]] 40 true)],[]⟩::A.HQ
def A.XV:=⟨39,[],[],[(.slice 240 0 2 (some 2) 3),ai 2,ai 1],[(240,.cells [ai 0,.str [50],(.slice 238 0 2 (some 2) 1),ai 0,.str [45,49],(.slice 239 0 2 (some 2) 1)] 65 true),(238,.cells [.str [50],.str [52]] 40 true),(239,.cells [.str [45,51],.str [45,50]] 40 true)]++A.TB,244,(.aX [(.slice 244 0 1 (some 1) 1),ai 0]),[(577,.cells [.str [50]] 40 true)],[]⟩::A.XU
def A.XW:=⟨40,[],[],[(.slice 12 0 2 (some 2) 1),(.slice 13 0 2 (some 2) 1),(.slice 255 0 1 (some 1) 1)],[(12,.cells [(.slice 10 0 3 (some 3) 1),(.slice 11 0 3 (some 3) 1)] 23 true),(10,.cells [.str [49],.str [45,49],.str [48]] 40 true),(11,.cells [.str [48],.str [49],.str [45,49]] 40 true),(13,.cells [.str [49],.str [49]] 40 true),(255,.cells [(.slice 254 0 3 (some 3) 1)] 23 true),(254,.cells [.str [49],.str [48],.str [45,49]] 40 true)]++A.TB,256,.aX [.slice 256 0 1 none 1,ai 0],[(478,.cells [(.slice 257 0 2 (some 2) 1)] 23 true),(466,.cells [.str [49,47,50],.str [49,47,50]] 40 true)],[]⟩::A.XV
def A.XX:=⟨117,[],[],[.slice 281 0 2 none 1,(.slice 282 0 2 (some 2) 4),.slice 285 0 1 none 1],[(281,.cells [(.slice 276 0 3 (some 3) 4),(.slice 279 0 3 (some 3) 4)] 82 true),(276,.cells [ai 1,aj,ai 1,aj,ai (-1),aj,ai 1,aj,ai 0,aj,ai 1,aj] 96 true),(279,.cells [ai 0,aj,ai 1,aj,ai 1,aj,ai 1,aj,ai (-1),aj,ai 1,aj] 96 true),(282,.cells [ai 1,aj,ai 1,aj,ai 1,aj,ai 1,aj] 96 true),(285,.cells [(.slice 283 0 3 (some 3) 4)] 82 true),(283,.cells [ai 1,aj,ai 1,aj,ai 1,aj,ai 1,aj,ai 1,aj,ai 1,aj] 96 true)]++A.TB,286,.aX [aj,aH],[],[]⟩::A.XW
def A.XY:=⟨41,[],[],[(.slice 288 0 2 (some 2) 1),(.slice 289 0 2 (some 2) 1)],[(288,.cells [(.slice 286 0 3 (some 3) 1),(.slice 287 0 3 (some 3) 1)] 23 true),(286,.cells [.str [49],.str [48],.str [45,49]] 40 true),(287,.cells [.str [48],.str [49],.str [45,49]] 40 true),(289,.cells [.str [50],.str [51]] 40 true)]++A.TB,290,(.aX [(.slice 290 0 3 (some 3) 1),ai 0]),[(484,.cells [.str [50],.str [51],.str [45,53]] 40 true)],[]⟩::A.XX
def A.XZ:=⟨45,[],[],[(.slice 12 0 2 (some 2) 1),.slice 136 0 1 none 1],[(12,.cells [(.slice 10 0 3 (some 3) 1),(.slice 11 0 3 (some 3) 1)] 23 true),(10,.cells [.str [49],.str [45,49],.str [48]] 40 true),(11,.cells [.str [48],.str [49],.str [45,49]] 40 true),(136,.cells [(.slice 137 0 3 (some 3) 1)] 23 true),(137,.cells [.str [49],.str [49],.str [49]] 40 true)]++A.TB,339,ai 0,[],[]⟩::A.XY
def A.X0:=⟨161,[],[],[(.slice 899 0 4 (some 4) 4),(.func 162 [] [.ptr 1080 0])],[(899,.cells [ai 0,aj,ai 1,aj,ai 9,aj,ai 2,aj,ai (-3),aj,ai 2,aj,ai 3,aj,ai 2,aj] 96 true),(1080,.cells [ai 9,aj,ai 2,aj] 96 true)]++A.TB,1081,.slice 1081 0 4 none 4,[(1324,.cells [ai 0,aj,ai 1,aj,ai 1,aj,ai 1,aj,ai (-1),aj,ai 3,aj,ai 1,aj,ai 3,aj] 96 true)],[]⟩::A.XZ
def A.X7:=⟨69,[],[],[.slice 894 0 4 none 4,.slice 1081 0 4 none 4,(.func 164 [] [.ptr 1082 0])],[(894,.cells [ai 1,aj,ai 1,aj,ai 1,aj,ai 2,aj,ai 1,aj,ai 2,aj,ai 1,aj,ai 2,aj] 96 true),(1081,.cells [ai 0,aj,ai 1,aj,ai 1,aj,ai 1,aj,ai (-1),aj,ai 3,aj,ai 1,aj,ai 3,aj] 96 true),(1082,.cells [ai 1,aj,ai 2,aj] 96 true)]++A.TB,1085,(.slice 1085 0 4 (some 4) 4),[(1085,.cells [ai 1,aj,ai 1,aj,ai 0,aj,ai 1,aj,ai 2,aj,ai 3,aj,ai 1,aj,ai 3,aj] 96 true)],[]⟩::A.X0
def A.X8:=⟨87,[],[],[.slice 858 0 2 none 1,.slice 697 0 2 none 1],[(858,.cells [.slice 775 0 2 none 4,.slice 856 0 2 none 4] 82 true),(775,.cells [ai 2,aj,ai 1,aj,ai 1,aj,ai 1,aj] 96 true),(856,.cells [ai 1,aj,ai 1,aj,ai 5,aj,ai 1,aj] 96 true),(697,.cells [(.slice 678 0 2 (some 2) 4),(.slice 688 0 2 (some 2) 4)] 82 true),(678,.cells [ai 1,aj,ai 1,aj,ai 1,aj,ai 1,aj] 96 true),(688,.cells [ai (-1),aj,ai 1,aj,ai 2,aj,ai 1,aj] 96 true)]++A.TB,859,.aX [.slice 859 0 2 none 1,qF],[(1092,.cells [(.slice 860 8 2 (some 2) 4),.slice 861 8 2 none 4] 82 true),(1085,.cells [ai 1,aj,ai 1,aj,ai 0,aj,ai 1,aj,ai 2,aj,ai 3,aj,ai 1,aj,ai 3,aj] 96 true),(1081,.cells [ai 0,aj,ai 1,aj,ai 1,aj,ai 1,aj,ai (-1),aj,ai 3,aj,ai 1,aj,ai 3,aj] 96 true)],[]⟩::A.X7
def A.X9:=⟨117,[],[],[.slice 364 0 2 none 1,(.slice 365 0 2 (some 2) 4),(.slice 366 0 2 (some 2) 1)],[(364,.cells [(.slice 359 0 3 (some 3) 4),(.slice 362 0 3 (some 3) 4)] 82 true),(359,.cells [ai 1,aj,ai 1,aj,ai (-1),aj,ai 1,aj,ai 0,aj,ai 1,aj] 96 true),(362,.cells [ai 0,aj,ai 1,aj,ai 1,aj,ai 1,aj,ai (-1),aj,ai 1,aj] 96 true),(365,.cells [ai 1,aj,ai 1,aj,ai 1,aj,ai 1,aj] 96 true),(366,.cells [(.slice 414 0 3 (some 3) 4),.slice 410 0 3 none 4] 82 true),(414,.cells [ai 1,aj,ai 1,aj,ai 0,aj,ai 1,aj,ai (-1),aj,ai 1,aj] 96 true),(410,.cells [ai 0,aj,ai 1,aj,ai 1,aj,ai 1,aj,ai (-1),aj,ai 1,aj] 96 true)]++A.TB,479,.aX [.slice 479 0 2 none 1,qF],[(859,.cells [(.slice 480 8 2 (some 2) 4),.slice 481 8 2 none 4] 82 true),(860,.cells [ai 1,aj,ai 1,aj,ai 0,aj,ai 1,aj,ai 2,aj,ai 3,aj,ai 1,aj,ai 3,aj] 96 true),(861,.cells [ai 0,aj,ai 1,aj,ai 1,aj,ai 1,aj,ai (-1),aj,ai 3,aj,ai 1,aj,ai 3,aj] 96 true)],[]⟩::A.X8
def A.Ya:=⟨108,[],[],[.slice 526 0 2 none 1,(.func 138 [.slice 506 0 2 none 4] [])],[(526,.cells [.slice 515 0 2 none 4,.slice 524 0 2 none 4] 82 true),(515,.cells [ai 2,aj,ai 3,aj,ai (-1),aj,ai 3,aj] 96 true),(524,.cells [ai 1,aj,ai 3,aj,ai 1,aj,ai 3,aj] 96 true),(506,.cells [ai (-1),aj,ai 1,aj,ai (-1),aj,ai 1,aj] 96 true)]++A.TB,626,.slice 626 0 2 none 4,[(897,.cells [ai (-1),aj,ai 3,aj,ai (-2),aj,ai 3,aj] 96 true)],[]⟩::A.X9
def A.Yb:=⟨49,[],[],[.slice 364 0 2 none 1,(.slice 365 0 2 (some 2) 4)],[(364,.cells [(.slice 359 0 3 (some 3) 4),(.slice 362 0 3 (some 3) 4)] 82 true),(359,.cells [ai 1,aj,ai 1,aj,ai (-1),aj,ai 1,aj,ai 0,aj,ai 1,aj] 96 true),(362,.cells [ai 0,aj,ai 1,aj,ai 1,aj,ai 1,aj,ai (-1),aj,ai 1,aj] 96 true),(365,.cells [ai 1,aj,ai 1,aj,ai 1,aj,ai 1,aj] 96 true)]++A.TB,366,.slice 366 0 3 none 1,[(628,.cells [.slice 367 0 2 none 4,.slice 368 0 2 none 4,.slice 369 0 2 none 4] 82 true),(589,.cells [ai 2,aj,ai 3,aj,ai 1,aj,ai 3,aj] 96 true),(623,.cells [ai (-1),aj,ai 3,aj,ai 1,aj,ai 3,aj] 96 true),(626,.cells [ai (-1),aj,ai 3,aj,ai (-2),aj,ai 3,aj] 96 true)],[]⟩::A.Ya
def A.SL:=⟨46,[],[],[(.slice 12 0 2 (some 2) 1),(.slice 13 0 2 (some 2) 1),.slice 144 0 3 none 1],[(12,.cells [(.slice 10 0 3 (some 3) 1),(.slice 11 0 3 (some 3) 1)] 23 true),(10,.cells [.str [49],.str [45,49],.str [48]] 40 true),(11,.cells [.str [48],.str [49],.str [45,49]] 40 true),(13,.cells [.str [49],.str [49]] 40 true),(144,.cells [(.slice 145 0 2 (some 2) 1),(.slice 146 0 2 (some 2) 1),(.slice 147 0 2 (some 2) 1)] 23 true),(145,.cells [.str [50,47,51],.str [49,47,51]] 40 true),(146,.cells [.str [45,49,47,51],.str [49,47,51]] 40 true),(147,.cells [.str [45,49,47,51],.str [45,50,47,51]] 40 true)]++A.TB,339,ai 0,[],[]⟩::A.Yb
def A.L91:=⟨9,[],qF⟩::A.kv
def A.mixed:Tryz.prog.follows .mixedOrders=true:=by kernel_rfl
def A.names:(Tryz.prog.funcs.toList.all fun fn=>!(fn.name== "runtime.NumGoroutine"))=true:=by kernel_rfl
def A.exts:((List.range Tryz.prog.funcs.size).all fun i=>match Tryz.prog.funcs[i]? with
  |some fn=>fn.body.isSome||(An fn.name).isNone||HR i [235,249,268,287]
  |none=>true)=true:=by kernel_rfl
def A.globals:Tryz.prog.globals.size=10:=by kernel_rfl
def A.Yc(fn:Func)(e:Ext)(hf:Tryz.prog.funcs[235]?=some fn)(he:An fn.name=some e):(fn.name== "runtime.NumGoroutine")=false/\Extern.findNext fn=none/\Extern.find fn=some (HS e):=by obtain rfl:fn=Tryz.f235:=(pC (Tryz.func235.symm.trans hf)).symm;obtain rfl:e=.pD:=(pC ((show An Tryz.f235.name=some .pD by kernel_rfl).symm.trans he)).symm;exact⟨by kernel_rfl,by kernel_rfl,by kernel_rfl⟩
def A.Yd(fn:Func)(e:Ext)(hf:Tryz.prog.funcs[249]?=some fn)(he:An fn.name=some e):(fn.name== "runtime.NumGoroutine")=false/\Extern.findNext fn=none/\Extern.find fn=some (HS e):=by obtain rfl:fn=Tryz.f249:=(pC (Tryz.func249.symm.trans hf)).symm;obtain rfl:e=.pE:=(pC ((show An Tryz.f249.name=some .pE by kernel_rfl).symm.trans he)).symm;exact⟨by kernel_rfl,by kernel_rfl,by kernel_rfl⟩
def A.Ye(fn:Func)(e:Ext)(hf:Tryz.prog.funcs[268]?=some fn)(he:An fn.name=some e):(fn.name== "runtime.NumGoroutine")=false/\Extern.findNext fn=none/\Extern.find fn=some (HS e):=by obtain rfl:fn=Tryz.f268:=(pC (Tryz.func268.symm.trans hf)).symm;obtain rfl:e=.same:=(pC ((show An Tryz.f268.name=some .same by kernel_rfl).symm.trans he)).symm;exact⟨by kernel_rfl,by kernel_rfl,by kernel_rfl⟩
def A.Yf(fn:Func)(e:Ext)(hf:Tryz.prog.funcs[287]?=some fn)(he:An fn.name=some e):(fn.name== "runtime.NumGoroutine")=false/\Extern.findNext fn=none/\Extern.find fn=some (HS e):=by obtain rfl:fn=Tryz.f287:=(pC (Tryz.func287.symm.trans hf)).symm;obtain rfl:e=.cr:=(pC ((show An Tryz.f287.name=some .cr by kernel_rfl).symm.trans he)).symm;exact⟨by kernel_rfl,by kernel_rfl,by kernel_rfl⟩
def A.HT:wj Tryz.prog:=by
 intro g fn e hf hb he;have h:=iK.1 A.exts g (iL.2 (by
  rcases Nat.lt_or_ge g Tryz.prog.funcs.size with h|h
  ·exact h
  ·rw[Array.getElem?_eq_none h]at hf;cases hf));rw[hf]at h;simp only[hb,he,Option.isNone_some,Bool.or_false,Bool.false_or]at h;have hm:=Na.1 h;simp only[ky,List.mem_nil_iff,or_false]at hm;rcases hm with rfl|rfl|rfl|rfl
 ·exact A.Yc fn e hf he
 ·exact A.Yd fn e hf he
 ·exact A.Ye fn e hf he
 exact A.Yf fn e hf he
def A.A1:FO Tryz.prog A.ec 10 where
 m:=A.mixed
 e:=A.HT
 t:=fun f mf hf=>⟨hf,fun fn CJ=>by
  have h:=iK.1 A.names fn (Array.mem_toList_iff.2 (Array.mem_of_getElem? CJ))
  simpa using h⟩
 g:=A.globals
end Go.Mx
