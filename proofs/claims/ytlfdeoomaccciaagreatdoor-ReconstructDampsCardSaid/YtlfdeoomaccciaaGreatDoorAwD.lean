/-The known runs-/
import Derived.Test.YtlfdeoomaccciaaGreatDoorMxDec
import Derived.Test.YtlfdeoomaccciaaGreatDoorChecked
set_option linter.all false
namespace Go.Mx
open Go Go.Proofs
set_option maxRecDepth 1000000
noncomputable def A.dE:Nat->Option lF:=yB Tryz.prog
abbrev A.p(L:List mF)(E:List ke):Prop:=Yk0 A.TB 10 A.dE L E=true
abbrev A.e(L:List mF)(E:List ke):Prop:=Yeb A.TB 10 A.dE L E=true
abbrev ai(n:Int):V:=.int .i64 n
abbrev aF:V:=.bool false
abbrev o_:V:=.bool true
abbrev aj:V:=.aa
def A.L:List mF:=[]
def A.E:List ke:=[]
def A.L0:=⟨238,[.str [49],.str [45]],aF⟩::A.L
def A.L1:=⟨237,[.str [49],.str [47]],ai (-1)⟩::A.L0
def A.L2:=⟨191,[.str [49],.str [47]],(.aV [.str [49],.str [],aF])⟩::A.L1
def A.L3:=⟨123,[.str [49],.str [47]],(.aV [.str [49],.str [],aF])⟩::A.L2
def A.L4:=⟨262,[.str [48,49,50,51,52,53,54,55,56,57]],(.aV [.agg [aF,aF,aF,aF,aF,aF,aF,aF,aF,aF,aF,aF,aF,aF,aF,aF,aF,aF,aF,aF,aF,aF,aF,aF,aF,aF,aF,aF,aF,aF,aF,aF,aF,aF,aF,aF,aF,aF,aF,aF,aF,aF,aF,aF,aF,aF,aF,aF,o_,o_,o_,o_,o_,o_,o_,o_,o_,o_,aF,aF,aF,aF,aF,aF,aF,aF,aF,aF,aF,aF,aF,aF,aF,aF,aF,aF,aF,aF,aF,aF,aF,aF,aF,aF,aF,aF,aF,aF,aF,aF,aF,aF,aF,aF,aF,aF,aF,aF,aF,aF,aF,aF,aF,aF,aF,aF,aF,aF,aF,aF,aF,aF,aF,aF,aF,aF,aF,aF,aF,aF,aF,aF,aF,aF,aF,aF,aF,aF,aF,aF,aF,aF,aF,aF,aF,aF,aF,aF,aF,aF,aF,aF,aF,aF,aF,aF,aF,aF,aF,aF,aF,aF,aF,aF,aF,aF,aF,aF,aF,aF,aF,aF,aF,aF,aF,aF,aF,aF,aF,aF,aF,aF,aF,aF,aF,aF,aF,aF,aF,aF,aF,aF,aF,aF,aF,aF,aF,aF,aF,aF,aF,aF,aF,aF,aF,aF,aF,aF,aF,aF,aF,aF,aF,aF,aF,aF,aF,aF,aF,aF,aF,aF,aF,aF,aF,aF,aF,aF,aF,aF,aF,aF,aF,aF,aF,aF,aF,aF,aF,aF,aF,aF,aF,aF,aF,aF,aF,aF,aF,aF,aF,aF,aF,aF,aF,aF,aF,aF,aF,aF,aF,aF,aF,aF,aF,aF],o_])⟩::A.L3
def A.L5:=⟨230,[.str [49],.str [48,49,50,51,52,53,54,55,56,57]],.str []⟩::A.L4
def A.L6:=⟨176,[.str [49]],o_⟩::A.L5
def A.L7:=⟨114,[.str [49]],ai 0⟩::A.L6
def A.L8:=⟨114,[.str [45,49]],ai 0⟩::A.L7
def A.L9:=⟨191,[.str [48],.str [47]],(.aV [.str [48],.str [],aF])⟩::A.L8
def A.Sx:=⟨123,[.str [48],.str [47]],(.aV [.str [48],.str [],aF])⟩::A.L9
def A.Sy:=⟨230,[.str [48],.str [48,49,50,51,52,53,54,55,56,57]],.str []⟩::A.Sx
def A.Sz:=⟨176,[.str [48]],o_⟩::A.Sy
def A.SA:=⟨114,[.str [48]],ai 0⟩::A.Sz
def A.SB:=⟨240,[.str [49]],.aV [ai 1,.aY]⟩::A.SA
def A.SC:=⟨194,[.str [49]],.aV [ai 1,.aY]⟩::A.SB
def A.SD:=⟨188,[.int .u64 1,.int .u64 10],.aV [.int .u64 0,.int .u64 10]⟩::A.SC
def A.SE:=⟨122,[.agg [ai 1,aj],.agg [ai 10,aj]],.agg [ai 10,aj]⟩::A.SD
def A.SF:=⟨195,[.agg [ai 10,aj],ai 1],.agg [ai 10,aj]⟩::A.SE
def A.SG:=⟨188,[.int .u64 0,.int .u64 10],.aV [.int .u64 0,.int .u64 0]⟩::A.SF
def A.SH:=⟨122,[.agg [ai 0,aj],.agg [ai 10,aj]],.agg [ai 0,aj]⟩::A.SG
def A.SI:=⟨120,[.agg [ai 0,aj],.agg [ai 1,aj]],.agg [ai 1,aj]⟩::A.SH
def A.SJ:=⟨124,[.str [49]],.agg [ai 1,aj]⟩::A.SI
def A.SK:=⟨45,[.str [49]],.agg [ai 1,aj,ai 1,aj]⟩::A.SJ
def A.SL:=⟨124,[.str [45,49]],(.agg [ai (-1),aj])⟩::A.SK
def A.SM:=⟨45,[.str [45,49]],(.agg [ai (-1),aj,ai 1,aj])⟩::A.SL
def A.SN:=⟨124,[.str [48]],.agg [ai 0,aj]⟩::A.SM
def A.SO:=⟨45,[.str [48]],.agg [ai 0,aj,ai 1,aj]⟩::A.SN
def A.SP:=⟨121,[.agg [ai 1,aj],.agg [ai 1,aj]],.agg [ai 1,aj,ai 1,aj]⟩::A.SO
def A.SQ:=⟨188,[.int .u64 1,.int .u64 1],.aV [.int .u64 0,.int .u64 1]⟩::A.SP
def A.SR:=⟨122,[.agg [ai 1,aj],.agg [ai 1,aj]],.agg [ai 1,aj]⟩::A.SQ
def A.SS:=⟨80,[.agg [ai 1,aj,ai 1,aj],.agg [ai 1,aj,ai 1,aj]],.agg [ai 1,aj,ai 1,aj]⟩::A.SR
def A.SU:=⟨148,[.agg [ai 1,aj,ai 1,aj],.agg [ai 1,aj,ai 1,aj]],.agg [ai 1,aj,ai 1,aj]⟩::A.SS
def A.SV:=⟨122,[(.agg [ai (-1),aj]),.agg [ai 1,aj]],(.agg [ai (-1),aj])⟩::A.SU
def A.SW:=⟨80,[(.agg [ai (-1),aj,ai 1,aj]),.agg [ai 1,aj,ai 1,aj]],(.agg [ai (-1),aj,ai 1,aj])⟩::A.SV
def A.SX:=⟨148,[(.agg [ai (-1),aj,ai 1,aj]),.agg [ai 1,aj,ai 1,aj]],(.agg [ai (-1),aj,ai 1,aj])⟩::A.SW
def A.SY:=⟨122,[.agg [ai 0,aj],.agg [ai 1,aj]],.agg [ai 0,aj]⟩::A.SX
def A.SZ:=⟨80,[.agg [ai 0,aj,ai 1,aj],.agg [ai 1,aj,ai 1,aj]],.agg [ai 0,aj,ai 1,aj]⟩::A.SY
def A.S0:=⟨148,[.agg [ai 0,aj,ai 1,aj],.agg [ai 1,aj,ai 1,aj]],.agg [ai 0,aj,ai 1,aj]⟩::A.SZ
def A.S3:=⟨80,[(.agg [ai (-1),aj,ai 1,aj]),.agg [ai 0,aj,ai 1,aj]],.agg [ai 0,aj,ai 1,aj]⟩::A.S0
def A.S4:=⟨118,[.agg [ai 0,aj,ai 1,aj]],o_⟩::A.S3
def A.S5:=⟨122,[(.agg [ai (-1),aj]),(.agg [ai (-1),aj])],.agg [ai 1,aj]⟩::A.S4
def A.S6:=⟨80,[(.agg [ai (-1),aj,ai 1,aj]),(.agg [ai (-1),aj,ai 1,aj])],.agg [ai 1,aj,ai 1,aj]⟩::A.S5
def A.S7:=⟨220,[.agg [ai 1,aj]],ai 1⟩::A.S6
def A.Fu:=⟨154,[.agg [ai 1,aj]],aF⟩::A.S7
def A.E0:=⟨17,[],[],[(.slice 12 0 2 (some 2) 1)],[(12,.cells [(.slice 10 0 3 (some 3) 1),(.slice 11 0 3 (some 3) 1)] 23 true),(10,.cells [.str [49],.str [45,49],.str [48]] 24 true),(11,.cells [.str [48],.str [49],.str [45,49]] 24 true)]++A.TB,136,.aV [.slice 136 0 1 none 1,ai 0],[(329,.cells [(.slice 137 0 3 (some 3) 1)] 23 true),(315,.cells [.str [49],.str [49],.str [49]] 24 true)],[]⟩::A.E
def A.E1:=⟨18,[],[],[(.slice 12 0 2 (some 2) 1)],[(12,.cells [(.slice 10 0 3 (some 3) 1),(.slice 11 0 3 (some 3) 1)] 23 true),(10,.cells [.str [49],.str [45,49],.str [48]] 24 true),(11,.cells [.str [48],.str [49],.str [45,49]] 24 true)]++A.TB,138,.aV [.slice 138 0 2 none 1,ai 0],[(309,.cells [(.slice 139 0 3 (some 3) 1),(.slice 140 0 3 (some 3) 1)] 23 true),(270,.cells [.str [49],.str [48],.str [45,49]] 24 true),(295,.cells [.str [48],.str [49],.str [45,49]] 24 true)],[]⟩::A.E0
def A.S8:=⟨230,[.str [51],.str [48,49,50,51,52,53,54,55,56,57]],.str []⟩::A.Fu
def A.S9:=⟨176,[.str [51]],o_⟩::A.S8
def A.Ta:=⟨124,[.str [51]],.agg [ai 3,aj]⟩::A.S9
def A.Tb:=⟨44,[.agg [ai 0,aj,ai 1,aj],.agg [ai 1,aj,ai 1,aj]],.agg [ai 1,aj,ai 1,aj]⟩::A.Ta
def A.Tc:=⟨44,[.agg [ai 0,aj,ai 1,aj],.agg [ai 0,aj,ai 1,aj]],.agg [ai 0,aj,ai 1,aj]⟩::A.Tb
def A.Td:=⟨122,[.agg [ai 1,aj],.agg [ai 3,aj]],.agg [ai 3,aj]⟩::A.Tc
def A.Te:=⟨232,[.agg [ai 2,aj],.agg [ai 1,aj]],(.aV [.agg [ai 2,aj],.agg [ai 0,aj]])⟩::A.Td
def A.Tf:=⟨179,[.agg [ai 1,aj],.agg [ai 2,aj]],.agg [ai 1,aj]⟩::A.Te
def A.Tg:=⟨232,[.agg [ai 1,aj],.agg [ai 1,aj]],(.aV [.agg [ai 1,aj],.agg [ai 0,aj]])⟩::A.Tf
def A.Th:=⟨187,[.agg [ai 1,aj],.agg [ai 1,aj]],.agg [ai 1,aj]⟩::A.Tg
def A.Ti:=⟨187,[.agg [ai 2,aj],.agg [ai 1,aj]],.agg [ai 2,aj]⟩::A.Th
def A.Tj:=⟨121,[.agg [ai 1,aj],.agg [ai 2,aj]],.agg [ai 1,aj,ai 2,aj]⟩::A.Ti
def A.Tk:=⟨219,[.agg [ai 2,aj,ai 1,aj]],.agg [ai 1,aj,ai 2,aj]⟩::A.Tj
def A.Tl:=⟨122,[.agg [ai 2,aj],.agg [ai 1,aj]],.agg [ai 2,aj]⟩::A.Tk
def A.Tm:=⟨188,[.int .u64 1,.int .u64 2],.aV [.int .u64 0,.int .u64 2]⟩::A.Tl
def A.Tn:=⟨122,[.agg [ai 1,aj],.agg [ai 2,aj]],.agg [ai 2,aj]⟩::A.Tm
def A.To:=⟨80,[.agg [ai 2,aj,ai 1,aj],.agg [ai 1,aj,ai 2,aj]],.agg [ai 1,aj,ai 1,aj]⟩::A.Tn
def A.Tp:=⟨148,[.agg [ai 2,aj,ai 1,aj],.agg [ai 2,aj,ai 1,aj]],.agg [ai 1,aj,ai 1,aj]⟩::A.To
def A.Tq:=⟨80,[.agg [ai 1,aj,ai 1,aj],.agg [ai 1,aj,ai 2,aj]],.agg [ai 1,aj,ai 2,aj]⟩::A.Tp
def A.Tr:=⟨148,[.agg [ai 1,aj,ai 1,aj],.agg [ai 2,aj,ai 1,aj]],.agg [ai 1,aj,ai 2,aj]⟩::A.Tq
def A.Ts:=⟨122,[.agg [ai 3,aj],.agg [ai 1,aj]],.agg [ai 3,aj]⟩::A.Tr
def A.Tt:=⟨232,[.agg [ai 3,aj],.agg [ai 1,aj]],(.aV [.agg [ai 3,aj],.agg [ai 0,aj]])⟩::A.Ts
def A.Tu:=⟨187,[.agg [ai 3,aj],.agg [ai 1,aj]],.agg [ai 3,aj]⟩::A.Tt
def A.Tv:=⟨179,[.agg [ai 2,aj],.agg [ai 3,aj]],.agg [ai 1,aj]⟩::A.Tu
def A.Tw:=⟨121,[.agg [ai 2,aj],.agg [ai 3,aj]],.agg [ai 2,aj,ai 3,aj]⟩::A.Tv
def A.Fv:=⟨121,[.agg [ai 0,aj],.agg [ai 3,aj]],.agg [ai 0,aj,ai 1,aj]⟩::A.Tw
def A.E2:=⟨58,[],[],[.slice 567 0 2 none 1],[(567,.cells [.slice 560 0 3 none 4,.slice 565 0 3 none 4] 73 true),(560,.cells [ai 2,aj,ai 1,aj,ai 1,aj,ai 1,aj,ai 3,aj,ai 1,aj] 80 true),(565,.cells [ai 1,aj,ai 1,aj,ai 2,aj,ai 1,aj,ai 0,aj,ai 1,aj] 80 true)]++A.TB,568,(.aV [(.slice 568 0 2 (some 2) 1),.slice 571 0 2 none 1]),[(568,.cells [(.slice 569 0 3 (some 3) 4),.slice 570 0 3 none 4] 73 true),(916,.cells [ai 1,aj,ai 1,aj,ai 0,aj,ai 1,aj,ai 2,aj,ai 1,aj] 80 true),(912,.cells [ai 0,aj,ai 1,aj,ai 1,aj,ai 1,aj,ai (-1),aj,ai 1,aj] 80 true),(1155,.cells [ai 0,ai 1] 3 true)],[]⟩::A.E1
def A.E3:=⟨19,[],[],[(.slice 12 0 2 (some 2) 1),(.slice 141 0 3 (some 3) 1)],[(12,.cells [(.slice 10 0 3 (some 3) 1),(.slice 11 0 3 (some 3) 1)] 23 true),(10,.cells [.str [49],.str [45,49],.str [48]] 24 true),(11,.cells [.str [48],.str [49],.str [45,49]] 24 true),(141,.cells [.str [51],.str [48],.str [48]] 24 true)]++A.TB,142,(.aV [(.slice 142 0 3 (some 3) 1),(.slice 143 0 3 (some 3) 1),ai 0]),[(753,.cells [.str [50],.str [45,49],.str [45,49]] 24 true),(804,.cells [.str [49],.str [49],.str [49]] 24 true)],[]⟩::A.E2
def A.Ty:=⟨121,[.agg [ai 2,aj],.agg [ai 9,aj]],.agg [ai 2,aj,ai 9,aj]⟩::A.Fv
def A.zp:=⟨219,[.agg [ai 9,aj,ai 2,aj]],.agg [ai 2,aj,ai 9,aj]⟩::A.Ty
def A.E4:=⟨146,[],[],[(.slice 695 0 4 (some 4) 4),(.func 147 [] [.ptr 876 0])],[(695,.cells [ai 0,aj,ai 1,aj,ai 9,aj,ai 2,aj,ai (-3),aj,ai 2,aj,ai 3,aj,ai 2,aj] 80 true),(876,.cells [ai 9,aj,ai 2,aj] 80 true)]++A.TB,877,.slice 877 0 4 none 4,[(1120,.cells [ai 0,aj,ai 1,aj,ai 1,aj,ai 1,aj,ai (-1),aj,ai 3,aj,ai 1,aj,ai 3,aj] 80 true)],[]⟩::A.E3
def A.E5:=⟨68,[],[],[.slice 690 0 4 none 4,.slice 877 0 4 none 4,(.func 149 [] [.ptr 878 0])],[(690,.cells [ai 1,aj,ai 1,aj,ai 1,aj,ai 2,aj,ai 1,aj,ai 2,aj,ai 1,aj,ai 2,aj] 80 true),(877,.cells [ai 0,aj,ai 1,aj,ai 1,aj,ai 1,aj,ai (-1),aj,ai 3,aj,ai 1,aj,ai 3,aj] 80 true),(878,.cells [ai 1,aj,ai 2,aj] 80 true)]++A.TB,881,(.slice 881 0 4 (some 4) 4),[(881,.cells [ai 1,aj,ai 1,aj,ai 0,aj,ai 1,aj,ai 2,aj,ai 3,aj,ai 1,aj,ai 3,aj] 80 true)],[]⟩::A.E4
def A.E6:=⟨46,[],[],[.slice 654 0 2 none 1,.slice 493 0 2 none 1],[(654,.cells [.slice 571 0 2 none 4,.slice 652 0 2 none 4] 73 true),(571,.cells [ai 2,aj,ai 1,aj,ai 1,aj,ai 1,aj] 80 true),(652,.cells [ai 1,aj,ai 1,aj,ai 5,aj,ai 1,aj] 80 true),(493,.cells [(.slice 474 0 2 (some 2) 4),(.slice 484 0 2 (some 2) 4)] 73 true),(474,.cells [ai 1,aj,ai 1,aj,ai 1,aj,ai 1,aj] 80 true),(484,.cells [ai (-1),aj,ai 1,aj,ai 2,aj,ai 1,aj] 80 true)]++A.TB,655,.aV [.slice 655 0 2 none 1,o_],[(888,.cells [(.slice 656 8 2 (some 2) 4),.slice 657 8 2 none 4] 73 true),(881,.cells [ai 1,aj,ai 1,aj,ai 0,aj,ai 1,aj,ai 2,aj,ai 3,aj,ai 1,aj,ai 3,aj] 80 true),(877,.cells [ai 0,aj,ai 1,aj,ai 1,aj,ai 1,aj,ai (-1),aj,ai 3,aj,ai 1,aj,ai 3,aj] 80 true)],[]⟩::A.E5
def A.E7:=⟨97,[],[],[.slice 160 0 2 none 1,(.slice 161 0 2 (some 2) 4),(.slice 162 0 2 (some 2) 1)],[(160,.cells [(.slice 155 0 3 (some 3) 4),(.slice 158 0 3 (some 3) 4)] 73 true),(155,.cells [ai 1,aj,ai 1,aj,ai (-1),aj,ai 1,aj,ai 0,aj,ai 1,aj] 80 true),(158,.cells [ai 0,aj,ai 1,aj,ai 1,aj,ai 1,aj,ai (-1),aj,ai 1,aj] 80 true),(161,.cells [ai 1,aj,ai 1,aj,ai 1,aj,ai 1,aj] 80 true),(162,.cells [(.slice 210 0 3 (some 3) 4),.slice 206 0 3 none 4] 73 true),(210,.cells [ai 1,aj,ai 1,aj,ai 0,aj,ai 1,aj,ai (-1),aj,ai 1,aj] 80 true),(206,.cells [ai 0,aj,ai 1,aj,ai 1,aj,ai 1,aj,ai (-1),aj,ai 1,aj] 80 true)]++A.TB,275,.aV [.slice 275 0 2 none 1,o_],[(655,.cells [(.slice 276 8 2 (some 2) 4),.slice 277 8 2 none 4] 73 true),(656,.cells [ai 1,aj,ai 1,aj,ai 0,aj,ai 1,aj,ai 2,aj,ai 3,aj,ai 1,aj,ai 3,aj] 80 true),(657,.cells [ai 0,aj,ai 1,aj,ai 1,aj,ai 1,aj,ai (-1),aj,ai 3,aj,ai 1,aj,ai 3,aj] 80 true)],[]⟩::A.E6
def A.Tz:=⟨179,[.agg [ai 1,aj],.agg [ai 3,aj]],.agg [ai 1,aj]⟩::A.zp
def A.TA:=⟨121,[.agg [ai 1,aj],.agg [ai 3,aj]],.agg [ai 1,aj,ai 3,aj]⟩::A.Tz
def A.TC:=⟨44,[.agg [ai 0,aj,ai 1,aj],.agg [ai 1,aj,ai 3,aj]],.agg [ai 1,aj,ai 3,aj]⟩::A.TA
def A.TD:=⟨80,[.agg [ai 1,aj,ai 3,aj],.agg [ai 0,aj,ai 1,aj]],.agg [ai 0,aj,ai 1,aj]⟩::A.TC
def A.TE:=⟨121,[(.agg [ai (-1),aj]),.agg [ai 3,aj]],(.agg [ai (-1),aj,ai 3,aj])⟩::A.TD
def A.BY:=⟨44,[.agg [ai 0,aj,ai 1,aj],(.agg [ai (-1),aj,ai 3,aj])],(.agg [ai (-1),aj,ai 3,aj])⟩::A.TE
def A.E8:=⟨88,[],[],[.slice 322 0 2 none 1,(.func 151 [.slice 302 0 2 none 4] [])],[(322,.cells [.slice 311 0 2 none 4,.slice 320 0 2 none 4] 73 true),(311,.cells [ai 2,aj,ai 3,aj,ai (-1),aj,ai 3,aj] 80 true),(320,.cells [ai 1,aj,ai 3,aj,ai 1,aj,ai 3,aj] 80 true),(302,.cells [ai (-1),aj,ai 1,aj,ai (-1),aj,ai 1,aj] 80 true)]++A.TB,422,.slice 422 0 2 none 4,[(693,.cells [ai (-1),aj,ai 3,aj,ai (-2),aj,ai 3,aj] 80 true)],[]⟩::A.E7
def A.E9:=⟨71,[],[],[.slice 160 0 2 none 1,(.slice 161 0 2 (some 2) 4)],[(160,.cells [(.slice 155 0 3 (some 3) 4),(.slice 158 0 3 (some 3) 4)] 73 true),(155,.cells [ai 1,aj,ai 1,aj,ai (-1),aj,ai 1,aj,ai 0,aj,ai 1,aj] 80 true),(158,.cells [ai 0,aj,ai 1,aj,ai 1,aj,ai 1,aj,ai (-1),aj,ai 1,aj] 80 true),(161,.cells [ai 1,aj,ai 1,aj,ai 1,aj,ai 1,aj] 80 true)]++A.TB,162,.slice 162 0 3 none 1,[(424,.cells [.slice 163 0 2 none 4,.slice 164 0 2 none 4,.slice 165 0 2 none 4] 73 true),(385,.cells [ai 2,aj,ai 3,aj,ai 1,aj,ai 3,aj] 80 true),(419,.cells [ai (-1),aj,ai 3,aj,ai 1,aj,ai 3,aj] 80 true),(422,.cells [ai (-1),aj,ai 3,aj,ai (-2),aj,ai 3,aj] 80 true)],[]⟩::A.E8
def A.ti:=⟨20,[],[],[(.slice 12 0 2 (some 2) 1),(.slice 13 0 2 (some 2) 1)],[(12,.cells [(.slice 10 0 3 (some 3) 1),(.slice 11 0 3 (some 3) 1)] 23 true),(10,.cells [.str [49],.str [45,49],.str [48]] 24 true),(11,.cells [.str [48],.str [49],.str [45,49]] 24 true),(13,.cells [.str [49],.str [49]] 24 true)]++A.TB,144,.aV [.slice 144 0 3 none 1,ai 0],[(253,.cells [(.slice 145 0 2 (some 2) 1),(.slice 146 0 2 (some 2) 1),(.slice 147 0 2 (some 2) 1)] 23 true),(180,.cells [.str [50,47,51],.str [49,47,51]] 24 true),(207,.cells [.str [45,49,47,51],.str [49,47,51]] 24 true),(239,.cells [.str [45,49,47,51],.str [45,50,47,51]] 24 true)],[]⟩::A.E9
def A.TF:=⟨230,[.str [50],.str [48,49,50,51,52,53,54,55,56,57]],.str []⟩::A.BY
def A.TG:=⟨176,[.str [50]],o_⟩::A.TF
def A.TH:=⟨124,[.str [50]],.agg [ai 2,aj]⟩::A.TG
def A.TI:=⟨114,[.str [49,47,51]],ai 0⟩::A.TH
def A.TJ:=⟨114,[.str [45,49,47,51]],ai 0⟩::A.TI
def A.TK:=⟨45,[.str [49,47,51]],.agg [ai 1,aj,ai 3,aj]⟩::A.TJ
def A.Km:=⟨45,[.str [45,49,47,51]],(.agg [ai (-1),aj,ai 3,aj])⟩::A.TK
def A.Fw:=⟨21,[],[],[.slice 144 0 3 none 1,(.slice 148 0 2 (some 2) 1)],[(144,.cells [(.slice 145 0 2 (some 2) 1),(.slice 146 0 2 (some 2) 1),(.slice 147 0 2 (some 2) 1)] 23 true),(145,.cells [.str [50,47,51],.str [49,47,51]] 24 true),(146,.cells [.str [45,49,47,51],.str [49,47,51]] 24 true),(147,.cells [.str [45,49,47,51],.str [45,50,47,51]] 24 true),(148,.cells [.str [51],.str [48]] 24 true)]++A.TB,149,(.aV [(.slice 149 0 3 (some 3) 1),ai 0]),[(443,.cells [.str [50],.str [45,49],.str [45,49]] 24 true)],[]⟩::A.ti
def A.TL:=⟨114,[.str [50]],ai 0⟩::A.Km
def A.Fy:=⟨45,[.str [50]],.agg [ai 2,aj,ai 1,aj]⟩::A.TL
def A.TM:=⟨146,[],[],[.slice 403 0 3 none 4,(.func 147 [] [.ptr 410 0])],[(403,.cells [ai 8,aj,ai 1,aj,ai 4,aj,ai 1,aj,ai 2,aj,ai 1,aj] 80 true),(410,.cells [ai 8,aj,ai 1,aj] 80 true)]++A.TB,411,.slice 411 0 3 none 4,[(709,.cells [ai 1,aj,ai 1,aj,ai 1,aj,ai 2,aj,ai 1,aj,ai 4,aj] 80 true)],[]⟩::A.Fw
def A.Kn:=⟨71,[],[],[.slice 192 0 2 none 1,(.slice 193 0 2 (some 2) 4)],[(192,.cells [(.slice 187 0 1 (some 1) 4),(.slice 190 0 1 (some 1) 4)] 73 true),(187,.cells [ai 1,aj,ai 1,aj] 80 true),(190,.cells [ai 2,aj,ai 1,aj] 80 true),(193,.cells [ai 4,aj,ai 1,aj,ai 1,aj,ai 1,aj] 80 true)]++A.TB,206,.slice 206 0 1 none 1,[(557,.cells [.slice 207 0 2 none 4] 73 true),(555,.cells [ai 1,aj,ai 2,aj,ai 1,aj,ai 4,aj] 80 true)],[]⟩::A.TM
def A.xQ:=⟨124,[.str [53]],.agg [ai 5,aj]⟩::A.Fy
def A.TN:=⟨46,[],[],[.slice 326 0 1 none 1,.slice 283 0 1 none 1],[(326,.cells [.slice 324 0 1 none 4] 73 true),(324,.cells [ai 10,aj,ai 1,aj] 80 true),(283,.cells [(.slice 274 0 2 (some 2) 4)] 73 true),(274,.cells [ai 1,aj,ai 1,aj,ai 2,aj,ai 1,aj] 80 true)]++A.TB,342,.aV [.slice 342 0 1 none 1,o_],[(634,.cells [.slice 343 4 2 none 4] 73 true),(629,.cells [ai 1,aj,ai 1,aj,ai 1,aj,ai 10,aj,ai 1,aj,ai 5,aj] 80 true)],[]⟩::A.Kn
def A.TO:=⟨8,[],[],[(.slice 160 0 2 (some 2) 1),(.slice 13 0 2 (some 2) 1),.str [53]],[(160,.cells [(.slice 158 0 1 (some 1) 1),(.slice 159 0 1 (some 1) 1)] 23 true),(158,.cells [.str [49]] 24 true),(159,.cells [.str [50]] 24 true),(13,.cells [.str [49],.str [49]] 24 true)]++A.TB,231,.aV [.slice 231 0 1 none 1,ai 0],[(366,.cells [(.slice 232 0 2 (some 2) 1)] 23 true),(354,.cells [.str [49,47,49,48],.str [49,47,53]] 24 true)],[]⟩::A.TN
def A.TQ:=⟨24,[],[],[(.slice 160 0 2 (some 2) 1),(.slice 13 0 2 (some 2) 1),(.slice 233 0 2 (some 2) 1),(.slice 234 0 1 (some 1) 1)],[(160,.cells [(.slice 158 0 1 (some 1) 1),(.slice 159 0 1 (some 1) 1)] 23 true),(158,.cells [.str [49]] 24 true),(159,.cells [.str [50]] 24 true),(13,.cells [.str [49],.str [49]] 24 true),(233,.cells [.str [53],.str [48]] 24 true),(234,.cells [.str [49]] 24 true)]++A.TB,235,(.aV [.str [50,48],ai 0]),[],[]⟩::A.TO
def A.TR:=⟨79,[],[],[(.slice 313 0 2 (some 2) 4),(.slice 307 0 2 (some 2) 4)],[(313,.cells [ai 1,aj,ai 5,aj,ai 2,aj,ai 5,aj] 80 true),(307,.cells [ai 1,aj,ai 5,aj,ai 2,aj,ai 5,aj] 80 true)]++A.TB,403,.agg [ai 1,aj,ai 5,aj],[],[]⟩::A.TQ
def A.Fz:=⟨25,[],[],[(.slice 236 0 1 (some 1) 1),(.slice 13 0 2 (some 2) 1)],[(236,.cells [(.slice 235 0 2 (some 2) 1)] 23 true),(235,.cells [.str [49,47,53],.str [50,47,53]] 24 true),(13,.cells [.str [49],.str [49]] 24 true)]++A.TB,237,(.aV [(.slice 237 0 1 (some 1) 1),ai 0]),[(410,.cells [.str [49,47,53]] 24 true)],[]⟩::A.TR
def A.TS:=⟨80,[.agg [ai 4,aj,ai 1,aj],.agg [ai 1,aj,ai 2,aj]],.agg [ai 2,aj,ai 1,aj]⟩::A.xQ
def A.jt:=⟨148,[.agg [ai 4,aj,ai 1,aj],.agg [ai 2,aj,ai 1,aj]],.agg [ai 2,aj,ai 1,aj]⟩::A.TS
def A.TT:=⟨26,[],[],[(.slice 240 0 2 (some 2) 3),ai 2,ai 1],[(240,.cells [ai 0,.str [50],(.slice 238 0 2 (some 2) 1),ai 0,.str [45,49],(.slice 239 0 2 (some 2) 1)] 53 true),(238,.cells [.str [50],.str [52]] 24 true),(239,.cells [.str [45,51],.str [45,50]] 24 true)]++A.TB,241,.aV [.slice 241 0 2 none 1,ai 0],[(459,.cells [(.slice 242 0 1 (some 1) 1),(.slice 243 0 1 (some 1) 1)] 23 true),(441,.cells [.str [50]] 24 true),(453,.cells [.str [50]] 24 true)],[]⟩::A.Fz
def A.TU:=⟨27,[],[],[(.slice 240 0 2 (some 2) 3),ai 2,ai 1],[(240,.cells [ai 0,.str [50],(.slice 238 0 2 (some 2) 1),ai 0,.str [45,49],(.slice 239 0 2 (some 2) 1)] 53 true),(238,.cells [.str [50],.str [52]] 24 true),(239,.cells [.str [45,51],.str [45,50]] 24 true)]++A.TB,244,(.aV [(.slice 244 0 1 (some 1) 1),ai 0]),[(577,.cells [.str [50]] 24 true)],[]⟩::A.TT
def A.TV:=⟨28,[],[],[(.slice 12 0 2 (some 2) 1),(.slice 13 0 2 (some 2) 1),(.slice 255 0 1 (some 1) 1)],[(12,.cells [(.slice 10 0 3 (some 3) 1),(.slice 11 0 3 (some 3) 1)] 23 true),(10,.cells [.str [49],.str [45,49],.str [48]] 24 true),(11,.cells [.str [48],.str [49],.str [45,49]] 24 true),(13,.cells [.str [49],.str [49]] 24 true),(255,.cells [(.slice 254 0 3 (some 3) 1)] 23 true),(254,.cells [.str [49],.str [48],.str [45,49]] 24 true)]++A.TB,256,.aV [.slice 256 0 1 none 1,ai 0],[(478,.cells [(.slice 257 0 2 (some 2) 1)] 23 true),(466,.cells [.str [49,47,50],.str [49,47,50]] 24 true)],[]⟩::A.TU
def A.TW:=⟨97,[],[],[.slice 281 0 2 none 1,(.slice 282 0 2 (some 2) 4),.slice 285 0 1 none 1],[(281,.cells [(.slice 276 0 3 (some 3) 4),(.slice 279 0 3 (some 3) 4)] 73 true),(276,.cells [ai 1,aj,ai 1,aj,ai (-1),aj,ai 1,aj,ai 0,aj,ai 1,aj] 80 true),(279,.cells [ai 0,aj,ai 1,aj,ai 1,aj,ai 1,aj,ai (-1),aj,ai 1,aj] 80 true),(282,.cells [ai 1,aj,ai 1,aj,ai 1,aj,ai 1,aj] 80 true),(285,.cells [(.slice 283 0 3 (some 3) 4)] 73 true),(283,.cells [ai 1,aj,ai 1,aj,ai 1,aj,ai 1,aj,ai 1,aj,ai 1,aj] 80 true)]++A.TB,286,.aV [aj,aF],[],[]⟩::A.TV
def A.TX:=⟨29,[],[],[(.slice 288 0 2 (some 2) 1),(.slice 289 0 2 (some 2) 1)],[(288,.cells [(.slice 286 0 3 (some 3) 1),(.slice 287 0 3 (some 3) 1)] 23 true),(286,.cells [.str [49],.str [48],.str [45,49]] 24 true),(287,.cells [.str [48],.str [49],.str [45,49]] 24 true),(289,.cells [.str [50],.str [51]] 24 true)]++A.TB,290,(.aV [(.slice 290 0 3 (some 3) 1),ai 0]),[(484,.cells [.str [50],.str [51],.str [45,53]] 24 true)],[]⟩::A.TW
def A.TY:=⟨33,[],[],[(.slice 12 0 2 (some 2) 1),.slice 136 0 1 none 1],[(12,.cells [(.slice 10 0 3 (some 3) 1),(.slice 11 0 3 (some 3) 1)] 23 true),(10,.cells [.str [49],.str [45,49],.str [48]] 24 true),(11,.cells [.str [48],.str [49],.str [45,49]] 24 true),(136,.cells [(.slice 137 0 3 (some 3) 1)] 23 true),(137,.cells [.str [49],.str [49],.str [49]] 24 true)]++A.TB,339,ai 0,[],[]⟩::A.TX
def A.TZ:=⟨146,[],[],[(.slice 899 0 4 (some 4) 4),(.func 147 [] [.ptr 1080 0])],[(899,.cells [ai 0,aj,ai 1,aj,ai 9,aj,ai 2,aj,ai (-3),aj,ai 2,aj,ai 3,aj,ai 2,aj] 80 true),(1080,.cells [ai 9,aj,ai 2,aj] 80 true)]++A.TB,1081,.slice 1081 0 4 none 4,[(1324,.cells [ai 0,aj,ai 1,aj,ai 1,aj,ai 1,aj,ai (-1),aj,ai 3,aj,ai 1,aj,ai 3,aj] 80 true)],[]⟩::A.TY
def A.T0:=⟨68,[],[],[.slice 894 0 4 none 4,.slice 1081 0 4 none 4,(.func 149 [] [.ptr 1082 0])],[(894,.cells [ai 1,aj,ai 1,aj,ai 1,aj,ai 2,aj,ai 1,aj,ai 2,aj,ai 1,aj,ai 2,aj] 80 true),(1081,.cells [ai 0,aj,ai 1,aj,ai 1,aj,ai 1,aj,ai (-1),aj,ai 3,aj,ai 1,aj,ai 3,aj] 80 true),(1082,.cells [ai 1,aj,ai 2,aj] 80 true)]++A.TB,1085,(.slice 1085 0 4 (some 4) 4),[(1085,.cells [ai 1,aj,ai 1,aj,ai 0,aj,ai 1,aj,ai 2,aj,ai 3,aj,ai 1,aj,ai 3,aj] 80 true)],[]⟩::A.TZ
def A.T1:=⟨46,[],[],[.slice 858 0 2 none 1,.slice 697 0 2 none 1],[(858,.cells [.slice 775 0 2 none 4,.slice 856 0 2 none 4] 73 true),(775,.cells [ai 2,aj,ai 1,aj,ai 1,aj,ai 1,aj] 80 true),(856,.cells [ai 1,aj,ai 1,aj,ai 5,aj,ai 1,aj] 80 true),(697,.cells [(.slice 678 0 2 (some 2) 4),(.slice 688 0 2 (some 2) 4)] 73 true),(678,.cells [ai 1,aj,ai 1,aj,ai 1,aj,ai 1,aj] 80 true),(688,.cells [ai (-1),aj,ai 1,aj,ai 2,aj,ai 1,aj] 80 true)]++A.TB,859,.aV [.slice 859 0 2 none 1,o_],[(1092,.cells [(.slice 860 8 2 (some 2) 4),.slice 861 8 2 none 4] 73 true),(1085,.cells [ai 1,aj,ai 1,aj,ai 0,aj,ai 1,aj,ai 2,aj,ai 3,aj,ai 1,aj,ai 3,aj] 80 true),(1081,.cells [ai 0,aj,ai 1,aj,ai 1,aj,ai 1,aj,ai (-1),aj,ai 3,aj,ai 1,aj,ai 3,aj] 80 true)],[]⟩::A.T0
def A.T2:=⟨97,[],[],[.slice 364 0 2 none 1,(.slice 365 0 2 (some 2) 4),(.slice 366 0 2 (some 2) 1)],[(364,.cells [(.slice 359 0 3 (some 3) 4),(.slice 362 0 3 (some 3) 4)] 73 true),(359,.cells [ai 1,aj,ai 1,aj,ai (-1),aj,ai 1,aj,ai 0,aj,ai 1,aj] 80 true),(362,.cells [ai 0,aj,ai 1,aj,ai 1,aj,ai 1,aj,ai (-1),aj,ai 1,aj] 80 true),(365,.cells [ai 1,aj,ai 1,aj,ai 1,aj,ai 1,aj] 80 true),(366,.cells [(.slice 414 0 3 (some 3) 4),.slice 410 0 3 none 4] 73 true),(414,.cells [ai 1,aj,ai 1,aj,ai 0,aj,ai 1,aj,ai (-1),aj,ai 1,aj] 80 true),(410,.cells [ai 0,aj,ai 1,aj,ai 1,aj,ai 1,aj,ai (-1),aj,ai 1,aj] 80 true)]++A.TB,479,.aV [.slice 479 0 2 none 1,o_],[(859,.cells [(.slice 480 8 2 (some 2) 4),.slice 481 8 2 none 4] 73 true),(860,.cells [ai 1,aj,ai 1,aj,ai 0,aj,ai 1,aj,ai 2,aj,ai 3,aj,ai 1,aj,ai 3,aj] 80 true),(861,.cells [ai 0,aj,ai 1,aj,ai 1,aj,ai 1,aj,ai (-1),aj,ai 3,aj,ai 1,aj,ai 3,aj] 80 true)],[]⟩::A.T1
def A.T3:=⟨88,[],[],[.slice 526 0 2 none 1,(.func 151 [.slice 506 0 2 none 4] [])],[(526,.cells [.slice 515 0 2 none 4,.slice 524 0 2 none 4] 73 true),(515,.cells [ai 2,aj,ai 3,aj,ai (-1),aj,ai 3,aj] 80 true),(524,.cells [ai 1,aj,ai 3,aj,ai 1,aj,ai 3,aj] 80 true),(506,.cells [ai (-1),aj,ai 1,aj,ai (-1),aj,ai 1,aj] 80 true)]++A.TB,626,.slice 626 0 2 none 4,[(897,.cells [ai (-1),aj,ai 3,aj,ai (-2),aj,ai 3,aj] 80 true)],[]⟩::A.T2
def A.T4:=⟨71,[],[],[.slice 364 0 2 none 1,(.slice 365 0 2 (some 2) 4)],[(364,.cells [(.slice 359 0 3 (some 3) 4),(.slice 362 0 3 (some 3) 4)] 73 true),(359,.cells [ai 1,aj,ai 1,aj,ai (-1),aj,ai 1,aj,ai 0,aj,ai 1,aj] 80 true),(362,.cells [ai 0,aj,ai 1,aj,ai 1,aj,ai 1,aj,ai (-1),aj,ai 1,aj] 80 true),(365,.cells [ai 1,aj,ai 1,aj,ai 1,aj,ai 1,aj] 80 true)]++A.TB,366,.slice 366 0 3 none 1,[(628,.cells [.slice 367 0 2 none 4,.slice 368 0 2 none 4,.slice 369 0 2 none 4] 73 true),(589,.cells [ai 2,aj,ai 3,aj,ai 1,aj,ai 3,aj] 80 true),(623,.cells [ai (-1),aj,ai 3,aj,ai 1,aj,ai 3,aj] 80 true),(626,.cells [ai (-1),aj,ai 3,aj,ai (-2),aj,ai 3,aj] 80 true)],[]⟩::A.T3
def A.Pr:=⟨34,[],[],[(.slice 12 0 2 (some 2) 1),(.slice 13 0 2 (some 2) 1),.slice 144 0 3 none 1],[(12,.cells [(.slice 10 0 3 (some 3) 1),(.slice 11 0 3 (some 3) 1)] 23 true),(10,.cells [.str [49],.str [45,49],.str [48]] 24 true),(11,.cells [.str [48],.str [49],.str [45,49]] 24 true),(13,.cells [.str [49],.str [49]] 24 true),(144,.cells [(.slice 145 0 2 (some 2) 1),(.slice 146 0 2 (some 2) 1),(.slice 147 0 2 (some 2) 1)] 23 true),(145,.cells [.str [50,47,51],.str [49,47,51]] 24 true),(146,.cells [.str [45,49,47,51],.str [49,47,51]] 24 true),(147,.cells [.str [45,49,47,51],.str [45,50,47,51]] 24 true)]++A.TB,339,ai 0,[],[]⟩::A.T4
def A.L91:=⟨7,[],o_⟩::A.jt
def A.mixed:Tryz.prog.follows .mixedOrders=true:=by kernel_rfl
def A.names:(Tryz.prog.funcs.toList.all fun fn=>!(fn.name== "runtime.NumGoroutine"))=true:=by kernel_rfl
def A.exts:((List.range Tryz.prog.funcs.size).all fun i=>match Tryz.prog.funcs[i]? with
  |some fn=>fn.body.isSome||(yC fn.name).isNone||FA i [234,236,283,288]
  |none=>true)=true:=by kernel_rfl
def A.globals:Tryz.prog.globals.size=10:=by kernel_rfl
def A.T5(fn:Func)(e:Ext)(hf:Tryz.prog.funcs[234]?=some fn)(he:yC fn.name=some e):(fn.name== "runtime.NumGoroutine")=false/\Extern.findNext fn=none/\Extern.find fn=some (FB e):=by
 obtain rfl:fn=Tryz.f234:=(pc (Tryz.func234.symm.trans hf)).symm
 obtain rfl:e=.gI:=(pc ((show yC Tryz.f234.name=some .gI by kernel_rfl).symm.trans he)).symm
 exact⟨by kernel_rfl,by kernel_rfl,by kernel_rfl⟩
def A.T6(fn:Func)(e:Ext)(hf:Tryz.prog.funcs[236]?=some fn)(he:yC fn.name=some e):(fn.name== "runtime.NumGoroutine")=false/\Extern.findNext fn=none/\Extern.find fn=some (FB e):=by
 obtain rfl:fn=Tryz.f236:=(pc (Tryz.func236.symm.trans hf)).symm
 obtain rfl:e=.jB:=(pc ((show yC Tryz.f236.name=some .jB by kernel_rfl).symm.trans he)).symm
 exact⟨by kernel_rfl,by kernel_rfl,by kernel_rfl⟩
def A.T7(fn:Func)(e:Ext)(hf:Tryz.prog.funcs[283]?=some fn)(he:yC fn.name=some e):(fn.name== "runtime.NumGoroutine")=false/\Extern.findNext fn=none/\Extern.find fn=some (FB e):=by
 obtain rfl:fn=Tryz.f283:=(pc (Tryz.func283.symm.trans hf)).symm
 obtain rfl:e=.same:=(pc ((show yC Tryz.f283.name=some .same by kernel_rfl).symm.trans he)).symm
 exact⟨by kernel_rfl,by kernel_rfl,by kernel_rfl⟩
def A.T8(fn:Func)(e:Ext)(hf:Tryz.prog.funcs[288]?=some fn)(he:yC fn.name=some e):(fn.name== "runtime.NumGoroutine")=false/\Extern.findNext fn=none/\Extern.find fn=some (FB e):=by
 obtain rfl:fn=Tryz.f288:=(pc (Tryz.func288.symm.trans hf)).symm
 obtain rfl:e=.bW:=(pc ((show yC Tryz.f288.name=some .bW by kernel_rfl).symm.trans he)).symm
 exact⟨by kernel_rfl,by kernel_rfl,by kernel_rfl⟩
def A.FC:ue Tryz.prog:=by
 intro g fn e hf hb he
 have h:=l7.1 A.exts g (zq.2 (by
  rcases Nat.lt_or_ge g Tryz.prog.funcs.size with h|h
  ·exact h
  ·rw[Array.getElem?_eq_none h]at hf;cases hf))
 rw[hf]at h
 simp only[hb,he,Option.isNone_some,Bool.or_false,Bool.false_or]at h
 have hm:=Ko.1 h
 simp only[kv,List.mem_nil_iff,or_false]at hm
 rcases hm with rfl|rfl|rfl|rfl
 ·exact A.T5 fn e hf he
 ·exact A.T6 fn e hf he
 ·exact A.T7 fn e hf he
 ·exact A.T8 fn e hf he
def A.zr:DD Tryz.prog A.dE 10 where
 m:=A.mixed
 e:=A.FC
 t:=fun f mf hf=>⟨hf,fun fn A1=>by
  have h:=l7.1 A.names fn (Array.mem_toList_iff.2 (Array.mem_of_getElem? A1))
  simpa using h⟩
 g:=A.globals
end Go.Mx
