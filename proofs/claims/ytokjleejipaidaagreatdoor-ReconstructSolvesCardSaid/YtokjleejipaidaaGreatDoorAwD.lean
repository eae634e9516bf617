/-The known runs-/
import Derived.Test.YtokjleejipaidaaGreatDoorMxDec
import Derived.Test.YtokjleejipaidaaGreatDoorChecked
set_option linter.all false
namespace Go.Mx
open Go Go.Proofs
set_option maxRecDepth 1000000
noncomputable def A.dJ:Nat->Option lA:=zg Tryz.prog
abbrev A.p(L:List mI)(E:List kc):Prop:=Ymg A.TB 10 A.dJ L E=true
abbrev A.e(L:List mI)(E:List kc):Prop:=Yfo A.TB 10 A.dJ L E=true
abbrev ai(n:Int):V:=.int .i64 n
abbrev aE:V:=.bool false
abbrev py:V:=.bool true
abbrev aj:V:=.aa
def A.L:List mI:=[]
def A.E:List kc:=[]
def A.L0:=⟨243,[.str [49],.str [45]],aE⟩::A.L
def A.L1:=⟨242,[.str [49],.str [47]],ai (-1)⟩::A.L0
def A.L2:=⟨205,[.str [49],.str [47]],(.aV [.str [49],.str [],aE])⟩::A.L1
def A.L3:=⟨157,[.str [49],.str [47]],(.aV [.str [49],.str [],aE])⟩::A.L2
def A.L4:=⟨264,[.str [48,49,50,51,52,53,54,55,56,57]],(.aV [.agg [aE,aE,aE,aE,aE,aE,aE,aE,aE,aE,aE,aE,aE,aE,aE,aE,aE,aE,aE,aE,aE,aE,aE,aE,aE,aE,aE,aE,aE,aE,aE,aE,aE,aE,aE,aE,aE,aE,aE,aE,aE,aE,aE,aE,aE,aE,aE,aE,py,py,py,py,py,py,py,py,py,py,aE,aE,aE,aE,aE,aE,aE,aE,aE,aE,aE,aE,aE,aE,aE,aE,aE,aE,aE,aE,aE,aE,aE,aE,aE,aE,aE,aE,aE,aE,aE,aE,aE,aE,aE,aE,aE,aE,aE,aE,aE,aE,aE,aE,aE,aE,aE,aE,aE,aE,aE,aE,aE,aE,aE,aE,aE,aE,aE,aE,aE,aE,aE,aE,aE,aE,aE,aE,aE,aE,aE,aE,aE,aE,aE,aE,aE,aE,aE,aE,aE,aE,aE,aE,aE,aE,aE,aE,aE,aE,aE,aE,aE,aE,aE,aE,aE,aE,aE,aE,aE,aE,aE,aE,aE,aE,aE,aE,aE,aE,aE,aE,aE,aE,aE,aE,aE,aE,aE,aE,aE,aE,aE,aE,aE,aE,aE,aE,aE,aE,aE,aE,aE,aE,aE,aE,aE,aE,aE,aE,aE,aE,aE,aE,aE,aE,aE,aE,aE,aE,aE,aE,aE,aE,aE,aE,aE,aE,aE,aE,aE,aE,aE,aE,aE,aE,aE,aE,aE,aE,aE,aE,aE,aE,aE,aE,aE,aE,aE,aE,aE,aE,aE,aE,aE,aE,aE,aE,aE,aE,aE,aE,aE,aE,aE,aE,aE,aE],py])⟩::A.L3
def A.L5:=⟨235,[.str [49],.str [48,49,50,51,52,53,54,55,56,57]],.str []⟩::A.L4
def A.L6:=⟨191,[.str [49]],py⟩::A.L5
def A.L7:=⟨143,[.str [49]],ai 0⟩::A.L6
def A.L8:=⟨143,[.str [45,49]],ai 0⟩::A.L7
def A.L9:=⟨205,[.str [48],.str [47]],(.aV [.str [48],.str [],aE])⟩::A.L8
def A.Tr:=⟨157,[.str [48],.str [47]],(.aV [.str [48],.str [],aE])⟩::A.L9
def A.Ts:=⟨235,[.str [48],.str [48,49,50,51,52,53,54,55,56,57]],.str []⟩::A.Tr
def A.Tt:=⟨191,[.str [48]],py⟩::A.Ts
def A.Tu:=⟨143,[.str [48]],ai 0⟩::A.Tt
def A.Tv:=⟨245,[.str [49]],.aV [ai 1,.aY]⟩::A.Tu
def A.Tw:=⟨208,[.str [49]],.aV [ai 1,.aY]⟩::A.Tv
def A.Ty:=⟨202,[.int .u64 1,.int .u64 10],.aV [.int .u64 0,.int .u64 10]⟩::A.Tw
def A.Tz:=⟨156,[.agg [ai 1,aj],.agg [ai 10,aj]],.agg [ai 10,aj]⟩::A.Ty
def A.TA:=⟨209,[.agg [ai 10,aj],ai 1],.agg [ai 10,aj]⟩::A.Tz
def A.TC:=⟨202,[.int .u64 0,.int .u64 10],.aV [.int .u64 0,.int .u64 0]⟩::A.TA
def A.TD:=⟨156,[.agg [ai 0,aj],.agg [ai 10,aj]],.agg [ai 0,aj]⟩::A.TC
def A.TE:=⟨154,[.agg [ai 0,aj],.agg [ai 1,aj]],.agg [ai 1,aj]⟩::A.TD
def A.TF:=⟨158,[.str [49]],.agg [ai 1,aj]⟩::A.TE
def A.TG:=⟨80,[.str [49]],.agg [ai 1,aj,ai 1,aj]⟩::A.TF
def A.TH:=⟨158,[.str [45,49]],(.agg [ai (-1),aj])⟩::A.TG
def A.TI:=⟨80,[.str [45,49]],(.agg [ai (-1),aj,ai 1,aj])⟩::A.TH
def A.TJ:=⟨158,[.str [48]],.agg [ai 0,aj]⟩::A.TI
def A.TK:=⟨80,[.str [48]],.agg [ai 0,aj,ai 1,aj]⟩::A.TJ
def A.TL:=⟨155,[.agg [ai 1,aj],.agg [ai 1,aj]],.agg [ai 1,aj,ai 1,aj]⟩::A.TK
def A.TM:=⟨202,[.int .u64 1,.int .u64 1],.aV [.int .u64 0,.int .u64 1]⟩::A.TL
def A.TN:=⟨156,[.agg [ai 1,aj],.agg [ai 1,aj]],.agg [ai 1,aj]⟩::A.TM
def A.TO:=⟨86,[.agg [ai 1,aj,ai 1,aj],.agg [ai 1,aj,ai 1,aj]],.agg [ai 1,aj,ai 1,aj]⟩::A.TN
def A.TQ:=⟨140,[.agg [ai 1,aj,ai 1,aj],.agg [ai 1,aj,ai 1,aj]],.agg [ai 1,aj,ai 1,aj]⟩::A.TO
def A.TR:=⟨156,[(.agg [ai (-1),aj]),.agg [ai 1,aj]],(.agg [ai (-1),aj])⟩::A.TQ
def A.TS:=⟨86,[(.agg [ai (-1),aj,ai 1,aj]),.agg [ai 1,aj,ai 1,aj]],(.agg [ai (-1),aj,ai 1,aj])⟩::A.TR
def A.TT:=⟨140,[(.agg [ai (-1),aj,ai 1,aj]),.agg [ai 1,aj,ai 1,aj]],(.agg [ai (-1),aj,ai 1,aj])⟩::A.TS
def A.TU:=⟨156,[.agg [ai 0,aj],.agg [ai 1,aj]],.agg [ai 0,aj]⟩::A.TT
def A.TV:=⟨86,[.agg [ai 0,aj,ai 1,aj],.agg [ai 1,aj,ai 1,aj]],.agg [ai 0,aj,ai 1,aj]⟩::A.TU
def A.TW:=⟨140,[.agg [ai 0,aj,ai 1,aj],.agg [ai 1,aj,ai 1,aj]],.agg [ai 0,aj,ai 1,aj]⟩::A.TV
def A.TX:=⟨86,[(.agg [ai (-1),aj,ai 1,aj]),.agg [ai 0,aj,ai 1,aj]],.agg [ai 0,aj,ai 1,aj]⟩::A.TW
def A.TY:=⟨152,[.agg [ai 0,aj,ai 1,aj]],py⟩::A.TX
def A.TZ:=⟨156,[(.agg [ai (-1),aj]),(.agg [ai (-1),aj])],.agg [ai 1,aj]⟩::A.TY
def A.T0:=⟨86,[(.agg [ai (-1),aj,ai 1,aj]),(.agg [ai (-1),aj,ai 1,aj])],.agg [ai 1,aj,ai 1,aj]⟩::A.TZ
def A.T1:=⟨210,[.agg [ai 1,aj]],ai 1⟩::A.T0
def A.Ge:=⟨159,[.agg [ai 1,aj]],aE⟩::A.T1
def A.E0:=⟨21,[],[],[(.slice 12 0 2 (some 2) 1)],[(12,.cells [(.slice 10 0 3 (some 3) 1),(.slice 11 0 3 (some 3) 1)] 23 true),(10,.cells [.str [49],.str [45,49],.str [48]] 41 true),(11,.cells [.str [48],.str [49],.str [45,49]] 41 true)]++A.TB,136,.aV [.slice 136 0 1 none 1,ai 0],[(329,.cells [(.slice 137 0 3 (some 3) 1)] 23 true),(315,.cells [.str [49],.str [49],.str [49]] 41 true)],[]⟩::A.E
def A.E1:=⟨22,[],[],[(.slice 12 0 2 (some 2) 1)],[(12,.cells [(.slice 10 0 3 (some 3) 1),(.slice 11 0 3 (some 3) 1)] 23 true),(10,.cells [.str [49],.str [45,49],.str [48]] 41 true),(11,.cells [.str [48],.str [49],.str [45,49]] 41 true)]++A.TB,138,.aV [.slice 138 0 2 none 1,ai 0],[(309,.cells [(.slice 139 0 3 (some 3) 1),(.slice 140 0 3 (some 3) 1)] 23 true),(270,.cells [.str [49],.str [48],.str [45,49]] 41 true),(295,.cells [.str [48],.str [49],.str [45,49]] 41 true)],[]⟩::A.E0
def A.T2:=⟨235,[.str [51],.str [48,49,50,51,52,53,54,55,56,57]],.str []⟩::A.Ge
def A.T3:=⟨191,[.str [51]],py⟩::A.T2
def A.T4:=⟨158,[.str [51]],.agg [ai 3,aj]⟩::A.T3
def A.T5:=⟨79,[.agg [ai 0,aj,ai 1,aj],.agg [ai 1,aj,ai 1,aj]],.agg [ai 1,aj,ai 1,aj]⟩::A.T4
def A.T6:=⟨79,[.agg [ai 0,aj,ai 1,aj],.agg [ai 0,aj,ai 1,aj]],.agg [ai 0,aj,ai 1,aj]⟩::A.T5
def A.T7:=⟨156,[.agg [ai 1,aj],.agg [ai 3,aj]],.agg [ai 3,aj]⟩::A.T6
def A.T8:=⟨237,[.agg [ai 2,aj],.agg [ai 1,aj]],(.aV [.agg [ai 2,aj],.agg [ai 0,aj]])⟩::A.T7
def A.T9:=⟨194,[.agg [ai 1,aj],.agg [ai 2,aj]],.agg [ai 1,aj]⟩::A.T8
def A.Ua:=⟨237,[.agg [ai 1,aj],.agg [ai 1,aj]],(.aV [.agg [ai 1,aj],.agg [ai 0,aj]])⟩::A.T9
def A.Ub:=⟨201,[.agg [ai 1,aj],.agg [ai 1,aj]],.agg [ai 1,aj]⟩::A.Ua
def A.Uc:=⟨201,[.agg [ai 2,aj],.agg [ai 1,aj]],.agg [ai 2,aj]⟩::A.Ub
def A.Ud:=⟨155,[.agg [ai 1,aj],.agg [ai 2,aj]],.agg [ai 1,aj,ai 2,aj]⟩::A.Uc
def A.Ue:=⟨188,[.agg [ai 2,aj,ai 1,aj]],.agg [ai 1,aj,ai 2,aj]⟩::A.Ud
def A.Uf:=⟨156,[.agg [ai 2,aj],.agg [ai 1,aj]],.agg [ai 2,aj]⟩::A.Ue
def A.Ug:=⟨202,[.int .u64 1,.int .u64 2],.aV [.int .u64 0,.int .u64 2]⟩::A.Uf
def A.Uh:=⟨156,[.agg [ai 1,aj],.agg [ai 2,aj]],.agg [ai 2,aj]⟩::A.Ug
def A.Ui:=⟨86,[.agg [ai 2,aj,ai 1,aj],.agg [ai 1,aj,ai 2,aj]],.agg [ai 1,aj,ai 1,aj]⟩::A.Uh
def A.Uj:=⟨140,[.agg [ai 2,aj,ai 1,aj],.agg [ai 2,aj,ai 1,aj]],.agg [ai 1,aj,ai 1,aj]⟩::A.Ui
def A.Uk:=⟨86,[.agg [ai 1,aj,ai 1,aj],.agg [ai 1,aj,ai 2,aj]],.agg [ai 1,aj,ai 2,aj]⟩::A.Uj
def A.Ul:=⟨140,[.agg [ai 1,aj,ai 1,aj],.agg [ai 2,aj,ai 1,aj]],.agg [ai 1,aj,ai 2,aj]⟩::A.Uk
def A.Um:=⟨156,[.agg [ai 3,aj],.agg [ai 1,aj]],.agg [ai 3,aj]⟩::A.Ul
def A.Un:=⟨237,[.agg [ai 3,aj],.agg [ai 1,aj]],(.aV [.agg [ai 3,aj],.agg [ai 0,aj]])⟩::A.Um
def A.Uo:=⟨201,[.agg [ai 3,aj],.agg [ai 1,aj]],.agg [ai 3,aj]⟩::A.Un
def A.Up:=⟨194,[.agg [ai 2,aj],.agg [ai 3,aj]],.agg [ai 1,aj]⟩::A.Uo
def A.Uq:=⟨155,[.agg [ai 2,aj],.agg [ai 3,aj]],.agg [ai 2,aj,ai 3,aj]⟩::A.Up
def A.Gf:=⟨155,[.agg [ai 0,aj],.agg [ai 3,aj]],.agg [ai 0,aj,ai 1,aj]⟩::A.Uq
def A.E2:=⟨57,[],[],[.slice 567 0 2 none 1],[(567,.cells [.slice 560 0 3 none 4,.slice 565 0 3 none 4] 72 true),(560,.cells [ai 2,aj,ai 1,aj,ai 1,aj,ai 1,aj,ai 3,aj,ai 1,aj] 108 true),(565,.cells [ai 1,aj,ai 1,aj,ai 2,aj,ai 1,aj,ai 0,aj,ai 1,aj] 108 true)]++A.TB,568,(.aV [(.slice 568 0 2 (some 2) 1),.slice 571 0 2 none 1]),[(568,.cells [(.slice 569 0 3 (some 3) 4),.slice 570 0 3 none 4] 72 true),(916,.cells [ai 1,aj,ai 1,aj,ai 0,aj,ai 1,aj,ai 2,aj,ai 1,aj] 108 true),(912,.cells [ai 0,aj,ai 1,aj,ai 1,aj,ai 1,aj,ai (-1),aj,ai 1,aj] 108 true),(1155,.cells [ai 0,ai 1] 3 true)],[]⟩::A.E1
def A.E3:=⟨23,[],[],[(.slice 12 0 2 (some 2) 1),(.slice 141 0 3 (some 3) 1)],[(12,.cells [(.slice 10 0 3 (some 3) 1),(.slice 11 0 3 (some 3) 1)] 23 true),(10,.cells [.str [49],.str [45,49],.str [48]] 41 true),(11,.cells [.str [48],.str [49],.str [45,49]] 41 true),(141,.cells [.str [51],.str [48],.str [48]] 41 true)]++A.TB,142,(.aV [(.slice 142 0 3 (some 3) 1),(.slice 143 0 3 (some 3) 1),ai 0]),[(753,.cells [.str [50],.str [45,49],.str [45,49]] 41 true),(804,.cells [.str [49],.str [49],.str [49]] 41 true)],[]⟩::A.E2
def A.Ur:=⟨155,[.agg [ai 2,aj],.agg [ai 9,aj]],.agg [ai 2,aj,ai 9,aj]⟩::A.Gf
def A.zZ:=⟨188,[.agg [ai 9,aj,ai 2,aj]],.agg [ai 2,aj,ai 9,aj]⟩::A.Ur
def A.E4:=⟨138,[],[],[(.slice 695 0 4 (some 4) 4),(.func 139 [] [.ptr 876 0])],[(695,.cells [ai 0,aj,ai 1,aj,ai 9,aj,ai 2,aj,ai (-3),aj,ai 2,aj,ai 3,aj,ai 2,aj] 108 true),(876,.cells [ai 9,aj,ai 2,aj] 108 true)]++A.TB,877,.slice 877 0 4 none 4,[(1120,.cells [ai 0,aj,ai 1,aj,ai 1,aj,ai 1,aj,ai (-1),aj,ai 3,aj,ai 1,aj,ai 3,aj] 108 true)],[]⟩::A.E3
def A.E5:=⟨70,[],[],[.slice 690 0 4 none 4,.slice 877 0 4 none 4,(.func 141 [] [.ptr 878 0])],[(690,.cells [ai 1,aj,ai 1,aj,ai 1,aj,ai 2,aj,ai 1,aj,ai 2,aj,ai 1,aj,ai 2,aj] 108 true),(877,.cells [ai 0,aj,ai 1,aj,ai 1,aj,ai 1,aj,ai (-1),aj,ai 3,aj,ai 1,aj,ai 3,aj] 108 true),(878,.cells [ai 1,aj,ai 2,aj] 108 true)]++A.TB,881,(.slice 881 0 4 (some 4) 4),[(881,.cells [ai 1,aj,ai 1,aj,ai 0,aj,ai 1,aj,ai 2,aj,ai 3,aj,ai 1,aj,ai 3,aj] 108 true)],[]⟩::A.E4
def A.E6:=⟨64,[],[],[.slice 654 0 2 none 1,.slice 493 0 2 none 1],[(654,.cells [.slice 571 0 2 none 4,.slice 652 0 2 none 4] 72 true),(571,.cells [ai 2,aj,ai 1,aj,ai 1,aj,ai 1,aj] 108 true),(652,.cells [ai 1,aj,ai 1,aj,ai 5,aj,ai 1,aj] 108 true),(493,.cells [(.slice 474 0 2 (some 2) 4),(.slice 484 0 2 (some 2) 4)] 72 true),(474,.cells [ai 1,aj,ai 1,aj,ai 1,aj,ai 1,aj] 108 true),(484,.cells [ai (-1),aj,ai 1,aj,ai 2,aj,ai 1,aj] 108 true)]++A.TB,655,.aV [.slice 655 0 2 none 1,py],[(888,.cells [(.slice 656 8 2 (some 2) 4),.slice 657 8 2 none 4] 72 true),(881,.cells [ai 1,aj,ai 1,aj,ai 0,aj,ai 1,aj,ai 2,aj,ai 3,aj,ai 1,aj,ai 3,aj] 108 true),(877,.cells [ai 0,aj,ai 1,aj,ai 1,aj,ai 1,aj,ai (-1),aj,ai 3,aj,ai 1,aj,ai 3,aj] 108 true)],[]⟩::A.E5
def A.E7:=⟨102,[],[],[.slice 160 0 2 none 1,(.slice 161 0 2 (some 2) 4),(.slice 162 0 2 (some 2) 1)],[(160,.cells [(.slice 155 0 3 (some 3) 4),(.slice 158 0 3 (some 3) 4)] 72 true),(155,.cells [ai 1,aj,ai 1,aj,ai (-1),aj,ai 1,aj,ai 0,aj,ai 1,aj] 108 true),(158,.cells [ai 0,aj,ai 1,aj,ai 1,aj,ai 1,aj,ai (-1),aj,ai 1,aj] 108 true),(161,.cells [ai 1,aj,ai 1,aj,ai 1,aj,ai 1,aj] 108 true),(162,.cells [(.slice 210 0 3 (some 3) 4),.slice 206 0 3 none 4] 72 true),(210,.cells [ai 1,aj,ai 1,aj,ai 0,aj,ai 1,aj,ai (-1),aj,ai 1,aj] 108 true),(206,.cells [ai 0,aj,ai 1,aj,ai 1,aj,ai 1,aj,ai (-1),aj,ai 1,aj] 108 true)]++A.TB,275,.aV [.slice 275 0 2 none 1,py],[(655,.cells [(.slice 276 8 2 (some 2) 4),.slice 277 8 2 none 4] 72 true),(656,.cells [ai 1,aj,ai 1,aj,ai 0,aj,ai 1,aj,ai 2,aj,ai 3,aj,ai 1,aj,ai 3,aj] 108 true),(657,.cells [ai 0,aj,ai 1,aj,ai 1,aj,ai 1,aj,ai (-1),aj,ai 3,aj,ai 1,aj,ai 3,aj] 108 true)],[]⟩::A.E6
def A.Us:=⟨194,[.agg [ai 1,aj],.agg [ai 3,aj]],.agg [ai 1,aj]⟩::A.zZ
def A.Ut:=⟨155,[.agg [ai 1,aj],.agg [ai 3,aj]],.agg [ai 1,aj,ai 3,aj]⟩::A.Us
def A.Uu:=⟨79,[.agg [ai 0,aj,ai 1,aj],.agg [ai 1,aj,ai 3,aj]],.agg [ai 1,aj,ai 3,aj]⟩::A.Ut
def A.Uv:=⟨86,[.agg [ai 1,aj,ai 3,aj],.agg [ai 0,aj,ai 1,aj]],.agg [ai 0,aj,ai 1,aj]⟩::A.Uu
def A.Uw:=⟨155,[(.agg [ai (-1),aj]),.agg [ai 3,aj]],(.agg [ai (-1),aj,ai 3,aj])⟩::A.Uv
def A.Cu:=⟨79,[.agg [ai 0,aj,ai 1,aj],(.agg [ai (-1),aj,ai 3,aj])],(.agg [ai (-1),aj,ai 3,aj])⟩::A.Uw
def A.E8:=⟨93,[],[],[.slice 322 0 2 none 1,(.func 148 [.slice 302 0 2 none 4] [])],[(322,.cells [.slice 311 0 2 none 4,.slice 320 0 2 none 4] 72 true),(311,.cells [ai 2,aj,ai 3,aj,ai (-1),aj,ai 3,aj] 108 true),(320,.cells [ai 1,aj,ai 3,aj,ai 1,aj,ai 3,aj] 108 true),(302,.cells [ai (-1),aj,ai 1,aj,ai (-1),aj,ai 1,aj] 108 true)]++A.TB,422,.slice 422 0 2 none 4,[(693,.cells [ai (-1),aj,ai 3,aj,ai (-2),aj,ai 3,aj] 108 true)],[]⟩::A.E7
def A.E9:=⟨39,[],[],[.slice 160 0 2 none 1,(.slice 161 0 2 (some 2) 4)],[(160,.cells [(.slice 155 0 3 (some 3) 4),(.slice 158 0 3 (some 3) 4)] 72 true),(155,.cells [ai 1,aj,ai 1,aj,ai (-1),aj,ai 1,aj,ai 0,aj,ai 1,aj] 108 true),(158,.cells [ai 0,aj,ai 1,aj,ai 1,aj,ai 1,aj,ai (-1),aj,ai 1,aj] 108 true),(161,.cells [ai 1,aj,ai 1,aj,ai 1,aj,ai 1,aj] 108 true)]++A.TB,162,.slice 162 0 3 none 1,[(424,.cells [.slice 163 0 2 none 4,.slice 164 0 2 none 4,.slice 165 0 2 none 4] 72 true),(385,.cells [ai 2,aj,ai 3,aj,ai 1,aj,ai 3,aj] 108 true),(419,.cells [ai (-1),aj,ai 3,aj,ai 1,aj,ai 3,aj] 108 true),(422,.cells [ai (-1),aj,ai 3,aj,ai (-2),aj,ai 3,aj] 108 true)],[]⟩::A.E8
def A.tH:=⟨8,[],[],[(.slice 12 0 2 (some 2) 1),(.slice 13 0 2 (some 2) 1)],[(12,.cells [(.slice 10 0 3 (some 3) 1),(.slice 11 0 3 (some 3) 1)] 23 true),(10,.cells [.str [49],.str [45,49],.str [48]] 41 true),(11,.cells [.str [48],.str [49],.str [45,49]] 41 true),(13,.cells [.str [49],.str [49]] 41 true)]++A.TB,144,.aV [.slice 144 0 3 none 1,ai 0],[(253,.cells [(.slice 145 0 2 (some 2) 1),(.slice 146 0 2 (some 2) 1),(.slice 147 0 2 (some 2) 1)] 23 true),(180,.cells [.str [50,47,51],.str [49,47,51]] 41 true),(207,.cells [.str [45,49,47,51],.str [49,47,51]] 41 true),(239,.cells [.str [45,49,47,51],.str [45,50,47,51]] 41 true)],[]⟩::A.E9
def A.Ux:=⟨235,[.str [50],.str [48,49,50,51,52,53,54,55,56,57]],.str []⟩::A.Cu
def A.Uy:=⟨191,[.str [50]],py⟩::A.Ux
def A.Uz:=⟨158,[.str [50]],.agg [ai 2,aj]⟩::A.Uy
def A.UA:=⟨143,[.str [49,47,51]],ai 0⟩::A.Uz
def A.UC:=⟨143,[.str [45,49,47,51]],ai 0⟩::A.UA
def A.UD:=⟨80,[.str [49,47,51]],.agg [ai 1,aj,ai 3,aj]⟩::A.UC
def A.K8:=⟨80,[.str [45,49,47,51]],(.agg [ai (-1),aj,ai 3,aj])⟩::A.UD
def A.Gg:=⟨24,[],[],[.slice 144 0 3 none 1,(.slice 148 0 2 (some 2) 1)],[(144,.cells [(.slice 145 0 2 (some 2) 1),(.slice 146 0 2 (some 2) 1),(.slice 147 0 2 (some 2) 1)] 23 true),(145,.cells [.str [50,47,51],.str [49,47,51]] 41 true),(146,.cells [.str [45,49,47,51],.str [49,47,51]] 41 true),(147,.cells [.str [45,49,47,51],.str [45,50,47,51]] 41 true),(148,.cells [.str [51],.str [48]] 41 true)]++A.TB,149,(.aV [(.slice 149 0 3 (some 3) 1),ai 0]),[(443,.cells [.str [50],.str [45,49],.str [45,49]] 41 true)],[]⟩::A.tH
def A.UE:=⟨143,[.str [50]],ai 0⟩::A.K8
def A.Gh:=⟨80,[.str [50]],.agg [ai 2,aj,ai 1,aj]⟩::A.UE
def A.UF:=⟨138,[],[],[.slice 403 0 3 none 4,(.func 139 [] [.ptr 410 0])],[(403,.cells [ai 8,aj,ai 1,aj,ai 4,aj,ai 1,aj,ai 2,aj,ai 1,aj] 108 true),(410,.cells [ai 8,aj,ai 1,aj] 108 true)]++A.TB,411,.slice 411 0 3 none 4,[(709,.cells [ai 1,aj,ai 1,aj,ai 1,aj,ai 2,aj,ai 1,aj,ai 4,aj] 108 true)],[]⟩::A.Gg
def A.K9:=⟨39,[],[],[.slice 192 0 2 none 1,(.slice 193 0 2 (some 2) 4)],[(192,.cells [(.slice 187 0 1 (some 1) 4),(.slice 190 0 1 (some 1) 4)] 72 true),(187,.cells [ai 1,aj,ai 1,aj] 108 true),(190,.cells [ai 2,aj,ai 1,aj] 108 true),(193,.cells [ai 4,aj,ai 1,aj,ai 1,aj,ai 1,aj] 108 true)]++A.TB,206,.slice 206 0 1 none 1,[(557,.cells [.slice 207 0 2 none 4] 72 true),(555,.cells [ai 1,aj,ai 2,aj,ai 1,aj,ai 4,aj] 108 true)],[]⟩::A.UF
def A.yz:=⟨158,[.str [53]],.agg [ai 5,aj]⟩::A.Gh
def A.UG:=⟨64,[],[],[.slice 326 0 1 none 1,.slice 283 0 1 none 1],[(326,.cells [.slice 324 0 1 none 4] 72 true),(324,.cells [ai 10,aj,ai 1,aj] 108 true),(283,.cells [(.slice 274 0 2 (some 2) 4)] 72 true),(274,.cells [ai 1,aj,ai 1,aj,ai 2,aj,ai 1,aj] 108 true)]++A.TB,342,.aV [.slice 342 0 1 none 1,py],[(634,.cells [.slice 343 4 2 none 4] 72 true),(629,.cells [ai 1,aj,ai 1,aj,ai 1,aj,ai 10,aj,ai 1,aj,ai 5,aj] 108 true)],[]⟩::A.K9
def A.UH:=⟨26,[],[],[(.slice 160 0 2 (some 2) 1),(.slice 13 0 2 (some 2) 1),.str [53]],[(160,.cells [(.slice 158 0 1 (some 1) 1),(.slice 159 0 1 (some 1) 1)] 23 true),(158,.cells [.str [49]] 41 true),(159,.cells [.str [50]] 41 true),(13,.cells [.str [49],.str [49]] 41 true)]++A.TB,231,.aV [.slice 231 0 1 none 1,ai 0],[(366,.cells [(.slice 232 0 2 (some 2) 1)] 23 true),(354,.cells [.str [49,47,49,48],.str [49,47,53]] 41 true)],[]⟩::A.UG
def A.UI:=⟨27,[],[],[(.slice 160 0 2 (some 2) 1),(.slice 13 0 2 (some 2) 1),(.slice 233 0 2 (some 2) 1),(.slice 234 0 1 (some 1) 1)],[(160,.cells [(.slice 158 0 1 (some 1) 1),(.slice 159 0 1 (some 1) 1)] 23 true),(158,.cells [.str [49]] 41 true),(159,.cells [.str [50]] 41 true),(13,.cells [.str [49],.str [49]] 41 true),(233,.cells [.str [53],.str [48]] 41 true),(234,.cells [.str [49]] 41 true)]++A.TB,235,(.aV [.str [50,48],ai 0]),[],[]⟩::A.UH
def A.UJ:=⟨85,[],[],[(.slice 313 0 2 (some 2) 4),(.slice 307 0 2 (some 2) 4)],[(313,.cells [ai 1,aj,ai 5,aj,ai 2,aj,ai 5,aj] 108 true),(307,.cells [ai 1,aj,ai 5,aj,ai 2,aj,ai 5,aj] 108 true)]++A.TB,403,.agg [ai 1,aj,ai 5,aj],[],[]⟩::A.UI
def A.Gi:=⟨28,[],[],[(.slice 236 0 1 (some 1) 1),(.slice 13 0 2 (some 2) 1)],[(236,.cells [(.slice 235 0 2 (some 2) 1)] 23 true),(235,.cells [.str [49,47,53],.str [50,47,53]] 41 true),(13,.cells [.str [49],.str [49]] 41 true)]++A.TB,237,(.aV [(.slice 237 0 1 (some 1) 1),ai 0]),[(410,.cells [.str [49,47,53]] 41 true)],[]⟩::A.UJ
def A.UK:=⟨86,[.agg [ai 4,aj,ai 1,aj],.agg [ai 1,aj,ai 2,aj]],.agg [ai 2,aj,ai 1,aj]⟩::A.yz
def A.jr:=⟨140,[.agg [ai 4,aj,ai 1,aj],.agg [ai 2,aj,ai 1,aj]],.agg [ai 2,aj,ai 1,aj]⟩::A.UK
def A.UL:=⟨29,[],[],[(.slice 240 0 2 (some 2) 3),ai 2,ai 1],[(240,.cells [ai 0,.str [50],(.slice 238 0 2 (some 2) 1),ai 0,.str [45,49],(.slice 239 0 2 (some 2) 1)] 56 true),(238,.cells [.str [50],.str [52]] 41 true),(239,.cells [.str [45,51],.str [45,50]] 41 true)]++A.TB,241,.aV [.slice 241 0 2 none 1,ai 0],[(459,.cells [(.slice 242 0 1 (some 1) 1),(.slice 243 0 1 (some 1) 1)] 23 true),(441,.cells [.str [50]] 41 true),(453,.cells [.str [50]] 41 true)],[]⟩::A.Gi
def A.UM:=⟨30,[],[],[(.slice 240 0 2 (some 2) 3),ai 2,ai 1],[(240,.cells [ai 0,.str [50],(.slice 238 0 2 (some 2) 1),ai 0,.str [45,49],(.slice 239 0 2 (some 2) 1)] 56 true),(238,.cells [.str [50],.str [52]] 41 true),(239,.cells [.str [45,51],.str [45,50]] 41 true)]++A.TB,244,(.aV [(.slice 244 0 1 (some 1) 1),ai 0]),[(577,.cells [.str [50]] 41 true)],[]⟩::A.UL
def A.UN:=⟨31,[],[],[(.slice 12 0 2 (some 2) 1),(.slice 13 0 2 (some 2) 1),(.slice 255 0 1 (some 1) 1)],[(12,.cells [(.slice 10 0 3 (some 3) 1),(.slice 11 0 3 (some 3) 1)] 23 true),(10,.cells [.str [49],.str [45,49],.str [48]] 41 true),(11,.cells [.str [48],.str [49],.str [45,49]] 41 true),(13,.cells [.str [49],.str [49]] 41 true),(255,.cells [(.slice 254 0 3 (some 3) 1)] 23 true),(254,.cells [.str [49],.str [48],.str [45,49]] 41 true)]++A.TB,256,.aV [.slice 256 0 1 none 1,ai 0],[(478,.cells [(.slice 257 0 2 (some 2) 1)] 23 true),(466,.cells [.str [49,47,50],.str [49,47,50]] 41 true)],[]⟩::A.UM
def A.UO:=⟨102,[],[],[.slice 281 0 2 none 1,(.slice 282 0 2 (some 2) 4),.slice 285 0 1 none 1],[(281,.cells [(.slice 276 0 3 (some 3) 4),(.slice 279 0 3 (some 3) 4)] 72 true),(276,.cells [ai 1,aj,ai 1,aj,ai (-1),aj,ai 1,aj,ai 0,aj,ai 1,aj] 108 true),(279,.cells [ai 0,aj,ai 1,aj,ai 1,aj,ai 1,aj,ai (-1),aj,ai 1,aj] 108 true),(282,.cells [ai 1,aj,ai 1,aj,ai 1,aj,ai 1,aj] 108 true),(285,.cells [(.slice 283 0 3 (some 3) 4)] 72 true),(283,.cells [ai 1,aj,ai 1,aj,ai 1,aj,ai 1,aj,ai 1,aj,ai 1,aj] 108 true)]++A.TB,286,.aV [aj,aE],[],[]⟩::A.UN
def A.UP:=⟨32,[],[],[(.slice 288 0 2 (some 2) 1),(.slice 289 0 2 (some 2) 1)],[(288,.cells [(.slice 286 0 3 (some 3) 1),(.slice 287 0 3 (some 3) 1)] 23 true),(286,.cells [.str [49],.str [48],.str [45,49]] 41 true),(287,.cells [.str [48],.str [49],.str [45,49]] 41 true),(289,.cells [.str [50],.str [51]] 41 true)]++A.TB,290,(.aV [(.slice 290 0 3 (some 3) 1),ai 0]),[(484,.cells [.str [50],.str [51],.str [45,53]] 41 true)],[]⟩::A.UO
def A.UQ:=⟨36,[],[],[(.slice 12 0 2 (some 2) 1),.slice 136 0 1 none 1],[(12,.cells [(.slice 10 0 3 (some 3) 1),(.slice 11 0 3 (some 3) 1)] 23 true),(10,.cells [.str [49],.str [45,49],.str [48]] 41 true),(11,.cells [.str [48],.str [49],.str [45,49]] 41 true),(136,.cells [(.slice 137 0 3 (some 3) 1)] 23 true),(137,.cells [.str [49],.str [49],.str [49]] 41 true)]++A.TB,339,ai 0,[],[]⟩::A.UP
def A.UR:=⟨138,[],[],[(.slice 899 0 4 (some 4) 4),(.func 139 [] [.ptr 1080 0])],[(899,.cells [ai 0,aj,ai 1,aj,ai 9,aj,ai 2,aj,ai (-3),aj,ai 2,aj,ai 3,aj,ai 2,aj] 108 true),(1080,.cells [ai 9,aj,ai 2,aj] 108 true)]++A.TB,1081,.slice 1081 0 4 none 4,[(1324,.cells [ai 0,aj,ai 1,aj,ai 1,aj,ai 1,aj,ai (-1),aj,ai 3,aj,ai 1,aj,ai 3,aj] 108 true)],[]⟩::A.UQ
def A.US:=⟨70,[],[],[.slice 894 0 4 none 4,.slice 1081 0 4 none 4,(.func 141 [] [.ptr 1082 0])],[(894,.cells [ai 1,aj,ai 1,aj,ai 1,aj,ai 2,aj,ai 1,aj,ai 2,aj,ai 1,aj,ai 2,aj] 108 true),(1081,.cells [ai 0,aj,ai 1,aj,ai 1,aj,ai 1,aj,ai (-1),aj,ai 3,aj,ai 1,aj,ai 3,aj] 108 true),(1082,.cells [ai 1,aj,ai 2,aj] 108 true)]++A.TB,1085,(.slice 1085 0 4 (some 4) 4),[(1085,.cells [ai 1,aj,ai 1,aj,ai 0,aj,ai 1,aj,ai 2,aj,ai 3,aj,ai 1,aj,ai 3,aj] 108 true)],[]⟩::A.UR
def A.UT:=⟨64,[],[],[.slice 858 0 2 none 1,.slice 697 0 2 none 1],[(858,.cells [.slice 775 0 2 none 4,.slice 856 0 2 none 4] 72 true),(775,.cells [ai 2,aj,ai 1,aj,ai 1,aj,ai 1,aj] 108 true),(856,.cells [ai 1,aj,ai 1,aj,ai 5,aj,ai 1,aj] 108 true),(697,.cells [(.slice 678 0 2 (some 2) 4),(.slice 688 0 2 (some 2) 4)] 72 true),(678,.cells [ai 1,aj,ai 1,aj,ai 1,aj,ai 1,aj] 108 true),(688,.cells [ai (-1),aj,ai 1,aj,ai 2,aj,ai 1,aj] 108 true)]++A.TB,859,.aV [.slice 859 0 2 none 1,py],[(1092,.cells [(.slice 860 8 2 (some 2) 4),.slice 861 8 2 none 4] 72 true),(1085,.cells [ai 1,aj,ai 1,aj,ai 0,aj,ai 1,aj,ai 2,aj,ai 3,aj,ai 1,aj,ai 3,aj] 108 true),(1081,.cells [ai 0,aj,ai 1,aj,ai 1,aj,ai 1,aj,ai (-1),aj,ai 3,aj,ai 1,aj,ai 3,aj] 108 true)],[]⟩::A.US
def A.UU:=⟨102,[],[],[.slice 364 0 2 none 1,(.slice 365 0 2 (some 2) 4),(.slice 366 0 2 (some 2) 1)],[(364,.cells [(.slice 359 0 3 (some 3) 4),(.slice 362 0 3 (some 3) 4)] 72 true),(359,.cells [ai 1,aj,ai 1,aj,ai (-1),aj,ai 1,aj,ai 0,aj,ai 1,aj] 108 true),(362,.cells [ai 0,aj,ai 1,aj,ai 1,aj,ai 1,aj,ai (-1),aj,ai 1,aj] 108 true),(365,.cells [ai 1,aj,ai 1,aj,ai 1,aj,ai 1,aj] 108 true),(366,.cells [(.slice 414 0 3 (some 3) 4),.slice 410 0 3 none 4] 72 true),(414,.cells [ai 1,aj,ai 1,aj,ai 0,aj,ai 1,aj,ai (-1),aj,ai 1,aj] 108 true),(410,.cells [ai 0,aj,ai 1,aj,ai 1,aj,ai 1,aj,ai (-1),aj,ai 1,aj] 108 true)]++A.TB,479,.aV [.slice 479 0 2 none 1,py],[(859,.cells [(.slice 480 8 2 (some 2) 4),.slice 481 8 2 none 4] 72 true),(860,.cells [ai 1,aj,ai 1,aj,ai 0,aj,ai 1,aj,ai 2,aj,ai 3,aj,ai 1,aj,ai 3,aj] 108 true),(861,.cells [ai 0,aj,ai 1,aj,ai 1,aj,ai 1,aj,ai (-1),aj,ai 3,aj,ai 1,aj,ai 3,aj] 108 true)],[]⟩::A.UT
def A.UW:=⟨93,[],[],[.slice 526 0 2 none 1,(.func 148 [.slice 506 0 2 none 4] [])],[(526,.cells [.slice 515 0 2 none 4,.slice 524 0 2 none 4] 72 true),(515,.cells [ai 2,aj,ai 3,aj,ai (-1),aj,ai 3,aj] 108 true),(524,.cells [ai 1,aj,ai 3,aj,ai 1,aj,ai 3,aj] 108 true),(506,.cells [ai (-1),aj,ai 1,aj,ai (-1),aj,ai 1,aj] 108 true)]++A.TB,626,.slice 626 0 2 none 4,[(897,.cells [ai (-1),aj,ai 3,aj,ai (-2),aj,ai 3,aj] 108 true)],[]⟩::A.UU
def A.UX:=⟨39,[],[],[.slice 364 0 2 none 1,(.slice 365 0 2 (some 2) 4)],[(364,.cells [(.slice 359 0 3 (some 3) 4),(.slice 362 0 3 (some 3) 4)] 72 true),(359,.cells [ai 1,aj,ai 1,aj,ai (-1),aj,ai 1,aj,ai 0,aj,ai 1,aj] 108 true),(362,.cells [ai 0,aj,ai 1,aj,ai 1,aj,ai 1,aj,ai (-1),aj,ai 1,aj] 108 true),(365,.cells [ai 1,aj,ai 1,aj,ai 1,aj,ai 1,aj] 108 true)]++A.TB,366,.slice 366 0 3 none 1,[(628,.cells [.slice 367 0 2 none 4,.slice 368 0 2 none 4,.slice 369 0 2 none 4] 72 true),(589,.cells [ai 2,aj,ai 3,aj,ai 1,aj,ai 3,aj] 108 true),(623,.cells [ai (-1),aj,ai 3,aj,ai 1,aj,ai 3,aj] 108 true),(626,.cells [ai (-1),aj,ai 3,aj,ai (-2),aj,ai 3,aj] 108 true)],[]⟩::A.UW
def A.Qj:=⟨9,[],[],[(.slice 12 0 2 (some 2) 1),(.slice 13 0 2 (some 2) 1),.slice 144 0 3 none 1],[(12,.cells [(.slice 10 0 3 (some 3) 1),(.slice 11 0 3 (some 3) 1)] 23 true),(10,.cells [.str [49],.str [45,49],.str [48]] 41 true),(11,.cells [.str [48],.str [49],.str [45,49]] 41 true),(13,.cells [.str [49],.str [49]] 41 true),(144,.cells [(.slice 145 0 2 (some 2) 1),(.slice 146 0 2 (some 2) 1),(.slice 147 0 2 (some 2) 1)] 23 true),(145,.cells [.str [50,47,51],.str [49,47,51]] 41 true),(146,.cells [.str [45,49,47,51],.str [49,47,51]] 41 true),(147,.cells [.str [45,49,47,51],.str [45,50,47,51]] 41 true)]++A.TB,339,ai 0,[],[]⟩::A.UX
def A.L91:=⟨7,[],py⟩::A.jr
def A.mixed:Tryz.prog.follows .mixedOrders=true:=by kernel_rfl
def A.names:(Tryz.prog.funcs.toList.all fun fn=>!(fn.name== "runtime.NumGoroutine"))=true:=by kernel_rfl
def A.exts:((List.range Tryz.prog.funcs.size).all fun i=>match Tryz.prog.funcs[i]? with
  |some fn=>fn.body.isSome||(zh fn.name).isNone||Gj i [239,241,285,291]
  |none=>true)=true:=by kernel_rfl
def A.globals:Tryz.prog.globals.size=10:=by kernel_rfl
def A.UY(fn:Func)(e:Ext)(hf:Tryz.prog.funcs[239]?=some fn)(he:zh fn.name=some e):(fn.name== "runtime.NumGoroutine")=false/\Extern.findNext fn=none/\Extern.find fn=some (Gk e):=by
 obtain rfl:fn=Tryz.f239:=(mJ (Tryz.func239.symm.trans hf)).symm
 obtain rfl:e=.gW:=(mJ ((show zh Tryz.f239.name=some .gW by kernel_rfl).symm.trans he)).symm
 exact⟨by kernel_rfl,by kernel_rfl,by kernel_rfl⟩
def A.UZ(fn:Func)(e:Ext)(hf:Tryz.prog.funcs[241]?=some fn)(he:zh fn.name=some e):(fn.name== "runtime.NumGoroutine")=false/\Extern.findNext fn=none/\Extern.find fn=some (Gk e):=by
 obtain rfl:fn=Tryz.f241:=(mJ (Tryz.func241.symm.trans hf)).symm
 obtain rfl:e=.jy:=(mJ ((show zh Tryz.f241.name=some .jy by kernel_rfl).symm.trans he)).symm
 exact⟨by kernel_rfl,by kernel_rfl,by kernel_rfl⟩
def A.U0(fn:Func)(e:Ext)(hf:Tryz.prog.funcs[285]?=some fn)(he:zh fn.name=some e):(fn.name== "runtime.NumGoroutine")=false/\Extern.findNext fn=none/\Extern.find fn=some (Gk e):=by
 obtain rfl:fn=Tryz.f285:=(mJ (Tryz.func285.symm.trans hf)).symm
 obtain rfl:e=.same:=(mJ ((show zh Tryz.f285.name=some .same by kernel_rfl).symm.trans he)).symm
 exact⟨by kernel_rfl,by kernel_rfl,by kernel_rfl⟩
def A.U5(fn:Func)(e:Ext)(hf:Tryz.prog.funcs[291]?=some fn)(he:zh fn.name=some e):(fn.name== "runtime.NumGoroutine")=false/\Extern.findNext fn=none/\Extern.find fn=some (Gk e):=by
 obtain rfl:fn=Tryz.f291:=(mJ (Tryz.func291.symm.trans hf)).symm
 obtain rfl:e=.bX:=(mJ ((show zh Tryz.f291.name=some .bX by kernel_rfl).symm.trans he)).symm
 exact⟨by kernel_rfl,by kernel_rfl,by kernel_rfl⟩
def A.Gl:uJ Tryz.prog:=by
 intro g fn e hf hb he
 have h:=me.1 A.exts g (yA.2 (by
  rcases Nat.lt_or_ge g Tryz.prog.funcs.size with h|h
  ·exact h
  ·rw[Array.getElem?_eq_none h]at hf;cases hf))
 rw[hf]at h
 simp only[hb,he,Option.isNone_some,Bool.or_false,Bool.false_or]at h
 have hm:=La.1 h
 simp only[ku,List.mem_nil_iff,or_false]at hm
 rcases hm with rfl|rfl|rfl|rfl
 ·exact A.UY fn e hf he
 ·exact A.UZ fn e hf he
 ·exact A.U0 fn e hf he
 ·exact A.U5 fn e hf he
def A.z_:Ef Tryz.prog A.dJ 10 where
 m:=A.mixed
 e:=A.Gl
 t:=fun f mf hf=>⟨hf,fun fn Bx=>by
  have h:=me.1 A.names fn (Array.mem_toList_iff.2 (Array.mem_of_getElem? Bx))
  simpa using h⟩
 g:=A.globals
end Go.Mx
