/-The known runs-/
import Derived.Test.YthekjfgljafnaaaGreatDoorMxDec
import Derived.Test.YthekjfgljafnaaaGreatDoorChecked
set_option linter.all false
namespace Go.Mx
open Go Go.Proofs
set_option maxRecDepth 1000000
noncomputable def A.tbl:Nat→Option Zev:=Zl9 Tryz.prog
abbrev A.p(L:List Zmr)(E:List Ent):Prop:=Ykj A.TB 10 A.tbl L E=true
abbrev A.e(L:List Zmr)(E:List Ent):Prop:=Yd9 A.TB 10 A.tbl L E=true
abbrev AiV(n:Int):V:=.int .i64 n
abbrev AfV:V:=.bool false
abbrev AgV:V:=.bool true
abbrev AnV:V:=.nilslice
def A.L:List Zmr:=[]
def A.E:List Ent:=[]
def A.L0:=⟨234,[.str [49],.str [45]],AfV⟩::A.L
def A.L1:=⟨233,[.str [49],.str [47]],AiV (-1)⟩::A.L0
def A.L2:=⟨211,[.str [49],.str [47]],(.tup [.str [49],.str [],AfV])⟩::A.L1
def A.L3:=⟨167,[.str [49],.str [47]],(.tup [.str [49],.str [],AfV])⟩::A.L2
def A.L4:=⟨251,[.str [48,49,50,51,52,53,54,55,56,57]],(.tup [.agg [AfV,AfV,AfV,AfV,AfV,AfV,AfV,AfV,AfV,AfV,AfV,AfV,AfV,AfV,AfV,AfV,AfV,AfV,AfV,AfV,AfV,AfV,AfV,AfV,AfV,AfV,AfV,AfV,AfV,AfV,AfV,AfV,AfV,AfV,AfV,AfV,AfV,AfV,AfV,AfV,AfV,AfV,AfV,AfV,AfV,AfV,AfV,AfV,AgV,AgV,AgV,AgV,AgV,AgV,AgV,AgV,AgV,AgV,AfV,AfV,AfV,AfV,AfV,AfV,AfV,AfV,AfV,AfV,AfV,AfV,AfV,AfV,AfV,AfV,AfV,AfV,AfV,AfV,AfV,AfV,AfV,AfV,AfV,AfV,AfV,AfV,AfV,AfV,AfV,AfV,AfV,AfV,AfV,AfV,AfV,AfV,AfV,AfV,AfV,AfV,AfV,AfV,AfV,AfV,AfV,AfV,AfV,AfV,AfV,AfV,AfV,AfV,AfV,AfV,AfV,AfV,AfV,AfV,AfV,AfV,AfV,AfV,AfV,AfV,AfV,AfV,AfV,AfV,AfV,AfV,AfV,AfV,AfV,AfV,AfV,AfV,AfV,AfV,AfV,AfV,AfV,AfV,AfV,AfV,AfV,AfV,AfV,AfV,AfV,AfV,AfV,AfV,AfV,AfV,AfV,AfV,AfV,AfV,AfV,AfV,AfV,AfV,AfV,AfV,AfV,AfV,AfV,AfV,AfV,AfV,AfV,AfV,AfV,AfV,AfV,AfV,AfV,AfV,AfV,AfV,AfV,AfV,AfV,AfV,AfV,AfV,AfV,AfV,AfV,AfV,AfV,AfV,AfV,AfV,AfV,AfV,AfV,AfV,AfV,AfV,AfV,AfV,AfV,AfV,AfV,AfV,AfV,AfV,AfV,AfV,AfV,AfV,AfV,AfV,AfV,AfV,AfV,AfV,AfV,AfV,AfV,AfV,AfV,AfV,AfV,AfV,AfV,AfV,AfV,AfV,AfV,AfV,AfV,AfV,AfV,AfV,AfV,AfV,AfV,AfV,AfV,AfV,AfV,AfV,AfV,AfV,AfV,AfV,AfV,AfV,AfV,AfV,AfV,AfV,AfV,AfV],AgV])⟩::A.L3
def A.L5:=⟨225,[.str [49],.str [48,49,50,51,52,53,54,55,56,57]],.str []⟩::A.L4
def A.L6:=⟨190,[.str [49]],AgV⟩::A.L5
def A.L7:=⟨127,[.str [49]],AiV 0⟩::A.L6
def A.L8:=⟨127,[.str [45,49]],AiV 0⟩::A.L7
def A.L9:=⟨211,[.str [48],.str [47]],(.tup [.str [48],.str [],AfV])⟩::A.L8
def A.L10:=⟨167,[.str [48],.str [47]],(.tup [.str [48],.str [],AfV])⟩::A.L9
def A.L11:=⟨225,[.str [48],.str [48,49,50,51,52,53,54,55,56,57]],.str []⟩::A.L10
def A.L12:=⟨190,[.str [48]],AgV⟩::A.L11
def A.L13:=⟨127,[.str [48]],AiV 0⟩::A.L12
def A.L14:=⟨236,[.str [49]],.tup [AiV 1,.niliface]⟩::A.L13
def A.L15:=⟨214,[.str [49]],.tup [AiV 1,.niliface]⟩::A.L14
def A.L16:=⟨208,[.int .u64 1,.int .u64 10],.tup [.int .u64 0,.int .u64 10]⟩::A.L15
def A.L17:=⟨166,[.agg [AiV 1,AnV],.agg [AiV 10,AnV]],.agg [AiV 10,AnV]⟩::A.L16
def A.L18:=⟨215,[.agg [AiV 10,AnV],AiV 1],.agg [AiV 10,AnV]⟩::A.L17
def A.L19:=⟨208,[.int .u64 0,.int .u64 10],.tup [.int .u64 0,.int .u64 0]⟩::A.L18
def A.L20:=⟨166,[.agg [AiV 0,AnV],.agg [AiV 10,AnV]],.agg [AiV 0,AnV]⟩::A.L19
def A.L21:=⟨164,[.agg [AiV 0,AnV],.agg [AiV 1,AnV]],.agg [AiV 1,AnV]⟩::A.L20
def A.L22:=⟨168,[.str [49]],.agg [AiV 1,AnV]⟩::A.L21
def A.L23:=⟨84,[.str [49]],.agg [AiV 1,AnV,AiV 1,AnV]⟩::A.L22
def A.L24:=⟨168,[.str [45,49]],(.agg [AiV (-1),AnV])⟩::A.L23
def A.L25:=⟨84,[.str [45,49]],(.agg [AiV (-1),AnV,AiV 1,AnV])⟩::A.L24
def A.L26:=⟨168,[.str [48]],.agg [AiV 0,AnV]⟩::A.L25
def A.L27:=⟨84,[.str [48]],.agg [AiV 0,AnV,AiV 1,AnV]⟩::A.L26
def A.L28:=⟨165,[.agg [AiV 1,AnV],.agg [AiV 1,AnV]],.agg [AiV 1,AnV,AiV 1,AnV]⟩::A.L27
def A.L29:=⟨208,[.int .u64 1,.int .u64 1],.tup [.int .u64 0,.int .u64 1]⟩::A.L28
def A.L30:=⟨166,[.agg [AiV 1,AnV],.agg [AiV 1,AnV]],.agg [AiV 1,AnV]⟩::A.L29
def A.L31:=⟨90,[.agg [AiV 1,AnV,AiV 1,AnV],.agg [AiV 1,AnV,AiV 1,AnV]],.agg [AiV 1,AnV,AiV 1,AnV]⟩::A.L30
def A.L32:=⟨122,[.agg [AiV 1,AnV,AiV 1,AnV],.agg [AiV 1,AnV,AiV 1,AnV]],.agg [AiV 1,AnV,AiV 1,AnV]⟩::A.L31
def A.L33:=⟨166,[(.agg [AiV (-1),AnV]),.agg [AiV 1,AnV]],(.agg [AiV (-1),AnV])⟩::A.L32
def A.L34:=⟨90,[(.agg [AiV (-1),AnV,AiV 1,AnV]),.agg [AiV 1,AnV,AiV 1,AnV]],(.agg [AiV (-1),AnV,AiV 1,AnV])⟩::A.L33
def A.L35:=⟨122,[(.agg [AiV (-1),AnV,AiV 1,AnV]),.agg [AiV 1,AnV,AiV 1,AnV]],(.agg [AiV (-1),AnV,AiV 1,AnV])⟩::A.L34
def A.L36:=⟨166,[.agg [AiV 0,AnV],.agg [AiV 1,AnV]],.agg [AiV 0,AnV]⟩::A.L35
def A.L37:=⟨90,[.agg [AiV 0,AnV,AiV 1,AnV],.agg [AiV 1,AnV,AiV 1,AnV]],.agg [AiV 0,AnV,AiV 1,AnV]⟩::A.L36
def A.L38:=⟨122,[.agg [AiV 0,AnV,AiV 1,AnV],.agg [AiV 1,AnV,AiV 1,AnV]],.agg [AiV 0,AnV,AiV 1,AnV]⟩::A.L37
def A.L39:=⟨90,[(.agg [AiV (-1),AnV,AiV 1,AnV]),.agg [AiV 0,AnV,AiV 1,AnV]],.agg [AiV 0,AnV,AiV 1,AnV]⟩::A.L38
def A.L40:=⟨162,[.agg [AiV 0,AnV,AiV 1,AnV]],AgV⟩::A.L39
def A.L41:=⟨166,[(.agg [AiV (-1),AnV]),(.agg [AiV (-1),AnV])],.agg [AiV 1,AnV]⟩::A.L40
def A.L42:=⟨90,[(.agg [AiV (-1),AnV,AiV 1,AnV]),(.agg [AiV (-1),AnV,AiV 1,AnV])],.agg [AiV 1,AnV,AiV 1,AnV]⟩::A.L41
def A.L43:=⟨216,[.agg [AiV 1,AnV]],AiV 1⟩::A.L42
def A.L44:=⟨169,[.agg [AiV 1,AnV]],AfV⟩::A.L43
def A.E0:=⟨7,[],[],[(.slice 12 0 2 (some 2) 1)],[(12,.cells [(.slice 10 0 3 (some 3) 1),(.slice 11 0 3 (some 3) 1)] 25 true),(10,.cells [.str [49],.str [45,49],.str [48]] 37 true),(11,.cells [.str [48],.str [49],.str [45,49]] 37 true)]++A.TB,136,.tup [.slice 136 0 1 none 1,AiV 0],[(329,.cells [(.slice 137 0 3 (some 3) 1)] 25 true),(315,.cells [.str [49],.str [49],.str [49]] 37 true)],[]⟩::A.E
def A.E1:=⟨8,[],[],[(.slice 12 0 2 (some 2) 1)],[(12,.cells [(.slice 10 0 3 (some 3) 1),(.slice 11 0 3 (some 3) 1)] 25 true),(10,.cells [.str [49],.str [45,49],.str [48]] 37 true),(11,.cells [.str [48],.str [49],.str [45,49]] 37 true)]++A.TB,138,.tup [.slice 138 0 2 none 1,AiV 0],[(309,.cells [(.slice 139 0 3 (some 3) 1),(.slice 140 0 3 (some 3) 1)] 25 true),(270,.cells [.str [49],.str [48],.str [45,49]] 37 true),(295,.cells [.str [48],.str [49],.str [45,49]] 37 true)],[]⟩::A.E0
def A.L45:=⟨225,[.str [51],.str [48,49,50,51,52,53,54,55,56,57]],.str []⟩::A.L44
def A.L46:=⟨190,[.str [51]],AgV⟩::A.L45
def A.L47:=⟨168,[.str [51]],.agg [AiV 3,AnV]⟩::A.L46
def A.L48:=⟨83,[.agg [AiV 0,AnV,AiV 1,AnV],.agg [AiV 1,AnV,AiV 1,AnV]],.agg [AiV 1,AnV,AiV 1,AnV]⟩::A.L47
def A.L49:=⟨83,[.agg [AiV 0,AnV,AiV 1,AnV],.agg [AiV 0,AnV,AiV 1,AnV]],.agg [AiV 0,AnV,AiV 1,AnV]⟩::A.L48
def A.L50:=⟨166,[.agg [AiV 1,AnV],.agg [AiV 3,AnV]],.agg [AiV 3,AnV]⟩::A.L49
def A.L51:=⟨227,[.agg [AiV 2,AnV],.agg [AiV 1,AnV]],(.tup [.agg [AiV 2,AnV],.agg [AiV 0,AnV]])⟩::A.L50
def A.L52:=⟨193,[.agg [AiV 1,AnV],.agg [AiV 2,AnV]],.agg [AiV 1,AnV]⟩::A.L51
def A.L53:=⟨227,[.agg [AiV 1,AnV],.agg [AiV 1,AnV]],(.tup [.agg [AiV 1,AnV],.agg [AiV 0,AnV]])⟩::A.L52
def A.L54:=⟨207,[.agg [AiV 1,AnV],.agg [AiV 1,AnV]],.agg [AiV 1,AnV]⟩::A.L53
def A.L55:=⟨207,[.agg [AiV 2,AnV],.agg [AiV 1,AnV]],.agg [AiV 2,AnV]⟩::A.L54
def A.L56:=⟨165,[.agg [AiV 1,AnV],.agg [AiV 2,AnV]],.agg [AiV 1,AnV,AiV 2,AnV]⟩::A.L55
def A.L57:=⟨187,[.agg [AiV 2,AnV,AiV 1,AnV]],.agg [AiV 1,AnV,AiV 2,AnV]⟩::A.L56
def A.L58:=⟨166,[.agg [AiV 2,AnV],.agg [AiV 1,AnV]],.agg [AiV 2,AnV]⟩::A.L57
def A.L59:=⟨208,[.int .u64 1,.int .u64 2],.tup [.int .u64 0,.int .u64 2]⟩::A.L58
def A.L60:=⟨166,[.agg [AiV 1,AnV],.agg [AiV 2,AnV]],.agg [AiV 2,AnV]⟩::A.L59
def A.L61:=⟨90,[.agg [AiV 2,AnV,AiV 1,AnV],.agg [AiV 1,AnV,AiV 2,AnV]],.agg [AiV 1,AnV,AiV 1,AnV]⟩::A.L60
def A.L62:=⟨122,[.agg [AiV 2,AnV,AiV 1,AnV],.agg [AiV 2,AnV,AiV 1,AnV]],.agg [AiV 1,AnV,AiV 1,AnV]⟩::A.L61
def A.L63:=⟨90,[.agg [AiV 1,AnV,AiV 1,AnV],.agg [AiV 1,AnV,AiV 2,AnV]],.agg [AiV 1,AnV,AiV 2,AnV]⟩::A.L62
def A.L64:=⟨122,[.agg [AiV 1,AnV,AiV 1,AnV],.agg [AiV 2,AnV,AiV 1,AnV]],.agg [AiV 1,AnV,AiV 2,AnV]⟩::A.L63
def A.L65:=⟨166,[.agg [AiV 3,AnV],.agg [AiV 1,AnV]],.agg [AiV 3,AnV]⟩::A.L64
def A.L66:=⟨227,[.agg [AiV 3,AnV],.agg [AiV 1,AnV]],(.tup [.agg [AiV 3,AnV],.agg [AiV 0,AnV]])⟩::A.L65
def A.L67:=⟨207,[.agg [AiV 3,AnV],.agg [AiV 1,AnV]],.agg [AiV 3,AnV]⟩::A.L66
def A.L68:=⟨193,[.agg [AiV 2,AnV],.agg [AiV 3,AnV]],.agg [AiV 1,AnV]⟩::A.L67
def A.L69:=⟨165,[.agg [AiV 2,AnV],.agg [AiV 3,AnV]],.agg [AiV 2,AnV,AiV 3,AnV]⟩::A.L68
def A.L70:=⟨165,[.agg [AiV 0,AnV],.agg [AiV 3,AnV]],.agg [AiV 0,AnV,AiV 1,AnV]⟩::A.L69
def A.E2:=⟨40,[],[],[.slice 567 0 2 none 1],[(567,.cells [.slice 560 0 3 none 4,.slice 565 0 3 none 4] 80 true),(560,.cells [AiV 2,AnV,AiV 1,AnV,AiV 1,AnV,AiV 1,AnV,AiV 3,AnV,AiV 1,AnV] 111 true),(565,.cells [AiV 1,AnV,AiV 1,AnV,AiV 2,AnV,AiV 1,AnV,AiV 0,AnV,AiV 1,AnV] 111 true)]++A.TB,568,(.tup [(.slice 568 0 2 (some 2) 1),.slice 571 0 2 none 1]),[(568,.cells [(.slice 569 0 3 (some 3) 4),.slice 570 0 3 none 4] 80 true),(916,.cells [AiV 1,AnV,AiV 1,AnV,AiV 0,AnV,AiV 1,AnV,AiV 2,AnV,AiV 1,AnV] 111 true),(912,.cells [AiV 0,AnV,AiV 1,AnV,AiV 1,AnV,AiV 1,AnV,AiV (-1),AnV,AiV 1,AnV] 111 true),(1155,.cells [AiV 0,AiV 1] 3 true)],[]⟩::A.E1
def A.E3:=⟨25,[],[],[(.slice 12 0 2 (some 2) 1),(.slice 141 0 3 (some 3) 1)],[(12,.cells [(.slice 10 0 3 (some 3) 1),(.slice 11 0 3 (some 3) 1)] 25 true),(10,.cells [.str [49],.str [45,49],.str [48]] 37 true),(11,.cells [.str [48],.str [49],.str [45,49]] 37 true),(141,.cells [.str [51],.str [48],.str [48]] 37 true)]++A.TB,142,(.tup [(.slice 142 0 3 (some 3) 1),(.slice 143 0 3 (some 3) 1),AiV 0]),[(753,.cells [.str [50],.str [45,49],.str [45,49]] 37 true),(804,.cells [.str [49],.str [49],.str [49]] 37 true)],[]⟩::A.E2
def A.L71:=⟨165,[.agg [AiV 2,AnV],.agg [AiV 9,AnV]],.agg [AiV 2,AnV,AiV 9,AnV]⟩::A.L70
def A.L72:=⟨187,[.agg [AiV 9,AnV,AiV 2,AnV]],.agg [AiV 2,AnV,AiV 9,AnV]⟩::A.L71
def A.E4:=⟨120,[],[],[(.slice 695 0 4 (some 4) 4),(.func 121 [] [.ptr 876 0])],[(695,.cells [AiV 0,AnV,AiV 1,AnV,AiV 9,AnV,AiV 2,AnV,AiV (-3),AnV,AiV 2,AnV,AiV 3,AnV,AiV 2,AnV] 111 true),(876,.cells [AiV 9,AnV,AiV 2,AnV] 111 true)]++A.TB,877,.slice 877 0 4 none 4,[(1120,.cells [AiV 0,AnV,AiV 1,AnV,AiV 1,AnV,AiV 1,AnV,AiV (-1),AnV,AiV 3,AnV,AiV 1,AnV,AiV 3,AnV] 111 true)],[]⟩::A.E3
def A.E5:=⟨75,[],[],[.slice 690 0 4 none 4,.slice 877 0 4 none 4,(.func 123 [] [.ptr 878 0])],[(690,.cells [AiV 1,AnV,AiV 1,AnV,AiV 1,AnV,AiV 2,AnV,AiV 1,AnV,AiV 2,AnV,AiV 1,AnV,AiV 2,AnV] 111 true),(877,.cells [AiV 0,AnV,AiV 1,AnV,AiV 1,AnV,AiV 1,AnV,AiV (-1),AnV,AiV 3,AnV,AiV 1,AnV,AiV 3,AnV] 111 true),(878,.cells [AiV 1,AnV,AiV 2,AnV] 111 true)]++A.TB,881,(.slice 881 0 4 (some 4) 4),[(881,.cells [AiV 1,AnV,AiV 1,AnV,AiV 0,AnV,AiV 1,AnV,AiV 2,AnV,AiV 3,AnV,AiV 1,AnV,AiV 3,AnV] 111 true)],[]⟩::A.E4
def A.E6:=⟨71,[],[],[.slice 654 0 2 none 1,.slice 493 0 2 none 1],[(654,.cells [.slice 571 0 2 none 4,.slice 652 0 2 none 4] 80 true),(571,.cells [AiV 2,AnV,AiV 1,AnV,AiV 1,AnV,AiV 1,AnV] 111 true),(652,.cells [AiV 1,AnV,AiV 1,AnV,AiV 5,AnV,AiV 1,AnV] 111 true),(493,.cells [(.slice 474 0 2 (some 2) 4),(.slice 484 0 2 (some 2) 4)] 80 true),(474,.cells [AiV 1,AnV,AiV 1,AnV,AiV 1,AnV,AiV 1,AnV] 111 true),(484,.cells [AiV (-1),AnV,AiV 1,AnV,AiV 2,AnV,AiV 1,AnV] 111 true)]++A.TB,655,.tup [.slice 655 0 2 none 1,AgV],[(888,.cells [(.slice 656 8 2 (some 2) 4),.slice 657 8 2 none 4] 80 true),(881,.cells [AiV 1,AnV,AiV 1,AnV,AiV 0,AnV,AiV 1,AnV,AiV 2,AnV,AiV 3,AnV,AiV 1,AnV,AiV 3,AnV] 111 true),(877,.cells [AiV 0,AnV,AiV 1,AnV,AiV 1,AnV,AiV 1,AnV,AiV (-1),AnV,AiV 3,AnV,AiV 1,AnV,AiV 3,AnV] 111 true)],[]⟩::A.E5
def A.E7:=⟨106,[],[],[.slice 160 0 2 none 1,(.slice 161 0 2 (some 2) 4),(.slice 162 0 2 (some 2) 1)],[(160,.cells [(.slice 155 0 3 (some 3) 4),(.slice 158 0 3 (some 3) 4)] 80 true),(155,.cells [AiV 1,AnV,AiV 1,AnV,AiV (-1),AnV,AiV 1,AnV,AiV 0,AnV,AiV 1,AnV] 111 true),(158,.cells [AiV 0,AnV,AiV 1,AnV,AiV 1,AnV,AiV 1,AnV,AiV (-1),AnV,AiV 1,AnV] 111 true),(161,.cells [AiV 1,AnV,AiV 1,AnV,AiV 1,AnV,AiV 1,AnV] 111 true),(162,.cells [(.slice 210 0 3 (some 3) 4),.slice 206 0 3 none 4] 80 true),(210,.cells [AiV 1,AnV,AiV 1,AnV,AiV 0,AnV,AiV 1,AnV,AiV (-1),AnV,AiV 1,AnV] 111 true),(206,.cells [AiV 0,AnV,AiV 1,AnV,AiV 1,AnV,AiV 1,AnV,AiV (-1),AnV,AiV 1,AnV] 111 true)]++A.TB,275,.tup [.slice 275 0 2 none 1,AgV],[(655,.cells [(.slice 276 8 2 (some 2) 4),.slice 277 8 2 none 4] 80 true),(656,.cells [AiV 1,AnV,AiV 1,AnV,AiV 0,AnV,AiV 1,AnV,AiV 2,AnV,AiV 3,AnV,AiV 1,AnV,AiV 3,AnV] 111 true),(657,.cells [AiV 0,AnV,AiV 1,AnV,AiV 1,AnV,AiV 1,AnV,AiV (-1),AnV,AiV 3,AnV,AiV 1,AnV,AiV 3,AnV] 111 true)],[]⟩::A.E6
def A.L73:=⟨193,[.agg [AiV 1,AnV],.agg [AiV 3,AnV]],.agg [AiV 1,AnV]⟩::A.L72
def A.L74:=⟨165,[.agg [AiV 1,AnV],.agg [AiV 3,AnV]],.agg [AiV 1,AnV,AiV 3,AnV]⟩::A.L73
def A.L75:=⟨83,[.agg [AiV 0,AnV,AiV 1,AnV],.agg [AiV 1,AnV,AiV 3,AnV]],.agg [AiV 1,AnV,AiV 3,AnV]⟩::A.L74
def A.L76:=⟨90,[.agg [AiV 1,AnV,AiV 3,AnV],.agg [AiV 0,AnV,AiV 1,AnV]],.agg [AiV 0,AnV,AiV 1,AnV]⟩::A.L75
def A.L77:=⟨165,[(.agg [AiV (-1),AnV]),.agg [AiV 3,AnV]],(.agg [AiV (-1),AnV,AiV 3,AnV])⟩::A.L76
def A.L78:=⟨83,[.agg [AiV 0,AnV,AiV 1,AnV],(.agg [AiV (-1),AnV,AiV 3,AnV])],(.agg [AiV (-1),AnV,AiV 3,AnV])⟩::A.L77
def A.E8:=⟨97,[],[],[.slice 322 0 2 none 1,(.func 129 [.slice 302 0 2 none 4] [])],[(322,.cells [.slice 311 0 2 none 4,.slice 320 0 2 none 4] 80 true),(311,.cells [AiV 2,AnV,AiV 3,AnV,AiV (-1),AnV,AiV 3,AnV] 111 true),(320,.cells [AiV 1,AnV,AiV 3,AnV,AiV 1,AnV,AiV 3,AnV] 111 true),(302,.cells [AiV (-1),AnV,AiV 1,AnV,AiV (-1),AnV,AiV 1,AnV] 111 true)]++A.TB,422,.slice 422 0 2 none 4,[(693,.cells [AiV (-1),AnV,AiV 3,AnV,AiV (-2),AnV,AiV 3,AnV] 111 true)],[]⟩::A.E7
def A.E9:=⟨78,[],[],[.slice 160 0 2 none 1,(.slice 161 0 2 (some 2) 4)],[(160,.cells [(.slice 155 0 3 (some 3) 4),(.slice 158 0 3 (some 3) 4)] 80 true),(155,.cells [AiV 1,AnV,AiV 1,AnV,AiV (-1),AnV,AiV 1,AnV,AiV 0,AnV,AiV 1,AnV] 111 true),(158,.cells [AiV 0,AnV,AiV 1,AnV,AiV 1,AnV,AiV 1,AnV,AiV (-1),AnV,AiV 1,AnV] 111 true),(161,.cells [AiV 1,AnV,AiV 1,AnV,AiV 1,AnV,AiV 1,AnV] 111 true)]++A.TB,162,.slice 162 0 3 none 1,[(424,.cells [.slice 163 0 2 none 4,.slice 164 0 2 none 4,.slice 165 0 2 none 4] 80 true),(385,.cells [AiV 2,AnV,AiV 3,AnV,AiV 1,AnV,AiV 3,AnV] 111 true),(419,.cells [AiV (-1),AnV,AiV 3,AnV,AiV 1,AnV,AiV 3,AnV] 111 true),(422,.cells [AiV (-1),AnV,AiV 3,AnV,AiV (-2),AnV,AiV 3,AnV] 111 true)],[]⟩::A.E8
def A.E10:=⟨26,[],[],[(.slice 12 0 2 (some 2) 1),(.slice 13 0 2 (some 2) 1)],[(12,.cells [(.slice 10 0 3 (some 3) 1),(.slice 11 0 3 (some 3) 1)] 25 true),(10,.cells [.str [49],.str [45,49],.str [48]] 37 true),(11,.cells [.str [48],.str [49],.str [45,49]] 37 true),(13,.cells [.str [49],.str [49]] 37 true)]++A.TB,144,.tup [.slice 144 0 3 none 1,AiV 0],[(253,.cells [(.slice 145 0 2 (some 2) 1),(.slice 146 0 2 (some 2) 1),(.slice 147 0 2 (some 2) 1)] 25 true),(180,.cells [.str [50,47,51],.str [49,47,51]] 37 true),(207,.cells [.str [45,49,47,51],.str [49,47,51]] 37 true),(239,.cells [.str [45,49,47,51],.str [45,50,47,51]] 37 true)],[]⟩::A.E9
def A.L79:=⟨225,[.str [50],.str [48,49,50,51,52,53,54,55,56,57]],.str []⟩::A.L78
def A.L80:=⟨190,[.str [50]],AgV⟩::A.L79
def A.L81:=⟨168,[.str [50]],.agg [AiV 2,AnV]⟩::A.L80
def A.L82:=⟨127,[.str [49,47,51]],AiV 0⟩::A.L81
def A.L83:=⟨127,[.str [45,49,47,51]],AiV 0⟩::A.L82
def A.L84:=⟨84,[.str [49,47,51]],.agg [AiV 1,AnV,AiV 3,AnV]⟩::A.L83
def A.L85:=⟨84,[.str [45,49,47,51]],(.agg [AiV (-1),AnV,AiV 3,AnV])⟩::A.L84
def A.E11:=⟨11,[],[],[.slice 144 0 3 none 1,(.slice 148 0 2 (some 2) 1)],[(144,.cells [(.slice 145 0 2 (some 2) 1),(.slice 146 0 2 (some 2) 1),(.slice 147 0 2 (some 2) 1)] 25 true),(145,.cells [.str [50,47,51],.str [49,47,51]] 37 true),(146,.cells [.str [45,49,47,51],.str [49,47,51]] 37 true),(147,.cells [.str [45,49,47,51],.str [45,50,47,51]] 37 true),(148,.cells [.str [51],.str [48]] 37 true)]++A.TB,149,(.tup [(.slice 149 0 3 (some 3) 1),AiV 0]),[(443,.cells [.str [50],.str [45,49],.str [45,49]] 37 true)],[]⟩::A.E10
def A.L86:=⟨127,[.str [50]],AiV 0⟩::A.L85
def A.L87:=⟨84,[.str [50]],.agg [AiV 2,AnV,AiV 1,AnV]⟩::A.L86
def A.E12:=⟨120,[],[],[.slice 403 0 3 none 4,(.func 121 [] [.ptr 410 0])],[(403,.cells [AiV 8,AnV,AiV 1,AnV,AiV 4,AnV,AiV 1,AnV,AiV 2,AnV,AiV 1,AnV] 111 true),(410,.cells [AiV 8,AnV,AiV 1,AnV] 111 true)]++A.TB,411,.slice 411 0 3 none 4,[(709,.cells [AiV 1,AnV,AiV 1,AnV,AiV 1,AnV,AiV 2,AnV,AiV 1,AnV,AiV 4,AnV] 111 true)],[]⟩::A.E11
def A.E13:=⟨78,[],[],[.slice 192 0 2 none 1,(.slice 193 0 2 (some 2) 4)],[(192,.cells [(.slice 187 0 1 (some 1) 4),(.slice 190 0 1 (some 1) 4)] 80 true),(187,.cells [AiV 1,AnV,AiV 1,AnV] 111 true),(190,.cells [AiV 2,AnV,AiV 1,AnV] 111 true),(193,.cells [AiV 4,AnV,AiV 1,AnV,AiV 1,AnV,AiV 1,AnV] 111 true)]++A.TB,206,.slice 206 0 1 none 1,[(557,.cells [.slice 207 0 2 none 4] 80 true),(555,.cells [AiV 1,AnV,AiV 2,AnV,AiV 1,AnV,AiV 4,AnV] 111 true)],[]⟩::A.E12
def A.L88:=⟨168,[.str [53]],.agg [AiV 5,AnV]⟩::A.L87
def A.E14:=⟨71,[],[],[.slice 326 0 1 none 1,.slice 283 0 1 none 1],[(326,.cells [.slice 324 0 1 none 4] 80 true),(324,.cells [AiV 10,AnV,AiV 1,AnV] 111 true),(283,.cells [(.slice 274 0 2 (some 2) 4)] 80 true),(274,.cells [AiV 1,AnV,AiV 1,AnV,AiV 2,AnV,AiV 1,AnV] 111 true)]++A.TB,342,.tup [.slice 342 0 1 none 1,AgV],[(634,.cells [.slice 343 4 2 none 4] 80 true),(629,.cells [AiV 1,AnV,AiV 1,AnV,AiV 1,AnV,AiV 10,AnV,AiV 1,AnV,AiV 5,AnV] 111 true)],[]⟩::A.E13
def A.E15:=⟨28,[],[],[(.slice 160 0 2 (some 2) 1),(.slice 13 0 2 (some 2) 1),.str [53]],[(160,.cells [(.slice 158 0 1 (some 1) 1),(.slice 159 0 1 (some 1) 1)] 25 true),(158,.cells [.str [49]] 37 true),(159,.cells [.str [50]] 37 true),(13,.cells [.str [49],.str [49]] 37 true)]++A.TB,231,.tup [.slice 231 0 1 none 1,AiV 0],[(366,.cells [(.slice 232 0 2 (some 2) 1)] 25 true),(354,.cells [.str [49,47,49,48],.str [49,47,53]] 37 true)],[]⟩::A.E14
def A.E16:=⟨29,[],[],[(.slice 160 0 2 (some 2) 1),(.slice 13 0 2 (some 2) 1),(.slice 233 0 2 (some 2) 1),(.slice 234 0 1 (some 1) 1)],[(160,.cells [(.slice 158 0 1 (some 1) 1),(.slice 159 0 1 (some 1) 1)] 25 true),(158,.cells [.str [49]] 37 true),(159,.cells [.str [50]] 37 true),(13,.cells [.str [49],.str [49]] 37 true),(233,.cells [.str [53],.str [48]] 37 true),(234,.cells [.str [49]] 37 true)]++A.TB,235,(.tup [.str [50,48],AiV 0]),[],[]⟩::A.E15
def A.E17:=⟨89,[],[],[(.slice 313 0 2 (some 2) 4),(.slice 307 0 2 (some 2) 4)],[(313,.cells [AiV 1,AnV,AiV 5,AnV,AiV 2,AnV,AiV 5,AnV] 111 true),(307,.cells [AiV 1,AnV,AiV 5,AnV,AiV 2,AnV,AiV 5,AnV] 111 true)]++A.TB,403,.agg [AiV 1,AnV,AiV 5,AnV],[],[]⟩::A.E16
def A.E18:=⟨30,[],[],[(.slice 236 0 1 (some 1) 1),(.slice 13 0 2 (some 2) 1)],[(236,.cells [(.slice 235 0 2 (some 2) 1)] 25 true),(235,.cells [.str [49,47,53],.str [50,47,53]] 37 true),(13,.cells [.str [49],.str [49]] 37 true)]++A.TB,237,(.tup [(.slice 237 0 1 (some 1) 1),AiV 0]),[(410,.cells [.str [49,47,53]] 37 true)],[]⟩::A.E17
def A.L89:=⟨90,[.agg [AiV 4,AnV,AiV 1,AnV],.agg [AiV 1,AnV,AiV 2,AnV]],.agg [AiV 2,AnV,AiV 1,AnV]⟩::A.L88
def A.L90:=⟨122,[.agg [AiV 4,AnV,AiV 1,AnV],.agg [AiV 2,AnV,AiV 1,AnV]],.agg [AiV 2,AnV,AiV 1,AnV]⟩::A.L89
def A.E19:=⟨31,[],[],[(.slice 240 0 2 (some 2) 3),AiV 2,AiV 1],[(240,.cells [AiV 0,.str [50],(.slice 238 0 2 (some 2) 1),AiV 0,.str [45,49],(.slice 239 0 2 (some 2) 1)] 57 true),(238,.cells [.str [50],.str [52]] 37 true),(239,.cells [.str [45,51],.str [45,50]] 37 true)]++A.TB,241,.tup [.slice 241 0 2 none 1,AiV 0],[(459,.cells [(.slice 242 0 1 (some 1) 1),(.slice 243 0 1 (some 1) 1)] 25 true),(441,.cells [.str [50]] 37 true),(453,.cells [.str [50]] 37 true)],[]⟩::A.E18
def A.E20:=⟨32,[],[],[(.slice 240 0 2 (some 2) 3),AiV 2,AiV 1],[(240,.cells [AiV 0,.str [50],(.slice 238 0 2 (some 2) 1),AiV 0,.str [45,49],(.slice 239 0 2 (some 2) 1)] 57 true),(238,.cells [.str [50],.str [52]] 37 true),(239,.cells [.str [45,51],.str [45,50]] 37 true)]++A.TB,244,(.tup [(.slice 244 0 1 (some 1) 1),AiV 0]),[(577,.cells [.str [50]] 37 true)],[]⟩::A.E19
def A.E21:=⟨33,[],[],[(.slice 12 0 2 (some 2) 1),(.slice 13 0 2 (some 2) 1),(.slice 255 0 1 (some 1) 1)],[(12,.cells [(.slice 10 0 3 (some 3) 1),(.slice 11 0 3 (some 3) 1)] 25 true),(10,.cells [.str [49],.str [45,49],.str [48]] 37 true),(11,.cells [.str [48],.str [49],.str [45,49]] 37 true),(13,.cells [.str [49],.str [49]] 37 true),(255,.cells [(.slice 254 0 3 (some 3) 1)] 25 true),(254,.cells [.str [49],.str [48],.str [45,49]] 37 true)]++A.TB,256,.tup [.slice 256 0 1 none 1,AiV 0],[(478,.cells [(.slice 257 0 2 (some 2) 1)] 25 true),(466,.cells [.str [49,47,50],.str [49,47,50]] 37 true)],[]⟩::A.E20
def A.E22:=⟨106,[],[],[.slice 281 0 2 none 1,(.slice 282 0 2 (some 2) 4),.slice 285 0 1 none 1],[(281,.cells [(.slice 276 0 3 (some 3) 4),(.slice 279 0 3 (some 3) 4)] 80 true),(276,.cells [AiV 1,AnV,AiV 1,AnV,AiV (-1),AnV,AiV 1,AnV,AiV 0,AnV,AiV 1,AnV] 111 true),(279,.cells [AiV 0,AnV,AiV 1,AnV,AiV 1,AnV,AiV 1,AnV,AiV (-1),AnV,AiV 1,AnV] 111 true),(282,.cells [AiV 1,AnV,AiV 1,AnV,AiV 1,AnV,AiV 1,AnV] 111 true),(285,.cells [(.slice 283 0 3 (some 3) 4)] 80 true),(283,.cells [AiV 1,AnV,AiV 1,AnV,AiV 1,AnV,AiV 1,AnV,AiV 1,AnV,AiV 1,AnV] 111 true)]++A.TB,286,.tup [AnV,AfV],[],[]⟩::A.E21
def A.E23:=⟨34,[],[],[(.slice 288 0 2 (some 2) 1),(.slice 289 0 2 (some 2) 1)],[(288,.cells [(.slice 286 0 3 (some 3) 1),(.slice 287 0 3 (some 3) 1)] 25 true),(286,.cells [.str [49],.str [48],.str [45,49]] 37 true),(287,.cells [.str [48],.str [49],.str [45,49]] 37 true),(289,.cells [.str [50],.str [51]] 37 true)]++A.TB,290,(.tup [(.slice 290 0 3 (some 3) 1),AiV 0]),[(484,.cells [.str [50],.str [51],.str [45,53]] 37 true)],[]⟩::A.E22
def A.E24:=⟨18,[],[],[(.slice 12 0 2 (some 2) 1),.slice 136 0 1 none 1],[(12,.cells [(.slice 10 0 3 (some 3) 1),(.slice 11 0 3 (some 3) 1)] 25 true),(10,.cells [.str [49],.str [45,49],.str [48]] 37 true),(11,.cells [.str [48],.str [49],.str [45,49]] 37 true),(136,.cells [(.slice 137 0 3 (some 3) 1)] 25 true),(137,.cells [.str [49],.str [49],.str [49]] 37 true)]++A.TB,339,AiV 0,[],[]⟩::A.E23
def A.E25:=⟨120,[],[],[(.slice 899 0 4 (some 4) 4),(.func 121 [] [.ptr 1080 0])],[(899,.cells [AiV 0,AnV,AiV 1,AnV,AiV 9,AnV,AiV 2,AnV,AiV (-3),AnV,AiV 2,AnV,AiV 3,AnV,AiV 2,AnV] 111 true),(1080,.cells [AiV 9,AnV,AiV 2,AnV] 111 true)]++A.TB,1081,.slice 1081 0 4 none 4,[(1324,.cells [AiV 0,AnV,AiV 1,AnV,AiV 1,AnV,AiV 1,AnV,AiV (-1),AnV,AiV 3,AnV,AiV 1,AnV,AiV 3,AnV] 111 true)],[]⟩::A.E24
def A.E26:=⟨75,[],[],[.slice 894 0 4 none 4,.slice 1081 0 4 none 4,(.func 123 [] [.ptr 1082 0])],[(894,.cells [AiV 1,AnV,AiV 1,AnV,AiV 1,AnV,AiV 2,AnV,AiV 1,AnV,AiV 2,AnV,AiV 1,AnV,AiV 2,AnV] 111 true),(1081,.cells [AiV 0,AnV,AiV 1,AnV,AiV 1,AnV,AiV 1,AnV,AiV (-1),AnV,AiV 3,AnV,AiV 1,AnV,AiV 3,AnV] 111 true),(1082,.cells [AiV 1,AnV,AiV 2,AnV] 111 true)]++A.TB,1085,(.slice 1085 0 4 (some 4) 4),[(1085,.cells [AiV 1,AnV,AiV 1,AnV,AiV 0,AnV,AiV 1,AnV,AiV 2,AnV,AiV 3,AnV,AiV 1,AnV,AiV 3,AnV] 111 true)],[]⟩::A.E25
def A.E27:=⟨71,[],[],[.slice 858 0 2 none 1,.slice 697 0 2 none 1],[(858,.cells [.slice 775 0 2 none 4,.slice 856 0 2 none 4] 80 true),(775,.cells [AiV 2,AnV,AiV 1,AnV,AiV 1,AnV,AiV 1,AnV] 111 true),(856,.cells [AiV 1,AnV,AiV 1,AnV,AiV 5,AnV,AiV 1,AnV] 111 true),(697,.cells [(.slice 678 0 2 (some 2) 4),(.slice 688 0 2 (some 2) 4)] 80 true),(678,.cells [AiV 1,AnV,AiV 1,AnV,AiV 1,AnV,AiV 1,AnV] 111 true),(688,.cells [AiV (-1),AnV,AiV 1,AnV,AiV 2,AnV,AiV 1,AnV] 111 true)]++A.TB,859,.tup [.slice 859 0 2 none 1,AgV],[(1092,.cells [(.slice 860 8 2 (some 2) 4),.slice 861 8 2 none 4] 80 true),(1085,.cells [AiV 1,AnV,AiV 1,AnV,AiV 0,AnV,AiV 1,AnV,AiV 2,AnV,AiV 3,AnV,AiV 1,AnV,AiV 3,AnV] 111 true),(1081,.cells [AiV 0,AnV,AiV 1,AnV,AiV 1,AnV,AiV 1,AnV,AiV (-1),AnV,AiV 3,AnV,AiV 1,AnV,AiV 3,AnV] 111 true)],[]⟩::A.E26
def A.E28:=⟨106,[],[],[.slice 364 0 2 none 1,(.slice 365 0 2 (some 2) 4),(.slice 366 0 2 (some 2) 1)],[(364,.cells [(.slice 359 0 3 (some 3) 4),(.slice 362 0 3 (some 3) 4)] 80 true),(359,.cells [AiV 1,AnV,AiV 1,AnV,AiV (-1),AnV,AiV 1,AnV,AiV 0,AnV,AiV 1,AnV] 111 true),(362,.cells [AiV 0,AnV,AiV 1,AnV,AiV 1,AnV,AiV 1,AnV,AiV (-1),AnV,AiV 1,AnV] 111 true),(365,.cells [AiV 1,AnV,AiV 1,AnV,AiV 1,AnV,AiV 1,AnV] 111 true),(366,.cells [(.slice 414 0 3 (some 3) 4),.slice 410 0 3 none 4] 80 true),(414,.cells [AiV 1,AnV,AiV 1,AnV,AiV 0,AnV,AiV 1,AnV,AiV (-1),AnV,AiV 1,AnV] 111 true),(410,.cells [AiV 0,AnV,AiV 1,AnV,AiV 1,AnV,AiV 1,AnV,AiV (-1),AnV,AiV 1,AnV] 111 true)]++A.TB,479,.tup [.slice 479 0 2 none 1,AgV],[(859,.cells [(.slice 480 8 2 (some 2) 4),.slice 481 8 2 none 4] 80 true),(860,.cells [AiV 1,AnV,AiV 1,AnV,AiV 0,AnV,AiV 1,AnV,AiV 2,AnV,AiV 3,AnV,AiV 1,AnV,AiV 3,AnV] 111 true),(861,.cells [AiV 0,AnV,AiV 1,AnV,AiV 1,AnV,AiV 1,AnV,AiV (-1),AnV,AiV 3,AnV,AiV 1,AnV,AiV 3,AnV] 111 true)],[]⟩::A.E27
def A.E29:=⟨97,[],[],[.slice 526 0 2 none 1,(.func 129 [.slice 506 0 2 none 4] [])],[(526,.cells [.slice 515 0 2 none 4,.slice 524 0 2 none 4] 80 true),(515,.cells [AiV 2,AnV,AiV 3,AnV,AiV (-1),AnV,AiV 3,AnV] 111 true),(524,.cells [AiV 1,AnV,AiV 3,AnV,AiV 1,AnV,AiV 3,AnV] 111 true),(506,.cells [AiV (-1),AnV,AiV 1,AnV,AiV (-1),AnV,AiV 1,AnV] 111 true)]++A.TB,626,.slice 626 0 2 none 4,[(897,.cells [AiV (-1),AnV,AiV 3,AnV,AiV (-2),AnV,AiV 3,AnV] 111 true)],[]⟩::A.E28
def A.E30:=⟨78,[],[],[.slice 364 0 2 none 1,(.slice 365 0 2 (some 2) 4)],[(364,.cells [(.slice 359 0 3 (some 3) 4),(.slice 362 0 3 (some 3) 4)] 80 true),(359,.cells [AiV 1,AnV,AiV 1,AnV,AiV (-1),AnV,AiV 1,AnV,AiV 0,AnV,AiV 1,AnV] 111 true),(362,.cells [AiV 0,AnV,AiV 1,AnV,AiV 1,AnV,AiV 1,AnV,AiV (-1),AnV,AiV 1,AnV] 111 true),(365,.cells [AiV 1,AnV,AiV 1,AnV,AiV 1,AnV,AiV 1,AnV] 111 true)]++A.TB,366,.slice 366 0 3 none 1,[(628,.cells [.slice 367 0 2 none 4,.slice 368 0 2 none 4,.slice 369 0 2 none 4] 80 true),(589,.cells [AiV 2,AnV,AiV 3,AnV,AiV 1,AnV,AiV 3,AnV] 111 true),(623,.cells [AiV (-1),AnV,AiV 3,AnV,AiV 1,AnV,AiV 3,AnV] 111 true),(626,.cells [AiV (-1),AnV,AiV 3,AnV,AiV (-2),AnV,AiV 3,AnV] 111 true)],[]⟩::A.E29
def A.E31:=⟨38,[],[],[(.slice 12 0 2 (some 2) 1),(.slice 13 0 2 (some 2) 1),.slice 144 0 3 none 1],[(12,.cells [(.slice 10 0 3 (some 3) 1),(.slice 11 0 3 (some 3) 1)] 25 true),(10,.cells [.str [49],.str [45,49],.str [48]] 37 true),(11,.cells [.str [48],.str [49],.str [45,49]] 37 true),(13,.cells [.str [49],.str [49]] 37 true),(144,.cells [(.slice 145 0 2 (some 2) 1),(.slice 146 0 2 (some 2) 1),(.slice 147 0 2 (some 2) 1)] 25 true),(145,.cells [.str [50,47,51],.str [49,47,51]] 37 true),(146,.cells [.str [45,49,47,51],.str [49,47,51]] 37 true),(147,.cells [.str [45,49,47,51],.str [45,50,47,51]] 37 true)]++A.TB,339,AiV 0,[],[]⟩::A.E30
def A.L91:=⟨5,[],AgV⟩::A.L90
def A.mixed:Tryz.prog.follows .mixedOrders=true:=by kernel_rfl
def A.names:(Tryz.prog.funcs.toList.all fun fn=>!(fn.name== "runtime.NumGoroutine"))=true:=by kernel_rfl
def A.exts:((List.range Tryz.prog.funcs.size).all fun i=>match Tryz.prog.funcs[i]? with
  |some fn=>fn.body.isSome||(Zl7 fn.name).isNone||Ym8 i [230,232,272,277]
  |none=>true)=true:=by kernel_rfl
def A.globals:Tryz.prog.globals.size=10:=by kernel_rfl
def A.ext0(fn:Func)(e:Ext)(hf:Tryz.prog.funcs[230]?=some fn)(he:Zl7 fn.name=some e):(fn.name== "runtime.NumGoroutine")=false∧Extern.findNext fn=none∧Extern.find fn=some (Zjd e):=by
 obtain rfl:fn=Tryz.f230:=(Yxj (Tryz.func230.symm.trans hf)).symm
 obtain rfl:e=.add64:=(Yxj ((show Zl7 Tryz.f230.name=some .add64 by kernel_rfl).symm.trans he)).symm
 exact⟨by kernel_rfl,by kernel_rfl,by kernel_rfl⟩
def A.ext1(fn:Func)(e:Ext)(hf:Tryz.prog.funcs[232]?=some fn)(he:Zl7 fn.name=some e):(fn.name== "runtime.NumGoroutine")=false∧Extern.findNext fn=none∧Extern.find fn=some (Zjd e):=by
 obtain rfl:fn=Tryz.f232:=(Yxj (Tryz.func232.symm.trans hf)).symm
 obtain rfl:e=.sub64:=(Yxj ((show Zl7 Tryz.f232.name=some .sub64 by kernel_rfl).symm.trans he)).symm
 exact⟨by kernel_rfl,by kernel_rfl,by kernel_rfl⟩
def A.ext2(fn:Func)(e:Ext)(hf:Tryz.prog.funcs[272]?=some fn)(he:Zl7 fn.name=some e):(fn.name== "runtime.NumGoroutine")=false∧Extern.findNext fn=none∧Extern.find fn=some (Zjd e):=by
 obtain rfl:fn=Tryz.f272:=(Yxj (Tryz.func272.symm.trans hf)).symm
 obtain rfl:e=.same:=(Yxj ((show Zl7 Tryz.f272.name=some .same by kernel_rfl).symm.trans he)).symm
 exact⟨by kernel_rfl,by kernel_rfl,by kernel_rfl⟩
def A.ext3(fn:Func)(e:Ext)(hf:Tryz.prog.funcs[277]?=some fn)(he:Zl7 fn.name=some e):(fn.name== "runtime.NumGoroutine")=false∧Extern.findNext fn=none∧Extern.find fn=some (Zjd e):=by
 obtain rfl:fn=Tryz.f277:=(Yxj (Tryz.func277.symm.trans hf)).symm
 obtain rfl:e=.indexByteString:=(Yxj ((show Zl7 Tryz.f277.name=some .indexByteString by kernel_rfl).symm.trans he)).symm
 exact⟨by kernel_rfl,by kernel_rfl,by kernel_rfl⟩
def A.extsOk:Zez Tryz.prog:=by
 intro g fn e hf hb he
 have h:=Yw1.1 A.exts g (Yx1.2 (by
  rcases Nat.lt_or_ge g Tryz.prog.funcs.size with h|h
  ·exact h
  ·rw[Array.getElem?_eq_none h]at hf;cases hf))
 rw[hf]at h
 simp only[hb,he,Option.isNone_some,Bool.or_false,Bool.false_or]at h
 have hm:=Zkg.1 h
 simp only[Yxa,List.mem_nil_iff,or_false]at hm
 rcases hm with rfl|rfl|rfl|rfl
 ·exact A.ext0 fn e hf he
 ·exact A.ext1 fn e hf he
 ·exact A.ext2 fn e hf he
 ·exact A.ext3 fn e hf he
def A.progOk:Zl2 Tryz.prog A.tbl 10 where
 m:=A.mixed
 e:=A.extsOk
 t:=fun f mf hf=>⟨hf,fun fn hfn=>by
  have h:=Yw1.1 A.names fn (Array.mem_toList_iff.2 (Array.mem_of_getElem? hfn))
  simpa using h⟩
 g:=A.globals
end Go.Mx
