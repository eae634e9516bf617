/-The known runs-/
import Derived.Test.YtalhlaaapkpkiaaGreatDoorMxGr3
import Derived.Test.YtalhlaaapkpkiaaGreatDoorChecked
set_option linter.all false
namespace Go.Mx
open Go Go.Proofs
set_option maxRecDepth 1000000
noncomputable def A.tbl:Nat→Option Zei:=Zlu Tryz.prog
abbrev A.p(L:List Zmg)(E:List Ent):Prop:=Yi6 A.TB 10 A.tbl L E=true
abbrev A.e(L:List Zmg)(E:List Ent):Prop:=Ydg A.TB 10 A.tbl L E=true
abbrev AiV(n:Int):V:=.int .i64 n
abbrev AfV:V:=.bool false
abbrev AgV:V:=.bool true
abbrev AnV:V:=.nilslice
def A.L:List Zmg:=[]
def A.E:List Ent:=[]
def A.L0:=⟨216,[.str [48,49,50,51,52,53,54,55,56,57]],(.tup [.agg [AfV,AfV,AfV,AfV,AfV,AfV,AfV,AfV,AfV,AfV,AfV,AfV,AfV,AfV,AfV,AfV,AfV,AfV,AfV,AfV,AfV,AfV,AfV,AfV,AfV,AfV,AfV,AfV,AfV,AfV,AfV,AfV,AfV,AfV,AfV,AfV,AfV,AfV,AfV,AfV,AfV,AfV,AfV,AfV,AfV,AfV,AfV,AfV,AgV,AgV,AgV,AgV,AgV,AgV,AgV,AgV,AgV,AgV,AfV,AfV,AfV,AfV,AfV,AfV,AfV,AfV,AfV,AfV,AfV,AfV,AfV,AfV,AfV,AfV,AfV,AfV,AfV,AfV,AfV,AfV,AfV,AfV,AfV,AfV,AfV,AfV,AfV,AfV,AfV,AfV,AfV,AfV,AfV,AfV,AfV,AfV,AfV,AfV,AfV,AfV,AfV,AfV,AfV,AfV,AfV,AfV,AfV,AfV,AfV,AfV,AfV,AfV,AfV,AfV,AfV,AfV,AfV,AfV,AfV,AfV,AfV,AfV,AfV,AfV,AfV,AfV,AfV,AfV,AfV,AfV,AfV,AfV,AfV,AfV,AfV,AfV,AfV,AfV,AfV,AfV,AfV,AfV,AfV,AfV,AfV,AfV,AfV,AfV,AfV,AfV,AfV,AfV,AfV,AfV,AfV,AfV,AfV,AfV,AfV,AfV,AfV,AfV,AfV,AfV,AfV,AfV,AfV,AfV,AfV,AfV,AfV,AfV,AfV,AfV,AfV,AfV,AfV,AfV,AfV,AfV,AfV,AfV,AfV,AfV,AfV,AfV,AfV,AfV,AfV,AfV,AfV,AfV,AfV,AfV,AfV,AfV,AfV,AfV,AfV,AfV,AfV,AfV,AfV,AfV,AfV,AfV,AfV,AfV,AfV,AfV,AfV,AfV,AfV,AfV,AfV,AfV,AfV,AfV,AfV,AfV,AfV,AfV,AfV,AfV,AfV,AfV,AfV,AfV,AfV,AfV,AfV,AfV,AfV,AfV,AfV,AfV,AfV,AfV,AfV,AfV,AfV,AfV,AfV,AfV,AfV,AfV,AfV,AfV,AfV,AfV,AfV,AfV,AfV,AfV,AfV,AfV],AgV])⟩::A.L
def A.L1:=⟨184,[.str [49],.str [48,49,50,51,52,53,54,55,56,57]],.str []⟩::A.L0
def A.L2:=⟨136,[.str [49]],AgV⟩::A.L1
def A.L3:=⟨184,[.str [50],.str [48,49,50,51,52,53,54,55,56,57]],.str []⟩::A.L2
def A.L4:=⟨136,[.str [50]],AgV⟩::A.L3
def A.L5:=⟨225,[.int .u64 1,.int .u64 10],.tup [.int .u64 0,.int .u64 10]⟩::A.L4
def A.L6:=⟨191,[.agg [AiV 1,AnV],.agg [AiV 10,AnV]],.agg [AiV 10,AnV]⟩::A.L5
def A.L7:=⟨192,[.agg [AiV 10,AnV],AiV 1],.agg [AiV 10,AnV]⟩::A.L6
def A.L8:=⟨225,[.int .u64 0,.int .u64 10],.tup [.int .u64 0,.int .u64 0]⟩::A.L7
def A.L9:=⟨191,[.agg [AiV 0,AnV],.agg [AiV 10,AnV]],.agg [AiV 0,AnV]⟩::A.L8
def A.L10:=⟨140,[.str [49]],.agg [AiV 1,AnV]⟩::A.L9
def A.L11:=⟨140,[.str [50]],.agg [AiV 2,AnV]⟩::A.L10
def A.L12:=⟨79,[.str [49,47,50]],AiV 0⟩::A.L11
def A.L13:=⟨79,[.str [49]],AiV 0⟩::A.L12
def A.L14:=⟨79,[.str [52]],AiV 0⟩::A.L13
def A.L15:=⟨79,[.str [50]],AiV 0⟩::A.L14
def A.L16:=⟨140,[.str [52]],.agg [AiV 4,AnV]⟩::A.L15
def A.L17:=⟨84,[.str [52]],.agg [AiV 4,AnV,AiV 1,AnV]⟩::A.L16
def A.L18:=⟨84,[.str [49,47,50]],.agg [AiV 1,AnV,AiV 2,AnV]⟩::A.L17
def A.L19:=⟨84,[.str [49]],.agg [AiV 1,AnV,AiV 1,AnV]⟩::A.L18
def A.L20:=⟨84,[.str [50]],.agg [AiV 2,AnV,AiV 1,AnV]⟩::A.L19
def A.E0:=⟨41,[],[],[(.slice 12 0 3 (some 3) 5),(.slice 13 0 2 (some 2) 4)],[(12,.cells [.str [105,110],.str [102,114,97,109,101],.str [],AnV,AiV 2,.str [102,105,116],.str [115,99,97,108,101],.str [49,47,50],(.slice 10 0 1 (some 1) 1),AiV 3,.str [111,117,116],.str [115,117,109],.str [49],(.slice 11 0 1 (some 1) 1),AiV 1] 109 true),(10,.cells [.str [105,110]] 9 true),(11,.cells [.str [102,105,116]] 9 true),(13,.cells [AiV 1,AiV 0,AiV 10,.str [52],AiV 2,AiV 1,AiV 10,.str [50]] 56 true)]++A.TB,104,.tup [.slice 104 0 2 none 1,AiV 0],[(396,.cells [(.slice 105 0 3 (some 3) 4),(.slice 106 0 3 (some 3) 4)] 107 true),(136,.cells [AiV 4,AnV,AiV 1,AnV,AiV 2,AnV,AiV 1,AnV,AiV 2,AnV,AiV 1,AnV] 175 true),(267,.cells [AiV 2,AnV,AiV 1,AnV,AiV 1,AnV,AiV 1,AnV,AiV 3,AnV,AiV 1,AnV] 175 true)],[]⟩::A.E
def A.E1:=⟨105,[],[],[.ptr 199 0],[(199,.cells [(.slice 12 0 3 (some 3) 5),.slice 220 0 3 none 1,.slice 190 0 3 none 1,(.slice 13 0 2 (some 2) 4),.slice 230 0 2 none 1,(.slice 196 0 2 (some 2) 1),(.slice 198 0 1 (some 1) 1),AnV,AnV] 135 true),(12,.cells [.str [105,110],.str [102,114,97,109,101],.str [],AnV,AiV 2,.str [102,105,116],.str [115,99,97,108,101],.str [49,47,50],(.slice 10 0 1 (some 1) 1),AiV 3,.str [111,117,116],.str [115,117,109],.str [49],(.slice 11 0 1 (some 1) 1),AiV 1] 109 true),(10,.cells [.str [105,110]] 9 true),(11,.cells [.str [102,105,116]] 9 true),(220,.cells [AnV,.slice 209 0 1 none 1,.slice 218 0 1 none 1] 54 true),(209,.cells [AiV 0] 3 true),(218,.cells [AiV 1] 3 true),(190,.cells [AiV 6,AiV 4,AiV 1] 3 true),(13,.cells [AiV 1,AiV 0,AiV 10,.str [52],AiV 2,AiV 1,AiV 10,.str [50]] 56 true),(230,.cells [(.slice 223 0 3 (some 3) 2),(.slice 228 0 3 (some 3) 2)] 201 true),(223,.cells [AfV,AfV,AfV,AfV,AfV,AfV] 203 true),(228,.cells [AfV,AfV,AfV,AfV,AfV,AfV] 203 true),(196,.cells [AfV,AfV] 4 true),(198,.cells [AiV (-1)] 3 true)]++A.TB,231,.tup [],[(245,.cells [AiV 0,AiV 0,AiV 0,AiV 0,AiV 0] 70 true),(324,.cells [AiV 1,AiV 0,AiV 0,AiV 0,AiV 2,AiV 1,AiV 1,AiV 0,AiV 2,AiV 5,AiV 1,AiV 2,AiV 0,AiV 5,AiV 6] 70 true)],[(196,.cells [AfV,AgV] 4 true),(223,.cells [AgV,AgV,AgV,AgV,AgV,AgV] 203 true),(198,.cells [AiV (-1)] 3 true),(199,.cells [(.slice 12 0 3 (some 3) 5),.slice 220 0 3 none 1,.slice 190 0 3 none 1,(.slice 13 0 2 (some 2) 4),.slice 230 0 2 none 1,(.slice 196 0 2 (some 2) 1),(.slice 198 0 1 (some 1) 1),.slice 231 0 0 none 5,.slice 232 0 3 none 5] 135 true)]⟩::A.E0
def A.E2:=⟨59,[],[],[(.slice 12 0 3 (some 3) 5),(.slice 13 0 2 (some 2) 4),AiV 1],[(12,.cells [.str [105,110],.str [102,114,97,109,101],.str [],AnV,AiV 2,.str [102,105,116],.str [115,99,97,108,101],.str [49,47,50],(.slice 10 0 1 (some 1) 1),AiV 3,.str [111,117,116],.str [115,117,109],.str [49],(.slice 11 0 1 (some 1) 1),AiV 1] 109 true),(10,.cells [.str [105,110]] 9 true),(11,.cells [.str [102,105,116]] 9 true),(13,.cells [AiV 1,AiV 0,AiV 10,.str [52],AiV 2,AiV 1,AiV 10,.str [50]] 56 true)]++A.TB,138,.tup [.ptr 138 0,AiV 0],[(199,.cells [(.slice 12 0 3 (some 3) 5),.slice 139 0 3 none 1,.slice 142 0 3 none 1,(.slice 13 0 2 (some 2) 4),.slice 143 0 2 none 1,(.slice 146 0 2 (some 2) 1),(.slice 147 0 1 (some 1) 1),.slice 148 0 0 none 5,.slice 149 0 3 none 5] 135 true),(220,.cells [AnV,.slice 140 0 1 none 1,.slice 141 0 1 none 1] 54 true),(209,.cells [AiV 0] 3 true),(218,.cells [AiV 1] 3 true),(190,.cells [AiV 6,AiV 4,AiV 1] 3 true),(230,.cells [(.slice 144 0 3 (some 3) 2),(.slice 145 0 3 (some 3) 2)] 201 true),(223,.cells [AgV,AgV,AgV,AgV,AgV,AgV] 203 true),(228,.cells [AfV,AfV,AfV,AfV,AfV,AfV] 203 true),(196,.cells [AfV,AgV] 4 true),(198,.cells [AiV (-1)] 3 true),(231,.cells [AiV 0,AiV 0,AiV 0,AiV 0,AiV 0] 70 true),(232,.cells [AiV 1,AiV 0,AiV 0,AiV 0,AiV 2,AiV 1,AiV 1,AiV 0,AiV 2,AiV 5,AiV 1,AiV 2,AiV 0,AiV 5,AiV 6] 70 true)],[]⟩::A.E1
def A.E3:=⟨105,[],[],[.ptr 222 0],[(222,.cells [(.slice 12 0 3 (some 3) 5),.slice 243 0 3 none 1,.slice 213 0 3 none 1,(.slice 13 0 2 (some 2) 4),.slice 253 0 2 none 1,(.slice 219 0 2 (some 2) 1),(.slice 221 0 2 (some 2) 1),AnV,AnV] 135 true),(12,.cells [.str [105,110],.str [102,114,97,109,101],.str [],AnV,AiV 2,.str [102,105,116],.str [115,99,97,108,101],.str [49,47,50],(.slice 10 0 1 (some 1) 1),AiV 3,.str [111,117,116],.str [115,117,109],.str [49],(.slice 11 0 1 (some 1) 1),AiV 1] 109 true),(10,.cells [.str [105,110]] 9 true),(11,.cells [.str [102,105,116]] 9 true),(243,.cells [AnV,.slice 232 0 1 none 1,.slice 241 0 1 none 1] 54 true),(232,.cells [AiV 0] 3 true),(241,.cells [AiV 1] 3 true),(213,.cells [AiV 6,AiV 4,AiV 1] 3 true),(13,.cells [AiV 1,AiV 0,AiV 10,.str [52],AiV 2,AiV 1,AiV 10,.str [50]] 56 true),(253,.cells [(.slice 246 0 3 (some 3) 2),(.slice 251 0 3 (some 3) 2)] 201 true),(246,.cells [AfV,AfV,AfV,AfV,AfV,AfV] 203 true),(251,.cells [AfV,AfV,AfV,AfV,AfV,AfV] 203 true),(219,.cells [AfV,AfV] 4 true),(221,.cells [AiV (-1),AiV (-1)] 3 true)]++A.TB,254,.tup [],[(297,.cells [AiV 0,AiV 0,AiV 0,AiV 0,AiV 0,AiV 0,AiV 0,AiV 0,AiV 0,AiV 0] 70 true),(419,.cells [AiV 1,AiV 0,AiV 0,AiV 0,AiV 2,AiV 2,AiV 0,AiV 1,AiV 1,AiV 3,AiV 1,AiV 1,AiV 0,AiV 2,AiV 5,AiV 2,AiV 1,AiV 1,AiV 3,AiV 6,AiV 1,AiV 2,AiV 0,AiV 5,AiV 6,AiV 2,AiV 2,AiV 0,AiV 6,AiV 7] 70 true)],[(251,.cells [AgV,AgV,AgV,AgV,AgV,AgV] 203 true),(246,.cells [AgV,AgV,AgV,AgV,AgV,AgV] 203 true),(221,.cells [AiV (-1),AiV (-1)] 3 true),(222,.cells [(.slice 12 0 3 (some 3) 5),.slice 243 0 3 none 1,.slice 213 0 3 none 1,(.slice 13 0 2 (some 2) 4),.slice 253 0 2 none 1,(.slice 219 0 2 (some 2) 1),(.slice 221 0 2 (some 2) 1),.slice 254 0 0 none 5,.slice 255 0 6 none 5] 135 true)]⟩::A.E2
def A.E4:=⟨59,[],[],[(.slice 12 0 3 (some 3) 5),(.slice 13 0 2 (some 2) 4),AiV 2],[(12,.cells [.str [105,110],.str [102,114,97,109,101],.str [],AnV,AiV 2,.str [102,105,116],.str [115,99,97,108,101],.str [49,47,50],(.slice 10 0 1 (some 1) 1),AiV 3,.str [111,117,116],.str [115,117,109],.str [49],(.slice 11 0 1 (some 1) 1),AiV 1] 109 true),(10,.cells [.str [105,110]] 9 true),(11,.cells [.str [102,105,116]] 9 true),(13,.cells [AiV 1,AiV 0,AiV 10,.str [52],AiV 2,AiV 1,AiV 10,.str [50]] 56 true)]++A.TB,161,.tup [.ptr 161 0,AiV 0],[(222,.cells [(.slice 12 0 3 (some 3) 5),.slice 162 0 3 none 1,.slice 165 0 3 none 1,(.slice 13 0 2 (some 2) 4),.slice 166 0 2 none 1,(.slice 169 0 2 (some 2) 1),(.slice 170 0 2 (some 2) 1),.slice 171 0 0 none 5,.slice 172 0 6 none 5] 135 true),(243,.cells [AnV,.slice 163 0 1 none 1,.slice 164 0 1 none 1] 54 true),(232,.cells [AiV 0] 3 true),(241,.cells [AiV 1] 3 true),(213,.cells [AiV 6,AiV 4,AiV 1] 3 true),(253,.cells [(.slice 167 0 3 (some 3) 2),(.slice 168 0 3 (some 3) 2)] 201 true),(246,.cells [AgV,AgV,AgV,AgV,AgV,AgV] 203 true),(251,.cells [AgV,AgV,AgV,AgV,AgV,AgV] 203 true),(219,.cells [AfV,AfV] 4 true),(221,.cells [AiV (-1),AiV (-1)] 3 true),(254,.cells [AiV 0,AiV 0,AiV 0,AiV 0,AiV 0,AiV 0,AiV 0,AiV 0,AiV 0,AiV 0] 70 true),(255,.cells [AiV 1,AiV 0,AiV 0,AiV 0,AiV 2,AiV 2,AiV 0,AiV 1,AiV 1,AiV 3,AiV 1,AiV 1,AiV 0,AiV 2,AiV 5,AiV 2,AiV 1,AiV 1,AiV 3,AiV 6,AiV 1,AiV 2,AiV 0,AiV 5,AiV 6,AiV 2,AiV 2,AiV 0,AiV 6,AiV 7] 70 true)],[]⟩::A.E3
def A.E5:=⟨105,[],[],[.ptr 246 0],[(246,.cells [(.slice 12 0 3 (some 3) 5),.slice 267 0 3 none 1,.slice 237 0 3 none 1,(.slice 13 0 2 (some 2) 4),.slice 277 0 2 none 1,(.slice 243 0 2 (some 2) 1),(.slice 245 0 2 (some 2) 1),AnV,AnV] 135 true),(12,.cells [.str [105,110],.str [102,114,97,109,101],.str [],AnV,AiV 2,.str [102,105,116],.str [115,99,97,108,101],.str [49,47,50],(.slice 10 0 1 (some 1) 1),AiV 3,.str [111,117,116],.str [115,117,109],.str [49],(.slice 11 0 1 (some 1) 1),AiV 1] 109 true),(10,.cells [.str [105,110]] 9 true),(11,.cells [.str [102,105,116]] 9 true),(267,.cells [AnV,.slice 256 0 1 none 1,.slice 265 0 1 none 1] 54 true),(256,.cells [AiV 0] 3 true),(265,.cells [AiV 1] 3 true),(237,.cells [AiV 6,AiV 4,AiV 1] 3 true),(13,.cells [AiV 1,AiV 0,AiV 10,.str [52],AiV 2,AiV 1,AiV 10,.str [50]] 56 true),(277,.cells [(.slice 270 0 3 (some 3) 2),(.slice 275 0 3 (some 3) 2)] 201 true),(270,.cells [AfV,AfV,AfV,AfV,AfV,AfV] 203 true),(275,.cells [AfV,AfV,AfV,AfV,AfV,AfV] 203 true),(243,.cells [AfV,AfV] 4 true),(245,.cells [AiV (-1),AiV (-1)] 3 true)]++A.TB,278,.tup [],[(321,.cells [AiV 0,AiV 0,AiV 0,AiV 0,AiV 0,AiV 0,AiV 0,AiV 0,AiV 0,AiV 0] 70 true),(443,.cells [AiV 1,AiV 0,AiV 0,AiV 0,AiV 2,AiV 2,AiV 0,AiV 1,AiV 1,AiV 3,AiV 1,AiV 1,AiV 0,AiV 2,AiV 5,AiV 2,AiV 1,AiV 1,AiV 3,AiV 6,AiV 1,AiV 2,AiV 0,AiV 5,AiV 6,AiV 2,AiV 2,AiV 0,AiV 6,AiV 7] 70 true)],[(275,.cells [AgV,AgV,AgV,AgV,AgV,AgV] 203 true),(270,.cells [AgV,AgV,AgV,AgV,AgV,AgV] 203 true),(245,.cells [AiV (-1),AiV (-1)] 3 true),(246,.cells [(.slice 12 0 3 (some 3) 5),.slice 267 0 3 none 1,.slice 237 0 3 none 1,(.slice 13 0 2 (some 2) 4),.slice 277 0 2 none 1,(.slice 243 0 2 (some 2) 1),(.slice 245 0 2 (some 2) 1),.slice 278 0 0 none 5,.slice 279 0 6 none 5] 135 true)]⟩::A.E4
def A.E6:=⟨59,[],[],[(.slice 12 0 3 (some 3) 5),(.slice 13 0 2 (some 2) 4),AiV 2],[(12,.cells [.str [105,110],.str [102,114,97,109,101],.str [],AnV,AiV 2,.str [102,105,116],.str [115,99,97,108,101],.str [49,47,50],(.slice 10 0 1 (some 1) 1),AiV 3,.str [111,117,116],.str [115,117,109],.str [49],(.slice 11 0 1 (some 1) 1),AiV 1] 109 true),(10,.cells [.str [105,110]] 9 true),(11,.cells [.str [102,105,116]] 9 true),(13,.cells [AiV 1,AiV 0,AiV 10,.str [52],AiV 2,AiV 1,AiV 10,.str [50]] 56 true)]++A.TB,185,.tup [.ptr 185 0,AiV 0],[(246,.cells [(.slice 12 0 3 (some 3) 5),.slice 186 0 3 none 1,.slice 189 0 3 none 1,(.slice 13 0 2 (some 2) 4),.slice 190 0 2 none 1,(.slice 193 0 2 (some 2) 1),(.slice 194 0 2 (some 2) 1),.slice 195 0 0 none 5,.slice 196 0 6 none 5] 135 true),(267,.cells [AnV,.slice 187 0 1 none 1,.slice 188 0 1 none 1] 54 true),(256,.cells [AiV 0] 3 true),(265,.cells [AiV 1] 3 true),(237,.cells [AiV 6,AiV 4,AiV 1] 3 true),(277,.cells [(.slice 191 0 3 (some 3) 2),(.slice 192 0 3 (some 3) 2)] 201 true),(270,.cells [AgV,AgV,AgV,AgV,AgV,AgV] 203 true),(275,.cells [AgV,AgV,AgV,AgV,AgV,AgV] 203 true),(243,.cells [AfV,AfV] 4 true),(245,.cells [AiV (-1),AiV (-1)] 3 true),(278,.cells [AiV 0,AiV 0,AiV 0,AiV 0,AiV 0,AiV 0,AiV 0,AiV 0,AiV 0,AiV 0] 70 true),(279,.cells [AiV 1,AiV 0,AiV 0,AiV 0,AiV 2,AiV 2,AiV 0,AiV 1,AiV 1,AiV 3,AiV 1,AiV 1,AiV 0,AiV 2,AiV 5,AiV 2,AiV 1,AiV 1,AiV 3,AiV 6,AiV 1,AiV 2,AiV 0,AiV 5,AiV 6,AiV 2,AiV 2,AiV 0,AiV 6,AiV 7] 70 true)],[]⟩::A.E5
def A.E7:=⟨41,[],[],[(.slice 12 0 3 (some 3) 5),.slice 206 0 2 none 4],[(12,.cells [.str [105,110],.str [102,114,97,109,101],.str [],AnV,AiV 2,.str [102,105,116],.str [115,99,97,108,101],.str [49,47,50],(.slice 10 0 1 (some 1) 1),AiV 3,.str [111,117,116],.str [115,117,109],.str [49],(.slice 11 0 1 (some 1) 1),AiV 1] 109 true),(10,.cells [.str [105,110]] 9 true),(11,.cells [.str [102,105,116]] 9 true),(206,.cells [AiV 1,AiV 0,AiV 10,.str [52],AiV 2,AiV 1,AiV 10,.str [50]] 56 true)]++A.TB,207,.tup [.slice 207 0 2 none 1,AiV 0],[(499,.cells [(.slice 208 0 3 (some 3) 4),(.slice 209 0 3 (some 3) 4)] 107 true),(239,.cells [AiV 4,AnV,AiV 1,AnV,AiV 2,AnV,AiV 1,AnV,AiV 2,AnV,AiV 1,AnV] 175 true),(370,.cells [AiV 2,AnV,AiV 1,AnV,AiV 1,AnV,AiV 1,AnV,AiV 3,AnV,AiV 1,AnV] 175 true)],[]⟩::A.E6
def A.E8:=⟨41,[],[],[(.slice 12 0 3 (some 3) 5),.slice 332 0 2 none 4],[(12,.cells [.str [105,110],.str [102,114,97,109,101],.str [],AnV,AiV 2,.str [102,105,116],.str [115,99,97,108,101],.str [49,47,50],(.slice 10 0 1 (some 1) 1),AiV 3,.str [111,117,116],.str [115,117,109],.str [49],(.slice 11 0 1 (some 1) 1),AiV 1] 109 true),(10,.cells [.str [105,110]] 9 true),(11,.cells [.str [102,105,116]] 9 true),(332,.cells [AiV 1,AiV 0,AiV 10,.str [52],AiV 2,AiV 1,AiV 10,.str [50]] 56 true)]++A.TB,333,.tup [.slice 333 0 2 none 1,AiV 0],[(625,.cells [(.slice 334 0 3 (some 3) 4),(.slice 335 0 3 (some 3) 4)] 107 true),(365,.cells [AiV 4,AnV,AiV 1,AnV,AiV 2,AnV,AiV 1,AnV,AiV 2,AnV,AiV 1,AnV] 175 true),(496,.cells [AiV 2,AnV,AiV 1,AnV,AiV 1,AnV,AiV 1,AnV,AiV 3,AnV,AiV 1,AnV] 175 true)],[]⟩::A.E7
def A.E9:=⟨27,[],[],[(.slice 12 0 3 (some 3) 5),(.slice 13 0 2 (some 2) 4),.slice 253 0 2 none 3],[(12,.cells [.str [105,110],.str [102,114,97,109,101],.str [],AnV,AiV 2,.str [102,105,116],.str [115,99,97,108,101],.str [49,47,50],(.slice 10 0 1 (some 1) 1),AiV 3,.str [111,117,116],.str [115,117,109],.str [49],(.slice 11 0 1 (some 1) 1),AiV 1] 109 true),(10,.cells [.str [105,110]] 9 true),(11,.cells [.str [102,105,116]] 9 true),(13,.cells [AiV 1,AiV 0,AiV 10,.str [52],AiV 2,AiV 1,AiV 10,.str [50]] 56 true),(253,.cells [AiV 1,AiV 6,(.slice 217 0 3 (some 3) 1),AiV 2,AiV 7,(.slice 239 0 3 (some 3) 1)] 72 true),(217,.cells [.str [52],.str [50],.str [50]] 37 true),(239,.cells [.str [50],.str [49],.str [51]] 37 true)]++A.TB,258,.tup [AiV 0,AiV 0],[],[]⟩::A.E8
def A.L21:=⟨8,[],AgV⟩::A.L20
def A.mixed:Tryz.prog.follows .mixedOrders=true:=by kernel_rfl
def A.names:(Tryz.prog.funcs.toList.all fun fn=>!(fn.name== "runtime.NumGoroutine"))=true:=by kernel_rfl
def A.exts:((List.range Tryz.prog.funcs.size).all fun i=>match Tryz.prog.funcs[i]? with
  |some fn=>fn.body.isSome||(Zls fn.name).isNone||Yln i [263,264,271,273]
  |none=>true)=true:=by kernel_rfl
def A.globals:Tryz.prog.globals.size=10:=by kernel_rfl
def A.ext0(fn:Func)(e:Ext)(hf:Tryz.prog.funcs[263]?=some fn)(he:Zls fn.name=some e):(fn.name== "runtime.NumGoroutine")=false∧Extern.findNext fn=none∧Extern.find fn=some (Zix e):=by
 obtain rfl:fn=Tryz.f263:=(Ytz (Tryz.func263.symm.trans hf)).symm
 obtain rfl:e=.add64:=(Ytz ((show Zls Tryz.f263.name=some .add64 by kernel_rfl).symm.trans he)).symm
 exact⟨by kernel_rfl,by kernel_rfl,by kernel_rfl⟩
def A.ext1(fn:Func)(e:Ext)(hf:Tryz.prog.funcs[264]?=some fn)(he:Zls fn.name=some e):(fn.name== "runtime.NumGoroutine")=false∧Extern.findNext fn=none∧Extern.find fn=some (Zix e):=by
 obtain rfl:fn=Tryz.f264:=(Ytz (Tryz.func264.symm.trans hf)).symm
 obtain rfl:e=.sub64:=(Ytz ((show Zls Tryz.f264.name=some .sub64 by kernel_rfl).symm.trans he)).symm
 exact⟨by kernel_rfl,by kernel_rfl,by kernel_rfl⟩
def A.ext2(fn:Func)(e:Ext)(hf:Tryz.prog.funcs[271]?=some fn)(he:Zls fn.name=some e):(fn.name== "runtime.NumGoroutine")=false∧Extern.findNext fn=none∧Extern.find fn=some (Zix e):=by
 obtain rfl:fn=Tryz.f271:=(Ytz (Tryz.func271.symm.trans hf)).symm
 obtain rfl:e=.same:=(Ytz ((show Zls Tryz.f271.name=some .same by kernel_rfl).symm.trans he)).symm
 exact⟨by kernel_rfl,by kernel_rfl,by kernel_rfl⟩
def A.ext3(fn:Func)(e:Ext)(hf:Tryz.prog.funcs[273]?=some fn)(he:Zls fn.name=some e):(fn.name== "runtime.NumGoroutine")=false∧Extern.findNext fn=none∧Extern.find fn=some (Zix e):=by
 obtain rfl:fn=Tryz.f273:=(Ytz (Tryz.func273.symm.trans hf)).symm
 obtain rfl:e=.indexByteString:=(Ytz ((show Zls Tryz.f273.name=some .indexByteString by kernel_rfl).symm.trans he)).symm
 exact⟨by kernel_rfl,by kernel_rfl,by kernel_rfl⟩
def A.extsOk:Zem Tryz.prog:=by
 intro g fn e hf hb he
 have h:=Yt8.1 A.exts g (Yv7.2 (by
  rcases Nat.lt_or_ge g Tryz.prog.funcs.size with h|h
  ·exact h
  ·rw[Array.getElem?_eq_none h]at hf;cases hf))
 rw[hf]at h
 simp only[hb,he,Option.isNone_some,Bool.or_false,Bool.false_or]at h
 have hm:=Zjx.1 h
 simp only[Yt1,List.mem_nil_iff,or_false]at hm
 rcases hm with rfl|rfl|rfl|rfl
 ·exact A.ext0 fn e hf he
 ·exact A.ext1 fn e hf he
 ·exact A.ext2 fn e hf he
 ·exact A.ext3 fn e hf he
def A.progOk:Zln Tryz.prog A.tbl 10 where
 m:=A.mixed
 e:=A.extsOk
 t:=fun f mf hf=>⟨hf,fun fn hfn=>by
  have h:=Yt8.1 A.names fn (Array.mem_toList_iff.2 (Array.mem_of_getElem? hfn))
  simpa using h⟩
 g:=A.globals
end Go.Mx
