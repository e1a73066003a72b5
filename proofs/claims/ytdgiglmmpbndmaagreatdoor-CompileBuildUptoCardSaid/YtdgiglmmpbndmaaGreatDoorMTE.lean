import Derived.Test.YtdgiglmmpbndmaaGreatDoorMTG1
import Derived.Test.YtdgiglmmpbndmaaGreatDoorRows
import Derived.Test.YtdgiglmmpbndmaaGreatDoorMBn
set_option linter.all false
set_option maxRecDepth 100000
namespace Go.Proofs.YtdgiglmmpbndmaaGreatDoor
open Go Go.Av Go.Ev
set_option maxRecDepth 8000 in
def Ge:IN Tryz.prog 99 py:=⟨⟨Tryz.f99,_,_,_,_,_,_,_,_,_,_,_,Tryz.func99,by kernel_rfl,rfl,by kernel_rfl,by kernel_rfl,⟨⟨Tryz.f164,_,_,_,_,_,_,_,Tryz.func164,by kernel_rfl,by kernel_rfl,rfl,⟨#[],by kernel_rfl⟩,by kernel_rfl⟩⟩,by kernel_rfl,by kernel_rfl⟩,by kernel_rfl⟩
def ES:OkE Tryz.prog 265 (.nat uH):=V2 Tryz.strconv_Itoa
def zb4:List (Nat×gv):=[cZ 192 GO,cZ 171 Jv,cZ 114 Ee,cZ 193 q6,cZ 225 vp,cZ 226 GM,cZ 194 pw,cZ 284 DY,cZ 283 B5,cZ 212 LW,cZ 213 OP,cZ 175 Jn,cZ 133 Gr,cZ 258 Gq,cZ 259 DZ,cZ 227 ya,cZ 129 Ju,cZ 141 Aj,cZ 142 GL,cZ 144 vn,cZ 172 GJ,cZ 260 x7,cZ 274 D3,cZ 247 B6,cZ 285 Jr,cZ 261 GF,cZ 228 wF,cZ 62 Ec,cZ 195 px,cZ 229 Ed,cZ 130 GG,cZ 296 DX,cZ 295 Jo,cZ 286 Jp,cZ 262 Js,cZ 230 GH,cZ 244 qZ,cZ 299 qb,cZ 293 qX,cZ 273 qY]
def zcz:lD Tryz.prog zb4:=⟨bo,bo,bo,bo,bo,bo,bo,bo,bo,bo,bo,bo,bo,bo,bo,bo,bo,bo,bo,bo,bo,bo,bo,bo,bo,bo,bo,bo,bo,bo,bo,bo,bo,bo,bo,bo,bo,bo,bo,bo,trivial⟩
def zb5:List (Nat×gv):=[cZ 243 sn,cZ 206 sj,cZ 252 D5,cZ 245 Gu,cZ 207 Gs,cZ 246 Ai,cZ 248 D6,cZ 208 B7,cZ 170 Gt,cZ 231 Jx,cZ 131 x9,cZ 196 q8,cZ 162 q7,cZ 88 GK,cZ 35 BY,cZ 89 DV,cZ 197 B2,cZ 163 DU,cZ 91 vc,cZ 254 Jk,cZ 218 LN,cZ 183 LM,cZ 146 DW,cZ 95 Gm,cZ 94 sf,cZ 93 x5,cZ 92 vf,cZ 90 xZ,cZ 96 vg,cZ 199 su,cZ 300 xX,cZ 297 DR,cZ 287 qh,cZ 288 pA,cZ 263 q9,cZ 232 ra,cZ 198 np,cZ 165 kW,cZ 289 JA,cZ 264 JB]
def zcA:lD Tryz.prog zb5:=⟨bo,bo,bo,bo,bo,bo,bo,bo,bo,bo,bo,bo,bo,bo,bo,bo,bo,bo,bo,bo,bo,bo,bo,bo,bo,bo,bo,bo,bo,bo,bo,bo,bo,bo,bo,bo,bo,bo,bo,bo,trivial⟩
def zb6:List (Nat×gv):=[cZ 233 yb,cZ 200 GV,(265,.nat uH),cZ 234 BX,cZ 291 B9,cZ 266 Ca,cZ 235 GY,cZ 201 JC,cZ 166 GX,(99,.Yq py),cZ 98 sg,cZ 10093 tx,cZ 97 vh,cZ 10090 tu,cZ 100 vi,cZ 167 B3,cZ 103 qW,cZ 102 si,cZ 20093 tz,cZ 101 vj,cZ 20090 tv,cZ 104 vk,cZ 236 xY,cZ 202 vl,cZ 203 tq,cZ 168 wD,cZ 106 tt,cZ 105 tn,cZ 30090 tw,cZ 36 DT,cZ 37 Gp,cZ 267 p9,cZ 268 pq,cZ 237 qa,cZ 269 LU,cZ 238 pu,cZ 239 mC,cZ 270 rZ,cZ 292 BW,cZ 271 Jm]
def zcB:lD Tryz.prog zb6:=⟨bo,bo,ES,bo,bo,bo,bo,bo,bo,Ge,bo,bo,bo,bo,bo,bo,bo,bo,bo,bo,bo,bo,bo,bo,bo,bo,bo,bo,bo,bo,bo,bo,bo,bo,bo,bo,bo,bo,bo,bo,trivial⟩
def zb7:List (Nat×gv):=[cZ 272 DO,cZ 240 Gi,cZ 204 LO,cZ 127 LP,cZ 155 SE,cZ 242 Jl,cZ 177 LS,cZ 241 u9,cZ 205 OO,cZ 169 wy,cZ 107 DN,cZ 156 kV,cZ 188 Bi,cZ 157 LQ,cZ 158 jU,cZ 81 wC,cZ 38 Ag,cZ 39 wv,cZ 159 ni,cZ 82 wA,cZ 40 p7,cZ 108 p8,cZ 41 se,cZ 42 xW,cZ 76 mB,cZ 43 lK,cZ 109 lJ,cZ 110 jV,cZ 44 l6,cZ 45 DK,cZ 14 BO,cZ 128 BU,cZ 57 u5,cZ 58 DL,cZ 59 BR,cZ 18 BP,cZ 147 xT,cZ 68 Gg,cZ 179 LV,cZ 137 x6]
def zcC:lD Tryz.prog zb7:=⟨bo,bo,bo,bo,bo,bo,bo,bo,bo,bo,bo,bo,bo,bo,bo,bo,bo,bo,bo,bo,bo,bo,bo,bo,bo,bo,bo,bo,bo,bo,bo,bo,bo,bo,bo,bo,bo,bo,bo,bo,trivial⟩
def zb8:List (Nat×gv):=[cZ 214 B4,cZ 176 Gn,cZ 134 BZ,cZ 135 LR,cZ 178 xU,cZ 136 u4,cZ 63 BS,cZ 70 tj,cZ 69 u7,cZ 148 xS,cZ 149 Gh,cZ 221 nY,cZ 219 nZ,cZ 220 qT,cZ 184 BN,cZ 185 Ae,cZ 150 DG,cZ 71 LL,cZ 24 DI,cZ 79 qU,cZ 10069 qV,cZ 29 xV,cZ 75 pp,cZ 77 u6,cZ 27 Af,cZ 80 nj,cZ 31 DJ,cZ 22 BQ,cZ 13 Gk,cZ 132 Gw,cZ 139 Gz,cZ 216 Ah,cZ 253 nk,cZ 217 oa,cZ 117 tC,cZ 56 Am,cZ 49 sq,cZ 118 qf,cZ 119 tD,cZ 10117 qc]
def zcD:lD Tryz.prog zb8:=⟨bo,bo,bo,bo,bo,bo,bo,bo,bo,bo,bo,bo,bo,bo,bo,bo,bo,bo,bo,bo,bo,bo,bo,bo,bo,bo,bo,bo,bo,bo,bo,bo,bo,bo,bo,bo,bo,bo,bo,bo,trivial⟩
def zb9:List (Nat×gv):=[cZ 10119 qd,cZ 123 oe,cZ 54 nn,cZ 124 tE,cZ 125 qe,cZ 174 GA,cZ 126 Gx,cZ 55 An,cZ 16 Jz,cZ 87 Jw,cZ 34 Gj,cZ 12 Gl,cZ 111 Ak,cZ 112 GN,cZ 113 vo,cZ 115 Jy,cZ 46 GI,cZ 47 Jt,cZ 275 D9,cZ 276 GB,cZ 10276 vm,cZ 277 GD,cZ 249 B8,cZ 294 Gy,cZ 278 D8,cZ 279 x8,cZ 250 D7,cZ 209 Gv,cZ 210 LX,cZ 251 GC,cZ 211 Jq,cZ 173 GR,cZ 116 Ef,cZ 48 GU,cZ 50 Al,cZ 51 oh,cZ 120 od,cZ 121 sr,cZ 122 qg,cZ 52 mD]
def zcE:lD Tryz.prog zb9:=⟨bo,bo,bo,bo,bo,bo,bo,bo,bo,bo,bo,bo,bo,bo,bo,bo,bo,bo,bo,bo,bo,bo,bo,bo,bo,bo,bo,bo,bo,bo,bo,bo,bo,bo,bo,bo,bo,bo,bo,bo,trivial⟩
def zca:List (Nat×gv):=[cZ 53 GQ,cZ 15 GP,cZ 3 tk]
def zcF:lD Tryz.prog zca:=⟨bo,bo,bo,trivial⟩
abbrev tbl:Nat->Option gv:=Mr (zb4++(zb5++(zb6++(zb7++(zb8++(zb9++(zca)))))))
def FC:tbl 265=some (.nat uH):=by kernel_rfl
def Ha:tbl 99=some (.Yq py):=by kernel_rfl
def zcb:K3 Tryz.prog tbl:=lD.tbl (zcz.app (zcA.app (zcB.app (zcC.app (zcD.app (zcE.app (zcF)))))))
end Go.Proofs.YtdgiglmmpbndmaaGreatDoor
