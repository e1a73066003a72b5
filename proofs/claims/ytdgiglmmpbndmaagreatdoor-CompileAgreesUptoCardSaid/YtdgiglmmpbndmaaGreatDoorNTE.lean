import Derived.Test.YtdgiglmmpbndmaaGreatDoorNTG1
import Derived.Test.YtdgiglmmpbndmaaGreatDoorRows
import Derived.Test.YtdgiglmmpbndmaaGreatDoorNBn
set_option linter.all false
set_option maxRecDepth 100000
namespace Go.Proofs.YtdgiglmmpbndmaaGreatDoor
open Go Go.Av Go.Ev
set_option maxRecDepth 8000 in
def G7:JG Tryz.prog 99 pV:=⟨⟨Tryz.f99,_,_,_,_,_,_,_,_,_,_,_,Tryz.func99,by kernel_rfl,rfl,by kernel_rfl,by kernel_rfl,⟨⟨Tryz.f164,_,_,_,_,_,_,_,Tryz.func164,by kernel_rfl,by kernel_rfl,rfl,⟨#[],by kernel_rfl⟩,by kernel_rfl⟩⟩,by kernel_rfl,by kernel_rfl⟩,by kernel_rfl⟩
def FB:OkE Tryz.prog 265 (.nat uJ):=Xz Tryz.strconv_Itoa
def zek:List (Nat×gC):=[cZ 192 HF,cZ 171 Kl,cZ 114 EM,cZ 193 ry,cZ 225 vq,cZ 226 HC,cZ 194 pT,cZ 284 EF,cZ 283 Cz,cZ 212 M8,cZ 213 Qi,cZ 175 Kb,cZ 133 Hm,cZ 258 Hl,cZ 259 EG,cZ 227 yg,cZ 129 Kk,cZ 141 Aw,cZ 142 HB,cZ 144 vo,cZ 172 Hz,cZ 260 yd,cZ 274 EH,cZ 247 CC,cZ 285 Kh,cZ 261 Ht,cZ 228 wD,cZ 62 EK,cZ 195 pU,cZ 229 EL,cZ 130 Hu,cZ 296 EE,cZ 295 Kc,cZ 286 Ke,cZ 262 Ki,cZ 230 Hw,cZ 244 rq,cZ 299 qw,cZ 293 rm,cZ 273 rp]
def zeK:lT Tryz.prog zek:=⟨bo,bo,bo,bo,bo,bo,bo,bo,bo,bo,bo,bo,bo,bo,bo,bo,bo,bo,bo,bo,bo,bo,bo,bo,bo,bo,bo,bo,bo,bo,bo,bo,bo,bo,bo,bo,bo,bo,bo,bo,trivial⟩
def zel:List (Nat×gC):=[cZ 243 sF,cZ 206 sE,cZ 252 EI,cZ 245 Hq,cZ 207 Hn,cZ 246 Au,cZ 248 EJ,cZ 208 CE,cZ 170 Hp,cZ 231 Kn,cZ 131 yf,cZ 196 rA,cZ 162 rz,cZ 88 HA,cZ 35 Cu,cZ 89 EB,cZ 197 Cw,cZ 163 EA,cZ 91 vg,cZ 254 J8,cZ 218 M0,cZ 183 MZ,cZ 146 EC,cZ 95 Hi,cZ 94 sB,cZ 93 yb,cZ 92 vh,cZ 90 ya,cZ 96 vi,cZ 199 sG,cZ 300 x8,cZ 297 Ey,cZ 287 qx,cZ 288 pW,cZ 263 rB,cZ 232 rC,cZ 198 nL,cZ 165 lh,cZ 289 Kt,cZ 264 Ku]
def zeL:lT Tryz.prog zel:=⟨bo,bo,bo,bo,bo,bo,bo,bo,bo,bo,bo,bo,bo,bo,bo,bo,bo,bo,bo,bo,bo,bo,bo,bo,bo,bo,bo,bo,bo,bo,bo,bo,bo,bo,bo,bo,bo,bo,bo,bo,trivial⟩
def zem:List (Nat×gC):=[cZ 233 yh,cZ 200 HK,(265,.nat uJ),cZ 234 Ct,cZ 291 CJ,cZ 266 CK,cZ 235 HP,cZ 201 Kv,cZ 166 HN,(99,.dfr pV),cZ 98 sC,cZ 10093 tG,cZ 97 vj,cZ 10090 tD,cZ 100 vk,cZ 167 Cx,cZ 103 rk,cZ 102 sD,cZ 20093 tH,cZ 101 vl,cZ 20090 tE,cZ 104 vm,cZ 236 x9,cZ 202 vn,cZ 203 tz,cZ 168 wA,cZ 106 tC,cZ 105 tx,cZ 30090 tF,cZ 36 Ez,cZ 37 Hk,cZ 267 qu,cZ 268 pR,cZ 237 qv,cZ 269 M6,cZ 238 pS,cZ 239 mR,cZ 270 si,cZ 292 Cs,cZ 271 Ka]
def zeM:lT Tryz.prog zem:=⟨bo,bo,FB,bo,bo,bo,bo,bo,bo,G7,bo,bo,bo,bo,bo,bo,bo,bo,bo,bo,bo,bo,bo,bo,bo,bo,bo,bo,bo,bo,bo,bo,bo,bo,bo,bo,bo,bo,bo,bo,trivial⟩
def zen:List (Nat×gC):=[cZ 272 Ex,cZ 240 Hc,cZ 204 M1,cZ 127 M2,cZ 155 T9,cZ 242 J9,cZ 177 M5,cZ 241 vf,cZ 205 Qh,cZ 169 wu,cZ 107 Ew,cZ 156 lg,cZ 188 BE,cZ 157 M3,cZ 158 j0,cZ 81 wy,cZ 38 Aq,cZ 39 ws,cZ 159 nI,cZ 82 wv,cZ 40 qq,cZ 108 qt,cZ 41 sy,cZ 42 x7,cZ 76 mQ,cZ 43 lZ,cZ 109 lY,cZ 110 j3,cZ 44 mA,cZ 45 Et,cZ 14 Cl,cZ 128 Cr,cZ 57 u7,cZ 58 Eu,cZ 59 Cp,cZ 18 Cn,cZ 147 xZ,cZ 68 G9,cZ 179 M7,cZ 137 yc]
def zeN:lT Tryz.prog zen:=⟨bo,bo,bo,bo,bo,bo,bo,bo,bo,bo,bo,bo,bo,bo,bo,bo,bo,bo,bo,bo,bo,bo,bo,bo,bo,bo,bo,bo,bo,bo,bo,bo,bo,bo,bo,bo,bo,bo,bo,bo,trivial⟩
def zeo:List (Nat×gC):=[cZ 214 Cy,cZ 176 Hj,cZ 134 Cv,cZ 135 M4,cZ 178 x5,cZ 136 u6,cZ 63 Cq,cZ 70 tw,cZ 69 vc,cZ 148 xY,cZ 149 Ha,cZ 221 oM,cZ 219 oQ,cZ 220 rf,cZ 184 Ck,cZ 185 Ao,cZ 150 Eo,cZ 71 MX,cZ 24 Er,cZ 79 rh,cZ 10069 ri,cZ 29 x6,cZ 75 pQ,cZ 77 u9,cZ 27 Ap,cZ 80 nJ,cZ 31 Es,cZ 22 Co,cZ 13 Hg,cZ 21 Hf,cZ 182 Kd,cZ 145 Ar,cZ 180 ED,cZ 138 Hv,cZ 64 CG,cZ 140 Hs,cZ 66 CF,cZ 215 wC,cZ 216 As,cZ 253 nK]
def zeO:lT Tryz.prog zeo:=⟨bo,bo,bo,bo,bo,bo,bo,bo,bo,bo,bo,bo,bo,bo,bo,bo,bo,bo,bo,bo,bo,bo,bo,bo,bo,bo,bo,bo,bo,bo,bo,bo,bo,bo,bo,bo,bo,bo,bo,bo,trivial⟩
def zep:List (Nat×gC):=[cZ 217 oT,cZ 181 Ho,cZ 143 vr,cZ 67 Nc,cZ 151 Hr,cZ 152 Kr,cZ 72 HG,cZ 153 HH,cZ 222 ru,cZ 223 Na,cZ 10222 ye,cZ 186 M9,cZ 187 Kf,cZ 154 Ng,cZ 73 Nb,cZ 74 Kg,cZ 26 Kp,cZ 87 Km,cZ 34 He,cZ 12 Hh,cZ 111 Ax,cZ 112 HE,cZ 113 vp,cZ 115 Ko,cZ 46 Hy,cZ 47 Kj,cZ 83 Cj,cZ 160 wq,cZ 255 Kw,cZ 256 HO,cZ 280 rD,cZ 281 qy,cZ 282 Ks,cZ 257 rE,cZ 224 HM,cZ 190 Hb,cZ 189 pP,cZ 191 qp,cZ 84 An,cZ 32 MY]
def zeP:lT Tryz.prog zep:=⟨bo,bo,bo,bo,bo,bo,bo,bo,bo,bo,bo,bo,bo,bo,bo,bo,bo,bo,bo,bo,bo,bo,bo,bo,bo,bo,bo,bo,bo,bo,bo,bo,bo,bo,bo,bo,bo,bo,bo,bo,trivial⟩
def zeq:List (Nat×gC):=[cZ 85 HJ,cZ 161 Kq,cZ 86 HI,cZ 33 Nf,cZ 11 sA]
def zeQ:lT Tryz.prog zeq:=⟨bo,bo,bo,bo,bo,trivial⟩
abbrev tbl:Nat->Option gC:=NJ (zek++(zel++(zem++(zen++(zeo++(zep++(zeq)))))))
def Gm:tbl 265=some (.nat uJ):=by kernel_rfl
def H3:tbl 99=some (.dfr pV):=by kernel_rfl
def zer:Mb Tryz.prog tbl:=lT.tbl (zeK.app (zeL.app (zeM.app (zeN.app (zeO.app (zeP.app (zeQ)))))))
end Go.Proofs.YtdgiglmmpbndmaaGreatDoor
