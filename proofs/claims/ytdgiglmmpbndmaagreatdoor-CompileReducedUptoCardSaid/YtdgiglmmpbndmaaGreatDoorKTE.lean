import Derived.Test.YtdgiglmmpbndmaaGreatDoorKTG6
import Derived.Test.YtdgiglmmpbndmaaGreatDoorKL7
import Derived.Test.YtdgiglmmpbndmaaGreatDoorRows
import Derived.Test.YtdgiglmmpbndmaaGreatDoorKBn
set_option linter.unusedVariables false
set_option linter.unusedSimpArgs false
namespace Go.Proofs.YtdgiglmmpbndmaaGreatDoor
open Go Go.Av Go.Ev
theorem M2:OkE Tryz.prog lU (.nat Dz):=zdq Tryz.strconv_Itoa
theorem OT:Entry Tryz.prog 192 Fp:=bU Tryz.func192 (by kernel_rfl)
theorem RL:Entry Tryz.prog 171 HC:=bU Tryz.func171 (by kernel_rfl)
theorem Mr:Entry Tryz.prog 114 CC:=bU Tryz.func114 (by kernel_rfl)
theorem zy:Entry Tryz.prog 193 qh:=bU Tryz.func193 (by kernel_rfl)
theorem El:Entry Tryz.prog 225 uf:=bU Tryz.func225 (by kernel_rfl)
theorem OS:Entry Tryz.prog 226 Fo:=bU Tryz.func226 (by kernel_rfl)
theorem xq:Entry Tryz.prog 194 nI:=bU Tryz.func194 (by kernel_rfl)
theorem Mk:Entry Tryz.prog 284 Ct:=bU Tryz.func284 (by kernel_rfl)
theorem KB:Entry Tryz.prog 283 AR:=bU Tryz.func283 (by kernel_rfl)
theorem T9:Entry Tryz.prog 212 JR:=bU Tryz.func212 (by kernel_rfl)
theorem WI:Entry Tryz.prog 213 MD:=bU Tryz.func213 (by kernel_rfl)
theorem RE:Entry Tryz.prog 175 Hv:=bU Tryz.func175 (by kernel_rfl)
theorem OG:Entry Tryz.prog 133 Fa:=bU Tryz.func133 (by kernel_rfl)
theorem OF:Entry Tryz.prog 258 E9:=bU Tryz.func258 (by kernel_rfl)
theorem Ml:Entry Tryz.prog 259 Cu:=bU Tryz.func259 (by kernel_rfl)
theorem Ho:Entry Tryz.prog 227 wJ:=bU Tryz.func227 (by kernel_rfl)
theorem RJ:Entry Tryz.prog 129 HB:=bU Tryz.func129 (by kernel_rfl)
theorem IT:Entry Tryz.prog 141 yc:=bU Tryz.func141 (by kernel_rfl)
theorem OR:Entry Tryz.prog 142 Fl:=bU Tryz.func142 (by kernel_rfl)
theorem Ek:Entry Tryz.prog 144 ue:=bU Tryz.func144 (by kernel_rfl)
theorem OP:Entry Tryz.prog 172 Fi:=bU Tryz.func172 (by kernel_rfl)
theorem Hm:Entry Tryz.prog 260 wH:=bU Tryz.func260 (by kernel_rfl)
theorem Mm:Entry Tryz.prog 274 Cv:=bU Tryz.func274 (by kernel_rfl)
theorem KD:Entry Tryz.prog 247 AS:=bU Tryz.func247 (by kernel_rfl)
theorem RH:Entry Tryz.prog 285 Hz:=bU Tryz.func285 (by kernel_rfl)
theorem OM:Entry Tryz.prog 261 Ff:=bU Tryz.func261 (by kernel_rfl)
theorem F3:Entry Tryz.prog 228 vE:=bU Tryz.func228 (by kernel_rfl)
theorem Mp:Entry Tryz.prog 62 Cy:=bU Tryz.func62 (by kernel_rfl)
theorem xr:Entry Tryz.prog 195 nJ:=bU Tryz.func195 (by kernel_rfl)
theorem Mq:Entry Tryz.prog 229 Cz:=bU Tryz.func229 (by kernel_rfl)
theorem ON:Entry Tryz.prog 130 Fg:=bU Tryz.func130 (by kernel_rfl)
theorem Mj:Entry Tryz.prog 296 Cs:=bU Tryz.func296 (by kernel_rfl)
theorem RF:Entry Tryz.prog 295 Hw:=bU Tryz.func295 (by kernel_rfl)
theorem RG:Entry Tryz.prog 286 Hy:=bU Tryz.func286 (by kernel_rfl)
theorem RI:Entry Tryz.prog 262 HA:=bU Tryz.func262 (by kernel_rfl)
theorem OO:Entry Tryz.prog 230 Fh:=bU Tryz.func230 (by kernel_rfl)
theorem zx:Entry Tryz.prog 244 qg:=bU Tryz.func244 (by kernel_rfl)
theorem x5:Entry Tryz.prog 299 oU:=bU Tryz.func299 (by kernel_rfl)
theorem zv:Entry Tryz.prog 293 qe:=bU Tryz.func293 (by kernel_rfl)
theorem zw:Entry Tryz.prog 273 qf:=bU Tryz.func273 (by kernel_rfl)
theorem Bp:Entry Tryz.prog 243 qU:=bU Tryz.func243 (by kernel_rfl)
theorem Bo:Entry Tryz.prog 206 qT:=bU Tryz.func206 (by kernel_rfl)
theorem Mn:Entry Tryz.prog 252 Cw:=bU Tryz.func252 (by kernel_rfl)
theorem OJ:Entry Tryz.prog 245 Fe:=bU Tryz.func245 (by kernel_rfl)
theorem OH:Entry Tryz.prog 207 Fb:=bU Tryz.func207 (by kernel_rfl)
theorem IS:Entry Tryz.prog 246 yb:=bU Tryz.func246 (by kernel_rfl)
theorem Mo:Entry Tryz.prog 248 Cx:=bU Tryz.func248 (by kernel_rfl)
theorem KE:Entry Tryz.prog 208 AT:=bU Tryz.func208 (by kernel_rfl)
theorem OI:Entry Tryz.prog 170 Fc:=bU Tryz.func170 (by kernel_rfl)
theorem RP:Entry Tryz.prog 231 HE:=bU Tryz.func231 (by kernel_rfl)
theorem Hn:Entry Tryz.prog 131 wI:=bU Tryz.func131 (by kernel_rfl)
theorem zA:Entry Tryz.prog 196 qj:=bU Tryz.func196 (by kernel_rfl)
theorem zz:Entry Tryz.prog 162 qi:=bU Tryz.func162 (by kernel_rfl)
theorem OQ:Entry Tryz.prog 88 Fj:=bU Tryz.func88 (by kernel_rfl)
theorem Kw:Entry Tryz.prog 35 AO:=bU Tryz.func35 (by kernel_rfl)
theorem Mh:Entry Tryz.prog 89 vC:=bU Tryz.func89 (by kernel_rfl)
theorem Ky:Entry Tryz.prog 197 tx:=bU Tryz.func197 (by kernel_rfl)
theorem Mg:Entry Tryz.prog 163 qd:=bU Tryz.func163 (by kernel_rfl)
theorem Ec:Entry Tryz.prog 91 m9:=bU Tryz.func91 (by kernel_rfl)
theorem RA:Entry Tryz.prog 254 zI:=bU Tryz.func254 (by kernel_rfl)
theorem TZ:Entry Tryz.prog 218 Ci:=bU Tryz.func218 (by kernel_rfl)
theorem TY:Entry Tryz.prog 183 Ch:=bU Tryz.func183 (by kernel_rfl)
theorem Mi:Entry Tryz.prog 146 vD:=bU Tryz.func146 (by kernel_rfl)
theorem OC:Entry Tryz.prog 95 xx:=bU Tryz.func95 (by kernel_rfl)
theorem Bl:Entry Tryz.prog 94 kT:=bU Tryz.func94 (by kernel_rfl)
theorem Hk:Entry Tryz.prog 93 qc:=bU Tryz.func93 (by kernel_rfl)
theorem Ed:Entry Tryz.prog 92 na:=bU Tryz.func92 (by kernel_rfl)
theorem Hj:Entry Tryz.prog 90 qb:=bU Tryz.func90 (by kernel_rfl)
theorem Ee:Entry Tryz.prog 96 nf:=bU Tryz.func96 (by kernel_rfl)
theorem Bq:Entry Tryz.prog 199 kW:=bU Tryz.func199 (by kernel_rfl)
theorem Hh:Entry Tryz.prog 300 p9:=bU Tryz.func300 (by kernel_rfl)
theorem Me:Entry Tryz.prog 297 vA:=bU Tryz.func297 (by kernel_rfl)
theorem x7:Entry Tryz.prog 287 ju:=bU Tryz.func287 (by kernel_rfl)
theorem xt:Entry Tryz.prog 288 iR:=bU Tryz.func288 (by kernel_rfl)
theorem zB:Entry Tryz.prog 263 ke:=bU Tryz.func263 (by kernel_rfl)
theorem zE:Entry Tryz.prog 232 kg:=bU Tryz.func232 (by kernel_rfl)
theorem vo:Entry Tryz.prog 198 gV:=bU Tryz.func198 (by kernel_rfl)
theorem rF:Entry Tryz.prog 165 eY:=bU Tryz.func165 (by kernel_rfl)
theorem RU:Entry Tryz.prog 289 zN:=bU Tryz.func289 (by kernel_rfl)
theorem RZ:Entry Tryz.prog 264 zO:=bU Tryz.func264 (by kernel_rfl)
theorem Hp:Entry Tryz.prog 233 qk:=bU Tryz.func233 (by kernel_rfl)
theorem OU:Entry Tryz.prog 200 xB:=bU Tryz.func200 (by kernel_rfl)
theorem Kv:Entry Tryz.prog 234 tw:=bU Tryz.func234 (by kernel_rfl)
theorem KF:Entry Tryz.prog 291 tC:=bU Tryz.func291 (by kernel_rfl)
theorem KG:Entry Tryz.prog 266 tD:=bU Tryz.func266 (by kernel_rfl)
theorem OX:Entry Tryz.prog 235 xE:=bU Tryz.func235 (by kernel_rfl)
theorem R0:Entry Tryz.prog 201 zP:=bU Tryz.func201 (by kernel_rfl)
theorem OW:Entry Tryz.prog 166 xD:=bU Tryz.func166 (by kernel_rfl)
set_option maxRecDepth 8000 in
theorem OV:EntryD Tryz.prog 99 xC:=⟨⟨Tryz.f99,_,_,_,_,_,_,_,_,_,_,_,Tryz.func99,by kernel_rfl,rfl,by kernel_rfl,by kernel_rfl,⟨⟨Tryz.f164,_,_,_,_,_,_,_,Tryz.func164,by kernel_rfl,by kernel_rfl,rfl,⟨#[],by kernel_rfl⟩,by kernel_rfl⟩⟩,by kernel_rfl,by kernel_rfl⟩,by kernel_rfl⟩
theorem Bm:Entry Tryz.prog 98 kU:=bU Tryz.func98 (by kernel_rfl)
theorem Cc:Entry Tryz.prog 93 mc:=bU Tryz.func93 (by kernel_rfl)
theorem Ef:Entry Tryz.prog 97 ng:=bU Tryz.func97 (by kernel_rfl)
theorem B9:Entry Tryz.prog 90 l8:=bU Tryz.func90 (by kernel_rfl)
theorem Eg:Entry Tryz.prog 100 nh:=bU Tryz.func100 (by kernel_rfl)
theorem Kz:Entry Tryz.prog 167 tz:=bU Tryz.func167 (by kernel_rfl)
theorem zr:Entry Tryz.prog 103 ka:=bU Tryz.func103 (by kernel_rfl)
theorem Bn:Entry Tryz.prog 102 kV:=bU Tryz.func102 (by kernel_rfl)
theorem Cd:Entry Tryz.prog 93 md:=bU Tryz.func93 (by kernel_rfl)
theorem Eh:Entry Tryz.prog 101 ni:=bU Tryz.func101 (by kernel_rfl)
theorem Ca:Entry Tryz.prog 90 l9:=bU Tryz.func90 (by kernel_rfl)
theorem Ei:Entry Tryz.prog 104 nj:=bU Tryz.func104 (by kernel_rfl)
theorem Hi:Entry Tryz.prog 236 qa:=bU Tryz.func236 (by kernel_rfl)
theorem Ej:Entry Tryz.prog 202 nk:=bU Tryz.func202 (by kernel_rfl)
theorem B7:Entry Tryz.prog 203 l6:=bU Tryz.func203 (by kernel_rfl)
theorem F1:Entry Tryz.prog 168 oz:=bU Tryz.func168 (by kernel_rfl)
theorem B8:Entry Tryz.prog 106 l7:=bU Tryz.func106 (by kernel_rfl)
theorem B6:Entry Tryz.prog 105 l5:=bU Tryz.func105 (by kernel_rfl)
theorem Cb:Entry Tryz.prog 90 mb:=bU Tryz.func90 (by kernel_rfl)
theorem Mf:Entry Tryz.prog 36 vB:=bU Tryz.func36 (by kernel_rfl)
theorem OE:Entry Tryz.prog 37 xy:=bU Tryz.func37 (by kernel_rfl)
theorem xY:Entry Tryz.prog 267 jq:=bU Tryz.func267 (by kernel_rfl)
theorem xo:Entry Tryz.prog 268 iP:=bU Tryz.func268 (by kernel_rfl)
theorem xZ:Entry Tryz.prog 237 jr:=bU Tryz.func237 (by kernel_rfl)
theorem T7:Entry Tryz.prog 269 Cr:=bU Tryz.func269 (by kernel_rfl)
theorem xp:Entry Tryz.prog 238 iQ:=bU Tryz.func238 (by kernel_rfl)
theorem ux:Entry Tryz.prog 239 gw:=bU Tryz.func239 (by kernel_rfl)
theorem Kt:Entry Tryz.prog 270 tu:=bU Tryz.func270 (by kernel_rfl)
theorem Ku:Entry Tryz.prog 292 tv:=bU Tryz.func292 (by kernel_rfl)
theorem RD:Entry Tryz.prog 271 zK:=bU Tryz.func271 (by kernel_rfl)
theorem Md:Entry Tryz.prog 272 vz:=bU Tryz.func272 (by kernel_rfl)
theorem Oy:Entry Tryz.prog 240 xu:=bU Tryz.func240 (by kernel_rfl)
theorem T0:Entry Tryz.prog 204 Cl:=bU Tryz.func204 (by kernel_rfl)
theorem T1:Entry Tryz.prog 127 Cn:=bU Tryz.func127 (by kernel_rfl)
theorem zaM:Entry Tryz.prog 155 I1:=bU Tryz.func155 (by kernel_rfl)
theorem RB:Entry Tryz.prog 242 zJ:=bU Tryz.func242 (by kernel_rfl)
theorem T5:Entry Tryz.prog 177 Cp:=bU Tryz.func177 (by kernel_rfl)
theorem D9:Entry Tryz.prog 241 m8:=bU Tryz.func241 (by kernel_rfl)
theorem WH:Entry Tryz.prog 205 F6:=bU Tryz.func205 (by kernel_rfl)
theorem FY:Entry Tryz.prog 169 ov:=bU Tryz.func169 (by kernel_rfl)
theorem Mc:Entry Tryz.prog 107 vu:=bU Tryz.func107 (by kernel_rfl)
theorem rE:Entry Tryz.prog 156 eX:=bU Tryz.func156 (by kernel_rfl)
theorem T6:Entry Tryz.prog 188 Cq:=bU Tryz.func188 (by kernel_rfl)
theorem T3:Entry Tryz.prog 157 Co:=bU Tryz.func157 (by kernel_rfl)
theorem pd:Entry Tryz.prog 158 d4:=bU Tryz.func158 (by kernel_rfl)
theorem F0:Entry Tryz.prog 81 oy:=bU Tryz.func81 (by kernel_rfl)
theorem IR:Entry Tryz.prog 38 rI:=bU Tryz.func38 (by kernel_rfl)
theorem FX:Entry Tryz.prog 39 j8:=bU Tryz.func39 (by kernel_rfl)
theorem vm:Entry Tryz.prog 159 gU:=bU Tryz.func159 (by kernel_rfl)
theorem FZ:Entry Tryz.prog 82 ow:=bU Tryz.func82 (by kernel_rfl)
theorem xW:Entry Tryz.prog 40 jm:=bU Tryz.func40 (by kernel_rfl)
theorem xX:Entry Tryz.prog 108 jp:=bU Tryz.func108 (by kernel_rfl)
theorem Bj:Entry Tryz.prog 41 kS:=bU Tryz.func41 (by kernel_rfl)
theorem Hg:Entry Tryz.prog 42 p8:=bU Tryz.func42 (by kernel_rfl)
theorem uw:Entry Tryz.prog 76 gv:=bU Tryz.func76 (by kernel_rfl)
theorem sE:Entry Tryz.prog 43 fy:=bU Tryz.func43 (by kernel_rfl)
theorem sD:Entry Tryz.prog 109 fx:=bU Tryz.func109 (by kernel_rfl)
theorem pf:Entry Tryz.prog 110 d5:=bU Tryz.func110 (by kernel_rfl)
theorem ti:Entry Tryz.prog 44 fM:=bU Tryz.func44 (by kernel_rfl)
theorem Ma:Entry Tryz.prog 45 vr:=bU Tryz.func45 (by kernel_rfl)
theorem Kn:Entry Tryz.prog 14 tk:=bU Tryz.func14 (by kernel_rfl)
theorem Ks:Entry Tryz.prog 128 tt:=bU Tryz.func128 (by kernel_rfl)
theorem D6:Entry Tryz.prog 57 m6:=bU Tryz.func57 (by kernel_rfl)
theorem Mb:Entry Tryz.prog 58 vt:=bU Tryz.func58 (by kernel_rfl)
theorem Kq:Entry Tryz.prog 59 tq:=bU Tryz.func59 (by kernel_rfl)
theorem Ko:Entry Tryz.prog 18 tn:=bU Tryz.func18 (by kernel_rfl)
theorem Hc:Entry Tryz.prog 147 wD:=bU Tryz.func147 (by kernel_rfl)
theorem Ov:Entry Tryz.prog 68 E6:=bU Tryz.func68 (by kernel_rfl)
theorem T8:Entry Tryz.prog 179 JQ:=bU Tryz.func179 (by kernel_rfl)
theorem Hl:Entry Tryz.prog 137 wG:=bU Tryz.func137 (by kernel_rfl)
theorem KA:Entry Tryz.prog 214 AQ:=bU Tryz.func214 (by kernel_rfl)
theorem OD:Entry Tryz.prog 176 E8:=bU Tryz.func176 (by kernel_rfl)
theorem Kx:Entry Tryz.prog 134 AP:=bU Tryz.func134 (by kernel_rfl)
theorem T4:Entry Tryz.prog 135 JP:=bU Tryz.func135 (by kernel_rfl)
theorem He:Entry Tryz.prog 178 wE:=bU Tryz.func178 (by kernel_rfl)
theorem D5:Entry Tryz.prog 136 uc:=bU Tryz.func136 (by kernel_rfl)
theorem Kr:Entry Tryz.prog 63 AN:=bU Tryz.func63 (by kernel_rfl)
theorem B5:Entry Tryz.prog 70 sH:=bU Tryz.func70 (by kernel_rfl)
theorem D8:Entry Tryz.prog 69 ud:=bU Tryz.func69 (by kernel_rfl)
theorem Hb:Entry Tryz.prog 148 wC:=bU Tryz.func148 (by kernel_rfl)
theorem Ow:Entry Tryz.prog 149 E7:=bU Tryz.func149 (by kernel_rfl)
theorem wh:Entry Tryz.prog 221 mP:=bU Tryz.func221 (by kernel_rfl)
theorem wi:Entry Tryz.prog 219 mQ:=bU Tryz.func219 (by kernel_rfl)
theorem zj:Entry Tryz.prog 220 pY:=bU Tryz.func220 (by kernel_rfl)
theorem Km:Entry Tryz.prog 184 AL:=bU Tryz.func184 (by kernel_rfl)
theorem IP:Entry Tryz.prog 185 ya:=bU Tryz.func185 (by kernel_rfl)
theorem L6:Entry Tryz.prog 150 Cg:=bU Tryz.func150 (by kernel_rfl)
theorem TX:Entry Tryz.prog 71 JO:=bU Tryz.func71 (by kernel_rfl)
theorem L8:Entry Tryz.prog 24 Cj:=bU Tryz.func24 (by kernel_rfl)
theorem zo:Entry Tryz.prog 79 pZ:=bU Tryz.func79 (by kernel_rfl)
theorem zp:Entry Tryz.prog 69 p7:=bU Tryz.func69 (by kernel_rfl)
theorem Hf:Entry Tryz.prog 29 wF:=bU Tryz.func29 (by kernel_rfl)
theorem xn:Entry Tryz.prog 75 iO:=bU Tryz.func75 (by kernel_rfl)
theorem D7:Entry Tryz.prog 77 m7:=bU Tryz.func77 (by kernel_rfl)
theorem IQ:Entry Tryz.prog 27 rH:=bU Tryz.func27 (by kernel_rfl)
theorem vn:Entry Tryz.prog 80 lZ:=bU Tryz.func80 (by kernel_rfl)
theorem L9:Entry Tryz.prog 31 Ck:=bU Tryz.func31 (by kernel_rfl)
theorem Kp:Entry Tryz.prog 22 AM:=bU Tryz.func22 (by kernel_rfl)
theorem OA:Entry Tryz.prog 13 se:=bU Tryz.func13 (by kernel_rfl)
theorem IU:Entry Tryz.prog 56 rJ:=bU Tryz.func56 (by kernel_rfl)
theorem Ce:Entry Tryz.prog 124 me:=bU Tryz.func124 (by kernel_rfl)
theorem x6:Entry Tryz.prog 125 jt:=bU Tryz.func125 (by kernel_rfl)
theorem OL:Entry Tryz.prog 174 xA:=bU Tryz.func174 (by kernel_rfl)
theorem OK:Entry Tryz.prog 126 xz:=bU Tryz.func126 (by kernel_rfl)
theorem IV:Entry Tryz.prog 55 rK:=bU Tryz.func55 (by kernel_rfl)
theorem RS:Entry Tryz.prog 16 zM:=bU Tryz.func16 (by kernel_rfl)
theorem RO:Entry Tryz.prog 87 zL:=bU Tryz.func87 (by kernel_rfl)
theorem Oz:Entry Tryz.prog 34 xv:=bU Tryz.func34 (by kernel_rfl)
theorem OB:Entry Tryz.prog 12 xw:=bU Tryz.func12 (by kernel_rfl)
theorem zq:Entry Tryz.prog 8 j9:=bU Tryz.func8 (by kernel_rfl)
def zih:List (Nat×Fun'):=[(Om,.code Fp),
 (Ra,.code HC),
 (LD,.code CC),
 (yV,.code qh),
 (DY,.code uf),
 (Ol,.code Fo),
 (xk,.code nI),
 (Lw,.code Ct),
 (Kh,.code AR),
 (Tf,.code JR),
 (Wg,.code MD),
 (Q4,.code Hv),
 (N9,.code Fa),
 (N8,.code E9),
 (Lx,.code Cu),
 (GU,.code wJ),
 (Q9,.code HB),
 (IF,.code yc),
 (Oj,.code Fl),
 (DX,.code ue),
 (Oh,.code Fi),
 (GQ,.code wH),
 (Ly,.code Cv),
 (Ki,.code AS),
 (Q7,.code Hz),
 (Oe,.code Ff),
 (ah,.code vE),
 (LB,.code Cy),
 (xl,.code nJ),
 (LC,.code Cz),
 (Of,.code Fg),
 (Lv,.code Cs),
 (Q5,.code Hw),
 (Q6,.code Hy),
 (Q8,.code HA),
 (Og,.code Fh),
 (yU,.code qg),
 (xU,.code oU),
 (yK,.code qe),
 (yQ,.code qf),
 (Bg,.code qU),
 (Bf,.code qT),
 (Lz,.code Cw),
 (Od,.code Fe),
 (Oa,.code Fb),
 (IE,.code yb),
 (LA,.code Cx),
 (Kj,.code AT),
 (Oc,.code Fc),
 (Rb,.code HE),
 (GR,.code wI),
 (yX,.code qj),
 (yW,.code qi),
 (Oi,.code Fj),
 (nY,.code AO),
 (pP,.code vC),
 (kq,.code tx),
 (gP,.code qd),
 (fQ,.code m9),
 (um,.code zI),
 (wx,.code Ci),
 (ww,.code Ch),
 (lS,.code vD),
 (r8,.code xx),
 (eN,.code kT),
 (lu,.code qc),
 (fR,.code na),
 (lm,.code qb),
 (fS,.code nf),
 (bC,.code kW),
 (lg,.code p9),
 (lR,.code vA),
 (bp,.code ju),
 (bN,.code iR),
 (ej,.code ke),
 (cH,.code kg),
 (bP,.code gV),
 (bm,.code eY),
 (ut,.code zN),
 (uu,.code zO),
 (fG,.code qk),
 (nz,.code xB),
 (lU,.nat Dz),
 (io,.code tw),
 (kt,.code tC),
 (nZ,.code tD),
 (gD,.code xE),
 (iD,.code zP),
 (kH,.code xD),
 (nA,.dfr xC),
 (eO,.code kU),
 (iA,.code mc),
 (fT,.code ng),
 (ix,.code l8),
 (fU,.code nh),
 (cx,.code tz),
 (gu,.code ka),
 (eP,.code kV),
 (iB,.code md),
 (fV,.code ni),
 (iy,.code l9),
 (fW,.code nj),
 (lh,.code qa),
 (ja,.code nk),
 (iv,.code l6),
 (j6,.code oz),
 (iw,.code l7),
 (ft,.code l5),
 (iz,.code mb),
 (jd,.code vB),
 (r9,.code xy),
 (dS,.code jq),
 (dD,.code iP),
 (b9,.code jr),
 (oP,.code Cr),
 (fh,.code iQ),
 (dZ,.code gw),
 (km,.code tu),
 (nX,.code tv),
 (uo,.code zK),
 (pO,.code vz),
 (gC,.code xu),
 (oO,.code Cl),
 (lP,.code Cn),
 (mC,.code I1),
 (j4,.code zJ),
 (lQ,.code Cp),
 (i8,.code m8),
 (rD,.code F6),
 (j0,.code ov),
 (pN,.code vu),
 (dj,.code eX),
 (sB,.code Cq),
 (wy,.code Co),
 (cO,.code d4),
 (gO,.code oy),
 (mB,.code rI),
 (gN,.code j8),
 (ei,.code gU),
 (j3,.code ow),
 (b7,.code jm),
 (cT,.code jp),
 (dy,.code kS),
 (lc,.code p8),
 (cp,.code gv),
 (b8,.code fy),
 (bO,.code fx),
 (bo,.code d5),
 (ca,.code fM),
 (pM,.code vr),
 (dc,.code tk),
 (nW,.code tt),
 (i6,.code m6),
 (jc,.code vt),
 (kj,.code tq),
 (dK,.code tn),
 (GN,.code wD),
 (N5,.code E6),
 (Te,.code JQ),
 (GP,.code wG),
 (Kg,.code AQ),
 (N7,.code E8),
 (Kf,.code AP),
 (Td,.code JP),
 (GO,.code wE),
 (DV,.code uc),
 (Ke,.code AN),
 (sA,.code sH),
 (DW,.code ud),
 (GM,.code wC),
 (N6,.code E7),
 (we,.code mP),
 (wg,.code mQ),
 (yI,.code pY),
 (Kd,.code AL),
 (ID,.code ya),
 (Lu,.code Cg),
 (Tc,.code JO),
 (vg,.code Cj),
 (pL,.code pZ),
 (yJ,.code p7),
 (pK,.code wF),
 (bM,.code iO),
 (i7,.code m7),
 (gH,.code rH),
 (vi,.code lZ),
 (vh,.code Ck),
 (tf,.code AM),
 (kG,.code se),
 (mD,.code rJ),
 (iC,.code me),
 (fF,.code jt),
 (ny,.code xA),
 (sa,.code xz),
 (mE,.code rK),
 (uq,.code zM),
 (pQ,.code zL),
 (r6,.code xv),
 (r7,.code xw),
 (j5,.code j9)]
abbrev tbl:Nat->Option Fun':=UV zih
theorem NI:tbl pP=some (.code vC):=by kernel_rfl
theorem KX:tbl kq=some (.code tx):=by kernel_rfl
theorem NH:tbl gP=some (.code qd):=by kernel_rfl
theorem Ew:tbl fQ=some (.code m9):=by kernel_rfl
theorem SJ:tbl um=some (.code zI):=by kernel_rfl
theorem VT:tbl wx=some (.code Ci):=by kernel_rfl
theorem VS:tbl ww=some (.code Ch):=by kernel_rfl
theorem NJ:tbl lS=some (.code vD):=by kernel_rfl
theorem Pm:tbl r8=some (.code xx):=by kernel_rfl
theorem Bs:tbl eN=some (.code kT):=by kernel_rfl
theorem Iq:tbl lu=some (.code qc):=by kernel_rfl
theorem Ex:tbl fR=some (.code na):=by kernel_rfl
theorem Ip:tbl lm=some (.code qb):=by kernel_rfl
theorem Ey:tbl fS=some (.code nf):=by kernel_rfl
theorem Bv:tbl bC=some (.code kW):=by kernel_rfl
theorem Im:tbl lg=some (.code p9):=by kernel_rfl
theorem NF:tbl lR=some (.code vA):=by kernel_rfl
theorem yx:tbl bp=some (.code ju):=by kernel_rfl
theorem xN:tbl bN=some (.code iR):=by kernel_rfl
theorem Ak:tbl ej=some (.code ke):=by kernel_rfl
theorem Al:tbl cH=some (.code kg):=by kernel_rfl
theorem wc:tbl bP=some (.code gV):=by kernel_rfl
theorem jC:tbl bm=some (.code eY):=by kernel_rfl
theorem SQ:tbl ut=some (.code zN):=by kernel_rfl
theorem SS:tbl uu=some (.code zO):=by kernel_rfl
theorem Ir:tbl fG=some (.code qk):=by kernel_rfl
theorem Pq:tbl nz=some (.code xB):=by kernel_rfl
theorem NM:tbl lU=some (.nat Dz):=by kernel_rfl
theorem KW:tbl io=some (.code tw):=by kernel_rfl
theorem KZ:tbl kt=some (.code tC):=by kernel_rfl
theorem K0:tbl nZ=some (.code tD):=by kernel_rfl
theorem Pt:tbl gD=some (.code xE):=by kernel_rfl
theorem SU:tbl iD=some (.code zP):=by kernel_rfl
theorem Ps:tbl kH=some (.code xD):=by kernel_rfl
theorem Pr:tbl nA=some (.dfr xC):=by kernel_rfl
theorem Bt:tbl eO=some (.code kU):=by kernel_rfl
theorem Db:tbl iA=some (.code mc):=by kernel_rfl
theorem Ez:tbl fT=some (.code ng):=by kernel_rfl
theorem C8:tbl ix=some (.code l8):=by kernel_rfl
theorem EA:tbl fU=some (.code nh):=by kernel_rfl
theorem KY:tbl cx=some (.code tz):=by kernel_rfl
theorem Aj:tbl gu=some (.code ka):=by kernel_rfl
theorem Bu:tbl eP=some (.code kV):=by kernel_rfl
theorem Dc:tbl iB=some (.code md):=by kernel_rfl
theorem EB:tbl fV=some (.code ni):=by kernel_rfl
theorem C9:tbl iy=some (.code l9):=by kernel_rfl
theorem EC:tbl fW=some (.code nj):=by kernel_rfl
theorem Io:tbl lh=some (.code qa):=by kernel_rfl
theorem ED:tbl ja=some (.code nk):=by kernel_rfl
theorem C6:tbl iv=some (.code l6):=by kernel_rfl
theorem Gv:tbl j6=some (.code oz):=by kernel_rfl
theorem C7:tbl iw=some (.code l7):=by kernel_rfl
theorem C5:tbl ft=some (.code l5):=by kernel_rfl
theorem Da:tbl iz=some (.code mb):=by kernel_rfl
theorem NG:tbl jd=some (.code vB):=by kernel_rfl
theorem Pn:tbl r9=some (.code xy):=by kernel_rfl
theorem yt:tbl dS=some (.code jq):=by kernel_rfl
theorem xL:tbl dD=some (.code iP):=by kernel_rfl
theorem yu:tbl b9=some (.code jr):=by kernel_rfl
theorem VZ:tbl oP=some (.code Cr):=by kernel_rfl
theorem xM:tbl fh=some (.code iQ):=by kernel_rfl
theorem uF:tbl dZ=some (.code gw):=by kernel_rfl
theorem KU:tbl km=some (.code tu):=by kernel_rfl
theorem KV:tbl nX=some (.code tv):=by kernel_rfl
theorem SL:tbl uo=some (.code zK):=by kernel_rfl
theorem NE:tbl pO=some (.code vz):=by kernel_rfl
theorem Ph:tbl gC=some (.code xu):=by kernel_rfl
theorem VU:tbl oO=some (.code Cl):=by kernel_rfl
theorem VV:tbl lP=some (.code Cn):=by kernel_rfl
theorem zbI:tbl mC=some (.code I1):=by kernel_rfl
theorem SK:tbl j4=some (.code zJ):=by kernel_rfl
theorem VX:tbl lQ=some (.code Cp):=by kernel_rfl
theorem Eu:tbl i8=some (.code m8):=by kernel_rfl
theorem ND:tbl rD=some (.code F6):=by kernel_rfl
theorem Gs:tbl j0=some (.code ov):=by kernel_rfl
theorem NC:tbl pN=some (.code vu):=by kernel_rfl
theorem rT:tbl dj=some (.code eX):=by kernel_rfl
theorem VY:tbl sB=some (.code Cq):=by kernel_rfl
theorem VW:tbl wy=some (.code Co):=by kernel_rfl
theorem pi:tbl cO=some (.code d4):=by kernel_rfl
theorem Gu:tbl gO=some (.code oy):=by kernel_rfl
theorem Js:tbl mB=some (.code rI):=by kernel_rfl
theorem Gr:tbl gN=some (.code j8):=by kernel_rfl
theorem wb:tbl ei=some (.code gU):=by kernel_rfl
theorem Gt:tbl j3=some (.code ow):=by kernel_rfl
theorem yq:tbl b7=some (.code jm):=by kernel_rfl
theorem yr:tbl cT=some (.code jp):=by kernel_rfl
theorem Br:tbl dy=some (.code kS):=by kernel_rfl
theorem Il:tbl lc=some (.code p8):=by kernel_rfl
theorem uE:tbl cp=some (.code gv):=by kernel_rfl
theorem sX:tbl b8=some (.code fy):=by kernel_rfl
theorem sW:tbl bO=some (.code fx):=by kernel_rfl
theorem pj:tbl bo=some (.code d5):=by kernel_rfl
theorem tJ:tbl ca=some (.code fM):=by kernel_rfl
theorem NA:tbl pM=some (.code vr):=by kernel_rfl
theorem KN:tbl dc=some (.code tk):=by kernel_rfl
theorem KT:tbl nW=some (.code tt):=by kernel_rfl
theorem Es:tbl i6=some (.code m6):=by kernel_rfl
theorem NB:tbl jc=some (.code vt):=by kernel_rfl
theorem KS:tbl kj=some (.code tq):=by kernel_rfl
theorem KR:tbl dK=some (.code tn):=by kernel_rfl
theorem xK:tbl bM=some (.code iO):=by kernel_rfl
theorem Et:tbl i7=some (.code m7):=by kernel_rfl
theorem Jr:tbl gH=some (.code rH):=by kernel_rfl
theorem Pj:tbl kG=some (.code se):=by kernel_rfl
theorem Jt:tbl mD=some (.code rJ):=by kernel_rfl
theorem Dd:tbl iC=some (.code me):=by kernel_rfl
theorem yw:tbl fF=some (.code jt):=by kernel_rfl
theorem Pp:tbl ny=some (.code xA):=by kernel_rfl
theorem Po:tbl sa=some (.code xz):=by kernel_rfl
theorem Ju:tbl mE=some (.code rK):=by kernel_rfl
theorem SP:tbl uq=some (.code zM):=by kernel_rfl
theorem SO:tbl pQ=some (.code zL):=by kernel_rfl
theorem Pi:tbl r6=some (.code xv):=by kernel_rfl
theorem Pk:tbl r7=some (.code xw):=by kernel_rfl
theorem Ai:tbl j5=some (.code j9):=by kernel_rfl
set_option maxRecDepth 100000 in
theorem zii:TblOk Tryz.prog tbl:=AllOk.tbl (P:=Tryz.prog) (l:=zih) ⟨OT,RL,Mr,zy,El,OS,xq,Mk,KB,T9,WI,RE,OG,OF,Ml,Ho,RJ,IT,OR,Ek,OP,Hm,Mm,KD,RH,OM,F3,Mp,xr,Mq,ON,Mj,RF,RG,RI,OO,zx,x5,zv,zw,Bp,Bo,Mn,OJ,OH,IS,Mo,KE,OI,RP,Hn,zA,zz,OQ,Kw,Mh,Ky,Mg,Ec,RA,TZ,TY,Mi,OC,Bl,Hk,Ed,Hj,Ee,Bq,Hh,Me,x7,xt,zB,zE,vo,rF,RU,RZ,Hp,OU,M2,Kv,KF,KG,OX,R0,OW,OV,Bm,Cc,Ef,B9,Eg,Kz,zr,Bn,Cd,Eh,Ca,Ei,Hi,Ej,B7,F1,B8,B6,Cb,Mf,OE,xY,xo,xZ,T7,xp,ux,Kt,Ku,RD,Md,Oy,T0,T1,zaM,RB,T5,D9,WH,FY,Mc,rE,T6,T3,pd,F0,IR,FX,vm,FZ,xW,xX,Bj,Hg,uw,sE,sD,pf,ti,Ma,Kn,Ks,D6,Mb,Kq,Ko,Hc,Ov,T8,Hl,KA,OD,Kx,T4,He,D5,Kr,B5,D8,Hb,Ow,wh,wi,zj,Km,IP,L6,TX,L8,zo,zp,Hf,xn,D7,IQ,vn,L9,Kp,OA,IU,Ce,x6,OL,OK,IV,RS,RO,Oz,OB,zq,trivial⟩
end Go.Proofs.YtdgiglmmpbndmaaGreatDoor
