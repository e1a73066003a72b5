import Derived.Test.YtdgiglmmpbndmaaGreatDoorMTG6
import Derived.Test.YtdgiglmmpbndmaaGreatDoorML7
import Derived.Test.YtdgiglmmpbndmaaGreatDoorRows
import Derived.Test.YtdgiglmmpbndmaaGreatDoorMBn
set_option linter.unusedVariables false
set_option linter.unusedSimpArgs false
namespace Go.Proofs.YtdgiglmmpbndmaaGreatDoor
open Go Go.Av Go.Ev
theorem R1:OkE Tryz.prog nN (.nat HG):=zhP Tryz.strconv_Itoa
theorem TR:Entry Tryz.prog 20 uG:=bq Tryz.func20 (by kernel_rfl)
theorem TT:Entry Tryz.prog 17 uI:=bq Tryz.func17 (by kernel_rfl)
theorem UE:Entry Tryz.prog 192 Jy:=bq Tryz.func192 (by kernel_rfl)
theorem XI:Entry Tryz.prog 171 LA:=bq Tryz.func171 (by kernel_rfl)
theorem Rq:Entry Tryz.prog 114 Gs:=bq Tryz.func114 (by kernel_rfl)
theorem Dp:Entry Tryz.prog 193 sI:=bq Tryz.func193 (by kernel_rfl)
theorem Ie:Entry Tryz.prog 225 wO:=bq Tryz.func225 (by kernel_rfl)
theorem UD:Entry Tryz.prog 226 Jx:=bq Tryz.func226 (by kernel_rfl)
theorem Bt:Entry Tryz.prog 194 p7:=bq Tryz.func194 (by kernel_rfl)
theorem Rj:Entry Tryz.prog 284 Gl:=bq Tryz.func284 (by kernel_rfl)
theorem O6:Entry Tryz.prog 283 EJ:=bq Tryz.func283 (by kernel_rfl)
theorem za1:Entry Tryz.prog 212 Ax:=bq Tryz.func212 (by kernel_rfl)
theorem zdq:Entry Tryz.prog 213 Dv:=bq Tryz.func213 (by kernel_rfl)
theorem Xz:Entry Tryz.prog 175 xl:=bq Tryz.func175 (by kernel_rfl)
theorem TZ:Entry Tryz.prog 133 uM:=bq Tryz.func133 (by kernel_rfl)
theorem TY:Entry Tryz.prog 258 Jn:=bq Tryz.func258 (by kernel_rfl)
theorem Rk:Entry Tryz.prog 259 Gm:=bq Tryz.func259 (by kernel_rfl)
theorem Lp:Entry Tryz.prog 227 AB:=bq Tryz.func227 (by kernel_rfl)
theorem XH:Entry Tryz.prog 129 xp:=bq Tryz.func129 (by kernel_rfl)
theorem M3:Entry Tryz.prog 141 Cg:=bq Tryz.func141 (by kernel_rfl)
theorem UC:Entry Tryz.prog 142 Jw:=bq Tryz.func142 (by kernel_rfl)
theorem Ic:Entry Tryz.prog 144 wN:=bq Tryz.func144 (by kernel_rfl)
theorem UA:Entry Tryz.prog 172 Ju:=bq Tryz.func172 (by kernel_rfl)
theorem Lm:Entry Tryz.prog 260 Ay:=bq Tryz.func260 (by kernel_rfl)
theorem Rl:Entry Tryz.prog 274 Gn:=bq Tryz.func274 (by kernel_rfl)
theorem O7:Entry Tryz.prog 247 EK:=bq Tryz.func247 (by kernel_rfl)
theorem XF:Entry Tryz.prog 285 Ly:=bq Tryz.func285 (by kernel_rfl)
theorem Uw:Entry Tryz.prog 261 Js:=bq Tryz.func261 (by kernel_rfl)
theorem J2:Entry Tryz.prog 228 yp:=bq Tryz.func228 (by kernel_rfl)
theorem Ro:Entry Tryz.prog 62 sH:=bq Tryz.func62 (by kernel_rfl)
theorem Bu:Entry Tryz.prog 195 p8:=bq Tryz.func195 (by kernel_rfl)
theorem Rp:Entry Tryz.prog 229 Gr:=bq Tryz.func229 (by kernel_rfl)
theorem Ux:Entry Tryz.prog 130 uU:=bq Tryz.func130 (by kernel_rfl)
theorem Ri:Entry Tryz.prog 296 Gk:=bq Tryz.func296 (by kernel_rfl)
theorem XA:Entry Tryz.prog 295 Lw:=bq Tryz.func295 (by kernel_rfl)
theorem XC:Entry Tryz.prog 286 Lx:=bq Tryz.func286 (by kernel_rfl)
theorem XG:Entry Tryz.prog 262 Lz:=bq Tryz.func262 (by kernel_rfl)
theorem Uz:Entry Tryz.prog 230 Jt:=bq Tryz.func230 (by kernel_rfl)
theorem Dn:Entry Tryz.prog 244 sG:=bq Tryz.func244 (by kernel_rfl)
theorem B6:Entry Tryz.prog 299 rk:=bq Tryz.func299 (by kernel_rfl)
theorem Dl:Entry Tryz.prog 293 sE:=bq Tryz.func293 (by kernel_rfl)
theorem Dm:Entry Tryz.prog 273 sF:=bq Tryz.func273 (by kernel_rfl)
theorem E6:Entry Tryz.prog 243 tw:=bq Tryz.func243 (by kernel_rfl)
theorem E5:Entry Tryz.prog 206 tv:=bq Tryz.func206 (by kernel_rfl)
theorem Rm:Entry Tryz.prog 252 Gp:=bq Tryz.func252 (by kernel_rfl)
theorem T3:Entry Tryz.prog 245 Jr:=bq Tryz.func245 (by kernel_rfl)
theorem T0:Entry Tryz.prog 207 Jo:=bq Tryz.func207 (by kernel_rfl)
theorem M2:Entry Tryz.prog 246 Cf:=bq Tryz.func246 (by kernel_rfl)
theorem Rn:Entry Tryz.prog 248 Gq:=bq Tryz.func248 (by kernel_rfl)
theorem O8:Entry Tryz.prog 208 EL:=bq Tryz.func208 (by kernel_rfl)
theorem T2:Entry Tryz.prog 170 Jq:=bq Tryz.func170 (by kernel_rfl)
theorem XJ:Entry Tryz.prog 231 LB:=bq Tryz.func231 (by kernel_rfl)
theorem Lo:Entry Tryz.prog 131 nv:=bq Tryz.func131 (by kernel_rfl)
theorem Dr:Entry Tryz.prog 196 sK:=bq Tryz.func196 (by kernel_rfl)
theorem Dq:Entry Tryz.prog 162 sJ:=bq Tryz.func162 (by kernel_rfl)
theorem UB:Entry Tryz.prog 88 Jv:=bq Tryz.func88 (by kernel_rfl)
theorem OY:Entry Tryz.prog 35 EI:=bq Tryz.func35 (by kernel_rfl)
theorem Re:Entry Tryz.prog 89 sB:=bq Tryz.func89 (by kernel_rfl)
theorem O3:Entry Tryz.prog 197 qI:=bq Tryz.func197 (by kernel_rfl)
theorem Rc:Entry Tryz.prog 163 sA:=bq Tryz.func163 (by kernel_rfl)
theorem H4:Entry Tryz.prog 91 kA:=bq Tryz.func91 (by kernel_rfl)
theorem Xw:Entry Tryz.prog 254 xk:=bq Tryz.func254 (by kernel_rfl)
theorem zaS:Entry Tryz.prog 218 An:=bq Tryz.func218 (by kernel_rfl)
theorem zaR:Entry Tryz.prog 183 Am:=bq Tryz.func183 (by kernel_rfl)
theorem Rf:Entry Tryz.prog 146 sC:=bq Tryz.func146 (by kernel_rfl)
theorem TV:Entry Tryz.prog 95 uK:=bq Tryz.func95 (by kernel_rfl)
theorem EZ:Entry Tryz.prog 94 iK:=bq Tryz.func94 (by kernel_rfl)
theorem Lk:Entry Tryz.prog 93 nq:=bq Tryz.func93 (by kernel_rfl)
theorem H5:Entry Tryz.prog 92 kB:=bq Tryz.func92 (by kernel_rfl)
theorem Lj:Entry Tryz.prog 90 np:=bq Tryz.func90 (by kernel_rfl)
theorem H6:Entry Tryz.prog 96 kC:=bq Tryz.func96 (by kernel_rfl)
theorem E8:Entry Tryz.prog 199 iO:=bq Tryz.func199 (by kernel_rfl)
theorem Lh:Entry Tryz.prog 300 nk:=bq Tryz.func300 (by kernel_rfl)
theorem Ra:Entry Tryz.prog 297 sx:=bq Tryz.func297 (by kernel_rfl)
theorem Cb:Entry Tryz.prog 287 fQ:=bq Tryz.func287 (by kernel_rfl)
theorem Bv:Entry Tryz.prog 288 fm:=bq Tryz.func288 (by kernel_rfl)
theorem Ds:Entry Tryz.prog 263 g9:=bq Tryz.func263 (by kernel_rfl)
theorem Dt:Entry Tryz.prog 232 hH:=bq Tryz.func232 (by kernel_rfl)
theorem yl:Entry Tryz.prog 198 eg:=bq Tryz.func198 (by kernel_rfl)
theorem tP:Entry Tryz.prog 165 de:=bq Tryz.func165 (by kernel_rfl)
theorem XP:Entry Tryz.prog 289 xw:=bq Tryz.func289 (by kernel_rfl)
theorem XQ:Entry Tryz.prog 264 xx:=bq Tryz.func264 (by kernel_rfl)
theorem Lq:Entry Tryz.prog 233 nw:=bq Tryz.func233 (by kernel_rfl)
theorem UJ:Entry Tryz.prog 200 u4:=bq Tryz.func200 (by kernel_rfl)
theorem OX:Entry Tryz.prog 234 qG:=bq Tryz.func234 (by kernel_rfl)
theorem Pf:Entry Tryz.prog 291 qO:=bq Tryz.func291 (by kernel_rfl)
theorem Pg:Entry Tryz.prog 266 qP:=bq Tryz.func266 (by kernel_rfl)
theorem UM:Entry Tryz.prog 235 u7:=bq Tryz.func235 (by kernel_rfl)
theorem XR:Entry Tryz.prog 201 xy:=bq Tryz.func201 (by kernel_rfl)
theorem UL:Entry Tryz.prog 166 u6:=bq Tryz.func166 (by kernel_rfl)
set_option maxRecDepth 8000 in
theorem UK:EntryD Tryz.prog 99 u5:=⟨⟨Tryz.f99,_,_,_,_,_,_,_,_,_,_,_,Tryz.func99,by kernel_rfl,rfl,by kernel_rfl,by kernel_rfl,⟨⟨Tryz.f164,_,_,_,_,_,_,_,Tryz.func164,by kernel_rfl,by kernel_rfl,rfl,⟨#[],by kernel_rfl⟩,by kernel_rfl⟩⟩,by kernel_rfl,by kernel_rfl⟩,by kernel_rfl⟩
theorem E0:Entry Tryz.prog 98 iL:=bq Tryz.func98 (by kernel_rfl)
theorem F9:Entry Tryz.prog 93 jG:=bq Tryz.func93 (by kernel_rfl)
theorem H7:Entry Tryz.prog 97 kD:=bq Tryz.func97 (by kernel_rfl)
theorem F6:Entry Tryz.prog 90 jC:=bq Tryz.func90 (by kernel_rfl)
theorem H8:Entry Tryz.prog 100 kE:=bq Tryz.func100 (by kernel_rfl)
theorem O4:Entry Tryz.prog 167 qJ:=bq Tryz.func167 (by kernel_rfl)
theorem Dk:Entry Tryz.prog 103 gZ:=bq Tryz.func103 (by kernel_rfl)
theorem E4:Entry Tryz.prog 102 iM:=bq Tryz.func102 (by kernel_rfl)
theorem Ga:Entry Tryz.prog 93 jH:=bq Tryz.func93 (by kernel_rfl)
theorem H9:Entry Tryz.prog 101 kF:=bq Tryz.func101 (by kernel_rfl)
theorem F7:Entry Tryz.prog 90 jD:=bq Tryz.func90 (by kernel_rfl)
theorem Ia:Entry Tryz.prog 104 kG:=bq Tryz.func104 (by kernel_rfl)
theorem Li:Entry Tryz.prog 236 nn:=bq Tryz.func236 (by kernel_rfl)
theorem Ib:Entry Tryz.prog 202 kH:=bq Tryz.func202 (by kernel_rfl)
theorem F4:Entry Tryz.prog 203 jA:=bq Tryz.func203 (by kernel_rfl)
theorem J0:Entry Tryz.prog 168 l7:=bq Tryz.func168 (by kernel_rfl)
theorem F5:Entry Tryz.prog 106 jB:=bq Tryz.func106 (by kernel_rfl)
theorem F3:Entry Tryz.prog 105 jz:=bq Tryz.func105 (by kernel_rfl)
theorem F8:Entry Tryz.prog 90 jF:=bq Tryz.func90 (by kernel_rfl)
theorem Rb:Entry Tryz.prog 36 sy:=bq Tryz.func36 (by kernel_rfl)
theorem TX:Entry Tryz.prog 37 Jm:=bq Tryz.func37 (by kernel_rfl)
theorem B4:Entry Tryz.prog 267 ri:=bq Tryz.func267 (by kernel_rfl)
theorem Br:Entry Tryz.prog 268 pY:=bq Tryz.func268 (by kernel_rfl)
theorem B5:Entry Tryz.prog 237 rj:=bq Tryz.func237 (by kernel_rfl)
theorem zaZ:Entry Tryz.prog 269 Of:=bq Tryz.func269 (by kernel_rfl)
theorem Bs:Entry Tryz.prog 238 pZ:=bq Tryz.func238 (by kernel_rfl)
theorem xj:Entry Tryz.prog 239 nj:=bq Tryz.func239 (by kernel_rfl)
theorem OV:Entry Tryz.prog 270 EG:=bq Tryz.func270 (by kernel_rfl)
theorem OW:Entry Tryz.prog 292 EH:=bq Tryz.func292 (by kernel_rfl)
theorem Xy:Entry Tryz.prog 271 Lv:=bq Tryz.func271 (by kernel_rfl)
theorem Q9:Entry Tryz.prog 272 Gj:=bq Tryz.func272 (by kernel_rfl)
theorem TQ:Entry Tryz.prog 240 Jl:=bq Tryz.func240 (by kernel_rfl)
theorem zaT:Entry Tryz.prog 204 Oe:=bq Tryz.func204 (by kernel_rfl)
theorem zaU:Entry Tryz.prog 127 Ap:=bq Tryz.func127 (by kernel_rfl)
theorem zfD:Entry Tryz.prog 155 Hy:=bq Tryz.func155 (by kernel_rfl)
theorem Xx:Entry Tryz.prog 242 Lu:=bq Tryz.func242 (by kernel_rfl)
theorem zaX:Entry Tryz.prog 177 As:=bq Tryz.func177 (by kernel_rfl)
theorem H1:Entry Tryz.prog 241 wM:=bq Tryz.func241 (by kernel_rfl)
theorem zdp:Entry Tryz.prog 205 RE:=bq Tryz.func205 (by kernel_rfl)
theorem JX:Entry Tryz.prog 169 yn:=bq Tryz.func169 (by kernel_rfl)
theorem Q8:Entry Tryz.prog 107 Gi:=bq Tryz.func107 (by kernel_rfl)
theorem tO:Entry Tryz.prog 156 dc:=bq Tryz.func156 (by kernel_rfl)
theorem zaY:Entry Tryz.prog 188 Au:=bq Tryz.func188 (by kernel_rfl)
theorem zaV:Entry Tryz.prog 157 Aq:=bq Tryz.func157 (by kernel_rfl)
theorem rD:Entry Tryz.prog 158 cK:=bq Tryz.func158 (by kernel_rfl)
theorem JZ:Entry Tryz.prog 81 l6:=bq Tryz.func81 (by kernel_rfl)
theorem MZ:Entry Tryz.prog 38 Cd:=bq Tryz.func38 (by kernel_rfl)
theorem JW:Entry Tryz.prog 39 lZ:=bq Tryz.func39 (by kernel_rfl)
theorem yh:Entry Tryz.prog 159 eb:=bq Tryz.func159 (by kernel_rfl)
theorem JY:Entry Tryz.prog 82 l5:=bq Tryz.func82 (by kernel_rfl)
theorem B2:Entry Tryz.prog 40 fK:=bq Tryz.func40 (by kernel_rfl)
theorem B3:Entry Tryz.prog 108 fL:=bq Tryz.func108 (by kernel_rfl)
theorem EX:Entry Tryz.prog 41 iI:=bq Tryz.func41 (by kernel_rfl)
theorem Lg:Entry Tryz.prog 42 Ao:=bq Tryz.func42 (by kernel_rfl)
theorem xi:Entry Tryz.prog 76 dT:=bq Tryz.func76 (by kernel_rfl)
theorem vA:Entry Tryz.prog 43 lz:=bq Tryz.func43 (by kernel_rfl)
theorem vz:Entry Tryz.prog 109 ly:=bq Tryz.func109 (by kernel_rfl)
theorem rE:Entry Tryz.prog 110 iQ:=bq Tryz.func110 (by kernel_rfl)
theorem wl:Entry Tryz.prog 44 mr:=bq Tryz.func44 (by kernel_rfl)
theorem Q6:Entry Tryz.prog 45 Gh:=bq Tryz.func45 (by kernel_rfl)
theorem OP:Entry Tryz.prog 14 EF:=bq Tryz.func14 (by kernel_rfl)
theorem OU:Entry Tryz.prog 128 qF:=bq Tryz.func128 (by kernel_rfl)
theorem HY:Entry Tryz.prog 57 kq:=bq Tryz.func57 (by kernel_rfl)
theorem Q7:Entry Tryz.prog 58 sw:=bq Tryz.func58 (by kernel_rfl)
theorem OS:Entry Tryz.prog 59 qD:=bq Tryz.func59 (by kernel_rfl)
theorem OQ:Entry Tryz.prog 18 qB:=bq Tryz.func18 (by kernel_rfl)
theorem Ld:Entry Tryz.prog 147 nf:=bq Tryz.func147 (by kernel_rfl)
theorem TO:Entry Tryz.prog 68 uE:=bq Tryz.func68 (by kernel_rfl)
theorem za0:Entry Tryz.prog 179 Aw:=bq Tryz.func179 (by kernel_rfl)
theorem Ll:Entry Tryz.prog 137 nr:=bq Tryz.func137 (by kernel_rfl)
theorem O5:Entry Tryz.prog 214 qK:=bq Tryz.func214 (by kernel_rfl)
theorem TW:Entry Tryz.prog 176 uL:=bq Tryz.func176 (by kernel_rfl)
theorem OZ:Entry Tryz.prog 134 qH:=bq Tryz.func134 (by kernel_rfl)
theorem zaW:Entry Tryz.prog 135 Ar:=bq Tryz.func135 (by kernel_rfl)
theorem Le:Entry Tryz.prog 178 ng:=bq Tryz.func178 (by kernel_rfl)
theorem HX:Entry Tryz.prog 136 km:=bq Tryz.func136 (by kernel_rfl)
theorem OT:Entry Tryz.prog 63 qE:=bq Tryz.func63 (by kernel_rfl)
theorem F0:Entry Tryz.prog 70 ju:=bq Tryz.func70 (by kernel_rfl)
theorem H0:Entry Tryz.prog 69 ku:=bq Tryz.func69 (by kernel_rfl)
theorem Lc:Entry Tryz.prog 148 na:=bq Tryz.func148 (by kernel_rfl)
theorem TP:Entry Tryz.prog 149 uF:=bq Tryz.func149 (by kernel_rfl)
theorem zv:Entry Tryz.prog 221 eO:=bq Tryz.func221 (by kernel_rfl)
theorem zw:Entry Tryz.prog 219 eP:=bq Tryz.func219 (by kernel_rfl)
theorem Df:Entry Tryz.prog 220 gV:=bq Tryz.func220 (by kernel_rfl)
theorem OO:Entry Tryz.prog 184 qA:=bq Tryz.func184 (by kernel_rfl)
theorem MX:Entry Tryz.prog 185 oK:=bq Tryz.func185 (by kernel_rfl)
theorem Q3:Entry Tryz.prog 150 sr:=bq Tryz.func150 (by kernel_rfl)
theorem zaQ:Entry Tryz.prog 71 Al:=bq Tryz.func71 (by kernel_rfl)
theorem Q4:Entry Tryz.prog 24 su:=bq Tryz.func24 (by kernel_rfl)
theorem Dh:Entry Tryz.prog 79 gW:=bq Tryz.func79 (by kernel_rfl)
theorem Di:Entry Tryz.prog 69 gX:=bq Tryz.func69 (by kernel_rfl)
theorem Lf:Entry Tryz.prog 29 ni:=bq Tryz.func29 (by kernel_rfl)
theorem Bq:Entry Tryz.prog 75 fk:=bq Tryz.func75 (by kernel_rfl)
theorem HZ:Entry Tryz.prog 77 kt:=bq Tryz.func77 (by kernel_rfl)
theorem MY:Entry Tryz.prog 27 oL:=bq Tryz.func27 (by kernel_rfl)
theorem yi:Entry Tryz.prog 80 ee:=bq Tryz.func80 (by kernel_rfl)
theorem Q5:Entry Tryz.prog 31 sv:=bq Tryz.func31 (by kernel_rfl)
theorem OR:Entry Tryz.prog 22 qC:=bq Tryz.func22 (by kernel_rfl)
theorem TU:Entry Tryz.prog 13 uJ:=bq Tryz.func13 (by kernel_rfl)
theorem T4:Entry Tryz.prog 132 uN:=bq Tryz.func132 (by kernel_rfl)
theorem XO:Entry Tryz.prog 60 xv:=bq Tryz.func60 (by kernel_rfl)
theorem Rs:Entry Tryz.prog 61 sM:=bq Tryz.func61 (by kernel_rfl)
theorem UH:Entry Tryz.prog 19 uY:=bq Tryz.func19 (by kernel_rfl)
theorem F1:Entry Tryz.prog 4 jv:=bq Tryz.func4 (by kernel_rfl)
theorem TS:Entry Tryz.prog 21 uH:=bq Tryz.func21 (by kernel_rfl)
theorem XB:Entry Tryz.prog 182 xm:=bq Tryz.func182 (by kernel_rfl)
theorem M0:Entry Tryz.prog 145 oM:=bq Tryz.func145 (by kernel_rfl)
theorem Rh:Entry Tryz.prog 180 sD:=bq Tryz.func180 (by kernel_rfl)
theorem Uy:Entry Tryz.prog 138 uV:=bq Tryz.func138 (by kernel_rfl)
theorem Pd:Entry Tryz.prog 64 qM:=bq Tryz.func64 (by kernel_rfl)
theorem T7:Entry Tryz.prog 139 uQ:=bq Tryz.func139 (by kernel_rfl)
theorem T6:Entry Tryz.prog 65 uP:=bq Tryz.func65 (by kernel_rfl)
theorem Uv:Entry Tryz.prog 140 uT:=bq Tryz.func140 (by kernel_rfl)
theorem O9:Entry Tryz.prog 66 qL:=bq Tryz.func66 (by kernel_rfl)
theorem J1:Entry Tryz.prog 215 yo:=bq Tryz.func215 (by kernel_rfl)
theorem M1:Entry Tryz.prog 216 Ce:=bq Tryz.func216 (by kernel_rfl)
theorem yj:Entry Tryz.prog 253 nR:=bq Tryz.func253 (by kernel_rfl)
theorem zx:Entry Tryz.prog 217 o9:=bq Tryz.func217 (by kernel_rfl)
theorem T1:Entry Tryz.prog 181 Jp:=bq Tryz.func181 (by kernel_rfl)
theorem If:Entry Tryz.prog 143 wP:=bq Tryz.func143 (by kernel_rfl)
theorem za5:Entry Tryz.prog 67 AF:=bq Tryz.func67 (by kernel_rfl)
theorem UI:Entry Tryz.prog 23 uZ:=bq Tryz.func23 (by kernel_rfl)
theorem F2:Entry Tryz.prog 5 jx:=bq Tryz.func5 (by kernel_rfl)
theorem T9:Entry Tryz.prog 151 uS:=bq Tryz.func151 (by kernel_rfl)
theorem XL:Entry Tryz.prog 152 xr:=bq Tryz.func152 (by kernel_rfl)
theorem UF:Entry Tryz.prog 72 uW:=bq Tryz.func72 (by kernel_rfl)
theorem UG:Entry Tryz.prog 153 uX:=bq Tryz.func153 (by kernel_rfl)
theorem Do:Entry Tryz.prog 222 g8:=bq Tryz.func222 (by kernel_rfl)
theorem za3:Entry Tryz.prog 223 AA:=bq Tryz.func223 (by kernel_rfl)
theorem Ln:Entry Tryz.prog 222 nu:=bq Tryz.func222 (by kernel_rfl)
theorem za2:Entry Tryz.prog 186 Az:=bq Tryz.func186 (by kernel_rfl)
theorem XD:Entry Tryz.prog 187 xn:=bq Tryz.func187 (by kernel_rfl)
theorem za6:Entry Tryz.prog 154 AG:=bq Tryz.func154 (by kernel_rfl)
theorem za4:Entry Tryz.prog 73 AD:=bq Tryz.func73 (by kernel_rfl)
theorem XM:Entry Tryz.prog 25 xt:=bq Tryz.func25 (by kernel_rfl)
theorem XE:Entry Tryz.prog 74 xo:=bq Tryz.func74 (by kernel_rfl)
theorem XK:Entry Tryz.prog 26 xq:=bq Tryz.func26 (by kernel_rfl)
theorem H2:Entry Tryz.prog 6 kw:=bq Tryz.func6 (by kernel_rfl)
theorem Gb:Entry Tryz.prog 117 jI:=bq Tryz.func117 (by kernel_rfl)
theorem M4:Entry Tryz.prog 56 oN:=bq Tryz.func56 (by kernel_rfl)
theorem E7:Entry Tryz.prog 49 iN:=bq Tryz.func49 (by kernel_rfl)
theorem Ca:Entry Tryz.prog 118 fP:=bq Tryz.func118 (by kernel_rfl)
theorem Gc:Entry Tryz.prog 119 jJ:=bq Tryz.func119 (by kernel_rfl)
theorem zz:Entry Tryz.prog 78 eR:=bq Tryz.func78 (by kernel_rfl)
theorem B7:Entry Tryz.prog 117 fM:=bq Tryz.func117 (by kernel_rfl)
theorem B8:Entry Tryz.prog 119 fN:=bq Tryz.func119 (by kernel_rfl)
theorem zy:Entry Tryz.prog 123 eQ:=bq Tryz.func123 (by kernel_rfl)
theorem yk:Entry Tryz.prog 54 ef:=bq Tryz.func54 (by kernel_rfl)
theorem Rr:Entry Tryz.prog 28 sL:=bq Tryz.func28 (by kernel_rfl)
theorem Gd:Entry Tryz.prog 124 jN:=bq Tryz.func124 (by kernel_rfl)
theorem B9:Entry Tryz.prog 125 fO:=bq Tryz.func125 (by kernel_rfl)
theorem T8:Entry Tryz.prog 174 uR:=bq Tryz.func174 (by kernel_rfl)
theorem T5:Entry Tryz.prog 126 uO:=bq Tryz.func126 (by kernel_rfl)
theorem M5:Entry Tryz.prog 55 oO:=bq Tryz.func55 (by kernel_rfl)
theorem XN:Entry Tryz.prog 16 xu:=bq Tryz.func16 (by kernel_rfl)
theorem EY:Entry Tryz.prog 7 iJ:=bq Tryz.func7 (by kernel_rfl)
theorem Pe:Entry Tryz.prog 30 qN:=bq Tryz.func30 (by kernel_rfl)
theorem Dj:Entry Tryz.prog 9 gY:=bq Tryz.func9 (by kernel_rfl)
theorem H3:Entry Tryz.prog 10 kz:=bq Tryz.func10 (by kernel_rfl)
def zl9:List (Nat×Fun'):=[(pM,.code uG),
 (fh,.code uI),
 (TJ,.code Jy),
 (Xg,.code LA),
 (QH,.code Gs),
 (C2,.code sI),
 (HU,.code wO),
 (TI,.code Jx),
 (Bl,.code p7),
 (QB,.code Gl),
 (OI,.code EJ),
 (Ad,.code Ax),
 (CY,.code Dv),
 (sa,.code xl),
 (fj,.code uM),
 (Tv,.code Jn),
 (QC,.code Gm),
 (KX,.code AB),
 (w8,.code xp),
 (BX,.code Cg),
 (Ji,.code Jw),
 (wK,.code wN),
 (TG,.code Ju),
 (KW,.code Ay),
 (QD,.code Gn),
 (OJ,.code EK),
 (Xe,.code Ly),
 (TB,.code Js),
 (JS,.code yp),
 (nM,.code sH),
 (Bm,.code p8),
 (QG,.code Gr),
 (pR,.code uU),
 (QA,.code Gk),
 (Xc,.code Lw),
 (Xd,.code Lx),
 (Xf,.code Lz),
 (TE,.code Jt),
 (C1,.code sG),
 (BW,.code rk),
 (CZ,.code sE),
 (C0,.code sF),
 (EW,.code tw),
 (EV,.code tv),
 (QE,.code Gp),
 (TA,.code Jr),
 (Tw,.code Jo),
 (MN,.code Cf),
 (QF,.code Gq),
 (OK,.code EL),
 (Tz,.code Jq),
 (Xh,.code LB),
 (m7,.code nv),
 (C4,.code sK),
 (C3,.code sJ),
 (TH,.code Jv),
 (qv,.code EI),
 (r9,.code sB),
 (mh,.code qI),
 (ix,.code sA),
 (gq,.code kA),
 (wV,.code xk),
 (z8,.code An),
 (vr,.code Am),
 (fw,.code sC),
 (pO,.code uK),
 (eS,.code iK),
 (m6,.code nq),
 (gr,.code kB),
 (m5,.code np),
 (gu,.code kC),
 (bz,.code iO),
 (mZ,.code nk),
 (nJ,.code sx),
 (bg,.code fQ),
 (bK,.code fm),
 (ea,.code g9),
 (cE,.code hH),
 (bM,.code eg),
 (be,.code de),
 (xd,.code xw),
 (xe,.code xx),
 (fJ,.code nw),
 (uB,.code u4),
 (nN,.nat HG),
 (iW,.code qG),
 (mn,.code qO),
 (qz,.code qP),
 (hZ,.code u7),
 (jq,.code xy),
 (mH,.code u6),
 (uC,.dfr u5),
 (eT,.code iL),
 (jf,.code jG),
 (gv,.code kD),
 (jc,.code jC),
 (gw,.code kE),
 (ct,.code qJ),
 (gT,.code gZ),
 (eU,.code iM),
 (jg,.code jH),
 (gx,.code kF),
 (jd,.code jD),
 (gy,.code kG),
 (m4,.code nn),
 (kj,.code kH),
 (ja,.code jA),
 (lX,.code l7),
 (jb,.code jB),
 (fv,.code jz),
 (je,.code jF),
 (kO,.code sy),
 (Tu,.code Jm),
 (BS,.code ri),
 (Bi,.code pY),
 (BU,.code rj),
 (zad,.code Of),
 (Bj,.code pZ),
 (wW,.code nj),
 (OG,.code EG),
 (OH,.code EH),
 (Xb,.code Lv),
 (Qz,.code Gj),
 (Tt,.code Jl),
 (zac,.code Oe),
 (ra,.code Ap),
 (BR,.code Hy),
 (CX,.code Lu),
 (rb,.code As),
 (HT,.code wM),
 (zc1,.code RE),
 (JQ,.code yn),
 (Qy,.code Gi),
 (da,.code dc),
 (vu,.code Au),
 (Aa,.code Aq),
 (cJ,.code cK),
 (iw,.code l6),
 (ML,.code Cd),
 (lV,.code lZ),
 (d6,.code eb),
 (iv,.code l5),
 (fF,.code fK),
 (cR,.code fL),
 (iG,.code iI),
 (KV,.code Ao),
 (dS,.code dT),
 (vt,.code lz),
 (ft,.code ly),
 (dU,.code iQ),
 (wi,.code mr),
 (Qx,.code Gh),
 (fZ,.code EF),
 (qu,.code qF),
 (gp,.code kq),
 (kN,.code sw),
 (mf,.code qD),
 (cG,.code qB),
 (mX,.code nf),
 (uo,.code uE),
 (Ac,.code Aw),
 (jh,.code nr),
 (qx,.code qK),
 (ut,.code uL),
 (qw,.code qH),
 (Ab,.code Ar),
 (mY,.code ng),
 (kg,.code km),
 (mg,.code qE),
 (fq,.code ju),
 (ki,.code ku),
 (mW,.code na),
 (uq,.code uF),
 (dn,.code eO),
 (dq,.code eP),
 (gR,.code gV),
 (qt,.code qA),
 (oG,.code oK),
 (r8,.code sr),
 (z7,.code Al),
 (kM,.code su),
 (d5,.code gW),
 (gS,.code gX),
 (dt,.code ni),
 (bJ,.code fk),
 (kh,.code kt),
 (eZ,.code oL),
 (d7,.code ee),
 (iu,.code sv),
 (iV,.code qC),
 (bZ,.code uJ),
 (pP,.code uN),
 (sf,.code xv),
 (kQ,.code sM),
 (jZ,.code uY),
 (nK,.code jv),
 (pN,.code uH),
 (wX,.code xm),
 (kP,.code oM),
 (sd,.code sD),
 (uy,.code uV),
 (mj,.code qM),
 (mG,.code uQ),
 (uv,.code uP),
 (ux,.code uT),
 (mi,.code qL),
 (JR,.code yo),
 (MM,.code Ce),
 (yc,.code nR),
 (zu,.code o9),
 (Tx,.code Jp),
 (wL,.code wP),
 (Ah,.code AF),
 (pS,.code uZ),
 (nL,.code jx),
 (uw,.code uS),
 (oH,.code xr),
 (uz,.code uW),
 (uA,.code uX),
 (gU,.code g8),
 (Af,.code AA),
 (ji,.code nu),
 (Ae,.code Az),
 (wY,.code xn),
 (Ai,.code AG),
 (Ag,.code AD),
 (xc,.code xt),
 (wZ,.code xo),
 (w9,.code xq),
 (pw,.code kw),
 (jl,.code jI),
 (kR,.code oN),
 (iH,.code iN),
 (fI,.code fP),
 (jm,.code jJ),
 (cB,.code eR),
 (fG,.code fM),
 (dL,.code fN),
 (cA,.code eQ),
 (d9,.code ef),
 (se,.code sL),
 (jp,.code jN),
 (fH,.code fO),
 (pQ,.code uR),
 (uu,.code uO),
 (oI,.code oO),
 (jk,.code xu),
 (mQ,.code iJ),
 (qy,.code qN),
 (lW,.code gY),
 (px,.code kz)]
abbrev tbl:Nat->Option Fun':=zbs zl9
theorem U0:tbl pM=some (.code uG):=by kernel_rfl
theorem U2:tbl fh=some (.code uI):=by kernel_rfl
theorem zcs:tbl Ad=some (.code Ax):=by kernel_rfl
theorem zef:tbl CY=some (.code Dv):=by kernel_rfl
theorem Yz:tbl sa=some (.code xl):=by kernel_rfl
theorem U6:tbl fj=some (.code uM):=by kernel_rfl
theorem s8:tbl w8=some (.code xp):=by kernel_rfl
theorem SI:tbl nM=some (.code sH):=by kernel_rfl
theorem Vf:tbl pR=some (.code uU):=by kernel_rfl
theorem Mm:tbl m7=some (.code nv):=by kernel_rfl
theorem SF:tbl r9=some (.code sB):=by kernel_rfl
theorem Pt:tbl mh=some (.code qI):=by kernel_rfl
theorem SE:tbl ix=some (.code sA):=by kernel_rfl
theorem Ip:tbl gq=some (.code kA):=by kernel_rfl
theorem Yy:tbl wV=some (.code xk):=by kernel_rfl
theorem zcl:tbl z8=some (.code An):=by kernel_rfl
theorem zck:tbl vr=some (.code Am):=by kernel_rfl
theorem SG:tbl fw=some (.code sC):=by kernel_rfl
theorem U4:tbl pO=some (.code uK):=by kernel_rfl
theorem Fe:tbl eS=some (.code iK):=by kernel_rfl
theorem Mj:tbl m6=some (.code nq):=by kernel_rfl
theorem Iq:tbl gr=some (.code kB):=by kernel_rfl
theorem Mi:tbl m5=some (.code np):=by kernel_rfl
theorem Ir:tbl gu=some (.code kC):=by kernel_rfl
theorem Fi:tbl bz=some (.code iO):=by kernel_rfl
theorem Mg:tbl mZ=some (.code nk):=by kernel_rfl
theorem SC:tbl nJ=some (.code sx):=by kernel_rfl
theorem CC:tbl bg=some (.code fQ):=by kernel_rfl
theorem BE:tbl bK=some (.code fm):=by kernel_rfl
theorem D8:tbl ea=some (.code g9):=by kernel_rfl
theorem D9:tbl cE=some (.code hH):=by kernel_rfl
theorem zg:tbl bM=some (.code eg):=by kernel_rfl
theorem lc:tbl be=some (.code de):=by kernel_rfl
theorem YI:tbl xd=some (.code xw):=by kernel_rfl
theorem YJ:tbl xe=some (.code xx):=by kernel_rfl
theorem Mn:tbl fJ=some (.code nw):=by kernel_rfl
theorem Vl:tbl uB=some (.code u4):=by kernel_rfl
theorem SL:tbl nN=some (.nat HG):=by kernel_rfl
theorem Pr:tbl iW=some (.code qG):=by kernel_rfl
theorem PC:tbl mn=some (.code qO):=by kernel_rfl
theorem PD:tbl qz=some (.code qP):=by kernel_rfl
theorem Vo:tbl hZ=some (.code u7):=by kernel_rfl
theorem YK:tbl jq=some (.code xy):=by kernel_rfl
theorem Vn:tbl mH=some (.code u6):=by kernel_rfl
theorem Vm:tbl uC=some (.dfr u5):=by kernel_rfl
theorem Ff:tbl eT=some (.code iL):=by kernel_rfl
theorem G2:tbl jf=some (.code jG):=by kernel_rfl
theorem Is:tbl gv=some (.code kD):=by kernel_rfl
theorem GY:tbl jc=some (.code jC):=by kernel_rfl
theorem It:tbl gw=some (.code kE):=by kernel_rfl
theorem Pv:tbl ct=some (.code qJ):=by kernel_rfl
theorem D6:tbl gT=some (.code gZ):=by kernel_rfl
theorem Fg:tbl eU=some (.code iM):=by kernel_rfl
theorem G3:tbl jg=some (.code jH):=by kernel_rfl
theorem Iu:tbl gx=some (.code kF):=by kernel_rfl
theorem GZ:tbl jd=some (.code jD):=by kernel_rfl
theorem Iv:tbl gy=some (.code kG):=by kernel_rfl
theorem Mh:tbl m4=some (.code nn):=by kernel_rfl
theorem Iw:tbl kj=some (.code kH):=by kernel_rfl
theorem GV:tbl ja=some (.code jA):=by kernel_rfl
theorem Kp:tbl lX=some (.code l7):=by kernel_rfl
theorem GX:tbl jb=some (.code jB):=by kernel_rfl
theorem GU:tbl fv=some (.code jz):=by kernel_rfl
theorem G1:tbl je=some (.code jF):=by kernel_rfl
theorem SD:tbl kO=some (.code sy):=by kernel_rfl
theorem zcm:tbl ra=some (.code Ap):=by kernel_rfl
theorem zgu:tbl BR=some (.code Hy):=by kernel_rfl
theorem zcp:tbl rb=some (.code As):=by kernel_rfl
theorem ue:tbl da=some (.code dc):=by kernel_rfl
theorem zcq:tbl vu=some (.code Au):=by kernel_rfl
theorem zcn:tbl Aa=some (.code Aq):=by kernel_rfl
theorem rF:tbl cJ=some (.code cK):=by kernel_rfl
theorem Ko:tbl iw=some (.code l6):=by kernel_rfl
theorem Km:tbl lV=some (.code lZ):=by kernel_rfl
theorem za:tbl d6=some (.code eb):=by kernel_rfl
theorem Kn:tbl iv=some (.code l5):=by kernel_rfl
theorem Cu:tbl fF=some (.code fK):=by kernel_rfl
theorem Cv:tbl cR=some (.code fL):=by kernel_rfl
theorem Fb:tbl iG=some (.code iI):=by kernel_rfl
theorem xE:tbl dS=some (.code dT):=by kernel_rfl
theorem Pq:tbl qu=some (.code qF):=by kernel_rfl
theorem Ij:tbl gp=some (.code kq):=by kernel_rfl
theorem SB:tbl kN=some (.code sw):=by kernel_rfl
theorem Po:tbl mf=some (.code qD):=by kernel_rfl
theorem Pm:tbl cG=some (.code qB):=by kernel_rfl
theorem Md:tbl mX=some (.code nf):=by kernel_rfl
theorem UY:tbl uo=some (.code uE):=by kernel_rfl
theorem zcr:tbl Ac=some (.code Aw):=by kernel_rfl
theorem Mk:tbl jh=some (.code nr):=by kernel_rfl
theorem Pw:tbl qx=some (.code qK):=by kernel_rfl
theorem U5:tbl ut=some (.code uL):=by kernel_rfl
theorem Ps:tbl qw=some (.code qH):=by kernel_rfl
theorem zco:tbl Ab=some (.code Ar):=by kernel_rfl
theorem Me:tbl mY=some (.code ng):=by kernel_rfl
theorem Ii:tbl kg=some (.code km):=by kernel_rfl
theorem Pp:tbl mg=some (.code qE):=by kernel_rfl
theorem GP:tbl fq=some (.code ju):=by kernel_rfl
theorem Il:tbl ki=some (.code ku):=by kernel_rfl
theorem Mc:tbl mW=some (.code na):=by kernel_rfl
theorem UZ:tbl uq=some (.code uF):=by kernel_rfl
theorem zB:tbl dn=some (.code eO):=by kernel_rfl
theorem zD:tbl dq=some (.code eP):=by kernel_rfl
theorem DY:tbl gR=some (.code gV):=by kernel_rfl
theorem Pk:tbl qt=some (.code qA):=by kernel_rfl
theorem NC:tbl oG=some (.code oK):=by kernel_rfl
theorem Sy:tbl r8=some (.code sr):=by kernel_rfl
theorem zcj:tbl z7=some (.code Al):=by kernel_rfl
theorem Sz:tbl kM=some (.code su):=by kernel_rfl
theorem DZ:tbl d5=some (.code gW):=by kernel_rfl
theorem D3:tbl gS=some (.code gX):=by kernel_rfl
theorem Mf:tbl dt=some (.code ni):=by kernel_rfl
theorem BD:tbl bJ=some (.code fk):=by kernel_rfl
theorem Ik:tbl kh=some (.code kt):=by kernel_rfl
theorem ND:tbl eZ=some (.code oL):=by kernel_rfl
theorem zc:tbl d7=some (.code ee):=by kernel_rfl
theorem SA:tbl iu=some (.code sv):=by kernel_rfl
theorem Pn:tbl iV=some (.code qC):=by kernel_rfl
theorem U3:tbl bZ=some (.code uJ):=by kernel_rfl
theorem U7:tbl pP=some (.code uN):=by kernel_rfl
theorem YH:tbl sf=some (.code xv):=by kernel_rfl
theorem SK:tbl kQ=some (.code sM):=by kernel_rfl
theorem Vj:tbl jZ=some (.code uY):=by kernel_rfl
theorem GQ:tbl nK=some (.code jv):=by kernel_rfl
theorem U1:tbl pN=some (.code uH):=by kernel_rfl
theorem YA:tbl wX=some (.code xm):=by kernel_rfl
theorem NE:tbl kP=some (.code oM):=by kernel_rfl
theorem SH:tbl sd=some (.code sD):=by kernel_rfl
theorem Vg:tbl uy=some (.code uV):=by kernel_rfl
theorem Py:tbl mj=some (.code qM):=by kernel_rfl
theorem Va:tbl mG=some (.code uQ):=by kernel_rfl
theorem U9:tbl uv=some (.code uP):=by kernel_rfl
theorem Ve:tbl ux=some (.code uT):=by kernel_rfl
theorem Px:tbl mi=some (.code qL):=by kernel_rfl
theorem zcw:tbl Ah=some (.code AF):=by kernel_rfl
theorem Vk:tbl pS=some (.code uZ):=by kernel_rfl
theorem GR:tbl nL=some (.code jx):=by kernel_rfl
theorem Vd:tbl uw=some (.code uS):=by kernel_rfl
theorem YE:tbl oH=some (.code xr):=by kernel_rfl
theorem Vh:tbl uz=some (.code uW):=by kernel_rfl
theorem Vi:tbl uA=some (.code uX):=by kernel_rfl
theorem D7:tbl gU=some (.code g8):=by kernel_rfl
theorem zcu:tbl Af=some (.code AA):=by kernel_rfl
theorem Ml:tbl ji=some (.code nu):=by kernel_rfl
theorem zct:tbl Ae=some (.code Az):=by kernel_rfl
theorem YB:tbl wY=some (.code xn):=by kernel_rfl
theorem zcx:tbl Ai=some (.code AG):=by kernel_rfl
theorem zcv:tbl Ag=some (.code AD):=by kernel_rfl
theorem YF:tbl xc=some (.code xt):=by kernel_rfl
theorem YC:tbl wZ=some (.code xo):=by kernel_rfl
theorem YD:tbl w9=some (.code xq):=by kernel_rfl
theorem Im:tbl pw=some (.code kw):=by kernel_rfl
theorem G4:tbl jl=some (.code jI):=by kernel_rfl
theorem NF:tbl kR=some (.code oN):=by kernel_rfl
theorem Fh:tbl iH=some (.code iN):=by kernel_rfl
theorem Cz:tbl fI=some (.code fP):=by kernel_rfl
theorem G5:tbl jm=some (.code jJ):=by kernel_rfl
theorem zF:tbl cB=some (.code eR):=by kernel_rfl
theorem Cw:tbl fG=some (.code fM):=by kernel_rfl
theorem Cx:tbl dL=some (.code fN):=by kernel_rfl
theorem zE:tbl cA=some (.code eQ):=by kernel_rfl
theorem ze:tbl d9=some (.code ef):=by kernel_rfl
theorem SJ:tbl se=some (.code sL):=by kernel_rfl
theorem G6:tbl jp=some (.code jN):=by kernel_rfl
theorem Cy:tbl fH=some (.code fO):=by kernel_rfl
theorem Vb:tbl pQ=some (.code uR):=by kernel_rfl
theorem U8:tbl uu=some (.code uO):=by kernel_rfl
theorem NG:tbl oI=some (.code oO):=by kernel_rfl
theorem YG:tbl jk=some (.code xu):=by kernel_rfl
theorem Fc:tbl mQ=some (.code iJ):=by kernel_rfl
theorem Pz:tbl qy=some (.code qN):=by kernel_rfl
theorem D5:tbl lW=some (.code gY):=by kernel_rfl
theorem Io:tbl px=some (.code kz):=by kernel_rfl
set_option maxRecDepth 100000 in
theorem WR:TblOk Tryz.prog tbl:=AllOk.tbl (P:=Tryz.prog) (l:=zl9) ⟨TR,TT,UE,XI,Rq,Dp,Ie,UD,Bt,Rj,O6,za1,zdq,Xz,TZ,TY,Rk,Lp,XH,M3,UC,Ic,UA,Lm,Rl,O7,XF,Uw,J2,Ro,Bu,Rp,Ux,Ri,XA,XC,XG,Uz,Dn,B6,Dl,Dm,E6,E5,Rm,T3,T0,M2,Rn,O8,T2,XJ,Lo,Dr,Dq,UB,OY,Re,O3,Rc,H4,Xw,zaS,zaR,Rf,TV,EZ,Lk,H5,Lj,H6,E8,Lh,Ra,Cb,Bv,Ds,Dt,yl,tP,XP,XQ,Lq,UJ,R1,OX,Pf,Pg,UM,XR,UL,UK,E0,F9,H7,F6,H8,O4,Dk,E4,Ga,H9,F7,Ia,Li,Ib,F4,J0,F5,F3,F8,Rb,TX,B4,Br,B5,zaZ,Bs,xj,OV,OW,Xy,Q9,TQ,zaT,zaU,zfD,Xx,zaX,H1,zdp,JX,Q8,tO,zaY,zaV,rD,JZ,MZ,JW,yh,JY,B2,B3,EX,Lg,xi,vA,vz,rE,wl,Q6,OP,OU,HY,Q7,OS,OQ,Ld,TO,za0,Ll,O5,TW,OZ,zaW,Le,HX,OT,F0,H0,Lc,TP,zv,zw,Df,OO,MX,Q3,zaQ,Q4,Dh,Di,Lf,Bq,HZ,MY,yi,Q5,OR,TU,T4,XO,Rs,UH,F1,TS,XB,M0,Rh,Uy,Pd,T7,T6,Uv,O9,J1,M1,yj,zx,T1,If,za5,UI,F2,T9,XL,UF,UG,Do,za3,Ln,za2,XD,za6,za4,XM,XE,XK,H2,Gb,M4,E7,Ca,Gc,zz,B7,B8,zy,yk,Rr,Gd,B9,T8,T5,M5,XN,EY,Pe,Dj,H3,trivial⟩
end Go.Proofs.YtdgiglmmpbndmaaGreatDoor
