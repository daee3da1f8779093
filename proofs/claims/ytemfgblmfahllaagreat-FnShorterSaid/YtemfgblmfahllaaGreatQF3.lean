/- T, Sa, Sb, Sf, Sk, Va, Vb, Vg, Vh, Sx, Sv, Sw, Vi, Vj, Vk, Vl, Vn, Vo, Xf: texts of this claim, joined; what the claim does not come to is left out. -/
import Derived.Test.YtemfgblmfahllaaGreatQF2
import Derived.Test.YtemfgblmfahllaaGreatProg
set_option linter.unusedVariables false
set_option linter.unusedSimpArgs false
namespace Go.Proofs.YtemfgblmfahllaaGreat
open Go Go.RowKit
theorem mixed:Tryz.prog.follows .mixedOrders=true:=by kernel_rfl
abbrev C4 (k:Nat):Prop:=((Tryz.prog.funcs[k]?).map fun fn=>(fn.name != "runtime.NumGoroutine") && fn.body.isSome) = some true
theorem C5 {k:Nat} (h:((Tryz.prog.funcs[k]?).map fun fn=>(fn.name != "runtime.NumGoroutine") && fn.body.isSome) = some true):C4 k:=h
theorem gI:C4 7:=C5 (by kernel_rfl)
theorem gJ:C4 8:=C5 (by kernel_rfl)
theorem fX:C4 9:=C5 (by kernel_rfl)
theorem fg:C4 10:=C5 (by kernel_rfl)
theorem fh:C4 11:=C5 (by kernel_rfl)
theorem bH:C4 12:=C5 (by kernel_rfl)
theorem fi:C4 13:=C5 (by kernel_rfl)
theorem bI:C4 14:=C5 (by kernel_rfl)
theorem bJ:C4 15:=C5 (by kernel_rfl)
theorem bK:C4 16:=C5 (by kernel_rfl)
theorem bL:C4 17:=C5 (by kernel_rfl)
theorem bM:C4 46:=C5 (by kernel_rfl)
theorem fj:C4 47:=C5 (by kernel_rfl)
theorem fk:C4 48:=C5 (by kernel_rfl)
theorem Zi:C4 49:=C5 (by kernel_rfl)
theorem fl:C4 50:=C5 (by kernel_rfl)
theorem fm:C4 51:=C5 (by kernel_rfl)
theorem fo:C4 52:=C5 (by kernel_rfl)
theorem Zj:C4 53:=C5 (by kernel_rfl)
theorem VK:C4 54:=C5 (by kernel_rfl)
theorem Zk:C4 55:=C5 (by kernel_rfl)
theorem fp:C4 56:=C5 (by kernel_rfl)
theorem fq:C4 57:=C5 (by kernel_rfl)
theorem ft:C4 58:=C5 (by kernel_rfl)
theorem fu:C4 59:=C5 (by kernel_rfl)
theorem fv:C4 60:=C5 (by kernel_rfl)
theorem fw:C4 61:=C5 (by kernel_rfl)
theorem bN:C4 62:=C5 (by kernel_rfl)
theorem fy:C4 63:=C5 (by kernel_rfl)
theorem fz:C4 64:=C5 (by kernel_rfl)
theorem fA:C4 65:=C5 (by kernel_rfl)
theorem fB:C4 66:=C5 (by kernel_rfl)
theorem bO:C4 67:=C5 (by kernel_rfl)
theorem fC:C4 68:=C5 (by kernel_rfl)
theorem PY:C4 69:=C5 (by kernel_rfl)
theorem bP:C4 70:=C5 (by kernel_rfl)
theorem bQ:C4 71:=C5 (by kernel_rfl)
theorem EA:C4 72:=C5 (by kernel_rfl)
theorem bR:C4 73:=C5 (by kernel_rfl)
theorem fE:C4 76:=C5 (by kernel_rfl)
theorem JH:C4 80:=C5 (by kernel_rfl)
theorem fF:C4 87:=C5 (by kernel_rfl)
theorem fG:C4 94:=C5 (by kernel_rfl)
theorem bS:C4 100:=C5 (by kernel_rfl)
theorem Ff:C4 101:=C5 (by kernel_rfl)
theorem P8:C4 102:=C5 (by kernel_rfl)
theorem bT:C4 103:=C5 (by kernel_rfl)
theorem P9:C4 104:=C5 (by kernel_rfl)
theorem TU:C4 110:=C5 (by kernel_rfl)
theorem bU:C4 111:=C5 (by kernel_rfl)
theorem bV:C4 112:=C5 (by kernel_rfl)
theorem XF:C4 113:=C5 (by kernel_rfl)
theorem XG:C4 114:=C5 (by kernel_rfl)
theorem bW:C4 115:=C5 (by kernel_rfl)
theorem TV:C4 116:=C5 (by kernel_rfl)
theorem LF:C4 117:=C5 (by kernel_rfl)
theorem Rk:C4 118:=C5 (by kernel_rfl)
theorem Rl:C4 119:=C5 (by kernel_rfl)
theorem TW:C4 120:=C5 (by kernel_rfl)
theorem bX:C4 121:=C5 (by kernel_rfl)
theorem XH:C4 122:=C5 (by kernel_rfl)
theorem XI:C4 123:=C5 (by kernel_rfl)
theorem bY:C4 124:=C5 (by kernel_rfl)
theorem bZ:C4 125:=C5 (by kernel_rfl)
theorem cA:C4 126:=C5 (by kernel_rfl)
theorem cB:C4 127:=C5 (by kernel_rfl)
theorem cC:C4 128:=C5 (by kernel_rfl)
theorem Rm:C4 129:=C5 (by kernel_rfl)
theorem N3:C4 130:=C5 (by kernel_rfl)
theorem cD:C4 131:=C5 (by kernel_rfl)
theorem cE:C4 132:=C5 (by kernel_rfl)
theorem cF:C4 133:=C5 (by kernel_rfl)
theorem cG:C4 136:=C5 (by kernel_rfl)
theorem cH:C4 146:=C5 (by kernel_rfl)
theorem cI:C4 147:=C5 (by kernel_rfl)
theorem cJ:C4 148:=C5 (by kernel_rfl)
theorem cK:C4 149:=C5 (by kernel_rfl)
theorem TX:C4 150:=C5 (by kernel_rfl)
theorem cL:C4 161:=C5 (by kernel_rfl)
theorem XJ:C4 162:=C5 (by kernel_rfl)
theorem Rn:C4 163:=C5 (by kernel_rfl)
theorem cM:C4 164:=C5 (by kernel_rfl)
theorem XK:C4 165:=C5 (by kernel_rfl)
theorem XL:C4 168:=C5 (by kernel_rfl)
theorem HR:C4 169:=C5 (by kernel_rfl)
theorem cN:C4 170:=C5 (by kernel_rfl)
theorem cO:C4 171:=C5 (by kernel_rfl)
theorem cP:C4 172:=C5 (by kernel_rfl)
theorem TY:C4 173:=C5 (by kernel_rfl)
theorem TZ:C4 174:=C5 (by kernel_rfl)
theorem XM:C4 175:=C5 (by kernel_rfl)
theorem XN:C4 176:=C5 (by kernel_rfl)
theorem cQ:C4 177:=C5 (by kernel_rfl)
theorem cR:C4 178:=C5 (by kernel_rfl)
theorem cS:C4 179:=C5 (by kernel_rfl)
theorem Ro:C4 180:=C5 (by kernel_rfl)
theorem Pa:C4 181:=C5 (by kernel_rfl)
theorem XO:C4 182:=C5 (by kernel_rfl)
theorem JI:C4 183:=C5 (by kernel_rfl)
theorem cT:C4 187:=C5 (by kernel_rfl)
theorem U0:C4 188:=C5 (by kernel_rfl)
theorem cU:C4 189:=C5 (by kernel_rfl)
theorem cV:C4 194:=C5 (by kernel_rfl)
theorem cW:C4 195:=C5 (by kernel_rfl)
theorem XP:C4 196:=C5 (by kernel_rfl)
theorem Rp:C4 197:=C5 (by kernel_rfl)
theorem Rq:C4 205:=C5 (by kernel_rfl)
theorem U4:C4 206:=C5 (by kernel_rfl)
theorem XQ:C4 207:=C5 (by kernel_rfl)
theorem cX:C4 208:=C5 (by kernel_rfl)
theorem XR:C4 209:=C5 (by kernel_rfl)
theorem XS:C4 210:=C5 (by kernel_rfl)
theorem cY:C4 211:=C5 (by kernel_rfl)
theorem cZ:C4 212:=C5 (by kernel_rfl)
theorem dA:C4 213:=C5 (by kernel_rfl)
theorem N4:C4 214:=C5 (by kernel_rfl)
theorem dB:C4 215:=C5 (by kernel_rfl)
theorem dC:C4 228:=C5 (by kernel_rfl)
theorem XT:C4 229:=C5 (by kernel_rfl)
theorem Rr:C4 230:=C5 (by kernel_rfl)
theorem dD:C4 240:=C5 (by kernel_rfl)
theorem dE:C4 241:=C5 (by kernel_rfl)
theorem dF:C4 248:=C5 (by kernel_rfl)
theorem dG:C4 249:=C5 (by kernel_rfl)
theorem dH:C4 254:=C5 (by kernel_rfl)
theorem AG:Cw Tryz.prog 2:=by unfold Cw;kernel_rfl
theorem Mo:Cw Tryz.prog 3:=by unfold Cw;kernel_rfl
theorem PZ:Cw Tryz.prog 4:=by unfold Cw;kernel_rfl
theorem fH:Cw Tryz.prog 5:=by unfold Cw;kernel_rfl
theorem Q0:Cw Tryz.prog 9:=by unfold Cw;kernel_rfl
theorem Rt:Cw Tryz.prog 22:=by unfold Cw;kernel_rfl
theorem CO:Cw Tryz.prog 24:=by unfold Cw;kernel_rfl
theorem BN:Cw Tryz.prog 27:=by unfold Cw;kernel_rfl
theorem BG:Cw Tryz.prog 31:=by unfold Cw;kernel_rfl
theorem Dx:Cw Tryz.prog 36:=by unfold Cw;kernel_rfl
theorem GM:Cw Tryz.prog 37:=by unfold Cw;kernel_rfl
theorem IA:Cw Tryz.prog 87:=by unfold Cw;kernel_rfl
theorem XU:Cw Tryz.prog 92:=by unfold Cw;kernel_rfl
theorem IV:Cw Tryz.prog 111:=by unfold Cw;kernel_rfl
theorem NR:Cw Tryz.prog 160:=by unfold Cw;kernel_rfl
theorem GS:(Tryz.prog.info? 2).map (·.size)=some 1:=by kernel_rfl
theorem fY:(Tryz.prog.info? 3).map (·.size)=some 1:=by kernel_rfl
theorem fI:(Tryz.prog.info? 4).map (·.size)=some 1:=by kernel_rfl
theorem fJ:(Tryz.prog.info? 24).map (·.size)=some 1:=by kernel_rfl
theorem Pb:(Tryz.prog.info? 27).map (·.size)=some 1:=by kernel_rfl
theorem U5:(Tryz.prog.info? 31).map (·.size)=some 1:=by kernel_rfl
theorem Zl:(Tryz.prog.info? 36).map (·.size)=some 1:=by kernel_rfl
theorem Zm:(Tryz.prog.info? 37).map (·.size)=some 1:=by kernel_rfl
theorem XV:(Tryz.prog.info? 111).map (·.size)=some 1:=by kernel_rfl
theorem XW:(Tryz.prog.info? 160).map (·.size)=some 1:=by kernel_rfl
theorem BL:TI Tryz.prog 2 1 (.int .i64 0) 8:=by unfold TI;kernel_rfl
theorem XX:TI Tryz.prog 4 1 (.bool false) 1:=by unfold TI;kernel_rfl
theorem fZ:TI Tryz.prog 5 1 (.int .u8 0) 1:=by unfold TI;kernel_rfl
theorem gA:TI Tryz.prog 9 1 (.string ByteArray.empty) 16:=by unfold TI;kernel_rfl
theorem BR:TI Tryz.prog 27 1 (.slice none 0 0) 24:=by unfold TI;kernel_rfl
theorem u2:Tryz.prog.underlying 2=some (.int .i64):=by kernel_rfl
theorem u3:Tryz.prog.underlying 3=some (.int .i64):=by kernel_rfl
theorem u4:Tryz.prog.underlying 4=some (.bool):=by kernel_rfl
theorem u5:Tryz.prog.underlying 5=some (.int .u8):=by kernel_rfl
theorem u9:Tryz.prog.underlying 9=some (.string):=by kernel_rfl
theorem Se:Tryz.prog.underlying 22=some (.slice 5):=by kernel_rfl
theorem Im:Tryz.prog.underlying 24=some (.slice 33):=by kernel_rfl
theorem Bu:Tryz.prog.underlying 27=some (.slice 2):=by kernel_rfl
theorem DS:Tryz.prog.underlying 31=some (.slice 153):=by kernel_rfl
theorem Dg:Tryz.prog.underlying 36=some (.slice 52):=by kernel_rfl
theorem Ky:Tryz.prog.underlying 37=some (.slice 107):=by kernel_rfl
theorem BJ:Tryz.prog.underlying 111=some (.slice 27):=by kernel_rfl
theorem Mp:Tryz.prog.underlying 120=some (.slice 4):=by kernel_rfl
theorem Zn:Tryz.prog.underlying 148=some (.slice 9):=by kernel_rfl
theorem VL:Tryz.prog.underlying 160=some (.int .u64):=by kernel_rfl
theorem EC:ER Tryz.prog 26 1=true:=by kernel_rfl
theorem Sa:(Tryz.prog.info? 26).map (·.zero)=some (some (.agg #[.slice none 0 0])):=by kernel_rfl
theorem C8:H0 Tryz.prog 26 0 0=true:=by kernel_rfl
theorem LG:ER Tryz.prog 33 3=true:=by kernel_rfl
theorem Zo:(Tryz.prog.info? 33).map (·.zero)=some (some (.agg #[.string ByteArray.empty,.int .i64 0,.slice none 0 0])):=by kernel_rfl
theorem DJ:TI Tryz.prog 33 3 (.agg #[.string ByteArray.empty,.int .i64 0,.slice none 0 0]) 48:=by unfold TI;kernel_rfl
theorem Ka:H0 Tryz.prog 33 0 0=true:=by kernel_rfl
theorem CZ:H0 Tryz.prog 33 1 1=true:=by kernel_rfl
theorem Cv:H0 Tryz.prog 33 2 2=true:=by kernel_rfl
theorem BE:ER Tryz.prog 39 4=true:=by kernel_rfl
theorem Kb:(Tryz.prog.info? 39).map (·.zero)=some (some (.agg #[.int .i64 0,.slice none 0 0,.slice none 0 0,.slice none 0 0])):=by kernel_rfl
theorem IW:H0 Tryz.prog 39 0 0=true:=by kernel_rfl
theorem Ck:H0 Tryz.prog 39 1 1=true:=by kernel_rfl
theorem DT:H0 Tryz.prog 39 2 2=true:=by kernel_rfl
theorem Es:H0 Tryz.prog 39 3 3=true:=by kernel_rfl
theorem Bx:ER Tryz.prog 52 4=true:=by kernel_rfl
theorem NS:(Tryz.prog.info? 52).map (·.zero)=some (some (.agg #[.int .i64 0,.int .i64 0,.int .i64 0,.int .i64 0])):=by kernel_rfl
theorem BI:TI Tryz.prog 52 4 (.agg #[.int .i64 0,.int .i64 0,.int .i64 0,.int .i64 0]) 32:=by unfold TI;kernel_rfl
theorem DU:H0 Tryz.prog 52 0 0=true:=by kernel_rfl
theorem BW:H0 Tryz.prog 52 1 1=true:=by kernel_rfl
theorem BU:H0 Tryz.prog 52 2 2=true:=by kernel_rfl
theorem Ec:H0 Tryz.prog 52 3 3=true:=by kernel_rfl
theorem Ru:H0 Tryz.prog 100 0 0=true:=by kernel_rfl
theorem G8:H0 Tryz.prog 100 1 1=true:=by kernel_rfl
theorem E5:H0 Tryz.prog 100 2 5=true:=by kernel_rfl
theorem NT:H0 Tryz.prog 100 3 6=true:=by kernel_rfl
theorem FA:H0 Tryz.prog 100 4 7=true:=by kernel_rfl
theorem DV:ER Tryz.prog 107 2=true:=by kernel_rfl
theorem Rv:(Tryz.prog.info? 107).map (·.zero)=some (some (.agg #[.int .i64 0,.bool false])):=by kernel_rfl
theorem Ed:TI Tryz.prog 107 2 (.agg #[.int .i64 0,.bool false]) 16:=by unfold TI;kernel_rfl
theorem KZ:H0 Tryz.prog 107 0 0=true:=by kernel_rfl
theorem Rw:H0 Tryz.prog 107 1 1=true:=by kernel_rfl
theorem EP:H0 Tryz.prog 151 0 0=true:=by kernel_rfl
theorem VM:H0 Tryz.prog 151 1 1=true:=by kernel_rfl
theorem NU:H0 Tryz.prog 151 2 2=true:=by kernel_rfl
theorem VN:H0 Tryz.prog 151 3 3=true:=by kernel_rfl
theorem Bq:ER Tryz.prog 153 5=true:=by kernel_rfl
theorem IB:(Tryz.prog.info? 153).map (·.zero)=some (some (.agg #[.int .i64 0,.int .i64 0,.int .i64 0,.int .i64 0,.slice none 0 0])):=by kernel_rfl
theorem BM:TI Tryz.prog 153 5 (.agg #[.int .i64 0,.int .i64 0,.int .i64 0,.int .i64 0,.slice none 0 0]) 56:=by unfold TI;kernel_rfl
theorem Bz:H0 Tryz.prog 153 0 0=true:=by kernel_rfl
theorem Cc:H0 Tryz.prog 153 1 1=true:=by kernel_rfl
theorem Et:H0 Tryz.prog 153 2 2=true:=by kernel_rfl
theorem E6:H0 Tryz.prog 153 3 3=true:=by kernel_rfl
theorem Bv:H0 Tryz.prog 153 4 4=true:=by kernel_rfl
theorem VO:H0 Tryz.prog 167 0 0=true:=by kernel_rfl
theorem NV:H0 Tryz.prog 167 1 1=true:=by kernel_rfl
theorem L1:H0 Tryz.prog 167 2 2=true:=by kernel_rfl
theorem Hg:H0 Tryz.prog 167 3 3=true:=by kernel_rfl
theorem Q3:ER Tryz.prog 244 2=true:=by kernel_rfl
theorem VP:H0 Tryz.prog 244 0 0=true:=by kernel_rfl
theorem VQ:H0 Tryz.prog 244 1 1=true:=by kernel_rfl
section
set_option maxHeartbeats 4000000
set_option maxRecDepth 100000
attribute [local irreducible] LW
theorem B5 (w:World)(n:Int)(low:Int)(high:Int)(_hn:Bd n)(_hlow:Bd low)(_hhigh:Bd high)  :
  Calls Tryz.prog 72 #[zI n,zI low,zI high] w (fun e w'=>e=.returned (.bool (decide (low≤n) && decide (n≤high)))∧w'=w):=by
 refine Aw [zI n,zI low,zI high] 15 Tryz.func72 Z Z sM ?_
 have a0:w=w:=rfl
 refine fR Z<|fQ [0,0,0,0,0,0,0,0,0] Z<|Af 2 Z ?_
 by_cases a1:low≤n
 ·exact DO true Z Z (A7 a1) Ac<|Af 3 Z<|El (decide (n≤high)) Z Z Z (Ag (e:=10) Z Z Z)<|Ae 2 Z<|A3<|Al [6] Z (.bool<|decide (n≤high)) Z ⟨AQ (by simp[*]),a0⟩
 exact DO false Z Z (A8 a1) Ac<|Ae 6 Z<|A3<|Al [6] Z (.bool false) Z ⟨AQ (by simp[*]),a0⟩
theorem BS (w:World)(n:Int)(low:Int)(high:Int)(_hn:Bd n)(_hlow:Bd low)(_hhigh:Bd high)  :
  Calls Tryz.prog 80 #[zI n,zI low,zI high] w (fun e w'=>e=.returned (.bool (decide (low≤n) && decide (n≤high)))∧w'=w):=by
 refine Aw [zI n,zI low,zI high] 15 Tryz.func80 Z Z sM ?_
 have a0:w=w:=rfl
 refine fR Z<|fQ [0,0,0,0,0,0,0,0,0] Z<|Af 2 Z ?_
 by_cases a1:low≤n
 ·exact DO true Z Z (A7 a1) Ac<|Af 3 Z<|El (decide (n≤high)) Z Z Z (Ag (e:=10) Z Z Z)<|Ae 2 Z<|A3<|Al [6] Z (.bool<|decide (n≤high)) Z ⟨AQ (by simp[*]),a0⟩
 exact DO false Z Z (A8 a1) Ac<|Ae 6 Z<|A3<|Al [6] Z (.bool false) Z ⟨AQ (by simp[*]),a0⟩
theorem D0 (w:World)(n:Int)(_hn:Bd n)  :
  Calls Tryz.prog 214 #[zI n] w (fun e w'=>e=.returned (zI (md n))∧w'=w):=by
 refine Aw [zI n] 7 Tryz.func214 Z Z sM ?_
 have a0:w=w:=rfl
 exact fR Z<|fQ [0,0,0,0,0] Z<|Af 1 Z<|Ek (n.tmod 1000003) Z Z (by decide) Z Ac<|AS (wr ((n.tmod 1000003)+((1000003:Nat):Int))) Z Z Z Ac<|Ek ((wr ((n.tmod 1000003)+((1000003:Nat):Int))).tmod 1000003) Z Z (by decide) Z Ac<|Ae 1 Z<|A3<|Al [2] Z (zI<|(wr ((n.tmod 1000003)+((1000003:Nat):Int))).tmod 1000003) Z ⟨Bm<|Yl n,a0⟩
theorem HS (w:World)(a:Int)(b:Int)(_ha:Bd a)(_hb:Bd b)  :
  Calls Tryz.prog 173 #[zI a,zI b] w (fun e w'=>e=.returned (zI (md (a+b)))∧w'=w):=by
 refine Aw [zI a,zI b] 11 Tryz.func173 Z Z sM ?_
 have a0:w=w:=rfl
 exact fR Z<|fQ [0,0,0,0,0,0,0] Z<|Af 1 Z<|AF 214 [] [] [zI a] Z Z N4 Ac (zI<|md a) (fun wq=>D0 wq _ _ha)<|Af 1 Z<|AF 214 [] [] [zI b] Z Z N4 Ac (zI<|md b) (fun wq=>D0 wq _ _hb)<|AS (wr ((md a)+(md b))) Z Z Z Ac<|Ek ((wr ((md a)+(md b))).tmod 1000003) Z Z (by decide) Z Ac<|Ae 1 Z<|A3<|Al [4] Z (zI<|(wr ((md a)+(md b))).tmod 1000003) Z ⟨Bm<|Qv a b,a0⟩
theorem JJ (w:World)(a:Int)(b:Int)(_ha:Bd a)(_hb:Bd b)  :
  Calls Tryz.prog 175 #[zI a,zI b] w (fun e w'=>e=.returned (zI (md (a*b)))∧w'=w):=by
 refine Aw [zI a,zI b] 11 Tryz.func175 Z Z sM ?_
 have a0:w=w:=rfl
 exact fR Z<|fQ [0,0,0,0,0,0,0] Z<|Af 1 Z<|AF 214 [] [] [zI a] Z Z N4 Ac (zI<|md a) (fun wq=>D0 wq _ _ha)<|Af 1 Z<|AF 214 [] [] [zI b] Z Z N4 Ac (zI<|md b) (fun wq=>D0 wq _ _hb)<|FY (wr ((md a)*(md b))) Z Z Z Ac<|Ek ((wr ((md a)*(md b))).tmod 1000003) Z Z (by decide) Z Ac<|Ae 1 Z<|A3<|Al [4] Z (zI<|(wr ((md a)*(md b))).tmod 1000003) Z ⟨Bm<|Oo a b,a0⟩
theorem Hh (w:World)(a:Int)(b:Int)(_ha:Bd a)(_hb:Bd b)  :
  Calls Tryz.prog 174 #[zI a,zI b] w (fun e w'=>e=.returned (zI (md (a-b)))∧w'=w):=by
 refine Aw [zI a,zI b] 10 Tryz.func174 Z Z sM ?_
 have a0:w=w:=rfl
 exact fR Z<|fQ [0,0,0,0,0,0] Z<|Af 2 Z<|AF 214 [] [] [zI b] Z Z N4 Ac (zI<|md b) (fun wq=>D0 wq _ _hb)<|BP (wr (((1000003:Nat):Int)-(md b))) Z Z Z Ac<|AF 173 [] [] [zI a,zI<|wr (((1000003:Nat):Int)-(md b))] Z Z TY Ac (zI<|md (a+(wr (((1000003:Nat):Int)-(md b))))) (fun wq=>HS wq _ _ _ha<|Pq _)<|Ae 1 Z<|A3<|Al [4] Z (zI<|md (a+(wr (((1000003:Nat):Int)-(md b))))) Z ⟨Bm<|SA a b,a0⟩
theorem Zp (n:Int)(h:n.tmod 1000003<((0:Nat):Int)):wr (n.tmod 1000003+((1000003:Nat):Int))=md n:=by
  have h1:=Cj n;have h2:=FJ n;have h3:=Cj (-n);have h4:=FJ (-n)
  rw[tm n]at h ⊢
  split at h
  · omega
  · rename_i h0
    rw[if_neg h0,Gy zO (by omega)]
    have e1:md (-(md (-n))+((1000003:Nat):Int))=md (-(md (-n))):=Sz _
    rw[JW,Int.neg_neg,Qt zO (by omega)]at e1
    exact e1
theorem Zq (n:Int)(h:¬n.tmod 1000003<((0:Nat):Int)):n.tmod 1000003=md n:=by
  have h1:=Cj n;have h2:=FJ n;have h3:=Cj (-n);have h4:=FJ (-n)
  rw[tm n]at h ⊢
  split
  · rfl
  · rename_i h0
    rw[if_neg h0]at h
    have e0:md (-n)=0:=by omega
    have e1:=JW (-n)
    rw[e0,Int.neg_neg]at e1
    rw[e0,← e1]
    rfl
theorem U6 {p:Prop}(h:p:=by first|exact Bm (Zp n (by assumption))|exact Bm (Zq n (by assumption))):p:=h
theorem D1 (w:World)(n:Int)(_hn:Bd n)  :
  Calls Tryz.prog 130 #[zI n] w (fun e w'=>e=.returned (zI (md n))∧w'=w):=by
 refine Aw [zI n] 11 Tryz.func130 Z Z sM ?_
 have a0:w=w:=rfl
 refine fR Z<|fQ [0,0,0] Z<|Af 1 Z<|Ek (n.tmod 1000003) Z Z (by decide) Z Ac<|Ae 1 Z<|A0<|fQ [0,0] Z<|Af 1 Z ?_
 by_cases a1:n.tmod 1000003<((0:Nat):Int)
 ·exact AJ true Z Z (A7 a1) Ac<|Aj<|Ah Z<|Ad _ [0,0,0] Z<|Af 1 Z<|AS (wr ((n.tmod 1000003)+((1000003:Nat):Int))) Z Z Z Ac<|Ae 1 Z<|fQ [0,0] Z<|Ae 2 Z<|A3<|Al [2] Z (zI<|wr ((n.tmod 1000003)+((1000003:Nat):Int))) Z ⟨U6,a0⟩
 exact AJ false Z Z (A8 a1) Ac<|Aj<|Ak Z<|A4<|fQ [0,0] Z<|Ae 2 Z<|A3<|Al [2] Z (zI<|n.tmod 1000003) Z ⟨U6,a0⟩
theorem Kr (w:World)(a:Int)(b:Int)(_ha:Bd a)(_hb:Bd b)  :
  Calls Tryz.prog 70 #[zI a,zI b] w (fun e w'=>e=.returned (zI (md (a+b)))∧w'=w):=by
 refine Aw [zI a,zI b] 11 Tryz.func70 Z Z sM ?_
 have a0:w=w:=rfl
 exact fR Z<|fQ [0,0,0,0,0,0,0] Z<|Af 1 Z<|AF 130 [] [] [zI a] Z Z N3 Ac (zI<|md a) (fun wq=>D1 wq _ _ha)<|Af 1 Z<|AF 130 [] [] [zI b] Z Z N3 Ac (zI<|md b) (fun wq=>D1 wq _ _hb)<|AS (wr ((md a)+(md b))) Z Z Z Ac<|Ek ((wr ((md a)+(md b))).tmod 1000003) Z Z (by decide) Z Ac<|Ae 1 Z<|A3<|Al [4] Z (zI<|(wr ((md a)+(md b))).tmod 1000003) Z ⟨Bm<|Qv a b,a0⟩
theorem Db (w:World)(a:Int)(b:Int)(_ha:Bd a)(_hb:Bd b)  :
  Calls Tryz.prog 69 #[zI a,zI b] w (fun e w'=>e=.returned (zI (md (a*b)))∧w'=w):=by
 refine Aw [zI a,zI b] 11 Tryz.func69 Z Z sM ?_
 have a0:w=w:=rfl
 exact fR Z<|fQ [0,0,0,0,0,0,0] Z<|Af 1 Z<|AF 130 [] [] [zI a] Z Z N3 Ac (zI<|md a) (fun wq=>D1 wq _ _ha)<|Af 1 Z<|AF 130 [] [] [zI b] Z Z N3 Ac (zI<|md b) (fun wq=>D1 wq _ _hb)<|FY (wr ((md a)*(md b))) Z Z Z Ac<|Ek ((wr ((md a)*(md b))).tmod 1000003) Z Z (by decide) Z Ac<|Ae 1 Z<|A3<|Al [4] Z (zI<|(wr ((md a)*(md b))).tmod 1000003) Z ⟨Bm<|Oo a b,a0⟩
theorem Kz (w:World)(a:Int)(b:Int)(_ha:Bd a)(_hb:Bd b)(hs:-9223372036854775808≤a-b∧a-b≤9223372036854775807) :
  Calls Tryz.prog 241 #[zI a,zI b] w (fun e w'=>e=.returned (zI (md (a-b)))∧w'=w):=by
 refine Aw [zI a,zI b] 9 Tryz.func241 Z Z sM ?_
 have a0:w=w:=rfl
 exact fR Z<|fQ [0,0,0,0,0] Z<|Af 2 Z<|BP (wr (a-b)) Z Z Z Ac<|AF 130 [] [] [zI<|wr (a-b)] Z Z N3 Ac (zI<|md<|wr (a-b)) (fun wq=>D1 wq _<|Pq _)<|Ae 1 Z<|A3<|Al [4] Z (zI<|md<|wr (a-b)) Z ⟨Bm (by rw[Gy hs.1 hs.2]),a0⟩
theorem NW {p:Prop}(h:p:=by exact⟨zO,by first|exact Yo hI.2 oM (by assumption)|exact UP hI.2 oM (by assumption)⟩):p:=h
theorem NX (w:World)(a:Int)(n:Int)(_ha:Bd a)(_hn:Bd n)  :
  Calls Tryz.prog 254 #[zI a,zI n] w (fun e w'=>e=.returned (zI (pw a n))∧w'=w):=by
 refine Aw [zI a,zI n] 25 Tryz.func254 Z Z sM ?_
 have a0:w=w:=rfl
 refine fR Z<|A0<|fQ [0,0] Z<|Af 1 Z ?_
 by_cases a2:n<((0:Nat):Int)
 ·exact AJ true Z Z (A7 a2) Ac<|Aj<|Ah Z<|fR Z<|A3<|At<|Al [4] Z (zI ((0:Nat):Int)) Z ⟨Bm<|SD (by assumption),a0⟩
 refine AJ false Z Z (A8 a2) Ac<|Aj<|Ak Z<|A4<|fR Z<|fQ [0,0,0] Z<|Af 1 Z<|AF 130 [] [] [zI a] Z Z N3 Ac (zI<|md a) (fun wq=>D1 wq _ _ha)<|Ae 1 Z<|A0<|A5 ?_
 refine B8 (S:=Int×Int×Int) (fun⟨m,x,b⟩=>([(1,zI m),(5,zI x),(6,zI b)])) (fun⟨m,x,b⟩ W=>W=w∧(0≤m∧md (x*b ^ m.toNat)=md (a ^ n.toNat))∧m≤9223372036854775807∧(0≤x∧x<1000003)∧(0≤b∧b<1000003)) (fun⟨m,x,b⟩=>m.toNat) (n,((1:Nat):Int),md a) ⟨rfl,rfl,rfl,trivial⟩ ⟨a0,(by exact⟨zO,Oq a n.toNat⟩),oM,oM,(by exact Cd _)⟩ ?_
 clear a0
 rintro⟨m,x,b⟩ ρ3 w3 ⟨a1,hI,hm,hx,hb⟩
 refine A0<|fQ [0,0] Z<|Af 1 Z ?_
 by_cases a3:((0:Nat):Int)<m
 ·refine C0 true Z Z (A7 a3) Ac<|Aj<|Ah Z<|A4<|A5<|A0<|fQ [0,0,0] Z<|Af 1 Z<|Ek (m % 2) Z Z (by decide) (fU hI.1) Ac ?_
  by_cases a4:m % 2=((1:Nat):Int)
  ·refine Av true Z Z (A7 a4) Ac<|Aj<|Ah Z<|Ad _ [0,0,0,0] Z<|Af 2 Z<|AF 69 [] [] [zI x,zI b] Z Z PY Ac (zI<|md (x*b)) (fun wq=>Db wq _ _ oM oM)<|Ae 1 Z<|fQ [0,0,0,0] Z<|Af 2 Z<|AF 69 [] [] [zI b,zI b] Z Z PY Ac (zI<|md (b*b)) (fun wq=>Db wq _ _ oM oM)<|Ae 1 Z<|Ad _ [0,0,0] Z<|Af 1 Z<|Qk (m / 2) Z Z (by decide) (eD hI.1 hm) Ac<|Ae 1 Z ?_
   exact⟨(m / 2,md (x*b),md (b*b)),_,rfl,zR,⟨a1,NW,oM,(by first|exact hx|exact Cd _),(by exact Cd _)⟩,zD⟩
  exact Av false Z Z (A8 a4) Ac<|Aj<|Ak Z<|A4<|fQ [0,0,0,0] Z<|Af 2 Z<|AF 69 [] [] [zI b,zI b] Z Z PY Ac (zI<|md (b*b)) (fun wq=>Db wq _ _ oM oM)<|Ae 1 Z<|Ad _ [0,0,0] Z<|Af 1 Z<|Qk (m / 2) Z Z (by decide) (eD hI.1 hm) Ac<|Ae 1 Z ⟨(m / 2,x,md (b*b)),_,rfl,zR,⟨a1,NW,oM,(by first|exact hx|exact Cd _),(by exact Cd _)⟩,zD⟩
 exact C0 false Z Z (A8 a3) Ac<|Aj<|Ak Z<|A6<|AA<|AA<|Ax<|fQ [0,0] Z<|Ae 2 Z<|A3<|Al [4] Z (zI x) Z ⟨Bm<|SB hI.2 hI.1 (by assumption) (by assumption) hx,a1⟩
theorem NY (w:World)(a:Int)(n:Int)(_ha:Bd a)(_hn:Bd n)  :
  Calls Tryz.prog 215 #[zI a,zI n] w (fun e w'=>e=.returned (zI (pw a n))∧w'=w):=by
 refine Aw [zI a,zI n] 27 Tryz.func215 Z Z sM ?_
 have a0:w=w:=rfl
 refine fR Z<|A0<|fQ [0,0] Z<|Af 1 Z ?_
 by_cases a2:n<((0:Nat):Int)
 ·exact AJ true Z Z (A7 a2) Ac<|Aj<|Ah Z<|fR Z<|A3<|At<|Al [4] Z (zI ((0:Nat):Int)) Z ⟨Bm<|SD (by assumption),a0⟩
 refine AJ false Z Z (A8 a2) Ac<|Aj<|Ak Z<|A4<|fR Z<|A0<|fQ [0,0,0] Z<|Af 1 Z<|AF 214 [] [] [zI a] Z Z N4 Ac (zI<|md a) (fun wq=>D0 wq _ _ha)<|Ae 1 Z<|A5 ?_
 refine B8 (S:=Int×Int×Int) (fun⟨m,x,b⟩=>([(1,zI m),(5,zI x),(6,zI b)])) (fun⟨m,x,b⟩ W=>W=w∧(0≤m∧md (x*b ^ m.toNat)=md (a ^ n.toNat))∧m≤9223372036854775807∧(0≤x∧x<1000003)∧(0≤b∧b<1000003)) (fun⟨m,x,b⟩=>m.toNat) (n,((1:Nat):Int),md a) ⟨rfl,rfl,rfl,trivial⟩ ⟨a0,(by exact⟨zO,Oq a n.toNat⟩),oM,oM,(by exact Cd _)⟩ ?_
 clear a0
 rintro⟨m,x,b⟩ ρ3 w3 ⟨a1,hI,hm,hx,hb⟩
 refine A0<|fQ [0,0] Z<|Af 1 Z ?_
 by_cases a3:((0:Nat):Int)<m
 ·refine C0 true Z Z (A7 a3) Ac<|Aj<|Ah Z<|A4<|A0<|A5<|A0<|fQ [0,0,0] Z<|Af 1 Z<|Ek (m % 2) Z Z (by decide) (fU hI.1) Ac ?_
  by_cases a4:m % 2=((1:Nat):Int)
  ·refine Av true Z Z (A7 a4) Ac<|Aj<|Ah Z<|Ad _ [0,0,0,0,0] Z<|Af 2 Z<|FY (wr (x*b)) Z Z Z Ac<|Ek (md (x*b)) Z Z (by decide) (Or hx hb) Ac<|Ae 1 Z<|Ad _ [0,0,0,0,0] Z<|Af 2 Z<|FY (wr (b*b)) Z Z Z Ac<|Ek (md (b*b)) Z Z (by decide) (Or hb hb) Ac<|Ae 1 Z<|Ad _ [0,0,0] Z<|Af 1 Z<|Qk (m / 2) Z Z (by decide) (eD hI.1 hm) Ac<|Ae 1 Z ?_
   exact⟨(m / 2,md (x*b),md (b*b)),_,rfl,zR,⟨a1,NW,oM,(by first|exact hx|exact Cd _),(by exact Cd _)⟩,zD⟩
  exact Av false Z Z (A8 a4) Ac<|Aj<|Ak Z<|A4<|Ad _ [0,0,0,0,0] Z<|Af 2 Z<|FY (wr (b*b)) Z Z Z Ac<|Ek (md (b*b)) Z Z (by decide) (Or hb hb) Ac<|Ae 1 Z<|Ad _ [0,0,0] Z<|Af 1 Z<|Qk (m / 2) Z Z (by decide) (eD hI.1 hm) Ac<|Ae 1 Z ⟨(m / 2,x,md (b*b)),_,rfl,zR,⟨a1,NW,oM,(by first|exact hx|exact Cd _),(by exact Cd _)⟩,zD⟩
 exact C0 false Z Z (A8 a3) Ac<|Aj<|Ak Z<|A6<|AA<|AA<|Ax<|fQ [0,0] Z<|Ae 2 Z<|A3<|Al [4] Z (zI x) Z ⟨Bm<|SB hI.2 hI.1 (by assumption) (by assumption) hx,a1⟩
theorem Mq (w:World)(a:Int)(_ha:Bd a)  :
  Calls Tryz.prog 240 #[zI a] w (fun e w'=>e=.returned (zI (inv a))∧w'=w):=by
 refine Aw [zI a] 5 Tryz.func240 Z Z sM ?_
 have a0:w=w:=rfl
 exact fR Z<|fQ [0,0,0] Z<|Af 1 Z<|AF 254 [] [] [zI a,zI ((1000001:Nat):Int)] Z Z dH Ac (zI<|pw a ((1000001:Nat):Int)) (fun wq=>NX wq _ _ _ha oM)<|Ae 1 Z<|A3<|Al [2] Z (zI<|pw a ((1000001:Nat):Int)) Z ⟨rfl,a0⟩
theorem HT (w:World)(a:Int)(_ha:Bd a)  :
  Calls Tryz.prog 176 #[zI a] w (fun e w'=>e=.returned (zI (inv a))∧w'=w):=by
 refine Aw [zI a] 5 Tryz.func176 Z Z sM ?_
 have a0:w=w:=rfl
 exact fR Z<|fQ [0,0,0] Z<|Af 1 Z<|AF 215 [] [] [zI a,zI ((1000001:Nat):Int)] Z Z dB Ac (zI<|pw a ((1000001:Nat):Int)) (fun wq=>NY wq _ _ _ha oM)<|Ae 1 Z<|A3<|Al [2] Z (zI<|pw a ((1000001:Nat):Int)) Z ⟨rfl,a0⟩
theorem Fk (w:World)(n:Int)(_hn:Bd n)  :
  Calls Tryz.prog 116 #[zI n] w (fun e w'=>e=.returned (.bool (Hq n))∧w'=w):=by
 refine Aw [zI n] 5 Tryz.func116 Z Z sM ?_
 have a0:w=w:=rfl
 exact fR Z<|fQ [0,0,0] Z<|Af 1 Z<|AF 72 [] [] [zI n,zI ((0:Nat):Int),zI ((1000002:Nat):Int)] Z Z EA Ac (.bool (decide (((0:Nat):Int)≤n) && decide (n≤((1000002:Nat):Int)))) (fun wq=>B5 wq _ _ _ _hn oM oM)<|Ae 1 Z<|A3<|Al [2] Z (.bool (decide (((0:Nat):Int)≤n) && decide (n≤((1000002:Nat):Int)))) Z ⟨AQ (by unfold Hq;rfl),a0⟩
theorem GN (w:World)(n:Int)(_hn:Bd n)  :
  Calls Tryz.prog 168 #[zI n] w (fun e w'=>e=.returned (.bool (Hq n))∧w'=w):=by
 refine Aw [zI n] 5 Tryz.func168 Z Z sM ?_
 have a0:w=w:=rfl
 exact fR Z<|fQ [0,0,0] Z<|Af 1 Z<|AF 80 [] [] [zI n,zI ((0:Nat):Int),zI ((1000002:Nat):Int)] Z Z JH Ac (.bool (decide (((0:Nat):Int)≤n) && decide (n≤((1000002:Nat):Int)))) (fun wq=>BS wq _ _ _ _hn oM oM)<|Ae 1 Z<|A3<|Al [2] Z (.bool (decide (((0:Nat):Int)≤n) && decide (n≤((1000002:Nat):Int)))) Z ⟨AQ (by unfold Hq;rfl),a0⟩
theorem In (w:World)(n:Int)(_hn:Bd n)  :
  Calls Tryz.prog 115 #[zI n] w (fun e w'=>e=.returned (.bool (!Hq n))∧AD w w'):=by
 refine Aw [zI n] 6 Tryz.func115 Z Z sM ?_
 have a0:AD w w:=AD.refl w
 exact fR Z<|fQ [0,0,0,0] Z<|Af 1 Z<|AF 116 [] [] [zI n] Z Z TV Ac (.bool<|Hq n) (fun wq=>Fk wq _ _hn)<|BF (!(Hq n)) Z Z Ac<|Ae 1 Z<|A3<|Al [2] Z (.bool (!(Hq n))) Z ⟨rfl,a0⟩
def Q4 {α:Type}(p:α→Bool)(l:List α):Int:=if l.any p then((l.findIdx p:Nat):Int)else -1
theorem Q5 {α:Type}{p:α→Bool}{l:List α}{k:Nat}(d:α)(h:∀j,j<k→p (l.getD j d)=false)(hk:k<l.length)(hp:p (l.getD k d)=true):((k:Nat):Int)=Q4 p l:=by
  have e:∀j,(hj:j<l.length)→l.getD j d=l[j]:=fun j hj=>by simp[hj]
  have h1:l.any p=true:=List.any_eq_true.2 ⟨l[k],List.getElem_mem hk,by rw[← e k hk];exact hp⟩
  have h2:l.findIdx p=k:=by
    rw[List.findIdx_eq hk]
    refine⟨by rw[← e k hk];exact hp,fun j hj=>?_⟩
    have:=h j hj
    rw[e j (by omega)]at this
    exact this
  unfold Q4;rw[if_pos h1,h2]
theorem U7 {α:Type}{p:α→Bool}{l:List α}{k:Nat}(d:α)(h:∀j,j<k→p (l.getD j d)=false)(hk:l.length≤k):(-1:Int)=Q4 p l:=by
  have h1:l.any p=false:=by
    rw[List.any_eq_false]
    intro x hx
    obtain⟨j,hj,rfl⟩:=List.getElem_of_mem hx
    have:=h j zO
    have e:l.getD j d=l[j]:=by simp[hj]
    rw[e]at this
    simp[this]
  unfold Q4;rw[h1];rfl
theorem U8 {α:Type}(p:α→Bool)(l:List α):decide (((0:Nat):Int)≤Q4 p l)=l.any p:=by
  unfold Q4
  split
  · rename_i h;rw[h];exact A7 zO
  · rename_i h;rw[Bool.not_eq_true]at h;rw[h];exact A8 zO
theorem NZ {α:Type}{p:α→Bool}{l:List α}{k:Nat}{d:α}(h:∀j,j<k→p (l.getD j d)=false)(hp:p (l.getD k d)=false):∀j,j<k+1→p (l.getD j d)=false:=by
  intro j hj
  by_cases e:j=k
  · subst e;exact hp
  · exact h j zO
theorem Ei (w:World) (va:Value) (a:Sr) (q:Nat) (qf qc:List Value) (p:Int→Bool) (ha:Rd (Bl rI) w.heap va a) (hcf_q:((Tryz.prog.funcs[q]?).map fun fn=>(fn.name != "runtime.NumGoroutine") && fn.body.isSome) = some true) (hp:∀ (x:Int),Bd x→∀ w1,AD w w1→Calls Tryz.prog q (qf++[Value.int .i64 x]++qc).toArray w1 (fun e w2=>e = .returned (.bool (p x))∧AD w1 w2))  :
  Calls Tryz.prog 170 #[va,.func (.func q) qf.toArray qc.toArray] w (fun e w'=>e = .returned (zI (Q4 p a))∧AD w w'):=by
 refine Aw [va,.func (.func q) qf.toArray qc.toArray] 19 Tryz.func170 Z Z sM ?_
 have a3:AD w w:=AD.refl w
 have aa:=ha.lenle
 refine fR Z<|A0<|fQ [0,0,0] Z<|Af 1 Z<|AU (v:=va) Bu Z ha.isSl Ac<|Ae 1 Z<|A5 ?_
 refine B8 (S:=Nat) (fun k=>([(8,zI ((k :Nat):Int)),(0,va),(1,.func (.func q) qf.toArray qc.toArray),(7,zI ((a.length :Nat):Int))])) (fun k W=>AD w W∧k≤a.length∧(∀ j,j < k→p (a.getD j 0) = false)) (fun k=>a.length - k) 0 ⟨rfl,rfl,rfl,rfl,trivial⟩ ⟨a3,sD,(by intro j hj; omega)⟩ ?_
 clear a3
 rintro k ρ1 w1 ⟨a1,a4,hq⟩
 have a7:w.heap.size≤w1.heap.size:=a1.size
 refine fQ [0] Z ?_
 by_cases a5:((k :Nat):Int) < ((a.length :Nat):Int)
 ·
  refine AJ true Z Z (A7 a5) Ac<|Aj<|A0<|Ah Z<|A4<|A0<|A5<|fQ [0,0] Z<|Ae 2 Z<|fQ [0,0,0,0,2,3] Z<|Af 3 Z<|AH (v:=va) k Bu BL Z Z ha.isSl Z sD Ac ?_
  refine Ai (p:=AE va k 1) (.inr Z) (zI<|a.getD k 0) AG Z (Bk a1 (ha.getI sD).1) Ac ?_
  have a0:=hp (a.getD k 0) (ha.getI sD).2 _ a1
  refine Ay q qf qc _ Z Z hcf_q Ac a0 ?_
  rintro e3 w3 ⟨rfl,a2⟩
  refine ⟨_,rfl,a2,?_⟩
  have a8:=a2.size
  have a6:=a1.trans a2
  cases a9:p (a.getD k 0)
  ·
   refine Aj<|Ak Z<|A4<|Ad _ [0,0] Z<|AS ((k + 1 :Nat):Int) Z Z (Bg oM sD) Ac<|Ae 1 Z ?_
   exact ⟨k + 1,_,rfl,zR,⟨a6,sD,(by exact NZ hq (by assumption))⟩,by first | omega | (dsimp only; omega)⟩
  exact Aj<|Ah Z<|fQ [0,0] Z<|Ae 2 Z<|A3<|AM<|At<|At<|AM<|At<|Al [4] Z (zI ((k :Nat):Int)) Z ⟨Bm<|Q5 0 hq oM (by assumption),a6⟩
 exact AJ false Z Z (A8 a5) Ac<|Aj<|A0<|Ak Z<|A6<|AA<|AA<|Ax<|fR Z<|A3<|Al [4] Z (zI (-1)) Z ⟨Bm<|U7 0 hq oM,a1⟩
theorem Cy (w:World) (va:Value) (a:Sr) (q:Nat) (qf qc:List Value) (p:Int→Bool) (ha:Rd (Bl rI) w.heap va a) (hcf_q:((Tryz.prog.funcs[q]?).map fun fn=>(fn.name != "runtime.NumGoroutine") && fn.body.isSome) = some true) (hp:∀ (x:Int),Bd x→∀ w1,AD w w1→Calls Tryz.prog q (qf++[Value.int .i64 x]++qc).toArray w1 (fun e w2=>e = .returned (.bool (p x))∧AD w1 w2))  :
  Calls Tryz.prog 114 #[va,.func (.func q) qf.toArray qc.toArray] w (fun e w'=>e = .returned (.bool (a.any p))∧AD w w'):=by
 refine Aw [va,.func (.func q) qf.toArray qc.toArray] 9 Tryz.func114 Z Z sM ?_
 have a0:AD w w:=AD.refl w
 have a4:=ha.lenle
 refine fR Z<|fQ [0,0,3,0,0] Z<|Af 2 Z<|Ay 170 [] [] [va,.func (.func q) qf.toArray qc.toArray] Z Z cN Ac (Ei _ _ _ q qf qc p (ha.ext g1 a0) hcf_q fun x hx w1 hw=>hp x hx w1<|a0.trans hw) ?_
 rintro e1 w1 ⟨rfl,a1⟩
 refine ⟨_,rfl,a1,?_⟩
 have a2:=a1.size
 have a3:=a0.trans a1
 exact DO (decide (((0 :Nat):Int)≤Q4 p a)) Z Z Z Ac<|Ae 1 Z<|A3<|Al [4] Z (.bool<|decide (((0 :Nat):Int)≤Q4 p a)) Z ⟨AQ<|U8 p a,a3⟩
theorem Fh (w:World)(va:Value)(a:Sr)(ha:Rd (Bl rI) w.heap va a)(hla:a.length≤1000000000000) :
  Calls Tryz.prog 94 #[va] w (fun e w'=>∃v0:Value,e=.returned (v0)∧AD w w'∧Fr (BD rI 2) w.heap.size w'.heap.size w'.heap v0 a):=by
 refine Aw [va] 8 Tryz.func94 Z Z sM ?_
 have a1:AD w w:=AD.refl w
 have ac:=ha.lenle
 refine fR Z<|A0<|fQ [0,0] Z<|Af 1 Z ?_
 cases a2:Pr va
 ·refine So (v:=va) false Bu Z Z ha.isSl a2 Ac<|Aj<|Ak Z<|A4<|fQ [3,0,4,0] Z (Dt (rI) AN Bu BL Ac fun v2 w2 a3 ab a5=>?_)
  have a6:=a3.size
  have a0:=a1.trans a3
  refine Af 1 Z (FH (v:=v2) (a:=va) Bu BL Z Z Z a5 a0.size (ha.ext g1 a0) sD (by unfold maxLen;first|omega|assumption|(simp;done)|(simp;omega)) Ac fun v3 w3 F3 a4 a7 a8=>?_)
  have a9:AD w w3:=a4.below a0 (fun c hc=>Aa (A9 _) (a7 c hc).1) a0.size
  have aa:=a4.size
  exact Ae 1 Z<|A3<|Al [2] Z v3 Z ⟨v3,rfl,a9,a8.up o1⟩
 refine So (v:=va) true Bu Z Z ha.isSl a2 Ac<|Aj<|Ah Z<|fR Z<|A3<|At ?_
 have hnil:a=[]:=ha.nil_of (by assumption)
 subst hnil
 exact Al [2] Z zN Z ⟨zN,rfl,a1,Jj _ _ _⟩
theorem Eu (w:World)(va:Value)(a:Sr)(count:Int)(ha:Rd (Bl rI) w.heap va a)(_hcount:Bd count)  :
  Calls Tryz.prog 53 #[va,zI count] w (fun e w'=>e=.returned (.bool (decide ((a.length:Int)=count) && Bj a))∧AD w w'):=by
 refine Aw [va,zI count] 14 Tryz.func53 Z Z sM ?_
 have a0:AD w w:=AD.refl w
 have a5:=ha.lenle
 refine fR Z<|fQ [0,0,0,0,0,0,3,0,0,0] Z<|Af 1 Z<|AU (v:=va) Bu Z ha.isSl Ac<|Af 1 Z ?_
 by_cases a2:(a.length:Int)=count
 ·refine Av true Z Z (A7 a2) Ac<|Af 2 Z<|Ay 114 [] [] [va,.func (.func 115) #[] #[]] Z Z XG (Ag (e:=9) Z Z Z) (Cy _ _ _ 115 [] [] (fun x=>!Hq x) (ha.ext g1 a0) bW fun x hx w1 hw=>In w1 x hx) ?_
  rintro e2 w2 ⟨rfl,a1⟩
  refine⟨_,rfl,a1,?_⟩
  have a3:=a1.size
  have a4:=a0.trans a1
  exact BF (!(a.any fun x=>!Hq x)) Z Z (Ag (e:=9) Z Z Z)<|Ae 2 Z<|A3<|Al [4] Z (.bool (!(a.any fun x=>!Hq x))) Z ⟨AQ (by first|(rw[Qz];simp[*];done)|simp[*]),a4⟩
 exact Av false Z Z (A8 a2) Ac<|Ae 6 Z<|A3<|Al [4] Z (.bool false) Z ⟨AQ (by first|(rw[Qz];simp[*];done)|simp[*]),a0⟩
theorem JK (w:World)(va:Value)(a:Sr)(ha:Rd (Bl rI) w.heap va a)  :
  Calls Tryz.prog 112 #[va] w (fun e w'=>e=.returned (.bool (Bj a))∧AD w w'):=by
 refine Aw [va] 16 Tryz.func112 Z Z sM ?_
 have a1:AD w w:=AD.refl w
 have a6:=ha.lenle
 refine fR Z<|A0<|fR Z<|A5<|B8 (S:=Nat) (fun k=>([(3,zI (k:Int)),(0,va)])) (fun k W=>AD w W∧k≤a.length∧((a.take k).all Hq=true)) (fun k=>a.length-k) 0 ⟨rfl,rfl,trivial⟩ ⟨a1,sD,(by exact SE _ _)⟩ ?_
 clear a1
 rintro k ρ1 w1 ⟨a0,a2,hq⟩
 have a5:w.heap.size≤w1.heap.size:=a0.size
 refine A0<|fQ [0,0,0,0] Z<|Af 2 Z<|AU (v:=va) Bu Z ha.isSl Ac ?_
 by_cases a3:(k:Int)<(a.length:Int)
 ·refine AJ true Z Z (A7 a3) Ac<|Aj<|Ah Z<|A4<|A0<|A5<|fQ [0,0,0,2,0,0] Z<|Af 2 Z<|AH (v:=va) k Bu BL Z Z ha.isSl Z sD Ac ?_
  refine Ai (p:=AE va k 1) (.inr Z) (zI<|a.getD k 0) AG Z (Bk a0 (ha.getI sD).1) Ac ?_
  refine AF 168 [] [] [zI<|a.getD k 0] Z Z XL Ac (.bool<|Hq<|a.getD k 0) (fun wq=>GN wq _ (ha.getI sD).2)<|BF (!(Hq<|a.getD k 0)) Z Z Ac<|Aj ?_
  cases a4:(!(Hq (a.getD k 0)))
  ·refine Ak (by first|rfl|exact zW a4)<|A4<|Ad _ [0,0,0] Z<|Af 1 Z<|AS ((k+1:Nat):Int) Z Z (Bg oM sD) Ac<|Ae 1 Z ?_
   exact⟨k+1,_,rfl,⟨rfl,rfl,trivial⟩,⟨a0,sD,(by exact SF 0 hq oM (by simpa using ‹(!Hq (a.getD k 0))=false›))⟩,zD⟩
  exact Ah (by first|rfl|exact zW a4)<|fR Z<|A3<|AM<|At<|At<|AM<|At<|Al [2] Z (.bool false) Z ⟨AQ (SG (k:=k) 0 oM (by simpa using ‹(!Hq (a.getD k 0))=true›)).symm,a0⟩
 exact AJ false Z Z (A8 a3) Ac<|Aj<|Ak Z<|A6<|AA<|AA<|Ax<|fR Z<|A3<|Al [2] Z (.bool true) Z ⟨AQ (SH hq oM).symm,a0⟩
theorem Ht (w:World)(va:Value)(a:Sr)(y:Int)(ha:Rd (Bl rI) w.heap va a)(_hy:Bd y)(hla:a.length≤1000000000000) :
  Calls Tryz.prog 207 #[va,zI y] w (fun e w'=>∃v0:Value,e=.returned (v0)∧AD w w'∧Fr (BD rI 2) w.heap.size w'.heap.size w'.heap v0 (ZL a y)):=by
 refine Aw [va,zI y] 24 Tryz.func207 Z Z sM ?_
 have a8:AD w w:=AD.refl w
 have an:=ha.lenle
 refine fR Z<|fQ [3,0] Z (Dt (rI) AN Bu BL Ac fun v1 w1 a3 af a9=>?_)
 have a4:=a3.size
 have aa:=a8.trans a3
 refine Ae 1 Z<|A0<|fR Z<|A5 ?_
 refine B8 (S:=Nat×Value) (fun⟨k,vo⟩=>([(5,vo),(6,zI (k:Int)),(0,va),(1,zI y)])) (fun⟨k,vo⟩ W=>AD w W∧Fr (BD rI 2) w.heap.size W.heap.size W.heap vo ((a.take k).map fun x=>md (x*y))∧k≤a.length) (fun⟨k,vo⟩=>a.length-k) (0,v1) ⟨rfl,rfl,rfl,rfl,trivial⟩ ⟨aa,a9.up o1,sD⟩ ?_
 clear a8 a9 af a3 a4 aa
 rintro⟨k,vo⟩ ρ2 w2 ⟨a2,a1,ab⟩
 have ag:w.heap.size≤w2.heap.size:=a2.size
 refine A0<|fQ [0,0,0,0] Z<|Af 2 Z<|AU (v:=va) Bu Z ha.isSl Ac ?_
 by_cases ac:(k:Int)<(a.length:Int)
 ·refine AJ true Z Z (A7 ac) Ac<|Aj<|Ah Z<|A4<|A0<|A5<|Ad _ [0,0,0,0,2,0,0,3,4,0] Z<|Af 3 Z<|AH (v:=va) k Bu BL Z Z ha.isSl Z sD Ac ?_
  refine Ai (p:=AE va k 1) (.inr Z) (zI<|a.getD k 0) AG Z (Bk a2 (ha.getI sD).1) Ac<|Af 1 Z ?_
  refine AF 69 [] [] [zI<|a.getD k 0,zI y] Z Z PY Ac (zI<|md ((a.getD k 0)*y)) (fun wq=>Db wq _ _ (ha.getI sD).2 _hy) (BQ (u:=zI<|md ((a.getD k 0)*y)) (B:=w2.heap.size) AN Bu BL Z Z (Jl w2.heap.size w2.heap.size _ _<|FK _) (A9 _) Ac fun v5 w5 a5 al ad=>?_)
  have ah:=a5.size
  have a6:=a2.trans a5
  have a0:=a1.ext (o1) a5
  refine FH (v:=vo) (a:=v5) Bu BL Z Z Z a0 a6.size ad.rd1 sD (by unfold maxLen;first|omega|assumption|(simp;done)|(simp;omega)) Ac fun v6 w6 F6 a7 ae ai=>?_
  have aj:AD w w6:=a7.below a6 (fun c hc=>Aa (A9 _) (ae c hc).1) a6.size
  have ak:=a7.size
  have am:=ad.chg (o1) a7 fun c hc=>zH<|ae c hc
  refine Ae 1 Z<|Ad _ [0,0,0] Z<|Af 1 Z<|AS ((k+1:Nat):Int) Z Z (Bg oM sD) Ac<|Ae 1 Z ?_
  exact⟨(k+1,v6),_,rfl,zR,⟨aj,(by rw[Em 0 oM];exact ai.up o1),sD⟩,zD⟩
 exact AJ false Z Z (A8 ac) Ac<|Aj<|Ak Z<|A6<|AA<|AA<|Ax<|fQ [0,0] Z<|Ae 2 Z<|A3<|Al [4] Z vo Z ⟨vo,rfl,a2,(by have h:=a1.up o1;rwa [za oM]at h)⟩
theorem E0 (w:World)(va:Value)(a:Sr)(y:Int)(ha:Rd (Bl rI) w.heap va a)(_hy:Bd y)(hla:a.length≤1000000000000)(hqa:Bj a=true)(hy:0≤y∧y<1000003) :
  Calls Tryz.prog 181 #[va,zI y] w (fun e w'=>∃v0:Value,e=.returned (v0)∧AD w w'∧Fr (BD rI 2) w.heap.size w'.heap.size w'.heap v0 (D8 a y)):=by
 refine Aw [va,zI y] 27 Tryz.func181 Z Z sM ?_
 have a4:AD w w:=AD.refl w
 have ah:=ha.lenle
 refine fR Z<|fQ [0,0,3,0] Z<|Af 1 Z<|AU (v:=va) Bu Z ha.isSl Ac (Gd (n:=a.length) Bu BL Z Z Z sD Ac fun v1 w1 a2 aa a5=>?_)
 have a3:=a2.size
 have a6:=a4.trans a2
 refine Ae 1 Z<|A0<|fQ [0,0,0] Z<|Af 1 Z<|AU (v:=va) Bu Z ha.isSl Ac<|Ae 1 Z<|A5 ?_
 refine B8 (S:=Nat) (fun k=>([(12,zI (k:Int)),(0,va),(1,zI y),(5,v1),(11,zI (a.length:Int))])) (fun k W=>AD w W∧Fr (BD rI 2) w.heap.size W.heap.size W.heap v1 (HA k (D8 a y)<|List.replicate a.length 0)∧k≤a.length) (fun k=>a.length-k) 0 ⟨rfl,rfl,rfl,rfl,rfl,trivial⟩ ⟨a6,(by rw[Jo];exact a5.up o1),sD⟩ ?_
 clear a4 a5 aa a2 a3 a6
 rintro k ρ2 w2 ⟨a1,a0,a7⟩
 have ab:w.heap.size≤w2.heap.size:=a1.size
 have hml:=Jp k (D8 a y) (List.replicate a.length 0) sM
 rw[z5]at hml
 have hga:=Co hqa k
 refine fQ [0] Z ?_
 by_cases a8:(k:Int)<(a.length:Int)
 ·refine AJ true Z Z (A7 a8) Ac<|Aj<|A0<|Ah Z<|A4<|A0<|A5<|fQ [0,0] Z<|Ae 2 Z<|Ad _ [0,0,0,0,0,2,0,0,0,0,4] Z<|Af 4 Z<|AH (v:=va) k Bu BL Z Z ha.isSl Z sD Ac ?_
  refine Ai (p:=AE va k 1) (.inr Z) (zI<|a.getD k 0) AG Z (Bk a1 (ha.getI sD).1) Ac<|Af 1 Z<|FY (wr ((a.getD k 0)*y)) Z Z Z Ac<|Ek (md (a.getD k 0*y)) Z Z (by decide) (Or hga hy) Ac ?_
  refine AH (v:=v1) k Bu BL Z Z a0.isSl Z sD Ac (JU (v:=v1) (w:=w2) GS Z Z (FK _) a0 sD Ac fun w4 F4 a9 ag ac ad=>?_)
  have ae:AD w w4:=a9.below a1 (fun c hc=>Aa (A9 _) (ac c hc).1) a1.size
  have af:=a9.size
  refine Aj<|Ad _ [0,0] Z<|AS ((k+1:Nat):Int) Z Z (Bg oM sD) Ac<|Ae 1 Z ?_
  exact⟨k+1,_,rfl,zR,⟨ae,(by unfold D8;rw[Ni sM oM];exact ad.up o1),sD⟩,zD⟩
 exact AJ false Z Z (A8 a8) Ac<|Aj<|A0<|Ak Z<|A6<|AA<|AA<|Ax<|fQ [0,0] Z<|Ae 2 Z<|A3<|Al [4] Z v1 Z ⟨v1,rfl,a1,(by have h:=a0.up o1;rwa [KK sM (by simp;omega)]at h)⟩
theorem FB (w:World)(va:Value)(a:Sr)(vb:Value)(b:Sr)(ha:Rd (Bl rI) w.heap va a)(hb:Rd (Bl rI) w.heap vb b)(hla:a.length≤1000000000000)(hl:a.length≤b.length)(hqa:Bj a=true)(hqb:Bj b=true) :
  Calls Tryz.prog 129 #[va,vb] w (fun e w'=>∃v0:Value,e=.returned (v0)∧AD w w'∧Fr (BD rI 2) w.heap.size w'.heap.size w'.heap v0 (EU a b)):=by
 refine Aw [va,vb] 30 Tryz.func129 Z Z sM ?_
 have a5:AD w w:=AD.refl w
 have ah:=ha.lenle
 have ai:=hb.lenle
 refine fR Z<|fQ [0,0,3,0] Z<|Af 1 Z<|AU (v:=va) Bu Z ha.isSl Ac (Gd (n:=a.length) Bu BL Z Z Z sD Ac fun v1 w1 a3 aa a6=>?_)
 have a4:=a3.size
 have a7:=a5.trans a3
 refine Ae 1 Z<|A0<|fQ [0,0,0] Z<|Af 1 Z<|AU (v:=va) Bu Z ha.isSl Ac<|Ae 1 Z<|A5 ?_
 refine B8 (S:=Nat) (fun k=>([(12,zI (k:Int)),(0,va),(1,vb),(5,v1),(11,zI (a.length:Int))])) (fun k W=>AD w W∧Fr (BD rI 2) w.heap.size W.heap.size W.heap v1 (HA k (EU a b)<|List.replicate a.length 0)∧k≤a.length) (fun k=>a.length-k) 0 ⟨rfl,rfl,rfl,rfl,rfl,trivial⟩ ⟨a7,(by rw[Jo];exact a6.up o1),sD⟩ ?_
 clear a5 a6 aa a3 a4 a7
 rintro k ρ2 w2 ⟨a1,a0,a8⟩
 have ab:w.heap.size≤w2.heap.size:=a1.size
 have hml:=Jp k (EU a b) (List.replicate a.length 0) sM
 rw[z5]at hml
 have hga:=Co hqa k
 have hgb:=Co hqb k
 refine fQ [0] Z ?_
 by_cases a9:(k:Int)<(a.length:Int)
 ·refine AJ true Z Z (A7 a9) Ac<|Aj<|A0<|Ah Z<|A4<|A0<|A5<|fQ [0,0] Z<|Ae 2 Z<|B7 _ [0,0,0,0,0,1,0,0,0,1,0,0,0,4] mixed (by kernel_rfl)<|Af 4 Z<|AH (v:=va) k Bu BL Z Z ha.isSl Z sD Ac ?_
  refine Ai (p:=AE va k 1) (.inl Z) (zI<|a.getD k 0) AG Z (Bk a1.drew (ha.getI sD).1) Ac<|Af 2 Z ?_
  refine AH (v:=vb) k Bu BL Z Z hb.isSl Z sD Ac ?_
  refine Ai (p:=AE vb k 1) (.inl Z) (zI<|b.getD k 0) AG Z (Bk a1.drew (hb.getI sD).1) Ac<|AS (wr ((a.getD k 0)+(b.getD k 0))) Z Z Z Ac<|Ek (md (a.getD k 0+b.getD k 0)) Z Z (by decide) (UT hga hgb) Ac ?_
  refine AH (v:=v1) k Bu BL Z Z a0.isSl Z sD Ac (JU (v:=v1) (w:=w2.drew) GS Z Z (FK _) a0 sD Ac fun w4 F4 a2 ag ac ad=>?_)
  replace a2:=a2.of_drew
  have ae:AD w w4:=a2.below a1 (fun c hc=>Aa (A9 _) (ac c hc).1) a1.size
  have af:=a2.size
  refine Aj<|Ad _ [0,0] Z<|AS ((k+1:Nat):Int) Z Z (Bg oM sD) Ac<|Ae 1 Z ?_
  exact⟨k+1,_,rfl,zR,⟨ae,(by unfold EU;rw[Ni sM oM];exact ad.up o1),sD⟩,zD⟩
 exact AJ false Z Z (A8 a9) Ac<|Aj<|A0<|Ak Z<|A6<|AA<|AA<|Ax<|fQ [0,0] Z<|Ae 2 Z<|A3<|Al [4] Z v1 Z ⟨v1,rfl,a1,(by have h:=a0.up o1;rwa [KK sM (by simp;omega)]at h)⟩
theorem LH (w:World)(va:Value)(a:Sr)(vb:Value)(b:Sr)(ha:Rd (Bl rI) w.heap va a)(hb:Rd (Bl rI) w.heap vb b)(hla:a.length≤1000000000000)(hlb:b.length≤1000000000000)(hl:a.length≤b.length)(hqa:Bj a=true)(hqb:Bj b=true) :
  Calls Tryz.prog 179 #[va,vb] w (fun e w'=>∃v0:Value,e=.returned (v0)∧AD w w'∧Fr (BD rI 2) w.heap.size w'.heap.size w'.heap v0 (GA a b)):=by
 refine Aw [va,vb] 9 Tryz.func179 Z Z sM ?_
 have a7:AD w w:=AD.refl w
 have ab:=ha.lenle
 have ac:=hb.lenle
 refine fR Z<|fQ [0,0,3,3,0] Z<|Af 2 Z<|Ay 181 [] [] [vb,zI ((1000002:Nat):Int)] Z Z Pa Ac (E0 _ _ _ _ (hb.ext g1 a7) oM hlb hqb oM) ?_
 rintro e1 w1 ⟨a3,rfl,a4,a0⟩
 refine⟨_,rfl,a4,?_⟩
 have a8:=a4.size
 have a5:=a7.trans a4
 refine Ay 129 [] [] [va,a3] Z Z Rm Ac (FB _ _ _ _ _ (ha.ext g1 a5) a0.rd1 hla (by simp;omega) hqa (by exact HG _ _)) ?_
 rintro e2 w2 ⟨a1,rfl,a6,a2⟩
 refine⟨_,rfl,a6,?_⟩
 have a9:=a6.size
 have aa:=a5.trans a6
 exact Ae 1 Z<|A3<|Al [4] Z a1 Z ⟨a1,rfl,aa,(by rw[← SL hl];exact(a2.up o1).low a5.size)⟩
theorem Ev (w:World)(va:Value)(a:Sr)(vb:Value)(b:Sr)(ha:Rd (Bl rI) w.heap va a)(hb:Rd (Bl rI) w.heap vb b)(hla:a.length≤1000000000000)(hl:a.length≤b.length)(hqa:Bj a=true)(hqb:Bj b=true) :
  Calls Tryz.prog 180 #[va,vb] w (fun e w'=>∃v0:Value,e=.returned (v0)∧AD w w'∧Fr (BD rI 2) w.heap.size w'.heap.size w'.heap v0 (CF a b)):=by
 refine Aw [va,vb] 43 Tryz.func180 Z Z sM ?_
 have a8:AD w w:=AD.refl w
 have am:=ha.lenle
 have an:=hb.lenle
 refine fR Z<|fQ [0,0,3,0] Z<|Af 1 Z<|AU (v:=va) Bu Z ha.isSl Ac (Gd (n:=a.length) Bu BL Z Z Z sD Ac fun v1 w1 a5 af a9=>?_)
 have a6:=a5.size
 have aa:=a8.trans a5
 refine Ae 1 Z<|A0<|fQ [0,0,0] Z<|Af 1 Z<|AU (v:=va) Bu Z ha.isSl Ac<|Ae 1 Z<|A5 ?_
 refine B8 (S:=Nat) (fun k=>([(13,zI (k:Int)),(0,va),(1,vb),(5,v1),(12,zI (a.length:Int))])) (fun k W=>AD w W∧Fr (BD rI 2) w.heap.size W.heap.size W.heap v1 (HA k (CF a b)<|List.replicate a.length 0)∧k≤a.length) (fun k=>a.length-k) 0 ⟨rfl,rfl,rfl,rfl,rfl,trivial⟩ ⟨aa,(by rw[Jo];exact a9.up o1),sD⟩ ?_
 clear a8 a9 af a5 a6 aa
 rintro k ρ2 w2 ⟨a3,a1,ab⟩
 have a7:w.heap.size≤w2.heap.size:=a3.size
 have hml:=Jp k (CF a b) (List.replicate a.length 0) sM
 rw[z5]at hml
 have hga:=Co hqa k
 refine fQ [0] Z ?_
 by_cases ac:(k:Int)<(a.length:Int)
 ·refine AJ true Z Z (A7 ac) Ac<|Aj<|A0<|Ah Z<|A4<|A0<|A5<|fQ [0,0] Z<|Ae 2 Z<|fR Z<|A5 ?_
  refine B8 (S:=Nat) (fun i=>([(7,zI (i:Int)),(0,va),(1,vb),(5,v1),(6,zI (k:Int)),(12,zI (a.length:Int)),(13,zI (k:Int))])) (fun i W=>AD w W∧Fr (BD rI 2) w.heap.size W.heap.size W.heap v1 ((HA k (CF a b)<|List.replicate a.length 0).set k<|Pk a b k i)∧i≤k+1) (fun i=>k+1-i) 0 ⟨rfl,rfl,rfl,rfl,rfl,rfl,rfl,trivial⟩ ⟨a3,(by have h:=a1.up o1;rw[← SM (T:=CF a b) sM oM]at h;exact h),sD⟩ ?_
  clear a1 a3 a7
  rintro i ρ4 w4 ⟨a2,a0,ad⟩
  have ag:w.heap.size≤w4.heap.size:=a2.size
  have hms:((HA k (CF a b) (List.replicate a.length 0)).set k (Pk a b k i)).length=a.length:=by rw[z6];exact hml
  refine A0<|fQ [0,0,0] Z<|Af 2 Z ?_
  by_cases ae:(i:Int)≤(k:Int)
  ·refine El true Z Z (A7 ae) Ac<|Aj<|Ah Z<|A4<|A0<|A5<|B7 _ [0,0,0,0,0,1,0,0,0,1,0,0,0,0,0,1,0,0,0,0,4] mixed (by kernel_rfl)<|Af 4 Z<|AH (v:=v1) k Bu BL Z Z a0.isSl Z sD Ac ?_
   refine Ai (p:=AE v1 k 1) (.inl Z) (zI<|((HA k (CF a b)<|List.replicate a.length 0).set k<|Pk a b k i).getD k 0) AG Z (a0.rd1.getI sD).1 Ac (Af 2 Z ?_)
   refine AH (v:=va) i Bu BL Z Z ha.isSl Z sD Ac ?_
   refine Ai (p:=AE va i 1) (.inl Z) (zI<|a.getD i 0) AG Z (Bk a2.drew (ha.getI sD).1) Ac<|Af 3 Z<|BP ((k-i:Nat):Int) Z Z (Bg oM oM) Ac ?_
   refine AH (v:=vb) (k-i) Bu BL Z Z hb.isSl Z sD Ac ?_
   refine Ai (p:=AE vb (k-i) 1) (.inl Z) (zI<|b.getD (k-i) 0) AG Z (Bk a2.drew (hb.getI sD).1) Ac<|FY (wr ((a.getD i 0)*(b.getD (k-i) 0))) Z Z Z Ac<|AS (wr ((((HA k (CF a b)<|List.replicate a.length 0).set k<|Pk a b k i).getD k 0)+(wr ((a.getD i 0)*(b.getD (k-i) 0))))) Z Z Z Ac ?_
   refine Ek (md (Pk a b k i+a.getD i 0*b.getD (k-i) 0)) Z Z (by decide) (by rw[DX _ _ _ _ _ oM,if_pos rfl];exact Yr (QC _ _ _ _) (Co hqa _) (Co hqb _)) Ac<|AH (v:=v1) k Bu BL Z Z a0.isSl Z sD Ac ?_
   refine JU (v:=v1) (w:=w4.drew) GS Z Z (FK _) a0 sD Ac fun w6 F6 a4 al ah ai=>?_
   replace a4:=a4.of_drew
   have aj:AD w w6:=a4.below a2 (fun c hc=>Aa (A9 _) (ah c hc).1) a2.size
   have ak:=a4.size
   refine Aj<|Ad _ [0,0,0] Z<|Af 1 Z<|AS ((i+1:Nat):Int) Z Z (Bg oM sD) Ac<|Ae 1 Z ?_
   exact⟨i+1,_,rfl,zR,⟨aj,(by have h:=ai.up o1;rw[List.set_set]at h;exact h),sD⟩,zD⟩
  refine El false Z Z (A8 ae) Ac<|Aj<|Ak Z<|A6<|AA<|AA<|Ax<|Ad _ [0,0] Z<|AS ((k+1:Nat):Int) Z Z (Bg oM sD) Ac<|Ae 1 Z ?_
  exact⟨k+1,_,rfl,zR,⟨a2,(by have h:=a0.up o1;rw[show i=k+1 from by omega]at h;unfold CF;rw[Ni sM oM];exact h),sD⟩,zD⟩
 exact AJ false Z Z (A8 ac) Ac<|Aj<|A0<|Ak Z<|A6<|AA<|AA<|Ax<|fQ [0,0] Z<|Ae 2 Z<|A3<|Al [4] Z v1 Z ⟨v1,rfl,a3,(by have h:=a1.up o1;rwa [KK sM (by simp;omega)]at h)⟩
theorem Hu (w:World)(va:Value)(a:Sr)(vb:Value)(b:Sr)(ha:Rd (Bl rI) w.heap va a)(hb:Rd (Bl rI) w.heap vb b)(hla:a.length≤1000000000000)(hl:a.length≤b.length)(h1:0<b.length)(hqa:Bj a=true)(hqb:Bj b=true) :
  Calls Tryz.prog 182 #[va,vb] w (fun e w'=>∃v0:Value,e=.returned (v0)∧AD w w'∧Fr (BD rI 2) w.heap.size w'.heap.size w'.heap v0 (Cq a b)):=by
 refine Aw [va,vb] 53 Tryz.func182 Z Z sM ?_
 have a5:AD w w:=AD.refl w
 have am:=ha.lenle
 have an:=hb.lenle
 refine fR Z<|A0<|B7 _ [0,0,3,0,0,1,0,0,0] mixed (by kernel_rfl)<|Af 1 Z<|AU (v:=va) Bu Z ha.isSl Ac (Gd (n:=a.length) Bu BL Z Z Z sD Ac fun v1 w1 a2 ae a7=>?_)
 replace a2:=a2.of_drew
 have a6:=a2.size
 have a8:=a5.trans a2
 refine Af 1 Z<|AH (v:=vb) 0 Bu BL Z Z hb.isSl Z sD Ac ?_
 refine Ai (p:=AE vb 0 1) (.inl Z) (zI<|b.getD 0 0) AG Z (Bk a5.drew (hb.getI sD).1) Ac ?_
 refine AF 176 [] [] [zI<|b.getD 0 0] Z Z XN Ac (zI<|inv<|b.getD 0 0) (fun wq=>HT wq _ (hb.getI sD).2)<|Ae 2 Z<|A0<|fQ [0,0,0] Z<|Af 1 Z<|AU (v:=va) Bu Z ha.isSl Ac<|Ae 1 Z<|A5 ?_
 refine B8 (S:=Nat) (fun k=>([(19,zI (k:Int)),(0,va),(1,vb),(5,v1),(6,zI<|inv<|b.getD 0 0),(18,zI (a.length:Int))])) (fun k W=>AD w W∧Fr (BD rI 2) w.heap.size W.heap.size W.heap v1 (HA k (Cq a b)<|List.replicate a.length 0)∧k≤a.length) (fun k=>a.length-k) 0 ⟨rfl,rfl,rfl,rfl,rfl,rfl,trivial⟩ ⟨a8,(by rw[Jo];exact a7.up o1),sD⟩ ?_
 clear a5 a7 ae a2 a6 a8
 rintro k ρ3 w3 ⟨a4,a1,a9⟩
 have af:w.heap.size≤w3.heap.size:=a4.size
 have hml:=Jp k (Cq a b) (List.replicate a.length 0) sM
 rw[z5]at hml
 have hga:=Co hqa k
 refine fQ [0] Z ?_
 by_cases aa:(k:Int)<(a.length:Int)
 ·refine AJ true Z Z (A7 aa) Ac<|Aj<|A0<|Ah Z<|A4<|A0<|A5<|fQ [0,0] Z<|Ae 2 Z<|fQ [0,0,0,2,0] Z<|Af 2 Z<|AH (v:=va) k Bu BL Z Z ha.isSl Z sD Ac ?_
  refine Ai (p:=AE va k 1) (.inr Z) (zI<|a.getD k 0) AG Z (Bk a4 (ha.getI sD).1) Ac<|Ae 1 Z<|A0<|fR Z<|A5 ?_
  refine B8 (S:=Nat×Int) (fun⟨i,t⟩=>([(8,zI t),(9,zI (i:Int)),(0,va),(1,vb),(5,v1),(6,zI<|inv<|b.getD 0 0),(7,zI (k:Int)),(18,zI (a.length:Int)),(19,zI (k:Int))])) (fun⟨i,t⟩ W=>AD w W∧Fr (BD rI 2) w.heap.size w3.heap.size W.heap v1 (HA k (Cq a b)<|List.replicate a.length 0)∧i≤k∧t=Pl a b (Cq a b) k i∧(0≤t∧t<1000003)) (fun⟨i,t⟩=>k-i) (0,a.getD k 0) ⟨rfl,rfl,rfl,rfl,rfl,rfl,rfl,rfl,rfl,trivial⟩ ⟨a4,a1,sD,(by rfl),(by exact Co hqa k)⟩ ?_
  clear a1
  rintro⟨i,t⟩ ρ5 w5 ⟨a3,a0,ab,ht,htr⟩
  have ag:w.heap.size≤w5.heap.size:=a3.size
  refine A0<|fQ [0,0,0] Z<|Af 2 Z ?_
  by_cases ac:(i:Int)<(k:Int)
  ·refine AJ true Z Z (A7 ac) Ac<|Aj<|Ah Z<|A4<|A0<|A5<|B7 _ [0,0,0,0,1,0,0,0,0,0,1,0,0,0] mixed (by kernel_rfl)<|Af 3 Z<|AH (v:=v1) i Bu BL Z Z a0.isSl Z sD Ac ?_
   refine Ai (p:=AE v1 i 1) (.inl Z) (zI<|(HA k (Cq a b)<|List.replicate a.length 0).getD i 0) AG Z (a0.rd1.getI sD).1 Ac (Af 3 Z<|BP ((k-i:Nat):Int) Z Z (Bg oM oM) Ac ?_)
   refine AH (v:=vb) (k-i) Bu BL Z Z hb.isSl Z sD Ac ?_
   refine Ai (p:=AE vb (k-i) 1) (.inl Z) (zI<|b.getD (k-i) 0) AG Z (Bk a3.drew (hb.getI sD).1) Ac<|FY (wr (((HA k (Cq a b)<|List.replicate a.length 0).getD i 0)*(b.getD (k-i) 0))) Z Z Z Ac ?_
   refine AF 174 [] [] [zI t,zI<|wr (((HA k (Cq a b)<|List.replicate a.length 0).getD i 0)*(b.getD (k-i) 0))] Z Z TZ Ac (zI<|md (t-(wr (((HA k (Cq a b)<|List.replicate a.length 0).getD i 0)*(b.getD (k-i) 0))))) (fun wq=>Hh wq _ _ oM<|Pq _)<|Ae 1 Z<|Ad _ [0,0,0] Z<|Af 1 Z<|AS ((i+1:Nat):Int) Z Z (Bg oM sD) Ac<|Ae 1 Z ?_
   exact⟨(i+1,md (t-(wr (((HA k (Cq a b) (List.replicate a.length 0)).getD i 0)*(b.getD (k-i) 0))))),_,rfl,zR,⟨a3.drew,a0,sD,(by rw[ht,Yq 0 oM (by simp;omega)];exact SN (HF a b) hqb),(by exact Cd _)⟩,zD⟩
  refine AJ false Z Z (A8 ac) Ac<|Aj<|Ak Z<|A6<|AA<|AA<|Ax<|Ad _ [0,0,0,0,0,0,0,4] Z<|Af 4 Z<|FY (wr (t*(inv<|b.getD 0 0))) Z Z Z Ac<|Ek (md (t*inv (b.getD 0 0))) Z Z (by decide) (Or htr<|UO _) Ac<|AH (v:=v1) k Bu BL Z Z a0.isSl Z sD Ac ?_
  refine JU (v:=v1) (w:=w5) GS Z Z (FK _) a0 sD Ac fun w8 F8 ad al ah ai=>?_
  have aj:AD w w8:=ad.below a3 (fun c hc=>Aa (A9 _) (ah c hc).1) a3.size
  have ak:=ad.size
  refine Aj<|Ad _ [0,0] Z<|AS ((k+1:Nat):Int) Z Z (Bg oM sD) Ac<|Ae 1 Z ?_
  exact⟨k+1,_,rfl,zR,⟨aj,(by have h:=ai.up o1;rw[ht,show i=k from by omega]at h;rw[← US oM sM];exact h),sD⟩,zD⟩
 exact AJ false Z Z (A8 aa) Ac<|Aj<|A0<|Ak Z<|A6<|AA<|AA<|Ax<|fQ [0,0] Z<|Ae 2 Z<|A3<|Al [4] Z v1 Z ⟨v1,rfl,a4,(by have h:=a1.up o1;rwa [KK sM (by simp;omega)]at h)⟩
theorem LJ (w:World)(va:Value)(a:Sr)(ha:Rd (Bl rI) w.heap va a)(hla:a.length≤1000000000000) :
  Calls Tryz.prog 124 #[va] w (fun e w'=>∃v0:Value,e=.returned (v0)∧AD w w'∧Fr (BD (BD rI 2) 27) w.heap.size w'.heap.size w'.heap v0 (Cu a)):=by
 refine Aw [va] 20 Tryz.func124 Z Z sM ?_
 have a9:AD w w:=AD.refl w
 have au:=ha.lenle
 refine fR Z<|fQ [3,0] Z (Dt (BD rI 2) o1 BJ BR Ac fun v1 w1 a4 af aa=>?_)
 have a5:=a4.size
 have ab:=a9.trans a4
 refine Ae 1 Z<|A0<|fQ [0,0,0] Z<|Af 1 Z<|AU (v:=va) Bu Z ha.isSl Ac<|Ae 1 Z<|A5 ?_
 refine B8 (S:=Nat×Value) (fun⟨k,vo⟩=>([(3,vo),(9,zI (k:Int)),(7,va),(8,zI (a.length:Int))])) (fun⟨k,vo⟩ W=>AD w W∧Fr (BD (BD rI 2) 27) w.heap.size W.heap.size W.heap vo ((a.take k).map fun x=>[x])∧k≤a.length) (fun⟨k,vo⟩=>a.length-k) (0,v1) ⟨rfl,rfl,rfl,rfl,trivial⟩ ⟨ab,aa.up o2,sD⟩ ?_
 clear a9 aa af a4 a5 ab
 rintro⟨k,vo⟩ ρ2 w2 ⟨a3,a2,ac⟩
 have ag:w.heap.size≤w2.heap.size:=a3.size
 refine fQ [0] Z ?_
 by_cases ad:(k:Int)<(a.length:Int)
 ·refine AJ true Z Z (A7 ad) Ac<|Aj<|A0<|Ah Z<|A4<|A0<|A5<|fQ [0,2,0] Z<|AH (v:=va) k Bu BL Z Z ha.isSl Z sD Ac ?_
  refine Ai (p:=AE va k 1) (.inr Z) (zI<|a.getD k 0) AG Z (Bk a3 (ha.getI sD).1) Ac<|Ae 1 Z<|Ad _ [0,0,3,3,4,0] Z<|Af 2 Z ?_
  refine BQ (u:=zI<|a.getD k 0) (B:=w2.heap.size) AN Bu BL Z Z (Jl w2.heap.size w2.heap.size _ _ (ha.getI sD).2) (A9 _) Ac fun v4 w4 a6 aq ah=>?_
  have ai:=a6.size
  have aj:=a3.trans a6
  have a0:=a2.ext (o2) a6
  refine BQ (u:=v4) (B:=w2.heap.size) o1 BJ BR Z Z ah (by first|exact A9 _|omega) Ac fun v5 w5 a7 ar ak=>?_
  have al:=a7.size
  have a8:=aj.trans a7
  have a1:=a0.ext (o2) a7
  refine Nd o1 (v:=vo) (a:=v5) BJ BR Z Z Z a1 a8.size ak oM a3.size sD (by unfold maxLen;first|omega|assumption|(simp;done)|(simp;omega)) Ac fun v6 w6 F6 ae am an=>?_
  have ao:AD w w6:=ae.below a8 (fun c hc=>Aa (A9 _) (am c hc).1) a8.size
  have ap:=ae.size
  refine Ae 1 Z<|Ad _ [0,0] Z<|AS ((k+1:Nat):Int) Z Z (Bg oM sD) Ac<|Ae 1 Z ?_
  exact⟨(k+1,v6),_,rfl,zR,⟨ao,(by rw[Em 0 oM];exact an.up o2),sD⟩,zD⟩
 exact AJ false Z Z (A8 ad) Ac<|Aj<|A0<|Ak Z<|A6<|AA<|AA<|Ax<|fQ [0,0] Z<|Ae 2 Z<|A3<|Al [2] Z vo Z ⟨vo,rfl,a3,(by have h:=a2.up o2;rwa [za oM]at h)⟩
theorem IC (w:World)(va:Value)(a:List (Sr))(ha:Rd (Bl (Bl rI)) w.heap va a)(hla:a.length≤1000000000000)(h1:∀k,k<a.length→0<(a.getD k []).length) :
  Calls Tryz.prog 67 #[va] w (fun e w'=>∃v0:Value,e=.returned (v0)∧AD w w'∧Fr (BD rI 2) w.heap.size w'.heap.size w'.heap v0 (a.map (fun s=>s.getD 0 0))):=by
 refine Aw [va] 21 Tryz.func67 Z Z sM ?_
 have aa:AD w w:=AD.refl w
 have au:=ha.lenle
 refine fR Z<|fQ [3,0] Z (Dt (rI) AN Bu BL Ac fun v1 w1 a4 ah ab=>?_)
 have a5:=a4.size
 have ac:=aa.trans a4
 refine Ae 1 Z<|A0<|fQ [0,0,0] Z<|Af 1 Z<|AU (v:=va) BJ Z ha.isSl Ac<|Ae 1 Z<|A5 ?_
 refine B8 (S:=Nat×Value) (fun⟨k,vo⟩=>([(3,vo),(9,zI (k:Int)),(7,va),(8,zI (a.length:Int))])) (fun⟨k,vo⟩ W=>AD w W∧Fr (BD rI 2) w.heap.size W.heap.size W.heap vo ((a.take k).map fun s=>s.getD 0 0)∧k≤a.length) (fun⟨k,vo⟩=>a.length-k) (0,v1) ⟨rfl,rfl,rfl,rfl,trivial⟩ ⟨ac,ab.up o1,sD⟩ ?_
 clear aa ab ah a4 a5 ac
 rintro⟨k,vo⟩ ρ2 w2 ⟨a2,a1,ad⟩
 have ai:w.heap.size≤w2.heap.size:=a2.size
 refine fQ [0] Z ?_
 by_cases ae:(k:Int)<(a.length:Int)
 ·refine AJ true Z Z (A7 ae) Ac<|Aj<|A0<|Ah Z<|A4<|A0<|A5<|fQ [0,2,0] Z<|AH (v:=va) k BJ BR Z Z ha.isSl Z sD Ac ?_
  obtain⟨a6,aj,a3⟩:=ha.get (k:=k) [] sD
  have ak:=a3.lenle
  refine Ai (p:=AE va k 1) (.inr Z) a6 BN Z (Bk a2 aj) Ac<|Ae 1 Z<|Ad _ [0,0,0,2,3,4,0] Z ?_
  have ap:=h1 k oM
  refine Af 2 Z<|AH (v:=a6) 0 Bu BL Z Z a3.isSl Z sD Ac ?_
  refine Ai (p:=AE a6 0 1) (.inr Z) (zI<|(a.getD k []).getD 0 0) AG Z (Bk a2 (a3.getI sD).1) Ac ?_
  refine BQ (u:=zI<|(a.getD k []).getD 0 0) (B:=w2.heap.size) AN Bu BL Z Z (Jl w2.heap.size w2.heap.size _ _ (a3.getI sD).2) (A9 _) Ac fun v5 w5 a7 aq af=>?_
  have al:=a7.size
  have a8:=a2.trans a7
  have a0:=a1.ext (o1) a7
  refine FH (v:=vo) (a:=v5) Bu BL Z Z Z a0 a8.size af.rd1 sD (by unfold maxLen;first|omega|assumption|(simp;done)|(simp;omega)) Ac fun v6 w6 F6 a9 ag am=>?_
  have an:AD w w6:=a9.below a8 (fun c hc=>Aa (A9 _) (ag c hc).1) a8.size
  have ao:=a9.size
  have ar:=af.chg (o1) a9 fun c hc=>zH<|ag c hc
  refine Ae 1 Z<|Ad _ [0,0] Z<|AS ((k+1:Nat):Int) Z Z (Bg oM sD) Ac<|Ae 1 Z ?_
  exact⟨(k+1,v6),_,rfl,zR,⟨an,(by rw[Em [] oM];exact am.up o1),sD⟩,zD⟩
 exact AJ false Z Z (A8 ae) Ac<|Aj<|A0<|Ak Z<|A6<|AA<|AA<|Ax<|fQ [0,0] Z<|Ae 2 Z<|A3<|Al [2] Z vo Z ⟨vo,rfl,a2,(by have h:=a1.up o1;rwa [za oM]at h)⟩
theorem Hv (w:World)(dex:Nat)(ve:Value)(ex:Ex)(hex:RX [] dex w.heap ve ex)(hs:ex.size≤1000000000) :
  Calls Tryz.prog 150 #[(.agg #[(zI ex.kind),(zI ex.num),(zI ex.pick),(zI ex.count),ve])] w (fun e w'=>e=.returned (zI (ex.size:Int))∧AD w w'):=by
 induction dex using Nat.strongRecOn generalizing w ve ex
 rename_i dex ih
 refine Aw [.agg #[zI ex.kind,zI ex.num,zI ex.pick,zI ex.count,ve]] 19 Tryz.func150 Z Z sM ?_
 have ab:AD w w:=AD.refl w
 have aw:=hex.rn.lenle
 unfold maxLen at aw
 have hsk:=FC ex
 refine fQ [3,0] Z (BC (cs:=#[zI ex.kind,zI ex.num,zI ex.pick,zI ex.count,ve]) Z Ac fun w1 a2 aj a3=>?_)
 have a4:=a2.size
 have ac:=ab.trans a2
 replace a3:BX w1.heap w.heap.size [zI ex.kind,zI ex.num,zI ex.pick,zI ex.count,ve]:=a3
 refine Ae 1 Z<|fR Z<|A0<|fQ [0,2,0,0] Z<|Ao (p:=zP w.heap.size) 4 Bv Z Z Ac<|Ai (p:=Au (zP w.heap.size) 4) (.inr Z) ve BG Z (a3.ldp (i:=4) sM) Ac<|AU (v:=ve) DS Z hex.rn.isSl Ac<|Ae 1 Z<|A5 ?_
 refine B8 (S:=Nat×Nat) (fun⟨k,sz⟩=>([(3,zI (sz:Int)),(9,zI (k:Int)),(7,ve),(8,zI (ex.kids.length:Int))])) (fun⟨k,sz⟩ W=>AD w W∧k≤ex.kids.length∧sz=1+Ex.sizes (ex.kids.take k)) (fun⟨k,sz⟩=>ex.kids.length-k) (0,1) ⟨rfl,rfl,rfl,rfl,trivial⟩ ⟨ac,sD,(by rw[List.take_zero,MI])⟩ ?_
 clear ab aj a2 a4 ac
 rintro⟨k,sz⟩ ρ2 w2 ⟨a1,ad,hsz⟩
 have ak:w.heap.size≤w2.heap.size:=a1.size
 refine fQ [0] Z ?_
 by_cases ae:(k:Int)<(ex.kids.length:Int)
 ·refine AJ true Z Z (A7 ae) Ac<|Aj<|A0<|Ah Z<|A4<|A0<|A5<|fQ [0,2,3,4] Z ?_
  have hst:=Ea (l:=ex.kids) (k:=k) oM
  have hle:=DD ex.kids (k+1)
  have hdt:=H1 (l:=ex.kids) (k:=k) oM
  have hda:=EG<|ex.kids.getD k Ex.zero
  refine AH (v:=ve) k DS BM Z Z hex.rn.isSl Z sD Ac ?_
  obtain⟨cs4,al,am⟩:=hex.rn.get (AL dex) Ex.zero (k:=k) sD
  obtain⟨dd4,a0,ar,rfl,a5⟩:=RX.of al
  have a6:=a5.rn.lenle
  unfold maxLen at a6
  refine AC (p:=AE ve k 5) (.inr Z) [zI<|(ex.kids.getD k Ex.zero).kind,zI<|(ex.kids.getD k Ex.zero).num,zI<|(ex.kids.getD k Ex.zero).pick,zI<|(ex.kids.getD k Ex.zero).count,a0] Bq Z (fun ax a7=>am ax<|AB.of_ext []<|a1.trans a7) Z Ac (B9 (z:=.agg #[zI 0,zI 0,zI 0,zI 0,zN]) IB Ac fun w5 af au a8=>?_)
  have an:=af.size
  have ag:=a1.trans af
  replace a8:BX w5.heap w2.heap.size [zI 0,zI 0,zI 0,zI 0,zN]:=a8
  refine Bh (vs:=[zI<|(ex.kids.getD k Ex.zero).kind,zI<|(ex.kids.getD k Ex.zero).num,zI<|(ex.kids.getD k Ex.zero).pick,zI<|(ex.kids.getD k Ex.zero).count,a0]) Bq Z Z a5.ones a8 Z Z Ac fun w6 ah av a9=>?_
  replace a9:BX w6.heap w2.heap.size [zI ((ex.kids.getD k Ex.zero).kind),zI ((ex.kids.getD k Ex.zero).num),zI ((ex.kids.getD k Ex.zero).pick),zI ((ex.kids.getD k Ex.zero).count),a0]:=a9
  have ai:AD w w6:=ah.below ag (fun _ h=>zE h) ag.size
  have ao:=ah.size
  refine Aj<|Ad _ [0,2,3,0,0] Z<|Af 1 Z<|AC (p:=zP w2.heap.size) (.inr Z) [zI<|(ex.kids.getD k Ex.zero).kind,zI<|(ex.kids.getD k Ex.zero).num,zI<|(ex.kids.getD k Ex.zero).pick,zI<|(ex.kids.getD k Ex.zero).count,a0] Bq Z (fun ax a7=>LD.of_box<|BX.ext (w:=w6) a9 a7) Z Ac<|Ay 150 [] [] [.agg #[zI<|(ex.kids.getD k Ex.zero).kind,zI<|(ex.kids.getD k Ex.zero).num,zI<|(ex.kids.getD k Ex.zero).pick,zI<|(ex.kids.getD k Ex.zero).count,a0]] Z Z TX Ac (ih dd4 oM _ a0 (ex.kids.getD k Ex.zero) (a5.ext ai) oM) ?_
  rintro e7 w7 ⟨rfl,aa⟩
  refine⟨_,rfl,aa,?_⟩
  have ap:=aa.size
  have aq:=ai.trans aa
  refine AS ((sz+(ex.kids.getD k Ex.zero).size:Nat):Int) Z Z (Bg oM oM) Ac<|Ae 1 Z<|Ad _ [0,0] Z<|AS ((k+1:Nat):Int) Z Z (Bg oM sD) Ac<|Ae 1 Z ?_
  exact⟨(k+1,sz+(ex.kids.getD k Ex.zero).size),_,rfl,zR,⟨aq,sD,oM⟩,zD⟩
 exact AJ false Z Z (A8 ae) Ac<|Aj<|A0<|Ak Z<|A6<|AA<|AA<|Ax<|fQ [0,0] Z<|Ae 2 Z<|A3<|Al [2] Z (zI (sz:Int)) Z ⟨Bm (by rw[hsz,MK oM,hsk]),a1⟩
theorem Kc (w:World)(dex:Nat)(ve:Value)(ex:Ex)(hex:RX [] dex w.heap ve ex)(hs:ex.size≤1000000000) :
  Calls Tryz.prog 196 #[(.agg #[(zI ex.kind),(zI ex.num),(zI ex.pick),(zI ex.count),ve])] w (fun e w'=>e=.returned (zI (ex.deep:Int))∧AD w w'):=by
 induction dex using Nat.strongRecOn generalizing w ve ex
 rename_i dex ih
 refine Aw [.agg #[zI ex.kind,zI ex.num,zI ex.pick,zI ex.count,ve]] 20 Tryz.func196 Z Z sM ?_
 have ab:AD w w:=AD.refl w
 have aw:=hex.rn.lenle
 unfold maxLen at aw
 have hsk:=FC ex
 have hdk:=EF ex
 refine fQ [3,0] Z (BC (cs:=#[zI ex.kind,zI ex.num,zI ex.pick,zI ex.count,ve]) Z Ac fun w1 a2 aj a3=>?_)
 have a4:=a2.size
 have ac:=ab.trans a2
 replace a3:BX w1.heap w.heap.size [zI ex.kind,zI ex.num,zI ex.pick,zI ex.count,ve]:=a3
 refine Ae 1 Z<|fR Z<|A0<|fQ [0,2,0,0] Z<|Ao (p:=zP w.heap.size) 4 Bv Z Z Ac<|Ai (p:=Au (zP w.heap.size) 4) (.inr Z) ve BG Z (a3.ldp (i:=4) sM) Ac<|AU (v:=ve) DS Z hex.rn.isSl Ac<|Ae 1 Z<|A5 ?_
 refine B8 (S:=Nat×Nat) (fun⟨k,sz⟩=>([(3,zI (sz:Int)),(9,zI (k:Int)),(7,ve),(8,zI (ex.kids.length:Int))])) (fun⟨k,sz⟩ W=>AD w W∧k≤ex.kids.length∧sz=Ex.deeps (ex.kids.take k)) (fun⟨k,sz⟩=>ex.kids.length-k) (0,0) ⟨rfl,rfl,rfl,rfl,trivial⟩ ⟨ac,sD,(by rw[List.take_zero,MJ])⟩ ?_
 clear ab aj a2 a4 ac
 rintro⟨k,sz⟩ ρ2 w2 ⟨a1,ad,hsz⟩
 have ak:w.heap.size≤w2.heap.size:=a1.size
 refine fQ [0] Z ?_
 by_cases ae:(k:Int)<(ex.kids.length:Int)
 ·refine AJ true Z Z (A7 ae) Ac<|Aj<|A0<|Ah Z<|A4<|A0<|A5<|fQ [0,2,3,4] Z ?_
  have hst:=Ea (l:=ex.kids) (k:=k) oM
  have hle:=DD ex.kids (k+1)
  have hdt:=H1 (l:=ex.kids) (k:=k) oM
  have hda:=EG<|ex.kids.getD k Ex.zero
  refine AH (v:=ve) k DS BM Z Z hex.rn.isSl Z sD Ac ?_
  obtain⟨cs4,al,am⟩:=hex.rn.get (AL dex) Ex.zero (k:=k) sD
  obtain⟨dd4,a0,ar,rfl,a5⟩:=RX.of al
  have a6:=a5.rn.lenle
  unfold maxLen at a6
  refine AC (p:=AE ve k 5) (.inr Z) [zI<|(ex.kids.getD k Ex.zero).kind,zI<|(ex.kids.getD k Ex.zero).num,zI<|(ex.kids.getD k Ex.zero).pick,zI<|(ex.kids.getD k Ex.zero).count,a0] Bq Z (fun ax a7=>am ax<|AB.of_ext []<|a1.trans a7) Z Ac (B9 (z:=.agg #[zI 0,zI 0,zI 0,zI 0,zN]) IB Ac fun w5 af au a8=>?_)
  have an:=af.size
  have ag:=a1.trans af
  replace a8:BX w5.heap w2.heap.size [zI 0,zI 0,zI 0,zI 0,zN]:=a8
  refine Bh (vs:=[zI<|(ex.kids.getD k Ex.zero).kind,zI<|(ex.kids.getD k Ex.zero).num,zI<|(ex.kids.getD k Ex.zero).pick,zI<|(ex.kids.getD k Ex.zero).count,a0]) Bq Z Z a5.ones a8 Z Z Ac fun w6 ah av a9=>?_
  replace a9:BX w6.heap w2.heap.size [zI ((ex.kids.getD k Ex.zero).kind),zI ((ex.kids.getD k Ex.zero).num),zI ((ex.kids.getD k Ex.zero).pick),zI ((ex.kids.getD k Ex.zero).count),a0]:=a9
  have ai:AD w w6:=ah.below ag (fun _ h=>zE h) ag.size
  have ao:=ah.size
  refine Aj<|Ad _ [0,2,3,0,0] Z<|Af 1 Z<|AC (p:=zP w2.heap.size) (.inr Z) [zI<|(ex.kids.getD k Ex.zero).kind,zI<|(ex.kids.getD k Ex.zero).num,zI<|(ex.kids.getD k Ex.zero).pick,zI<|(ex.kids.getD k Ex.zero).count,a0] Bq Z (fun ax a7=>LD.of_box<|BX.ext (w:=w6) a9 a7) Z Ac<|Ay 196 [] [] [.agg #[zI<|(ex.kids.getD k Ex.zero).kind,zI<|(ex.kids.getD k Ex.zero).num,zI<|(ex.kids.getD k Ex.zero).pick,zI<|(ex.kids.getD k Ex.zero).count,a0]] Z Z XP Ac (ih dd4 oM _ a0 (ex.kids.getD k Ex.zero) (a5.ext ai) oM) ?_
  rintro e7 w7 ⟨rfl,aa⟩
  refine⟨_,rfl,aa,?_⟩
  have ap:=aa.size
  have aq:=ai.trans aa
  refine ZT ((max sz ((ex.kids.getD k Ex.zero).deep):Nat):Int) oM Z Z Ac<|Ae 1 Z<|Ad _ [0,0] Z<|AS ((k+1:Nat):Int) Z Z (Bg oM sD) Ac<|Ae 1 Z ?_
  exact⟨(k+1,max sz ((ex.kids.getD k Ex.zero).deep)),_,rfl,zR,⟨aq,sD,oM⟩,zD⟩
 refine AJ false Z Z (A8 ae) Ac<|Aj<|A0<|Ak Z<|A6<|AA<|AA<|Ax<|fQ [0,0,0] Z ?_
 have h8:=JV (l:=ex.kids) (k:=k) oM
 have h9:=EG ex
 exact Af 1 Z<|AS ((sz+1:Nat):Int) Z Z (Bg oM oM) Ac<|Ae 1 Z<|A3<|Al [2] Z (zI ((sz+1:Nat):Int)) Z ⟨Bm (by rw[hsz,JV oM,hdk]),a1⟩
theorem XY {b:Bool}(h:(!b)=false):b=true:=by cases b <;> simp_all
theorem dI {b:Bool}(h:(!b)=true):b=false:=by cases b <;> simp_all
theorem Zr {p:List Fn}{funcs vars:Int}{e:Ex}{b:Bool}(h:e.kids.length=0∨b=false)(hb:H5 p funcs vars e=b):Ending.returned (.bool b)=.returned (.bool (wf p funcs e vars)):=by
  rcases h with h|h
  · rw[Nj h,hb]
  · subst h;rw[← SI hb]
theorem Cf {p:Prop}(h:p:=by first|exact AQ (Nk hwn fun j hj=>hall j oM)|exact AQ (SJ (k:=k) oM (by first|(rw[if_pos oM])|(rw[if_neg oM])) (dI ‹_›))|exact Zr (by first|exact .inr Z|(left;omega)|(left;simp_all <;> omega)) (by(have hp9:=hpl.symm;clear hpl;unfold H5 HB;first|(simp[*];done)|(simp[*];omega)|(simp[*] <;> intros <;> omega)|(simp_all <;> omega)))):p:=h
theorem IX {p:Prop}(h:p:=by(have hp9:=hpl.symm;clear hpl;unfold H5 HB;first|(simp[*];done)|(simp[*];omega)|(simp[*] <;> intros <;> omega)|(simp_all <;> omega))):p:=h
theorem Q6 {p:Prop}(h:p:=by intro j hj;by_cases e9:j=k;(rw[e9];first|(rw[if_pos oM];exact XY ‹_›)|(rw[if_neg oM];exact XY ‹_›));exact hall j oM):p:=h
theorem U9 {p:Prop}(h:p:=by unfold Eb;first|(simp[*];done)|(simp[*];intros;omega)|(simp[*];omega)):p:=h
theorem IY {p:Prop}(h:p:=by first|exact(A7 oM).symm|exact decide_eq_decide.2 oM):p:=h
theorem GO (w:World)(dp:Nat)(vp:Value)(p:List Fn)(funcs:Int)(dex:Nat)(ve:Value)(ex:Ex)(vars:Int)(hp:RP [] dp w.heap vp p)(_hfuncs:Bd funcs)(hex:RX [] dex w.heap ve ex)(_hvars:Bd vars)(hs:0≤vars∧vars+(ex.deep:Int)≤2000000000)(hf:0≤funcs∧funcs≤(p.length:Int)) :
  Calls Tryz.prog 197 #[(.agg #[vp,(zI funcs)]),(.agg #[(zI ex.kind),(zI ex.num),(zI ex.pick),(zI ex.count),ve]),zI vars] w (fun e w'=>e=.returned (.bool (wf p funcs ex vars))∧AD w w'):=by
 induction dex using Nat.strongRecOn generalizing w dp vp p funcs ve ex vars
 rename_i dex ih
 refine Aw [.agg #[vp,zI funcs],.agg #[zI ex.kind,zI ex.num,zI ex.pick,zI ex.count,ve],zI vars] 177 Tryz.func197 Z Z sM ?_
 have d2:AD w w:=AD.refl w
 have ec:=hp.lenle
 unfold maxLen at ec
 have ed:=hex.rn.lenle
 unfold maxLen at ed
 have hdk:=EF ex
 refine fQ [3,3,0] Z (BC (cs:=#[vp,zI funcs]) Z Ac fun w1 cq df co=>?_)
 have cr:=cq.size
 have d3:=d2.trans cq
 replace co:BX w1.heap w.heap.size [vp,zI funcs]:=co
 have e5:=co.lt
 refine BC (cs:=#[zI ex.kind,zI ex.num,zI ex.pick,zI ex.count,ve]) Z Ac fun w2 cp dg bc=>?_
 have ct:=cp.size
 have cu:=d3.trans cp
 have bb:=co.ext cp
 replace bc:BX w2.heap w1.heap.size [zI ex.kind,zI ex.num,zI ex.pick,zI ex.count,ve]:=bc
 refine Ae 1 Z<|fQ [0,2,0,0] Z<|Ao (p:=zP w1.heap.size) 4 Bv Z Z Ac<|Ai (p:=Au (zP w1.heap.size) 4) (.inr Z) ve BG Z (bc.ldp (i:=4) sM) Ac<|AU (v:=ve) DS Z hex.rn.isSl Ac<|Ae 1 Z<|A0<|Kl (S:=Bool) (fun(pl:Bool)=>([(8,.bool pl),(2,zI vars),(3,zP w.heap.size),(4,zP w1.heap.size),(7,zI (ex.kids.length:Int))])) (fun(pl:Bool) (W:World)=>AD w W∧BX W.heap w.heap.size [vp,zI funcs]∧BX W.heap w1.heap.size [zI ex.kind,zI ex.num,zI ex.pick,zI ex.count,ve]∧pl=Eb ex) ?_ ?_
 ·refine Ad _ [0,2,0,0,0,2,0,0,0] Z<|Ao (p:=zP w1.heap.size) 2 Et Z Z Ac<|Ai (p:=Au (zP w1.heap.size) 2) (.inr Z) (zI ex.pick) AG Z (bc.ldp (i:=2) sM) Ac ?_
  by_cases d4:ex.pick=((0:Nat):Int)
  ·exact Av true Z Z (A7 d4) Ac<|Af 1 Z<|Ao (p:=zP w1.heap.size) 3 E6 Z Z (Ag (e:=19) Z Z Z)<|Ai (p:=Au (zP w1.heap.size) 3) (.inr Z) (zI ex.count) AG Z (bc.ldp (i:=3) sM) (Ag (e:=19) Z Z Z)<|Av (decide (ex.count=((0:Nat):Int))) Z Z Z (Ag (e:=19) Z Z Z)<|Ae 2 Z ⟨decide (ex.count=((0:Nat):Int)),_,rfl,zR,⟨cu,bb,bc,U9⟩⟩
  exact Av false Z Z (A8 d4) Ac<|Ae 6 Z ⟨false,_,rfl,zR,⟨cu,bb,bc,U9⟩⟩
 clear d2 df cq cr d3 dg cp ct cu
 rintro pl ρ4 w4 ⟨ag,a4,a1,hpl⟩
 have bf:w.heap.size≤w4.heap.size:=ag.size
 have e6:=a4.lt
 have e7:=a1.lt
 refine A0<|Kl (S:=Unit) (fun(u:Unit)=>([(2,zI vars),(3,zP w.heap.size),(4,zP w1.heap.size)])) (fun(u:Unit) (W:World)=>AD w W∧BX W.heap w.heap.size [vp,zI funcs]∧BX W.heap w1.heap.size [zI ex.kind,zI ex.num,zI ex.pick,zI ex.count,ve]∧H5 p funcs vars ex=true) ?_ ?_
 ·refine fQ [0,2] Z<|Ao (p:=zP w1.heap.size) 0 Bz Z Z Ac<|Ai (p:=Au (zP w1.heap.size) 0) (.inr Z) (zI ex.kind) AG Z (a1.ldp (i:=0) sM) Ac<|Aj<|A5<|fQ [0,0] Z ?_
  by_cases d5:ex.kind=((1:Nat):Int)
  ·refine Av true Z Z (A7 d5) Ac<|Ae 1 Z<|Ah Z<|fQ [0,0,0,0,0,0,0,2,0,0,0] Z<|Af 2 Z ?_
   cases dh:pl
   ·exact Ae 9 Z<|A3<|AM<|At<|Al [6] Z (.bool false) Z ⟨Cf,ag⟩
   refine Af 1 Z ?_
   by_cases bg:(ex.kids.length:Int)=((0:Nat):Int)
   ·refine Av true Z Z (A7 bg) (Ag (e:=29) Z Z Z)<|Af 2 Z<|Ao (p:=zP w1.heap.size) 1 Cc Z Z (Ag (e:=33) Z Z Z)<|Ai (p:=Au (zP w1.heap.size) 1) (.inr Z) (zI ex.num) AG Z (a1.ldp (i:=1) sM) (Ag (e:=33) Z Z Z)<|AF 116 [] [] [zI ex.num] Z Z TV (Ag (e:=33) Z Z Z) (.bool<|Hq ex.num) (fun wq=>Fk wq _ hex.rng.num)<|Ae 2 Z<|A3<|AM<|At ?_
    exact Al [6] Z (.bool<|Hq ex.num) Z ⟨Cf,ag⟩
   exact Av false Z Z (A8 bg) (Ag (e:=29) Z Z Z)<|Ae 7 Z<|A3<|AM<|At<|Al [6] Z (.bool false) Z ⟨Cf,ag⟩
  refine Av false Z Z (A8 d5) Ac<|Ae 1 Z<|Ak Z<|fQ [0,0] Z ?_
  by_cases bh:ex.kind=((2:Nat):Int)
  ·refine Av true Z Z (A7 bh) Ac<|Ae 1 Z<|Ah Z<|fQ [0,0,0,0,0,0,0,2,0,0,0,0,0] Z<|Af 2 Z ?_
   cases di:pl
   ·exact Ae 11 Z<|A3<|AM<|At<|Al [6] Z (.bool false) Z ⟨Cf,ag⟩
   refine Af 1 Z ?_
   by_cases bi:(ex.kids.length:Int)=((0:Nat):Int)
   ·refine Av true Z Z (A7 bi) (Ag (e:=41) Z Z Z)<|Af 2 Z<|Ao (p:=zP w1.heap.size) 1 Cc Z Z (Ag (e:=45) Z Z Z)<|Ai (p:=Au (zP w1.heap.size) 1) (.inr Z) (zI ex.num) AG Z (a1.ldp (i:=1) sM) (Ag (e:=45) Z Z Z)<|Af 1 Z<|BP (vars-1) Z Z (E1 oM oM) (Ag (e:=45) Z Z Z)<|AF 72 [] [] [zI ex.num,zI ((0:Nat):Int),zI (vars-1)] Z Z EA (Ag (e:=45) Z Z Z) (.bool (decide (((0:Nat):Int)≤ex.num) && decide (ex.num≤(vars-1)))) (fun wq=>B5 wq _ _ _ hex.rng.num oM oM)<|Ae 2 Z<|A3<|AM ?_
    exact At<|Al [6] Z (.bool (decide (((0:Nat):Int)≤ex.num) && decide (ex.num≤(vars-1)))) Z ⟨Cf,ag⟩
   exact Av false Z Z (A8 bi) (Ag (e:=41) Z Z Z)<|Ae 9 Z<|A3<|AM<|At<|Al [6] Z (.bool false) Z ⟨Cf,ag⟩
  refine Av false Z Z (A8 bh) Ac<|Ae 1 Z<|Ak Z<|A0<|Kl (S:=Bool) (fun(b5:Bool)=>([(52,.bool b5),(2,zI vars),(3,zP w.heap.size),(4,zP w1.heap.size),(7,zI (ex.kids.length:Int)),(8,.bool pl),(25,zI ex.kind)])) (fun(b5:Bool) (W:World)=>AD w W∧BX W.heap w.heap.size [vp,zI funcs]∧BX W.heap w1.heap.size [zI ex.kind,zI ex.num,zI ex.pick,zI ex.count,ve]∧b5=decide (ex.kind=3∨ex.kind=4∨ex.kind=5∨ex.kind=6∨ex.kind=9)) ?_ ?_
  ·refine fQ [0,0] Z ?_
   by_cases bj:ex.kind=((3:Nat):Int)
   ·exact Av true Z Z (A7 bj) Ac<|Ae 1 Z<|Ah Z<|A4 ⟨true,_,rfl,zR,⟨ag,a4,a1,IY⟩⟩
   refine Av false Z Z (A8 bj) Ac<|Ae 1 Z<|Ak Z<|fQ [0,0] Z ?_
   by_cases bk:ex.kind=((4:Nat):Int)
   ·exact Av true Z Z (A7 bk) Ac<|Ae 1 Z<|Ah Z<|A4 ⟨true,_,rfl,zR,⟨ag,a4,a1,IY⟩⟩
   refine Av false Z Z (A8 bk) Ac<|Ae 1 Z<|Ak Z<|fQ [0,0] Z ?_
   by_cases bl:ex.kind=((5:Nat):Int)
   ·exact Av true Z Z (A7 bl) Ac<|Ae 1 Z<|Ah Z<|A4 ⟨true,_,rfl,zR,⟨ag,a4,a1,IY⟩⟩
   refine Av false Z Z (A8 bl) Ac<|Ae 1 Z<|Ak Z<|fQ [0,0] Z ?_
   by_cases bm:ex.kind=((6:Nat):Int)
   ·exact Av true Z Z (A7 bm) Ac<|Ae 1 Z<|Ah Z<|A4 ⟨true,_,rfl,zR,⟨ag,a4,a1,IY⟩⟩
   exact Av false Z Z (A8 bm) Ac<|Ae 1 Z<|Ak Z<|Ad _ [0,0] Z<|Av (decide (ex.kind=((9:Nat):Int))) Z Z Z Ac<|Ae 1 Z ⟨decide (ex.kind=((9:Nat):Int)),_,rfl,zR,⟨ag,a4,a1,IY⟩⟩
  clear a1 a4 ag bf
  rintro b5 ρ17 ef ⟨a2,a3,a0,h5b⟩
  have bn:w.heap.size≤ef.heap.size:=a2.size
  have dj:=a3.lt
  have dk:=a0.lt
  cases bo:b5
  ·refine Ak (by first|rfl|exact zW bo)<|fQ [0,0] Z ?_
   have h5n:=of_decide_eq_false (h5b.symm.trans ‹_›)
   clear h5b
   by_cases bp:ex.kind=((7:Nat):Int)
   ·refine Av true Z Z (A7 bp) Ac<|Ae 1 Z<|Ah Z<|fQ [0,0,0,0,2,0,0,0,0,0,0] Z<|Af 1 Z<|BF (!pl) Z Z Ac<|Af 1 Z ?_
    cases dl:(!pl)
    ·refine Ao (p:=zP w1.heap.size) 1 Cc Z Z (Ag (e:=73) Z Z Z)<|Ai (p:=Au (zP w1.heap.size) 1) (.inr Z) (zI ex.num) AG Z (a0.ldp (i:=1) sM) (Ag (e:=73) Z Z Z) ?_
     by_cases bq:ex.num≠((0:Nat):Int)
     ·exact Be true Z Z (A7 bq) (Ag (e:=73) Z Z Z)<|Ae 5 Z<|Ah Z<|fR Z<|A3<|AM<|At<|Al [6] Z (.bool false) Z ⟨Cf,a2⟩
     refine Be false Z Z (A8 bq) (Ag (e:=73) Z Z Z)<|Af 3 Z ?_
     by_cases br:(ex.kids.length:Int)≠((1:Nat):Int)
     ·exact Be true Z Z (A7 br) (Ag (e:=78) Z Z Z)<|Ae 1 Z<|Ah Z<|fR Z<|A3<|AM<|At<|Al [6] Z (.bool false) Z ⟨Cf,a2⟩
     exact Be false Z Z (A8 br) (Ag (e:=78) Z Z Z)<|Ae 1 Z<|Ak Z<|A4 ⟨(),_,rfl,zR,⟨a2,a3,a0,IX⟩⟩
    exact Ae 8 Z<|Ah Z<|fR Z<|A3<|AM<|At<|Al [6] Z (.bool false) Z ⟨Cf,a2⟩
   refine Av false Z Z (A8 bp) Ac<|Ae 1 Z<|Ak Z<|fQ [0,0] Z ?_
   by_cases bs:ex.kind=((8:Nat):Int)
   ·refine Av true Z Z (A7 bs) Ac<|Ae 1 Z<|Ah Z<|fQ [0,0,0,0,2,0,0,0,0,0,0] Z<|Af 1 Z<|BF (!pl) Z Z Ac<|Af 1 Z ?_
    cases dm:(!pl)
    ·refine Ao (p:=zP w1.heap.size) 1 Cc Z Z (Ag (e:=86) Z Z Z)<|Ai (p:=Au (zP w1.heap.size) 1) (.inr Z) (zI ex.num) AG Z (a0.ldp (i:=1) sM) (Ag (e:=86) Z Z Z) ?_
     by_cases bt:ex.num≠((0:Nat):Int)
     ·exact Be true Z Z (A7 bt) (Ag (e:=86) Z Z Z)<|Ae 5 Z<|Ah Z<|fR Z<|A3<|AM<|At<|Al [6] Z (.bool false) Z ⟨Cf,a2⟩
     refine Be false Z Z (A8 bt) (Ag (e:=86) Z Z Z)<|Af 3 Z ?_
     by_cases bu:(ex.kids.length:Int)≠((3:Nat):Int)
     ·exact Be true Z Z (A7 bu) (Ag (e:=91) Z Z Z)<|Ae 1 Z<|Ah Z<|fR Z<|A3<|AM<|At<|Al [6] Z (.bool false) Z ⟨Cf,a2⟩
     exact Be false Z Z (A8 bu) (Ag (e:=91) Z Z Z)<|Ae 1 Z<|Ak Z<|A4 ⟨(),_,rfl,zR,⟨a2,a3,a0,IX⟩⟩
    exact Ae 8 Z<|Ah Z<|fR Z<|A3<|AM<|At<|Al [6] Z (.bool false) Z ⟨Cf,a2⟩
   refine Av false Z Z (A8 bs) Ac<|Ae 1 Z<|Ak Z<|A0<|Kl (S:=Bool) (fun(b10:Bool)=>([(95,.bool b10),(2,zI vars),(3,zP w.heap.size),(4,zP w1.heap.size),(7,zI (ex.kids.length:Int))])) (fun(b10:Bool) (W:World)=>AD w W∧BX W.heap w.heap.size [vp,zI funcs]∧BX W.heap w1.heap.size [zI ex.kind,zI ex.num,zI ex.pick,zI ex.count,ve]∧b10=decide (ex.kind=10∨ex.kind=11)) ?_ ?_
   ·refine fQ [0,0] Z ?_
    by_cases bv:ex.kind=((10:Nat):Int)
    ·exact Av true Z Z (A7 bv) Ac<|Ae 1 Z<|Ah Z<|A4 ⟨true,_,rfl,zR,⟨a2,a3,a0,IY⟩⟩
    exact Av false Z Z (A8 bv) Ac<|Ae 1 Z<|Ak Z<|Ad _ [0,0] Z<|Av (decide (ex.kind=((11:Nat):Int))) Z Z Z Ac<|Ae 1 Z ⟨decide (ex.kind=((11:Nat):Int)),_,rfl,zR,⟨a2,a3,a0,IY⟩⟩
   clear a0 a3 a2 bn
   rintro b10 ρ33 e8 ⟨an,a6,a7,h10b⟩
   have d6:w.heap.size≤e8.heap.size:=an.size
   have dn:=a6.lt
   have dq:=a7.lt
   cases bw:b10
   ·refine Ak (by first|rfl|exact zW bw)<|fQ [0] Z ?_
    have h10n:=of_decide_eq_false (h10b.symm.trans ‹_›)
    clear h10b
    exact Ae 1 Z<|A3<|AM<|At<|Al [6] Z (.bool false) Z ⟨Cf,an⟩
   refine Ah (by first|rfl|exact zW bw)<|A0<|fQ [0,2,0,2,0,0,0] Z ?_
   have h5k:=of_decide_eq_true (h10b.symm.trans ‹_›)
   clear h10b
   refine Ao (p:=zP w1.heap.size) 1 Cc Z Z Ac<|Ai (p:=Au (zP w1.heap.size) 1) (.inr Z) (zI ex.num) AG Z (a7.ldp (i:=1) sM) Ac<|Ao (p:=zP w.heap.size) 1 VQ Z Z Ac<|Ai (p:=Au (zP w.heap.size) 1) (.inr Z) (zI funcs) AG Z (a6.ldp (i:=1) sM) Ac<|BP (funcs-1) Z Z (E1 oM oM) Ac<|AF 72 [] [] [zI ex.num,zI ((0:Nat):Int),zI (funcs-1)] Z Z EA Ac (.bool (decide (((0:Nat):Int)≤ex.num) && decide (ex.num≤(funcs-1)))) (fun wq=>B5 wq _ _ _ hex.rng.num oM oM) ?_
   refine BF (!(decide (((0:Nat):Int)≤ex.num) && decide (ex.num≤(funcs-1)))) Z Z Ac<|Aj ?_
   cases bx:(!(decide (((0:Nat):Int)≤ex.num) && decide (ex.num≤(funcs-1))))
   ·refine Ak (by first|rfl|exact zW bx)<|A4<|fQ [0,0,2,0,2,0,2,3,4] Z ?_
    have hnr:0≤ex.num∧ex.num≤funcs-1:=by have h9:=‹(!(decide (((0:Nat):Int)≤ex.num) && decide (ex.num≤funcs-1)))=false›;simpa using h9
    refine Ao (p:=zP w.heap.size) 0 VP Z Z Ac<|Ao (p:=Au (zP w.heap.size) 0) (b:=w.heap.size) (o:=0) 0 C8 Z Z Ac<|Ai (p:=Au (Au (zP w.heap.size) 0) 0) (.inr Z) vp CO Z (a6.ldp (i:=0) sM) Ac<|Ao (p:=zP w1.heap.size) 1 Cc Z Z Ac<|Ai (p:=Au (zP w1.heap.size) 1) (.inr Z) (zI ex.num) AG Z (a7.ldp (i:=1) sM) Ac ?_
    refine AH (v:=vp) ((ex.num).toNat) Im DJ Z Z hp.isSl oM sD Ac ?_
    obtain⟨cs40,cv,cw⟩:=hp.get (AR dp) Fn.zero (k:=(ex.num).toNat) sD
    obtain⟨aa,rfl,ao⟩:=RF.of cv
    have bz:=ao.rn.lenle
    unfold maxLen at bz
    refine AC (p:=AE vp ((ex.num).toNat) 3) (.inr Z) [.string<|(p.getD ((ex.num).toNat) Fn.zero).name,zI<|(p.getD ((ex.num).toNat) Fn.zero).params,aa] LG Z (fun e9 ad=>cw e9<|AB.of_ext []<|an.trans ad) Z Ac ?_
    have dr:=a6.lt
    have ds:=a7.lt
    refine B9 (z:=.agg #[.string ByteArray.empty,zI 0,zN]) Zo Ac fun eg ax dt bd=>?_
    have d7:=ax.size
    have c0:=an.trans ax
    have ai:=a6.ext ax
    have aj:=a7.ext ax
    replace bd:BX eg.heap e8.heap.size [.string ByteArray.empty,zI 0,zN]:=bd
    refine Bh (vs:=[.string<|(p.getD ((ex.num).toNat) Fn.zero).name,zI<|(p.getD ((ex.num).toNat) Fn.zero).params,aa]) LG Z Z ao.ones bd Z Z Ac fun ee ay du ac=>?_
    replace ac:BX ee.heap e8.heap.size [.string ((p.getD ((ex.num).toNat) Fn.zero).name),zI ((p.getD ((ex.num).toNat) Fn.zero).params),aa]:=ac
    have a8:AD w ee:=ay.below c0 (fun _ h=>zE h) c0.size
    have d8:=ay.size
    have az:=ai.chg ay (zB ·)
    have a9:=aj.chg ay (zB ·)
    refine Aj<|A0<|fQ [0,0,2,0,0,0,2,0,2,0,0,0,0,0] Z<|Af 1 Z<|Ao (p:=zP e8.heap.size) 1 CZ Z Z Ac<|Ai (p:=Au (zP e8.heap.size) 1) (.inr Z) (zI<|(p.getD ((ex.num).toNat) Fn.zero).params) AG Z (ac.ldp (i:=1) sM) Ac ?_
    by_cases c1:(ex.kids.length:Int)≠(p.getD ((ex.num).toNat) Fn.zero).params
    ·exact Be true Z Z (A7 c1) Ac<|Ae 10 Z<|Ah Z<|fR Z<|A3<|At<|AM<|At<|Al [6] Z (.bool false) Z ⟨Cf,a8⟩
    refine Be false Z Z (A8 c1) Ac<|Af 1 Z<|Ao (p:=zP w1.heap.size) 2 Et Z Z (Ag (e:=116) Z Z Z)<|Ai (p:=Au (zP w1.heap.size) 2) (.inr Z) (zI ex.pick) AG Z (a9.ldp (i:=2) sM) (Ag (e:=116) Z Z Z)<|Ao (p:=zP e8.heap.size) 2 Cv Z Z (Ag (e:=116) Z Z Z)<|Ai (p:=Au (zP e8.heap.size) 2) (.inr Z) aa BG Z (ac.ldp (i:=2) sM) (Ag (e:=116) Z Z Z)<|AU (v:=aa) DS Z ao.rn.isSl (Ag (e:=116) Z Z Z) ?_
    refine BP (((p.getD (ex.num).toNat Fn.zero).outs.length:Int)-1) Z Z (E1 oM oM) (Ag (e:=116) Z Z Z)<|AF 72 [] [] [zI ex.pick,zI ((0:Nat):Int),zI (((p.getD (ex.num).toNat Fn.zero).outs.length:Int)-1)] Z Z EA (Ag (e:=116) Z Z Z) (.bool (decide (((0:Nat):Int)≤ex.pick) && decide (ex.pick≤(((p.getD (ex.num).toNat Fn.zero).outs.length:Int)-1)))) (fun wq=>B5 wq _ _ _ hex.rng.pick oM oM)<|BF (!(decide (((0:Nat):Int)≤ex.pick) && decide (ex.pick≤(((p.getD (ex.num).toNat Fn.zero).outs.length:Int)-1)))) Z Z (Ag (e:=116) Z Z Z)<|Ae 1 Z ?_
    cases c2:(!(decide (((0:Nat):Int)≤ex.pick) && decide (ex.pick≤(((p.getD (ex.num).toNat Fn.zero).outs.length:Int)-1))))
    ·refine Ak (by first|rfl|exact zW c2)<|A4<|fQ [0,2,0,0,0,2,0,0,0,0,2,0,0,0,2,0,0,2,0,0,0,2,0,0,0,0,0] Z<|Ao (p:=zP w1.heap.size) 0 Bz Z Z Ac<|Ai (p:=Au (zP w1.heap.size) 0) (.inr Z) (zI ex.kind) AG Z (a9.ldp (i:=0) sM) Ac ?_
     by_cases c3:ex.kind=((10:Nat):Int)
     ·refine Av true Z Z (A7 c3) Ac<|Af 1 Z<|Ao (p:=zP w1.heap.size) 3 E6 Z Z (Ag (e:=129) Z Z Z)<|Ai (p:=Au (zP w1.heap.size) 3) (.inr Z) (zI ex.count) AG Z (a9.ldp (i:=3) sM) (Ag (e:=129) Z Z Z) ?_
      by_cases c4:ex.count≠((0:Nat):Int)
      ·exact Be true Z Z (A7 c4) (Ag (e:=129) Z Z Z)<|Ae 20 Z<|Ah Z<|fR Z<|A3<|AM<|At<|Al [6] Z (.bool false) Z ⟨Cf,a8⟩
      refine Be false Z Z (A8 c4) (Ag (e:=129) Z Z Z)<|Af 2 Z<|Ao (p:=zP w1.heap.size) 0 Bz Z Z (Ag (e:=134) Z Z Z)<|Ai (p:=Au (zP w1.heap.size) 0) (.inr Z) (zI ex.kind) AG Z (a9.ldp (i:=0) sM) (Ag (e:=134) Z Z Z) ?_
      by_cases c5:ex.kind=((11:Nat):Int)
      ·refine Av true Z Z (A7 c5) (Ag (e:=134) Z Z Z)<|Af 1 Z<|Ao (p:=zP e8.heap.size) 2 Cv Z Z (Ag (e:=138) Z Z Z)<|Ai (p:=Au (zP e8.heap.size) 2) (.inr Z) aa BG Z (ac.ldp (i:=2) sM) (Ag (e:=138) Z Z Z)<|AU (v:=aa) DS Z ao.rn.isSl (Ag (e:=138) Z Z Z)<|Ao (p:=zP e8.heap.size) 1 CZ Z Z (Ag (e:=138) Z Z Z)<|Ai (p:=Au (zP e8.heap.size) 1) (.inr Z) (zI<|(p.getD ((ex.num).toNat) Fn.zero).params) AG Z (ac.ldp (i:=1) sM) (Ag (e:=138) Z Z Z) ?_
       by_cases c6:((((p.getD ((ex.num).toNat) Fn.zero).outs).length:Nat):Int)≠(p.getD ((ex.num).toNat) Fn.zero).params
       ·exact Be true Z Z (A7 c6) (Ag (e:=138) Z Z Z)<|Ae 8 Z<|Ah Z<|fR Z<|A3<|AM<|At<|Al [6] Z (.bool false) Z ⟨Cf,a8⟩
       refine Be false Z Z (A8 c6) (Ag (e:=138) Z Z Z)<|Af 1 Z<|Ao (p:=zP w1.heap.size) 3 E6 Z Z (Ag (e:=145) Z Z Z)<|Ai (p:=Au (zP w1.heap.size) 3) (.inr Z) (zI ex.count) AG Z (a9.ldp (i:=3) sM) (Ag (e:=145) Z Z Z)<|AF 72 [] [] [zI ex.count,zI ((0:Nat):Int),zI ((8:Nat):Int)] Z Z EA (Ag (e:=145) Z Z Z) (.bool (decide (((0:Nat):Int)≤ex.count) && decide (ex.count≤((8:Nat):Int)))) (fun wq=>B5 wq _ _ _ hex.rng.count oM oM)<|BF (!(decide (((0:Nat):Int)≤ex.count) && decide (ex.count≤((8:Nat):Int)))) Z Z (Ag (e:=145) Z Z Z) ?_
       refine Ae 3 Z ?_
       cases c7:(!(decide (((0:Nat):Int)≤ex.count) && decide (ex.count≤((8:Nat):Int))))
       ·exact Ak (by first|rfl|exact zW c7)<|A4 ⟨(),_,rfl,zR,⟨a8,az,a9,IX⟩⟩
       exact Ah (by first|rfl|exact zW c7)<|fR Z<|A3<|AM<|At<|Al [6] Z (.bool false) Z ⟨Cf,a8⟩
      exact Av false Z Z (A8 c5) (Ag (e:=134) Z Z Z)<|Ae 15 Z<|Ak Z<|A4 ⟨(),_,rfl,zR,⟨a8,az,a9,IX⟩⟩
     refine Av false Z Z (A8 c3) Ac<|Af 6 Z<|Ao (p:=zP w1.heap.size) 0 Bz Z Z (Ag (e:=134) Z Z Z)<|Ai (p:=Au (zP w1.heap.size) 0) (.inr Z) (zI ex.kind) AG Z (a9.ldp (i:=0) sM) (Ag (e:=134) Z Z Z) ?_
     by_cases c8:ex.kind=((11:Nat):Int)
     ·refine Av true Z Z (A7 c8) (Ag (e:=134) Z Z Z)<|Af 1 Z<|Ao (p:=zP e8.heap.size) 2 Cv Z Z (Ag (e:=138) Z Z Z)<|Ai (p:=Au (zP e8.heap.size) 2) (.inr Z) aa BG Z (ac.ldp (i:=2) sM) (Ag (e:=138) Z Z Z)<|AU (v:=aa) DS Z ao.rn.isSl (Ag (e:=138) Z Z Z)<|Ao (p:=zP e8.heap.size) 1 CZ Z Z (Ag (e:=138) Z Z Z)<|Ai (p:=Au (zP e8.heap.size) 1) (.inr Z) (zI<|(p.getD ((ex.num).toNat) Fn.zero).params) AG Z (ac.ldp (i:=1) sM) (Ag (e:=138) Z Z Z) ?_
      by_cases c9:((((p.getD ((ex.num).toNat) Fn.zero).outs).length:Nat):Int)≠(p.getD ((ex.num).toNat) Fn.zero).params
      ·exact Be true Z Z (A7 c9) (Ag (e:=138) Z Z Z)<|Ae 8 Z<|Ah Z<|fR Z<|A3<|AM<|At<|Al [6] Z (.bool false) Z ⟨Cf,a8⟩
      refine Be false Z Z (A8 c9) (Ag (e:=138) Z Z Z)<|Af 1 Z<|Ao (p:=zP w1.heap.size) 3 E6 Z Z (Ag (e:=145) Z Z Z)<|Ai (p:=Au (zP w1.heap.size) 3) (.inr Z) (zI ex.count) AG Z (a9.ldp (i:=3) sM) (Ag (e:=145) Z Z Z)<|AF 72 [] [] [zI ex.count,zI ((0:Nat):Int),zI ((8:Nat):Int)] Z Z EA (Ag (e:=145) Z Z Z) (.bool (decide (((0:Nat):Int)≤ex.count) && decide (ex.count≤((8:Nat):Int)))) (fun wq=>B5 wq _ _ _ hex.rng.count oM oM)<|BF (!(decide (((0:Nat):Int)≤ex.count) && decide (ex.count≤((8:Nat):Int)))) Z Z (Ag (e:=145) Z Z Z) ?_
      refine Ae 3 Z ?_
      cases ca:(!(decide (((0:Nat):Int)≤ex.count) && decide (ex.count≤((8:Nat):Int))))
      ·exact Ak (by first|rfl|exact zW ca)<|A4 ⟨(),_,rfl,zR,⟨a8,az,a9,IX⟩⟩
      exact Ah (by first|rfl|exact zW ca)<|fR Z<|A3<|AM<|At<|Al [6] Z (.bool false) Z ⟨Cf,a8⟩
     exact Av false Z Z (A8 c8) (Ag (e:=134) Z Z Z)<|Ae 15 Z<|Ak Z<|A4 ⟨(),_,rfl,zR,⟨a8,az,a9,IX⟩⟩
    exact Ah (by first|rfl|exact zW c2)<|fR Z<|A3<|At<|AM<|At<|Al [6] Z (.bool false) Z ⟨Cf,a8⟩
   exact Ah (by first|rfl|exact zW bx)<|fR Z<|A3<|At<|AM<|At<|Al [6] Z (.bool false) Z ⟨Cf,an⟩
  refine Ah (by first|rfl|exact zW bo)<|fQ [0,0,0,0,2,0,0,0,0,0,0] Z ?_
  have h5k:=of_decide_eq_true (h5b.symm.trans ‹_›)
  clear h5b
  refine Af 1 Z<|BF (!pl) Z Z Ac<|Af 1 Z ?_
  cases dv:(!pl)
  ·refine Ao (p:=zP w1.heap.size) 1 Cc Z Z (Ag (e:=60) Z Z Z)<|Ai (p:=Au (zP w1.heap.size) 1) (.inr Z) (zI ex.num) AG Z (a0.ldp (i:=1) sM) (Ag (e:=60) Z Z Z) ?_
   by_cases cb:ex.num≠((0:Nat):Int)
   ·exact Be true Z Z (A7 cb) (Ag (e:=60) Z Z Z)<|Ae 5 Z<|Ah Z<|fR Z<|A3<|AM<|At<|Al [6] Z (.bool false) Z ⟨Cf,a2⟩
   refine Be false Z Z (A8 cb) (Ag (e:=60) Z Z Z)<|Af 3 Z ?_
   by_cases cc:(ex.kids.length:Int)≠((2:Nat):Int)
   ·exact Be true Z Z (A7 cc) (Ag (e:=65) Z Z Z)<|Ae 1 Z<|Ah Z<|fR Z<|A3<|AM<|At<|Al [6] Z (.bool false) Z ⟨Cf,a2⟩
   exact Be false Z Z (A8 cc) (Ag (e:=65) Z Z Z)<|Ae 1 Z<|Ak Z<|A4 ⟨(),_,rfl,zR,⟨a2,a3,a0,IX⟩⟩
  exact Ae 8 Z<|Ah Z<|fR Z<|A3<|AM<|At<|Al [6] Z (.bool false) Z ⟨Cf,a2⟩
 clear a1 a4 ag bf
 rintro u ρ8 w8 ⟨cx,ap,ah,hwn⟩
 have cy:w.heap.size≤w8.heap.size:=cx.size
 have dw:=ap.lt
 have dx:=ah.lt
 refine A0<|fQ [0,2,0,0] Z<|Ao (p:=zP w1.heap.size) 4 Bv Z Z Ac<|Ai (p:=Au (zP w1.heap.size) 4) (.inr Z) ve BG Z (ah.ldp (i:=4) sM) Ac<|AU (v:=ve) DS Z hex.rn.isSl Ac<|Ae 1 Z<|A5 ?_
 refine B8 (S:=Nat) (fun k=>([(156,zI (k:Int)),(2,zI vars),(3,zP w.heap.size),(4,zP w1.heap.size),(154,ve),(155,zI (ex.kids.length:Int))])) (fun k W=>AD w W∧BX W.heap w.heap.size [vp,zI funcs]∧BX W.heap w1.heap.size [zI ex.kind,zI ex.num,zI ex.pick,zI ex.count,ve]∧k≤ex.kids.length∧(∀j,j<k→wf p funcs (ex.kids.getD j Ex.zero) (if ex.kind=9∧j=1 then vars+1 else vars)=true)) (fun k=>ex.kids.length-k) 0 ⟨rfl,rfl,rfl,rfl,rfl,rfl,trivial⟩ ⟨cx,ap,ah,sD,(by intro j hj;omega)⟩ ?_
 clear ah ap cx cy
 rintro k ρ65 eb ⟨b0,ae,af,cz,hall⟩
 have d9:w.heap.size≤eb.heap.size:=b0.size
 have dy:=ae.lt
 have dz:=af.lt
 refine fQ [0] Z ?_
 by_cases cd:(k:Int)<(ex.kids.length:Int)
 ·refine AJ true Z Z (A7 cd) Ac<|Aj<|A0<|Ah Z<|A4<|A0<|A5<|fQ [0,0,2,3,0,4] Z ?_
  have hkd:=ET (l:=ex.kids) (k:=k) oM
  refine Af 1 Z<|AH (v:=ve) k DS BM Z Z hex.rn.isSl Z sD Ac ?_
  obtain⟨cs69,d0,d1⟩:=hex.rn.get (AL dex) Ex.zero (k:=k) sD
  obtain⟨dd69,a5,e0,rfl,aq⟩:=RX.of d0
  have ce:=aq.rn.lenle
  unfold maxLen at ce
  refine AC (p:=AE ve k 5) (.inr Z) [zI<|(ex.kids.getD k Ex.zero).kind,zI<|(ex.kids.getD k Ex.zero).num,zI<|(ex.kids.getD k Ex.zero).pick,zI<|(ex.kids.getD k Ex.zero).count,a5] Bq Z (fun e9 ad=>d1 e9<|AB.of_ext []<|b0.trans ad) Z Ac ?_
  have e1:=ae.lt
  have e2:=af.lt
  refine B9 (z:=.agg #[zI 0,zI 0,zI 0,zI 0,zN]) IB Ac fun eh b1 e3 be=>?_
  have da:=b1.size
  have cf:=b0.trans b1
  have ak:=ae.ext b1
  have al:=af.ext b1
  replace be:BX eh.heap eb.heap.size [zI 0,zI 0,zI 0,zI 0,zN]:=be
  refine Af 1 Z (Bh (vs:=[zI<|(ex.kids.getD k Ex.zero).kind,zI<|(ex.kids.getD k Ex.zero).num,zI<|(ex.kids.getD k Ex.zero).pick,zI<|(ex.kids.getD k Ex.zero).count,a5]) Bq Z Z aq.ones be Z Z Ac fun ea b2 e4 ar=>?_)
  replace ar:BX ea.heap eb.heap.size [zI ((ex.kids.getD k Ex.zero).kind),zI ((ex.kids.getD k Ex.zero).num),zI ((ex.kids.getD k Ex.zero).pick),zI ((ex.kids.getD k Ex.zero).count),a5]:=ar
  have ab:AD w ea:=b2.below cf (fun _ h=>zE h) cf.size
  have db:=b2.size
  have am:=ak.chg b2 (zB ·)
  have b3:=al.chg b2 (zB ·)
  refine Aj<|fQ [0,0] Z<|Ae 2 Z<|A0<|fQ [0,2,0,0,0,0,0] Z<|Ao (p:=zP w1.heap.size) 0 Bz Z Z Ac<|Ai (p:=Au (zP w1.heap.size) 0) (.inr Z) (zI ex.kind) AG Z (b3.ldp (i:=0) sM) Ac ?_
  by_cases cg:ex.kind=((9:Nat):Int)
  ·refine Av true Z Z (A7 cg) Ac<|Af 2 Z ?_
   by_cases ch:(k:Int)=((1:Nat):Int)
   ·refine Av true Z Z (A7 ch) (Ag (e:=165) Z Z Z)<|Ae 1 Z<|Ah Z<|Ad _ [0,0,0] Z<|Af 1 Z<|AS (vars+1) Z Z (E1 oM oM) Ac<|Ae 1 Z<|fQ [2,2,0,3,0] Z<|AC (p:=zP w.heap.size) (.inr Z) [vp,zI funcs] Q3 Z (fun e9 ad=>LD.of_box<|BX.ext (w:=ea) am ad) Z Ac<|AC (p:=zP eb.heap.size) (.inr Z) [zI<|(ex.kids.getD k Ex.zero).kind,zI<|(ex.kids.getD k Ex.zero).num,zI<|(ex.kids.getD k Ex.zero).pick,zI<|(ex.kids.getD k Ex.zero).count,a5] Bq Z (fun e9 ad=>LD.of_box<|BX.ext (w:=ea) ar ad) Z Ac<|Af 1 Z ?_
    refine Ay 197 [] [] [.agg #[vp,zI funcs],.agg #[zI<|(ex.kids.getD k Ex.zero).kind,zI<|(ex.kids.getD k Ex.zero).num,zI<|(ex.kids.getD k Ex.zero).pick,zI<|(ex.kids.getD k Ex.zero).count,a5],zI (vars+1)] Z Z Rp Ac (ih dd69 oM _ dp vp (p) (funcs) a5 (ex.kids.getD k Ex.zero) _ (hp.ext (Aq<|AR dp) ab) _hfuncs (aq.ext ab) oM oM oM) ?_
    rintro ei ej ⟨rfl,au⟩
    refine⟨_,rfl,au,?_⟩
    have dc:=au.size
    have ci:=ab.trans au
    have b4:=am.ext au
    have b6:=b3.ext au
    refine BF (!(wf p funcs (ex.kids.getD k Ex.zero) (vars+1))) Z Z Ac<|Aj ?_
    cases cj:(!(wf p funcs (ex.kids.getD k Ex.zero) (vars+1)))
    ·refine Ak (by first|rfl|exact zW cj)<|A4<|Ad _ [0,0] Z<|AS ((k+1:Nat):Int) Z Z (Bg oM sD) Ac<|Ae 1 Z ?_
     exact⟨k+1,_,rfl,zR,⟨ci,b4,b6,sD,Q6⟩,zD⟩
    exact Ah (by first|rfl|exact zW cj)<|fR Z<|A3<|AM<|At<|At<|AM<|At<|Al [6] Z (.bool false) Z ⟨Cf,ci⟩
   refine Av false Z Z (A8 ch) (Ag (e:=165) Z Z Z)<|Ae 1 Z<|Ak Z<|A4<|fQ [2,2,0,3,0] Z<|AC (p:=zP w.heap.size) (.inr Z) [vp,zI funcs] Q3 Z (fun e9 ad=>LD.of_box<|BX.ext (w:=ea) am ad) Z Ac<|AC (p:=zP eb.heap.size) (.inr Z) [zI<|(ex.kids.getD k Ex.zero).kind,zI<|(ex.kids.getD k Ex.zero).num,zI<|(ex.kids.getD k Ex.zero).pick,zI<|(ex.kids.getD k Ex.zero).count,a5] Bq Z (fun e9 ad=>LD.of_box<|BX.ext (w:=ea) ar ad) Z Ac<|Af 1 Z ?_
   refine Ay 197 [] [] [.agg #[vp,zI funcs],.agg #[zI<|(ex.kids.getD k Ex.zero).kind,zI<|(ex.kids.getD k Ex.zero).num,zI<|(ex.kids.getD k Ex.zero).pick,zI<|(ex.kids.getD k Ex.zero).count,a5],zI vars] Z Z Rp Ac (ih dd69 oM _ dp vp (p) (funcs) a5 (ex.kids.getD k Ex.zero) _ (hp.ext (Aq<|AR dp) ab) _hfuncs (aq.ext ab) _hvars oM oM) ?_
   rintro ek el ⟨rfl,av⟩
   refine⟨_,rfl,av,?_⟩
   have dd:=av.size
   have ck:=ab.trans av
   have b7:=am.ext av
   have b8:=b3.ext av
   refine BF (!(wf p funcs (ex.kids.getD k Ex.zero) vars)) Z Z Ac<|Aj ?_
   cases cl:(!(wf p funcs (ex.kids.getD k Ex.zero) vars))
   ·refine Ak (by first|rfl|exact zW cl)<|A4<|Ad _ [0,0] Z<|AS ((k+1:Nat):Int) Z Z (Bg oM sD) Ac<|Ae 1 Z ?_
    exact⟨k+1,_,rfl,zR,⟨ck,b7,b8,sD,Q6⟩,zD⟩
   exact Ah (by first|rfl|exact zW cl)<|fR Z<|A3<|AM<|At<|At<|AM<|At<|Al [6] Z (.bool false) Z ⟨Cf,ck⟩
  refine Av false Z Z (A8 cg) Ac<|Ae 4 Z<|Ak Z<|A4<|fQ [2,2,0,3,0] Z<|AC (p:=zP w.heap.size) (.inr Z) [vp,zI funcs] Q3 Z (fun e9 ad=>LD.of_box<|BX.ext (w:=ea) am ad) Z Ac<|AC (p:=zP eb.heap.size) (.inr Z) [zI<|(ex.kids.getD k Ex.zero).kind,zI<|(ex.kids.getD k Ex.zero).num,zI<|(ex.kids.getD k Ex.zero).pick,zI<|(ex.kids.getD k Ex.zero).count,a5] Bq Z (fun e9 ad=>LD.of_box<|BX.ext (w:=ea) ar ad) Z Ac<|Af 1 Z ?_
  refine Ay 197 [] [] [.agg #[vp,zI funcs],.agg #[zI<|(ex.kids.getD k Ex.zero).kind,zI<|(ex.kids.getD k Ex.zero).num,zI<|(ex.kids.getD k Ex.zero).pick,zI<|(ex.kids.getD k Ex.zero).count,a5],zI vars] Z Z Rp Ac (ih dd69 oM _ dp vp (p) (funcs) a5 (ex.kids.getD k Ex.zero) _ (hp.ext (Aq<|AR dp) ab) _hfuncs (aq.ext ab) _hvars oM oM) ?_
  rintro em en ⟨rfl,aw⟩
  refine⟨_,rfl,aw,?_⟩
  have de:=aw.size
  have cm:=ab.trans aw
  have b9:=am.ext aw
  have ba:=b3.ext aw
  refine BF (!(wf p funcs (ex.kids.getD k Ex.zero) vars)) Z Z Ac<|Aj ?_
  cases cn:(!(wf p funcs (ex.kids.getD k Ex.zero) vars))
  ·refine Ak (by first|rfl|exact zW cn)<|A4<|Ad _ [0,0] Z<|AS ((k+1:Nat):Int) Z Z (Bg oM sD) Ac<|Ae 1 Z ?_
   exact⟨k+1,_,rfl,zR,⟨cm,b9,ba,sD,Q6⟩,zD⟩
  exact Ah (by first|rfl|exact zW cn)<|fR Z<|A3<|AM<|At<|At<|AM<|At<|Al [6] Z (.bool false) Z ⟨Cf,cm⟩
 exact AJ false Z Z (A8 cd) Ac<|Aj<|A0<|Ak Z<|A6<|AA<|AA<|Ax<|fR Z<|A3<|Al [6] Z (.bool true) Z ⟨Cf,b0⟩
theorem Q7 {s:ByteArray}{k:Nat}(hk:k<s.size)(h:(JO s k<97∨122<JO s k)∧(k=0∨JO s k<48∨57<JO s k)):false=Lj s:=by
  have hc:Xc s k=false:=by
    unfold Xc
    rcases h with⟨h1|h1,h2|h2|h2⟩ <;> simp <;> omega
  unfold Lj
  rw[JX hk hc,Bool.and_false]
theorem Rx {s:ByteArray}{k:Nat}(h:(97≤JO s k∧JO s k≤122)∨(k≠0∧48≤JO s k∧JO s k≤57)):Xc s k=true:=by
  unfold Xc
  rcases h with h|h <;> simp <;> omega
theorem Ua {s:ByteArray}{k:Nat}{b:Bool}(h:(List.range k).all (Xc s)=true)(hk:k=s.size)(hb:b=(decide (1≤s.size) && decide (s.size≤12))):b=Lj s:=by
  subst hk
  unfold Lj
  rw[h,Bool.and_true,hb]
theorem HU {p:Prop}(h:p:=by first|exact AQ (Q7 (k:=k) oM oM)|exact AQ (Ua hq oM (by first|(rw[A7 (show 1≤s.size by omega),Bool.true_and];exact decide_eq_decide.2 oM)|(rw[A8 (show ¬1≤s.size by omega)];rfl)))):p:=h
theorem Mr (w:World)(s:ByteArray)  (hl:s.size≤1000000000) :
  Calls Tryz.prog 146 #[.string s] w (fun e w'=>e=.returned (.bool (Lj s))∧w'=w):=by
 refine Aw [.string s] 44 Tryz.func146 Z Z sM ?_
 have a3:w=w:=rfl
 refine fR Z<|A0<|fQ [0,0,0] Z<|Af 1 Z<|L5 (s:=s) u9 Z Ac<|Ae 1 Z<|A5 ?_
 refine B8 (S:=Nat) (fun k=>([(6,zI (k:Int)),(0,.string s),(5,zI (s.size:Int))])) (fun k W=>W=w∧k≤s.size∧(List.range k).all (Xc s)=true) (fun k=>s.size-k) 0 ⟨rfl,rfl,rfl,trivial⟩ ⟨a3,sD,(by rfl)⟩ ?_
 clear a3
 rintro k ρ1 w1 ⟨a0,a4,hq⟩
 refine fQ [0] Z ?_
 by_cases a5:(k:Int)<(s.size:Int)
 ·refine AJ true Z Z (A7 a5) Ac<|Aj<|A0<|Ah Z<|A4<|A0<|A5<|fQ [0,0] Z<|Ae 2 Z<|fQ [0,0,0,0,0,0,0,0,0,0,0,0,0,0,0,0,0,0,0,0,0,0,0,0,0,0] Z<|Af 2 Z<|Du (s:=s) k u9 Z Z Z sD Ac ?_
  by_cases a6:((JO s k:Nat):Int)<97
  ·refine AJ true Z Z (A7 a6) Ac<|Af 8 Z ?_
   by_cases a7:(k:Int)=((0:Nat):Int)
   ·exact Av true Z Z (A7 a7) (Ag (e:=19) Z Z Z)<|Ae 13 Z<|Ah Z<|fR Z<|A3<|AM<|At<|At<|AM<|At<|Al [2] Z (.bool false) Z ⟨HU,a0⟩
   refine Av false Z Z (A8 a7) (Ag (e:=19) Z Z Z)<|Af 3 Z<|Du (s:=s) k u9 Z Z Z sD (Ag (e:=22) Z Z Z) ?_
   by_cases a8:((JO s k:Nat):Int)<48
   ·exact AJ true Z Z (A7 a8) (Ag (e:=22) Z Z Z)<|Ae 8 Z<|Ah Z<|fR Z<|A3<|AM<|At<|At<|AM<|At<|Al [2] Z (.bool false) Z ⟨HU,a0⟩
   refine AJ false Z Z (A8 a8) (Ag (e:=22) Z Z Z)<|Af 4 Z<|Du (s:=s) k u9 Z Z Z sD (Ag (e:=28) Z Z Z) ?_
   by_cases a9:57<((JO s k:Nat):Int)
   ·exact C0 true Z Z (A7 a9) (Ag (e:=28) Z Z Z)<|Ae 2 Z<|Ah Z<|fR Z<|A3<|AM<|At<|At<|AM<|At<|Al [2] Z (.bool false) Z ⟨HU,a0⟩
   refine C0 false Z Z (A8 a9) (Ag (e:=28) Z Z Z)<|Ae 2 Z<|Ak Z<|A4<|Ad _ [0,0] Z<|AS ((k+1:Nat):Int) Z Z (Bg oM sD) Ac<|Ae 1 Z ?_
   exact⟨k+1,_,rfl,zR,⟨a0,sD,(by exact Eg hq (Rx oM))⟩,zD⟩
  refine AJ false Z Z (A8 a6) Ac<|Af 3 Z<|Du (s:=s) k u9 Z Z Z sD (Ag (e:=13) Z Z Z) ?_
  by_cases aa:122<((JO s k:Nat):Int)
  ·refine C0 true Z Z (A7 aa) (Ag (e:=13) Z Z Z)<|Af 3 Z ?_
   by_cases ab:(k:Int)=((0:Nat):Int)
   ·exact Av true Z Z (A7 ab) (Ag (e:=19) Z Z Z)<|Ae 13 Z<|Ah Z<|fR Z<|A3<|AM<|At<|At<|AM<|At<|Al [2] Z (.bool false) Z ⟨HU,a0⟩
   refine Av false Z Z (A8 ab) (Ag (e:=19) Z Z Z)<|Af 3 Z<|Du (s:=s) k u9 Z Z Z sD (Ag (e:=22) Z Z Z) ?_
   by_cases ac:((JO s k:Nat):Int)<48
   ·exact AJ true Z Z (A7 ac) (Ag (e:=22) Z Z Z)<|Ae 8 Z<|Ah Z<|fR Z<|A3<|AM<|At<|At<|AM<|At<|Al [2] Z (.bool false) Z ⟨HU,a0⟩
   refine AJ false Z Z (A8 ac) (Ag (e:=22) Z Z Z)<|Af 4 Z<|Du (s:=s) k u9 Z Z Z sD (Ag (e:=28) Z Z Z) ?_
   by_cases a1:57<((JO s k:Nat):Int)
   ·exact C0 true Z Z (A7 a1) (Ag (e:=28) Z Z Z)<|Ae 2 Z<|Ah Z<|fR Z<|A3<|AM<|At<|At<|AM<|At<|Al [2] Z (.bool false) Z ⟨HU,a0⟩
   refine C0 false Z Z (A8 a1) (Ag (e:=28) Z Z Z)<|Ae 2 Z<|Ak Z<|A4<|Ad _ [0,0] Z<|AS ((k+1:Nat):Int) Z Z (Bg oM sD) Ac<|Ae 1 Z ?_
   exact⟨k+1,_,rfl,zR,⟨a0,sD,(by exact Eg hq (Rx oM))⟩,zD⟩
  refine C0 false Z Z (A8 aa) (Ag (e:=13) Z Z Z)<|Ae 17 Z<|Ak Z<|A4<|Ad _ [0,0] Z<|AS ((k+1:Nat):Int) Z Z (Bg oM sD) Ac<|Ae 1 Z ?_
  exact⟨k+1,_,rfl,zR,⟨a0,sD,(by exact Eg hq (Rx oM))⟩,zD⟩
 refine AJ false Z Z (A8 a5) Ac<|Aj<|A0<|Ak Z<|A6<|AA<|AA<|Ax<|fQ [0,0,0,0,0,0,0,0,0] Z<|Af 1 Z<|L5 (s:=s) u9 Z Ac ?_
 by_cases a2:((1:Nat):Int)≤(s.size:Int)
 ·exact DO true Z Z (A7 a2) Ac<|Af 2 Z<|L5 (s:=s) u9 Z (Ag (e:=39) Z Z Z)<|El (decide ((s.size:Int)≤((12:Nat):Int))) Z Z Z (Ag (e:=39) Z Z Z)<|Ae 2 Z<|A3<|Al [2] Z (.bool<|decide ((s.size:Int)≤((12:Nat):Int))) Z ⟨HU,a0⟩
 exact DO false Z Z (A8 a2) Ac<|Ae 6 Z<|A3<|Al [2] Z (.bool false) Z ⟨HU,a0⟩
theorem Hx (w:World)(dx:Nat)(vo:Value)(x:Fn)(bf:Nat)(vf:Value)(f:Fn)(hx:RF [] dx w.heap vo x)(hBf:BX w.heap bf [.string f.name,zI f.params,vf])  :
  Calls Tryz.prog 148 #[(.agg #[(.string x.name),(zI x.params),vo]),zP bf] w (fun e w'=>e=.returned (.bool (IQ x.name f.name))∧AD w w'):=by
 refine Aw [.agg #[.string x.name,zI x.params,vo],zP bf] 9 Tryz.func148 Z Z sM ?_
 have a3:AD w w:=AD.refl w
 have a8:=hx.rn.lenle
 unfold maxLen at a8
 refine fQ [3,0] Z ?_
 have a6:=hBf.lt
 refine BC (cs:=#[.string x.name,zI x.params,vo]) Z Ac fun w1 a1 a7 a2=>?_
 have a4:=a1.size
 have a5:=a3.trans a1
 have a0:=hBf.ext a1
 replace a2:BX w1.heap w.heap.size [.string x.name,zI x.params,vo]:=a2
 exact Ae 1 Z<|fQ [0,2,0,2,0,0] Z<|Ao (p:=zP w.heap.size) 0 Ka Z Z Ac<|Ai (p:=Au (zP w.heap.size) 0) (.inr Z) (.string x.name) Q0 Z (a2.ldp (i:=0) sM) Ac<|Ao (p:=zP bf) 0 Ka Z Z Ac<|Ai (p:=Au (zP bf) 0) (.inr Z) (.string f.name) Q0 Z (a0.ldp (i:=0) sM) Ac<|Pu (IQ x.name f.name) u9 Z Z Z Ac<|Ae 1 Z<|A3<|Al [3] Z (.bool<|IQ x.name f.name) Z ⟨rfl,a5⟩
theorem Dj (w:World) (da:Nat) (va:Value) (a:List Fn) (q:Nat) (qf qc:List Value) (pr:Fn→Bool) (ha:RP [] da w.heap va a) (hcf_q:((Tryz.prog.funcs[q]?).map fun fn=>(fn.name != "runtime.NumGoroutine") && fn.body.isSome) = some true) (hpr:∀ (d9:Nat) (u:Value) (x:Fn) w1,RF [] d9 w1.heap u x→AD w w1→Calls Tryz.prog q (qf++[Value.agg #[Value.string x.name,Value.int .i64 x.params,u]]++qc).toArray w1 (fun e w2=>e = .returned (.bool (pr x))∧AD w1 w2))  :
  Calls Tryz.prog 194 #[va,.func (.func q) qf.toArray qc.toArray] w (fun e w'=>e = .returned (zI (Q4 pr a))∧AD w w'):=by
 refine Aw [va,.func (.func q) qf.toArray qc.toArray] 19 Tryz.func194 Z Z sM ?_
 have a5:AD w w:=AD.refl w
 have ag:=ha.lenle
 unfold maxLen at ag
 refine fR Z<|A0<|fQ [0,0,0] Z<|Af 1 Z<|AU (v:=va) Im Z ha.isSl Ac<|Ae 1 Z<|A5 ?_
 refine B8 (S:=Nat) (fun k=>([(8,zI ((k :Nat):Int)),(0,va),(1,.func (.func q) qf.toArray qc.toArray),(7,zI ((a.length :Nat):Int))])) (fun k W=>AD w W∧k≤a.length∧(∀ j,j < k→pr (a.getD j Fn.zero) = false)) (fun k=>a.length - k) 0 ⟨rfl,rfl,rfl,rfl,trivial⟩ ⟨a5,sD,(by intro j hj; omega)⟩ ?_
 clear a5
 rintro k ρ1 w1 ⟨a1,a6,hq⟩
 have aa:w.heap.size≤w1.heap.size:=a1.size
 refine fQ [0] Z ?_
 by_cases a7:((k :Nat):Int) < ((a.length :Nat):Int)
 ·
  refine AJ true Z Z (A7 a7) Ac<|Aj<|A0<|Ah Z<|A4<|A0<|A5<|fQ [0,0] Z<|Ae 2 Z<|fQ [0,0,0,0,2,3] Z<|Af 3 Z<|AH (v:=va) k Im DJ Z Z ha.isSl Z sD Ac ?_
  obtain ⟨cs3,ab,ac⟩:=ha.get (AR da) Fn.zero (k:=k) sD
  obtain ⟨a8,rfl,a2⟩:=RF.of ab
  have a3:=a2.rn.lenle
  unfold maxLen at a3
  refine AC (p:=AE va k 3) (.inr Z) [.string<|(a.getD k Fn.zero).name,zI<|(a.getD k Fn.zero).params,a8] LG Z (fun ah ad=>ac ah<|AB.of_ext []<|a1.trans ad) Z Ac ?_
  have a0:=hpr da a8 (a.getD k Fn.zero) w1 ⟨a2.rng,a2.rn.ext (Aq<|AL da) a1⟩ a1
  refine Ay q qf qc _ Z Z hcf_q Ac a0 ?_
  rintro e4 w4 ⟨rfl,a4⟩
  refine ⟨_,rfl,a4,?_⟩
  have ae:=a4.size
  have a9:=a1.trans a4
  cases af:pr (a.getD k Fn.zero)
  ·
   refine Aj<|Ak Z<|A4<|Ad _ [0,0] Z<|AS ((k + 1 :Nat):Int) Z Z (Bg oM sD) Ac<|Ae 1 Z ?_
   exact ⟨k + 1,_,rfl,zR,⟨a9,sD,(by exact NZ hq (by assumption))⟩,by first | omega | (dsimp only; omega)⟩
  exact Aj<|Ah Z<|fQ [0,0] Z<|Ae 2 Z<|A3<|AM<|At<|At<|AM<|At<|Al [4] Z (zI ((k :Nat):Int)) Z ⟨Bm<|Q5 Fn.zero hq oM (by assumption),a9⟩
 exact AJ false Z Z (A8 a7) Ac<|Aj<|A0<|Ak Z<|A6<|AA<|AA<|Ax<|fR Z<|A3<|Al [4] Z (zI (-1)) Z ⟨Bm<|U7 Fn.zero hq oM,a1⟩
theorem D2 (w:World) (da:Nat) (va:Value) (a:List Fn) (q:Nat) (qf qc:List Value) (pr:Fn→Bool) (ha:RP [] da w.heap va a) (hcf_q:((Tryz.prog.funcs[q]?).map fun fn=>(fn.name != "runtime.NumGoroutine") && fn.body.isSome) = some true) (hpr:∀ (d9:Nat) (u:Value) (x:Fn) w1,RF [] d9 w1.heap u x→AD w w1→Calls Tryz.prog q (qf++[Value.agg #[Value.string x.name,Value.int .i64 x.params,u]]++qc).toArray w1 (fun e w2=>e = .returned (.bool (pr x))∧AD w1 w2))  :
  Calls Tryz.prog 147 #[va,.func (.func q) qf.toArray qc.toArray] w (fun e w'=>e = .returned (.bool (a.any pr))∧AD w w'):=by
 refine Aw [va,.func (.func q) qf.toArray qc.toArray] 9 Tryz.func147 Z Z sM ?_
 have a0:AD w w:=AD.refl w
 have a4:=ha.lenle
 unfold maxLen at a4
 refine fR Z<|fQ [0,0,3,0,0] Z<|Af 2 Z<|Ay 194 [] [] [va,.func (.func q) qf.toArray qc.toArray] Z Z cV Ac (Dj _ da va (a) q qf qc pr (ha.ext (Aq<|AR da) a0) hcf_q fun d9 u x w1 hx hw=>hpr d9 u x w1 hx<|a0.trans hw) ?_
 rintro e1 w1 ⟨rfl,a1⟩
 refine ⟨_,rfl,a1,?_⟩
 have a2:=a1.size
 have a3:=a0.trans a1
 exact DO (decide (((0 :Nat):Int)≤Q4 pr a)) Z Z Z Ac<|Ae 1 Z<|A3<|Al [4] Z (.bool<|decide (((0 :Nat):Int)≤Q4 pr a)) Z ⟨AQ<|U8 pr a,a3⟩
theorem LK (w:World)(vars:Int)(_hvars:Bd vars)  :
  Calls Tryz.prog 195 #[zI vars] w (fun e w'=>e=.returned (.bool (HB vars 0 412))∧w'=w):=by
 refine Aw [zI vars] 5 Tryz.func195 Z Z sM ?_
 have a0:w=w:=rfl
 exact fR Z<|fQ [0,0,0] Z<|Af 1 Z<|AF 72 [] [] [zI vars,zI ((0:Nat):Int),zI ((412:Nat):Int)] Z Z EA Ac (.bool (decide (((0:Nat):Int)≤vars) && decide (vars≤((412:Nat):Int)))) (fun wq=>B5 wq _ _ _ _hvars oM oM)<|Ae 1 Z<|A3<|Al [2] Z (.bool (decide (((0:Nat):Int)≤vars) && decide (vars≤((412:Nat):Int)))) Z ⟨rfl,a0⟩
theorem Ry {p:List Fn}{e:Ex}{vars funcs:Int}(h:(0≤vars∧vars≤412)∧(0≤funcs∧funcs≤((p.length:Nat):Int))∧e.size≤400∧e.deep≤60):wf p funcs e vars=Mk p e vars funcs:=by
  unfold Mk
  rw[C6.2 h.1,C6.2 h.2.1,A7 h.2.2.1,A7 h.2.2.2];rfl
theorem N5 {p:List Fn}{e:Ex}{vars funcs:Int}(h:¬((0≤vars∧vars≤412)∧(0≤funcs∧funcs≤((p.length:Nat):Int))∧e.size≤400∧e.deep≤60)):false=Mk p e vars funcs:=by
  cases hh:Mk p e vars funcs with
  |false=>rfl
  |true =>
    unfold Mk at hh
    simp only[z7,decide_eq_true_eq,C6]at hh
    exact absurd ⟨hh.1,hh.2.1,hh.2.2.1,hh.2.2.2.1⟩ h
theorem XZ {p:List Fn}{e:Ex}{vars funcs:Int}(h:wf p funcs e vars=false):false=Mk p e vars funcs:=by
  unfold Mk;rw[h];simp
theorem Ub {x a b:Int}(h:HB x a b=false):¬(a≤x∧x≤b):=fun hh=>by rw[C6.2 hh]at h;cases h
theorem Pc {x a b:Int}(h:(decide (a≤x) && decide (x≤b))=false):¬(a≤x∧x≤b):=Ub h
theorem HV {x a b:Int}(h:(decide (a≤x) && decide (x≤b))=true):a≤x∧x≤b:=C6.1 h
theorem LL {p:Prop}(h:p:=by first|exact AQ (XZ (by assumption))|exact AQ (Ry ⟨C6.1 (by assumption),HV (by assumption),zO,zO⟩)|exact AQ ((by assumption:wf p funcs ex vars=true).symm.trans (Ry ⟨C6.1 (by assumption),HV (by assumption),zO,zO⟩))|exact AQ (N5 fun hh=>Ub (by assumption) hh.1)|exact AQ (N5 fun hh=>Pc (by assumption) hh.2.1)|exact AQ (N5 oM)):p:=h
theorem Kd (w:World)(dp:Nat)(vp:Value)(p:List Fn)(dex:Nat)(ve:Value)(ex:Ex)(vars:Int)(funcs:Int)(hp:RP [] dp w.heap vp p)(hex:RX [] dex w.heap ve ex)(_hvars:Bd vars)(_hfuncs:Bd funcs)(hs:ex.size≤1000000000) :
  Calls Tryz.prog 149 #[(.agg #[vp]),(.agg #[(zI ex.kind),(zI ex.num),(zI ex.pick),(zI ex.count),ve]),zI vars,zI funcs] w (fun e w'=>e=.returned (.bool (Mk p ex vars funcs))∧AD w w'):=by
 refine Aw [.agg #[vp],.agg #[zI ex.kind,zI ex.num,zI ex.pick,zI ex.count,ve],zI vars,zI funcs] 36 Tryz.func149 Z Z sM ?_
 have am:AD w w:=AD.refl w
 have az:=hp.lenle
 unfold maxLen at az
 have b0:=hex.rn.lenle
 unfold maxLen at b0
 refine fQ [3,3,0] Z (BC (cs:=#[vp]) Z Ac fun w1 ai ar ac=>?_)
 have an:=ai.size
 have ao:=am.trans ai
 replace ac:BX w1.heap w.heap.size [vp]:=ac
 have au:=ac.lt
 refine BC (cs:=#[zI ex.kind,zI ex.num,zI ex.pick,zI ex.count,ve]) Z Ac fun w2 af av ad=>?_
 have ap:=af.size
 have ae:=ao.trans af
 have a2:=ac.ext af
 replace ad:BX w2.heap w1.heap.size [zI ex.kind,zI ex.num,zI ex.pick,zI ex.count,ve]:=ad
 refine Ae 1 Z<|fQ [0,0,0,0,0,2,0,0,0,0,2,3,0,0,0,2,3,0,0,0,2,0,0,2,0,3,0,0] Z<|Af 1 Z<|AF 195 [] [] [zI vars] Z Z cW Ac (.bool<|HB vars 0 412) (fun wq=>LK wq _ _hvars)<|Af 1 Z ?_
 cases aw:(HB vars 0 412)
 ·exact Ae 25 Z<|A3<|Al [8] Z (.bool false) Z ⟨LL,ae⟩
 refine Af 1 Z<|Ao (p:=zP w.heap.size) 0 C8 Z Z (Ag (e:=11) Z Z Z)<|Ai (p:=Au (zP w.heap.size) 0) (.inr Z) vp CO Z (a2.ldp (i:=0) sM) (Ag (e:=11) Z Z Z)<|AU (v:=vp) Im Z hp.isSl (Ag (e:=11) Z Z Z)<|AF 72 [] [] [zI funcs,zI ((0:Nat):Int),zI (p.length:Int)] Z Z EA (Ag (e:=11) Z Z Z) (.bool (decide (((0:Nat):Int)≤funcs) && decide (funcs≤(p.length:Int)))) (fun wq=>B5 wq _ _ _ _hfuncs oM oM)<|Af 2 Z ?_
 cases ax:(decide (((0:Nat):Int)≤funcs) && decide (funcs≤(p.length:Int)))
 ·exact Ae 18 Z<|A3<|Al [8] Z (.bool false) Z ⟨LL,ae⟩
 refine AC (p:=zP w1.heap.size) (.inr Z) [zI ex.kind,zI ex.num,zI ex.pick,zI ex.count,ve] Bq Z (fun b1 a4=>LD.of_box<|BX.ext (w:=w2) ad a4) Z (Ag (e:=18) Z Z Z)<|Ay 150 [] [] [.agg #[zI ex.kind,zI ex.num,zI ex.pick,zI ex.count,ve]] Z Z TX (Ag (e:=18) Z Z Z) (Hv _ dex ve (ex) (hex.ext ae) oM) ?_
 rintro e8 w8 ⟨rfl,a8⟩
 refine⟨_,rfl,a8,?_⟩
 have aq:=a8.size
 have ag:=ae.trans a8
 have a9:=a2.ext a8
 have a3:=ad.ext a8
 by_cases aj:(ex.size:Int)≤((400:Nat):Int)
 ·refine El true Z Z (A7 aj) (Ag (e:=18) Z Z Z)<|Af 2 Z<|AC (p:=zP w1.heap.size) (.inr Z) [zI ex.kind,zI ex.num,zI ex.pick,zI ex.count,ve] Bq Z (fun b1 a4=>LD.of_box<|BX.ext (w:=w8) a3 a4) Z (Ag (e:=23) Z Z Z)<|Ay 196 [] [] [.agg #[zI ex.kind,zI ex.num,zI ex.pick,zI ex.count,ve]] Z Z XP (Ag (e:=23) Z Z Z) (Kc _ dex ve (ex) (hex.ext ag) oM) ?_
  rintro b4 b2 ⟨rfl,a0⟩
  refine⟨_,rfl,a0,?_⟩
  have ak:=a0.size
  have a1:=ag.trans a0
  have a5:=a9.ext a0
  have a6:=a3.ext a0
  by_cases aa:(ex.deep:Int)≤((60:Nat):Int)
  ·refine El true Z Z (A7 aa) (Ag (e:=23) Z Z Z)<|Af 2 Z<|AC (p:=zP w.heap.size) (.inr Z) [vp] EC Z (fun b1 a4=>LD.of_box<|BX.ext (w:=b2) a5 a4) Z (Ag (e:=28) Z Z Z)<|Af 1 Z ?_
   have ab:∀(vp:Value) (ay:Nat) (h12_0:Fu vp ay) (wq:World),(Instr.build 244 #[(0,.agg #[vp]),(1,zI funcs)]).run Tryz.prog wq=.ok (.agg #[vp,zI funcs]) wq:=by intro vp ay h12_0 wq;obtain⟨a12_0,b3,rfl,_⟩:=h12_0;kernel_rfl
   refine Ch (ps:=#[(0,.agg #[vp]),(1,zI funcs)]) (.agg #[vp,zI funcs]) (by simp only[zc,zf,zh];rfl) (fun wq=>ab vp _ hp.isSl wq) (Ag (e:=28) Z Z Z)<|AC (p:=zP w1.heap.size) (.inr Z) [zI ex.kind,zI ex.num,zI ex.pick,zI ex.count,ve] Bq Z (fun b1 a4=>LD.of_box<|BX.ext (w:=b2) a6 a4) Z (Ag (e:=28) Z Z Z)<|Af 1 Z ?_
   refine Ay 197 [] [] [.agg #[vp,zI funcs],.agg #[zI ex.kind,zI ex.num,zI ex.pick,zI ex.count,ve],zI vars] Z Z Rp (Ag (e:=28) Z Z Z) (GO _ dp vp (p) (funcs) dex ve (ex) _ (hp.ext (Aq<|AR dp) a1) _hfuncs (hex.ext a1) _hvars (by have h1:=C6.1 (by assumption:HB vars 0 412=true);omega) (by have h2:=HV (by assumption:(decide (((0:Nat):Int)≤funcs) && decide (funcs≤(p.length:Int)))=true);omega)) ?_
   rintro b5 b6 ⟨rfl,a7⟩
   refine⟨_,rfl,a7,?_⟩
   have al:=a7.size
   have ah:=a1.trans a7
   exact Ae 2 Z<|A3<|Al [8] Z (.bool<|wf p funcs ex vars) Z ⟨LL,ah⟩
  exact El false Z Z (A8 aa) (Ag (e:=23) Z Z Z)<|Ae 10 Z<|A3<|Al [8] Z (.bool false) Z ⟨LL,a1⟩
 exact El false Z Z (A8 aj) (Ag (e:=18) Z Z Z)<|Ae 15 Z<|A3<|Al [8] Z (.bool false) Z ⟨LL,ag⟩
theorem Uc {p:List Fn}(h:¬p.length≤16):false=Kw p:=by unfold Kw;rw[A8 h];rfl
theorem IZ {p:List Fn}{k:Nat}(hk:k<p.length)(h:Kn p k=false):false=Kw p:=by unfold Kw;rw[JX hk h,Bool.and_false]
theorem Ud {p:List Fn}{k:Nat}(hl:p.length≤16)(hk:p.length≤k)(hk2:k≤p.length)(h:(List.range k).all (Kn p)=true):true=Kw p:=by
  have:k=p.length:=by omega
  subst this;unfold Kw;rw[h,A7 hl];rfl
section
variable {p:List Fn} {k:Nat}
theorem dJ (h:Lj (p.getD k Fn.zero).name=false):Kn p k=false:=by unfold Kn;rw[h];rfl
theorem dK (h:(p.take k).any (fun g=>IQ g.name (p.getD k Fn.zero).name)=true):Kn p k=false:=by unfold Kn RU;rw[h];simp
theorem dL (h:(decide (((0:Nat):Int)≤(p.getD k Fn.zero).params) && decide ((p.getD k Fn.zero).params≤((12:Nat):Int)))=false):Kn p k=false:=by
  have h':HB (p.getD k Fn.zero).params 0 12=false:=h
  unfold Kn;rw[h'];simp
theorem dM (h:(decide (((1:Nat):Int)≤(((p.getD k Fn.zero).outs.length:Nat):Int)) && decide ((((p.getD k Fn.zero).outs.length:Nat):Int)≤((12:Nat):Int)))=false):Kn p k=false:=by
  have h':HB (((p.getD k Fn.zero).outs.length:Nat):Int) 1 12=false:=h
  unfold Kn;rw[h'];simp
theorem dN {j:Nat}(hj:j<(p.getD k Fn.zero).outs.length)(h:Mk p ((p.getD k Fn.zero).outs.getD j Ex.zero) (p.getD k Fn.zero).params ((k:Nat):Int)=false):Kn p k=false:=by
  unfold Kn
  rw[JX hj h];simp
theorem dO (h:¬Ex.sizes (p.getD k Fn.zero).outs≤400):Kn p k=false:=by
  unfold Kn;rw[A8 h];simp
theorem Y0 {j:Nat}(h1:Lj (p.getD k Fn.zero).name=true)(h2:(p.take k).any (fun g=>IQ g.name (p.getD k Fn.zero).name)=false)(h3:(decide (((0:Nat):Int)≤(p.getD k Fn.zero).params) && decide ((p.getD k Fn.zero).params≤((12:Nat):Int)))=true)(h4:(decide (((1:Nat):Int)≤(((p.getD k Fn.zero).outs.length:Nat):Int)) && decide ((((p.getD k Fn.zero).outs.length:Nat):Int)≤((12:Nat):Int)))=true)(h5:(List.range j).all (fun j=>Mk p ((p.getD k Fn.zero).outs.getD j Ex.zero) (p.getD k Fn.zero).params ((k:Nat):Int))=true)(hj:j=(p.getD k Fn.zero).outs.length)(h6:Ex.sizes (p.getD k Fn.zero).outs≤400):Kn p k=true:=by
  have h3':HB (p.getD k Fn.zero).params 0 12=true:=h3
  have h4':HB (((p.getD k Fn.zero).outs.length:Nat):Int) 1 12=true:=h4
  subst hj
  unfold Kn RU
  rw[h1,h2,h3',h4',h5,A7 h6];rfl
end
theorem Gl {b:Bool}(h:(!b)=false):b=true:=by cases b <;> simp_all
theorem Io {b:Bool}(h:(!b)=true):b=false:=by cases b <;> simp_all
theorem Ks {p:Prop}(h:p:=by first|exact AQ (Uc oM)|exact AQ (Ud oM oM oM hq)|exact AQ (IZ (k:=k) oM (dJ (Io (by assumption))))|exact AQ (IZ (k:=k) oM (dK (by assumption)))|exact AQ (IZ (k:=k) oM (dL (Io (by assumption))))|exact AQ (IZ (k:=k) oM (dM (Io (by assumption))))|exact AQ (IZ (k:=k) oM (dN (j:=j) oM (Io (by assumption))))|exact AQ (IZ (k:=k) oM (dO oM))):p:=h
theorem Ip (w:World)(dp:Nat)(vp:Value)(p:List Fn)(hp:RP [] dp w.heap vp p)(hz:V1 p) :
  Calls Tryz.prog 87 #[(.agg #[vp])] w (fun e w'=>e=.returned (.bool (Kw p))∧AD w w'):=by
 refine Aw [.agg #[vp]] 65 Tryz.func87 Z Z sM ?_
 have bq:AD w w:=AD.refl w
 have ch:=hp.lenle
 unfold maxLen at ch
 refine fQ [3,0] Z (BC (cs:=#[vp]) Z Ac fun w1 be c0 aw=>?_)
 have bf:=be.size
 have bg:=bq.trans be
 replace aw:BX w1.heap w.heap.size [vp]:=aw
 refine Ae 1 Z<|A0<|fQ [0,2,0,0] Z<|Ao (p:=zP w.heap.size) 0 C8 Z Z Ac<|Ai (p:=Au (zP w.heap.size) 0) (.inr Z) vp CO Z (aw.ldp (i:=0) sM) Ac<|AU (v:=vp) Im Z hp.isSl Ac ?_
 by_cases br:((16:Nat):Int)<(p.length:Int)
 ·exact C0 true Z Z (A7 br) Ac<|Aj<|Ah Z<|fR Z<|A3<|At<|Al [2] Z (.bool false) Z ⟨Ks,bg⟩
 refine C0 false Z Z (A8 br) Ac<|Aj<|Ak Z<|A4<|A0<|fQ [0,2,0,0] Z<|Ao (p:=zP w.heap.size) 0 C8 Z Z Ac<|Ai (p:=Au (zP w.heap.size) 0) (.inr Z) vp CO Z (aw.ldp (i:=0) sM) Ac<|AU (v:=vp) Im Z hp.isSl Ac<|Ae 1 Z<|A5 ?_
 refine B8 (S:=Nat) (fun k=>([(15,zI (k:Int)),(1,zP w.heap.size),(13,vp),(14,zI (p.length:Int))])) (fun k W=>AD w W∧BX W.heap w.heap.size [vp]∧k≤p.length∧(List.range k).all (Kn p)=true) (fun k=>p.length-k) 0 ⟨rfl,rfl,rfl,rfl,trivial⟩ ⟨bg,aw,sD,(by rfl)⟩ ?_
 clear bq c0 be bf bg
 rintro k ρ3 w3 ⟨ax,a4,bs,hq⟩
 have bh:w.heap.size≤w3.heap.size:=ax.size
 have ce:=a4.lt
 refine fQ [0] Z ?_
 by_cases bt:(k:Int)<(p.length:Int)
 ·refine AJ true Z Z (A7 bt) Ac<|Aj<|A0<|Ah Z<|A4<|A0<|A5<|fQ [0,0,2,3,0,4] Z<|Af 1 Z<|AH (v:=vp) k Im DJ Z Z hp.isSl Z sD Ac ?_
  obtain⟨cs6,c1,c2⟩:=hp.get (AR dp) Fn.zero (k:=k) sD
  obtain⟨ab,rfl,ap⟩:=RF.of c1
  have ay:=ap.rn.lenle
  unfold maxLen at ay
  refine AC (p:=AE vp k 3) (.inr Z) [.string<|(p.getD k Fn.zero).name,zI<|(p.getD k Fn.zero).params,ab] LG Z (fun cg af=>c2 cg<|AB.of_ext []<|ax.trans af) Z Ac ?_
  have cf:=a4.lt
  refine B9 (z:=.agg #[.string ByteArray.empty,zI 0,zN]) Zo Ac fun w7 bb c3 bi=>?_
  have bj:=bb.size
  have bk:=ax.trans bb
  have a5:=a4.ext bb
  replace bi:BX w7.heap w3.heap.size [.string ByteArray.empty,zI 0,zN]:=bi
  refine Af 1 Z (Bh (vs:=[.string<|(p.getD k Fn.zero).name,zI<|(p.getD k Fn.zero).params,ab]) LG Z Z ap.ones bi Z Z Ac fun w9 bc c4 az=>?_)
  replace az:BX w9.heap w3.heap.size [.string ((p.getD k Fn.zero).name),zI ((p.getD k Fn.zero).params),ab]:=az
  have bd:AD w w9:=bc.below bk (fun _ h=>zE h) bk.size
  have bl:=bc.size
  have aq:=a5.chg bc (zB ·)
  refine Aj<|A0<|fQ [0,2,0,0,0,0,2,0,0,0,3,0] Z ?_
  have hzk:=hz k oM
  refine Ao (p:=zP w3.heap.size) 0 Ka Z Z Ac<|Ai (p:=Au (zP w3.heap.size) 0) (.inr Z) (.string<|(p.getD k Fn.zero).name) Q0 Z (az.ldp (i:=0) sM) Ac<|AF 146 [] [] [.string<|(p.getD k Fn.zero).name] Z Z cH Ac (.bool<|Lj<|(p.getD k Fn.zero).name) (fun wq=>Mr wq ((p.getD k Fn.zero).name) oM)<|BF (!(Lj<|(p.getD k Fn.zero).name)) Z Z Ac<|Af 1 Z ?_
  cases c5:(!(Lj ((p.getD k Fn.zero).name)))
  ·refine Ao (p:=zP w.heap.size) 0 C8 Z Z (Ag (e:=24) Z Z Z)<|Ai (p:=Au (zP w.heap.size) 0) (.inr Z) vp CO Z (aq.ldp (i:=0) sM) (Ag (e:=24) Z Z Z)<|Af 1 Z<|Yj (v:=vp) (k:=k) Im DJ Z hp.isSl hp.capS Z sD (Ag (e:=24) Z Z Z) ?_
   have b0:=RN.pref (AR dp) (k:=k) hp sD
   refine L6 [] [zP w3.heap.size] Z Z (Ag (e:=24) Z Z Z)<|Ay 147 [] [] [Om vp k,.func (.func 148) #[] #[zP w3.heap.size]] Z Z cI (Ag (e:=24) Z Z Z) (D2 _ dp (Om vp k) (p.take k) 148 [] [zP w3.heap.size] (fun g=>IQ g.name (p.getD k Fn.zero).name) (b0.ext (Aq<|AR dp) bd) cJ fun d9 u x w1 hx hw=>Hx w1 d9 u x w3.heap.size ab (p.getD k Fn.zero) hx<|az.ext hw) ?_
   rintro cm cn ⟨rfl,a7⟩
   refine⟨_,rfl,a7,?_⟩
   have b1:=a7.size
   have ac:=bd.trans a7
   have a6:=aq.ext a7
   have a0:=az.ext a7
   refine Ae 1 Z ?_
   cases b2:((p.take k).any (fun g=>IQ g.name (p.getD k Fn.zero).name))
   ·refine Ak (by first|rfl|exact zW b2)<|A4<|A0<|fQ [0,2,0,0,0,0,2,0,0,0,0] Z<|Ao (p:=zP w3.heap.size) 1 CZ Z Z Ac<|Ai (p:=Au (zP w3.heap.size) 1) (.inr Z) (zI<|(p.getD k Fn.zero).params) AG Z (a0.ldp (i:=1) sM) Ac<|AF 72 [] [] [zI<|(p.getD k Fn.zero).params,zI ((0:Nat):Int),zI ((12:Nat):Int)] Z Z EA Ac (.bool (decide (((0:Nat):Int)≤((p.getD k Fn.zero).params)) && decide (((p.getD k Fn.zero).params)≤((12:Nat):Int)))) (fun wq=>B5 wq _ _ _ ap.rng oM oM) ?_
    refine BF (!(decide (((0:Nat):Int)≤((p.getD k Fn.zero).params)) && decide (((p.getD k Fn.zero).params)≤((12:Nat):Int)))) Z Z Ac<|Af 1 Z ?_
    cases c6:(!(decide (((0:Nat):Int)≤((p.getD k Fn.zero).params)) && decide (((p.getD k Fn.zero).params)≤((12:Nat):Int))))
    ·refine Ao (p:=zP w3.heap.size) 2 Cv Z Z (Ag (e:=36) Z Z Z)<|Ai (p:=Au (zP w3.heap.size) 2) (.inr Z) ab BG Z (a0.ldp (i:=2) sM) (Ag (e:=36) Z Z Z)<|AU (v:=ab) DS Z ap.rn.isSl (Ag (e:=36) Z Z Z)<|AF 72 [] [] [zI ((((p.getD k Fn.zero).outs).length:Nat):Int),zI ((1:Nat):Int),zI ((12:Nat):Int)] Z Z EA (Ag (e:=36) Z Z Z) (.bool (decide (((1:Nat):Int)≤((((p.getD k Fn.zero).outs).length:Nat):Int)) && decide (((((p.getD k Fn.zero).outs).length:Nat):Int)≤((12:Nat):Int)))) (fun wq=>B5 wq _ _ _ oM oM oM) ?_
     refine BF (!(decide (((1:Nat):Int)≤((((p.getD k Fn.zero).outs).length:Nat):Int)) && decide (((((p.getD k Fn.zero).outs).length:Nat):Int)≤((12:Nat):Int)))) Z Z (Ag (e:=36) Z Z Z)<|Ae 1 Z ?_
     cases b3:(!(decide (((1:Nat):Int)≤((((p.getD k Fn.zero).outs).length:Nat):Int)) && decide (((((p.getD k Fn.zero).outs).length:Nat):Int)≤((12:Nat):Int))))
     ·refine Ak (by first|rfl|exact zW b3)<|A4<|fR Z<|A0<|fQ [0,2,0,0] Z<|Ao (p:=zP w3.heap.size) 2 Cv Z Z Ac<|Ai (p:=Au (zP w3.heap.size) 2) (.inr Z) ab BG Z (a0.ldp (i:=2) sM) Ac<|AU (v:=ab) DS Z ap.rn.isSl Ac<|Ae 1 Z<|A5 ?_
      refine B8 (S:=Nat×Nat) (fun⟨j,sz⟩=>([(5,zI (sz:Int)),(46,zI (j:Int)),(1,zP w.heap.size),(3,zI (k:Int)),(4,zP w3.heap.size),(13,vp),(14,zI (p.length:Int)),(15,zI (k:Int)),(44,ab),(45,zI ((((p.getD k Fn.zero).outs).length:Nat):Int))])) (fun⟨j,sz⟩ W=>AD w W∧BX W.heap w.heap.size [vp]∧BX W.heap w3.heap.size [.string<|(p.getD k Fn.zero).name,zI<|(p.getD k Fn.zero).params,ab]∧j≤(p.getD k Fn.zero).outs.length∧sz=Ex.sizes ((p.getD k Fn.zero).outs.take j)∧(List.range j).all (fun j=>Mk p ((p.getD k Fn.zero).outs.getD j Ex.zero) (p.getD k Fn.zero).params (k:Int))=true) (fun⟨j,sz⟩=>(p.getD k Fn.zero).outs.length-j) (0,0) ⟨rfl,rfl,rfl,rfl,rfl,rfl,rfl,rfl,rfl,rfl,trivial⟩ ⟨ac,a6,a0,sD,(by rw[List.take_zero,MI]),(by rfl)⟩ ?_
      clear a4 ax bh ay c3 bb bj bk a5 c4 bc bd bl aq a7 b1 ac a6
      rintro⟨j,sz⟩ ρ20 ci ⟨ad,a1,a3,bm,hsz,hqe⟩
      have bu:w.heap.size≤ci.heap.size:=ad.size
      have c7:=a1.lt
      have c8:=a3.lt
      refine fQ [0] Z ?_
      by_cases b4:(j:Int)<((((p.getD k Fn.zero).outs).length:Nat):Int)
      ·refine AJ true Z Z (A7 b4) Ac<|Aj<|A0<|Ah Z<|A4<|A0<|A5<|fQ [0,2,3,4] Z<|AH (v:=ab) j DS BM Z Z ap.rn.isSl Z sD Ac ?_
       obtain⟨cs24,bn,bo⟩:=ap.rn.get (AL dp) Ex.zero (k:=j) sD
       obtain⟨dd24,a2,c9,rfl,ag⟩:=RX.of bn
       have b5:=ag.rn.lenle
       unfold maxLen at b5
       refine AC (p:=AE ab j 5) (.inr Z) [zI<|(((p.getD k Fn.zero).outs).getD j Ex.zero).kind,zI<|(((p.getD k Fn.zero).outs).getD j Ex.zero).num,zI<|(((p.getD k Fn.zero).outs).getD j Ex.zero).pick,zI<|(((p.getD k Fn.zero).outs).getD j Ex.zero).count,a2] Bq Z (fun cg af=>bo cg<|AB.of_ext []<|ad.trans af) Z Ac ?_
       have ca:=a1.lt
       have cb:=a3.lt
       refine B9 (z:=.agg #[zI 0,zI 0,zI 0,zI 0,zN]) IB Ac fun ck ah cc ar=>?_
       have bv:=ah.size
       have b6:=ad.trans ah
       have a8:=a1.ext ah
       have a9:=a3.ext ah
       replace ar:BX ck.heap ci.heap.size [zI 0,zI 0,zI 0,zI 0,zN]:=ar
       refine Bh (vs:=[zI<|(((p.getD k Fn.zero).outs).getD j Ex.zero).kind,zI<|(((p.getD k Fn.zero).outs).getD j Ex.zero).num,zI<|(((p.getD k Fn.zero).outs).getD j Ex.zero).pick,zI<|(((p.getD k Fn.zero).outs).getD j Ex.zero).count,a2]) Bq Z Z ag.ones ar Z Z Ac fun cj ai cd aj=>?_
       replace aj:BX cj.heap ci.heap.size [zI ((((p.getD k Fn.zero).outs).getD j Ex.zero).kind),zI ((((p.getD k Fn.zero).outs).getD j Ex.zero).num),zI ((((p.getD k Fn.zero).outs).getD j Ex.zero).pick),zI ((((p.getD k Fn.zero).outs).getD j Ex.zero).count),a2]:=aj
       have au:AD w cj:=ai.below b6 (fun _ h=>zE h) b6.size
       have bw:=ai.size
       have b7:=a8.chg ai (zB ·)
       have b8:=a9.chg ai (zB ·)
       refine Aj<|A0<|fQ [2,2,0,2,0,3,0] Z ?_
       have hst:=Ea (l:=(p.getD k Fn.zero).outs) (k:=j) oM
       have hle:=DD (p.getD k Fn.zero).outs (j+1)
       refine AC (p:=zP w.heap.size) (.inr Z) [vp] EC Z (fun cg af=>LD.of_box<|BX.ext (w:=cj) b7 af) Z Ac<|AC (p:=zP ci.heap.size) (.inr Z) [zI<|(((p.getD k Fn.zero).outs).getD j Ex.zero).kind,zI<|(((p.getD k Fn.zero).outs).getD j Ex.zero).num,zI<|(((p.getD k Fn.zero).outs).getD j Ex.zero).pick,zI<|(((p.getD k Fn.zero).outs).getD j Ex.zero).count,a2] Bq Z (fun cg af=>LD.of_box<|BX.ext (w:=cj) aj af) Z Ac<|Ao (p:=zP w3.heap.size) 1 CZ Z Z Ac<|Ai (p:=Au (zP w3.heap.size) 1) (.inr Z) (zI<|(p.getD k Fn.zero).params) AG Z (b8.ldp (i:=1) sM) Ac<|Af 1 Z ?_
       refine Ay 149 [] [] [.agg #[vp],.agg #[zI<|(((p.getD k Fn.zero).outs).getD j Ex.zero).kind,zI<|(((p.getD k Fn.zero).outs).getD j Ex.zero).num,zI<|(((p.getD k Fn.zero).outs).getD j Ex.zero).pick,zI<|(((p.getD k Fn.zero).outs).getD j Ex.zero).count,a2],zI<|(p.getD k Fn.zero).params,zI (k:Int)] Z Z cK Ac (Kd _ dp vp (p) dd24 a2 (((p.getD k Fn.zero).outs).getD j Ex.zero) _ _ (hp.ext (Aq<|AR dp) au) (ag.ext au) ap.rng oM oM) ?_
       rintro co cl ⟨rfl,aa⟩
       refine⟨_,rfl,aa,?_⟩
       have bx:=aa.size
       have av:=au.trans aa
       have ak:=b7.ext aa
       have al:=b8.ext aa
       have am:=aj.ext aa
       refine BF (!(Mk p (((p.getD k Fn.zero).outs).getD j Ex.zero) ((p.getD k Fn.zero).params) (k:Int))) Z Z Ac<|Aj ?_
       cases b9:(!(Mk p (((p.getD k Fn.zero).outs).getD j Ex.zero) ((p.getD k Fn.zero).params) (k:Int)))
       ·refine Ak (by first|rfl|exact zW b9)<|A4<|Ad _ [0,2,3,0,0] Z<|Af 1 Z<|AC (p:=zP ci.heap.size) (.inr Z) [zI<|(((p.getD k Fn.zero).outs).getD j Ex.zero).kind,zI<|(((p.getD k Fn.zero).outs).getD j Ex.zero).num,zI<|(((p.getD k Fn.zero).outs).getD j Ex.zero).pick,zI<|(((p.getD k Fn.zero).outs).getD j Ex.zero).count,a2] Bq Z (fun cg af=>LD.of_box<|BX.ext (w:=cl) am af) Z Ac ?_
        refine Ay 150 [] [] [.agg #[zI<|(((p.getD k Fn.zero).outs).getD j Ex.zero).kind,zI<|(((p.getD k Fn.zero).outs).getD j Ex.zero).num,zI<|(((p.getD k Fn.zero).outs).getD j Ex.zero).pick,zI<|(((p.getD k Fn.zero).outs).getD j Ex.zero).count,a2]] Z Z TX Ac (Hv _ dd24 a2 (((p.getD k Fn.zero).outs).getD j Ex.zero) (ag.ext av) oM) ?_
        rintro cp cq ⟨rfl,ae⟩
        refine⟨_,rfl,ae,?_⟩
        have bz:=ae.size
        have bp:=av.trans ae
        have an:=ak.ext ae
        have ao:=al.ext ae
        refine AS ((sz+((p.getD k Fn.zero).outs.getD j Ex.zero).size:Nat):Int) Z Z (Bg oM oM) Ac<|Ae 1 Z<|Ad _ [0,0] Z<|AS ((j+1:Nat):Int) Z Z (Bg oM sD) Ac<|Ae 1 Z ?_
        exact⟨(j+1,sz+((p.getD k Fn.zero).outs.getD j Ex.zero).size),_,rfl,zR,⟨bp,an,ao,sD,oM,(by exact Eg hqe (Gl (by assumption)))⟩,zD⟩
       refine Ah (by first|rfl|exact zW b9)<|fR Z<|A3<|At<|AM<|At<|At<|AM<|At<|AM<|At<|At<|AM<|At ?_
       exact Al [2] Z (.bool false) Z ⟨Ks,av⟩
      refine AJ false Z Z (A8 b4) Ac<|Aj<|A0<|Ak Z<|A6<|AA<|AA<|Ax<|fQ [0,0] Z ?_
      have hal:=MK (l:=(p.getD k Fn.zero).outs) (k:=j) oM
      refine Af 1 Z ?_
      by_cases ba:((400:Nat):Int)<(sz:Int)
      ·exact C0 true Z Z (A7 ba) Ac<|Aj<|Ah Z<|fR Z<|A3<|AM<|At<|At<|AM<|At<|Al [2] Z (.bool false) Z ⟨Ks,ad⟩
      refine C0 false Z Z (A8 ba) Ac<|Aj<|Ak Z<|A4<|Ad _ [0,0] Z<|AS ((k+1:Nat):Int) Z Z (Bg oM sD) Ac<|Ae 1 Z ?_
      exact⟨k+1,_,rfl,zR,⟨ad,a1,sD,(by exact Eg hq (Y0 (Gl (by assumption)) (by assumption) (Gl (by assumption)) (Gl (by assumption)) hqe oM oM))⟩,zD⟩
     exact Ah (by first|rfl|exact zW b3)<|fR Z<|A3<|At<|AM<|At<|At<|AM<|At<|Al [2] Z (.bool false) Z ⟨Ks,ac⟩
    exact Ae 6 Z<|Ah Z<|fR Z<|A3<|At<|AM<|At<|At<|AM<|At<|Al [2] Z (.bool false) Z ⟨Ks,ac⟩
   exact Ah (by first|rfl|exact zW b2)<|fR Z<|A3<|At<|AM<|At<|At<|AM<|At<|Al [2] Z (.bool false) Z ⟨Ks,ac⟩
  exact Ae 7 Z<|Ah Z<|fR Z<|A3<|At<|AM<|At<|At<|AM<|At<|Al [2] Z (.bool false) Z ⟨Ks,bd⟩
 exact AJ false Z Z (A8 bt) Ac<|Aj<|A0<|Ak Z<|A6<|AA<|AA<|Ax<|fR Z<|A3<|Al [2] Z (.bool true) Z ⟨Ks,ax⟩
theorem Y1 {p:List Fn}{f:Int}(h:Kw p=false):1=Jv p f:=by unfold Jv;rw[h];rfl
theorem Y2 {p:List Fn}{f:Int}(h:Kw p=true)(h2:¬(0≤f∧f≤((p.length:Nat):Int)-1)):2=Jv p f:=by unfold Jv;rw[if_pos h,if_neg h2]
theorem Y3 {p:List Fn}{f:Int}(h:Kw p=true)(h2:0≤f∧f≤((p.length:Nat):Int)-1):0=Jv p f:=by unfold Jv;rw[if_pos h,if_pos h2]
theorem Ue {p:Prop}(h:p:=by first|exact Bm (Y1 (Io (by assumption)))|exact Bm (Y2 (Gl (by assumption)) (Pc (Io (by assumption))))|exact Bm (Y3 (Gl (by assumption)) (HV (Gl (by assumption))))):p:=h
theorem Ms (w:World)(dp:Nat)(vp:Value)(p:List Fn)(f:Int)(hp:RP [] dp w.heap vp p)(_hf:Bd f)(hz:V1 p) :
  Calls Tryz.prog 52 #[(.agg #[vp]),zI f] w (fun e w'=>e=.returned (zI (Jv p f))∧AD w w'):=by
 refine Aw [.agg #[vp],zI f] 17 Tryz.func52 Z Z sM ?_
 have a8:AD w w:=AD.refl w
 have ad:=hp.lenle
 unfold maxLen at ad
 refine fQ [3,0] Z (BC (cs:=#[vp]) Z Ac fun w1 a4 ac a1=>?_)
 have a9:=a4.size
 have a5:=a8.trans a4
 replace a1:BX w1.heap w.heap.size [vp]:=a1
 refine Ae 1 Z<|A0<|A5<|fQ [2,3,0,0] Z<|AC (p:=zP w.heap.size) (.inr Z) [vp] EC Z (fun ae aa=>LD.of_box<|BX.ext (w:=w1) a1 aa) Z Ac<|Ay 87 [] [] [.agg #[vp]] Z Z fF Ac (Ip _ dp vp (p) (hp.ext (Aq<|AR dp) a5) hz) ?_
 rintro e2 w2 ⟨rfl,a2⟩
 refine⟨_,rfl,a2,?_⟩
 have ab:=a2.size
 have a3:=a5.trans a2
 have a0:=a1.ext a2
 refine BF (!(Kw p)) Z Z Ac<|Ae 1 Z ?_
 cases a6:(!(Kw p))
 ·refine Ak (by first|rfl|exact zW a6)<|fQ [0,0,2,0,0,0,0,0] Z<|Af 1 Z<|Ao (p:=zP w.heap.size) 0 C8 Z Z Ac<|Ai (p:=Au (zP w.heap.size) 0) (.inr Z) vp CO Z (a0.ldp (i:=0) sM) Ac<|AU (v:=vp) Im Z hp.isSl Ac<|BP ((p.length:Int)-1) Z Z (E1 oM oM) Ac<|AF 72 [] [] [zI f,zI ((0:Nat):Int),zI ((p.length:Int)-1)] Z Z EA Ac (.bool (decide (((0:Nat):Int)≤f) && decide (f≤((p.length:Int)-1)))) (fun wq=>B5 wq _ _ _ _hf oM oM) ?_
  refine BF (!(decide (((0:Nat):Int)≤f) && decide (f≤((p.length:Int)-1)))) Z Z Ac<|Ae 1 Z ?_
  cases a7:(!(decide (((0:Nat):Int)≤f) && decide (f≤((p.length:Int)-1))))
  ·exact Ak (by first|rfl|exact zW a7)<|A4<|fR Z<|A3<|Al [4] Z (zI ((0:Nat):Int)) Z ⟨Ue,a3⟩
  exact Ah (by first|rfl|exact zW a7)<|fR Z<|A3<|AM<|At<|Al [4] Z (zI ((2:Nat):Int)) Z ⟨Ue,a3⟩
 exact Ah (by first|rfl|exact zW a6)<|fR Z<|A3<|AM<|At<|Al [4] Z (zI ((1:Nat):Int)) Z ⟨Ue,a3⟩
theorem dP {p:Prop}(h:p:=by first|(rw[A7 (show((3000:Nat):Int)<((cs.length:Nat):Int) by assumption)];rfl)|(rw[A8 (show ¬((3000:Nat):Int)<((cs.length:Nat):Int) by assumption),Bool.false_or])):p:=h
theorem Mu (w:World)(vc:Value)(cs:List UInt8)(vd:Value)(ds:List UInt8)(hcs:Rd (Bl rU) w.heap vc cs)(hds:Rd (Bl rU) w.heap vd ds)  :
  Calls Tryz.prog 7 #[vc,vd] w (fun e w'=>e=.returned (.bool (decide (((3000:Nat):Int)<(cs.length:Int)) || decide (((3000:Nat):Int)<(ds.length:Int))))∧AD w w'):=by
 refine Aw [vc,vd] 13 Tryz.func7 Z Z sM ?_
 have a0:AD w w:=AD.refl w
 have a2:=hcs.lenle
 have a3:=hds.lenle
 refine fR Z<|fQ [0,0,0,0,0,0,0,0,0] Z<|Af 1 Z<|AU (v:=vc) Se Z hcs.isSl Ac ?_
 by_cases a1:((3000:Nat):Int)<(cs.length:Int)
 ·exact C0 true Z Z (A7 a1) Ac<|Ae 6 Z<|A3<|Al [4] Z (.bool true) Z ⟨AQ dP,a0⟩
 exact C0 false Z Z (A8 a1) Ac<|Af 2 Z<|AU (v:=vd) Se Z hds.isSl (Ag (e:=8) Z Z Z)<|C0 (decide (((3000:Nat):Int)<(ds.length:Int))) Z Z Z (Ag (e:=8) Z Z Z)<|Ae 2 Z<|A3<|Al [4] Z (.bool<|decide (((3000:Nat):Int)<(ds.length:Int))) Z ⟨AQ dP,a0⟩
theorem ID (w:World)(va:Value)(a:Sr)(vb:Value)(b:Sr)(ha:Rd (Bl rI) w.heap va a)(hb:Rd (Bl rI) w.heap vb b)  :
  Calls Tryz.prog 17 #[va,vb] w (fun e w'=>e=.returned (.bool (decide (a=b)))∧AD w w'):=by
 refine Aw [va,vb] 26 Tryz.func17 Z Z sM ?_
 have a1:AD w w:=AD.refl w
 have a7:=ha.lenle
 have a8:=hb.lenle
 refine fR Z<|A0<|fQ [0,0,0,0,0] Z<|Af 1 Z<|AU (v:=va) Bu Z ha.isSl Ac<|Af 1 Z<|AU (v:=vb) Bu Z hb.isSl Ac ?_
 by_cases a2:(a.length:Int)≠(b.length:Int)
 ·exact Be true Z Z (A7 a2) Ac<|Aj<|Ah Z<|fR Z<|A3<|At<|Al [4] Z (.bool false) Z ⟨AQ (A8<|QA oM).symm,a1⟩
 refine Be false Z Z (A8 a2) Ac<|Aj<|Ak Z<|A4<|A0<|fR Z<|A5<|B8 (S:=Nat) (fun k=>([(5,zI (k:Int)),(0,va),(1,vb)])) (fun k W=>AD w W∧k≤a.length∧(∀j,j<k→a.getD j 0=b.getD j 0)) (fun k=>a.length-k) 0 ⟨rfl,rfl,rfl,trivial⟩ ⟨a1,sD,(by intro j hj;omega)⟩ ?_
 clear a1
 rintro k ρ2 w2 ⟨a0,a3,hq⟩
 have a6:w.heap.size≤w2.heap.size:=a0.size
 refine A0<|fQ [0,0,0,0] Z<|Af 2 Z<|AU (v:=va) Bu Z ha.isSl Ac ?_
 by_cases a4:(k:Int)<(a.length:Int)
 ·refine AJ true Z Z (A7 a4) Ac<|Aj<|Ah Z<|A4<|A0<|A5<|A0<|B7 _ [0,0,0,1,0,0,0,1,0] mixed (by kernel_rfl)<|Af 2 Z<|AH (v:=va) k Bu BL Z Z ha.isSl Z sD Ac ?_
  refine Ai (p:=AE va k 1) (.inl Z) (zI<|a.getD k 0) AG Z (Bk a0.drew (ha.getI sD).1) Ac<|Af 2 Z ?_
  refine AH (v:=vb) k Bu BL Z Z hb.isSl Z sD Ac ?_
  refine Ai (p:=AE vb k 1) (.inl Z) (zI<|b.getD k 0) AG Z (Bk a0.drew (hb.getI sD).1) Ac ?_
  by_cases a5:a.getD k 0≠b.getD k 0
  ·exact Be true Z Z (A7 a5) Ac<|Aj<|Ah Z<|fR Z<|A3<|AM<|At<|At<|AM<|At<|Al [4] Z (.bool false) Z ⟨AQ (A8<|Ov (d:=0) (k:=k) oM).symm,a0.drew⟩
  refine Be false Z Z (A8 a5) Ac<|Aj<|Ak Z<|A4<|Ad _ [0,0,0] Z<|Af 1 Z<|AS ((k+1:Nat):Int) Z Z (Bg oM sD) Ac<|Ae 1 Z ?_
  exact⟨k+1,_,rfl,zR,⟨a0.drew,sD,(by exact Ou hq oM)⟩,zD⟩
 exact AJ false Z Z (A8 a4) Ac<|Aj<|Ak Z<|A6<|AA<|AA<|Ax<|fR Z<|A3<|Al [4] Z (.bool true) Z ⟨AQ (A7<|Lb hq oM oM).symm,a0⟩
theorem O0 {p:Prop}(h:p:=by first|omega|exact Qq _):p:=h
theorem CM {p:Prop}(h:p:=by kernel_rfl):p:=h
theorem FO (w:World)(g:Nat)(sv:Value)(cs:List UInt8)(n0:Nat)(hs:EL w.heap g sv cs n0)(al:n0+1≤1000000000000)  :
  Calls Tryz.prog 162 #[zP g] w (fun e w'=>∃(x0:Int) (n1:Nat),e=.returned (zI x0)∧AB [g] w w'∧EL w'.heap g sv cs n1∧(n0≤n1∧n1≤n0+1)∧(0≤x0∧x0≤255)):=by
 refine Aw [zP g] 62 Tryz.func162 Z Z sM ?_
 have a2:AB [g] w w:=AB.refl [g] w
 have aq:=hs.lt
 obtain⟨sd,hbx,hrs⟩:=hs.parts
 have hl_sv:=(hrs _<|AB.refl [g] w).lenle
 refine fR Z<|fR Z<|A0<|A0<|B7 _ [0,0,0,1,0,0,0,1,0,0] mixed CM<|Af 1 Z<|Bf Z Ac<|EB 1 CM Z Ac<|Ai (p:=.pointer<|some ⟨g,1,none⟩) (.inl Z) (zI (n0:Int)) Mo Z (hbx.ld (k:=1) sM) Ac<|Af 1 Z<|Bf Z Ac<|EB 0 CM Z Ac<|Ai (p:=zP g) (.inl Z) sv Rt Z (hbx.ld (k:=0) sM) Ac<|AU (v:=sv) Se Z (hrs _ a2.drew).isSl Ac ?_
 by_cases aa:(n0:Int)<(cs.length:Int)
 ·refine AJ true Z Z (A7 aa) Ac<|Aj<|Ah Z<|B7 _ [0,0,0,1,0,0,0,1,0,1,0,0] mixed CM<|Af 1 Z<|Bf Z Ac<|EB 0 CM Z Ac<|Ai (p:=zP g) (.inl Z) sv Rt Z (hbx.ld (k:=0) sM) Ac<|Af 1 Z<|Bf Z Ac<|EB 1 CM Z Ac<|Ai (p:=.pointer<|some ⟨g,1,none⟩) (.inl Z) (zI (n0:Int)) Mo Z (hbx.ld (k:=1) sM) Ac ?_
  refine AH (v:=sv) n0 Se fZ Z Z (hrs _ a2.drew.drew).isSl Z sD Ac ?_
  refine Ai (p:=AE sv n0 1) (.inl Z) (.int .u8 ((cs.getD n0 0).toNat:Int)) fH Z ((hrs _ a2.drew.drew).getU sD).1 Ac (JT ((cs.getD n0 0).toNat:Int) u5 u3 Z (w8 _) Ac<|Ae 1 Z<|fQ [0,0,0,2,0,0,0,4] Z<|Af 1 Z<|Bf Z Ac<|EB 1 CM Z Ac<|Ai (p:=.pointer<|some ⟨g,1,none⟩) (.inr Z) (zI (n0:Int)) Mo Z (hbx.ld (k:=1) sM) Ac ?_)
  refine AS ((n0+1:Nat):Int) Z Z (Bg oM sD) Ac<|Bf Z Ac<|EB 1 CM Z Ac (Bn (w:=w.drew.drew) fY Z Z ⟨rfl,rfl⟩ hbx sM Ac fun w2 a3 am ad=>?_)
  replace a3:=a3.of_drew
  replace a3:=a3.of_drew
  have ae:AB [g] w w2:=a2.trans a3
  have a4:BX w2.heap g [sv,zI ((n0+1:Nat):Int),.int .u64 sd]:=ad
  refine Aj<|fQ [0,0,0,0,2,0,0,0,0,0,0,0,4] Z<|Af 2 Z<|Bf Z Ac<|EB 2 CM Z Ac<|Ai (p:=.pointer<|some ⟨g,2,none⟩) (.inr Z) (.int .u64 sd) NR Z (a4.ld (k:=2) sM) Ac<|FY (IntKind.u64.wrap (sd*6364136223846793005)) Z Z Z Ac<|Af 1 Z<|JT (IntKind.u64.wrap ((cs.getD n0 0).toNat:Int)) u3 VL Z Z Ac<|AS (IntKind.u64.wrap ((IntKind.u64.wrap (sd*6364136223846793005))+(IntKind.u64.wrap ((cs.getD n0 0).toNat:Int)))) Z Z Z Ac<|AS (IntKind.u64.wrap ((IntKind.u64.wrap ((IntKind.u64.wrap (sd*6364136223846793005))+(IntKind.u64.wrap ((cs.getD n0 0).toNat:Int))))+1442695040888963407)) Z Z Z Ac<|Bf Z Ac ?_
  refine EB 2 CM Z Ac (Bn (w:=w2) XW Z Z ⟨rfl,rfl⟩ a4 sM Ac fun w3 af an ag=>?_)
  have a5:AB [g] w w3:=ae.trans af
  have a0:BX w3.heap g [sv,zI ((n0+1:Nat):Int),.int .u64 (IntKind.u64.wrap ((IntKind.u64.wrap ((IntKind.u64.wrap (sd*6364136223846793005))+(IntKind.u64.wrap ((cs.getD n0 0).toNat:Int))))+1442695040888963407))]:=ag
  refine Aj<|A0<|A0<|B7 _ [0,0,0,1,0,0,0,1,0,0] mixed CM<|Af 1 Z<|Bf Z Ac<|EB 1 CM Z Ac<|Ai (p:=.pointer<|some ⟨g,1,none⟩) (.inl Z) (zI ((n0+1:Nat):Int)) Mo Z (a0.ld (k:=1) sM) Ac<|Af 1 Z<|Bf Z Ac<|EB 0 CM Z Ac<|Ai (p:=zP g) (.inl Z) sv Rt Z (a0.ld (k:=0) sM) Ac<|AU (v:=sv) Se Z (hrs _ a5.drew).isSl Ac ?_
  by_cases ab:((n0+1:Nat):Int)≤(cs.length:Int)
  ·refine El true Z Z (A7 ab) Ac<|Aj<|Ah Z<|fQ [0,0] Z<|Ae 2 Z<|A3<|At ?_
   have a8:=Qp<|cs.getD n0 0
   exact Al [2] Z (zI ((cs.getD n0 0).toNat:Int)) Z ⟨((cs.getD n0 0).toNat:Int),n0+1,rfl,a5.drew,hs.close a5.drew a0,⟨zO,zO⟩,O0⟩
  refine El false Z Z (A8 ab) Ac<|Aj<|Ak Z<|A4<|fQ [0,0,0,2,0,0,0,0] Z<|Af 1 Z<|Bf Z Ac<|EB 2 CM Z Ac<|Ai (p:=.pointer<|some ⟨g,2,none⟩) (.inr Z) (.int .u64<|IntKind.u64.wrap ((IntKind.u64.wrap ((IntKind.u64.wrap (sd*6364136223846793005))+(IntKind.u64.wrap ((cs.getD n0 0).toNat:Int))))+1442695040888963407)) NR Z (a0.ld (k:=2) sM) Ac<|X3 ((IntKind.u64.wrap ((IntKind.u64.wrap ((IntKind.u64.wrap (sd*6364136223846793005))+(IntKind.u64.wrap ((cs.getD n0 0).toNat:Int))))+1442695040888963407)).fdiv (2 ^ (min (40:Int).toNat (IntKind.u64).bits))) Z Z oM Z Ac<|X5 Z Z Ac ?_
  refine JT (IK .u64 ((IntKind.u64.wrap ((IntKind.u64.wrap ((IntKind.u64.wrap (sd*6364136223846793005))+(IntKind.u64.wrap ((cs.getD n0 0).toNat:Int))))+1442695040888963407)).fdiv (2 ^ (min (40:Int).toNat (IntKind.u64).bits))) 255) VL u2 Z (ZS _) Ac<|Ae 1 Z<|A3 ?_
  have a8:=Qp<|cs.getD n0 0
  exact Al [2] Z (zI<|IK .u64 ((IntKind.u64.wrap ((IntKind.u64.wrap ((IntKind.u64.wrap (sd*6364136223846793005))+(IntKind.u64.wrap ((cs.getD n0 0).toNat:Int))))+1442695040888963407)).fdiv (2 ^ (min (40:Int).toNat (IntKind.u64).bits))) 255) Z ⟨IK .u64 ((IntKind.u64.wrap ((IntKind.u64.wrap ((IntKind.u64.wrap (sd*6364136223846793005))+(IntKind.u64.wrap ((cs.getD n0 0).toNat:Int))))+1442695040888963407)).fdiv (2 ^ (min (40:Int).toNat (IntKind.u64).bits))) 255,n0+1,rfl,a5.drew,hs.close a5.drew a0,⟨zO,zO⟩,O0⟩
 refine AJ false Z Z (A8 aa) Ac<|Aj<|Ak Z<|A4<|fQ [0,0,0,2,0,0,0,4] Z<|Af 1 Z<|Bf Z Ac<|EB 1 CM Z Ac<|Ai (p:=.pointer<|some ⟨g,1,none⟩) (.inr Z) (zI (n0:Int)) Mo Z (hbx.ld (k:=1) sM) Ac<|AS ((n0+1:Nat):Int) Z Z (Bg oM sD) Ac<|Bf Z Ac ?_
 refine EB 1 CM Z Ac (Bn (w:=w.drew) fY Z Z ⟨rfl,rfl⟩ hbx sM Ac fun w5 a9 ao ah=>?_)
 replace a9:=a9.of_drew
 have ai:AB [g] w w5:=a2.trans a9
 have a6:BX w5.heap g [sv,zI ((n0+1:Nat):Int),.int .u64 sd]:=ah
 refine Aj<|fQ [0,0,0,0,2,0,0,0,0,0,0,0,4] Z<|Af 2 Z<|Bf Z Ac<|EB 2 CM Z Ac<|Ai (p:=.pointer<|some ⟨g,2,none⟩) (.inr Z) (.int .u64 sd) NR Z (a6.ld (k:=2) sM) Ac<|FY (IntKind.u64.wrap (sd*6364136223846793005)) Z Z Z Ac<|Af 1 Z<|JT (IntKind.u64.wrap ((0:Nat):Int)) u3 VL Z Z Ac<|AS (IntKind.u64.wrap ((IntKind.u64.wrap (sd*6364136223846793005))+(IntKind.u64.wrap ((0:Nat):Int)))) Z Z Z Ac<|AS (IntKind.u64.wrap ((IntKind.u64.wrap ((IntKind.u64.wrap (sd*6364136223846793005))+(IntKind.u64.wrap ((0:Nat):Int))))+1442695040888963407)) Z Z Z Ac<|Bf Z Ac<|EB 2 CM Z Ac ?_
 refine Bn (w:=w5) XW Z Z ⟨rfl,rfl⟩ a6 sM Ac fun w6 aj ap ak=>?_
 have a7:AB [g] w w6:=ai.trans aj
 have a1:BX w6.heap g [sv,zI ((n0+1:Nat):Int),.int .u64 (IntKind.u64.wrap ((IntKind.u64.wrap ((IntKind.u64.wrap (sd*6364136223846793005))+(IntKind.u64.wrap ((0:Nat):Int))))+1442695040888963407))]:=ak
 refine Aj<|A0<|A0<|B7 _ [0,0,0,1,0,0,0,1,0,0] mixed CM<|Af 1 Z<|Bf Z Ac<|EB 1 CM Z Ac<|Ai (p:=.pointer<|some ⟨g,1,none⟩) (.inl Z) (zI ((n0+1:Nat):Int)) Mo Z (a1.ld (k:=1) sM) Ac<|Af 1 Z<|Bf Z Ac<|EB 0 CM Z Ac<|Ai (p:=zP g) (.inl Z) sv Rt Z (a1.ld (k:=0) sM) Ac<|AU (v:=sv) Se Z (hrs _ a7.drew).isSl Ac ?_
 by_cases ac:((n0+1:Nat):Int)≤(cs.length:Int)
 ·refine El true Z Z (A7 ac) Ac<|Aj<|Ah Z<|fQ [0,0] Z<|Ae 2 Z<|A3<|At ?_
  have a8:=Qp<|cs.getD n0 0
  exact Al [2] Z (zI ((0:Nat):Int)) Z ⟨((0:Nat):Int),n0+1,rfl,a7.drew,hs.close a7.drew a1,⟨zO,zO⟩,O0⟩
 refine El false Z Z (A8 ac) Ac<|Aj<|Ak Z<|A4<|fQ [0,0,0,2,0,0,0,0] Z<|Af 1 Z<|Bf Z Ac<|EB 2 CM Z Ac<|Ai (p:=.pointer<|some ⟨g,2,none⟩) (.inr Z) (.int .u64<|IntKind.u64.wrap ((IntKind.u64.wrap ((IntKind.u64.wrap (sd*6364136223846793005))+(IntKind.u64.wrap ((0:Nat):Int))))+1442695040888963407)) NR Z (a1.ld (k:=2) sM) Ac<|X3 ((IntKind.u64.wrap ((IntKind.u64.wrap ((IntKind.u64.wrap (sd*6364136223846793005))+(IntKind.u64.wrap ((0:Nat):Int))))+1442695040888963407)).fdiv (2 ^ (min (40:Int).toNat (IntKind.u64).bits))) Z Z oM Z Ac<|X5 Z Z Ac ?_
 refine JT (IK .u64 ((IntKind.u64.wrap ((IntKind.u64.wrap ((IntKind.u64.wrap (sd*6364136223846793005))+(IntKind.u64.wrap ((0:Nat):Int))))+1442695040888963407)).fdiv (2 ^ (min (40:Int).toNat (IntKind.u64).bits))) 255) VL u2 Z (ZS _) Ac<|Ae 1 Z<|A3 ?_
 have a8:=Qp<|cs.getD n0 0
 exact Al [2] Z (zI<|IK .u64 ((IntKind.u64.wrap ((IntKind.u64.wrap ((IntKind.u64.wrap (sd*6364136223846793005))+(IntKind.u64.wrap ((0:Nat):Int))))+1442695040888963407)).fdiv (2 ^ (min (40:Int).toNat (IntKind.u64).bits))) 255) Z ⟨IK .u64 ((IntKind.u64.wrap ((IntKind.u64.wrap ((IntKind.u64.wrap (sd*6364136223846793005))+(IntKind.u64.wrap ((0:Nat):Int))))+1442695040888963407)).fdiv (2 ^ (min (40:Int).toNat (IntKind.u64).bits))) 255,n0+1,rfl,a7.drew,hs.close a7.drew a1,⟨zO,zO⟩,O0⟩
theorem Q8 {p:Prop}(h:p:=by first|omega|exact⟨Int.emod_nonneg _ oM,Int.le_of_lt (Int.lt_of_lt_of_le (Int.emod_lt_of_pos _ oM) oM),fun _=>Int.emod_lt_of_pos _ oM⟩):p:=h
theorem Ba (w:World)(g:Nat)(sv:Value)(cs:List UInt8)(n0:Nat)(k:Int)(hs:EL w.heap g sv cs n0)(ad:n0+2≤1000000000000)(_hk:Bd k)(hk:k≤1000000) :
  Calls Tryz.prog 101 #[zP g,zI k] w (fun e w'=>∃(x0:Int) (n1:Nat),e=.returned (zI x0)∧AB [g] w w'∧EL w'.heap g sv cs n1∧(n0≤n1∧n1≤n0+2)∧(0≤x0∧x0≤1000000∧(1≤k→x0<k))):=by
 refine Aw [zP g,zI k] 20 Tryz.func101 Z Z sM ?_
 have a0:AB [g] w w:=AB.refl [g] w
 have ai:=hs.lt
 refine fR Z<|A0<|fQ [0,0] Z<|Af 1 Z ?_
 by_cases a1:k≤((1:Nat):Int)
 ·exact El true Z Z (A7 a1) Ac<|Aj<|Ah Z<|fR Z<|A3<|At<|Al [4] Z (zI ((0:Nat):Int)) Z ⟨((0:Nat):Int),n0,rfl,a0,hs,⟨zO,zO⟩,Q8⟩
 refine El false Z Z (A8 a1) Ac<|Aj<|Ak Z<|A4<|fQ [0,4,0] Z<|Af 1 Z<|AK 162 [] [] [zP g] Z Z XJ Ac (FO _ g _ _ _ hs oM) ?_
 rintro e2 w2 ⟨ag,n2,rfl,a2,a3,ae,a4⟩
 refine⟨_,rfl,?_⟩
 have a9:=a2.size
 have a5:AB [g] w w2:=a0.trans a2
 refine Ae 1 Z<|A0<|fQ [0,0] Z<|Af 1 Z ?_
 by_cases a6:((200:Nat):Int)<k
 ·refine C0 true Z Z (A7 a6) Ac<|Aj<|Ah Z<|Ad _ [0,0,0,4,0,0] Z<|Af 1 Z ?_
  refine FY (ag*((256:Nat):Int)) Z Z (E1 sD sD) Ac<|Af 1 Z ?_
  refine AK 162 [] [] [zP g] Z Z XJ Ac (FO _ g _ _ _ a3 oM) ?_
  rintro e4 w4 ⟨ah,n4,rfl,a7,aa,af,a8⟩
  refine⟨_,rfl,?_⟩
  have ab:=a7.size
  have ac:AB [g] w w4:=a5.trans a7
  refine AS ((ag*((256:Nat):Int))+ah) Z Z (E1 sD sD) Ac<|Ae 1 Z<|fQ [0,0,0,0] Z ?_
  exact Af 2 Z<|Ek (((ag*((256:Nat):Int))+ah) % k) Z Z oM (Int.tmod_eq_emod_of_nonneg oM) Ac<|Ae 1 Z<|A3<|Al [4] Z (zI (((ag*((256:Nat):Int))+ah) % k)) Z ⟨((ag*((256:Nat):Int))+ah) % k,n4,rfl,ac,aa,⟨zO,zO⟩,Q8⟩
 exact C0 false Z Z (A8 a6) Ac<|Aj<|Ak Z<|A4<|fQ [0,0,0,0] Z<|Af 2 Z<|Ek ((ag) % k) Z Z oM (Int.tmod_eq_emod_of_nonneg oM) Ac<|Ae 1 Z<|A3<|Al [4] Z (zI ((ag) % k)) Z ⟨(ag) % k,n2,rfl,a5,a3,⟨zO,zO⟩,Q8⟩
theorem CP (w:World)(g:Nat)(sv:Value)(cs:List UInt8)(n0:Nat)(k:Int)(hs:EL w.heap g sv cs n0)(a6:n0+2≤1000000000000)(_hk:Bd k)(hk:k≤1000000) :
  Calls Tryz.prog 102 #[zP g,zI k] w (fun e w'=>∃(x0:Bool) (n1:Nat),e=.returned (.bool x0)∧AB [g] w w'∧EL w'.heap g sv cs n1∧(n0≤n1∧n1≤n0+2)∧True):=by
 refine Aw [zP g,zI k] 9 Tryz.func102 Z Z sM ?_
 have a2:AB [g] w w:=AB.refl [g] w
 have a9:=hs.lt
 refine fR Z<|fQ [0,0,4,0,0] Z<|Af 2 Z<|AK 101 [] [] [zP g,zI k] Z Z Ff Ac (Ba _ g _ _ _ _ hs oM _hk sD) ?_
 rintro e1 w1 ⟨a8,n1,rfl,a0,a3,a7,a1⟩
 refine⟨_,rfl,?_⟩
 have a4:=a0.size
 have a5:AB [g] w w1:=a2.trans a0
 exact Av (decide (a8=((0:Nat):Int))) Z Z Z Ac<|Ae 1 Z<|A3<|Al [4] Z (.bool<|decide (a8=((0:Nat):Int))) Z ⟨decide (a8=((0:Nat):Int)),n1,rfl,a5,a3,⟨zO,zO⟩,(by trivial)⟩
theorem Gm (w:World)(g:Nat)(sv:Value)(cs:List UInt8)(n0:Nat)(hs:EL w.heap g sv cs n0)(az:n0+8≤1000000000000)  :
  Calls Tryz.prog 110 #[zP g] w (fun e w'=>∃(x0:Int) (n1:Nat),e=.returned (zI x0)∧AB [g] w w'∧EL w'.heap g sv cs n1∧(n0≤n1∧n1≤n0+8)∧(0≤x0∧x0<1000003)):=by
 refine Aw [zP g] 25 Tryz.func110 Z Z sM ?_
 have ag:AB [g] w w:=AB.refl [g] w
 have bc:=hs.lt
 refine fR Z<|A0<|fQ [0,4] Z<|Af 1 Z<|AK 101 [] [] [zP g,zI ((6:Nat):Int)] Z Z Ff Ac (Ba _ g _ _ _ _ hs oM oM sD) ?_
 rintro e1 w1 ⟨ba,n1,rfl,a2,a0,b0,a3⟩
 refine⟨_,rfl,?_⟩
 have ah:=a2.size
 have a1:AB [g] w w1:=ag.trans a2
 refine Aj<|A5<|fQ [0,0] Z ?_
 by_cases a4:ba=((0:Nat):Int)
 ·refine Av true Z Z (A7 a4) Ac<|Ae 1 Z<|Ah Z<|fQ [0,4,0,0] Z<|Af 1 Z<|AK 101 [] [] [zP g,zI ((3:Nat):Int)] Z Z Ff Ac (Ba _ g _ _ _ _ a0 oM oM sD) ?_
  rintro e3 w3 ⟨b9,n3,rfl,a5,ai,b1,a6⟩
  refine⟨_,rfl,?_⟩
  have aj:=a5.size
  have ak:AB [g] w w3:=a1.trans a5
  refine BP (((1000002:Nat):Int)-b9) Z Z (E1 sD sD) Ac<|Ae 1 Z<|A3<|AM<|At ?_
  exact Al [2] Z (zI (((1000002:Nat):Int)-b9)) Z ⟨((1000002:Nat):Int)-b9,n3,rfl,ak,ai,⟨zO,zO⟩,(by first|omega|exact Cd _)⟩
 refine Av false Z Z (A8 a4) Ac<|Ae 1 Z<|Ak Z<|fQ [0,0] Z ?_
 by_cases a7:ba=((1:Nat):Int)
 ·refine Av true Z Z (A7 a7) Ac<|Ae 1 Z<|Ah Z<|fQ [0,4,0,0,4,0,0,0,4,0,0,0] Z<|Af 1 Z<|AK 101 [] [] [zP g,zI ((256:Nat):Int)] Z Z Ff Ac (Ba _ g _ _ _ _ a0 oM oM sD) ?_
  rintro e5 w5 ⟨b6,n5,rfl,a8,al,b2,a9⟩
  refine⟨_,rfl,?_⟩
  have am:=a8.size
  have an:AB [g] w w5:=a1.trans a8
  refine FY (b6*((65536:Nat):Int)) Z Z (E1 sD sD) Ac<|Af 1 Z ?_
  refine AK 101 [] [] [zP g,zI ((256:Nat):Int)] Z Z Ff Ac (Ba _ g _ _ _ _ al oM oM sD) ?_
  rintro e6 w6 ⟨b7,n6,rfl,aa,ao,b3,ab⟩
  refine⟨_,rfl,?_⟩
  have ap:=aa.size
  have aq:AB [g] w w6:=an.trans aa
  refine FY (b7*((256:Nat):Int)) Z Z (E1 sD sD) Ac ?_
  refine AS ((b6*((65536:Nat):Int))+(b7*((256:Nat):Int))) Z Z (E1 sD sD) Ac<|Af 1 Z ?_
  refine AK 101 [] [] [zP g,zI ((256:Nat):Int)] Z Z Ff Ac (Ba _ g _ _ _ _ ao oM oM sD) ?_
  rintro e7 w7 ⟨b8,n7,rfl,ac,ar,b4,ad⟩
  refine⟨_,rfl,?_⟩
  have au:=ac.size
  have av:AB [g] w w7:=aq.trans ac
  refine AS (((b6*((65536:Nat):Int))+(b7*((256:Nat):Int)))+b8) Z Z (E1 sD sD) Ac ?_
  exact Ek (md (((b6*((65536:Nat):Int))+(b7*((256:Nat):Int)))+b8)) Z Z (by decide) (Int.tmod_eq_emod_of_nonneg oM) Ac<|Ae 1 Z<|A3<|AM<|At<|Al [2] Z (zI<|md (((b6*((65536:Nat):Int))+(b7*((256:Nat):Int)))+b8)) Z ⟨md (((b6*((65536:Nat):Int))+(b7*((256:Nat):Int)))+b8),n7,rfl,av,ar,⟨zO,zO⟩,(by first|omega|exact Cd _)⟩
 refine Av false Z Z (A8 a7) Ac<|Ae 1 Z<|Ak Z<|A4<|fQ [0,4,0] Z<|Af 1 Z<|AK 101 [] [] [zP g,zI ((7:Nat):Int)] Z Z Ff Ac (Ba _ g _ _ _ _ a0 oM oM sD) ?_
 rintro e8 w8 ⟨bb,n8,rfl,ae,aw,b5,af⟩
 refine⟨_,rfl,?_⟩
 have ax:=ae.size
 have ay:AB [g] w w8:=a1.trans ae
 exact Ae 1 Z<|A3<|Al [2] Z (zI bb) Z ⟨bb,n8,rfl,ay,aw,⟨zO,zO⟩,(by first|omega|exact Cd _)⟩
theorem FP (w:World)(g:Nat)(sv:Value)(cs:List UInt8)(n0:Nat)(k:Int)(hs:EL w.heap g sv cs n0)(ax:n0+(8*k.toNat)≤1000000000000)(_hk:Bd k)(hk:k≤1000) :
  Calls Tryz.prog 49 #[zP g,zI k] w (fun e w'=>∃(v0:Value) (x0:Sr) (n1:Nat),e=.returned (v0)∧AB [g] w w'∧EL w'.heap g sv cs n1∧(n0≤n1∧n1≤n0+(8*k.toNat))∧Fr (BD rI 2) w.heap.size w'.heap.size w'.heap v0 x0∧(x0.length=k.toNat∧Bj x0=true)):=by
 refine Aw [zP g,zI k] 19 Tryz.func49 Z Z sM ?_
 have ac:AB [g] w w:=AB.refl [g] w
 have b2:=hs.lt
 refine fR Z<|fQ [3,0] Z (Dt (rI) AN Bu BL Ac fun v1 w1 a4 ak ad=>?_)
 have a7:=a4.size
 have ae:AB [g] w w1:=ac.ext a4
 have a8:=hs.ext a4
 refine Ae 1 Z<|A0<|fR Z<|A5 ?_
 refine B8 (S:=Nat×Value×Sr×Nat) (fun⟨j,vo,xs,m⟩=>([(5,vo),(6,zI (j:Int)),(0,zP g),(1,zI k)])) (fun⟨j,vo,xs,m⟩ W=>AB [g] w W∧Fr (BD rI 2) w.heap.size W.heap.size W.heap vo xs∧EL W.heap g sv cs m∧j≤k.toNat∧(n0≤m∧m≤n0+8*j)∧(xs.length=j∧Bj xs=true)) (fun⟨j,vo,xs,m⟩=>k.toNat-j) (0,v1,[],n0) ⟨rfl,rfl,rfl,rfl,trivial⟩ ⟨ae,ad.up o1,a8,sD,oM,(by exact⟨rfl,rfl⟩)⟩ ?_
 clear ac ad ak a4 a7 ae
 rintro⟨j,vo,xs,m⟩ ρ2 w2 ⟨a9,a0,a1,af,hm,hxs⟩
 have al:w.heap.size≤w2.heap.size:=a9.size
 refine A0<|fQ [0,0,0] Z<|Af 2 Z ?_
 by_cases ag:(j:Int)<k
 ·refine AJ true Z Z (A7 ag) Ac<|Aj<|Ah Z<|A4<|A0<|A5<|Ad _ [0,0,4,3,4,0] Z<|Af 2 Z<|AK 110 [] [] [zP g] Z Z TU Ac (Gm _ g _ _ _ a1 oM) ?_
  rintro e4 w4 ⟨b1,n4,rfl,aa,am,ay,ah⟩
  refine⟨_,rfl,?_⟩
  have an:=aa.size
  have ao:AB [g] w w4:=a9.trans aa
  have ap:=a0.chg (o1) aa fun b hb=>by have:b=g:=(by simpa using hb);omega
  refine BQ (u:=zI b1) (B:=w4.heap.size) AN Bu BL Z Z (Jl w4.heap.size w4.heap.size _ _ oM) (A9 _) Ac fun v6 w6 a5 az ai=>?_
  have aq:=a5.size
  have aj:AB [g] w w6:=ao.ext a5
  have a2:=ap.ext (o1) a5
  have a3:=am.ext a5
  refine FH (v:=vo) (a:=v6) Bu BL Z Z Z a2 aj.size ai.rd1 sD (by unfold maxLen;first|omega|assumption|(simp;done)|(simp;omega)) Ac fun v7 w7 F7 a6 ab ar=>?_
  have au:AB [g] w w7:=aj.fresh a6 (fun c hc=>Aa (A9 _) (ab c hc).1)
  have av:=a6.size
  have aw:=a3.chg a6 fun c hc=>zH<|ab c hc
  have b0:=ai.chg (o1) a6 fun c hc=>zH<|ab c hc
  refine Ae 1 Z<|Ad _ [0,0,0] Z<|Af 1 Z<|AS ((j+1:Nat):Int) Z Z (Bg oM oM) Ac<|Ae 1 Z ?_
  exact⟨(j+1,v7,xs++[b1],n4),_,rfl,zR,⟨au,ar.up o1,aw,sD,oM,(by exact⟨by rw[z4,hxs.1];rfl,by unfold Bj at *;rw[List.all_append,hxs.2];simp only[List.all_cons,List.all_nil,Bool.and_true,Bool.true_and];exact Cz.2 oM⟩)⟩,zD⟩
 exact AJ false Z Z (A8 ag) Ac<|Aj<|Ak Z<|A6<|AA<|AA<|Ax<|fQ [0,0] Z<|Ae 2 Z<|A3<|Al [4] Z vo Z ⟨vo,xs,m,rfl,a9,a1,⟨zO,zO⟩,a0.up o1,(by exact⟨zO,hxs.2⟩)⟩
theorem Zs (a:Option Addr)(n c:Nat)(w:World):(Instr.build 162 #[(0,.slice a n c)]).run Tryz.prog w=.ok (.agg #[.slice a n c,zI 0,.int .u64 0]) w:=by
  kernel_rfl
theorem dQ {v:Value}{n:Nat}(h:Fu v n)(w:World):(Instr.build 162 #[(0,v)]).run Tryz.prog w=.ok (.agg #[v,zI 0,.int .u64 0]) w:=by
  obtain⟨a,c,rfl,_⟩:=h
  exact Zs a n c w
theorem HW (w:World)(vc:Value)(cs:List UInt8)(hcs:Rd (Bl rU) w.heap vc cs)  :
  Calls Tryz.prog 46 #[vc] w (fun e w'=>∃g:Nat,e=.returned (zP g)∧AD w w'∧EL w'.heap g vc cs 0∧w.heap.size≤g):=by
 refine Aw [vc] 6 Tryz.func46 Z Z sM ?_
 have a0:AD w w:=AD.refl w
 have a7:=hcs.lenle
 refine fR Z<|fQ [0,0,3,0] Z<|Af 1 Z<|Ch (ps:=#[(0,vc)]) (.agg #[vc,zI 0,.int .u64 0]) (by simp only[zc,zf,zh];rfl) (fun wq=>dQ hcs.isSl wq) Ac (BC Z Ac fun w1 a1 a6 a3=>?_)
 have a4:=a1.size
 have a2:=a0.trans a1
 have a5:=EL.new hcs a2 a3 a0.size
 exact Ae 1 Z<|A3<|Al [2] Z (zP w.heap.size) Z ⟨w.heap.size,rfl,a2,a5,a0.size⟩
theorem IE (w:World)(vc:Value)(cs:List UInt8)(k:Int)(hcs:Rd (Bl rU) w.heap vc cs)(_hk:Bd k)(hk:k≤1000) :
  Calls Tryz.prog 9 #[vc,zI k] w (fun e w'=>∃v0:Value,∃(x0:Sr),e=.returned (v0)∧AD w w'∧Fr (BD rI 2) w.heap.size w'.heap.size w'.heap v0 x0∧(x0.length=k.toNat∧Bj x0=true)):=by
 refine Aw [vc,zI k] 9 Tryz.func9 Z Z sM ?_
 have a4:AD w w:=AD.refl w
 have af:=hcs.lenle
 refine fR Z<|fQ [0,3,0,4,0] Z<|Af 1 Z<|Ay 46 [] [] [vc] Z Z bM Ac (HW _ _ _<|hcs.ext Dl a4) ?_
 rintro e1 w1 ⟨gB1,rfl,a2,a7,ab⟩
 refine⟨_,rfl,a2,?_⟩
 have a8:=a2.size
 have a3:=a4.trans a2
 refine Af 1 Z<|AK 49 [] [] [zP gB1,zI k] Z Z Zi Ac (FP _ gB1 _ _ _ _ a7 oM _hk hk) ?_
 rintro e2 w2 ⟨a0,ae,n2,rfl,a5,ac,ad,a1,a6⟩
 refine⟨_,rfl,?_⟩
 have a9:=a5.size
 have aa:AD w w2:=a5.below a3 (fun b hb=>by have:b=gB1:=(by simpa using hb);omega) a3.size
 exact Ae 1 Z<|A3<|Al [4] Z a0 Z ⟨a0,ae,rfl,aa,(a1.up o1).low a3.size,(by assumption)⟩
theorem Mv (w:World)(a:Int)(b:Int)(_ha:Bd a)(_hb:Bd b)  :
  Calls Tryz.prog 248 #[zI a,zI b] w (fun e w'=>e=.returned (zI (max a b))∧w'=w):=by
 refine Aw [zI a,zI b] 10 Tryz.func248 Z Z sM ?_
 have a0:w=w:=rfl
 refine fR Z<|A0<|fQ [0,0,0] Z<|Af 2 Z ?_
 by_cases a1:b<a
 ·exact C0 true Z Z (A7 a1) Ac<|Aj<|Ah Z<|fQ [0,0] Z<|Ae 2 Z<|A3<|At<|Al [4] Z (zI a) Z ⟨Bm oM,a0⟩
 exact C0 false Z Z (A8 a1) Ac<|Aj<|Ak Z<|A4<|fQ [0,0] Z<|Ae 2 Z<|A3<|Al [4] Z (zI b) Z ⟨Bm oM,a0⟩
theorem Uf {p:Prop}(h:p:=by rw[Vj,hx];first|rw[za oM]|exact(MU oM).symm):p:=h
theorem HX (w:World)(dex:Nat)(ve:Value)(ex:Ex)(left:Int)(hex:RN [] (rP (Nf dex)) w.heap ve ex)(_hleft:Bd left)(af:0≤left∧left≤100000)(hs:ex.size≤1000000000) :
  Calls Tryz.prog 188 #[ve,zI left] w (fun e w'=>e=.returned (zI (Il ex left))∧AD w w'):=by
 induction dex using Nat.strongRecOn generalizing w ve ex left
 rename_i dex ih
 refine Aw [ve,zI left] 30 Tryz.func188 Z Z sM ?_
 have a6:AD w w:=AD.refl w
 have hsk:=FC ex
 refine fR Z<|fQ [0,0,0] Z<|Af 1 Z<|BP (left-1) Z Z (E1 oM oM) Ac<|Ae 1 Z<|A0<|fR Z<|A5 ?_
 refine B8 (S:=Nat×Int) (fun⟨k,x⟩=>([(1,zI x),(5,zI (k:Int)),(0,ve)])) (fun⟨k,x⟩ W=>AD w W∧k≤ex.kids.length∧x=Dp (ex.kids.take k) (left-1)∧(-1≤x∧x≤left)) (fun⟨k,x⟩=>ex.kids.length-k) (0,left-1) ⟨rfl,rfl,rfl,trivial⟩ ⟨a6,sD,(by rw[List.take_zero,Dp]),oM⟩ ?_
 clear a6
 rintro⟨k,x⟩ ρ1 w1 ⟨a0,a7,hx,a8⟩
 have ab:w.heap.size≤w1.heap.size:=a0.size
 refine A0<|fQ [0,0,0,0,2,0,0,0,0,0,0] Z<|Af 2 Z<|AX (hex.isPtr) Z Ac ?_
 obtain⟨cs2,ac,a2⟩:=RN.at (AL _) hex
 obtain⟨dd2,a1,ag,rfl,a3⟩:=RX.of ac
 have a4:=a3.rn.lenle
 unfold maxLen at a4
 refine AP (p:=ve) 4 Bv Z (a2 _<|AB.of_ext [] a0) Ac<|Ai (p:=Au ve 4) (.inr Z) a1 BG Z ((a2 _<|AB.of_ext [] a0).ld (i:=4) (by simp[Ge,Gf])) Ac<|AU (v:=a1) DS Z a3.rn.isSl Ac ?_
 by_cases a9:(k:Int)<(ex.kids.length:Int)
 ·refine AJ true Z Z (A7 a9) Ac<|Af 2 Z ?_
  by_cases aa:((0:Nat):Int)≤x
  ·refine DO true Z Z (A7 aa) (Ag (e:=15) Z Z Z)<|Ae 1 Z<|Ah Z<|A4<|A0<|A5<|Ad _ [0,0,0,2,0,0,0,3,0] Z ?_
   have hst:=Ea (l:=ex.kids) (k:=k) oM
   have hle:=DD ex.kids (k+1)
   have hnx:=MT (l:=ex.kids) (k:=k) (x:=left-1) oM oM
   have hnr:=OP (e:=ex.kids.getD k Ex.zero) (x:=x) oM
   refine Af 1 Z<|AX (hex.isPtr) Z Ac<|AP (p:=ve) 4 Bv Z (a2 _<|AB.of_ext [] a0) Ac<|Ai (p:=Au ve 4) (.inr Z) a1 BG Z ((a2 _<|AB.of_ext [] a0).ld (i:=4) (by simp[Ge,Gf])) Ac<|Af 1 Z<|AH (v:=a1) k DS BM Z Z a3.rn.isSl Z sD Ac<|Af 1 Z ?_
   refine Ay 188 [] [] [AE a1 k 5,zI x] Z Z U0 Ac (ih dd2 oM _ (AE a1 k 5) (ex.kids.getD k Ex.zero) _ (RN.ptr (AL dd2) (by decide) Ex.zero (a3.rn.ext (Aq<|AL dd2) a0) sD) oM oM oM) ?_
   rintro e5 w5 ⟨rfl,a5⟩
   refine⟨_,rfl,a5,?_⟩
   have ad:=a5.size
   have ae:=a0.trans a5
   refine Ae 1 Z<|Ad _ [0,0,0] Z<|Af 1 Z<|AS ((k+1:Nat):Int) Z Z (Bg oM sD) Ac<|Ae 1 Z ?_
   exact⟨(k+1,Il (ex.kids.getD k Ex.zero) x),_,rfl,zR,⟨ae,sD,(by rw[hnx,hx]),oM⟩,zD⟩
  exact DO false Z Z (A8 aa) (Ag (e:=15) Z Z Z)<|Ae 1 Z<|Ak Z<|A6<|AA<|AA<|Ax<|fQ [0,0] Z<|Ae 2 Z<|A3<|Al [4] Z (zI x) Z ⟨Bm Uf,a0⟩
 exact AJ false Z Z (A8 a9) Ac<|Ae 4 Z<|Ak Z<|A6<|AA<|AA<|Ax<|fQ [0,0] Z<|Ae 2 Z<|A3<|Al [4] Z (zI x) Z ⟨Bm Uf,a0⟩
theorem KA (w:World)(dex:Nat)(ve:Value)(ex:Ex)(hex:RN [] (rP (Nf dex)) w.heap ve ex)(hs:ex.size≤1000000000) :
  Calls Tryz.prog 229 #[ve] w (fun e w'=>e=.returned (zI (ex.deep:Int))∧AD w w'):=by
 induction dex using Nat.strongRecOn generalizing w ve ex
 rename_i dex ih
 refine Aw [ve] 25 Tryz.func229 Z Z sM ?_
 have a6:AD w w:=AD.refl w
 have hsk:=FC ex
 have hdk:=EF ex
 refine fR Z<|fR Z<|A0<|fR Z<|A5 ?_
 refine B8 (S:=Nat×Int) (fun⟨k,sz⟩=>([(3,zI sz),(4,zI (k:Int)),(0,ve)])) (fun⟨k,sz⟩ W=>AD w W∧k≤ex.kids.length∧sz=((Ex.deeps (ex.kids.take k):Nat):Int)∧(0≤sz∧sz≤1000000000)) (fun⟨k,sz⟩=>ex.kids.length-k) (0,((0:Nat):Int)) ⟨rfl,rfl,rfl,trivial⟩ ⟨a6,sD,(by rw[List.take_zero,MJ] <;> rfl),oM⟩ ?_
 clear a6
 rintro⟨k,sz⟩ ρ1 w1 ⟨a0,a7,hsz,a8⟩
 have aa:w.heap.size≤w1.heap.size:=a0.size
 refine A0<|fQ [0,0,0,0,2,0,0] Z<|Af 2 Z<|AX (hex.isPtr) Z Ac ?_
 obtain⟨cs2,ab,a2⟩:=RN.at (AL _) hex
 obtain⟨dd2,a1,ae,rfl,a3⟩:=RX.of ab
 have a4:=a3.rn.lenle
 unfold maxLen at a4
 refine AP (p:=ve) 4 Bv Z (a2 _<|AB.of_ext [] a0) Ac<|Ai (p:=Au ve 4) (.inr Z) a1 BG Z ((a2 _<|AB.of_ext [] a0).ld (i:=4) (by simp[Ge,Gf])) Ac<|AU (v:=a1) DS Z a3.rn.isSl Ac ?_
 by_cases a9:(k:Int)<(ex.kids.length:Int)
 ·refine AJ true Z Z (A7 a9) Ac<|Aj<|Ah Z<|A4<|A0<|A5<|Ad _ [0,0,0,0,2,0,0,3,0,0] Z ?_
  have hst:=Ea (l:=ex.kids) (k:=k) oM
  have hle:=DD ex.kids (k+1)
  have hdt:=H1 (l:=ex.kids) (k:=k) oM
  have hda:=EG<|ex.kids.getD k Ex.zero
  have hdz:=IO<|ex.kids.take k
  refine Af 2 Z<|AX (hex.isPtr) Z Ac<|AP (p:=ve) 4 Bv Z (a2 _<|AB.of_ext [] a0) Ac<|Ai (p:=Au ve 4) (.inr Z) a1 BG Z ((a2 _<|AB.of_ext [] a0).ld (i:=4) (by simp[Ge,Gf])) Ac<|Af 1 Z<|AH (v:=a1) k DS BM Z Z a3.rn.isSl Z sD Ac ?_
  refine Ay 229 [] [] [AE a1 k 5] Z Z XT Ac (ih dd2 oM _ (AE a1 k 5) (ex.kids.getD k Ex.zero) (RN.ptr (AL dd2) (by decide) Ex.zero (a3.rn.ext (Aq<|AL dd2) a0) sD) oM) ?_
  rintro e4 w4 ⟨rfl,a5⟩
  refine⟨_,rfl,a5,?_⟩
  have ac:=a5.size
  have ad:=a0.trans a5
  refine AF 248 [] [] [zI sz,zI (((ex.kids.getD k Ex.zero).deep:Nat):Int)] Z Z dF Ac (zI<|max sz (((ex.kids.getD k Ex.zero).deep:Nat):Int)) (fun wq=>Mv wq _ _ oM (zH<|EG (ex.kids.getD k Ex.zero)))<|Ae 1 Z<|Ad _ [0,0,0] Z<|Af 1 Z<|AS ((k+1:Nat):Int) Z Z (Bg oM sD) Ac<|Ae 1 Z ?_
  exact⟨(k+1,max sz (((ex.kids.getD k Ex.zero).deep:Nat):Int)),_,rfl,zR,⟨ad,sD,oM,oM⟩,zD⟩
 refine AJ false Z Z (A8 a9) Ac<|Aj<|Ak Z<|A6<|AA<|AA<|Ax<|fQ [0,0,0] Z ?_
 have h8:=JV (l:=ex.kids) (k:=k) oM
 have h9:=EG ex
 exact Af 1 Z<|AS (sz+1) Z Z (E1 oM oM) Ac<|Ae 1 Z<|A3<|Al [2] Z (zI (sz+1)) Z ⟨Bm oM,a0⟩
theorem Gn {p:Prop}(h:p:=by unfold S3;repeat (first|rfl|(rw[if_pos oM])|(rw[if_neg oM]))):p:=h
theorem LM (w:World)(kind:Int)(_hkind:Bd kind)  :
  Calls Tryz.prog 165 #[zI kind] w (fun e w'=>e=.returned (zI (S3 kind))∧w'=w):=by
 refine Aw [zI kind] 17 Tryz.func165 Z Z sM ?_
 have a0:w=w:=rfl
 refine fR Z<|A0<|fR Z<|A5<|A0<|fQ [0,0] Z ?_
 by_cases a1:kind=((1:Nat):Int)
 ·exact Av true Z Z (A7 a1) Ac<|Ae 1 Z<|Ah Z<|A4<|Ah Z<|fR Z<|A3<|AM<|At<|Al [2] Z (zI ((0:Nat):Int)) Z ⟨Bm Gn,a0⟩
 refine Av false Z Z (A8 a1) Ac<|Ae 1 Z<|Ak Z<|Ad _ [0,0] Z ?_
 by_cases a2:kind=((2:Nat):Int)
 ·exact Av true Z Z (A7 a2) Ac<|Ae 1 Z<|Ah Z<|fR Z<|A3<|AM<|At<|Al [2] Z (zI ((0:Nat):Int)) Z ⟨Bm Gn,a0⟩
 refine Av false Z Z (A8 a2) Ac<|Ae 1 Z<|Ak Z<|A0<|fQ [0,0] Z ?_
 by_cases a3:kind=((3:Nat):Int)
 ·exact Av true Z Z (A7 a3) Ac<|Ae 1 Z<|Ah Z<|A4<|Ah Z<|fR Z<|A3<|AM<|At<|Al [2] Z (zI ((2:Nat):Int)) Z ⟨Bm Gn,a0⟩
 refine Av false Z Z (A8 a3) Ac<|Ae 1 Z<|Ak Z<|fQ [0,0] Z ?_
 by_cases a4:kind=((4:Nat):Int)
 ·exact Av true Z Z (A7 a4) Ac<|Ae 1 Z<|Ah Z<|A4<|Ah Z<|fR Z<|A3<|AM<|At<|Al [2] Z (zI ((2:Nat):Int)) Z ⟨Bm Gn,a0⟩
 refine Av false Z Z (A8 a4) Ac<|Ae 1 Z<|Ak Z<|fQ [0,0] Z ?_
 by_cases a5:kind=((5:Nat):Int)
 ·exact Av true Z Z (A7 a5) Ac<|Ae 1 Z<|Ah Z<|A4<|Ah Z<|fR Z<|A3<|AM<|At<|Al [2] Z (zI ((2:Nat):Int)) Z ⟨Bm Gn,a0⟩
 refine Av false Z Z (A8 a5) Ac<|Ae 1 Z<|Ak Z<|fQ [0,0] Z ?_
 by_cases a6:kind=((6:Nat):Int)
 ·exact Av true Z Z (A7 a6) Ac<|Ae 1 Z<|Ah Z<|A4<|Ah Z<|fR Z<|A3<|AM<|At<|Al [2] Z (zI ((2:Nat):Int)) Z ⟨Bm Gn,a0⟩
 refine Av false Z Z (A8 a6) Ac<|Ae 1 Z<|Ak Z<|Ad _ [0,0] Z ?_
 by_cases a7:kind=((9:Nat):Int)
 ·exact Av true Z Z (A7 a7) Ac<|Ae 1 Z<|Ah Z<|fR Z<|A3<|AM<|At<|Al [2] Z (zI ((2:Nat):Int)) Z ⟨Bm Gn,a0⟩
 refine Av false Z Z (A8 a7) Ac<|Ae 1 Z<|Ak Z<|fQ [0,0] Z ?_
 by_cases a8:kind=((7:Nat):Int)
 ·exact Av true Z Z (A7 a8) Ac<|Ae 1 Z<|Ah Z<|fR Z<|A3<|AM<|At<|Al [2] Z (zI ((1:Nat):Int)) Z ⟨Bm Gn,a0⟩
 refine Av false Z Z (A8 a8) Ac<|Ae 1 Z<|Ak Z<|fQ [0,0] Z ?_
 by_cases a9:kind=((8:Nat):Int)
 ·exact Av true Z Z (A7 a9) Ac<|Ae 1 Z<|Ah Z<|fR Z<|A3<|AM<|At<|Al [2] Z (zI ((3:Nat):Int)) Z ⟨Bm Gn,a0⟩
 exact Av false Z Z (A8 a9) Ac<|Ae 1 Z<|Ak Z<|A4<|fR Z<|A3<|Al [2] Z (zI (-1)) Z ⟨Bm Gn,a0⟩
theorem Dr {p:Prop}(h:p:=by first|exact AQ (YV oM oM oM)|exact AQ (f0 oM oM oM oM)|exact AQ (f4 oM oM oM oM)|exact AQ ((Nw oM).trans (f5 oM oM oM oM oM oM oM))|exact AQ (by unfold H5 Eb HB;first|(simp[*];done)|(simp[*];omega)|(simp[*] <;> intros <;> omega)|(simp_all;done)|(simp_all <;> omega))):p:=h
theorem BV {p:Prop}(h:p:=by simp[Ge,Gf]):p:=h
theorem LN (w:World)(dp:Nat)(vp:Value)(p:List Fn)(dex:Nat)(ve:Value)(ex:Ex)(vars:Int)(funcs:Int)(hp:RN [] (rP (KH dp)) w.heap vp p)(hex:RN [] (rP (Nf dex)) w.heap ve ex)(_hvars:Bd vars)(_hfuncs:Bd funcs)(hv:0≤vars∧vars≤2000000000)(hf:0≤funcs∧funcs≤(p.length:Int)) :
  Calls Tryz.prog 249 #[vp,ve,zI vars,zI funcs] w (fun e w'=>e=.returned (.bool (H5 p funcs vars ex))∧AD w w'):=by
 refine Aw [vp,ve,zI vars,zI funcs] 140 Tryz.func249 Z Z sM ?_
 have a0:AD w w:=AD.refl w
 refine fR Z<|A0<|fQ [0,0,0,2,0,0,0,0,0,2,0,0] Z<|Af 1 Z<|AX (hex.isPtr) Z Ac ?_
 obtain⟨cs1,b2,a1⟩:=RN.at (AL _) hex
 obtain⟨dd1,ab,b8,rfl,a5⟩:=RX.of b2
 have aq:=a5.rn.lenle
 unfold maxLen at aq
 refine AP (p:=ve) 0 Bz Z (a1 _<|AB.of_ext [] a0) Ac<|Ai (p:=Au ve 0) (.inr Z) (zI ex.kind) AG Z ((a1 _<|AB.of_ext [] a0).ld (i:=0) BV) Ac ?_
 by_cases ay:ex.kind=((10:Nat):Int)
 ·refine Av true Z Z (A7 ay) Ac<|Ae 7 Z<|Ah Z<|A0<|fQ [0,0,0,2,0,0,0,0] Z<|Af 1 Z<|AX (hex.isPtr) Z Ac<|AP (p:=ve) 1 Cc Z (a1 _<|AB.of_ext [] a0) Ac<|Ai (p:=Au ve 1) (.inr Z) (zI ex.num) AG Z ((a1 _<|AB.of_ext [] a0).ld (i:=1) BV) Ac<|Af 1 Z<|BP (funcs-1) Z Z (E1 oM oM) Ac<|AF 80 [] [] [zI ex.num,zI ((0:Nat):Int),zI (funcs-1)] Z Z JH Ac (.bool (decide (((0:Nat):Int)≤ex.num) && decide (ex.num≤(funcs-1)))) (fun wq=>BS wq _ _ _ a5.rng.num oM oM) ?_
  refine BF (!(decide (((0:Nat):Int)≤ex.num) && decide (ex.num≤(funcs-1)))) Z Z Ac<|Aj ?_
  cases az:(!(decide (((0:Nat):Int)≤ex.num) && decide (ex.num≤(funcs-1))))
  ·refine Ak (by first|rfl|exact zW az)<|A4<|A0<|B7 _ [0,0,0,1,0,0,0,1,0,0] mixed (by kernel_rfl) ?_
   have hnr:=HV (Gl (by assumption):(decide (((0:Nat):Int)≤ex.num) && decide (ex.num≤funcs-1))=true)
   refine Af 1 Z<|AX (hp.isPtr) Z Ac ?_
   obtain⟨cs5,b3,b0⟩:=RN.at (B6 _) hp
   obtain⟨a6,rfl,a9⟩:=RPr.of b3
   have ar:=a9.lenle
   unfold maxLen at ar
   refine AP (p:=vp) 0 C8 Z (b0 _<|AB.of_ext [] a0.drew) Ac<|Ai (p:=Au vp 0) (.inl Z) a6 CO Z ((b0 _<|AB.of_ext [] a0.drew).ld (i:=0) BV) Ac<|Af 1 Z<|AX (hex.isPtr) Z Ac<|AP (p:=ve) 1 Cc Z (a1 _<|AB.of_ext [] a0.drew) Ac<|Ai (p:=Au ve 1) (.inl Z) (zI ex.num) AG Z ((a1 _<|AB.of_ext [] a0.drew).ld (i:=1) BV) Ac ?_
   refine AH (v:=a6) ((ex.num).toNat) Im DJ Z Z a9.isSl oM sD Ac<|Ae 1 Z<|A0<|A0<|B7 _ [0,0,0,1,0,0,0,1,0,0,0,0,0,0,0,0,1,0,0,0,0,1,0,0] mixed (by kernel_rfl)<|Af 1 Z<|AX (hex.isPtr) Z Ac<|AP (p:=ve) 2 Et Z (a1 _<|AB.of_ext [] a0.drew.drew) Ac ?_
   refine Ai (p:=Au ve 2) (.inl Z) (zI ex.pick) AG Z ((a1 _<|AB.of_ext [] a0.drew.drew).ld (i:=2) BV) Ac<|Af 1 Z<|AX (RN.isPtr<|RN.ptr (AR dp) (by decide) Fn.zero a9 sD) Z Ac ?_
   obtain⟨cs6,b4,a8⟩:=a9.get (AR dp) Fn.zero (k:=(ex.num).toNat) sD
   obtain⟨ap,rfl,au⟩:=RF.of b4
   have av:=au.rn.lenle
   unfold maxLen at av
   refine AP (p:=AE a6 ((ex.num).toNat) 3) 2 Cv Z (a8 _<|AB.of_ext [] a0.drew.drew) Ac<|Ai (p:=Au (AE a6 ((ex.num).toNat) 3) 2) (.inl Z) ap BG Z ((a8 _<|AB.of_ext [] a0.drew.drew).ld (i:=2) BV) Ac<|AU (v:=ap) DS Z au.rn.isSl Ac<|BP ((((p.getD (ex.num).toNat Fn.zero).outs.length:Nat):Int)-1) Z Z (E1 oM oM) Ac<|AF 80 [] [] [zI ex.pick,zI ((0:Nat):Int),zI ((((p.getD (ex.num).toNat Fn.zero).outs.length:Nat):Int)-1)] Z Z JH Ac (.bool (decide (((0:Nat):Int)≤ex.pick) && decide (ex.pick≤((((p.getD (ex.num).toNat Fn.zero).outs.length:Nat):Int)-1)))) (fun wq=>BS wq _ _ _ a5.rng.pick oM oM) ?_
   refine BF (!(decide (((0:Nat):Int)≤ex.pick) && decide (ex.pick≤((((p.getD (ex.num).toNat Fn.zero).outs.length:Nat):Int)-1)))) Z Z Ac<|Af 1 Z ?_
   cases b9:(!(decide (((0:Nat):Int)≤ex.pick) && decide (ex.pick≤((((p.getD (ex.num).toNat Fn.zero).outs.length:Nat):Int)-1))))
   ·refine Af 1 Z<|AX (hex.isPtr) Z (Ag (e:=51) Z Z Z)<|AP (p:=ve) 4 Bv Z (a1 _<|AB.of_ext [] a0.drew.drew) (Ag (e:=51) Z Z Z)<|Ai (p:=Au ve 4) (.inl Z) ab BG Z ((a1 _<|AB.of_ext [] a0.drew.drew).ld (i:=4) BV) (Ag (e:=51) Z Z Z)<|AU (v:=ab) DS Z a5.rn.isSl (Ag (e:=51) Z Z Z)<|Af 1 Z ?_
    refine AX (RN.isPtr<|RN.ptr (AR dp) (by decide) Fn.zero a9 sD) Z (Ag (e:=51) Z Z Z)<|AP (p:=AE a6 ((ex.num).toNat) 3) 1 CZ Z (a8 _<|AB.of_ext [] a0.drew.drew) (Ag (e:=51) Z Z Z)<|Ai (p:=Au (AE a6 ((ex.num).toNat) 3) 1) (.inl Z) (zI<|(p.getD ((ex.num).toNat) Fn.zero).params) AG Z ((a8 _<|AB.of_ext [] a0.drew.drew).ld (i:=1) BV) (Ag (e:=51) Z Z Z) ?_
    by_cases b1:(ex.kids.length:Int)≠(p.getD ((ex.num).toNat) Fn.zero).params
    ·exact Be true Z Z (A7 b1) (Ag (e:=51) Z Z Z)<|Ae 1 Z<|Ah Z<|fR Z<|A3<|At<|At<|Al [8] Z (.bool false) Z ⟨Dr,a0.drew.drew⟩
    refine Be false Z Z (A8 b1) (Ag (e:=51) Z Z Z)<|Ae 1 Z<|Ak Z<|A4<|A0<|fQ [0,0,0,2,0] Z<|Af 1 Z<|AX (hex.isPtr) Z Ac<|AP (p:=ve) 0 Bz Z (a1 _<|AB.of_ext [] a0.drew.drew) Ac<|Ai (p:=Au ve 0) (.inr Z) (zI ex.kind) AG Z ((a1 _<|AB.of_ext [] a0.drew.drew).ld (i:=0) BV) Ac ?_
    by_cases ac:ex.kind=((10:Nat):Int)
    ·refine Av true Z Z (A7 ac) Ac<|Aj<|Ah Z<|fQ [0,0,0,2,0,0] Z<|Af 1 Z<|AX (hex.isPtr) Z Ac<|AP (p:=ve) 3 E6 Z (a1 _<|AB.of_ext [] a0.drew.drew) Ac<|Ai (p:=Au ve 3) (.inr Z) (zI ex.count) AG Z ((a1 _<|AB.of_ext [] a0.drew.drew).ld (i:=3) BV) Ac<|Av (decide (ex.count=((0:Nat):Int))) Z Z Z Ac<|Ae 1 Z<|A3<|At<|At ?_
     exact Al [8] Z (.bool<|decide (ex.count=((0:Nat):Int))) Z ⟨Dr,a0.drew.drew⟩
    refine Av false Z Z (A8 ac) Ac<|Aj<|Ak Z<|A4<|A0<|B7 _ [0,0,0,1,0,0,0,0,0,1,0,0,0,0,1,0,0,0] mixed (by kernel_rfl)<|Af 1 Z<|AX (hex.isPtr) Z Ac<|AP (p:=ve) 3 E6 Z (a1 _<|AB.of_ext [] a0.drew.drew.drew) Ac<|Ai (p:=Au ve 3) (.inl Z) (zI ex.count) AG Z ((a1 _<|AB.of_ext [] a0.drew.drew.drew).ld (i:=3) BV) Ac<|AF 80 [] [] [zI ex.count,zI ((0:Nat):Int),zI ((8:Nat):Int)] Z Z JH Ac (.bool (decide (((0:Nat):Int)≤ex.count) && decide (ex.count≤((8:Nat):Int)))) (fun wq=>BS wq _ _ _ a5.rng.count oM oM)<|Af 1 Z ?_
    cases b5:(decide (((0:Nat):Int)≤ex.count) && decide (ex.count≤((8:Nat):Int)))
    ·exact Ae 12 Z<|A3<|At<|Al [8] Z (.bool false) Z ⟨Dr,a0.drew.drew.drew⟩
    refine Af 1 Z<|AX (RN.isPtr<|RN.ptr (AR dp) (by decide) Fn.zero a9 sD) Z (Ag (e:=78) Z Z Z)<|AP (p:=AE a6 ((ex.num).toNat) 3) 2 Cv Z (a8 _<|AB.of_ext [] a0.drew.drew.drew) (Ag (e:=78) Z Z Z)<|Ai (p:=Au (AE a6 ((ex.num).toNat) 3) 2) (.inl Z) ap BG Z ((a8 _<|AB.of_ext [] a0.drew.drew.drew).ld (i:=2) BV) (Ag (e:=78) Z Z Z) ?_
    refine AU (v:=ap) DS Z au.rn.isSl (Ag (e:=78) Z Z Z)<|Af 1 Z<|AX (RN.isPtr<|RN.ptr (AR dp) (by decide) Fn.zero a9 sD) Z (Ag (e:=78) Z Z Z)<|AP (p:=AE a6 ((ex.num).toNat) 3) 1 CZ Z (a8 _<|AB.of_ext [] a0.drew.drew.drew) (Ag (e:=78) Z Z Z) ?_
    refine Ai (p:=Au (AE a6 ((ex.num).toNat) 3) 1) (.inl Z) (zI<|(p.getD ((ex.num).toNat) Fn.zero).params) AG Z ((a8 _<|AB.of_ext [] a0.drew.drew.drew).ld (i:=1) BV) (Ag (e:=78) Z Z Z)<|Av (decide (((((p.getD ((ex.num).toNat) Fn.zero).outs).length:Nat):Int)=(p.getD ((ex.num).toNat) Fn.zero).params)) Z Z Z (Ag (e:=78) Z Z Z)<|Ae 2 Z<|A3<|At ?_
    exact Al [8] Z (.bool<|decide (((((p.getD ((ex.num).toNat) Fn.zero).outs).length:Nat):Int)=(p.getD ((ex.num).toNat) Fn.zero).params)) Z ⟨Dr,a0.drew.drew.drew⟩
   exact Ae 11 Z<|Ah Z<|fR Z<|A3<|At<|At<|Al [8] Z (.bool false) Z ⟨Dr,a0.drew.drew⟩
  exact Ah (by first|rfl|exact zW az)<|fR Z<|A3<|At<|At<|Al [8] Z (.bool false) Z ⟨Dr,a0⟩
 refine Av false Z Z (A8 ay) Ac<|Af 2 Z<|AX (hex.isPtr) Z (Ag (e:=15) Z Z Z)<|AP (p:=ve) 0 Bz Z (a1 _<|AB.of_ext [] a0) (Ag (e:=15) Z Z Z)<|Ai (p:=Au ve 0) (.inr Z) (zI ex.kind) AG Z ((a1 _<|AB.of_ext [] a0).ld (i:=0) BV) (Ag (e:=15) Z Z Z) ?_
 by_cases ad:ex.kind=((11:Nat):Int)
 ·refine Av true Z Z (A7 ad) (Ag (e:=15) Z Z Z)<|Ae 1 Z<|Ah Z<|A0<|fQ [0,0,0,2,0,0,0,0] Z<|Af 1 Z<|AX (hex.isPtr) Z Ac<|AP (p:=ve) 1 Cc Z (a1 _<|AB.of_ext [] a0) Ac<|Ai (p:=Au ve 1) (.inr Z) (zI ex.num) AG Z ((a1 _<|AB.of_ext [] a0).ld (i:=1) BV) Ac<|Af 1 Z<|BP (funcs-1) Z Z (E1 oM oM) Ac<|AF 80 [] [] [zI ex.num,zI ((0:Nat):Int),zI (funcs-1)] Z Z JH Ac (.bool (decide (((0:Nat):Int)≤ex.num) && decide (ex.num≤(funcs-1)))) (fun wq=>BS wq _ _ _ a5.rng.num oM oM) ?_
  refine BF (!(decide (((0:Nat):Int)≤ex.num) && decide (ex.num≤(funcs-1)))) Z Z Ac<|Aj ?_
  cases ae:(!(decide (((0:Nat):Int)≤ex.num) && decide (ex.num≤(funcs-1))))
  ·refine Ak (by first|rfl|exact zW ae)<|A4<|A0<|B7 _ [0,0,0,1,0,0,0,1,0,0] mixed (by kernel_rfl) ?_
   have hnr:=HV (Gl (by assumption):(decide (((0:Nat):Int)≤ex.num) && decide (ex.num≤funcs-1))=true)
   refine Af 1 Z<|AX (hp.isPtr) Z Ac ?_
   obtain⟨cs16,aw,af⟩:=RN.at (B6 _) hp
   obtain⟨a2,rfl,a4⟩:=RPr.of aw
   have ag:=a4.lenle
   unfold maxLen at ag
   refine AP (p:=vp) 0 C8 Z (af _<|AB.of_ext [] a0.drew) Ac<|Ai (p:=Au vp 0) (.inl Z) a2 CO Z ((af _<|AB.of_ext [] a0.drew).ld (i:=0) BV) Ac<|Af 1 Z<|AX (hex.isPtr) Z Ac<|AP (p:=ve) 1 Cc Z (a1 _<|AB.of_ext [] a0.drew) Ac<|Ai (p:=Au ve 1) (.inl Z) (zI ex.num) AG Z ((a1 _<|AB.of_ext [] a0.drew).ld (i:=1) BV) Ac ?_
   refine AH (v:=a2) ((ex.num).toNat) Im DJ Z Z a4.isSl oM sD Ac<|Ae 1 Z<|A0<|A0<|B7 _ [0,0,0,1,0,0,0,1,0,0,0,0,0,0,0,0,1,0,0,0,0,1,0,0] mixed (by kernel_rfl)<|Af 1 Z<|AX (hex.isPtr) Z Ac<|AP (p:=ve) 2 Et Z (a1 _<|AB.of_ext [] a0.drew.drew) Ac ?_
   refine Ai (p:=Au ve 2) (.inl Z) (zI ex.pick) AG Z ((a1 _<|AB.of_ext [] a0.drew.drew).ld (i:=2) BV) Ac<|Af 1 Z<|AX (RN.isPtr<|RN.ptr (AR dp) (by decide) Fn.zero a4 sD) Z Ac ?_
   obtain⟨cs17,ax,a3⟩:=a4.get (AR dp) Fn.zero (k:=(ex.num).toNat) sD
   obtain⟨a7,rfl,aa⟩:=RF.of ax
   have ah:=aa.rn.lenle
   unfold maxLen at ah
   refine AP (p:=AE a2 ((ex.num).toNat) 3) 2 Cv Z (a3 _<|AB.of_ext [] a0.drew.drew) Ac<|Ai (p:=Au (AE a2 ((ex.num).toNat) 3) 2) (.inl Z) a7 BG Z ((a3 _<|AB.of_ext [] a0.drew.drew).ld (i:=2) BV) Ac<|AU (v:=a7) DS Z aa.rn.isSl Ac<|BP ((((p.getD (ex.num).toNat Fn.zero).outs.length:Nat):Int)-1) Z Z (E1 oM oM) Ac<|AF 80 [] [] [zI ex.pick,zI ((0:Nat):Int),zI ((((p.getD (ex.num).toNat Fn.zero).outs.length:Nat):Int)-1)] Z Z JH Ac (.bool (decide (((0:Nat):Int)≤ex.pick) && decide (ex.pick≤((((p.getD (ex.num).toNat Fn.zero).outs.length:Nat):Int)-1)))) (fun wq=>BS wq _ _ _ a5.rng.pick oM oM) ?_
   refine BF (!(decide (((0:Nat):Int)≤ex.pick) && decide (ex.pick≤((((p.getD (ex.num).toNat Fn.zero).outs.length:Nat):Int)-1)))) Z Z Ac<|Af 1 Z ?_
   cases b6:(!(decide (((0:Nat):Int)≤ex.pick) && decide (ex.pick≤((((p.getD (ex.num).toNat Fn.zero).outs.length:Nat):Int)-1))))
   ·refine Af 1 Z<|AX (hex.isPtr) Z (Ag (e:=51) Z Z Z)<|AP (p:=ve) 4 Bv Z (a1 _<|AB.of_ext [] a0.drew.drew) (Ag (e:=51) Z Z Z)<|Ai (p:=Au ve 4) (.inl Z) ab BG Z ((a1 _<|AB.of_ext [] a0.drew.drew).ld (i:=4) BV) (Ag (e:=51) Z Z Z)<|AU (v:=ab) DS Z a5.rn.isSl (Ag (e:=51) Z Z Z)<|Af 1 Z ?_
    refine AX (RN.isPtr<|RN.ptr (AR dp) (by decide) Fn.zero a4 sD) Z (Ag (e:=51) Z Z Z)<|AP (p:=AE a2 ((ex.num).toNat) 3) 1 CZ Z (a3 _<|AB.of_ext [] a0.drew.drew) (Ag (e:=51) Z Z Z)<|Ai (p:=Au (AE a2 ((ex.num).toNat) 3) 1) (.inl Z) (zI<|(p.getD ((ex.num).toNat) Fn.zero).params) AG Z ((a3 _<|AB.of_ext [] a0.drew.drew).ld (i:=1) BV) (Ag (e:=51) Z Z Z) ?_
    by_cases ai:(ex.kids.length:Int)≠(p.getD ((ex.num).toNat) Fn.zero).params
    ·exact Be true Z Z (A7 ai) (Ag (e:=51) Z Z Z)<|Ae 1 Z<|Ah Z<|fR Z<|A3<|At<|At<|Al [8] Z (.bool false) Z ⟨Dr,a0.drew.drew⟩
    refine Be false Z Z (A8 ai) (Ag (e:=51) Z Z Z)<|Ae 1 Z<|Ak Z<|A4<|A0<|fQ [0,0,0,2,0] Z<|Af 1 Z<|AX (hex.isPtr) Z Ac<|AP (p:=ve) 0 Bz Z (a1 _<|AB.of_ext [] a0.drew.drew) Ac<|Ai (p:=Au ve 0) (.inr Z) (zI ex.kind) AG Z ((a1 _<|AB.of_ext [] a0.drew.drew).ld (i:=0) BV) Ac ?_
    by_cases aj:ex.kind=((10:Nat):Int)
    ·refine Av true Z Z (A7 aj) Ac<|Aj<|Ah Z<|fQ [0,0,0,2,0,0] Z<|Af 1 Z<|AX (hex.isPtr) Z Ac<|AP (p:=ve) 3 E6 Z (a1 _<|AB.of_ext [] a0.drew.drew) Ac<|Ai (p:=Au ve 3) (.inr Z) (zI ex.count) AG Z ((a1 _<|AB.of_ext [] a0.drew.drew).ld (i:=3) BV) Ac<|Av (decide (ex.count=((0:Nat):Int))) Z Z Z Ac<|Ae 1 Z<|A3<|At<|At ?_
     exact Al [8] Z (.bool<|decide (ex.count=((0:Nat):Int))) Z ⟨Dr,a0.drew.drew⟩
    refine Av false Z Z (A8 aj) Ac<|Aj<|Ak Z<|A4<|A0<|B7 _ [0,0,0,1,0,0,0,0,0,1,0,0,0,0,1,0,0,0] mixed (by kernel_rfl)<|Af 1 Z<|AX (hex.isPtr) Z Ac<|AP (p:=ve) 3 E6 Z (a1 _<|AB.of_ext [] a0.drew.drew.drew) Ac<|Ai (p:=Au ve 3) (.inl Z) (zI ex.count) AG Z ((a1 _<|AB.of_ext [] a0.drew.drew.drew).ld (i:=3) BV) Ac<|AF 80 [] [] [zI ex.count,zI ((0:Nat):Int),zI ((8:Nat):Int)] Z Z JH Ac (.bool (decide (((0:Nat):Int)≤ex.count) && decide (ex.count≤((8:Nat):Int)))) (fun wq=>BS wq _ _ _ a5.rng.count oM oM)<|Af 1 Z ?_
    cases b7:(decide (((0:Nat):Int)≤ex.count) && decide (ex.count≤((8:Nat):Int)))
    ·exact Ae 12 Z<|A3<|At<|Al [8] Z (.bool false) Z ⟨Dr,a0.drew.drew.drew⟩
    refine Af 1 Z<|AX (RN.isPtr<|RN.ptr (AR dp) (by decide) Fn.zero a4 sD) Z (Ag (e:=78) Z Z Z)<|AP (p:=AE a2 ((ex.num).toNat) 3) 2 Cv Z (a3 _<|AB.of_ext [] a0.drew.drew.drew) (Ag (e:=78) Z Z Z)<|Ai (p:=Au (AE a2 ((ex.num).toNat) 3) 2) (.inl Z) a7 BG Z ((a3 _<|AB.of_ext [] a0.drew.drew.drew).ld (i:=2) BV) (Ag (e:=78) Z Z Z) ?_
    refine AU (v:=a7) DS Z aa.rn.isSl (Ag (e:=78) Z Z Z)<|Af 1 Z<|AX (RN.isPtr<|RN.ptr (AR dp) (by decide) Fn.zero a4 sD) Z (Ag (e:=78) Z Z Z)<|AP (p:=AE a2 ((ex.num).toNat) 3) 1 CZ Z (a3 _<|AB.of_ext [] a0.drew.drew.drew) (Ag (e:=78) Z Z Z) ?_
    refine Ai (p:=Au (AE a2 ((ex.num).toNat) 3) 1) (.inl Z) (zI<|(p.getD ((ex.num).toNat) Fn.zero).params) AG Z ((a3 _<|AB.of_ext [] a0.drew.drew.drew).ld (i:=1) BV) (Ag (e:=78) Z Z Z)<|Av (decide (((((p.getD ((ex.num).toNat) Fn.zero).outs).length:Nat):Int)=(p.getD ((ex.num).toNat) Fn.zero).params)) Z Z Z (Ag (e:=78) Z Z Z)<|Ae 2 Z<|A3<|At ?_
    exact Al [8] Z (.bool<|decide (((((p.getD ((ex.num).toNat) Fn.zero).outs).length:Nat):Int)=(p.getD ((ex.num).toNat) Fn.zero).params)) Z ⟨Dr,a0.drew.drew.drew⟩
   exact Ae 11 Z<|Ah Z<|fR Z<|A3<|At<|At<|Al [8] Z (.bool false) Z ⟨Dr,a0.drew.drew⟩
  exact Ah (by first|rfl|exact zW ae)<|fR Z<|A3<|At<|At<|Al [8] Z (.bool false) Z ⟨Dr,a0⟩
 refine Av false Z Z (A8 ad) (Ag (e:=15) Z Z Z)<|Ae 1 Z<|Ak Z<|A4<|A0<|A0<|B7 _ [0,0,0,1,0,0,0,0,1,0,0,0,0,0,0,1,0,0,0,0,0,0,1,0,0] mixed (by kernel_rfl)<|Af 1 Z<|AX (hex.isPtr) Z Ac<|AP (p:=ve) 0 Bz Z (a1 _<|AB.of_ext [] a0.drew) Ac<|Ai (p:=Au ve 0) (.inl Z) (zI ex.kind) AG Z ((a1 _<|AB.of_ext [] a0.drew).ld (i:=0) BV) Ac<|AF 165 [] [] [zI ex.kind] Z Z XK Ac (zI<|S3 ex.kind) (fun wq=>LM wq _ a5.rng.kind)<|Af 1 Z<|AX (hex.isPtr) Z Ac<|AP (p:=ve) 4 Bv Z (a1 _<|AB.of_ext [] a0.drew) Ac ?_
 refine Ai (p:=Au ve 4) (.inl Z) ab BG Z ((a1 _<|AB.of_ext [] a0.drew).ld (i:=4) BV) Ac<|AU (v:=ab) DS Z a5.rn.isSl Ac ?_
 by_cases ak:S3 ex.kind≠(ex.kids.length:Int)
 ·exact Be true Z Z (A7 ak) Ac<|Ae 14 Z<|Ah Z<|fR Z<|A3<|At<|Al [8] Z (.bool false) Z ⟨Dr,a0.drew⟩
 refine Be false Z Z (A8 ak) Ac<|Af 2 Z<|AX (hex.isPtr) Z (Ag (e:=101) Z Z Z)<|AP (p:=ve) 2 Et Z (a1 _<|AB.of_ext [] a0.drew) (Ag (e:=101) Z Z Z)<|Ai (p:=Au ve 2) (.inl Z) (zI ex.pick) AG Z ((a1 _<|AB.of_ext [] a0.drew).ld (i:=2) BV) (Ag (e:=101) Z Z Z) ?_
 by_cases al:ex.pick≠((0:Nat):Int)
 ·exact Be true Z Z (A7 al) (Ag (e:=101) Z Z Z)<|Ae 8 Z<|Ah Z<|fR Z<|A3<|At<|Al [8] Z (.bool false) Z ⟨Dr,a0.drew⟩
 refine Be false Z Z (A8 al) (Ag (e:=101) Z Z Z)<|Af 3 Z<|AX (hex.isPtr) Z (Ag (e:=108) Z Z Z)<|AP (p:=ve) 3 E6 Z (a1 _<|AB.of_ext [] a0.drew) (Ag (e:=108) Z Z Z)<|Ai (p:=Au ve 3) (.inl Z) (zI ex.count) AG Z ((a1 _<|AB.of_ext [] a0.drew).ld (i:=3) BV) (Ag (e:=108) Z Z Z) ?_
 by_cases am:ex.count≠((0:Nat):Int)
 ·exact Be true Z Z (A7 am) (Ag (e:=108) Z Z Z)<|Ae 1 Z<|Ah Z<|fR Z<|A3<|At<|Al [8] Z (.bool false) Z ⟨Dr,a0.drew⟩
 refine Be false Z Z (A8 am) (Ag (e:=108) Z Z Z)<|Ae 1 Z<|Ak Z<|A4<|A0<|fQ [0,0,0,2] Z<|Af 1 Z<|AX (hex.isPtr) Z Ac<|AP (p:=ve) 0 Bz Z (a1 _<|AB.of_ext [] a0.drew) Ac<|Ai (p:=Au ve 0) (.inr Z) (zI ex.kind) AG Z ((a1 _<|AB.of_ext [] a0.drew).ld (i:=0) BV) Ac<|Aj<|A5<|fQ [0,0] Z ?_
 by_cases an:ex.kind=((1:Nat):Int)
 ·refine Av true Z Z (A7 an) Ac<|Ae 1 Z<|Ah Z<|fQ [0,0,0,2,0,0] Z<|Af 1 Z<|AX (hex.isPtr) Z Ac<|AP (p:=ve) 1 Cc Z (a1 _<|AB.of_ext [] a0.drew) Ac<|Ai (p:=Au ve 1) (.inr Z) (zI ex.num) AG Z ((a1 _<|AB.of_ext [] a0.drew).ld (i:=1) BV) Ac<|AF 168 [] [] [zI ex.num] Z Z XL Ac (.bool<|Hq ex.num) (fun wq=>GN wq _ a5.rng.num)<|Ae 1 Z<|A3<|AM<|At ?_
  exact Al [8] Z (.bool<|Hq ex.num) Z ⟨Dr,a0.drew⟩
 refine Av false Z Z (A8 an) Ac<|Ae 1 Z<|Ak Z<|fQ [0,0] Z ?_
 by_cases ao:ex.kind=((2:Nat):Int)
 ·refine Av true Z Z (A7 ao) Ac<|Ae 1 Z<|Ah Z<|fQ [0,0,0,2,0,0,0,0] Z<|Af 1 Z<|AX (hex.isPtr) Z Ac<|AP (p:=ve) 1 Cc Z (a1 _<|AB.of_ext [] a0.drew) Ac<|Ai (p:=Au ve 1) (.inr Z) (zI ex.num) AG Z ((a1 _<|AB.of_ext [] a0.drew).ld (i:=1) BV) Ac<|Af 1 Z<|BP (vars-1) Z Z (E1 oM oM) Ac<|AF 80 [] [] [zI ex.num,zI ((0:Nat):Int),zI (vars-1)] Z Z JH Ac (.bool (decide (((0:Nat):Int)≤ex.num) && decide (ex.num≤(vars-1)))) (fun wq=>BS wq _ _ _ a5.rng.num oM oM)<|Ae 1 Z<|A3<|AM<|At ?_
  exact Al [8] Z (.bool (decide (((0:Nat):Int)≤ex.num) && decide (ex.num≤(vars-1)))) Z ⟨Dr,a0.drew⟩
 refine Av false Z Z (A8 ao) Ac<|Ae 1 Z<|Ak Z<|A4<|fQ [0,0,0,2,0,0] Z<|Af 1 Z<|AX (hex.isPtr) Z Ac<|AP (p:=ve) 1 Cc Z (a1 _<|AB.of_ext [] a0.drew) Ac<|Ai (p:=Au ve 1) (.inr Z) (zI ex.num) AG Z ((a1 _<|AB.of_ext [] a0.drew).ld (i:=1) BV) Ac<|Av (decide (ex.num=((0:Nat):Int))) Z Z Z Ac<|Ae 1 Z<|A3 ?_
 exact Al [8] Z (.bool<|decide (ex.num=((0:Nat):Int))) Z ⟨Dr,a0.drew⟩
theorem LO {p:Prop}(h:p:=by first|exact AQ (SI (Io (by assumption)))|exact AQ (Nk (Gl (by assumption)) fun j hj=>hall j oM)|exact AQ (SJ (k:=k) oM (by first|(rw[if_pos oM])|(rw[if_neg oM])) (Io (by assumption)))):p:=h
theorem Q9 {p:Prop}(h:p:=by intro j hj;by_cases e9:j=k;(rw[e9];first|(rw[if_pos oM];exact Gl (by assumption))|(rw[if_neg oM];exact Gl (by assumption)));exact hall j oM):p:=h
theorem LP (w:World)(dp:Nat)(vp:Value)(p:List Fn)(dex:Nat)(ve:Value)(ex:Ex)(vars:Int)(funcs:Int)(hp:RN [] (rP (KH dp)) w.heap vp p)(hex:RN [] (rP (Nf dex)) w.heap ve ex)(_hvars:Bd vars)(_hfuncs:Bd funcs)(hs:0≤vars∧vars+(ex.deep:Int)≤2000000000)(hf:0≤funcs∧funcs≤(p.length:Int)) :
  Calls Tryz.prog 230 #[vp,ve,zI vars,zI funcs] w (fun e w'=>e=.returned (.bool (wf p funcs ex vars))∧AD w w'):=by
 induction dex using Nat.strongRecOn generalizing w dp vp p ve ex vars funcs
 rename_i dex ih
 refine Aw [vp,ve,zI vars,zI funcs] 49 Tryz.func230 Z Z sM ?_
 have aa:AD w w:=AD.refl w
 have hdk:=EF ex
 refine fR Z<|A0<|fQ [0,0,0,0,3,0] Z<|Af 4 Z<|Ay 249 [] [] [vp,ve,zI vars,zI funcs] Z Z dG Ac (LN _ dp vp (p) dex ve (ex) _ _ (hp.ext (Bi<|B6 dp) aa) (hex.ext (Bi<|AL dex) aa) _hvars _hfuncs oM oM) ?_
 rintro e1 w1 ⟨rfl,ab⟩
 refine⟨_,rfl,ab,?_⟩
 have ac:=ab.size
 have ad:=aa.trans ab
 refine BF (!(H5 p funcs vars ex)) Z Z Ac<|Aj ?_
 cases ag:(!(H5 p funcs vars ex))
 ·refine Ak (by first|rfl|exact zW ag)<|A4<|A0<|fR Z<|A5 ?_
  refine B8 (S:=Nat) (fun k=>([(9,zI (k:Int)),(0,vp),(1,ve),(2,zI vars),(3,zI funcs)])) (fun k W=>AD w W∧k≤ex.kids.length∧(∀j,j<k→wf p funcs (ex.kids.getD j Ex.zero) (if ex.kind=9∧j=1 then vars+1 else vars)=true)) (fun k=>ex.kids.length-k) 0 ⟨rfl,rfl,rfl,rfl,rfl,trivial⟩ ⟨ad,sD,(by intro j hj;omega)⟩ ?_
  clear aa ab ac ad
  rintro k ρ3 w3 ⟨a0,ah,hall⟩
  have ap:w.heap.size≤w3.heap.size:=a0.size
  refine A0<|fQ [0,0,0,0,2,0,0] Z<|Af 2 Z<|AX (hex.isPtr) Z Ac ?_
  obtain⟨cs4,aq,a2⟩:=RN.at (AL _) hex
  obtain⟨dd4,a1,au,rfl,a3⟩:=RX.of aq
  have ae:=a3.rn.lenle
  unfold maxLen at ae
  refine AP (p:=ve) 4 Bv Z (a2 _<|AB.of_ext [] a0) Ac<|Ai (p:=Au ve 4) (.inr Z) a1 BG Z ((a2 _<|AB.of_ext [] a0).ld (i:=4) (by simp[Ge,Gf])) Ac<|AU (v:=a1) DS Z a3.rn.isSl Ac ?_
  by_cases ai:(k:Int)<(ex.kids.length:Int)
  ·refine AJ true Z Z (A7 ai) Ac<|Aj<|Ah Z<|A4<|A0<|A5<|fQ [0,0] Z ?_
   have hkd:=ET (l:=ex.kids) (k:=k) oM
   refine Ae 2 Z<|A0<|fQ [0,0,0,2,0,0,0,0,0] Z<|Af 1 Z<|AX (hex.isPtr) Z Ac<|AP (p:=ve) 0 Bz Z (a2 _<|AB.of_ext [] a0) Ac<|Ai (p:=Au ve 0) (.inr Z) (zI ex.kind) AG Z ((a2 _<|AB.of_ext [] a0).ld (i:=0) (by simp[Ge,Gf])) Ac ?_
   by_cases aj:ex.kind=((9:Nat):Int)
   ·refine Av true Z Z (A7 aj) Ac<|Af 2 Z ?_
    by_cases ak:(k:Int)=((1:Nat):Int)
    ·refine Av true Z Z (A7 ak) (Ag (e:=32) Z Z Z)<|Ae 1 Z<|Ah Z<|Ad _ [0,0,0] Z<|Af 1 Z<|AS (vars+1) Z Z (E1 oM oM) Ac<|Ae 1 Z<|fQ [0,0,0,0,2,0,0,0,0,3,0] Z<|Af 2 Z<|AX (hex.isPtr) Z Ac<|AP (p:=ve) 4 Bv Z (a2 _<|AB.of_ext [] a0) Ac<|Ai (p:=Au ve 4) (.inr Z) a1 BG Z ((a2 _<|AB.of_ext [] a0).ld (i:=4) (by simp[Ge,Gf])) Ac<|Af 1 Z ?_
     refine AH (v:=a1) k DS BM Z Z a3.rn.isSl Z sD Ac<|Af 2 Z ?_
     refine Ay 230 [] [] [vp,AE a1 k 5,zI (vars+1),zI funcs] Z Z Rr Ac (ih dd4 oM _ dp vp (p) (AE a1 k 5) (ex.kids.getD k Ex.zero) _ _ (hp.ext (Bi<|B6 dp) a0) (RN.ptr (AL dd4) (by decide) Ex.zero (a3.rn.ext (Aq<|AL dd4) a0) sD) oM _hfuncs oM oM) ?_
     rintro e8 w8 ⟨rfl,af⟩
     refine⟨_,rfl,af,?_⟩
     have ar:=af.size
     have al:=a0.trans af
     refine BF (!(wf p funcs (ex.kids.getD k Ex.zero) (vars+1))) Z Z Ac<|Aj ?_
     cases am:(!(wf p funcs (ex.kids.getD k Ex.zero) (vars+1)))
     ·refine Ak (by first|rfl|exact zW am)<|A4<|Ad _ [0,0,0] Z<|Af 1 Z<|AS ((k+1:Nat):Int) Z Z (Bg oM sD) Ac<|Ae 1 Z ?_
      exact⟨k+1,_,rfl,zR,⟨al,sD,Q9⟩,zD⟩
     exact Ah (by first|rfl|exact zW am)<|fR Z<|A3<|AM<|At<|At<|AM<|At<|Al [8] Z (.bool false) Z ⟨LO,al⟩
    refine Av false Z Z (A8 ak) (Ag (e:=32) Z Z Z)<|Ae 1 Z<|Ak Z<|A4<|fQ [0,0,0,0,2,0,0,0,0,3,0] Z<|Af 2 Z<|AX (hex.isPtr) Z Ac<|AP (p:=ve) 4 Bv Z (a2 _<|AB.of_ext [] a0) Ac<|Ai (p:=Au ve 4) (.inr Z) a1 BG Z ((a2 _<|AB.of_ext [] a0).ld (i:=4) (by simp[Ge,Gf])) Ac<|Af 1 Z ?_
    refine AH (v:=a1) k DS BM Z Z a3.rn.isSl Z sD Ac<|Af 2 Z ?_
    refine Ay 230 [] [] [vp,AE a1 k 5,zI vars,zI funcs] Z Z Rr Ac (ih dd4 oM _ dp vp (p) (AE a1 k 5) (ex.kids.getD k Ex.zero) _ _ (hp.ext (Bi<|B6 dp) a0) (RN.ptr (AL dd4) (by decide) Ex.zero (a3.rn.ext (Aq<|AL dd4) a0) sD) _hvars _hfuncs oM oM) ?_
    rintro av aw ⟨rfl,a4⟩
    refine⟨_,rfl,a4,?_⟩
    have an:=a4.size
    have a6:=a0.trans a4
    refine BF (!(wf p funcs (ex.kids.getD k Ex.zero) vars)) Z Z Ac<|Aj ?_
    cases a7:(!(wf p funcs (ex.kids.getD k Ex.zero) vars))
    ·refine Ak (by first|rfl|exact zW a7)<|A4<|Ad _ [0,0,0] Z<|Af 1 Z<|AS ((k+1:Nat):Int) Z Z (Bg oM sD) Ac<|Ae 1 Z ?_
     exact⟨k+1,_,rfl,zR,⟨a6,sD,Q9⟩,zD⟩
    exact Ah (by first|rfl|exact zW a7)<|fR Z<|A3<|AM<|At<|At<|AM<|At<|Al [8] Z (.bool false) Z ⟨LO,a6⟩
   refine Av false Z Z (A8 aj) Ac<|Ae 4 Z<|Ak Z<|A4<|fQ [0,0,0,0,2,0,0,0,0,3,0] Z<|Af 2 Z<|AX (hex.isPtr) Z Ac<|AP (p:=ve) 4 Bv Z (a2 _<|AB.of_ext [] a0) Ac<|Ai (p:=Au ve 4) (.inr Z) a1 BG Z ((a2 _<|AB.of_ext [] a0).ld (i:=4) (by simp[Ge,Gf])) Ac<|Af 1 Z ?_
   refine AH (v:=a1) k DS BM Z Z a3.rn.isSl Z sD Ac<|Af 2 Z ?_
   refine Ay 230 [] [] [vp,AE a1 k 5,zI vars,zI funcs] Z Z Rr Ac (ih dd4 oM _ dp vp (p) (AE a1 k 5) (ex.kids.getD k Ex.zero) _ _ (hp.ext (Bi<|B6 dp) a0) (RN.ptr (AL dd4) (by decide) Ex.zero (a3.rn.ext (Aq<|AL dd4) a0) sD) _hvars _hfuncs oM oM) ?_
   rintro ax ay ⟨rfl,a5⟩
   refine⟨_,rfl,a5,?_⟩
   have ao:=a5.size
   have a8:=a0.trans a5
   refine BF (!(wf p funcs (ex.kids.getD k Ex.zero) vars)) Z Z Ac<|Aj ?_
   cases a9:(!(wf p funcs (ex.kids.getD k Ex.zero) vars))
   ·refine Ak (by first|rfl|exact zW a9)<|A4<|Ad _ [0,0,0] Z<|Af 1 Z<|AS ((k+1:Nat):Int) Z Z (Bg oM sD) Ac<|Ae 1 Z ?_
    exact⟨k+1,_,rfl,zR,⟨a8,sD,Q9⟩,zD⟩
   exact Ah (by first|rfl|exact zW a9)<|fR Z<|A3<|AM<|At<|At<|AM<|At<|Al [8] Z (.bool false) Z ⟨LO,a8⟩
  exact AJ false Z Z (A8 ai) Ac<|Aj<|Ak Z<|A6<|AA<|AA<|Ax<|fR Z<|A3<|Al [8] Z (.bool true) Z ⟨LO,a0⟩
 exact Ah (by first|rfl|exact zW ag)<|fR Z<|A3<|At<|Al [8] Z (.bool false) Z ⟨LO,ad⟩
theorem LQ (w:World)(vars:Int)(_hvars:Bd vars)  :
  Calls Tryz.prog 228 #[zI vars] w (fun e w'=>e=.returned (.bool (HB vars 0 412))∧w'=w):=by
 refine Aw [zI vars] 5 Tryz.func228 Z Z sM ?_
 have a0:w=w:=rfl
 exact fR Z<|fQ [0,0,0] Z<|Af 1 Z<|AF 80 [] [] [zI vars,zI ((0:Nat):Int),zI ((412:Nat):Int)] Z Z JH Ac (.bool (decide (((0:Nat):Int)≤vars) && decide (vars≤((412:Nat):Int)))) (fun wq=>BS wq _ _ _ _hvars oM oM)<|Ae 1 Z<|A3<|Al [2] Z (.bool (decide (((0:Nat):Int)≤vars) && decide (vars≤((412:Nat):Int)))) Z ⟨rfl,a0⟩
theorem LR {p:Prop}(h:p:=by first|exact AQ (XZ (by assumption))|exact AQ (Ry ⟨C6.1 (by assumption),HV (by assumption),zO,zO⟩)|exact AQ ((by assumption:wf p funcs ex vars=true).symm.trans (Ry ⟨C6.1 (by assumption),HV (by assumption),zO,zO⟩))|exact AQ (N5 fun hh=>Ub (by assumption) hh.1)|exact AQ (N5 fun hh=>Pc (by assumption) hh.2.1)|exact AQ (N5 oM)):p:=h
theorem LS (w:World)(dp:Nat)(vp:Value)(p:List Fn)(dex:Nat)(ve:Value)(ex:Ex)(vars:Int)(funcs:Int)(hp:RN [] (rP (KH dp)) w.heap vp p)(hex:RN [] (rP (Nf dex)) w.heap ve ex)(_hvars:Bd vars)(_hfuncs:Bd funcs)(hs:ex.size≤1000000000) :
  Calls Tryz.prog 189 #[vp,ve,zI vars,zI funcs] w (fun e w'=>e=.returned (.bool (Mk p ex vars funcs))∧AD w w'):=by
 refine Aw [vp,ve,zI vars,zI funcs] 37 Tryz.func189 Z Z sM ?_
 have a1:AD w w:=AD.refl w
 have hlp:=Tn (e:=ex) (x:=((400:Nat):Int)) oM
 refine fR Z<|fQ [0,0,0,0,0,0,0,2,0,0,0,0,0,3,0,0,0,0,3,0,0,0,0,0,0,0,3,0,0] Z<|Af 1 Z<|AF 228 [] [] [zI vars] Z Z dC Ac (.bool<|HB vars 0 412) (fun wq=>LQ wq _ _hvars)<|Af 1 Z ?_
 cases ah:(HB vars 0 412)
 ·exact Ae 26 Z<|A3<|Al [8] Z (.bool false) Z ⟨LR,a1⟩
 refine Af 2 Z<|AX (hp.isPtr) Z (Ag (e:=11) Z Z Z) ?_
 obtain⟨cs3,ae,a8⟩:=RN.at (B6 _) hp
 obtain⟨a9,rfl,aa⟩:=RPr.of ae
 have a3:=aa.lenle
 unfold maxLen at a3
 refine AP (p:=vp) 0 C8 Z (a8 _<|AB.of_ext [] a1) (Ag (e:=11) Z Z Z)<|Ai (p:=Au vp 0) (.inr Z) a9 CO Z ((a8 _<|AB.of_ext [] a1).ld (i:=0) (by simp[Ge,Gf])) (Ag (e:=11) Z Z Z)<|AU (v:=a9) Im Z aa.isSl (Ag (e:=11) Z Z Z)<|AF 80 [] [] [zI funcs,zI ((0:Nat):Int),zI (p.length:Int)] Z Z JH (Ag (e:=11) Z Z Z) (.bool (decide (((0:Nat):Int)≤funcs) && decide (funcs≤(p.length:Int)))) (fun wq=>BS wq _ _ _ _hfuncs oM oM)<|Af 2 Z ?_
 cases ai:(decide (((0:Nat):Int)≤funcs) && decide (funcs≤(p.length:Int)))
 ·exact Ae 17 Z<|A3<|Al [8] Z (.bool false) Z ⟨LR,a1⟩
 refine Af 1 Z<|Ay 188 [] [] [ve,zI ((400:Nat):Int)] Z Z U0 (Ag (e:=20) Z Z Z) (HX _ dex ve (ex) _ (hex.ext (Bi<|AL dex) a1) oM oM oM) ?_
 rintro e6 w6 ⟨rfl,a4⟩
 refine⟨_,rfl,a4,?_⟩
 have af:=a4.size
 have a5:=a1.trans a4
 by_cases ab:((0:Nat):Int)≤Il ex ((400:Nat):Int)
 ·refine DO true Z Z (A7 ab) (Ag (e:=20) Z Z Z)<|Af 3 Z<|Ay 229 [] [] [ve] Z Z XT (Ag (e:=25) Z Z Z) (KA _ dex ve (ex) (hex.ext (Bi<|AL dex) a5) oM) ?_
  rintro e8 w8 ⟨rfl,a6⟩
  refine⟨_,rfl,a6,?_⟩
  have ag:=a6.size
  have a2:=a5.trans a6
  by_cases ac:(ex.deep:Int)≤((60:Nat):Int)
  ·refine El true Z Z (A7 ac) (Ag (e:=25) Z Z Z)<|Af 6 Z<|Ay 230 [] [] [vp,ve,zI vars,zI funcs] Z Z Rr (Ag (e:=30) Z Z Z) (LP _ dp vp (p) dex ve (ex) _ _ (hp.ext (Bi<|B6 dp) a2) (hex.ext (Bi<|AL dex) a2) _hvars _hfuncs (by have h1:=C6.1 (by assumption:HB vars 0 412=true);omega) (by have h2:=HV (by assumption:(decide (((0:Nat):Int)≤funcs) && decide (funcs≤(p.length:Int)))=true);omega)) ?_
   rintro aj ak ⟨rfl,a0⟩
   refine⟨_,rfl,a0,?_⟩
   have ad:=a0.size
   have a7:=a2.trans a0
   exact Ae 2 Z<|A3<|Al [8] Z (.bool<|wf p funcs ex vars) Z ⟨LR,a7⟩
  exact El false Z Z (A8 ac) (Ag (e:=25) Z Z Z)<|Ae 9 Z<|A3<|Al [8] Z (.bool false) Z ⟨LR,a2⟩
 exact DO false Z Z (A8 ab) (Ag (e:=20) Z Z Z)<|Ae 14 Z<|A3<|Al [8] Z (.bool false) Z ⟨LR,a5⟩
theorem Zt {s:ByteArray}(h:¬(1≤s.size∧s.size≤12)):false=Lj s:=by
  cases hh:Lj s with
  |false=>rfl
  |true=>unfold Lj at hh;simp only[z7,decide_eq_true_eq]at hh;exact absurd hh.1 h
theorem HY {p:Prop}(h:p:=by first|exact AQ (Zt (fun hh=>Pc (Io (by assumption)) ⟨zO,zO⟩))|exact AQ (Q7 (k:=0) oM oM)|exact AQ (Q7 (k:=k) oM oM)|exact AQ (Ua hq oM (by rw[A7 (show 1≤s.size by omega),A7 (show s.size≤12 by omega)];rfl))):p:=h
theorem Qa {p:Prop}(h:p:=by exact Eg hq (Rx (by(by_cases h0:k=0;(rw[h0];left;omega);omega)))):p:=h
theorem Mw (w:World)(s:ByteArray)  (hl:s.size≤1000000000) :
  Calls Tryz.prog 187 #[.string s] w (fun e w'=>e=.returned (.bool (Lj s))∧w'=w):=by
 refine Aw [.string s] 46 Tryz.func187 Z Z sM ?_
 have a1:w=w:=rfl
 refine fR Z<|A0<|fQ [0,0,0,0,0,0,0,0,0,0,0,0,0,0] Z<|Af 1 Z<|L5 (s:=s) u9 Z Ac<|AF 80 [] [] [zI (s.size:Int),zI ((1:Nat):Int),zI ((12:Nat):Int)] Z Z JH Ac (.bool (decide (((1:Nat):Int)≤(s.size:Int)) && decide ((s.size:Int)≤((12:Nat):Int)))) (fun wq=>BS wq _ _ _ oM oM oM)<|BF (!(decide (((1:Nat):Int)≤(s.size:Int)) && decide ((s.size:Int)≤((12:Nat):Int)))) Z Z Ac<|Af 1 Z ?_
 cases ac:(!(decide (((1:Nat):Int)≤(s.size:Int)) && decide ((s.size:Int)≤((12:Nat):Int))))
 ·refine Af 1 Z ?_
  have hsz:=HV (Gl (by assumption):(decide (((1:Nat):Int)≤(s.size:Int)) && decide ((s.size:Int)≤((12:Nat):Int)))=true)
  refine Du (s:=s) 0 u9 Z Z Z sD (Ag (e:=8) Z Z Z) ?_
  by_cases a5:((JO s 0:Nat):Int)<97
  ·exact AJ true Z Z (A7 a5) (Ag (e:=8) Z Z Z)<|Ae 6 Z<|Ah Z<|fR Z<|A3<|At<|Al [2] Z (.bool false) Z ⟨HY,a1⟩
  refine AJ false Z Z (A8 a5) (Ag (e:=8) Z Z Z)<|Af 3 Z<|Du (s:=s) 0 u9 Z Z Z sD (Ag (e:=13) Z Z Z) ?_
  by_cases a6:122<((JO s 0:Nat):Int)
  ·exact C0 true Z Z (A7 a6) (Ag (e:=13) Z Z Z)<|Ae 1 Z<|Ah Z<|fR Z<|A3<|At<|Al [2] Z (.bool false) Z ⟨HY,a1⟩
  refine C0 false Z Z (A8 a6) (Ag (e:=13) Z Z Z)<|Ae 1 Z<|Ak Z<|A4<|A0<|fR Z<|A5<|B8 (S:=Nat) (fun k=>([(3,zI (k:Int)),(0,.string s)])) (fun k W=>W=w∧k≤s.size∧(List.range k).all (Xc s)=true) (fun k=>s.size-k) 0 ⟨rfl,rfl,trivial⟩ ⟨a1,sD,(by rfl)⟩ ?_
  clear a1
  rintro k ρ5 w5 ⟨a0,a7,hq⟩
  refine A0<|fQ [0,0,0,0] Z<|Af 2 Z<|L5 (s:=s) u9 Z Ac ?_
  by_cases a8:(k:Int)<(s.size:Int)
  ·refine AJ true Z Z (A7 a8) Ac<|Aj<|Ah Z<|A4<|A0<|A5<|fQ [0,0,0,0,0,0,0,0,0,0,0,0,0,0,0,0,0,0,0,0,0,0] Z<|Af 2 Z<|Du (s:=s) k u9 Z Z Z sD Ac ?_
   by_cases a9:((JO s k:Nat):Int)<97
   ·refine AJ true Z Z (A7 a9) Ac<|Af 9 Z<|Du (s:=s) k u9 Z Z Z sD (Ag (e:=34) Z Z Z) ?_
    by_cases aa:((JO s k:Nat):Int)<48
    ·exact AJ true Z Z (A7 aa) (Ag (e:=34) Z Z Z)<|Ae 7 Z<|Ah Z<|fR Z<|A3<|AM<|At<|At<|AM<|At<|Al [2] Z (.bool false) Z ⟨HY,a0⟩
    refine AJ false Z Z (A8 aa) (Ag (e:=34) Z Z Z)<|Af 3 Z<|Du (s:=s) k u9 Z Z Z sD (Ag (e:=39) Z Z Z) ?_
    by_cases ab:57<((JO s k:Nat):Int)
    ·exact C0 true Z Z (A7 ab) (Ag (e:=39) Z Z Z)<|Ae 2 Z<|Ah Z<|fR Z<|A3<|AM<|At<|At<|AM<|At<|Al [2] Z (.bool false) Z ⟨HY,a0⟩
    refine C0 false Z Z (A8 ab) (Ag (e:=39) Z Z Z)<|Ae 2 Z<|Ak Z<|A4<|Ad _ [0,0,0] Z<|Af 1 Z<|AS ((k+1:Nat):Int) Z Z (Bg oM sD) Ac<|Ae 1 Z ?_
    exact⟨k+1,_,rfl,⟨rfl,rfl,trivial⟩,⟨a0,sD,Qa⟩,zD⟩
   refine AJ false Z Z (A8 a9) Ac<|Af 3 Z<|Du (s:=s) k u9 Z Z Z sD (Ag (e:=28) Z Z Z) ?_
   by_cases a2:122<((JO s k:Nat):Int)
   ·refine C0 true Z Z (A7 a2) (Ag (e:=28) Z Z Z)<|Af 4 Z<|Du (s:=s) k u9 Z Z Z sD (Ag (e:=34) Z Z Z) ?_
    by_cases a3:((JO s k:Nat):Int)<48
    ·exact AJ true Z Z (A7 a3) (Ag (e:=34) Z Z Z)<|Ae 7 Z<|Ah Z<|fR Z<|A3<|AM<|At<|At<|AM<|At<|Al [2] Z (.bool false) Z ⟨HY,a0⟩
    refine AJ false Z Z (A8 a3) (Ag (e:=34) Z Z Z)<|Af 3 Z<|Du (s:=s) k u9 Z Z Z sD (Ag (e:=39) Z Z Z) ?_
    by_cases a4:57<((JO s k:Nat):Int)
    ·exact C0 true Z Z (A7 a4) (Ag (e:=39) Z Z Z)<|Ae 2 Z<|Ah Z<|fR Z<|A3<|AM<|At<|At<|AM<|At<|Al [2] Z (.bool false) Z ⟨HY,a0⟩
    refine C0 false Z Z (A8 a4) (Ag (e:=39) Z Z Z)<|Ae 2 Z<|Ak Z<|A4<|Ad _ [0,0,0] Z<|Af 1 Z<|AS ((k+1:Nat):Int) Z Z (Bg oM sD) Ac<|Ae 1 Z ?_
    exact⟨k+1,_,rfl,⟨rfl,rfl,trivial⟩,⟨a0,sD,Qa⟩,zD⟩
   refine C0 false Z Z (A8 a2) (Ag (e:=28) Z Z Z)<|Ae 13 Z<|Ak Z<|A4<|Ad _ [0,0,0] Z<|Af 1 Z<|AS ((k+1:Nat):Int) Z Z (Bg oM sD) Ac<|Ae 1 Z ?_
   exact⟨k+1,_,rfl,⟨rfl,rfl,trivial⟩,⟨a0,sD,Qa⟩,zD⟩
  exact AJ false Z Z (A8 a8) Ac<|Aj<|Ak Z<|A6<|AA<|AA<|Ax<|fR Z<|A3<|Al [2] Z (.bool true) Z ⟨HY,a0⟩
 exact Ae 9 Z<|Ah Z<|fR Z<|A3<|At<|Al [2] Z (.bool false) Z ⟨HY,a1⟩
theorem Ug {α:Type}{l:List α}{f:α→Bool}{k:Nat}(d:α)(hk:k<l.length)(h:(l.take k).any f=false)(h2:f (l.getD k d)=false):(l.take (k+1)).any f=false:=by
  rw[List.take_succ_eq_append_getElem hk,List.any_append,h]
  have:l.getD k d=l[k]:=by simp[hk]
  rw[this]at h2
  simp[h2]
theorem VR {α:Type}{l:List α}{f:α→Bool}{k n:Nat}(d:α)(hk:k<n)(hn:n≤l.length)(h:f (l.getD k d)=true):(l.take n).any f=true:=by
  rw[List.any_eq_true]
  have hkl:k<l.length:=by omega
  have e:l.getD k d=l[k]:=by simp[hkl]
  refine⟨l[k],?_,by rw[← e];exact h⟩
  rw[List.mem_take_iff_getElem]
  exact⟨k,zO,rfl⟩
theorem VS {p:List Fn}{a j:Nat}{x:Int}(hx:x=Dp ((p.getD a Fn.zero).outs.take j) ((400:Nat):Int))(h:0≤x)(hj:(p.getD a Fn.zero).outs.length≤j):Ex.sizes (p.getD a Fn.zero).outs≤400:=by
  rw[za hj]at hx
  rcases Ie (p.getD a Fn.zero).outs ((400:Nat):Int) (Int.natCast_nonneg _)with h2|h2
  · have:=h2.2;omega
  · have:=h2.1;omega
theorem Uh {p:List Fn}{a j:Nat}(h:Dp ((p.getD a Fn.zero).outs.take j) ((400:Nat):Int)<0):Kn p a=false:=dO (by
  have h1:=MU h
  rcases Ie (p.getD a Fn.zero).outs ((400:Nat):Int) (Int.natCast_nonneg _)with h2|h2
  · have:=h2.1;have:=h2.2;omega
  · have:=h2.2;omega)
theorem J1 {p:Prop}(h:p:=by first|exact AQ (dJ (Io (by assumption))).symm|exact AQ (dL (Io (by assumption))).symm|exact AQ (dM (Io (by assumption))).symm|exact AQ (dK (VR (k:=k) Fn.zero oM oM (by assumption))).symm|exact AQ (Uh (j:=j+1) (by rw[hnx,← hx];omega)).symm|exact AQ (dN (j:=j) oM (Io (by assumption))).symm|exact AQ (Y0 (Gl (by assumption)) hqa (Gl (by assumption)) (Gl (by assumption)) hqe oM (VS hx oM oM)).symm):p:=h
theorem FQ {p:Prop}(h:p:=by simp[Ge,Gf]):p:=h
theorem LT (w:World)(dp:Nat)(vp:Value)(p:List Fn)(a:Nat)(hp:RN [] (rP (KH dp)) w.heap vp p)(ha:a<p.length)(hpl:p.length≤1000000)(hz:V1 p) :
  Calls Tryz.prog 136 #[vp,zI (a:Int)] w (fun e w'=>e=.returned (.bool (Kn p a))∧AD w w'):=by
 refine Aw [vp,zI (a:Int)] 91 Tryz.func136 Z Z sM ?_
 have a4:AD w w:=AD.refl w
 have hza:=hz a ha
 refine fR Z<|fQ [0,0,0,2,0,0,0] Z<|Af 1 Z<|AX (hp.isPtr) Z Ac ?_
 obtain⟨cs1,ay,al⟩:=RN.at (B6 _) hp
 obtain⟨a0,rfl,a5⟩:=RPr.of ay
 have ab:=a5.lenle
 unfold maxLen at ab
 refine AP (p:=vp) 0 C8 Z (al _<|AB.of_ext [] a4) Ac<|Ai (p:=Au vp 0) (.inr Z) a0 CO Z ((al _<|AB.of_ext [] a4).ld (i:=0) FQ) Ac<|Af 1 Z<|AH (v:=a0) a Im DJ Z Z a5.isSl Z sD Ac<|Ae 1 Z<|A0<|fQ [0,0,0,2,0,0,0,0,0,0,2,0,0,0,0,0,0,0,2,0,0,0,0] Z<|Af 1 Z ?_
 refine AX (RN.isPtr<|RN.ptr (AR dp) (by decide) Fn.zero a5 sD) Z Ac ?_
 obtain⟨cs2,az,a3⟩:=a5.get (AR dp) Fn.zero (k:=a) sD
 obtain⟨a6,rfl,a9⟩:=RF.of az
 have ac:=a9.rn.lenle
 unfold maxLen at ac
 refine AP (p:=AE a0 a 3) 0 Ka Z (a3 _<|AB.of_ext [] a4) Ac<|Ai (p:=Au (AE a0 a 3) 0) (.inr Z) (.string<|(p.getD a Fn.zero).name) Q0 Z ((a3 _<|AB.of_ext [] a4).ld (i:=0) FQ) Ac<|AF 187 [] [] [.string<|(p.getD a Fn.zero).name] Z Z cT Ac (.bool<|Lj<|(p.getD a Fn.zero).name) (fun wq=>Mw wq ((p.getD a Fn.zero).name) oM)<|BF (!(Lj<|(p.getD a Fn.zero).name)) Z Z Ac<|Af 1 Z ?_
 cases b1:(!(Lj ((p.getD a Fn.zero).name)))
 ·refine Af 1 Z<|AX (RN.isPtr<|RN.ptr (AR dp) (by decide) Fn.zero a5 sD) Z (Ag (e:=21) Z Z Z)<|AP (p:=AE a0 a 3) 1 CZ Z (a3 _<|AB.of_ext [] a4) (Ag (e:=21) Z Z Z)<|Ai (p:=Au (AE a0 a 3) 1) (.inr Z) (zI<|(p.getD a Fn.zero).params) AG Z ((a3 _<|AB.of_ext [] a4).ld (i:=1) FQ) (Ag (e:=21) Z Z Z) ?_
  refine AF 80 [] [] [zI<|(p.getD a Fn.zero).params,zI ((0:Nat):Int),zI ((12:Nat):Int)] Z Z JH (Ag (e:=21) Z Z Z) (.bool (decide (((0:Nat):Int)≤((p.getD a Fn.zero).params)) && decide (((p.getD a Fn.zero).params)≤((12:Nat):Int)))) (fun wq=>BS wq _ _ _ a9.rng oM oM)<|BF (!(decide (((0:Nat):Int)≤((p.getD a Fn.zero).params)) && decide (((p.getD a Fn.zero).params)≤((12:Nat):Int)))) Z Z (Ag (e:=21) Z Z Z)<|Af 2 Z ?_
  cases b2:(!(decide (((0:Nat):Int)≤((p.getD a Fn.zero).params)) && decide (((p.getD a Fn.zero).params)≤((12:Nat):Int))))
  ·refine Af 1 Z<|AX (RN.isPtr<|RN.ptr (AR dp) (by decide) Fn.zero a5 sD) Z (Ag (e:=29) Z Z Z)<|AP (p:=AE a0 a 3) 2 Cv Z (a3 _<|AB.of_ext [] a4) (Ag (e:=29) Z Z Z)<|Ai (p:=Au (AE a0 a 3) 2) (.inr Z) a6 BG Z ((a3 _<|AB.of_ext [] a4).ld (i:=2) FQ) (Ag (e:=29) Z Z Z)<|AU (v:=a6) DS Z a9.rn.isSl (Ag (e:=29) Z Z Z) ?_
   refine AF 80 [] [] [zI ((((p.getD a Fn.zero).outs).length:Nat):Int),zI ((1:Nat):Int),zI ((12:Nat):Int)] Z Z JH (Ag (e:=29) Z Z Z) (.bool (decide (((1:Nat):Int)≤((((p.getD a Fn.zero).outs).length:Nat):Int)) && decide (((((p.getD a Fn.zero).outs).length:Nat):Int)≤((12:Nat):Int)))) (fun wq=>BS wq _ _ _ oM oM oM)<|BF (!(decide (((1:Nat):Int)≤((((p.getD a Fn.zero).outs).length:Nat):Int)) && decide (((((p.getD a Fn.zero).outs).length:Nat):Int)≤((12:Nat):Int)))) Z Z (Ag (e:=29) Z Z Z)<|Ae 1 Z ?_
   cases ar:(!(decide (((1:Nat):Int)≤((((p.getD a Fn.zero).outs).length:Nat):Int)) && decide (((((p.getD a Fn.zero).outs).length:Nat):Int)≤((12:Nat):Int))))
   ·refine Ak (by first|rfl|exact zW ar)<|A4<|A0<|fR Z<|A5 ?_
    refine B8 (S:=Nat) (fun k=>([(6,zI (k:Int)),(0,vp),(1,zI (a:Int)),(5,AE a0 a 3)])) (fun k W=>AD w W∧k≤a∧(p.take k).any (fun g=>IQ g.name (p.getD a Fn.zero).name)=false) (fun k=>a-k) 0 ⟨rfl,rfl,rfl,rfl,trivial⟩ ⟨a4,sD,(by rfl)⟩ ?_
    clear a4 ab ac
    rintro k ρ9 w9 ⟨a7,au,hq⟩
    have am:w.heap.size≤w9.heap.size:=a7.size
    refine A0<|fQ [0,0,0] Z<|Af 2 Z ?_
    by_cases ad:(k:Int)<(a:Int)
    ·refine AJ true Z Z (A7 ad) Ac<|Aj<|Ah Z<|A4<|A0<|A5<|A0<|B7 _ [0,0,0,1,0,0,0,1,0,0,0,1,0] mixed (by kernel_rfl)<|Af 1 Z<|AX (hp.isPtr) Z Ac<|AP (p:=vp) 0 C8 Z (al _<|AB.of_ext [] a7.drew) Ac<|Ai (p:=Au vp 0) (.inl Z) a0 CO Z ((al _<|AB.of_ext [] a7.drew).ld (i:=0) FQ) Ac<|Af 1 Z ?_
     refine AH (v:=a0) k Im DJ Z Z a5.isSl Z sD Ac ?_
     obtain⟨cs11,an,ae⟩:=a5.get (AR dp) Fn.zero (k:=k) sD
     obtain⟨b0,rfl,ao⟩:=RF.of an
     have af:=ao.rn.lenle
     unfold maxLen at af
     refine AP (p:=AE a0 k 3) 0 Ka Z (ae _<|AB.of_ext [] a7.drew) Ac<|Ai (p:=Au (AE a0 k 3) 0) (.inl Z) (.string<|(p.getD k Fn.zero).name) Q0 Z ((ae _<|AB.of_ext [] a7.drew).ld (i:=0) FQ) Ac<|Af 1 Z<|AX (RN.isPtr<|RN.ptr (AR dp) (by decide) Fn.zero a5 sD) Z Ac<|AP (p:=AE a0 a 3) 0 Ka Z (a3 _<|AB.of_ext [] a7.drew) Ac ?_
     refine Ai (p:=Au (AE a0 a 3) 0) (.inl Z) (.string<|(p.getD a Fn.zero).name) Q0 Z ((a3 _<|AB.of_ext [] a7.drew).ld (i:=0) FQ) Ac ?_
     cases ag:IQ ((p.getD k Fn.zero).name) ((p.getD a Fn.zero).name)
     ·refine Pu false u9 Z Z ag Ac<|Aj<|Ak Z<|A4<|Ad _ [0,0,0] Z<|Af 1 Z<|AS ((k+1:Nat):Int) Z Z (Bg oM sD) Ac<|Ae 1 Z ?_
      exact⟨k+1,_,rfl,zR,⟨a7.drew,sD,(by exact Ug Fn.zero oM hq (by assumption))⟩,zD⟩
     exact Pu true u9 Z Z ag Ac<|Aj<|Ah Z<|fR Z<|A3<|AM<|At<|At<|AM<|At<|Al [4] Z (.bool false) Z ⟨J1,a7.drew⟩
    refine AJ false Z Z (A8 ad) Ac<|Aj<|Ak Z<|A6<|AA<|AA<|Ax<|fQ [0] Z ?_
    have hka:k=a:=by omega
    rw[hka]at hq
    have hqa:=hq
    refine Ae 1 Z<|A0<|fR Z<|A5 ?_
    refine B8 (S:=Nat×Int) (fun⟨j,x⟩=>([(7,zI x),(8,zI (j:Int)),(0,vp),(1,zI (a:Int)),(5,AE a0 a 3)])) (fun⟨j,x⟩ W=>AD w W∧j≤(p.getD a Fn.zero).outs.length∧x=Dp ((p.getD a Fn.zero).outs.take j) ((400:Nat):Int)∧(0≤x∧x≤400)∧(List.range j).all (fun j=>Mk p ((p.getD a Fn.zero).outs.getD j Ex.zero) (p.getD a Fn.zero).params (a:Int))=true) (fun⟨j,x⟩=>(p.getD a Fn.zero).outs.length-j) (0,((400:Nat):Int)) ⟨rfl,rfl,rfl,rfl,rfl,trivial⟩ ⟨a7,sD,(by rw[List.take_zero,Dp]),oM,(by rfl)⟩ ?_
    clear a7 am
    rintro⟨j,x⟩ ρ13 b3 ⟨a1,ap,hx,aq,hqe⟩
    have av:w.heap.size≤b3.heap.size:=a1.size
    refine A0<|fQ [0,0,0,0,2,0,0] Z<|Af 2 Z<|AX (RN.isPtr<|RN.ptr (AR dp) (by decide) Fn.zero a5 sD) Z Ac<|AP (p:=AE a0 a 3) 2 Cv Z (a3 _<|AB.of_ext [] a1) Ac<|Ai (p:=Au (AE a0 a 3) 2) (.inr Z) a6 BG Z ((a3 _<|AB.of_ext [] a1).ld (i:=2) FQ) Ac<|AU (v:=a6) DS Z a9.rn.isSl Ac ?_
    by_cases ah:(j:Int)<((((p.getD a Fn.zero).outs).length:Nat):Int)
    ·refine AJ true Z Z (A7 ah) Ac<|Aj<|Ah Z<|A4<|A0<|A5<|fQ [0,0,0,2,0,0,0,3,0] Z ?_
     have hst:=Ea (l:=(p.getD a Fn.zero).outs) (k:=j) oM
     have hle:=DD (p.getD a Fn.zero).outs (j+1)
     have hnx:=MT (l:=(p.getD a Fn.zero).outs) (k:=j) (x:=((400:Nat):Int)) oM oM
     have hnr:=OP (e:=(p.getD a Fn.zero).outs.getD j Ex.zero) (x:=x) oM
     refine Af 1 Z<|AX (RN.isPtr<|RN.ptr (AR dp) (by decide) Fn.zero a5 sD) Z Ac<|AP (p:=AE a0 a 3) 2 Cv Z (a3 _<|AB.of_ext [] a1) Ac<|Ai (p:=Au (AE a0 a 3) 2) (.inr Z) a6 BG Z ((a3 _<|AB.of_ext [] a1).ld (i:=2) FQ) Ac<|Af 1 Z ?_
     refine AH (v:=a6) j DS BM Z Z a9.rn.isSl Z sD Ac<|Af 1 Z ?_
     refine Ay 188 [] [] [AE a6 j 5,zI x] Z Z U0 Ac (HX _ dp (AE a6 j 5) (((p.getD a Fn.zero).outs).getD j Ex.zero) _ (RN.ptr (AL dp) (by decide) Ex.zero (a9.rn.ext (Aq<|AL dp) a1) sD) oM oM oM) ?_
     rintro b4 b5 ⟨rfl,aa⟩
     refine⟨_,rfl,aa,?_⟩
     have aw:=aa.size
     have a2:=a1.trans aa
     refine Ae 1 Z<|A0<|B7 _ [0,0,0,0,0,0,0,1,0,0,0,0,0,1,0,3,0,0] mixed (by kernel_rfl)<|Af 1 Z ?_
     by_cases ai:Il (((p.getD a Fn.zero).outs).getD j Ex.zero) x<((0:Nat):Int)
     ·exact AJ true Z Z (A7 ai) Ac<|Ae 16 Z<|Ah Z<|fR Z<|A3<|AM<|At<|At<|AM<|At<|Al [4] Z (.bool false) Z ⟨J1,a2.drew⟩
     refine AJ false Z Z (A8 ai) Ac<|Af 3 Z<|AX (RN.isPtr<|RN.ptr (AR dp) (by decide) Fn.zero a5 sD) Z (Ag (e:=75) Z Z Z)<|AP (p:=AE a0 a 3) 2 Cv Z (a3 _<|AB.of_ext [] a2.drew) (Ag (e:=75) Z Z Z)<|Ai (p:=Au (AE a0 a 3) 2) (.inl Z) a6 BG Z ((a3 _<|AB.of_ext [] a2.drew).ld (i:=2) FQ) (Ag (e:=75) Z Z Z)<|Af 1 Z ?_
     refine AH (v:=a6) j DS BM Z Z a9.rn.isSl Z sD (Ag (e:=75) Z Z Z)<|Af 1 Z ?_
     refine AX (RN.isPtr<|RN.ptr (AR dp) (by decide) Fn.zero a5 sD) Z (Ag (e:=75) Z Z Z)<|AP (p:=AE a0 a 3) 1 CZ Z (a3 _<|AB.of_ext [] a2.drew) (Ag (e:=75) Z Z Z)<|Ai (p:=Au (AE a0 a 3) 1) (.inl Z) (zI<|(p.getD a Fn.zero).params) AG Z ((a3 _<|AB.of_ext [] a2.drew).ld (i:=1) FQ) (Ag (e:=75) Z Z Z)<|Af 1 Z ?_
     refine Ay 189 [] [] [vp,AE a6 j 5,zI<|(p.getD a Fn.zero).params,zI (a:Int)] Z Z cU (Ag (e:=75) Z Z Z) (LS _ dp vp (p) dp (AE a6 j 5) (((p.getD a Fn.zero).outs).getD j Ex.zero) _ _ (hp.ext (Bi<|B6 dp) a2.drew) (RN.ptr (AL dp) (by decide) Ex.zero (a9.rn.ext (Aq<|AL dp) a2.drew) sD) a9.rng oM oM) ?_
     rintro b6 b7 ⟨rfl,a8⟩
     refine⟨_,rfl,a8,?_⟩
     replace a8:=a8.of_drew
     have ax:=a8.size
     have aj:=a2.trans a8
     refine BF (!(Mk p (((p.getD a Fn.zero).outs).getD j Ex.zero) ((p.getD a Fn.zero).params) (a:Int))) Z Z (Ag (e:=75) Z Z Z)<|Ae 1 Z ?_
     cases ak:(!(Mk p (((p.getD a Fn.zero).outs).getD j Ex.zero) ((p.getD a Fn.zero).params) (a:Int)))
     ·refine Ak (by first|rfl|exact zW ak)<|A4<|Ad _ [0,0,0] Z<|Af 1 Z<|AS ((j+1:Nat):Int) Z Z (Bg oM sD) Ac<|Ae 1 Z ?_
      exact⟨(j+1,Il (((p.getD a Fn.zero).outs).getD j Ex.zero) x),_,rfl,zR,⟨aj,sD,(by rw[hnx,← hx]),oM,(by exact Eg hqe (Gl (by assumption)))⟩,zD⟩
     exact Ah (by first|rfl|exact zW ak)<|fR Z<|A3<|AM<|At<|At<|AM<|At<|Al [4] Z (.bool false) Z ⟨J1,aj⟩
    exact AJ false Z Z (A8 ah) Ac<|Aj<|Ak Z<|A6<|AA<|AA<|Ax<|fR Z<|A3<|Al [4] Z (.bool true) Z ⟨J1,a1⟩
   exact Ah (by first|rfl|exact zW ar)<|fR Z<|A3<|At<|Al [4] Z (.bool false) Z ⟨J1,a4⟩
  exact Ae 8 Z<|Ah Z<|fR Z<|A3<|At<|Al [4] Z (.bool false) Z ⟨J1,a4⟩
 exact Ae 16 Z<|Ah Z<|fR Z<|A3<|At<|Al [4] Z (.bool false) Z ⟨J1,a4⟩
theorem Ui {p:Prop}(h:p:=by first|exact AQ (Uc oM)|exact AQ (Ud oM oM oM hq)|exact AQ (IZ (k:=k) oM (Io (by assumption)))):p:=h
theorem O1 (w:World)(dp:Nat)(vp:Value)(p:List Fn)(hp:RN [] (rP (KH dp)) w.heap vp p)(hz:V1 p) :
  Calls Tryz.prog 76 #[vp] w (fun e w'=>e=.returned (.bool (Kw p))∧AD w w'):=by
 refine Aw [vp] 23 Tryz.func76 Z Z sM ?_
 have a1:AD w w:=AD.refl w
 refine fR Z<|A0<|fQ [0,0,0,2,0,0] Z<|Af 1 Z<|AX (hp.isPtr) Z Ac ?_
 obtain⟨cs1,ac,a3⟩:=RN.at (B6 _) hp
 obtain⟨a4,rfl,a5⟩:=RPr.of ac
 have a2:=a5.lenle
 unfold maxLen at a2
 refine AP (p:=vp) 0 C8 Z (a3 _<|AB.of_ext [] a1) Ac<|Ai (p:=Au vp 0) (.inr Z) a4 CO Z ((a3 _<|AB.of_ext [] a1).ld (i:=0) (by simp[Ge,Gf])) Ac<|AU (v:=a4) Im Z a5.isSl Ac ?_
 by_cases a7:((16:Nat):Int)<(p.length:Int)
 ·exact C0 true Z Z (A7 a7) Ac<|Aj<|Ah Z<|fR Z<|A3<|At<|Al [2] Z (.bool false) Z ⟨Ui,a1⟩
 refine C0 false Z Z (A8 a7) Ac<|Aj<|Ak Z<|A4<|A0<|fR Z<|A5<|B8 (S:=Nat) (fun k=>([(3,zI (k:Int)),(0,vp)])) (fun k W=>AD w W∧k≤p.length∧(List.range k).all (Kn p)=true) (fun k=>p.length-k) 0 ⟨rfl,rfl,trivial⟩ ⟨a1,sD,(by rfl)⟩ ?_
 clear a1 a2
 rintro k ρ3 w3 ⟨a0,a8,hq⟩
 have ad:w.heap.size≤w3.heap.size:=a0.size
 refine A0<|fQ [0,0,0,0,2,0,0] Z<|Af 2 Z<|AX (hp.isPtr) Z Ac<|AP (p:=vp) 0 C8 Z (a3 _<|AB.of_ext [] a0) Ac<|Ai (p:=Au vp 0) (.inr Z) a4 CO Z ((a3 _<|AB.of_ext [] a0).ld (i:=0) (by simp[Ge,Gf])) Ac<|AU (v:=a4) Im Z a5.isSl Ac ?_
 by_cases a9:(k:Int)<(p.length:Int)
 ·refine AJ true Z Z (A7 a9) Ac<|Aj<|Ah Z<|A4<|A0<|A5<|fQ [0,0,3,0] Z<|Af 2 Z<|Ay 136 [] [] [vp,zI (k:Int)] Z Z cG Ac (LT _ dp vp (p) (k) (hp.ext (Bi<|B6 dp) a0) oM oM hz) ?_
  rintro e5 w5 ⟨rfl,a6⟩
  refine⟨_,rfl,a6,?_⟩
  have ae:=a6.size
  have aa:=a0.trans a6
  refine BF (!(Kn p k)) Z Z Ac<|Aj ?_
  cases ab:(!(Kn p k))
  ·refine Ak (by first|rfl|exact zW ab)<|A4<|Ad _ [0,0,0] Z<|Af 1 Z<|AS ((k+1:Nat):Int) Z Z (Bg oM sD) Ac<|Ae 1 Z ?_
   exact⟨k+1,_,rfl,⟨rfl,rfl,trivial⟩,⟨aa,sD,(by exact Eg hq (Gl (by assumption)))⟩,zD⟩
  exact Ah (by first|rfl|exact zW ab)<|fR Z<|A3<|AM<|At<|At<|AM<|At<|Al [2] Z (.bool false) Z ⟨Ui,aa⟩
 exact AJ false Z Z (A8 a9) Ac<|Aj<|Ak Z<|A6<|AA<|AA<|Ax<|fR Z<|A3<|Al [2] Z (.bool true) Z ⟨Ui,a0⟩
theorem Qb {p:Prop}(h:p:=by first|exact Bm (Y1 (Io (by assumption)))|exact Bm (Y2 (Gl (by assumption)) (Pc (Io (by assumption))))|exact Bm (Y3 (Gl (by assumption)) (HV (Gl (by assumption))))):p:=h
theorem KB (w:World)(dp:Nat)(vp:Value)(p:List Fn)(f:Int)(hp:RN [] (rP (KH dp)) w.heap vp p)(_hf:Bd f)(hz:V1 p) :
  Calls Tryz.prog 111 #[vp,zI f] w (fun e w'=>e=.returned (zI (Jv p f))∧AD w w'):=by
 refine Aw [vp,zI f] 17 Tryz.func111 Z Z sM ?_
 have a3:AD w w:=AD.refl w
 refine fR Z<|A0<|fQ [0,3,0] Z<|Af 1 Z<|Ay 76 [] [] [vp] Z Z fE Ac (O1 _ dp vp (p) (hp.ext (Bi<|B6 dp) a3) hz) ?_
 rintro e1 w1 ⟨rfl,a1⟩
 refine⟨_,rfl,a1,?_⟩
 have a9:=a1.size
 have a0:=a3.trans a1
 refine BF (!(Kw p)) Z Z Ac<|Aj ?_
 cases a4:(!(Kw p))
 ·refine Ak (by first|rfl|exact zW a4)<|A4<|A0<|fQ [0,0,0,0,2,0,0,0,0] Z<|Af 2 Z<|AX (hp.isPtr) Z Ac ?_
  obtain⟨cs3,aa,a5⟩:=RN.at (B6 _) hp
  obtain⟨a6,rfl,a7⟩:=RPr.of aa
  have a2:=a7.lenle
  unfold maxLen at a2
  refine AP (p:=vp) 0 C8 Z (a5 _<|AB.of_ext [] a0) Ac<|Ai (p:=Au vp 0) (.inr Z) a6 CO Z ((a5 _<|AB.of_ext [] a0).ld (i:=0) (by simp[Ge,Gf])) Ac<|AU (v:=a6) Im Z a7.isSl Ac<|BP ((p.length:Int)-1) Z Z (E1 oM oM) Ac<|AF 80 [] [] [zI f,zI ((0:Nat):Int),zI ((p.length:Int)-1)] Z Z JH Ac (.bool (decide (((0:Nat):Int)≤f) && decide (f≤((p.length:Int)-1)))) (fun wq=>BS wq _ _ _ _hf oM oM)<|BF (!(decide (((0:Nat):Int)≤f) && decide (f≤((p.length:Int)-1)))) Z Z Ac<|Aj ?_
  cases a8:(!(decide (((0:Nat):Int)≤f) && decide (f≤((p.length:Int)-1))))
  ·exact Ak (by first|rfl|exact zW a8)<|A4<|fR Z<|A3<|Al [4] Z (zI ((0:Nat):Int)) Z ⟨Qb,a0⟩
  exact Ah (by first|rfl|exact zW a8)<|fR Z<|A3<|At<|Al [4] Z (zI ((2:Nat):Int)) Z ⟨Qb,a0⟩
 exact Ah (by first|rfl|exact zW a4)<|fR Z<|A3<|At<|Al [4] Z (zI ((1:Nat):Int)) Z ⟨Qb,a0⟩
theorem Fl (w:World)(x:Int)(K:Nat)(_hx:Bd x)(_hK:K≤1000000000000)(hK:K≤1000000000) :
  Calls Tryz.prog 206 #[zI x,zI (K:Int)] w (fun e w'=>∃v0:Value,e=.returned (v0)∧AD w w'∧Fr (BD rI 2) w.heap.size w'.heap.size w'.heap v0 (Fj K x)):=by
 refine Aw [zI x,zI (K:Int)] 14 Tryz.func206 Z Z sM ?_
 have a5:AD w w:=AD.refl w
 refine fR Z<|fQ [0,3,0] Z<|Af 1 Z (Gd (n:=K) Bu BL Z Z Z sD Ac fun v1 w1 a2 ab a0=>?_)
 have a6:=a2.size
 have a1:=a5.trans a2
 refine Ae 1 Z<|A0<|fQ [0,0] Z<|Af 1 Z ?_
 by_cases a3:((0:Nat):Int)<(K:Int)
 ·refine C0 true Z Z (A7 a3) Ac<|Aj<|Ah Z<|Ad _ [0,0,0,4] Z<|Af 2 Z<|AH (v:=v1) 0 Bu BL Z Z a0.isSl Z sD Ac ?_
  refine JU (v:=v1) (w:=w1) GS Z Z _hx a0 sD Ac fun w3 F3 a4 ac a7 a8=>?_
  have a9:AD w w3:=a4.below a1 (fun c hc=>Aa (A9 _) (a7 c hc).1) a1.size
  have aa:=a4.size
  exact Aj<|fQ [0,0] Z<|Ae 2 Z<|A3<|Al [4] Z v1 Z ⟨v1,rfl,a9,(by exact a8.up o1)⟩
 exact C0 false Z Z (A8 a3) Ac<|Aj<|Ak Z<|A4<|fQ [0,0] Z<|Ae 2 Z<|A3<|Al [4] Z v1 Z ⟨v1,rfl,a1,(by have h:=a0.up o1;obtain rfl:K=0:=oM;exact h)⟩
theorem Qc (a:List Int)(y:Int):ZL a y=D8 a y:=by
  unfold ZL D8
  exact Lb (d:=0) (k:=a.length) (fun r hr=>by rw[CC (d:=0) hr,DL _ hr]) (by simp) (by simp)
theorem CD {p:Prop}(h:p:=by first|omega|assumption|(simp only[zb,z9,z4,z6,z5,EM];omega)|(simp[zb,z9,z4,z6,z5,EM];done)|(simp[zb,z9,z4,z6,z5,EM];omega)):p:=h
theorem IF (w:World)(va:Value)(a:Sr)(vb:Value)(b:Sr)(ha:Rd (Bl rI) w.heap va a)(hb:Rd (Bl rI) w.heap vb b)(hla:a.length≤1000000000000)(hl:a.length≤b.length) :
  Calls Tryz.prog 210 #[va,vb] w (fun e w'=>∃v0:Value,e=.returned (v0)∧AD w w'∧Fr (BD rI 2) w.heap.size w'.heap.size w'.heap v0 (EU a b)):=by
 refine Aw [va,vb] 27 Tryz.func210 Z Z sM ?_
 have a8:AD w w:=AD.refl w
 have an:=ha.lenle
 have ao:=hb.lenle
 refine fR Z<|fQ [3,0] Z (Dt (rI) AN Bu BL Ac fun v1 w1 a4 af a9=>?_)
 have a5:=a4.size
 have aa:=a8.trans a4
 refine Ae 1 Z<|A0<|fR Z<|A5 ?_
 refine B8 (S:=Nat×Value) (fun⟨k,vo⟩=>([(5,vo),(6,zI (k:Int)),(0,va),(1,vb)])) (fun⟨k,vo⟩ W=>AD w W∧Fr (BD rI 2) w.heap.size W.heap.size W.heap vo (KJ k fun t=>md (a.getD t 0+b.getD t 0))∧k≤a.length) (fun⟨k,vo⟩=>a.length-k) (0,v1) ⟨rfl,rfl,rfl,rfl,trivial⟩ ⟨aa,(by exact a9.up o1),CD⟩ ?_
 clear a8 a9 af a4 a5 aa
 rintro⟨k,vo⟩ ρ2 w2 ⟨a2,a1,ab⟩
 have ag:w.heap.size≤w2.heap.size:=a2.size
 refine A0<|fQ [0,0,0,0] Z<|Af 2 Z<|AU (v:=va) Bu Z ha.isSl Ac ?_
 by_cases ac:(k:Int)<(a.length:Int)
 ·refine AJ true Z Z (A7 ac) Ac<|Aj<|Ah Z<|A4<|A0<|A5<|B7 _ [0,0,0,0,1,0,0,0,1,0,3,4,0] mixed (by kernel_rfl)<|Af 3 Z<|AH (v:=va) k Bu BL Z Z ha.isSl Z CD Ac ?_
  refine Ai (p:=AE va k 1) (.inl Z) (zI<|a.getD k 0) AG Z (Bk a2.drew (ha.getI CD).1) Ac<|Af 2 Z ?_
  refine AH (v:=vb) k Bu BL Z Z hb.isSl Z CD Ac ?_
  refine Ai (p:=AE vb k 1) (.inl Z) (zI<|b.getD k 0) AG Z (Bk a2.drew (hb.getI CD).1) Ac ?_
  refine AF 70 [] [] [zI<|a.getD k 0,zI<|b.getD k 0] Z Z bP Ac (zI<|md ((a.getD k 0)+(b.getD k 0))) (fun wq=>Kr wq _ _ (ha.getI CD).2 (hb.getI CD).2) ?_
  refine BQ (u:=zI<|md ((a.getD k 0)+(b.getD k 0))) (B:=w2.heap.size) AN Bu BL Z Z (Jl w2.heap.size w2.heap.size _ _<|FK _) (A9 _) Ac fun v5 w5 a3 al ad=>?_
  replace a3:=a3.of_drew
  have ah:=a3.size
  have a6:=a2.trans a3
  have a0:=a1.ext (o1) a3
  refine FH (v:=vo) (a:=v5) Bu BL Z Z Z a0 a6.size ad.rd1 CD (by unfold maxLen;first|omega|assumption|(simp[EM];done)|(simp[EM];omega)) Ac fun v6 w6 F6 a7 ae ai=>?_
  have aj:AD w w6:=a7.below a6 (fun c hc=>Aa (A9 _) (ae c hc).1) a6.size
  have ak:=a7.size
  have am:=ad.chg (o1) a7 fun c hc=>zH<|ae c hc
  refine Ae 1 Z<|Ad _ [0,0,0] Z<|Af 1 Z<|AS ((k+1:Nat):Int) Z Z (Bg oM CD) Ac<|Ae 1 Z ?_
  exact⟨(k+1,v6),_,rfl,zR,⟨aj,(by rw[Ot];exact ai.up o1),CD⟩,zD⟩
 exact AJ false Z Z (A8 ac) Ac<|Aj<|Ak Z<|A6<|AA<|AA<|Ax<|fQ [0,0] Z<|Ae 2 Z<|A3<|Al [4] Z vo Z ⟨vo,rfl,a2,(by have h:=a1.up o1;rw[show k=a.length from by omega]at h;exact h)⟩
theorem Mx (w:World)(va:Value)(a:Sr)(vb:Value)(b:Sr)(ha:Rd (Bl rI) w.heap va a)(hb:Rd (Bl rI) w.heap vb b)(hla:a.length≤1000000000000)(hlb:b.length≤1000000000000)(hl:a.length≤b.length) :
  Calls Tryz.prog 211 #[va,vb] w (fun e w'=>∃v0:Value,e=.returned (v0)∧AD w w'∧Fr (BD rI 2) w.heap.size w'.heap.size w'.heap v0 (GA a b)):=by
 refine Aw [va,vb] 9 Tryz.func211 Z Z sM ?_
 have a7:AD w w:=AD.refl w
 have ab:=ha.lenle
 have ac:=hb.lenle
 refine fR Z<|fQ [0,0,3,3,0] Z<|Af 2 Z<|Ay 207 [] [] [vb,zI ((1000002:Nat):Int)] Z Z XQ Ac (Ht _ _ _ _ (hb.ext g1 a7) oM hlb) ?_
 rintro e1 w1 ⟨a3,rfl,a4,a0⟩
 refine⟨_,rfl,a4,?_⟩
 have a8:=a4.size
 have a5:=a7.trans a4
 refine Ay 210 [] [] [va,a3] Z Z XS Ac (IF _ _ _ _ _ (ha.ext g1 a5) a0.rd1 hla (by unfold ZL;simp;omega)) ?_
 rintro e2 w2 ⟨a1,rfl,a6,a2⟩
 refine⟨_,rfl,a6,?_⟩
 have a9:=a6.size
 have aa:=a5.trans a6
 exact Ae 1 Z<|A3<|Al [4] Z a1 Z ⟨a1,rfl,aa,(by rw[← SL hl,← Qc];exact(a2.up o1).low a5.size)⟩
theorem My (w:World)(va:Value)(a:Sr)(vb:Value)(b:Sr)(ha:Rd (Bl rI) w.heap va a)(hb:Rd (Bl rI) w.heap vb b)(hla:a.length≤1000000000000)(hl:a.length≤b.length) :
  Calls Tryz.prog 212 #[va,vb] w (fun e w'=>∃v0:Value,e=.returned (v0)∧AD w w'∧Fr (BD rI 2) w.heap.size w'.heap.size w'.heap v0 (CF a b)):=by
 refine Aw [va,vb] 39 Tryz.func212 Z Z sM ?_
 have ab:AD w w:=AD.refl w
 have au:=ha.lenle
 have av:=hb.lenle
 refine fR Z<|fQ [3,0] Z (Dt (rI) AN Bu BL Ac fun v1 w1 a5 ak ac=>?_)
 have a6:=a5.size
 have ad:=ab.trans a5
 refine Ae 1 Z<|A0<|fR Z<|A5 ?_
 refine B8 (S:=Nat×Value) (fun⟨k,vo⟩=>([(5,vo),(6,zI (k:Int)),(0,va),(1,vb)])) (fun⟨k,vo⟩ W=>AD w W∧Fr (BD rI 2) w.heap.size W.heap.size W.heap vo (KJ k fun t=>Pk a b t (t+1))∧k≤a.length) (fun⟨k,vo⟩=>a.length-k) (0,v1) ⟨rfl,rfl,rfl,rfl,trivial⟩ ⟨ad,(by exact ac.up o1),CD⟩ ?_
 clear ab ac ak a5 a6 ad
 rintro⟨k,vo⟩ ρ2 w2 ⟨a4,a0,ae⟩
 have a7:w.heap.size≤w2.heap.size:=a4.size
 refine A0<|fQ [0,0,0,0] Z<|Af 2 Z<|AU (v:=va) Bu Z ha.isSl Ac ?_
 by_cases af:(k:Int)<(a.length:Int)
 ·refine AJ true Z Z (A7 af) Ac<|Aj<|Ah Z<|A4<|A0<|A5<|fR Z<|A0<|fR Z<|A5 ?_
  refine B8 (S:=Nat×Int) (fun⟨i,s⟩=>([(7,zI s),(8,zI (i:Int)),(0,va),(1,vb),(5,vo),(6,zI (k:Int))])) (fun⟨i,s⟩ W=>AD w W∧Fr (BD rI 2) w.heap.size W.heap.size W.heap vo (KJ k fun t=>Pk a b t (t+1))∧i≤k+1∧s=Pk a b k i∧(0≤s∧s<1000003)) (fun⟨i,s⟩=>k+1-i) (0,((0:Nat):Int)) ⟨rfl,rfl,rfl,rfl,rfl,rfl,trivial⟩ ⟨a4,a0.up o1,CD,(by rfl),oM⟩ ?_
  clear a0 a4 a7
  rintro⟨i,s⟩ ρ4 w4 ⟨a3,a2,ag,hs,hsr⟩
  have al:w.heap.size≤w4.heap.size:=a3.size
  refine A0<|fQ [0,0,0] Z<|Af 2 Z ?_
  by_cases ah:(i:Int)≤(k:Int)
  ·refine El true Z Z (A7 ah) Ac<|Aj<|Ah Z<|A4<|A0<|A5<|B7 _ [0,0,0,0,1,0,0,0,0,0,1,0,0,0] mixed (by kernel_rfl)<|Af 3 Z<|AH (v:=va) i Bu BL Z Z ha.isSl Z CD Ac ?_
   refine Ai (p:=AE va i 1) (.inl Z) (zI<|a.getD i 0) AG Z (Bk a3.drew (ha.getI CD).1) Ac<|Af 3 Z<|BP ((k-i:Nat):Int) Z Z (by rw[E1 oM oM];omega) Ac ?_
   refine AH (v:=vb) (k-i) Bu BL Z Z hb.isSl Z CD Ac ?_
   refine Ai (p:=AE vb (k-i) 1) (.inl Z) (zI<|b.getD (k-i) 0) AG Z (Bk a3.drew (hb.getI CD).1) Ac ?_
   refine AF 69 [] [] [zI<|a.getD i 0,zI<|b.getD (k-i) 0] Z Z PY Ac (zI<|md ((a.getD i 0)*(b.getD (k-i) 0))) (fun wq=>Db wq _ _ (ha.getI CD).2 (hb.getI CD).2) ?_
   refine AF 70 [] [] [zI s,zI<|md ((a.getD i 0)*(b.getD (k-i) 0))] Z Z bP Ac (zI<|md (s+(md ((a.getD i 0)*(b.getD (k-i) 0))))) (fun wq=>Kr wq _ _ oM<|FK _)<|Ae 1 Z<|Ad _ [0,0,0] Z<|Af 1 Z<|AS ((i+1:Nat):Int) Z Z (Bg oM CD) Ac<|Ae 1 Z ?_
   exact⟨(i+1,md (s+(md ((a.getD i 0)*(b.getD (k-i) 0))))),_,rfl,zR,⟨a3.drew,a2.up o1,CD,(by rw[G0,hs];rfl),(by exact Cd _)⟩,zD⟩
  refine El false Z Z (A8 ah) Ac<|Aj<|Ak Z<|A6<|AA<|AA<|Ax<|Ad _ [0,0,3,4,0] Z<|Af 2 Z (BQ (u:=zI s) (B:=w4.heap.size) AN Bu BL Z Z (Jl w4.heap.size w4.heap.size _ _ oM) (A9 _) Ac fun v8 w8 a8 ar ai=>?_)
  have am:=a8.size
  have a9:=a3.trans a8
  have a1:=a2.ext (o1) a8
  refine FH (v:=vo) (a:=v8) Bu BL Z Z Z a1 a9.size ai.rd1 CD (by unfold maxLen;first|omega|assumption|(simp[EM];done)|(simp[EM];omega)) Ac fun v9 w9 F9 aa aj an=>?_
  have ao:AD w w9:=aa.below a9 (fun c hc=>Aa (A9 _) (aj c hc).1) a9.size
  have ap:=aa.size
  have aq:=ai.chg (o1) aa fun c hc=>zH<|aj c hc
  refine Ae 1 Z<|Ad _ [0,0,0] Z<|Af 1 Z<|AS ((k+1:Nat):Int) Z Z (Bg oM CD) Ac<|Ae 1 Z ?_
  exact⟨(k+1,v9),_,rfl,zR,⟨ao,(by rw[Ot];have h:=an.up o1;rw[hs,show i=k+1 from by omega]at h;exact h),CD⟩,zD⟩
 exact AJ false Z Z (A8 af) Ac<|Aj<|Ak Z<|A6<|AA<|AA<|Ax<|fQ [0,0] Z<|Ae 2 Z<|A3<|Al [4] Z vo Z ⟨vo,rfl,a4,(by have h:=a0.up o1;rw[show k=a.length from by omega]at h;exact h)⟩
theorem Ds {p:Prop}(h:p:=by first|omega|assumption|(simp only[zb,z9,z4,z6,z5,Fw];omega)|(simp[zb,z9,z4,z6,z5,Fw];done)|(simp[zb,z9,z4,z6,z5,Fw];omega)):p:=h
theorem Mz (w:World)(va:Value)(a:Sr)(vb:Value)(b:Sr)(ha:Rd (Bl rI) w.heap va a)(hb:Rd (Bl rI) w.heap vb b)(hla:a.length≤1000000000000)(hl:a.length≤b.length)(h1:0<b.length)(hqa:Bj a=true) :
  Calls Tryz.prog 213 #[va,vb] w (fun e w'=>∃v0:Value,e=.returned (v0)∧AD w w'∧Fr (BD rI 2) w.heap.size w'.heap.size w'.heap v0 (Cq a b)):=by
 refine Aw [va,vb] 50 Tryz.func213 Z Z sM ?_
 have ag:AD w w:=AD.refl w
 have au:=ha.lenle
 have av:=hb.lenle
 refine fR Z<|fQ [3,0] Z (Dt (rI) AN Bu BL Ac fun v1 w1 aa ao ah=>?_)
 have ab:=aa.size
 have ac:=ag.trans aa
 refine Ae 1 Z<|fQ [0,0,2,0,0] Z<|Af 1 Z<|AH (v:=vb) 0 Bu BL Z Z hb.isSl Z Ds Ac ?_
 refine Ai (p:=AE vb 0 1) (.inr Z) (zI<|b.getD 0 0) AG Z (Bk ac (hb.getI Ds).1) Ac ?_
 refine AF 240 [] [] [zI<|b.getD 0 0] Z Z dD Ac (zI<|inv<|b.getD 0 0) (fun wq=>Mq wq _ (hb.getI Ds).2)<|Ae 1 Z<|A0<|fR Z<|A5 ?_
 refine B8 (S:=Nat×Value) (fun⟨k,vo⟩=>([(5,vo),(7,zI (k:Int)),(0,va),(1,vb),(6,zI<|inv<|b.getD 0 0)])) (fun⟨k,vo⟩ W=>AD w W∧Fr (BD rI 2) w.heap.size W.heap.size W.heap vo (Ld a b k)∧k≤a.length) (fun⟨k,vo⟩=>a.length-k) (0,v1) ⟨rfl,rfl,rfl,rfl,rfl,trivial⟩ ⟨ac,(by exact ah.up o1),Ds⟩ ?_
 clear ag ah ao aa ab ac
 rintro⟨k,vo⟩ ρ3 w3 ⟨a6,a1,ai⟩
 have ad:w.heap.size≤w3.heap.size:=a6.size
 refine A0<|fQ [0,0,0,0] Z<|Af 2 Z<|AU (v:=va) Bu Z ha.isSl Ac ?_
 by_cases aj:(k:Int)<(a.length:Int)
 ·refine AJ true Z Z (A7 aj) Ac<|Aj<|Ah Z<|A4<|A0<|A5<|fQ [0,0,0,2,0] Z<|Af 2 Z<|AH (v:=va) k Bu BL Z Z ha.isSl Z Ds Ac ?_
  refine Ai (p:=AE va k 1) (.inr Z) (zI<|a.getD k 0) AG Z (Bk a6 (ha.getI Ds).1) Ac<|Ae 1 Z<|A0<|fR Z<|A5 ?_
  refine B8 (S:=Nat×Int) (fun⟨i,t⟩=>([(8,zI t),(9,zI (i:Int)),(0,va),(1,vb),(5,vo),(6,zI<|inv<|b.getD 0 0),(7,zI (k:Int))])) (fun⟨i,t⟩ W=>AD w W∧Fr (BD rI 2) w.heap.size W.heap.size W.heap vo (Ld a b k)∧i≤k∧t=Pl a b (Ld a b k) k i∧(0≤t∧t<1000003)) (fun⟨i,t⟩=>k-i) (0,a.getD k 0) ⟨rfl,rfl,rfl,rfl,rfl,rfl,rfl,trivial⟩ ⟨a6,a1.up o1,Ds,(by rfl),(by exact Co hqa k)⟩ ?_
  clear a1 a6 ad
  rintro⟨i,t⟩ ρ5 w5 ⟨a9,a0,ak,ht,htr⟩
  have ap:w.heap.size≤w5.heap.size:=a9.size
  refine A0<|fQ [0,0,0] Z<|Af 2 Z ?_
  by_cases al:(i:Int)<(k:Int)
  ·refine AJ true Z Z (A7 al) Ac<|Aj<|Ah Z<|A4<|A0<|A5<|B7 _ [0,0,0,0,1,0,0,0,0,0,1,0,0,0] mixed (by kernel_rfl) ?_
   have hmn:=Cd ((Ld a b k).getD i 0*b.getD (k-i) 0)
   refine Af 3 Z<|AH (v:=vo) i Bu BL Z Z a0.isSl Z Ds Ac ?_
   refine Ai (p:=AE vo i 1) (.inl Z) (zI<|(Ld a b k).getD i 0) AG Z (a0.rd1.getI Ds).1 Ac (Af 3 Z<|BP ((k-i:Nat):Int) Z Z (by rw[E1 oM oM];omega) Ac ?_)
   refine AH (v:=vb) (k-i) Bu BL Z Z hb.isSl Z Ds Ac ?_
   refine Ai (p:=AE vb (k-i) 1) (.inl Z) (zI<|b.getD (k-i) 0) AG Z (Bk a9.drew (hb.getI Ds).1) Ac ?_
   refine AF 69 [] [] [zI<|(Ld a b k).getD i 0,zI<|b.getD (k-i) 0] Z Z PY Ac (zI<|md (((Ld a b k).getD i 0)*(b.getD (k-i) 0))) (fun wq=>Db wq _ _ (a0.rd1.getI Ds).2 (hb.getI Ds).2) ?_
   refine AF 241 [] [] [zI t,zI<|md (((Ld a b k).getD i 0)*(b.getD (k-i) 0))] Z Z dE Ac (zI<|md (t-(md (((Ld a b k).getD i 0)*(b.getD (k-i) 0))))) (fun wq=>Kz wq _ _ oM (FK _) oM)<|Ae 1 Z<|Ad _ [0,0,0] Z<|Af 1 Z<|AS ((i+1:Nat):Int) Z Z (Bg oM Ds) Ac<|Ae 1 Z ?_
   exact⟨(i+1,md (t-(md (((Ld a b k).getD i 0)*(b.getD (k-i) 0))))),_,rfl,zR,⟨a9.drew,a0.up o1,Ds,(by rw[Nh,ht];rfl),(by exact Cd _)⟩,zD⟩
  refine AJ false Z Z (A8 al) Ac<|Aj<|Ak Z<|A6<|AA<|AA<|Ax<|Ad _ [0,0,0,0,3,4,0] Z<|Af 3 Z<|AF 69 [] [] [zI t,zI<|inv<|b.getD 0 0] Z Z PY Ac (zI<|md (t*(inv<|b.getD 0 0))) (fun wq=>Db wq _ _ oM<|Qw _) (BQ (u:=zI<|md (t*(inv<|b.getD 0 0))) (B:=w5.heap.size) AN Bu BL Z Z (Jl w5.heap.size w5.heap.size _ _<|FK _) (A9 _) Ac fun aw az a3 aq a7=>?_)
  have am:=a3.size
  have a4:=a9.trans a3
  have a2:=a0.ext (o1) a3
  refine FH (v:=vo) (a:=aw) Bu BL Z Z Z a2 a4.size a7.rd1 Ds (by unfold maxLen;first|omega|assumption|(simp[Fw];done)|(simp[Fw];omega)) Ac fun ax ay b0 a5 a8 ae=>?_
  have af:AD w ay:=a5.below a4 (fun c hc=>Aa (A9 _) (a8 c hc).1) a4.size
  have an:=a5.size
  have ar:=a7.chg (o1) a5 fun c hc=>zH<|a8 c hc
  refine Ae 1 Z<|Ad _ [0,0,0] Z<|Af 1 Z<|AS ((k+1:Nat):Int) Z Z (Bg oM Ds) Ac<|Ae 1 Z ?_
  exact⟨(k+1,ax),_,rfl,zR,⟨af,(by have h:=ae.up o1;rw[ht,show i=k from by omega]at h;exact h),Ds⟩,zD⟩
 exact AJ false Z Z (A8 aj) Ac<|Aj<|Ak Z<|A6<|AA<|AA<|Ax<|fQ [0,0] Z<|Ae 2 Z<|A3<|Al [4] Z vo Z ⟨vo,rfl,a6,(by have h:=a1.up o1;rw[show k=a.length from by omega]at h;exact h)⟩
def SV (F d:Nat):Prop:=∀(w:World) (S:List Nat) (g:Nat) (pp:Value) (dp n s0:Nat) (c0:Int) (p:List Fn) (ve:Value) (ex:Ex) (vv:Value) (env:List (List Int)) (hS:∀b∈S,b<w.heap.size) (hgS:g∈S) (hB0:BX w.heap g [pp,.int .i64 ((n:Nat):Int),.int .i64 ((s0:Nat):Int),.int .i64 c0]) (hp:RN S (rP (KH dp)) w.heap pp p) (hn:1≤n∧n≤13) (hs0:s0≤3000) (hc0:0≤c0∧c0≤9) (hex:RN S (rP (Nf d)) w.heap ve ex) (henv:RN S (Bl (Bl rI)) w.heap vv env) (hqenv:Dm vv)
  (hvp:Od p) (hF:F≤p.length) (hwf:wf p ((F:Nat):Int) ex ((env.length:Nat):Int)=true) (hse:CG n env) (hdp:env.length+ex.deep≤1000000),
  Calls Tryz.prog 169 #[.pointer (some ⟨g,0,none⟩),ve,vv] w (fun e w'=>∃(v:Value) (x:List Int) (s1:Nat) (c1:Int),e=.returned v∧AB [g] w w'∧BX w'.heap g [pp,.int .i64 ((n:Nat):Int),.int .i64 ((s1:Nat):Int),.int .i64 c1]∧RN S (Bl rI) w'.heap v x∧C9 n x∧s1≤3000∧(0≤c1∧c1≤9)∧AY (go c0 (Gh n (Iy p n F) ex env s0)) x s1 c1)
def SC (F d:Nat):Prop:=∀(w:World) (S:List Nat) (g:Nat) (pp:Value) (dp n s0:Nat) (c0:Int) (p:List Fn) (ve:Value) (ex:Ex) (vv:Value) (env:List (List Int)) (hS:∀b∈S,b<w.heap.size) (hgS:g∈S) (hB0:BX w.heap g [pp,.int .i64 ((n:Nat):Int),.int .i64 ((s0:Nat):Int),.int .i64 c0]) (hp:RN S (rP (KH dp)) w.heap pp p) (hn:1≤n∧n≤13) (hs0:s0≤3000) (hc0:0≤c0∧c0≤9) (hex:RN S (rP (Nf d)) w.heap ve ex) (henv:RN S (Bl (Bl rI)) w.heap vv env) (hqenv:Dm vv)
  (hvp:Od p) (hF:F≤p.length) (hwf:wf p ((F:Nat):Int) ex ((env.length:Nat):Int)=true) (hse:CG n env) (hdp:env.length+ex.deep≤1000000) (hk:ex.kind=10∨ex.kind=11),
  Calls Tryz.prog 209 #[.pointer (some ⟨g,0,none⟩),ve,vv] w (fun e w'=>∃(v:Value) (x:List Int) (s1:Nat) (c1:Int),e=.returned v∧AB [g] w w'∧BX w'.heap g [pp,.int .i64 ((n:Nat):Int),.int .i64 ((s1:Nat):Int),.int .i64 c1]∧RN S (Bl rI) w'.heap v x∧C9 n x∧s1≤3000∧(0≤c1∧c1≤9)∧AY (go c0 (Ko n (Iy p n F) ex env s0)) x s1 c1)
def SO (F:Nat):Prop:=∀(w:World) (S:List Nat) (g:Nat) (pp:Value) (dp n s0:Nat) (c0:Int) (p:List Fn) (dfx:Nat) (vf:Value) (fx:Fn) (va:Value) (env:List (List Int)) (hS:∀b∈S,b<w.heap.size) (hgS:g∈S) (hB0:BX w.heap g [pp,.int .i64 ((n:Nat):Int),.int .i64 ((s0:Nat):Int),.int .i64 c0]) (hp:RN S (rP (KH dp)) w.heap pp p) (hn:1≤n∧n≤13) (hs0:s0≤3000) (hc0:0≤c0∧c0≤9) (hfx:RN S (rP (X6 dfx)) w.heap vf fx) (henv:RN S (Bl (Bl rI)) w.heap va env) (hqenv:Dm va)
  (hvp:Od p) (hF:F≤p.length) (hwf:∀k,k<fx.outs.length→wf p ((F:Nat):Int) (fx.outs.getD k Ex.zero) ((env.length:Nat):Int)=true) (hse:CG n env) (hdp:∀k,k<fx.outs.length→env.length+(fx.outs.getD k Ex.zero).deep≤1000000) (hll:fx.outs.length≤1000000),
  Calls Tryz.prog 113 #[.pointer (some ⟨g,0,none⟩),vf,va] w (fun e w'=>∃(v:Value) (x:List (List Int)) (s1:Nat) (c1:Int),e=.returned v∧AB [g] w w'∧BX w'.heap g [pp,.int .i64 ((n:Nat):Int),.int .i64 ((s1:Nat):Int),.int .i64 c1]∧RN S (Bl (Bl rI)) w'.heap v x∧(Dm v∧x.length=fx.outs.length∧CG n x)∧s1≤3000∧(0≤c1∧c1≤9)∧AY (go c0 (G5 n (Iy p n F) fx.outs env s0)) x s1 c1)
theorem Dc (w:World)(S:List Nat)(g:Nat)(pp:Value)(dp n s0:Nat)(c0:Int)(p:List Fn)(code:Int)(hS:∀b∈S,b<w.heap.size)(hgS:g∈S)(hB0:BX w.heap g [pp,zI (n:Int),zI (s0:Int),zI c0])(hp:RN S (rP (KH dp)) w.heap pp p)(hn:1≤n∧n≤13)(hs0:s0≤3000)(hc0:0≤c0∧c0≤9)(_hcode:Bd code)(hcd:1≤code∧code≤9) :
  Calls Tryz.prog 205 #[zP g,zI code] w (fun e w'=>∃(v:Value) (x:Sr) (s1:Nat) (c1:Int),e=.returned v∧AB [g] w w'∧BX w'.heap g [pp,zI (n:Int),zI (s1:Int),zI c1]∧RN S (Bl rI) w'.heap v x∧C9 n x∧s1≤3000∧(0≤c1∧c1≤9)∧(s1=s0∧c1=if c0=0 then code else c0)):=by
 refine Aw [zP g,zI code] 19 Tryz.func205 Z Z sM ?_
 have a9:AB [g] w w:=AB.refl [g] w
 have aj:=hB0.lt
 refine fR Z<|A0<|fQ [0,0,0,2,0] Z<|Af 1 Z<|Bf Z Ac<|Ao (p:=zP g) 3 Hg Z Z Ac<|Ai (p:=Au (zP g) 3) (.inr Z) (zI c0) AG Z (hB0.ldp (i:=3) sM) Ac ?_
 by_cases aa:c0=((0:Nat):Int)
 ·refine Av true Z Z (A7 aa) Ac<|Aj<|Ah Z<|Ad _ [0,0,0,0,4] Z<|Af 2 Z<|Bf Z Ac<|Ao (p:=zP g) 3 Hg Z Z Ac (Bn (k:=3) (w:=w) GS Z Z ⟨rfl,rfl⟩ hB0 sM Ac fun w2 ab ai a6=>?_)
  replace a6:BX w2.heap g [pp,zI (n:Int),zI (s0:Int),zI code]:=a6
  have ac:AB [g] w w2:=a9.trans ab
  have ad:=ab.size
  refine Aj<|fQ [0,0,0,2,3,0] Z<|Af 1 Z<|Bf Z Ac<|Ao (p:=zP g) 1 NV Z Z Ac<|Ai (p:=Au (zP g) 1) (.inr Z) (zI (n:Int)) Mo Z (a6.ldp (i:=1) sM) Ac ?_
  refine Ay 206 [] [] [zI ((0:Nat):Int),zI (n:Int)] Z Z U4 Ac (Fl _ _ (n) oM sD oM) ?_
  rintro e3 w3 ⟨a0,rfl,a7,a1⟩
  refine⟨_,rfl,a7,?_⟩
  have ae:=a7.size
  have af:AB [g] w w3:=ac.ext a7
  have a2:=a6.ext a7
  exact Ae 1 Z<|A3<|Al [4] Z a0 Z ⟨a0,Fj n ((0:Nat):Int),s0,code,rfl,af,a2,RN.of_fr1 a1 fun b hb=>zH<|hS b hb,(by exact Fx (by decide)),oM,oM,(by exact⟨rfl,by first|(rw[if_pos oM])|(rw[if_neg oM])⟩)⟩
 refine Av false Z Z (A8 aa) Ac<|Aj<|Ak Z<|A4<|fQ [0,0,0,2,3,0] Z<|Af 1 Z<|Bf Z Ac<|Ao (p:=zP g) 1 NV Z Z Ac<|Ai (p:=Au (zP g) 1) (.inr Z) (zI (n:Int)) Mo Z (hB0.ldp (i:=1) sM) Ac ?_
 refine Ay 206 [] [] [zI ((0:Nat):Int),zI (n:Int)] Z Z U4 Ac (Fl _ _ (n) oM sD oM) ?_
 rintro e4 w4 ⟨a3,rfl,a8,a4⟩
 refine⟨_,rfl,a8,?_⟩
 have ag:=a8.size
 have ah:AB [g] w w4:=a9.ext a8
 have a5:=hB0.ext a8
 exact Ae 1 Z<|A3<|Al [4] Z a3 Z ⟨a3,Fj n ((0:Nat):Int),s0,c0,rfl,ah,a5,RN.of_fr1 a4 fun b hb=>zH<|hS b hb,(by exact Fx (by decide)),oM,oM,(by exact⟨rfl,by first|(rw[if_pos oM])|(rw[if_neg oM])⟩)⟩
theorem Uj {p:Prop}(h:p:=by unfold maxLen;first|omega|assumption|(simp only[zb,z9,z4,z6,z5];omega)|(simp[zb,z9,z4,z6,z5];done)|(simp[zb,z9,z4,z6,z5];omega)):p:=h
theorem MA (w:World)(S:List Nat)(vv:Value)(env:List (Sr))(vx:Value)(x:Sr)(hS:∀b∈S,b<w.heap.size)(henv:RN S (Bl (Bl rI)) w.heap vv env)(hqenv:Dm vv)(hx:RN S (Bl rI) w.heap vx x)(hel:env.length≤1000000) :
  Calls Tryz.prog 208 #[vv,vx] w (fun e w'=>∃v,e=.returned v∧AD w w'∧RN S (Bl (Bl rI)) w'.heap v (env++[x])∧Dm v):=by
 refine Aw [vv,vx] 25 Tryz.func208 Z Z sM ?_
 have ai:AD w w:=AD.refl w
 have b8:=henv.lenL
 unfold maxLen at b8
 have b9:=hx.lenL
 unfold maxLen at b9
 refine fR Z<|fQ [3,0] Z (Dt rV BY BJ BR Ac fun v1 w1 a7 aq aj=>?_)
 have a8:=a7.size
 have ak:=ai.trans a7
 obtain⟨b2,F1,b3⟩:=I8.nil (S:=S) (aj.low (B':=w.heap.size) (A9 _))
 refine Ae 1 Z<|A0<|fR Z<|A5<|B8 (S:=Nat×Value) (fun⟨k,vo⟩=>([(5,vo),(6,zI (k:Int)),(0,vv),(1,vx)])) (fun⟨k,vo⟩ W=>AD w W∧k≤env.length∧RO 27 S w.heap.size W.heap vo (env.take k)) (fun⟨k,vo⟩=>env.length-k) (0,v1) ⟨rfl,rfl,rfl,rfl,trivial⟩ ⟨ak,sD,(by exact⟨_,_,by assumption⟩)⟩ ?_
 clear ai aj aq a7 a8 ak
 rintro⟨k,vo⟩ ρ2 w2 ⟨a6,al,hbld⟩
 have ar:w.heap.size≤w2.heap.size:=a6.size
 obtain⟨b4,F4,a3⟩:=hbld
 refine A0<|fQ [0,0,0,0] Z<|Af 2 Z<|AU (v:=vv) BJ Z henv.slL Ac ?_
 by_cases am:(k:Int)<(env.length:Int)
 ·refine AJ true Z Z (A7 am) Ac<|Aj<|Ah Z<|A4<|A0<|A5<|Ad _ [0,0,0,0,2,3,4,0] Z<|Af 3 Z<|AH (v:=vv) k BJ BR Z Z henv.slL Z sD Ac ?_
  obtain⟨a9,au,aa⟩:=RN.getL (w:=w) g1 [] (k:=k) henv sD
  have ab:=aa.lenL
  unfold maxLen at ab
  refine Ai (p:=AE vv k 1) (.inr Z) a9 BN Z (au _<|AB.of_ext S a6) Ac (BQ (u:=a9) (B:=w2.heap.size) BY BJ BR Z Z (Qo w2.heap.size w2.heap.size _<|aa.one1 g1) (A9 _) Ac fun v7 w7 ac b5 av=>?_)
  have aw:=ac.size
  have ad:=a6.trans ac
  have ae:=a3.ext ac
  refine FI (v:=vo) (a:=v7) (u:=a9) BJ BR Z Z Z ae oM av ((aa.add (F:=F4) g1 ae.low).ext g1 ad) sD Uj Ac ?_
  rintro v9 w9 G9 an ax ⟨b6,F9,b7⟩
  have ay:=an.size
  have az:AD w w9:=an.below ad (fun c hc=>ae.low c (ax c hc)) ad.size
  refine Ae 1 Z<|Ad _ [0,0,0] Z<|Af 1 Z<|AS ((k+1:Nat):Int) Z Z (Bg oM sD) Ac<|Ae 1 Z ?_
  exact⟨(k+1,v9),_,rfl,zR,⟨az,sD,(by rw[CA [] oM];exact⟨_,_,by assumption⟩)⟩,zD⟩
 refine AJ false Z Z (A8 am) Ac<|Aj<|Ak Z<|A6<|AA<|AA<|Ax<|fQ [0,0,3,4,0] Z<|Af 2 Z (BQ (u:=vx) (B:=w2.heap.size) BY BJ BR Z Z (Qo w2.heap.size w2.heap.size _<|hx.one1 g1) (A9 _) Ac fun bb bd a0 b0 af=>?_)
 have ao:=a0.size
 have a1:=a6.trans a0
 have a2:=a3.ext a0
 refine FI (v:=vo) (a:=bb) (u:=vx) BJ BR Z Z Z a2 oM af ((hx.add (F:=F4) g1 a2.low).ext g1 a1) sD Uj Ac ?_
 rintro ba bc G12 a4 ag ⟨b1,be,a5⟩
 have ap:=a4.size
 have ah:AD w bc:=a4.below a1 (fun c hc=>a2.low c (ag c hc)) a1.size
 exact Ae 1 Z<|A3<|Al [4] Z ba Z ⟨ba,rfl,ah,(by have h9:=(a5.done hS);rw[za oM]at h9;exact h9),a5.cap⟩
theorem J2 (w:World)(S:List Nat)(F:Nat)(g:Nat)(pp:Value)(dp n s0:Nat)(c0:Int)(p:List Fn)(dfx:Nat)(vf:Value)(fx:Fn)(va:Value)(env:List (Sr))(hS:∀b∈S,b<w.heap.size)(hgS:g∈S)(hB0:BX w.heap g [pp,zI (n:Int),zI (s0:Int),zI c0])(hp:RN S (rP (KH dp)) w.heap pp p)(hn:1≤n∧n≤13)(hs0:s0≤3000)(hc0:0≤c0∧c0≤9)(hfx:RN S (rP (X6 dfx)) w.heap vf fx)(henv:RN S (Bl (Bl rI)) w.heap va env)(hqenv:Dm va)(hvp:Od p)(hF:F≤p.length)(hwf:∀k,k<fx.outs.length→wf p (F:Int) (fx.outs.getD k Ex.zero) (env.length:Int)=true)(hse:CG n env)(hdp:∀k,k<fx.outs.length→env.length+(fx.outs.getD k Ex.zero).deep≤1000000)(hll:fx.outs.length≤1000000)(IHv:∀d,SV F d) :
  Calls Tryz.prog 113 #[zP g,vf,va] w (fun e w'=>∃(v:Value) (x:List (Sr)) (s1:Nat) (c1:Int),e=.returned v∧AB [g] w w'∧BX w'.heap g [pp,zI (n:Int),zI (s1:Int),zI c1]∧RN S (Bl (Bl rI)) w'.heap v x∧(Dm v∧x.length=fx.outs.length∧CG n x)∧s1≤3000∧(0≤c1∧c1≤9)∧AY (go c0 (G5 n (Iy p n F) fx.outs env s0)) x s1 c1):=by
 refine Aw [zP g,vf,va] 32 Tryz.func113 Z Z sM ?_
 have ao:AB [g] w w:=AB.refl [g] w
 have bg:=henv.lenL
 unfold maxLen at bg
 have bl:=hB0.lt
 refine fR Z<|fQ [3,0] Z (Dt rV BY BJ BR Ac fun v1 w1 aa az ap=>?_)
 have ae:=aa.size
 have aq:AB [g] w w1:=ao.ext aa
 have a9:=hB0.ext aa
 obtain⟨bc,F1,bd⟩:=I8.nil (S:=S) (ap.low (B':=w.heap.size) (A9 _))
 refine Ae 1 Z<|A0<|fR Z<|A5 ?_
 refine B8 (S:=Nat×Value×List (Sr)×Nat×Int) (fun⟨k,vo,xs,s9,c9⟩=>([(7,vo),(8,zI (k:Int)),(0,zP g),(1,vf),(2,va)])) (fun⟨k,vo,xs,s9,c9⟩ W=>AB [g] w W∧BX W.heap g [pp,zI (n:Int),zI (s9:Int),zI c9]∧k≤fx.outs.length∧RO 27 S w.heap.size W.heap vo xs∧xs.length=k∧CG n xs∧s9≤3000∧(0≤c9∧c9≤9)∧AY (go c0<|G5 n (Iy p n F) (fx.outs.take k) env s0) xs s9 c9) (fun⟨k,vo,xs,s9,c9⟩=>fx.outs.length-k) (0,v1,([]:List (Sr)),s0,c0) ⟨rfl,rfl,rfl,rfl,rfl,trivial⟩ ⟨aq,a9,sD,(by exact⟨_,_,by assumption⟩),(by rfl),(by intro j hj;simp at hj),oM,oM,(by exact Ia _ _ _ _ _ _)⟩ ?_
 clear ao ap az aa ae aq
 rintro⟨k,vo,xs,s9,c9⟩ ρ2 w2 ⟨a3,a1,ar,hbld,hxl,hxs,au,av,hrl⟩
 have b0:w.heap.size≤w2.heap.size:=a3.size
 have be:=a1.lt
 obtain⟨bf,F5,a0⟩:=hbld
 refine A0<|fQ [0,0,0,0,2,0,0] Z<|Af 2 Z<|AX (hfx.isPtr) Z Ac ?_
 obtain⟨cs6,b1,ab⟩:=RN.at (AR _) hfx
 obtain⟨a8,rfl,ac⟩:=RF.of b1
 have af:=ac.rn.lenle
 unfold maxLen at af
 refine AP (p:=vf) 2 Cv Z (ab _<|a3.sub<|Bo hgS) Ac<|Ai (p:=Au vf 2) (.inr Z) a8 BG Z ((ab _<|a3.sub<|Bo hgS).ld (i:=2) (by simp[Ge,Gf])) Ac<|AU (v:=a8) DS Z ac.rn.isSl Ac ?_
 by_cases aw:(k:Int)<(fx.outs.length:Int)
 ·refine AJ true Z Z (A7 aw) Ac<|Aj<|Ah Z<|A4<|A0<|A5<|Ad _ [0,0,0,0,0,2,0,0,0,4,3,4,0] Z<|Af 3 Z<|AX (hfx.isPtr) Z Ac<|AP (p:=vf) 2 Cv Z (ab _<|a3.sub<|Bo hgS) Ac<|Ai (p:=Au vf 2) (.inr Z) a8 BG Z ((ab _<|a3.sub<|Bo hgS).ld (i:=2) (by simp[Ge,Gf])) Ac<|Af 1 Z ?_
  refine AH (v:=a8) k DS BM Z Z ac.rn.isSl Z sD Ac<|Af 1 Z ?_
  refine AK 169 [] [] [zP g,AE a8 k 5,va] Z Z HR Ac (IHv dfx _ (S++F5) g pp dp (n) (s9) (c9) (p) (AE a8 k 5) (fx.outs.getD k Ex.zero) va (env) (fun b hb=>(by rcases zi.1 hb with hb|hb;(have:=hS b hb;omega);exact a0.lt b hb:b<w2.heap.size)) (z8 _ hgS) a1 ((hp.add (F:=F5) (Bi<|B6 dp) a0.low).chg (Bi<|B6 dp)<|a3.sub<|Pt hgS) oM oM oM (RN.ptr (AL dfx) (by decide) Ex.zero ((ac.rn.add (F:=F5) (Aq<|AL dfx) a0.low).chg (Aq<|AL dfx)<|a3.sub<|Pt hgS) sD) ((henv.add (F:=F5) g2 a0.low).chg g2<|a3.sub<|Pt hgS) hqenv hvp oM (by exact hwf k oM) hse (by exact hdp k oM)) ?_
  rintro e8 w8 ⟨v8,x8,s8,c8,rfl,ag,b2,ad,ah,b3,b4,b5⟩
  refine⟨_,rfl,?_⟩
  have b6:=ag.size
  have b7:AB [g] w w8:=a3.trans ag
  have ai:=a0.run hgS oM ag
  have b8:=ah.1
  replace ad:RN (S++F5) (Bl rI) w8.heap v8 x8:=ad
  refine BQ (u:=v8) (B:=w8.heap.size) BY BJ BR Z Z (Qo w8.heap.size w8.heap.size _<|ad.one1 g1) (A9 _) Ac fun bh bi a2 b9 aj=>?_
  have ax:=a2.size
  have ak:AB [g] w bi:=b7.ext a2
  have a5:=b2.ext a2
  have a4:=ai.ext a2
  have al:=ad.ext g1 a2
  refine FI (v:=vo) (a:=bh) (u:=v8) BJ BR Z Z Z a4 oM aj al sD (by unfold maxLen;first|omega|assumption|(simp;done)|(simp;omega)) Ac ?_
  rintro bj bk G17 a6 a7 ⟨ba,bm,bb⟩
  have ay:=a6.size
  have am:AB [g] w bk:=ak.fresh a6 (fun c hc=>a4.low c (a7 c hc))
  have an:=a5.chg a6 fun hm=>by have:=a4.low _ (a7 _ hm);have:=a4.lt _ (a7 _ hm);omega
  refine Ae 1 Z<|Ad _ [0,0,0] Z<|Af 1 Z<|AS ((k+1:Nat):Int) Z Z (Bg oM sD) Ac<|Ae 1 Z ?_
  exact⟨(k+1,bj,xs++[x8],s8,c8),_,rfl,zR,⟨am,an,sD,(by exact⟨_,_,by assumption⟩),(by rw[z4,zd,hxl]),(by exact CG.snoc hxs (by assumption)),oM,oM,(by exact HM oM hrl (by assumption))⟩,zD⟩
 exact AJ false Z Z (A8 aw) Ac<|Aj<|Ak Z<|A6<|AA<|AA<|Ax<|fQ [0,0] Z<|Ae 2 Z<|A3<|Al [6] Z vo Z ⟨vo,xs,s9,c9,rfl,a3,a1,a0.done hS,(by exact⟨a0.cap,zO,hxs⟩),oM,oM,(by rw[za oM]at hrl;exact hrl)⟩
theorem Uk (F:Nat)(IH:∀d,SV F d):SO F:=by
 intro w S g pp dp n s0 c0 p dfx vf fx va env hS hgS hB0 hp hn hs0 hc0 hfx henv hqenv hvp hF hwf hse hdp hll
 exact J2 w S F g pp dp n s0 c0 p dfx vf fx va env hS hgS hB0 hp hn hs0 hc0 hfx henv hqenv hvp hF hwf hse hdp hll IH
theorem Ul {p:Prop}(h:p:=by first|exact Tq oM oM hKr (by assumption)|exact Tt oM oM hKr (by rw[show(ex.count).toNat=i from by omega];exact hrl9)):p:=h
theorem Hi {p:Prop}(h:p:=by simp[Ge,Gf]):p:=h
theorem J3 (w:World)(S:List Nat)(F:Nat)(g:Nat)(pp:Value)(dp n s0:Nat)(c0:Int)(p:List Fn)(dex:Nat)(ve:Value)(ex:Ex)(vv:Value)(env:List (Sr))(hS:∀b∈S,b<w.heap.size)(hgS:g∈S)(hB0:BX w.heap g [pp,zI (n:Int),zI (s0:Int),zI c0])(hp:RN S (rP (KH dp)) w.heap pp p)(hn:1≤n∧n≤13)(hs0:s0≤3000)(hc0:0≤c0∧c0≤9)(hex:RN S (rP (Nf dex)) w.heap ve ex)(henv:RN S (Bl (Bl rI)) w.heap vv env)(hqenv:Dm vv)(hvp:Od p)(hF:F≤p.length)(hwf:wf p (F:Int) ex (env.length:Int)=true)(hse:CG n env)(hdp:env.length+ex.deep≤1000000)(hk:ex.kind=10∨ex.kind=11)(IH1:∀F',F'<F→∀d,SV F' d)(IH2:∀d',d'<dex→SV F d') :
  Calls Tryz.prog 209 #[zP g,ve,vv] w (fun e w'=>∃(v:Value) (x:Sr) (s1:Nat) (c1:Int),e=.returned v∧AB [g] w w'∧BX w'.heap g [pp,zI (n:Int),zI (s1:Int),zI c1]∧RN S (Bl rI) w'.heap v x∧C9 n x∧s1≤3000∧(0≤c1∧c1≤9)∧AY (go c0 (Ko n (Iy p n F) ex env s0)) x s1 c1):=by
 refine Aw [zP g,ve,vv] 81 Tryz.func209 Z Z sM ?_
 have bo:AB [g] w w:=AB.refl [g] w
 have d0:=henv.lenL
 unfold maxLen at d0
 have dh:=hB0.lt
 have hwk:=KQ hwf hk
 have ay:ex.kind≠9:=by omega
 have hkH:=eN hk
 clear hk
 have hdk:=EF ex
 refine fR Z<|fQ [3,0] Z (Dt rV BY BJ BR Ac fun v1 w1 az cf bp=>?_)
 have b2:=az.size
 have bq:AB [g] w w1:=bo.ext az
 have am:=hB0.ext az
 obtain⟨cv,F1,cw⟩:=I8.nil (S:=S) (bp.low (B':=w.heap.size) (A9 _))
 refine Ae 1 Z<|A0<|fR Z<|A5 ?_
 refine B8 (S:=Nat×Value×List (Sr)×Nat×Int) (fun⟨k,vo,xs,s9,c9⟩=>([(7,vo),(8,zI (k:Int)),(0,zP g),(1,ve),(2,vv)])) (fun⟨k,vo,xs,s9,c9⟩ W=>AB [g] w W∧BX W.heap g [pp,zI (n:Int),zI (s9:Int),zI c9]∧k≤ex.kids.length∧RO 27 S w.heap.size W.heap vo xs∧xs.length=k∧CG n xs∧s9≤3000∧(0≤c9∧c9≤9)∧AY (go c0<|G5 n (Iy p n F) (ex.kids.take k) env s0) xs s9 c9) (fun⟨k,vo,xs,s9,c9⟩=>ex.kids.length-k) (0,v1,([]:List (Sr)),s0,c0) ⟨rfl,rfl,rfl,rfl,rfl,trivial⟩ ⟨bq,am,sD,(by exact⟨_,_,by assumption⟩),(by rfl),(by intro j hj;simp at hj),oM,oM,(by exact Ia _ _ _ _ _ _)⟩ ?_
 clear bo bp cf az b2 bq
 rintro⟨k,vo,xs,s9,c9⟩ ρ2 w2 ⟨a0,a1,br,hbld,hxl,hxs,bs,bt,hrl⟩
 have b3:w.heap.size≤w2.heap.size:=a0.size
 have cx:=a1.lt
 obtain⟨cy,F5,a3⟩:=hbld
 refine A0<|fQ [0,0,0,0,2,0,0] Z<|Af 2 Z<|AX (hex.isPtr) Z Ac ?_
 obtain⟨cs6,cg,a7⟩:=RN.at (AL _) hex
 obtain⟨dd6,al,cz,rfl,b0⟩:=RX.of cg
 have an:=b0.rn.lenle
 unfold maxLen at an
 refine AP (p:=ve) 4 Bv Z (a7 _<|a0.sub<|Bo hgS) Ac<|Ai (p:=Au ve 4) (.inr Z) al BG Z ((a7 _<|a0.sub<|Bo hgS).ld (i:=4) Hi) Ac<|AU (v:=al) DS Z b0.rn.isSl Ac ?_
 by_cases bu:(k:Int)<(ex.kids.length:Int)
 ·refine AJ true Z Z (A7 bu) Ac<|Aj<|Ah Z<|A4<|A0<|A5<|Ad _ [0,0,0,0,0,2,0,0,0,4,3,4,0] Z ?_
  have hvo:=hvp.outs (ex.num).toNat oM
  have hvr:=hvp.par (ex.num).toNat oM
  have hkd:=ET (l:=ex.kids) (k:=k) oM
  have hkb:ex.kids.length≤412:=by omega
  refine Af 3 Z<|AX (hex.isPtr) Z Ac<|AP (p:=ve) 4 Bv Z (a7 _<|a0.sub<|Bo hgS) Ac<|Ai (p:=Au ve 4) (.inr Z) al BG Z ((a7 _<|a0.sub<|Bo hgS).ld (i:=4) Hi) Ac<|Af 1 Z<|AH (v:=al) k DS BM Z Z b0.rn.isSl Z sD Ac<|Af 1 Z ?_
  refine AK 169 [] [] [zP g,AE al k 5,vv] Z Z HR Ac (IH2 dd6 oM _ (S++F5) g pp dp (n) (s9) (c9) (p) (AE al k 5) (ex.kids.getD k Ex.zero) vv (env) (fun b hb=>(by rcases zi.1 hb with hb|hb;(have:=hS b hb;omega);exact a3.lt b hb:b<w2.heap.size)) (z8 _ hgS) a1 ((hp.add (F:=F5) (Bi<|B6 dp) a3.low).chg (Bi<|B6 dp)<|a0.sub<|Pt hgS) oM oM oM (RN.ptr (AL dd6) (by decide) Ex.zero ((b0.rn.add (F:=F5) (Aq<|AL dd6) a3.low).chg (Aq<|AL dd6)<|a0.sub<|Pt hgS) sD) ((henv.add (F:=F5) g2 a3.low).chg g2<|a0.sub<|Pt hgS) hqenv hvp oM (by exact HL hwf oM oM) hse oM) ?_
  rintro e8 w8 ⟨v8,x8,s8,c8,rfl,b4,ch,b1,b5,ci,cj,ck⟩
  refine⟨_,rfl,?_⟩
  have cl:=b4.size
  have cm:AB [g] w w8:=a0.trans b4
  have b6:=a3.run hgS oM b4
  have cn:=b5.1
  replace b1:RN (S++F5) (Bl rI) w8.heap v8 x8:=b1
  refine BQ (u:=v8) (B:=w8.heap.size) BY BJ BR Z Z (Qo w8.heap.size w8.heap.size _<|b1.one1 g1) (A9 _) Ac fun d3 d4 a8 co b7=>?_
  have bv:=a8.size
  have b8:AB [g] w d4:=cm.ext a8
  have af:=ch.ext a8
  have ab:=b6.ext a8
  have b9:=b1.ext g1 a8
  refine FI (v:=vo) (a:=d3) (u:=v8) BJ BR Z Z Z ab oM b7 b9 sD (by unfold maxLen;first|omega|assumption|(simp;done)|(simp;omega)) Ac ?_
  rintro d5 d6 G17 ag ah ⟨cp,di,cq⟩
  have bw:=ag.size
  have ba:AB [g] w d6:=b8.fresh ag (fun c hc=>ab.low c (ah c hc))
  have bb:=af.chg ag fun hm=>by have:=ab.low _ (ah _ hm);have:=ab.lt _ (ah _ hm);omega
  refine Ae 1 Z<|Ad _ [0,0,0] Z<|Af 1 Z<|AS ((k+1:Nat):Int) Z Z (Bg oM sD) Ac<|Ae 1 Z ?_
  exact⟨(k+1,d5,xs++[x8],s8,c8),_,rfl,zR,⟨ba,bb,sD,(by exact⟨_,_,by assumption⟩),(by rw[z4,zd,hxl]),(by exact CG.snoc hxs (by assumption)),oM,oM,(by exact HM oM hrl (by assumption))⟩,zD⟩
 refine AJ false Z Z (A8 bu) Ac<|Aj<|Ak Z<|A6<|AA<|AA<|Ax<|A0<|B7 _ [0,0,0,1,0,0,1,0,0,0,1,0,0] mixed (by kernel_rfl) ?_
 have ad:=a3.done hS
 have hfn19c:=a3.cap
 have hvo:=hvp.outs (ex.num).toNat oM
 have hvr:=hvp.par (ex.num).toNat oM
 have hxk:xs.length=ex.kids.length:=by omega
 have hKr:AY (go c0 (G5 n (Iy p n F) ex.kids env s0)) xs s9 c9:=by rw[za oM]at hrl;exact hrl
 refine Af 1 Z<|Bf Z Ac<|Ao (p:=zP g) 0 VO Z Z Ac<|Ai (p:=Au (zP g) 0) (.inl Z) pp XU Z (a1.ldp (i:=0) sM) Ac<|AX (hp.isPtr) Z Ac ?_
 obtain⟨cs20,bc,ao⟩:=RN.at (B6 _) hp
 obtain⟨a4,rfl,a9⟩:=RPr.of bc
 have ae:=a9.lenle
 unfold maxLen at ae
 refine AP (p:=pp) 0 C8 Z (ao _<|a0.drew.sub<|Bo hgS) Ac<|Ai (p:=Au pp 0) (.inl Z) a4 CO Z ((ao _<|a0.drew.sub<|Bo hgS).ld (i:=0) Hi) Ac<|Af 1 Z<|AX (hex.isPtr) Z Ac<|AP (p:=ve) 1 Cc Z (a7 _<|a0.drew.sub<|Bo hgS) Ac<|Ai (p:=Au ve 1) (.inl Z) (zI ex.num) AG Z ((a7 _<|a0.drew.sub<|Bo hgS).ld (i:=1) Hi) Ac ?_
 refine AH (v:=a4) ((ex.num).toNat) Im DJ Z Z a9.isSl oM sD Ac<|Ae 1 Z<|A0<|fQ [0,0,0,2,0] Z<|Af 1 Z<|AX (hex.isPtr) Z Ac<|AP (p:=ve) 0 Bz Z (a7 _<|a0.drew.sub<|Bo hgS) Ac<|Ai (p:=Au ve 0) (.inr Z) (zI ex.kind) AG Z ((a7 _<|a0.drew.sub<|Bo hgS).ld (i:=0) Hi) Ac ?_
 by_cases ap:ex.kind=((10:Nat):Int)
 ·refine Av true Z Z (A7 ap) Ac<|Aj<|Ah Z<|A0<|B7 _ [0,0,0,0,1,0,0,0,1,0,0,4,0] mixed (by kernel_rfl)<|Af 2 Z ?_
  have hvd:=hvp.deep (ex.num).toNat oM (ex.pick).toNat oM
  refine AX (RN.isPtr<|RN.ptr (AR dp) (by decide) Fn.zero a9 sD) Z Ac ?_
  obtain⟨cs22,bd,aq⟩:=a9.get (AR dp) Fn.zero (k:=(ex.num).toNat) sD
  obtain⟨ac,rfl,ai⟩:=RF.of bd
  have ar:=ai.rn.lenle
  unfold maxLen at ar
  refine AP (p:=AE a4 ((ex.num).toNat) 3) 2 Cv Z (aq _<|a0.drew.drew.sub<|Bo hgS) Ac<|Ai (p:=Au (AE a4 ((ex.num).toNat) 3) 2) (.inl Z) ac BG Z ((aq _<|a0.drew.drew.sub<|Bo hgS).ld (i:=2) Hi) Ac<|Af 1 Z<|AX (hex.isPtr) Z Ac<|AP (p:=ve) 2 Et Z (a7 _<|a0.drew.drew.sub<|Bo hgS) Ac<|Ai (p:=Au ve 2) (.inl Z) (zI ex.pick) AG Z ((a7 _<|a0.drew.drew.sub<|Bo hgS).ld (i:=2) Hi) Ac ?_
  refine AH (v:=ac) ((ex.pick).toNat) DS BM Z Z ai.rn.isSl oM sD Ac<|Af 1 Z ?_
  refine AK 169 [] [] [zP g,AE ac ((ex.pick).toNat) 5,vo] Z Z HR Ac (IH1 (ex.num).toNat oM dp _ S g pp dp (n) (s9) (c9) (p) (AE ac ((ex.pick).toNat) 5) (((p.getD ((ex.num).toNat) Fn.zero).outs).getD ((ex.pick).toNat) Ex.zero) vo (xs) (fun b hb=>(by have:=hS b hb;omega:b<w2.heap.size)) hgS a1 (hp.chg (Bi<|B6 dp)<|a0.drew.drew.sub<|Bo hgS) oM oM oM (RN.ptr (AL dp) (by decide) Ex.zero (ai.rn.chg (Aq<|AL dp)<|a0.drew.drew.sub<|Bo hgS) sD) ad hfn19c hvp oM (by have h9:=hvp.wf (ex.num).toNat oM (ex.pick).toNat oM;rw[show(xs.length:Int)=(p.getD (ex.num).toNat Fn.zero).params from by omega];exact h9) hxs oM) ?_
  rintro dj d7 ⟨d2,d8,da,db,rfl,a5,be,bf,au,bx,bz,c2⟩
  refine⟨_,rfl,?_⟩
  replace a5:=a5.of_drew
  replace a5:=a5.of_drew
  have c3:=a5.size
  have bg:AB [g] w d7:=a0.trans a5
  have cr:=ad.run g2 hgS a5
  have c4:=au.1
  exact Ae 1 Z<|A3<|At<|Al [6] Z d2 Z ⟨d2,d8,da,db,rfl,bg,be,bf,(by first|assumption|exact hks _ oM),oM,oM,Ul⟩
 refine Av false Z Z (A8 ap) Ac<|Aj<|Ak Z<|A4<|A0<|fQ [0] Z ?_
 have bh:ex.kind=11:=by have h9:ex.kind=10∨ex.kind=11:=hkH;omega
 have hwl:=QN hwf bh
 refine Ae 1 Z<|A5 ?_
 refine B8 (S:=Nat×Value×List (Sr)×Nat×Int) (fun⟨i,vk,ks,s8,c8⟩=>([(7,vk),(10,zI (i:Int)),(0,zP g),(1,ve),(9,AE a4 ((ex.num).toNat) 3)])) (fun⟨i,vk,ks,s8,c8⟩ W=>AB [g] w W∧BX W.heap g [pp,zI (n:Int),zI (s8:Int),zI c8]∧i≤(ex.count).toNat∧RN S (Bl<|Bl rI) W.heap vk ks∧Dm vk∧ks.length=(p.getD (ex.num).toNat Fn.zero).outs.length∧CG n ks∧s8≤3000∧(0≤c8∧c8≤9)∧AY (go c9<|Sb (fun a t=>G5 n (Iy p n (ex.num).toNat) (p.getD (ex.num).toNat Fn.zero).outs a t) i xs s9) ks s8 c8) (fun⟨i,vk,ks,s8,c8⟩=>(ex.count).toNat-i) (0,vo,xs,s9,c9) ⟨rfl,rfl,rfl,rfl,rfl,trivial⟩ ⟨a0.drew,a1,oM,(by assumption),(by assumption),oM,(by assumption),oM,oM,(by exact Ts Z)⟩ ?_
 clear a1 a0 b3 an ae
 rintro⟨i,vk,ks,s8,c8⟩ ρ31 d1 ⟨a2,a6,bi,hrk,hck,hkl,hks,bj,bk,hrl9⟩
 have c5:w.heap.size≤d1.heap.size:=a2.size
 have cs:=a6.lt
 refine A0<|fQ [0,0,0,0,2,0] Z<|Af 2 Z<|AX (hex.isPtr) Z Ac<|AP (p:=ve) 3 E6 Z (a7 _<|a2.sub<|Bo hgS) Ac<|Ai (p:=Au ve 3) (.inr Z) (zI ex.count) AG Z ((a7 _<|a2.sub<|Bo hgS).ld (i:=3) Hi) Ac ?_
 by_cases av:(i:Int)<ex.count
 ·refine AJ true Z Z (A7 av) Ac<|Aj<|Ah Z<|A4<|A0<|A5<|Ad _ [0,0,0,4,0] Z<|Af 3 Z ?_
  refine AK 113 [] [] [zP g,AE a4 ((ex.num).toNat) 3,vk] Z Z XF Ac (Uk (ex.num).toNat (fun d9=>IH1 (ex.num).toNat oM d9) _ S g pp dp (n) (s8) (c8) (p) dp (AE a4 ((ex.num).toNat) 3) (p.getD ((ex.num).toNat) Fn.zero) vk (ks) (fun b hb=>(by have:=hS b hb;omega:b<d1.heap.size)) hgS a6 (hp.chg (Bi<|B6 dp)<|a2.sub<|Bo hgS) oM oM oM (RN.ptr (AR dp) (by decide) Fn.zero (a9.chg (Aq<|AR dp)<|a2.sub<|Bo hgS) sD) hrk hck hvp oM (by intro k9 ay;have h9:=hvp.wf (ex.num).toNat oM k9 ay;rw[show(ks.length:Int)=(p.getD (ex.num).toNat Fn.zero).params from by omega];exact h9) hks (by intro k9 ay;have:=hvp.deep (ex.num).toNat oM k9 ay;omega) oM) ?_
  rintro dk dc ⟨dd,de,df,dg,rfl,aj,bl,ct,aa,c6,c7,ca⟩
  refine⟨_,rfl,?_⟩
  have cb:=aj.size
  have bm:AB [g] w dc:=a2.trans aj
  have cu:=hrk.run g2 hgS aj
  have cc:=aa.2.1
  have cd:=aa.2.2
  have ce:=aa.1
  exact Ae 1 Z<|Ad _ [0,0,0] Z<|Af 1 Z<|AS ((i+1:Nat):Int) Z Z (Bg oM oM) Ac<|Ae 1 Z ⟨(i+1,dd,de,df,dg),_,rfl,zR,⟨bm,bl,oM,(by assumption),(by assumption),oM,(by assumption),oM,oM,(by exact Tr hrl9 (by assumption))⟩,zD⟩
 refine AJ false Z Z (A8 av) Ac<|Aj<|Ak Z<|A6<|AA<|AA<|Ax<|fQ [0,0,0,0,2,0,2,0] Z<|Af 2 Z<|AX (hex.isPtr) Z Ac<|AP (p:=ve) 2 Et Z (a7 _<|a2.sub<|Bo hgS) Ac<|Ai (p:=Au ve 2) (.inr Z) (zI ex.pick) AG Z ((a7 _<|a2.sub<|Bo hgS).ld (i:=2) Hi) Ac ?_
 refine AH (v:=vk) ((ex.pick).toNat) BJ BR Z Z hrk.slL oM sD Ac ?_
 obtain⟨ak,bn,aw⟩:=RN.getL (w:=d1) g1 [] (k:=(ex.pick).toNat) hrk sD
 have ax:=aw.lenL
 unfold maxLen at ax
 exact Ai (p:=AE vk ((ex.pick).toNat) 1) (.inr Z) ak BN Z (bn _<|AB.refl _ _) Ac<|Ae 1 Z<|A3<|Al [6] Z ak Z ⟨ak,ks.getD ((ex.pick).toNat) [],s8,c8,rfl,a2,a6,aw,(by first|assumption|exact hks _ oM),oM,oM,Ul⟩
theorem Um (F d:Nat)(IH1:∀F',F'<F→∀d,SV F' d)(IH2:∀d',d'<d→SV F d'):SC F d:=by
 intro w S g pp dp n s0 c0 p ve ex vv env hS hgS a0 hp hn a1 a2 hex henv hqenv hvp hF hwf hse hdp hk
 exact J3 w S F g pp dp n s0 c0 p d ve ex vv env hS hgS a0 hp hn a1 a2 hex henv hqenv hvp hF hwf hse hdp hk IH1 IH2
theorem Un {p:Prop}(h:p:=by first|exact UX hc00 hs1 oM oM ‹AY (go c0 (Gh _ _ (ex.kids.getD 0 _) _ _)) _ _ _› oM (by assumption)|exact UY hc00 hs1 oM oM ‹AY (go c0 (Gh _ _ (ex.kids.getD 0 _) _ _)) _ _ _› oM (by assumption)):p:=h
theorem O2 {p:Prop}(h:p:=by have:=ET (l:=ex.kids) (k:=0) oM;omega):p:=h
theorem J4 {p:Prop}(h:p:=by exact HL hwf oM oM):p:=h
theorem Ew {p:Prop}(h:p:=by simp[Ge,Gf]):p:=h
theorem J5 (w:World)(S:List Nat)(F:Nat)(g:Nat)(pp:Value)(dp n s0:Nat)(c0:Int)(p:List Fn)(dex:Nat)(ve:Value)(ex:Ex)(vv:Value)(env:List (Sr))(hS:∀b∈S,b<w.heap.size)(hgS:g∈S)(b0:BX w.heap g [pp,zI (n:Int),zI (s0:Int),zI c0])(hp:RN S (rP (KH dp)) w.heap pp p)(hn:1≤n∧n≤13)(j2:s0≤3000)(j3:0≤c0∧c0≤9)(hex:RN S (rP (Nf dex)) w.heap ve ex)(henv:RN S (Bl (Bl rI)) w.heap vv env)(hqenv:Dm vv)(hvp:Od p)(hF:F≤p.length)(hwf:wf p (F:Int) ex (env.length:Int)=true)(hse:CG n env)(hdp:env.length+ex.deep≤1000000)(IH1:∀F',F'<F→∀d,SV F' d)(IH2:∀d',d'<dex→SV F d') :
  Calls Tryz.prog 169 #[zP g,ve,vv] w (fun e w'=>∃(v:Value) (x:Sr) (s1:Nat) (c1:Int),e=.returned v∧AB [g] w w'∧BX w'.heap g [pp,zI (n:Int),zI (s1:Int),zI c1]∧RN S (Bl rI) w'.heap v x∧C9 n x∧s1≤3000∧(0≤c1∧c1≤9)∧AY (go c0 (Gh n (Iy p n F) ex env s0)) x s1 c1):=by
 refine Aw [zP g,ve,vv] 186 Tryz.func169 Z Z sM ?_
 have bk:AB [g] w w:=AB.refl [g] w
 have fr:=henv.lenL
 unfold maxLen at fr
 have l1:=b0.lt
 have hdk:=EF ex
 refine fR Z<|A0<|fQ [0,0,0,2,0] Z<|Af 1 Z<|Bf Z Ac<|Ao (p:=zP g) 3 Hg Z Z Ac<|Ai (p:=Au (zP g) 3) (.inr Z) (zI c0) AG Z (b0.ldp (i:=3) sM) Ac ?_
 by_cases e8:c0≠((0:Nat):Int)
 ·refine Be true Z Z (A7 e8) Ac<|Aj<|Ah Z<|fQ [0,0,0,0,2,4,0] Z<|Af 2 Z<|Bf Z Ac<|Ao (p:=zP g) 3 Hg Z Z Ac<|Ai (p:=Au (zP g) 3) (.inr Z) (zI c0) AG Z (b0.ldp (i:=3) sM) Ac<|AK 205 [] [] [zP g,zI c0] Z Z Rq Ac (Dc _ S g pp dp (n) (s0) (c0) (p) (c0) (fun b hb=>(by have:=hS b hb;omega:b<w.heap.size)) hgS b0 (hp.chg (Bi<|B6 dp)<|bk.sub<|Bo hgS) oM oM oM oM oM) ?_
  rintro e2 w2 ⟨v2,x2,s2,c2,rfl,e9,i9,ia,d1,ib,ic,bl⟩
  refine⟨_,rfl,?_⟩
  have id:=e9.size
  have ie:AB [g] w w2:=bk.trans e9
  have ig:=d1.1
  have hfs:=bl.1
  have hff:=bl.2
  exact Ae 1 Z<|A3<|At<|Al [6] Z v2 Z ⟨v2,x2,s2,c2,rfl,ie,i9,ia,(by assumption),oM,oM,(by rw[hff,if_neg oM];exact T0 oM)⟩
 refine Be false Z Z (A8 e8) Ac<|Aj<|Ak Z<|A4<|A0<|fQ [0,0,0,2,0] Z<|Af 1 Z<|Bf Z Ac<|Ao (p:=zP g) 2 L1 Z Z Ac<|Ai (p:=Au (zP g) 2) (.inr Z) (zI (s0:Int)) AG Z (b0.ldp (i:=2) sM) Ac ?_
 by_cases ea:(s0:Int)=((3000:Nat):Int)
 ·refine Av true Z Z (A7 ea) Ac<|Aj<|Ah Z<|fQ [0,4,0] Z<|Af 1 Z<|AK 205 [] [] [zP g,zI ((7:Nat):Int)] Z Z Rq Ac (Dc _ S g pp dp (n) (s0) (c0) (p) ((7:Nat):Int) (fun b hb=>(by have:=hS b hb;omega:b<w.heap.size)) hgS b0 (hp.chg (Bi<|B6 dp)<|bk.sub<|Bo hgS) oM oM oM oM oM) ?_
  rintro e7 w7 ⟨v7,x7,s7,c7,rfl,eb,ih,ii,d2,ij,ik,bm⟩
  refine⟨_,rfl,?_⟩
  have il:=eb.size
  have im:AB [g] w w7:=bk.trans eb
  have io:=d2.1
  have hfs:=bm.1
  have hff:=bm.2
  exact Ae 1 Z<|A3<|At<|Al [6] Z v7 Z ⟨v7,x7,s7,c7,rfl,im,ih,ii,(by assumption),oM,oM,(by rw[hff,if_pos oM];exact Pz oM oM)⟩
 refine Av false Z Z (A8 ea) Ac<|Aj<|Ak Z<|A4<|fQ [0,0,0,2,0,0,0,4] Z<|Af 1 Z<|Bf Z Ac<|Ao (p:=zP g) 2 L1 Z Z Ac<|Ai (p:=Au (zP g) 2) (.inr Z) (zI (s0:Int)) AG Z (b0.ldp (i:=2) sM) Ac<|AS ((s0+1:Nat):Int) Z Z (Bg oM oM) Ac<|Bf Z Ac<|Ao (p:=zP g) 2 L1 Z Z Ac (Bn (k:=2) (w:=w) GS Z Z ⟨rfl,rfl⟩ b0 sM Ac fun f1 bn ip a7=>?_)
 replace a7:BX f1.heap g [pp,zI (n:Int),zI ((s0+1:Nat):Int),zI c0]:=a7
 have a0:AB [g] w f1:=bk.trans bn
 have ec:=bn.size
 refine Aj<|A0<|fQ [0,0,0,2] Z ?_
 have hc00:c0=0:=by omega
 have hs1:s0+1≤3000:=by omega
 refine Af 1 Z<|AX (hex.isPtr) Z Ac ?_
 obtain⟨cs12,d3,a2⟩:=RN.at (AL _) hex
 obtain⟨dd12,a1,iq,rfl,a3⟩:=RX.of d3
 have bo:=a3.rn.lenle
 unfold maxLen at bo
 refine AP (p:=ve) 0 Bz Z (a2 _<|a0.sub<|Bo hgS) Ac<|Ai (p:=Au ve 0) (.inr Z) (zI ex.kind) AG Z ((a2 _<|a0.sub<|Bo hgS).ld (i:=0) Ew) Ac<|Aj<|A5<|fQ [0,0] Z ?_
 by_cases bp:ex.kind=((1:Nat):Int)
 ·refine Av true Z Z (A7 bp) Ac<|Ae 1 Z<|Ah Z<|A0<|B7 _ [0,0,0,1,0,0,0,1,3,0] mixed (by kernel_rfl) ?_
  have hwk:=SU hwf oM
  refine Af 1 Z<|AX (hex.isPtr) Z Ac<|AP (p:=ve) 1 Cc Z (a2 _<|a0.drew.sub<|Bo hgS) Ac<|Ai (p:=Au ve 1) (.inl Z) (zI ex.num) AG Z ((a2 _<|a0.drew.sub<|Bo hgS).ld (i:=1) Ew) Ac<|Af 1 Z<|Bf Z Ac<|Ao (p:=zP g) 1 NV Z Z Ac<|Ai (p:=Au (zP g) 1) (.inl Z) (zI (n:Int)) Mo Z (a7.ldp (i:=1) sM) Ac ?_
  refine Ay 206 [] [] [zI ex.num,zI (n:Int)] Z Z U4 Ac (Fl _ _ (n) a3.rng.num sD oM) ?_
  rintro l2 jw ⟨b1,rfl,ae,aa⟩
  refine⟨_,rfl,ae,?_⟩
  replace ae:=ae.of_drew
  have ed:=ae.size
  have d4:AB [g] w jw:=a0.ext ae
  have an:=a7.ext ae
  replace aa:=aa.low (B':=f1.heap.size)<|A9 _
  exact Ae 1 Z<|A3<|AM<|At<|Al [6] Z b1 Z ⟨b1,Fj n ex.num,s0+1,c0,rfl,d4,an,RN.of_fr1 aa fun b hb=>zH<|hS b hb,(by exact Fx (Cz.2 oM)),oM,oM,(by exact UV hc00 hs1 oM)⟩
 refine Av false Z Z (A8 bp) Ac<|Ae 1 Z<|Ak Z<|fQ [0,0] Z ?_
 by_cases bq:ex.kind=((2:Nat):Int)
 ·refine Av true Z Z (A7 bq) Ac<|Ae 1 Z<|Ah Z<|fQ [0,0,0,0,2,0,2,0] Z ?_
  have hwk:=SW hwf oM
  refine Af 2 Z<|AX (hex.isPtr) Z Ac<|AP (p:=ve) 1 Cc Z (a2 _<|a0.sub<|Bo hgS) Ac<|Ai (p:=Au ve 1) (.inr Z) (zI ex.num) AG Z ((a2 _<|a0.sub<|Bo hgS).ld (i:=1) Ew) Ac<|AH (v:=vv) ((ex.num).toNat) BJ BR Z Z henv.slL oM sD Ac ?_
  obtain⟨ba,d5,br⟩:=RN.getL (w:=w) g1 [] (k:=(ex.num).toNat) henv sD
  have bs:=br.lenL
  unfold maxLen at bs
  exact Ai (p:=AE vv ((ex.num).toNat) 1) (.inr Z) ba BN Z (d5 _<|a0.sub<|Bo hgS) Ac<|Ae 1 Z<|A3<|AM<|At<|Al [6] Z ba Z ⟨ba,env.getD ((ex.num).toNat) [],s0+1,c0,rfl,a0,a7,br.chg g1<|a0.sub<|Bo hgS,(by exact hse _ oM),oM,oM,(by exact UW hc00 hs1 oM)⟩
 refine Av false Z Z (A8 bq) Ac<|Ae 1 Z<|Ak Z<|fQ [0,0] Z ?_
 by_cases bt:ex.kind=((7:Nat):Int)
 ·refine Av true Z Z (A7 bt) Ac<|Ae 1 Z<|Ah Z<|fQ [0,0,0,0,2,0,0,4,3,0] Z ?_
  have hwk:=SY hwf oM
  refine Af 2 Z<|AX (hex.isPtr) Z Ac<|AP (p:=ve) 4 Bv Z (a2 _<|a0.sub<|Bo hgS) Ac<|Ai (p:=Au ve 4) (.inr Z) a1 BG Z ((a2 _<|a0.sub<|Bo hgS).ld (i:=4) Ew) Ac<|AH (v:=a1) 0 DS BM Z Z a3.rn.isSl Z sD Ac<|Af 1 Z ?_
  refine AK 169 [] [] [zP g,AE a1 0 5,vv] Z Z HR Ac (IH2 dd12 oM _ S g pp dp (n) (s0+1) (c0) (p) (AE a1 0 5) (ex.kids.getD 0 Ex.zero) vv (env) (fun b hb=>(by have:=hS b hb;omega:b<f1.heap.size)) hgS a7 (hp.chg (Bi<|B6 dp)<|a0.sub<|Bo hgS) oM oM oM (RN.ptr (AL dd12) (by decide) Ex.zero (a3.rn.chg (Aq<|AL dd12)<|a0.sub<|Bo hgS) sD) (henv.chg g2<|a0.sub<|Bo hgS) hqenv hvp oM J4 hse O2) ?_
  rintro l3 jx ⟨jy,jz,k0,k1,rfl,bu,d6,bv,bw,ee,ef,eg⟩
  refine⟨_,rfl,?_⟩
  have eh:=bu.size
  have d7:AB [g] w jx:=a0.trans bu
  have ei:=bw.1
  refine Ay 207 [] [] [jy,zI ((1000002:Nat):Int)] Z Z XQ Ac (Ht _ _ _ _ (bv).rd oM oM) ?_
  rintro l4 k2 ⟨b2,rfl,aj,bb⟩
  refine⟨_,rfl,aj,?_⟩
  have ej:=aj.size
  have d8:AB [g] w k2:=d7.ext aj
  have ao:=d6.ext aj
  have ir:=bv.ext g1 aj
  exact Ae 1 Z<|A3<|AM<|At<|Al [6] Z b2 Z ⟨b2,ZL jz ((1000002:Nat):Int),k0,k1,rfl,d8,ao,RN.of_fr1 bb fun b hb=>zH<|hS b hb,(by rw[Qc];exact Li (by assumption)),oM,oM,(by exact H9 hc00 hs1 oM (YW oM ‹AY (go c0<|Gh _ _ (ex.kids.getD 0 _) _ _) _ _ _›) (fun h0=>by rw[h0,Qc];exact YC oM) (fun _=>rfl))⟩
 refine Av false Z Z (A8 bt) Ac<|Ae 1 Z<|Ak Z<|fQ [0,0] Z ?_
 by_cases bx:ex.kind=((8:Nat):Int)
 ·refine Av true Z Z (A7 bx) Ac<|Ae 1 Z<|Ah Z<|A0<|fQ [0,0,0,0,2,0,0,4,0,2,0] Z ?_
  have hwk:=X8 hwf oM
  refine Af 2 Z<|AX (hex.isPtr) Z Ac<|AP (p:=ve) 4 Bv Z (a2 _<|a0.sub<|Bo hgS) Ac<|Ai (p:=Au ve 4) (.inr Z) a1 BG Z ((a2 _<|a0.sub<|Bo hgS).ld (i:=4) Ew) Ac<|AH (v:=a1) 0 DS BM Z Z a3.rn.isSl Z sD Ac<|Af 1 Z ?_
  refine AK 169 [] [] [zP g,AE a1 0 5,vv] Z Z HR Ac (IH2 dd12 oM _ S g pp dp (n) (s0+1) (c0) (p) (AE a1 0 5) (ex.kids.getD 0 Ex.zero) vv (env) (fun b hb=>(by have:=hS b hb;omega:b<f1.heap.size)) hgS a7 (hp.chg (Bi<|B6 dp)<|a0.sub<|Bo hgS) oM oM oM (RN.ptr (AL dd12) (by decide) Ex.zero (a3.rn.chg (Aq<|AL dd12)<|a0.sub<|Bo hgS) sD) (henv.chg g2<|a0.sub<|Bo hgS) hqenv hvp oM J4 hse O2) ?_
  rintro l5 fx ⟨jg,jh,ji,jj,rfl,bz,c3,ap,c4,ek,el,en⟩
  refine⟨_,rfl,?_⟩
  have eo:=bz.size
  have a5:AB [g] w fx:=a0.trans bz
  have ep:=c4.1
  refine AH (v:=jg) 0 Bu BL Z Z ap.slL Z sD Ac ?_
  have d9:=RN.getI (w:=fx) (k:=0) ap sD
  refine Ai (p:=AE jg 0 1) (.inr Z) (zI<|jh.getD 0 0) AG Z (d9.1 _<|AB.refl _ _) Ac ?_
  by_cases c5:jh.getD 0 0=((0:Nat):Int)
  ·refine Av true Z Z (A7 c5) Ac<|Aj<|Ah Z<|fQ [0,0,0,0,2,0,0,4,0] Z<|Af 2 Z<|AX (hex.isPtr) Z Ac<|AP (p:=ve) 4 Bv Z (a2 _<|a5.sub<|Bo hgS) Ac<|Ai (p:=Au ve 4) (.inr Z) a1 BG Z ((a2 _<|a5.sub<|Bo hgS).ld (i:=4) Ew) Ac<|AH (v:=a1) 1 DS BM Z Z a3.rn.isSl Z sD Ac ?_
   refine Af 1 Z ?_
   refine AK 169 [] [] [zP g,AE a1 1 5,vv] Z Z HR Ac (IH2 dd12 oM _ S g pp dp (n) (ji) (jj) (p) (AE a1 1 5) (ex.kids.getD 1 Ex.zero) vv (env) (fun b hb=>(by have:=hS b hb;omega:b<fx.heap.size)) hgS c3 (hp.chg (Bi<|B6 dp)<|a5.sub<|Bo hgS) oM oM oM (RN.ptr (AL dd12) (by decide) Ex.zero (a3.rn.chg (Aq<|AL dd12)<|a5.sub<|Bo hgS) sD) (henv.chg g2<|a5.sub<|Bo hgS) hqenv hvp oM J4 hse (zH<|ET (l:=ex.kids) (k:=1) oM)) ?_
   rintro l6 k3 ⟨jk,k4,k5,k6,rfl,bc,da,db,c6,eq,er,es⟩
   refine⟨_,rfl,?_⟩
   have et:=bc.size
   have dc:AB [g] w k3:=a5.trans bc
   have is:=ap.run g1 hgS bc
   have eu:=c6.1
   exact Ae 1 Z<|A3<|At<|AM<|At<|Al [6] Z jk Z ⟨jk,k4,k5,k6,rfl,dc,da,db,(by assumption),oM,oM,Un⟩
  refine Av false Z Z (A8 c5) Ac<|Aj<|Ak Z<|A4<|fQ [0,0,0,0,2,0,0,4,0] Z<|Af 2 Z<|AX (hex.isPtr) Z Ac<|AP (p:=ve) 4 Bv Z (a2 _<|a5.sub<|Bo hgS) Ac<|Ai (p:=Au ve 4) (.inr Z) a1 BG Z ((a2 _<|a5.sub<|Bo hgS).ld (i:=4) Ew) Ac ?_
  refine AH (v:=a1) 2 DS BM Z Z a3.rn.isSl Z sD Ac<|Af 1 Z ?_
  refine AK 169 [] [] [zP g,AE a1 2 5,vv] Z Z HR Ac (IH2 dd12 oM _ S g pp dp (n) (ji) (jj) (p) (AE a1 2 5) (ex.kids.getD 2 Ex.zero) vv (env) (fun b hb=>(by have:=hS b hb;omega:b<fx.heap.size)) hgS c3 (hp.chg (Bi<|B6 dp)<|a5.sub<|Bo hgS) oM oM oM (RN.ptr (AL dd12) (by decide) Ex.zero (a3.rn.chg (Aq<|AL dd12)<|a5.sub<|Bo hgS) sD) (henv.chg g2<|a5.sub<|Bo hgS) hqenv hvp oM J4 hse (zH<|ET (l:=ex.kids) (k:=2) oM)) ?_
  rintro l7 k7 ⟨jl,k8,k9,ka,rfl,bd,dd,de,c8,ev,ew,ey⟩
  refine⟨_,rfl,?_⟩
  have ez:=bd.size
  have df:AB [g] w k7:=a5.trans bd
  have it:=ap.run g1 hgS bd
  have g0:=c8.1
  exact Ae 1 Z<|A3<|AM<|At<|Al [6] Z jl Z ⟨jl,k8,k9,ka,rfl,df,dd,de,(by assumption),oM,oM,Un⟩
 refine Av false Z Z (A8 bx) Ac<|Ae 1 Z<|Ak Z<|fQ [0,0] Z ?_
 by_cases c9:ex.kind=((9:Nat):Int)
 ·refine Av true Z Z (A7 c9) Ac<|Ae 1 Z<|Ah Z<|fQ [0,0,0,0,2,0,0,4,0] Z ?_
  have hwk:=SX hwf oM
  refine Af 2 Z<|AX (hex.isPtr) Z Ac<|AP (p:=ve) 4 Bv Z (a2 _<|a0.sub<|Bo hgS) Ac<|Ai (p:=Au ve 4) (.inr Z) a1 BG Z ((a2 _<|a0.sub<|Bo hgS).ld (i:=4) Ew) Ac<|AH (v:=a1) 0 DS BM Z Z a3.rn.isSl Z sD Ac<|Af 1 Z ?_
  refine AK 169 [] [] [zP g,AE a1 0 5,vv] Z Z HR Ac (IH2 dd12 oM _ S g pp dp (n) (s0+1) (c0) (p) (AE a1 0 5) (ex.kids.getD 0 Ex.zero) vv (env) (fun b hb=>(by have:=hS b hb;omega:b<f1.heap.size)) hgS a7 (hp.chg (Bi<|B6 dp)<|a0.sub<|Bo hgS) oM oM oM (RN.ptr (AL dd12) (by decide) Ex.zero (a3.rn.chg (Aq<|AL dd12)<|a0.sub<|Bo hgS) sD) (henv.chg g2<|a0.sub<|Bo hgS) hqenv hvp oM J4 hse O2) ?_
  rintro l8 jm ⟨jn,jo,kb,kc,rfl,ca,dg,cb,cc,g3,g4,g5⟩
  refine⟨_,rfl,?_⟩
  have g6:=ca.size
  have aq:AB [g] w jm:=a0.trans ca
  have g7:=cc.1
  refine Ae 1 Z<|A0<|B7 _ [0,0,0,0,1,0,0,0,3,4,0] mixed (by kernel_rfl)<|Af 2 Z<|AX (hex.isPtr) Z Ac<|AP (p:=ve) 4 Bv Z (a2 _<|aq.drew.sub<|Bo hgS) Ac<|Ai (p:=Au ve 4) (.inl Z) a1 BG Z ((a2 _<|aq.drew.sub<|Bo hgS).ld (i:=4) Ew) Ac<|AH (v:=a1) 1 DS BM Z Z a3.rn.isSl Z sD Ac<|Af 2 Z ?_
  refine Ay 208 [] [] [vv,jn] Z Z cX Ac (MA _ S vv (env) jn (jo) (fun b hb=>(by have:=hS b hb;omega:b<jm.heap.size)) (henv.chg g2<|aq.drew.sub<|Bo hgS) hqenv cb oM) ?_
  rintro l9 jp ⟨jq,rfl,ab,cd,ce⟩
  refine⟨_,rfl,ab,?_⟩
  replace ab:=ab.of_drew
  have g8:=ab.size
  have be:AB [g] w jp:=aq.ext ab
  have ar:=dg.ext ab
  have dh:=cb.ext g1 ab
  refine AK 169 [] [] [zP g,AE a1 1 5,jq] Z Z HR Ac (IH2 dd12 oM _ S g pp dp (n) (kb) (kc) (p) (AE a1 1 5) (ex.kids.getD 1 Ex.zero) jq (env++[jo]) (fun b hb=>(by have:=hS b hb;omega:b<jp.heap.size)) hgS ar (hp.chg (Bi<|B6 dp)<|be.sub<|Bo hgS) oM oM oM (RN.ptr (AL dd12) (by decide) Ex.zero (a3.rn.chg (Aq<|AL dd12)<|be.sub<|Bo hgS) sD) cd ce hvp oM (by have h9:=Py hwf oM oM;rw[z4,zd];exact h9) (by exact hse.snoc (by assumption)) (by have:=ET (l:=ex.kids) (k:=1) oM;rw[z4,zd];omega)) ?_
  rintro la kd ⟨jr,ke,kf,kg,rfl,au,di,dj,cf,g9,ga,gb⟩
  refine⟨_,rfl,?_⟩
  have gc:=au.size
  have dk:AB [g] w kd:=be.trans au
  have iu:=dh.run g1 hgS au
  have iv:=cd.run g2 hgS au
  have gd:=cf.1
  exact Ae 1 Z<|A3<|AM<|At<|Al [6] Z jr Z ⟨jr,ke,kf,kg,rfl,dk,di,dj,(by assumption),oM,oM,(by exact UZ hc00 hs1 oM oM ‹AY (go c0<|Gh _ _ (ex.kids.getD 0 _) _ _) _ _ _› (by assumption))⟩
 refine Av false Z Z (A8 c9) Ac<|Ae 1 Z<|Ak Z<|A0<|fQ [0,0] Z ?_
 by_cases cg:ex.kind=((10:Nat):Int)
 ·refine Av true Z Z (A7 cg) Ac<|Ae 1 Z<|Ah Z<|A4<|Ah Z<|fQ [0,0,0,4,0] Z<|Af 3 Z<|AK 209 [] [] [zP g,ve,vv] Z Z XR Ac (Um F dex IH1 IH2 _ S g pp dp (n) (s0+1) (c0) (p) ve (ex) vv (env) (fun b hb=>(by have:=hS b hb;omega:b<f1.heap.size)) hgS a7 (hp.chg (Bi<|B6 dp)<|a0.sub<|Bo hgS) oM oM oM (hex.chg (Bi<|AL dex)<|a0.sub<|Bo hgS) (henv.chg g2<|a0.sub<|Bo hgS) hqenv hvp oM hwf hse oM oM) ?_
  rintro lb kh ⟨js,ki,kj,kk,rfl,ch,dl,dm,ci,ge,gf,gg⟩
  refine⟨_,rfl,?_⟩
  have gh:=ch.size
  have dn:AB [g] w kh:=a0.trans ch
  have gi:=ci.1
  exact Ae 1 Z<|A3<|AM<|At<|Al [6] Z js Z ⟨js,ki,kj,kk,rfl,dn,dl,dm,(by assumption),oM,oM,(by exact MV hc00 hs1 oM (by assumption))⟩
 refine Av false Z Z (A8 cg) Ac<|Ae 1 Z<|Ak Z<|Ad _ [0,0] Z ?_
 by_cases cj:ex.kind=((11:Nat):Int)
 ·refine Av true Z Z (A7 cj) Ac<|Ae 1 Z<|Ah Z<|fQ [0,0,0,4,0] Z<|Af 3 Z<|AK 209 [] [] [zP g,ve,vv] Z Z XR Ac (Um F dex IH1 IH2 _ S g pp dp (n) (s0+1) (c0) (p) ve (ex) vv (env) (fun b hb=>(by have:=hS b hb;omega:b<f1.heap.size)) hgS a7 (hp.chg (Bi<|B6 dp)<|a0.sub<|Bo hgS) oM oM oM (hex.chg (Bi<|AL dex)<|a0.sub<|Bo hgS) (henv.chg g2<|a0.sub<|Bo hgS) hqenv hvp oM hwf hse oM oM) ?_
  rintro lc kl ⟨jt,km,ko,kp,rfl,ck,dq,dr,cl,gj,gk,gl⟩
  refine⟨_,rfl,?_⟩
  have gm:=ck.size
  have ds:AB [g] w kl:=a0.trans ck
  have gn:=cl.1
  exact Ae 1 Z<|A3<|AM<|At<|Al [6] Z jt Z ⟨jt,km,ko,kp,rfl,ds,dq,dr,(by assumption),oM,oM,(by exact MV hc00 hs1 oM (by assumption))⟩
 refine Av false Z Z (A8 cj) Ac<|Ae 1 Z<|Ak Z<|A4<|fQ [0,0,0,0,2,0,0,4,0] Z ?_
 have hkk:ex.kind=3∨ex.kind=4∨ex.kind=5∨ex.kind=6:=Yu hwf oM
 have j4:ex.kids.length=2:=SZ hwf hkk
 have j5:=ET (l:=ex.kids) (k:=0) oM
 have j6:=ET (l:=ex.kids) (k:=1) oM
 refine Af 2 Z<|AX (hex.isPtr) Z Ac<|AP (p:=ve) 4 Bv Z (a2 _<|a0.sub<|Bo hgS) Ac<|Ai (p:=Au ve 4) (.inr Z) a1 BG Z ((a2 _<|a0.sub<|Bo hgS).ld (i:=4) Ew) Ac<|AH (v:=a1) 0 DS BM Z Z a3.rn.isSl Z sD Ac<|Af 1 Z ?_
 refine AK 169 [] [] [zP g,AE a1 0 5,vv] Z Z HR Ac (IH2 dd12 oM _ S g pp dp (n) (s0+1) (c0) (p) (AE a1 0 5) (ex.kids.getD 0 Ex.zero) vv (env) (fun b hb=>(by have:=hS b hb;omega:b<f1.heap.size)) hgS a7 (hp.chg (Bi<|B6 dp)<|a0.sub<|Bo hgS) oM oM oM (RN.ptr (AL dd12) (by decide) Ex.zero (a3.rn.chg (Aq<|AL dd12)<|a0.sub<|Bo hgS) sD) (henv.chg g2<|a0.sub<|Bo hgS) hqenv hvp oM J4 hse O2) ?_
 rintro lf ju ⟨j8,j9,kq,kr,rfl,cm,dt,du,b3,gp,gq,cn⟩
 refine⟨_,rfl,?_⟩
 have gr:=cm.size
 have af:AB [g] w ju:=a0.trans cm
 have gs:=b3.1
 have hra:=cn
 have co:=b3
 refine Ae 1 Z<|fQ [0,0,0,0,2,0,0,4,0] Z<|Af 2 Z<|AX (hex.isPtr) Z Ac<|AP (p:=ve) 4 Bv Z (a2 _<|af.sub<|Bo hgS) Ac<|Ai (p:=Au ve 4) (.inr Z) a1 BG Z ((a2 _<|af.sub<|Bo hgS).ld (i:=4) Ew) Ac<|AH (v:=a1) 1 DS BM Z Z a3.rn.isSl Z sD Ac<|Af 1 Z ?_
 refine AK 169 [] [] [zP g,AE a1 1 5,vv] Z Z HR Ac (IH2 dd12 oM _ S g pp dp (n) (kq) (kr) (p) (AE a1 1 5) (ex.kids.getD 1 Ex.zero) vv (env) (fun b hb=>(by have:=hS b hb;omega:b<ju.heap.size)) hgS dt (hp.chg (Bi<|B6 dp)<|af.sub<|Bo hgS) oM oM oM (RN.ptr (AL dd12) (by decide) Ex.zero (a3.rn.chg (Aq<|AL dd12)<|af.sub<|Bo hgS) sD) (henv.chg g2<|af.sub<|Bo hgS) hqenv hvp oM J4 hse (zH<|ET (l:=ex.kids) (k:=1) oM)) ?_
 rintro lg ja ⟨fd,f2,fe,f3,rfl,bf,ac,a6,b4,gt,gu,cp⟩
 refine⟨_,rfl,?_⟩
 have gv:=bf.size
 have a4:AB [g] w ja:=af.trans bf
 have a8:=du.run g1 hgS bf
 have cq:=b4.1
 have hrb:=cp
 have j7:=b4
 have hlb:=cq
 have hzz:f2.getD 0 0=0∨¬f2.getD 0 0=0:=Decidable.em _
 refine Ae 1 Z<|A0<|A5<|fQ [0,0,0,2,0,0] Z<|Af 1 Z<|AX (hex.isPtr) Z Ac<|AP (p:=ve) 0 Bz Z (a2 _<|a4.sub<|Bo hgS) Ac<|Ai (p:=Au ve 0) (.inr Z) (zI ex.kind) AG Z ((a2 _<|a4.sub<|Bo hgS).ld (i:=0) Ew) Ac ?_
 by_cases cr:ex.kind=((3:Nat):Int)
 ·refine Av true Z Z (A7 cr) Ac<|Ae 1 Z<|Ah Z<|fQ [0,0,3,0] Z<|Af 2 Z<|Ay 210 [] [] [j8,fd] Z Z XS Ac (IF _ _ _ _ _ (a8).rd (a6).rd oM oM) ?_
  rintro lh ks ⟨b5,rfl,ag,bg⟩
  refine⟨_,rfl,ag,?_⟩
  have gw:=ag.size
  have dv:AB [g] w ks:=a4.ext ag
  have av:=ac.ext ag
  have iw:=a8.ext g1 ag
  have ix:=a6.ext g1 ag
  exact Ae 1 Z<|A3<|AM<|At<|Al [6] Z b5 Z ⟨b5,EU j9 f2,fe,f3,rfl,dv,av,RN.of_fr1 bg fun b hb=>zH<|hS b hb,(by exact EW co),oM,oM,(by exact H9 hc00 hs1 oM (K3 oM hra hrb) (fun h0=>by rw[h0];exact Yy oM) (fun _=>rfl))⟩
 refine Av false Z Z (A8 cr) Ac<|Ae 1 Z<|Ak Z<|fQ [0,0,0,2,0,0] Z<|Af 1 Z<|AX (hex.isPtr) Z Ac<|AP (p:=ve) 0 Bz Z (a2 _<|a4.sub<|Bo hgS) Ac<|Ai (p:=Au ve 0) (.inr Z) (zI ex.kind) AG Z ((a2 _<|a4.sub<|Bo hgS).ld (i:=0) Ew) Ac ?_
 by_cases cs:ex.kind=((4:Nat):Int)
 ·refine Av true Z Z (A7 cs) Ac<|Ae 1 Z<|Ah Z<|fQ [0,0,3,0] Z<|Af 2 Z<|Ay 211 [] [] [j8,fd] Z Z cY Ac (Mx _ _ _ _ _ (a8).rd (a6).rd oM oM oM) ?_
  rintro li kt ⟨b6,rfl,ah,bh⟩
  refine⟨_,rfl,ah,?_⟩
  have gx:=ah.size
  have dw:AB [g] w kt:=a4.ext ah
  have aw:=ac.ext ah
  have iy:=a8.ext g1 ah
  have iz:=a6.ext g1 ah
  exact Ae 1 Z<|A3<|AM<|At<|Al [6] Z b6 Z ⟨b6,GA j9 f2,fe,f3,rfl,dw,aw,RN.of_fr1 bh fun b hb=>zH<|hS b hb,(by exact Lh co),oM,oM,(by exact H9 hc00 hs1 oM (K3 oM hra hrb) (fun h0=>by rw[h0];exact Yz oM) (fun _=>rfl))⟩
 refine Av false Z Z (A8 cs) Ac<|Ae 1 Z<|Ak Z<|fQ [0,0,0,2,0,0] Z<|Af 1 Z<|AX (hex.isPtr) Z Ac<|AP (p:=ve) 0 Bz Z (a2 _<|a4.sub<|Bo hgS) Ac<|Ai (p:=Au ve 0) (.inr Z) (zI ex.kind) AG Z ((a2 _<|a4.sub<|Bo hgS).ld (i:=0) Ew) Ac ?_
 by_cases ct:ex.kind=((5:Nat):Int)
 ·refine Av true Z Z (A7 ct) Ac<|Ae 1 Z<|Ah Z<|fQ [0,0,3,0] Z<|Af 2 Z<|Ay 212 [] [] [j8,fd] Z Z cZ Ac (My _ _ _ _ _ (a8).rd (a6).rd oM oM) ?_
  rintro lj ku ⟨b7,rfl,ai,bi⟩
  refine⟨_,rfl,ai,?_⟩
  have gy:=ai.size
  have dx:AB [g] w ku:=a4.ext ai
  have ax:=ac.ext ai
  have j0:=a8.ext g1 ai
  have j1:=a6.ext g1 ai
  exact Ae 1 Z<|A3<|AM<|At<|Al [6] Z b7 Z ⟨b7,CF j9 f2,fe,f3,rfl,dx,ax,RN.of_fr1 bi fun b hb=>zH<|hS b hb,(by exact EX co),oM,oM,(by exact H9 hc00 hs1 oM (K3 oM hra hrb) (fun h0=>by rw[h0];exact YB oM) (fun _=>rfl))⟩
 refine Av false Z Z (A8 ct) Ac<|Ae 1 Z<|Ak Z<|fQ [0,0,0,2,0,0,0,0,2,0,0,0] Z<|Af 1 Z<|Bf Z Ac<|Ao (p:=zP g) 3 Hg Z Z Ac<|Ai (p:=Au (zP g) 3) (.inr Z) (zI f3) AG Z (ac.ldp (i:=3) sM) Ac ?_
 by_cases cu:f3≠((0:Nat):Int)
 ·refine Be true Z Z (A7 cu) Ac<|Ae 7 Z<|Ah Z<|fQ [0,4,0] Z<|Af 1 Z<|AK 205 [] [] [zP g,zI ((6:Nat):Int)] Z Z Rq Ac (Dc _ S g pp dp (n) (fe) (f3) (p) ((6:Nat):Int) (fun b hb=>(by have:=hS b hb;omega:b<ja.heap.size)) hgS ac (hp.chg (Bi<|B6 dp)<|a4.sub<|Bo hgS) oM oM oM oM oM) ?_
  rintro lk kv ⟨jv,kw,kx,ky,rfl,ay,dy,dz,cv,gz,i0,b8⟩
  refine⟨_,rfl,?_⟩
  have i1:=ay.size
  have e0:AB [g] w kv:=a4.trans ay
  have i2:=a8.run g1 hgS ay
  have i3:=a6.run g1 hgS ay
  have i4:=cv.1
  have hfs:=b8.1
  have hff:=b8.2
  exact Ae 1 Z<|A3<|AM<|At<|Al [6] Z jv Z ⟨jv,kw,kx,ky,rfl,e0,dy,dz,(by assumption),oM,oM,(by rw[hfs];exact H9 hc00 hs1 oM (K3 oM hra hrb) (fun h0=>absurd h0 oM) (fun h0=>by rw[hff,if_neg h0]))⟩
 refine Be false Z Z (A8 cu) Ac<|Af 2 Z<|AH (v:=fd) 0 Bu BL Z Z a6.slL Z (by rw[hlb];omega) (Ag (e:=175) Z Z Z) ?_
 have cw:=RN.getI (w:=ja) (k:=0) a6 (by rw[hlb];omega)
 refine Ai (p:=AE fd 0 1) (.inr Z) (zI<|f2.getD 0 0) AG Z (cw.1 _<|AB.refl _ _) (Ag (e:=175) Z Z Z) ?_
 by_cases b9:f2.getD 0 0=((0:Nat):Int)
 ·refine Av true Z Z (A7 b9) (Ag (e:=175) Z Z Z)<|Ae 2 Z<|Ah Z<|fQ [0,4,0] Z<|Af 1 Z<|AK 205 [] [] [zP g,zI ((6:Nat):Int)] Z Z Rq Ac (Dc _ S g pp dp (n) (fe) (f3) (p) ((6:Nat):Int) (fun b hb=>(by have:=hS b hb;omega:b<ja.heap.size)) hgS ac (hp.chg (Bi<|B6 dp)<|a4.sub<|Bo hgS) oM oM oM oM oM) ?_
  rintro kz jb ⟨fs,jc,jd,je,rfl,ad,cx,cy,bj,e1,e3,ak⟩
  refine⟨_,rfl,?_⟩
  have e4:=ad.size
  have cz:AB [g] w jb:=a4.trans ad
  have i5:=a8.run g1 hgS ad
  have i6:=a6.run g1 hgS ad
  have e5:=bj.1
  have hfs:=ak.1
  have hff:=ak.2
  exact Ae 1 Z<|A3<|AM<|At<|Al [6] Z fs Z ⟨fs,jc,jd,je,rfl,cz,cx,cy,(by assumption),oM,oM,(by rw[hfs];exact H9 hc00 hs1 oM (K3 oM hra hrb) (fun h0=>by rw[hff,if_pos h0];exact V0 (xs:=[_,_]) oM (hzz.resolve_right oM)) (fun h0=>by rw[hff,if_neg h0]))⟩
 refine Av false Z Z (A8 b9) (Ag (e:=175) Z Z Z)<|Ae 2 Z<|Ak Z<|A4<|fQ [0,0,3,0] Z<|Af 2 Z<|Ay 213 [] [] [j8,fd] Z Z dA Ac (Mz _ _ _ _ _ (a8).rd (a6).rd oM oM oM co.2) ?_
 rintro l0 jf ⟨al,rfl,a9,az⟩
 refine⟨_,rfl,a9,?_⟩
 have e6:=a9.size
 have d0:AB [g] w jf:=a4.ext a9
 have am:=ac.ext a9
 have i7:=a8.ext g1 a9
 have i8:=a6.ext g1 a9
 exact Ae 1 Z<|A3<|Al [6] Z al Z ⟨al,Cq j9 f2,fe,f3,rfl,d0,am,RN.of_fr1 az fun b hb=>zH<|hS b hb,(by exact FL co),oM,oM,(by exact H9 hc00 hs1 oM (K3 oM hra hrb) (fun h0=>by rw[h0];exact YD (xs:=[_,_]) oM (hzz.resolve_left oM)) (fun _=>rfl))⟩
theorem VT:∀F d,SV F d:=by
  intro F
  induction F using Nat.strongRecOn with
  |_ F ihF =>
    intro d
    induction d using Nat.strongRecOn with
    |_ d ihd =>
      intro w S g pp dp n s0 c0 p ve ex vv env hS hgS hB0 hp hn hs0 hc0 hex henv hqenv hvp hF hwf hse hdp
      exact J5 w S F g pp dp n s0 c0 p d ve ex vv env hS hgS hB0 hp hn hs0 hc0 hex henv hqenv hvp hF hwf hse hdp ihF ihd
theorem Zu (F:Nat):SO F:=Uk F fun d=>VT F d
theorem Y4 {p:Prop}(h:p:=by unfold maxLen;first|omega|assumption|(simp only[zb,z9,z4,z6,z5];omega)|(simp[zb,z9,z4,z6,z5];done)|(simp[zb,z9,z4,z6,z5];omega)):p:=h
theorem LU (w:World)(dp:Nat)(vp:Value)(p:List Fn)(f:Int)(va:Value)(a:Sr)(hp:RN [] (rP (KH dp)) w.heap vp p)(_hf:Bd f)(ha:Rd (Bl rI) w.heap va a)(hvp:Od p)(hf:0≤f∧f<(p.length:Int))(hl:(a.length:Int)=(p.getD f.toNat Fn.zero).params)(hna:Bj a=true) :
  Calls Tryz.prog 51 #[vp,zI f,va] w (fun e w'=>∃v0:Value,e=.returned (.tuple #[v0,zI ((QO p 1 f.toNat (Cu a):Nat):Int),zI (Po p f.toNat a)])∧AD w w'∧Fr (BD rI 2) w.heap.size w'.heap.size w'.heap v0 (Vk p f.toNat a)∧eG p f.toNat a∧QO p 1 f.toNat (Cu a)≤3000):=by
 refine Aw [vp,zI f,va] 73 Tryz.func51 Z Z sM ?_
 have cb:AD w w:=AD.refl w
 have dh:=ha.lenle
 have dt:=hvp.par f.toNat oM
 have du:=hvp.outs f.toNat oM
 refine fQ [0,0,0] Z<|Ae 3 Z<|fQ [0,0,3,0] Z<|Af 1 Z ?_
 have bm:∀(vp:Value) (ap:∃b o,vp=.pointer (some ⟨b,o,none⟩)) (wq:World),(Instr.build 167 #[(0,vp),(1,zI ((1:Nat):Int))]).run Tryz.prog wq=.ok (.agg #[vp,zI ((1:Nat):Int),zI 0,zI 0]) wq:=by intro vp ap wq;obtain⟨b0,o0,rfl⟩:=ap;kernel_rfl
 refine Ch (ps:=#[(0,vp),(1,zI ((1:Nat):Int))]) (.agg #[vp,zI ((1:Nat):Int),zI 0,zI 0]) (by simp only[zc,zf,zh];rfl) (fun wq=>bm vp hp.isPtr wq) Ac (BC (cs:=#[vp,zI ((1:Nat):Int),zI 0,zI 0]) Z Ac fun w2 bn ct bo=>?_)
 have bp:=bn.size
 have bq:=cb.trans bn
 replace bo:BX w2.heap w.heap.size [vp,zI ((1:Nat):Int),zI 0,zI 0]:=bo
 refine Ae 1 Z<|fQ [3,0] Z (Dt (BD rI 2) o1 BJ BR Ac fun v3 w3 bj cu cc=>?_)
 have br:=bj.size
 have cd:=bq.trans bj
 have b3:=bo.ext bj
 refine Ae 1 Z<|A0<|fR Z<|A5 ?_
 refine B8 (S:=Nat×Value) (fun⟨k,vo⟩=>([(10,vo),(11,zI (k:Int)),(0,vp),(1,zI f),(2,va),(9,zP w.heap.size)])) (fun⟨k,vo⟩ W=>AD w W∧Fr (BD (BD rI 2) 27) w2.heap.size W.heap.size W.heap vo ((a.take k).map fun x=>[x])∧BX W.heap w.heap.size [vp,zI ((1:Nat):Int),zI 0,zI 0]∧k≤a.length∧w.heap.size<w2.heap.size∧w2.heap.size≤W.heap.size) (fun⟨k,vo⟩=>a.length-k) (0,v3) ⟨rfl,rfl,rfl,rfl,rfl,rfl,trivial⟩ ⟨cd,cc.up o2,b3,sD,oM,oM⟩ ?_
 clear cb ct bn cc cu bj br cd
 rintro⟨k,vo⟩ ρ5 w5 ⟨ag,a0,a2,ce,cv,cw⟩
 have bs:w.heap.size≤w5.heap.size:=ag.size
 have d9:=a2.lt
 refine A0<|fQ [0,0,0,0] Z<|Af 2 Z<|AU (v:=va) Bu Z ha.isSl Ac ?_
 by_cases cf:(k:Int)<(a.length:Int)
 ·refine AJ true Z Z (A7 cf) Ac<|Aj<|Ah Z<|A4<|A0<|A5<|Ad _ [0,0,0,0,2,3,3,4,0] Z<|Af 3 Z<|AH (v:=va) k Bu BL Z Z ha.isSl Z sD Ac ?_
  refine Ai (p:=AE va k 1) (.inr Z) (zI<|a.getD k 0) AG Z (Bk ag (ha.getI sD).1) Ac ?_
  refine BQ (u:=zI<|a.getD k 0) (B:=w5.heap.size) AN Bu BL Z Z (Jl w5.heap.size w5.heap.size _ _ (ha.getI sD).2) (A9 _) Ac fun v9 w9 bk da cx=>?_
  have cy:=bk.size
  have cz:=ag.trans bk
  have ah:=a0.ext (o2) bk
  have ai:=a2.ext bk
  refine BQ (u:=v9) (B:=w5.heap.size) o1 BJ BR Z Z cx (by first|exact A9 _|omega) Ac fun dj dv aj d0 bt=>?_
  have cg:=aj.size
  have b4:=cz.trans aj
  have aa:=ah.ext (o2) aj
  have ab:=ai.ext aj
  refine Nd o1 (v:=vo) (a:=dj) BJ BR Z Z Z aa oM bt oM oM sD Y4 Ac fun dk dm dw aw b5 bu=>?_
  have bv:AD w dm:=aw.below b4 (fun c hc=>Aa bq.size (b5 c hc).1) b4.size
  have ch:=aw.size
  have bw:=ab.chg aw fun hm=>zH<|b5 _ hm
  refine Ae 1 Z<|Ad _ [0,0,0] Z<|Af 1 Z<|AS ((k+1:Nat):Int) Z Z (Bg oM sD) Ac<|Ae 1 Z ?_
  exact⟨(k+1,dk),_,rfl,zR,⟨bv,(by rw[Em 0 oM];exact bu.up o2),bw,sD,oM,oM⟩,zD⟩
 refine AJ false Z Z (A8 cf) Ac<|Aj<|Ak Z<|A6<|AA<|AA<|Ax<|fQ [0,0,0,0,2,0,0,0,4,0] Z ?_
 have henv:(a.take k).map (fun x=>[x])=Cu a:=by rw[za oM];rfl
 have hle:((a.take k).map (fun x=>[x])).length=a.length:=by rw[henv];unfold Cu;rw[zg]
 refine Af 2 Z<|AX (hp.isPtr) Z Ac ?_
 obtain⟨cs13,bx,b6⟩:=RN.at (B6 _) hp
 obtain⟨ak,rfl,ax⟩:=RPr.of bx
 have aq:=ax.lenle
 unfold maxLen at aq
 refine AP (p:=vp) 0 C8 Z (b6 _<|AB.of_ext [] ag) Ac<|Ai (p:=Au vp 0) (.inr Z) ak CO Z ((b6 _<|AB.of_ext [] ag).ld (i:=0) (by simp[Ge,Gf])) Ac<|Af 1 Z<|AH (v:=ak) ((f).toNat) Im DJ Z Z ax.isSl oM sD Ac<|Af 1 Z ?_
 refine AK 113 [] [] [zP w.heap.size,AE ak ((f).toNat) 3,vo] Z Z XF Ac (Zu f.toNat _ [w.heap.size] w.heap.size vp dp (1) (0) (0) (p) dp (AE ak ((f).toNat) 3) (p.getD ((f).toNat) Fn.zero) vo ((a.take k).map fun x=>[x]) (fun b hb=>(by have:=Ab hb;omega:b<w5.heap.size)) (List.mem_singleton.2 Z) a2 ((hp.add (F:=[w.heap.size]) (Bi<|B6 dp) fun b hb=>zH<|Ab hb).ext (Bi<|B6 dp) ag) oM oM oM (RN.ptr (AR dp) (by decide) Fn.zero ((ax.add (F:=[w.heap.size]) (Aq<|AR dp) fun b hb=>zH<|Ab hb).ext (Aq<|AR dp) ag) sD) (RN.of_fr2 a0 fun b hb=>zH<|Ab hb) a0.cap hvp oM (by intro k9 bz;have h9:=hvp.wf f.toNat oM k9 bz;rw[hle];rw[hl];exact h9) (by rw[henv];exact Dh hna) (by intro k9 bz;have:=hvp.deep f.toNat oM k9 bz;omega) oM) ?_
 rintro dx db ⟨dd,dc,dg,de,rfl,al,ay,c0,ac,b7,b8,b9⟩
 refine⟨_,rfl,?_⟩
 have ci:=al.size
 have ad:AD w db:=al.below ag (fun b hb=>by have:b=w.heap.size:=(by simpa using hb);omega) ag.size
 have az:=a0.chg (o2) al fun _ h=>zA h
 have ar:=ac.2.1
 have au:=ac.2.2
 have cj:=ac.1
 have av:=c0.rt g2
 have hRL:=b9
 rw[henv]at hRL
 have hCB:=b8
 have hEP:=eE.mk' hRL hCB b7 ar au
 have hNP:=eG.mk' hEP
 have hST:=hEP.steps
 have hXS:=au
 have hXL:=ar
 refine Ae 1 Z<|A0<|fQ [0,0,0,2,0] Z<|Af 1 Z<|Bf Z Ac<|Ao (p:=zP w.heap.size) 3 Hg Z Z Ac<|Ai (p:=Au (zP w.heap.size) 3) (.inr Z) (zI de) AG Z (ay.ldp (i:=3) sM) Ac ?_
 by_cases ba:de≠((0:Nat):Int)
 ·refine Be true Z Z (A7 ba) Ac<|Aj<|Ah Z<|A0<|B7 _ [3,0,0,0,1,0,0,0] mixed (by kernel_rfl) (Dt (rI) AN Bu BL Ac fun di dy a4 d1 c1=>?_)
  replace a4:=a4.of_drew
  have ck:=a4.size
  have c2:=ad.trans a4
  have bl:=az.ext (o2) a4
  have d2:=av.ext g2 a4
  exact Af 1 Z<|Bf Z Ac<|Ao (p:=zP w.heap.size) 3 Hg Z Z Ac<|Ai (p:=Au (zP w.heap.size) 3) (.inl Z) (zI de) AG Z (ay.ldp (i:=3) sM) Ac<|Ae 3 Z<|A3<|At<|Al [6,7,8] Z (.tuple #[di,zI ((0:Nat):Int),zI de]) Z ⟨di,(by rw[Xb<|Np hRL oM,show Po p f.toNat a=_ from OF (Np hRL oM)] <;> rfl),c2,(by rw[hNP.non (by rw[show Po p f.toNat a=_ from OF (Np hRL oM)];omega)];exact(c1.up o1).low ad.size),hNP,hST⟩
 refine Be false Z Z (A8 ba) Ac<|Aj<|Ak Z<|A4<|fQ [3,0] Z (Dt (rI) AN Bu BL Ac fun dn dz a5 c3 bb=>?_)
 have bc:=a5.size
 have bd:=ad.trans a5
 have am:=az.ext (o2) a5
 have an:=ay.ext a5
 have d3:=av.ext g2 a5
 refine Ae 1 Z<|A0<|fR Z<|A5 ?_
 refine B8 (S:=Nat×Value) (fun⟨k,vo⟩=>([(13,vo),(14,zI (k:Int)),(9,zP w.heap.size),(12,dd)])) (fun⟨k,vo⟩ W=>AD w W∧Fr (BD rI 2) db.heap.size W.heap.size W.heap vo (((dc).take k).map fun s=>s.getD 0 0)∧BX W.heap w.heap.size [vp,zI ((1:Nat):Int),zI (dg:Int),zI de]∧k≤(dc).length∧RT db.heap.size (Bl<|Bl rI) W.heap dd dc∧db.heap.size≤W.heap.size∧w.heap.size<db.heap.size∧db.heap.size≤db.heap.size∧db.heap.size≤W.heap.size) (fun⟨k,vo⟩=>(dc).length-k) (0,dn) ⟨rfl,rfl,rfl,rfl,trivial⟩ ⟨bd,bb.up o1,an,sD,(by assumption),oM,oM,oM,oM⟩ ?_
 clear bp bq a2 a0 ag bs aq al az bb c3 a5 bc bd am
 rintro⟨k,vo⟩ ρ28 df ⟨b1,ae,a1,c4,a3,cl,cm,cn,co⟩
 have cp:w.heap.size≤df.heap.size:=b1.size
 have d4:=a1.lt
 refine A0<|fQ [0,0,0,0] Z<|Af 2 Z<|AU (v:=dd) BJ Z a3.slL Ac ?_
 by_cases be:(k:Int)<(dc.length:Int)
 ·refine AJ true Z Z (A7 be) Ac<|Aj<|Ah Z<|A4<|A0<|A5<|Ad _ [0,0,0,0,2,0,2,3,4,0] Z ?_
  have hkx:=hXS k oM
  have hkl:=hkx.1
  refine Af 3 Z<|AH (v:=dd) k BJ BR Z Z a3.slL Z sD Ac ?_
  obtain⟨b2,c5,ao⟩:=RT.getL g1 [] (k:=k) a3 sD
  have bf:=ao.lenL
  unfold maxLen at bf
  refine Ai (p:=AE dd k 1) (.inr Z) b2 BN Z c5 Ac<|AH (v:=b2) 0 Bu BL Z Z ao.slL Z sD Ac ?_
  have bg:=RT.getI (k:=0) ao sD
  refine Ai (p:=AE b2 0 1) (.inr Z) (zI<|(dc.getD k []).getD 0 0) AG Z bg.1 Ac (BQ (u:=zI<|(dc.getD k []).getD 0 0) (B:=df.heap.size) AN Bu BL Z Z (Jl df.heap.size df.heap.size _ _ bg.2) (A9 _) Ac fun dq e0 a6 d5 bh=>?_)
  have cq:=a6.size
  have bi:=b1.trans a6
  have a7:=ae.ext (o1) a6
  have a8:=a1.ext a6
  have c6:=a3.ext g2 a6
  have c7:=ao.ext g1 a6
  refine FH (v:=vo) (a:=dq) Bu BL Z Z Z a7 oM bh.rd1 sD Y4 Ac fun dr ds e1 a9 af c8=>?_
  have c9:AD w ds:=a9.below bi (fun c hc=>Aa ad.size (af c hc).1) bi.size
  have cr:=a9.size
  have d6:=c6.chg g2 a9 fun c hc=>zH<|af c hc
  have d7:=c7.chg g1 a9 fun c hc=>zH<|af c hc
  have ca:=a8.chg a9 fun hm=>zH<|af _ hm
  have d8:=bh.chg (o1) a9 fun c hc=>zH<|af c hc
  refine Ae 1 Z<|Ad _ [0,0,0] Z<|Af 1 Z<|AS ((k+1:Nat):Int) Z Z (Bg oM sD) Ac<|Ae 1 Z ?_
  exact⟨(k+1,dr),_,rfl,zR,⟨c9,(by rw[Em [] oM];exact c8.up o1),ca,sD,(by assumption),oM,oM,oM,oM⟩,zD⟩
 refine AJ false Z Z (A8 be) Ac<|Aj<|Ak Z<|A6<|AA<|AA<|Ax<|A0<|B7 _ [0,0,0,0,1,0,0,0] mixed (by kernel_rfl)<|Af 2 Z<|Bf Z Ac<|Ao (p:=zP w.heap.size) 2 L1 Z Z Ac<|Ai (p:=Au (zP w.heap.size) 2) (.inl Z) (zI (dg:Int)) AG Z (a1.ldp (i:=2) sM) Ac<|Ae 3 Z<|A3 ?_
 exact Al [6,7,8] Z (.tuple #[vo,zI (dg:Int),zI ((0:Nat):Int)]) Z ⟨vo,(by rw[X9<|QP hRL oM,show Po p f.toNat a=_ from QR (QP hRL oM)] <;> rfl),b1.drew,(by have h:=(ae.up o1).low ad.size;unfold Vk;rw[QQ<|QP hRL oM];rwa [za oM]at h),hNP,hST⟩
theorem dR {p:List Fn}{f:Int}{a:Sr}(h:Jv p f=0)(h2:((a.length:Nat):Int)≠(p.getD f.toNat Fn.zero).params):2=JP p f a:=aL h (by rw[A8 h2];rfl)
theorem dS {p:List Fn}{f:Int}{a:Sr}(h:Jv p f=0)(h2:Bj a=false):2=JP p f a:=aL h (by rw[h2,Bool.and_false])
theorem dT {p:List Fn}{f:Int}{a:Sr}(h:Jv p f=0)(h1:((a.length:Nat):Int)=(p.getD f.toNat Fn.zero).params)(h2:Bj a=true):0=JP p f a:=f9 h (by rw[h2,A7 h1];rfl)
theorem fK {b:Bool}(h:(!b)=true):b=false:=by simpa using h
theorem fL {b:Bool}(h:(!b)=false):b=true:=by simpa using h
theorem Rz {p:Prop}(h:p:=by first|exact aK oM|exact dR oM oM|exact dS oM (fK (by assumption))|exact(by omega:_=Jv p f).trans (aK oM)|exact(show Jv p f=0 by omega).trans (dT oM oM (fL (by assumption)))):p:=h
theorem LV (w:World)(dp:Nat)(vp:Value)(p:List Fn)(f:Int)(va:Value)(a:Sr)(hp:RN [] (rP (KH dp)) w.heap vp p)(_hf:Bd f)(ha:Rd (Bl rI) w.heap va a)(hz:V1 p) :
  Calls Tryz.prog 50 #[vp,zI f,va] w (fun e w'=>e=.returned (zI (JP p f a))∧AD w w'):=by
 refine Aw [vp,zI f,va] 32 Tryz.func50 Z Z sM ?_
 have a7:AD w w:=AD.refl w
 have al:=ha.lenle
 refine fR Z<|fQ [0,0,3,0] Z<|Af 2 Z<|Ay 111 [] [] [vp,zI f] Z Z bU Ac (KB _ dp vp (p) _ (hp.ext (Bi<|B6 dp) a7) _hf hz) ?_
 rintro e1 w1 ⟨rfl,a2⟩
 refine⟨_,rfl,a2,?_⟩
 have ae:=a2.size
 have a0:=a7.trans a2
 refine Ae 1 Z<|A0<|fQ [0,0,0,0,0,0,0,0,2,0,0,0,2,0,0,0,3,0,0,0] Z<|Af 1 Z ?_
 by_cases a8:Jv p f=((0:Nat):Int)
 ·refine Av true Z Z (A7 a8) Ac<|Af 2 Z<|AU (v:=va) Bu Z ha.isSl (Ag (e:=13) Z Z Z)<|Af 1 Z<|AX (hp.isPtr) Z (Ag (e:=13) Z Z Z) ?_
  have aj:=Xg (p:=p) (f:=f) oM
  obtain⟨cs3,af,a9⟩:=RN.at (B6 _) hp
  obtain⟨a1,rfl,a3⟩:=RPr.of af
  have a4:=a3.lenle
  unfold maxLen at a4
  refine AP (p:=vp) 0 C8 Z (a9 _<|AB.of_ext [] a0) (Ag (e:=13) Z Z Z)<|Ai (p:=Au vp 0) (.inr Z) a1 CO Z ((a9 _<|AB.of_ext [] a0).ld (i:=0) (by first|(simp[Ge,Gf];done)|simp[Mf])) (Ag (e:=13) Z Z Z)<|Af 1 Z<|AH (v:=a1) ((f).toNat) Im DJ Z Z a3.isSl oM sD (Ag (e:=13) Z Z Z) ?_
  obtain⟨cs4,ag,aa⟩:=a3.get (AR dp) Fn.zero (k:=(f).toNat) sD
  obtain⟨ak,rfl,ah⟩:=RF.of ag
  have a5:=ah.rn.lenle
  unfold maxLen at a5
  refine AP (p:=AE a1 ((f).toNat) 3) 1 CZ Z (aa _<|AB.of_ext [] a0) (Ag (e:=13) Z Z Z)<|Ai (p:=Au (AE a1 ((f).toNat) 3) 1) (.inr Z) (zI<|(p.getD ((f).toNat) Fn.zero).params) AG Z ((aa _<|AB.of_ext [] a0).ld (i:=1) (by first|(simp[Ge,Gf];done)|simp[Mf])) (Ag (e:=13) Z Z Z) ?_
  by_cases ab:(a.length:Int)≠(p.getD ((f).toNat) Fn.zero).params
  ·exact Be true Z Z (A7 ab) (Ag (e:=13) Z Z Z)<|Ae 6 Z<|Ah Z<|Ad _ [0] Z<|Ae 1 Z<|fQ [0,0] Z<|Ae 2 Z<|A3<|Al [6] Z (zI ((2:Nat):Int)) Z ⟨Bm Rz,a0⟩
  refine Be false Z Z (A8 ab) (Ag (e:=13) Z Z Z)<|Af 2 Z<|Ay 112 [] [] [va] Z Z bV (Ag (e:=25) Z Z Z) (JK _ _ _<|ha.ext g1 a0) ?_
  rintro e6 w6 ⟨rfl,a6⟩
  refine⟨_,rfl,a6,?_⟩
  have ai:=a6.size
  have ac:=a0.trans a6
  refine BF (!(Bj a)) Z Z (Ag (e:=25) Z Z Z)<|Ae 2 Z ?_
  cases ad:(!(Bj a))
  ·exact Ak (by first|rfl|exact zW ad)<|A4<|fQ [0,0] Z<|Ae 2 Z<|A3<|Al [6] Z (zI<|Jv p f) Z ⟨Bm Rz,ac⟩
  exact Ah (by first|rfl|exact zW ad)<|Ad _ [0] Z<|Ae 1 Z<|fQ [0,0] Z<|Ae 2 Z<|A3<|Al [6] Z (zI ((2:Nat):Int)) Z ⟨Bm Rz,ac⟩
 exact Av false Z Z (A8 a8) Ac<|Ae 18 Z<|Ak Z<|A4<|fQ [0,0] Z<|Ae 2 Z<|A3<|Al [6] Z (zI<|Jv p f) Z ⟨Bm Rz,a0⟩
theorem KC (w:World)(dp:Nat)(vp:Value)(p:List Fn)(f:Int)(va:Value)(a:Sr)(hp:RP [] dp w.heap vp p)(_hf:Bd f)(ha:Rd (Bl rI) w.heap va a)(hz:V1 p) :
  Calls Tryz.prog 10 #[(.agg #[vp]),zI f,va] w (fun e w'=>∃v0:Value,e=.returned (.tuple #[v0,zI ((YX p f a:Nat):Int),zI (UE p f a)])∧AD w w'∧Fr (BD rI 2) w.heap.size w'.heap.size w'.heap v0 (f8 p f a)):=by
 refine Aw [.agg #[vp],zI f,va] 23 Tryz.func10 Z Z sM ?_
 have ae:AD w w:=AD.refl w
 have ao:=hp.lenle
 unfold maxLen at ao
 have ap:=ha.lenle
 refine fQ [3,0,0,0] Z (BC (cs:=#[vp]) Z Ac fun w1 a9 am a5=>?_)
 have af:=a9.size
 have a7:=ae.trans a9
 replace a5:BX w1.heap w.heap.size [vp]:=a5
 refine Ae 3 Z<|A0<|fQ [0,0,3,0] Z<|Af 2 Z<|Ay 50 [] [] [zP w.heap.size,zI f,va] Z Z fl Ac (LV _ dp (zP w.heap.size) (p) _ _ _ (RN.box a5 (RP.mk'<|hp.ext (Aq<|AR dp) a7) sM) _hf (ha.ext g1 a7) hz) ?_
 rintro e2 w2 ⟨rfl,a6⟩
 refine⟨_,rfl,a6,?_⟩
 have ag:=a6.size
 have a2:=a7.trans a6
 have a3:=a5.ext a6
 refine Ae 1 Z<|fQ [0,0] Z<|Af 1 Z ?_
 by_cases aa:JP p f a≠((0:Nat):Int)
 ·refine Be true Z Z (A7 aa) Ac<|Aj<|Ah Z<|fQ [3,0,0,0,0] Z (Dt (rI) AN Bu BL Ac fun v4 w4 ab an ah=>?_)
  have ai:=ab.size
  have aj:=a2.trans ab
  exact Ae 4 Z<|A3<|At<|Al [6,7,8] Z (.tuple #[v4,zI ((0:Nat):Int),zI<|JP p f a]) Z ⟨v4,(by rw[aO oM,aM oM] <;> rfl),aj,(by rw[aN oM];exact(ah.up o1).low a2.size)⟩
 refine Be false Z Z (A8 aa) Ac<|Aj<|Ak Z<|A4<|fQ [0,0,3,0,0,0,0,0,0] Z<|Af 2 Z ?_
 have har:JP p f a=0:=by omega
 have a1:=aJ har
 have aq:=Nq a1.1
 have ar:=aq.par f.toNat oM
 have hal:=a1.2.2.1
 refine Ay 51 [] [] [zP w.heap.size,zI f,va] Z Z fm Ac (LU _ dp (zP w.heap.size) (p) _ _ _ (RN.box a3 (RP.mk'<|hp.ext (Aq<|AR dp) a2) sM) _hf (ha.ext g1 a2) aq oM oM a1.2.2.2) ?_
 rintro e5 w5 ⟨a0,rfl,a8,a4,ac,ad⟩
 refine⟨_,rfl,a8,?_⟩
 have ak:=a8.size
 have al:=a2.trans a8
 exact AO (vs:=[a0,zI ((QO p 1 f.toNat (Cu a):Nat):Int),zI<|Po p f.toNat a]) a0 Z Z Ac<|AO (vs:=[a0,zI ((QO p 1 f.toNat (Cu a):Nat):Int),zI<|Po p f.toNat a]) (zI ((QO p 1 f.toNat (Cu a):Nat):Int)) Z Z Ac<|AO (vs:=[a0,zI ((QO p 1 f.toNat (Cu a):Nat):Int),zI<|Po p f.toNat a]) (zI<|Po p f.toNat a) Z Z Ac<|Ae 3 Z<|A3<|Al [6,7,8] Z (.tuple #[a0,zI ((QO p 1 f.toNat (Cu a):Nat):Int),zI<|Po p f.toNat a]) Z ⟨a0,(by rw[aQ har,Xh har]),al,(by rw[aP har];exact(a4.up o1).low a2.size)⟩
end
end Go.Proofs.YtemfgblmfahllaaGreat
