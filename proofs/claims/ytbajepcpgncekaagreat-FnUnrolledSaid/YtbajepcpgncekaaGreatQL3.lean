/- T, Sa, Sb, Sv, Sf, Sw, Sk, Ve, Vf, Va, Vb, Vg, Vh, Vm, Vi, Vj: texts of this claim, joined; what the claim does not come to is left out. -/
import Derived.Test.YtbajepcpgncekaaGreatQL2
import Derived.Test.YtbajepcpgncekaaGreatProg
set_option linter.unusedVariables false
set_option linter.unusedSimpArgs false
namespace Go.Proofs.YtbajepcpgncekaaGreat
open Go Go.RowKit
theorem mixed:Tryz.prog.follows .mixedOrders=true:=by kernel_rfl
abbrev BW (k:Nat):Prop:=((Tryz.prog.funcs[k]?).map fun fn=>(fn.name != "runtime.NumGoroutine") && fn.body.isSome) = some true
theorem BY {k:Nat} (h:((Tryz.prog.funcs[k]?).map fun fn=>(fn.name != "runtime.NumGoroutine") && fn.body.isSome) = some true):BW k:=h
theorem f4:BW 28:=BY (by kernel_rfl)
theorem aW:BW 29:=BY (by kernel_rfl)
theorem aX:BW 31:=BY (by kernel_rfl)
theorem aY:BW 41:=BY (by kernel_rfl)
theorem f5:BW 42:=BY (by kernel_rfl)
theorem f6:BW 43:=BY (by kernel_rfl)
theorem f7:BW 44:=BY (by kernel_rfl)
theorem f8:BW 47:=BY (by kernel_rfl)
theorem Zp:BW 48:=BY (by kernel_rfl)
theorem aZ:BW 50:=BY (by kernel_rfl)
theorem fa:BW 51:=BY (by kernel_rfl)
theorem fb:BW 52:=BY (by kernel_rfl)
theorem fc:BW 53:=BY (by kernel_rfl)
theorem fd:BW 54:=BY (by kernel_rfl)
theorem bA:BW 66:=BY (by kernel_rfl)
theorem ff:BW 67:=BY (by kernel_rfl)
theorem HO:BW 68:=BY (by kernel_rfl)
theorem bB:BW 69:=BY (by kernel_rfl)
theorem II:BW 74:=BY (by kernel_rfl)
theorem fg:BW 75:=BY (by kernel_rfl)
theorem Zq:BW 79:=BY (by kernel_rfl)
theorem Uu:BW 86:=BY (by kernel_rfl)
theorem Zr:BW 89:=BY (by kernel_rfl)
theorem fh:BW 99:=BY (by kernel_rfl)
theorem Uv:BW 100:=BY (by kernel_rfl)
theorem Rv:BW 101:=BY (by kernel_rfl)
theorem Uw:BW 102:=BY (by kernel_rfl)
theorem bC:BW 105:=BY (by kernel_rfl)
theorem Rw:BW 106:=BY (by kernel_rfl)
theorem bE:BW 107:=BY (by kernel_rfl)
theorem bF:BW 108:=BY (by kernel_rfl)
theorem bG:BW 109:=BY (by kernel_rfl)
theorem bH:BW 110:=BY (by kernel_rfl)
theorem M8:BW 112:=BY (by kernel_rfl)
theorem bI:BW 116:=BY (by kernel_rfl)
theorem D2:BW 117:=BY (by kernel_rfl)
theorem Np:BW 122:=BY (by kernel_rfl)
theorem XP:BW 123:=BY (by kernel_rfl)
theorem Nq:BW 124:=BY (by kernel_rfl)
theorem Ux:BW 125:=BY (by kernel_rfl)
theorem XQ:BW 126:=BY (by kernel_rfl)
theorem Rx:BW 127:=BY (by kernel_rfl)
theorem Ry:BW 130:=BY (by kernel_rfl)
theorem XR:BW 131:=BY (by kernel_rfl)
theorem Nr:BW 132:=BY (by kernel_rfl)
theorem Uy:BW 133:=BY (by kernel_rfl)
theorem XS:BW 134:=BY (by kernel_rfl)
theorem XT:BW 135:=BY (by kernel_rfl)
theorem XU:BW 136:=BY (by kernel_rfl)
theorem Rz:BW 137:=BY (by kernel_rfl)
theorem Uz:BW 138:=BY (by kernel_rfl)
theorem bJ:BW 139:=BY (by kernel_rfl)
theorem bK:BW 140:=BY (by kernel_rfl)
theorem bL:BW 141:=BY (by kernel_rfl)
theorem UA:BW 142:=BY (by kernel_rfl)
theorem bM:BW 150:=BY (by kernel_rfl)
theorem XV:BW 151:=BY (by kernel_rfl)
theorem UB:BW 152:=BY (by kernel_rfl)
theorem bN:BW 156:=BY (by kernel_rfl)
theorem bO:BW 157:=BY (by kernel_rfl)
theorem XW:BW 158:=BY (by kernel_rfl)
theorem bP:BW 163:=BY (by kernel_rfl)
theorem XX:BW 165:=BY (by kernel_rfl)
theorem XY:BW 168:=BY (by kernel_rfl)
theorem bQ:BW 169:=BY (by kernel_rfl)
theorem UC:BW 170:=BY (by kernel_rfl)
theorem UD:BW 177:=BY (by kernel_rfl)
theorem XZ:BW 178:=BY (by kernel_rfl)
theorem Pj:BW 179:=BY (by kernel_rfl)
theorem M9:BW 181:=BY (by kernel_rfl)
theorem bR:BW 183:=BY (by kernel_rfl)
theorem bS:BW 184:=BY (by kernel_rfl)
theorem Pk:BW 185:=BY (by kernel_rfl)
theorem bT:BW 186:=BY (by kernel_rfl)
theorem Ns:BW 187:=BY (by kernel_rfl)
theorem Y0:BW 190:=BY (by kernel_rfl)
theorem UE:BW 191:=BY (by kernel_rfl)
theorem bU:BW 192:=BY (by kernel_rfl)
theorem bV:BW 193:=BY (by kernel_rfl)
theorem RA:BW 196:=BY (by kernel_rfl)
theorem bW:BW 197:=BY (by kernel_rfl)
theorem Y1:BW 198:=BY (by kernel_rfl)
theorem bX:BW 199:=BY (by kernel_rfl)
theorem bY:BW 200:=BY (by kernel_rfl)
theorem bZ:BW 201:=BY (by kernel_rfl)
theorem Y2:BW 202:=BY (by kernel_rfl)
theorem cA:BW 203:=BY (by kernel_rfl)
theorem cB:BW 204:=BY (by kernel_rfl)
theorem cC:BW 205:=BY (by kernel_rfl)
theorem UF:BW 206:=BY (by kernel_rfl)
theorem cD:BW 207:=BY (by kernel_rfl)
theorem Y3:BW 208:=BY (by kernel_rfl)
theorem Y4:BW 209:=BY (by kernel_rfl)
theorem UG:BW 210:=BY (by kernel_rfl)
theorem Y5:BW 220:=BY (by kernel_rfl)
theorem I8:BW 221:=BY (by kernel_rfl)
theorem cE:BW 223:=BY (by kernel_rfl)
theorem cF:BW 224:=BY (by kernel_rfl)
theorem cG:BW 225:=BY (by kernel_rfl)
theorem Y6:BW 226:=BY (by kernel_rfl)
theorem cH:BW 228:=BY (by kernel_rfl)
theorem cI:BW 229:=BY (by kernel_rfl)
theorem UH:BW 230:=BY (by kernel_rfl)
theorem JZ:BW 231:=BY (by kernel_rfl)
theorem Nt:BW 232:=BY (by kernel_rfl)
theorem cJ:BW 235:=BY (by kernel_rfl)
theorem Y7:BW 236:=BY (by kernel_rfl)
theorem RB:BW 237:=BY (by kernel_rfl)
theorem cK:BW 238:=BY (by kernel_rfl)
theorem UI:BW 239:=BY (by kernel_rfl)
theorem cL:BW 240:=BY (by kernel_rfl)
theorem Ma:BW 241:=BY (by kernel_rfl)
theorem RC:BW 250:=BY (by kernel_rfl)
theorem cM:BW 251:=BY (by kernel_rfl)
theorem Y8:BW 252:=BY (by kernel_rfl)
theorem Y9:BW 253:=BY (by kernel_rfl)
theorem cN:BW 254:=BY (by kernel_rfl)
theorem cO:BW 255:=BY (by kernel_rfl)
theorem cP:BW 256:=BY (by kernel_rfl)
theorem cQ:BW 257:=BY (by kernel_rfl)
theorem Ya:BW 258:=BY (by kernel_rfl)
theorem cR:BW 270:=BY (by kernel_rfl)
theorem Yb:BW 271:=BY (by kernel_rfl)
theorem RD:BW 272:=BY (by kernel_rfl)
theorem Pl:BW 273:=BY (by kernel_rfl)
theorem cS:BW 274:=BY (by kernel_rfl)
theorem cT:BW 286:=BY (by kernel_rfl)
theorem cU:BW 287:=BY (by kernel_rfl)
theorem AI:Cr Tryz.prog 2:=by unfold Cr;kernel_rfl
theorem Mb:Cr Tryz.prog 3:=by unfold Cr;kernel_rfl
theorem fi:Cr Tryz.prog 4:=by unfold Cr;kernel_rfl
theorem fj:Cr Tryz.prog 5:=by unfold Cr;kernel_rfl
theorem K1:Cr Tryz.prog 9:=by unfold Cr;kernel_rfl
theorem RE:Cr Tryz.prog 22:=by unfold Cr;kernel_rfl
theorem Bt:Cr Tryz.prog 24:=by unfold Cr;kernel_rfl
theorem Bx:Cr Tryz.prog 27:=by unfold Cr;kernel_rfl
theorem Mc:Cr Tryz.prog 30:=by unfold Cr;kernel_rfl
theorem B7:Cr Tryz.prog 47:=by unfold Cr;kernel_rfl
theorem KQ:Cr Tryz.prog 52:=by unfold Cr;kernel_rfl
theorem UJ:Cr Tryz.prog 53:=by unfold Cr;kernel_rfl
theorem IT:Cr Tryz.prog 91:=by unfold Cr;kernel_rfl
theorem Yc:Cr Tryz.prog 97:=by unfold Cr;kernel_rfl
theorem O1:Cr Tryz.prog 178:=by unfold Cr;kernel_rfl
theorem I9:(Tryz.prog.info? 2).map (·.size)=some 1:=by kernel_rfl
theorem fJ:(Tryz.prog.info? 3).map (·.size)=some 1:=by kernel_rfl
theorem PX:(Tryz.prog.info? 24).map (·.size)=some 1:=by kernel_rfl
theorem Sf:(Tryz.prog.info? 27).map (·.size)=some 1:=by kernel_rfl
theorem cV:(Tryz.prog.info? 30).map (·.size)=some 1:=by kernel_rfl
theorem Ia:(Tryz.prog.info? 47).map (·.size)=some 1:=by kernel_rfl
theorem Zs:(Tryz.prog.info? 52).map (·.size)=some 1:=by kernel_rfl
theorem fk:(Tryz.prog.info? 53).map (·.size)=some 1:=by kernel_rfl
theorem Yd:(Tryz.prog.info? 178).map (·.size)=some 1:=by kernel_rfl
theorem Ck:TI Tryz.prog 2 1 (.int .i64 0) 8:=by unfold TI;kernel_rfl
theorem fK:TI Tryz.prog 5 1 (.int .u8 0) 1:=by unfold TI;kernel_rfl
theorem fl:TI Tryz.prog 9 1 (.string ByteArray.empty) 16:=by unfold TI;kernel_rfl
theorem Bo:TI Tryz.prog 27 1 (.slice none 0 0) 24:=by unfold TI;kernel_rfl
theorem u2:Tryz.prog.underlying 2=some (.int .i64):=by kernel_rfl
theorem u3:Tryz.prog.underlying 3=some (.int .i64):=by kernel_rfl
theorem u4:Tryz.prog.underlying 4=some (.bool):=by kernel_rfl
theorem u5:Tryz.prog.underlying 5=some (.int .u8):=by kernel_rfl
theorem u9:Tryz.prog.underlying 9=some (.string):=by kernel_rfl
theorem UK:Tryz.prog.underlying 22=some (.slice 5):=by kernel_rfl
theorem Du:Tryz.prog.underlying 24=some (.slice 49):=by kernel_rfl
theorem BQ:Tryz.prog.underlying 27=some (.slice 2):=by kernel_rfl
theorem Cb:Tryz.prog.underlying 30=some (.slice 27):=by kernel_rfl
theorem Cc:Tryz.prog.underlying 47=some (.slice 153):=by kernel_rfl
theorem PY:Tryz.prog.underlying 52=some (.slice 69):=by kernel_rfl
theorem cW:Tryz.prog.underlying 53=some (.slice 208):=by kernel_rfl
theorem X4:Tryz.prog.underlying 148=some (.slice 9):=by kernel_rfl
theorem X5:Tryz.prog.underlying 178=some (.int .u64):=by kernel_rfl
theorem Ba:EX Tryz.prog 26 1=true:=by kernel_rfl
theorem IJ:(Tryz.prog.info? 26).map (·.zero)=some (some (.agg #[.slice none 0 0])):=by kernel_rfl
theorem B8:GI Tryz.prog 26 0 0=true:=by kernel_rfl
theorem DS:EX Tryz.prog 49 3=true:=by kernel_rfl
theorem MK:(Tryz.prog.info? 49).map (·.zero)=some (some (.agg #[.string ByteArray.empty,.int .i64 0,.slice none 0 0])):=by kernel_rfl
theorem BD:TI Tryz.prog 49 3 (.agg #[.string ByteArray.empty,.int .i64 0,.slice none 0 0]) 48:=by unfold TI;kernel_rfl
theorem EF:GI Tryz.prog 49 0 0=true:=by kernel_rfl
theorem BI:GI Tryz.prog 49 1 1=true:=by kernel_rfl
theorem Br:GI Tryz.prog 49 2 2=true:=by kernel_rfl
theorem Fh:EX Tryz.prog 55 4=true:=by kernel_rfl
theorem Zt:(Tryz.prog.info? 55).map (·.zero)=some (some (.agg #[.int .i64 0,.slice none 0 0,.slice none 0 0,.slice none 0 0])):=by kernel_rfl
theorem O2:GI Tryz.prog 55 0 0=true:=by kernel_rfl
theorem FV:GI Tryz.prog 55 1 1=true:=by kernel_rfl
theorem O3:GI Tryz.prog 55 2 2=true:=by kernel_rfl
theorem Md:GI Tryz.prog 55 3 3=true:=by kernel_rfl
theorem FW:EX Tryz.prog 69 4=true:=by kernel_rfl
theorem UL:(Tryz.prog.info? 69).map (·.zero)=some (some (.agg #[.int .i64 0,.int .i64 0,.int .i64 0,.int .i64 0])):=by kernel_rfl
theorem K2:TI Tryz.prog 69 4 (.agg #[.int .i64 0,.int .i64 0,.int .i64 0,.int .i64 0]) 32:=by unfold TI;kernel_rfl
theorem Me:GI Tryz.prog 69 0 0=true:=by kernel_rfl
theorem D3:GI Tryz.prog 69 1 1=true:=by kernel_rfl
theorem CS:GI Tryz.prog 69 2 2=true:=by kernel_rfl
theorem FX:GI Tryz.prog 69 3 3=true:=by kernel_rfl
theorem RH:GI Tryz.prog 129 0 0=true:=by kernel_rfl
theorem Gl:GI Tryz.prog 129 1 1=true:=by kernel_rfl
theorem DZ:GI Tryz.prog 129 2 5=true:=by kernel_rfl
theorem O4:GI Tryz.prog 129 3 6=true:=by kernel_rfl
theorem FE:GI Tryz.prog 129 4 7=true:=by kernel_rfl
theorem EU:GI Tryz.prog 151 0 0=true:=by kernel_rfl
theorem X6:GI Tryz.prog 151 1 1=true:=by kernel_rfl
theorem O5:GI Tryz.prog 151 2 2=true:=by kernel_rfl
theorem X7:GI Tryz.prog 151 3 3=true:=by kernel_rfl
theorem AX:EX Tryz.prog 153 5=true:=by kernel_rfl
theorem Ec:(Tryz.prog.info? 153).map (·.zero)=some (some (.agg #[.int .i64 0,.int .i64 0,.int .i64 0,.int .i64 0,.slice none 0 0])):=by kernel_rfl
theorem B3:TI Tryz.prog 153 5 (.agg #[.int .i64 0,.int .i64 0,.int .i64 0,.int .i64 0,.slice none 0 0]) 56:=by unfold TI;kernel_rfl
theorem Bn:GI Tryz.prog 153 0 0=true:=by kernel_rfl
theorem BL:GI Tryz.prog 153 1 1=true:=by kernel_rfl
theorem CN:GI Tryz.prog 153 2 2=true:=by kernel_rfl
theorem CV:GI Tryz.prog 153 3 3=true:=by kernel_rfl
theorem AY:GI Tryz.prog 153 4 4=true:=by kernel_rfl
theorem X8:GI Tryz.prog 187 0 0=true:=by kernel_rfl
theorem O6:GI Tryz.prog 187 1 1=true:=by kernel_rfl
theorem Ls:GI Tryz.prog 187 2 2=true:=by kernel_rfl
theorem Hp:GI Tryz.prog 187 3 3=true:=by kernel_rfl
theorem UM:EX Tryz.prog 208 2=true:=by kernel_rfl
theorem cX:(Tryz.prog.info? 208).map (·.zero)=some (some (.agg #[.int .i64 0,.bool false])):=by kernel_rfl
theorem PZ:TI Tryz.prog 208 2 (.agg #[.int .i64 0,.bool false]) 16:=by unfold TI;kernel_rfl
theorem X9:GI Tryz.prog 208 0 0=true:=by kernel_rfl
theorem RJ:GI Tryz.prog 225 0 0=true:=by kernel_rfl
theorem Xa:GI Tryz.prog 225 1 1=true:=by kernel_rfl
theorem Lt:GI Tryz.prog 225 2 2=true:=by kernel_rfl
theorem Hq:GI Tryz.prog 225 3 3=true:=by kernel_rfl
theorem Q0:EX Tryz.prog 249 2=true:=by kernel_rfl
theorem Xb:GI Tryz.prog 249 0 0=true:=by kernel_rfl
theorem Xc:GI Tryz.prog 249 1 1=true:=by kernel_rfl
section
set_option maxHeartbeats 4000000
set_option maxRecDepth 100000
attribute [local irreducible] LW
theorem B4 (w:World)(n:Int)(low:Int)(high:Int)(_hn:BG n)(_hlow:BG low)(_hhigh:BG high)  :
  Calls Tryz.prog 117 #[zI n,zI low,zI high] w (fun e w'=>e=.returned (.bool (decide (low≤n) && decide (n≤high)))∧w'=w):=by
 refine Au [zI n,zI low,zI high] 15 Tryz.func117 Z Z sM ?_
 have a0:w=w:=rfl
 refine fE Z<|fC [0,0,0,0,0,0,0,0,0] Z<|Ad 2 Z ?_
 by_cases a1:low≤n
 ·exact DN true Z Z (A5 a1) Aa<|Ad 3 Z<|Ek (decide (n≤high)) Z Z Z (Ae (e:=10) Z Z Z)<|Ac 2 Z<|A1<|Ah [6] Z (.bool<|decide (n≤high)) Z ⟨AP (by simp[*]),a0⟩
 exact DN false Z Z (A6 a1) Aa<|Ac 6 Z<|A1<|Ah [6] Z (.bool false) Z ⟨AP (by simp[*]),a0⟩
theorem BC (w:World)(n:Int)(low:Int)(high:Int)(_hn:BG n)(_hlow:BG low)(_hhigh:BG high)  :
  Calls Tryz.prog 74 #[zI n,zI low,zI high] w (fun e w'=>e=.returned (.bool (decide (low≤n) && decide (n≤high)))∧w'=w):=by
 refine Au [zI n,zI low,zI high] 15 Tryz.func74 Z Z sM ?_
 have a0:w=w:=rfl
 refine fE Z<|fC [0,0,0,0,0,0,0,0,0] Z<|Ad 2 Z ?_
 by_cases a1:low≤n
 ·exact DN true Z Z (A5 a1) Aa<|Ad 3 Z<|Ek (decide (n≤high)) Z Z Z (Ae (e:=10) Z Z Z)<|Ac 2 Z<|A1<|Ah [6] Z (.bool<|decide (n≤high)) Z ⟨AP (by simp[*]),a0⟩
 exact DN false Z Z (A6 a1) Aa<|Ac 6 Z<|A1<|Ah [6] Z (.bool false) Z ⟨AP (by simp[*]),a0⟩
theorem D4 (w:World)(n:Int)(_hn:BG n)  :
  Calls Tryz.prog 232 #[zI n] w (fun e w'=>e=.returned (zI (md n))∧w'=w):=by
 refine Au [zI n] 7 Tryz.func232 Z Z sM ?_
 have a0:w=w:=rfl
 exact fE Z<|fC [0,0,0,0,0] Z<|Ad 1 Z<|Ej (n.tmod 1000003) Z Z (by decide) Z Aa<|AR (wr ((n.tmod 1000003)+((1000003:Nat):Int))) Z Z Z Aa<|Ej ((wr ((n.tmod 1000003)+((1000003:Nat):Int))).tmod 1000003) Z Z (by decide) Z Aa<|Ac 1 Z<|A1<|Ah [2] Z (zI<|(wr ((n.tmod 1000003)+((1000003:Nat):Int))).tmod 1000003) Z ⟨Bf<|YD n,a0⟩
theorem Ib (w:World)(a:Int)(b:Int)(_ha:BG a)(_hb:BG b)  :
  Calls Tryz.prog 230 #[zI a,zI b] w (fun e w'=>e=.returned (zI (md (a+b)))∧w'=w):=by
 refine Au [zI a,zI b] 11 Tryz.func230 Z Z sM ?_
 have a0:w=w:=rfl
 exact fE Z<|fC [0,0,0,0,0,0,0] Z<|Ad 1 Z<|AG 232 [] [] [zI a] Z Z Nt Aa (zI<|md a) (fun wq=>D4 wq _ _ha)<|Ad 1 Z<|AG 232 [] [] [zI b] Z Z Nt Aa (zI<|md b) (fun wq=>D4 wq _ _hb)<|AR (wr ((md a)+(md b))) Z Z Z Aa<|Ej ((wr ((md a)+(md b))).tmod 1000003) Z Z (by decide) Z Aa<|Ac 1 Z<|A1<|Ah [4] Z (zI<|(wr ((md a)+(md b))).tmod 1000003) Z ⟨Bf<|Qy a b,a0⟩
theorem K3 (w:World)(a:Int)(b:Int)(_ha:BG a)(_hb:BG b)  :
  Calls Tryz.prog 190 #[zI a,zI b] w (fun e w'=>e=.returned (zI (md (a*b)))∧w'=w):=by
 refine Au [zI a,zI b] 11 Tryz.func190 Z Z sM ?_
 have a0:w=w:=rfl
 exact fE Z<|fC [0,0,0,0,0,0,0] Z<|Ad 1 Z<|AG 232 [] [] [zI a] Z Z Nt Aa (zI<|md a) (fun wq=>D4 wq _ _ha)<|Ad 1 Z<|AG 232 [] [] [zI b] Z Z Nt Aa (zI<|md b) (fun wq=>D4 wq _ _hb)<|Ge (wr ((md a)*(md b))) Z Z Z Aa<|Ej ((wr ((md a)*(md b))).tmod 1000003) Z Z (by decide) Z Aa<|Ac 1 Z<|A1<|Ah [4] Z (zI<|(wr ((md a)*(md b))).tmod 1000003) Z ⟨Bf<|OB a b,a0⟩
theorem Hr (w:World)(a:Int)(b:Int)(_ha:BG a)(_hb:BG b)  :
  Calls Tryz.prog 191 #[zI a,zI b] w (fun e w'=>e=.returned (zI (md (a-b)))∧w'=w):=by
 refine Au [zI a,zI b] 10 Tryz.func191 Z Z sM ?_
 have a0:w=w:=rfl
 exact fE Z<|fC [0,0,0,0,0,0] Z<|Ad 2 Z<|AG 232 [] [] [zI b] Z Z Nt Aa (zI<|md b) (fun wq=>D4 wq _ _hb)<|BJ (wr (((1000003:Nat):Int)-(md b))) Z Z Z Aa<|AG 230 [] [] [zI a,zI<|wr (((1000003:Nat):Int)-(md b))] Z Z UH Aa (zI<|md (a+(wr (((1000003:Nat):Int)-(md b))))) (fun wq=>Ib wq _ _ _ha<|Px _)<|Ac 1 Z<|A1<|Ah [4] Z (zI<|md (a+(wr (((1000003:Nat):Int)-(md b))))) Z ⟨Bf<|SJ a b,a0⟩
theorem Zu (n:Int)(h:n.tmod 1000003<((0:Nat):Int)):wr (n.tmod 1000003+((1000003:Nat):Int))=md n:=by
  have h1:=Ch n;have h2:=FK n;have h3:=Ch (-n);have h4:=FK (-n)
  rw[tm n]at h ⊢
  split at h
  · omega
  · rename_i h0
    rw[if_neg h0,GM zO (by omega)]
    have e1:md (-(md (-n))+((1000003:Nat):Int))=md (-(md (-n))):=SI _
    rw[Kf,Int.neg_neg,OA zO (by omega)]at e1
    exact e1
theorem Zv (n:Int)(h:¬n.tmod 1000003<((0:Nat):Int)):n.tmod 1000003=md n:=by
  have h1:=Ch n;have h2:=FK n;have h3:=Ch (-n);have h4:=FK (-n)
  rw[tm n]at h ⊢
  split
  · rfl
  · rename_i h0
    rw[if_neg h0]at h
    have e0:md (-n)=0:=by omega
    have e1:=Kf (-n)
    rw[e0,Int.neg_neg]at e1
    rw[e0,← e1]
    rfl
theorem UN {p:Prop}(h:p:=by first|exact Bf (Zu n (by assumption))|exact Bf (Zv n (by assumption))):p:=h
theorem D5 (w:World)(n:Int)(_hn:BG n)  :
  Calls Tryz.prog 132 #[zI n] w (fun e w'=>e=.returned (zI (md n))∧w'=w):=by
 refine Au [zI n] 11 Tryz.func132 Z Z sM ?_
 have a0:w=w:=rfl
 refine fE Z<|fC [0,0,0] Z<|Ad 1 Z<|Ej (n.tmod 1000003) Z Z (by decide) Z Aa<|Ac 1 Z<|A0<|fC [0,0] Z<|Ad 1 Z ?_
 by_cases a1:n.tmod 1000003<((0:Nat):Int)
 ·exact AJ true Z Z (A5 a1) Aa<|Ai<|Af Z<|Ab _ [0,0,0] Z<|Ad 1 Z<|AR (wr ((n.tmod 1000003)+((1000003:Nat):Int))) Z Z Z Aa<|Ac 1 Z<|fC [0,0] Z<|Ac 2 Z<|A1<|Ah [2] Z (zI<|wr ((n.tmod 1000003)+((1000003:Nat):Int))) Z ⟨UN,a0⟩
 exact AJ false Z Z (A6 a1) Aa<|Ai<|Aj Z<|A2<|fC [0,0] Z<|Ac 2 Z<|A1<|Ah [2] Z (zI<|n.tmod 1000003) Z ⟨UN,a0⟩
theorem KR (w:World)(a:Int)(b:Int)(_ha:BG a)(_hb:BG b)  :
  Calls Tryz.prog 50 #[zI a,zI b] w (fun e w'=>e=.returned (zI (md (a+b)))∧w'=w):=by
 refine Au [zI a,zI b] 11 Tryz.func50 Z Z sM ?_
 have a0:w=w:=rfl
 exact fE Z<|fC [0,0,0,0,0,0,0] Z<|Ad 1 Z<|AG 132 [] [] [zI a] Z Z Nr Aa (zI<|md a) (fun wq=>D5 wq _ _ha)<|Ad 1 Z<|AG 132 [] [] [zI b] Z Z Nr Aa (zI<|md b) (fun wq=>D5 wq _ _hb)<|AR (wr ((md a)+(md b))) Z Z Z Aa<|Ej ((wr ((md a)+(md b))).tmod 1000003) Z Z (by decide) Z Aa<|Ac 1 Z<|A1<|Ah [4] Z (zI<|(wr ((md a)+(md b))).tmod 1000003) Z ⟨Bf<|Qy a b,a0⟩
theorem Dc (w:World)(a:Int)(b:Int)(_ha:BG a)(_hb:BG b)  :
  Calls Tryz.prog 112 #[zI a,zI b] w (fun e w'=>e=.returned (zI (md (a*b)))∧w'=w):=by
 refine Au [zI a,zI b] 11 Tryz.func112 Z Z sM ?_
 have a0:w=w:=rfl
 exact fE Z<|fC [0,0,0,0,0,0,0] Z<|Ad 1 Z<|AG 132 [] [] [zI a] Z Z Nr Aa (zI<|md a) (fun wq=>D5 wq _ _ha)<|Ad 1 Z<|AG 132 [] [] [zI b] Z Z Nr Aa (zI<|md b) (fun wq=>D5 wq _ _hb)<|Ge (wr ((md a)*(md b))) Z Z Z Aa<|Ej ((wr ((md a)*(md b))).tmod 1000003) Z Z (by decide) Z Aa<|Ac 1 Z<|A1<|Ah [4] Z (zI<|(wr ((md a)*(md b))).tmod 1000003) Z ⟨Bf<|OB a b,a0⟩
theorem KV (w:World)(a:Int)(b:Int)(_ha:BG a)(_hb:BG b)(hs:-9223372036854775808≤a-b∧a-b≤9223372036854775807) :
  Calls Tryz.prog 223 #[zI a,zI b] w (fun e w'=>e=.returned (zI (md (a-b)))∧w'=w):=by
 refine Au [zI a,zI b] 9 Tryz.func223 Z Z sM ?_
 have a0:w=w:=rfl
 exact fE Z<|fC [0,0,0,0,0] Z<|Ad 2 Z<|BJ (wr (a-b)) Z Z Z Aa<|AG 132 [] [] [zI<|wr (a-b)] Z Z Nr Aa (zI<|md<|wr (a-b)) (fun wq=>D5 wq _<|Px _)<|Ac 1 Z<|A1<|Ah [4] Z (zI<|md<|wr (a-b)) Z ⟨Bf (by rw[GM hs.1 hs.2]),a0⟩
theorem O7 {p:Prop}(h:p:=by exact⟨zO,by first|exact YG hI.2 oM (by assumption)|exact Vi hI.2 oM (by assumption)⟩):p:=h
theorem O8 (w:World)(a:Int)(n:Int)(_ha:BG a)(_hn:BG n)  :
  Calls Tryz.prog 224 #[zI a,zI n] w (fun e w'=>e=.returned (zI (pw a n))∧w'=w):=by
 refine Au [zI a,zI n] 25 Tryz.func224 Z Z sM ?_
 have a0:w=w:=rfl
 refine fE Z<|A0<|fC [0,0] Z<|Ad 1 Z ?_
 by_cases a2:n<((0:Nat):Int)
 ·exact AJ true Z Z (A5 a2) Aa<|Ai<|Af Z<|fE Z<|A1<|Ao<|Ah [4] Z (zI ((0:Nat):Int)) Z ⟨Bf<|SL (by assumption),a0⟩
 refine AJ false Z Z (A6 a2) Aa<|Ai<|Aj Z<|A2<|fE Z<|fC [0,0,0] Z<|Ad 1 Z<|AG 132 [] [] [zI a] Z Z Nr Aa (zI<|md a) (fun wq=>D5 wq _ _ha)<|Ac 1 Z<|A0<|A3 ?_
 refine AW (S:=Int×Int×Int) (fun⟨m,x,b⟩=>([(1,zI m),(5,zI x),(6,zI b)])) (fun⟨m,x,b⟩ W=>W=w∧(0≤m∧md (x*b ^ m.toNat)=md (a ^ n.toNat))∧m≤9223372036854775807∧(0≤x∧x<1000003)∧(0≤b∧b<1000003)) (fun⟨m,x,b⟩=>m.toNat) (n,((1:Nat):Int),md a) ⟨rfl,rfl,rfl,trivial⟩ ⟨a0,(by exact⟨zO,OC a n.toNat⟩),oM,oM,(by exact Ci _)⟩ ?_
 clear a0
 rintro⟨m,x,b⟩ ρ3 w3 ⟨a1,hI,hm,hx,hb⟩
 refine A0<|fC [0,0] Z<|Ad 1 Z ?_
 by_cases a3:((0:Nat):Int)<m
 ·refine Cj true Z Z (A5 a3) Aa<|Ai<|Af Z<|A2<|A3<|A0<|fC [0,0,0] Z<|Ad 1 Z<|Ej (m % 2) Z Z (by decide) (fH hI.1) Aa ?_
  by_cases a4:m % 2=((1:Nat):Int)
  ·refine As true Z Z (A5 a4) Aa<|Ai<|Af Z<|Ab _ [0,0,0,0] Z<|Ad 2 Z<|AG 112 [] [] [zI x,zI b] Z Z M8 Aa (zI<|md (x*b)) (fun wq=>Dc wq _ _ oM oM)<|Ac 1 Z<|fC [0,0,0,0] Z<|Ad 2 Z<|AG 112 [] [] [zI b,zI b] Z Z M8 Aa (zI<|md (b*b)) (fun wq=>Dc wq _ _ oM oM)<|Ac 1 Z<|Ab _ [0,0,0] Z<|Ad 1 Z<|Qn (m / 2) Z Z (by decide) (dU hI.1 hm) Aa<|Ac 1 Z ?_
   exact⟨(m / 2,md (x*b),md (b*b)),_,rfl,zR,⟨a1,O7,oM,(by first|exact hx|exact Ci _),(by exact Ci _)⟩,zD⟩
  exact As false Z Z (A6 a4) Aa<|Ai<|Aj Z<|A2<|fC [0,0,0,0] Z<|Ad 2 Z<|AG 112 [] [] [zI b,zI b] Z Z M8 Aa (zI<|md (b*b)) (fun wq=>Dc wq _ _ oM oM)<|Ac 1 Z<|Ab _ [0,0,0] Z<|Ad 1 Z<|Qn (m / 2) Z Z (by decide) (dU hI.1 hm) Aa<|Ac 1 Z ⟨(m / 2,x,md (b*b)),_,rfl,zR,⟨a1,O7,oM,(by first|exact hx|exact Ci _),(by exact Ci _)⟩,zD⟩
 exact Cj false Z Z (A6 a3) Aa<|Ai<|Aj Z<|A4<|Az<|Az<|Aw<|fC [0,0] Z<|Ac 2 Z<|A1<|Ah [4] Z (zI x) Z ⟨Bf<|SK hI.2 hI.1 (by assumption) (by assumption) hx,a1⟩
theorem O9 (w:World)(a:Int)(n:Int)(_ha:BG a)(_hn:BG n)  :
  Calls Tryz.prog 257 #[zI a,zI n] w (fun e w'=>e=.returned (zI (pw a n))∧w'=w):=by
 refine Au [zI a,zI n] 27 Tryz.func257 Z Z sM ?_
 have a0:w=w:=rfl
 refine fE Z<|A0<|fC [0,0] Z<|Ad 1 Z ?_
 by_cases a2:n<((0:Nat):Int)
 ·exact AJ true Z Z (A5 a2) Aa<|Ai<|Af Z<|fE Z<|A1<|Ao<|Ah [4] Z (zI ((0:Nat):Int)) Z ⟨Bf<|SL (by assumption),a0⟩
 refine AJ false Z Z (A6 a2) Aa<|Ai<|Aj Z<|A2<|fE Z<|A0<|fC [0,0,0] Z<|Ad 1 Z<|AG 232 [] [] [zI a] Z Z Nt Aa (zI<|md a) (fun wq=>D4 wq _ _ha)<|Ac 1 Z<|A3 ?_
 refine AW (S:=Int×Int×Int) (fun⟨m,x,b⟩=>([(1,zI m),(5,zI x),(6,zI b)])) (fun⟨m,x,b⟩ W=>W=w∧(0≤m∧md (x*b ^ m.toNat)=md (a ^ n.toNat))∧m≤9223372036854775807∧(0≤x∧x<1000003)∧(0≤b∧b<1000003)) (fun⟨m,x,b⟩=>m.toNat) (n,((1:Nat):Int),md a) ⟨rfl,rfl,rfl,trivial⟩ ⟨a0,(by exact⟨zO,OC a n.toNat⟩),oM,oM,(by exact Ci _)⟩ ?_
 clear a0
 rintro⟨m,x,b⟩ ρ3 w3 ⟨a1,hI,hm,hx,hb⟩
 refine A0<|fC [0,0] Z<|Ad 1 Z ?_
 by_cases a3:((0:Nat):Int)<m
 ·refine Cj true Z Z (A5 a3) Aa<|Ai<|Af Z<|A2<|A0<|A3<|A0<|fC [0,0,0] Z<|Ad 1 Z<|Ej (m % 2) Z Z (by decide) (fH hI.1) Aa ?_
  by_cases a4:m % 2=((1:Nat):Int)
  ·refine As true Z Z (A5 a4) Aa<|Ai<|Af Z<|Ab _ [0,0,0,0,0] Z<|Ad 2 Z<|Ge (wr (x*b)) Z Z Z Aa<|Ej (md (x*b)) Z Z (by decide) (OD hx hb) Aa<|Ac 1 Z<|Ab _ [0,0,0,0,0] Z<|Ad 2 Z<|Ge (wr (b*b)) Z Z Z Aa<|Ej (md (b*b)) Z Z (by decide) (OD hb hb) Aa<|Ac 1 Z<|Ab _ [0,0,0] Z<|Ad 1 Z<|Qn (m / 2) Z Z (by decide) (dU hI.1 hm) Aa<|Ac 1 Z ?_
   exact⟨(m / 2,md (x*b),md (b*b)),_,rfl,zR,⟨a1,O7,oM,(by first|exact hx|exact Ci _),(by exact Ci _)⟩,zD⟩
  exact As false Z Z (A6 a4) Aa<|Ai<|Aj Z<|A2<|Ab _ [0,0,0,0,0] Z<|Ad 2 Z<|Ge (wr (b*b)) Z Z Z Aa<|Ej (md (b*b)) Z Z (by decide) (OD hb hb) Aa<|Ac 1 Z<|Ab _ [0,0,0] Z<|Ad 1 Z<|Qn (m / 2) Z Z (by decide) (dU hI.1 hm) Aa<|Ac 1 Z ⟨(m / 2,x,md (b*b)),_,rfl,zR,⟨a1,O7,oM,(by first|exact hx|exact Ci _),(by exact Ci _)⟩,zD⟩
 exact Cj false Z Z (A6 a3) Aa<|Ai<|Aj Z<|A4<|Az<|Az<|Aw<|fC [0,0] Z<|Ac 2 Z<|A1<|Ah [4] Z (zI x) Z ⟨Bf<|SK hI.2 hI.1 (by assumption) (by assumption) hx,a1⟩
theorem ML (w:World)(a:Int)(_ha:BG a)  :
  Calls Tryz.prog 163 #[zI a] w (fun e w'=>e=.returned (zI (inv a))∧w'=w):=by
 refine Au [zI a] 5 Tryz.func163 Z Z sM ?_
 have a0:w=w:=rfl
 exact fE Z<|fC [0,0,0] Z<|Ad 1 Z<|AG 224 [] [] [zI a,zI ((1000001:Nat):Int)] Z Z cF Aa (zI<|pw a ((1000001:Nat):Int)) (fun wq=>O8 wq _ _ _ha oM)<|Ac 1 Z<|A1<|Ah [2] Z (zI<|pw a ((1000001:Nat):Int)) Z ⟨rfl,a0⟩
theorem Ic (w:World)(a:Int)(_ha:BG a)  :
  Calls Tryz.prog 226 #[zI a] w (fun e w'=>e=.returned (zI (inv a))∧w'=w):=by
 refine Au [zI a] 5 Tryz.func226 Z Z sM ?_
 have a0:w=w:=rfl
 exact fE Z<|fC [0,0,0] Z<|Ad 1 Z<|AG 257 [] [] [zI a,zI ((1000001:Nat):Int)] Z Z cQ Aa (zI<|pw a ((1000001:Nat):Int)) (fun wq=>O9 wq _ _ _ha oM)<|Ac 1 Z<|A1<|Ah [2] Z (zI<|pw a ((1000001:Nat):Int)) Z ⟨rfl,a0⟩
theorem Fm (w:World)(n:Int)(_hn:BG n)  :
  Calls Tryz.prog 170 #[zI n] w (fun e w'=>e=.returned (.bool (IS n))∧w'=w):=by
 refine Au [zI n] 5 Tryz.func170 Z Z sM ?_
 have a0:w=w:=rfl
 exact fE Z<|fC [0,0,0] Z<|Ad 1 Z<|AG 117 [] [] [zI n,zI ((0:Nat):Int),zI ((1000002:Nat):Int)] Z Z D2 Aa (.bool (decide (((0:Nat):Int)≤n) && decide (n≤((1000002:Nat):Int)))) (fun wq=>B4 wq _ _ _ _hn oM oM)<|Ac 1 Z<|A1<|Ah [2] Z (.bool (decide (((0:Nat):Int)≤n) && decide (n≤((1000002:Nat):Int)))) Z ⟨AP (by unfold IS;rfl),a0⟩
theorem H1 (w:World)(n:Int)(_hn:BG n)  :
  Calls Tryz.prog 220 #[zI n] w (fun e w'=>e=.returned (.bool (IS n))∧w'=w):=by
 refine Au [zI n] 5 Tryz.func220 Z Z sM ?_
 have a0:w=w:=rfl
 exact fE Z<|fC [0,0,0] Z<|Ad 1 Z<|AG 74 [] [] [zI n,zI ((0:Nat):Int),zI ((1000002:Nat):Int)] Z Z II Aa (.bool (decide (((0:Nat):Int)≤n) && decide (n≤((1000002:Nat):Int)))) (fun wq=>BC wq _ _ _ _hn oM oM)<|Ac 1 Z<|A1<|Ah [2] Z (.bool (decide (((0:Nat):Int)≤n) && decide (n≤((1000002:Nat):Int)))) Z ⟨AP (by unfold IS;rfl),a0⟩
theorem IK (w:World)(n:Int)(_hn:BG n)  :
  Calls Tryz.prog 169 #[zI n] w (fun e w'=>e=.returned (.bool (!IS n))∧AD w w'):=by
 refine Au [zI n] 6 Tryz.func169 Z Z sM ?_
 have a0:AD w w:=AD.refl w
 exact fE Z<|fC [0,0,0,0] Z<|Ad 1 Z<|AG 170 [] [] [zI n] Z Z UC Aa (.bool<|IS n) (fun wq=>Fm wq _ _hn)<|Bq (!(IS n)) Z Z Aa<|Ac 1 Z<|A1<|Ah [2] Z (.bool (!(IS n))) Z ⟨rfl,a0⟩
def Sl {α:Type}(p:α→Bool)(l:List α):Int:=if l.any p then((l.findIdx p:Nat):Int)else -1
theorem UO {α:Type}{p:α→Bool}{l:List α}{k:Nat}(d:α)(h:∀j,j<k→p (l.getD j d)=false)(hk:k<l.length)(hp:p (l.getD k d)=true):((k:Nat):Int)=Sl p l:=by
  have e:∀j,(hj:j<l.length)→l.getD j d=l[j]:=fun j hj=>by simp[hj]
  have h1:l.any p=true:=List.any_eq_true.2 ⟨l[k],List.getElem_mem hk,by rw[← e k hk];exact hp⟩
  have h2:l.findIdx p=k:=by
    rw[List.findIdx_eq hk]
    refine⟨by rw[← e k hk];exact hp,fun j hj=>?_⟩
    have:=h j hj
    rw[e j (by omega)]at this
    exact this
  unfold Sl;rw[if_pos h1,h2]
theorem Ye {α:Type}{p:α→Bool}{l:List α}{k:Nat}(d:α)(h:∀j,j<k→p (l.getD j d)=false)(hk:l.length≤k):(-1:Int)=Sl p l:=by
  have h1:l.any p=false:=by
    rw[List.any_eq_false]
    intro x hx
    obtain⟨j,hj,rfl⟩:=List.getElem_of_mem hx
    have:=h j zO
    have e:l.getD j d=l[j]:=by simp[hj]
    rw[e]at this
    simp[this]
  unfold Sl;rw[h1];rfl
theorem Yf {α:Type}(p:α→Bool)(l:List α):decide (((0:Nat):Int)≤Sl p l)=l.any p:=by
  unfold Sl
  split
  · rename_i h;rw[h];exact A5 zO
  · rename_i h;rw[Bool.not_eq_true]at h;rw[h];exact A6 zO
theorem RK {α:Type}{p:α→Bool}{l:List α}{k:Nat}{d:α}(h:∀j,j<k→p (l.getD j d)=false)(hp:p (l.getD k d)=false):∀j,j<k+1→p (l.getD j d)=false:=by
  intro j hj
  by_cases e:j=k
  · subst e;exact hp
  · exact h j zO
theorem Eh (w:World) (va:Value) (a:Sr) (q:Nat) (qf qc:List Value) (p:Int→Bool) (ha:Rd (Bd rI) w.heap va a) (hcf_q:((Tryz.prog.funcs[q]?).map fun fn=>(fn.name != "runtime.NumGoroutine") && fn.body.isSome) = some true) (hp:∀ (x:Int),BG x→∀ w1,AD w w1→Calls Tryz.prog q (qf++[Value.int .i64 x]++qc).toArray w1 (fun e w2=>e = .returned (.bool (p x))∧AD w1 w2))  :
  Calls Tryz.prog 225 #[va,.func (.func q) qf.toArray qc.toArray] w (fun e w'=>e = .returned (zI (Sl p a))∧AD w w'):=by
 refine Au [va,.func (.func q) qf.toArray qc.toArray] 19 Tryz.func225 Z Z sM ?_
 have a3:AD w w:=AD.refl w
 have aa:=ha.lenle
 refine fE Z<|A0<|fC [0,0,0] Z<|Ad 1 Z<|AS (v:=va) BQ Z ha.isSl Aa<|Ac 1 Z<|A3 ?_
 refine AW (S:=Nat) (fun k=>([(8,zI ((k :Nat):Int)),(0,va),(1,.func (.func q) qf.toArray qc.toArray),(7,zI ((a.length :Nat):Int))])) (fun k W=>AD w W∧k≤a.length∧(∀ j,j < k→p (a.getD j 0) = false)) (fun k=>a.length - k) 0 ⟨rfl,rfl,rfl,rfl,trivial⟩ ⟨a3,sD,(by intro j hj; omega)⟩ ?_
 clear a3
 rintro k ρ1 w1 ⟨a1,a4,hq⟩
 have a7:w.heap.size≤w1.heap.size:=a1.size
 refine fC [0] Z ?_
 by_cases a5:((k :Nat):Int) < ((a.length :Nat):Int)
 ·
  refine AJ true Z Z (A5 a5) Aa<|Ai<|A0<|Af Z<|A2<|A0<|A3<|fC [0,0] Z<|Ac 2 Z<|fC [0,0,0,0,2,3] Z<|Ad 3 Z<|AE (v:=va) k BQ Ck Z Z ha.isSl Z sD Aa ?_
  refine Ag (p:=AA va k 1) (.inr Z) (zI<|a.getD k 0) AI Z (Bp a1 (ha.getI sD).1) Aa ?_
  have a0:=hp (a.getD k 0) (ha.getI sD).2 _ a1
  refine At q qf qc _ Z Z hcf_q Aa a0 ?_
  rintro e3 w3 ⟨rfl,a2⟩
  refine ⟨_,rfl,a2,?_⟩
  have a8:=a2.size
  have a6:=a1.trans a2
  cases a9:p (a.getD k 0)
  ·
   refine Ai<|Aj Z<|A2<|Ab _ [0,0] Z<|AR ((k + 1 :Nat):Int) Z Z (Bl oM sD) Aa<|Ac 1 Z ?_
   exact ⟨k + 1,_,rfl,zR,⟨a6,sD,(by exact RK hq (by assumption))⟩,by first | omega | (dsimp only; omega)⟩
  
  exact Ai<|Af Z<|fC [0,0] Z<|Ac 2 Z<|A1<|AL<|Ao<|Ao<|AL<|Ao<|Ah [4] Z (zI ((k :Nat):Int)) Z ⟨Bf<|UO 0 hq oM (by assumption),a6⟩
 
 exact AJ false Z Z (A6 a5) Aa<|Ai<|A0<|Aj Z<|A4<|Az<|Az<|Aw<|fE Z<|A1<|Ah [4] Z (zI (-1)) Z ⟨Bf<|Ye 0 hq oM,a1⟩
theorem Cv (w:World) (va:Value) (a:Sr) (q:Nat) (qf qc:List Value) (p:Int→Bool) (ha:Rd (Bd rI) w.heap va a) (hcf_q:((Tryz.prog.funcs[q]?).map fun fn=>(fn.name != "runtime.NumGoroutine") && fn.body.isSome) = some true) (hp:∀ (x:Int),BG x→∀ w1,AD w w1→Calls Tryz.prog q (qf++[Value.int .i64 x]++qc).toArray w1 (fun e w2=>e = .returned (.bool (p x))∧AD w1 w2))  :
  Calls Tryz.prog 168 #[va,.func (.func q) qf.toArray qc.toArray] w (fun e w'=>e = .returned (.bool (a.any p))∧AD w w'):=by
 refine Au [va,.func (.func q) qf.toArray qc.toArray] 9 Tryz.func168 Z Z sM ?_
 have a0:AD w w:=AD.refl w
 have a4:=ha.lenle
 refine fE Z<|fC [0,0,3,0,0] Z<|Ad 2 Z<|At 225 [] [] [va,.func (.func q) qf.toArray qc.toArray] Z Z cG Aa (Eh _ _ _ q qf qc p (ha.ext g1 a0) hcf_q fun x hx w1 hw=>hp x hx w1<|a0.trans hw) ?_
 rintro e1 w1 ⟨rfl,a1⟩
 refine ⟨_,rfl,a1,?_⟩
 have a2:=a1.size
 have a3:=a0.trans a1
 exact DN (decide (((0 :Nat):Int)≤Sl p a)) Z Z Z Aa<|Ac 1 Z<|A1<|Ah [4] Z (.bool<|decide (((0 :Nat):Int)≤Sl p a)) Z ⟨AP<|Yf p a,a3⟩
theorem BU (w:World)(va:Value)(a:Sr)(ha:Rd (Bd rI) w.heap va a)(hla:a.length≤1000000000000) :
  Calls Tryz.prog 130 #[va] w (fun e w'=>∃v0:Value,e=.returned (v0)∧AD w w'∧Fr (BA rI 2) w.heap.size w'.heap.size w'.heap v0 a):=by
 refine Au [va] 8 Tryz.func130 Z Z sM ?_
 have a1:AD w w:=AD.refl w
 have ac:=ha.lenle
 refine fE Z<|A0<|fC [0,0] Z<|Ad 1 Z ?_
 cases a2:Py va
 ·refine Sv (v:=va) false BQ Z Z ha.isSl a2 Aa<|Ai<|Aj Z<|A2<|fC [3,0,4,0] Z (Dy (rI) B1 BQ Ck Aa fun v2 w2 a3 ab a5=>?_)
  have a6:=a3.size
  have a0:=a1.trans a3
  refine Ad 1 Z (HX (v:=v2) (a:=va) BQ Ck Z Z Z a5 a0.size (ha.ext g1 a0) sD (by unfold maxLen;first|omega|assumption|(simp;done)|(simp;omega)) Aa fun v3 w3 F3 a4 a7 a8=>?_)
  have a9:AD w w3:=a4.below a0 (fun c hc=>A8 (A7 _) (a7 c hc).1) a0.size
  have aa:=a4.size
  exact Ac 1 Z<|A1<|Ah [2] Z v3 Z ⟨v3,rfl,a9,a8.up o1⟩
 refine Sv (v:=va) true BQ Z Z ha.isSl a2 Aa<|Ai<|Af Z<|fE Z<|A1<|Ao ?_
 have hnil:a=[]:=ha.nil_of (by assumption)
 subst hnil
 exact Ah [2] Z zN Z ⟨zN,rfl,a1,Gf _ _ _⟩
theorem CO (w:World)(va:Value)(a:Sr)(count:Int)(ha:Rd (Bd rI) w.heap va a)(_hcount:BG count)  :
  Calls Tryz.prog 86 #[va,zI count] w (fun e w'=>e=.returned (.bool (decide ((a.length:Int)=count) && Bb a))∧AD w w'):=by
 refine Au [va,zI count] 14 Tryz.func86 Z Z sM ?_
 have a0:AD w w:=AD.refl w
 have a5:=ha.lenle
 refine fE Z<|fC [0,0,0,0,0,0,3,0,0,0] Z<|Ad 1 Z<|AS (v:=va) BQ Z ha.isSl Aa<|Ad 1 Z ?_
 by_cases a2:(a.length:Int)=count
 ·refine As true Z Z (A5 a2) Aa<|Ad 2 Z<|At 168 [] [] [va,.func (.func 169) #[] #[]] Z Z XY (Ae (e:=9) Z Z Z) (Cv _ _ _ 169 [] [] (fun x=>!IS x) (ha.ext g1 a0) bQ fun x hx w1 hw=>IK w1 x hx) ?_
  rintro e2 w2 ⟨rfl,a1⟩
  refine⟨_,rfl,a1,?_⟩
  have a3:=a1.size
  have a4:=a0.trans a1
  exact Bq (!(a.any fun x=>!IS x)) Z Z (Ae (e:=9) Z Z Z)<|Ac 2 Z<|A1<|Ah [4] Z (.bool (!(a.any fun x=>!IS x))) Z ⟨AP (by first|(rw[QB];simp[*];done)|simp[*]),a4⟩
 exact As false Z Z (A6 a2) Aa<|Ac 6 Z<|A1<|Ah [4] Z (.bool false) Z ⟨AP (by first|(rw[QB];simp[*];done)|simp[*]),a0⟩
theorem K4 (w:World)(va:Value)(a:Sr)(ha:Rd (Bd rI) w.heap va a)  :
  Calls Tryz.prog 157 #[va] w (fun e w'=>e=.returned (.bool (Bb a))∧AD w w'):=by
 refine Au [va] 16 Tryz.func157 Z Z sM ?_
 have a1:AD w w:=AD.refl w
 have a6:=ha.lenle
 refine fE Z<|A0<|fE Z<|A3<|AW (S:=Nat) (fun k=>([(3,zI (k:Int)),(0,va)])) (fun k W=>AD w W∧k≤a.length∧((a.take k).all IS=true)) (fun k=>a.length-k) 0 ⟨rfl,rfl,trivial⟩ ⟨a1,sD,(by exact SM _ _)⟩ ?_
 clear a1
 rintro k ρ1 w1 ⟨a0,a2,hq⟩
 have a5:w.heap.size≤w1.heap.size:=a0.size
 refine A0<|fC [0,0,0,0] Z<|Ad 2 Z<|AS (v:=va) BQ Z ha.isSl Aa ?_
 by_cases a3:(k:Int)<(a.length:Int)
 ·refine AJ true Z Z (A5 a3) Aa<|Ai<|Af Z<|A2<|A0<|A3<|fC [0,0,0,2,0,0] Z<|Ad 2 Z<|AE (v:=va) k BQ Ck Z Z ha.isSl Z sD Aa ?_
  refine Ag (p:=AA va k 1) (.inr Z) (zI<|a.getD k 0) AI Z (Bp a0 (ha.getI sD).1) Aa ?_
  refine AG 220 [] [] [zI<|a.getD k 0] Z Z Y5 Aa (.bool<|IS<|a.getD k 0) (fun wq=>H1 wq _ (ha.getI sD).2)<|Bq (!(IS<|a.getD k 0)) Z Z Aa<|Ai ?_
  cases a4:(!(IS (a.getD k 0)))
  ·refine Aj (by first|rfl|exact zW a4)<|A2<|Ab _ [0,0,0] Z<|Ad 1 Z<|AR ((k+1:Nat):Int) Z Z (Bl oM sD) Aa<|Ac 1 Z ?_
   exact⟨k+1,_,rfl,⟨rfl,rfl,trivial⟩,⟨a0,sD,(by exact OE 0 hq oM (by simpa using ‹(!IS (a.getD k 0))=false›))⟩,zD⟩
  exact Af (by first|rfl|exact zW a4)<|fE Z<|A1<|AL<|Ao<|Ao<|AL<|Ao<|Ah [2] Z (.bool false) Z ⟨AP (OF (k:=k) 0 oM (by simpa using ‹(!IS (a.getD k 0))=true›)).symm,a0⟩
 exact AJ false Z Z (A6 a3) Aa<|Ai<|Aj Z<|A4<|Az<|Az<|Aw<|fE Z<|A1<|Ah [2] Z (.bool true) Z ⟨AP (OG hq oM).symm,a0⟩
theorem Oa {p:Prop}(h:p:=by first|omega|exact Qt _):p:=h
theorem CJ {p:Prop}(h:p:=by kernel_rfl):p:=h
theorem FY (w:World)(g:Nat)(sv:Value)(cs:List UInt8)(n0:Nat)(hs:Fk w.heap g sv cs n0)(al:n0+1≤1000000000000)  :
  Calls Tryz.prog 151 #[zP g] w (fun e w'=>∃(x0:Int) (n1:Nat),e=.returned (zI x0)∧Ax [g] w w'∧Fk w'.heap g sv cs n1∧(n0≤n1∧n1≤n0+1)∧(0≤x0∧x0≤255)):=by
 refine Au [zP g] 62 Tryz.func151 Z Z sM ?_
 have a2:Ax [g] w w:=Ax.refl [g] w
 have aq:=hs.lt
 obtain⟨sd,hbx,hrs⟩:=hs.parts
 have hl_sv:=(hrs _<|Ax.refl [g] w).lenle
 refine fE Z<|fE Z<|A0<|A0<|AQ _ [0,0,0,1,0,0,0,1,0,0] mixed CJ<|Ad 1 Z<|B9 Z Aa<|EA 1 CJ Z Aa<|Ag (p:=.pointer<|some ⟨g,1,none⟩) (.inl Z) (zI (n0:Int)) Mb Z (hbx.ld (k:=1) sM) Aa<|Ad 1 Z<|B9 Z Aa<|EA 0 CJ Z Aa<|Ag (p:=zP g) (.inl Z) sv RE Z (hbx.ld (k:=0) sM) Aa<|AS (v:=sv) UK Z (hrs _ a2.drew).isSl Aa ?_
 by_cases aa:(n0:Int)<(cs.length:Int)
 ·refine AJ true Z Z (A5 aa) Aa<|Ai<|Af Z<|AQ _ [0,0,0,1,0,0,0,1,0,1,0,0] mixed CJ<|Ad 1 Z<|B9 Z Aa<|EA 0 CJ Z Aa<|Ag (p:=zP g) (.inl Z) sv RE Z (hbx.ld (k:=0) sM) Aa<|Ad 1 Z<|B9 Z Aa<|EA 1 CJ Z Aa<|Ag (p:=.pointer<|some ⟨g,1,none⟩) (.inl Z) (zI (n0:Int)) Mb Z (hbx.ld (k:=1) sM) Aa ?_
  refine AE (v:=sv) n0 UK fK Z Z (hrs _ a2.drew.drew).isSl Z sD Aa ?_
  refine Ag (p:=AA sv n0 1) (.inl Z) (.int .u8 ((cs.getD n0 0).toNat:Int)) fj Z ((hrs _ a2.drew.drew).getU sD).1 Aa (Kb ((cs.getD n0 0).toNat:Int) u5 u3 Z (w8 _) Aa<|Ac 1 Z<|fC [0,0,0,2,0,0,0,4] Z<|Ad 1 Z<|B9 Z Aa<|EA 1 CJ Z Aa<|Ag (p:=.pointer<|some ⟨g,1,none⟩) (.inr Z) (zI (n0:Int)) Mb Z (hbx.ld (k:=1) sM) Aa ?_)
  refine AR ((n0+1:Nat):Int) Z Z (Bl oM sD) Aa<|B9 Z Aa<|EA 1 CJ Z Aa (Bc (w:=w.drew.drew) fJ Z Z ⟨rfl,rfl⟩ hbx sM Aa fun w2 a3 am ad=>?_)
  replace a3:=a3.of_drew
  replace a3:=a3.of_drew
  have ae:Ax [g] w w2:=a2.trans a3
  have a4:BX w2.heap g [sv,zI ((n0+1:Nat):Int),.int .u64 sd]:=ad
  refine Ai<|fC [0,0,0,0,2,0,0,0,0,0,0,0,4] Z<|Ad 2 Z<|B9 Z Aa<|EA 2 CJ Z Aa<|Ag (p:=.pointer<|some ⟨g,2,none⟩) (.inr Z) (.int .u64 sd) O1 Z (a4.ld (k:=2) sM) Aa<|Ge (IntKind.u64.wrap (sd*6364136223846793005)) Z Z Z Aa<|Ad 1 Z<|Kb (IntKind.u64.wrap ((cs.getD n0 0).toNat:Int)) u3 X5 Z Z Aa<|AR (IntKind.u64.wrap ((IntKind.u64.wrap (sd*6364136223846793005))+(IntKind.u64.wrap ((cs.getD n0 0).toNat:Int)))) Z Z Z Aa<|AR (IntKind.u64.wrap ((IntKind.u64.wrap ((IntKind.u64.wrap (sd*6364136223846793005))+(IntKind.u64.wrap ((cs.getD n0 0).toNat:Int))))+1442695040888963407)) Z Z Z Aa<|B9 Z Aa ?_
  refine EA 2 CJ Z Aa (Bc (w:=w2) Yd Z Z ⟨rfl,rfl⟩ a4 sM Aa fun w3 af an ag=>?_)
  have a5:Ax [g] w w3:=ae.trans af
  have a0:BX w3.heap g [sv,zI ((n0+1:Nat):Int),.int .u64 (IntKind.u64.wrap ((IntKind.u64.wrap ((IntKind.u64.wrap (sd*6364136223846793005))+(IntKind.u64.wrap ((cs.getD n0 0).toNat:Int))))+1442695040888963407))]:=ag
  refine Ai<|A0<|A0<|AQ _ [0,0,0,1,0,0,0,1,0,0] mixed CJ<|Ad 1 Z<|B9 Z Aa<|EA 1 CJ Z Aa<|Ag (p:=.pointer<|some ⟨g,1,none⟩) (.inl Z) (zI ((n0+1:Nat):Int)) Mb Z (a0.ld (k:=1) sM) Aa<|Ad 1 Z<|B9 Z Aa<|EA 0 CJ Z Aa<|Ag (p:=zP g) (.inl Z) sv RE Z (a0.ld (k:=0) sM) Aa<|AS (v:=sv) UK Z (hrs _ a5.drew).isSl Aa ?_
  by_cases ab:((n0+1:Nat):Int)≤(cs.length:Int)
  ·refine Ek true Z Z (A5 ab) Aa<|Ai<|Af Z<|fC [0,0] Z<|Ac 2 Z<|A1<|Ao ?_
   have a8:=Qs<|cs.getD n0 0
   exact Ah [2] Z (zI ((cs.getD n0 0).toNat:Int)) Z ⟨((cs.getD n0 0).toNat:Int),n0+1,rfl,a5.drew,hs.close a5.drew a0,⟨zO,zO⟩,Oa⟩
  refine Ek false Z Z (A6 ab) Aa<|Ai<|Aj Z<|A2<|fC [0,0,0,2,0,0,0,0] Z<|Ad 1 Z<|B9 Z Aa<|EA 2 CJ Z Aa<|Ag (p:=.pointer<|some ⟨g,2,none⟩) (.inr Z) (.int .u64<|IntKind.u64.wrap ((IntKind.u64.wrap ((IntKind.u64.wrap (sd*6364136223846793005))+(IntKind.u64.wrap ((cs.getD n0 0).toNat:Int))))+1442695040888963407)) O1 Z (a0.ld (k:=2) sM) Aa<|Xi ((IntKind.u64.wrap ((IntKind.u64.wrap ((IntKind.u64.wrap (sd*6364136223846793005))+(IntKind.u64.wrap ((cs.getD n0 0).toNat:Int))))+1442695040888963407)).fdiv (2 ^ (min (40:Int).toNat (IntKind.u64).bits))) Z Z oM Z Aa<|Xk Z Z Aa ?_
  refine Kb (J3 .u64 ((IntKind.u64.wrap ((IntKind.u64.wrap ((IntKind.u64.wrap (sd*6364136223846793005))+(IntKind.u64.wrap ((cs.getD n0 0).toNat:Int))))+1442695040888963407)).fdiv (2 ^ (min (40:Int).toNat (IntKind.u64).bits))) 255) X5 u2 Z (ZJ _) Aa<|Ac 1 Z<|A1 ?_
  have a8:=Qs<|cs.getD n0 0
  exact Ah [2] Z (zI<|J3 .u64 ((IntKind.u64.wrap ((IntKind.u64.wrap ((IntKind.u64.wrap (sd*6364136223846793005))+(IntKind.u64.wrap ((cs.getD n0 0).toNat:Int))))+1442695040888963407)).fdiv (2 ^ (min (40:Int).toNat (IntKind.u64).bits))) 255) Z ⟨J3 .u64 ((IntKind.u64.wrap ((IntKind.u64.wrap ((IntKind.u64.wrap (sd*6364136223846793005))+(IntKind.u64.wrap ((cs.getD n0 0).toNat:Int))))+1442695040888963407)).fdiv (2 ^ (min (40:Int).toNat (IntKind.u64).bits))) 255,n0+1,rfl,a5.drew,hs.close a5.drew a0,⟨zO,zO⟩,Oa⟩
 refine AJ false Z Z (A6 aa) Aa<|Ai<|Aj Z<|A2<|fC [0,0,0,2,0,0,0,4] Z<|Ad 1 Z<|B9 Z Aa<|EA 1 CJ Z Aa<|Ag (p:=.pointer<|some ⟨g,1,none⟩) (.inr Z) (zI (n0:Int)) Mb Z (hbx.ld (k:=1) sM) Aa<|AR ((n0+1:Nat):Int) Z Z (Bl oM sD) Aa<|B9 Z Aa ?_
 refine EA 1 CJ Z Aa (Bc (w:=w.drew) fJ Z Z ⟨rfl,rfl⟩ hbx sM Aa fun w5 a9 ao ah=>?_)
 replace a9:=a9.of_drew
 have ai:Ax [g] w w5:=a2.trans a9
 have a6:BX w5.heap g [sv,zI ((n0+1:Nat):Int),.int .u64 sd]:=ah
 refine Ai<|fC [0,0,0,0,2,0,0,0,0,0,0,0,4] Z<|Ad 2 Z<|B9 Z Aa<|EA 2 CJ Z Aa<|Ag (p:=.pointer<|some ⟨g,2,none⟩) (.inr Z) (.int .u64 sd) O1 Z (a6.ld (k:=2) sM) Aa<|Ge (IntKind.u64.wrap (sd*6364136223846793005)) Z Z Z Aa<|Ad 1 Z<|Kb (IntKind.u64.wrap ((0:Nat):Int)) u3 X5 Z Z Aa<|AR (IntKind.u64.wrap ((IntKind.u64.wrap (sd*6364136223846793005))+(IntKind.u64.wrap ((0:Nat):Int)))) Z Z Z Aa<|AR (IntKind.u64.wrap ((IntKind.u64.wrap ((IntKind.u64.wrap (sd*6364136223846793005))+(IntKind.u64.wrap ((0:Nat):Int))))+1442695040888963407)) Z Z Z Aa<|B9 Z Aa<|EA 2 CJ Z Aa ?_
 refine Bc (w:=w5) Yd Z Z ⟨rfl,rfl⟩ a6 sM Aa fun w6 aj ap ak=>?_
 have a7:Ax [g] w w6:=ai.trans aj
 have a1:BX w6.heap g [sv,zI ((n0+1:Nat):Int),.int .u64 (IntKind.u64.wrap ((IntKind.u64.wrap ((IntKind.u64.wrap (sd*6364136223846793005))+(IntKind.u64.wrap ((0:Nat):Int))))+1442695040888963407))]:=ak
 refine Ai<|A0<|A0<|AQ _ [0,0,0,1,0,0,0,1,0,0] mixed CJ<|Ad 1 Z<|B9 Z Aa<|EA 1 CJ Z Aa<|Ag (p:=.pointer<|some ⟨g,1,none⟩) (.inl Z) (zI ((n0+1:Nat):Int)) Mb Z (a1.ld (k:=1) sM) Aa<|Ad 1 Z<|B9 Z Aa<|EA 0 CJ Z Aa<|Ag (p:=zP g) (.inl Z) sv RE Z (a1.ld (k:=0) sM) Aa<|AS (v:=sv) UK Z (hrs _ a7.drew).isSl Aa ?_
 by_cases ac:((n0+1:Nat):Int)≤(cs.length:Int)
 ·refine Ek true Z Z (A5 ac) Aa<|Ai<|Af Z<|fC [0,0] Z<|Ac 2 Z<|A1<|Ao ?_
  have a8:=Qs<|cs.getD n0 0
  exact Ah [2] Z (zI ((0:Nat):Int)) Z ⟨((0:Nat):Int),n0+1,rfl,a7.drew,hs.close a7.drew a1,⟨zO,zO⟩,Oa⟩
 refine Ek false Z Z (A6 ac) Aa<|Ai<|Aj Z<|A2<|fC [0,0,0,2,0,0,0,0] Z<|Ad 1 Z<|B9 Z Aa<|EA 2 CJ Z Aa<|Ag (p:=.pointer<|some ⟨g,2,none⟩) (.inr Z) (.int .u64<|IntKind.u64.wrap ((IntKind.u64.wrap ((IntKind.u64.wrap (sd*6364136223846793005))+(IntKind.u64.wrap ((0:Nat):Int))))+1442695040888963407)) O1 Z (a1.ld (k:=2) sM) Aa<|Xi ((IntKind.u64.wrap ((IntKind.u64.wrap ((IntKind.u64.wrap (sd*6364136223846793005))+(IntKind.u64.wrap ((0:Nat):Int))))+1442695040888963407)).fdiv (2 ^ (min (40:Int).toNat (IntKind.u64).bits))) Z Z oM Z Aa<|Xk Z Z Aa ?_
 refine Kb (J3 .u64 ((IntKind.u64.wrap ((IntKind.u64.wrap ((IntKind.u64.wrap (sd*6364136223846793005))+(IntKind.u64.wrap ((0:Nat):Int))))+1442695040888963407)).fdiv (2 ^ (min (40:Int).toNat (IntKind.u64).bits))) 255) X5 u2 Z (ZJ _) Aa<|Ac 1 Z<|A1 ?_
 have a8:=Qs<|cs.getD n0 0
 exact Ah [2] Z (zI<|J3 .u64 ((IntKind.u64.wrap ((IntKind.u64.wrap ((IntKind.u64.wrap (sd*6364136223846793005))+(IntKind.u64.wrap ((0:Nat):Int))))+1442695040888963407)).fdiv (2 ^ (min (40:Int).toNat (IntKind.u64).bits))) 255) Z ⟨J3 .u64 ((IntKind.u64.wrap ((IntKind.u64.wrap ((IntKind.u64.wrap (sd*6364136223846793005))+(IntKind.u64.wrap ((0:Nat):Int))))+1442695040888963407)).fdiv (2 ^ (min (40:Int).toNat (IntKind.u64).bits))) 255,n0+1,rfl,a7.drew,hs.close a7.drew a1,⟨zO,zO⟩,Oa⟩
theorem UP {p:Prop}(h:p:=by first|omega|exact⟨Int.emod_nonneg _ oM,Int.le_of_lt (Int.lt_of_lt_of_le (Int.emod_lt_of_pos _ oM) oM),fun _=>Int.emod_lt_of_pos _ oM⟩):p:=h
theorem B5 (w:World)(g:Nat)(sv:Value)(cs:List UInt8)(n0:Nat)(k:Int)(hs:Fk w.heap g sv cs n0)(ad:n0+2≤1000000000000)(_hk:BG k)(hk:k≤1000000) :
  Calls Tryz.prog 68 #[zP g,zI k] w (fun e w'=>∃(x0:Int) (n1:Nat),e=.returned (zI x0)∧Ax [g] w w'∧Fk w'.heap g sv cs n1∧(n0≤n1∧n1≤n0+2)∧(0≤x0∧x0≤1000000∧(1≤k→x0<k))):=by
 refine Au [zP g,zI k] 20 Tryz.func68 Z Z sM ?_
 have a0:Ax [g] w w:=Ax.refl [g] w
 have ai:=hs.lt
 refine fE Z<|A0<|fC [0,0] Z<|Ad 1 Z ?_
 by_cases a1:k≤((1:Nat):Int)
 ·exact Ek true Z Z (A5 a1) Aa<|Ai<|Af Z<|fE Z<|A1<|Ao<|Ah [4] Z (zI ((0:Nat):Int)) Z ⟨((0:Nat):Int),n0,rfl,a0,hs,⟨zO,zO⟩,UP⟩
 refine Ek false Z Z (A6 a1) Aa<|Ai<|Aj Z<|A2<|fC [0,4,0] Z<|Ad 1 Z<|AH 151 [] [] [zP g] Z Z XV Aa (FY _ g _ _ _ hs oM) ?_
 rintro e2 w2 ⟨ag,n2,rfl,a2,a3,ae,a4⟩
 refine⟨_,rfl,?_⟩
 have a9:=a2.size
 have a5:Ax [g] w w2:=a0.trans a2
 refine Ac 1 Z<|A0<|fC [0,0] Z<|Ad 1 Z ?_
 by_cases a6:((200:Nat):Int)<k
 ·refine Cj true Z Z (A5 a6) Aa<|Ai<|Af Z<|Ab _ [0,0,0,4,0,0] Z<|Ad 1 Z ?_
  refine Ge (ag*((256:Nat):Int)) Z Z (DH sD sD) Aa<|Ad 1 Z ?_
  refine AH 151 [] [] [zP g] Z Z XV Aa (FY _ g _ _ _ a3 oM) ?_
  rintro e4 w4 ⟨ah,n4,rfl,a7,aa,af,a8⟩
  refine⟨_,rfl,?_⟩
  have ab:=a7.size
  have ac:Ax [g] w w4:=a5.trans a7
  refine AR ((ag*((256:Nat):Int))+ah) Z Z (DH sD sD) Aa<|Ac 1 Z<|fC [0,0,0,0] Z ?_
  exact Ad 2 Z<|Ej (((ag*((256:Nat):Int))+ah) % k) Z Z oM (Int.tmod_eq_emod_of_nonneg oM) Aa<|Ac 1 Z<|A1<|Ah [4] Z (zI (((ag*((256:Nat):Int))+ah) % k)) Z ⟨((ag*((256:Nat):Int))+ah) % k,n4,rfl,ac,aa,⟨zO,zO⟩,UP⟩
 exact Cj false Z Z (A6 a6) Aa<|Ai<|Aj Z<|A2<|fC [0,0,0,0] Z<|Ad 2 Z<|Ej ((ag) % k) Z Z oM (Int.tmod_eq_emod_of_nonneg oM) Aa<|Ac 1 Z<|A1<|Ah [4] Z (zI ((ag) % k)) Z ⟨(ag) % k,n2,rfl,a5,a3,⟨zO,zO⟩,UP⟩
theorem Co (w:World)(g:Nat)(sv:Value)(cs:List UInt8)(n0:Nat)(k:Int)(hs:Fk w.heap g sv cs n0)(a6:n0+2≤1000000000000)(_hk:BG k)(hk:k≤1000000) :
  Calls Tryz.prog 122 #[zP g,zI k] w (fun e w'=>∃(x0:Bool) (n1:Nat),e=.returned (.bool x0)∧Ax [g] w w'∧Fk w'.heap g sv cs n1∧(n0≤n1∧n1≤n0+2)∧True):=by
 refine Au [zP g,zI k] 9 Tryz.func122 Z Z sM ?_
 have a2:Ax [g] w w:=Ax.refl [g] w
 have a9:=hs.lt
 refine fE Z<|fC [0,0,4,0,0] Z<|Ad 2 Z<|AH 68 [] [] [zP g,zI k] Z Z HO Aa (B5 _ g _ _ _ _ hs oM _hk sD) ?_
 rintro e1 w1 ⟨a8,n1,rfl,a0,a3,a7,a1⟩
 refine⟨_,rfl,?_⟩
 have a4:=a0.size
 have a5:Ax [g] w w1:=a2.trans a0
 exact As (decide (a8=((0:Nat):Int))) Z Z Z Aa<|Ac 1 Z<|A1<|Ah [4] Z (.bool<|decide (a8=((0:Nat):Int))) Z ⟨decide (a8=((0:Nat):Int)),n1,rfl,a5,a3,⟨zO,zO⟩,(by trivial)⟩
theorem GD (w:World)(g:Nat)(sv:Value)(cs:List UInt8)(n0:Nat)(hs:Fk w.heap g sv cs n0)(az:n0+8≤1000000000000)  :
  Calls Tryz.prog 152 #[zP g] w (fun e w'=>∃(x0:Int) (n1:Nat),e=.returned (zI x0)∧Ax [g] w w'∧Fk w'.heap g sv cs n1∧(n0≤n1∧n1≤n0+8)∧(0≤x0∧x0<1000003)):=by
 refine Au [zP g] 25 Tryz.func152 Z Z sM ?_
 have ag:Ax [g] w w:=Ax.refl [g] w
 have bc:=hs.lt
 refine fE Z<|A0<|fC [0,4] Z<|Ad 1 Z<|AH 68 [] [] [zP g,zI ((6:Nat):Int)] Z Z HO Aa (B5 _ g _ _ _ _ hs oM oM sD) ?_
 rintro e1 w1 ⟨ba,n1,rfl,a2,a0,b0,a3⟩
 refine⟨_,rfl,?_⟩
 have ah:=a2.size
 have a1:Ax [g] w w1:=ag.trans a2
 refine Ai<|A3<|fC [0,0] Z ?_
 by_cases a4:ba=((0:Nat):Int)
 ·refine As true Z Z (A5 a4) Aa<|Ac 1 Z<|Af Z<|fC [0,4,0,0] Z<|Ad 1 Z<|AH 68 [] [] [zP g,zI ((3:Nat):Int)] Z Z HO Aa (B5 _ g _ _ _ _ a0 oM oM sD) ?_
  rintro e3 w3 ⟨b9,n3,rfl,a5,ai,b1,a6⟩
  refine⟨_,rfl,?_⟩
  have aj:=a5.size
  have ak:Ax [g] w w3:=a1.trans a5
  refine BJ (((1000002:Nat):Int)-b9) Z Z (DH sD sD) Aa<|Ac 1 Z<|A1<|AL<|Ao ?_
  exact Ah [2] Z (zI (((1000002:Nat):Int)-b9)) Z ⟨((1000002:Nat):Int)-b9,n3,rfl,ak,ai,⟨zO,zO⟩,(by first|omega|exact Ci _)⟩
 refine As false Z Z (A6 a4) Aa<|Ac 1 Z<|Aj Z<|fC [0,0] Z ?_
 by_cases a7:ba=((1:Nat):Int)
 ·refine As true Z Z (A5 a7) Aa<|Ac 1 Z<|Af Z<|fC [0,4,0,0,4,0,0,0,4,0,0,0] Z<|Ad 1 Z<|AH 68 [] [] [zP g,zI ((256:Nat):Int)] Z Z HO Aa (B5 _ g _ _ _ _ a0 oM oM sD) ?_
  rintro e5 w5 ⟨b6,n5,rfl,a8,al,b2,a9⟩
  refine⟨_,rfl,?_⟩
  have am:=a8.size
  have an:Ax [g] w w5:=a1.trans a8
  refine Ge (b6*((65536:Nat):Int)) Z Z (DH sD sD) Aa<|Ad 1 Z ?_
  refine AH 68 [] [] [zP g,zI ((256:Nat):Int)] Z Z HO Aa (B5 _ g _ _ _ _ al oM oM sD) ?_
  rintro e6 w6 ⟨b7,n6,rfl,aa,ao,b3,ab⟩
  refine⟨_,rfl,?_⟩
  have ap:=aa.size
  have aq:Ax [g] w w6:=an.trans aa
  refine Ge (b7*((256:Nat):Int)) Z Z (DH sD sD) Aa ?_
  refine AR ((b6*((65536:Nat):Int))+(b7*((256:Nat):Int))) Z Z (DH sD sD) Aa<|Ad 1 Z ?_
  refine AH 68 [] [] [zP g,zI ((256:Nat):Int)] Z Z HO Aa (B5 _ g _ _ _ _ ao oM oM sD) ?_
  rintro e7 w7 ⟨b8,n7,rfl,ac,ar,b4,ad⟩
  refine⟨_,rfl,?_⟩
  have au:=ac.size
  have av:Ax [g] w w7:=aq.trans ac
  refine AR (((b6*((65536:Nat):Int))+(b7*((256:Nat):Int)))+b8) Z Z (DH sD sD) Aa ?_
  exact Ej (md (((b6*((65536:Nat):Int))+(b7*((256:Nat):Int)))+b8)) Z Z (by decide) (Int.tmod_eq_emod_of_nonneg oM) Aa<|Ac 1 Z<|A1<|AL<|Ao<|Ah [2] Z (zI<|md (((b6*((65536:Nat):Int))+(b7*((256:Nat):Int)))+b8)) Z ⟨md (((b6*((65536:Nat):Int))+(b7*((256:Nat):Int)))+b8),n7,rfl,av,ar,⟨zO,zO⟩,(by first|omega|exact Ci _)⟩
 refine As false Z Z (A6 a7) Aa<|Ac 1 Z<|Aj Z<|A2<|fC [0,4,0] Z<|Ad 1 Z<|AH 68 [] [] [zP g,zI ((7:Nat):Int)] Z Z HO Aa (B5 _ g _ _ _ _ a0 oM oM sD) ?_
 rintro e8 w8 ⟨bb,n8,rfl,ae,aw,b5,af⟩
 refine⟨_,rfl,?_⟩
 have ax:=ae.size
 have ay:Ax [g] w w8:=a1.trans ae
 exact Ac 1 Z<|A1<|Ah [2] Z (zI bb) Z ⟨bb,n8,rfl,ay,aw,⟨zO,zO⟩,(by first|omega|exact Ci _)⟩
theorem Id (w:World)(g:Nat)(sv:Value)(cs:List UInt8)(n0:Nat)(k:Int)(hs:Fk w.heap g sv cs n0)(ax:n0+(8*k.toNat)≤1000000000000)(_hk:BG k)(hk:k≤1000) :
  Calls Tryz.prog 69 #[zP g,zI k] w (fun e w'=>∃(v0:Value) (x0:Sr) (n1:Nat),e=.returned (v0)∧Ax [g] w w'∧Fk w'.heap g sv cs n1∧(n0≤n1∧n1≤n0+(8*k.toNat))∧Fr (BA rI 2) w.heap.size w'.heap.size w'.heap v0 x0∧(x0.length=k.toNat∧Bb x0=true)):=by
 refine Au [zP g,zI k] 19 Tryz.func69 Z Z sM ?_
 have ac:Ax [g] w w:=Ax.refl [g] w
 have b2:=hs.lt
 refine fE Z<|fC [3,0] Z (Dy (rI) B1 BQ Ck Aa fun v1 w1 a4 ak ad=>?_)
 have a7:=a4.size
 have ae:Ax [g] w w1:=ac.ext a4
 have a8:=hs.ext a4
 refine Ac 1 Z<|A0<|fE Z<|A3 ?_
 refine AW (S:=Nat×Value×Sr×Nat) (fun⟨j,vo,xs,m⟩=>([(5,vo),(6,zI (j:Int)),(0,zP g),(1,zI k)])) (fun⟨j,vo,xs,m⟩ W=>Ax [g] w W∧Fr (BA rI 2) w.heap.size W.heap.size W.heap vo xs∧Fk W.heap g sv cs m∧j≤k.toNat∧(n0≤m∧m≤n0+8*j)∧(xs.length=j∧Bb xs=true)) (fun⟨j,vo,xs,m⟩=>k.toNat-j) (0,v1,[],n0) ⟨rfl,rfl,rfl,rfl,trivial⟩ ⟨ae,ad.up o1,a8,sD,oM,(by exact⟨rfl,rfl⟩)⟩ ?_
 clear ac ad ak a4 a7 ae
 rintro⟨j,vo,xs,m⟩ ρ2 w2 ⟨a9,a0,a1,af,hm,hxs⟩
 have al:w.heap.size≤w2.heap.size:=a9.size
 refine A0<|fC [0,0,0] Z<|Ad 2 Z ?_
 by_cases ag:(j:Int)<k
 ·refine AJ true Z Z (A5 ag) Aa<|Ai<|Af Z<|A2<|A0<|A3<|Ab _ [0,0,4,3,4,0] Z<|Ad 2 Z<|AH 152 [] [] [zP g] Z Z UB Aa (GD _ g _ _ _ a1 oM) ?_
  rintro e4 w4 ⟨b1,n4,rfl,aa,am,ay,ah⟩
  refine⟨_,rfl,?_⟩
  have an:=aa.size
  have ao:Ax [g] w w4:=a9.trans aa
  have ap:=a0.chg (o1) aa fun b hb=>by have:b=g:=(by simpa using hb);omega
  refine Cd (u:=zI b1) (B:=w4.heap.size) B1 BQ Ck Z Z (Qp w4.heap.size w4.heap.size _ _ oM) (A7 _) Aa fun v6 w6 a5 az ai=>?_
  have aq:=a5.size
  have aj:Ax [g] w w6:=ao.ext a5
  have a2:=ap.ext (o1) a5
  have a3:=am.ext a5
  refine HX (v:=vo) (a:=v6) BQ Ck Z Z Z a2 aj.size ai.rd1 sD (by unfold maxLen;first|omega|assumption|(simp;done)|(simp;omega)) Aa fun v7 w7 F7 a6 ab ar=>?_
  have au:Ax [g] w w7:=aj.fresh a6 (fun c hc=>A8 (A7 _) (ab c hc).1)
  have av:=a6.size
  have aw:=a3.chg a6 fun c hc=>zH<|ab c hc
  have b0:=ai.chg (o1) a6 fun c hc=>zH<|ab c hc
  refine Ac 1 Z<|Ab _ [0,0,0] Z<|Ad 1 Z<|AR ((j+1:Nat):Int) Z Z (Bl oM oM) Aa<|Ac 1 Z ?_
  exact⟨(j+1,v7,xs++[b1],n4),_,rfl,zR,⟨au,ar.up o1,aw,sD,oM,(by exact⟨by rw[z4,hxs.1];rfl,by unfold Bb at *;rw[List.all_append,hxs.2];simp only[List.all_cons,List.all_nil,Bool.and_true,Bool.true_and];exact CD.2 oM⟩)⟩,zD⟩
 exact AJ false Z Z (A6 ag) Aa<|Ai<|Aj Z<|A4<|Az<|Az<|Aw<|fC [0,0] Z<|Ac 2 Z<|A1<|Ah [4] Z vo Z ⟨vo,xs,m,rfl,a9,a1,⟨zO,zO⟩,a0.up o1,(by exact⟨zO,hxs.2⟩)⟩
theorem HD (w:World)(va:Value)(a:Sr)(y:Int)(ha:Rd (Bd rI) w.heap va a)(_hy:BG y)(hla:a.length≤1000000000000) :
  Calls Tryz.prog 165 #[va,zI y] w (fun e w'=>∃v0:Value,e=.returned (v0)∧AD w w'∧Fr (BA rI 2) w.heap.size w'.heap.size w'.heap v0 (scl a y)):=by
 refine Au [va,zI y] 24 Tryz.func165 Z Z sM ?_
 have a8:AD w w:=AD.refl w
 have an:=ha.lenle
 refine fE Z<|fC [3,0] Z (Dy (rI) B1 BQ Ck Aa fun v1 w1 a3 af a9=>?_)
 have a4:=a3.size
 have aa:=a8.trans a3
 refine Ac 1 Z<|A0<|fE Z<|A3 ?_
 refine AW (S:=Nat×Value) (fun⟨k,vo⟩=>([(5,vo),(6,zI (k:Int)),(0,va),(1,zI y)])) (fun⟨k,vo⟩ W=>AD w W∧Fr (BA rI 2) w.heap.size W.heap.size W.heap vo ((a.take k).map fun x=>md (x*y))∧k≤a.length) (fun⟨k,vo⟩=>a.length-k) (0,v1) ⟨rfl,rfl,rfl,rfl,trivial⟩ ⟨aa,a9.up o1,sD⟩ ?_
 clear a8 a9 af a3 a4 aa
 rintro⟨k,vo⟩ ρ2 w2 ⟨a2,a1,ab⟩
 have ag:w.heap.size≤w2.heap.size:=a2.size
 refine A0<|fC [0,0,0,0] Z<|Ad 2 Z<|AS (v:=va) BQ Z ha.isSl Aa ?_
 by_cases ac:(k:Int)<(a.length:Int)
 ·refine AJ true Z Z (A5 ac) Aa<|Ai<|Af Z<|A2<|A0<|A3<|Ab _ [0,0,0,0,2,0,0,3,4,0] Z<|Ad 3 Z<|AE (v:=va) k BQ Ck Z Z ha.isSl Z sD Aa ?_
  refine Ag (p:=AA va k 1) (.inr Z) (zI<|a.getD k 0) AI Z (Bp a2 (ha.getI sD).1) Aa<|Ad 1 Z ?_
  refine AG 112 [] [] [zI<|a.getD k 0,zI y] Z Z M8 Aa (zI<|md ((a.getD k 0)*y)) (fun wq=>Dc wq _ _ (ha.getI sD).2 _hy) (Cd (u:=zI<|md ((a.getD k 0)*y)) (B:=w2.heap.size) B1 BQ Ck Z Z (Qp w2.heap.size w2.heap.size _ _<|FL _) (A7 _) Aa fun v5 w5 a5 al ad=>?_)
  have ah:=a5.size
  have a6:=a2.trans a5
  have a0:=a1.ext (o1) a5
  refine HX (v:=vo) (a:=v5) BQ Ck Z Z Z a0 a6.size ad.rd1 sD (by unfold maxLen;first|omega|assumption|(simp;done)|(simp;omega)) Aa fun v6 w6 F6 a7 ae ai=>?_
  have aj:AD w w6:=a7.below a6 (fun c hc=>A8 (A7 _) (ae c hc).1) a6.size
  have ak:=a7.size
  have am:=ad.chg (o1) a7 fun c hc=>zH<|ae c hc
  refine Ac 1 Z<|Ab _ [0,0,0] Z<|Ad 1 Z<|AR ((k+1:Nat):Int) Z Z (Bl oM sD) Aa<|Ac 1 Z ?_
  exact⟨(k+1,v6),_,rfl,zR,⟨aj,(by rw[HZ 0 oM];exact ai.up o1),sD⟩,zD⟩
 exact AJ false Z Z (A6 ac) Aa<|Ai<|Aj Z<|A4<|Az<|Az<|Aw<|fC [0,0] Z<|Ac 2 Z<|A1<|Ah [4] Z vo Z ⟨vo,rfl,a2,(by have h:=a1.up o1;rwa [za oM]at h)⟩
theorem Zw (a:Option Addr)(n c:Nat)(w:World):(Instr.build 180 #[(0,.slice a n c)]).run Tryz.prog w=.ok (.agg #[.slice a n c,zI 0,.int .u64 0]) w:=by
  kernel_rfl
theorem cY {v:Value}{n:Nat}(h:Fx v n)(w:World):(Instr.build 180 #[(0,v)]).run Tryz.prog w=.ok (.agg #[v,zI 0,.int .u64 0]) w:=by
  obtain⟨a,c,rfl,_⟩:=h
  exact Zw a n c w
theorem Ie (w:World)(vc:Value)(cs:List UInt8)(hcs:Rd (Bd rU) w.heap vc cs)  :
  Calls Tryz.prog 66 #[vc] w (fun e w'=>∃g:Nat,e=.returned (zP g)∧AD w w'∧Fk w'.heap g vc cs 0∧w.heap.size≤g):=by
 refine Au [vc] 6 Tryz.func66 Z Z sM ?_
 have a0:AD w w:=AD.refl w
 have a7:=hcs.lenle
 refine fE Z<|fC [0,0,3,0] Z<|Ad 1 Z<|Bh (ps:=#[(0,vc)]) (.agg #[vc,zI 0,.int .u64 0]) (by simp only[zc,zf,zh];rfl) (fun wq=>cY hcs.isSl wq) Aa (Bv Z Aa fun w1 a1 a6 a3=>?_)
 have a4:=a1.size
 have a2:=a0.trans a1
 have a5:=Fk.new hcs a2 a3 a0.size
 exact Ac 1 Z<|A1<|Ah [2] Z (zP w.heap.size) Z ⟨w.heap.size,rfl,a2,a5,a0.size⟩
theorem Dm (w:World)(va:Value)(a:Sr)(y:Int)(ha:Rd (Bd rI) w.heap va a)(_hy:BG y)(hla:a.length≤1000000000000)(hqa:Bb a=true)(hy:0≤y∧y<1000003) :
  Calls Tryz.prog 187 #[va,zI y] w (fun e w'=>∃v0:Value,e=.returned (v0)∧AD w w'∧Fr (BA rI 2) w.heap.size w'.heap.size w'.heap v0 (CH a y)):=by
 refine Au [va,zI y] 27 Tryz.func187 Z Z sM ?_
 have a4:AD w w:=AD.refl w
 have ah:=ha.lenle
 refine fE Z<|fC [0,0,3,0] Z<|Ad 1 Z<|AS (v:=va) BQ Z ha.isSl Aa (Hc (n:=a.length) BQ Ck Z Z Z sD Aa fun v1 w1 a2 aa a5=>?_)
 have a3:=a2.size
 have a6:=a4.trans a2
 refine Ac 1 Z<|A0<|fC [0,0,0] Z<|Ad 1 Z<|AS (v:=va) BQ Z ha.isSl Aa<|Ac 1 Z<|A3 ?_
 refine AW (S:=Nat) (fun k=>([(12,zI (k:Int)),(0,va),(1,zI y),(5,v1),(11,zI (a.length:Int))])) (fun k W=>AD w W∧Fr (BA rI 2) w.heap.size W.heap.size W.heap v1 (HS k (CH a y)<|List.replicate a.length 0)∧k≤a.length) (fun k=>a.length-k) 0 ⟨rfl,rfl,rfl,rfl,rfl,trivial⟩ ⟨a6,(by rw[JM];exact a5.up o1),sD⟩ ?_
 clear a4 a5 aa a2 a3 a6
 rintro k ρ2 w2 ⟨a1,a0,a7⟩
 have ab:w.heap.size≤w2.heap.size:=a1.size
 have hml:=JN k (CH a y) (List.replicate a.length 0) sM
 rw[z5]at hml
 have hga:=Cf hqa k
 refine fC [0] Z ?_
 by_cases a8:(k:Int)<(a.length:Int)
 ·refine AJ true Z Z (A5 a8) Aa<|Ai<|A0<|Af Z<|A2<|A0<|A3<|fC [0,0] Z<|Ac 2 Z<|Ab _ [0,0,0,0,0,2,0,0,0,0,4] Z<|Ad 4 Z<|AE (v:=va) k BQ Ck Z Z ha.isSl Z sD Aa ?_
  refine Ag (p:=AA va k 1) (.inr Z) (zI<|a.getD k 0) AI Z (Bp a1 (ha.getI sD).1) Aa<|Ad 1 Z<|Ge (wr ((a.getD k 0)*y)) Z Z Z Aa<|Ej (md (a.getD k 0*y)) Z Z (by decide) (OD hga hy) Aa ?_
  refine AE (v:=v1) k BQ Ck Z Z a0.isSl Z sD Aa (J1 (v:=v1) (w:=w2) I9 Z Z (FL _) a0 sD Aa fun w4 F4 a9 ag ac ad=>?_)
  have ae:AD w w4:=a9.below a1 (fun c hc=>A8 (A7 _) (ac c hc).1) a1.size
  have af:=a9.size
  refine Ai<|Ab _ [0,0] Z<|AR ((k+1:Nat):Int) Z Z (Bl oM sD) Aa<|Ac 1 Z ?_
  exact⟨k+1,_,rfl,zR,⟨ae,(by unfold CH;rw[NB sM oM];exact ad.up o1),sD⟩,zD⟩
 exact AJ false Z Z (A6 a8) Aa<|Ai<|A0<|Aj Z<|A4<|Az<|Az<|Aw<|fC [0,0] Z<|Ac 2 Z<|A1<|Ah [4] Z v1 Z ⟨v1,rfl,a1,(by have h:=a0.up o1;rwa [L8 sM (by simp;omega)]at h)⟩
theorem Et (w:World)(va:Value)(a:Sr)(vb:Value)(b:Sr)(ha:Rd (Bd rI) w.heap va a)(hb:Rd (Bd rI) w.heap vb b)(hla:a.length≤1000000000000)(hl:a.length≤b.length)(hqa:Bb a=true)(hqb:Bb b=true) :
  Calls Tryz.prog 185 #[va,vb] w (fun e w'=>∃v0:Value,e=.returned (v0)∧AD w w'∧Fr (BA rI 2) w.heap.size w'.heap.size w'.heap v0 (Ee a b)):=by
 refine Au [va,vb] 30 Tryz.func185 Z Z sM ?_
 have a5:AD w w:=AD.refl w
 have ah:=ha.lenle
 have ai:=hb.lenle
 refine fE Z<|fC [0,0,3,0] Z<|Ad 1 Z<|AS (v:=va) BQ Z ha.isSl Aa (Hc (n:=a.length) BQ Ck Z Z Z sD Aa fun v1 w1 a3 aa a6=>?_)
 have a4:=a3.size
 have a7:=a5.trans a3
 refine Ac 1 Z<|A0<|fC [0,0,0] Z<|Ad 1 Z<|AS (v:=va) BQ Z ha.isSl Aa<|Ac 1 Z<|A3 ?_
 refine AW (S:=Nat) (fun k=>([(12,zI (k:Int)),(0,va),(1,vb),(5,v1),(11,zI (a.length:Int))])) (fun k W=>AD w W∧Fr (BA rI 2) w.heap.size W.heap.size W.heap v1 (HS k (Ee a b)<|List.replicate a.length 0)∧k≤a.length) (fun k=>a.length-k) 0 ⟨rfl,rfl,rfl,rfl,rfl,trivial⟩ ⟨a7,(by rw[JM];exact a6.up o1),sD⟩ ?_
 clear a5 a6 aa a3 a4 a7
 rintro k ρ2 w2 ⟨a1,a0,a8⟩
 have ab:w.heap.size≤w2.heap.size:=a1.size
 have hml:=JN k (Ee a b) (List.replicate a.length 0) sM
 rw[z5]at hml
 have hga:=Cf hqa k
 have hgb:=Cf hqb k
 refine fC [0] Z ?_
 by_cases a9:(k:Int)<(a.length:Int)
 ·refine AJ true Z Z (A5 a9) Aa<|Ai<|A0<|Af Z<|A2<|A0<|A3<|fC [0,0] Z<|Ac 2 Z<|AQ _ [0,0,0,0,0,1,0,0,0,1,0,0,0,4] mixed (by kernel_rfl)<|Ad 4 Z<|AE (v:=va) k BQ Ck Z Z ha.isSl Z sD Aa ?_
  refine Ag (p:=AA va k 1) (.inl Z) (zI<|a.getD k 0) AI Z (Bp a1.drew (ha.getI sD).1) Aa<|Ad 2 Z ?_
  refine AE (v:=vb) k BQ Ck Z Z hb.isSl Z sD Aa ?_
  refine Ag (p:=AA vb k 1) (.inl Z) (zI<|b.getD k 0) AI Z (Bp a1.drew (hb.getI sD).1) Aa<|AR (wr ((a.getD k 0)+(b.getD k 0))) Z Z Z Aa<|Ej (md (a.getD k 0+b.getD k 0)) Z Z (by decide) (Vn hga hgb) Aa ?_
  refine AE (v:=v1) k BQ Ck Z Z a0.isSl Z sD Aa (J1 (v:=v1) (w:=w2.drew) I9 Z Z (FL _) a0 sD Aa fun w4 F4 a2 ag ac ad=>?_)
  replace a2:=a2.of_drew
  have ae:AD w w4:=a2.below a1 (fun c hc=>A8 (A7 _) (ac c hc).1) a1.size
  have af:=a2.size
  refine Ai<|Ab _ [0,0] Z<|AR ((k+1:Nat):Int) Z Z (Bl oM sD) Aa<|Ac 1 Z ?_
  exact⟨k+1,_,rfl,zR,⟨ae,(by unfold Ee;rw[NB sM oM];exact ad.up o1),sD⟩,zD⟩
 exact AJ false Z Z (A6 a9) Aa<|Ai<|A0<|Aj Z<|A4<|Az<|Az<|Aw<|fC [0,0] Z<|Ac 2 Z<|A1<|Ah [4] Z v1 Z ⟨v1,rfl,a1,(by have h:=a0.up o1;rwa [L8 sM (by simp;omega)]at h)⟩
theorem If (w:World)(va:Value)(a:Sr)(vb:Value)(b:Sr)(ha:Rd (Bd rI) w.heap va a)(hb:Rd (Bd rI) w.heap vb b)(hla:a.length≤1000000000000)(hlb:b.length≤1000000000000)(hl:a.length≤b.length)(hqa:Bb a=true)(hqb:Bb b=true) :
  Calls Tryz.prog 178 #[va,vb] w (fun e w'=>∃v0:Value,e=.returned (v0)∧AD w w'∧Fr (BA rI 2) w.heap.size w'.heap.size w'.heap v0 (FB a b)):=by
 refine Au [va,vb] 9 Tryz.func178 Z Z sM ?_
 have a7:AD w w:=AD.refl w
 have ab:=ha.lenle
 have ac:=hb.lenle
 refine fE Z<|fC [0,0,3,3,0] Z<|Ad 2 Z<|At 187 [] [] [vb,zI ((1000002:Nat):Int)] Z Z Ns Aa (Dm _ _ _ _ (hb.ext g1 a7) oM hlb hqb oM) ?_
 rintro e1 w1 ⟨a3,rfl,a4,a0⟩
 refine⟨_,rfl,a4,?_⟩
 have a8:=a4.size
 have a5:=a7.trans a4
 refine At 185 [] [] [va,a3] Z Z Pk Aa (Et _ _ _ _ _ (ha.ext g1 a5) a0.rd1 hla (by simp;omega) hqa (by exact Fd _ _)) ?_
 rintro e2 w2 ⟨a1,rfl,a6,a2⟩
 refine⟨_,rfl,a6,?_⟩
 have a9:=a6.size
 have aa:=a5.trans a6
 exact Ac 1 Z<|A1<|Ah [4] Z a1 Z ⟨a1,rfl,aa,(by rw[← ST hl];exact(a2.up o1).low a5.size)⟩
theorem DF (w:World)(va:Value)(a:Sr)(vb:Value)(b:Sr)(ha:Rd (Bd rI) w.heap va a)(hb:Rd (Bd rI) w.heap vb b)(hla:a.length≤1000000000000)(hl:a.length≤b.length)(hqa:Bb a=true)(hqb:Bb b=true) :
  Calls Tryz.prog 179 #[va,vb] w (fun e w'=>∃v0:Value,e=.returned (v0)∧AD w w'∧Fr (BA rI 2) w.heap.size w'.heap.size w'.heap v0 (Ct a b)):=by
 refine Au [va,vb] 43 Tryz.func179 Z Z sM ?_
 have a8:AD w w:=AD.refl w
 have am:=ha.lenle
 have an:=hb.lenle
 refine fE Z<|fC [0,0,3,0] Z<|Ad 1 Z<|AS (v:=va) BQ Z ha.isSl Aa (Hc (n:=a.length) BQ Ck Z Z Z sD Aa fun v1 w1 a5 af a9=>?_)
 have a6:=a5.size
 have aa:=a8.trans a5
 refine Ac 1 Z<|A0<|fC [0,0,0] Z<|Ad 1 Z<|AS (v:=va) BQ Z ha.isSl Aa<|Ac 1 Z<|A3 ?_
 refine AW (S:=Nat) (fun k=>([(13,zI (k:Int)),(0,va),(1,vb),(5,v1),(12,zI (a.length:Int))])) (fun k W=>AD w W∧Fr (BA rI 2) w.heap.size W.heap.size W.heap v1 (HS k (Ct a b)<|List.replicate a.length 0)∧k≤a.length) (fun k=>a.length-k) 0 ⟨rfl,rfl,rfl,rfl,rfl,trivial⟩ ⟨aa,(by rw[JM];exact a9.up o1),sD⟩ ?_
 clear a8 a9 af a5 a6 aa
 rintro k ρ2 w2 ⟨a3,a1,ab⟩
 have a7:w.heap.size≤w2.heap.size:=a3.size
 have hml:=JN k (Ct a b) (List.replicate a.length 0) sM
 rw[z5]at hml
 have hga:=Cf hqa k
 refine fC [0] Z ?_
 by_cases ac:(k:Int)<(a.length:Int)
 ·refine AJ true Z Z (A5 ac) Aa<|Ai<|A0<|Af Z<|A2<|A0<|A3<|fC [0,0] Z<|Ac 2 Z<|fE Z<|A3 ?_
  refine AW (S:=Nat) (fun i=>([(7,zI (i:Int)),(0,va),(1,vb),(5,v1),(6,zI (k:Int)),(12,zI (a.length:Int)),(13,zI (k:Int))])) (fun i W=>AD w W∧Fr (BA rI 2) w.heap.size W.heap.size W.heap v1 ((HS k (Ct a b)<|List.replicate a.length 0).set k<|N7 a b k i)∧i≤k+1) (fun i=>k+1-i) 0 ⟨rfl,rfl,rfl,rfl,rfl,rfl,rfl,trivial⟩ ⟨a3,(by have h:=a1.up o1;rw[← SU (T:=Ct a b) sM oM]at h;exact h),sD⟩ ?_
  clear a1 a3 a7
  rintro i ρ4 w4 ⟨a2,a0,ad⟩
  have ag:w.heap.size≤w4.heap.size:=a2.size
  have hms:((HS k (Ct a b) (List.replicate a.length 0)).set k (N7 a b k i)).length=a.length:=by rw[z6];exact hml
  refine A0<|fC [0,0,0] Z<|Ad 2 Z ?_
  by_cases ae:(i:Int)≤(k:Int)
  ·refine Ek true Z Z (A5 ae) Aa<|Ai<|Af Z<|A2<|A0<|A3<|AQ _ [0,0,0,0,0,1,0,0,0,1,0,0,0,0,0,1,0,0,0,0,4] mixed (by kernel_rfl)<|Ad 4 Z<|AE (v:=v1) k BQ Ck Z Z a0.isSl Z sD Aa ?_
   refine Ag (p:=AA v1 k 1) (.inl Z) (zI<|((HS k (Ct a b)<|List.replicate a.length 0).set k<|N7 a b k i).getD k 0) AI Z (a0.rd1.getI sD).1 Aa (Ad 2 Z ?_)
   refine AE (v:=va) i BQ Ck Z Z ha.isSl Z sD Aa ?_
   refine Ag (p:=AA va i 1) (.inl Z) (zI<|a.getD i 0) AI Z (Bp a2.drew (ha.getI sD).1) Aa<|Ad 3 Z<|BJ ((k-i:Nat):Int) Z Z (Bl oM oM) Aa ?_
   refine AE (v:=vb) (k-i) BQ Ck Z Z hb.isSl Z sD Aa ?_
   refine Ag (p:=AA vb (k-i) 1) (.inl Z) (zI<|b.getD (k-i) 0) AI Z (Bp a2.drew (hb.getI sD).1) Aa<|Ge (wr ((a.getD i 0)*(b.getD (k-i) 0))) Z Z Z Aa<|AR (wr ((((HS k (Ct a b)<|List.replicate a.length 0).set k<|N7 a b k i).getD k 0)+(wr ((a.getD i 0)*(b.getD (k-i) 0))))) Z Z Z Aa ?_
   refine Ej (md (N7 a b k i+a.getD i 0*b.getD (k-i) 0)) Z Z (by decide) (by rw[DQ _ _ _ _ _ oM,if_pos rfl];exact YJ (QD _ _ _ _) (Cf hqa _) (Cf hqb _)) Aa<|AE (v:=v1) k BQ Ck Z Z a0.isSl Z sD Aa ?_
   refine J1 (v:=v1) (w:=w4.drew) I9 Z Z (FL _) a0 sD Aa fun w6 F6 a4 al ah ai=>?_
   replace a4:=a4.of_drew
   have aj:AD w w6:=a4.below a2 (fun c hc=>A8 (A7 _) (ah c hc).1) a2.size
   have ak:=a4.size
   refine Ai<|Ab _ [0,0,0] Z<|Ad 1 Z<|AR ((i+1:Nat):Int) Z Z (Bl oM sD) Aa<|Ac 1 Z ?_
   exact⟨i+1,_,rfl,zR,⟨aj,(by have h:=ai.up o1;rw[List.set_set]at h;exact h),sD⟩,zD⟩
  refine Ek false Z Z (A6 ae) Aa<|Ai<|Aj Z<|A4<|Az<|Az<|Aw<|Ab _ [0,0] Z<|AR ((k+1:Nat):Int) Z Z (Bl oM sD) Aa<|Ac 1 Z ?_
  exact⟨k+1,_,rfl,zR,⟨a2,(by have h:=a0.up o1;rw[show i=k+1 from by omega]at h;unfold Ct;rw[NB sM oM];exact h),sD⟩,zD⟩
 exact AJ false Z Z (A6 ac) Aa<|Ai<|A0<|Aj Z<|A4<|Az<|Az<|Aw<|fC [0,0] Z<|Ac 2 Z<|A1<|Ah [4] Z v1 Z ⟨v1,rfl,a3,(by have h:=a1.up o1;rwa [L8 sM (by simp;omega)]at h)⟩
theorem Fp (w:World)(va:Value)(a:Sr)(vb:Value)(b:Sr)(ha:Rd (Bd rI) w.heap va a)(hb:Rd (Bd rI) w.heap vb b)(hla:a.length≤1000000000000)(hl:a.length≤b.length)(h1:0<b.length)(hqa:Bb a=true)(hqb:Bb b=true) :
  Calls Tryz.prog 177 #[va,vb] w (fun e w'=>∃v0:Value,e=.returned (v0)∧AD w w'∧Fr (BA rI 2) w.heap.size w'.heap.size w'.heap v0 (C3 a b)):=by
 refine Au [va,vb] 53 Tryz.func177 Z Z sM ?_
 have a5:AD w w:=AD.refl w
 have am:=ha.lenle
 have an:=hb.lenle
 refine fE Z<|A0<|AQ _ [0,0,3,0,0,1,0,0,0] mixed (by kernel_rfl)<|Ad 1 Z<|AS (v:=va) BQ Z ha.isSl Aa (Hc (n:=a.length) BQ Ck Z Z Z sD Aa fun v1 w1 a2 ae a7=>?_)
 replace a2:=a2.of_drew
 have a6:=a2.size
 have a8:=a5.trans a2
 refine Ad 1 Z<|AE (v:=vb) 0 BQ Ck Z Z hb.isSl Z sD Aa ?_
 refine Ag (p:=AA vb 0 1) (.inl Z) (zI<|b.getD 0 0) AI Z (Bp a5.drew (hb.getI sD).1) Aa ?_
 refine AG 226 [] [] [zI<|b.getD 0 0] Z Z Y6 Aa (zI<|inv<|b.getD 0 0) (fun wq=>Ic wq _ (hb.getI sD).2)<|Ac 2 Z<|A0<|fC [0,0,0] Z<|Ad 1 Z<|AS (v:=va) BQ Z ha.isSl Aa<|Ac 1 Z<|A3 ?_
 refine AW (S:=Nat) (fun k=>([(19,zI (k:Int)),(0,va),(1,vb),(5,v1),(6,zI<|inv<|b.getD 0 0),(18,zI (a.length:Int))])) (fun k W=>AD w W∧Fr (BA rI 2) w.heap.size W.heap.size W.heap v1 (HS k (C3 a b)<|List.replicate a.length 0)∧k≤a.length) (fun k=>a.length-k) 0 ⟨rfl,rfl,rfl,rfl,rfl,rfl,trivial⟩ ⟨a8,(by rw[JM];exact a7.up o1),sD⟩ ?_
 clear a5 a7 ae a2 a6 a8
 rintro k ρ3 w3 ⟨a4,a1,a9⟩
 have af:w.heap.size≤w3.heap.size:=a4.size
 have hml:=JN k (C3 a b) (List.replicate a.length 0) sM
 rw[z5]at hml
 have hga:=Cf hqa k
 refine fC [0] Z ?_
 by_cases aa:(k:Int)<(a.length:Int)
 ·refine AJ true Z Z (A5 aa) Aa<|Ai<|A0<|Af Z<|A2<|A0<|A3<|fC [0,0] Z<|Ac 2 Z<|fC [0,0,0,2,0] Z<|Ad 2 Z<|AE (v:=va) k BQ Ck Z Z ha.isSl Z sD Aa ?_
  refine Ag (p:=AA va k 1) (.inr Z) (zI<|a.getD k 0) AI Z (Bp a4 (ha.getI sD).1) Aa<|Ac 1 Z<|A0<|fE Z<|A3 ?_
  refine AW (S:=Nat×Int) (fun⟨i,t⟩=>([(8,zI t),(9,zI (i:Int)),(0,va),(1,vb),(5,v1),(6,zI<|inv<|b.getD 0 0),(7,zI (k:Int)),(18,zI (a.length:Int)),(19,zI (k:Int))])) (fun⟨i,t⟩ W=>AD w W∧Fr (BA rI 2) w.heap.size w3.heap.size W.heap v1 (HS k (C3 a b)<|List.replicate a.length 0)∧i≤k∧t=Ol a b (C3 a b) k i∧(0≤t∧t<1000003)) (fun⟨i,t⟩=>k-i) (0,a.getD k 0) ⟨rfl,rfl,rfl,rfl,rfl,rfl,rfl,rfl,rfl,trivial⟩ ⟨a4,a1,sD,(by rfl),(by exact Cf hqa k)⟩ ?_
  clear a1
  rintro⟨i,t⟩ ρ5 w5 ⟨a3,a0,ab,ht,htr⟩
  have ag:w.heap.size≤w5.heap.size:=a3.size
  refine A0<|fC [0,0,0] Z<|Ad 2 Z ?_
  by_cases ac:(i:Int)<(k:Int)
  ·refine AJ true Z Z (A5 ac) Aa<|Ai<|Af Z<|A2<|A0<|A3<|AQ _ [0,0,0,0,1,0,0,0,0,0,1,0,0,0] mixed (by kernel_rfl)<|Ad 3 Z<|AE (v:=v1) i BQ Ck Z Z a0.isSl Z sD Aa ?_
   refine Ag (p:=AA v1 i 1) (.inl Z) (zI<|(HS k (C3 a b)<|List.replicate a.length 0).getD i 0) AI Z (a0.rd1.getI sD).1 Aa (Ad 3 Z<|BJ ((k-i:Nat):Int) Z Z (Bl oM oM) Aa ?_)
   refine AE (v:=vb) (k-i) BQ Ck Z Z hb.isSl Z sD Aa ?_
   refine Ag (p:=AA vb (k-i) 1) (.inl Z) (zI<|b.getD (k-i) 0) AI Z (Bp a3.drew (hb.getI sD).1) Aa<|Ge (wr (((HS k (C3 a b)<|List.replicate a.length 0).getD i 0)*(b.getD (k-i) 0))) Z Z Z Aa ?_
   refine AG 191 [] [] [zI t,zI<|wr (((HS k (C3 a b)<|List.replicate a.length 0).getD i 0)*(b.getD (k-i) 0))] Z Z UE Aa (zI<|md (t-(wr (((HS k (C3 a b)<|List.replicate a.length 0).getD i 0)*(b.getD (k-i) 0))))) (fun wq=>Hr wq _ _ oM<|Px _)<|Ac 1 Z<|Ab _ [0,0,0] Z<|Ad 1 Z<|AR ((i+1:Nat):Int) Z Z (Bl oM sD) Aa<|Ac 1 Z ?_
   exact⟨(i+1,md (t-(wr (((HS k (C3 a b) (List.replicate a.length 0)).getD i 0)*(b.getD (k-i) 0))))),_,rfl,zR,⟨a3.drew,a0,sD,(by rw[ht,YI 0 oM (by simp;omega)];exact SW (Fb a b) hqb),(by exact Ci _)⟩,zD⟩
  refine AJ false Z Z (A6 ac) Aa<|Ai<|Aj Z<|A4<|Az<|Az<|Aw<|Ab _ [0,0,0,0,0,0,0,4] Z<|Ad 4 Z<|Ge (wr (t*(inv<|b.getD 0 0))) Z Z Z Aa<|Ej (md (t*inv (b.getD 0 0))) Z Z (by decide) (OD htr<|Vh _) Aa<|AE (v:=v1) k BQ Ck Z Z a0.isSl Z sD Aa ?_
  refine J1 (v:=v1) (w:=w5) I9 Z Z (FL _) a0 sD Aa fun w8 F8 ad al ah ai=>?_
  have aj:AD w w8:=ad.below a3 (fun c hc=>A8 (A7 _) (ah c hc).1) a3.size
  have ak:=ad.size
  refine Ai<|Ab _ [0,0] Z<|AR ((k+1:Nat):Int) Z Z (Bl oM sD) Aa<|Ac 1 Z ?_
  exact⟨k+1,_,rfl,zR,⟨aj,(by have h:=ai.up o1;rw[ht,show i=k from by omega]at h;rw[← Vm oM sM];exact h),sD⟩,zD⟩
 exact AJ false Z Z (A6 aa) Aa<|Ai<|A0<|Aj Z<|A4<|Az<|Az<|Aw<|fC [0,0] Z<|Ac 2 Z<|A1<|Ah [4] Z v1 Z ⟨v1,rfl,a4,(by have h:=a1.up o1;rwa [L8 sM (by simp;omega)]at h)⟩
theorem FZ (w:World)(va:Value)(a:Sr)(ha:Rd (Bd rI) w.heap va a)(hla:a.length≤1000000000000) :
  Calls Tryz.prog 89 #[va] w (fun e w'=>∃v0:Value,e=.returned (v0)∧AD w w'∧Fr (BA (BA rI 2) 27) w.heap.size w'.heap.size w'.heap v0 (BB a)):=by
 refine Au [va] 20 Tryz.func89 Z Z sM ?_
 have a9:AD w w:=AD.refl w
 have au:=ha.lenle
 refine fE Z<|fC [3,0] Z (Dy (BA rI 2) o1 Cb Bo Aa fun v1 w1 a4 af aa=>?_)
 have a5:=a4.size
 have ab:=a9.trans a4
 refine Ac 1 Z<|A0<|fC [0,0,0] Z<|Ad 1 Z<|AS (v:=va) BQ Z ha.isSl Aa<|Ac 1 Z<|A3 ?_
 refine AW (S:=Nat×Value) (fun⟨k,vo⟩=>([(3,vo),(9,zI (k:Int)),(7,va),(8,zI (a.length:Int))])) (fun⟨k,vo⟩ W=>AD w W∧Fr (BA (BA rI 2) 27) w.heap.size W.heap.size W.heap vo ((a.take k).map fun x=>[x])∧k≤a.length) (fun⟨k,vo⟩=>a.length-k) (0,v1) ⟨rfl,rfl,rfl,rfl,trivial⟩ ⟨ab,aa.up o2,sD⟩ ?_
 clear a9 aa af a4 a5 ab
 rintro⟨k,vo⟩ ρ2 w2 ⟨a3,a2,ac⟩
 have ag:w.heap.size≤w2.heap.size:=a3.size
 refine fC [0] Z ?_
 by_cases ad:(k:Int)<(a.length:Int)
 ·refine AJ true Z Z (A5 ad) Aa<|Ai<|A0<|Af Z<|A2<|A0<|A3<|fC [0,2,0] Z<|AE (v:=va) k BQ Ck Z Z ha.isSl Z sD Aa ?_
  refine Ag (p:=AA va k 1) (.inr Z) (zI<|a.getD k 0) AI Z (Bp a3 (ha.getI sD).1) Aa<|Ac 1 Z<|Ab _ [0,0,3,3,4,0] Z<|Ad 2 Z ?_
  refine Cd (u:=zI<|a.getD k 0) (B:=w2.heap.size) B1 BQ Ck Z Z (Qp w2.heap.size w2.heap.size _ _ (ha.getI sD).2) (A7 _) Aa fun v4 w4 a6 aq ah=>?_
  have ai:=a6.size
  have aj:=a3.trans a6
  have a0:=a2.ext (o2) a6
  refine Cd (u:=v4) (B:=w2.heap.size) o1 Cb Bo Z Z ah (by first|exact A7 _|omega) Aa fun v5 w5 a7 ar ak=>?_
  have al:=a7.size
  have a8:=aj.trans a7
  have a1:=a0.ext (o2) a7
  refine Kc o1 (v:=vo) (a:=v5) Cb Bo Z Z Z a1 a8.size ak oM a3.size sD (by unfold maxLen;first|omega|assumption|(simp;done)|(simp;omega)) Aa fun v6 w6 F6 ae am an=>?_
  have ao:AD w w6:=ae.below a8 (fun c hc=>A8 (A7 _) (am c hc).1) a8.size
  have ap:=ae.size
  refine Ac 1 Z<|Ab _ [0,0] Z<|AR ((k+1:Nat):Int) Z Z (Bl oM sD) Aa<|Ac 1 Z ?_
  exact⟨(k+1,v6),_,rfl,zR,⟨ao,(by rw[HZ 0 oM];exact an.up o2),sD⟩,zD⟩
 exact AJ false Z Z (A6 ad) Aa<|Ai<|A0<|Aj Z<|A4<|Az<|Az<|Aw<|fC [0,0] Z<|Ac 2 Z<|A1<|Ah [2] Z vo Z ⟨vo,rfl,a3,(by have h:=a2.up o2;rwa [za oM]at h)⟩
theorem EV (w:World)(va:Value)(a:List (Sr))(ha:Rd (Bd (Bd rI)) w.heap va a)(hla:a.length≤1000000000000)(h1:∀k,k<a.length→0<(a.getD k []).length) :
  Calls Tryz.prog 106 #[va] w (fun e w'=>∃v0:Value,e=.returned (v0)∧AD w w'∧Fr (BA rI 2) w.heap.size w'.heap.size w'.heap v0 (a.map (fun s=>s.getD 0 0))):=by
 refine Au [va] 21 Tryz.func106 Z Z sM ?_
 have aa:AD w w:=AD.refl w
 have au:=ha.lenle
 refine fE Z<|fC [3,0] Z (Dy (rI) B1 BQ Ck Aa fun v1 w1 a4 ah ab=>?_)
 have a5:=a4.size
 have ac:=aa.trans a4
 refine Ac 1 Z<|A0<|fC [0,0,0] Z<|Ad 1 Z<|AS (v:=va) Cb Z ha.isSl Aa<|Ac 1 Z<|A3 ?_
 refine AW (S:=Nat×Value) (fun⟨k,vo⟩=>([(3,vo),(9,zI (k:Int)),(7,va),(8,zI (a.length:Int))])) (fun⟨k,vo⟩ W=>AD w W∧Fr (BA rI 2) w.heap.size W.heap.size W.heap vo ((a.take k).map fun s=>s.getD 0 0)∧k≤a.length) (fun⟨k,vo⟩=>a.length-k) (0,v1) ⟨rfl,rfl,rfl,rfl,trivial⟩ ⟨ac,ab.up o1,sD⟩ ?_
 clear aa ab ah a4 a5 ac
 rintro⟨k,vo⟩ ρ2 w2 ⟨a2,a1,ad⟩
 have ai:w.heap.size≤w2.heap.size:=a2.size
 refine fC [0] Z ?_
 by_cases ae:(k:Int)<(a.length:Int)
 ·refine AJ true Z Z (A5 ae) Aa<|Ai<|A0<|Af Z<|A2<|A0<|A3<|fC [0,2,0] Z<|AE (v:=va) k Cb Bo Z Z ha.isSl Z sD Aa ?_
  obtain⟨a6,aj,a3⟩:=ha.get (k:=k) [] sD
  have ak:=a3.lenle
  refine Ag (p:=AA va k 1) (.inr Z) a6 Bx Z (Bp a2 aj) Aa<|Ac 1 Z<|Ab _ [0,0,0,2,3,4,0] Z ?_
  have ap:=h1 k oM
  refine Ad 2 Z<|AE (v:=a6) 0 BQ Ck Z Z a3.isSl Z sD Aa ?_
  refine Ag (p:=AA a6 0 1) (.inr Z) (zI<|(a.getD k []).getD 0 0) AI Z (Bp a2 (a3.getI sD).1) Aa ?_
  refine Cd (u:=zI<|(a.getD k []).getD 0 0) (B:=w2.heap.size) B1 BQ Ck Z Z (Qp w2.heap.size w2.heap.size _ _ (a3.getI sD).2) (A7 _) Aa fun v5 w5 a7 aq af=>?_
  have al:=a7.size
  have a8:=a2.trans a7
  have a0:=a1.ext (o1) a7
  refine HX (v:=vo) (a:=v5) BQ Ck Z Z Z a0 a8.size af.rd1 sD (by unfold maxLen;first|omega|assumption|(simp;done)|(simp;omega)) Aa fun v6 w6 F6 a9 ag am=>?_
  have an:AD w w6:=a9.below a8 (fun c hc=>A8 (A7 _) (ag c hc).1) a8.size
  have ao:=a9.size
  have ar:=af.chg (o1) a9 fun c hc=>zH<|ag c hc
  refine Ac 1 Z<|Ab _ [0,0] Z<|AR ((k+1:Nat):Int) Z Z (Bl oM sD) Aa<|Ac 1 Z ?_
  exact⟨(k+1,v6),_,rfl,zR,⟨an,(by rw[HZ [] oM];exact am.up o1),sD⟩,zD⟩
 exact AJ false Z Z (A6 ae) Aa<|Ai<|A0<|Aj Z<|A4<|Az<|Az<|Aw<|fC [0,0] Z<|Ac 2 Z<|A1<|Ah [2] Z vo Z ⟨vo,rfl,a2,(by have h:=a1.up o1;rwa [za oM]at h)⟩
def PV (F d:Nat):Prop:=∀(w:World) (S:List Nat) (g:Nat) (vp:Value) (dp o s0:Nat) (c0:Int) (p:List Fn) (ve:Value) (ex:Ex) (vv:Value) (env:List (List Int)) (hS:∀b∈S,b<w.heap.size) (hgS:g∈S) (hB0:BX w.heap g [vp,.int .i64 ((o:Nat):Int),.int .i64 ((s0:Nat):Int),.int .i64 c0]) (hp:RP S dp w.heap vp p) (ho:o≤12) (hs0:s0≤3000) (hc0:0≤c0∧c0≤9) (hex:RX S d w.heap ve ex) (henv:RN S (Bd (Bd rI)) w.heap vv env) (hqenv:Cs vv)
  (hvp:Hz p) (hF:F≤p.length) (hwf:wf p ((F:Nat):Int) ex ((env.length:Nat):Int)=true) (hse:C4 (o+1) env) (hdp:env.length+ex.deep≤1000000),
  Calls Tryz.prog 241 #[.pointer (some ⟨g,0,none⟩),.agg #[.int .i64 ex.kind,.int .i64 ex.num,.int .i64 ex.pick,.int .i64 ex.count,ve],vv] w (fun e w'=>∃(v:Value) (x:List Int) (s1:Nat) (c1:Int),e=.returned v∧Ax [g] w w'∧BX w'.heap g [vp,.int .i64 ((o:Nat):Int),.int .i64 ((s1:Nat):Int),.int .i64 c1]∧RN S (Bd rI) w'.heap v x∧Cu (o+1) x∧s1≤3000∧(0≤c1∧c1≤9)∧AN (go c0 (Cm (o+1) (Df p (o+1) F) ex env s0)) x s1 c1)
def PA (F d:Nat):Prop:=∀(w:World) (S:List Nat) (g:Nat) (vp:Value) (dp o s0:Nat) (c0:Int) (p:List Fn) (vl:Value) (l:List Ex) (vv:Value) (env:List (List Int)) (hS:∀b∈S,b<w.heap.size) (hgS:g∈S) (hB0:BX w.heap g [vp,.int .i64 ((o:Nat):Int),.int .i64 ((s0:Nat):Int),.int .i64 c0]) (hp:RP S dp w.heap vp p) (ho:o≤12) (hs0:s0≤3000) (hc0:0≤c0∧c0≤9) (hl:RN S (E1 5 (L6 d)) w.heap vl l) (henv:RN S (Bd (Bd rI)) w.heap vv env) (hqenv:Cs vv)
  (hvp:Hz p) (hF:F≤p.length) (hwf:∀k,k<l.length→wf p ((F:Nat):Int) (l.getD k Ex.zero) ((env.length:Nat):Int)=true) (hse:C4 (o+1) env) (hdp:∀k,k<l.length→env.length+(l.getD k Ex.zero).deep≤1000000) (hll:l.length≤1000000),
  Calls Tryz.prog 210 #[.pointer (some ⟨g,0,none⟩),vl,vv] w (fun e w'=>∃(v:Value) (x:List (List Int)) (s1:Nat) (c1:Int),e=.returned v∧Ax [g] w w'∧BX w'.heap g [vp,.int .i64 ((o:Nat):Int),.int .i64 ((s1:Nat):Int),.int .i64 c1]∧RN S (Bd (Bd rI)) w'.heap v x∧(Cs v∧x.length=l.length∧C4 (o+1) x)∧s1≤3000∧(0≤c1∧c1≤9)∧AN (go c0 (CB (o+1) (Df p (o+1) F) l env s0)) x s1 c1)
theorem Eu (w:World)(v:Value)(n:Nat)(hs:Fx v n)(hcs:Cs v)  :
  Calls Tryz.prog 274 #[v] w (fun e w'=>e=.returned (Ea v)∧w'=w):=by
 refine Au [v] 9 Tryz.func274 Z Z sM ?_
 have a0:w=w:=rfl
 exact fE Z<|fC [0,0,0,0,0,0,0] Z<|Ad 2 Z<|AS (v:=v) Cb Z hs Aa<|Ad 1 Z<|AS (v:=v) Cb Z hs Aa<|SA (v:=v) Cb Bo Z hs Z Z hcs Aa<|Ac 1 Z<|A1<|Ah [2] Z (Ea v) Z ⟨rfl,a0⟩
theorem BR (w:World)(S:List Nat)(g:Nat)(vp:Value)(dp o s0:Nat)(c0:Int)(p:List Fn)(n:Int)(hS:∀b∈S,b<w.heap.size)(hgS:g∈S)(hB0:BX w.heap g [vp,zI (o:Int),zI (s0:Int),zI c0])(hp:RP S dp w.heap vp p)(ho:o≤12)(hs0:s0≤3000)(hc0:0≤c0∧c0≤9)(_hn:BG n)  :
  Calls Tryz.prog 273 #[zP g,zI n] w (fun e w'=>∃v0:Value,e=.returned (v0)∧AD w w'∧Fr (BA rI 2) w.heap.size w'.heap.size w'.heap v0 (cst (o+1) n)):=by
 refine Au [zP g,zI n] 16 Tryz.func273 Z Z sM ?_
 have a6:AD w w:=AD.refl w
 have a0:=hp.lenle
 unfold maxLen at a0
 have ad:=hB0.lt
 refine fE Z<|fC [0,0,0,2,0,3,0] Z<|Ad 1 Z<|B9 Z Aa<|Al (p:=zP g) 1 Xa Z Z Aa<|Ag (p:=Ap (zP g) 1) (.inr Z) (zI (o:Int)) Mb Z (hB0.ldp (i:=1) sM) Aa<|AR ((o+1:Nat):Int) Z Z (Bl oM oM) Aa ?_
 refine Hc (n:=o+1) BQ Ck Z Z Z sD Aa fun v1 w1 a1 ab a3=>?_
 have a7:=a1.size
 have a4:=a6.trans a1
 refine Ac 1 Z<|fC [0,0,0,4] Z<|Ad 2 Z<|AE (v:=v1) 0 BQ Ck Z Z a3.isSl Z sM Aa (J1 (v:=v1) (w:=w1) I9 Z Z _hn a3 sM Aa fun w2 F2 a2 ac a5 a8=>?_)
 have a9:AD w w2:=a2.below a4 (fun c hc=>A8 (A7 _) (a5 c hc).1) a4.size
 have aa:=a2.size
 exact Ai<|fC [0,0] Z<|Ac 2 Z<|A1<|Ah [4] Z v1 Z ⟨v1,rfl,a9,a8.up o1⟩
theorem HP (w:World)(S:List Nat)(F:Nat)(g:Nat)(vp:Value)(dp o s0:Nat)(c0:Int)(p:List Fn)(dl:Nat)(vl:Value)(l:List Ex)(vv:Value)(env:List (Sr))(hS:∀b∈S,b<w.heap.size)(hgS:g∈S)(hB0:BX w.heap g [vp,zI (o:Int),zI (s0:Int),zI c0])(hp:RP S dp w.heap vp p)(ho:o≤12)(hs0:s0≤3000)(hc0:0≤c0∧c0≤9)(hl:RN S (E1 5 (L6 dl)) w.heap vl l)(henv:RN S (Bd (Bd rI)) w.heap vv env)(hqenv:Cs vv)(hvp:Hz p)(hF:F≤p.length)(hwf:∀k,k<l.length→wf p (F:Int) (l.getD k Ex.zero) (env.length:Int)=true)(hse:C4 (o+1) env)(hdp:∀k,k<l.length→env.length+(l.getD k Ex.zero).deep≤1000000)(hll:l.length≤1000000)(IHv:∀d',d'<dl→PV F d') :
  Calls Tryz.prog 210 #[zP g,vl,vv] w (fun e w'=>∃(v:Value) (x:List (Sr)) (s1:Nat) (c1:Int),e=.returned v∧Ax [g] w w'∧BX w'.heap g [vp,zI (o:Int),zI (s1:Int),zI c1]∧RN S (Bd (Bd rI)) w'.heap v x∧(Cs v∧x.length=l.length∧C4 (o+1) x)∧s1≤3000∧(0≤c1∧c1≤9)∧AN (go c0 (CB (o+1) (Df p (o+1) F) l env s0)) x s1 c1):=by
 refine Au [zP g,vl,vv] 26 Tryz.func210 Z Z sM ?_
 have b2:Ax [g] w w:=Ax.refl [g] w
 have c2:=hp.lenle
 unfold maxLen at c2
 have c3:=hl.lenle
 unfold maxLen at c3
 have c4:=henv.lenL
 unfold maxLen at c4
 have ch:=hB0.lt
 refine fE Z<|fC [3,0] Z (Dy rV BK Cb Bo Aa fun v1 w1 ai bh b3=>?_)
 have am:=ai.size
 have b4:Ax [g] w w1:=b2.ext ai
 have ag:=hB0.ext ai
 obtain⟨bs,F1,bt⟩:=HY.nil (S:=S) (b3.low (B':=w.heap.size) (A7 _))
 refine Ac 1 Z<|A0<|fC [0,0,0] Z<|Ad 1 Z<|AS (v:=vl) Cc Z hl.isSl Aa<|Ac 1 Z<|A3 ?_
 refine AW (S:=Nat×Value×List (Sr)×Nat×Int) (fun⟨k,vo,xs,s9,c9⟩=>([(7,vo),(13,zI (k:Int)),(0,zP g),(2,vv),(11,vl),(12,zI (l.length:Int))])) (fun⟨k,vo,xs,s9,c9⟩ W=>Ax [g] w W∧BX W.heap g [vp,zI (o:Int),zI (s9:Int),zI c9]∧k≤l.length∧PB 27 S w.heap.size W.heap vo xs∧xs.length=k∧C4 (o+1) xs∧s9≤3000∧(0≤c9∧c9≤9)∧AN (go c0<|CB (o+1) (Df p (o+1) F) (l.take k) env s0) xs s9 c9) (fun⟨k,vo,xs,s9,c9⟩=>l.length-k) (0,v1,([]:List (Sr)),s0,c0) ⟨rfl,rfl,rfl,rfl,rfl,rfl,trivial⟩ ⟨b4,ag,sD,(by exact⟨_,_,by assumption⟩),(by rfl),(by intro j hj;simp at hj),oM,oM,(by exact GR _ _ _ _ _ _)⟩ ?_
 clear b2 b3 bh ai am b4
 rintro⟨k,vo,xs,s9,c9⟩ ρ2 w2 ⟨aj,a0,b5,hbld,hxl,hxs,b6,b7,hrl⟩
 have bi:w.heap.size≤w2.heap.size:=aj.size
 have bu:=a0.lt
 obtain⟨bv,F5,a3⟩:=hbld
 refine fC [0] Z ?_
 by_cases b8:(k:Int)<(l.length:Int)
 ·refine AJ true Z Z (A5 b8) Aa<|Ai<|A0<|Af Z<|A2<|A0<|A3<|fC [0,2,3,4] Z ?_
  have hkl:k<l.length:=by omega
  refine AE (v:=vl) k Cc B3 Z Z hl.isSl Z sD Aa ?_
  obtain⟨cs7,bj,bk⟩:=hl.get (Ay dl) Ex.zero (k:=k) sD
  obtain⟨dd7,ae,bw,rfl,ak⟩:=RX.of bj
  have an:=ak.rn.lenle
  unfold maxLen at an
  refine AF (p:=AA vl k 5) (.inr Z) [zI<|(l.getD k Ex.zero).kind,zI<|(l.getD k Ex.zero).num,zI<|(l.getD k Ex.zero).pick,zI<|(l.getD k Ex.zero).count,ae] AX Z (fun c8 ao=>bk c8<|(aj.sub<|B6 hgS).ext ao) Z Aa ?_
  have bx:=a0.lt
  refine AU (z:=.agg #[zI 0,zI 0,zI 0,zI 0,zN]) Ec Aa fun w8 af bz ap=>?_
  have bl:=af.size
  have bm:Ax [g] w w8:=aj.ext af
  have a4:=a0.ext af
  have bn:=a3.ext af
  replace ap:BX w8.heap w2.heap.size [zI 0,zI 0,zI 0,zI 0,zN]:=ap
  refine B2 (vs:=[zI<|(l.getD k Ex.zero).kind,zI<|(l.getD k Ex.zero).num,zI<|(l.getD k Ex.zero).pick,zI<|(l.getD k Ex.zero).count,ae]) AX Z Z ak.ones ap Z Z Aa fun c6 a5 bo a6=>?_
  replace a6:BX c6.heap w2.heap.size [zI ((l.getD k Ex.zero).kind),zI ((l.getD k Ex.zero).num),zI ((l.getD k Ex.zero).pick),zI ((l.getD k Ex.zero).count),ae]:=a6
  have a7:Ax [g] w c6:=bm.fresh a5 (fun _ h=>zE h)
  have b9:=a5.size
  have aq:=a4.chg a5 (zB ·)
  have a2:=a3.ext<|a5.below af (fun _ h=>zE h) af.size
  refine Ai<|Ab _ [0,0,2,0,4,3,4,0] Z<|Ad 2 Z<|AF (p:=zP w2.heap.size) (.inr Z) [zI<|(l.getD k Ex.zero).kind,zI<|(l.getD k Ex.zero).num,zI<|(l.getD k Ex.zero).pick,zI<|(l.getD k Ex.zero).count,ae] AX Z (fun c8 ao=>LD.of_box<|BX.ext (w:=c6) a6 ao) Z Aa<|Ad 1 Z ?_
  refine AH 241 [] [] [zP g,.agg #[zI<|(l.getD k Ex.zero).kind,zI<|(l.getD k Ex.zero).num,zI<|(l.getD k Ex.zero).pick,zI<|(l.getD k Ex.zero).count,ae],vv] Z Z Ma Aa (IHv dd7 oM _ (S++F5) g vp dp (o) (s9) (c9) (p) ae (l.getD k Ex.zero) vv (env) (fun b hb=>(by rcases zi.1 hb with hb|hb;(have:=hS b hb;omega);exact a2.lt b hb:b<c6.heap.size)) (z8 _ hgS) aq ((hp.add (F:=F5) (An<|Av dp) a2.low).chg (An<|Av dp)<|a7.sub<|MD hgS) oM oM oM ⟨ak.rng,(ak.rn.add (F:=F5) (An<|Ay dd7) a2.low).chg (An<|Ay dd7)<|a7.sub<|MD hgS⟩ ((henv.add (F:=F5) g2 a2.low).chg g2<|a7.sub<|MD hgS) hqenv hvp oM (by exact hwf k hkl) hse (by exact hdp k hkl)) ?_
  rintro ci c5 ⟨c7,ca,cb,cc,rfl,a8,ar,a9,ah,ba,bb,bc⟩
  refine⟨_,rfl,?_⟩
  have bd:=a8.size
  have au:Ax [g] w c5:=a7.trans a8
  have av:=a6.chg a8 (zB ·)
  have aw:=a2.run hgS oM a8
  have be:=ah.1
  replace a9:RN (S++F5) (Bd rI) c5.heap c7 ca:=a9
  refine Cd (u:=c7) (B:=c5.heap.size) BK Cb Bo Z Z (Ps c5.heap.size c5.heap.size _<|a9.one1 g1) (A7 _) Aa fun cd ce a1 bp ax=>?_
  have bf:=a1.size
  have ay:Ax [g] w ce:=au.ext a1
  have aa:=ar.ext a1
  have al:=av.ext a1
  have ab:=aw.ext a1
  have az:=a9.ext g1 a1
  refine Fl (v:=vo) (a:=cd) (u:=c7) Cb Bo Z Z Z ab oM ax az sD (by unfold maxLen;first|omega|assumption|(simp;done)|(simp;omega)) Aa ?_
  rintro cf cg G24 ac ad ⟨bq,cj,br⟩
  have bg:=ac.size
  have b0:Ax [g] w cg:=ay.fresh ac (fun c hc=>ab.low c (ad c hc))
  have b1:=aa.chg ac fun hm=>by have:=ab.low _ (ad _ hm);have:=ab.lt _ (ad _ hm);omega
  refine Ac 1 Z<|Ab _ [0,0] Z<|AR ((k+1:Nat):Int) Z Z (Bl oM sD) Aa<|Ac 1 Z ?_
  exact⟨(k+1,cf,xs++[ca],cb,cc),_,rfl,zR,⟨b0,b1,sD,(by exact⟨_,_,by assumption⟩),(by rw[z4,zd,hxl]),(by exact C4.snoc hxs (by assumption)),oM,oM,(by exact GQ oM hrl (by assumption))⟩,zD⟩
 exact AJ false Z Z (A6 b8) Aa<|Ai<|A0<|Aj Z<|A4<|Az<|Az<|Aw<|fC [0,0] Z<|Ac 2 Z<|A1<|Ah [6] Z vo Z ⟨vo,xs,s9,c9,rfl,aj,a0,a3.done hS,(by exact⟨a3.cap,zO,hxs⟩),oM,oM,(by rw[za oM]at hrl;exact hrl)⟩
theorem UQ (F d:Nat)(IH:∀d',d'<d→PV F d'):PA F d:=by
 intro w S g vp dp o s0 c0 p vl l vv env hS hgS hB0 hp ho hs0 hc0 hl henv hqenv hvp hF hwf hse hdp hll
 exact HP w S F g vp dp o s0 c0 p d vl l vv env hS hgS hB0 hp ho hs0 hc0 hl henv hqenv hvp hF hwf hse hdp hll IH
theorem Ku {p:Prop}(h:p:=by first|exact DR oM|exact CQ oM oM|exact EO hc00 hs1 oM|exact EP hc00 hs1 oM|exact EQ hc00 hs1 oM oM ‹AN (go c0 (Cm _ _ (ex.kids.getD 0 _) _ _)) _ _ _› oM (by assumption)|exact ER hc00 hs1 oM oM ‹AN (go c0 (Cm _ _ (ex.kids.getD 0 _) _ _)) _ _ _› oM (by assumption)|exact ES hc00 hs1 oM oM ‹AN (go c0 (Cm _ _ (ex.kids.getD 0 _) _ _)) _ _ _› (by assumption)|exact Dk hc00 hs1 hkg.1 hkg.2.1 hkg.2.2.1 hkg.2.2.2 hKr oM|exact Eo hc00 hs1 oM oM hKr oM (by assumption)|exact Ep hc00 hs1 oM oM hKr oM (Eq hrl9 oM oM)|exact Bk hc00 hs1 hkg.1 hkg.2.1 hkg.2.2.1 hkg.2.2.2 oM oM hKr oM (by rw[show c66=0 from by omega];exact Gr oM)|exact Bk hc00 hs1 hkg.1 hkg.2.1 hkg.2.2.1 hkg.2.2.2 oM oM hKr oM (by rw[show c66=0 from by omega];exact Gs oM)|exact Bk hc00 hs1 hkg.1 hkg.2.1 hkg.2.2.1 hkg.2.2.2 oM oM hKr oM (by rw[show c66=0 from by omega];exact Gt oM)|exact Bk hc00 hs1 hkg.1 hkg.2.1 hkg.2.2.1 hkg.2.2.2 oM oM hKr oM (by rw[show c66=0 from by omega];exact Gu oM)|exact Bk hc00 hs1 hkg.1 hkg.2.1 hkg.2.2.1 hkg.2.2.2 oM oM hKr oM (by rw[show c66=0 from by omega];exact Gv oM oM)|exact Bk hc00 hs1 hkg.1 hkg.2.1 hkg.2.2.1 hkg.2.2.2 oM oM hKr oM (ET oM oM)):p:=h
theorem Q3 {p:Prop}(h:p:=by first|exact DR oM|exact CQ oM oM|exact EO hc00 hs1 oM|exact EP hc00 hs1 oM|exact EQ hc00 hs1 oM oM ‹AN (go c0 (Cm _ _ (ex.kids.getD 0 _) _ _)) _ _ _› oM (by assumption)|exact ER hc00 hs1 oM oM ‹AN (go c0 (Cm _ _ (ex.kids.getD 0 _) _ _)) _ _ _› oM (by assumption)|exact ES hc00 hs1 oM oM ‹AN (go c0 (Cm _ _ (ex.kids.getD 0 _) _ _)) _ _ _› (by assumption)|exact Dk hc00 hs1 hkg.1 hkg.2.1 hkg.2.2.1 hkg.2.2.2 hKr oM|exact Eo hc00 hs1 oM oM hKr oM (by assumption)|exact Ep hc00 hs1 oM oM hKr oM (Eq hrl9 oM oM)|exact Bk hc00 hs1 hkg.1 hkg.2.1 hkg.2.2.1 hkg.2.2.2 oM oM hKr oM (by rw[show c0=0 from by omega];exact Gr oM)|exact Bk hc00 hs1 hkg.1 hkg.2.1 hkg.2.2.1 hkg.2.2.2 oM oM hKr oM (by rw[show c0=0 from by omega];exact Gs oM)|exact Bk hc00 hs1 hkg.1 hkg.2.1 hkg.2.2.1 hkg.2.2.2 oM oM hKr oM (by rw[show c0=0 from by omega];exact Gt oM)|exact Bk hc00 hs1 hkg.1 hkg.2.1 hkg.2.2.1 hkg.2.2.2 oM oM hKr oM (by rw[show c0=0 from by omega];exact Gu oM)|exact Bk hc00 hs1 hkg.1 hkg.2.1 hkg.2.2.1 hkg.2.2.2 oM oM hKr oM (by rw[show c0=0 from by omega];exact Gv oM oM)|exact Bk hc00 hs1 hkg.1 hkg.2.1 hkg.2.2.1 hkg.2.2.2 oM oM hKr oM (ET oM oM)):p:=h
theorem UR {p:Prop}(h:p:=by first|exact DR oM|exact CQ oM oM|exact EO hc00 hs1 oM|exact EP hc00 hs1 oM|exact EQ hc00 hs1 oM oM ‹AN (go c0 (Cm _ _ (ex.kids.getD 0 _) _ _)) _ _ _› oM (by assumption)|exact ER hc00 hs1 oM oM ‹AN (go c0 (Cm _ _ (ex.kids.getD 0 _) _ _)) _ _ _› oM (by assumption)|exact ES hc00 hs1 oM oM ‹AN (go c0 (Cm _ _ (ex.kids.getD 0 _) _ _)) _ _ _› (by assumption)|exact Dk hc00 hs1 hkg.1 hkg.2.1 hkg.2.2.1 hkg.2.2.2 hKr oM|exact Eo hc00 hs1 oM oM hKr oM (by assumption)|exact Ep hc00 hs1 oM oM hKr oM (Eq hrl9 oM oM)|exact Bk hc00 hs1 hkg.1 hkg.2.1 hkg.2.2.1 hkg.2.2.2 oM oM hKr oM (by rw[show c9=0 from by omega];exact Gr oM)|exact Bk hc00 hs1 hkg.1 hkg.2.1 hkg.2.2.1 hkg.2.2.2 oM oM hKr oM (by rw[show c9=0 from by omega];exact Gs oM)|exact Bk hc00 hs1 hkg.1 hkg.2.1 hkg.2.2.1 hkg.2.2.2 oM oM hKr oM (by rw[show c9=0 from by omega];exact Gt oM)|exact Bk hc00 hs1 hkg.1 hkg.2.1 hkg.2.2.1 hkg.2.2.2 oM oM hKr oM (by rw[show c9=0 from by omega];exact Gu oM)|exact Bk hc00 hs1 hkg.1 hkg.2.1 hkg.2.2.1 hkg.2.2.2 oM oM hKr oM (by rw[show c9=0 from by omega];exact Gv oM oM)|exact Bk hc00 hs1 hkg.1 hkg.2.1 hkg.2.2.1 hkg.2.2.2 oM oM hKr oM (ET oM oM)):p:=h
theorem DG {p:Prop}(h:p:=by first|assumption|exact En (by decide)|exact En (CD.2 oM)|exact hse _ oM|exact hks _ oM|exact GS hK0|exact LB hK0|exact GT hK0|exact LC hK0|exact FO hK0):p:=h
theorem Ob {p:Prop}(h:p:=by have:=hK0.1;have:=hK1.1;omega):p:=h
theorem Mf {p:Prop}(h:p:=by have:=hK0.1;omega):p:=h
theorem H2 (w:World)(S:List Nat)(F:Nat)(g:Nat)(vp:Value)(dp o s0:Nat)(c0:Int)(p:List Fn)(dex:Nat)(ve:Value)(ex:Ex)(vv:Value)(env:List (Sr))(hS:∀b∈S,b<w.heap.size)(hgS:g∈S)(hB0:BX w.heap g [vp,zI (o:Int),zI (s0:Int),zI c0])(hp:RP S dp w.heap vp p)(ho:o≤12)(hs0:s0≤3000)(hc0:0≤c0∧c0≤9)(hex:RX S dex w.heap ve ex)(henv:RN S (Bd (Bd rI)) w.heap vv env)(hqenv:Cs vv)(hvp:Hz p)(hF:F≤p.length)(hwf:wf p (F:Int) ex (env.length:Int)=true)(hse:C4 (o+1) env)(hdp:env.length+ex.deep≤1000000)(IH1:∀F',F'<F→∀d,PV F' d)(IH2:∀d',d'<dex→PV F d') :
  Calls Tryz.prog 241 #[zP g,(.agg #[(zI ex.kind),(zI ex.num),(zI ex.pick),(zI ex.count),ve]),vv] w (fun e w'=>∃(v:Value) (x:Sr) (s1:Nat) (c1:Int),e=.returned v∧Ax [g] w w'∧BX w'.heap g [vp,zI (o:Int),zI (s1:Int),zI c1]∧RN S (Bd rI) w'.heap v x∧Cu (o+1) x∧s1≤3000∧(0≤c1∧c1≤9)∧AN (go c0 (Cm (o+1) (Df p (o+1) F) ex env s0)) x s1 c1):=by
 refine Au [zP g,.agg #[zI ex.kind,zI ex.num,zI ex.pick,zI ex.count,ve],vv] 210 Tryz.func241 Z Z sM ?_
 have jm:Ax [g] w w:=Ax.refl [g] w
 have mm:=hp.lenle
 unfold maxLen at mm
 have mn:=hex.rn.lenle
 unfold maxLen at mn
 have mo:=henv.lenL
 unfold maxLen at mo
 have o8:=hB0.lt
 have hdk:=E9 ex
 refine fC [3,0] Z ?_
 have mg:=hB0.lt
 refine Bv (cs:=#[zI ex.kind,zI ex.num,zI ex.pick,zI ex.count,ve]) Z Aa fun w1 gw lm gx=>?_
 have i3:=gw.size
 have dn:Ax [g] w w1:=jm.ext gw
 have ab:=hB0.ext gw
 replace gx:BX w1.heap w.heap.size [zI ex.kind,zI ex.num,zI ex.pick,zI ex.count,ve]:=gx
 refine Ac 1 Z<|A0<|fC [0,0,0,2,0] Z<|Ad 1 Z<|B9 Z Aa<|Al (p:=zP g) 3 Hq Z Z Aa<|Ag (p:=Ap (zP g) 3) (.inr Z) (zI c0) AI Z (ab.ldp (i:=3) sM) Aa ?_
 by_cases jn:c0≠((0:Nat):Int)
 ·refine AT true Z Z (A5 jn) Aa<|Ai<|Af Z<|fC [0,3,0] Z<|Ad 1 Z<|At 273 [] [] [zP g,zI ((0:Nat):Int)] Z Z Pl Aa (BR _ S g vp dp (o) (s0) (c0) (p) _ (fun b hb=>(by have:=hS b hb;omega:b<w1.heap.size)) hgS ab (hp.chg (An<|Av dp)<|dn.sub<|B6 hgS) oM oM oM oM) ?_
  rintro e4 w4 ⟨dq,rfl,gy,dr⟩
  refine⟨_,rfl,gy,?_⟩
  have ln:=gy.size
  have lo:Ax [g] w w4:=dn.ext gy
  have ds:=ab.ext gy
  refine Ac 1 Z<|A1<|Ao ?_
  exact Ah [6] Z dq Z ⟨dq,cst (o+1) ((0:Nat):Int),s0,c0,rfl,lo,ds,RN.of_fr1 dr fun b hb=>zH<|hS b hb,DG,oM,oM,Q3⟩
 refine AT false Z Z (A6 jn) Aa<|Ai<|Aj Z<|A2<|A0<|fC [0,0,0,2,0] Z<|Ad 1 Z<|B9 Z Aa<|Al (p:=zP g) 2 Lt Z Z Aa<|Ag (p:=Ap (zP g) 2) (.inr Z) (zI (s0:Int)) AI Z (ab.ldp (i:=2) sM) Aa ?_
 by_cases jo:(s0:Int)=((3000:Nat):Int)
 ·refine As true Z Z (A5 jo) Aa<|Ai<|Af Z<|fC [0,0,0,4] Z<|Ad 1 Z<|B9 Z Aa<|Al (p:=zP g) 3 Hq Z Z Aa (Bc (k:=3) (w:=w1) I9 Z Z ⟨rfl,rfl⟩ ab sM Aa fun w6 i4 mh gz=>?_)
  replace gz:BX w6.heap g [vp,zI (o:Int),zI (s0:Int),zI ((7:Nat):Int)]:=gz
  have jp:Ax [g] w w6:=dn.trans i4
  have lp:=i4.size
  have lq:=gx.chg i4 (zB ·)
  refine Ai<|fC [0,3,0] Z<|Ad 1 Z<|At 273 [] [] [zP g,zI ((0:Nat):Int)] Z Z Pl Aa (BR _ S g vp dp (o) (s0) ((7:Nat):Int) (p) _ (fun b hb=>(by have:=hS b hb;omega:b<w6.heap.size)) hgS gz (hp.chg (An<|Av dp)<|jp.sub<|B6 hgS) oM oM oM oM) ?_
  rintro e8 w8 ⟨dt,rfl,du,dv⟩
  refine⟨_,rfl,du,?_⟩
  have lr:=du.size
  have ls:Ax [g] w w8:=jp.ext du
  have dw:=gz.ext du
  have jq:=lq.ext du
  refine Ac 1 Z<|A1<|Ao ?_
  exact Ah [6] Z dt Z ⟨dt,cst (o+1) ((0:Nat):Int),s0,((7:Nat):Int),rfl,ls,dw,RN.of_fr1 dv fun b hb=>zH<|hS b hb,DG,oM,oM,(by first|exact DR oM|exact CQ oM oM|exact EO hc00 hs1 oM|exact EP hc00 hs1 oM|exact EQ hc00 hs1 oM oM ‹AN (go c0<|Cm _ _ (ex.kids.getD 0 _) _ _) _ _ _› oM (by assumption)|exact ER hc00 hs1 oM oM ‹AN (go c0<|Cm _ _ (ex.kids.getD 0 _) _ _) _ _ _› oM (by assumption)|exact ES hc00 hs1 oM oM ‹AN (go c0<|Cm _ _ (ex.kids.getD 0 _) _ _) _ _ _› (by assumption)|exact Dk hc00 hs1 hkg.1 hkg.2.1 hkg.2.2.1 hkg.2.2.2 hKr oM|exact Eo hc00 hs1 oM oM hKr oM (by assumption)|exact Ep hc00 hs1 oM oM hKr oM (Eq hrl9 oM oM)|exact Bk hc00 hs1 hkg.1 hkg.2.1 hkg.2.2.1 hkg.2.2.2 oM oM hKr oM (by rw[show((7:Nat):Int)=0 from by omega];exact Gr oM)|exact Bk hc00 hs1 hkg.1 hkg.2.1 hkg.2.2.1 hkg.2.2.2 oM oM hKr oM (by rw[show((7:Nat):Int)=0 from by omega];exact Gs oM)|exact Bk hc00 hs1 hkg.1 hkg.2.1 hkg.2.2.1 hkg.2.2.2 oM oM hKr oM (by rw[show((7:Nat):Int)=0 from by omega];exact Gt oM)|exact Bk hc00 hs1 hkg.1 hkg.2.1 hkg.2.2.1 hkg.2.2.2 oM oM hKr oM (by rw[show((7:Nat):Int)=0 from by omega];exact Gu oM)|exact Bk hc00 hs1 hkg.1 hkg.2.1 hkg.2.2.1 hkg.2.2.2 oM oM hKr oM (by rw[show((7:Nat):Int)=0 from by omega];exact Gv oM oM)|exact Bk hc00 hs1 hkg.1 hkg.2.1 hkg.2.2.1 hkg.2.2.2 oM oM hKr oM (ET oM oM))⟩
 refine As false Z Z (A6 jo) Aa<|Ai<|Aj Z<|A2<|fC [0,0,0,2,0,0,0,4] Z<|Ad 1 Z<|B9 Z Aa<|Al (p:=zP g) 2 Lt Z Z Aa<|Ag (p:=Ap (zP g) 2) (.inr Z) (zI (s0:Int)) AI Z (ab.ldp (i:=2) sM) Aa<|AR ((s0+1:Nat):Int) Z Z (Bl oM oM) Aa<|B9 Z Aa<|Al (p:=zP g) 2 Lt Z Z Aa (Bc (k:=2) (w:=w1) I9 Z Z ⟨rfl,rfl⟩ ab sM Aa fun w9 i0 lu c2=>?_)
 replace c2:BX w9.heap g [vp,zI (o:Int),zI ((s0+1:Nat):Int),zI c0]:=c2
 have ae:Ax [g] w w9:=dn.trans i0
 have i5:=i0.size
 have a9:=gx.chg i0 (zB ·)
 refine Ai<|A0<|fC [0,2] Z ?_
 have hc00:c0=0:=by omega
 have hs1:s0+1≤3000:=by omega
 refine Al (p:=zP w.heap.size) 0 Bn Z Z Aa<|Ag (p:=Ap (zP w.heap.size) 0) (.inr Z) (zI ex.kind) AI Z (a9.ldp (i:=0) sM) Aa<|Ai<|A3<|fC [0,0] Z ?_
 by_cases dx:ex.kind=((1:Nat):Int)
 ·refine As true Z Z (A5 dx) Aa<|Ac 1 Z<|Af Z<|fC [0,0,2,3,0] Z ?_
  have hwk:=PE hwf oM
  refine Ad 1 Z<|Al (p:=zP w.heap.size) 1 BL Z Z Aa<|Ag (p:=Ap (zP w.heap.size) 1) (.inr Z) (zI ex.num) AI Z (a9.ldp (i:=1) sM) Aa<|At 273 [] [] [zP g,zI ex.num] Z Z Pl Aa (BR _ S g vp dp (o) (s0+1) (c0) (p) _ (fun b hb=>(by have:=hS b hb;omega:b<w9.heap.size)) hgS c2 (hp.chg (An<|Av dp)<|ae.sub<|B6 hgS) oM oM oM hex.rng.num) ?_
  rintro o9 na ⟨c3,rfl,ax,cm⟩
  refine⟨_,rfl,ax,?_⟩
  have jr:=ax.size
  have i6:Ax [g] w na:=ae.ext ax
  have cn:=c2.ext ax
  have i1:=a9.ext ax
  refine Ac 1 Z<|A1<|AL<|Ao ?_
  exact Ah [6] Z c3 Z ⟨c3,cst (o+1) ex.num,s0+1,c0,rfl,i6,cn,RN.of_fr1 cm fun b hb=>zH<|hS b hb,DG,oM,oM,Q3⟩
 refine As false Z Z (A6 dx) Aa<|Ac 1 Z<|Aj Z<|fC [0,0] Z ?_
 by_cases dy:ex.kind=((2:Nat):Int)
 ·refine As true Z Z (A5 dy) Aa<|Ac 1 Z<|Af Z<|fC [0,0,2,0,2,0] Z ?_
  have hwk:=PF hwf oM
  refine Ad 1 Z<|Al (p:=zP w.heap.size) 1 BL Z Z Aa<|Ag (p:=Ap (zP w.heap.size) 1) (.inr Z) (zI ex.num) AI Z (a9.ldp (i:=1) sM) Aa<|AE (v:=vv) ((ex.num).toNat) Cb Bo Z Z henv.slL oM sD Aa ?_
  obtain⟨co,i7,dz⟩:=RN.getL (w:=w) g1 [] (k:=(ex.num).toNat) henv sD
  have e0:=dz.lenL
  unfold maxLen at e0
  refine Ag (p:=AA vv ((ex.num).toNat) 1) (.inr Z) co Bx Z (i7 _<|ae.sub<|B6 hgS) Aa<|Ac 1 Z<|A1<|AL<|Ao ?_
  exact Ah [6] Z co Z ⟨co,env.getD ((ex.num).toNat) [],s0+1,c0,rfl,ae,c2,dz.chg g1<|ae.sub<|B6 hgS,DG,oM,oM,Q3⟩
 refine As false Z Z (A6 dy) Aa<|Ac 1 Z<|Aj Z<|fC [0,0] Z ?_
 by_cases e1:ex.kind=((8:Nat):Int)
 ·refine As true Z Z (A5 e1) Aa<|Ac 1 Z<|Af Z<|A0<|fC [0,0,2,0,2,0,4,0,2,0] Z ?_
  have hwk:=T3 hwf oM
  refine Ad 1 Z<|Al (p:=zP w.heap.size) 4 AY Z Z Aa<|Ag (p:=Ap (zP w.heap.size) 4) (.inr Z) ve B7 Z (a9.ldp (i:=4) sM) Aa<|AE (v:=ve) 0 Cc B3 Z Z hex.rn.isSl Z sD Aa ?_
  obtain⟨cs16,i8,i9⟩:=hex.rn.get (Ay dex) Ex.zero (k:=0) sD
  obtain⟨dd16,cp,lv,rfl,cq⟩:=RX.of i8
  have e2:=cq.rn.lenle
  unfold maxLen at e2
  refine AF (p:=AA ve 0 5) (.inr Z) [zI<|(ex.kids.getD 0 Ex.zero).kind,zI<|(ex.kids.getD 0 Ex.zero).num,zI<|(ex.kids.getD 0 Ex.zero).pick,zI<|(ex.kids.getD 0 Ex.zero).count,cp] AX Z (fun fe cr=>i9 fe<|(ae.sub<|B6 hgS).ext cr) Z Aa<|Ad 1 Z ?_
  refine AH 241 [] [] [zP g,.agg #[zI<|(ex.kids.getD 0 Ex.zero).kind,zI<|(ex.kids.getD 0 Ex.zero).num,zI<|(ex.kids.getD 0 Ex.zero).pick,zI<|(ex.kids.getD 0 Ex.zero).count,cp],vv] Z Z Ma Aa (IH2 dd16 oM _ S g vp dp (o) (s0+1) (c0) (p) cp (ex.kids.getD 0 Ex.zero) vv (env) (fun b hb=>(by have:=hS b hb;omega:b<w9.heap.size)) hgS c2 (hp.chg (An<|Av dp)<|ae.sub<|B6 hgS) oM oM oM ⟨cq.rng,cq.rn.chg (An<|Ay dd16)<|ae.sub<|B6 hgS⟩ (henv.chg g2<|ae.sub<|B6 hgS) hqenv hvp oM (by exact E6 hwf oM oM) hse (zH<|DB (l:=ex.kids) (k:=0) oM)) ?_
  rintro oa mp ⟨mz,n0,n1,n2,rfl,ct,e3,bn,e5,js,jt,ju⟩
  refine⟨_,rfl,?_⟩
  have jv:=ct.size
  have af:Ax [g] w mp:=ae.trans ct
  have bo:=a9.chg ct (zB ·)
  have jw:=e5.1
  refine AE (v:=mz) 0 BQ Ck Z Z bn.slL Z sD Aa ?_
  have ia:=RN.getI (w:=mp) (k:=0) bn sD
  refine Ag (p:=AA mz 0 1) (.inr Z) (zI<|n0.getD 0 0) AI Z (ia.1 _<|Ax.refl _ _) Aa ?_
  by_cases e6:n0.getD 0 0=((0:Nat):Int)
  ·refine As true Z Z (A5 e6) Aa<|Ai<|Af Z<|fC [0,0,2,0,2,0,4,0] Z<|Ad 1 Z<|Al (p:=zP w.heap.size) 4 AY Z Z Aa<|Ag (p:=Ap (zP w.heap.size) 4) (.inr Z) ve B7 Z (bo.ldp (i:=4) sM) Aa<|AE (v:=ve) 1 Cc B3 Z Z hex.rn.isSl Z sD Aa ?_
   obtain⟨cs25,ib,ic⟩:=hex.rn.get (Ay dex) Ex.zero (k:=1) sD
   obtain⟨dd25,cu,lw,rfl,cv⟩:=RX.of ib
   have e7:=cv.rn.lenle
   unfold maxLen at e7
   refine AF (p:=AA ve 1 5) (.inr Z) [zI<|(ex.kids.getD 1 Ex.zero).kind,zI<|(ex.kids.getD 1 Ex.zero).num,zI<|(ex.kids.getD 1 Ex.zero).pick,zI<|(ex.kids.getD 1 Ex.zero).count,cu] AX Z (fun fe cr=>ic fe<|(af.sub<|B6 hgS).ext cr) Z Aa<|Ad 1 Z ?_
   refine AH 241 [] [] [zP g,.agg #[zI<|(ex.kids.getD 1 Ex.zero).kind,zI<|(ex.kids.getD 1 Ex.zero).num,zI<|(ex.kids.getD 1 Ex.zero).pick,zI<|(ex.kids.getD 1 Ex.zero).count,cu],vv] Z Z Ma Aa (IH2 dd25 oM _ S g vp dp (o) (n1) (n2) (p) cu (ex.kids.getD 1 Ex.zero) vv (env) (fun b hb=>(by have:=hS b hb;omega:b<mp.heap.size)) hgS e3 (hp.chg (An<|Av dp)<|af.sub<|B6 hgS) oM oM oM ⟨cv.rng,cv.rn.chg (An<|Ay dd25)<|af.sub<|B6 hgS⟩ (henv.chg g2<|af.sub<|B6 hgS) hqenv hvp oM (by exact E6 hwf oM oM) hse (zH<|DB (l:=ex.kids) (k:=1) oM)) ?_
   rintro ob nb ⟨n3,nc,nd,fs,rfl,bp,id,ie,e9,jx,jy,jz⟩
   refine⟨_,rfl,?_⟩
   have k0:=bp.size
   have ig:Ax [g] w nb:=af.trans bp
   have lx:=bo.chg bp (zB ·)
   have ly:=bn.run g1 hgS bp
   have k1:=e9.1
   refine Ac 1 Z<|A1<|Ao<|AL<|Ao ?_
   exact Ah [6] Z n3 Z ⟨n3,nc,nd,fs,rfl,ig,id,ie,DG,oM,oM,(by first|exact DR oM|exact CQ oM oM|exact EO hc00 hs1 oM|exact EP hc00 hs1 oM|exact EQ hc00 hs1 oM oM ‹AN (go c0<|Cm _ _ (ex.kids.getD 0 _) _ _) _ _ _› oM (by assumption)|exact ER hc00 hs1 oM oM ‹AN (go c0<|Cm _ _ (ex.kids.getD 0 _) _ _) _ _ _› oM (by assumption)|exact ES hc00 hs1 oM oM ‹AN (go c0<|Cm _ _ (ex.kids.getD 0 _) _ _) _ _ _› (by assumption)|exact Dk hc00 hs1 hkg.1 hkg.2.1 hkg.2.2.1 hkg.2.2.2 hKr oM|exact Eo hc00 hs1 oM oM hKr oM (by assumption)|exact Ep hc00 hs1 oM oM hKr oM (Eq hrl9 oM oM)|exact Bk hc00 hs1 hkg.1 hkg.2.1 hkg.2.2.1 hkg.2.2.2 oM oM hKr oM (by rw[show fs=0 from by omega];exact Gr oM)|exact Bk hc00 hs1 hkg.1 hkg.2.1 hkg.2.2.1 hkg.2.2.2 oM oM hKr oM (by rw[show fs=0 from by omega];exact Gs oM)|exact Bk hc00 hs1 hkg.1 hkg.2.1 hkg.2.2.1 hkg.2.2.2 oM oM hKr oM (by rw[show fs=0 from by omega];exact Gt oM)|exact Bk hc00 hs1 hkg.1 hkg.2.1 hkg.2.2.1 hkg.2.2.2 oM oM hKr oM (by rw[show fs=0 from by omega];exact Gu oM)|exact Bk hc00 hs1 hkg.1 hkg.2.1 hkg.2.2.1 hkg.2.2.2 oM oM hKr oM (by rw[show fs=0 from by omega];exact Gv oM oM)|exact Bk hc00 hs1 hkg.1 hkg.2.1 hkg.2.2.1 hkg.2.2.2 oM oM hKr oM (ET oM oM))⟩
  refine As false Z Z (A6 e6) Aa<|Ai<|Aj Z<|A2<|fC [0,0,2,0,2,0,4,0] Z<|Ad 1 Z<|Al (p:=zP w.heap.size) 4 AY Z Z Aa<|Ag (p:=Ap (zP w.heap.size) 4) (.inr Z) ve B7 Z (bo.ldp (i:=4) sM) Aa<|AE (v:=ve) 2 Cc B3 Z Z hex.rn.isSl Z sD Aa ?_
  obtain⟨cs34,ih,ii⟩:=hex.rn.get (Ay dex) Ex.zero (k:=2) sD
  obtain⟨dd34,cw,lz,rfl,cx⟩:=RX.of ih
  have ea:=cx.rn.lenle
  unfold maxLen at ea
  refine AF (p:=AA ve 2 5) (.inr Z) [zI<|(ex.kids.getD 2 Ex.zero).kind,zI<|(ex.kids.getD 2 Ex.zero).num,zI<|(ex.kids.getD 2 Ex.zero).pick,zI<|(ex.kids.getD 2 Ex.zero).count,cw] AX Z (fun fe cr=>ii fe<|(af.sub<|B6 hgS).ext cr) Z Aa<|Ad 1 Z ?_
  refine AH 241 [] [] [zP g,.agg #[zI<|(ex.kids.getD 2 Ex.zero).kind,zI<|(ex.kids.getD 2 Ex.zero).num,zI<|(ex.kids.getD 2 Ex.zero).pick,zI<|(ex.kids.getD 2 Ex.zero).count,cw],vv] Z Z Ma Aa (IH2 dd34 oM _ S g vp dp (o) (n1) (n2) (p) cw (ex.kids.getD 2 Ex.zero) vv (env) (fun b hb=>(by have:=hS b hb;omega:b<mp.heap.size)) hgS e3 (hp.chg (An<|Av dp)<|af.sub<|B6 hgS) oM oM oM ⟨cx.rng,cx.rn.chg (An<|Ay dd34)<|af.sub<|B6 hgS⟩ (henv.chg g2<|af.sub<|B6 hgS) hqenv hvp oM (by exact E6 hwf oM oM) hse (zH<|DB (l:=ex.kids) (k:=2) oM)) ?_
  rintro oc nf ⟨n4,ng,nh,fx,rfl,bq,ij,ik,eb,k2,k3,k4⟩
  refine⟨_,rfl,?_⟩
  have k5:=bq.size
  have il:Ax [g] w nf:=af.trans bq
  have m0:=bo.chg bq (zB ·)
  have m1:=bn.run g1 hgS bq
  have k6:=eb.1
  refine Ac 1 Z<|A1<|AL<|Ao ?_
  exact Ah [6] Z n4 Z ⟨n4,ng,nh,fx,rfl,il,ij,ik,DG,oM,oM,(by first|exact DR oM|exact CQ oM oM|exact EO hc00 hs1 oM|exact EP hc00 hs1 oM|exact EQ hc00 hs1 oM oM ‹AN (go c0<|Cm _ _ (ex.kids.getD 0 _) _ _) _ _ _› oM (by assumption)|exact ER hc00 hs1 oM oM ‹AN (go c0<|Cm _ _ (ex.kids.getD 0 _) _ _) _ _ _› oM (by assumption)|exact ES hc00 hs1 oM oM ‹AN (go c0<|Cm _ _ (ex.kids.getD 0 _) _ _) _ _ _› (by assumption)|exact Dk hc00 hs1 hkg.1 hkg.2.1 hkg.2.2.1 hkg.2.2.2 hKr oM|exact Eo hc00 hs1 oM oM hKr oM (by assumption)|exact Ep hc00 hs1 oM oM hKr oM (Eq hrl9 oM oM)|exact Bk hc00 hs1 hkg.1 hkg.2.1 hkg.2.2.1 hkg.2.2.2 oM oM hKr oM (by rw[show fx=0 from by omega];exact Gr oM)|exact Bk hc00 hs1 hkg.1 hkg.2.1 hkg.2.2.1 hkg.2.2.2 oM oM hKr oM (by rw[show fx=0 from by omega];exact Gs oM)|exact Bk hc00 hs1 hkg.1 hkg.2.1 hkg.2.2.1 hkg.2.2.2 oM oM hKr oM (by rw[show fx=0 from by omega];exact Gt oM)|exact Bk hc00 hs1 hkg.1 hkg.2.1 hkg.2.2.1 hkg.2.2.2 oM oM hKr oM (by rw[show fx=0 from by omega];exact Gu oM)|exact Bk hc00 hs1 hkg.1 hkg.2.1 hkg.2.2.1 hkg.2.2.2 oM oM hKr oM (by rw[show fx=0 from by omega];exact Gv oM oM)|exact Bk hc00 hs1 hkg.1 hkg.2.1 hkg.2.2.1 hkg.2.2.2 oM oM hKr oM (ET oM oM))⟩
 refine As false Z Z (A6 e1) Aa<|Ac 1 Z<|Aj Z<|fC [0,0] Z ?_
 by_cases ec:ex.kind=((9:Nat):Int)
 ·refine As true Z Z (A5 ec) Aa<|Ac 1 Z<|Af Z<|A0 ?_
  letI:JR:=Sg [g]
  refine Jx.AQ _ [0,0,1,0,1,0,0,0,0,1,0,1,0,3,3,3,3,0] mixed (by kernel_rfl) ?_
  have hwk:=PG hwf oM
  refine Jx.Yt (zP g) Z Aa<|Jx.Al (p:=zP w.heap.size) 4 AY Z Z Aa<|Jx.dT (p:=Ap (zP w.heap.size) 4) ve B7 Z (fun wj hj=>(BX.chg (w:=w9.drew) (F:=[g]) a9 hj (zB ·)).ldp (i:=4) sM) Aa<|Jx.AE (v:=ve) 1 Cc B3 Z Z hex.rn.isSl Z sD Aa ?_
  obtain⟨cs44,im,io⟩:=hex.rn.get (Ay dex) Ex.zero (k:=1) sD
  obtain⟨dd44,cy,m2,rfl,cz⟩:=RX.of im
  have ed:=cz.rn.lenle
  unfold maxLen at ed
  refine Jx.ZL (p:=AA ve 1 5) [zI<|(ex.kids.getD 1 Ex.zero).kind,zI<|(ex.kids.getD 1 Ex.zero).num,zI<|(ex.kids.getD 1 Ex.zero).pick,zI<|(ex.kids.getD 1 Ex.zero).count,cy] AX Z (fun wj hj=>io wj<|Ax.trans (ae.drew.sub<|B6 hgS)<|Ax.sub (show Ax [g] w9.drew wj from hj)<|B6 hgS) Z Aa<|Jx.Yt vv Z Aa<|Jx.AG 274 [] [] [vv] Z Z cS Aa (Ea vv) (fun wq=>Eu wq vv _ henv.slL hqenv)<|Jx.Yt (zP g) Z Aa<|Jx.Al (p:=zP w.heap.size) 4 AY Z Z Aa ?_
  refine Jx.dT (p:=Ap (zP w.heap.size) 4) ve B7 Z (fun wj hj=>(BX.chg (w:=w9.drew) (F:=[g]) a9 hj (zB ·)).ldp (i:=4) sM) Aa<|Jx.AE (v:=ve) 0 Cc B3 Z Z hex.rn.isSl Z sD Aa ?_
  obtain⟨cs45,ip,iq⟩:=hex.rn.get (Ay dex) Ex.zero (k:=0) sD
  obtain⟨dd45,d0,m3,rfl,d1⟩:=RX.of ip
  have ee:=d1.rn.lenle
  unfold maxLen at ee
  refine Jx.ZL (p:=AA ve 0 5) [zI<|(ex.kids.getD 0 Ex.zero).kind,zI<|(ex.kids.getD 0 Ex.zero).num,zI<|(ex.kids.getD 0 Ex.zero).pick,zI<|(ex.kids.getD 0 Ex.zero).count,d0] AX Z (fun wj hj=>iq wj<|Ax.trans (ae.drew.sub<|B6 hgS)<|Ax.sub (show Ax [g] w9.drew wj from hj)<|B6 hgS) Z Aa<|Jx.Yt vv Z Aa ?_
  refine Jx.At 241 [] [] [zP g,.agg #[zI<|(ex.kids.getD 0 Ex.zero).kind,zI<|(ex.kids.getD 0 Ex.zero).num,zI<|(ex.kids.getD 0 Ex.zero).pick,zI<|(ex.kids.getD 0 Ex.zero).count,d0],vv] Z Z Ma Aa (IH2 dd45 oM _ S g vp dp (o) (s0+1) (c0) (p) d0 (ex.kids.getD 0 Ex.zero) vv (env) (fun b hb=>(by have:=hS b hb;omega:b<w9.heap.size)) hgS c2 (hp.chg (An<|Av dp)<|ae.drew.sub<|B6 hgS) oM oM oM ⟨d1.rng,d1.rn.chg (An<|Ay dd45)<|ae.drew.sub<|B6 hgS⟩ (henv.chg g2<|ae.drew.sub<|B6 hgS) hqenv hvp oM (by exact E6 hwf oM oM) hse (zH<|DB (l:=ex.kids) (k:=0) oM)) ?_
  rintro od mq ⟨n5,ni,nj,nk,rfl,ap,ir,ef,eg,k7,k8,k9⟩
  refine⟨_,rfl,ap,?_⟩
  replace ap:=ap.of_drew
  have ka:=ap.size
  have is:Ax [g] w mq:=ae.trans ap
  have it:=a9.chg ap (zB ·)
  have kb:=eg.1
  refine Jx.Cd (u:=n5) (B:=mq.heap.size) BK Cb Bo Z Z (Ps mq.heap.size mq.heap.size _<|ef.one1 g1) (A7 _) Aa fun nl n6 ay m4 iu=>?_
  have kc:=ay.size
  have eh:Ax [g] w n6:=is.ext ay
  have br:=ir.ext ay
  have bs:=it.ext ay
  have ei:=ef.ext g1 ay
  refine Jx.Yz (v:=vv) (a:=nl) (u:=n5) Cb Bo Z Z Z (henv.chg g2<|eh.sub<|B6 hgS) iu ei (fun b hb=>(by have:=hS b hb;omega:b<n6.heap.size)) sD (by unfold maxLen;first|omega|assumption|(simp;done)|(simp;omega)) Aa fun n7 n8 az ej ek=>?_
  have kd:=az.size
  have d2:Ax [g] w n8:=eh.ext az
  have bt:=br.ext az
  have bu:=bs.ext az
  have iv:=ei.ext g1 az
  refine Jx.At 241 [] [] [zP g,.agg #[zI<|(ex.kids.getD 1 Ex.zero).kind,zI<|(ex.kids.getD 1 Ex.zero).num,zI<|(ex.kids.getD 1 Ex.zero).pick,zI<|(ex.kids.getD 1 Ex.zero).count,cy],n7] Z Z Ma Aa (IH2 dd44 oM _ S g vp dp (o) (nj) (nk) (p) cy (ex.kids.getD 1 Ex.zero) n7 (env++[ni]) (fun b hb=>(by have:=hS b hb;omega:b<n8.heap.size)) hgS bt (hp.chg (An<|Av dp)<|d2.sub<|B6 hgS) oM oM oM ⟨cz.rng,cz.rn.chg (An<|Ay dd44)<|d2.sub<|B6 hgS⟩ ej ek hvp oM (by have h9:=Kg hwf oM oM;rw[z4,zd];exact h9) (by exact hse.snoc (by assumption)) (by have:=DB (l:=ex.kids) (k:=1) oM;rw[z4,zd];omega)) ?_
  rintro oe nm ⟨ms,nn,no,mj,rfl,aq,iw,ix,el,ke,kf,kg⟩
  refine⟨_,rfl,aq,?_⟩
  have kh:=aq.size
  have iy:Ax [g] w nm:=d2.trans aq
  have m5:=bu.chg aq (zB ·)
  have m6:=iv.run g1 hgS aq
  have m7:=ej.run g2 hgS aq
  have ki:=el.1
  refine Jx.Ss ms Z Aa<|Jx.Ai<|A1<|AL<|Ao ?_
  exact Ah [6] Z ms Z ⟨ms,nn,no,mj,rfl,iy,iw,ix,DG,oM,oM,(by first|exact DR oM|exact CQ oM oM|exact EO hc00 hs1 oM|exact EP hc00 hs1 oM|exact EQ hc00 hs1 oM oM ‹AN (go c0<|Cm _ _ (ex.kids.getD 0 _) _ _) _ _ _› oM (by assumption)|exact ER hc00 hs1 oM oM ‹AN (go c0<|Cm _ _ (ex.kids.getD 0 _) _ _) _ _ _› oM (by assumption)|exact ES hc00 hs1 oM oM ‹AN (go c0<|Cm _ _ (ex.kids.getD 0 _) _ _) _ _ _› (by assumption)|exact Dk hc00 hs1 hkg.1 hkg.2.1 hkg.2.2.1 hkg.2.2.2 hKr oM|exact Eo hc00 hs1 oM oM hKr oM (by assumption)|exact Ep hc00 hs1 oM oM hKr oM (Eq hrl9 oM oM)|exact Bk hc00 hs1 hkg.1 hkg.2.1 hkg.2.2.1 hkg.2.2.2 oM oM hKr oM (by rw[show mj=0 from by omega];exact Gr oM)|exact Bk hc00 hs1 hkg.1 hkg.2.1 hkg.2.2.1 hkg.2.2.2 oM oM hKr oM (by rw[show mj=0 from by omega];exact Gs oM)|exact Bk hc00 hs1 hkg.1 hkg.2.1 hkg.2.2.1 hkg.2.2.2 oM oM hKr oM (by rw[show mj=0 from by omega];exact Gt oM)|exact Bk hc00 hs1 hkg.1 hkg.2.1 hkg.2.2.1 hkg.2.2.2 oM oM hKr oM (by rw[show mj=0 from by omega];exact Gu oM)|exact Bk hc00 hs1 hkg.1 hkg.2.1 hkg.2.2.1 hkg.2.2.2 oM oM hKr oM (by rw[show mj=0 from by omega];exact Gv oM oM)|exact Bk hc00 hs1 hkg.1 hkg.2.1 hkg.2.2.1 hkg.2.2.2 oM oM hKr oM (ET oM oM))⟩
 refine As false Z Z (A6 ec) Aa<|Ac 1 Z<|Aj Z<|A2<|fC [0,0,2,0,4,0] Z ?_
 have hkg:ex.kind≠1∧ex.kind≠2∧ex.kind≠8∧ex.kind≠9:=by omega
 have mi:=T4 hwf hvp hF
 refine Ad 1 Z<|Al (p:=zP w.heap.size) 4 AY Z Z Aa<|Ag (p:=Ap (zP w.heap.size) 4) (.inr Z) ve B7 Z (a9.ldp (i:=4) sM) Aa<|Ad 1 Z ?_
 refine AH 210 [] [] [zP g,ve,vv] Z Z UG Aa (UQ F dex (fun d9 h9=>IH2 d9 oM) _ S g vp dp (o) (s0+1) (c0) (p) ve (ex.kids) vv (env) (fun b hb=>(by have:=hS b hb;omega:b<w9.heap.size)) hgS c2 (hp.chg (An<|Av dp)<|ae.sub<|B6 hgS) oM oM oM (hex.rn.chg (An<|Ay dex)<|ae.sub<|B6 hgS) (henv.chg g2<|ae.sub<|B6 hgS) hqenv hvp oM (by intro k hk;exact E6 hwf hk oM) hse (by intro k hk;have:=DB (l:=ex.kids) (k:=k) hk;omega) oM) ?_
 rintro og f2 ⟨f1,f3,f9,c66,rfl,bv,aa,a0,ak,kj,kk,em⟩
 refine⟨_,rfl,?_⟩
 have en:=bv.size
 have a2:Ax [g] w f2:=ae.trans bv
 have a6:=a9.chg bv (zB ·)
 have kl:=ak.2.1
 have km:=ak.2.2
 have kn:=ak.1
 have hK:=ak.2.2
 have hKr:=em
 refine Ac 1 Z<|A0<|fC [0,0,0,2,0] Z<|Ad 1 Z<|B9 Z Aa<|Al (p:=zP g) 3 Hq Z Z Aa<|Ag (p:=Ap (zP g) 3) (.inr Z) (zI c66) AI Z (aa.ldp (i:=3) sM) Aa ?_
 by_cases eo:c66≠((0:Nat):Int)
 ·refine AT true Z Z (A5 eo) Aa<|Ai<|Af Z<|fC [0,3,0] Z<|Ad 1 Z<|At 273 [] [] [zP g,zI ((0:Nat):Int)] Z Z Pl Aa (BR _ S g vp dp (o) (f9) (c66) (p) _ (fun b hb=>(by have:=hS b hb;omega:b<f2.heap.size)) hgS aa (hp.chg (An<|Av dp)<|a2.sub<|B6 hgS) oM oM oM oM) ?_
  rintro oh np ⟨c4,rfl,ar,d3⟩
  refine⟨_,rfl,ar,?_⟩
  have ko:=ar.size
  have iz:Ax [g] w np:=a2.ext ar
  have bw:=aa.ext ar
  have i2:=a6.ext ar
  have m8:=a0.ext g2 ar
  refine Ac 1 Z<|A1<|Ao ?_
  exact Ah [6] Z c4 Z ⟨c4,cst (o+1) ((0:Nat):Int),f9,c66,rfl,iz,bw,RN.of_fr1 d3 fun b hb=>zH<|hS b hb,DG,oM,oM,Ku⟩
 refine AT false Z Z (A6 eo) Aa<|Ai<|Aj Z<|A2<|A0<|fC [0,2] Z<|Al (p:=zP w.heap.size) 0 Bn Z Z Aa<|Ag (p:=Ap (zP w.heap.size) 0) (.inr Z) (zI ex.kind) AI Z (a6.ldp (i:=0) sM) Aa<|Ai<|A3<|fC [0,0] Z ?_
 by_cases ep:ex.kind=((10:Nat):Int)
 ·refine As true Z Z (A5 ep) Aa<|Ac 1 Z<|Af Z<|A0<|AQ _ [0,0,0,0,0,1,0,1,0,0,1,0,1,0,1,0,4,0] mixed (by kernel_rfl) ?_
  have hwk:=Iq hwf oM
  refine Ad 2 Z ?_
  have hvo:=hvp.outs (ex.num).toNat oM
  have hvd:=hvp.deep (ex.num).toNat oM (ex.pick).toNat oM
  refine B9 Z Aa<|Al (p:=zP g) 0 RJ Z Z Aa<|Al (p:=Ap (zP g) 0) (b:=g) (o:=0) 0 B8 Z Z Aa<|Ag (p:=Ap (Ap (zP g) 0) 0) (.inl Z) vp Bt Z (aa.ldp (i:=0) sM) Aa<|Al (p:=zP w.heap.size) 1 BL Z Z Aa<|Ag (p:=Ap (zP w.heap.size) 1) (.inl Z) (zI ex.num) AI Z (a6.ldp (i:=1) sM) Aa ?_
  refine AE (v:=vp) ((ex.num).toNat) Du BD Z Z hp.isSl oM sD Aa ?_
  obtain⟨cs75,j0,eq⟩:=hp.get (Av dp) Fn.zero (k:=(ex.num).toNat) sD
  obtain⟨d4,rfl,d5⟩:=RF.of j0
  have er:=d5.rn.lenle
  unfold maxLen at er
  refine AB (p:=AA vp ((ex.num).toNat) 3) 2 Br Z (eq _<|a2.drew.sub<|B6 hgS) Aa<|Ag (p:=Ap (AA vp ((ex.num).toNat) 3) 2) (.inl Z) d4 B7 Z ((eq _<|a2.drew.sub<|B6 hgS).ld (i:=2) (by simp[DT,E2])) Aa<|Al (p:=zP w.heap.size) 2 CN Z Z Aa<|Ag (p:=Ap (zP w.heap.size) 2) (.inl Z) (zI ex.pick) AI Z (a6.ldp (i:=2) sM) Aa ?_
  refine AE (v:=d4) ((ex.pick).toNat) Cc B3 Z Z d5.rn.isSl oM sD Aa ?_
  obtain⟨cs76,j1,j2⟩:=d5.rn.get (Ay dp) Ex.zero (k:=(ex.pick).toNat) sD
  obtain⟨dd76,d6,m9,rfl,d7⟩:=RX.of j1
  have es:=d7.rn.lenle
  unfold maxLen at es
  refine AF (p:=AA d4 ((ex.pick).toNat) 5) (.inl Z) [zI<|(((p.getD ((ex.num).toNat) Fn.zero).outs).getD ((ex.pick).toNat) Ex.zero).kind,zI<|(((p.getD ((ex.num).toNat) Fn.zero).outs).getD ((ex.pick).toNat) Ex.zero).num,zI<|(((p.getD ((ex.num).toNat) Fn.zero).outs).getD ((ex.pick).toNat) Ex.zero).pick,zI<|(((p.getD ((ex.num).toNat) Fn.zero).outs).getD ((ex.pick).toNat) Ex.zero).count,d6] AX Z (fun fe cr=>j2 fe<|(a2.drew.sub<|B6 hgS).ext cr) Z Aa<|Ad 1 Z ?_
  refine AH 241 [] [] [zP g,.agg #[zI<|(((p.getD ((ex.num).toNat) Fn.zero).outs).getD ((ex.pick).toNat) Ex.zero).kind,zI<|(((p.getD ((ex.num).toNat) Fn.zero).outs).getD ((ex.pick).toNat) Ex.zero).num,zI<|(((p.getD ((ex.num).toNat) Fn.zero).outs).getD ((ex.pick).toNat) Ex.zero).pick,zI<|(((p.getD ((ex.num).toNat) Fn.zero).outs).getD ((ex.pick).toNat) Ex.zero).count,d6],f1] Z Z Ma Aa (IH1 (ex.num).toNat oM dd76 _ S g vp dp (o) (f9) (c66) (p) d6 (((p.getD ((ex.num).toNat) Fn.zero).outs).getD ((ex.pick).toNat) Ex.zero) f1 (f3) (fun b hb=>(by have:=hS b hb;omega:b<f2.heap.size)) hgS aa (hp.chg (An<|Av dp)<|a2.drew.sub<|B6 hgS) oM oM oM ⟨d7.rng,d7.rn.chg (An<|Ay dd76)<|a2.drew.sub<|B6 hgS⟩ a0 ak.1 hvp oM (by have h9:=hvp.wf (ex.num).toNat oM (ex.pick).toNat oM;rw[show(f3.length:Int)=(p.getD (ex.num).toNat Fn.zero).params from by omega];exact h9) hK oM) ?_
  rintro oi nq ⟨n9,nr,ns,ml,rfl,au,j3,j4,et,kp,kq,kr⟩
  refine⟨_,rfl,?_⟩
  replace au:=au.of_drew
  have kt:=au.size
  have j5:Ax [g] w nq:=a2.trans au
  have ma:=a6.chg au (zB ·)
  have mb:=a0.run g2 hgS au
  have ku:=et.1
  refine Ac 1 Z<|A1<|AL<|Ao ?_
  exact Ah [6] Z n9 Z ⟨n9,nr,ns,ml,rfl,j5,j3,j4,DG,oM,oM,(by first|exact DR oM|exact CQ oM oM|exact EO hc00 hs1 oM|exact EP hc00 hs1 oM|exact EQ hc00 hs1 oM oM ‹AN (go c0<|Cm _ _ (ex.kids.getD 0 _) _ _) _ _ _› oM (by assumption)|exact ER hc00 hs1 oM oM ‹AN (go c0<|Cm _ _ (ex.kids.getD 0 _) _ _) _ _ _› oM (by assumption)|exact ES hc00 hs1 oM oM ‹AN (go c0<|Cm _ _ (ex.kids.getD 0 _) _ _) _ _ _› (by assumption)|exact Dk hc00 hs1 hkg.1 hkg.2.1 hkg.2.2.1 hkg.2.2.2 hKr oM|exact Eo hc00 hs1 oM oM hKr oM (by assumption)|exact Ep hc00 hs1 oM oM hKr oM (Eq hrl9 oM oM)|exact Bk hc00 hs1 hkg.1 hkg.2.1 hkg.2.2.1 hkg.2.2.2 oM oM hKr oM (by rw[show ml=0 from by omega];exact Gr oM)|exact Bk hc00 hs1 hkg.1 hkg.2.1 hkg.2.2.1 hkg.2.2.2 oM oM hKr oM (by rw[show ml=0 from by omega];exact Gs oM)|exact Bk hc00 hs1 hkg.1 hkg.2.1 hkg.2.2.1 hkg.2.2.2 oM oM hKr oM (by rw[show ml=0 from by omega];exact Gt oM)|exact Bk hc00 hs1 hkg.1 hkg.2.1 hkg.2.2.1 hkg.2.2.2 oM oM hKr oM (by rw[show ml=0 from by omega];exact Gu oM)|exact Bk hc00 hs1 hkg.1 hkg.2.1 hkg.2.2.1 hkg.2.2.2 oM oM hKr oM (by rw[show ml=0 from by omega];exact Gv oM oM)|exact Bk hc00 hs1 hkg.1 hkg.2.1 hkg.2.2.1 hkg.2.2.2 oM oM hKr oM (ET oM oM))⟩
 refine As false Z Z (A6 ep) Aa<|Ac 1 Z<|Aj Z<|fC [0,0] Z ?_
 by_cases eu:ex.kind=((11:Nat):Int)
 ·refine As true Z Z (A5 eu) Aa<|Ac 1 Z<|Af Z<|A0<|fC [0] Z ?_
  have hwk:=Iq hwf oM
  have hwl:=NI hwf oM
  refine Ac 1 Z<|A3 ?_
  refine AW (S:=Nat×Value×List (Sr)×Nat×Int) (fun⟨i,vk,ks,s9,c9⟩=>([(7,vk),(8,zI (i:Int)),(0,zP g),(4,zP w.heap.size)])) (fun⟨i,vk,ks,s9,c9⟩ W=>Ax [g] w W∧BX W.heap g [vp,zI (o:Int),zI (s9:Int),zI c9]∧BX W.heap w.heap.size [zI ex.kind,zI ex.num,zI ex.pick,zI ex.count,ve]∧i≤(ex.count).toNat∧RN S (Bd<|Bd rI) W.heap vk ks∧Cs vk∧ks.length=(p.getD (ex.num).toNat Fn.zero).outs.length∧C4 (o+1) ks∧s9≤3000∧(0≤c9∧c9≤9)∧AN (GJ (fun a t=>CB (o+1) (Df p (o+1) (ex.num).toNat) (p.getD (ex.num).toNat Fn.zero).outs a t) i f3 f9) ks s9 c9) (fun⟨i,vk,ks,s9,c9⟩=>(ex.count).toNat-i) (0,f1,f3,f9,c66) ⟨rfl,rfl,rfl,rfl,trivial⟩ ⟨a2,aa,a6,oM,(by assumption),(by assumption),oM,(by assumption),oM,oM,(by exact⟨rfl,rfl,zO⟩)⟩ ?_
  clear jm lm gw i3 dn lu i0 ae i5 a9 bv en a2 a6
  rintro⟨i,vk,ks,s9,c9⟩ ρ86 mr ⟨al,a7,a8,j6,hrk,hck,hkl,hks,j7,j8,hrl9⟩
  have kv:w.heap.size≤mr.heap.size:=al.size
  have mc:=a7.lt
  have md:=a8.lt
  refine A0<|fC [0,0,2,0,0,0,0,0,2,0,0] Z<|Ad 1 Z<|Al (p:=zP w.heap.size) 3 CV Z Z Aa<|Ag (p:=Ap (zP w.heap.size) 3) (.inr Z) (zI ex.count) AI Z (a8.ldp (i:=3) sM) Aa ?_
  by_cases ev:(i:Int)<ex.count
  ·refine AJ true Z Z (A5 ev) Aa<|Ad 2 Z<|B9 Z (Ae (e:=132) Z Z Z)<|Al (p:=zP g) 3 Hq Z Z (Ae (e:=132) Z Z Z)<|Ag (p:=Ap (zP g) 3) (.inr Z) (zI c9) AI Z (a7.ldp (i:=3) sM) (Ae (e:=132) Z Z Z) ?_
   by_cases ew:c9=((0:Nat):Int)
   ·refine As true Z Z (A5 ew) (Ae (e:=132) Z Z Z)<|Ac 1 Z<|Af Z<|A2<|A0<|A3<|AQ _ [0,0,0,0,0,1,0,1,0,0,1,0,4,0] mixed (by kernel_rfl)<|Ad 2 Z ?_
    have hvo:=hvp.outs (ex.num).toNat oM
    refine B9 Z Aa<|Al (p:=zP g) 0 RJ Z Z Aa<|Al (p:=Ap (zP g) 0) (b:=g) (o:=0) 0 B8 Z Z Aa<|Ag (p:=Ap (Ap (zP g) 0) 0) (.inl Z) vp Bt Z (a7.ldp (i:=0) sM) Aa<|Al (p:=zP w.heap.size) 1 BL Z Z Aa<|Ag (p:=Ap (zP w.heap.size) 1) (.inl Z) (zI ex.num) AI Z (a8.ldp (i:=1) sM) Aa ?_
    refine AE (v:=vp) ((ex.num).toNat) Du BD Z Z hp.isSl oM sD Aa ?_
    obtain⟨cs91,j9,ey⟩:=hp.get (Av dp) Fn.zero (k:=(ex.num).toNat) sD
    obtain⟨d8,rfl,ez⟩:=RF.of j9
    have g0:=ez.rn.lenle
    unfold maxLen at g0
    refine AB (p:=AA vp ((ex.num).toNat) 3) 2 Br Z (ey _<|al.drew.sub<|B6 hgS) Aa<|Ag (p:=Ap (AA vp ((ex.num).toNat) 3) 2) (.inl Z) d8 B7 Z ((ey _<|al.drew.sub<|B6 hgS).ld (i:=2) (by simp[DT,E2])) Aa<|Ad 1 Z ?_
    refine AH 210 [] [] [zP g,d8,vk] Z Z UG Aa (UQ (ex.num).toNat dp (fun d9 h9=>IH1 (ex.num).toNat oM d9) _ S g vp dp (o) (s9) (c9) (p) d8 ((p.getD ((ex.num).toNat) Fn.zero).outs) vk (ks) (fun b hb=>(by have:=hS b hb;omega:b<mr.heap.size)) hgS a7 (hp.chg (An<|Av dp)<|al.drew.sub<|B6 hgS) oM oM oM (ez.rn.chg (An<|Ay dp)<|al.drew.sub<|B6 hgS) hrk hck hvp oM (by intro k hk;have h9:=hvp.wf (ex.num).toNat oM k hk;rw[show(ks.length:Int)=(p.getD (ex.num).toNat Fn.zero).params from by omega];exact h9) hks (by intro k hk;have:=hvp.deep (ex.num).toNat oM k hk;omega) oM) ?_
    rintro oj nt ⟨nu,nv,nx,ny,rfl,av,ja,me,b0,kw,kx,ky⟩
    refine⟨_,rfl,?_⟩
    replace av:=av.of_drew
    have kz:=av.size
    have jb:Ax [g] w nt:=al.trans av
    have jc:=a8.chg av (zB ·)
    have mf:=hrk.run g2 hgS av
    have l0:=b0.2.1
    have l1:=b0.2.2
    have l2:=b0.1
    exact Ac 1 Z<|Ab _ [0,0,0] Z<|Ad 1 Z<|AR ((i+1:Nat):Int) Z Z (Bl oM oM) Aa<|Ac 1 Z ⟨(i+1,nu,nv,nx,ny),_,rfl,zR,⟨jb,ja,jc,oM,(by assumption),(by assumption),oM,(by assumption),oM,oM,(by exact Vq hrl9 oM (by assumption))⟩,zD⟩
   refine As false Z Z (A6 ew) (Ae (e:=132) Z Z Z)<|Ac 1 Z<|Aj Z<|A4<|Az<|Az<|Aw<|fC [0,0,2,0,2,0] Z<|Ad 1 Z<|Al (p:=zP w.heap.size) 2 CN Z Z Aa<|Ag (p:=Ap (zP w.heap.size) 2) (.inr Z) (zI ex.pick) AI Z (a8.ldp (i:=2) sM) Aa ?_
   refine AE (v:=vk) ((ex.pick).toNat) Cb Bo Z Z hrk.slL oM sD Aa ?_
   obtain⟨da,jd,g3⟩:=RN.getL (w:=mr) g1 [] (k:=(ex.pick).toNat) hrk sD
   have g4:=g3.lenL
   unfold maxLen at g4
   refine Ag (p:=AA vk ((ex.pick).toNat) 1) (.inr Z) da Bx Z (jd _<|Ax.refl _ _) Aa<|Ac 1 Z<|A1<|AL<|Ao ?_
   exact Ah [6] Z da Z ⟨da,ks.getD ((ex.pick).toNat) [],s9,c9,rfl,al,a7,g3,DG,oM,oM,UR⟩
  refine AJ false Z Z (A6 ev) Aa<|Ac 7 Z<|Aj Z<|A4<|Az<|Az<|Aw<|fC [0,0,2,0,2,0] Z<|Ad 1 Z<|Al (p:=zP w.heap.size) 2 CN Z Z Aa<|Ag (p:=Ap (zP w.heap.size) 2) (.inr Z) (zI ex.pick) AI Z (a8.ldp (i:=2) sM) Aa ?_
  refine AE (v:=vk) ((ex.pick).toNat) Cb Bo Z Z hrk.slL oM sD Aa ?_
  obtain⟨b1,g5,c5⟩:=RN.getL (w:=mr) g1 [] (k:=(ex.pick).toNat) hrk sD
  have db:=c5.lenL
  unfold maxLen at db
  refine Ag (p:=AA vk ((ex.pick).toNat) 1) (.inr Z) b1 Bx Z (g5 _<|Ax.refl _ _) Aa<|Ac 1 Z<|A1<|AL<|Ao ?_
  exact Ah [6] Z b1 Z ⟨b1,ks.getD ((ex.pick).toNat) [],s9,c9,rfl,al,a7,c5,DG,oM,oM,UR⟩
 refine As false Z Z (A6 eu) Aa<|Ac 1 Z<|Aj Z<|fC [0,0] Z ?_
 by_cases c6:ex.kind=((3:Nat):Int)
 ·refine As true Z Z (A5 c6) Aa<|Ac 1 Z<|Af Z<|A0<|AQ _ [0,0,1,0,0,1,3,0] mixed (by kernel_rfl) ?_
  have hwk:=Kh hwf oM
  have hK0:=hK 0 oM
  have hK1:=hK 1 oM
  have hK1l:=hK1.1
  refine Ad 1 Z<|AE (v:=f1) 0 Cb Bo Z Z a0.slL Z sD Aa ?_
  obtain⟨c7,g6,b2⟩:=RN.getL (w:=f2) g1 [] (k:=0) a0 sD
  have dc:=b2.lenL
  unfold maxLen at dc
  refine Ag (p:=AA f1 0 1) (.inl Z) c7 Bx Z (g6 _ (Ax.refl _ _).drew) Aa<|Ad 1 Z<|AE (v:=f1) 1 Cb Bo Z Z a0.slL Z sD Aa ?_
  obtain⟨c8,g7,b3⟩:=RN.getL (w:=f2) g1 [] (k:=1) a0 sD
  have dd:=b3.lenL
  unfold maxLen at dd
  refine Ag (p:=AA f1 1 1) (.inl Z) c8 Bx Z (g7 _ (Ax.refl _ _).drew) Aa<|At 185 [] [] [c7,c8] Z Z Pk Aa (Et _ _ _ _ _ (b2).rd (b3).rd Mf Ob hK0.2 hK1.2) ?_
  rintro nz mt ⟨b4,rfl,a3,ag⟩
  refine⟨_,rfl,a3,?_⟩
  replace a3:=a3.of_drew
  have je:=a3.size
  have g8:Ax [g] w mt:=a2.ext a3
  have b5:=aa.ext a3
  have g9:=a6.ext a3
  have l3:=a0.ext g2 a3
  have l4:=b2.ext g1 a3
  have l5:=b3.ext g1 a3
  replace ag:=ag.low (B':=f2.heap.size)<|A7 _
  refine Ac 1 Z<|A1<|AL<|Ao ?_
  exact Ah [6] Z b4 Z ⟨b4,Ee (f3.getD 0 [])<|f3.getD 1 [],f9,c66,rfl,g8,b5,RN.of_fr1 ag fun b hb=>zH<|hS b hb,DG,oM,oM,Ku⟩
 refine As false Z Z (A6 c6) Aa<|Ac 1 Z<|Aj Z<|fC [0,0] Z ?_
 by_cases ca:ex.kind=((4:Nat):Int)
 ·refine As true Z Z (A5 ca) Aa<|Ac 1 Z<|Af Z<|A0<|AQ _ [0,0,1,0,0,1,3,0] mixed (by kernel_rfl) ?_
  have hwk:=Kh hwf oM
  have hK0:=hK 0 oM
  have hK1:=hK 1 oM
  have hK1l:=hK1.1
  refine Ad 1 Z<|AE (v:=f1) 0 Cb Bo Z Z a0.slL Z sD Aa ?_
  obtain⟨cb,ga,b6⟩:=RN.getL (w:=f2) g1 [] (k:=0) a0 sD
  have de:=b6.lenL
  unfold maxLen at de
  refine Ag (p:=AA f1 0 1) (.inl Z) cb Bx Z (ga _ (Ax.refl _ _).drew) Aa<|Ad 1 Z<|AE (v:=f1) 1 Cb Bo Z Z a0.slL Z sD Aa ?_
  obtain⟨cc,gb,b7⟩:=RN.getL (w:=f2) g1 [] (k:=1) a0 sD
  have df:=b7.lenL
  unfold maxLen at df
  refine Ag (p:=AA f1 1 1) (.inl Z) cc Bx Z (gb _ (Ax.refl _ _).drew) Aa<|At 178 [] [] [cb,cc] Z Z XZ Aa (If _ _ _ _ _ (b6).rd (b7).rd Mf (zH<|hK1.1) Ob hK0.2 hK1.2) ?_
  rintro o0 mu ⟨b8,rfl,a4,ah⟩
  refine⟨_,rfl,a4,?_⟩
  replace a4:=a4.of_drew
  have jf:=a4.size
  have gc:Ax [g] w mu:=a2.ext a4
  have b9:=aa.ext a4
  have gd:=a6.ext a4
  have l6:=a0.ext g2 a4
  have l7:=b6.ext g1 a4
  have l8:=b7.ext g1 a4
  replace ah:=ah.low (B':=f2.heap.size)<|A7 _
  refine Ac 1 Z<|A1<|AL<|Ao ?_
  exact Ah [6] Z b8 Z ⟨b8,FB (f3.getD 0 [])<|f3.getD 1 [],f9,c66,rfl,gc,b9,RN.of_fr1 ah fun b hb=>zH<|hS b hb,DG,oM,oM,Ku⟩
 refine As false Z Z (A6 ca) Aa<|Ac 1 Z<|Aj Z<|fC [0,0] Z ?_
 by_cases cd:ex.kind=((5:Nat):Int)
 ·refine As true Z Z (A5 cd) Aa<|Ac 1 Z<|Af Z<|A0<|AQ _ [0,0,1,0,0,1,3,0] mixed (by kernel_rfl) ?_
  have hwk:=Kh hwf oM
  have hK0:=hK 0 oM
  have hK1:=hK 1 oM
  have hK1l:=hK1.1
  refine Ad 1 Z<|AE (v:=f1) 0 Cb Bo Z Z a0.slL Z sD Aa ?_
  obtain⟨ce,ge,ba⟩:=RN.getL (w:=f2) g1 [] (k:=0) a0 sD
  have dg:=ba.lenL
  unfold maxLen at dg
  refine Ag (p:=AA f1 0 1) (.inl Z) ce Bx Z (ge _ (Ax.refl _ _).drew) Aa<|Ad 1 Z<|AE (v:=f1) 1 Cb Bo Z Z a0.slL Z sD Aa ?_
  obtain⟨cf,gf,bb⟩:=RN.getL (w:=f2) g1 [] (k:=1) a0 sD
  have dh:=bb.lenL
  unfold maxLen at dh
  refine Ag (p:=AA f1 1 1) (.inl Z) cf Bx Z (gf _ (Ax.refl _ _).drew) Aa<|At 179 [] [] [ce,cf] Z Z Pj Aa (DF _ _ _ _ _ (ba).rd (bb).rd Mf Ob hK0.2 hK1.2) ?_
  rintro o4 mv ⟨bc,rfl,a5,ai⟩
  refine⟨_,rfl,a5,?_⟩
  replace a5:=a5.of_drew
  have jg:=a5.size
  have gg:Ax [g] w mv:=a2.ext a5
  have bd:=aa.ext a5
  have gh:=a6.ext a5
  have l9:=a0.ext g2 a5
  have la:=ba.ext g1 a5
  have lb:=bb.ext g1 a5
  replace ai:=ai.low (B':=f2.heap.size)<|A7 _
  refine Ac 1 Z<|A1<|AL<|Ao ?_
  exact Ah [6] Z bc Z ⟨bc,Ct (f3.getD 0 [])<|f3.getD 1 [],f9,c66,rfl,gg,bd,RN.of_fr1 ai fun b hb=>zH<|hS b hb,DG,oM,oM,Ku⟩
 refine As false Z Z (A6 cd) Aa<|Ac 1 Z<|Aj Z<|fC [0,0] Z ?_
 by_cases cg:ex.kind=((7:Nat):Int)
 ·refine As true Z Z (A5 cg) Aa<|Ac 1 Z<|Af Z<|fC [0,0,2,3,0] Z ?_
  have hwk:=PH hwf oM
  have hK0:=hK 0 oM
  refine Ad 1 Z<|AE (v:=f1) 0 Cb Bo Z Z a0.slL Z sD Aa ?_
  obtain⟨ch,gi,be⟩:=RN.getL (w:=f2) g1 [] (k:=0) a0 sD
  have di:=be.lenL
  unfold maxLen at di
  refine Ag (p:=AA f1 0 1) (.inr Z) ch Bx Z (gi _<|Ax.refl _ _) Aa<|At 187 [] [] [ch,zI ((1000002:Nat):Int)] Z Z Ns Aa (Dm _ _ _ _ (be).rd oM Mf hK0.2 oM) ?_
  rintro o5 mw ⟨bf,rfl,ac,bx⟩
  refine⟨_,rfl,ac,?_⟩
  have jh:=ac.size
  have gj:Ax [g] w mw:=a2.ext ac
  have bg:=aa.ext ac
  have gk:=a6.ext ac
  have lc:=a0.ext g2 ac
  have le:=be.ext g1 ac
  refine Ac 1 Z<|A1<|AL<|Ao ?_
  exact Ah [6] Z bf Z ⟨bf,CH (f3.getD 0 []) ((1000002:Nat):Int),f9,c66,rfl,gj,bg,RN.of_fr1 bx fun b hb=>zH<|hS b hb,DG,oM,oM,Ku⟩
 refine As false Z Z (A6 cg) Aa<|Ac 1 Z<|Aj Z<|A2<|A0<|fC [0,0,2,0,2,0] Z ?_
 have ji:=YN hwf ⟨hkg,zO⟩
 have hwk:=Kh hwf<|.inr<|.inr<|.inr ji
 have hK0:=hK 0 oM
 have hK1:=hK 1 oM
 have hK1l:=hK1.1
 refine Ad 1 Z<|AE (v:=f1) 1 Cb Bo Z Z a0.slL Z sD Aa ?_
 obtain⟨bh,gl,am⟩:=RN.getL (w:=f2) g1 [] (k:=1) a0 sD
 have dj:=am.lenL
 unfold maxLen at dj
 refine Ag (p:=AA f1 1 1) (.inr Z) bh Bx Z (gl _<|Ax.refl _ _) Aa<|AE (v:=bh) 0 BQ Ck Z Z am.slL Z sD Aa ?_
 have gm:=RN.getI (w:=f2) (k:=0) am sD
 refine Ag (p:=AA bh 0 1) (.inr Z) (zI<|(f3.getD 1 []).getD 0 0) AI Z (gm.1 _<|Ax.refl _ _) Aa ?_
 by_cases ci:(f3.getD 1 []).getD 0 0=((0:Nat):Int)
 ·refine As true Z Z (A5 ci) Aa<|Ai<|Af Z<|fC [0,0,0,4] Z<|Ad 1 Z<|B9 Z Aa<|Al (p:=zP g) 3 Hq Z Z Aa (Bc (k:=3) (w:=f2) I9 Z Z ⟨rfl,rfl⟩ aa sM Aa fun fr an lf ao=>?_)
  replace ao:BX fr.heap g [vp,zI (o:Int),zI (f9:Int),zI ((6:Nat):Int)]:=ao
  have cj:Ax [g] w fr:=a2.trans an
  have jj:=an.size
  have gn:=a6.chg an (zB ·)
  have gp:=a0.run g2 hgS an
  have gq:=am.run g1 hgS an
  refine Ai<|fC [0,3,0] Z<|Ad 1 Z<|At 273 [] [] [zP g,zI ((0:Nat):Int)] Z Z Pl Aa (BR _ S g vp dp (o) (f9) ((6:Nat):Int) (p) _ (fun b hb=>(by have:=hS b hb;omega:b<fr.heap.size)) hgS ao (hp.chg (An<|Av dp)<|cj.sub<|B6 hgS) oM oM oM oM) ?_
  rintro o6 mx ⟨bi,rfl,ad,bz⟩
  refine⟨_,rfl,ad,?_⟩
  have jk:=ad.size
  have gr:Ax [g] w mx:=cj.ext ad
  have aw:=ao.ext ad
  have dm:=gn.ext ad
  have lg:=gp.ext g2 ad
  have lh:=gq.ext g1 ad
  refine Ac 1 Z<|A1<|Ao ?_
  exact Ah [6] Z bi Z ⟨bi,cst (o+1) ((0:Nat):Int),f9,((6:Nat):Int),rfl,gr,aw,RN.of_fr1 bz fun b hb=>zH<|hS b hb,DG,oM,oM,(by first|exact DR oM|exact CQ oM oM|exact EO hc00 hs1 oM|exact EP hc00 hs1 oM|exact EQ hc00 hs1 oM oM ‹AN (go c0<|Cm _ _ (ex.kids.getD 0 _) _ _) _ _ _› oM (by assumption)|exact ER hc00 hs1 oM oM ‹AN (go c0<|Cm _ _ (ex.kids.getD 0 _) _ _) _ _ _› oM (by assumption)|exact ES hc00 hs1 oM oM ‹AN (go c0<|Cm _ _ (ex.kids.getD 0 _) _ _) _ _ _› (by assumption)|exact Dk hc00 hs1 hkg.1 hkg.2.1 hkg.2.2.1 hkg.2.2.2 hKr oM|exact Eo hc00 hs1 oM oM hKr oM (by assumption)|exact Ep hc00 hs1 oM oM hKr oM (Eq hrl9 oM oM)|exact Bk hc00 hs1 hkg.1 hkg.2.1 hkg.2.2.1 hkg.2.2.2 oM oM hKr oM (by rw[show((6:Nat):Int)=0 from by omega];exact Gr oM)|exact Bk hc00 hs1 hkg.1 hkg.2.1 hkg.2.2.1 hkg.2.2.2 oM oM hKr oM (by rw[show((6:Nat):Int)=0 from by omega];exact Gs oM)|exact Bk hc00 hs1 hkg.1 hkg.2.1 hkg.2.2.1 hkg.2.2.2 oM oM hKr oM (by rw[show((6:Nat):Int)=0 from by omega];exact Gt oM)|exact Bk hc00 hs1 hkg.1 hkg.2.1 hkg.2.2.1 hkg.2.2.2 oM oM hKr oM (by rw[show((6:Nat):Int)=0 from by omega];exact Gu oM)|exact Bk hc00 hs1 hkg.1 hkg.2.1 hkg.2.2.1 hkg.2.2.2 oM oM hKr oM (by rw[show((6:Nat):Int)=0 from by omega];exact Gv oM oM)|exact Bk hc00 hs1 hkg.1 hkg.2.1 hkg.2.2.1 hkg.2.2.2 oM oM hKr oM (ET oM oM))⟩
 refine As false Z Z (A6 ci) Aa<|Ai<|Aj Z<|A2<|A0<|AQ _ [0,0,1,0,0,1,3,0] mixed (by kernel_rfl)<|Ad 1 Z<|AE (v:=f1) 0 Cb Bo Z Z a0.slL Z sD Aa ?_
 obtain⟨ck,gs,bj⟩:=RN.getL (w:=f2) g1 [] (k:=0) a0 sD
 have dk:=bj.lenL
 unfold maxLen at dk
 refine Ag (p:=AA f1 0 1) (.inl Z) ck Bx Z (gs _ (Ax.refl _ _).drew) Aa<|Ad 1 Z<|AE (v:=f1) 1 Cb Bo Z Z a0.slL Z sD Aa ?_
 obtain⟨cl,gt,bk⟩:=RN.getL (w:=f2) g1 [] (k:=1) a0 sD
 have dl:=bk.lenL
 unfold maxLen at dl
 refine Ag (p:=AA f1 1 1) (.inl Z) cl Bx Z (gt _ (Ax.refl _ _).drew) Aa<|At 177 [] [] [ck,cl] Z Z UD Aa (Fp _ _ _ _ _ (bj).rd (bk).rd Mf Ob (zH<|hK1.1) hK0.2 hK1.2) ?_
 rintro o7 my ⟨bl,rfl,a1,aj⟩
 refine⟨_,rfl,a1,?_⟩
 replace a1:=a1.of_drew
 have jl:=a1.size
 have gu:Ax [g] w my:=a2.ext a1
 have bm:=aa.ext a1
 have gv:=a6.ext a1
 have li:=a0.ext g2 a1
 have lj:=am.ext g1 a1
 have lk:=bj.ext g1 a1
 have ll:=bk.ext g1 a1
 replace aj:=aj.low (B':=f2.heap.size)<|A7 _
 refine Ac 1 Z<|A1 ?_
 exact Ah [6] Z bl Z ⟨bl,C3 (f3.getD 0 [])<|f3.getD 1 [],f9,c66,rfl,gu,bm,RN.of_fr1 aj fun b hb=>zH<|hS b hb,DG,oM,oM,Ku⟩
theorem Xd:∀F d,PV F d:=by
 intro F
 induction F using Nat.strongRecOn with
 |_ F ihF =>
  intro d
  induction d using Nat.strongRecOn with
  |_ d ihd =>
   intro w S g vp dp o s0 c0 p ve ex vv env hS hgS a0 hp ho a1 a2 hex henv hqenv hvp hF hwf hse hdp
   exact H2 w S F g vp dp o s0 c0 p d ve ex vv env hS hgS a0 hp ho a1 a2 hex henv hqenv hvp hF hwf hse hdp ihF ihd
theorem Zx (F d:Nat):PA F d:=UQ F d fun d' _=>Xd F d'
theorem CT (w:World)(dp:Nat)(vp:Value)(p:List Fn)(f:Int)(va:Value)(a:List (Sr))(o:Nat)(hp:RP [] dp w.heap vp p)(_hf:BG f)(ha:RN [] (Bd (Bd rI)) w.heap va a)(hqa:Cs va)(hvp:Hz p)(hf:0≤f∧f<(p.length:Int))(hl:(a.length:Int)=(p.getD f.toNat Fn.zero).params)(hse:C4 (o+1) a)(ho:o≤12) :
  Calls Tryz.prog 142 #[(.agg #[vp]),zI f,va,zI (o:Int)] w (fun e w'=>∃v0:Value,e=.returned (.tuple #[v0,zI ((J8 p (o+1) f.toNat a:Nat):Int),zI (H7 p (o+1) f.toNat a)])∧AD w w'∧Fr (BA (BA rI 2) 27) w.heap.size w'.heap.size w'.heap v0 (KK p (o+1) f.toNat a)∧Va p (o+1) f.toNat a):=by
 refine Au [.agg #[vp],zI f,va,zI (o:Int)] 56 Tryz.func142 Z Z sM ?_
 have bq:AD w w:=AD.refl w
 have ch:=hp.lenle
 unfold maxLen at ch
 have ci:=ha.lenL
 unfold maxLen at ci
 refine fC [3,0,0,0] Z (Bv (cs:=#[vp]) Z Aa fun w1 b2 c4 ak=>?_)
 have b3:=b2.size
 have br:=bq.trans b2
 replace ak:BX w1.heap w.heap.size [vp]:=ak
 refine Ac 3 Z<|fC [2,0,0,3,0] Z<|AF (p:=zP w.heap.size) (.inr Z) [vp] Ba Z (fun cq c5=>LD.of_box<|BX.ext (w:=w1) ak c5) Z Aa<|Ad 1 Z ?_
 have b4:∀(vp:Value) (cj:Nat) (h2_0:Fx vp cj) (wq:World),(Instr.build 225 #[(0,.agg #[vp]),(1,zI (o:Int))]).run Tryz.prog wq=.ok (.agg #[vp,zI (o:Int),zI 0,zI 0]) wq:=by intro vp cj h2_0 wq;obtain⟨a2_0,cl,rfl,_⟩:=h2_0;kernel_rfl
 refine Bh (ps:=#[(0,.agg #[vp]),(1,zI (o:Int))]) (.agg #[vp,zI (o:Int),zI 0,zI 0]) (by simp only[zc,zf,zh];rfl) (fun wq=>b4 vp _ hp.isSl wq) Aa ?_
 have cg:=ak.lt
 refine Bv (cs:=#[vp,zI (o:Int),zI 0,zI 0]) Z Aa fun w3 az c7 b5=>?_
 have b6:=az.size
 have ac:=br.trans az
 have ad:=ak.ext az
 replace b5:BX w3.heap w1.heap.size [vp,zI (o:Int),zI 0,zI 0]:=b5
 refine Ac 1 Z<|fC [0,0,2,0,0,0,2,0,4,0] Z ?_
 have cr:=hvp.par f.toNat oM
 have ct:=hvp.outs f.toNat oM
 refine Ad 1 Z<|Al (p:=zP w.heap.size) 0 B8 Z Z Aa<|Ag (p:=Ap (zP w.heap.size) 0) (.inr Z) vp Bt Z (ad.ldp (i:=0) sM) Aa<|Ad 1 Z<|AE (v:=vp) ((f).toNat) Du BD Z Z hp.isSl oM sD Aa ?_
 obtain⟨cs5,c8,bs⟩:=hp.get (Av dp) Fn.zero (k:=(f).toNat) sD
 obtain⟨b7,rfl,bt⟩:=RF.of c8
 have al:=bt.rn.lenle
 unfold maxLen at al
 refine AB (p:=AA vp ((f).toNat) 3) 2 Br Z (bs _<|Ax.of_ext [] ac) Aa<|Ag (p:=Ap (AA vp ((f).toNat) 3) 2) (.inr Z) b7 B7 Z ((bs _<|Ax.of_ext [] ac).ld (i:=2) (by simp[DT,E2])) Aa<|Ad 1 Z ?_
 refine AH 210 [] [] [zP w1.heap.size,b7,va] Z Z UG Aa (Zx (f.toNat) dp _ [w1.heap.size] w1.heap.size vp dp (o) (0) (0) (p) b7 ((p.getD ((f).toNat) Fn.zero).outs) va (a) (fun b hb=>(by have:=A9 hb;omega:b<w3.heap.size)) (List.mem_singleton.2 Z) b5 ((hp.add (F:=[w1.heap.size]) (An<|Av dp) fun b hb=>zH<|A9 hb).ext (An<|Av dp) ac) oM oM oM ((bt.rn.add (F:=[w1.heap.size]) (An<|Ay dp) fun b hb=>zH<|A9 hb).ext (An<|Ay dp) ac) ((ha.add (F:=[w1.heap.size]) g2 fun b hb=>zH<|A9 hb).ext g2 ac) hqa hvp oM (by intro k hk;have h9:=hvp.wf f.toNat oM k hk;rw[hl];exact h9) hse (by intro k hk;have:=hvp.deep f.toNat oM k hk;omega) oM) ?_
 rintro e6 w6 ⟨v6,x6,s6,c6,rfl,b0,b8,c9,ae,b9,ba,bb⟩
 refine⟨_,rfl,?_⟩
 have ca:=b0.size
 have b1:AD w w6:=b0.below ac (fun b hb=>by have:b=w1.heap.size:=(by simpa using hb);omega) ac.size
 have bu:=ad.chg b0 (zB ·)
 have am:=ae.2.1
 have an:=ae.2.2
 have cb:=ae.1
 have bc:=c9.rt g2
 have hRL:=bb
 have hCB:=ba
 have hEP:=Va.mk' hRL hCB b9 am an
 have hXS:=an
 have hXL:=am
 refine Ac 1 Z<|A0<|fC [0,0,0,2,0] Z<|Ad 1 Z<|B9 Z Aa<|Al (p:=zP w1.heap.size) 3 Hq Z Z Aa<|Ag (p:=Ap (zP w1.heap.size) 3) (.inr Z) (zI c6) AI Z (b8.ldp (i:=3) sM) Aa ?_
 by_cases ao:c6≠((0:Nat):Int)
 ·exact AT true Z Z (A5 ao) Aa<|Ai<|Af Z<|A0<|AQ _ [0,0,0,1,0,0,0] mixed (by kernel_rfl)<|Ad 1 Z<|B9 Z Aa<|Al (p:=zP w1.heap.size) 3 Hq Z Z Aa<|Ag (p:=Ap (zP w1.heap.size) 3) (.inl Z) (zI c6) AI Z (b8.ldp (i:=3) sM) Aa<|Ac 3 Z<|A1<|Ao<|Ah [8,9,10] Z (.tuple #[zN,zI ((0:Nat):Int),zI c6]) Z ⟨zN,(by rw[QO<|J9 hRL oM,FP<|J9 hRL oM] <;> rfl),b1.drew,(by rw[OK<|J9 hRL oM];exact Gf _ _ _),hEP⟩
 refine AT false Z Z (A6 ao) Aa<|Ai<|Aj Z<|A2<|fC [3,0] Z (Dy (BA rI 2) o1 Cb Bo Aa fun cm cu a2 bd ap=>?_)
 have aq:=a2.size
 have ar:=b1.trans a2
 have af:=bu.ext a2
 have ag:=b8.ext a2
 have be:=bc.ext g2 a2
 refine Ac 1 Z<|A0<|fC [0,0,0] Z<|Ad 1 Z<|AS (v:=v6) Cb Z be.slL Aa<|Ac 1 Z<|A3 ?_
 refine AW (S:=Nat×Value) (fun⟨k,vo⟩=>([(13,vo),(41,zI (k:Int)),(11,zP w1.heap.size),(39,v6),(40,zI (x6.length:Int))])) (fun⟨k,vo⟩ W=>AD w W∧Fr (BA (BA rI 2) 27) w6.heap.size W.heap.size W.heap vo ((x6).take k)∧BX W.heap w1.heap.size [vp,zI (o:Int),zI (s6:Int),zI c6]∧k≤(x6).length∧RT w6.heap.size (Bd<|Bd rI) W.heap v6 x6∧w6.heap.size≤W.heap.size∧w1.heap.size<w6.heap.size∧w6.heap.size≤w6.heap.size∧w6.heap.size≤W.heap.size) (fun⟨k,vo⟩=>(x6).length-k) (0,cm) ⟨rfl,rfl,rfl,rfl,rfl,trivial⟩ ⟨ar,ap.up o2,ag,sD,(by assumption),oM,oM,oM,oM⟩ ?_
 clear bq c4 b2 b3 br c7 az b6 ac al b0 bu ap bd a2 aq ar af
 rintro⟨k,vo⟩ ρ18 ck ⟨ah,a8,a0,bf,a9,bv,bw,bx,bz⟩
 have c0:w.heap.size≤ck.heap.size:=ah.size
 have cc:=a0.lt
 refine fC [0] Z ?_
 by_cases au:(k:Int)<(x6.length:Int)
 ·refine AJ true Z Z (A5 au) Aa<|Ai<|A0<|Af Z<|A2<|A0<|A3<|fC [0,2,0] Z ?_
  have hkx:=hXS k oM
  have hkl:=hkx.1
  refine AE (v:=v6) k Cb Bo Z Z a9.slL Z sD Aa ?_
  obtain⟨av,bg,ai⟩:=RT.getL g1 [] (k:=k) a9 sD
  have aw:=ai.lenL
  unfold maxLen at aw
  refine Ag (p:=AA v6 k 1) (.inr Z) av Bx Z bg Aa<|Ac 1 Z<|Ab _ [0,0,3,3,4,0] Z<|Ad 2 Z<|At 130 [] [] [av] Z Z Ry Aa (BU _ _ _ ai.rd oM) ?_
  rintro cw cx ⟨ax,rfl,a1,aj⟩
  refine⟨_,rfl,a1,?_⟩
  have c1:=a1.size
  have bh:=ah.trans a1
  have a3:=a8.ext (o2) a1
  have a4:=a0.ext a1
  have bi:=a9.ext g2 a1
  have bj:=ai.ext g1 a1
  refine Cd (u:=ax) (B:=ck.heap.size) o1 Cb Bo Z Z aj (by first|exact A7 _|omega) Aa fun cn cy a5 cd bk=>?_
  have c2:=a5.size
  have ay:=bh.trans a5
  have a6:=a3.ext (o2) a5
  have a7:=a4.ext a5
  have bl:=bi.ext g2 a5
  have bm:=bj.ext g1 a5
  refine Kc o1 (v:=vo) (a:=cn) Cb Bo Z Z Z a6 oM bk oM oM sD (by unfold maxLen;first|omega|assumption|(simp;done)|(simp;omega)) Aa fun co cp cz aa ab bn=>?_
  have bo:AD w cp:=aa.below ay (fun c hc=>A8 b1.size (ab c hc).1) ay.size
  have c3:=aa.size
  have ce:=bl.chg g2 aa fun c hc=>zH<|ab c hc
  have cf:=bm.chg g1 aa fun c hc=>zH<|ab c hc
  have bp:=a7.chg aa fun hm=>zH<|ab _ hm
  refine Ac 1 Z<|Ab _ [0,0] Z<|AR ((k+1:Nat):Int) Z Z (Bl oM sD) Aa<|Ac 1 Z ?_
  exact⟨(k+1,co),_,rfl,zR,⟨bo,(by rw[Cn [] oM];exact bn.up o2),bp,sD,(by assumption),oM,oM,oM,oM⟩,zD⟩
 refine AJ false Z Z (A6 au) Aa<|Ai<|A0<|Aj Z<|A4<|Az<|Az<|Aw<|A0<|AQ _ [0,0,0,0,1,0,0,0] mixed (by kernel_rfl)<|Ad 2 Z<|B9 Z Aa<|Al (p:=zP w1.heap.size) 2 Lt Z Z Aa<|Ag (p:=Ap (zP w1.heap.size) 2) (.inl Z) (zI (s6:Int)) AI Z (a0.ldp (i:=2) sM) Aa<|Ac 3 Z<|A1 ?_
 exact Ah [8,9,10] Z (.tuple #[vo,zI (s6:Int),zI ((0:Nat):Int)]) Z ⟨vo,(by rw[QN<|LE hRL oM,KL<|LE hRL oM] <;> rfl),ah.drew,(by have h:=(a8.up o2).low b1.size;rw[GU<|LE hRL oM];rwa [za oM]at h),hEP⟩
theorem HE (w:World)(dex:Nat)(ve:Value)(ex:Ex)(hex:RX [] dex w.heap ve ex)(hs:ex.size≤1000000000) :
  Calls Tryz.prog 206 #[(.agg #[(zI ex.kind),(zI ex.num),(zI ex.pick),(zI ex.count),ve])] w (fun e w'=>e=.returned (zI (ex.size:Int))∧AD w w'):=by
 induction dex using Nat.strongRecOn generalizing w ve ex
 rename_i dex ih
 refine Au [.agg #[zI ex.kind,zI ex.num,zI ex.pick,zI ex.count,ve]] 19 Tryz.func206 Z Z sM ?_
 have ab:AD w w:=AD.refl w
 have aw:=hex.rn.lenle
 unfold maxLen at aw
 have hsk:=C0 ex
 refine fC [3,0] Z (Bv (cs:=#[zI ex.kind,zI ex.num,zI ex.pick,zI ex.count,ve]) Z Aa fun w1 a2 aj a3=>?_)
 have a4:=a2.size
 have ac:=ab.trans a2
 replace a3:BX w1.heap w.heap.size [zI ex.kind,zI ex.num,zI ex.pick,zI ex.count,ve]:=a3
 refine Ac 1 Z<|fE Z<|A0<|fC [0,2,0,0] Z<|Al (p:=zP w.heap.size) 4 AY Z Z Aa<|Ag (p:=Ap (zP w.heap.size) 4) (.inr Z) ve B7 Z (a3.ldp (i:=4) sM) Aa<|AS (v:=ve) Cc Z hex.rn.isSl Aa<|Ac 1 Z<|A3 ?_
 refine AW (S:=Nat×Nat) (fun⟨k,sz⟩=>([(3,zI (sz:Int)),(9,zI (k:Int)),(7,ve),(8,zI (ex.kids.length:Int))])) (fun⟨k,sz⟩ W=>AD w W∧k≤ex.kids.length∧sz=1+Ex.sizes (ex.kids.take k)) (fun⟨k,sz⟩=>ex.kids.length-k) (0,1) ⟨rfl,rfl,rfl,rfl,trivial⟩ ⟨ac,sD,(by rw[List.take_zero,MZ])⟩ ?_
 clear ab aj a2 a4 ac
 rintro⟨k,sz⟩ ρ2 w2 ⟨a1,ad,hsz⟩
 have ak:w.heap.size≤w2.heap.size:=a1.size
 refine fC [0] Z ?_
 by_cases ae:(k:Int)<(ex.kids.length:Int)
 ·refine AJ true Z Z (A5 ae) Aa<|Ai<|A0<|Af Z<|A2<|A0<|A3<|fC [0,2,3,4] Z ?_
  have hst:=E3 (l:=ex.kids) (k:=k) oM
  have hle:=Dz ex.kids (k+1)
  have hdt:=He (l:=ex.kids) (k:=k) oM
  have hda:=ED<|ex.kids.getD k Ex.zero
  refine AE (v:=ve) k Cc B3 Z Z hex.rn.isSl Z sD Aa ?_
  obtain⟨cs4,al,am⟩:=hex.rn.get (Ay dex) Ex.zero (k:=k) sD
  obtain⟨dd4,a0,ar,rfl,a5⟩:=RX.of al
  have a6:=a5.rn.lenle
  unfold maxLen at a6
  refine AF (p:=AA ve k 5) (.inr Z) [zI<|(ex.kids.getD k Ex.zero).kind,zI<|(ex.kids.getD k Ex.zero).num,zI<|(ex.kids.getD k Ex.zero).pick,zI<|(ex.kids.getD k Ex.zero).count,a0] AX Z (fun ax a7=>am ax<|Ax.of_ext []<|a1.trans a7) Z Aa (AU (z:=.agg #[zI 0,zI 0,zI 0,zI 0,zN]) Ec Aa fun w5 af au a8=>?_)
  have an:=af.size
  have ag:=a1.trans af
  replace a8:BX w5.heap w2.heap.size [zI 0,zI 0,zI 0,zI 0,zN]:=a8
  refine B2 (vs:=[zI<|(ex.kids.getD k Ex.zero).kind,zI<|(ex.kids.getD k Ex.zero).num,zI<|(ex.kids.getD k Ex.zero).pick,zI<|(ex.kids.getD k Ex.zero).count,a0]) AX Z Z a5.ones a8 Z Z Aa fun w6 ah av a9=>?_
  replace a9:BX w6.heap w2.heap.size [zI ((ex.kids.getD k Ex.zero).kind),zI ((ex.kids.getD k Ex.zero).num),zI ((ex.kids.getD k Ex.zero).pick),zI ((ex.kids.getD k Ex.zero).count),a0]:=a9
  have ai:AD w w6:=ah.below ag (fun _ h=>zE h) ag.size
  have ao:=ah.size
  refine Ai<|Ab _ [0,2,3,0,0] Z<|Ad 1 Z<|AF (p:=zP w2.heap.size) (.inr Z) [zI<|(ex.kids.getD k Ex.zero).kind,zI<|(ex.kids.getD k Ex.zero).num,zI<|(ex.kids.getD k Ex.zero).pick,zI<|(ex.kids.getD k Ex.zero).count,a0] AX Z (fun ax a7=>LD.of_box<|BX.ext (w:=w6) a9 a7) Z Aa<|At 206 [] [] [.agg #[zI<|(ex.kids.getD k Ex.zero).kind,zI<|(ex.kids.getD k Ex.zero).num,zI<|(ex.kids.getD k Ex.zero).pick,zI<|(ex.kids.getD k Ex.zero).count,a0]] Z Z UF Aa (ih dd4 oM _ a0 (ex.kids.getD k Ex.zero) (a5.ext ai) oM) ?_
  rintro e7 w7 ⟨rfl,aa⟩
  refine⟨_,rfl,aa,?_⟩
  have ap:=aa.size
  have aq:=ai.trans aa
  refine AR ((sz+(ex.kids.getD k Ex.zero).size:Nat):Int) Z Z (Bl oM oM) Aa<|Ac 1 Z<|Ab _ [0,0] Z<|AR ((k+1:Nat):Int) Z Z (Bl oM sD) Aa<|Ac 1 Z ?_
  exact⟨(k+1,sz+(ex.kids.getD k Ex.zero).size),_,rfl,zR,⟨aq,sD,oM⟩,zD⟩
 exact AJ false Z Z (A6 ae) Aa<|Ai<|A0<|Aj Z<|A4<|Az<|Az<|Aw<|fC [0,0] Z<|Ac 2 Z<|A1<|Ah [2] Z (zI (sz:Int)) Z ⟨Bf (by rw[hsz,N1 oM,hsk]),a1⟩
theorem Kv (w:World)(dex:Nat)(ve:Value)(ex:Ex)(hex:RX [] dex w.heap ve ex)(hs:ex.size≤1000000000) :
  Calls Tryz.prog 236 #[(.agg #[(zI ex.kind),(zI ex.num),(zI ex.pick),(zI ex.count),ve])] w (fun e w'=>e=.returned (zI (ex.deep:Int))∧AD w w'):=by
 induction dex using Nat.strongRecOn generalizing w ve ex
 rename_i dex ih
 refine Au [.agg #[zI ex.kind,zI ex.num,zI ex.pick,zI ex.count,ve]] 20 Tryz.func236 Z Z sM ?_
 have ab:AD w w:=AD.refl w
 have aw:=hex.rn.lenle
 unfold maxLen at aw
 have hsk:=C0 ex
 have hdk:=E9 ex
 refine fC [3,0] Z (Bv (cs:=#[zI ex.kind,zI ex.num,zI ex.pick,zI ex.count,ve]) Z Aa fun w1 a2 aj a3=>?_)
 have a4:=a2.size
 have ac:=ab.trans a2
 replace a3:BX w1.heap w.heap.size [zI ex.kind,zI ex.num,zI ex.pick,zI ex.count,ve]:=a3
 refine Ac 1 Z<|fE Z<|A0<|fC [0,2,0,0] Z<|Al (p:=zP w.heap.size) 4 AY Z Z Aa<|Ag (p:=Ap (zP w.heap.size) 4) (.inr Z) ve B7 Z (a3.ldp (i:=4) sM) Aa<|AS (v:=ve) Cc Z hex.rn.isSl Aa<|Ac 1 Z<|A3 ?_
 refine AW (S:=Nat×Nat) (fun⟨k,sz⟩=>([(3,zI (sz:Int)),(9,zI (k:Int)),(7,ve),(8,zI (ex.kids.length:Int))])) (fun⟨k,sz⟩ W=>AD w W∧k≤ex.kids.length∧sz=Ex.deeps (ex.kids.take k)) (fun⟨k,sz⟩=>ex.kids.length-k) (0,0) ⟨rfl,rfl,rfl,rfl,trivial⟩ ⟨ac,sD,(by rw[List.take_zero,N0])⟩ ?_
 clear ab aj a2 a4 ac
 rintro⟨k,sz⟩ ρ2 w2 ⟨a1,ad,hsz⟩
 have ak:w.heap.size≤w2.heap.size:=a1.size
 refine fC [0] Z ?_
 by_cases ae:(k:Int)<(ex.kids.length:Int)
 ·refine AJ true Z Z (A5 ae) Aa<|Ai<|A0<|Af Z<|A2<|A0<|A3<|fC [0,2,3,4] Z ?_
  have hst:=E3 (l:=ex.kids) (k:=k) oM
  have hle:=Dz ex.kids (k+1)
  have hdt:=He (l:=ex.kids) (k:=k) oM
  have hda:=ED<|ex.kids.getD k Ex.zero
  refine AE (v:=ve) k Cc B3 Z Z hex.rn.isSl Z sD Aa ?_
  obtain⟨cs4,al,am⟩:=hex.rn.get (Ay dex) Ex.zero (k:=k) sD
  obtain⟨dd4,a0,ar,rfl,a5⟩:=RX.of al
  have a6:=a5.rn.lenle
  unfold maxLen at a6
  refine AF (p:=AA ve k 5) (.inr Z) [zI<|(ex.kids.getD k Ex.zero).kind,zI<|(ex.kids.getD k Ex.zero).num,zI<|(ex.kids.getD k Ex.zero).pick,zI<|(ex.kids.getD k Ex.zero).count,a0] AX Z (fun ax a7=>am ax<|Ax.of_ext []<|a1.trans a7) Z Aa (AU (z:=.agg #[zI 0,zI 0,zI 0,zI 0,zN]) Ec Aa fun w5 af au a8=>?_)
  have an:=af.size
  have ag:=a1.trans af
  replace a8:BX w5.heap w2.heap.size [zI 0,zI 0,zI 0,zI 0,zN]:=a8
  refine B2 (vs:=[zI<|(ex.kids.getD k Ex.zero).kind,zI<|(ex.kids.getD k Ex.zero).num,zI<|(ex.kids.getD k Ex.zero).pick,zI<|(ex.kids.getD k Ex.zero).count,a0]) AX Z Z a5.ones a8 Z Z Aa fun w6 ah av a9=>?_
  replace a9:BX w6.heap w2.heap.size [zI ((ex.kids.getD k Ex.zero).kind),zI ((ex.kids.getD k Ex.zero).num),zI ((ex.kids.getD k Ex.zero).pick),zI ((ex.kids.getD k Ex.zero).count),a0]:=a9
  have ai:AD w w6:=ah.below ag (fun _ h=>zE h) ag.size
  have ao:=ah.size
  refine Ai<|Ab _ [0,2,3,0,0] Z<|Ad 1 Z<|AF (p:=zP w2.heap.size) (.inr Z) [zI<|(ex.kids.getD k Ex.zero).kind,zI<|(ex.kids.getD k Ex.zero).num,zI<|(ex.kids.getD k Ex.zero).pick,zI<|(ex.kids.getD k Ex.zero).count,a0] AX Z (fun ax a7=>LD.of_box<|BX.ext (w:=w6) a9 a7) Z Aa<|At 236 [] [] [.agg #[zI<|(ex.kids.getD k Ex.zero).kind,zI<|(ex.kids.getD k Ex.zero).num,zI<|(ex.kids.getD k Ex.zero).pick,zI<|(ex.kids.getD k Ex.zero).count,a0]] Z Z Y7 Aa (ih dd4 oM _ a0 (ex.kids.getD k Ex.zero) (a5.ext ai) oM) ?_
  rintro e7 w7 ⟨rfl,aa⟩
  refine⟨_,rfl,aa,?_⟩
  have ap:=aa.size
  have aq:=ai.trans aa
  refine ZK ((max sz ((ex.kids.getD k Ex.zero).deep):Nat):Int) oM Z Z Aa<|Ac 1 Z<|Ab _ [0,0] Z<|AR ((k+1:Nat):Int) Z Z (Bl oM sD) Aa<|Ac 1 Z ?_
  exact⟨(k+1,max sz ((ex.kids.getD k Ex.zero).deep)),_,rfl,zR,⟨aq,sD,oM⟩,zD⟩
 refine AJ false Z Z (A6 ae) Aa<|Ai<|A0<|Aj Z<|A4<|Az<|Az<|Aw<|fC [0,0,0] Z ?_
 have h8:=Kd (l:=ex.kids) (k:=k) oM
 have h9:=ED ex
 exact Ad 1 Z<|AR ((sz+1:Nat):Int) Z Z (Bl oM oM) Aa<|Ac 1 Z<|A1<|Ah [2] Z (zI ((sz+1:Nat):Int)) Z ⟨Bf (by rw[hsz,Kd oM,hdk]),a1⟩
theorem Yg {b:Bool}(h:(!b)=false):b=true:=by cases b <;> simp_all
theorem cZ {b:Bool}(h:(!b)=true):b=false:=by cases b <;> simp_all
theorem Zy {p:List Fn}{funcs vars:Int}{e:Ex}{b:Bool}(h:e.kids.length=0∨b=false)(hb:Hf p funcs vars e=b):Ending.returned (.bool b)=.returned (.bool (wf p funcs e vars)):=by
  rcases h with h|h
  · rw[NC h,hb]
  · subst h;rw[← SQ hb]
theorem Ce {p:Prop}(h:p:=by first|exact AP (ND hwn fun j hj=>hall j oM)|exact AP (SR (k:=k) oM (by first|(rw[if_pos oM])|(rw[if_neg oM])) (cZ ‹_›))|exact Zy (by first|exact .inr Z|(left;omega)|(left;simp_all <;> omega)) (by(have hp9:=hpl.symm;clear hpl;unfold Hf Ey;first|(simp[*];done)|(simp[*];omega)|(simp[*] <;> intros <;> omega)|(simp_all <;> omega)))):p:=h
theorem Ji {p:Prop}(h:p:=by(have hp9:=hpl.symm;clear hpl;unfold Hf Ey;first|(simp[*];done)|(simp[*];omega)|(simp[*] <;> intros <;> omega)|(simp_all <;> omega))):p:=h
theorem Q4 {p:Prop}(h:p:=by intro j hj;by_cases e9:j=k;(rw[e9];first|(rw[if_pos oM];exact Yg ‹_›)|(rw[if_neg oM];exact Yg ‹_›));exact hall j oM):p:=h
theorem US {p:Prop}(h:p:=by unfold E4;first|(simp[*];done)|(simp[*];intros;omega)|(simp[*];omega)):p:=h
theorem Jj {p:Prop}(h:p:=by first|exact(A5 oM).symm|exact decide_eq_decide.2 oM):p:=h
theorem H3 (w:World)(dp:Nat)(vp:Value)(p:List Fn)(funcs:Int)(dex:Nat)(ve:Value)(ex:Ex)(vars:Int)(hp:RP [] dp w.heap vp p)(_hfuncs:BG funcs)(hex:RX [] dex w.heap ve ex)(_hvars:BG vars)(hs:0≤vars∧vars+(ex.deep:Int)≤2000000000)(hf:0≤funcs∧funcs≤(p.length:Int)) :
  Calls Tryz.prog 237 #[(.agg #[vp,(zI funcs)]),(.agg #[(zI ex.kind),(zI ex.num),(zI ex.pick),(zI ex.count),ve]),zI vars] w (fun e w'=>e=.returned (.bool (wf p funcs ex vars))∧AD w w'):=by
 induction dex using Nat.strongRecOn generalizing w dp vp p funcs ve ex vars
 rename_i dex ih
 refine Au [.agg #[vp,zI funcs],.agg #[zI ex.kind,zI ex.num,zI ex.pick,zI ex.count,ve],zI vars] 177 Tryz.func237 Z Z sM ?_
 have d2:AD w w:=AD.refl w
 have ec:=hp.lenle
 unfold maxLen at ec
 have ed:=hex.rn.lenle
 unfold maxLen at ed
 have hdk:=E9 ex
 refine fC [3,3,0] Z (Bv (cs:=#[vp,zI funcs]) Z Aa fun w1 cq df co=>?_)
 have cr:=cq.size
 have d3:=d2.trans cq
 replace co:BX w1.heap w.heap.size [vp,zI funcs]:=co
 have e5:=co.lt
 refine Bv (cs:=#[zI ex.kind,zI ex.num,zI ex.pick,zI ex.count,ve]) Z Aa fun w2 cp dg bc=>?_
 have ct:=cp.size
 have cu:=d3.trans cp
 have bb:=co.ext cp
 replace bc:BX w2.heap w1.heap.size [zI ex.kind,zI ex.num,zI ex.pick,zI ex.count,ve]:=bc
 refine Ac 1 Z<|fC [0,2,0,0] Z<|Al (p:=zP w1.heap.size) 4 AY Z Z Aa<|Ag (p:=Ap (zP w1.heap.size) 4) (.inr Z) ve B7 Z (bc.ldp (i:=4) sM) Aa<|AS (v:=ve) Cc Z hex.rn.isSl Aa<|Ac 1 Z<|A0<|KG (S:=Bool) (fun(pl:Bool)=>([(8,.bool pl),(2,zI vars),(3,zP w.heap.size),(4,zP w1.heap.size),(7,zI (ex.kids.length:Int))])) (fun(pl:Bool) (W:World)=>AD w W∧BX W.heap w.heap.size [vp,zI funcs]∧BX W.heap w1.heap.size [zI ex.kind,zI ex.num,zI ex.pick,zI ex.count,ve]∧pl=E4 ex) ?_ ?_
 ·refine Ab _ [0,2,0,0,0,2,0,0,0] Z<|Al (p:=zP w1.heap.size) 2 CN Z Z Aa<|Ag (p:=Ap (zP w1.heap.size) 2) (.inr Z) (zI ex.pick) AI Z (bc.ldp (i:=2) sM) Aa ?_
  by_cases d4:ex.pick=((0:Nat):Int)
  ·exact As true Z Z (A5 d4) Aa<|Ad 1 Z<|Al (p:=zP w1.heap.size) 3 CV Z Z (Ae (e:=19) Z Z Z)<|Ag (p:=Ap (zP w1.heap.size) 3) (.inr Z) (zI ex.count) AI Z (bc.ldp (i:=3) sM) (Ae (e:=19) Z Z Z)<|As (decide (ex.count=((0:Nat):Int))) Z Z Z (Ae (e:=19) Z Z Z)<|Ac 2 Z ⟨decide (ex.count=((0:Nat):Int)),_,rfl,zR,⟨cu,bb,bc,US⟩⟩
  exact As false Z Z (A6 d4) Aa<|Ac 6 Z ⟨false,_,rfl,zR,⟨cu,bb,bc,US⟩⟩
 clear d2 df cq cr d3 dg cp ct cu
 rintro pl ρ4 w4 ⟨ag,a4,a1,hpl⟩
 have bf:w.heap.size≤w4.heap.size:=ag.size
 have e6:=a4.lt
 have e7:=a1.lt
 refine A0<|KG (S:=Unit) (fun(u:Unit)=>([(2,zI vars),(3,zP w.heap.size),(4,zP w1.heap.size)])) (fun(u:Unit) (W:World)=>AD w W∧BX W.heap w.heap.size [vp,zI funcs]∧BX W.heap w1.heap.size [zI ex.kind,zI ex.num,zI ex.pick,zI ex.count,ve]∧Hf p funcs vars ex=true) ?_ ?_
 ·refine fC [0,2] Z<|Al (p:=zP w1.heap.size) 0 Bn Z Z Aa<|Ag (p:=Ap (zP w1.heap.size) 0) (.inr Z) (zI ex.kind) AI Z (a1.ldp (i:=0) sM) Aa<|Ai<|A3<|fC [0,0] Z ?_
  by_cases d5:ex.kind=((1:Nat):Int)
  ·refine As true Z Z (A5 d5) Aa<|Ac 1 Z<|Af Z<|fC [0,0,0,0,0,0,0,2,0,0,0] Z<|Ad 2 Z ?_
   cases dh:pl
   ·exact Ac 9 Z<|A1<|AL<|Ao<|Ah [6] Z (.bool false) Z ⟨Ce,ag⟩
   refine Ad 1 Z ?_
   by_cases bg:(ex.kids.length:Int)=((0:Nat):Int)
   ·refine As true Z Z (A5 bg) (Ae (e:=29) Z Z Z)<|Ad 2 Z<|Al (p:=zP w1.heap.size) 1 BL Z Z (Ae (e:=33) Z Z Z)<|Ag (p:=Ap (zP w1.heap.size) 1) (.inr Z) (zI ex.num) AI Z (a1.ldp (i:=1) sM) (Ae (e:=33) Z Z Z)<|AG 170 [] [] [zI ex.num] Z Z UC (Ae (e:=33) Z Z Z) (.bool<|IS ex.num) (fun wq=>Fm wq _ hex.rng.num)<|Ac 2 Z<|A1<|AL<|Ao ?_
    exact Ah [6] Z (.bool<|IS ex.num) Z ⟨Ce,ag⟩
   exact As false Z Z (A6 bg) (Ae (e:=29) Z Z Z)<|Ac 7 Z<|A1<|AL<|Ao<|Ah [6] Z (.bool false) Z ⟨Ce,ag⟩
  refine As false Z Z (A6 d5) Aa<|Ac 1 Z<|Aj Z<|fC [0,0] Z ?_
  by_cases bh:ex.kind=((2:Nat):Int)
  ·refine As true Z Z (A5 bh) Aa<|Ac 1 Z<|Af Z<|fC [0,0,0,0,0,0,0,2,0,0,0,0,0] Z<|Ad 2 Z ?_
   cases di:pl
   ·exact Ac 11 Z<|A1<|AL<|Ao<|Ah [6] Z (.bool false) Z ⟨Ce,ag⟩
   refine Ad 1 Z ?_
   by_cases bi:(ex.kids.length:Int)=((0:Nat):Int)
   ·refine As true Z Z (A5 bi) (Ae (e:=41) Z Z Z)<|Ad 2 Z<|Al (p:=zP w1.heap.size) 1 BL Z Z (Ae (e:=45) Z Z Z)<|Ag (p:=Ap (zP w1.heap.size) 1) (.inr Z) (zI ex.num) AI Z (a1.ldp (i:=1) sM) (Ae (e:=45) Z Z Z)<|Ad 1 Z<|BJ (vars-1) Z Z (DH oM oM) (Ae (e:=45) Z Z Z)<|AG 117 [] [] [zI ex.num,zI ((0:Nat):Int),zI (vars-1)] Z Z D2 (Ae (e:=45) Z Z Z) (.bool (decide (((0:Nat):Int)≤ex.num) && decide (ex.num≤(vars-1)))) (fun wq=>B4 wq _ _ _ hex.rng.num oM oM)<|Ac 2 Z<|A1<|AL ?_
    exact Ao<|Ah [6] Z (.bool (decide (((0:Nat):Int)≤ex.num) && decide (ex.num≤(vars-1)))) Z ⟨Ce,ag⟩
   exact As false Z Z (A6 bi) (Ae (e:=41) Z Z Z)<|Ac 9 Z<|A1<|AL<|Ao<|Ah [6] Z (.bool false) Z ⟨Ce,ag⟩
  refine As false Z Z (A6 bh) Aa<|Ac 1 Z<|Aj Z<|A0<|KG (S:=Bool) (fun(b5:Bool)=>([(52,.bool b5),(2,zI vars),(3,zP w.heap.size),(4,zP w1.heap.size),(7,zI (ex.kids.length:Int)),(8,.bool pl),(25,zI ex.kind)])) (fun(b5:Bool) (W:World)=>AD w W∧BX W.heap w.heap.size [vp,zI funcs]∧BX W.heap w1.heap.size [zI ex.kind,zI ex.num,zI ex.pick,zI ex.count,ve]∧b5=decide (ex.kind=3∨ex.kind=4∨ex.kind=5∨ex.kind=6∨ex.kind=9)) ?_ ?_
  ·refine fC [0,0] Z ?_
   by_cases bj:ex.kind=((3:Nat):Int)
   ·exact As true Z Z (A5 bj) Aa<|Ac 1 Z<|Af Z<|A2 ⟨true,_,rfl,zR,⟨ag,a4,a1,Jj⟩⟩
   refine As false Z Z (A6 bj) Aa<|Ac 1 Z<|Aj Z<|fC [0,0] Z ?_
   by_cases bk:ex.kind=((4:Nat):Int)
   ·exact As true Z Z (A5 bk) Aa<|Ac 1 Z<|Af Z<|A2 ⟨true,_,rfl,zR,⟨ag,a4,a1,Jj⟩⟩
   refine As false Z Z (A6 bk) Aa<|Ac 1 Z<|Aj Z<|fC [0,0] Z ?_
   by_cases bl:ex.kind=((5:Nat):Int)
   ·exact As true Z Z (A5 bl) Aa<|Ac 1 Z<|Af Z<|A2 ⟨true,_,rfl,zR,⟨ag,a4,a1,Jj⟩⟩
   refine As false Z Z (A6 bl) Aa<|Ac 1 Z<|Aj Z<|fC [0,0] Z ?_
   by_cases bm:ex.kind=((6:Nat):Int)
   ·exact As true Z Z (A5 bm) Aa<|Ac 1 Z<|Af Z<|A2 ⟨true,_,rfl,zR,⟨ag,a4,a1,Jj⟩⟩
   exact As false Z Z (A6 bm) Aa<|Ac 1 Z<|Aj Z<|Ab _ [0,0] Z<|As (decide (ex.kind=((9:Nat):Int))) Z Z Z Aa<|Ac 1 Z ⟨decide (ex.kind=((9:Nat):Int)),_,rfl,zR,⟨ag,a4,a1,Jj⟩⟩
  clear a1 a4 ag bf
  rintro b5 ρ17 ef ⟨a2,a3,a0,h5b⟩
  have bn:w.heap.size≤ef.heap.size:=a2.size
  have dj:=a3.lt
  have dk:=a0.lt
  cases bo:b5
  ·refine Aj (by first|rfl|exact zW bo)<|fC [0,0] Z ?_
   have h5n:=of_decide_eq_false (h5b.symm.trans ‹_›)
   clear h5b
   by_cases bp:ex.kind=((7:Nat):Int)
   ·refine As true Z Z (A5 bp) Aa<|Ac 1 Z<|Af Z<|fC [0,0,0,0,2,0,0,0,0,0,0] Z<|Ad 1 Z<|Bq (!pl) Z Z Aa<|Ad 1 Z ?_
    cases dl:(!pl)
    ·refine Al (p:=zP w1.heap.size) 1 BL Z Z (Ae (e:=73) Z Z Z)<|Ag (p:=Ap (zP w1.heap.size) 1) (.inr Z) (zI ex.num) AI Z (a0.ldp (i:=1) sM) (Ae (e:=73) Z Z Z) ?_
     by_cases bq:ex.num≠((0:Nat):Int)
     ·exact AT true Z Z (A5 bq) (Ae (e:=73) Z Z Z)<|Ac 5 Z<|Af Z<|fE Z<|A1<|AL<|Ao<|Ah [6] Z (.bool false) Z ⟨Ce,a2⟩
     refine AT false Z Z (A6 bq) (Ae (e:=73) Z Z Z)<|Ad 3 Z ?_
     by_cases br:(ex.kids.length:Int)≠((1:Nat):Int)
     ·exact AT true Z Z (A5 br) (Ae (e:=78) Z Z Z)<|Ac 1 Z<|Af Z<|fE Z<|A1<|AL<|Ao<|Ah [6] Z (.bool false) Z ⟨Ce,a2⟩
     exact AT false Z Z (A6 br) (Ae (e:=78) Z Z Z)<|Ac 1 Z<|Aj Z<|A2 ⟨(),_,rfl,zR,⟨a2,a3,a0,Ji⟩⟩
    exact Ac 8 Z<|Af Z<|fE Z<|A1<|AL<|Ao<|Ah [6] Z (.bool false) Z ⟨Ce,a2⟩
   refine As false Z Z (A6 bp) Aa<|Ac 1 Z<|Aj Z<|fC [0,0] Z ?_
   by_cases bs:ex.kind=((8:Nat):Int)
   ·refine As true Z Z (A5 bs) Aa<|Ac 1 Z<|Af Z<|fC [0,0,0,0,2,0,0,0,0,0,0] Z<|Ad 1 Z<|Bq (!pl) Z Z Aa<|Ad 1 Z ?_
    cases dm:(!pl)
    ·refine Al (p:=zP w1.heap.size) 1 BL Z Z (Ae (e:=86) Z Z Z)<|Ag (p:=Ap (zP w1.heap.size) 1) (.inr Z) (zI ex.num) AI Z (a0.ldp (i:=1) sM) (Ae (e:=86) Z Z Z) ?_
     by_cases bt:ex.num≠((0:Nat):Int)
     ·exact AT true Z Z (A5 bt) (Ae (e:=86) Z Z Z)<|Ac 5 Z<|Af Z<|fE Z<|A1<|AL<|Ao<|Ah [6] Z (.bool false) Z ⟨Ce,a2⟩
     refine AT false Z Z (A6 bt) (Ae (e:=86) Z Z Z)<|Ad 3 Z ?_
     by_cases bu:(ex.kids.length:Int)≠((3:Nat):Int)
     ·exact AT true Z Z (A5 bu) (Ae (e:=91) Z Z Z)<|Ac 1 Z<|Af Z<|fE Z<|A1<|AL<|Ao<|Ah [6] Z (.bool false) Z ⟨Ce,a2⟩
     exact AT false Z Z (A6 bu) (Ae (e:=91) Z Z Z)<|Ac 1 Z<|Aj Z<|A2 ⟨(),_,rfl,zR,⟨a2,a3,a0,Ji⟩⟩
    exact Ac 8 Z<|Af Z<|fE Z<|A1<|AL<|Ao<|Ah [6] Z (.bool false) Z ⟨Ce,a2⟩
   refine As false Z Z (A6 bs) Aa<|Ac 1 Z<|Aj Z<|A0<|KG (S:=Bool) (fun(b10:Bool)=>([(95,.bool b10),(2,zI vars),(3,zP w.heap.size),(4,zP w1.heap.size),(7,zI (ex.kids.length:Int))])) (fun(b10:Bool) (W:World)=>AD w W∧BX W.heap w.heap.size [vp,zI funcs]∧BX W.heap w1.heap.size [zI ex.kind,zI ex.num,zI ex.pick,zI ex.count,ve]∧b10=decide (ex.kind=10∨ex.kind=11)) ?_ ?_
   ·refine fC [0,0] Z ?_
    by_cases bv:ex.kind=((10:Nat):Int)
    ·exact As true Z Z (A5 bv) Aa<|Ac 1 Z<|Af Z<|A2 ⟨true,_,rfl,zR,⟨a2,a3,a0,Jj⟩⟩
    exact As false Z Z (A6 bv) Aa<|Ac 1 Z<|Aj Z<|Ab _ [0,0] Z<|As (decide (ex.kind=((11:Nat):Int))) Z Z Z Aa<|Ac 1 Z ⟨decide (ex.kind=((11:Nat):Int)),_,rfl,zR,⟨a2,a3,a0,Jj⟩⟩
   clear a0 a3 a2 bn
   rintro b10 ρ33 e8 ⟨an,a6,a7,h10b⟩
   have d6:w.heap.size≤e8.heap.size:=an.size
   have dn:=a6.lt
   have dq:=a7.lt
   cases bw:b10
   ·refine Aj (by first|rfl|exact zW bw)<|fC [0] Z ?_
    have h10n:=of_decide_eq_false (h10b.symm.trans ‹_›)
    clear h10b
    exact Ac 1 Z<|A1<|AL<|Ao<|Ah [6] Z (.bool false) Z ⟨Ce,an⟩
   refine Af (by first|rfl|exact zW bw)<|A0<|fC [0,2,0,2,0,0,0] Z ?_
   have h5k:=of_decide_eq_true (h10b.symm.trans ‹_›)
   clear h10b
   refine Al (p:=zP w1.heap.size) 1 BL Z Z Aa<|Ag (p:=Ap (zP w1.heap.size) 1) (.inr Z) (zI ex.num) AI Z (a7.ldp (i:=1) sM) Aa<|Al (p:=zP w.heap.size) 1 Xc Z Z Aa<|Ag (p:=Ap (zP w.heap.size) 1) (.inr Z) (zI funcs) AI Z (a6.ldp (i:=1) sM) Aa<|BJ (funcs-1) Z Z (DH oM oM) Aa<|AG 117 [] [] [zI ex.num,zI ((0:Nat):Int),zI (funcs-1)] Z Z D2 Aa (.bool (decide (((0:Nat):Int)≤ex.num) && decide (ex.num≤(funcs-1)))) (fun wq=>B4 wq _ _ _ hex.rng.num oM oM) ?_
   refine Bq (!(decide (((0:Nat):Int)≤ex.num) && decide (ex.num≤(funcs-1)))) Z Z Aa<|Ai ?_
   cases bx:(!(decide (((0:Nat):Int)≤ex.num) && decide (ex.num≤(funcs-1))))
   ·refine Aj (by first|rfl|exact zW bx)<|A2<|fC [0,0,2,0,2,0,2,3,4] Z ?_
    have hnr:0≤ex.num∧ex.num≤funcs-1:=by have h9:=‹(!(decide (((0:Nat):Int)≤ex.num) && decide (ex.num≤funcs-1)))=false›;simpa using h9
    refine Al (p:=zP w.heap.size) 0 Xb Z Z Aa<|Al (p:=Ap (zP w.heap.size) 0) (b:=w.heap.size) (o:=0) 0 B8 Z Z Aa<|Ag (p:=Ap (Ap (zP w.heap.size) 0) 0) (.inr Z) vp Bt Z (a6.ldp (i:=0) sM) Aa<|Al (p:=zP w1.heap.size) 1 BL Z Z Aa<|Ag (p:=Ap (zP w1.heap.size) 1) (.inr Z) (zI ex.num) AI Z (a7.ldp (i:=1) sM) Aa ?_
    refine AE (v:=vp) ((ex.num).toNat) Du BD Z Z hp.isSl oM sD Aa ?_
    obtain⟨cs40,cv,cw⟩:=hp.get (Av dp) Fn.zero (k:=(ex.num).toNat) sD
    obtain⟨aa,rfl,ao⟩:=RF.of cv
    have bz:=ao.rn.lenle
    unfold maxLen at bz
    refine AF (p:=AA vp ((ex.num).toNat) 3) (.inr Z) [.string<|(p.getD ((ex.num).toNat) Fn.zero).name,zI<|(p.getD ((ex.num).toNat) Fn.zero).params,aa] DS Z (fun e9 ad=>cw e9<|Ax.of_ext []<|an.trans ad) Z Aa ?_
    have dr:=a6.lt
    have ds:=a7.lt
    refine AU (z:=.agg #[.string ByteArray.empty,zI 0,zN]) MK Aa fun eg ax dt bd=>?_
    have d7:=ax.size
    have c0:=an.trans ax
    have ai:=a6.ext ax
    have aj:=a7.ext ax
    replace bd:BX eg.heap e8.heap.size [.string ByteArray.empty,zI 0,zN]:=bd
    refine B2 (vs:=[.string<|(p.getD ((ex.num).toNat) Fn.zero).name,zI<|(p.getD ((ex.num).toNat) Fn.zero).params,aa]) DS Z Z ao.ones bd Z Z Aa fun ee ay du ac=>?_
    replace ac:BX ee.heap e8.heap.size [.string ((p.getD ((ex.num).toNat) Fn.zero).name),zI ((p.getD ((ex.num).toNat) Fn.zero).params),aa]:=ac
    have a8:AD w ee:=ay.below c0 (fun _ h=>zE h) c0.size
    have d8:=ay.size
    have az:=ai.chg ay (zB ·)
    have a9:=aj.chg ay (zB ·)
    refine Ai<|A0<|fC [0,0,2,0,0,0,2,0,2,0,0,0,0,0] Z<|Ad 1 Z<|Al (p:=zP e8.heap.size) 1 BI Z Z Aa<|Ag (p:=Ap (zP e8.heap.size) 1) (.inr Z) (zI<|(p.getD ((ex.num).toNat) Fn.zero).params) AI Z (ac.ldp (i:=1) sM) Aa ?_
    by_cases c1:(ex.kids.length:Int)≠(p.getD ((ex.num).toNat) Fn.zero).params
    ·exact AT true Z Z (A5 c1) Aa<|Ac 10 Z<|Af Z<|fE Z<|A1<|Ao<|AL<|Ao<|Ah [6] Z (.bool false) Z ⟨Ce,a8⟩
    refine AT false Z Z (A6 c1) Aa<|Ad 1 Z<|Al (p:=zP w1.heap.size) 2 CN Z Z (Ae (e:=116) Z Z Z)<|Ag (p:=Ap (zP w1.heap.size) 2) (.inr Z) (zI ex.pick) AI Z (a9.ldp (i:=2) sM) (Ae (e:=116) Z Z Z)<|Al (p:=zP e8.heap.size) 2 Br Z Z (Ae (e:=116) Z Z Z)<|Ag (p:=Ap (zP e8.heap.size) 2) (.inr Z) aa B7 Z (ac.ldp (i:=2) sM) (Ae (e:=116) Z Z Z)<|AS (v:=aa) Cc Z ao.rn.isSl (Ae (e:=116) Z Z Z) ?_
    refine BJ (((p.getD (ex.num).toNat Fn.zero).outs.length:Int)-1) Z Z (DH oM oM) (Ae (e:=116) Z Z Z)<|AG 117 [] [] [zI ex.pick,zI ((0:Nat):Int),zI (((p.getD (ex.num).toNat Fn.zero).outs.length:Int)-1)] Z Z D2 (Ae (e:=116) Z Z Z) (.bool (decide (((0:Nat):Int)≤ex.pick) && decide (ex.pick≤(((p.getD (ex.num).toNat Fn.zero).outs.length:Int)-1)))) (fun wq=>B4 wq _ _ _ hex.rng.pick oM oM)<|Bq (!(decide (((0:Nat):Int)≤ex.pick) && decide (ex.pick≤(((p.getD (ex.num).toNat Fn.zero).outs.length:Int)-1)))) Z Z (Ae (e:=116) Z Z Z)<|Ac 1 Z ?_
    cases c2:(!(decide (((0:Nat):Int)≤ex.pick) && decide (ex.pick≤(((p.getD (ex.num).toNat Fn.zero).outs.length:Int)-1))))
    ·refine Aj (by first|rfl|exact zW c2)<|A2<|fC [0,2,0,0,0,2,0,0,0,0,2,0,0,0,2,0,0,2,0,0,0,2,0,0,0,0,0] Z<|Al (p:=zP w1.heap.size) 0 Bn Z Z Aa<|Ag (p:=Ap (zP w1.heap.size) 0) (.inr Z) (zI ex.kind) AI Z (a9.ldp (i:=0) sM) Aa ?_
     by_cases c3:ex.kind=((10:Nat):Int)
     ·refine As true Z Z (A5 c3) Aa<|Ad 1 Z<|Al (p:=zP w1.heap.size) 3 CV Z Z (Ae (e:=129) Z Z Z)<|Ag (p:=Ap (zP w1.heap.size) 3) (.inr Z) (zI ex.count) AI Z (a9.ldp (i:=3) sM) (Ae (e:=129) Z Z Z) ?_
      by_cases c4:ex.count≠((0:Nat):Int)
      ·exact AT true Z Z (A5 c4) (Ae (e:=129) Z Z Z)<|Ac 20 Z<|Af Z<|fE Z<|A1<|AL<|Ao<|Ah [6] Z (.bool false) Z ⟨Ce,a8⟩
      refine AT false Z Z (A6 c4) (Ae (e:=129) Z Z Z)<|Ad 2 Z<|Al (p:=zP w1.heap.size) 0 Bn Z Z (Ae (e:=134) Z Z Z)<|Ag (p:=Ap (zP w1.heap.size) 0) (.inr Z) (zI ex.kind) AI Z (a9.ldp (i:=0) sM) (Ae (e:=134) Z Z Z) ?_
      by_cases c5:ex.kind=((11:Nat):Int)
      ·refine As true Z Z (A5 c5) (Ae (e:=134) Z Z Z)<|Ad 1 Z<|Al (p:=zP e8.heap.size) 2 Br Z Z (Ae (e:=138) Z Z Z)<|Ag (p:=Ap (zP e8.heap.size) 2) (.inr Z) aa B7 Z (ac.ldp (i:=2) sM) (Ae (e:=138) Z Z Z)<|AS (v:=aa) Cc Z ao.rn.isSl (Ae (e:=138) Z Z Z)<|Al (p:=zP e8.heap.size) 1 BI Z Z (Ae (e:=138) Z Z Z)<|Ag (p:=Ap (zP e8.heap.size) 1) (.inr Z) (zI<|(p.getD ((ex.num).toNat) Fn.zero).params) AI Z (ac.ldp (i:=1) sM) (Ae (e:=138) Z Z Z) ?_
       by_cases c6:((((p.getD ((ex.num).toNat) Fn.zero).outs).length:Nat):Int)≠(p.getD ((ex.num).toNat) Fn.zero).params
       ·exact AT true Z Z (A5 c6) (Ae (e:=138) Z Z Z)<|Ac 8 Z<|Af Z<|fE Z<|A1<|AL<|Ao<|Ah [6] Z (.bool false) Z ⟨Ce,a8⟩
       refine AT false Z Z (A6 c6) (Ae (e:=138) Z Z Z)<|Ad 1 Z<|Al (p:=zP w1.heap.size) 3 CV Z Z (Ae (e:=145) Z Z Z)<|Ag (p:=Ap (zP w1.heap.size) 3) (.inr Z) (zI ex.count) AI Z (a9.ldp (i:=3) sM) (Ae (e:=145) Z Z Z)<|AG 117 [] [] [zI ex.count,zI ((0:Nat):Int),zI ((8:Nat):Int)] Z Z D2 (Ae (e:=145) Z Z Z) (.bool (decide (((0:Nat):Int)≤ex.count) && decide (ex.count≤((8:Nat):Int)))) (fun wq=>B4 wq _ _ _ hex.rng.count oM oM)<|Bq (!(decide (((0:Nat):Int)≤ex.count) && decide (ex.count≤((8:Nat):Int)))) Z Z (Ae (e:=145) Z Z Z) ?_
       refine Ac 3 Z ?_
       cases c7:(!(decide (((0:Nat):Int)≤ex.count) && decide (ex.count≤((8:Nat):Int))))
       ·exact Aj (by first|rfl|exact zW c7)<|A2 ⟨(),_,rfl,zR,⟨a8,az,a9,Ji⟩⟩
       exact Af (by first|rfl|exact zW c7)<|fE Z<|A1<|AL<|Ao<|Ah [6] Z (.bool false) Z ⟨Ce,a8⟩
      exact As false Z Z (A6 c5) (Ae (e:=134) Z Z Z)<|Ac 15 Z<|Aj Z<|A2 ⟨(),_,rfl,zR,⟨a8,az,a9,Ji⟩⟩
     refine As false Z Z (A6 c3) Aa<|Ad 6 Z<|Al (p:=zP w1.heap.size) 0 Bn Z Z (Ae (e:=134) Z Z Z)<|Ag (p:=Ap (zP w1.heap.size) 0) (.inr Z) (zI ex.kind) AI Z (a9.ldp (i:=0) sM) (Ae (e:=134) Z Z Z) ?_
     by_cases c8:ex.kind=((11:Nat):Int)
     ·refine As true Z Z (A5 c8) (Ae (e:=134) Z Z Z)<|Ad 1 Z<|Al (p:=zP e8.heap.size) 2 Br Z Z (Ae (e:=138) Z Z Z)<|Ag (p:=Ap (zP e8.heap.size) 2) (.inr Z) aa B7 Z (ac.ldp (i:=2) sM) (Ae (e:=138) Z Z Z)<|AS (v:=aa) Cc Z ao.rn.isSl (Ae (e:=138) Z Z Z)<|Al (p:=zP e8.heap.size) 1 BI Z Z (Ae (e:=138) Z Z Z)<|Ag (p:=Ap (zP e8.heap.size) 1) (.inr Z) (zI<|(p.getD ((ex.num).toNat) Fn.zero).params) AI Z (ac.ldp (i:=1) sM) (Ae (e:=138) Z Z Z) ?_
      by_cases c9:((((p.getD ((ex.num).toNat) Fn.zero).outs).length:Nat):Int)≠(p.getD ((ex.num).toNat) Fn.zero).params
      ·exact AT true Z Z (A5 c9) (Ae (e:=138) Z Z Z)<|Ac 8 Z<|Af Z<|fE Z<|A1<|AL<|Ao<|Ah [6] Z (.bool false) Z ⟨Ce,a8⟩
      refine AT false Z Z (A6 c9) (Ae (e:=138) Z Z Z)<|Ad 1 Z<|Al (p:=zP w1.heap.size) 3 CV Z Z (Ae (e:=145) Z Z Z)<|Ag (p:=Ap (zP w1.heap.size) 3) (.inr Z) (zI ex.count) AI Z (a9.ldp (i:=3) sM) (Ae (e:=145) Z Z Z)<|AG 117 [] [] [zI ex.count,zI ((0:Nat):Int),zI ((8:Nat):Int)] Z Z D2 (Ae (e:=145) Z Z Z) (.bool (decide (((0:Nat):Int)≤ex.count) && decide (ex.count≤((8:Nat):Int)))) (fun wq=>B4 wq _ _ _ hex.rng.count oM oM)<|Bq (!(decide (((0:Nat):Int)≤ex.count) && decide (ex.count≤((8:Nat):Int)))) Z Z (Ae (e:=145) Z Z Z) ?_
      refine Ac 3 Z ?_
      cases ca:(!(decide (((0:Nat):Int)≤ex.count) && decide (ex.count≤((8:Nat):Int))))
      ·exact Aj (by first|rfl|exact zW ca)<|A2 ⟨(),_,rfl,zR,⟨a8,az,a9,Ji⟩⟩
      exact Af (by first|rfl|exact zW ca)<|fE Z<|A1<|AL<|Ao<|Ah [6] Z (.bool false) Z ⟨Ce,a8⟩
     exact As false Z Z (A6 c8) (Ae (e:=134) Z Z Z)<|Ac 15 Z<|Aj Z<|A2 ⟨(),_,rfl,zR,⟨a8,az,a9,Ji⟩⟩
    exact Af (by first|rfl|exact zW c2)<|fE Z<|A1<|Ao<|AL<|Ao<|Ah [6] Z (.bool false) Z ⟨Ce,a8⟩
   exact Af (by first|rfl|exact zW bx)<|fE Z<|A1<|Ao<|AL<|Ao<|Ah [6] Z (.bool false) Z ⟨Ce,an⟩
  refine Af (by first|rfl|exact zW bo)<|fC [0,0,0,0,2,0,0,0,0,0,0] Z ?_
  have h5k:=of_decide_eq_true (h5b.symm.trans ‹_›)
  clear h5b
  refine Ad 1 Z<|Bq (!pl) Z Z Aa<|Ad 1 Z ?_
  cases dv:(!pl)
  ·refine Al (p:=zP w1.heap.size) 1 BL Z Z (Ae (e:=60) Z Z Z)<|Ag (p:=Ap (zP w1.heap.size) 1) (.inr Z) (zI ex.num) AI Z (a0.ldp (i:=1) sM) (Ae (e:=60) Z Z Z) ?_
   by_cases cb:ex.num≠((0:Nat):Int)
   ·exact AT true Z Z (A5 cb) (Ae (e:=60) Z Z Z)<|Ac 5 Z<|Af Z<|fE Z<|A1<|AL<|Ao<|Ah [6] Z (.bool false) Z ⟨Ce,a2⟩
   refine AT false Z Z (A6 cb) (Ae (e:=60) Z Z Z)<|Ad 3 Z ?_
   by_cases cc:(ex.kids.length:Int)≠((2:Nat):Int)
   ·exact AT true Z Z (A5 cc) (Ae (e:=65) Z Z Z)<|Ac 1 Z<|Af Z<|fE Z<|A1<|AL<|Ao<|Ah [6] Z (.bool false) Z ⟨Ce,a2⟩
   exact AT false Z Z (A6 cc) (Ae (e:=65) Z Z Z)<|Ac 1 Z<|Aj Z<|A2 ⟨(),_,rfl,zR,⟨a2,a3,a0,Ji⟩⟩
  exact Ac 8 Z<|Af Z<|fE Z<|A1<|AL<|Ao<|Ah [6] Z (.bool false) Z ⟨Ce,a2⟩
 clear a1 a4 ag bf
 rintro u ρ8 w8 ⟨cx,ap,ah,hwn⟩
 have cy:w.heap.size≤w8.heap.size:=cx.size
 have dw:=ap.lt
 have dx:=ah.lt
 refine A0<|fC [0,2,0,0] Z<|Al (p:=zP w1.heap.size) 4 AY Z Z Aa<|Ag (p:=Ap (zP w1.heap.size) 4) (.inr Z) ve B7 Z (ah.ldp (i:=4) sM) Aa<|AS (v:=ve) Cc Z hex.rn.isSl Aa<|Ac 1 Z<|A3 ?_
 refine AW (S:=Nat) (fun k=>([(156,zI (k:Int)),(2,zI vars),(3,zP w.heap.size),(4,zP w1.heap.size),(154,ve),(155,zI (ex.kids.length:Int))])) (fun k W=>AD w W∧BX W.heap w.heap.size [vp,zI funcs]∧BX W.heap w1.heap.size [zI ex.kind,zI ex.num,zI ex.pick,zI ex.count,ve]∧k≤ex.kids.length∧(∀j,j<k→wf p funcs (ex.kids.getD j Ex.zero) (if ex.kind=9∧j=1 then vars+1 else vars)=true)) (fun k=>ex.kids.length-k) 0 ⟨rfl,rfl,rfl,rfl,rfl,rfl,trivial⟩ ⟨cx,ap,ah,sD,(by intro j hj;omega)⟩ ?_
 clear ah ap cx cy
 rintro k ρ65 eb ⟨b0,ae,af,cz,hall⟩
 have d9:w.heap.size≤eb.heap.size:=b0.size
 have dy:=ae.lt
 have dz:=af.lt
 refine fC [0] Z ?_
 by_cases cd:(k:Int)<(ex.kids.length:Int)
 ·refine AJ true Z Z (A5 cd) Aa<|Ai<|A0<|Af Z<|A2<|A0<|A3<|fC [0,0,2,3,0,4] Z ?_
  have hkd:=DB (l:=ex.kids) (k:=k) oM
  refine Ad 1 Z<|AE (v:=ve) k Cc B3 Z Z hex.rn.isSl Z sD Aa ?_
  obtain⟨cs69,d0,d1⟩:=hex.rn.get (Ay dex) Ex.zero (k:=k) sD
  obtain⟨dd69,a5,e0,rfl,aq⟩:=RX.of d0
  have ce:=aq.rn.lenle
  unfold maxLen at ce
  refine AF (p:=AA ve k 5) (.inr Z) [zI<|(ex.kids.getD k Ex.zero).kind,zI<|(ex.kids.getD k Ex.zero).num,zI<|(ex.kids.getD k Ex.zero).pick,zI<|(ex.kids.getD k Ex.zero).count,a5] AX Z (fun e9 ad=>d1 e9<|Ax.of_ext []<|b0.trans ad) Z Aa ?_
  have e1:=ae.lt
  have e2:=af.lt
  refine AU (z:=.agg #[zI 0,zI 0,zI 0,zI 0,zN]) Ec Aa fun eh b1 e3 be=>?_
  have da:=b1.size
  have cf:=b0.trans b1
  have ak:=ae.ext b1
  have al:=af.ext b1
  replace be:BX eh.heap eb.heap.size [zI 0,zI 0,zI 0,zI 0,zN]:=be
  refine Ad 1 Z (B2 (vs:=[zI<|(ex.kids.getD k Ex.zero).kind,zI<|(ex.kids.getD k Ex.zero).num,zI<|(ex.kids.getD k Ex.zero).pick,zI<|(ex.kids.getD k Ex.zero).count,a5]) AX Z Z aq.ones be Z Z Aa fun ea b2 e4 ar=>?_)
  replace ar:BX ea.heap eb.heap.size [zI ((ex.kids.getD k Ex.zero).kind),zI ((ex.kids.getD k Ex.zero).num),zI ((ex.kids.getD k Ex.zero).pick),zI ((ex.kids.getD k Ex.zero).count),a5]:=ar
  have ab:AD w ea:=b2.below cf (fun _ h=>zE h) cf.size
  have db:=b2.size
  have am:=ak.chg b2 (zB ·)
  have b3:=al.chg b2 (zB ·)
  refine Ai<|fC [0,0] Z<|Ac 2 Z<|A0<|fC [0,2,0,0,0,0,0] Z<|Al (p:=zP w1.heap.size) 0 Bn Z Z Aa<|Ag (p:=Ap (zP w1.heap.size) 0) (.inr Z) (zI ex.kind) AI Z (b3.ldp (i:=0) sM) Aa ?_
  by_cases cg:ex.kind=((9:Nat):Int)
  ·refine As true Z Z (A5 cg) Aa<|Ad 2 Z ?_
   by_cases ch:(k:Int)=((1:Nat):Int)
   ·refine As true Z Z (A5 ch) (Ae (e:=165) Z Z Z)<|Ac 1 Z<|Af Z<|Ab _ [0,0,0] Z<|Ad 1 Z<|AR (vars+1) Z Z (DH oM oM) Aa<|Ac 1 Z<|fC [2,2,0,3,0] Z<|AF (p:=zP w.heap.size) (.inr Z) [vp,zI funcs] Q0 Z (fun e9 ad=>LD.of_box<|BX.ext (w:=ea) am ad) Z Aa<|AF (p:=zP eb.heap.size) (.inr Z) [zI<|(ex.kids.getD k Ex.zero).kind,zI<|(ex.kids.getD k Ex.zero).num,zI<|(ex.kids.getD k Ex.zero).pick,zI<|(ex.kids.getD k Ex.zero).count,a5] AX Z (fun e9 ad=>LD.of_box<|BX.ext (w:=ea) ar ad) Z Aa<|Ad 1 Z ?_
    refine At 237 [] [] [.agg #[vp,zI funcs],.agg #[zI<|(ex.kids.getD k Ex.zero).kind,zI<|(ex.kids.getD k Ex.zero).num,zI<|(ex.kids.getD k Ex.zero).pick,zI<|(ex.kids.getD k Ex.zero).count,a5],zI (vars+1)] Z Z RB Aa (ih dd69 oM _ dp vp (p) (funcs) a5 (ex.kids.getD k Ex.zero) _ (hp.ext (An<|Av dp) ab) _hfuncs (aq.ext ab) oM oM oM) ?_
    rintro ei ej ⟨rfl,au⟩
    refine⟨_,rfl,au,?_⟩
    have dc:=au.size
    have ci:=ab.trans au
    have b4:=am.ext au
    have b6:=b3.ext au
    refine Bq (!(wf p funcs (ex.kids.getD k Ex.zero) (vars+1))) Z Z Aa<|Ai ?_
    cases cj:(!(wf p funcs (ex.kids.getD k Ex.zero) (vars+1)))
    ·refine Aj (by first|rfl|exact zW cj)<|A2<|Ab _ [0,0] Z<|AR ((k+1:Nat):Int) Z Z (Bl oM sD) Aa<|Ac 1 Z ?_
     exact⟨k+1,_,rfl,zR,⟨ci,b4,b6,sD,Q4⟩,zD⟩
    exact Af (by first|rfl|exact zW cj)<|fE Z<|A1<|AL<|Ao<|Ao<|AL<|Ao<|Ah [6] Z (.bool false) Z ⟨Ce,ci⟩
   refine As false Z Z (A6 ch) (Ae (e:=165) Z Z Z)<|Ac 1 Z<|Aj Z<|A2<|fC [2,2,0,3,0] Z<|AF (p:=zP w.heap.size) (.inr Z) [vp,zI funcs] Q0 Z (fun e9 ad=>LD.of_box<|BX.ext (w:=ea) am ad) Z Aa<|AF (p:=zP eb.heap.size) (.inr Z) [zI<|(ex.kids.getD k Ex.zero).kind,zI<|(ex.kids.getD k Ex.zero).num,zI<|(ex.kids.getD k Ex.zero).pick,zI<|(ex.kids.getD k Ex.zero).count,a5] AX Z (fun e9 ad=>LD.of_box<|BX.ext (w:=ea) ar ad) Z Aa<|Ad 1 Z ?_
   refine At 237 [] [] [.agg #[vp,zI funcs],.agg #[zI<|(ex.kids.getD k Ex.zero).kind,zI<|(ex.kids.getD k Ex.zero).num,zI<|(ex.kids.getD k Ex.zero).pick,zI<|(ex.kids.getD k Ex.zero).count,a5],zI vars] Z Z RB Aa (ih dd69 oM _ dp vp (p) (funcs) a5 (ex.kids.getD k Ex.zero) _ (hp.ext (An<|Av dp) ab) _hfuncs (aq.ext ab) _hvars oM oM) ?_
   rintro ek el ⟨rfl,av⟩
   refine⟨_,rfl,av,?_⟩
   have dd:=av.size
   have ck:=ab.trans av
   have b7:=am.ext av
   have b8:=b3.ext av
   refine Bq (!(wf p funcs (ex.kids.getD k Ex.zero) vars)) Z Z Aa<|Ai ?_
   cases cl:(!(wf p funcs (ex.kids.getD k Ex.zero) vars))
   ·refine Aj (by first|rfl|exact zW cl)<|A2<|Ab _ [0,0] Z<|AR ((k+1:Nat):Int) Z Z (Bl oM sD) Aa<|Ac 1 Z ?_
    exact⟨k+1,_,rfl,zR,⟨ck,b7,b8,sD,Q4⟩,zD⟩
   exact Af (by first|rfl|exact zW cl)<|fE Z<|A1<|AL<|Ao<|Ao<|AL<|Ao<|Ah [6] Z (.bool false) Z ⟨Ce,ck⟩
  refine As false Z Z (A6 cg) Aa<|Ac 4 Z<|Aj Z<|A2<|fC [2,2,0,3,0] Z<|AF (p:=zP w.heap.size) (.inr Z) [vp,zI funcs] Q0 Z (fun e9 ad=>LD.of_box<|BX.ext (w:=ea) am ad) Z Aa<|AF (p:=zP eb.heap.size) (.inr Z) [zI<|(ex.kids.getD k Ex.zero).kind,zI<|(ex.kids.getD k Ex.zero).num,zI<|(ex.kids.getD k Ex.zero).pick,zI<|(ex.kids.getD k Ex.zero).count,a5] AX Z (fun e9 ad=>LD.of_box<|BX.ext (w:=ea) ar ad) Z Aa<|Ad 1 Z ?_
  refine At 237 [] [] [.agg #[vp,zI funcs],.agg #[zI<|(ex.kids.getD k Ex.zero).kind,zI<|(ex.kids.getD k Ex.zero).num,zI<|(ex.kids.getD k Ex.zero).pick,zI<|(ex.kids.getD k Ex.zero).count,a5],zI vars] Z Z RB Aa (ih dd69 oM _ dp vp (p) (funcs) a5 (ex.kids.getD k Ex.zero) _ (hp.ext (An<|Av dp) ab) _hfuncs (aq.ext ab) _hvars oM oM) ?_
  rintro em en ⟨rfl,aw⟩
  refine⟨_,rfl,aw,?_⟩
  have de:=aw.size
  have cm:=ab.trans aw
  have b9:=am.ext aw
  have ba:=b3.ext aw
  refine Bq (!(wf p funcs (ex.kids.getD k Ex.zero) vars)) Z Z Aa<|Ai ?_
  cases cn:(!(wf p funcs (ex.kids.getD k Ex.zero) vars))
  ·refine Aj (by first|rfl|exact zW cn)<|A2<|Ab _ [0,0] Z<|AR ((k+1:Nat):Int) Z Z (Bl oM sD) Aa<|Ac 1 Z ?_
   exact⟨k+1,_,rfl,zR,⟨cm,b9,ba,sD,Q4⟩,zD⟩
  exact Af (by first|rfl|exact zW cn)<|fE Z<|A1<|AL<|Ao<|Ao<|AL<|Ao<|Ah [6] Z (.bool false) Z ⟨Ce,cm⟩
 exact AJ false Z Z (A6 cd) Aa<|Ai<|A0<|Aj Z<|A4<|Az<|Az<|Aw<|fE Z<|A1<|Ah [6] Z (.bool true) Z ⟨Ce,b0⟩
theorem Q5 {s:ByteArray}{k:Nat}(hk:k<s.size)(h:(K8 s k<97∨122<K8 s k)∧(k=0∨K8 s k<48∨57<K8 s k)):false=Le s:=by
  have hc:Xm s k=false:=by
    unfold Xm
    rcases h with⟨h1|h1,h2|h2|h2⟩ <;> simp <;> omega
  unfold Le
  rw[Ki hk hc,Bool.and_false]
theorem RM {s:ByteArray}{k:Nat}(h:(97≤K8 s k∧K8 s k≤122)∨(k≠0∧48≤K8 s k∧K8 s k≤57)):Xm s k=true:=by
  unfold Xm
  rcases h with h|h <;> simp <;> omega
theorem UT {s:ByteArray}{k:Nat}{b:Bool}(h:(List.range k).all (Xm s)=true)(hk:k=s.size)(hb:b=(decide (1≤s.size) && decide (s.size≤12))):b=Le s:=by
  subst hk
  unfold Le
  rw[h,Bool.and_true,hb]
theorem Ig {p:Prop}(h:p:=by first|exact AP (Q5 (k:=k) oM oM)|exact AP (UT hq oM (by first|(rw[A5 (show 1≤s.size by omega),Bool.true_and];exact decide_eq_decide.2 oM)|(rw[A6 (show ¬1≤s.size by omega)];rfl)))):p:=h
theorem MM (w:World)(s:ByteArray)  (hl:s.size≤1000000000) :
  Calls Tryz.prog 203 #[.string s] w (fun e w'=>e=.returned (.bool (Le s))∧w'=w):=by
 refine Au [.string s] 44 Tryz.func203 Z Z sM ?_
 have a3:w=w:=rfl
 refine fE Z<|A0<|fC [0,0,0] Z<|Ad 1 Z<|Lv (s:=s) u9 Z Aa<|Ac 1 Z<|A3 ?_
 refine AW (S:=Nat) (fun k=>([(6,zI (k:Int)),(0,.string s),(5,zI (s.size:Int))])) (fun k W=>W=w∧k≤s.size∧(List.range k).all (Xm s)=true) (fun k=>s.size-k) 0 ⟨rfl,rfl,rfl,trivial⟩ ⟨a3,sD,(by rfl)⟩ ?_
 clear a3
 rintro k ρ1 w1 ⟨a0,a4,hq⟩
 refine fC [0] Z ?_
 by_cases a5:(k:Int)<(s.size:Int)
 ·refine AJ true Z Z (A5 a5) Aa<|Ai<|A0<|Af Z<|A2<|A0<|A3<|fC [0,0] Z<|Ac 2 Z<|fC [0,0,0,0,0,0,0,0,0,0,0,0,0,0,0,0,0,0,0,0,0,0,0,0,0,0] Z<|Ad 2 Z<|Ds (s:=s) k u9 Z Z Z sD Aa ?_
  by_cases a6:((K8 s k:Nat):Int)<97
  ·refine AJ true Z Z (A5 a6) Aa<|Ad 8 Z ?_
   by_cases a7:(k:Int)=((0:Nat):Int)
   ·exact As true Z Z (A5 a7) (Ae (e:=19) Z Z Z)<|Ac 13 Z<|Af Z<|fE Z<|A1<|AL<|Ao<|Ao<|AL<|Ao<|Ah [2] Z (.bool false) Z ⟨Ig,a0⟩
   refine As false Z Z (A6 a7) (Ae (e:=19) Z Z Z)<|Ad 3 Z<|Ds (s:=s) k u9 Z Z Z sD (Ae (e:=22) Z Z Z) ?_
   by_cases a8:((K8 s k:Nat):Int)<48
   ·exact AJ true Z Z (A5 a8) (Ae (e:=22) Z Z Z)<|Ac 8 Z<|Af Z<|fE Z<|A1<|AL<|Ao<|Ao<|AL<|Ao<|Ah [2] Z (.bool false) Z ⟨Ig,a0⟩
   refine AJ false Z Z (A6 a8) (Ae (e:=22) Z Z Z)<|Ad 4 Z<|Ds (s:=s) k u9 Z Z Z sD (Ae (e:=28) Z Z Z) ?_
   by_cases a9:57<((K8 s k:Nat):Int)
   ·exact Cj true Z Z (A5 a9) (Ae (e:=28) Z Z Z)<|Ac 2 Z<|Af Z<|fE Z<|A1<|AL<|Ao<|Ao<|AL<|Ao<|Ah [2] Z (.bool false) Z ⟨Ig,a0⟩
   refine Cj false Z Z (A6 a9) (Ae (e:=28) Z Z Z)<|Ac 2 Z<|Aj Z<|A2<|Ab _ [0,0] Z<|AR ((k+1:Nat):Int) Z Z (Bl oM sD) Aa<|Ac 1 Z ?_
   exact⟨k+1,_,rfl,zR,⟨a0,sD,(by exact Eb hq (RM oM))⟩,zD⟩
  refine AJ false Z Z (A6 a6) Aa<|Ad 3 Z<|Ds (s:=s) k u9 Z Z Z sD (Ae (e:=13) Z Z Z) ?_
  by_cases aa:122<((K8 s k:Nat):Int)
  ·refine Cj true Z Z (A5 aa) (Ae (e:=13) Z Z Z)<|Ad 3 Z ?_
   by_cases ab:(k:Int)=((0:Nat):Int)
   ·exact As true Z Z (A5 ab) (Ae (e:=19) Z Z Z)<|Ac 13 Z<|Af Z<|fE Z<|A1<|AL<|Ao<|Ao<|AL<|Ao<|Ah [2] Z (.bool false) Z ⟨Ig,a0⟩
   refine As false Z Z (A6 ab) (Ae (e:=19) Z Z Z)<|Ad 3 Z<|Ds (s:=s) k u9 Z Z Z sD (Ae (e:=22) Z Z Z) ?_
   by_cases ac:((K8 s k:Nat):Int)<48
   ·exact AJ true Z Z (A5 ac) (Ae (e:=22) Z Z Z)<|Ac 8 Z<|Af Z<|fE Z<|A1<|AL<|Ao<|Ao<|AL<|Ao<|Ah [2] Z (.bool false) Z ⟨Ig,a0⟩
   refine AJ false Z Z (A6 ac) (Ae (e:=22) Z Z Z)<|Ad 4 Z<|Ds (s:=s) k u9 Z Z Z sD (Ae (e:=28) Z Z Z) ?_
   by_cases a1:57<((K8 s k:Nat):Int)
   ·exact Cj true Z Z (A5 a1) (Ae (e:=28) Z Z Z)<|Ac 2 Z<|Af Z<|fE Z<|A1<|AL<|Ao<|Ao<|AL<|Ao<|Ah [2] Z (.bool false) Z ⟨Ig,a0⟩
   refine Cj false Z Z (A6 a1) (Ae (e:=28) Z Z Z)<|Ac 2 Z<|Aj Z<|A2<|Ab _ [0,0] Z<|AR ((k+1:Nat):Int) Z Z (Bl oM sD) Aa<|Ac 1 Z ?_
   exact⟨k+1,_,rfl,zR,⟨a0,sD,(by exact Eb hq (RM oM))⟩,zD⟩
  refine Cj false Z Z (A6 aa) (Ae (e:=13) Z Z Z)<|Ac 17 Z<|Aj Z<|A2<|Ab _ [0,0] Z<|AR ((k+1:Nat):Int) Z Z (Bl oM sD) Aa<|Ac 1 Z ?_
  exact⟨k+1,_,rfl,zR,⟨a0,sD,(by exact Eb hq (RM oM))⟩,zD⟩
 refine AJ false Z Z (A6 a5) Aa<|Ai<|A0<|Aj Z<|A4<|Az<|Az<|Aw<|fC [0,0,0,0,0,0,0,0,0] Z<|Ad 1 Z<|Lv (s:=s) u9 Z Aa ?_
 by_cases a2:((1:Nat):Int)≤(s.size:Int)
 ·exact DN true Z Z (A5 a2) Aa<|Ad 2 Z<|Lv (s:=s) u9 Z (Ae (e:=39) Z Z Z)<|Ek (decide ((s.size:Int)≤((12:Nat):Int))) Z Z Z (Ae (e:=39) Z Z Z)<|Ac 2 Z<|A1<|Ah [2] Z (.bool<|decide ((s.size:Int)≤((12:Nat):Int))) Z ⟨Ig,a0⟩
 exact DN false Z Z (A6 a2) Aa<|Ac 6 Z<|A1<|Ah [2] Z (.bool false) Z ⟨Ig,a0⟩
theorem HQ (w:World)(dx:Nat)(vo:Value)(x:Fn)(bf:Nat)(vf:Value)(f:Fn)(hx:RF [] dx w.heap vo x)(hBf:BX w.heap bf [.string f.name,zI f.params,vf])  :
  Calls Tryz.prog 204 #[(.agg #[(.string x.name),(zI x.params),vo]),zP bf] w (fun e w'=>e=.returned (.bool (DA x.name f.name))∧AD w w'):=by
 refine Au [.agg #[.string x.name,zI x.params,vo],zP bf] 9 Tryz.func204 Z Z sM ?_
 have a3:AD w w:=AD.refl w
 have a8:=hx.rn.lenle
 unfold maxLen at a8
 refine fC [3,0] Z ?_
 have a6:=hBf.lt
 refine Bv (cs:=#[.string x.name,zI x.params,vo]) Z Aa fun w1 a1 a7 a2=>?_
 have a4:=a1.size
 have a5:=a3.trans a1
 have a0:=hBf.ext a1
 replace a2:BX w1.heap w.heap.size [.string x.name,zI x.params,vo]:=a2
 exact Ac 1 Z<|fC [0,2,0,2,0,0] Z<|Al (p:=zP w.heap.size) 0 EF Z Z Aa<|Ag (p:=Ap (zP w.heap.size) 0) (.inr Z) (.string x.name) K1 Z (a2.ldp (i:=0) sM) Aa<|Al (p:=zP bf) 0 EF Z Z Aa<|Ag (p:=Ap (zP bf) 0) (.inr Z) (.string f.name) K1 Z (a0.ldp (i:=0) sM) Aa<|Ke (DA x.name f.name) u9 Z Z Z Aa<|Ac 1 Z<|A1<|Ah [3] Z (.bool<|DA x.name f.name) Z ⟨rfl,a5⟩
theorem Dj (w:World) (da:Nat) (va:Value) (a:List Fn) (q:Nat) (qf qc:List Value) (pr:Fn→Bool) (ha:RP [] da w.heap va a) (hcf_q:((Tryz.prog.funcs[q]?).map fun fn=>(fn.name != "runtime.NumGoroutine") && fn.body.isSome) = some true) (hpr:∀ (d9:Nat) (u:Value) (x:Fn) w1,RF [] d9 w1.heap u x→AD w w1→Calls Tryz.prog q (qf++[Value.agg #[Value.string x.name,Value.int .i64 x.params,u]]++qc).toArray w1 (fun e w2=>e = .returned (.bool (pr x))∧AD w1 w2))  :
  Calls Tryz.prog 201 #[va,.func (.func q) qf.toArray qc.toArray] w (fun e w'=>e = .returned (zI (Sl pr a))∧AD w w'):=by
 refine Au [va,.func (.func q) qf.toArray qc.toArray] 19 Tryz.func201 Z Z sM ?_
 have a5:AD w w:=AD.refl w
 have ag:=ha.lenle
 unfold maxLen at ag
 refine fE Z<|A0<|fC [0,0,0] Z<|Ad 1 Z<|AS (v:=va) Du Z ha.isSl Aa<|Ac 1 Z<|A3 ?_
 refine AW (S:=Nat) (fun k=>([(8,zI ((k :Nat):Int)),(0,va),(1,.func (.func q) qf.toArray qc.toArray),(7,zI ((a.length :Nat):Int))])) (fun k W=>AD w W∧k≤a.length∧(∀ j,j < k→pr (a.getD j Fn.zero) = false)) (fun k=>a.length - k) 0 ⟨rfl,rfl,rfl,rfl,trivial⟩ ⟨a5,sD,(by intro j hj; omega)⟩ ?_
 clear a5
 rintro k ρ1 w1 ⟨a1,a6,hq⟩
 have aa:w.heap.size≤w1.heap.size:=a1.size
 refine fC [0] Z ?_
 by_cases a7:((k :Nat):Int) < ((a.length :Nat):Int)
 ·
  refine AJ true Z Z (A5 a7) Aa<|Ai<|A0<|Af Z<|A2<|A0<|A3<|fC [0,0] Z<|Ac 2 Z<|fC [0,0,0,0,2,3] Z<|Ad 3 Z<|AE (v:=va) k Du BD Z Z ha.isSl Z sD Aa ?_
  obtain ⟨cs3,ab,ac⟩:=ha.get (Av da) Fn.zero (k:=k) sD
  obtain ⟨a8,rfl,a2⟩:=RF.of ab
  have a3:=a2.rn.lenle
  unfold maxLen at a3
  refine AF (p:=AA va k 3) (.inr Z) [.string<|(a.getD k Fn.zero).name,zI<|(a.getD k Fn.zero).params,a8] DS Z (fun ah ad=>ac ah<|Ax.of_ext []<|a1.trans ad) Z Aa ?_
  have a0:=hpr da a8 (a.getD k Fn.zero) w1 ⟨a2.rng,a2.rn.ext (An<|Ay da) a1⟩ a1
  refine At q qf qc _ Z Z hcf_q Aa a0 ?_
  rintro e4 w4 ⟨rfl,a4⟩
  refine ⟨_,rfl,a4,?_⟩
  have ae:=a4.size
  have a9:=a1.trans a4
  cases af:pr (a.getD k Fn.zero)
  ·
   refine Ai<|Aj Z<|A2<|Ab _ [0,0] Z<|AR ((k + 1 :Nat):Int) Z Z (Bl oM sD) Aa<|Ac 1 Z ?_
   exact ⟨k + 1,_,rfl,zR,⟨a9,sD,(by exact RK hq (by assumption))⟩,by first | omega | (dsimp only; omega)⟩
  
  exact Ai<|Af Z<|fC [0,0] Z<|Ac 2 Z<|A1<|AL<|Ao<|Ao<|AL<|Ao<|Ah [4] Z (zI ((k :Nat):Int)) Z ⟨Bf<|UO Fn.zero hq oM (by assumption),a9⟩
 
 exact AJ false Z Z (A6 a7) Aa<|Ai<|A0<|Aj Z<|A4<|Az<|Az<|Aw<|fE Z<|A1<|Ah [4] Z (zI (-1)) Z ⟨Bf<|Ye Fn.zero hq oM,a1⟩
theorem BE (w:World) (da:Nat) (va:Value) (a:List Fn) (q:Nat) (qf qc:List Value) (pr:Fn→Bool) (ha:RP [] da w.heap va a) (hcf_q:((Tryz.prog.funcs[q]?).map fun fn=>(fn.name != "runtime.NumGoroutine") && fn.body.isSome) = some true) (hpr:∀ (d9:Nat) (u:Value) (x:Fn) w1,RF [] d9 w1.heap u x→AD w w1→Calls Tryz.prog q (qf++[Value.agg #[Value.string x.name,Value.int .i64 x.params,u]]++qc).toArray w1 (fun e w2=>e = .returned (.bool (pr x))∧AD w1 w2))  :
  Calls Tryz.prog 133 #[va,.func (.func q) qf.toArray qc.toArray] w (fun e w'=>e = .returned (.bool (a.any pr))∧AD w w'):=by
 refine Au [va,.func (.func q) qf.toArray qc.toArray] 9 Tryz.func133 Z Z sM ?_
 have a0:AD w w:=AD.refl w
 have a4:=ha.lenle
 unfold maxLen at a4
 refine fE Z<|fC [0,0,3,0,0] Z<|Ad 2 Z<|At 201 [] [] [va,.func (.func q) qf.toArray qc.toArray] Z Z bZ Aa (Dj _ da va (a) q qf qc pr (ha.ext (An<|Av da) a0) hcf_q fun d9 u x w1 hx hw=>hpr d9 u x w1 hx<|a0.trans hw) ?_
 rintro e1 w1 ⟨rfl,a1⟩
 refine ⟨_,rfl,a1,?_⟩
 have a2:=a1.size
 have a3:=a0.trans a1
 exact DN (decide (((0 :Nat):Int)≤Sl pr a)) Z Z Z Aa<|Ac 1 Z<|A1<|Ah [4] Z (.bool<|decide (((0 :Nat):Int)≤Sl pr a)) Z ⟨AP<|Yf pr a,a3⟩
theorem Mg (w:World)(vars:Int)(_hvars:BG vars)  :
  Calls Tryz.prog 235 #[zI vars] w (fun e w'=>e=.returned (.bool (Ey vars 0 412))∧w'=w):=by
 refine Au [zI vars] 5 Tryz.func235 Z Z sM ?_
 have a0:w=w:=rfl
 exact fE Z<|fC [0,0,0] Z<|Ad 1 Z<|AG 117 [] [] [zI vars,zI ((0:Nat):Int),zI ((412:Nat):Int)] Z Z D2 Aa (.bool (decide (((0:Nat):Int)≤vars) && decide (vars≤((412:Nat):Int)))) (fun wq=>B4 wq _ _ _ _hvars oM oM)<|Ac 1 Z<|A1<|Ah [2] Z (.bool (decide (((0:Nat):Int)≤vars) && decide (vars≤((412:Nat):Int)))) Z ⟨rfl,a0⟩
theorem RO {p:List Fn}{e:Ex}{vars funcs:Int}(h:(0≤vars∧vars≤412)∧(0≤funcs∧funcs≤((p.length:Nat):Int))∧e.size≤400∧e.deep≤60):wf p funcs e vars=MF p e vars funcs:=by
  unfold MF
  rw[BH.2 h.1,BH.2 h.2.1,A5 h.2.2.1,A5 h.2.2.2];rfl
theorem Nu {p:List Fn}{e:Ex}{vars funcs:Int}(h:¬((0≤vars∧vars≤412)∧(0≤funcs∧funcs≤((p.length:Nat):Int))∧e.size≤400∧e.deep≤60)):false=MF p e vars funcs:=by
  cases hh:MF p e vars funcs with
  |false=>rfl
  |true =>
    unfold MF at hh
    simp only[z7,decide_eq_true_eq,BH]at hh
    exact absurd ⟨hh.1,hh.2.1,hh.2.2.1,hh.2.2.2.1⟩ h
theorem Yh {p:List Fn}{e:Ex}{vars funcs:Int}(h:wf p funcs e vars=false):false=MF p e vars funcs:=by
  unfold MF;rw[h];simp
theorem UU {x a b:Int}(h:Ey x a b=false):¬(a≤x∧x≤b):=fun hh=>by rw[BH.2 hh]at h;cases h
theorem Pm {x a b:Int}(h:(decide (a≤x) && decide (x≤b))=false):¬(a≤x∧x≤b):=UU h
theorem HF {x a b:Int}(h:(decide (a≤x) && decide (x≤b))=true):a≤x∧x≤b:=BH.1 h
theorem Mh {p:Prop}(h:p:=by first|exact AP (Yh (by assumption))|exact AP (RO ⟨BH.1 (by assumption),HF (by assumption),zO,zO⟩)|exact AP ((by assumption:wf p funcs ex vars=true).symm.trans (RO ⟨BH.1 (by assumption),HF (by assumption),zO,zO⟩))|exact AP (Nu fun hh=>UU (by assumption) hh.1)|exact AP (Nu fun hh=>Pm (by assumption) hh.2.1)|exact AP (Nu oM)):p:=h
theorem Kw (w:World)(dp:Nat)(vp:Value)(p:List Fn)(dex:Nat)(ve:Value)(ex:Ex)(vars:Int)(funcs:Int)(hp:RP [] dp w.heap vp p)(hex:RX [] dex w.heap ve ex)(_hvars:BG vars)(_hfuncs:BG funcs)(hs:ex.size≤1000000000) :
  Calls Tryz.prog 205 #[(.agg #[vp]),(.agg #[(zI ex.kind),(zI ex.num),(zI ex.pick),(zI ex.count),ve]),zI vars,zI funcs] w (fun e w'=>e=.returned (.bool (MF p ex vars funcs))∧AD w w'):=by
 refine Au [.agg #[vp],.agg #[zI ex.kind,zI ex.num,zI ex.pick,zI ex.count,ve],zI vars,zI funcs] 36 Tryz.func205 Z Z sM ?_
 have am:AD w w:=AD.refl w
 have az:=hp.lenle
 unfold maxLen at az
 have b0:=hex.rn.lenle
 unfold maxLen at b0
 refine fC [3,3,0] Z (Bv (cs:=#[vp]) Z Aa fun w1 ai ar ac=>?_)
 have an:=ai.size
 have ao:=am.trans ai
 replace ac:BX w1.heap w.heap.size [vp]:=ac
 have au:=ac.lt
 refine Bv (cs:=#[zI ex.kind,zI ex.num,zI ex.pick,zI ex.count,ve]) Z Aa fun w2 af av ad=>?_
 have ap:=af.size
 have ae:=ao.trans af
 have a2:=ac.ext af
 replace ad:BX w2.heap w1.heap.size [zI ex.kind,zI ex.num,zI ex.pick,zI ex.count,ve]:=ad
 refine Ac 1 Z<|fC [0,0,0,0,0,2,0,0,0,0,2,3,0,0,0,2,3,0,0,0,2,0,0,2,0,3,0,0] Z<|Ad 1 Z<|AG 235 [] [] [zI vars] Z Z cJ Aa (.bool<|Ey vars 0 412) (fun wq=>Mg wq _ _hvars)<|Ad 1 Z ?_
 cases aw:(Ey vars 0 412)
 ·exact Ac 25 Z<|A1<|Ah [8] Z (.bool false) Z ⟨Mh,ae⟩
 refine Ad 1 Z<|Al (p:=zP w.heap.size) 0 B8 Z Z (Ae (e:=11) Z Z Z)<|Ag (p:=Ap (zP w.heap.size) 0) (.inr Z) vp Bt Z (a2.ldp (i:=0) sM) (Ae (e:=11) Z Z Z)<|AS (v:=vp) Du Z hp.isSl (Ae (e:=11) Z Z Z)<|AG 117 [] [] [zI funcs,zI ((0:Nat):Int),zI (p.length:Int)] Z Z D2 (Ae (e:=11) Z Z Z) (.bool (decide (((0:Nat):Int)≤funcs) && decide (funcs≤(p.length:Int)))) (fun wq=>B4 wq _ _ _ _hfuncs oM oM)<|Ad 2 Z ?_
 cases ax:(decide (((0:Nat):Int)≤funcs) && decide (funcs≤(p.length:Int)))
 ·exact Ac 18 Z<|A1<|Ah [8] Z (.bool false) Z ⟨Mh,ae⟩
 refine AF (p:=zP w1.heap.size) (.inr Z) [zI ex.kind,zI ex.num,zI ex.pick,zI ex.count,ve] AX Z (fun b1 a4=>LD.of_box<|BX.ext (w:=w2) ad a4) Z (Ae (e:=18) Z Z Z)<|At 206 [] [] [.agg #[zI ex.kind,zI ex.num,zI ex.pick,zI ex.count,ve]] Z Z UF (Ae (e:=18) Z Z Z) (HE _ dex ve (ex) (hex.ext ae) oM) ?_
 rintro e8 w8 ⟨rfl,a8⟩
 refine⟨_,rfl,a8,?_⟩
 have aq:=a8.size
 have ag:=ae.trans a8
 have a9:=a2.ext a8
 have a3:=ad.ext a8
 by_cases aj:(ex.size:Int)≤((400:Nat):Int)
 ·refine Ek true Z Z (A5 aj) (Ae (e:=18) Z Z Z)<|Ad 2 Z<|AF (p:=zP w1.heap.size) (.inr Z) [zI ex.kind,zI ex.num,zI ex.pick,zI ex.count,ve] AX Z (fun b1 a4=>LD.of_box<|BX.ext (w:=w8) a3 a4) Z (Ae (e:=23) Z Z Z)<|At 236 [] [] [.agg #[zI ex.kind,zI ex.num,zI ex.pick,zI ex.count,ve]] Z Z Y7 (Ae (e:=23) Z Z Z) (Kv _ dex ve (ex) (hex.ext ag) oM) ?_
  rintro b4 b2 ⟨rfl,a0⟩
  refine⟨_,rfl,a0,?_⟩
  have ak:=a0.size
  have a1:=ag.trans a0
  have a5:=a9.ext a0
  have a6:=a3.ext a0
  by_cases aa:(ex.deep:Int)≤((60:Nat):Int)
  ·refine Ek true Z Z (A5 aa) (Ae (e:=23) Z Z Z)<|Ad 2 Z<|AF (p:=zP w.heap.size) (.inr Z) [vp] Ba Z (fun b1 a4=>LD.of_box<|BX.ext (w:=b2) a5 a4) Z (Ae (e:=28) Z Z Z)<|Ad 1 Z ?_
   have ab:∀(vp:Value) (ay:Nat) (h12_0:Fx vp ay) (wq:World),(Instr.build 249 #[(0,.agg #[vp]),(1,zI funcs)]).run Tryz.prog wq=.ok (.agg #[vp,zI funcs]) wq:=by intro vp ay h12_0 wq;obtain⟨a12_0,b3,rfl,_⟩:=h12_0;kernel_rfl
   refine Bh (ps:=#[(0,.agg #[vp]),(1,zI funcs)]) (.agg #[vp,zI funcs]) (by simp only[zc,zf,zh];rfl) (fun wq=>ab vp _ hp.isSl wq) (Ae (e:=28) Z Z Z)<|AF (p:=zP w1.heap.size) (.inr Z) [zI ex.kind,zI ex.num,zI ex.pick,zI ex.count,ve] AX Z (fun b1 a4=>LD.of_box<|BX.ext (w:=b2) a6 a4) Z (Ae (e:=28) Z Z Z)<|Ad 1 Z ?_
   refine At 237 [] [] [.agg #[vp,zI funcs],.agg #[zI ex.kind,zI ex.num,zI ex.pick,zI ex.count,ve],zI vars] Z Z RB (Ae (e:=28) Z Z Z) (H3 _ dp vp (p) (funcs) dex ve (ex) _ (hp.ext (An<|Av dp) a1) _hfuncs (hex.ext a1) _hvars (by have h1:=BH.1 (by assumption:Ey vars 0 412=true);omega) (by have h2:=HF (by assumption:(decide (((0:Nat):Int)≤funcs) && decide (funcs≤(p.length:Int)))=true);omega)) ?_
   rintro b5 b6 ⟨rfl,a7⟩
   refine⟨_,rfl,a7,?_⟩
   have al:=a7.size
   have ah:=a1.trans a7
   exact Ac 2 Z<|A1<|Ah [8] Z (.bool<|wf p funcs ex vars) Z ⟨Mh,ah⟩
  exact Ek false Z Z (A6 aa) (Ae (e:=23) Z Z Z)<|Ac 10 Z<|A1<|Ah [8] Z (.bool false) Z ⟨Mh,a1⟩
 exact Ek false Z Z (A6 aj) (Ae (e:=18) Z Z Z)<|Ac 15 Z<|A1<|Ah [8] Z (.bool false) Z ⟨Mh,ag⟩
theorem UV {p:List Fn}(h:¬p.length≤16):false=Ef p:=by unfold Ef;rw[A6 h];rfl
theorem Jk {p:List Fn}{k:Nat}(hk:k<p.length)(h:KM p k=false):false=Ef p:=by unfold Ef;rw[Ki hk h,Bool.and_false]
theorem UW {p:List Fn}{k:Nat}(hl:p.length≤16)(hk:p.length≤k)(hk2:k≤p.length)(h:(List.range k).all (KM p)=true):true=Ef p:=by
  have:k=p.length:=by omega
  subst this;unfold Ef;rw[h,A5 hl];rfl
section
variable {p:List Fn} {k:Nat}
theorem dA (h:Le (p.getD k Fn.zero).name=false):KM p k=false:=by unfold KM;rw[h];rfl
theorem dB (h:(p.take k).any (fun g=>DA g.name (p.getD k Fn.zero).name)=true):KM p k=false:=by unfold KM S0;rw[h];simp
theorem dC (h:(decide (((0:Nat):Int)≤(p.getD k Fn.zero).params) && decide ((p.getD k Fn.zero).params≤((12:Nat):Int)))=false):KM p k=false:=by
  have h':Ey (p.getD k Fn.zero).params 0 12=false:=h
  unfold KM;rw[h'];simp
theorem dD (h:(decide (((1:Nat):Int)≤(((p.getD k Fn.zero).outs.length:Nat):Int)) && decide ((((p.getD k Fn.zero).outs.length:Nat):Int)≤((12:Nat):Int)))=false):KM p k=false:=by
  have h':Ey (((p.getD k Fn.zero).outs.length:Nat):Int) 1 12=false:=h
  unfold KM;rw[h'];simp
theorem dE {j:Nat}(hj:j<(p.getD k Fn.zero).outs.length)(h:MF p ((p.getD k Fn.zero).outs.getD j Ex.zero) (p.getD k Fn.zero).params ((k:Nat):Int)=false):KM p k=false:=by
  unfold KM
  rw[Ki hj h];simp
theorem dF (h:¬Ex.sizes (p.getD k Fn.zero).outs≤400):KM p k=false:=by
  unfold KM;rw[A6 h];simp
theorem Yi {j:Nat}(h1:Le (p.getD k Fn.zero).name=true)(h2:(p.take k).any (fun g=>DA g.name (p.getD k Fn.zero).name)=false)(h3:(decide (((0:Nat):Int)≤(p.getD k Fn.zero).params) && decide ((p.getD k Fn.zero).params≤((12:Nat):Int)))=true)(h4:(decide (((1:Nat):Int)≤(((p.getD k Fn.zero).outs.length:Nat):Int)) && decide ((((p.getD k Fn.zero).outs.length:Nat):Int)≤((12:Nat):Int)))=true)(h5:(List.range j).all (fun j=>MF p ((p.getD k Fn.zero).outs.getD j Ex.zero) (p.getD k Fn.zero).params ((k:Nat):Int))=true)(hj:j=(p.getD k Fn.zero).outs.length)(h6:Ex.sizes (p.getD k Fn.zero).outs≤400):KM p k=true:=by
  have h3':Ey (p.getD k Fn.zero).params 0 12=true:=h3
  have h4':Ey (((p.getD k Fn.zero).outs.length:Nat):Int) 1 12=true:=h4
  subst hj
  unfold KM S0
  rw[h1,h2,h3',h4',h5,A5 h6];rfl
end
theorem By {b:Bool}(h:(!b)=false):b=true:=by cases b <;> simp_all
theorem Bz {b:Bool}(h:(!b)=true):b=false:=by cases b <;> simp_all
theorem Ih {p:Prop}(h:p:=by first|exact AP (UV oM)|exact AP (UW oM oM oM hq)|exact AP (Jk (k:=k) oM (dA (Bz (by assumption))))|exact AP (Jk (k:=k) oM (dB (by assumption)))|exact AP (Jk (k:=k) oM (dC (Bz (by assumption))))|exact AP (Jk (k:=k) oM (dD (Bz (by assumption))))|exact AP (Jk (k:=k) oM (dE (j:=j) oM (Bz (by assumption))))|exact AP (Jk (k:=k) oM (dF oM))):p:=h
theorem CW (w:World)(dp:Nat)(vp:Value)(p:List Fn)(hp:RP [] dp w.heap vp p)(hz:LF p) :
  Calls Tryz.prog 137 #[(.agg #[vp])] w (fun e w'=>e=.returned (.bool (Ef p))∧AD w w'):=by
 refine Au [.agg #[vp]] 65 Tryz.func137 Z Z sM ?_
 have bq:AD w w:=AD.refl w
 have ch:=hp.lenle
 unfold maxLen at ch
 refine fC [3,0] Z (Bv (cs:=#[vp]) Z Aa fun w1 be c0 aw=>?_)
 have bf:=be.size
 have bg:=bq.trans be
 replace aw:BX w1.heap w.heap.size [vp]:=aw
 refine Ac 1 Z<|A0<|fC [0,2,0,0] Z<|Al (p:=zP w.heap.size) 0 B8 Z Z Aa<|Ag (p:=Ap (zP w.heap.size) 0) (.inr Z) vp Bt Z (aw.ldp (i:=0) sM) Aa<|AS (v:=vp) Du Z hp.isSl Aa ?_
 by_cases br:((16:Nat):Int)<(p.length:Int)
 ·exact Cj true Z Z (A5 br) Aa<|Ai<|Af Z<|fE Z<|A1<|Ao<|Ah [2] Z (.bool false) Z ⟨Ih,bg⟩
 refine Cj false Z Z (A6 br) Aa<|Ai<|Aj Z<|A2<|A0<|fC [0,2,0,0] Z<|Al (p:=zP w.heap.size) 0 B8 Z Z Aa<|Ag (p:=Ap (zP w.heap.size) 0) (.inr Z) vp Bt Z (aw.ldp (i:=0) sM) Aa<|AS (v:=vp) Du Z hp.isSl Aa<|Ac 1 Z<|A3 ?_
 refine AW (S:=Nat) (fun k=>([(15,zI (k:Int)),(1,zP w.heap.size),(13,vp),(14,zI (p.length:Int))])) (fun k W=>AD w W∧BX W.heap w.heap.size [vp]∧k≤p.length∧(List.range k).all (KM p)=true) (fun k=>p.length-k) 0 ⟨rfl,rfl,rfl,rfl,trivial⟩ ⟨bg,aw,sD,(by rfl)⟩ ?_
 clear bq c0 be bf bg
 rintro k ρ3 w3 ⟨ax,a4,bs,hq⟩
 have bh:w.heap.size≤w3.heap.size:=ax.size
 have ce:=a4.lt
 refine fC [0] Z ?_
 by_cases bt:(k:Int)<(p.length:Int)
 ·refine AJ true Z Z (A5 bt) Aa<|Ai<|A0<|Af Z<|A2<|A0<|A3<|fC [0,0,2,3,0,4] Z<|Ad 1 Z<|AE (v:=vp) k Du BD Z Z hp.isSl Z sD Aa ?_
  obtain⟨cs6,c1,c2⟩:=hp.get (Av dp) Fn.zero (k:=k) sD
  obtain⟨ab,rfl,ap⟩:=RF.of c1
  have ay:=ap.rn.lenle
  unfold maxLen at ay
  refine AF (p:=AA vp k 3) (.inr Z) [.string<|(p.getD k Fn.zero).name,zI<|(p.getD k Fn.zero).params,ab] DS Z (fun cg af=>c2 cg<|Ax.of_ext []<|ax.trans af) Z Aa ?_
  have cf:=a4.lt
  refine AU (z:=.agg #[.string ByteArray.empty,zI 0,zN]) MK Aa fun w7 bb c3 bi=>?_
  have bj:=bb.size
  have bk:=ax.trans bb
  have a5:=a4.ext bb
  replace bi:BX w7.heap w3.heap.size [.string ByteArray.empty,zI 0,zN]:=bi
  refine Ad 1 Z (B2 (vs:=[.string<|(p.getD k Fn.zero).name,zI<|(p.getD k Fn.zero).params,ab]) DS Z Z ap.ones bi Z Z Aa fun w9 bc c4 az=>?_)
  replace az:BX w9.heap w3.heap.size [.string ((p.getD k Fn.zero).name),zI ((p.getD k Fn.zero).params),ab]:=az
  have bd:AD w w9:=bc.below bk (fun _ h=>zE h) bk.size
  have bl:=bc.size
  have aq:=a5.chg bc (zB ·)
  refine Ai<|A0<|fC [0,2,0,0,0,0,2,0,0,0,3,0] Z ?_
  have hzk:=hz k oM
  refine Al (p:=zP w3.heap.size) 0 EF Z Z Aa<|Ag (p:=Ap (zP w3.heap.size) 0) (.inr Z) (.string<|(p.getD k Fn.zero).name) K1 Z (az.ldp (i:=0) sM) Aa<|AG 203 [] [] [.string<|(p.getD k Fn.zero).name] Z Z cA Aa (.bool<|Le<|(p.getD k Fn.zero).name) (fun wq=>MM wq ((p.getD k Fn.zero).name) oM)<|Bq (!(Le<|(p.getD k Fn.zero).name)) Z Z Aa<|Ad 1 Z ?_
  cases c5:(!(Le ((p.getD k Fn.zero).name)))
  ·refine Al (p:=zP w.heap.size) 0 B8 Z Z (Ae (e:=24) Z Z Z)<|Ag (p:=Ap (zP w.heap.size) 0) (.inr Z) vp Bt Z (aq.ldp (i:=0) sM) (Ae (e:=24) Z Z Z)<|Ad 1 Z<|YB (v:=vp) (k:=k) Du BD Z hp.isSl hp.capS Z sD (Ae (e:=24) Z Z Z) ?_
   have b0:=RN.pref (Av dp) (k:=k) hp sD
   refine Nw [] [zP w3.heap.size] Z Z (Ae (e:=24) Z Z Z)<|At 133 [] [] [Oy vp k,.func (.func 204) #[] #[zP w3.heap.size]] Z Z Uy (Ae (e:=24) Z Z Z) (BE _ dp (Oy vp k) (p.take k) 204 [] [zP w3.heap.size] (fun g=>DA g.name (p.getD k Fn.zero).name) (b0.ext (An<|Av dp) bd) cB fun d9 u x w1 hx hw=>HQ w1 d9 u x w3.heap.size ab (p.getD k Fn.zero) hx<|az.ext hw) ?_
   rintro cm cn ⟨rfl,a7⟩
   refine⟨_,rfl,a7,?_⟩
   have b1:=a7.size
   have ac:=bd.trans a7
   have a6:=aq.ext a7
   have a0:=az.ext a7
   refine Ac 1 Z ?_
   cases b2:((p.take k).any (fun g=>DA g.name (p.getD k Fn.zero).name))
   ·refine Aj (by first|rfl|exact zW b2)<|A2<|A0<|fC [0,2,0,0,0,0,2,0,0,0,0] Z<|Al (p:=zP w3.heap.size) 1 BI Z Z Aa<|Ag (p:=Ap (zP w3.heap.size) 1) (.inr Z) (zI<|(p.getD k Fn.zero).params) AI Z (a0.ldp (i:=1) sM) Aa<|AG 117 [] [] [zI<|(p.getD k Fn.zero).params,zI ((0:Nat):Int),zI ((12:Nat):Int)] Z Z D2 Aa (.bool (decide (((0:Nat):Int)≤((p.getD k Fn.zero).params)) && decide (((p.getD k Fn.zero).params)≤((12:Nat):Int)))) (fun wq=>B4 wq _ _ _ ap.rng oM oM) ?_
    refine Bq (!(decide (((0:Nat):Int)≤((p.getD k Fn.zero).params)) && decide (((p.getD k Fn.zero).params)≤((12:Nat):Int)))) Z Z Aa<|Ad 1 Z ?_
    cases c6:(!(decide (((0:Nat):Int)≤((p.getD k Fn.zero).params)) && decide (((p.getD k Fn.zero).params)≤((12:Nat):Int))))
    ·refine Al (p:=zP w3.heap.size) 2 Br Z Z (Ae (e:=36) Z Z Z)<|Ag (p:=Ap (zP w3.heap.size) 2) (.inr Z) ab B7 Z (a0.ldp (i:=2) sM) (Ae (e:=36) Z Z Z)<|AS (v:=ab) Cc Z ap.rn.isSl (Ae (e:=36) Z Z Z)<|AG 117 [] [] [zI ((((p.getD k Fn.zero).outs).length:Nat):Int),zI ((1:Nat):Int),zI ((12:Nat):Int)] Z Z D2 (Ae (e:=36) Z Z Z) (.bool (decide (((1:Nat):Int)≤((((p.getD k Fn.zero).outs).length:Nat):Int)) && decide (((((p.getD k Fn.zero).outs).length:Nat):Int)≤((12:Nat):Int)))) (fun wq=>B4 wq _ _ _ oM oM oM) ?_
     refine Bq (!(decide (((1:Nat):Int)≤((((p.getD k Fn.zero).outs).length:Nat):Int)) && decide (((((p.getD k Fn.zero).outs).length:Nat):Int)≤((12:Nat):Int)))) Z Z (Ae (e:=36) Z Z Z)<|Ac 1 Z ?_
     cases b3:(!(decide (((1:Nat):Int)≤((((p.getD k Fn.zero).outs).length:Nat):Int)) && decide (((((p.getD k Fn.zero).outs).length:Nat):Int)≤((12:Nat):Int))))
     ·refine Aj (by first|rfl|exact zW b3)<|A2<|fE Z<|A0<|fC [0,2,0,0] Z<|Al (p:=zP w3.heap.size) 2 Br Z Z Aa<|Ag (p:=Ap (zP w3.heap.size) 2) (.inr Z) ab B7 Z (a0.ldp (i:=2) sM) Aa<|AS (v:=ab) Cc Z ap.rn.isSl Aa<|Ac 1 Z<|A3 ?_
      refine AW (S:=Nat×Nat) (fun⟨j,sz⟩=>([(5,zI (sz:Int)),(46,zI (j:Int)),(1,zP w.heap.size),(3,zI (k:Int)),(4,zP w3.heap.size),(13,vp),(14,zI (p.length:Int)),(15,zI (k:Int)),(44,ab),(45,zI ((((p.getD k Fn.zero).outs).length:Nat):Int))])) (fun⟨j,sz⟩ W=>AD w W∧BX W.heap w.heap.size [vp]∧BX W.heap w3.heap.size [.string<|(p.getD k Fn.zero).name,zI<|(p.getD k Fn.zero).params,ab]∧j≤(p.getD k Fn.zero).outs.length∧sz=Ex.sizes ((p.getD k Fn.zero).outs.take j)∧(List.range j).all (fun j=>MF p ((p.getD k Fn.zero).outs.getD j Ex.zero) (p.getD k Fn.zero).params (k:Int))=true) (fun⟨j,sz⟩=>(p.getD k Fn.zero).outs.length-j) (0,0) ⟨rfl,rfl,rfl,rfl,rfl,rfl,rfl,rfl,rfl,rfl,trivial⟩ ⟨ac,a6,a0,sD,(by rw[List.take_zero,MZ]),(by rfl)⟩ ?_
      clear a4 ax bh ay c3 bb bj bk a5 c4 bc bd bl aq a7 b1 ac a6
      rintro⟨j,sz⟩ ρ20 ci ⟨ad,a1,a3,bm,hsz,hqe⟩
      have bu:w.heap.size≤ci.heap.size:=ad.size
      have c7:=a1.lt
      have c8:=a3.lt
      refine fC [0] Z ?_
      by_cases b4:(j:Int)<((((p.getD k Fn.zero).outs).length:Nat):Int)
      ·refine AJ true Z Z (A5 b4) Aa<|Ai<|A0<|Af Z<|A2<|A0<|A3<|fC [0,2,3,4] Z<|AE (v:=ab) j Cc B3 Z Z ap.rn.isSl Z sD Aa ?_
       obtain⟨cs24,bn,bo⟩:=ap.rn.get (Ay dp) Ex.zero (k:=j) sD
       obtain⟨dd24,a2,c9,rfl,ag⟩:=RX.of bn
       have b5:=ag.rn.lenle
       unfold maxLen at b5
       refine AF (p:=AA ab j 5) (.inr Z) [zI<|(((p.getD k Fn.zero).outs).getD j Ex.zero).kind,zI<|(((p.getD k Fn.zero).outs).getD j Ex.zero).num,zI<|(((p.getD k Fn.zero).outs).getD j Ex.zero).pick,zI<|(((p.getD k Fn.zero).outs).getD j Ex.zero).count,a2] AX Z (fun cg af=>bo cg<|Ax.of_ext []<|ad.trans af) Z Aa ?_
       have ca:=a1.lt
       have cb:=a3.lt
       refine AU (z:=.agg #[zI 0,zI 0,zI 0,zI 0,zN]) Ec Aa fun ck ah cc ar=>?_
       have bv:=ah.size
       have b6:=ad.trans ah
       have a8:=a1.ext ah
       have a9:=a3.ext ah
       replace ar:BX ck.heap ci.heap.size [zI 0,zI 0,zI 0,zI 0,zN]:=ar
       refine B2 (vs:=[zI<|(((p.getD k Fn.zero).outs).getD j Ex.zero).kind,zI<|(((p.getD k Fn.zero).outs).getD j Ex.zero).num,zI<|(((p.getD k Fn.zero).outs).getD j Ex.zero).pick,zI<|(((p.getD k Fn.zero).outs).getD j Ex.zero).count,a2]) AX Z Z ag.ones ar Z Z Aa fun cj ai cd aj=>?_
       replace aj:BX cj.heap ci.heap.size [zI ((((p.getD k Fn.zero).outs).getD j Ex.zero).kind),zI ((((p.getD k Fn.zero).outs).getD j Ex.zero).num),zI ((((p.getD k Fn.zero).outs).getD j Ex.zero).pick),zI ((((p.getD k Fn.zero).outs).getD j Ex.zero).count),a2]:=aj
       have au:AD w cj:=ai.below b6 (fun _ h=>zE h) b6.size
       have bw:=ai.size
       have b7:=a8.chg ai (zB ·)
       have b8:=a9.chg ai (zB ·)
       refine Ai<|A0<|fC [2,2,0,2,0,3,0] Z ?_
       have hst:=E3 (l:=(p.getD k Fn.zero).outs) (k:=j) oM
       have hle:=Dz (p.getD k Fn.zero).outs (j+1)
       refine AF (p:=zP w.heap.size) (.inr Z) [vp] Ba Z (fun cg af=>LD.of_box<|BX.ext (w:=cj) b7 af) Z Aa<|AF (p:=zP ci.heap.size) (.inr Z) [zI<|(((p.getD k Fn.zero).outs).getD j Ex.zero).kind,zI<|(((p.getD k Fn.zero).outs).getD j Ex.zero).num,zI<|(((p.getD k Fn.zero).outs).getD j Ex.zero).pick,zI<|(((p.getD k Fn.zero).outs).getD j Ex.zero).count,a2] AX Z (fun cg af=>LD.of_box<|BX.ext (w:=cj) aj af) Z Aa<|Al (p:=zP w3.heap.size) 1 BI Z Z Aa<|Ag (p:=Ap (zP w3.heap.size) 1) (.inr Z) (zI<|(p.getD k Fn.zero).params) AI Z (b8.ldp (i:=1) sM) Aa<|Ad 1 Z ?_
       refine At 205 [] [] [.agg #[vp],.agg #[zI<|(((p.getD k Fn.zero).outs).getD j Ex.zero).kind,zI<|(((p.getD k Fn.zero).outs).getD j Ex.zero).num,zI<|(((p.getD k Fn.zero).outs).getD j Ex.zero).pick,zI<|(((p.getD k Fn.zero).outs).getD j Ex.zero).count,a2],zI<|(p.getD k Fn.zero).params,zI (k:Int)] Z Z cC Aa (Kw _ dp vp (p) dd24 a2 (((p.getD k Fn.zero).outs).getD j Ex.zero) _ _ (hp.ext (An<|Av dp) au) (ag.ext au) ap.rng oM oM) ?_
       rintro co cl ⟨rfl,aa⟩
       refine⟨_,rfl,aa,?_⟩
       have bx:=aa.size
       have av:=au.trans aa
       have ak:=b7.ext aa
       have al:=b8.ext aa
       have am:=aj.ext aa
       refine Bq (!(MF p (((p.getD k Fn.zero).outs).getD j Ex.zero) ((p.getD k Fn.zero).params) (k:Int))) Z Z Aa<|Ai ?_
       cases b9:(!(MF p (((p.getD k Fn.zero).outs).getD j Ex.zero) ((p.getD k Fn.zero).params) (k:Int)))
       ·refine Aj (by first|rfl|exact zW b9)<|A2<|Ab _ [0,2,3,0,0] Z<|Ad 1 Z<|AF (p:=zP ci.heap.size) (.inr Z) [zI<|(((p.getD k Fn.zero).outs).getD j Ex.zero).kind,zI<|(((p.getD k Fn.zero).outs).getD j Ex.zero).num,zI<|(((p.getD k Fn.zero).outs).getD j Ex.zero).pick,zI<|(((p.getD k Fn.zero).outs).getD j Ex.zero).count,a2] AX Z (fun cg af=>LD.of_box<|BX.ext (w:=cl) am af) Z Aa ?_
        refine At 206 [] [] [.agg #[zI<|(((p.getD k Fn.zero).outs).getD j Ex.zero).kind,zI<|(((p.getD k Fn.zero).outs).getD j Ex.zero).num,zI<|(((p.getD k Fn.zero).outs).getD j Ex.zero).pick,zI<|(((p.getD k Fn.zero).outs).getD j Ex.zero).count,a2]] Z Z UF Aa (HE _ dd24 a2 (((p.getD k Fn.zero).outs).getD j Ex.zero) (ag.ext av) oM) ?_
        rintro cp cq ⟨rfl,ae⟩
        refine⟨_,rfl,ae,?_⟩
        have bz:=ae.size
        have bp:=av.trans ae
        have an:=ak.ext ae
        have ao:=al.ext ae
        refine AR ((sz+((p.getD k Fn.zero).outs.getD j Ex.zero).size:Nat):Int) Z Z (Bl oM oM) Aa<|Ac 1 Z<|Ab _ [0,0] Z<|AR ((j+1:Nat):Int) Z Z (Bl oM sD) Aa<|Ac 1 Z ?_
        exact⟨(j+1,sz+((p.getD k Fn.zero).outs.getD j Ex.zero).size),_,rfl,zR,⟨bp,an,ao,sD,oM,(by exact Eb hqe (By (by assumption)))⟩,zD⟩
       refine Af (by first|rfl|exact zW b9)<|fE Z<|A1<|Ao<|AL<|Ao<|Ao<|AL<|Ao<|AL<|Ao<|Ao<|AL<|Ao ?_
       exact Ah [2] Z (.bool false) Z ⟨Ih,av⟩
      refine AJ false Z Z (A6 b4) Aa<|Ai<|A0<|Aj Z<|A4<|Az<|Az<|Aw<|fC [0,0] Z ?_
      have hal:=N1 (l:=(p.getD k Fn.zero).outs) (k:=j) oM
      refine Ad 1 Z ?_
      by_cases ba:((400:Nat):Int)<(sz:Int)
      ·exact Cj true Z Z (A5 ba) Aa<|Ai<|Af Z<|fE Z<|A1<|AL<|Ao<|Ao<|AL<|Ao<|Ah [2] Z (.bool false) Z ⟨Ih,ad⟩
      refine Cj false Z Z (A6 ba) Aa<|Ai<|Aj Z<|A2<|Ab _ [0,0] Z<|AR ((k+1:Nat):Int) Z Z (Bl oM sD) Aa<|Ac 1 Z ?_
      exact⟨k+1,_,rfl,zR,⟨ad,a1,sD,(by exact Eb hq (Yi (By (by assumption)) (by assumption) (By (by assumption)) (By (by assumption)) hqe oM oM))⟩,zD⟩
     exact Af (by first|rfl|exact zW b3)<|fE Z<|A1<|Ao<|AL<|Ao<|Ao<|AL<|Ao<|Ah [2] Z (.bool false) Z ⟨Ih,ac⟩
    exact Ac 6 Z<|Af Z<|fE Z<|A1<|Ao<|AL<|Ao<|Ao<|AL<|Ao<|Ah [2] Z (.bool false) Z ⟨Ih,ac⟩
   exact Af (by first|rfl|exact zW b2)<|fE Z<|A1<|Ao<|AL<|Ao<|Ao<|AL<|Ao<|Ah [2] Z (.bool false) Z ⟨Ih,ac⟩
  exact Ac 7 Z<|Af Z<|fE Z<|A1<|Ao<|AL<|Ao<|Ao<|AL<|Ao<|Ah [2] Z (.bool false) Z ⟨Ih,bd⟩
 exact AJ false Z Z (A6 bt) Aa<|Ai<|A0<|Aj Z<|A4<|Az<|Az<|Aw<|fE Z<|A1<|Ah [2] Z (.bool true) Z ⟨Ih,ax⟩
theorem Yj {p:List Fn}{f:Int}(h:Ef p=false):1=Gx p f:=by unfold Gx;rw[h];rfl
theorem Yk {p:List Fn}{f:Int}(h:Ef p=true)(h2:¬(0≤f∧f≤((p.length:Nat):Int)-1)):2=Gx p f:=by unfold Gx;rw[if_pos h,if_neg h2]
theorem Yl {p:List Fn}{f:Int}(h:Ef p=true)(h2:0≤f∧f≤((p.length:Nat):Int)-1):0=Gx p f:=by unfold Gx;rw[if_pos h,if_pos h2]
theorem Q6 {p:Prop}(h:p:=by first|exact Bf (Yj (Bz (by assumption)))|exact Bf (Yk (By (by assumption)) (Pm (Bz (by assumption))))|exact Bf (Yl (By (by assumption)) (HF (By (by assumption))))):p:=h
theorem GE (w:World)(dp:Nat)(vp:Value)(p:List Fn)(f:Int)(hp:RP [] dp w.heap vp p)(_hf:BG f)(hz:LF p) :
  Calls Tryz.prog 100 #[(.agg #[vp]),zI f] w (fun e w'=>e=.returned (zI (Gx p f))∧AD w w'):=by
 refine Au [.agg #[vp],zI f] 17 Tryz.func100 Z Z sM ?_
 have a8:AD w w:=AD.refl w
 have ad:=hp.lenle
 unfold maxLen at ad
 refine fC [3,0] Z (Bv (cs:=#[vp]) Z Aa fun w1 a4 ac a1=>?_)
 have a9:=a4.size
 have a5:=a8.trans a4
 replace a1:BX w1.heap w.heap.size [vp]:=a1
 refine Ac 1 Z<|A0<|A3<|fC [2,3,0,0] Z<|AF (p:=zP w.heap.size) (.inr Z) [vp] Ba Z (fun ae aa=>LD.of_box<|BX.ext (w:=w1) a1 aa) Z Aa<|At 137 [] [] [.agg #[vp]] Z Z Rz Aa (CW _ dp vp (p) (hp.ext (An<|Av dp) a5) hz) ?_
 rintro e2 w2 ⟨rfl,a2⟩
 refine⟨_,rfl,a2,?_⟩
 have ab:=a2.size
 have a3:=a5.trans a2
 have a0:=a1.ext a2
 refine Bq (!(Ef p)) Z Z Aa<|Ac 1 Z ?_
 cases a6:(!(Ef p))
 ·refine Aj (by first|rfl|exact zW a6)<|fC [0,0,2,0,0,0,0,0] Z<|Ad 1 Z<|Al (p:=zP w.heap.size) 0 B8 Z Z Aa<|Ag (p:=Ap (zP w.heap.size) 0) (.inr Z) vp Bt Z (a0.ldp (i:=0) sM) Aa<|AS (v:=vp) Du Z hp.isSl Aa<|BJ ((p.length:Int)-1) Z Z (DH oM oM) Aa<|AG 117 [] [] [zI f,zI ((0:Nat):Int),zI ((p.length:Int)-1)] Z Z D2 Aa (.bool (decide (((0:Nat):Int)≤f) && decide (f≤((p.length:Int)-1)))) (fun wq=>B4 wq _ _ _ _hf oM oM) ?_
  refine Bq (!(decide (((0:Nat):Int)≤f) && decide (f≤((p.length:Int)-1)))) Z Z Aa<|Ac 1 Z ?_
  cases a7:(!(decide (((0:Nat):Int)≤f) && decide (f≤((p.length:Int)-1))))
  ·exact Aj (by first|rfl|exact zW a7)<|A2<|fE Z<|A1<|Ah [4] Z (zI ((0:Nat):Int)) Z ⟨Q6,a3⟩
  exact Af (by first|rfl|exact zW a7)<|fE Z<|A1<|AL<|Ao<|Ah [4] Z (zI ((2:Nat):Int)) Z ⟨Q6,a3⟩
 exact Af (by first|rfl|exact zW a6)<|fE Z<|A1<|AL<|Ao<|Ah [4] Z (zI ((1:Nat):Int)) Z ⟨Q6,a3⟩
theorem fm {p:List Fn}{f:Int}(h:Gx p f≠0):QX p f=false:=by
  unfold Gx at h
  unfold QX
  by_cases h1:Ef p=true
  · rw[if_pos h1]at h
    cases h2:Ng p f with
    |false=>rw[Bool.and_false]
    |true=>rw[if_pos (Gk.1 h2).1]at h;exact absurd Z h
  · rw[show Ef p=false from by simpa using h1];rfl
theorem dG {p:List Fn}{f:Int}(h:Gx p f=0){b:Bool}(hb:b=(decide (1≤(p.getD f.toNat Fn.zero).params) && decide ((((p.getD f.toNat Fn.zero).outs.length:Nat):Int)=(p.getD f.toNat Fn.zero).params))):QX p f=b:=by
  obtain⟨h1,h2⟩:=OV h
  unfold QX Ng
  rw[h1,show Ey f 0 (((p.length:Nat):Int)-1)=true from BH.2 ⟨h2.1,zO⟩,hb,Bool.true_and,Bool.true_and]
theorem Q7 {p:Prop}(h:p:=by first|exact AP (fm oM).symm|exact AP (dG oM (by rw[A5 (show 1≤(p.getD f.toNat Fn.zero).params by omega),Bool.true_and])).symm|exact AP (dG oM (by rw[A6 (show ¬1≤(p.getD f.toNat Fn.zero).params by omega),Bool.false_and])).symm):p:=h
theorem K5 (w:World)(dp:Nat)(vp:Value)(p:List Fn)(f:Int)(hp:RP [] dp w.heap vp p)(_hf:BG f)(hz:LF p) :
  Calls Tryz.prog 199 #[(.agg #[vp]),zI f] w (fun e w'=>e=.returned (.bool (QX p f))∧AD w w'):=by
 refine Au [.agg #[vp],zI f] 34 Tryz.func199 Z Z sM ?_
 have ac:AD w w:=AD.refl w
 have aj:=hp.lenle
 unfold maxLen at aj
 refine fC [3,0] Z (Bv (cs:=#[vp]) Z Aa fun w1 a6 ah a4=>?_)
 have ad:=a6.size
 have a7:=ac.trans a6
 replace a4:BX w1.heap w.heap.size [vp]:=a4
 refine Ac 1 Z<|A0<|AQ _ [1,0,3,0,0,0,2,0,0,0,2,0,0,0,0,2,0,0,0,2,0,0,2,0,0,0,2,0,0,0] mixed (by kernel_rfl)<|AF (p:=zP w.heap.size) (.inl Z) [vp] Ba Z (fun ak ae=>LD.of_box<|BX.ext (w:=w1.drew) a4 ae) Z Aa<|Ad 1 Z<|At 100 [] [] [.agg #[vp],zI f] Z Z Uv Aa (GE _ dp vp (p) _ (hp.ext (An<|Av dp) a7.drew) _hf hz) ?_
 rintro e2 w2 ⟨rfl,a2⟩
 refine⟨_,rfl,a2,?_⟩
 replace a2:=a2.of_drew
 have af:=a2.size
 have a1:=a7.trans a2
 have a0:=a4.ext a2
 by_cases a8:Gx p f=((0:Nat):Int)
 ·refine As true Z Z (A5 a8) Aa<|Ad 1 Z ?_
  have ai:=OV (p:=p) (f:=f) oM
  refine Al (p:=zP w.heap.size) 0 B8 Z Z (Ae (e:=9) Z Z Z)<|Ag (p:=Ap (zP w.heap.size) 0) (.inr Z) vp Bt Z (a0.ldp (i:=0) sM) (Ae (e:=9) Z Z Z)<|Ad 1 Z<|AE (v:=vp) ((f).toNat) Du BD Z Z hp.isSl oM sD (Ae (e:=9) Z Z Z) ?_
  obtain⟨cs4,ag,a3⟩:=hp.get (Av dp) Fn.zero (k:=(f).toNat) sD
  obtain⟨a9,rfl,aa⟩:=RF.of ag
  have a5:=aa.rn.lenle
  unfold maxLen at a5
  refine AB (p:=AA vp ((f).toNat) 3) 1 BI Z (a3 _<|Ax.of_ext [] a1) (Ae (e:=9) Z Z Z)<|Ag (p:=Ap (AA vp ((f).toNat) 3) 1) (.inr Z) (zI<|(p.getD ((f).toNat) Fn.zero).params) AI Z ((a3 _<|Ax.of_ext [] a1).ld (i:=1) (by simp[DT,E2])) (Ae (e:=9) Z Z Z) ?_
  by_cases ab:((1:Nat):Int)≤(p.getD ((f).toNat) Fn.zero).params
  ·refine DN true Z Z (A5 ab) (Ae (e:=9) Z Z Z)<|Ad 2 Z<|Al (p:=zP w.heap.size) 0 B8 Z Z (Ae (e:=18) Z Z Z)<|Ag (p:=Ap (zP w.heap.size) 0) (.inr Z) vp Bt Z (a0.ldp (i:=0) sM) (Ae (e:=18) Z Z Z)<|Ad 1 Z ?_
   refine AE (v:=vp) ((f).toNat) Du BD Z Z hp.isSl oM sD (Ae (e:=18) Z Z Z)<|AB (p:=AA vp ((f).toNat) 3) 2 Br Z (a3 _<|Ax.of_ext [] a1) (Ae (e:=18) Z Z Z)<|Ag (p:=Ap (AA vp ((f).toNat) 3) 2) (.inr Z) a9 B7 Z ((a3 _<|Ax.of_ext [] a1).ld (i:=2) (by simp[DT,E2])) (Ae (e:=18) Z Z Z)<|AS (v:=a9) Cc Z aa.rn.isSl (Ae (e:=18) Z Z Z) ?_
   refine Al (p:=zP w.heap.size) 0 B8 Z Z (Ae (e:=18) Z Z Z)<|Ag (p:=Ap (zP w.heap.size) 0) (.inr Z) vp Bt Z (a0.ldp (i:=0) sM) (Ae (e:=18) Z Z Z)<|Ad 1 Z<|AE (v:=vp) ((f).toNat) Du BD Z Z hp.isSl oM sD (Ae (e:=18) Z Z Z) ?_
   refine AB (p:=AA vp ((f).toNat) 3) 1 BI Z (a3 _<|Ax.of_ext [] a1) (Ae (e:=18) Z Z Z)<|Ag (p:=Ap (AA vp ((f).toNat) 3) 1) (.inr Z) (zI<|(p.getD ((f).toNat) Fn.zero).params) AI Z ((a3 _<|Ax.of_ext [] a1).ld (i:=1) (by simp[DT,E2])) (Ae (e:=18) Z Z Z)<|As (decide (((((p.getD ((f).toNat) Fn.zero).outs).length:Nat):Int)=(p.getD ((f).toNat) Fn.zero).params)) Z Z Z (Ae (e:=18) Z Z Z)<|Ac 2 Z<|A1 ?_
   exact Ah [4] Z (.bool<|decide (((((p.getD ((f).toNat) Fn.zero).outs).length:Nat):Int)=(p.getD ((f).toNat) Fn.zero).params)) Z ⟨Q7,a1⟩
  exact DN false Z Z (A6 ab) (Ae (e:=9) Z Z Z)<|Ac 18 Z<|A1<|Ah [4] Z (.bool false) Z ⟨Q7,a1⟩
 exact As false Z Z (A6 a8) Aa<|Ac 26 Z<|A1<|Ah [4] Z (.bool false) Z ⟨Q7,a1⟩
theorem fo {p:List Fn}{f:Int}{l:List Sr}(h:Ef p=false):1=DO p f l:=by unfold DO;rw[h];rfl
theorem fp {p:List Fn}{f:Int}{l:List Sr}(h:Ef p=true)(h2:QX p f=false):2=DO p f l:=by
  unfold QX at h2;rw[h,Bool.true_and]at h2
  unfold DO;rw[if_pos h,h2];rfl
theorem fq {p:List Fn}{f:Int}{l:List Sr}{k:Nat}(h:QX p f=true)(hk:k<l.length)(hb:(decide ((((l.getD k []).length:Nat):Int)=(p.getD f.toNat Fn.zero).params) && Bb (l.getD k []))=false):2=DO p f l:=by
  unfold QX at h;rw[z7]at h
  unfold DO;rw[if_pos h.1,if_pos h.2,OF (f:=(fun s=>decide (((s.length:Nat):Int)=(p.getD f.toNat Fn.zero).params) && Bb s)) [] hk hb];rfl
theorem ft {p:List Fn}{f:Int}{l:List Sr}{k:Nat}(h:QX p f=true)(hl:(l.take k).all (fun s=>decide (((s.length:Nat):Int)=(p.getD f.toNat Fn.zero).params) && Bb s)=true)(hk:l.length≤k):0=DO p f l:=by
  unfold QX at h;rw[z7]at h
  unfold DO;rw[if_pos h.1,if_pos h.2,OG hl hk];rfl
theorem Oc {p:Prop}(h:p:=by first|exact Bf (fo (Bz (by assumption)))|exact Bf (fp (By (by assumption)) (Bz (by assumption)))|exact Bf (fq (k:=k) hrn oM (Bz (by assumption)))|exact Bf (ft hrn hq oM)):p:=h
theorem EG (w:World)(dp:Nat)(vp:Value)(p:List Fn)(f:Int)(vl:Value)(l:List (Sr))(hp:RP [] dp w.heap vp p)(_hf:BG f)(hl:RN [] (Bd (Bd rI)) w.heap vl l)(hql:Cs vl)(hz:LF p) :
  Calls Tryz.prog 125 #[(.agg #[vp]),zI f,vl] w (fun e w'=>e=.returned (zI (DO p f l))∧AD w w'):=by
 refine Au [.agg #[vp],zI f,vl] 34 Tryz.func125 Z Z sM ?_
 have ao:AD w w:=AD.refl w
 have b3:=hp.lenle
 unfold maxLen at b3
 have b4:=hl.lenL
 unfold maxLen at b4
 refine fC [3,0] Z (Bv (cs:=#[vp]) Z Aa fun w1 af ay ad=>?_)
 have ag:=af.size
 have ah:=ao.trans af
 replace ad:BX w1.heap w.heap.size [vp]:=ad
 refine Ac 1 Z<|A0<|A3<|fC [2,3,0,0] Z<|AF (p:=zP w.heap.size) (.inr Z) [vp] Ba Z (fun b5 ai=>LD.of_box<|BX.ext (w:=w1) ad ai) Z Aa<|At 137 [] [] [.agg #[vp]] Z Z Rz Aa (CW _ dp vp (p) (hp.ext (An<|Av dp) ah) hz) ?_
 rintro e2 w2 ⟨rfl,a5⟩
 refine⟨_,rfl,a5,?_⟩
 have aj:=a5.size
 have ae:=ah.trans a5
 have a3:=ad.ext a5
 refine Bq (!(Ef p)) Z Z Aa<|Ac 1 Z ?_
 cases ap:(!(Ef p))
 ·refine Aj (by first|rfl|exact zW ap)<|fC [2,0,3,0,0] Z<|AF (p:=zP w.heap.size) (.inr Z) [vp] Ba Z (fun b5 ai=>LD.of_box<|BX.ext (w:=w2) a3 ai) Z Aa<|Ad 1 Z<|At 199 [] [] [.agg #[vp],zI f] Z Z bX Aa (K5 _ dp vp (p) _ (hp.ext (An<|Av dp) ae) _hf hz) ?_
  rintro e4 w4 ⟨rfl,a6⟩
  refine⟨_,rfl,a6,?_⟩
  have ak:=a6.size
  have al:=ae.trans a6
  have a7:=a3.ext a6
  refine Bq (!(QX p f)) Z Z Aa<|Ac 1 Z ?_
  cases aq:(!(QX p f))
  ·refine Aj (by first|rfl|exact zW aq)<|A2<|A0<|fC [0,0,0] Z ?_
   have hrn:QX p f=true:=By (by assumption)
   have hrf:=Gk.1 (z7 .. ▸ hrn:Ef p=true∧Ng p f=true).2
   refine Ad 1 Z<|AS (v:=vl) Cb Z hl.slL Aa<|Ac 1 Z<|A3 ?_
   refine AW (S:=Nat) (fun k=>([(20,zI (k:Int)),(1,zI f),(3,zP w.heap.size),(18,vl),(19,zI (l.length:Int))])) (fun k W=>AD w W∧BX W.heap w.heap.size [vp]∧k≤l.length∧(l.take k).all (fun s=>decide ((s.length:Int)=(p.getD f.toNat Fn.zero).params) && Bb s)=true) (fun k=>l.length-k) 0 ⟨rfl,rfl,rfl,rfl,rfl,trivial⟩ ⟨al,a7,sD,rfl⟩ ?_
   clear ao ay af ag ah a5 aj ae a6 ak al
   rintro k ρ6 w6 ⟨a4,a0,ar,hq⟩
   have az:w.heap.size≤w6.heap.size:=a4.size
   have b2:=a0.lt
   refine fC [0] Z ?_
   by_cases au:(k:Int)<(l.length:Int)
   ·refine AJ true Z Z (A5 au) Aa<|Ai<|A0<|Af Z<|A2<|A0<|A3<|fC [0,2,0] Z<|AE (v:=vl) k Cb Bo Z Z hl.slL Z sD Aa ?_
    obtain⟨av,b0,aw⟩:=RN.getL (w:=w) g1 [] (k:=k) hl sD
    have am:=aw.lenL
    unfold maxLen at am
    refine Ag (p:=AA vl k 1) (.inr Z) av Bx Z (b0 _<|Ax.of_ext [] a4) Aa<|Ac 1 Z<|fC [0,0,2,0,0,0,2,3,0] Z<|Ad 1 Z<|Al (p:=zP w.heap.size) 0 B8 Z Z Aa<|Ag (p:=Ap (zP w.heap.size) 0) (.inr Z) vp Bt Z (a0.ldp (i:=0) sM) Aa<|Ad 1 Z ?_
    refine AE (v:=vp) ((f).toNat) Du BD Z Z hp.isSl oM sD Aa ?_
    obtain⟨cs10,an,a8⟩:=hp.get (Av dp) Fn.zero (k:=(f).toNat) sD
    obtain⟨b1,rfl,a9⟩:=RF.of an
    have aa:=a9.rn.lenle
    unfold maxLen at aa
    refine AB (p:=AA vp ((f).toNat) 3) 1 BI Z (a8 _<|Ax.of_ext [] a4) Aa<|Ag (p:=Ap (AA vp ((f).toNat) 3) 1) (.inr Z) (zI<|(p.getD ((f).toNat) Fn.zero).params) AI Z ((a8 _<|Ax.of_ext [] a4).ld (i:=1) (by simp[DT,E2])) Aa<|At 86 [] [] [av,zI<|(p.getD ((f).toNat) Fn.zero).params] Z Z Uu Aa (CO _ _ _ _ (aw.ext g1 a4).rd a9.rng) ?_
    rintro b6 b7 ⟨rfl,a2⟩
    refine⟨_,rfl,a2,?_⟩
    have ax:=a2.size
    have ab:=a4.trans a2
    have a1:=a0.ext a2
    refine Bq (!(decide ((((l.getD k []).length:Nat):Int)=((p.getD ((f).toNat) Fn.zero).params)) && Bb (l.getD k []))) Z Z Aa<|Ai ?_
    cases ac:(!(decide ((((l.getD k []).length:Nat):Int)=((p.getD ((f).toNat) Fn.zero).params)) && Bb (l.getD k [])))
    ·refine Aj (by first|rfl|exact zW ac)<|A2<|Ab _ [0,0] Z<|AR ((k+1:Nat):Int) Z Z (Bl oM sD) Aa<|Ac 1 Z ?_
     exact⟨k+1,_,rfl,zR,⟨ab,a1,sD,(by exact OE (f:=fun s=>decide ((s.length:Int)=(p.getD f.toNat Fn.zero).params) && Bb s) [] hq oM (By (by assumption)))⟩,zD⟩
    exact Af (by first|rfl|exact zW ac)<|fE Z<|A1<|AL<|Ao<|Ao<|AL<|Ao<|Ah [6] Z (zI ((2:Nat):Int)) Z ⟨Oc,ab⟩
   exact AJ false Z Z (A6 au) Aa<|Ai<|A0<|Aj Z<|A4<|Az<|Az<|Aw<|fE Z<|A1<|Ah [6] Z (zI ((0:Nat):Int)) Z ⟨Oc,a4⟩
  exact Af (by first|rfl|exact zW aq)<|fE Z<|A1<|AL<|Ao<|Ah [6] Z (zI ((2:Nat):Int)) Z ⟨Oc,al⟩
 exact Af (by first|rfl|exact zW ap)<|fE Z<|A1<|AL<|Ao<|Ah [6] Z (zI ((1:Nat):Int)) Z ⟨Oc,ae⟩
theorem HG (w:World)(n:Int)(_hn:BG n)  :
  Calls Tryz.prog 126 #[zI n] w (fun e w'=>e=.returned (.bool (Ey n 0 40))∧AD w w'):=by
 refine Au [zI n] 5 Tryz.func126 Z Z sM ?_
 have a0:AD w w:=AD.refl w
 exact fE Z<|fC [0,0,0] Z<|Ad 1 Z<|AG 117 [] [] [zI n,zI ((0:Nat):Int),zI ((40:Nat):Int)] Z Z D2 Aa (.bool (decide (((0:Nat):Int)≤n) && decide (n≤((40:Nat):Int)))) (fun wq=>B4 wq _ _ _ _hn oM oM)<|Ac 1 Z<|A1<|Ah [2] Z (.bool (decide (((0:Nat):Int)≤n) && decide (n≤((40:Nat):Int)))) Z ⟨rfl,a0⟩
theorem IL (w:World)(dp:Nat)(vp:Value)(p:List Fn)(f:Int)(va:Value)(a:Sr)(hp:RP [] dp w.heap vp p)(_hf:BG f)(ha:Rd (Bd rI) w.heap va a)(hvp:Hz p)(hf:0≤f∧f<(p.length:Int))(hl:(a.length:Int)=(p.getD f.toNat Fn.zero).params)(hna:Bb a=true) :
  Calls Tryz.prog 200 #[(.agg #[vp]),zI f,va] w (fun e w'=>∃v0:Value,e=.returned (.tuple #[v0,zI (FS p f.toNat a)])∧AD w w'∧Fr (BA rI 2) w.heap.size w'.heap.size w'.heap v0 (Lh p f.toNat a)∧TA p f.toNat a):=by
 refine Au [.agg #[vp],zI f,va] 25 Tryz.func200 Z Z sM ?_
 have ag:AD w w:=AD.refl w
 have ap:=hp.lenle
 unfold maxLen at ap
 have aq:=ha.lenle
 have hpar:=hvp.par f.toNat oM
 have hsl:(BB a).length=a.length:=by unfold BB;rw[zg]
 refine fC [3,0,0] Z (Bv (cs:=#[vp]) Z Aa fun w1 ab ao a7=>?_)
 have ah:=ab.size
 have ac:=ag.trans ab
 replace a7:BX w1.heap w.heap.size [vp]:=a7
 refine Ac 2 Z<|A0<|AQ _ [1,0,0,3,3,0,0,0,0,0,0,0] mixed (by kernel_rfl)<|AF (p:=zP w.heap.size) (.inl Z) [vp] Ba Z (fun ar ai=>LD.of_box<|BX.ext (w:=w1.drew) a7 ai) Z Aa<|Ad 2 Z<|At 89 [] [] [va] Z Z Zr Aa (FZ _ _ _ (ha.ext g1 ac.drew) oM) ?_
 rintro e2 w2 ⟨a2,rfl,a3,a0⟩
 refine⟨_,rfl,a3,?_⟩
 replace a3:=a3.of_drew
 have aj:=a3.size
 have ad:=ac.trans a3
 replace a0:=a0.low (B':=w1.heap.size)<|A7 _
 refine At 142 [] [] [.agg #[vp],zI f,a2,zI ((0:Nat):Int)] Z Z UA Aa (CT _ dp vp (p) _ a2 (BB a) (0) (hp.ext (An<|Av dp) ad) _hf (RN.of_fr2 a0 fun b hb=>by cases hb) a0.cap hvp oM oM (by exact C1 hna) oM) ?_
 rintro e3 w3 ⟨a1,rfl,a8,a4,ae⟩
 refine⟨_,rfl,a8,?_⟩
 have ak:=a8.size
 have a9:=ad.trans a8
 refine Ad 1 Z<|AO (vs:=[a1,zI ((J8 p (0+1) f.toNat (BB a):Nat):Int),zI<|H7 p (0+1) f.toNat<|BB a]) a1 Z Z Aa<|AO (vs:=[a1,zI ((J8 p (0+1) f.toNat (BB a):Nat):Int),zI<|H7 p (0+1) f.toNat<|BB a]) (zI ((J8 p (0+1) f.toNat (BB a):Nat):Int)) Z Z Aa<|AO (vs:=[a1,zI ((J8 p (0+1) f.toNat (BB a):Nat):Int),zI<|H7 p (0+1) f.toNat<|BB a]) (zI<|H7 p (0+1) f.toNat<|BB a) Z Z Aa<|Ac 3 Z<|A0<|fC [0,0] Z ?_
 have hEV:=‹Va p (0+1) f.toNat (BB a)›
 have hec:0≤FS p f.toNat a∧FS p f.toNat a≤9:=hEV.code
 have hes:=hEV.ser
 have hel:=hEV.len
 have hne:FS p f.toNat a=H7 p (0+1) f.toNat (BB a):=rfl
 have au:=hvp.outs f.toNat oM
 refine Ad 1 Z ?_
 by_cases af:H7 p (0+1) f.toNat (BB a)≠((0:Nat):Int)
 ·exact AT true Z Z (A5 af) Aa<|Ai<|Af Z<|fC [0,0,0] Z<|Ac 3 Z<|A1<|Ao<|Ah [6,7] Z (.tuple #[zN,zI<|H7 p (0+1) f.toNat<|BB a]) Z ⟨zN,rfl,a9,(by rw[(TA.mk' hEV).non oM];exact Gf _ _ _),TA.mk' hEV⟩
 refine AT false Z Z (A6 af) Aa<|Ai<|Aj Z<|A2<|fC [0,3,0,0] Z<|Ad 1 Z<|At 106 [] [] [a1] Z Z Rw Aa (EV _ _ _ a4.rd2 oM (by intro k9 al;have:=(hes k9 al).1;omega)) ?_
 rintro e5 w5 ⟨a5,rfl,aa,a6⟩
 refine⟨_,rfl,aa,?_⟩
 have am:=aa.size
 have an:=a9.trans aa
 exact Ac 2 Z<|A1<|Ah [6,7] Z (.tuple #[a5,zI ((0:Nat):Int)]) Z ⟨a5,(by rw[show FS p f.toNat a=0 from by omega];rfl),an,(a6.up o1).low a9.size,TA.mk' hEV⟩
theorem CF (w:World)(dp:Nat)(vp:Value)(p:List Fn)(f:Int)(va:Value)(a:Sr)(n:Int)(hp:RP [] dp w.heap vp p)(_hf:BG f)(ha:Rd (Bd rI) w.heap va a)(_hn:BG n)(hvp:Hz p)(hf:0≤f∧f<(p.length:Int))(hl:(a.length:Int)=(p.getD f.toNat Fn.zero).params)(hna:Bb a=true)(hn:0≤n∧n≤40)(hou:((p.getD f.toNat Fn.zero).outs.length:Int)=(p.getD f.toNat Fn.zero).params) :
  Calls Tryz.prog 127 #[(.agg #[vp]),zI f,va,zI n] w (fun e w'=>∃v0:Value,e=.returned (.tuple #[v0,zI (G8 p f.toNat a n.toNat)])∧AD w w'∧Fr (BA (BA rI 2) 27) w.heap.size w'.heap.size w'.heap v0 (Z7 p f.toNat a n.toNat)∧TB p f.toNat a n.toNat):=by
 refine Au [.agg #[vp],zI f,va,zI n] 40 Tryz.func127 Z Z sM ?_
 have b2:AD w w:=AD.refl w
 have bo:=hp.lenle
 unfold maxLen at bo
 have bp:=ha.lenle
 have hpar:=hvp.par f.toNat oM
 refine fC [3,0,0] Z (Bv (cs:=#[vp]) Z Aa fun w1 ao be ap=>?_)
 have bf:=ao.size
 have al:=b2.trans ao
 replace ap:BX w1.heap w.heap.size [vp]:=ap
 refine Ac 2 Z<|fC [0,3,3,0] Z<|Ad 1 Z<|At 130 [] [] [va] Z Z Ry Aa (BU _ _ _ (ha.ext g1 al) oM) ?_
 rintro e2 w2 ⟨aq,rfl,ad,aa⟩
 refine⟨_,rfl,ad,?_⟩
 have ar:=ad.size
 have b3:=al.trans ad
 have ae:=ap.ext ad
 refine Cd (u:=aq) (B:=w1.heap.size) o1 Cb Bo Z Z aa (by first|exact A7 _|omega) Aa fun v3 w3 am bg b4=>?_
 have au:=am.size
 have b5:=b3.trans am
 have af:=ae.ext am
 refine Ac 1 Z<|A0<|fC [0,0] Z<|Ac 2 Z<|A3 ?_
 refine AW (S:=Nat×Value) (fun⟨k,vo⟩=>([(10,vo),(18,zI (k:Int)),(1,zI f),(4,zP w.heap.size),(17,zI n)])) (fun⟨k,vo⟩ W=>AD w W∧Fr (BA (BA rI 2) 27) w1.heap.size W.heap.size W.heap vo (EB (k+1)<|DJ p f.toNat a)∧BX W.heap w.heap.size [vp]∧k≤n.toNat∧G8 p f.toNat a k=0∧((DJ p f.toNat a k).length:Int)=(p.getD f.toNat Fn.zero).params∧Bb (DJ p f.toNat a k)=true∧(∀j,j≤k→(DJ p f.toNat a j).length=a.length)∧w.heap.size<w1.heap.size∧w1.heap.size≤W.heap.size) (fun⟨k,vo⟩=>n.toNat-k) (0,v3) ⟨rfl,rfl,rfl,rfl,rfl,trivial⟩ ⟨b5,b4.up o2,af,sD,(by rfl),hl,hna,(by intro j hj;rw[show j=0 from by omega];rfl),oM,oM⟩ ?_
 clear b2 be ao aa ad ar b3 b4 bg am au b5
 rintro⟨k,vo⟩ ρ5 w5 ⟨an,a2,a5,b6,hrk,hrl,hrn,hrj,bh,bi⟩
 have bj:w.heap.size≤w5.heap.size:=an.size
 have hti:=CE (f:=DJ p f.toNat a) (n:=k+1) (k:=k) [] oM
 have htl:(EB (k+1) (DJ p f.toNat a)).length=k+1:=by simp[EB]
 have bn:=a5.lt
 refine fC [0] Z ?_
 by_cases b7:(k:Int)<n
 ·refine AJ true Z Z (A5 b7) Aa<|Ai<|A0<|Af Z<|A2<|A0<|A3<|fC [0,0] Z<|Ac 2 Z<|A0<|AQ _ [1,0,0,0,0,1,3,0,0,0,0,0] mixed (by kernel_rfl)<|AF (p:=zP w.heap.size) (.inl Z) [vp] Ba Z (fun bt bk=>LD.of_box<|BX.ext (w:=w5.drew) a5 bk) Z Aa<|Ad 3 Z ?_
  refine AE (v:=vo) k Cb Bo Z Z a2.isSl Z sD Aa ?_
  obtain⟨b8,b9,av⟩:=a2.rd2.get (k:=k) [] sD
  have bl:=av.lenle
  refine Ag (p:=AA vo k 1) (.inl Z) b8 Bx Z b9 Aa<|At 200 [] [] [.agg #[vp],zI f,b8] Z Z bY Aa (IL _ dp vp (p) _ _ _ (hp.ext (An<|Av dp) an.drew) _hf av hvp oM (by rw[hti];exact hrl) (by rw[hti];exact hrn)) ?_
  rintro bu bv ⟨a3,rfl,a0,a1,aw⟩
  refine⟨_,rfl,a0,?_⟩
  replace a0:=a0.of_drew
  have ba:=a0.size
  have ag:=an.trans a0
  have a6:=a2.ext (o2) a0
  have a7:=a5.ext a0
  have ab:=av.ext g1 a0
  have ah:=Bp a0 b9
  replace a1:=a1.low (B':=w5.heap.size)<|A7 _
  refine Ad 1 Z<|AO (vs:=[a3,zI<|FS p f.toNat<|(EB (k+1)<|DJ p f.toNat a).getD k []]) a3 Z Z Aa<|AO (vs:=[a3,zI<|FS p f.toNat<|(EB (k+1)<|DJ p f.toNat a).getD k []]) (zI<|FS p f.toNat<|(EB (k+1)<|DJ p f.toNat a).getD k []) Z Z Aa<|Ac 2 Z<|A0<|fC [0,0] Z ?_
  have hNX:=‹TA p f.toNat ((EB (k+1)<|DJ p f.toNat a).getD k [])›
  rw[hti]at hNX
  have hnc:=hNX.code
  have hcd:FS p f.toNat ((EB (k+1) (DJ p f.toNat a)).getD k [])=FS p f.toNat (DJ p f.toNat a k):=by rw[hti]
  refine Ad 1 Z ?_
  by_cases ai:FS p f.toNat ((EB (k+1) (DJ p f.toNat a)).getD k [])≠((0:Nat):Int)
  ·refine AT true Z Z (A5 ai) Aa<|Ai<|Af Z<|fC [0,0,0] Z<|Ac 3 Z<|A1<|Ao<|AL<|Ao<|Ao<|AL<|Ao ?_
   have hfc:G8 p f.toNat a n.toNat=FS p f.toNat (DJ p f.toNat a k):=by rw[LP (k:=k+1) (by rw[GW hrk];omega) oM,GW hrk]
   exact Ah [8,9] Z (.tuple #[zN,zI<|FS p f.toNat<|(EB (k+1)<|DJ p f.toNat a).getD k []]) Z ⟨zN,(by rw[hfc,hti]),ag,(by rw[Tz (by rw[hfc];omega)];exact Gf _ _ _),TB.err hfc oM hnc⟩
  refine AT false Z Z (A6 ai) Aa<|Ai<|Aj Z<|A2<|Ab _ [0,0,3,4,0] Z<|Ad 2 Z (Cd (u:=a3) (B:=w5.heap.size) o1 Cb Bo Z Z a1 (by first|exact A7 _|omega) Aa fun bq bw a4 bm ax=>?_)
  have bb:=a4.size
  have aj:=ag.trans a4
  have a8:=a6.ext (o2) a4
  have a9:=a7.ext a4
  have ay:=ab.ext g1 a4
  have bc:=Bp a4 ah
  refine Kc o1 (v:=vo) (a:=bq) Cb Bo Z Z Z a8 oM ax oM oM sD (by unfold maxLen;first|omega|assumption|(simp;done)|(simp;omega)) Aa fun br bs bx ac ak az=>?_
  have b0:AD w bs:=ac.below aj (fun c hc=>A8 al.size (ak c hc).1) aj.size
  have bd:=ac.size
  have b1:=a9.chg ac fun hm=>zH<|ak _ hm
  refine Ac 1 Z<|Ab _ [0,0] Z<|AR ((k+1:Nat):Int) Z Z (Bl oM oM) Aa<|Ac 1 Z ?_
  exact⟨(k+1,br),_,rfl,zR,⟨b0,(by have h:=az.up o2;rw[hti]at h;rw[Lz];exact h),b1,sD,(by rw[GW hrk];omega),(by have:=hNX.len oM;show(((Lh p f.toNat (DJ p f.toNat a k)).length:Nat):Int)=_;omega),hNX.num,(by intro j hj;by_cases e9:j≤k;(exact hrj j e9);(rw[show j=k+1 from by omega];have:=hNX.len oM;show(Lh p f.toNat (DJ p f.toNat a k)).length=_;omega)),oM,oM⟩,zD⟩
 refine AJ false Z Z (A6 b7) Aa<|Ai<|A0<|Aj Z<|A4<|Az<|Az<|Aw<|fC [0,0,0] Z<|Ac 3 Z<|A1 ?_
 have hke:k=n.toNat:=by omega
 exact Ah [8,9] Z (.tuple #[vo,zI ((0:Nat):Int)]) Z ⟨vo,(by rw[← hke,hrk];rfl),an,(by have h:=(a2.up o2).low al.size;rw[← hke,Nh hrk];exact h),TB.ok (by rw[← hke];exact hrk) (by rw[← hke];exact hrj)⟩
theorem Q8 {p:List Fn}{f n:Int}{a:Sr}(h:DO p f [a]≠0):LN p f a n=DO p f [a]:=if_neg h
theorem Q9 {p:List Fn}{f n:Int}{a:Sr}(h:DO p f [a]=0)(h2:Ey n 0 40=false):LN p f a n=2:=by unfold LN;rw[if_pos h,h2];rfl
theorem dH {p:List Fn}{f n:Int}{a:Sr}(h:DO p f [a]=0)(h2:Ey n 0 40=true):LN p f a n=0:=by unfold LN;rw[if_pos h,h2];rfl
theorem Xe {p:List Fn}{f n:Int}{a:Sr}(h:LN p f a n≠0):(0≤TC p f a n∧TC p f a n≤9)∧((Z8 p f a n).length≤41∧∀k,((Z8 p f a n).getD k []).length≤a.length):=by
  have:=Lg p f a n
  rw[TD h,LQ h]
  exact⟨zO,by simp,fun k=>by simp⟩
theorem Pn {p:Prop}(h:p:=by first|(rw[OY hg0];exact⟨by have:=‹TB p f.toNat a n.toNat›.len;omega,‹TB p f.toNat a n.toNat›.rows⟩)|exact(Xe (by rw[Q8 oM];omega)).2|exact(Xe (by rw[Q9 oM (Bz (by assumption))];omega)).2):p:=h
theorem UX {p:Prop}(h:p:=by first|(rw[OY hg0];exact Gf _ _ _)|(rw[LQ (by rw[Q8 oM];omega)];exact Gf _ _ _)|(rw[LQ (by rw[Q9 oM (Bz (by assumption))];omega)];exact Gf _ _ _)):p:=h
theorem Po {p:Prop}(h:p:=by first|rw[TF hg0]|rw[TD (by rw[Q8 oM];omega),Q8 oM]|(rw[TD (by rw[Q9 oM (Bz (by assumption))];omega),Q9 oM (Bz (by assumption))];rfl)):p:=h
theorem Pp {p:Prop}(h:p:=by first|(rw[TF hg0];exact ‹TB p f.toNat a n.toNat›.code)|exact(Xe (by rw[Q8 oM];omega)).1|exact(Xe (by rw[Q9 oM (Bz (by assumption))];omega)).1):p:=h
theorem Jl (w:World)(dp:Nat)(vp:Value)(p:List Fn)(f:Int)(va:Value)(a:Sr)(n:Int)(hp:RP [] dp w.heap vp p)(_hf:BG f)(ha:Rd (Bd rI) w.heap va a)(_hn:BG n)(hz:LF p) :
  Calls Tryz.prog 44 #[(.agg #[vp]),zI f,va,zI n] w (fun e w'=>∃v0:Value,e=.returned (.tuple #[v0,zI (TC p f a n)])∧AD w w'∧Fr (BA (BA rI 2) 27) w.heap.size w'.heap.size w'.heap v0 (Z8 p f a n)∧(0≤TC p f a n∧TC p f a n≤9)∧((Z8 p f a n).length≤41∧∀k,((Z8 p f a n).getD k []).length≤a.length)):=by
 refine Au [.agg #[vp],zI f,va,zI n] 33 Tryz.func44 Z Z sM ?_
 have au:AD w w:=AD.refl w
 have b4:=hp.lenle
 unfold maxLen at b4
 have b6:=ha.lenle
 refine fC [3,0,0] Z (Bv (cs:=#[vp]) Z Aa fun w1 ak b2 ac=>?_)
 have av:=ak.size
 have aw:=au.trans ak
 replace ac:BX w1.heap w.heap.size [vp]:=ac
 refine Ac 2 Z<|fC [2,0,0,3,3,0] Z<|AF (p:=zP w.heap.size) (.inr Z) [vp] Ba Z (fun b7 a8=>LD.of_box<|BX.ext (w:=w1) ac a8) Z Aa<|Ad 2 Z (Cd (u:=va) (B:=w1.heap.size) BK Cb Bo Z Z (Ps w1.heap.size w1.heap.size _<|(RN.of ha).one1 g1) (A7 _) Aa fun v2 w2 af b3 al=>?_)
 have ax:=af.size
 have ag:=aw.trans af
 have a9:=ac.ext af
 refine At 125 [] [] [.agg #[vp],zI f,v2] Z Z Ux Aa (EG _ dp vp (p) _ v2 ([a]) (hp.ext (An<|Av dp) ag) _hf (RN.ofOne al ((RN.of ha).ext g1 ag) fun b hb=>by cases hb) (VH al) hz) ?_
 rintro e3 w3 ⟨rfl,ad⟩
 refine⟨_,rfl,ad,?_⟩
 have ay:=ad.size
 have a4:=ag.trans ad
 have a5:=a9.ext ad
 refine Ac 1 Z<|A0<|fC [0,0,0,0,3,0,0] Z ?_
 have hcr:=Iu p f [a]
 refine Ad 1 Z ?_
 by_cases am:DO p f ([a])=((0:Nat):Int)
 ·refine As true Z Z (A5 am) Aa<|Ad 2 Z<|At 126 [] [] [zI n] Z Z XQ (Ae (e:=18) Z Z Z) (HG _ _ _hn) ?_
  rintro e5 w5 ⟨rfl,ae⟩
  refine⟨_,rfl,ae,?_⟩
  have az:=ae.size
  have a6:=a4.trans ae
  have aa:=a5.ext ae
  refine Bq (!(Ey n 0 40)) Z Z (Ae (e:=18) Z Z Z)<|Ac 1 Z ?_
  cases an:(!(Ey n 0 40))
  ·refine Aj (by first|rfl|exact zW an)<|A2<|A0<|fC [0,0] Z ?_
   have hdr:=Lg p f a n
   refine Ad 1 Z ?_
   by_cases ao:DO p f ([a])≠((0:Nat):Int)
   ·refine AT true Z Z (A5 ao) Aa<|Ai<|Af Z<|fC [0,0,0] Z<|Ac 3 Z<|A1<|Ao ?_
    exact Ah [8,9] Z (.tuple #[zN,zI<|DO p f<|[a]]) Z ⟨zN,Po,a6,UX,Pp,Pn⟩
   refine AT false Z Z (A6 ao) Aa<|Ai<|Aj Z<|A2<|fC [2,0,0,0,3,0,0,0,0] Z ?_
   have hg0:LN p f a n=0:=by first|exact dH oM (By (by assumption))|(exfalso;omega)
   have ab:=Xr hg0
   have b5:=CM ab.1
   refine AF (p:=zP w.heap.size) (.inr Z) [vp] Ba Z (fun b7 a8=>LD.of_box<|BX.ext (w:=w5) aa a8) Z Aa<|Ad 3 Z<|At 127 [] [] [.agg #[vp],zI f,va,zI n] Z Z Rx Aa (CF _ dp vp (p) _ _ _ _ (hp.ext (An<|Av dp) a6) _hf (ha.ext g1 a6) _hn b5 oM oM ab.2.2.2.2.1 oM oM) ?_
   rintro e8 w8 ⟨a2,rfl,ah,a3,ap⟩
   refine⟨_,rfl,ah,?_⟩
   have b0:=ah.size
   have b1:=a6.trans ah
   refine AO (vs:=[a2,zI<|G8 p f.toNat a n.toNat]) a2 Z Z Aa<|AO (vs:=[a2,zI<|G8 p f.toNat a n.toNat]) (zI<|G8 p f.toNat a n.toNat) Z Z Aa<|Ac 2 Z<|A1 ?_
   exact Ah [8,9] Z (.tuple #[a2,zI<|G8 p f.toNat a n.toNat]) Z ⟨a2,Po,b1,(by first|(rw[OY hg0];exact(a3.up o2).low a6.size)|(rw[LQ (by rw[Q8 oM];omega)];exact(a3.up o2).low a6.size)|(rw[LQ (by rw[Q9 oM<|Bz (by assumption)];omega)];exact(a3.up o2).low a6.size)),Pp,Pn⟩
  refine Af (by first|rfl|exact zW an)<|Ab _ [0] Z<|Ac 1 Z<|A0<|fC [0,0] Z ?_
  have hdr:=Lg p f a n
  refine Ad 1 Z<|AT true Z Z (by decide) Aa<|Ai<|Af Z<|fC [0,0,0] Z<|Ac 3 Z<|A1<|Ao ?_
  exact Ah [8,9] Z (.tuple #[zN,zI ((2:Nat):Int)]) Z ⟨zN,Po,a6,UX,Pp,Pn⟩
 refine As false Z Z (A6 am) Aa<|Ac 5 Z<|Aj Z<|A2<|A0<|fC [0,0] Z ?_
 have hdr:=Lg p f a n
 refine Ad 1 Z ?_
 by_cases aq:DO p f ([a])≠((0:Nat):Int)
 ·refine AT true Z Z (A5 aq) Aa<|Ai<|Af Z<|fC [0,0,0] Z<|Ac 3 Z<|A1<|Ao ?_
  exact Ah [8,9] Z (.tuple #[zN,zI<|DO p f<|[a]]) Z ⟨zN,Po,a4,UX,Pp,Pn⟩
 refine AT false Z Z (A6 aq) Aa<|Ai<|Aj Z<|A2<|fC [2,0,0,0,3,0,0,0,0] Z ?_
 have hg0:LN p f a n=0:=by first|exact dH oM (By (by assumption))|(exfalso;omega)
 have ab:=Xr hg0
 have b5:=CM ab.1
 refine AF (p:=zP w.heap.size) (.inr Z) [vp] Ba Z (fun b7 a8=>LD.of_box<|BX.ext (w:=w3) a5 a8) Z Aa<|Ad 3 Z<|At 127 [] [] [.agg #[vp],zI f,va,zI n] Z Z Rx Aa (CF _ dp vp (p) _ _ _ _ (hp.ext (An<|Av dp) a4) _hf (ha.ext g1 a4) _hn b5 oM oM ab.2.2.2.2.1 oM oM) ?_
 rintro b8 b9 ⟨a0,rfl,a7,a1,ai⟩
 refine⟨_,rfl,a7,?_⟩
 have ar:=a7.size
 have aj:=a4.trans a7
 refine AO (vs:=[a0,zI<|G8 p f.toNat a n.toNat]) a0 Z Z Aa<|AO (vs:=[a0,zI<|G8 p f.toNat a n.toNat]) (zI<|G8 p f.toNat a n.toNat) Z Z Aa<|Ac 2 Z<|A1 ?_
 exact Ah [8,9] Z (.tuple #[a0,zI<|G8 p f.toNat a n.toNat]) Z ⟨a0,Po,aj,(by first|(rw[OY hg0];exact(a1.up o2).low a4.size)|(rw[LQ (by rw[Q8 oM];omega)];exact(a1.up o2).low a4.size)|(rw[LQ (by rw[Q9 oM<|Bz (by assumption)];omega)];exact(a1.up o2).low a4.size)),Pp,Pn⟩
theorem MN (w:World)(a:Int)(b:Int)(_ha:BG a)(_hb:BG b)  :
  Calls Tryz.prog 286 #[zI a,zI b] w (fun e w'=>e=.returned (zI (max a b))∧w'=w):=by
 refine Au [zI a,zI b] 10 Tryz.func286 Z Z sM ?_
 have a0:w=w:=rfl
 refine fE Z<|A0<|fC [0,0,0] Z<|Ad 2 Z ?_
 by_cases a1:b<a
 ·exact Cj true Z Z (A5 a1) Aa<|Ai<|Af Z<|fC [0,0] Z<|Ac 2 Z<|A1<|Ao<|Ah [4] Z (zI a) Z ⟨Bf oM,a0⟩
 exact Cj false Z Z (A6 a1) Aa<|Ai<|Aj Z<|A2<|fC [0,0] Z<|Ac 2 Z<|A1<|Ah [4] Z (zI b) Z ⟨Bf oM,a0⟩
theorem UY {p:Prop}(h:p:=by rw[VI,hx];first|rw[za oM]|exact(Nd oM).symm):p:=h
theorem Ii (w:World)(dex:Nat)(ve:Value)(ex:Ex)(left:Int)(hex:RN [] (rP (L6 dex)) w.heap ve ex)(_hleft:BG left)(af:0≤left∧left≤100000)(hs:ex.size≤1000000000) :
  Calls Tryz.prog 239 #[ve,zI left] w (fun e w'=>e=.returned (zI (IE ex left))∧AD w w'):=by
 induction dex using Nat.strongRecOn generalizing w ve ex left
 rename_i dex ih
 refine Au [ve,zI left] 30 Tryz.func239 Z Z sM ?_
 have a6:AD w w:=AD.refl w
 have hsk:=C0 ex
 refine fE Z<|fC [0,0,0] Z<|Ad 1 Z<|BJ (left-1) Z Z (DH oM oM) Aa<|Ac 1 Z<|A0<|fE Z<|A3 ?_
 refine AW (S:=Nat×Int) (fun⟨k,x⟩=>([(1,zI x),(5,zI (k:Int)),(0,ve)])) (fun⟨k,x⟩ W=>AD w W∧k≤ex.kids.length∧x=Dp (ex.kids.take k) (left-1)∧(-1≤x∧x≤left)) (fun⟨k,x⟩=>ex.kids.length-k) (0,left-1) ⟨rfl,rfl,rfl,trivial⟩ ⟨a6,sD,(by rw[List.take_zero,Dp]),oM⟩ ?_
 clear a6
 rintro⟨k,x⟩ ρ1 w1 ⟨a0,a7,hx,a8⟩
 have ab:w.heap.size≤w1.heap.size:=a0.size
 refine A0<|fC [0,0,0,0,2,0,0,0,0,0,0] Z<|Ad 2 Z<|AK (hex.isPtr) Z Aa ?_
 obtain⟨cs2,ac,a2⟩:=RN.at (Ay _) hex
 obtain⟨dd2,a1,ag,rfl,a3⟩:=RX.of ac
 have a4:=a3.rn.lenle
 unfold maxLen at a4
 refine AB (p:=ve) 4 AY Z (a2 _<|Ax.of_ext [] a0) Aa<|Ag (p:=Ap ve 4) (.inr Z) a1 B7 Z ((a2 _<|Ax.of_ext [] a0).ld (i:=4) (by simp[DT,E2])) Aa<|AS (v:=a1) Cc Z a3.rn.isSl Aa ?_
 by_cases a9:(k:Int)<(ex.kids.length:Int)
 ·refine AJ true Z Z (A5 a9) Aa<|Ad 2 Z ?_
  by_cases aa:((0:Nat):Int)≤x
  ·refine DN true Z Z (A5 aa) (Ae (e:=15) Z Z Z)<|Ac 1 Z<|Af Z<|A2<|A0<|A3<|Ab _ [0,0,0,2,0,0,0,3,0] Z ?_
   have hst:=E3 (l:=ex.kids) (k:=k) oM
   have hle:=Dz ex.kids (k+1)
   have hnx:=Nc (l:=ex.kids) (k:=k) (x:=left-1) oM oM
   have hnr:=OX (e:=ex.kids.getD k Ex.zero) (x:=x) oM
   refine Ad 1 Z<|AK (hex.isPtr) Z Aa<|AB (p:=ve) 4 AY Z (a2 _<|Ax.of_ext [] a0) Aa<|Ag (p:=Ap ve 4) (.inr Z) a1 B7 Z ((a2 _<|Ax.of_ext [] a0).ld (i:=4) (by simp[DT,E2])) Aa<|Ad 1 Z<|AE (v:=a1) k Cc B3 Z Z a3.rn.isSl Z sD Aa<|Ad 1 Z ?_
   refine At 239 [] [] [AA a1 k 5,zI x] Z Z UI Aa (ih dd2 oM _ (AA a1 k 5) (ex.kids.getD k Ex.zero) _ (RN.ptr (Ay dd2) (by decide) Ex.zero (a3.rn.ext (An<|Ay dd2) a0) sD) oM oM oM) ?_
   rintro e5 w5 ⟨rfl,a5⟩
   refine⟨_,rfl,a5,?_⟩
   have ad:=a5.size
   have ae:=a0.trans a5
   refine Ac 1 Z<|Ab _ [0,0,0] Z<|Ad 1 Z<|AR ((k+1:Nat):Int) Z Z (Bl oM sD) Aa<|Ac 1 Z ?_
   exact⟨(k+1,IE (ex.kids.getD k Ex.zero) x),_,rfl,zR,⟨ae,sD,(by rw[hnx,hx]),oM⟩,zD⟩
  exact DN false Z Z (A6 aa) (Ae (e:=15) Z Z Z)<|Ac 1 Z<|Aj Z<|A4<|Az<|Az<|Aw<|fC [0,0] Z<|Ac 2 Z<|A1<|Ah [4] Z (zI x) Z ⟨Bf UY,a0⟩
 exact AJ false Z Z (A6 a9) Aa<|Ac 4 Z<|Aj Z<|A4<|Az<|Az<|Aw<|fC [0,0] Z<|Ac 2 Z<|A1<|Ah [4] Z (zI x) Z ⟨Bf UY,a0⟩
theorem KW (w:World)(dex:Nat)(ve:Value)(ex:Ex)(hex:RN [] (rP (L6 dex)) w.heap ve ex)(hs:ex.size≤1000000000) :
  Calls Tryz.prog 271 #[ve] w (fun e w'=>e=.returned (zI (ex.deep:Int))∧AD w w'):=by
 induction dex using Nat.strongRecOn generalizing w ve ex
 rename_i dex ih
 refine Au [ve] 25 Tryz.func271 Z Z sM ?_
 have a6:AD w w:=AD.refl w
 have hsk:=C0 ex
 have hdk:=E9 ex
 refine fE Z<|fE Z<|A0<|fE Z<|A3 ?_
 refine AW (S:=Nat×Int) (fun⟨k,sz⟩=>([(3,zI sz),(4,zI (k:Int)),(0,ve)])) (fun⟨k,sz⟩ W=>AD w W∧k≤ex.kids.length∧sz=((Ex.deeps (ex.kids.take k):Nat):Int)∧(0≤sz∧sz≤1000000000)) (fun⟨k,sz⟩=>ex.kids.length-k) (0,((0:Nat):Int)) ⟨rfl,rfl,rfl,trivial⟩ ⟨a6,sD,(by rw[List.take_zero,N0] <;> rfl),oM⟩ ?_
 clear a6
 rintro⟨k,sz⟩ ρ1 w1 ⟨a0,a7,hsz,a8⟩
 have aa:w.heap.size≤w1.heap.size:=a0.size
 refine A0<|fC [0,0,0,0,2,0,0] Z<|Ad 2 Z<|AK (hex.isPtr) Z Aa ?_
 obtain⟨cs2,ab,a2⟩:=RN.at (Ay _) hex
 obtain⟨dd2,a1,ae,rfl,a3⟩:=RX.of ab
 have a4:=a3.rn.lenle
 unfold maxLen at a4
 refine AB (p:=ve) 4 AY Z (a2 _<|Ax.of_ext [] a0) Aa<|Ag (p:=Ap ve 4) (.inr Z) a1 B7 Z ((a2 _<|Ax.of_ext [] a0).ld (i:=4) (by simp[DT,E2])) Aa<|AS (v:=a1) Cc Z a3.rn.isSl Aa ?_
 by_cases a9:(k:Int)<(ex.kids.length:Int)
 ·refine AJ true Z Z (A5 a9) Aa<|Ai<|Af Z<|A2<|A0<|A3<|Ab _ [0,0,0,0,2,0,0,3,0,0] Z ?_
  have hst:=E3 (l:=ex.kids) (k:=k) oM
  have hle:=Dz ex.kids (k+1)
  have hdt:=He (l:=ex.kids) (k:=k) oM
  have hda:=ED<|ex.kids.getD k Ex.zero
  have hdz:=J6<|ex.kids.take k
  refine Ad 2 Z<|AK (hex.isPtr) Z Aa<|AB (p:=ve) 4 AY Z (a2 _<|Ax.of_ext [] a0) Aa<|Ag (p:=Ap ve 4) (.inr Z) a1 B7 Z ((a2 _<|Ax.of_ext [] a0).ld (i:=4) (by simp[DT,E2])) Aa<|Ad 1 Z<|AE (v:=a1) k Cc B3 Z Z a3.rn.isSl Z sD Aa ?_
  refine At 271 [] [] [AA a1 k 5] Z Z Yb Aa (ih dd2 oM _ (AA a1 k 5) (ex.kids.getD k Ex.zero) (RN.ptr (Ay dd2) (by decide) Ex.zero (a3.rn.ext (An<|Ay dd2) a0) sD) oM) ?_
  rintro e4 w4 ⟨rfl,a5⟩
  refine⟨_,rfl,a5,?_⟩
  have ac:=a5.size
  have ad:=a0.trans a5
  refine AG 286 [] [] [zI sz,zI (((ex.kids.getD k Ex.zero).deep:Nat):Int)] Z Z cT Aa (zI<|max sz (((ex.kids.getD k Ex.zero).deep:Nat):Int)) (fun wq=>MN wq _ _ oM (zH<|ED (ex.kids.getD k Ex.zero)))<|Ac 1 Z<|Ab _ [0,0,0] Z<|Ad 1 Z<|AR ((k+1:Nat):Int) Z Z (Bl oM sD) Aa<|Ac 1 Z ?_
  exact⟨(k+1,max sz (((ex.kids.getD k Ex.zero).deep:Nat):Int)),_,rfl,zR,⟨ad,sD,oM,oM⟩,zD⟩
 refine AJ false Z Z (A6 a9) Aa<|Ai<|Aj Z<|A4<|Az<|Az<|Aw<|fC [0,0,0] Z ?_
 have h8:=Kd (l:=ex.kids) (k:=k) oM
 have h9:=ED ex
 exact Ad 1 Z<|AR (sz+1) Z Z (DH oM oM) Aa<|Ac 1 Z<|A1<|Ah [2] Z (zI (sz+1)) Z ⟨Bf oM,a0⟩
theorem GF {p:Prop}(h:p:=by unfold S7;repeat (first|rfl|(rw[if_pos oM])|(rw[if_neg oM]))):p:=h
theorem Mi (w:World)(kind:Int)(_hkind:BG kind)  :
  Calls Tryz.prog 198 #[zI kind] w (fun e w'=>e=.returned (zI (S7 kind))∧w'=w):=by
 refine Au [zI kind] 17 Tryz.func198 Z Z sM ?_
 have a0:w=w:=rfl
 refine fE Z<|A0<|fE Z<|A3<|A0<|fC [0,0] Z ?_
 by_cases a1:kind=((1:Nat):Int)
 ·exact As true Z Z (A5 a1) Aa<|Ac 1 Z<|Af Z<|A2<|Af Z<|fE Z<|A1<|AL<|Ao<|Ah [2] Z (zI ((0:Nat):Int)) Z ⟨Bf GF,a0⟩
 refine As false Z Z (A6 a1) Aa<|Ac 1 Z<|Aj Z<|Ab _ [0,0] Z ?_
 by_cases a2:kind=((2:Nat):Int)
 ·exact As true Z Z (A5 a2) Aa<|Ac 1 Z<|Af Z<|fE Z<|A1<|AL<|Ao<|Ah [2] Z (zI ((0:Nat):Int)) Z ⟨Bf GF,a0⟩
 refine As false Z Z (A6 a2) Aa<|Ac 1 Z<|Aj Z<|A0<|fC [0,0] Z ?_
 by_cases a3:kind=((3:Nat):Int)
 ·exact As true Z Z (A5 a3) Aa<|Ac 1 Z<|Af Z<|A2<|Af Z<|fE Z<|A1<|AL<|Ao<|Ah [2] Z (zI ((2:Nat):Int)) Z ⟨Bf GF,a0⟩
 refine As false Z Z (A6 a3) Aa<|Ac 1 Z<|Aj Z<|fC [0,0] Z ?_
 by_cases a4:kind=((4:Nat):Int)
 ·exact As true Z Z (A5 a4) Aa<|Ac 1 Z<|Af Z<|A2<|Af Z<|fE Z<|A1<|AL<|Ao<|Ah [2] Z (zI ((2:Nat):Int)) Z ⟨Bf GF,a0⟩
 refine As false Z Z (A6 a4) Aa<|Ac 1 Z<|Aj Z<|fC [0,0] Z ?_
 by_cases a5:kind=((5:Nat):Int)
 ·exact As true Z Z (A5 a5) Aa<|Ac 1 Z<|Af Z<|A2<|Af Z<|fE Z<|A1<|AL<|Ao<|Ah [2] Z (zI ((2:Nat):Int)) Z ⟨Bf GF,a0⟩
 refine As false Z Z (A6 a5) Aa<|Ac 1 Z<|Aj Z<|fC [0,0] Z ?_
 by_cases a6:kind=((6:Nat):Int)
 ·exact As true Z Z (A5 a6) Aa<|Ac 1 Z<|Af Z<|A2<|Af Z<|fE Z<|A1<|AL<|Ao<|Ah [2] Z (zI ((2:Nat):Int)) Z ⟨Bf GF,a0⟩
 refine As false Z Z (A6 a6) Aa<|Ac 1 Z<|Aj Z<|Ab _ [0,0] Z ?_
 by_cases a7:kind=((9:Nat):Int)
 ·exact As true Z Z (A5 a7) Aa<|Ac 1 Z<|Af Z<|fE Z<|A1<|AL<|Ao<|Ah [2] Z (zI ((2:Nat):Int)) Z ⟨Bf GF,a0⟩
 refine As false Z Z (A6 a7) Aa<|Ac 1 Z<|Aj Z<|fC [0,0] Z ?_
 by_cases a8:kind=((7:Nat):Int)
 ·exact As true Z Z (A5 a8) Aa<|Ac 1 Z<|Af Z<|fE Z<|A1<|AL<|Ao<|Ah [2] Z (zI ((1:Nat):Int)) Z ⟨Bf GF,a0⟩
 refine As false Z Z (A6 a8) Aa<|Ac 1 Z<|Aj Z<|fC [0,0] Z ?_
 by_cases a9:kind=((8:Nat):Int)
 ·exact As true Z Z (A5 a9) Aa<|Ac 1 Z<|Af Z<|fE Z<|A1<|AL<|Ao<|Ah [2] Z (zI ((3:Nat):Int)) Z ⟨Bf GF,a0⟩
 exact As false Z Z (A6 a9) Aa<|Ac 1 Z<|Aj Z<|A2<|fE Z<|A1<|Ah [2] Z (zI (-1)) Z ⟨Bf GF,a0⟩
theorem Dq {p:Prop}(h:p:=by first|exact AP (Z5 oM oM oM)|exact AP (eO oM oM oM oM)|exact AP (eP oM oM oM oM)|exact AP ((NR oM).trans (eQ oM oM oM oM oM oM oM))|exact AP (by unfold Hf E4 Ey;first|(simp[*];done)|(simp[*];omega)|(simp[*] <;> intros <;> omega)|(simp_all;done)|(simp_all <;> omega))):p:=h
theorem BS {p:Prop}(h:p:=by simp[DT,E2]):p:=h
theorem Mj (w:World)(dp:Nat)(vp:Value)(p:List Fn)(dex:Nat)(ve:Value)(ex:Ex)(vars:Int)(funcs:Int)(hp:RN [] (rP (KS dp)) w.heap vp p)(hex:RN [] (rP (L6 dex)) w.heap ve ex)(_hvars:BG vars)(_hfuncs:BG funcs)(hv:0≤vars∧vars≤2000000000)(hf:0≤funcs∧funcs≤(p.length:Int)) :
  Calls Tryz.prog 287 #[vp,ve,zI vars,zI funcs] w (fun e w'=>e=.returned (.bool (Hf p funcs vars ex))∧AD w w'):=by
 refine Au [vp,ve,zI vars,zI funcs] 140 Tryz.func287 Z Z sM ?_
 have a0:AD w w:=AD.refl w
 refine fE Z<|A0<|fC [0,0,0,2,0,0,0,0,0,2,0,0] Z<|Ad 1 Z<|AK (hex.isPtr) Z Aa ?_
 obtain⟨cs1,b2,a1⟩:=RN.at (Ay _) hex
 obtain⟨dd1,ab,b8,rfl,a5⟩:=RX.of b2
 have aq:=a5.rn.lenle
 unfold maxLen at aq
 refine AB (p:=ve) 0 Bn Z (a1 _<|Ax.of_ext [] a0) Aa<|Ag (p:=Ap ve 0) (.inr Z) (zI ex.kind) AI Z ((a1 _<|Ax.of_ext [] a0).ld (i:=0) BS) Aa ?_
 by_cases ay:ex.kind=((10:Nat):Int)
 ·refine As true Z Z (A5 ay) Aa<|Ac 7 Z<|Af Z<|A0<|fC [0,0,0,2,0,0,0,0] Z<|Ad 1 Z<|AK (hex.isPtr) Z Aa<|AB (p:=ve) 1 BL Z (a1 _<|Ax.of_ext [] a0) Aa<|Ag (p:=Ap ve 1) (.inr Z) (zI ex.num) AI Z ((a1 _<|Ax.of_ext [] a0).ld (i:=1) BS) Aa<|Ad 1 Z<|BJ (funcs-1) Z Z (DH oM oM) Aa<|AG 74 [] [] [zI ex.num,zI ((0:Nat):Int),zI (funcs-1)] Z Z II Aa (.bool (decide (((0:Nat):Int)≤ex.num) && decide (ex.num≤(funcs-1)))) (fun wq=>BC wq _ _ _ a5.rng.num oM oM) ?_
  refine Bq (!(decide (((0:Nat):Int)≤ex.num) && decide (ex.num≤(funcs-1)))) Z Z Aa<|Ai ?_
  cases az:(!(decide (((0:Nat):Int)≤ex.num) && decide (ex.num≤(funcs-1))))
  ·refine Aj (by first|rfl|exact zW az)<|A2<|A0<|AQ _ [0,0,0,1,0,0,0,1,0,0] mixed (by kernel_rfl) ?_
   have hnr:=HF (By (by assumption):(decide (((0:Nat):Int)≤ex.num) && decide (ex.num≤funcs-1))=true)
   refine Ad 1 Z<|AK (hp.isPtr) Z Aa ?_
   obtain⟨cs5,b3,b0⟩:=RN.at (AZ _) hp
   obtain⟨a6,rfl,a9⟩:=RPr.of b3
   have ar:=a9.lenle
   unfold maxLen at ar
   refine AB (p:=vp) 0 B8 Z (b0 _<|Ax.of_ext [] a0.drew) Aa<|Ag (p:=Ap vp 0) (.inl Z) a6 Bt Z ((b0 _<|Ax.of_ext [] a0.drew).ld (i:=0) BS) Aa<|Ad 1 Z<|AK (hex.isPtr) Z Aa<|AB (p:=ve) 1 BL Z (a1 _<|Ax.of_ext [] a0.drew) Aa<|Ag (p:=Ap ve 1) (.inl Z) (zI ex.num) AI Z ((a1 _<|Ax.of_ext [] a0.drew).ld (i:=1) BS) Aa ?_
   refine AE (v:=a6) ((ex.num).toNat) Du BD Z Z a9.isSl oM sD Aa<|Ac 1 Z<|A0<|A0<|AQ _ [0,0,0,1,0,0,0,1,0,0,0,0,0,0,0,0,1,0,0,0,0,1,0,0] mixed (by kernel_rfl)<|Ad 1 Z<|AK (hex.isPtr) Z Aa<|AB (p:=ve) 2 CN Z (a1 _<|Ax.of_ext [] a0.drew.drew) Aa ?_
   refine Ag (p:=Ap ve 2) (.inl Z) (zI ex.pick) AI Z ((a1 _<|Ax.of_ext [] a0.drew.drew).ld (i:=2) BS) Aa<|Ad 1 Z<|AK (RN.isPtr<|RN.ptr (Av dp) (by decide) Fn.zero a9 sD) Z Aa ?_
   obtain⟨cs6,b4,a8⟩:=a9.get (Av dp) Fn.zero (k:=(ex.num).toNat) sD
   obtain⟨ap,rfl,au⟩:=RF.of b4
   have av:=au.rn.lenle
   unfold maxLen at av
   refine AB (p:=AA a6 ((ex.num).toNat) 3) 2 Br Z (a8 _<|Ax.of_ext [] a0.drew.drew) Aa<|Ag (p:=Ap (AA a6 ((ex.num).toNat) 3) 2) (.inl Z) ap B7 Z ((a8 _<|Ax.of_ext [] a0.drew.drew).ld (i:=2) BS) Aa<|AS (v:=ap) Cc Z au.rn.isSl Aa<|BJ ((((p.getD (ex.num).toNat Fn.zero).outs.length:Nat):Int)-1) Z Z (DH oM oM) Aa<|AG 74 [] [] [zI ex.pick,zI ((0:Nat):Int),zI ((((p.getD (ex.num).toNat Fn.zero).outs.length:Nat):Int)-1)] Z Z II Aa (.bool (decide (((0:Nat):Int)≤ex.pick) && decide (ex.pick≤((((p.getD (ex.num).toNat Fn.zero).outs.length:Nat):Int)-1)))) (fun wq=>BC wq _ _ _ a5.rng.pick oM oM) ?_
   refine Bq (!(decide (((0:Nat):Int)≤ex.pick) && decide (ex.pick≤((((p.getD (ex.num).toNat Fn.zero).outs.length:Nat):Int)-1)))) Z Z Aa<|Ad 1 Z ?_
   cases b9:(!(decide (((0:Nat):Int)≤ex.pick) && decide (ex.pick≤((((p.getD (ex.num).toNat Fn.zero).outs.length:Nat):Int)-1))))
   ·refine Ad 1 Z<|AK (hex.isPtr) Z (Ae (e:=51) Z Z Z)<|AB (p:=ve) 4 AY Z (a1 _<|Ax.of_ext [] a0.drew.drew) (Ae (e:=51) Z Z Z)<|Ag (p:=Ap ve 4) (.inl Z) ab B7 Z ((a1 _<|Ax.of_ext [] a0.drew.drew).ld (i:=4) BS) (Ae (e:=51) Z Z Z)<|AS (v:=ab) Cc Z a5.rn.isSl (Ae (e:=51) Z Z Z)<|Ad 1 Z ?_
    refine AK (RN.isPtr<|RN.ptr (Av dp) (by decide) Fn.zero a9 sD) Z (Ae (e:=51) Z Z Z)<|AB (p:=AA a6 ((ex.num).toNat) 3) 1 BI Z (a8 _<|Ax.of_ext [] a0.drew.drew) (Ae (e:=51) Z Z Z)<|Ag (p:=Ap (AA a6 ((ex.num).toNat) 3) 1) (.inl Z) (zI<|(p.getD ((ex.num).toNat) Fn.zero).params) AI Z ((a8 _<|Ax.of_ext [] a0.drew.drew).ld (i:=1) BS) (Ae (e:=51) Z Z Z) ?_
    by_cases b1:(ex.kids.length:Int)≠(p.getD ((ex.num).toNat) Fn.zero).params
    ·exact AT true Z Z (A5 b1) (Ae (e:=51) Z Z Z)<|Ac 1 Z<|Af Z<|fE Z<|A1<|Ao<|Ao<|Ah [8] Z (.bool false) Z ⟨Dq,a0.drew.drew⟩
    refine AT false Z Z (A6 b1) (Ae (e:=51) Z Z Z)<|Ac 1 Z<|Aj Z<|A2<|A0<|fC [0,0,0,2,0] Z<|Ad 1 Z<|AK (hex.isPtr) Z Aa<|AB (p:=ve) 0 Bn Z (a1 _<|Ax.of_ext [] a0.drew.drew) Aa<|Ag (p:=Ap ve 0) (.inr Z) (zI ex.kind) AI Z ((a1 _<|Ax.of_ext [] a0.drew.drew).ld (i:=0) BS) Aa ?_
    by_cases ac:ex.kind=((10:Nat):Int)
    ·refine As true Z Z (A5 ac) Aa<|Ai<|Af Z<|fC [0,0,0,2,0,0] Z<|Ad 1 Z<|AK (hex.isPtr) Z Aa<|AB (p:=ve) 3 CV Z (a1 _<|Ax.of_ext [] a0.drew.drew) Aa<|Ag (p:=Ap ve 3) (.inr Z) (zI ex.count) AI Z ((a1 _<|Ax.of_ext [] a0.drew.drew).ld (i:=3) BS) Aa<|As (decide (ex.count=((0:Nat):Int))) Z Z Z Aa<|Ac 1 Z<|A1<|Ao<|Ao ?_
     exact Ah [8] Z (.bool<|decide (ex.count=((0:Nat):Int))) Z ⟨Dq,a0.drew.drew⟩
    refine As false Z Z (A6 ac) Aa<|Ai<|Aj Z<|A2<|A0<|AQ _ [0,0,0,1,0,0,0,0,0,1,0,0,0,0,1,0,0,0] mixed (by kernel_rfl)<|Ad 1 Z<|AK (hex.isPtr) Z Aa<|AB (p:=ve) 3 CV Z (a1 _<|Ax.of_ext [] a0.drew.drew.drew) Aa<|Ag (p:=Ap ve 3) (.inl Z) (zI ex.count) AI Z ((a1 _<|Ax.of_ext [] a0.drew.drew.drew).ld (i:=3) BS) Aa<|AG 74 [] [] [zI ex.count,zI ((0:Nat):Int),zI ((8:Nat):Int)] Z Z II Aa (.bool (decide (((0:Nat):Int)≤ex.count) && decide (ex.count≤((8:Nat):Int)))) (fun wq=>BC wq _ _ _ a5.rng.count oM oM)<|Ad 1 Z ?_
    cases b5:(decide (((0:Nat):Int)≤ex.count) && decide (ex.count≤((8:Nat):Int)))
    ·exact Ac 12 Z<|A1<|Ao<|Ah [8] Z (.bool false) Z ⟨Dq,a0.drew.drew.drew⟩
    refine Ad 1 Z<|AK (RN.isPtr<|RN.ptr (Av dp) (by decide) Fn.zero a9 sD) Z (Ae (e:=78) Z Z Z)<|AB (p:=AA a6 ((ex.num).toNat) 3) 2 Br Z (a8 _<|Ax.of_ext [] a0.drew.drew.drew) (Ae (e:=78) Z Z Z)<|Ag (p:=Ap (AA a6 ((ex.num).toNat) 3) 2) (.inl Z) ap B7 Z ((a8 _<|Ax.of_ext [] a0.drew.drew.drew).ld (i:=2) BS) (Ae (e:=78) Z Z Z) ?_
    refine AS (v:=ap) Cc Z au.rn.isSl (Ae (e:=78) Z Z Z)<|Ad 1 Z<|AK (RN.isPtr<|RN.ptr (Av dp) (by decide) Fn.zero a9 sD) Z (Ae (e:=78) Z Z Z)<|AB (p:=AA a6 ((ex.num).toNat) 3) 1 BI Z (a8 _<|Ax.of_ext [] a0.drew.drew.drew) (Ae (e:=78) Z Z Z) ?_
    refine Ag (p:=Ap (AA a6 ((ex.num).toNat) 3) 1) (.inl Z) (zI<|(p.getD ((ex.num).toNat) Fn.zero).params) AI Z ((a8 _<|Ax.of_ext [] a0.drew.drew.drew).ld (i:=1) BS) (Ae (e:=78) Z Z Z)<|As (decide (((((p.getD ((ex.num).toNat) Fn.zero).outs).length:Nat):Int)=(p.getD ((ex.num).toNat) Fn.zero).params)) Z Z Z (Ae (e:=78) Z Z Z)<|Ac 2 Z<|A1<|Ao ?_
    exact Ah [8] Z (.bool<|decide (((((p.getD ((ex.num).toNat) Fn.zero).outs).length:Nat):Int)=(p.getD ((ex.num).toNat) Fn.zero).params)) Z ⟨Dq,a0.drew.drew.drew⟩
   exact Ac 11 Z<|Af Z<|fE Z<|A1<|Ao<|Ao<|Ah [8] Z (.bool false) Z ⟨Dq,a0.drew.drew⟩
  exact Af (by first|rfl|exact zW az)<|fE Z<|A1<|Ao<|Ao<|Ah [8] Z (.bool false) Z ⟨Dq,a0⟩
 refine As false Z Z (A6 ay) Aa<|Ad 2 Z<|AK (hex.isPtr) Z (Ae (e:=15) Z Z Z)<|AB (p:=ve) 0 Bn Z (a1 _<|Ax.of_ext [] a0) (Ae (e:=15) Z Z Z)<|Ag (p:=Ap ve 0) (.inr Z) (zI ex.kind) AI Z ((a1 _<|Ax.of_ext [] a0).ld (i:=0) BS) (Ae (e:=15) Z Z Z) ?_
 by_cases ad:ex.kind=((11:Nat):Int)
 ·refine As true Z Z (A5 ad) (Ae (e:=15) Z Z Z)<|Ac 1 Z<|Af Z<|A0<|fC [0,0,0,2,0,0,0,0] Z<|Ad 1 Z<|AK (hex.isPtr) Z Aa<|AB (p:=ve) 1 BL Z (a1 _<|Ax.of_ext [] a0) Aa<|Ag (p:=Ap ve 1) (.inr Z) (zI ex.num) AI Z ((a1 _<|Ax.of_ext [] a0).ld (i:=1) BS) Aa<|Ad 1 Z<|BJ (funcs-1) Z Z (DH oM oM) Aa<|AG 74 [] [] [zI ex.num,zI ((0:Nat):Int),zI (funcs-1)] Z Z II Aa (.bool (decide (((0:Nat):Int)≤ex.num) && decide (ex.num≤(funcs-1)))) (fun wq=>BC wq _ _ _ a5.rng.num oM oM) ?_
  refine Bq (!(decide (((0:Nat):Int)≤ex.num) && decide (ex.num≤(funcs-1)))) Z Z Aa<|Ai ?_
  cases ae:(!(decide (((0:Nat):Int)≤ex.num) && decide (ex.num≤(funcs-1))))
  ·refine Aj (by first|rfl|exact zW ae)<|A2<|A0<|AQ _ [0,0,0,1,0,0,0,1,0,0] mixed (by kernel_rfl) ?_
   have hnr:=HF (By (by assumption):(decide (((0:Nat):Int)≤ex.num) && decide (ex.num≤funcs-1))=true)
   refine Ad 1 Z<|AK (hp.isPtr) Z Aa ?_
   obtain⟨cs16,aw,af⟩:=RN.at (AZ _) hp
   obtain⟨a2,rfl,a4⟩:=RPr.of aw
   have ag:=a4.lenle
   unfold maxLen at ag
   refine AB (p:=vp) 0 B8 Z (af _<|Ax.of_ext [] a0.drew) Aa<|Ag (p:=Ap vp 0) (.inl Z) a2 Bt Z ((af _<|Ax.of_ext [] a0.drew).ld (i:=0) BS) Aa<|Ad 1 Z<|AK (hex.isPtr) Z Aa<|AB (p:=ve) 1 BL Z (a1 _<|Ax.of_ext [] a0.drew) Aa<|Ag (p:=Ap ve 1) (.inl Z) (zI ex.num) AI Z ((a1 _<|Ax.of_ext [] a0.drew).ld (i:=1) BS) Aa ?_
   refine AE (v:=a2) ((ex.num).toNat) Du BD Z Z a4.isSl oM sD Aa<|Ac 1 Z<|A0<|A0<|AQ _ [0,0,0,1,0,0,0,1,0,0,0,0,0,0,0,0,1,0,0,0,0,1,0,0] mixed (by kernel_rfl)<|Ad 1 Z<|AK (hex.isPtr) Z Aa<|AB (p:=ve) 2 CN Z (a1 _<|Ax.of_ext [] a0.drew.drew) Aa ?_
   refine Ag (p:=Ap ve 2) (.inl Z) (zI ex.pick) AI Z ((a1 _<|Ax.of_ext [] a0.drew.drew).ld (i:=2) BS) Aa<|Ad 1 Z<|AK (RN.isPtr<|RN.ptr (Av dp) (by decide) Fn.zero a4 sD) Z Aa ?_
   obtain⟨cs17,ax,a3⟩:=a4.get (Av dp) Fn.zero (k:=(ex.num).toNat) sD
   obtain⟨a7,rfl,aa⟩:=RF.of ax
   have ah:=aa.rn.lenle
   unfold maxLen at ah
   refine AB (p:=AA a2 ((ex.num).toNat) 3) 2 Br Z (a3 _<|Ax.of_ext [] a0.drew.drew) Aa<|Ag (p:=Ap (AA a2 ((ex.num).toNat) 3) 2) (.inl Z) a7 B7 Z ((a3 _<|Ax.of_ext [] a0.drew.drew).ld (i:=2) BS) Aa<|AS (v:=a7) Cc Z aa.rn.isSl Aa<|BJ ((((p.getD (ex.num).toNat Fn.zero).outs.length:Nat):Int)-1) Z Z (DH oM oM) Aa<|AG 74 [] [] [zI ex.pick,zI ((0:Nat):Int),zI ((((p.getD (ex.num).toNat Fn.zero).outs.length:Nat):Int)-1)] Z Z II Aa (.bool (decide (((0:Nat):Int)≤ex.pick) && decide (ex.pick≤((((p.getD (ex.num).toNat Fn.zero).outs.length:Nat):Int)-1)))) (fun wq=>BC wq _ _ _ a5.rng.pick oM oM) ?_
   refine Bq (!(decide (((0:Nat):Int)≤ex.pick) && decide (ex.pick≤((((p.getD (ex.num).toNat Fn.zero).outs.length:Nat):Int)-1)))) Z Z Aa<|Ad 1 Z ?_
   cases b6:(!(decide (((0:Nat):Int)≤ex.pick) && decide (ex.pick≤((((p.getD (ex.num).toNat Fn.zero).outs.length:Nat):Int)-1))))
   ·refine Ad 1 Z<|AK (hex.isPtr) Z (Ae (e:=51) Z Z Z)<|AB (p:=ve) 4 AY Z (a1 _<|Ax.of_ext [] a0.drew.drew) (Ae (e:=51) Z Z Z)<|Ag (p:=Ap ve 4) (.inl Z) ab B7 Z ((a1 _<|Ax.of_ext [] a0.drew.drew).ld (i:=4) BS) (Ae (e:=51) Z Z Z)<|AS (v:=ab) Cc Z a5.rn.isSl (Ae (e:=51) Z Z Z)<|Ad 1 Z ?_
    refine AK (RN.isPtr<|RN.ptr (Av dp) (by decide) Fn.zero a4 sD) Z (Ae (e:=51) Z Z Z)<|AB (p:=AA a2 ((ex.num).toNat) 3) 1 BI Z (a3 _<|Ax.of_ext [] a0.drew.drew) (Ae (e:=51) Z Z Z)<|Ag (p:=Ap (AA a2 ((ex.num).toNat) 3) 1) (.inl Z) (zI<|(p.getD ((ex.num).toNat) Fn.zero).params) AI Z ((a3 _<|Ax.of_ext [] a0.drew.drew).ld (i:=1) BS) (Ae (e:=51) Z Z Z) ?_
    by_cases ai:(ex.kids.length:Int)≠(p.getD ((ex.num).toNat) Fn.zero).params
    ·exact AT true Z Z (A5 ai) (Ae (e:=51) Z Z Z)<|Ac 1 Z<|Af Z<|fE Z<|A1<|Ao<|Ao<|Ah [8] Z (.bool false) Z ⟨Dq,a0.drew.drew⟩
    refine AT false Z Z (A6 ai) (Ae (e:=51) Z Z Z)<|Ac 1 Z<|Aj Z<|A2<|A0<|fC [0,0,0,2,0] Z<|Ad 1 Z<|AK (hex.isPtr) Z Aa<|AB (p:=ve) 0 Bn Z (a1 _<|Ax.of_ext [] a0.drew.drew) Aa<|Ag (p:=Ap ve 0) (.inr Z) (zI ex.kind) AI Z ((a1 _<|Ax.of_ext [] a0.drew.drew).ld (i:=0) BS) Aa ?_
    by_cases aj:ex.kind=((10:Nat):Int)
    ·refine As true Z Z (A5 aj) Aa<|Ai<|Af Z<|fC [0,0,0,2,0,0] Z<|Ad 1 Z<|AK (hex.isPtr) Z Aa<|AB (p:=ve) 3 CV Z (a1 _<|Ax.of_ext [] a0.drew.drew) Aa<|Ag (p:=Ap ve 3) (.inr Z) (zI ex.count) AI Z ((a1 _<|Ax.of_ext [] a0.drew.drew).ld (i:=3) BS) Aa<|As (decide (ex.count=((0:Nat):Int))) Z Z Z Aa<|Ac 1 Z<|A1<|Ao<|Ao ?_
     exact Ah [8] Z (.bool<|decide (ex.count=((0:Nat):Int))) Z ⟨Dq,a0.drew.drew⟩
    refine As false Z Z (A6 aj) Aa<|Ai<|Aj Z<|A2<|A0<|AQ _ [0,0,0,1,0,0,0,0,0,1,0,0,0,0,1,0,0,0] mixed (by kernel_rfl)<|Ad 1 Z<|AK (hex.isPtr) Z Aa<|AB (p:=ve) 3 CV Z (a1 _<|Ax.of_ext [] a0.drew.drew.drew) Aa<|Ag (p:=Ap ve 3) (.inl Z) (zI ex.count) AI Z ((a1 _<|Ax.of_ext [] a0.drew.drew.drew).ld (i:=3) BS) Aa<|AG 74 [] [] [zI ex.count,zI ((0:Nat):Int),zI ((8:Nat):Int)] Z Z II Aa (.bool (decide (((0:Nat):Int)≤ex.count) && decide (ex.count≤((8:Nat):Int)))) (fun wq=>BC wq _ _ _ a5.rng.count oM oM)<|Ad 1 Z ?_
    cases b7:(decide (((0:Nat):Int)≤ex.count) && decide (ex.count≤((8:Nat):Int)))
    ·exact Ac 12 Z<|A1<|Ao<|Ah [8] Z (.bool false) Z ⟨Dq,a0.drew.drew.drew⟩
    refine Ad 1 Z<|AK (RN.isPtr<|RN.ptr (Av dp) (by decide) Fn.zero a4 sD) Z (Ae (e:=78) Z Z Z)<|AB (p:=AA a2 ((ex.num).toNat) 3) 2 Br Z (a3 _<|Ax.of_ext [] a0.drew.drew.drew) (Ae (e:=78) Z Z Z)<|Ag (p:=Ap (AA a2 ((ex.num).toNat) 3) 2) (.inl Z) a7 B7 Z ((a3 _<|Ax.of_ext [] a0.drew.drew.drew).ld (i:=2) BS) (Ae (e:=78) Z Z Z) ?_
    refine AS (v:=a7) Cc Z aa.rn.isSl (Ae (e:=78) Z Z Z)<|Ad 1 Z<|AK (RN.isPtr<|RN.ptr (Av dp) (by decide) Fn.zero a4 sD) Z (Ae (e:=78) Z Z Z)<|AB (p:=AA a2 ((ex.num).toNat) 3) 1 BI Z (a3 _<|Ax.of_ext [] a0.drew.drew.drew) (Ae (e:=78) Z Z Z) ?_
    refine Ag (p:=Ap (AA a2 ((ex.num).toNat) 3) 1) (.inl Z) (zI<|(p.getD ((ex.num).toNat) Fn.zero).params) AI Z ((a3 _<|Ax.of_ext [] a0.drew.drew.drew).ld (i:=1) BS) (Ae (e:=78) Z Z Z)<|As (decide (((((p.getD ((ex.num).toNat) Fn.zero).outs).length:Nat):Int)=(p.getD ((ex.num).toNat) Fn.zero).params)) Z Z Z (Ae (e:=78) Z Z Z)<|Ac 2 Z<|A1<|Ao ?_
    exact Ah [8] Z (.bool<|decide (((((p.getD ((ex.num).toNat) Fn.zero).outs).length:Nat):Int)=(p.getD ((ex.num).toNat) Fn.zero).params)) Z ⟨Dq,a0.drew.drew.drew⟩
   exact Ac 11 Z<|Af Z<|fE Z<|A1<|Ao<|Ao<|Ah [8] Z (.bool false) Z ⟨Dq,a0.drew.drew⟩
  exact Af (by first|rfl|exact zW ae)<|fE Z<|A1<|Ao<|Ao<|Ah [8] Z (.bool false) Z ⟨Dq,a0⟩
 refine As false Z Z (A6 ad) (Ae (e:=15) Z Z Z)<|Ac 1 Z<|Aj Z<|A2<|A0<|A0<|AQ _ [0,0,0,1,0,0,0,0,1,0,0,0,0,0,0,1,0,0,0,0,0,0,1,0,0] mixed (by kernel_rfl)<|Ad 1 Z<|AK (hex.isPtr) Z Aa<|AB (p:=ve) 0 Bn Z (a1 _<|Ax.of_ext [] a0.drew) Aa<|Ag (p:=Ap ve 0) (.inl Z) (zI ex.kind) AI Z ((a1 _<|Ax.of_ext [] a0.drew).ld (i:=0) BS) Aa<|AG 198 [] [] [zI ex.kind] Z Z Y1 Aa (zI<|S7 ex.kind) (fun wq=>Mi wq _ a5.rng.kind)<|Ad 1 Z<|AK (hex.isPtr) Z Aa<|AB (p:=ve) 4 AY Z (a1 _<|Ax.of_ext [] a0.drew) Aa ?_
 refine Ag (p:=Ap ve 4) (.inl Z) ab B7 Z ((a1 _<|Ax.of_ext [] a0.drew).ld (i:=4) BS) Aa<|AS (v:=ab) Cc Z a5.rn.isSl Aa ?_
 by_cases ak:S7 ex.kind≠(ex.kids.length:Int)
 ·exact AT true Z Z (A5 ak) Aa<|Ac 14 Z<|Af Z<|fE Z<|A1<|Ao<|Ah [8] Z (.bool false) Z ⟨Dq,a0.drew⟩
 refine AT false Z Z (A6 ak) Aa<|Ad 2 Z<|AK (hex.isPtr) Z (Ae (e:=101) Z Z Z)<|AB (p:=ve) 2 CN Z (a1 _<|Ax.of_ext [] a0.drew) (Ae (e:=101) Z Z Z)<|Ag (p:=Ap ve 2) (.inl Z) (zI ex.pick) AI Z ((a1 _<|Ax.of_ext [] a0.drew).ld (i:=2) BS) (Ae (e:=101) Z Z Z) ?_
 by_cases al:ex.pick≠((0:Nat):Int)
 ·exact AT true Z Z (A5 al) (Ae (e:=101) Z Z Z)<|Ac 8 Z<|Af Z<|fE Z<|A1<|Ao<|Ah [8] Z (.bool false) Z ⟨Dq,a0.drew⟩
 refine AT false Z Z (A6 al) (Ae (e:=101) Z Z Z)<|Ad 3 Z<|AK (hex.isPtr) Z (Ae (e:=108) Z Z Z)<|AB (p:=ve) 3 CV Z (a1 _<|Ax.of_ext [] a0.drew) (Ae (e:=108) Z Z Z)<|Ag (p:=Ap ve 3) (.inl Z) (zI ex.count) AI Z ((a1 _<|Ax.of_ext [] a0.drew).ld (i:=3) BS) (Ae (e:=108) Z Z Z) ?_
 by_cases am:ex.count≠((0:Nat):Int)
 ·exact AT true Z Z (A5 am) (Ae (e:=108) Z Z Z)<|Ac 1 Z<|Af Z<|fE Z<|A1<|Ao<|Ah [8] Z (.bool false) Z ⟨Dq,a0.drew⟩
 refine AT false Z Z (A6 am) (Ae (e:=108) Z Z Z)<|Ac 1 Z<|Aj Z<|A2<|A0<|fC [0,0,0,2] Z<|Ad 1 Z<|AK (hex.isPtr) Z Aa<|AB (p:=ve) 0 Bn Z (a1 _<|Ax.of_ext [] a0.drew) Aa<|Ag (p:=Ap ve 0) (.inr Z) (zI ex.kind) AI Z ((a1 _<|Ax.of_ext [] a0.drew).ld (i:=0) BS) Aa<|Ai<|A3<|fC [0,0] Z ?_
 by_cases an:ex.kind=((1:Nat):Int)
 ·refine As true Z Z (A5 an) Aa<|Ac 1 Z<|Af Z<|fC [0,0,0,2,0,0] Z<|Ad 1 Z<|AK (hex.isPtr) Z Aa<|AB (p:=ve) 1 BL Z (a1 _<|Ax.of_ext [] a0.drew) Aa<|Ag (p:=Ap ve 1) (.inr Z) (zI ex.num) AI Z ((a1 _<|Ax.of_ext [] a0.drew).ld (i:=1) BS) Aa<|AG 220 [] [] [zI ex.num] Z Z Y5 Aa (.bool<|IS ex.num) (fun wq=>H1 wq _ a5.rng.num)<|Ac 1 Z<|A1<|AL<|Ao ?_
  exact Ah [8] Z (.bool<|IS ex.num) Z ⟨Dq,a0.drew⟩
 refine As false Z Z (A6 an) Aa<|Ac 1 Z<|Aj Z<|fC [0,0] Z ?_
 by_cases ao:ex.kind=((2:Nat):Int)
 ·refine As true Z Z (A5 ao) Aa<|Ac 1 Z<|Af Z<|fC [0,0,0,2,0,0,0,0] Z<|Ad 1 Z<|AK (hex.isPtr) Z Aa<|AB (p:=ve) 1 BL Z (a1 _<|Ax.of_ext [] a0.drew) Aa<|Ag (p:=Ap ve 1) (.inr Z) (zI ex.num) AI Z ((a1 _<|Ax.of_ext [] a0.drew).ld (i:=1) BS) Aa<|Ad 1 Z<|BJ (vars-1) Z Z (DH oM oM) Aa<|AG 74 [] [] [zI ex.num,zI ((0:Nat):Int),zI (vars-1)] Z Z II Aa (.bool (decide (((0:Nat):Int)≤ex.num) && decide (ex.num≤(vars-1)))) (fun wq=>BC wq _ _ _ a5.rng.num oM oM)<|Ac 1 Z<|A1<|AL<|Ao ?_
  exact Ah [8] Z (.bool (decide (((0:Nat):Int)≤ex.num) && decide (ex.num≤(vars-1)))) Z ⟨Dq,a0.drew⟩
 refine As false Z Z (A6 ao) Aa<|Ac 1 Z<|Aj Z<|A2<|fC [0,0,0,2,0,0] Z<|Ad 1 Z<|AK (hex.isPtr) Z Aa<|AB (p:=ve) 1 BL Z (a1 _<|Ax.of_ext [] a0.drew) Aa<|Ag (p:=Ap ve 1) (.inr Z) (zI ex.num) AI Z ((a1 _<|Ax.of_ext [] a0.drew).ld (i:=1) BS) Aa<|As (decide (ex.num=((0:Nat):Int))) Z Z Z Aa<|Ac 1 Z<|A1 ?_
 exact Ah [8] Z (.bool<|decide (ex.num=((0:Nat):Int))) Z ⟨Dq,a0.drew⟩
theorem Mk {p:Prop}(h:p:=by first|exact AP (SQ (Bz (by assumption)))|exact AP (ND (By (by assumption)) fun j hj=>hall j oM)|exact AP (SR (k:=k) oM (by first|(rw[if_pos oM])|(rw[if_neg oM])) (Bz (by assumption)))):p:=h
theorem Qa {p:Prop}(h:p:=by intro j hj;by_cases e9:j=k;(rw[e9];first|(rw[if_pos oM];exact By (by assumption))|(rw[if_neg oM];exact By (by assumption)));exact hall j oM):p:=h
theorem Ml (w:World)(dp:Nat)(vp:Value)(p:List Fn)(dex:Nat)(ve:Value)(ex:Ex)(vars:Int)(funcs:Int)(hp:RN [] (rP (KS dp)) w.heap vp p)(hex:RN [] (rP (L6 dex)) w.heap ve ex)(_hvars:BG vars)(_hfuncs:BG funcs)(hs:0≤vars∧vars+(ex.deep:Int)≤2000000000)(hf:0≤funcs∧funcs≤(p.length:Int)) :
  Calls Tryz.prog 272 #[vp,ve,zI vars,zI funcs] w (fun e w'=>e=.returned (.bool (wf p funcs ex vars))∧AD w w'):=by
 induction dex using Nat.strongRecOn generalizing w dp vp p ve ex vars funcs
 rename_i dex ih
 refine Au [vp,ve,zI vars,zI funcs] 49 Tryz.func272 Z Z sM ?_
 have aa:AD w w:=AD.refl w
 have hdk:=E9 ex
 refine fE Z<|A0<|fC [0,0,0,0,3,0] Z<|Ad 4 Z<|At 287 [] [] [vp,ve,zI vars,zI funcs] Z Z cU Aa (Mj _ dp vp (p) dex ve (ex) _ _ (hp.ext (Bg<|AZ dp) aa) (hex.ext (Bg<|Ay dex) aa) _hvars _hfuncs oM oM) ?_
 rintro e1 w1 ⟨rfl,ab⟩
 refine⟨_,rfl,ab,?_⟩
 have ac:=ab.size
 have ad:=aa.trans ab
 refine Bq (!(Hf p funcs vars ex)) Z Z Aa<|Ai ?_
 cases ag:(!(Hf p funcs vars ex))
 ·refine Aj (by first|rfl|exact zW ag)<|A2<|A0<|fE Z<|A3 ?_
  refine AW (S:=Nat) (fun k=>([(9,zI (k:Int)),(0,vp),(1,ve),(2,zI vars),(3,zI funcs)])) (fun k W=>AD w W∧k≤ex.kids.length∧(∀j,j<k→wf p funcs (ex.kids.getD j Ex.zero) (if ex.kind=9∧j=1 then vars+1 else vars)=true)) (fun k=>ex.kids.length-k) 0 ⟨rfl,rfl,rfl,rfl,rfl,trivial⟩ ⟨ad,sD,(by intro j hj;omega)⟩ ?_
  clear aa ab ac ad
  rintro k ρ3 w3 ⟨a0,ah,hall⟩
  have ap:w.heap.size≤w3.heap.size:=a0.size
  refine A0<|fC [0,0,0,0,2,0,0] Z<|Ad 2 Z<|AK (hex.isPtr) Z Aa ?_
  obtain⟨cs4,aq,a2⟩:=RN.at (Ay _) hex
  obtain⟨dd4,a1,au,rfl,a3⟩:=RX.of aq
  have ae:=a3.rn.lenle
  unfold maxLen at ae
  refine AB (p:=ve) 4 AY Z (a2 _<|Ax.of_ext [] a0) Aa<|Ag (p:=Ap ve 4) (.inr Z) a1 B7 Z ((a2 _<|Ax.of_ext [] a0).ld (i:=4) (by simp[DT,E2])) Aa<|AS (v:=a1) Cc Z a3.rn.isSl Aa ?_
  by_cases ai:(k:Int)<(ex.kids.length:Int)
  ·refine AJ true Z Z (A5 ai) Aa<|Ai<|Af Z<|A2<|A0<|A3<|fC [0,0] Z ?_
   have hkd:=DB (l:=ex.kids) (k:=k) oM
   refine Ac 2 Z<|A0<|fC [0,0,0,2,0,0,0,0,0] Z<|Ad 1 Z<|AK (hex.isPtr) Z Aa<|AB (p:=ve) 0 Bn Z (a2 _<|Ax.of_ext [] a0) Aa<|Ag (p:=Ap ve 0) (.inr Z) (zI ex.kind) AI Z ((a2 _<|Ax.of_ext [] a0).ld (i:=0) (by simp[DT,E2])) Aa ?_
   by_cases aj:ex.kind=((9:Nat):Int)
   ·refine As true Z Z (A5 aj) Aa<|Ad 2 Z ?_
    by_cases ak:(k:Int)=((1:Nat):Int)
    ·refine As true Z Z (A5 ak) (Ae (e:=32) Z Z Z)<|Ac 1 Z<|Af Z<|Ab _ [0,0,0] Z<|Ad 1 Z<|AR (vars+1) Z Z (DH oM oM) Aa<|Ac 1 Z<|fC [0,0,0,0,2,0,0,0,0,3,0] Z<|Ad 2 Z<|AK (hex.isPtr) Z Aa<|AB (p:=ve) 4 AY Z (a2 _<|Ax.of_ext [] a0) Aa<|Ag (p:=Ap ve 4) (.inr Z) a1 B7 Z ((a2 _<|Ax.of_ext [] a0).ld (i:=4) (by simp[DT,E2])) Aa<|Ad 1 Z ?_
     refine AE (v:=a1) k Cc B3 Z Z a3.rn.isSl Z sD Aa<|Ad 2 Z ?_
     refine At 272 [] [] [vp,AA a1 k 5,zI (vars+1),zI funcs] Z Z RD Aa (ih dd4 oM _ dp vp (p) (AA a1 k 5) (ex.kids.getD k Ex.zero) _ _ (hp.ext (Bg<|AZ dp) a0) (RN.ptr (Ay dd4) (by decide) Ex.zero (a3.rn.ext (An<|Ay dd4) a0) sD) oM _hfuncs oM oM) ?_
     rintro e8 w8 ⟨rfl,af⟩
     refine⟨_,rfl,af,?_⟩
     have ar:=af.size
     have al:=a0.trans af
     refine Bq (!(wf p funcs (ex.kids.getD k Ex.zero) (vars+1))) Z Z Aa<|Ai ?_
     cases am:(!(wf p funcs (ex.kids.getD k Ex.zero) (vars+1)))
     ·refine Aj (by first|rfl|exact zW am)<|A2<|Ab _ [0,0,0] Z<|Ad 1 Z<|AR ((k+1:Nat):Int) Z Z (Bl oM sD) Aa<|Ac 1 Z ?_
      exact⟨k+1,_,rfl,zR,⟨al,sD,Qa⟩,zD⟩
     exact Af (by first|rfl|exact zW am)<|fE Z<|A1<|AL<|Ao<|Ao<|AL<|Ao<|Ah [8] Z (.bool false) Z ⟨Mk,al⟩
    refine As false Z Z (A6 ak) (Ae (e:=32) Z Z Z)<|Ac 1 Z<|Aj Z<|A2<|fC [0,0,0,0,2,0,0,0,0,3,0] Z<|Ad 2 Z<|AK (hex.isPtr) Z Aa<|AB (p:=ve) 4 AY Z (a2 _<|Ax.of_ext [] a0) Aa<|Ag (p:=Ap ve 4) (.inr Z) a1 B7 Z ((a2 _<|Ax.of_ext [] a0).ld (i:=4) (by simp[DT,E2])) Aa<|Ad 1 Z ?_
    refine AE (v:=a1) k Cc B3 Z Z a3.rn.isSl Z sD Aa<|Ad 2 Z ?_
    refine At 272 [] [] [vp,AA a1 k 5,zI vars,zI funcs] Z Z RD Aa (ih dd4 oM _ dp vp (p) (AA a1 k 5) (ex.kids.getD k Ex.zero) _ _ (hp.ext (Bg<|AZ dp) a0) (RN.ptr (Ay dd4) (by decide) Ex.zero (a3.rn.ext (An<|Ay dd4) a0) sD) _hvars _hfuncs oM oM) ?_
    rintro av aw ⟨rfl,a4⟩
    refine⟨_,rfl,a4,?_⟩
    have an:=a4.size
    have a6:=a0.trans a4
    refine Bq (!(wf p funcs (ex.kids.getD k Ex.zero) vars)) Z Z Aa<|Ai ?_
    cases a7:(!(wf p funcs (ex.kids.getD k Ex.zero) vars))
    ·refine Aj (by first|rfl|exact zW a7)<|A2<|Ab _ [0,0,0] Z<|Ad 1 Z<|AR ((k+1:Nat):Int) Z Z (Bl oM sD) Aa<|Ac 1 Z ?_
     exact⟨k+1,_,rfl,zR,⟨a6,sD,Qa⟩,zD⟩
    exact Af (by first|rfl|exact zW a7)<|fE Z<|A1<|AL<|Ao<|Ao<|AL<|Ao<|Ah [8] Z (.bool false) Z ⟨Mk,a6⟩
   refine As false Z Z (A6 aj) Aa<|Ac 4 Z<|Aj Z<|A2<|fC [0,0,0,0,2,0,0,0,0,3,0] Z<|Ad 2 Z<|AK (hex.isPtr) Z Aa<|AB (p:=ve) 4 AY Z (a2 _<|Ax.of_ext [] a0) Aa<|Ag (p:=Ap ve 4) (.inr Z) a1 B7 Z ((a2 _<|Ax.of_ext [] a0).ld (i:=4) (by simp[DT,E2])) Aa<|Ad 1 Z ?_
   refine AE (v:=a1) k Cc B3 Z Z a3.rn.isSl Z sD Aa<|Ad 2 Z ?_
   refine At 272 [] [] [vp,AA a1 k 5,zI vars,zI funcs] Z Z RD Aa (ih dd4 oM _ dp vp (p) (AA a1 k 5) (ex.kids.getD k Ex.zero) _ _ (hp.ext (Bg<|AZ dp) a0) (RN.ptr (Ay dd4) (by decide) Ex.zero (a3.rn.ext (An<|Ay dd4) a0) sD) _hvars _hfuncs oM oM) ?_
   rintro ax ay ⟨rfl,a5⟩
   refine⟨_,rfl,a5,?_⟩
   have ao:=a5.size
   have a8:=a0.trans a5
   refine Bq (!(wf p funcs (ex.kids.getD k Ex.zero) vars)) Z Z Aa<|Ai ?_
   cases a9:(!(wf p funcs (ex.kids.getD k Ex.zero) vars))
   ·refine Aj (by first|rfl|exact zW a9)<|A2<|Ab _ [0,0,0] Z<|Ad 1 Z<|AR ((k+1:Nat):Int) Z Z (Bl oM sD) Aa<|Ac 1 Z ?_
    exact⟨k+1,_,rfl,zR,⟨a8,sD,Qa⟩,zD⟩
   exact Af (by first|rfl|exact zW a9)<|fE Z<|A1<|AL<|Ao<|Ao<|AL<|Ao<|Ah [8] Z (.bool false) Z ⟨Mk,a8⟩
  exact AJ false Z Z (A6 ai) Aa<|Ai<|Aj Z<|A4<|Az<|Az<|Aw<|fE Z<|A1<|Ah [8] Z (.bool true) Z ⟨Mk,a0⟩
 exact Af (by first|rfl|exact zW ag)<|fE Z<|A1<|Ao<|Ah [8] Z (.bool false) Z ⟨Mk,ad⟩
theorem Mm (w:World)(vars:Int)(_hvars:BG vars)  :
  Calls Tryz.prog 270 #[zI vars] w (fun e w'=>e=.returned (.bool (Ey vars 0 412))∧w'=w):=by
 refine Au [zI vars] 5 Tryz.func270 Z Z sM ?_
 have a0:w=w:=rfl
 exact fE Z<|fC [0,0,0] Z<|Ad 1 Z<|AG 74 [] [] [zI vars,zI ((0:Nat):Int),zI ((412:Nat):Int)] Z Z II Aa (.bool (decide (((0:Nat):Int)≤vars) && decide (vars≤((412:Nat):Int)))) (fun wq=>BC wq _ _ _ _hvars oM oM)<|Ac 1 Z<|A1<|Ah [2] Z (.bool (decide (((0:Nat):Int)≤vars) && decide (vars≤((412:Nat):Int)))) Z ⟨rfl,a0⟩
theorem Mn {p:Prop}(h:p:=by first|exact AP (Yh (by assumption))|exact AP (RO ⟨BH.1 (by assumption),HF (by assumption),zO,zO⟩)|exact AP ((by assumption:wf p funcs ex vars=true).symm.trans (RO ⟨BH.1 (by assumption),HF (by assumption),zO,zO⟩))|exact AP (Nu fun hh=>UU (by assumption) hh.1)|exact AP (Nu fun hh=>Pm (by assumption) hh.2.1)|exact AP (Nu oM)):p:=h
theorem Mo (w:World)(dp:Nat)(vp:Value)(p:List Fn)(dex:Nat)(ve:Value)(ex:Ex)(vars:Int)(funcs:Int)(hp:RN [] (rP (KS dp)) w.heap vp p)(hex:RN [] (rP (L6 dex)) w.heap ve ex)(_hvars:BG vars)(_hfuncs:BG funcs)(hs:ex.size≤1000000000) :
  Calls Tryz.prog 240 #[vp,ve,zI vars,zI funcs] w (fun e w'=>e=.returned (.bool (MF p ex vars funcs))∧AD w w'):=by
 refine Au [vp,ve,zI vars,zI funcs] 37 Tryz.func240 Z Z sM ?_
 have a1:AD w w:=AD.refl w
 have hlp:=Tt (e:=ex) (x:=((400:Nat):Int)) oM
 refine fE Z<|fC [0,0,0,0,0,0,0,2,0,0,0,0,0,3,0,0,0,0,3,0,0,0,0,0,0,0,3,0,0] Z<|Ad 1 Z<|AG 270 [] [] [zI vars] Z Z cR Aa (.bool<|Ey vars 0 412) (fun wq=>Mm wq _ _hvars)<|Ad 1 Z ?_
 cases ah:(Ey vars 0 412)
 ·exact Ac 26 Z<|A1<|Ah [8] Z (.bool false) Z ⟨Mn,a1⟩
 refine Ad 2 Z<|AK (hp.isPtr) Z (Ae (e:=11) Z Z Z) ?_
 obtain⟨cs3,ae,a8⟩:=RN.at (AZ _) hp
 obtain⟨a9,rfl,aa⟩:=RPr.of ae
 have a3:=aa.lenle
 unfold maxLen at a3
 refine AB (p:=vp) 0 B8 Z (a8 _<|Ax.of_ext [] a1) (Ae (e:=11) Z Z Z)<|Ag (p:=Ap vp 0) (.inr Z) a9 Bt Z ((a8 _<|Ax.of_ext [] a1).ld (i:=0) (by simp[DT,E2])) (Ae (e:=11) Z Z Z)<|AS (v:=a9) Du Z aa.isSl (Ae (e:=11) Z Z Z)<|AG 74 [] [] [zI funcs,zI ((0:Nat):Int),zI (p.length:Int)] Z Z II (Ae (e:=11) Z Z Z) (.bool (decide (((0:Nat):Int)≤funcs) && decide (funcs≤(p.length:Int)))) (fun wq=>BC wq _ _ _ _hfuncs oM oM)<|Ad 2 Z ?_
 cases ai:(decide (((0:Nat):Int)≤funcs) && decide (funcs≤(p.length:Int)))
 ·exact Ac 17 Z<|A1<|Ah [8] Z (.bool false) Z ⟨Mn,a1⟩
 refine Ad 1 Z<|At 239 [] [] [ve,zI ((400:Nat):Int)] Z Z UI (Ae (e:=20) Z Z Z) (Ii _ dex ve (ex) _ (hex.ext (Bg<|Ay dex) a1) oM oM oM) ?_
 rintro e6 w6 ⟨rfl,a4⟩
 refine⟨_,rfl,a4,?_⟩
 have af:=a4.size
 have a5:=a1.trans a4
 by_cases ab:((0:Nat):Int)≤IE ex ((400:Nat):Int)
 ·refine DN true Z Z (A5 ab) (Ae (e:=20) Z Z Z)<|Ad 3 Z<|At 271 [] [] [ve] Z Z Yb (Ae (e:=25) Z Z Z) (KW _ dex ve (ex) (hex.ext (Bg<|Ay dex) a5) oM) ?_
  rintro e8 w8 ⟨rfl,a6⟩
  refine⟨_,rfl,a6,?_⟩
  have ag:=a6.size
  have a2:=a5.trans a6
  by_cases ac:(ex.deep:Int)≤((60:Nat):Int)
  ·refine Ek true Z Z (A5 ac) (Ae (e:=25) Z Z Z)<|Ad 6 Z<|At 272 [] [] [vp,ve,zI vars,zI funcs] Z Z RD (Ae (e:=30) Z Z Z) (Ml _ dp vp (p) dex ve (ex) _ _ (hp.ext (Bg<|AZ dp) a2) (hex.ext (Bg<|Ay dex) a2) _hvars _hfuncs (by have h1:=BH.1 (by assumption:Ey vars 0 412=true);omega) (by have h2:=HF (by assumption:(decide (((0:Nat):Int)≤funcs) && decide (funcs≤(p.length:Int)))=true);omega)) ?_
   rintro aj ak ⟨rfl,a0⟩
   refine⟨_,rfl,a0,?_⟩
   have ad:=a0.size
   have a7:=a2.trans a0
   exact Ac 2 Z<|A1<|Ah [8] Z (.bool<|wf p funcs ex vars) Z ⟨Mn,a7⟩
  exact Ek false Z Z (A6 ac) (Ae (e:=25) Z Z Z)<|Ac 9 Z<|A1<|Ah [8] Z (.bool false) Z ⟨Mn,a2⟩
 exact DN false Z Z (A6 ab) (Ae (e:=20) Z Z Z)<|Ac 14 Z<|A1<|Ah [8] Z (.bool false) Z ⟨Mn,a5⟩
theorem Zz {s:ByteArray}(h:¬(1≤s.size∧s.size≤12)):false=Le s:=by
  cases hh:Le s with
  |false=>rfl
  |true=>unfold Le at hh;simp only[z7,decide_eq_true_eq]at hh;exact absurd hh.1 h
theorem Ij {p:Prop}(h:p:=by first|exact AP (Zz (fun hh=>Pm (Bz (by assumption)) ⟨zO,zO⟩))|exact AP (Q5 (k:=0) oM oM)|exact AP (Q5 (k:=k) oM oM)|exact AP (UT hq oM (by rw[A5 (show 1≤s.size by omega),A5 (show s.size≤12 by omega)];rfl))):p:=h
theorem Qb {p:Prop}(h:p:=by exact Eb hq (RM (by(by_cases h0:k=0;(rw[h0];left;omega);omega)))):p:=h
theorem MO (w:World)(s:ByteArray)  (hl:s.size≤1000000000) :
  Calls Tryz.prog 238 #[.string s] w (fun e w'=>e=.returned (.bool (Le s))∧w'=w):=by
 refine Au [.string s] 46 Tryz.func238 Z Z sM ?_
 have a1:w=w:=rfl
 refine fE Z<|A0<|fC [0,0,0,0,0,0,0,0,0,0,0,0,0,0] Z<|Ad 1 Z<|Lv (s:=s) u9 Z Aa<|AG 74 [] [] [zI (s.size:Int),zI ((1:Nat):Int),zI ((12:Nat):Int)] Z Z II Aa (.bool (decide (((1:Nat):Int)≤(s.size:Int)) && decide ((s.size:Int)≤((12:Nat):Int)))) (fun wq=>BC wq _ _ _ oM oM oM)<|Bq (!(decide (((1:Nat):Int)≤(s.size:Int)) && decide ((s.size:Int)≤((12:Nat):Int)))) Z Z Aa<|Ad 1 Z ?_
 cases ac:(!(decide (((1:Nat):Int)≤(s.size:Int)) && decide ((s.size:Int)≤((12:Nat):Int))))
 ·refine Ad 1 Z ?_
  have hsz:=HF (By (by assumption):(decide (((1:Nat):Int)≤(s.size:Int)) && decide ((s.size:Int)≤((12:Nat):Int)))=true)
  refine Ds (s:=s) 0 u9 Z Z Z sD (Ae (e:=8) Z Z Z) ?_
  by_cases a5:((K8 s 0:Nat):Int)<97
  ·exact AJ true Z Z (A5 a5) (Ae (e:=8) Z Z Z)<|Ac 6 Z<|Af Z<|fE Z<|A1<|Ao<|Ah [2] Z (.bool false) Z ⟨Ij,a1⟩
  refine AJ false Z Z (A6 a5) (Ae (e:=8) Z Z Z)<|Ad 3 Z<|Ds (s:=s) 0 u9 Z Z Z sD (Ae (e:=13) Z Z Z) ?_
  by_cases a6:122<((K8 s 0:Nat):Int)
  ·exact Cj true Z Z (A5 a6) (Ae (e:=13) Z Z Z)<|Ac 1 Z<|Af Z<|fE Z<|A1<|Ao<|Ah [2] Z (.bool false) Z ⟨Ij,a1⟩
  refine Cj false Z Z (A6 a6) (Ae (e:=13) Z Z Z)<|Ac 1 Z<|Aj Z<|A2<|A0<|fE Z<|A3<|AW (S:=Nat) (fun k=>([(3,zI (k:Int)),(0,.string s)])) (fun k W=>W=w∧k≤s.size∧(List.range k).all (Xm s)=true) (fun k=>s.size-k) 0 ⟨rfl,rfl,trivial⟩ ⟨a1,sD,(by rfl)⟩ ?_
  clear a1
  rintro k ρ5 w5 ⟨a0,a7,hq⟩
  refine A0<|fC [0,0,0,0] Z<|Ad 2 Z<|Lv (s:=s) u9 Z Aa ?_
  by_cases a8:(k:Int)<(s.size:Int)
  ·refine AJ true Z Z (A5 a8) Aa<|Ai<|Af Z<|A2<|A0<|A3<|fC [0,0,0,0,0,0,0,0,0,0,0,0,0,0,0,0,0,0,0,0,0,0] Z<|Ad 2 Z<|Ds (s:=s) k u9 Z Z Z sD Aa ?_
   by_cases a9:((K8 s k:Nat):Int)<97
   ·refine AJ true Z Z (A5 a9) Aa<|Ad 9 Z<|Ds (s:=s) k u9 Z Z Z sD (Ae (e:=34) Z Z Z) ?_
    by_cases aa:((K8 s k:Nat):Int)<48
    ·exact AJ true Z Z (A5 aa) (Ae (e:=34) Z Z Z)<|Ac 7 Z<|Af Z<|fE Z<|A1<|AL<|Ao<|Ao<|AL<|Ao<|Ah [2] Z (.bool false) Z ⟨Ij,a0⟩
    refine AJ false Z Z (A6 aa) (Ae (e:=34) Z Z Z)<|Ad 3 Z<|Ds (s:=s) k u9 Z Z Z sD (Ae (e:=39) Z Z Z) ?_
    by_cases ab:57<((K8 s k:Nat):Int)
    ·exact Cj true Z Z (A5 ab) (Ae (e:=39) Z Z Z)<|Ac 2 Z<|Af Z<|fE Z<|A1<|AL<|Ao<|Ao<|AL<|Ao<|Ah [2] Z (.bool false) Z ⟨Ij,a0⟩
    refine Cj false Z Z (A6 ab) (Ae (e:=39) Z Z Z)<|Ac 2 Z<|Aj Z<|A2<|Ab _ [0,0,0] Z<|Ad 1 Z<|AR ((k+1:Nat):Int) Z Z (Bl oM sD) Aa<|Ac 1 Z ?_
    exact⟨k+1,_,rfl,⟨rfl,rfl,trivial⟩,⟨a0,sD,Qb⟩,zD⟩
   refine AJ false Z Z (A6 a9) Aa<|Ad 3 Z<|Ds (s:=s) k u9 Z Z Z sD (Ae (e:=28) Z Z Z) ?_
   by_cases a2:122<((K8 s k:Nat):Int)
   ·refine Cj true Z Z (A5 a2) (Ae (e:=28) Z Z Z)<|Ad 4 Z<|Ds (s:=s) k u9 Z Z Z sD (Ae (e:=34) Z Z Z) ?_
    by_cases a3:((K8 s k:Nat):Int)<48
    ·exact AJ true Z Z (A5 a3) (Ae (e:=34) Z Z Z)<|Ac 7 Z<|Af Z<|fE Z<|A1<|AL<|Ao<|Ao<|AL<|Ao<|Ah [2] Z (.bool false) Z ⟨Ij,a0⟩
    refine AJ false Z Z (A6 a3) (Ae (e:=34) Z Z Z)<|Ad 3 Z<|Ds (s:=s) k u9 Z Z Z sD (Ae (e:=39) Z Z Z) ?_
    by_cases a4:57<((K8 s k:Nat):Int)
    ·exact Cj true Z Z (A5 a4) (Ae (e:=39) Z Z Z)<|Ac 2 Z<|Af Z<|fE Z<|A1<|AL<|Ao<|Ao<|AL<|Ao<|Ah [2] Z (.bool false) Z ⟨Ij,a0⟩
    refine Cj false Z Z (A6 a4) (Ae (e:=39) Z Z Z)<|Ac 2 Z<|Aj Z<|A2<|Ab _ [0,0,0] Z<|Ad 1 Z<|AR ((k+1:Nat):Int) Z Z (Bl oM sD) Aa<|Ac 1 Z ?_
    exact⟨k+1,_,rfl,⟨rfl,rfl,trivial⟩,⟨a0,sD,Qb⟩,zD⟩
   refine Cj false Z Z (A6 a2) (Ae (e:=28) Z Z Z)<|Ac 13 Z<|Aj Z<|A2<|Ab _ [0,0,0] Z<|Ad 1 Z<|AR ((k+1:Nat):Int) Z Z (Bl oM sD) Aa<|Ac 1 Z ?_
   exact⟨k+1,_,rfl,⟨rfl,rfl,trivial⟩,⟨a0,sD,Qb⟩,zD⟩
  exact AJ false Z Z (A6 a8) Aa<|Ai<|Aj Z<|A4<|Az<|Az<|Aw<|fE Z<|A1<|Ah [2] Z (.bool true) Z ⟨Ij,a0⟩
 exact Ac 9 Z<|Af Z<|fE Z<|A1<|Ao<|Ah [2] Z (.bool false) Z ⟨Ij,a1⟩
theorem UZ {α:Type}{l:List α}{f:α→Bool}{k:Nat}(d:α)(hk:k<l.length)(h:(l.take k).any f=false)(h2:f (l.getD k d)=false):(l.take (k+1)).any f=false:=by
  rw[List.take_succ_eq_append_getElem hk,List.any_append,h]
  have:l.getD k d=l[k]:=by simp[hk]
  rw[this]at h2
  simp[h2]
theorem Xf {α:Type}{l:List α}{f:α→Bool}{k n:Nat}(d:α)(hk:k<n)(hn:n≤l.length)(h:f (l.getD k d)=true):(l.take n).any f=true:=by
  rw[List.any_eq_true]
  have hkl:k<l.length:=by omega
  have e:l.getD k d=l[k]:=by simp[hkl]
  refine⟨l[k],?_,by rw[← e];exact h⟩
  rw[List.mem_take_iff_getElem]
  exact⟨k,zO,rfl⟩
theorem Xg {p:List Fn}{a j:Nat}{x:Int}(hx:x=Dp ((p.getD a Fn.zero).outs.take j) ((400:Nat):Int))(h:0≤x)(hj:(p.getD a Fn.zero).outs.length≤j):Ex.sizes (p.getD a Fn.zero).outs≤400:=by
  rw[za hj]at hx
  rcases It (p.getD a Fn.zero).outs ((400:Nat):Int) (Int.natCast_nonneg _)with h2|h2
  · have:=h2.2;omega
  · have:=h2.1;omega
theorem V0 {p:List Fn}{a j:Nat}(h:Dp ((p.getD a Fn.zero).outs.take j) ((400:Nat):Int)<0):KM p a=false:=dF (by
  have h1:=Nd h
  rcases It (p.getD a Fn.zero).outs ((400:Nat):Int) (Int.natCast_nonneg _)with h2|h2
  · have:=h2.1;have:=h2.2;omega
  · have:=h2.2;omega)
theorem Jm {p:Prop}(h:p:=by first|exact AP (dA (Bz (by assumption))).symm|exact AP (dC (Bz (by assumption))).symm|exact AP (dD (Bz (by assumption))).symm|exact AP (dB (Xf (k:=k) Fn.zero oM oM (by assumption))).symm|exact AP (V0 (j:=j+1) (by rw[hnx,← hx];omega)).symm|exact AP (dE (j:=j) oM (Bz (by assumption))).symm|exact AP (Yi (By (by assumption)) hqa (By (by assumption)) (By (by assumption)) hqe oM (Xg hx oM oM)).symm):p:=h
theorem G0 {p:Prop}(h:p:=by simp[DT,E2]):p:=h
theorem Mp (w:World)(dp:Nat)(vp:Value)(p:List Fn)(a:Nat)(hp:RN [] (rP (KS dp)) w.heap vp p)(ha:a<p.length)(hpl:p.length≤1000000)(hz:LF p) :
  Calls Tryz.prog 207 #[vp,zI (a:Int)] w (fun e w'=>e=.returned (.bool (KM p a))∧AD w w'):=by
 refine Au [vp,zI (a:Int)] 91 Tryz.func207 Z Z sM ?_
 have a4:AD w w:=AD.refl w
 have hza:=hz a ha
 refine fE Z<|fC [0,0,0,2,0,0,0] Z<|Ad 1 Z<|AK (hp.isPtr) Z Aa ?_
 obtain⟨cs1,ay,al⟩:=RN.at (AZ _) hp
 obtain⟨a0,rfl,a5⟩:=RPr.of ay
 have ab:=a5.lenle
 unfold maxLen at ab
 refine AB (p:=vp) 0 B8 Z (al _<|Ax.of_ext [] a4) Aa<|Ag (p:=Ap vp 0) (.inr Z) a0 Bt Z ((al _<|Ax.of_ext [] a4).ld (i:=0) G0) Aa<|Ad 1 Z<|AE (v:=a0) a Du BD Z Z a5.isSl Z sD Aa<|Ac 1 Z<|A0<|fC [0,0,0,2,0,0,0,0,0,0,2,0,0,0,0,0,0,0,2,0,0,0,0] Z<|Ad 1 Z ?_
 refine AK (RN.isPtr<|RN.ptr (Av dp) (by decide) Fn.zero a5 sD) Z Aa ?_
 obtain⟨cs2,az,a3⟩:=a5.get (Av dp) Fn.zero (k:=a) sD
 obtain⟨a6,rfl,a9⟩:=RF.of az
 have ac:=a9.rn.lenle
 unfold maxLen at ac
 refine AB (p:=AA a0 a 3) 0 EF Z (a3 _<|Ax.of_ext [] a4) Aa<|Ag (p:=Ap (AA a0 a 3) 0) (.inr Z) (.string<|(p.getD a Fn.zero).name) K1 Z ((a3 _<|Ax.of_ext [] a4).ld (i:=0) G0) Aa<|AG 238 [] [] [.string<|(p.getD a Fn.zero).name] Z Z cK Aa (.bool<|Le<|(p.getD a Fn.zero).name) (fun wq=>MO wq ((p.getD a Fn.zero).name) oM)<|Bq (!(Le<|(p.getD a Fn.zero).name)) Z Z Aa<|Ad 1 Z ?_
 cases b1:(!(Le ((p.getD a Fn.zero).name)))
 ·refine Ad 1 Z<|AK (RN.isPtr<|RN.ptr (Av dp) (by decide) Fn.zero a5 sD) Z (Ae (e:=21) Z Z Z)<|AB (p:=AA a0 a 3) 1 BI Z (a3 _<|Ax.of_ext [] a4) (Ae (e:=21) Z Z Z)<|Ag (p:=Ap (AA a0 a 3) 1) (.inr Z) (zI<|(p.getD a Fn.zero).params) AI Z ((a3 _<|Ax.of_ext [] a4).ld (i:=1) G0) (Ae (e:=21) Z Z Z) ?_
  refine AG 74 [] [] [zI<|(p.getD a Fn.zero).params,zI ((0:Nat):Int),zI ((12:Nat):Int)] Z Z II (Ae (e:=21) Z Z Z) (.bool (decide (((0:Nat):Int)≤((p.getD a Fn.zero).params)) && decide (((p.getD a Fn.zero).params)≤((12:Nat):Int)))) (fun wq=>BC wq _ _ _ a9.rng oM oM)<|Bq (!(decide (((0:Nat):Int)≤((p.getD a Fn.zero).params)) && decide (((p.getD a Fn.zero).params)≤((12:Nat):Int)))) Z Z (Ae (e:=21) Z Z Z)<|Ad 2 Z ?_
  cases b2:(!(decide (((0:Nat):Int)≤((p.getD a Fn.zero).params)) && decide (((p.getD a Fn.zero).params)≤((12:Nat):Int))))
  ·refine Ad 1 Z<|AK (RN.isPtr<|RN.ptr (Av dp) (by decide) Fn.zero a5 sD) Z (Ae (e:=29) Z Z Z)<|AB (p:=AA a0 a 3) 2 Br Z (a3 _<|Ax.of_ext [] a4) (Ae (e:=29) Z Z Z)<|Ag (p:=Ap (AA a0 a 3) 2) (.inr Z) a6 B7 Z ((a3 _<|Ax.of_ext [] a4).ld (i:=2) G0) (Ae (e:=29) Z Z Z)<|AS (v:=a6) Cc Z a9.rn.isSl (Ae (e:=29) Z Z Z) ?_
   refine AG 74 [] [] [zI ((((p.getD a Fn.zero).outs).length:Nat):Int),zI ((1:Nat):Int),zI ((12:Nat):Int)] Z Z II (Ae (e:=29) Z Z Z) (.bool (decide (((1:Nat):Int)≤((((p.getD a Fn.zero).outs).length:Nat):Int)) && decide (((((p.getD a Fn.zero).outs).length:Nat):Int)≤((12:Nat):Int)))) (fun wq=>BC wq _ _ _ oM oM oM)<|Bq (!(decide (((1:Nat):Int)≤((((p.getD a Fn.zero).outs).length:Nat):Int)) && decide (((((p.getD a Fn.zero).outs).length:Nat):Int)≤((12:Nat):Int)))) Z Z (Ae (e:=29) Z Z Z)<|Ac 1 Z ?_
   cases ar:(!(decide (((1:Nat):Int)≤((((p.getD a Fn.zero).outs).length:Nat):Int)) && decide (((((p.getD a Fn.zero).outs).length:Nat):Int)≤((12:Nat):Int))))
   ·refine Aj (by first|rfl|exact zW ar)<|A2<|A0<|fE Z<|A3 ?_
    refine AW (S:=Nat) (fun k=>([(6,zI (k:Int)),(0,vp),(1,zI (a:Int)),(5,AA a0 a 3)])) (fun k W=>AD w W∧k≤a∧(p.take k).any (fun g=>DA g.name (p.getD a Fn.zero).name)=false) (fun k=>a-k) 0 ⟨rfl,rfl,rfl,rfl,trivial⟩ ⟨a4,sD,(by rfl)⟩ ?_
    clear a4 ab ac
    rintro k ρ9 w9 ⟨a7,au,hq⟩
    have am:w.heap.size≤w9.heap.size:=a7.size
    refine A0<|fC [0,0,0] Z<|Ad 2 Z ?_
    by_cases ad:(k:Int)<(a:Int)
    ·refine AJ true Z Z (A5 ad) Aa<|Ai<|Af Z<|A2<|A0<|A3<|A0<|AQ _ [0,0,0,1,0,0,0,1,0,0,0,1,0] mixed (by kernel_rfl)<|Ad 1 Z<|AK (hp.isPtr) Z Aa<|AB (p:=vp) 0 B8 Z (al _<|Ax.of_ext [] a7.drew) Aa<|Ag (p:=Ap vp 0) (.inl Z) a0 Bt Z ((al _<|Ax.of_ext [] a7.drew).ld (i:=0) G0) Aa<|Ad 1 Z ?_
     refine AE (v:=a0) k Du BD Z Z a5.isSl Z sD Aa ?_
     obtain⟨cs11,an,ae⟩:=a5.get (Av dp) Fn.zero (k:=k) sD
     obtain⟨b0,rfl,ao⟩:=RF.of an
     have af:=ao.rn.lenle
     unfold maxLen at af
     refine AB (p:=AA a0 k 3) 0 EF Z (ae _<|Ax.of_ext [] a7.drew) Aa<|Ag (p:=Ap (AA a0 k 3) 0) (.inl Z) (.string<|(p.getD k Fn.zero).name) K1 Z ((ae _<|Ax.of_ext [] a7.drew).ld (i:=0) G0) Aa<|Ad 1 Z<|AK (RN.isPtr<|RN.ptr (Av dp) (by decide) Fn.zero a5 sD) Z Aa<|AB (p:=AA a0 a 3) 0 EF Z (a3 _<|Ax.of_ext [] a7.drew) Aa ?_
     refine Ag (p:=Ap (AA a0 a 3) 0) (.inl Z) (.string<|(p.getD a Fn.zero).name) K1 Z ((a3 _<|Ax.of_ext [] a7.drew).ld (i:=0) G0) Aa ?_
     cases ag:DA ((p.getD k Fn.zero).name) ((p.getD a Fn.zero).name)
     ·refine Ke false u9 Z Z ag Aa<|Ai<|Aj Z<|A2<|Ab _ [0,0,0] Z<|Ad 1 Z<|AR ((k+1:Nat):Int) Z Z (Bl oM sD) Aa<|Ac 1 Z ?_
      exact⟨k+1,_,rfl,zR,⟨a7.drew,sD,(by exact UZ Fn.zero oM hq (by assumption))⟩,zD⟩
     exact Ke true u9 Z Z ag Aa<|Ai<|Af Z<|fE Z<|A1<|AL<|Ao<|Ao<|AL<|Ao<|Ah [4] Z (.bool false) Z ⟨Jm,a7.drew⟩
    refine AJ false Z Z (A6 ad) Aa<|Ai<|Aj Z<|A4<|Az<|Az<|Aw<|fC [0] Z ?_
    have hka:k=a:=by omega
    rw[hka]at hq
    have hqa:=hq
    refine Ac 1 Z<|A0<|fE Z<|A3 ?_
    refine AW (S:=Nat×Int) (fun⟨j,x⟩=>([(7,zI x),(8,zI (j:Int)),(0,vp),(1,zI (a:Int)),(5,AA a0 a 3)])) (fun⟨j,x⟩ W=>AD w W∧j≤(p.getD a Fn.zero).outs.length∧x=Dp ((p.getD a Fn.zero).outs.take j) ((400:Nat):Int)∧(0≤x∧x≤400)∧(List.range j).all (fun j=>MF p ((p.getD a Fn.zero).outs.getD j Ex.zero) (p.getD a Fn.zero).params (a:Int))=true) (fun⟨j,x⟩=>(p.getD a Fn.zero).outs.length-j) (0,((400:Nat):Int)) ⟨rfl,rfl,rfl,rfl,rfl,trivial⟩ ⟨a7,sD,(by rw[List.take_zero,Dp]),oM,(by rfl)⟩ ?_
    clear a7 am
    rintro⟨j,x⟩ ρ13 b3 ⟨a1,ap,hx,aq,hqe⟩
    have av:w.heap.size≤b3.heap.size:=a1.size
    refine A0<|fC [0,0,0,0,2,0,0] Z<|Ad 2 Z<|AK (RN.isPtr<|RN.ptr (Av dp) (by decide) Fn.zero a5 sD) Z Aa<|AB (p:=AA a0 a 3) 2 Br Z (a3 _<|Ax.of_ext [] a1) Aa<|Ag (p:=Ap (AA a0 a 3) 2) (.inr Z) a6 B7 Z ((a3 _<|Ax.of_ext [] a1).ld (i:=2) G0) Aa<|AS (v:=a6) Cc Z a9.rn.isSl Aa ?_
    by_cases ah:(j:Int)<((((p.getD a Fn.zero).outs).length:Nat):Int)
    ·refine AJ true Z Z (A5 ah) Aa<|Ai<|Af Z<|A2<|A0<|A3<|fC [0,0,0,2,0,0,0,3,0] Z ?_
     have hst:=E3 (l:=(p.getD a Fn.zero).outs) (k:=j) oM
     have hle:=Dz (p.getD a Fn.zero).outs (j+1)
     have hnx:=Nc (l:=(p.getD a Fn.zero).outs) (k:=j) (x:=((400:Nat):Int)) oM oM
     have hnr:=OX (e:=(p.getD a Fn.zero).outs.getD j Ex.zero) (x:=x) oM
     refine Ad 1 Z<|AK (RN.isPtr<|RN.ptr (Av dp) (by decide) Fn.zero a5 sD) Z Aa<|AB (p:=AA a0 a 3) 2 Br Z (a3 _<|Ax.of_ext [] a1) Aa<|Ag (p:=Ap (AA a0 a 3) 2) (.inr Z) a6 B7 Z ((a3 _<|Ax.of_ext [] a1).ld (i:=2) G0) Aa<|Ad 1 Z ?_
     refine AE (v:=a6) j Cc B3 Z Z a9.rn.isSl Z sD Aa<|Ad 1 Z ?_
     refine At 239 [] [] [AA a6 j 5,zI x] Z Z UI Aa (Ii _ dp (AA a6 j 5) (((p.getD a Fn.zero).outs).getD j Ex.zero) _ (RN.ptr (Ay dp) (by decide) Ex.zero (a9.rn.ext (An<|Ay dp) a1) sD) oM oM oM) ?_
     rintro b4 b5 ⟨rfl,aa⟩
     refine⟨_,rfl,aa,?_⟩
     have aw:=aa.size
     have a2:=a1.trans aa
     refine Ac 1 Z<|A0<|AQ _ [0,0,0,0,0,0,0,1,0,0,0,0,0,1,0,3,0,0] mixed (by kernel_rfl)<|Ad 1 Z ?_
     by_cases ai:IE (((p.getD a Fn.zero).outs).getD j Ex.zero) x<((0:Nat):Int)
     ·exact AJ true Z Z (A5 ai) Aa<|Ac 16 Z<|Af Z<|fE Z<|A1<|AL<|Ao<|Ao<|AL<|Ao<|Ah [4] Z (.bool false) Z ⟨Jm,a2.drew⟩
     refine AJ false Z Z (A6 ai) Aa<|Ad 3 Z<|AK (RN.isPtr<|RN.ptr (Av dp) (by decide) Fn.zero a5 sD) Z (Ae (e:=75) Z Z Z)<|AB (p:=AA a0 a 3) 2 Br Z (a3 _<|Ax.of_ext [] a2.drew) (Ae (e:=75) Z Z Z)<|Ag (p:=Ap (AA a0 a 3) 2) (.inl Z) a6 B7 Z ((a3 _<|Ax.of_ext [] a2.drew).ld (i:=2) G0) (Ae (e:=75) Z Z Z)<|Ad 1 Z ?_
     refine AE (v:=a6) j Cc B3 Z Z a9.rn.isSl Z sD (Ae (e:=75) Z Z Z)<|Ad 1 Z ?_
     refine AK (RN.isPtr<|RN.ptr (Av dp) (by decide) Fn.zero a5 sD) Z (Ae (e:=75) Z Z Z)<|AB (p:=AA a0 a 3) 1 BI Z (a3 _<|Ax.of_ext [] a2.drew) (Ae (e:=75) Z Z Z)<|Ag (p:=Ap (AA a0 a 3) 1) (.inl Z) (zI<|(p.getD a Fn.zero).params) AI Z ((a3 _<|Ax.of_ext [] a2.drew).ld (i:=1) G0) (Ae (e:=75) Z Z Z)<|Ad 1 Z ?_
     refine At 240 [] [] [vp,AA a6 j 5,zI<|(p.getD a Fn.zero).params,zI (a:Int)] Z Z cL (Ae (e:=75) Z Z Z) (Mo _ dp vp (p) dp (AA a6 j 5) (((p.getD a Fn.zero).outs).getD j Ex.zero) _ _ (hp.ext (Bg<|AZ dp) a2.drew) (RN.ptr (Ay dp) (by decide) Ex.zero (a9.rn.ext (An<|Ay dp) a2.drew) sD) a9.rng oM oM) ?_
     rintro b6 b7 ⟨rfl,a8⟩
     refine⟨_,rfl,a8,?_⟩
     replace a8:=a8.of_drew
     have ax:=a8.size
     have aj:=a2.trans a8
     refine Bq (!(MF p (((p.getD a Fn.zero).outs).getD j Ex.zero) ((p.getD a Fn.zero).params) (a:Int))) Z Z (Ae (e:=75) Z Z Z)<|Ac 1 Z ?_
     cases ak:(!(MF p (((p.getD a Fn.zero).outs).getD j Ex.zero) ((p.getD a Fn.zero).params) (a:Int)))
     ·refine Aj (by first|rfl|exact zW ak)<|A2<|Ab _ [0,0,0] Z<|Ad 1 Z<|AR ((j+1:Nat):Int) Z Z (Bl oM sD) Aa<|Ac 1 Z ?_
      exact⟨(j+1,IE (((p.getD a Fn.zero).outs).getD j Ex.zero) x),_,rfl,zR,⟨aj,sD,(by rw[hnx,← hx]),oM,(by exact Eb hqe (By (by assumption)))⟩,zD⟩
     exact Af (by first|rfl|exact zW ak)<|fE Z<|A1<|AL<|Ao<|Ao<|AL<|Ao<|Ah [4] Z (.bool false) Z ⟨Jm,aj⟩
    exact AJ false Z Z (A6 ah) Aa<|Ai<|Aj Z<|A4<|Az<|Az<|Aw<|fE Z<|A1<|Ah [4] Z (.bool true) Z ⟨Jm,a1⟩
   exact Af (by first|rfl|exact zW ar)<|fE Z<|A1<|Ao<|Ah [4] Z (.bool false) Z ⟨Jm,a4⟩
  exact Ac 8 Z<|Af Z<|fE Z<|A1<|Ao<|Ah [4] Z (.bool false) Z ⟨Jm,a4⟩
 exact Ac 16 Z<|Af Z<|fE Z<|A1<|Ao<|Ah [4] Z (.bool false) Z ⟨Jm,a4⟩
theorem Qc {p:Prop}(h:p:=by first|exact AP (UV oM)|exact AP (UW oM oM oM hq)|exact AP (Jk (k:=k) oM (Bz (by assumption)))):p:=h
theorem Hs (w:World)(dp:Nat)(vp:Value)(p:List Fn)(hp:RN [] (rP (KS dp)) w.heap vp p)(hz:LF p) :
  Calls Tryz.prog 138 #[vp] w (fun e w'=>e=.returned (.bool (Ef p))∧AD w w'):=by
 refine Au [vp] 23 Tryz.func138 Z Z sM ?_
 have a1:AD w w:=AD.refl w
 refine fE Z<|A0<|fC [0,0,0,2,0,0] Z<|Ad 1 Z<|AK (hp.isPtr) Z Aa ?_
 obtain⟨cs1,ac,a3⟩:=RN.at (AZ _) hp
 obtain⟨a4,rfl,a5⟩:=RPr.of ac
 have a2:=a5.lenle
 unfold maxLen at a2
 refine AB (p:=vp) 0 B8 Z (a3 _<|Ax.of_ext [] a1) Aa<|Ag (p:=Ap vp 0) (.inr Z) a4 Bt Z ((a3 _<|Ax.of_ext [] a1).ld (i:=0) (by simp[DT,E2])) Aa<|AS (v:=a4) Du Z a5.isSl Aa ?_
 by_cases a7:((16:Nat):Int)<(p.length:Int)
 ·exact Cj true Z Z (A5 a7) Aa<|Ai<|Af Z<|fE Z<|A1<|Ao<|Ah [2] Z (.bool false) Z ⟨Qc,a1⟩
 refine Cj false Z Z (A6 a7) Aa<|Ai<|Aj Z<|A2<|A0<|fE Z<|A3<|AW (S:=Nat) (fun k=>([(3,zI (k:Int)),(0,vp)])) (fun k W=>AD w W∧k≤p.length∧(List.range k).all (KM p)=true) (fun k=>p.length-k) 0 ⟨rfl,rfl,trivial⟩ ⟨a1,sD,(by rfl)⟩ ?_
 clear a1 a2
 rintro k ρ3 w3 ⟨a0,a8,hq⟩
 have ad:w.heap.size≤w3.heap.size:=a0.size
 refine A0<|fC [0,0,0,0,2,0,0] Z<|Ad 2 Z<|AK (hp.isPtr) Z Aa<|AB (p:=vp) 0 B8 Z (a3 _<|Ax.of_ext [] a0) Aa<|Ag (p:=Ap vp 0) (.inr Z) a4 Bt Z ((a3 _<|Ax.of_ext [] a0).ld (i:=0) (by simp[DT,E2])) Aa<|AS (v:=a4) Du Z a5.isSl Aa ?_
 by_cases a9:(k:Int)<(p.length:Int)
 ·refine AJ true Z Z (A5 a9) Aa<|Ai<|Af Z<|A2<|A0<|A3<|fC [0,0,3,0] Z<|Ad 2 Z<|At 207 [] [] [vp,zI (k:Int)] Z Z cD Aa (Mp _ dp vp (p) (k) (hp.ext (Bg<|AZ dp) a0) oM oM hz) ?_
  rintro e5 w5 ⟨rfl,a6⟩
  refine⟨_,rfl,a6,?_⟩
  have ae:=a6.size
  have aa:=a0.trans a6
  refine Bq (!(KM p k)) Z Z Aa<|Ai ?_
  cases ab:(!(KM p k))
  ·refine Aj (by first|rfl|exact zW ab)<|A2<|Ab _ [0,0,0] Z<|Ad 1 Z<|AR ((k+1:Nat):Int) Z Z (Bl oM sD) Aa<|Ac 1 Z ?_
   exact⟨k+1,_,rfl,⟨rfl,rfl,trivial⟩,⟨aa,sD,(by exact Eb hq (By (by assumption)))⟩,zD⟩
  exact Af (by first|rfl|exact zW ab)<|fE Z<|A1<|AL<|Ao<|Ao<|AL<|Ao<|Ah [2] Z (.bool false) Z ⟨Qc,aa⟩
 exact AJ false Z Z (A6 a9) Aa<|Ai<|Aj Z<|A4<|Az<|Az<|Aw<|fE Z<|A1<|Ah [2] Z (.bool true) Z ⟨Qc,a0⟩
theorem Qd {p:Prop}(h:p:=by first|exact Bf (Yj (Bz (by assumption)))|exact Bf (Yk (By (by assumption)) (Pm (Bz (by assumption))))|exact Bf (Yl (By (by assumption)) (HF (By (by assumption))))):p:=h
theorem KX (w:World)(dp:Nat)(vp:Value)(p:List Fn)(f:Int)(hp:RN [] (rP (KS dp)) w.heap vp p)(_hf:BG f)(hz:LF p) :
  Calls Tryz.prog 156 #[vp,zI f] w (fun e w'=>e=.returned (zI (Gx p f))∧AD w w'):=by
 refine Au [vp,zI f] 17 Tryz.func156 Z Z sM ?_
 have a3:AD w w:=AD.refl w
 refine fE Z<|A0<|fC [0,3,0] Z<|Ad 1 Z<|At 138 [] [] [vp] Z Z Uz Aa (Hs _ dp vp (p) (hp.ext (Bg<|AZ dp) a3) hz) ?_
 rintro e1 w1 ⟨rfl,a1⟩
 refine⟨_,rfl,a1,?_⟩
 have a9:=a1.size
 have a0:=a3.trans a1
 refine Bq (!(Ef p)) Z Z Aa<|Ai ?_
 cases a4:(!(Ef p))
 ·refine Aj (by first|rfl|exact zW a4)<|A2<|A0<|fC [0,0,0,0,2,0,0,0,0] Z<|Ad 2 Z<|AK (hp.isPtr) Z Aa ?_
  obtain⟨cs3,aa,a5⟩:=RN.at (AZ _) hp
  obtain⟨a6,rfl,a7⟩:=RPr.of aa
  have a2:=a7.lenle
  unfold maxLen at a2
  refine AB (p:=vp) 0 B8 Z (a5 _<|Ax.of_ext [] a0) Aa<|Ag (p:=Ap vp 0) (.inr Z) a6 Bt Z ((a5 _<|Ax.of_ext [] a0).ld (i:=0) (by simp[DT,E2])) Aa<|AS (v:=a6) Du Z a7.isSl Aa<|BJ ((p.length:Int)-1) Z Z (DH oM oM) Aa<|AG 74 [] [] [zI f,zI ((0:Nat):Int),zI ((p.length:Int)-1)] Z Z II Aa (.bool (decide (((0:Nat):Int)≤f) && decide (f≤((p.length:Int)-1)))) (fun wq=>BC wq _ _ _ _hf oM oM)<|Bq (!(decide (((0:Nat):Int)≤f) && decide (f≤((p.length:Int)-1)))) Z Z Aa<|Ai ?_
  cases a8:(!(decide (((0:Nat):Int)≤f) && decide (f≤((p.length:Int)-1))))
  ·exact Aj (by first|rfl|exact zW a8)<|A2<|fE Z<|A1<|Ah [4] Z (zI ((0:Nat):Int)) Z ⟨Qd,a0⟩
  exact Af (by first|rfl|exact zW a8)<|fE Z<|A1<|Ao<|Ah [4] Z (zI ((2:Nat):Int)) Z ⟨Qd,a0⟩
 exact Af (by first|rfl|exact zW a4)<|fE Z<|A1<|Ao<|Ah [4] Z (zI ((1:Nat):Int)) Z ⟨Qd,a0⟩
end
end Go.Proofs.YtbajepcpgncekaaGreat
