/- Closed facts of the translation's tables. No condition. -/
import Derived.Test.YtjgnlnlngcjfcaaFwH
import Derived.Test.YtjgnlnlngcjfcaaProg
namespace Go.Proofs.Ytjgnlnlngcjfcaa
open Go Go.RowKit
theorem mixed : Try.prog.follows .mixedOrders = true := by kernel_rfl
theorem cf3 : ((Try.prog.funcs[3]?).map fun fn => (fn.name != "runtime.NumGoroutine") && fn.body.isSome) = some true := by kernel_rfl
theorem cf4 : ((Try.prog.funcs[4]?).map fun fn => (fn.name != "runtime.NumGoroutine") && fn.body.isSome) = some true := by kernel_rfl
theorem cf5 : ((Try.prog.funcs[5]?).map fun fn => (fn.name != "runtime.NumGoroutine") && fn.body.isSome) = some true := by kernel_rfl
theorem cf6 : ((Try.prog.funcs[6]?).map fun fn => (fn.name != "runtime.NumGoroutine") && fn.body.isSome) = some true := by kernel_rfl
theorem cf7 : ((Try.prog.funcs[7]?).map fun fn => (fn.name != "runtime.NumGoroutine") && fn.body.isSome) = some true := by kernel_rfl
theorem cf8 : ((Try.prog.funcs[8]?).map fun fn => (fn.name != "runtime.NumGoroutine") && fn.body.isSome) = some true := by kernel_rfl
theorem cf9 : ((Try.prog.funcs[9]?).map fun fn => (fn.name != "runtime.NumGoroutine") && fn.body.isSome) = some true := by kernel_rfl
theorem cf10 : ((Try.prog.funcs[10]?).map fun fn => (fn.name != "runtime.NumGoroutine") && fn.body.isSome) = some true := by kernel_rfl
theorem cf11 : ((Try.prog.funcs[11]?).map fun fn => (fn.name != "runtime.NumGoroutine") && fn.body.isSome) = some true := by kernel_rfl
theorem cf12 : ((Try.prog.funcs[12]?).map fun fn => (fn.name != "runtime.NumGoroutine") && fn.body.isSome) = some true := by kernel_rfl
theorem cf13 : ((Try.prog.funcs[13]?).map fun fn => (fn.name != "runtime.NumGoroutine") && fn.body.isSome) = some true := by kernel_rfl
theorem cf14 : ((Try.prog.funcs[14]?).map fun fn => (fn.name != "runtime.NumGoroutine") && fn.body.isSome) = some true := by kernel_rfl
theorem cf15 : ((Try.prog.funcs[15]?).map fun fn => (fn.name != "runtime.NumGoroutine") && fn.body.isSome) = some true := by kernel_rfl
theorem cf16 : ((Try.prog.funcs[16]?).map fun fn => (fn.name != "runtime.NumGoroutine") && fn.body.isSome) = some true := by kernel_rfl
theorem cf17 : ((Try.prog.funcs[17]?).map fun fn => (fn.name != "runtime.NumGoroutine") && fn.body.isSome) = some true := by kernel_rfl
theorem cf18 : ((Try.prog.funcs[18]?).map fun fn => (fn.name != "runtime.NumGoroutine") && fn.body.isSome) = some true := by kernel_rfl
theorem cf19 : ((Try.prog.funcs[19]?).map fun fn => (fn.name != "runtime.NumGoroutine") && fn.body.isSome) = some true := by kernel_rfl
theorem cf20 : ((Try.prog.funcs[20]?).map fun fn => (fn.name != "runtime.NumGoroutine") && fn.body.isSome) = some true := by kernel_rfl
theorem cf21 : ((Try.prog.funcs[21]?).map fun fn => (fn.name != "runtime.NumGoroutine") && fn.body.isSome) = some true := by kernel_rfl
theorem cf22 : ((Try.prog.funcs[22]?).map fun fn => (fn.name != "runtime.NumGoroutine") && fn.body.isSome) = some true := by kernel_rfl
theorem cf23 : ((Try.prog.funcs[23]?).map fun fn => (fn.name != "runtime.NumGoroutine") && fn.body.isSome) = some true := by kernel_rfl
theorem cf24 : ((Try.prog.funcs[24]?).map fun fn => (fn.name != "runtime.NumGoroutine") && fn.body.isSome) = some true := by kernel_rfl
theorem cf25 : ((Try.prog.funcs[25]?).map fun fn => (fn.name != "runtime.NumGoroutine") && fn.body.isSome) = some true := by kernel_rfl
theorem cf26 : ((Try.prog.funcs[26]?).map fun fn => (fn.name != "runtime.NumGoroutine") && fn.body.isSome) = some true := by kernel_rfl
theorem cf27 : ((Try.prog.funcs[27]?).map fun fn => (fn.name != "runtime.NumGoroutine") && fn.body.isSome) = some true := by kernel_rfl
theorem cf28 : ((Try.prog.funcs[28]?).map fun fn => (fn.name != "runtime.NumGoroutine") && fn.body.isSome) = some true := by kernel_rfl
theorem cf29 : ((Try.prog.funcs[29]?).map fun fn => (fn.name != "runtime.NumGoroutine") && fn.body.isSome) = some true := by kernel_rfl
theorem cf30 : ((Try.prog.funcs[30]?).map fun fn => (fn.name != "runtime.NumGoroutine") && fn.body.isSome) = some true := by kernel_rfl
theorem cf31 : ((Try.prog.funcs[31]?).map fun fn => (fn.name != "runtime.NumGoroutine") && fn.body.isSome) = some true := by kernel_rfl
theorem cf32 : ((Try.prog.funcs[32]?).map fun fn => (fn.name != "runtime.NumGoroutine") && fn.body.isSome) = some true := by kernel_rfl
theorem cf33 : ((Try.prog.funcs[33]?).map fun fn => (fn.name != "runtime.NumGoroutine") && fn.body.isSome) = some true := by kernel_rfl
theorem cf34 : ((Try.prog.funcs[34]?).map fun fn => (fn.name != "runtime.NumGoroutine") && fn.body.isSome) = some true := by kernel_rfl
theorem cf35 : ((Try.prog.funcs[35]?).map fun fn => (fn.name != "runtime.NumGoroutine") && fn.body.isSome) = some true := by kernel_rfl
theorem cf36 : ((Try.prog.funcs[36]?).map fun fn => (fn.name != "runtime.NumGoroutine") && fn.body.isSome) = some true := by kernel_rfl
theorem cf37 : ((Try.prog.funcs[37]?).map fun fn => (fn.name != "runtime.NumGoroutine") && fn.body.isSome) = some true := by kernel_rfl
theorem cf38 : ((Try.prog.funcs[38]?).map fun fn => (fn.name != "runtime.NumGoroutine") && fn.body.isSome) = some true := by kernel_rfl
theorem cf39 : ((Try.prog.funcs[39]?).map fun fn => (fn.name != "runtime.NumGoroutine") && fn.body.isSome) = some true := by kernel_rfl
theorem cf40 : ((Try.prog.funcs[40]?).map fun fn => (fn.name != "runtime.NumGoroutine") && fn.body.isSome) = some true := by kernel_rfl
theorem cf41 : ((Try.prog.funcs[41]?).map fun fn => (fn.name != "runtime.NumGoroutine") && fn.body.isSome) = some true := by kernel_rfl
theorem cf42 : ((Try.prog.funcs[42]?).map fun fn => (fn.name != "runtime.NumGoroutine") && fn.body.isSome) = some true := by kernel_rfl
theorem cf43 : ((Try.prog.funcs[43]?).map fun fn => (fn.name != "runtime.NumGoroutine") && fn.body.isSome) = some true := by kernel_rfl
theorem cf44 : ((Try.prog.funcs[44]?).map fun fn => (fn.name != "runtime.NumGoroutine") && fn.body.isSome) = some true := by kernel_rfl
theorem cf45 : ((Try.prog.funcs[45]?).map fun fn => (fn.name != "runtime.NumGoroutine") && fn.body.isSome) = some true := by kernel_rfl
theorem cf46 : ((Try.prog.funcs[46]?).map fun fn => (fn.name != "runtime.NumGoroutine") && fn.body.isSome) = some true := by kernel_rfl
theorem cf47 : ((Try.prog.funcs[47]?).map fun fn => (fn.name != "runtime.NumGoroutine") && fn.body.isSome) = some true := by kernel_rfl
theorem cf48 : ((Try.prog.funcs[48]?).map fun fn => (fn.name != "runtime.NumGoroutine") && fn.body.isSome) = some true := by kernel_rfl
theorem cf49 : ((Try.prog.funcs[49]?).map fun fn => (fn.name != "runtime.NumGoroutine") && fn.body.isSome) = some true := by kernel_rfl
theorem cf50 : ((Try.prog.funcs[50]?).map fun fn => (fn.name != "runtime.NumGoroutine") && fn.body.isSome) = some true := by kernel_rfl
theorem cf51 : ((Try.prog.funcs[51]?).map fun fn => (fn.name != "runtime.NumGoroutine") && fn.body.isSome) = some true := by kernel_rfl
theorem cf52 : ((Try.prog.funcs[52]?).map fun fn => (fn.name != "runtime.NumGoroutine") && fn.body.isSome) = some true := by kernel_rfl
theorem cf53 : ((Try.prog.funcs[53]?).map fun fn => (fn.name != "runtime.NumGoroutine") && fn.body.isSome) = some true := by kernel_rfl
theorem cf54 : ((Try.prog.funcs[54]?).map fun fn => (fn.name != "runtime.NumGoroutine") && fn.body.isSome) = some true := by kernel_rfl
theorem cf55 : ((Try.prog.funcs[55]?).map fun fn => (fn.name != "runtime.NumGoroutine") && fn.body.isSome) = some true := by kernel_rfl
theorem cf56 : ((Try.prog.funcs[56]?).map fun fn => (fn.name != "runtime.NumGoroutine") && fn.body.isSome) = some true := by kernel_rfl
theorem cf57 : ((Try.prog.funcs[57]?).map fun fn => (fn.name != "runtime.NumGoroutine") && fn.body.isSome) = some true := by kernel_rfl
theorem cf58 : ((Try.prog.funcs[58]?).map fun fn => (fn.name != "runtime.NumGoroutine") && fn.body.isSome) = some true := by kernel_rfl
theorem cf59 : ((Try.prog.funcs[59]?).map fun fn => (fn.name != "runtime.NumGoroutine") && fn.body.isSome) = some true := by kernel_rfl
theorem cf60 : ((Try.prog.funcs[60]?).map fun fn => (fn.name != "runtime.NumGoroutine") && fn.body.isSome) = some true := by kernel_rfl
theorem cf61 : ((Try.prog.funcs[61]?).map fun fn => (fn.name != "runtime.NumGoroutine") && fn.body.isSome) = some true := by kernel_rfl
theorem cf62 : ((Try.prog.funcs[62]?).map fun fn => (fn.name != "runtime.NumGoroutine") && fn.body.isSome) = some true := by kernel_rfl
theorem cf63 : ((Try.prog.funcs[63]?).map fun fn => (fn.name != "runtime.NumGoroutine") && fn.body.isSome) = some true := by kernel_rfl
theorem cf64 : ((Try.prog.funcs[64]?).map fun fn => (fn.name != "runtime.NumGoroutine") && fn.body.isSome) = some true := by kernel_rfl
theorem cf65 : ((Try.prog.funcs[65]?).map fun fn => (fn.name != "runtime.NumGoroutine") && fn.body.isSome) = some true := by kernel_rfl
theorem cf66 : ((Try.prog.funcs[66]?).map fun fn => (fn.name != "runtime.NumGoroutine") && fn.body.isSome) = some true := by kernel_rfl
theorem cf67 : ((Try.prog.funcs[67]?).map fun fn => (fn.name != "runtime.NumGoroutine") && fn.body.isSome) = some true := by kernel_rfl
theorem cf68 : ((Try.prog.funcs[68]?).map fun fn => (fn.name != "runtime.NumGoroutine") && fn.body.isSome) = some true := by kernel_rfl
theorem cf69 : ((Try.prog.funcs[69]?).map fun fn => (fn.name != "runtime.NumGoroutine") && fn.body.isSome) = some true := by kernel_rfl
theorem cf70 : ((Try.prog.funcs[70]?).map fun fn => (fn.name != "runtime.NumGoroutine") && fn.body.isSome) = some true := by kernel_rfl
theorem cf71 : ((Try.prog.funcs[71]?).map fun fn => (fn.name != "runtime.NumGoroutine") && fn.body.isSome) = some true := by kernel_rfl
theorem cf72 : ((Try.prog.funcs[72]?).map fun fn => (fn.name != "runtime.NumGoroutine") && fn.body.isSome) = some true := by kernel_rfl
theorem cf73 : ((Try.prog.funcs[73]?).map fun fn => (fn.name != "runtime.NumGoroutine") && fn.body.isSome) = some true := by kernel_rfl
theorem cf74 : ((Try.prog.funcs[74]?).map fun fn => (fn.name != "runtime.NumGoroutine") && fn.body.isSome) = some true := by kernel_rfl
theorem cf75 : ((Try.prog.funcs[75]?).map fun fn => (fn.name != "runtime.NumGoroutine") && fn.body.isSome) = some true := by kernel_rfl
theorem cf76 : ((Try.prog.funcs[76]?).map fun fn => (fn.name != "runtime.NumGoroutine") && fn.body.isSome) = some true := by kernel_rfl
theorem cf77 : ((Try.prog.funcs[77]?).map fun fn => (fn.name != "runtime.NumGoroutine") && fn.body.isSome) = some true := by kernel_rfl
theorem cf78 : ((Try.prog.funcs[78]?).map fun fn => (fn.name != "runtime.NumGoroutine") && fn.body.isSome) = some true := by kernel_rfl
theorem cf79 : ((Try.prog.funcs[79]?).map fun fn => (fn.name != "runtime.NumGoroutine") && fn.body.isSome) = some true := by kernel_rfl
theorem cf80 : ((Try.prog.funcs[80]?).map fun fn => (fn.name != "runtime.NumGoroutine") && fn.body.isSome) = some true := by kernel_rfl
theorem cf81 : ((Try.prog.funcs[81]?).map fun fn => (fn.name != "runtime.NumGoroutine") && fn.body.isSome) = some true := by kernel_rfl
theorem cf82 : ((Try.prog.funcs[82]?).map fun fn => (fn.name != "runtime.NumGoroutine") && fn.body.isSome) = some true := by kernel_rfl
theorem cf83 : ((Try.prog.funcs[83]?).map fun fn => (fn.name != "runtime.NumGoroutine") && fn.body.isSome) = some true := by kernel_rfl
theorem cf84 : ((Try.prog.funcs[84]?).map fun fn => (fn.name != "runtime.NumGoroutine") && fn.body.isSome) = some true := by kernel_rfl
theorem cf85 : ((Try.prog.funcs[85]?).map fun fn => (fn.name != "runtime.NumGoroutine") && fn.body.isSome) = some true := by kernel_rfl
theorem cf86 : ((Try.prog.funcs[86]?).map fun fn => (fn.name != "runtime.NumGoroutine") && fn.body.isSome) = some true := by kernel_rfl
theorem cf87 : ((Try.prog.funcs[87]?).map fun fn => (fn.name != "runtime.NumGoroutine") && fn.body.isSome) = some true := by kernel_rfl
theorem cf88 : ((Try.prog.funcs[88]?).map fun fn => (fn.name != "runtime.NumGoroutine") && fn.body.isSome) = some true := by kernel_rfl
theorem cf89 : ((Try.prog.funcs[89]?).map fun fn => (fn.name != "runtime.NumGoroutine") && fn.body.isSome) = some true := by kernel_rfl
theorem cf90 : ((Try.prog.funcs[90]?).map fun fn => (fn.name != "runtime.NumGoroutine") && fn.body.isSome) = some true := by kernel_rfl
theorem cf91 : ((Try.prog.funcs[91]?).map fun fn => (fn.name != "runtime.NumGoroutine") && fn.body.isSome) = some true := by kernel_rfl
theorem cf92 : ((Try.prog.funcs[92]?).map fun fn => (fn.name != "runtime.NumGoroutine") && fn.body.isSome) = some true := by kernel_rfl
theorem cf93 : ((Try.prog.funcs[93]?).map fun fn => (fn.name != "runtime.NumGoroutine") && fn.body.isSome) = some true := by kernel_rfl
theorem cf94 : ((Try.prog.funcs[94]?).map fun fn => (fn.name != "runtime.NumGoroutine") && fn.body.isSome) = some true := by kernel_rfl
theorem cf95 : ((Try.prog.funcs[95]?).map fun fn => (fn.name != "runtime.NumGoroutine") && fn.body.isSome) = some true := by kernel_rfl
theorem cf96 : ((Try.prog.funcs[96]?).map fun fn => (fn.name != "runtime.NumGoroutine") && fn.body.isSome) = some true := by kernel_rfl
theorem cf97 : ((Try.prog.funcs[97]?).map fun fn => (fn.name != "runtime.NumGoroutine") && fn.body.isSome) = some true := by kernel_rfl
theorem cf98 : ((Try.prog.funcs[98]?).map fun fn => (fn.name != "runtime.NumGoroutine") && fn.body.isSome) = some true := by kernel_rfl
theorem cf99 : ((Try.prog.funcs[99]?).map fun fn => (fn.name != "runtime.NumGoroutine") && fn.body.isSome) = some true := by kernel_rfl
theorem cf100 : ((Try.prog.funcs[100]?).map fun fn => (fn.name != "runtime.NumGoroutine") && fn.body.isSome) = some true := by kernel_rfl
theorem cf101 : ((Try.prog.funcs[101]?).map fun fn => (fn.name != "runtime.NumGoroutine") && fn.body.isSome) = some true := by kernel_rfl
theorem cf102 : ((Try.prog.funcs[102]?).map fun fn => (fn.name != "runtime.NumGoroutine") && fn.body.isSome) = some true := by kernel_rfl
theorem cf103 : ((Try.prog.funcs[103]?).map fun fn => (fn.name != "runtime.NumGoroutine") && fn.body.isSome) = some true := by kernel_rfl
theorem cf104 : ((Try.prog.funcs[104]?).map fun fn => (fn.name != "runtime.NumGoroutine") && fn.body.isSome) = some true := by kernel_rfl
theorem cf105 : ((Try.prog.funcs[105]?).map fun fn => (fn.name != "runtime.NumGoroutine") && fn.body.isSome) = some true := by kernel_rfl
theorem cf106 : ((Try.prog.funcs[106]?).map fun fn => (fn.name != "runtime.NumGoroutine") && fn.body.isSome) = some true := by kernel_rfl
theorem cf107 : ((Try.prog.funcs[107]?).map fun fn => (fn.name != "runtime.NumGoroutine") && fn.body.isSome) = some true := by kernel_rfl
theorem cf108 : ((Try.prog.funcs[108]?).map fun fn => (fn.name != "runtime.NumGoroutine") && fn.body.isSome) = some true := by kernel_rfl
theorem cf109 : ((Try.prog.funcs[109]?).map fun fn => (fn.name != "runtime.NumGoroutine") && fn.body.isSome) = some true := by kernel_rfl
theorem cf110 : ((Try.prog.funcs[110]?).map fun fn => (fn.name != "runtime.NumGoroutine") && fn.body.isSome) = some true := by kernel_rfl
theorem cf111 : ((Try.prog.funcs[111]?).map fun fn => (fn.name != "runtime.NumGoroutine") && fn.body.isSome) = some true := by kernel_rfl
theorem cf112 : ((Try.prog.funcs[112]?).map fun fn => (fn.name != "runtime.NumGoroutine") && fn.body.isSome) = some true := by kernel_rfl
theorem cf113 : ((Try.prog.funcs[113]?).map fun fn => (fn.name != "runtime.NumGoroutine") && fn.body.isSome) = some true := by kernel_rfl
theorem cf114 : ((Try.prog.funcs[114]?).map fun fn => (fn.name != "runtime.NumGoroutine") && fn.body.isSome) = some true := by kernel_rfl
theorem cf115 : ((Try.prog.funcs[115]?).map fun fn => (fn.name != "runtime.NumGoroutine") && fn.body.isSome) = some true := by kernel_rfl
theorem cf116 : ((Try.prog.funcs[116]?).map fun fn => (fn.name != "runtime.NumGoroutine") && fn.body.isSome) = some true := by kernel_rfl
theorem cf117 : ((Try.prog.funcs[117]?).map fun fn => (fn.name != "runtime.NumGoroutine") && fn.body.isSome) = some true := by kernel_rfl
theorem cf118 : ((Try.prog.funcs[118]?).map fun fn => (fn.name != "runtime.NumGoroutine") && fn.body.isSome) = some true := by kernel_rfl
theorem cf119 : ((Try.prog.funcs[119]?).map fun fn => (fn.name != "runtime.NumGoroutine") && fn.body.isSome) = some true := by kernel_rfl
theorem cf120 : ((Try.prog.funcs[120]?).map fun fn => (fn.name != "runtime.NumGoroutine") && fn.body.isSome) = some true := by kernel_rfl
theorem cf121 : ((Try.prog.funcs[121]?).map fun fn => (fn.name != "runtime.NumGoroutine") && fn.body.isSome) = some true := by kernel_rfl
theorem cf122 : ((Try.prog.funcs[122]?).map fun fn => (fn.name != "runtime.NumGoroutine") && fn.body.isSome) = some true := by kernel_rfl
theorem cf123 : ((Try.prog.funcs[123]?).map fun fn => (fn.name != "runtime.NumGoroutine") && fn.body.isSome) = some true := by kernel_rfl
theorem cf124 : ((Try.prog.funcs[124]?).map fun fn => (fn.name != "runtime.NumGoroutine") && fn.body.isSome) = some true := by kernel_rfl
theorem cf125 : ((Try.prog.funcs[125]?).map fun fn => (fn.name != "runtime.NumGoroutine") && fn.body.isSome) = some true := by kernel_rfl
theorem cf126 : ((Try.prog.funcs[126]?).map fun fn => (fn.name != "runtime.NumGoroutine") && fn.body.isSome) = some true := by kernel_rfl
theorem cf127 : ((Try.prog.funcs[127]?).map fun fn => (fn.name != "runtime.NumGoroutine") && fn.body.isSome) = some true := by kernel_rfl
theorem cf128 : ((Try.prog.funcs[128]?).map fun fn => (fn.name != "runtime.NumGoroutine") && fn.body.isSome) = some true := by kernel_rfl
theorem cf129 : ((Try.prog.funcs[129]?).map fun fn => (fn.name != "runtime.NumGoroutine") && fn.body.isSome) = some true := by kernel_rfl
theorem cf130 : ((Try.prog.funcs[130]?).map fun fn => (fn.name != "runtime.NumGoroutine") && fn.body.isSome) = some true := by kernel_rfl
theorem cf131 : ((Try.prog.funcs[131]?).map fun fn => (fn.name != "runtime.NumGoroutine") && fn.body.isSome) = some true := by kernel_rfl
theorem cf132 : ((Try.prog.funcs[132]?).map fun fn => (fn.name != "runtime.NumGoroutine") && fn.body.isSome) = some true := by kernel_rfl
theorem cf133 : ((Try.prog.funcs[133]?).map fun fn => (fn.name != "runtime.NumGoroutine") && fn.body.isSome) = some true := by kernel_rfl
theorem cf134 : ((Try.prog.funcs[134]?).map fun fn => (fn.name != "runtime.NumGoroutine") && fn.body.isSome) = some true := by kernel_rfl
theorem cf135 : ((Try.prog.funcs[135]?).map fun fn => (fn.name != "runtime.NumGoroutine") && fn.body.isSome) = some true := by kernel_rfl
theorem cf136 : ((Try.prog.funcs[136]?).map fun fn => (fn.name != "runtime.NumGoroutine") && fn.body.isSome) = some true := by kernel_rfl
theorem cf137 : ((Try.prog.funcs[137]?).map fun fn => (fn.name != "runtime.NumGoroutine") && fn.body.isSome) = some true := by kernel_rfl
theorem cf138 : ((Try.prog.funcs[138]?).map fun fn => (fn.name != "runtime.NumGoroutine") && fn.body.isSome) = some true := by kernel_rfl
theorem cf139 : ((Try.prog.funcs[139]?).map fun fn => (fn.name != "runtime.NumGoroutine") && fn.body.isSome) = some true := by kernel_rfl
theorem cf140 : ((Try.prog.funcs[140]?).map fun fn => (fn.name != "runtime.NumGoroutine") && fn.body.isSome) = some true := by kernel_rfl
theorem cf141 : ((Try.prog.funcs[141]?).map fun fn => (fn.name != "runtime.NumGoroutine") && fn.body.isSome) = some true := by kernel_rfl
theorem cf142 : ((Try.prog.funcs[142]?).map fun fn => (fn.name != "runtime.NumGoroutine") && fn.body.isSome) = some true := by kernel_rfl
theorem cf143 : ((Try.prog.funcs[143]?).map fun fn => (fn.name != "runtime.NumGoroutine") && fn.body.isSome) = some true := by kernel_rfl
theorem cf144 : ((Try.prog.funcs[144]?).map fun fn => (fn.name != "runtime.NumGoroutine") && fn.body.isSome) = some true := by kernel_rfl
theorem cf145 : ((Try.prog.funcs[145]?).map fun fn => (fn.name != "runtime.NumGoroutine") && fn.body.isSome) = some true := by kernel_rfl
theorem one2 : oneTy Try.prog 2 := by unfold oneTy; kernel_rfl
theorem one3 : oneTy Try.prog 3 := by unfold oneTy; kernel_rfl
theorem one4 : oneTy Try.prog 4 := by unfold oneTy; kernel_rfl
theorem one5 : oneTy Try.prog 5 := by unfold oneTy; kernel_rfl
theorem one6 : oneTy Try.prog 6 := by unfold oneTy; kernel_rfl
theorem one9 : oneTy Try.prog 9 := by unfold oneTy; kernel_rfl
theorem one10 : oneTy Try.prog 10 := by unfold oneTy; kernel_rfl
theorem one11 : oneTy Try.prog 11 := by unfold oneTy; kernel_rfl
theorem one12 : oneTy Try.prog 12 := by unfold oneTy; kernel_rfl
theorem one21 : oneTy Try.prog 21 := by unfold oneTy; kernel_rfl
theorem one22 : oneTy Try.prog 22 := by unfold oneTy; kernel_rfl
theorem one29 : oneTy Try.prog 29 := by unfold oneTy; kernel_rfl
theorem one40 : oneTy Try.prog 40 := by unfold oneTy; kernel_rfl
theorem one45 : oneTy Try.prog 45 := by unfold oneTy; kernel_rfl
theorem one59 : oneTy Try.prog 59 := by unfold oneTy; kernel_rfl
theorem one64 : oneTy Try.prog 64 := by unfold oneTy; kernel_rfl
theorem one96 : oneTy Try.prog 96 := by unfold oneTy; kernel_rfl
theorem one108 : oneTy Try.prog 108 := by unfold oneTy; kernel_rfl
theorem one137 : oneTy Try.prog 137 := by unfold oneTy; kernel_rfl
theorem one138 : oneTy Try.prog 138 := by unfold oneTy; kernel_rfl
theorem one139 : oneTy Try.prog 139 := by unfold oneTy; kernel_rfl
theorem one142 : oneTy Try.prog 142 := by unfold oneTy; kernel_rfl
theorem one143 : oneTy Try.prog 143 := by unfold oneTy; kernel_rfl
theorem sz2 : (Try.prog.info? 2).map (·.size) = some 1 := by kernel_rfl
theorem sz3 : (Try.prog.info? 3).map (·.size) = some 1 := by kernel_rfl
theorem sz4 : (Try.prog.info? 4).map (·.size) = some 1 := by kernel_rfl
theorem sz5 : (Try.prog.info? 5).map (·.size) = some 1 := by kernel_rfl
theorem sz6 : (Try.prog.info? 6).map (·.size) = some 1 := by kernel_rfl
theorem sz9 : (Try.prog.info? 9).map (·.size) = some 1 := by kernel_rfl
theorem sz10 : (Try.prog.info? 10).map (·.size) = some 1 := by kernel_rfl
theorem sz11 : (Try.prog.info? 11).map (·.size) = some 1 := by kernel_rfl
theorem sz12 : (Try.prog.info? 12).map (·.size) = some 1 := by kernel_rfl
theorem sz21 : (Try.prog.info? 21).map (·.size) = some 1 := by kernel_rfl
theorem sz22 : (Try.prog.info? 22).map (·.size) = some 1 := by kernel_rfl
theorem sz29 : (Try.prog.info? 29).map (·.size) = some 1 := by kernel_rfl
theorem sz40 : (Try.prog.info? 40).map (·.size) = some 1 := by kernel_rfl
theorem sz45 : (Try.prog.info? 45).map (·.size) = some 1 := by kernel_rfl
theorem sz59 : (Try.prog.info? 59).map (·.size) = some 1 := by kernel_rfl
theorem sz64 : (Try.prog.info? 64).map (·.size) = some 1 := by kernel_rfl
theorem sz96 : (Try.prog.info? 96).map (·.size) = some 1 := by kernel_rfl
theorem sz108 : (Try.prog.info? 108).map (·.size) = some 1 := by kernel_rfl
theorem sz137 : (Try.prog.info? 137).map (·.size) = some 1 := by kernel_rfl
theorem sz138 : (Try.prog.info? 138).map (·.size) = some 1 := by kernel_rfl
theorem sz139 : (Try.prog.info? 139).map (·.size) = some 1 := by kernel_rfl
theorem sz142 : (Try.prog.info? 142).map (·.size) = some 1 := by kernel_rfl
theorem sz143 : (Try.prog.info? 143).map (·.size) = some 1 := by kernel_rfl
theorem ti2 : TI Try.prog 2 1 (.int .i64 0) 8 := by unfold TI; kernel_rfl
theorem ti5 : TI Try.prog 5 1 (.int .u8 0) 1 := by unfold TI; kernel_rfl
theorem ti22 : TI Try.prog 22 1 (.slice none 0 0) 24 := by unfold TI; kernel_rfl
theorem ti29 : TI Try.prog 29 1 (.slice none 0 0) 24 := by unfold TI; kernel_rfl
theorem u2 : Try.prog.underlying 2 = some (.int .i64) := by kernel_rfl
theorem u3 : Try.prog.underlying 3 = some (.int .i64) := by kernel_rfl
theorem u4 : Try.prog.underlying 4 = some (.bool) := by kernel_rfl
theorem u5 : Try.prog.underlying 5 = some (.int .u8) := by kernel_rfl
theorem u6 : Try.prog.underlying 6 = some (.int .u8) := by kernel_rfl
theorem u9 : Try.prog.underlying 9 = some (.string) := by kernel_rfl
theorem u10 : Try.prog.underlying 10 = some (.string) := by kernel_rfl
theorem u11 : Try.prog.underlying 11 = some (.string) := by kernel_rfl
theorem u12 : Try.prog.underlying 12 = some (.int .u64) := by kernel_rfl
theorem u21 : Try.prog.underlying 21 = some (.int .i32) := by kernel_rfl
theorem u22 : Try.prog.underlying 22 = some (.slice 29) := by kernel_rfl
theorem u29 : Try.prog.underlying 29 = some (.slice 2) := by kernel_rfl
theorem u40 : Try.prog.underlying 40 = some (.slice 5) := by kernel_rfl
theorem u45 : Try.prog.underlying 45 = some (.slice 22) := by kernel_rfl
theorem u59 : Try.prog.underlying 59 = some (.slice 61) := by kernel_rfl
theorem u64 : Try.prog.underlying 64 = some (.slice 63) := by kernel_rfl
theorem u96 : Try.prog.underlying 96 = some (.int .u64) := by kernel_rfl
theorem u108 : Try.prog.underlying 108 = some (.int .u64) := by kernel_rfl
theorem u137 : Try.prog.underlying 137 = some (.int .u32) := by kernel_rfl
theorem u138 : Try.prog.underlying 138 = some (.int .u8) := by kernel_rfl
theorem u139 : Try.prog.underlying 139 = some (.int .u8) := by kernel_rfl
theorem u142 : Try.prog.underlying 142 = some (.int .i32) := by kernel_rfl
theorem u143 : Try.prog.underlying 143 = some (.int .i32) := by kernel_rfl
end Go.Proofs.Ytjgnlnlngcjfcaa
