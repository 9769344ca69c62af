import Derived.Test.YtkockkfmjmheeaaGreatGH
import Derived.Test.YtkockkfmjmheeaaGreatGF
import Derived.Test.YtkockkfmjmheeaaGreatGD
import Derived.Test.YtkockkfmjmheeaaGreatGK
namespace Go.Proofs.YtkockkfmjmheeaaGreat.F
open Go Go.Proofs Go.Proofs.YtkockkfmjmheeaaGreat.E Go.Proofs.YtkockkfmjmheeaaGreat.Q
abbrev nat_Div : Nat := 111
def nat_Div_c : MFn := ⟨315,(.seq (r [o 4 (.mv (.c .nils)),o 5 (.mv (.c .nils)),o 6 (.mv (i 0))] [0,1]) (.seq (r [o 27 (.mv (.t 0)),o 28 (.call 89 [(.t 27)]),o 29 (.mv (.t 1)),o 30 (.call 89 [(.t 29)]),o 0 (.mv (.t 28)),o 1 (.mv (.t 30))] [0,1]) (.seq (.block 0 (.seq (r [o 32 (.mv (.t 1)),o 33 (.lenS (.t 32)),o 34 (.bin .eql (.t 33) (i 0)),o 31 (.mv (.t 34))] [0,1,31]) (.cond (.t 31) (.seq (r [o 4 (.mv (.c .nils)),o 5 (.mv (.c .nils)),o 6 (.mv (i 31))] [4,5,6]) .ret) (.seq (r [o 36 (.mv (.t 0)),o 37 (.mv (.t 1)),o 38 (.call 60 [(.t 36),(.t 37)]),o 39 (.bin .lss (.t 38) (i 0)),o 35 (.mv (.t 39))] [0,1,35]) (.cond (.t 35) (.seq (r [o 40 (.mv (.t 0)),o 41 (.call 88 [(.t 40)]),o 4 (.mv (.c .nils)),o 5 (.mv (.t 41)),o 6 (.mv (i 0))] [4,5,6]) .ret) (.seq (r [o 43 (.mv (.t 1)),o 44 (.lenS (.t 43)),o 45 (.bin .eql (.t 44) (i 1)),o 42 (.mv (.t 45))] [0,1,42]) (.cond (.t 42) (.seq (r [o 47 (.mv (.t 0)),o 48 (.mv (.t 1)),o 49 (.ixA 1 (.t 48) (i 0)),o 50 (.ld none (.t 49)),o 51 (.call 126 [(.t 47),(.t 50)]),o 46 (.mv (.t 51)),o 52 (.ext (.t 46) 0),o 53 (.ext (.t 46) 1),o 7 (.mv (.t 52)),o 8 (.mv (.t 53))] [7,8]) (.seq (r [o 54 (.mv (.t 7)),o 55 (.mv (.t 8)),o 56 (.cvt .u64 (.t 55)),o 57 (.call 54 [(.t 56)]),o 4 (.mv (.t 54)),o 5 (.mv (.t 57)),o 6 (.mv (i 0))] [4,5,6]) .ret)) .skip))))))) (.seq (r [o 58 (.mv (.t 1)),o 59 (.mv (.t 1)),o 60 (.lenS (.t 59)),o 61 (.bin .sub (.t 60) (i 1)),o 62 (.ixA 1 (.t 58) (.t 61)),o 63 (.ld none (.t 62)),o 64 (.call 127 [(.t 63)]),o 65 (.cvt .u64 (.t 64)),o 9 (.mv (.t 65))] [0,1,9]) (.seq (r [o 66 (.mv (.t 0)),o 67 (.mv (.t 9)),o 68 (.call 128 [(.t 66),(.t 67)]),o 69 (.mv (.t 1)),o 70 (.mv (.t 9)),o 71 (.call 128 [(.t 69),(.t 70)]),o 72 (.call 89 [(.t 71)]),o 10 (.mv (.t 68)),o 11 (.mv (.t 72))] [9,10,11]) (.seq (r [o 73 (.mv (.t 11)),o 74 (.lenS (.t 73)),o 12 (.mv (.t 74))] [9,10,11,12]) (.seq (r [o 75 (.mv (.t 10)),o 76 (.lenS (.t 75)),o 77 (.mv (.t 12)),o 78 (.bin .sub (.t 76) (.t 77)),o 79 (.mkSl 1 4 [.int .u32 0] (.t 78) (.t 78)),o 13 (.mv (.t 79))] [9,10,11,12,13]) (.seq (.seq (r [o 80 (.mv (.t 10)),o 81 (.lenS (.t 80)),o 82 (.mv (.t 12)),o 83 (.bin .sub (.t 81) (.t 82)),o 84 (.bin .sub (.t 83) (i 1)),o 14 (.mv (.t 84))] [9,10,11,12,13,14]) (.block 1 (.loop (.seq (.seq (r [o 85 (.mv (.t 14)),o 86 (.bin .geq (.t 85) (i 0))] [9,10,11,12,13,14,86]) (.cond (.t 86) .skip (.exit 1))) (.seq (.block 2 (.seq (r [o 89 (.mv (.t 10)),o 90 (.mv (.t 14)),o 91 (.mv (.t 12)),o 92 (.bin .add (.t 90) (.t 91)),o 93 (.ixA 1 (.t 89) (.t 92)),o 94 (.ld none (.t 93)),o 95 (.cvt .u64 (.t 94)),o 96 (.bin .shl (.t 95) (.c (.int .u64 32))),o 97 (.mv (.t 10)),o 98 (.mv (.t 14)),o 99 (.mv (.t 12)),o 100 (.bin .add (.t 98) (.t 99)),o 101 (.bin .sub (.t 100) (i 1)),o 102 (.ixA 1 (.t 97) (.t 101)),o 103 (.ld none (.t 102)),o 104 (.cvt .u64 (.t 103)),o 105 (.bin .or (.t 96) (.t 104)),o 15 (.mv (.t 105))] [9,10,11,12,13,14,15]) (.seq (r [o 106 (.mv (.t 15)),o 107 (.mv (.t 11)),o 108 (.mv (.t 12)),o 109 (.bin .sub (.t 108) (i 1)),o 110 (.ixA 1 (.t 107) (.t 109)),o 111 (.ld none (.t 110)),o 112 (.cvt .u64 (.t 111)),o 113 (.bin .quo (.t 106) (.t 112)),o 114 (.mv (.t 15)),o 115 (.mv (.t 11)),o 116 (.mv (.t 12)),o 117 (.bin .sub (.t 116) (i 1)),o 118 (.ixA 1 (.t 115) (.t 117)),o 119 (.ld none (.t 118)),o 120 (.cvt .u64 (.t 119)),o 121 (.bin .rem (.t 114) (.t 120)),o 16 (.mv (.t 113)),o 17 (.mv (.t 121))] [9,10,11,12,13,14,16,17]) (.seq (.block 3 (.loop (.seq (.seq (r [o 122 (.mv (.t 16)),o 123 (.bin .geq (.t 122) (.c (.int .u64 4294967296))),o 124 (.mv (.t 123)),n 125 124 (.mv (.t 16)),n 126 124 (.mv (.t 11)),n 127 124 (.mv (.t 12)),n 128 124 (.bin .sub (.t 127) (i 2)),n 129 124 (.ixA 1 (.t 126) (.t 128)),n 130 124 (.ld none (.t 129)),n 131 124 (.cvt .u64 (.t 130)),n 132 124 (.bin .mul (.t 125) (.t 131)),n 133 124 (.mv (.t 17)),n 134 124 (.bin .shl (.t 133) (.c (.int .u64 32))),n 135 124 (.mv (.t 10)),n 136 124 (.mv (.t 14)),n 137 124 (.mv (.t 12)),n 138 124 (.bin .add (.t 136) (.t 137)),n 139 124 (.bin .sub (.t 138) (i 2)),n 140 124 (.ixA 1 (.t 135) (.t 139)),n 141 124 (.ld none (.t 140)),n 142 124 (.cvt .u64 (.t 141)),n 143 124 (.bin .or (.t 134) (.t 142)),n 144 124 (.bin .gtr (.t 132) (.t 143)),o 145 (.pick (.t 124) (.c (.bool true)) (.t 144))] [9,10,11,12,13,14,16,17,145]) (.cond (.t 145) .skip (.exit 3))) (.block 4 (.seq (r [o 146 (.mv (.t 16)),o 147 (.bin .sub (.t 146) (.c (.int .u64 1))),o 16 (.mv (.t 147))] [9,10,11,12,13,14,16,17]) (.seq (r [o 148 (.mv (.t 17)),o 149 (.mv (.t 11)),o 150 (.mv (.t 12)),o 151 (.bin .sub (.t 150) (i 1)),o 152 (.ixA 1 (.t 149) (.t 151)),o 153 (.ld none (.t 152)),o 154 (.cvt .u64 (.t 153)),o 155 (.bin .add (.t 148) (.t 154)),o 17 (.mv (.t 155))] [9,10,11,12,13,14,16,17]) (.seq (r [o 156 (.mv (.t 17)),o 157 (.bin .geq (.t 156) (.c (.int .u64 4294967296)))] [9,10,11,12,13,14,16,17,157]) (.cond (.t 157) (.exit 3) .skip)))))))) (.seq (r [o 18 (.mv (.c (.int .u64 0))),o 19 (.mv (.c (.int .u64 0)))] [9,10,11,12,13,14,16,18,19]) (.seq (.seq (r [o 158 (.mv (.t 12)),o 159 (.mv (i 0))] [9,10,11,12,13,14,16,18,19,158,159]) (.block 5 (.loop (.seq (r [o 160 (.bin .lss (.t 159) (.t 158))] [9,10,11,12,13,14,16,18,19,158,159,160]) (.seq (.cond (.t 160) .skip (.exit 5)) (.seq (.block 6 (.seq (r [o 161 (.mv (.t 159)),o 20 (.mv (.t 161))] [9,10,11,12,13,14,16,18,19,20,158,159]) (.seq (r [o 162 (.mv (.t 19)),o 163 (.mv (.t 16)),o 164 (.mv (.t 11)),o 165 (.mv (.t 20)),o 166 (.ixA 1 (.t 164) (.t 165)),o 167 (.ld none (.t 166)),o 168 (.cvt .u64 (.t 167)),o 169 (.bin .mul (.t 163) (.t 168)),o 170 (.bin .add (.t 162) (.t 169)),o 19 (.mv (.t 170))] [9,10,11,12,13,14,16,18,19,20,158,159]) (.seq (r [o 171 (.mv (.t 19)),o 172 (.bin .and (.t 171) (.c (.int .u64 4294967295))),o 173 (.mv (.t 18)),o 174 (.bin .add (.t 172) (.t 173)),o 21 (.mv (.t 174))] [9,10,11,12,13,14,16,19,20,21,158,159]) (.seq (r [o 18 (.mv (.c (.int .u64 0)))] [9,10,11,12,13,14,16,18,19,20,21,158,159]) (.seq (.seq (r [o 175 (.mv (.t 10)),o 176 (.mv (.t 20)),o 177 (.mv (.t 14)),o 178 (.bin .add (.t 176) (.t 177)),o 179 (.ixA 1 (.t 175) (.t 178)),o 180 (.ld none (.t 179)),o 181 (.cvt .u64 (.t 180)),o 182 (.mv (.t 21)),o 183 (.bin .lss (.t 181) (.t 182))] [9,10,11,12,13,14,16,18,19,20,21,158,159,183]) (.cond (.t 183) (r [o 18 (.mv (.c (.int .u64 1)))] [9,10,11,12,13,14,16,18,19,20,21,158,159]) .skip)) (.seq (r [o 184 (.mv (.t 10)),o 185 (.mv (.t 20)),o 186 (.mv (.t 14)),o 187 (.bin .add (.t 185) (.t 186)),o 188 (.mv (.t 10)),o 189 (.mv (.t 20)),o 190 (.mv (.t 14)),o 191 (.bin .add (.t 189) (.t 190)),o 192 (.ixA 1 (.t 188) (.t 191)),o 193 (.ld none (.t 192)),o 194 (.cvt .u64 (.t 193)),o 195 (.mv (.t 18)),o 196 (.bin .shl (.t 195) (.c (.int .u64 32))),o 197 (.bin .add (.t 194) (.t 196)),o 198 (.mv (.t 21)),o 199 (.bin .sub (.t 197) (.t 198)),o 200 (.cvt .u32 (.t 199)),o 201 (.ixA 1 (.t 184) (.t 187)),z (.st 1 (.t 201) (.t 200))] [9,10,11,12,13,14,16,18,19,158,159]) (r [o 202 (.mv (.t 19)),o 203 (.bin .shr (.t 202) (.c (.int .u64 32))),o 19 (.mv (.t 203))] [9,10,11,12,13,14,16,18,19,158,159])))))))) (r [o 204 (.bin .add (.t 159) (i 1)),o 159 (.mv (.t 204))] [9,10,11,12,13,14,16,18,19,158,159]))))))) (.seq (r [o 205 (.mv (.t 19)),o 206 (.mv (.t 18)),o 207 (.bin .add (.t 205) (.t 206)),o 22 (.mv (.t 207))] [9,10,11,12,13,14,16,22]) (.seq (r [o 208 (.mv (.t 10)),o 209 (.mv (.t 14)),o 210 (.mv (.t 12)),o 211 (.bin .add (.t 209) (.t 210)),o 212 (.ixA 1 (.t 208) (.t 211)),o 213 (.ld none (.t 212)),o 214 (.cvt .u64 (.t 213)),o 215 (.mv (.t 22)),o 216 (.bin .lss (.t 214) (.t 215)),o 23 (.mv (.t 216))] [9,10,11,12,13,14,16,22,23]) (.seq (r [o 217 (.mv (.t 10)),o 218 (.mv (.t 14)),o 219 (.mv (.t 12)),o 220 (.bin .add (.t 218) (.t 219)),o 221 (.mv (.t 10)),o 222 (.mv (.t 14)),o 223 (.mv (.t 12)),o 224 (.bin .add (.t 222) (.t 223)),o 225 (.ixA 1 (.t 221) (.t 224)),o 226 (.ld none (.t 225)),o 227 (.cvt .u64 (.t 226)),o 228 (.mv (.t 22)),o 229 (.bin .sub (.t 227) (.t 228)),o 230 (.cvt .u32 (.t 229)),o 231 (.ixA 1 (.t 217) (.t 220)),z (.st 1 (.t 231) (.t 230))] [9,10,11,12,13,14,16,23]) (.seq (.seq (r [o 232 (.mv (.t 23))] [9,10,11,12,13,14,16,232]) (.cond (.t 232) (.seq (r [o 233 (.mv (.t 16)),o 234 (.bin .sub (.t 233) (.c (.int .u64 1))),o 16 (.mv (.t 234))] [9,10,11,12,13,14,16]) (.seq (r [o 19 (.mv (.c (.int .u64 0)))] [9,10,11,12,13,14,16,19]) (.seq (.seq (r [o 235 (.mv (.t 12)),o 236 (.mv (i 0))] [9,10,11,12,13,14,16,19,235,236]) (.block 7 (.loop (.seq (r [o 237 (.bin .lss (.t 236) (.t 235))] [9,10,11,12,13,14,16,19,235,236,237]) (.seq (.cond (.t 237) .skip (.exit 7)) (.seq (.block 8 (.seq (r [o 238 (.mv (.t 236)),o 24 (.mv (.t 238))] [9,10,11,12,13,14,16,19,24,235,236]) (.seq (r [o 239 (.mv (.t 19)),o 240 (.mv (.t 10)),o 241 (.mv (.t 24)),o 242 (.mv (.t 14)),o 243 (.bin .add (.t 241) (.t 242)),o 244 (.ixA 1 (.t 240) (.t 243)),o 245 (.ld none (.t 244)),o 246 (.cvt .u64 (.t 245)),o 247 (.mv (.t 11)),o 248 (.mv (.t 24)),o 249 (.ixA 1 (.t 247) (.t 248)),o 250 (.ld none (.t 249)),o 251 (.cvt .u64 (.t 250)),o 252 (.bin .add (.t 246) (.t 251)),o 253 (.bin .add (.t 239) (.t 252)),o 19 (.mv (.t 253))] [9,10,11,12,13,14,16,19,24,235,236]) (.seq (r [o 254 (.mv (.t 10)),o 255 (.mv (.t 24)),o 256 (.mv (.t 14)),o 257 (.bin .add (.t 255) (.t 256)),o 258 (.mv (.t 19)),o 259 (.cvt .u32 (.t 258)),o 260 (.ixA 1 (.t 254) (.t 257)),z (.st 1 (.t 260) (.t 259))] [9,10,11,12,13,14,16,19,235,236]) (r [o 261 (.mv (.t 19)),o 262 (.bin .shr (.t 261) (.c (.int .u64 32))),o 19 (.mv (.t 262))] [9,10,11,12,13,14,16,19,235,236]))))) (r [o 263 (.bin .add (.t 236) (i 1)),o 236 (.mv (.t 263))] [9,10,11,12,13,14,16,19,235,236]))))))) (r [o 264 (.mv (.t 10)),o 265 (.mv (.t 14)),o 266 (.mv (.t 12)),o 267 (.bin .add (.t 265) (.t 266)),o 268 (.ixA 1 (.t 264) (.t 267)),o 269 (.ld none (.t 268)),o 270 (.mv (.t 19)),o 271 (.cvt .u32 (.t 270)),o 272 (.bin .add (.t 269) (.t 271)),o 273 (.ixA 1 (.t 264) (.t 267)),z (.st 1 (.t 273) (.t 272))] [9,10,11,12,13,14,16])))) .skip)) (r [o 274 (.mv (.t 13)),o 275 (.mv (.t 14)),o 276 (.mv (.t 16)),o 277 (.cvt .u32 (.t 276)),o 278 (.ixA 1 (.t 274) (.t 275)),z (.st 1 (.t 278) (.t 277))] [9,10,11,12,13,14]))))))))))) (r [o 87 (.mv (.t 14)),o 88 (.bin .sub (.t 87) (i 1)),o 14 (.mv (.t 88))] [9,10,11,12,13,14])))))) (.seq (r [o 279 (.mv (.t 12)),o 280 (.mkSl 1 4 [.int .u32 0] (.t 279) (.t 279)),o 25 (.mv (.t 280))] [9,10,12,13,25]) (.seq (.seq (r [o 281 (.mv (.t 12)),o 282 (.mv (i 0))] [9,10,13,25,281,282]) (.block 9 (.loop (.seq (r [o 283 (.bin .lss (.t 282) (.t 281))] [9,10,13,25,281,282,283]) (.seq (.cond (.t 283) .skip (.exit 9)) (.seq (.block 10 (.seq (r [o 284 (.mv (.t 282)),o 26 (.mv (.t 284))] [9,10,13,25,26,281,282]) (.seq (r [o 285 (.mv (.t 25)),o 286 (.mv (.t 26)),o 287 (.mv (.t 10)),o 288 (.mv (.t 26)),o 289 (.ixA 1 (.t 287) (.t 288)),o 290 (.ld none (.t 289)),o 291 (.mv (.t 9)),o 292 (.bin .shr (.t 290) (.t 291)),o 293 (.ixA 1 (.t 285) (.t 286)),z (.st 1 (.t 293) (.t 292))] [9,10,13,25,26,281,282]) (.seq (r [o 294 (.mv (.t 9)),o 295 (.bin .gtr (.t 294) (.c (.int .u64 0)))] [9,10,13,25,26,281,282,295]) (.cond (.t 295) (r [o 296 (.mv (.t 25)),o 297 (.mv (.t 26)),o 298 (.ixA 1 (.t 296) (.t 297)),o 299 (.ld none (.t 298)),o 300 (.mv (.t 10)),o 301 (.mv (.t 26)),o 302 (.bin .add (.t 301) (i 1)),o 303 (.ixA 1 (.t 300) (.t 302)),o 304 (.ld none (.t 303)),o 305 (.mv (.t 9)),o 306 (.bin .sub (.c (.int .u64 32)) (.t 305)),o 307 (.bin .shl (.t 304) (.t 306)),o 308 (.bin .or (.t 299) (.t 307)),o 309 (.ixA 1 (.t 296) (.t 297)),z (.st 1 (.t 309) (.t 308))] [9,10,13,25,281,282]) .skip))))) (r [o 310 (.bin .add (.t 282) (i 1)),o 282 (.mv (.t 310))] [9,10,13,25,281,282]))))))) (.seq (r [o 311 (.mv (.t 13)),o 312 (.call 89 [(.t 311)]),o 313 (.mv (.t 25)),o 314 (.call 89 [(.t 313)]),o 4 (.mv (.t 312)),o 5 (.mv (.t 314)),o 6 (.mv (i 0))] [4,5,6]) .ret))))))))))),[.t 4,.t 5,.t 6]⟩
theorem nat_Div_ok : cFn Tryz.prog (kps [[0,1],[0,1],[0,1,31],[4,5,6],[0,1,35],[4,5,6],[0,1,42],[7,8],[4,5,6],[0,1,9],[9,10,11],[9,10,11,12],[9,10,11,12,13],[9,10,11,12,13,14],[9,10,11,12,13,14,86],[9,10,11,12,13,14],[9,10,11,12,13,14,15],[9,10,11,12,13,14,16,17],[9,10,11,12,13,14,16,17,145],[9,10,11,12,13,14,16,17],[9,10,11,12,13,14,16,17],[9,10,11,12,13,14,16,17,157],[9,10,11,12,13,14,16,18,19],[9,10,11,12,13,14,16,18,19,158,159],[9,10,11,12,13,14,16,18,19,158,159,160],[9,10,11,12,13,14,16,18,19,20,158,159],[9,10,11,12,13,14,16,18,19,20,158,159],[9,10,11,12,13,14,16,19,20,21,158,159],[9,10,11,12,13,14,16,18,19,20,21,158,159],[9,10,11,12,13,14,16,18,19,20,21,158,159,183],[9,10,11,12,13,14,16,18,19,20,21,158,159],[9,10,11,12,13,14,16,18,19,158,159],[9,10,11,12,13,14,16,18,19,158,159],[9,10,11,12,13,14,16,18,19,158,159],[9,10,11,12,13,14,16,22],[9,10,11,12,13,14,16,22,23],[9,10,11,12,13,14,16,23],[9,10,11,12,13,14,16,232],[9,10,11,12,13,14,16],[9,10,11,12,13,14,16,19],[9,10,11,12,13,14,16,19,235,236],[9,10,11,12,13,14,16,19,235,236,237],[9,10,11,12,13,14,16,19,24,235,236],[9,10,11,12,13,14,16,19,24,235,236],[9,10,11,12,13,14,16,19,235,236],[9,10,11,12,13,14,16,19,235,236],[9,10,11,12,13,14,16,19,235,236],[9,10,11,12,13,14,16],[9,10,11,12,13,14],[9,10,12,13,25],[9,10,13,25,281,282],[9,10,13,25,281,282,283],[9,10,13,25,26,281,282],[9,10,13,25,26,281,282],[9,10,13,25,26,281,282,295],[9,10,13,25,281,282],[9,10,13,25,281,282],[4,5,6]]) [] 111 = some nat_Div_c := by kernel_rfl
abbrev nat_Gcd : Nat := 110
def nat_Gcd_c : MFn := ⟨26,(.seq (r [o 4 (.mv (.c .nils))] [0,1]) (.seq (r [o 8 (.mv (.t 0)),o 9 (.call 89 [(.t 8)]),o 10 (.mv (.t 1)),o 11 (.call 89 [(.t 10)]),o 0 (.mv (.t 9)),o 1 (.mv (.t 11))] [0,1]) (.seq (.block 0 (.loop (.seq (.seq (r [o 12 (.mv (.t 1)),o 13 (.lenS (.t 12)),o 14 (.bin .gtr (.t 13) (i 0))] [0,1,14]) (.cond (.t 14) .skip (.exit 0))) (.block 1 (.seq (r [o 16 (.mv (.t 0)),o 17 (.mv (.t 1)),o 18 (.call 111 [(.t 16),(.t 17)]),o 15 (.mv (.t 18)),o 19 (.ext (.t 15) 0),o 20 (.ext (.t 15) 1),o 21 (.ext (.t 15) 2),o 5 (.mv (.t 19)),o 6 (.mv (.t 20)),o 7 (.mv (.t 21))] [1,6]) (r [o 22 (.mv (.t 1)),o 23 (.mv (.t 6)),o 0 (.mv (.t 22)),o 1 (.mv (.t 23))] [0,1])))))) (.seq (r [o 24 (.mv (.t 0)),o 25 (.call 88 [(.t 24)]),o 4 (.mv (.t 25))] [4]) .ret)))),[.t 4]⟩
theorem nat_Gcd_ok : cFn Tryz.prog (kps [[0,1],[0,1],[0,1,14],[1,6],[0,1],[4]]) [] 110 = some nat_Gcd_c := by kernel_rfl
end Go.Proofs.YtkockkfmjmheeaaGreat.F

namespace Go.Proofs.YtkockkfmjmheeaaGreat
open Go Go.Proofs Go.Proofs.YtkockkfmjmheeaaGreat.E
set_option linter.unusedSimpArgs false
set_option linter.unusedVariables false
def MCode.inn : MCode → MCode
 | .block _ b => b
 | .loop b => b
 | c => c
namespace NDiv
def loop1 : MCode := MCode.inn (MCode.inn (F.nat_Div_c.body.tls 7).hd.tl)
def D2 : MCode := MCode.inn loop1.tl.hd
def base (s n : Nat) (V : Int) (lu lq : Nat) (j : Int) : Sl := (((((Sl.empty.set 14 (.int .i64 j)).set 13 (.ref 1 0 lq)).set 12 (.int .i64 n)).set 11 (nat (digs V))).set 10 (.ref 0 0 lu)).set 9 (.int .u64 s)
set_option maxHeartbeats 1000000 in
theorem guess {s m : Nat} {V : Int} {u q : List Int} {lq j : Nat} (hu : Dig u) (hV : (digs V).length = m + 2) (hVp : 0 < V) (hj : j + m + 2 < u.length) (lu : u.length ≤ 2 ^ 37) (hlt : val ((u.drop j).take (m + 3)) < V * 4294967296) {S : Sl} (hS : Sub (base s (m + 2) V u.length lq j) S) {R : MCode} {Q : Ex → Sl → Sto → Prop}
 (hR : ∀ (g : Int) (S' : Sl), val ((u.drop j).take (m + 3)) / V ≤ g → (g - 1) * V ≤ val ((u.drop j).take (m + 3)) → 0 ≤ g → g < 4294967296 → Sub ((base s (m + 2) V u.length lq j).set 16 (.int .u64 g)) S' → WpM Tryz.prog [] R S' [(0, ⟨.own, 1, dg u⟩), (1, ⟨.own, 1, dg q⟩)] Q) :
 WpM Tryz.prog [] (D2.cut 3 R) S [(0, ⟨.own, 1, dg u⟩), (1, ⟨.own, 1, dg q⟩)] Q := by
 have s9 := hS 9 (.int .u64 s) (by simp [base])
 have s10 := hS 10 (.ref 0 0 u.length) (by simp [base])
 have s11 := hS 11 (nat (digs V)) (by simp [base])
 have s12 := hS 12 (.int .i64 (m + 2 : Nat)) (by simp [base])
 have s13 := hS 13 (.ref 1 0 lq) (by simp [base])
 have s14 := hS 14 (.int .i64 j) (by simp [base])
 have hd : ∀ i, i < m + 3 → j + i < u.length := fun i h => by omega
 have u2 := hd (m + 2) (by omega)
 have u1 := hd (m + 1) (by omega)
 have u0 := hd m (by omega)
 have v1 : m + 1 < (digs V).length := by omega
 have v0 : m < (digs V).length := by omega
 have b2 := hu.get u2
 have b1 := hu.get u1
 have b0 := hu.get u0
 have c1 := (digs_dig V).get v1
 have c0 := (digs_dig V).get v0
 have eU := val_three (l := u.drop j) (m := m) (by simp; omega)
 simp only [List.getElem_drop] at eU
 have eV := val_two (l := digs V) (m := m) v1
 rw [List.take_of_length_le (by omega), val_digs (by omega)] at eV
 have c1p : 0 < (digs V)[m + 1] := by
  have h := (digs_last (digs_dig V) (by omega)).1 (by rw [val_digs (by omega)])
  have e : (digs V)[(digs V).length - 1]'(by omega) = (digs V)[m + 1] := by congr 1; omega
  rw [e] at h; omega
 have i1 : ((j : Int) + ((m : Int) + 2)).toNat = j + (m + 2) := by omega
 have i2 : j + (m + 2) - 1 = j + (m + 1) := by omega
 have i3 : ((m : Int) + 2).toNat = m + 2 := by omega
 have i4 : m + 2 - 1 = m + 1 := by omega
 have i5 : j + (m + 2) - 2 = j + m := by omega
 have i6 : m + 2 - 2 = m := by omega
 have i7 : ((j : Int) + ((m : Int) + 2) - 2).toNat = j + m := by omega
 have pp := B_pow_pos m
 have v30 := val_nonneg ((digs_dig V).take m)
 have v3p := val_lt ((digs_dig V).take m)
 rw [List.length_take, Nat.min_eq_left (by omega)] at v3p
 have u30 := val_nonneg ((hu.drop j).take m)
 have u3p := val_lt ((hu.drop j).take m)
 rw [List.length_take, Nat.min_eq_left (by simp; omega)] at u3p
 have c2 := (digs_dig V).get v0
 unfold D2 loop1 F.nat_Div_c
 simp [MCode.inn, MCode.hd, MCode.tl, s9, s10, s11, s12, s13, s14]
 repeat simp (disch := omega) [wrap64, wrapU64, if_pos, i1, i2, i3, i4, s9, s10, s11, s12, s13, s14, or_low, Int.tdiv_eq_ediv_of_nonneg, Int.tmod_eq_emod_of_nonneg]
 generalize hw1 : (digs V)[m + 1] = w1 at *
 generalize hw0 : (digs V)[m] = w0 at *
 generalize hx2 : u[j + (m + 2)] = x2 at *
 generalize hx1 : u[j + (m + 1)] = x1 at *
 generalize hx0 : u[j + m] = x0 at *
 generalize val ((u.drop j).take (m + 3)) = U at *
 generalize val (List.take m (digs V)) = v3 at *
 generalize val (List.take m (List.drop j u)) = u3 at *
 generalize (4294967296 : Int) ^ m = p at *
 have top := kn_top eV eU pp (by decide) c0.2 v3p b1.1 b0.1 u30 hlt
 have U0 : 0 ≤ U := by
  have := Int.mul_nonneg (show 0 ≤ x2 * 4294967296 + x1 by omega) (Int.le_of_lt (Int.mul_pos (show (0 : Int) < 4294967296 by decide) pp))
  have := Int.mul_nonneg b0.1 (Int.le_of_lt pp)
  omega
 have q0 : 0 ≤ U / V := Int.ediv_nonneg U0 (by omega)
 have qU : U / V * V ≤ U := Int.ediv_mul_le _ (by omega)
 have qB : U / V < 4294967296 := Int.ediv_lt_of_lt_mul hVp (by rw [Int.mul_comm]; exact hlt)
 have first := kn_first eV eU pp (by decide) c1p c0.1 v30 b0.2 u3p qU q0
 have hmin : x2 * 4294967296 + x1 ≤ w1 * 4294967296 + 4294967295 := by omega
 generalize hT : x2 * 4294967296 + x1 = T at *
 have T0 : 0 ≤ T := by omega
 have T1 : T < 18446744073709551616 := by omega
 have g0 : 0 ≤ T / w1 := Int.ediv_nonneg T0 (by omega)
 have g1 : T / w1 ≤ T := Int.ediv_le_self _ T0
 have r0 : 0 ≤ T % w1 := Int.emod_nonneg _ (by omega)
 have r1 : T % w1 < w1 := Int.emod_lt_of_pos _ c1p
 have gr : T / w1 * w1 + T % w1 = T := by rw [Int.mul_comm]; exact Int.mul_ediv_add_emod ..
 have hne : ¬ w1 = 0 := by omega
 simp [hne]
 repeat simp (disch := omega) [wrap64, wrapU64, if_pos, i3, i4, hne, hw1, Int.tmod_eq_emod_of_nonneg]
 generalize T / w1 = ga at *
 generalize T % w1 = ra at *
 have fin : ∀ g r : Int, g * w1 + r = T → U / V ≤ g → 0 ≤ g → g ≤ 4294967296 → g * w0 ≤ r * 4294967296 + x0 → (g - 1) * V ≤ U := fun g r e1 e2 e3 e4 e5 => kn_most eV eU pp c1p c0.1 u30 v3p v30 (by decide) e1 e3 e4 e5
 have less : ∀ g r : Int, g * w1 + r = T → U / V ≤ g → 0 ≤ g → r * 4294967296 + x0 < g * w0 → U / V ≤ g - 1 := fun g r e1 e2 e3 e4 => kn_less eV eU pp v30 u3p qU e1 e3 (by omega) e4 e2
 refine wm_loop (fun g : Int × Int => (((base s (m + 2) V u.length lq j).set 16 (.int .u64 g.1)).set 17 (.int .u64 g.2), [(0, ⟨.own, 1, dg u⟩), (1, ⟨.own, 1, dg q⟩)]))
  (fun g => g.1 * w1 + g.2 = T ∧ U / V ≤ g.1 ∧ 0 ≤ g.2 ∧ g.2 < 4294967296 ∧ 0 ≤ g.1 ∧ g.1 ≤ T) (fun g => g.1.toNat) (ga, ra) ⟨gr, first, r0, by dsimp only; omega, g0, g1⟩ ?_ ?_
 ·refine weak_digs2 ?_ (by simp) (by simp) ?_
  ·simp only [base]; repeat (first | exact sub_empty | refine sub_set (by simp) ?_)
  ·simp only [base]; repeat (first | exact sin_empty | refine sin_set (by simp) ?_)
 rintro ⟨g, r⟩ ⟨e1, e2, e3, e4, e5, e6⟩
 dsimp only at e1 e2 e3 e4 e5 e6
 by_cases hB : 4294967296 ≤ g
 ·simp [base, hB]
  repeat simp (disch := omega) [wrap64, wrapU64, if_pos, i3, i4, hw1]
  have k1 : U / V ≤ g - 1 := by omega
  refine ⟨fun h => ?_, fun h => ?_⟩
  ·have k3 : g - 1 < 4294967296 := by
    have k4 : (g - 1) * w1 < 4294967296 * w1 := by rw [Int.sub_mul, Int.mul_comm 4294967296]; omega
    exact Int.lt_of_mul_lt_mul_right k4 (Int.le_of_lt c1p)
   refine hR (g - 1) _ k1 (fin (g - 1) (r + w1) (by rw [Int.sub_mul]; omega) k1 (by omega) (by omega) ?_) (by omega) k3 ?_
   ·have k5 : (g - 1) * w0 ≤ (g - 1) * 4294967296 := Int.mul_le_mul_of_nonneg_left (by omega) (by omega)
    omega
   ·simp only [base]; repeat (first | exact sub_empty | refine sub_set (by simp) ?_)
  ·refine ⟨(g - 1, r + w1), ⟨by dsimp only; rw [Int.sub_mul]; omega, k1, by dsimp only; omega, by dsimp only; omega, by dsimp only; omega, by dsimp only; omega⟩, by dsimp only; omega, ?_⟩
   refine weak_digs2 ?_ (by simp) (by simp) ?_
   ·simp only [base]; repeat (first | exact sub_empty | refine sub_set (by simp) ?_)
   ·simp only [base]; repeat (first | exact sin_empty | refine sin_set (by simp) ?_)
 ·have gw0 : 0 ≤ g * w0 := Int.mul_nonneg e5 c0.1
  have gw1 : g * w0 ≤ 4294967296 * w0 := Int.mul_le_mul_of_nonneg_right (by omega) c0.1
  by_cases hc : r * 4294967296 + x0 < g * w0
  ·have k1 : U / V ≤ g - 1 := less g r e1 e2 e5 hc
   simp [base, hB]
   repeat simp (disch := omega) [wrap64, wrapU64, if_pos, i1, i3, i4, i5, i6, i7, hw1, hw0, hx0, or_low, hc]
   refine ⟨fun h => ?_, fun h => ?_⟩
   ·have k3 : g - 1 < 4294967296 := by
     have k4 : (g - 1) * w1 < 4294967296 * w1 := by rw [Int.sub_mul, Int.mul_comm 4294967296]; omega
     exact Int.lt_of_mul_lt_mul_right k4 (Int.le_of_lt c1p)
    refine hR (g - 1) _ k1 (fin (g - 1) (r + w1) (by rw [Int.sub_mul]; omega) k1 (by omega) (by omega) ?_) (by omega) k3 ?_
    ·have k5 : (g - 1) * w0 ≤ (g - 1) * 4294967296 := Int.mul_le_mul_of_nonneg_left (by omega) (by omega)
     omega
    ·simp only [base]; repeat (first | exact sub_empty | refine sub_set (by simp) ?_)
   ·refine ⟨(g - 1, r + w1), ⟨by dsimp only; rw [Int.sub_mul]; omega, k1, by dsimp only; omega, by dsimp only; omega, by dsimp only; omega, by dsimp only; omega⟩, by dsimp only; omega, ?_⟩
    refine weak_digs2 ?_ (by simp) (by simp) ?_
    ·simp only [base]; repeat (first | exact sub_empty | refine sub_set (by simp) ?_)
    ·simp only [base]; repeat (first | exact sin_empty | refine sin_set (by simp) ?_)
  ·simp [base, hB]
   repeat simp (disch := omega) [wrap64, wrapU64, if_pos, i1, i3, i4, i5, i6, i7, hw1, hw0, hx0, or_low, hc]
   refine hR g _ e2 (fin g r e1 e2 e5 (by omega) (by omega)) e5 (by omega) ?_
   simp only [base]; repeat (first | exact sub_empty | refine sub_set (by simp) ?_)
end NDiv
end Go.Proofs.YtkockkfmjmheeaaGreat

namespace Go.Proofs.YtkockkfmjmheeaaGreat
open Go Go.Proofs Go.Proofs.YtkockkfmjmheeaaGreat.E
set_option linter.unusedSimpArgs false
set_option linter.unusedVariables false
namespace NDiv
set_option maxHeartbeats 1000000 in
theorem msub {s n : Nat} {V g : Int} {u q : List Int} {lq j : Nat} (hu : Dig u) (hV : (digs V).length = n) (hj : j + n < u.length) (lu : u.length ≤ 2 ^ 37) (hg0 : 0 ≤ g) (hg1 : g < 4294967296) (hVp : 0 ≤ V) {S : Sl} (hS : Sub ((base s n V u.length lq j).set 16 (.int .u64 g)) S) {R : MCode} {Q : Ex → Sl → Sto → Prop}
 (hR : ∀ (x : List Int) (c o : Int) (S' : Sl), Dig x → x.length = n → 0 ≤ c → c < 4294967296 → 0 ≤ o → o ≤ 1 → val x = val ((u.drop j).take n) - g * V + 4294967296 ^ n * (c + o) → Sub ((((base s n V u.length lq j).set 16 (.int .u64 g)).set 18 (.int .u64 o)).set 19 (.int .u64 c)) S' → WpM Tryz.prog [] R S' [(0, ⟨.own, 1, dg (win u j x)⟩), (1, ⟨.own, 1, dg q⟩)] Q) :
 WpM Tryz.prog [] ((D2.tls 3).cut 2 R) S [(0, ⟨.own, 1, dg u⟩), (1, ⟨.own, 1, dg q⟩)] Q := by
 have s9 := hS 9 (.int .u64 s) (by simp [base])
 have s10 := hS 10 (.ref 0 0 u.length) (by simp [base])
 have s11 := hS 11 (nat (digs V)) (by simp [base])
 have s12 := hS 12 (.int .i64 n) (by simp [base])
 have s13 := hS 13 (.ref 1 0 lq) (by simp [base])
 have s14 := hS 14 (.int .i64 j) (by simp [base])
 have s16 := hS 16 (.int .u64 g) (by simp [base])
 have vV := val_digs hVp
 unfold D2 loop1 F.nat_Div_c
 simp [MCode.inn, MCode.hd, MCode.tl, s9, s10, s11, s12, s13, s14, s16]
 refine wm_loop (fun g' : List Int × Int × Int => ((((((base s n V u.length lq j).set 16 (.int .u64 g)).set 18 (.int .u64 g'.2.2)).set 19 (.int .u64 g'.2.1)).set 158 (.int .i64 n)).set 159 (.int .i64 g'.1.length), [(0, ⟨.own, 1, dg (win u j g'.1)⟩), (1, ⟨.own, 1, dg q⟩)]))
  (fun g' => Dig g'.1 ∧ g'.1.length ≤ n ∧ (0 ≤ g'.2.1 ∧ g'.2.1 < 4294967296) ∧ (0 ≤ g'.2.2 ∧ g'.2.2 ≤ 1) ∧ val g'.1 = val ((u.drop j).take g'.1.length) - g * val ((digs V).take g'.1.length) + 4294967296 ^ g'.1.length * (g'.2.1 + g'.2.2)) (fun g' => n - g'.1.length) ([], 0, 0) ⟨Dig.nil, by simp, by simp, by simp, by simp⟩ ?_ ?_
 ·refine weak_digs2 ?_ (by simp [win_nil]) (by simp) ?_
  ·simp only [base]; repeat (first | exact sub_empty | refine sub_set (by simp) ?_)
  ·simp only [base]; repeat (first | exact sin_empty | refine sin_set (by simp) ?_)
 rintro ⟨x, c, o⟩ ⟨hx, hle, ⟨c0, c1⟩, ⟨o0, o1⟩, hv⟩
 dsimp only at hx hle c0 c1 o0 o1 hv
 by_cases hi : x.length < n
 ·have hk : j + x.length < u.length := by omega
  have hvi : x.length < (digs V).length := by omega
  have bu := hu.get hk
  have bv := (digs_dig V).get hvi
  have hwg : (win u j x)[x.length + j]? = some (u[j + x.length]) := by rw [Nat.add_comm]; exact win_get hk
  have hwl : (win u j x).length = u.length := win_length (by omega)
  have hws : ∀ d, (win u j x).set (x.length + j) d = win u j (x ++ [d]) := fun d => by rw [Nat.add_comm]; exact win_set hk d
  have t1 := val_take_succ (l := u.drop j) (i := x.length) (by simp; omega)
  have t2 := val_take_succ hvi
  simp only [List.getElem_drop] at t1
  have gv := mul_bound ⟨hg0, hg1⟩ bv
  have hwe : ∀ h : x.length + j < (win u j x).length, (win u j x)[x.length + j] = u[j + x.length] := fun h => by
   have := List.getElem?_eq_getElem h
   rw [hwg] at this
   exact (Option.some.inj this).symm
  generalize hvx : (digs V)[x.length] = vi at *
  generalize hux : u[j + x.length] = ui at *
  have w1 : g * vi ≤ 4294967295 * 4294967295 := by
   have := Int.mul_le_mul (show g ≤ 4294967295 by omega) (show vi ≤ 4294967295 by omega) bv.1 (by omega)
   omega
  generalize hgv : g * vi = gvi at *
  have step : ∀ o' : Int, o' = 0 ∨ o' = 1 → 0 ≤ ui + o' * 4294967296 - ((c + gvi) % 4294967296 + o) → ui + o' * 4294967296 - ((c + gvi) % 4294967296 + o) < 4294967296 → val (x ++ [ui + o' * 4294967296 - ((c + gvi) % 4294967296 + o)]) = val ((u.drop j).take (x ++ [ui + o' * 4294967296 - ((c + gvi) % 4294967296 + o)]).length) - g * val ((digs V).take (x ++ [ui + o' * 4294967296 - ((c + gvi) % 4294967296 + o)]).length) + 4294967296 ^ (x ++ [ui + o' * 4294967296 - ((c + gvi) % 4294967296 + o)]).length * ((c + gvi) / 4294967296 + o') := by
   intro o' ho h0 h1
   simp only [List.length_append, List.length_singleton]
   rw [val_snoc, t1, t2, Int.pow_succ]
   exact ms_step hv (by rw [hgv]; exact (Int.mul_ediv_add_emod ..).symm) rfl
  by_cases hlt : ui < (c + gvi) % 4294967296 + o
  ·simp [base, hi]
   repeat simp (disch := omega) [wrap64, wrapU64, if_pos, hwg, hwl, hwe, hws, hvx, hgv, and_mask, hlt]
   have hb0 : 0 ≤ ui + 1 * 4294967296 - ((c + gvi) % 4294967296 + o) := by omega
   have hb1 : ui + 1 * 4294967296 - ((c + gvi) % 4294967296 + o) < 4294967296 := by omega
   have hst := step 1 (by omega) hb0 hb1
   refine ⟨(x ++ [ui + 1 * 4294967296 - ((c + gvi) % 4294967296 + o)], (c + gvi) / 4294967296, 1), ⟨hx.snoc hb0 hb1, by simp; omega, ⟨by dsimp only; omega, by dsimp only; omega⟩, ⟨by dsimp only; omega, by dsimp only; omega⟩, hst⟩, by simp; omega, ?_⟩
   refine weak_digs2 ?_ ?_ (by simp) ?_
   ·simp only [base]; repeat (first | exact sub_empty | refine sub_set (by simp) ?_)
   ·simp
    rw [Int.emod_eq_of_lt (by omega) (by omega)]
   ·simp only [base]; repeat (first | exact sin_empty | refine sin_set (by simp) ?_)
  ·simp [base, hi]
   repeat simp (disch := omega) [wrap64, wrapU64, if_pos, hwg, hwl, hwe, hws, hvx, hgv, and_mask, hlt]
   have hb0 : 0 ≤ ui + 0 * 4294967296 - ((c + gvi) % 4294967296 + o) := by omega
   have hb1 : ui + 0 * 4294967296 - ((c + gvi) % 4294967296 + o) < 4294967296 := by omega
   have hst := step 0 (by omega) hb0 hb1
   refine ⟨(x ++ [ui + 0 * 4294967296 - ((c + gvi) % 4294967296 + o)], (c + gvi) / 4294967296, 0), ⟨hx.snoc hb0 hb1, by simp; omega, ⟨by dsimp only; omega, by dsimp only; omega⟩, ⟨by dsimp only; omega, by dsimp only; omega⟩, hst⟩, by simp; omega, ?_⟩
   refine weak_digs2 ?_ ?_ (by simp) ?_
   ·simp only [base]; repeat (first | exact sub_empty | refine sub_set (by simp) ?_)
   ·simp
    rw [Int.emod_eq_of_lt (by omega) (by omega)]
   ·simp only [base]; repeat (first | exact sin_empty | refine sin_set (by simp) ?_)
 ·have hn : x.length = n := by omega
  simp [base, hi]
  refine hR x c o _ hx hn c0 c1 o0 o1 ?_ ?_
  ·rw [hn, List.take_of_length_le (l := digs V) (by omega), vV] at hv; exact hv
  ·simp only [base]; repeat (first | exact sub_empty | refine sub_set (by simp) ?_)
end NDiv
end Go.Proofs.YtkockkfmjmheeaaGreat

namespace Go.Proofs.YtkockkfmjmheeaaGreat
open Go Go.Proofs Go.Proofs.YtkockkfmjmheeaaGreat.E
set_option linter.unusedSimpArgs false
set_option linter.unusedVariables false
namespace NDiv
theorem ab_step {x w v p c ui vi y c' b : Int} (h : x + p * c = w + v) (hc : c + (ui + vi) = b * c' + y) : x + p * y + p * b * c' = (w + p * ui) + (v + p * vi) := by
 have : p * (c + (ui + vi)) = p * (b * c' + y) := by rw [hc]
 grind
def addLoop : MCode := MCode.inn (match (D2.tls 8).hd.tl with | .cond _ a _ => (a.tls 2).hd.tl | c => c)
def addIn : MCode := match (D2.tls 8).hd.tl with | .cond _ a _ => a | c => c
set_option maxHeartbeats 1000000 in
theorem addb {s n : Nat} {V g : Int} {u q : List Int} {lq j : Nat} (hu : Dig u) (hV : (digs V).length = n) (hj : j + n < u.length) (lu : u.length ≤ 2 ^ 37) (hg0 : 0 < g) (hg1 : g ≤ 4294967296) (hVp : 0 ≤ V) {S : Sl} (hS : Sub ((base s n V u.length lq j).set 16 (.int .u64 g)) S) {R : MCode} {Q : Ex → Sl → Sto → Prop}
 (hR : ∀ (x : List Int) (c : Int) (S' : Sl), Dig x → x.length = n → 0 ≤ c → c ≤ 1 → val x + 4294967296 ^ n * c = val ((u.drop j).take n) + V → Sub (((base s n V u.length lq j).set 16 (.int .u64 (g - 1))).set 19 (.int .u64 c)) S' → WpM Tryz.prog [] R S' [(0, ⟨.own, 1, dg (win u j x)⟩), (1, ⟨.own, 1, dg q⟩)] Q) :
 WpM Tryz.prog [] (addIn.cut 3 R) S [(0, ⟨.own, 1, dg u⟩), (1, ⟨.own, 1, dg q⟩)] Q := by
 have s9 := hS 9 (.int .u64 s) (by simp [base])
 have s10 := hS 10 (.ref 0 0 u.length) (by simp [base])
 have s11 := hS 11 (nat (digs V)) (by simp [base])
 have s12 := hS 12 (.int .i64 n) (by simp [base])
 have s13 := hS 13 (.ref 1 0 lq) (by simp [base])
 have s14 := hS 14 (.int .i64 j) (by simp [base])
 have s16 := hS 16 (.int .u64 g) (by simp [base])
 have vV := val_digs hVp
 unfold addIn D2 loop1 F.nat_Div_c
 simp [MCode.inn, MCode.hd, MCode.tl, s9, s10, s11, s12, s13, s14, s16]
 rw [wrapU64 (by omega) (by omega)]
 refine wm_loop (fun g' : List Int × Int => (((((base s n V u.length lq j).set 16 (.int .u64 (g - 1))).set 19 (.int .u64 g'.2)).set 235 (.int .i64 n)).set 236 (.int .i64 g'.1.length), [(0, ⟨.own, 1, dg (win u j g'.1)⟩), (1, ⟨.own, 1, dg q⟩)]))
  (fun g' => Dig g'.1 ∧ g'.1.length ≤ n ∧ (0 ≤ g'.2 ∧ g'.2 ≤ 1) ∧ val g'.1 + 4294967296 ^ g'.1.length * g'.2 = val ((u.drop j).take g'.1.length) + val ((digs V).take g'.1.length)) (fun g' => n - g'.1.length) ([], 0) ⟨Dig.nil, by simp, by simp, by simp⟩ ?_ ?_
 ·refine weak_digs2 ?_ (by simp [win_nil]) (by simp) ?_
  ·simp only [base]; repeat (first | exact sub_empty | refine sub_set (by simp) ?_)
  ·simp only [base]; repeat (first | exact sin_empty | refine sin_set (by simp) ?_)
 rintro ⟨x, c⟩ ⟨hx, hle, ⟨c0, c1⟩, hv⟩
 dsimp only at hx hle c0 c1 hv
 by_cases hi : x.length < n
 ·have hk : j + x.length < u.length := by omega
  have hvi : x.length < (digs V).length := by omega
  have bu := hu.get hk
  have bv := (digs_dig V).get hvi
  have hwg : (win u j x)[x.length + j]? = some (u[j + x.length]) := by rw [Nat.add_comm]; exact win_get hk
  have hwl : (win u j x).length = u.length := win_length (by omega)
  have hws : ∀ d, (win u j x).set (x.length + j) d = win u j (x ++ [d]) := fun d => by rw [Nat.add_comm]; exact win_set hk d
  have t1 := val_take_succ (l := u.drop j) (i := x.length) (by simp; omega)
  have t2 := val_take_succ hvi
  simp only [List.getElem_drop] at t1
  have hwe : ∀ h : x.length + j < (win u j x).length, (win u j x)[x.length + j] = u[j + x.length] := fun h => by
   have := List.getElem?_eq_getElem h
   rw [hwg] at this
   exact (Option.some.inj this).symm
  generalize hvx : (digs V)[x.length] = vi at *
  generalize hux : u[j + x.length] = ui at *
  simp [base, hi]
  repeat simp (disch := omega) [wrap64, wrapU64, if_pos, hwg, hwl, hwe, hws, hvx]
  refine ⟨(x ++ [(c + (ui + vi)) % 4294967296], (c + (ui + vi)) / 4294967296), ⟨hx.snoc (by omega) (by omega), by simp; omega, ⟨by dsimp only; omega, by dsimp only; omega⟩, ?_⟩, by simp; omega, ?_⟩
  ·simp only [List.length_append, List.length_singleton]
   rw [val_snoc, t1, t2, Int.pow_succ]
   exact ab_step hv (Int.mul_ediv_add_emod ..).symm
  ·refine weak_digs2 ?_ (by simp) (by simp) ?_
   ·simp only [base]; repeat (first | exact sub_empty | refine sub_set (by simp) ?_)
   ·simp only [base]; repeat (first | exact sin_empty | refine sin_set (by simp) ?_)
 ·have hn : x.length = n := by omega
  simp [base, hi]
  refine hR x c _ hx hn c0 c1 ?_ ?_
  ·rw [hn, List.take_of_length_le (l := digs V) (by omega), vV] at hv; exact hv
  ·simp only [base]; repeat (first | exact sub_empty | refine sub_set (by simp) ?_)
end NDiv
end Go.Proofs.YtkockkfmjmheeaaGreat

namespace Go.Proofs.YtkockkfmjmheeaaGreat
open Go Go.Proofs Go.Proofs.YtkockkfmjmheeaaGreat.E
set_option linter.unusedSimpArgs false
set_option linter.unusedVariables false
namespace NDiv
theorem val_take_lt {l : List Int} (hl : Dig l) {k : Nat} (hk : k ≤ l.length) (h : val l < 4294967296 ^ k) : val (l.take k) = val l ∧ val (l.drop k) = 0 := by
 have e := val_split hk
 have h1 := val_nonneg (hl.take k)
 have h2 := val_nonneg (hl.drop k)
 have p := B_pow_pos k
 have : val (l.drop k) = 0 := by
  by_cases h0 : val (l.drop k) ≤ 0
  ·omega
  ·have : 4294967296 ^ k * 1 ≤ 4294967296 ^ k * val (l.drop k) := Int.mul_le_mul_of_nonneg_left (by omega) (Int.le_of_lt p)
   omega
 rw [this] at e
 exact ⟨by omega, this⟩
theorem last {s n : Nat} {V g : Int} {u q : List Int} {lq j : Nat} (hq : j < q.length) (hlq : lq = q.length) (hg0 : 0 ≤ g) (hg1 : g < 4294967296) {S : Sl} (hS : Sub ((base s n V u.length lq j).set 16 (.int .u64 g)) S) {Q : Ex → Sl → Sto → Prop}
 (hQ : ∀ S', Sub (base s n V u.length lq j) S' → Q .norm S' [(1, ⟨.own, 1, dg (q.set j g)⟩), (0, ⟨.own, 1, dg u⟩)]) :
 WpM Tryz.prog [] (D2.tls 9) S [(0, ⟨.own, 1, dg u⟩), (1, ⟨.own, 1, dg q⟩)] Q := by
 have s9 := hS 9 (.int .u64 s) (by simp [base])
 have s10 := hS 10 (.ref 0 0 u.length) (by simp [base])
 have s11 := hS 11 (nat (digs V)) (by simp [base])
 have s12 := hS 12 (.int .i64 n) (by simp [base])
 have s13 := hS 13 (.ref 1 0 lq) (by simp [base])
 have s14 := hS 14 (.int .i64 j) (by simp [base])
 have s16 := hS 16 (.int .u64 g) (by simp [base])
 subst hlq
 unfold D2 loop1 F.nat_Div_c
 simp [MCode.inn, MCode.hd, MCode.tl, s9, s10, s11, s12, s13, s14, s16, hq, setOb]
 rw [Int.emod_eq_of_lt hg0 hg1]
 refine hQ _ ?_
 simp only [base]; repeat (first | exact sub_empty | refine sub_set (by simp) ?_)
set_option maxHeartbeats 1000000 in
theorem fixA {s n : Nat} {V g c o : Int} {u q x : List Int} {lq j : Nat} (hu : Dig u) (hx : x.length = n) (hj : j + n < u.length) (lu : u.length ≤ 2 ^ 37) (c0 : 0 ≤ c) (c1 : c < 4294967296) (o0 : 0 ≤ o) (o1 : o ≤ 1) {S : Sl} (hS : Sub ((((base s n V u.length lq j).set 16 (.int .u64 g)).set 18 (.int .u64 o)).set 19 (.int .u64 c)) S) {R : MCode} {Q : Ex → Sl → Sto → Prop}
 (hR : ∀ S', Sub (((base s n V u.length lq j).set 16 (.int .u64 g)).set 23 (.bool (decide (u[j + n] < c + o)))) S' → WpM Tryz.prog [] R S' [(0, ⟨.own, 1, dg (win u j (x ++ [(u[j + n] - (c + o)) % 4294967296]))⟩), (1, ⟨.own, 1, dg q⟩)] Q) :
 WpM Tryz.prog [] ((D2.tls 5).cut 3 R) S [(0, ⟨.own, 1, dg (win u j x)⟩), (1, ⟨.own, 1, dg q⟩)] Q := by
 have s9 := hS 9 (.int .u64 s) (by simp [base])
 have s10 := hS 10 (.ref 0 0 u.length) (by simp [base])
 have s11 := hS 11 (nat (digs V)) (by simp [base])
 have s12 := hS 12 (.int .i64 n) (by simp [base])
 have s13 := hS 13 (.ref 1 0 lq) (by simp [base])
 have s14 := hS 14 (.int .i64 j) (by simp [base])
 have s16 := hS 16 (.int .u64 g) (by simp [base])
 have s18 := hS 18 (.int .u64 o) (by simp [base])
 have s19 := hS 19 (.int .u64 c) (by simp [base])
 subst hx
 have hwg : (win u j x)[j + x.length]? = some (u[j + x.length]) := win_get hj
 have hwl : (win u j x).length = u.length := win_length (by omega)
 have hws : ∀ d, (win u j x).set (j + x.length) d = win u j (x ++ [d]) := fun d => win_set hj d
 have bu := hu.get hj
 have hwe : ∀ h : j + x.length < (win u j x).length, (win u j x)[j + x.length] = u[j + x.length] := fun h => by
  have := List.getElem?_eq_getElem h
  rw [hwg] at this
  exact (Option.some.inj this).symm
 generalize hux : u[j + x.length] = ui at *
 unfold D2 loop1 F.nat_Div_c
 simp [MCode.inn, MCode.hd, MCode.tl, s9, s10, s11, s12, s13, s14, s16, s18, s19]
 repeat simp (disch := omega) [wrap64, wrapU64, if_pos, hwg, hwl, hwe, hws, setOb]
 have e : IntKind.u64.wrap (ui - (c + o)) % 4294967296 = (ui - (c + o)) % 4294967296 := by
  rw [wrapU64_mod]; omega
 rw [e]
 refine hR _ ?_
 simp only [base]; repeat (first | exact sub_empty | refine sub_set (by simp) ?_)
theorem d8 : (D2.tls 8).hd = .seq (.region [⟨some 232, .mv (.t 23), none⟩] (some [9, 10, 11, 12, 13, 14, 16, 232])) (.cond (.t 232) addIn .skip) := rfl
set_option maxHeartbeats 1000000 in
/-- Given back, and the digit above. -/
theorem addt {s n : Nat} {V g : Int} {u q : List Int} {lq j : Nat} (hu : Dig u) (hV : (digs V).length = n) (hj : j + n < u.length) (lu : u.length ≤ 2 ^ 37) (hg0 : 0 < g) (hg1 : g ≤ 4294967296) (hVp : 0 ≤ V) {S : Sl} (hS : Sub ((base s n V u.length lq j).set 16 (.int .u64 g)) S) {Q : Ex → Sl → Sto → Prop}
 (hQ : ∀ (x : List Int) (c : Int) (S' : Sl), Dig x → x.length = n → 0 ≤ c → c ≤ 1 → val x + 4294967296 ^ n * c = val ((u.drop j).take n) + V → Sub ((base s n V u.length lq j).set 16 (.int .u64 (g - 1))) S' → Q .norm S' [(0, ⟨.own, 1, dg (win u j (x ++ [(u[j + n] + c) % 4294967296]))⟩), (1, ⟨.own, 1, dg q⟩)]) :
 WpM Tryz.prog [] addIn S [(0, ⟨.own, 1, dg u⟩), (1, ⟨.own, 1, dg q⟩)] Q := by
 refine wm_cut 3 rfl fun R hR => ?_
 refine addb hu hV hj lu hg0 hg1 hVp hS fun x c S hx hl c0 c1 hv hS => ?_
 rw [hR]
 clear hR R
 have s9 := hS 9 (.int .u64 s) (by simp [base])
 have s10 := hS 10 (.ref 0 0 u.length) (by simp [base])
 have s11 := hS 11 (nat (digs V)) (by simp [base])
 have s12 := hS 12 (.int .i64 n) (by simp [base])
 have s13 := hS 13 (.ref 1 0 lq) (by simp [base])
 have s14 := hS 14 (.int .i64 j) (by simp [base])
 have s16 := hS 16 (.int .u64 (g - 1)) (by simp [base])
 have s19 := hS 19 (.int .u64 c) (by simp [base])
 replace hQ := hQ x c
 have hv' := hv
 subst hl
 have hwg : (win u j x)[j + x.length]? = some (u[j + x.length]) := win_get hj
 have hwl : (win u j x).length = u.length := win_length (by omega)
 have hws : ∀ d, (win u j x).set (j + x.length) d = win u j (x ++ [d]) := fun d => win_set hj d
 have bu := hu.get hj
 have hwe : ∀ h : j + x.length < (win u j x).length, (win u j x)[j + x.length] = u[j + x.length] := fun h => by
  have := List.getElem?_eq_getElem h
  rw [hwg] at this
  exact (Option.some.inj this).symm
 generalize hux : u[j + x.length] = ui at *
 unfold addIn D2 loop1 F.nat_Div_c
 simp [MCode.inn, MCode.hd, MCode.tl, s9, s10, s11, s12, s13, s14, s16, s19]
 repeat simp (disch := omega) [wrap64, wrapU64, if_pos, hwg, hwl, hwe, hws, setOb, s9, s10, s11, s12, s13, s14, s16, s19]
 refine hQ _ hx rfl c0 c1 hv' ?_
 simp only [base]; repeat (first | exact sub_empty | refine sub_set (by simp) ?_)
set_option maxHeartbeats 1000000 in
/-- One round: the digit is found, its multiple is taken off. -/
theorem round {s m : Nat} {V : Int} {u q : List Int} {lq j : Nat} (hu : Dig u) (hV : (digs V).length = m + 2) (hVp : 0 < V) (hj : j + m + 2 < u.length) (lu : u.length ≤ 2 ^ 37) (hq : j < q.length) (hlq : lq = q.length) (hlt : val (u.drop j) < V * 4294967296) {S : Sl} (hS : Sub (base s (m + 2) V u.length lq j) S) {Q : Ex → Sl → Sto → Prop}
 (hQ : ∀ (u' : List Int) S', Dig u' → u'.length = u.length → val u' + 4294967296 ^ j * (V * (val (u.drop j) / V)) = val u → val (u'.drop j) = val (u.drop j) % V → 0 ≤ val (u.drop j) / V → val (u.drop j) / V < 4294967296 → Sub (base s (m + 2) V u.length lq j) S' → Q .norm S' [(1, ⟨.own, 1, dg (q.set j (val (u.drop j) / V))⟩), (0, ⟨.own, 1, dg u'⟩)]) :
 WpM Tryz.prog [] D2 S [(0, ⟨.own, 1, dg u⟩), (1, ⟨.own, 1, dg q⟩)] Q := by
 have hVB : V < 4294967296 ^ (m + 2) := by have := digs_pow (n := V) (by omega); rwa [hV] at this
 have pB := B_pow_pos (m + 2)
 obtain ⟨eU, eZ⟩ := val_take_lt (hu.drop j) (k := m + 3) (by simp; omega) (by
  rw [show m + 3 = m + 2 + 1 from rfl, Int.pow_succ]
  have : V * 4294967296 ≤ 4294967296 ^ (m + 2) * 4294967296 := Int.mul_le_mul_of_nonneg_right (Int.le_of_lt hVB) (by decide)
  omega)
 rw [List.drop_drop] at eZ
 have U0 := val_nonneg (hu.drop j)
 have hsp : val ((u.drop j).take (m + 3)) = val ((u.drop j).take (m + 2)) + 4294967296 ^ (m + 2) * u[j + (m + 2)] := by
  rw [show m + 3 = m + 2 + 1 from rfl, val_take_succ (show m + 2 < (u.drop j).length by simp; omega)]
  simp only [List.getElem_drop]
 rw [eU] at hsp
 have hall := val_split (l := u) (k := j) (by omega)
 have q0 : 0 ≤ val (u.drop j) / V := Int.ediv_nonneg U0 (by omega)
 have qB : val (u.drop j) / V < 4294967296 := Int.ediv_lt_of_lt_mul hVp (by rw [Int.mul_comm]; exact hlt)
 have hdm := Int.mul_ediv_add_emod (val (u.drop j)) V
 have R0 := Int.emod_nonneg (val (u.drop j)) (show V ≠ 0 by omega)
 have R1 := Int.emod_lt_of_pos (val (u.drop j)) hVp
 refine wm_cut 3 rfl fun R hR => ?_
 refine guess hu hV hVp hj lu (by rw [eU]; exact hlt) hS fun g S1 hg1 hg2 hg3 hg4 hS1 => ?_
 rw [eU] at hg1 hg2
 rw [hR]; clear hR R
 refine wm_cut 2 rfl fun R hR => ?_
 refine msub hu hV (by omega) lu hg3 hg4 (by omega) hS1 fun x c o S2 hx hxl c0 c1 o0 o1 hxv hS2 => ?_
 rw [hR]; clear hR R
 refine wm_cut 3 rfl fun R hR => ?_
 refine fixA hu hxl (by omega) lu c0 c1 o0 o1 hS2 fun S3 hS3 => ?_
 have hR' : R = D2.tls 8 := hR
 rw [hR']; clear hR hR' R
 have fin : ∀ (z : List Int) (S' : Sl), Dig z → z.length = m + 3 → val z = val (u.drop j) % V → Sub ((base s (m + 2) V u.length lq j).set 16 (.int .u64 (val (u.drop j) / V))) S' → WpM Tryz.prog [] (D2.tls 9) S' [(0, ⟨.own, 1, dg (win u j z)⟩), (1, ⟨.own, 1, dg q⟩)] Q := by
  intro z S' hz hzl hzv hS'
  have hwl : (win u j z).length = u.length := win_length (by omega)
  rw [← hwl] at hS'
  refine last (u := win u j z) hq hlq q0 qB hS' fun S'' hS'' => ?_
  rw [hwl] at hS''
  refine hQ _ _ (win_dig hu hz) hwl ?_ ?_ q0 qB hS''
  ·rw [win_val (by omega), hzl, eZ, hzv, hall]
   have : 4294967296 ^ j * (V * (val (u.drop j) / V) + val (u.drop j) % V) = 4294967296 ^ j * val (u.drop j) := by rw [hdm]
   rw [Int.mul_add] at this
   simp only [Int.mul_zero, Int.add_zero]
   omega
  ·rw [win_drop (by omega), hzl, val_append, eZ, hzv]
   simp
 have bu := hu.get (show j + (m + 2) < u.length by omega)
 have hx0 := val_nonneg hx
 have hx1 := val_lt hx
 rw [hxl] at hx1
 -- what is left: val x + B^n (t - y) = U - g V
 have hD : val x + 4294967296 ^ (m + 2) * (u[j + (m + 2)] - (c + o)) = val (u.drop j) - g * V := by
  rw [Int.mul_sub]; omega
 have e8 : (D2.tls 8) = .seq (D2.tls 8).hd (D2.tls 9) := rfl
 rw [e8, d8]
 have s23 := hS3 23 (.bool (decide (u[j + (m + 2)] < c + o))) (by simp [base])
 have s9 := hS3 9 (.int .u64 s) (by simp [base])
 have s10 := hS3 10 (.ref 0 0 u.length) (by simp [base])
 have s11 := hS3 11 (nat (digs V)) (by simp [base])
 have s12 := hS3 12 (.int .i64 (m + 2 : Nat)) (by simp [base])
 have s13 := hS3 13 (.ref 1 0 lq) (by simp [base])
 have s14 := hS3 14 (.int .i64 j) (by simp [base])
 have s16 := hS3 16 (.int .u64 g) (by simp [base])
 have hzd : Dig (x ++ [(u[j + (m + 2)] - (c + o)) % 4294967296]) := hx.snoc (by omega) (by omega)
 have hzl : (x ++ [(u[j + (m + 2)] - (c + o)) % 4294967296]).length = m + 3 := by simp [hxl]
 have hwl : (win u j (x ++ [(u[j + (m + 2)] - (c + o)) % 4294967296])).length = u.length := win_length (by omega)
 have hwd : (win u j (x ++ [(u[j + (m + 2)] - (c + o)) % 4294967296])).drop j = x ++ [(u[j + (m + 2)] - (c + o)) % 4294967296] ++ u.drop (j + (m + 3)) := by rw [win_drop (by omega), hzl]
 simp [s9, s10, s11, s12, s13, s14, s16, s23]
 refine ⟨fun hu1 => ?_, fun hu1 => ?_⟩
 ·have hneg : val (u.drop j) - g * V < 0 := by
   rw [← hD]
   have : 4294967296 ^ (m + 2) * (u[j + (m + 2)] - (c + o)) ≤ 4294967296 ^ (m + 2) * (-1) := Int.mul_le_mul_of_nonneg_left (by omega) (Int.le_of_lt pB)
   omega
  have h1 : g - 1 ≤ val (u.drop j) / V := (Int.le_ediv_iff_mul_le hVp).2 hg2
  have h2 : ¬ g ≤ val (u.drop j) / V := fun h => by
   have := (Int.le_ediv_iff_mul_le hVp).1 h
   omega
  have hg : g - 1 = val (u.drop j) / V := by omega
  refine addt (g := g) (V := V) (n := m + 2) (s := s) (lq := lq) (win_dig hu hzd) hV (by rw [hwl]; omega) (by rw [hwl]; exact lu) (by omega) (by omega) (by omega) ?_ fun x2 c2 S4 hx2 hxl2 c20 c21 hv2 hS4 => ?_
  ·rw [hwl]
   simp only [base]; repeat (first | exact sub_empty | refine sub_set (by simp) ?_)
  ·rw [hwl, hg] at hS4
   rw [hwd, List.take_append_of_le_length (by omega), List.take_append_of_le_length (by omega), List.take_of_length_le (by omega)] at hv2
   have ed : (win u j (x ++ [(u[j + (m + 2)] - (c + o)) % 4294967296]))[j + (m + 2)]'(by rw [hwl]; omega) = (u[j + (m + 2)] - (c + o)) % 4294967296 := by
    have : (win u j (x ++ [(u[j + (m + 2)] - (c + o)) % 4294967296]))[j + (m + 2)]? = some ((u[j + (m + 2)] - (c + o)) % 4294967296) := by
     rw [← List.getElem?_drop, hwd, List.getElem?_append_left (by omega), List.getElem?_append_right (by omega)]
     simp [hxl]
    rw [List.getElem?_eq_getElem (by rw [hwl]; omega)] at this
    exact Option.some.inj this
   have hx20 := val_nonneg hx2
   have hx21 := val_lt hx2
   rw [hxl2] at hx21
   simp only [ed]
   rw [win_win (by omega) (by simp [hxl, hxl2]) (by simp [hxl2]; omega)]
   refine fin _ _ (hx2.snoc (by omega) (by omega)) (by simp [hxl2]) ?_ hS4
   have he : (u[j + (m + 2)] - (c + o)) % 4294967296 = u[j + (m + 2)] - (c + o) + 4294967296 := by omega
   rw [he]
   have hR2 : val x2 + 4294967296 ^ (m + 2) * (u[j + (m + 2)] - (c + o) + c2) = val (u.drop j) % V := by
    have e1 : g * V = V * (val (u.drop j) / V) + V := by rw [← hg, Int.mul_sub, Int.mul_comm]; omega
    have e2 : 4294967296 ^ (m + 2) * (u[j + (m + 2)] - (c + o) + c2) = 4294967296 ^ (m + 2) * (u[j + (m + 2)] - (c + o)) + 4294967296 ^ (m + 2) * c2 := Int.mul_add ..
    omega
   have hz : u[j + (m + 2)] - (c + o) + c2 = 0 := by
    by_cases h3 : u[j + (m + 2)] - (c + o) + c2 ≤ -1
    ·have : 4294967296 ^ (m + 2) * (u[j + (m + 2)] - (c + o) + c2) ≤ 4294967296 ^ (m + 2) * (-1) := Int.mul_le_mul_of_nonneg_left h3 (Int.le_of_lt pB)
     omega
    ·omega
   rw [hz] at hR2
   have hm : (u[j + (m + 2)] - (c + o) + 4294967296 + c2) % 4294967296 = 0 := by omega
   rw [hm, val_snoc]
   omega
 ·have hpos : 0 ≤ val (u.drop j) - g * V := by
   rw [← hD]
   have : 0 ≤ 4294967296 ^ (m + 2) * (u[j + (m + 2)] - (c + o)) := Int.mul_nonneg (Int.le_of_lt pB) (by omega)
   omega
  have h1 : g ≤ val (u.drop j) / V := (Int.le_ediv_iff_mul_le hVp).2 (by omega)
  have hg : g = val (u.drop j) / V := by omega
  refine fin _ _ hzd hzl ?_ ?_
  ·rw [val_snoc, hxl, Int.emod_eq_of_lt (by omega) (by omega), hD, hg, Int.mul_comm]
   omega
  ·rw [← hg]
   simp only [base]; repeat (first | exact sub_empty | refine sub_set (by simp) ?_)
end NDiv
end Go.Proofs.YtkockkfmjmheeaaGreat

namespace Go.Proofs.YtkockkfmjmheeaaGreat
open Go Go.Proofs Go.Proofs.YtkockkfmjmheeaaGreat.E
set_option linter.unusedSimpArgs false
set_option linter.unusedVariables false
namespace NDiv
theorem l7 : (F.nat_Div_c.body.tls 7).hd = .seq (F.nat_Div_c.body.tls 7).hd.hd (.block 1 (.loop (.seq loop1.hd (.seq (.block 2 D2) loop1.tl.tl)))) := rfl
theorem out_step {A V p c u u' qd b : Int} (h : A = V * (p * b) * c + u) (hu : u' + p * (V * qd) = u) : A = V * p * (qd + b * c) + u' := by subst h; subst hu; grind
theorem base_sub {s n : Nat} {V : Int} {lu lq : Nat} {j : Int} {S : Sl} (h9 : S 9 = some (.int .u64 s)) (h10 : S 10 = some (.ref 0 0 lu)) (h11 : S 11 = some (nat (digs V))) (h12 : S 12 = some (.int .i64 n)) (h13 : S 13 = some (.ref 1 0 lq)) (h14 : S 14 = some (.int .i64 j)) : Sub (base s n V lu lq j) S :=
 sub_set h9 (sub_set h10 (sub_set h11 (sub_set h12 (sub_set h13 (sub_set h14 sub_empty)))))
set_option maxHeartbeats 1000000 in
theorem outer {s m lu lq : Nat} {V A : Int} {u q : List Int} (hu : Dig u) (hq : Dig q) (hV : (digs V).length = m + 2) (hVp : 0 < V) (hlu : u.length = lu) (hlq : q.length = lq) (hl : lq + (m + 2) = lu) (l37 : lu ≤ 2 ^ 37) (hA : A = V * 4294967296 ^ lq * val (q.drop lq) + val u) (hlt : val (u.drop lq) < V)
 {S : Sl} (h9 : S 9 = some (.int .u64 s)) (h10 : S 10 = some (.ref 0 0 lu)) (h11 : S 11 = some (nat (digs V))) (h12 : S 12 = some (.int .i64 (m + 2 : Nat))) (h13 : S 13 = some (.ref 1 0 lq)) {R : MCode} {Q : Ex → Sl → Sto → Prop} {σ : Sto} (hσ0 : E.look σ 0 = some ⟨.own, 1, dg u⟩) (hσ1 : E.look σ 1 = some ⟨.own, 1, dg q⟩)
 (hR : ∀ (u q : List Int) S', Dig u → Dig q → u.length = lu → q.length = lq → A = V * val q + val u → val u < V → Sub (base s (m + 2) V lu lq (-1)) S' → WpM Tryz.prog [] R S' [(0, ⟨.own, 1, dg u⟩), (1, ⟨.own, 1, dg q⟩)] Q) :
 WpM Tryz.prog [] ((F.nat_Div_c.body.tls 7).cut 1 R) S σ Q := by
 show WpM Tryz.prog [] (.seq (F.nat_Div_c.body.tls 7).hd R) S σ Q
 rw [l7]
 have e0 : (F.nat_Div_c.body.tls 7).hd.hd = .region [⟨(some 80), .mv (.t 10), none⟩, ⟨(some 81), .lenS (.t 80), none⟩, ⟨(some 82), .mv (.t 12), none⟩, ⟨(some 83), .bin .sub (.t 81) (.t 82), none⟩, ⟨(some 84), .bin .sub (.t 83) (.c (.int .i64 1)), none⟩, ⟨(some 14), .mv (.t 84), none⟩] (some [9, 10, 11, 12, 13, 14]) := rfl
 have e1 : loop1.hd = .seq (.region [⟨(some 85), .mv (.t 14), none⟩, ⟨(some 86), .bin .geq (.t 85) (.c (.int .i64 0)), none⟩] (some [9, 10, 11, 12, 13, 14, 86])) (.cond (.t 86) .skip (.exit 1)) := rfl
 have e2 : loop1.tl.tl = .region [⟨(some 87), .mv (.t 14), none⟩, ⟨(some 88), .bin .sub (.t 87) (.c (.int .i64 1)), none⟩, ⟨(some 14), .mv (.t 88), none⟩] (some [9, 10, 11, 12, 13, 14]) := rfl
 rw [e0, e1, e2]
 simp [h9, h10, h11, h12, h13]
 rw [wrap64 (by rw [wrap64 (by omega) (by omega)]; omega) (by rw [wrap64 (by omega) (by omega)]; omega), wrap64 (by omega) (by omega)]
 refine wm_loop (fun g : Nat × List Int × List Int => (base s (m + 2) V lu lq ((g.1 : Int) - 1), [(0, ⟨.own, 1, dg g.2.1⟩), (1, ⟨.own, 1, dg g.2.2⟩)]))
  (fun g => Dig g.2.1 ∧ Dig g.2.2 ∧ g.2.1.length = lu ∧ g.2.2.length = lq ∧ g.1 ≤ lq ∧ A = V * 4294967296 ^ g.1 * val (g.2.2.drop g.1) + val g.2.1 ∧ val (g.2.1.drop g.1) < V) (fun g => g.1) (lq, u, q) ⟨hu, hq, hlu, hlq, Nat.le_refl _, hA, hlt⟩ ?_ ?_
 ·refine weak_digs2 (base_sub ?_ ?_ ?_ ?_ ?_ ?_) hσ0 hσ1 ?_
  ·simp
  ·simp
  ·simp
  ·simp
  ·simp
  ·simp; omega
  ·simp only [base]; repeat (first | exact sin_empty | refine sin_set (by simp) ?_)
 rintro ⟨k, u, q⟩ ⟨hu, hq, hlu, hlq, hk, hA, hlt⟩
 dsimp only at hu hq hlu hlq hk hA hlt
 cases k with
 | zero =>
   simp at hA hlt
   simp [base]
   refine hR u q _ hu hq hlu hlq hA hlt (base_sub ?_ ?_ ?_ ?_ ?_ ?_) <;> simp
 | succ j =>
   have c1 : ((j + 1 : Nat) : Int) - 1 = j := by omega
   have hju : j < u.length := by omega
   have bu := hu.get hju
   have hd : val (u.drop j) = u[j] + 4294967296 * val (u.drop (j + 1)) := by rw [List.drop_eq_getElem_cons hju, val_cons]
   rw [wm_seq, wm_seq]
   simp [base, c1]
   refine round (s := s) (lq := lq) (j := j) hu hV hVp (by omega) (by omega) (by omega) hlq.symm (by omega) (base_sub ?_ ?_ ?_ ?_ ?_ ?_) fun u' S' hu' hlu' hv' hr' q0 q1 hS' => ?_
   ·simp
   ·simp [hlu]
   ·simp
   ·simp
   ·simp
   ·simp
   ·have s9 := hS' 9 (.int .u64 s) (by simp [base])
    have s10 := hS' 10 (.ref 0 0 u.length) (by simp [base])
    have s11 := hS' 11 (nat (digs V)) (by simp [base])
    have s12 := hS' 12 (.int .i64 (m + 2 : Nat)) (by simp [base])
    have s13 := hS' 13 (.ref 1 0 lq) (by simp [base])
    have s14 := hS' 14 (.int .i64 j) (by simp [base])
    simp [s9, s10, s11, s12, s13, s14]
    rw [wrap64 (by omega) (by omega)]
    refine ⟨(j, u', q.set j (val (u.drop j) / V)), ⟨hu', hq.set _ q0 q1, by dsimp only; omega, by simpa using hlq, by dsimp only; omega, ?_, ?_⟩, by simp, ?_⟩
    ·dsimp only
     rw [drop_set_self (by omega), val_cons]
     rw [Int.pow_succ] at hA
     exact out_step hA hv'
    ·dsimp only
     rw [hr']
     exact Int.emod_lt_of_pos _ hVp
    ·refine weak_digs2 (base_sub ?_ ?_ ?_ ?_ ?_ ?_) (by simp) (by simp) ?_
     ·simp
     ·simp [hlu]
     ·simp
     ·simp
     ·simp
     ·simp
     ·simp only [base]; repeat (first | exact sin_empty | refine sin_set (by simp) ?_)
end NDiv
end Go.Proofs.YtkockkfmjmheeaaGreat

namespace Go.Proofs.YtkockkfmjmheeaaGreat
open Go Go.Proofs Go.Proofs.YtkockkfmjmheeaaGreat.E
set_option linter.unusedSimpArgs false
set_option linter.unusedVariables false
namespace E
theorem weak_digs3 {S1 S : Sl} {σ : Sto} {l m k : List Int} (h1 : Sub S1 S) (h2 : look σ 0 = some ⟨.own, 1, dg l⟩) (h3 : look σ 1 = some ⟨.own, 1, dg m⟩) (h5 : look σ 2 = some ⟨.own, 1, dg k⟩) (h4 : SIn (fun x => x == 0 || x == 1 || x == 2) S1) : Weak [] S1 [(0, ⟨.own, 1, dg l⟩), (1, ⟨.own, 1, dg m⟩), (2, ⟨.own, 1, dg k⟩)] S σ := by
 refine weak_of h1 (fun x hx => ?_) (by simp) ?_ (fun x hx _ => ?_)
 ·simp at hx; rcases hx with rfl | rfl | rfl <;> assumption
 ·have : (fun q => (look [(0, (⟨.own, 1, dg l⟩ : Ob)), (1, ⟨.own, 1, dg m⟩), (2, ⟨.own, 1, dg k⟩)] q).isSome) = fun x => x == 0 || x == 1 || x == 2 := by
   funext q
   match q with
   | 0 => rfl
   | 1 => rfl
   | 2 => rfl
   | q + 3 => simp [look]
  rw [this]; exact h4
 ·simp at hx; rcases hx with rfl | rfl | rfl <;> exact dg_within
end E
namespace NDiv
theorem B_pow_mono {i j : Nat} (h : i ≤ j) : (4294967296 : Int) ^ i ≤ 4294967296 ^ j := by
 obtain ⟨k, rfl⟩ := Nat.exists_eq_add_of_le h
 rw [Int.pow_add]
 have p1 := B_pow_pos i
 have p2 := B_pow_pos k
 have : (4294967296 : Int) ^ i * 1 ≤ 4294967296 ^ i * 4294967296 ^ k := Int.mul_le_mul_of_nonneg_left (by omega) (by omega)
 omega
theorem shr_digit {x y : Int} {s : Nat} (hs : s < 32) (x0 : 0 ≤ x) (x1 : x < 4294967296) (y0 : 0 ≤ y) (y1 : y < 4294967296) (h0 : 0 < s) :
 bits .or .u32 (x / 2 ^ s) (y * 2 ^ (32 - s) % 4294967296) = x / 2 ^ s + y % 2 ^ s * 2 ^ (32 - s) ∧ x / 2 ^ s + y % 2 ^ s * 2 ^ (32 - s) < 4294967296 := by
 have p : (0 : Int) < 2 ^ s := Int.pow_pos (by decide)
 have p' : (0 : Int) < 2 ^ (32 - s) := Int.pow_pos (by decide)
 have e : (2 : Int) ^ s * 2 ^ (32 - s) = 4294967296 := by rw [← Int.pow_add, show s + (32 - s) = 32 from by omega]; decide
 have h := or_shift32 (x := x / 2 ^ s) (a := y) (s := 32 - s) (by omega) (Int.ediv_nonneg x0 (by omega)) (Int.ediv_lt_of_lt_mul p (by rw [Int.mul_comm, e]; exact x1)) y0
 have e2 : y * 2 ^ (32 - s) % 4294967296 = y % 2 ^ s * 2 ^ (32 - s) := by
  rw [← e, Int.mul_comm y, Int.mul_comm (2 ^ s), Int.mul_emod_mul_of_pos _ _ p', Int.mul_comm]
 rw [e2] at h ⊢
 exact h
theorem shr_step {v w x y p c d : Int} {B : Int} (hv : v * c = w + p * (x % c)) (hB : c * d = B) : (v + p * (x / c + y % c * d)) * c = (w + p * x) + p * B * (y % c) := by
 have h := Int.mul_ediv_add_emod x c
 have e : (v + p * (x / c + y % c * d)) * c = v * c + p * (c * (x / c)) + p * (c * d) * (y % c) := by grind
 rw [e, hv, hB]
 have : p * x = p * (c * (x / c) + x % c) := by rw [h]
 rw [Int.mul_add] at this
 omega
set_option maxHeartbeats 1000000 in
theorem final {s m lu lq : Nat} {V r : Int} {u q : List Int} (hu : Dig u) (hq : Dig q) (hV : (digs V).length = m + 2) (hVp : 0 < V) (hlu : u.length = lu) (hlq : q.length = lq) (hl : lq + (m + 2) = lu) (hl0 : 0 < lq) (l36 : lu ≤ 2 ^ 36) (hlt : val u < V) (hs : s < 32) (hr : val u = r * 2 ^ s)
 {S : Sl} (hS : Sub (base s (m + 2) V lu lq (-1)) S) :
 WpM Tryz.prog [] (F.nat_Div_c.body.tls 8) S [(0, ⟨.own, 1, dg u⟩), (1, ⟨.own, 1, dg q⟩)] (DoneD F.nat_Div_c.res (· = .tup [nat (digs (val q)), nat (digs r), .int .i64 0])) := by
 have s9 := hS 9 (.int .u64 s) (by simp [base])
 have s10 := hS 10 (.ref 0 0 lu) (by simp [base])
 have s12 := hS 12 (.int .i64 (m + 2 : Nat)) (by simp [base])
 have s13 := hS 13 (.ref 1 0 lq) (by simp [base])
 have p2 : (0 : Int) < 2 ^ s := Int.pow_pos (by decide)
 have hpp : (2 : Int) ^ s * 2 ^ (32 - s) = 4294967296 := by rw [← Int.pow_add, show s + (32 - s) = 32 from by omega]; decide
 have hVB : V < 4294967296 ^ (m + 2) := by have := digs_pow (n := V) (by omega); rwa [hV] at this
 obtain ⟨eU, eZ⟩ := val_take_lt hu (k := m + 2) (by omega) (by omega)
 have hn0 : 0 < u.length := by omega
 have hu0 : u[0] % 2 ^ s = 0 := by
  have e : val u = u[0] + 4294967296 * val (u.drop 1) := by
   have := List.drop_eq_getElem_cons hn0
   rw [List.drop_zero] at this
   conv => lhs; rw [this]
   rw [val_cons]
  have e1 : u[0] = 2 ^ s * (r - 2 ^ (32 - s) * val (u.drop 1)) := by
   have : 4294967296 * val (u.drop 1) = 2 ^ s * (2 ^ (32 - s) * val (u.drop 1)) := by rw [← Int.mul_assoc, hpp]
   rw [Int.mul_sub, ← this, Int.mul_comm (2 ^ s) r, ← hr]
   omega
  rw [e1]; exact Int.mul_emod_right ..
 have hun : u[m + 2]'(by omega) = 0 := by
  have := List.drop_eq_getElem_cons (show m + 2 < u.length by omega)
  rw [this, val_cons] at eZ
  have h1 := hu.get (show m + 2 < u.length by omega)
  have h2 := val_nonneg (hu.drop (m + 2 + 1))
  omega
 have tm : ((m : Int) + 2).toNat = m + 2 := by omega
 unfold F.nat_Div_c
 simp [s9, s10, s12, s13]
 repeat simp (disch := omega) [wrap64, if_pos, s9, s10, s12, s13, tm]
 refine wm_loop (fun g : Nat × List Int => ((((((Sl.empty.set 282 (.int .i64 g.1)).set 281 (.int .i64 (m + 2 : Nat))).set 25 (.ref 2 0 (m + 2))).set 13 (.ref 1 0 lq)).set 10 (.ref 0 0 lu)).set 9 (.int .u64 s), [(0, ⟨.own, 1, dg u⟩), (1, ⟨.own, 1, dg q⟩), (2, ⟨.own, 1, dg g.2⟩)]))
  (fun g => Dig g.2 ∧ g.2.length = m + 2 ∧ g.1 ≤ m + 2 ∧ val (g.2.take g.1) * 2 ^ s = val (u.take g.1) + 4294967296 ^ g.1 * ((u.getD g.1 0) % 2 ^ s)) (fun g => m + 2 - g.1) (0, List.replicate (m + 2) 0) ⟨Dig.replicate _, by simp, by simp, by simp [hn0, hu0]⟩ ?_ ?_
 ·refine weak_digs3 ?_ (by simp) (by simp) (by simp) ?_
  ·repeat (first | exact sub_empty | refine sub_set (by simp) ?_)
  ·repeat (first | exact sin_empty | refine sin_set (by simp) ?_)
 rintro ⟨i, o⟩ ⟨ho, hlo, hi, hv⟩
 dsimp only at ho hlo hi hv
 have hiu : i < u.length := by omega
 rw [List.getD_eq_getElem?_getD, List.getElem?_eq_getElem hiu, Option.getD_some] at hv
 have bi := hu.get hiu
 by_cases hin : i < m + 2
 ·have hiu1 : i + 1 < u.length := by omega
  have bi1 := hu.get hiu1
  have hio : i < o.length := by omega
  have hd0 : 0 ≤ u[i] / 2 ^ s := Int.ediv_nonneg bi.1 (by omega)
  have hd1 : u[i] / 2 ^ s ≤ u[i] := Int.ediv_le_self _ bi.1
  have fin : ∀ d : Int, 0 ≤ d → d < 4294967296 → d = u[i] / 2 ^ s + u[i + 1] % 2 ^ s * 2 ^ (32 - s) → Dig (o.set i d) ∧ (o.set i d).length = m + 2 ∧ i + 1 ≤ m + 2 ∧ val ((o.set i d).take (i + 1)) * 2 ^ s = val (u.take (i + 1)) + 4294967296 ^ (i + 1) * ((u.getD (i + 1) 0) % 2 ^ s) := by
   intro d d0 d1 hd
   refine ⟨ho.set _ d0 d1, by simpa using hlo, by omega, ?_⟩
   rw [take_set_succ hio, val_snoc, List.length_take, Nat.min_eq_left (by omega), val_take_succ hiu, List.getD_eq_getElem?_getD, List.getElem?_eq_getElem hiu1, Option.getD_some, Int.pow_succ, hd]
   exact shr_step hv hpp
  have hin' : (i : Int) < (m : Int) + 2 := by omega
  by_cases hs0 : s = 0
  ·have hd := fin (u[i]) bi.1 bi.2 (by subst hs0; simp)
   subst hs0
   simp [hin']
   repeat simp (disch := omega) [wrap64, if_pos]
   refine ⟨(i + 1, o.set i u[i]), by simpa using hd, by simp; omega, ?_⟩
   refine weak_digs3 ?_ (by simp) (by simp) (by simp) ?_
   ·repeat (first | exact sub_empty | refine sub_set (by simp) ?_)
   ·repeat (first | exact sin_empty | refine sin_set (by simp) ?_)
  ·obtain ⟨e1, e2⟩ := shr_digit hs bi.1 bi.2 bi1.1 bi1.2 (by omega)
   have m0 : 0 ≤ u[i + 1] % 2 ^ s := Int.emod_nonneg _ (by omega)
   have m1 : 0 ≤ u[i + 1] % 2 ^ s * 2 ^ (32 - s) := Int.mul_nonneg m0 (Int.le_of_lt (Int.pow_pos (by decide)))
   have hd := fin _ (by omega) e2 rfl
   have hs1 : 0 < s := by omega
   have t1 : (32 - (s : Int)).toNat = 32 - s := by omega
   have t2 : min s 32 = s := by omega
   have t3 : min (32 - s) 32 = 32 - s := by omega
   have hts : (0 : Int) < s := by omega
   simp [hin', hs1]
   repeat simp (disch := omega) [wrap64, wrapU64, if_pos, hs1, hts, t1, t2, t3, hlo, hlu, e1]
   refine ⟨(i + 1, o.set i (u[i] / 2 ^ s + u[i + 1] % 2 ^ s * 2 ^ (32 - s))), hd, by simp; omega, ?_⟩
   refine weak_digs3 ?_ (by simp) (by simp) (by simp) ?_
   ·repeat (first | exact sub_empty | refine sub_set (by simp) ?_)
   ·repeat (first | exact sin_empty | refine sin_set (by simp) ?_)
 ·have hin2 : i = m + 2 := by omega
  subst hin2
  simp
  repeat simp (disch := omega) [wrap64, if_pos]
  have hor : val o = r := by
   rw [hun, eU, hr, List.take_of_length_le (by omega)] at hv
   have e0 : (0 : Int) % 2 ^ s = 0 := Int.zero_emod _
   rw [e0, Int.mul_zero, Int.add_zero] at hv
   exact Int.eq_of_mul_eq_mul_right (by omega) hv
  refine callK_of (nat_trim (l := q) hq (by omega)) (by simp; rw [toD_digs (st := .own) (l := q) (by simp) (by simp) (by omega)]; simp [← hlq]) ?_
  simp [toD_frz]
  refine callK_of (nat_trim (l := o) ho (by omega)) (by simp [toD_frz]; rw [toD_digs (st := .own) (l := o) (by simp) (by simp) (by omega)]; simp [← hlo]) ?_
  simp [hor]
set_option maxHeartbeats 1000000 in
theorem main {A D : Int} {m : Nat} (hA0 : 0 ≤ A) (hDp : 0 < D) (hD : (digs D).length = m + 2) (hle : D ≤ A) (lA : (digs A).length ≤ 2 ^ 34) {S : Sl} (h0 : S 0 = some (nat (digs A))) (h1 : S 1 = some (nat (digs D))) :
 WpM Tryz.prog [] (F.nat_Div_c.body.tls 3) S [] (DoneD F.nat_Div_c.res (· = .tup [nat (digs (A / D)), nat (digs (A % D)), .int .i64 0])) := by
 have lAD := digs_length_mono hA0 hle
 have hm1 : m + 1 < (digs D).length := by omega
 have bd := (digs_dig D).get hm1
 have hdn : (digs D)[m + 1] ≠ 0 := by
  have h := (digs_last (digs_dig D) (by omega)).1 (by rw [val_digs (by omega)])
  have e : (digs D)[(digs D).length - 1]'(by omega) = (digs D)[m + 1] := by congr 1; omega
  rwa [e] at h
 obtain ⟨x, hx⟩ := Int.eq_ofNat_of_zero_le bd.1
 have hx0 : 0 < x := by omega
 have hx1 : x < 4294967296 := by omega
 obtain ⟨lo, hi⟩ := len8_pow hx0
 have hlen0 : 0 < len8 x := by unfold len8; rw [if_neg (by omega)]; omega
 have hlen1 : len8 x ≤ 32 := by
  by_cases h2 : len8 x ≤ 32
  ·exact h2
  ·have : 2 ^ 32 ≤ 2 ^ (len8 x - 1) := Nat.pow_le_pow_right (by decide) (by omega)
   omega
 generalize hs : 32 - len8 x = s at *
 have hs32 : s < 32 := by omega
 have hsx : 2147483648 ≤ x * 2 ^ s ∧ (x + 1) * 2 ^ s ≤ 4294967296 := by
  have e1 : 2 ^ (len8 x - 1) * 2 ^ s = 2147483648 := by rw [← Nat.pow_add, show len8 x - 1 + s = 31 from by omega]
  have e2 : 2 ^ len8 x * 2 ^ s = 4294967296 := by rw [← Nat.pow_add, show len8 x + s = 32 from by omega]
  have h1 := Nat.mul_le_mul_right (2 ^ s) lo
  have h2 := Nat.mul_le_mul_right (2 ^ s) (show x + 1 ≤ 2 ^ len8 x by omega)
  omega
 obtain ⟨c, hc⟩ : ∃ c : Nat, c = 2 ^ s := ⟨_, rfl⟩
 have hcI : (2 : Int) ^ s = (c : Int) := by rw [hc]; simp
 have hc0 : 0 < c := by rw [hc]; exact Nat.pow_pos (by decide)
 have hc1 : c ≤ 2147483648 := by rw [hc]; have := Nat.pow_le_pow_right (show 0 < 2 by decide) (show s ≤ 31 by omega); omega
 rw [← hc] at hsx
 have hxI : (2147483648 : Int) ≤ (x : Int) * c ∧ ((x : Int) + 1) * c ≤ 4294967296 := by
  have e1 : ((x * c : Nat) : Int) = (x : Int) * c := Int.natCast_mul ..
  have e2 : (((x + 1) * c : Nat) : Int) = ((x : Int) + 1) * c := by rw [Int.natCast_mul]; rfl
  rw [← e1, ← e2]
  exact ⟨Int.ofNat_le.2 hsx.1, Int.ofNat_le.2 hsx.2⟩
 have p1 := B_pow_pos (m + 1)
 have spD := val_two (l := digs D) (m := m) hm1
 rw [List.take_of_length_le (by omega), val_digs (by omega)] at spD
 have spD2 := val_split (l := digs D) (k := m + 1) (by omega)
 rw [List.drop_eq_getElem_cons hm1, List.drop_eq_nil_of_le (by omega), val_digs (by omega), hx] at spD2
 simp only [val_cons, val_nil, Int.mul_zero, Int.add_zero] at spD2
 have tD0 := val_nonneg ((digs_dig D).take (m + 1))
 have tD1 := val_lt ((digs_dig D).take (m + 1))
 rw [List.length_take, Nat.min_eq_left (by omega)] at tD1
 have hV0 : 4294967296 ^ (m + 1) * 2147483648 ≤ D * c := by
  have h1 : 4294967296 ^ (m + 1) * (x : Int) * c ≤ D * c := Int.mul_le_mul_of_nonneg_right (by omega) (by omega)
  have h2 : 4294967296 ^ (m + 1) * 2147483648 ≤ 4294967296 ^ (m + 1) * ((x : Int) * c) := Int.mul_le_mul_of_nonneg_left hxI.1 (Int.le_of_lt p1)
  rw [← Int.mul_assoc] at h2
  omega
 have hV1 : D * c < 4294967296 ^ (m + 2) := by
  have h0 : D < 4294967296 ^ (m + 1) * ((x : Int) + 1) := by rw [Int.mul_add]; omega
  have h1 : D * c < 4294967296 ^ (m + 1) * ((x : Int) + 1) * c := Int.mul_lt_mul_of_pos_right h0 (by omega)
  have h2 : 4294967296 ^ (m + 1) * (((x : Int) + 1) * c) ≤ 4294967296 ^ (m + 1) * 4294967296 := Int.mul_le_mul_of_nonneg_left hxI.2 (Int.le_of_lt p1)
  rw [← Int.mul_assoc] at h2
  rw [show m + 2 = m + 1 + 1 from rfl, Int.pow_succ]
  omega
 have hVp : 0 < D * c := by omega
 have hVl : (digs (D * c)).length = m + 2 := by
  have h1 := digs_length_le hV1
  have h2 : ¬ (digs (D * c)).length ≤ m + 1 := by
   intro h
   have h3 := digs_pow (n := D * c) (by omega)
   have h4 : (4294967296 : Int) ^ (digs (D * c)).length ≤ 4294967296 ^ (m + 1) := B_pow_mono h
   omega
  omega
 -- the number itself
 obtain ⟨k, hk⟩ : ∃ k, (digs A).length = k + (m + 1) := ⟨(digs A).length - (m + 1), by omega⟩
 have hk0 : 0 < k := by omega
 have pk := B_pow_pos k
 have hA1 := digs_pow hA0
 rw [hk, Int.pow_add] at hA1
 have hAc0 : 0 ≤ A * c := Int.mul_nonneg hA0 (by omega)
 have hAc1 : A * c < 4294967296 ^ ((digs A).length + 1) := by
  rw [hk, Int.pow_succ, Int.pow_add]
  have h1 : A * c ≤ A * 4294967296 := Int.mul_le_mul_of_nonneg_left (by omega) hA0
  have h2 : A * 4294967296 < 4294967296 ^ k * 4294967296 ^ (m + 1) * 4294967296 := Int.mul_lt_mul_of_pos_right hA1 (by decide)
  omega
 have hul : (digsN ((digs A).length + 1) (A * c)).length = (digs A).length + 1 := by simp
 have huv : val (digsN ((digs A).length + 1) (A * c)) = A * c := val_digsN hAc0 hAc1
 have hdr : val ((digsN ((digs A).length + 1) (A * c)).drop k) < D * c := by
  have h1 := val_split (l := digsN ((digs A).length + 1) (A * c)) (k := k) (by rw [hul]; omega)
  rw [huv] at h1
  have h2 := val_nonneg ((digsN_dig ((digs A).length + 1) (A * c)).take k)
  generalize val ((digsN ((digs A).length + 1) (A * c)).drop k) = y at *
  have h3 : A * c < 4294967296 ^ k * (4294967296 ^ (m + 1) * c) := by rw [← Int.mul_assoc]; exact Int.mul_lt_mul_of_pos_right hA1 (by omega)
  have h4 : 4294967296 ^ k * y < 4294967296 ^ k * (4294967296 ^ (m + 1) * c) := by omega
  have h5 := Int.lt_of_mul_lt_mul_left h4 (Int.le_of_lt pk)
  have h6 : 4294967296 ^ (m + 1) * (c : Int) ≤ 4294967296 ^ (m + 1) * 2147483648 := Int.mul_le_mul_of_nonneg_left (by omega) (Int.le_of_lt p1)
  omega
 have lz := bits_LeadingZeros32 (x := x) hx1
 have hcast : (32 : Int) - (len8 x : Int) = (s : Int) := by omega
 rw [hcast] at lz
 refine wm_cut 4 rfl fun R hR => ?_
 unfold F.nat_Div_c
 simp [h0, h1]
 have i3 : ((m : Int) + 2).toNat = m + 2 := by omega
 have i4 : m + 2 - 1 = m + 1 := by omega
 repeat simp (disch := omega) [wrap64, if_pos, hD, i3, i4, hx, h0, h1]
 refine callK_of lz (by simp) ?_
 simp [h0, h1]
 rw [wrapU64 (by omega) (by omega)]
 refine (nat_shiftedX (digs_dig A) (by omega) hs32).mono ?_
 rintro r σ ⟨rfl, rfl⟩
 rw [val_digs hA0, hcI]
 simp [h0, h1]
 refine callK_of (nat_shifted (digs_dig D) (by omega) hs32) (by simp) ?_
 rw [val_digs (by omega : 0 ≤ D), hcI]
 have hvD : val (digsN ((digs D).length + 1) (D * c)) = D * c := val_digsN (by omega) (by
  have := NDiv.B_pow_mono (show m + 2 ≤ (digs D).length + 1 by omega)
  omega)
 simp [frz_nil]
 refine callK_of (nat_trim (l := digsN ((digs D).length + 1) (D * c)) (digsN_dig _ _) (by simp; omega)) (by simp) ?_
 rw [hvD]
 simp [frz_nil, hVl]
 repeat simp (disch := omega) [wrap64, if_pos, hVl]
 have hkN : (((digs A).length : Int) + 1 - ((m : Int) + 2)).toNat = k := by omega
 rw [hkN, hR]
 show WpM Tryz.prog [] (F.nat_Div_c.body.tls 7) _ _ _
 refine wm_cut 1 rfl fun R2 hR2 => ?_
 have hR2' : R2 = F.nat_Div_c.body.tls 8 := hR2
 refine outer (s := s) (m := m) (lu := (digs A).length + 1) (lq := k) (V := D * c) (A := A * c) (u := digsN ((digs A).length + 1) (A * c)) (q := List.replicate k 0) (digsN_dig _ _) (Dig.replicate _) hVl hVp hul (by simp) (by omega) (by omega) ?_ hdr (by simp) (by simp) (by simp) (by simp) (by simp) (by simp) (by simp) ?_
 ·rw [huv]; simp
 intro u q S' hu hq hlu hlq hAv hlt' hS'
 rw [hR2']
 have u0 := val_nonneg hu
 have e1 : val u = (A - D * val q) * c := by
  rw [Int.sub_mul]
  have : D * c * val q = D * val q * c := by rw [Int.mul_assoc, Int.mul_comm (c : Int), ← Int.mul_assoc]
  omega
 have r0 : 0 ≤ A - D * val q := by
  by_cases h : 0 ≤ A - D * val q
  ·exact h
  ·have : (A - D * val q) * c ≤ (-1) * c := Int.mul_le_mul_of_nonneg_right (by omega) (by omega)
   omega
 have r1 : A - D * val q < D := by
  rw [e1] at hlt'
  exact Int.lt_of_mul_lt_mul_right hlt' (by omega)
 obtain ⟨d1, d2⟩ := div_unique (a := A) (d := D) (q := val q) (r := A - D * val q) (by omega) r0 r1
 have := final (s := s) (m := m) (lu := (digs A).length + 1) (lq := k) (V := D * c) (r := A - D * val q) (u := u) (q := q) hu hq hVl hVp hlu hlq (by omega) hk0 (by omega) hlt' hs32 (by rw [hcI]; exact e1) hS'
 rw [d1, d2]
 exact this
end NDiv
theorem nat_Div {a b : List Int} (ha : Dig a) (hb : Dig b) (la : a.length ≤ 2 ^ 34) (lb : b.length ≤ 2 ^ 34) : CallD Tryz.prog F.nat_Div [nat a, nat b] (· = divV (val a) (val b)) := by
 refine callD_by F.nat_Div_ok ?_
 refine wm_cut 3 rfl fun R hR => ?_
 unfold F.nat_Div_c
 simp
 refine callK_of (nat_trim ha (by omega)) (by simp) ?_
 simp
 refine callK_of (nat_trim hb (by omega)) (by simp) ?_
 have n1 := val_nonneg ha
 have n2 := val_nonneg hb
 have l1 := digs_le_of ha
 have l2 := digs_le_of hb
 generalize val a = A at *
 generalize val b = D at *
 by_cases h0 : D = 0
 ·subst h0
  simp [divV]
 have hD0 : ¬ digs D = [] := by rw [digs_nil_iff]; omega
 simp [hD0]
 refine callK_of (nat_Compare (digs_dig A) (digs_dig D) (by omega) (by omega)) (by simp) ?_
 rw [val_digs n1, val_digs n2]
 by_cases hlt : A < D
 ·simp [hlt]
  refine callK_of (slices_Clone (l := digs A) (by omega)) (by simp) ?_
  simp [divV, h0, Int.ediv_eq_zero_of_lt n1 hlt, Int.emod_eq_of_lt n1 hlt]
 have hc : (if A < D then -1 else if D < A then 1 else 0 : Int) ≥ 0 := by
  rw [if_neg hlt]; split <;> omega
 generalize (if A < D then -1 else if D < A then 1 else 0 : Int) = c at hc
 have hc' : ¬ c < 0 := by omega
 simp [hc']
 by_cases hl1 : (digs D).length = 1
 ·have e1 := digs_pos (n := D) (by omega)
  have hs : digs (D / 4294967296) = [] := by
   rw [e1] at hl1; simpa using hl1
  rw [digs_nil_iff] at hs
  have hD : D % 4294967296 = D := by omega
  have hs' : D / 4294967296 = 0 := by omega
  rw [hs', hD] at e1
  simp [divV, h0, e1]
  refine callK_of (nat_short (digs_dig A) (by omega) (d := D) (by omega) (by omega)) (by simp) ?_
  rw [val_digs n1]
  have r0 := Int.emod_nonneg A h0
  have r1 := Int.emod_lt_of_pos A (show 0 < D by omega)
  simp
  repeat simp (disch := omega) [wrapU64]
  refine callK_of (nat_Of (n := A % D) r0 (by omega)) (by simp) ?_
  simp
 ·have hl2 : 0 < (digs D).length := List.length_pos_iff.2 hD0
  have hl1' : ¬ ((digs D).length : Int) = 1 := by omega
  obtain ⟨m, hm⟩ : ∃ m, (digs D).length = m + 2 := ⟨(digs D).length - 2, by omega⟩
  have key := @NDiv.main A D m n1 (by omega) hm (by omega) (by omega)
  simp [hl1', divV, h0]
  rw [hR]
  exact key (by simp) (by simp)
end Go.Proofs.YtkockkfmjmheeaaGreat

namespace Go.Proofs.YtkockkfmjmheeaaGreat
open Go Go.Proofs Go.Proofs.YtkockkfmjmheeaaGreat.E
set_option linter.unusedSimpArgs false
set_option linter.unusedVariables false
theorem nat_Gcd {a b : List Int} (ha : Dig a) (hb : Dig b) (la : a.length ≤ 2 ^ 33) (lb : b.length ≤ 2 ^ 33) : CallD Tryz.prog F.nat_Gcd [nat a, nat b] (· = nat (digs (Nat.gcd (val a).toNat (val b).toNat : Nat))) := by
 refine callD_by F.nat_Gcd_ok ?_
 unfold F.nat_Gcd_c
 simp
 refine callK_of (nat_trim ha (by omega)) (by simp) ?_
 simp
 refine callK_of (nat_trim hb (by omega)) (by simp) ?_
 have n1 := val_nonneg ha
 have n2 := val_nonneg hb
 have l1 := digs_le_of ha
 have l2 := digs_le_of hb
 generalize val a = A at *
 generalize val b = D at *
 obtain ⟨x, rfl⟩ := Int.eq_ofNat_of_zero_le n1
 obtain ⟨y, rfl⟩ := Int.eq_ofNat_of_zero_le n2
 simp
 refine wm_loop (fun g : Nat × Nat => ((Sl.empty.set 1 (nat (digs (g.2 : Int)))).set 0 (nat (digs (g.1 : Int))), [])) (fun g => Nat.gcd g.1 g.2 = Nat.gcd x y ∧ (digs (g.1 : Int)).length ≤ 2 ^ 33 ∧ (digs (g.2 : Int)).length ≤ 2 ^ 33) (fun g => g.2) (x, y) ⟨rfl, by dsimp only; omega, by dsimp only; omega⟩ ?_ ?_
 ·exact weak_plain (sub_set (by simp) (sub_set (by simp) sub_empty)) (by repeat (first | exact sin_empty | refine sin_set (by simp) ?_))
 rintro ⟨u, v⟩ ⟨hg, lu, lv⟩
 dsimp only at hg lu lv
 by_cases h0 : v = 0
 ·subst h0
  simp at hg
  simp
  refine callK_of (slices_Clone (l := digs (u : Int)) (by omega)) (by simp) ?_
  simp [hg]
 ·have hv0 : ¬ digs (v : Int) = [] := by rw [digs_nil_iff]; omega
  have hl := List.length_pos_iff.2 hv0
  simp [hl]
  refine callK_of (nat_Div (digs_dig (u : Int)) (digs_dig (v : Int)) (by omega) (by omega)) (by simp) ?_
  rw [val_digs (by omega : (0 : Int) ≤ u), val_digs (by omega : (0 : Int) ≤ v)]
  have hm : u % v < v := Nat.mod_lt _ (by omega)
  have e : (u : Int) % v = ((u % v : Nat) : Int) := by omega
  have hv : ¬ (v : Int) = 0 := by omega
  have ed : divV (u : Int) v = .tup [nat (digs ((u : Int) / v)), nat (digs ((u % v : Nat) : Int)), .int .i64 0] := by unfold divV; rw [if_neg hv, e]
  rw [ed]
  generalize hw : u % v = w at *
  simp
  have lm := digs_length_mono (m := (w : Int)) (n := (v : Int)) (by omega) (by omega)
  refine ⟨(v, w), ⟨by rw [← hg, ← hw]; exact gcd_rest u v, lv, by dsimp only; omega⟩, hm, ?_⟩
  exact weak_plain (sub_set (by simp) (sub_set (by simp) sub_empty)) (by repeat (first | exact sin_empty | refine sin_set (by simp) ?_))
end Go.Proofs.YtkockkfmjmheeaaGreat
