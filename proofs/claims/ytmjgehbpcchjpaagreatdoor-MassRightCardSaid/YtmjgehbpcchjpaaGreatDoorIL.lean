import Derived.Shelf.Lays
import Derived.Shelf.LaysM
import Derived.Shelf.Strings.BuilderX
import Derived.Test.YtmjgehbpcchjpaaGreatDoorProg
import Derived.KernelRfl
import Derived.Test.YtmjgehbpcchjpaaGreatDoorIK
import Derived.Test.YtmjgehbpcchjpaaGreatDoorGD
import Derived.Test.YtmjgehbpcchjpaaGreatDoorGC
import Derived.Shelf.Strings.OnBuilder
import Derived.Shelf.Strconv.Itoa3
import Derived.Test.YtmjgehbpcchjpaaGreatDoorGG
namespace Go.Proofs.YtmjgehbpcchjpaaGreatDoor.F
open Go Go.Proofs Go.Proofs.YtmjgehbpcchjpaaGreatDoor.E Go.Proofs.YtmjgehbpcchjpaaGreatDoor.Q
abbrev strconv_Itoa : Nat := 175
def strconv_Itoa_c : MFn := ⟨5,(.seq (r [o 2 (.mv (.c (.str ⟨#[]⟩)))] [0]) (.seq (r [o 3 (.mv (.t 0)),o 4 (.call 202 [(.t 3)]),o 2 (.mv (.t 4))] [2]) .ret)),[.t 2]⟩
theorem strconv_Itoa_ok : cFn Tryz.prog (kps [[0],[2]]) [] 175 = some strconv_Itoa_c := by kernel_rfl
abbrev strings_Join : Nat := 173
def strings_Join_c : MFn := ⟨75,(.seq (r [o 4 (.mv (.c (.str ⟨#[]⟩)))] [0,1]) (.seq (.seq (r [o 11 (.mv (.t 0)),o 12 (.lenS (.t 11))] [0,1,12]) (.block 0 (.seq (r [o 14 (.bin .eql (.t 12) (i 0)),o 13 (.mv (.t 14))] [0,1,12,13]) (.cond (.t 13) (.seq (r [o 4 (.mv (.c (.str ⟨#[]⟩)))] [4]) .ret) (.seq (r [o 16 (.bin .eql (.t 12) (i 1)),o 15 (.mv (.t 16))] [0,1,15]) (.cond (.t 15) (.seq (r [o 17 (.mv (.t 0)),o 18 (.ixA 1 (.t 17) (i 0)),o 19 (.ld none (.t 18)),o 4 (.mv (.t 19))] [4]) .ret) .skip)))))) (.seq (r [o 5 (.mv (i 0))] [0,1,5]) (.seq (.seq (r [o 20 (.mv (.t 1)),o 21 (.lenT (.t 20)),o 22 (.bin .gtr (.t 21) (i 0))] [0,1,5,22]) (.cond (.t 22) (.seq (.seq (r [o 23 (.mv (.t 1)),o 24 (.lenT (.t 23)),o 25 (.mv (.t 0)),o 26 (.lenS (.t 25)),o 27 (.bin .sub (.t 26) (i 1)),o 28 (.bin .quo (i 9223372036854775807) (.t 27)),o 29 (.bin .geq (.t 24) (.t 28))] [0,1,5,29]) (.cond (.t 29) (r [o 30 (.mkI 9 (.c (.str ⟨#[115,116,114,105,110,103,115,58,32,74,111,105,110,32,111,117,116,112,117,116,32,108,101,110,103,116,104,32,111,118,101,114,102,108,111,119]⟩))),z (.no)] [0,1,5]) .skip)) (r [o 31 (.mv (.t 5)),o 32 (.mv (.t 1)),o 33 (.lenT (.t 32)),o 34 (.mv (.t 0)),o 35 (.lenS (.t 34)),o 36 (.bin .sub (.t 35) (i 1)),o 37 (.bin .mul (.t 33) (.t 36)),o 38 (.bin .add (.t 31) (.t 37)),o 5 (.mv (.t 38))] [0,1,5])) .skip)) (.seq (.seq (r [o 39 (.mv (.t 0)),o 40 (.lenS (.t 39)),o 41 (.mv (i 0))] [0,1,5,39,40,41]) (.block 1 (.loop (.seq (r [o 42 (.bin .lss (.t 41) (.t 40))] [0,1,5,39,40,41,42]) (.seq (.cond (.t 42) .skip (.exit 1)) (.seq (.block 2 (.seq (r [o 43 (.ixA 1 (.t 39) (.t 41)),o 44 (.ld none (.t 43)),o 7 (.mv (.t 44))] [0,1,5,7,39,40,41]) (.seq (.seq (r [o 45 (.mv (.t 7)),o 46 (.lenT (.t 45)),o 47 (.mv (.t 5)),o 48 (.bin .sub (i 9223372036854775807) (.t 47)),o 49 (.bin .gtr (.t 46) (.t 48))] [0,1,5,7,39,40,41,49]) (.cond (.t 49) (r [o 50 (.mkI 9 (.c (.str ⟨#[115,116,114,105,110,103,115,58,32,74,111,105,110,32,111,117,116,112,117,116,32,108,101,110,103,116,104,32,111,118,101,114,102,108,111,119]⟩))),z (.no)] [0,1,5,7,39,40,41]) .skip)) (r [o 51 (.mv (.t 5)),o 52 (.mv (.t 7)),o 53 (.lenT (.t 52)),o 54 (.bin .add (.t 51) (.t 53)),o 5 (.mv (.t 54))] [0,1,5,39,40,41])))) (r [o 55 (.bin .add (.t 41) (i 1)),o 41 (.mv (.t 55))] [0,1,5,39,40,41]))))))) (.seq (r [o 8 (.alloc [.nilp,.nils])] [0,1,5,8]) (.seq (r [o 56 (.mv (.t 5)),o 57 (.call 198 [(.t 8),(.t 56)])] [0,1,8]) (.seq (r [o 58 (.mv (.t 0)),o 59 (.ixA 1 (.t 58) (i 0)),o 60 (.ld none (.t 59)),o 61 (.call 199 [(.t 8),(.t 60)])] [0,1,8]) (.seq (.seq (r [o 62 (.mv (.t 0)),o 63 (.slc 1 (.t 62) (some (i 1)) none none),o 64 (.lenS (.t 63)),o 65 (.mv (i 0))] [1,8,63,64,65]) (.block 3 (.loop (.seq (r [o 66 (.bin .lss (.t 65) (.t 64))] [1,8,63,64,65,66]) (.seq (.cond (.t 66) .skip (.exit 3)) (.seq (.block 4 (.seq (r [o 67 (.ixA 1 (.t 63) (.t 65)),o 68 (.ld none (.t 67)),o 10 (.mv (.t 68))] [1,8,10,63,64,65]) (.seq (r [o 69 (.mv (.t 1)),o 70 (.call 199 [(.t 8),(.t 69)])] [1,8,10,63,64,65]) (r [o 71 (.mv (.t 10)),o 72 (.call 199 [(.t 8),(.t 71)])] [1,8,63,64,65])))) (r [o 73 (.bin .add (.t 65) (i 1)),o 65 (.mv (.t 73))] [1,8,63,64,65]))))))) (.seq (r [o 74 (.call 200 [(.t 8)]),o 4 (.mv (.t 74))] [4]) .ret)))))))))),[.t 4]⟩
theorem strings_Join_ok : cFn Tryz.prog (kps [[0,1],[0,1,12],[0,1,12,13],[4],[0,1,15],[4],[0,1,5],[0,1,5,22],[0,1,5,29],[0,1,5],[0,1,5],[0,1,5,39,40,41],[0,1,5,39,40,41,42],[0,1,5,7,39,40,41],[0,1,5,7,39,40,41,49],[0,1,5,7,39,40,41],[0,1,5,39,40,41],[0,1,5,39,40,41],[0,1,5,8],[0,1,8],[0,1,8],[1,8,63,64,65],[1,8,63,64,65,66],[1,8,10,63,64,65],[1,8,10,63,64,65],[1,8,63,64,65],[1,8,63,64,65],[4]]) [] 173 = some strings_Join_c := by kernel_rfl
abbrev strconv_FormatBool : Nat := 174
def strconv_FormatBool_c : MFn := ⟨5,(.seq (r [o 2 (.mv (.c (.str ⟨#[]⟩)))] [0]) (.seq (r [o 3 (.mv (.t 0)),o 4 (.call 201 [(.t 3)]),o 2 (.mv (.t 4))] [2]) .ret)),[.t 2]⟩
theorem strconv_FormatBool_ok : cFn Tryz.prog (kps [[0],[2]]) [] 174 = some strconv_FormatBool_c := by kernel_rfl
abbrev internal_strconv_FormatBool : Nat := 201
def internal_strconv_FormatBool_c : MFn := ⟨4,(.seq (r [o 2 (.mv (.c (.str ⟨#[]⟩)))] [0]) (.seq (.seq (r [o 3 (.mv (.t 0))] [3]) (.cond (.t 3) (.seq (r [o 2 (.mv (.c (.str ⟨#[116,114,117,101]⟩)))] [2]) .ret) .skip)) (.seq (r [o 2 (.mv (.c (.str ⟨#[102,97,108,115,101]⟩)))] [2]) .ret))),[.t 2]⟩
theorem internal_strconv_FormatBool_ok : cFn Tryz.prog (kps [[0],[3],[2],[2]]) [] 201 = some internal_strconv_FormatBool_c := by kernel_rfl
abbrev value_Text : Nat := 142
def value_Text_c : MFn := ⟨45,(.seq (r [o 1 (.box (.t 0)),o 2 (.mv (.c (.str ⟨#[]⟩)))] [1]) (.seq (r [o 3 (.mv (.c .nils))] [1,3]) (.seq (.seq (r [o 7 (.fA 2 (.t 1)),o 8 (.ld none (.t 7)),o 9 (.lenS (.t 8)),o 10 (.mv (i 0))] [1,3,8,9,10]) (.block 0 (.loop (.seq (r [o 11 (.bin .lss (.t 10) (.t 9))] [1,3,8,9,10,11]) (.seq (.cond (.t 11) .skip (.exit 0)) (.seq (.block 1 (.seq (r [o 12 (.ixA 3 (.t 8) (.t 10)),o 13 (.ld (some 3) (.t 12)),o 5 (.alloc zV),z (.st 3 (.t 5) (.t 13))] [1,3,5,8,9,10]) (r [o 14 (.mv (.t 3)),o 15 (.ld (some 3) (.t 5)),o 16 (.call 142 [(.t 15)]),o 17 (.buildSl 1 1 [.str ⟨#[]⟩] [(0,(.t 16))]),o 18 (.app 1 16 (.t 14) (.t 17)),o 3 (.mv (.t 18))] [1,3,8,9,10]))) (r [o 19 (.bin .add (.t 10) (i 1)),o 10 (.mv (.t 19))] [1,3,8,9,10]))))))) (.seq (r [o 20 (.mv (.t 3)),o 21 (.call 173 [(.t 20),(.c (.str ⟨#[44,32]⟩))]),o 6 (.mv (.t 21))] [1,6]) (.seq (.seq (r [o 22 (.fA 0 (.t 1)),o 23 (.ld none (.t 22))] [1,6,23]) (.block 2 (.seq (r [o 25 (.bin .eql (.t 23) (i 1)),o 24 (.mv (.t 25))] [1,6,23,24]) (.cond (.t 24) (.seq (r [o 26 (.fA 1 (.t 1)),o 27 (.ld none (.t 26)),o 28 (.bin .neq (.t 27) (i 0)),o 29 (.call 174 [(.t 28)]),o 2 (.mv (.t 29))] [2]) .ret) (.seq (r [o 31 (.bin .eql (.t 23) (i 2)),o 30 (.mv (.t 31))] [1,6,23,30]) (.cond (.t 30) (.seq (r [o 32 (.fA 1 (.t 1)),o 33 (.ld none (.t 32)),o 34 (.call 175 [(.t 33)]),o 2 (.mv (.t 34))] [2]) .ret) (.seq (r [o 36 (.bin .eql (.t 23) (i 3)),o 35 (.mv (.t 36))] [6,23,35]) (.cond (.t 35) (.seq (r [o 37 (.mv (.t 6)),o 38 (.binT .add (.c (.str ⟨#[40]⟩)) (.t 37)),o 39 (.binT .add (.t 38) (.c (.str ⟨#[41]⟩))),o 2 (.mv (.t 39))] [2]) .ret) (.seq (r [o 41 (.bin .eql (.t 23) (i 4)),o 40 (.mv (.t 41))] [6,40]) (.cond (.t 40) (.seq (r [o 42 (.mv (.t 6)),o 43 (.binT .add (.c (.str ⟨#[91]⟩)) (.t 42)),o 44 (.binT .add (.t 43) (.c (.str ⟨#[93]⟩))),o 2 (.mv (.t 44))] [2]) .ret) .skip)))))))))) (.seq (r [o 2 (.mv (.c (.str ⟨#[63]⟩)))] [2]) .ret)))))),[.t 2]⟩
theorem value_Text_ok : cFn Tryz.prog (kps [[1],[1,3],[1,3,8,9,10],[1,3,8,9,10,11],[1,3,5,8,9,10],[1,3,8,9,10],[1,3,8,9,10],[1,6],[1,6,23],[1,6,23,24],[2],[1,6,23,30],[2],[6,23,35],[2],[6,40],[2],[2]]) [] 142 = some value_Text_c := by kernel_rfl
end Go.Proofs.YtmjgehbpcchjpaaGreatDoor.F

namespace Go.Proofs.YtmjgehbpcchjpaaGreatDoor
open Go Go.Proofs
def kq : Go.Shelf.Ren := ⟨fun | 156 => 173 | 165 => 198 | 166 => 199 | 169 => 200 | 240 => 212 | 241 => 213 | 276 => 222 | 277 => 223 | n => n, fun | 31 => 123 | 9 => 9 | 3 => 3 | 4 => 4 | 0 => 0 | 20 => 20 | 72 => 167 | 76 => 171 | 70 => 165 | 37 => 138 | 75 => 170 | 127 => 180 | 164 => 185 | 5 => 5 | 80 => 173 | n => n, fun | n => n⟩
theorem qO : Go.Proofs.Lays.n156 Tryz.prog kq where
 mixed := by kernel_rfl
 f156 := Tryz.func173.trans (congrArg some (by kernel_rfl))
 f165 := Tryz.func198.trans (congrArg some (by kernel_rfl))
 f166 := Tryz.func199.trans (congrArg some (by kernel_rfl))
 f169 := Tryz.func200.trans (congrArg some (by kernel_rfl))
 f240 := Tryz.func212.trans (congrArg some (by kernel_rfl))
 f241 := Tryz.func213.trans (congrArg some (by kernel_rfl))
 f276 := Tryz.func222.trans (congrArg some (by kernel_rfl))
 f277 := Tryz.func223.trans (congrArg some (by kernel_rfl))
 t0 := Tryz.underlying0
 a0 := Tryz.isAgg0
 z0 := Tryz.sizeOf0
 v0 := Tryz.zeroValue0
 t3 := Tryz.underlying3
 a3 := Tryz.isAgg3
 z3 := Tryz.sizeOf3
 v3 := Tryz.zeroValue3
 t4 := Tryz.underlying4
 a4 := Tryz.isAgg4
 z4 := Tryz.sizeOf4
 v4 := Tryz.zeroValue4
 t9 := Tryz.underlying9
 a9 := Tryz.isAgg9
 z9 := Tryz.sizeOf9
 v9 := Tryz.zeroValue9
 t20 := Tryz.underlying20
 a20 := Tryz.isAgg20
 z20 := Tryz.sizeOf20
 v20 := Tryz.zeroValue20
 t31 := Tryz.underlying123
 a31 := Tryz.isAgg123
 z31 := Tryz.sizeOf123
 v31 := Tryz.zeroValue123
 t37 := Tryz.underlying138
 a37 := Tryz.isAgg138
 z37 := Tryz.sizeOf138
 v37 := Tryz.zeroValue138
 t70 := Tryz.underlying165
 a70 := Tryz.isAgg165
 z70 := Tryz.sizeOf165
 v70 := Tryz.zeroValue165
 t72 := Tryz.underlying167
 a72 := Tryz.isAgg167
 z72 := Tryz.sizeOf167
 v72 := Tryz.zeroValue167
 t75 := Tryz.underlying170
 a75 := Tryz.isAgg170
 z75 := Tryz.sizeOf170
 v75 := Tryz.zeroValue170
 t76 := Tryz.underlying171
 a76 := Tryz.isAgg171
 z76 := Tryz.sizeOf171
 v76 := Tryz.zeroValue171
 t127 := Tryz.underlying180
 a127 := Tryz.isAgg180
 z127 := Tryz.sizeOf180
 v127 := Tryz.zeroValue180
 t164 := Tryz.underlying185
 a164 := Tryz.isAgg185
 z164 := Tryz.sizeOf185
 v164 := Tryz.zeroValue185
def laysItoa_ren : Go.Shelf.Ren := ⟨fun | 171 => 175 | 243 => 202 | 246 => 214 | 283 => 224 | 284 => 225 | 285 => 226 | 286 => 227 | 129 => 232 | 317 => 231 | 318 => 233 | 319 => 234 | 320 => 235 | 337 => 236 | 338 => 237 | n => n, fun | 3 => 3 | 9 => 9 | 2 => 2 | 4 => 4 | 171 => 188 | 0 => 0 | 53 => 106 | 37 => 138 | 5 => 5 | 173 => 191 | 212 => 197 | 51 => 111 | 20 => 20 | 213 => 198 | 46 => 135 | 232 => 200 | 233 => 201 | n => n, fun | 17 => 1 | 18 => 2 | 19 => 3 | n => n⟩
theorem laysItoa : Go.Proofs.LaysM.n171 Tryz.prog laysItoa_ren where
 mixed := by kernel_rfl
 f129 := Tryz.func232.trans (congrArg some (by kernel_rfl))
 f171 := Tryz.func175.trans (congrArg some (by kernel_rfl))
 f243 := Tryz.func202.trans (congrArg some (by kernel_rfl))
 f246 := Tryz.func214.trans (congrArg some (by kernel_rfl))
 f283 := Tryz.func224.trans (congrArg some (by kernel_rfl))
 f284 := Tryz.func225.trans (congrArg some (by kernel_rfl))
 f285 := Tryz.func226.trans (congrArg some (by kernel_rfl))
 f286 := Tryz.func227.trans (congrArg some (by kernel_rfl))
 f317 := Tryz.func231.trans (congrArg some (by kernel_rfl))
 f318 := Tryz.func233.trans (congrArg some (by kernel_rfl))
 f319 := Tryz.func234.trans (congrArg some (by kernel_rfl))
 f320 := Tryz.func235.trans (congrArg some (by kernel_rfl))
 f337 := Tryz.func236.trans (congrArg some (by kernel_rfl))
 f338 := Tryz.func237.trans (congrArg some (by kernel_rfl))
 t0 := Tryz.underlying0
 a0 := Tryz.isAgg0
 z0 := Tryz.sizeOf0
 v0 := Tryz.zeroValue0
 t2 := Tryz.underlying2
 a2 := Tryz.isAgg2
 z2 := Tryz.sizeOf2
 v2 := Tryz.zeroValue2
 t3 := Tryz.underlying3
 a3 := Tryz.isAgg3
 z3 := Tryz.sizeOf3
 v3 := Tryz.zeroValue3
 t4 := Tryz.underlying4
 a4 := Tryz.isAgg4
 z4 := Tryz.sizeOf4
 v4 := Tryz.zeroValue4
 t5 := Tryz.underlying5
 a5 := Tryz.isAgg5
 z5 := Tryz.sizeOf5
 v5 := Tryz.zeroValue5
 t9 := Tryz.underlying9
 a9 := Tryz.isAgg9
 z9 := Tryz.sizeOf9
 v9 := Tryz.zeroValue9
 t20 := Tryz.underlying20
 a20 := Tryz.isAgg20
 z20 := Tryz.sizeOf20
 v20 := Tryz.zeroValue20
 t37 := Tryz.underlying138
 a37 := Tryz.isAgg138
 z37 := Tryz.sizeOf138
 v37 := Tryz.zeroValue138
 t46 := Tryz.underlying135
 a46 := Tryz.isAgg135
 z46 := Tryz.sizeOf135
 v46 := Tryz.zeroValue135
 t51 := Tryz.underlying111
 a51 := Tryz.isAgg111
 z51 := Tryz.sizeOf111
 v51 := Tryz.zeroValue111
 t53 := Tryz.underlying106
 a53 := Tryz.isAgg106
 z53 := Tryz.sizeOf106
 v53 := Tryz.zeroValue106
 t171 := Tryz.underlying188
 a171 := Tryz.isAgg188
 z171 := Tryz.sizeOf188
 v171 := Tryz.zeroValue188
 t173 := Tryz.underlying191
 a173 := Tryz.isAgg191
 z173 := Tryz.sizeOf191
 v173 := Tryz.zeroValue191
 t212 := Tryz.underlying197
 a212 := Tryz.isAgg197
 z212 := Tryz.sizeOf197
 v212 := Tryz.zeroValue197
 t213 := Tryz.underlying198
 a213 := Tryz.isAgg198
 z213 := Tryz.sizeOf198
 t232 := Tryz.underlying200
 a232 := Tryz.isAgg200
 z232 := Tryz.sizeOf200
 v232 := Tryz.zeroValue200
 t233 := Tryz.underlying201
 a233 := Tryz.isAgg201
 z233 := Tryz.sizeOf201
 v233 := Tryz.zeroValue201
 g17 := by kernel_rfl
 g18 := by kernel_rfl
 g19 := by kernel_rfl
 i0 := by kernel_rfl
 i2 := by kernel_rfl
 i3 := by kernel_rfl
 i4 := by kernel_rfl
 i5 := by kernel_rfl
 i9 := by kernel_rfl
 i20 := by kernel_rfl
 i37 := by kernel_rfl
 i46 := by kernel_rfl
 i51 := by kernel_rfl
 i53 := by kernel_rfl
 i171 := by kernel_rfl
 i173 := by kernel_rfl
 i212 := by kernel_rfl
 i232 := by kernel_rfl
 i233 := by kernel_rfl
 m17 := by kernel_rfl
 m18 := by kernel_rfl
 m19 := by kernel_rfl
theorem oQ : Builder.Extra Tryz.prog kq where
 sizeBuilder := by kernel_rfl
 liesBuilder := by kernel_rfl
 t5 := Tryz.underlying5
 a5 := Tryz.isAgg5
 z5 := Tryz.sizeOf5
 v5 := Tryz.zeroValue5
 infoByte := by kernel_rfl
 cellsByte := by kernel_rfl
 sizeByte := by kernel_rfl
 neB5 := by decide
end Go.Proofs.YtmjgehbpcchjpaaGreatDoor

namespace Go.Proofs.YtmjgehbpcchjpaaGreatDoor
open Go Go.RowKit Go.Sort Go.Lib Go.Proofs Go.Proofs.YtmjgehbpcchjpaaGreatDoor.E
set_option linter.unusedSimpArgs false
set_option linter.unusedVariables false
theorem rP (w : World) (q : Nat) (os : Array Obj) : Below w.heap.size w (grow (w.drewN q) os) :=
 ⟨rfl, rfl, rfl, by first | (simp [grow]; done) | (simp [grow]; omega), fun i hi => by
   show ((w.drewN q).heap ++ os)[i]? = _
   rw [Array.getElem?_append_left (by show i < w.heap.size; omega)]
   rfl⟩
theorem me {I : Imm} {w w' : World} (hI : lH I w) (hb : Below w.heap.size w w') : lH I w' := fun b arr h => by
 obtain ⟨t, fr, e⟩ := hI b arr h
 exact ⟨t, fr, by rw [hb.block b (Array.getElem?_eq_some_iff.1 e).1]; exact e⟩
theorem rA {I : Imm} {w : World} (hI : lH I w) (hT : TabI I) : Lib.TabIs Tryz.prog w "internal/strconv.uint64pow10" .u64 Lib.pow10Tab := by
 have h1 : Tryz.prog.globalNamed "internal/strconv.uint64pow10" = some (laysItoa_ren.g 17) := laysItoa.m17
 have h2 := hT _ (List.mem_singleton.2 rfl : ((laysItoa_ren.g 17, (Lib.pow10Tab.map fun z => Value.int .u64 z).toArray) : Nat × Array Value) ∈ tabs)
 obtain ⟨t, fr, e⟩ := hI _ _ h2
 unfold Lib.TabIs World.var?
 rw [h1]
 simp only [Option.bind_some]
 rw [e]
theorem strconv_Itoa {n : Int} (h0 : -9223372036854775808 ≤ n) (h1 : n ≤ 9223372036854775807) : CallD Tryz.prog F.strconv_Itoa [.int .i64 n] (· = .str (bs (Lib.itoa n))) := by
 refine ⟨by kernel_rfl, fun I w cs hI hT ha => ?_⟩
 have hs : cs.size = 1 := ha.1
 have e0 : cs = #[.int .i64 n] := by
  have hr := ha.2 0 cs[0] (.int .i64 n) (by simp) rfl
  have := hr.inv_int
  apply Array.ext
  ·simp [hs]
  ·intro i h1 h2
   have : i = 0 := by simp at h2; exact h2
   subst this; simpa using this
 subst e0
 refine (Any.strconv_Itoa laysItoa n h0 h1 w (rA hI hT)).mono ?_
 rintro e w' ⟨rfl, k, os, rfl⟩
 have bel := rP w k os
 exact ⟨_, I, _, rfl, bel, fun _ _ h => h, me hI bel, fun _ _ => rfl, .str, rfl⟩
def bM (L : List (List UInt8)) (sep : List UInt8) : List UInt8 := Lib.join L sep
abbrev stR (L : List (List UInt8)) : List (List V) := L.map fun l => [V.str (bs l)]
theorem strings_Join {L : List (List UInt8)} {sep : List UInt8} (h1 : L.length ≤ 100000000) (h2 : (bM L sep).length ≤ 100000000000) : CallD Tryz.prog F.strings_Join [.dat (stR L), .str (bs sep)] (· = .str (bs (bM L sep))) := by
 refine ⟨by kernel_rfl, fun I w cs hI hT ha => ?_⟩
 have hs : cs.size = 2 := ha.1
 have r0 := ha.2 0 cs[0] (.dat (stR L)) (by simp [hs]) rfl
 have r1 := ha.2 1 cs[1] (.str (bs sep)) (by simp [hs]) rfl
 have e1 := r1.inv_str
 have ecs : cs = #[cs[0], .string (bs sep)] := by
  apply Array.ext
  ·simp [hs]
  ·intro i g1 g2
   have : i = 0 ∨ i = 1 := by simp at g2; omega
   rcases this with rfl | rfl
   ·simp
   ·simpa using e1
 rcases r0.inv_dat with ⟨h0, a, cap, e0, _⟩ | ⟨b, off, cap, es, arr, hb, hl, hc, e0, ho, hrel⟩
 ·have : L = [] := List.map_eq_nil_iff.1 h0
  subst this
  rw [ecs, e0]
  refine (Any.strings_Join_none qO oQ a cap (bs sep) w).mono ?_
  rintro e w' ⟨rfl, rfl⟩
  exact ⟨_, I, _, rfl, Below.refl _ _, fun _ _ h => h, hI, fun _ _ => rfl, .str, rfl⟩
 ·obtain ⟨t, fr, hm⟩ := hI _ _ hb
  rw [ecs, e0]
  have lL : (stR L).length = (L.map bs).length := by simp
  have eJ : Lib.join ((L.map bs).map (·.data.toList)) (bs sep).data.toList = bM L sep := by
   unfold bM
   rw [List.map_map, bs_data]
   congr 1
   have : ((fun x : ByteArray => x.data.toList) ∘ bs) = id := by funext l; simp
   rw [this, List.map_id]
  have key := Any.strings_Join qO oQ b off cap (L.map bs) (bs sep) w (fun j x hx => by
   simp only [List.getElem?_map, Option.map_eq_some_iff] at hx
   obtain ⟨l, hl1, rfl⟩ := hx
   have hj : (stR L)[j]? = some [V.str (bs l)] := by simp [hl1]
   obtain ⟨c, hc1, hc2⟩ := hrel j _ 0 _ hj rfl
   have es1 : es = 1 := (hl j _ hj).symm
   subst es1
   have := hc2.inv_str
   subst this
   simp only [World.cell?, hm]
   simpa using hc1) (Array.getElem?_eq_some_iff.1 hm).1 (by simp; omega) (by rw [← lL]; exact hc) (by rw [eJ]; omega)
  rw [eJ, ← lL] at key
  refine key.mono ?_
  rintro e w' ⟨rfl, bel⟩
  exact ⟨_, I, _, rfl, bel, fun _ _ h => h, me hI bel, fun _ _ => rfl, .str, rfl⟩
end Go.Proofs.YtmjgehbpcchjpaaGreatDoor

namespace Go.Proofs.YtmjgehbpcchjpaaGreatDoor
open Go Go.Proofs Go.Proofs.YtmjgehbpcchjpaaGreatDoor.E
set_option linter.unusedSimpArgs false
set_option linter.unusedVariables false
theorem oP (s : List UInt8) : bM [] s = [] := rfl
theorem nb (x : List UInt8) (r : List (List UInt8)) (s : List UInt8) : bM (x :: r) s = x ++ (r.map (s ++ ·)).flatten := Lib.join_cons x r s
theorem tY {L : List (List UInt8)} {s : List UInt8} {b : UInt8} (h : b ∈ bM L s) : b ∈ s ∨ ∃ x ∈ L, b ∈ x := by
 cases L with
 | nil => simp [oP] at h
 | cons a l =>
   rw [nb, List.mem_append] at h
   rcases h with h | h
   ·exact .inr ⟨a, by simp, h⟩
   ·obtain ⟨y, hy, hb⟩ := List.mem_flatten.1 h
    obtain ⟨x, hx, rfl⟩ := List.mem_map.1 hy
    rcases List.mem_append.1 hb with hb | hb
    ·exact .inl hb
    ·exact .inr ⟨x, by simp [hx], hb⟩
mutual
def dJ : Tr → List UInt8
 | .mk k n l => if k = 1 then (if n = 0 then [102, 97, 108, 115, 101] else [116, 114, 117, 101]) else if k = 2 then Lib.itoa n else if k = 3 then 40 :: (bM (ph l) [44, 32] ++ [41]) else if k = 4 then 91 :: (bM (ph l) [44, 32] ++ [93]) else [63]
def ph : List Tr → List (List UInt8)
 | [] => []
 | a :: l => dJ a :: ph l
end
theorem rJ : ∀ l : List Tr, ph l = l.map dJ
 | [] => by rw [ph]; rfl
 | a :: l => by rw [ph, rJ l]; rfl
theorem p8 (k n : Int) (l : List Tr) : dJ (.mk k n l) = if k = 1 then (if n = 0 then [102, 97, 108, 115, 101] else [116, 114, 117, 101]) else if k = 2 then Lib.itoa n else if k = 3 then 40 :: (bM (l.map dJ) [44, 32] ++ [41]) else if k = 4 then 91 :: (bM (l.map dJ) [44, 32] ++ [93]) else [63] := by
 rw [dJ, rJ]
theorem qI (n : Int) : Lib.itoa n = if n < 0 then 45 :: kX n.natAbs else kX n.toNat := rfl
theorem itoa_len {n : Int} (h0 : -9223372036854775808 ≤ n) (h1 : n < 9223372036854775808) : (Lib.itoa n).length ≤ 22 := by
 rw [qI]
 have l1 := nn (k := 20) (n := n.natAbs) (by omega)
 have l2 := nn (k := 20) (n := n.toNat) (by omega)
 split
 ·rw [List.length_cons]; omega
 ·omega
theorem qL : ∀ {l : List Tr}, (∀ x ∈ l, (dJ x).length + 2 ≤ 30 * cB x) → (bM (l.map dJ) [44, 32]).length ≤ 30 * cE l := by
 have flat : ∀ {l : List Tr}, (∀ x ∈ l, (dJ x).length + 2 ≤ 30 * cB x) → (((l.map dJ).map ([44, 32] ++ ·)).flatten).length ≤ 30 * cE l := by
  intro l
  induction l with
  | nil => intro _; simp
  | cons a l ih =>
    intro h
    have h1 := h a (by simp)
    have h2 := ih fun x hx => h x (by simp [hx])
    simp only [List.map_cons, List.flatten_cons, List.length_append, cE]
    simp only [List.length_cons, List.length_nil]
    omega
 intro l h
 cases l with
 | nil => simp [oP]
 | cons a l =>
   have h1 := h a (by simp)
   have h2 := flat (l := l) fun x hx => h x (by simp [hx])
   rw [List.map_cons, nb, List.length_append]
   simp only [cE]
   omega
theorem nT : ∀ {v : Tr}, v.Ok → (dJ v).length + 2 ≤ 30 * cB v := by
 intro v
 induction v using Tr.ind with
 | h k n l ih =>
   intro hv
   cases hv with
   | mk hk hn hl hc =>
     rw [p8, fS]
     have j := qL (l := l) fun x hx => ih x hx (hc x hx)
     have t := itoa_len hn.1 hn.2
     split
     ·split <;> simp only [List.length_cons, List.length_nil] <;> omega
     ·split
      ·omega
      ·split
       ·simp only [List.length_cons, List.length_nil, List.length_append]; omega
       ·split
        ·simp only [List.length_cons, List.length_nil, List.length_append]; omega
        ·simp only [List.length_cons, List.length_nil]; omega
theorem valL_ten : ∀ {v : Tr}, ∀ b ∈ dJ v, b ≠ 10 := by
 have dig : ∀ {n : Nat}, ∀ b ∈ kX n, b ≠ 10 := fun {n} b hb e => by
  have := q7 b hb
  subst e
  exact absurd this (by decide)
 intro v
 induction v using Tr.ind with
 | h k n l ih =>
   intro b hb
   rw [p8] at hb
   have j : b ∈ bM (l.map dJ) [44, 32] → b ≠ 10 := fun h => by
    rcases tY h with h | ⟨x, hx, h⟩
    ·rcases List.mem_cons.1 h with rfl | h
     ·decide
     ·rcases List.mem_cons.1 h with rfl | h
      ·decide
      ·cases h
    ·obtain ⟨y, hy, rfl⟩ := List.mem_map.1 hx
     exact ih y hy b h
   split at hb
   ·split at hb <;> (simp only [List.mem_cons, List.not_mem_nil, or_false] at hb; rcases hb with rfl | rfl | rfl | rfl | rfl) <;> decide
   ·split at hb
    ·rw [qI] at hb
     split at hb
     ·rcases List.mem_cons.1 hb with rfl | hb
      ·decide
      ·exact dig b hb
     ·exact dig b hb
    ·split at hb
     ·rcases List.mem_cons.1 hb with rfl | hb
      ·decide
      ·rcases List.mem_append.1 hb with hb | hb
       ·exact j hb
       ·simp only [List.mem_singleton] at hb; subst hb; decide
     ·split at hb
      ·rcases List.mem_cons.1 hb with rfl | hb
       ·decide
       ·rcases List.mem_append.1 hb with hb | hb
        ·exact j hb
        ·simp only [List.mem_singleton] at hb; subst hb; decide
      ·simp only [List.mem_singleton] at hb; subst hb; decide
theorem bsJ : ({ data := #[44, 32] } : ByteArray) = bs [44, 32] := rfl
theorem bsN : ({ data := #[] } : ByteArray) = bs [] := rfl
theorem plain_S (L : List (List UInt8)) : ea (stR L) := by
 intro r hr y hy p
 obtain ⟨x, _, rfl⟩ := List.mem_map.1 hr
 simp at hy; subst hy; simp [V.within]
theorem bsT : ({ data := #[116, 114, 117, 101] } : ByteArray) = bs [116, 114, 117, 101] := rfl
theorem bsF : ({ data := #[102, 97, 108, 115, 101] } : ByteArray) = bs [102, 97, 108, 115, 101] := rfl
theorem bs40 : ({ data := #[40] } : ByteArray) = bs [40] := rfl
theorem bs41 : ({ data := #[41] } : ByteArray) = bs [41] := rfl
theorem bs91 : ({ data := #[91] } : ByteArray) = bs [91] := rfl
theorem bs93 : ({ data := #[93] } : ByteArray) = bs [93] := rfl
theorem bs63 : ({ data := #[63] } : ByteArray) = bs [63] := rfl
theorem strconv_FormatBool (b : Bool) : CallD Tryz.prog F.strconv_FormatBool [.bool b] (· = .str (bs (if b then [116, 114, 117, 101] else [102, 97, 108, 115, 101]))) := by
 have h : CallD Tryz.prog F.internal_strconv_FormatBool [.bool b] (· = .str (bs (if b then [116, 114, 117, 101] else [102, 97, 108, 115, 101]))) := by
  refine av F.internal_strconv_FormatBool_ok ?_
  unfold F.internal_strconv_FormatBool_c
  cases b <;> simp [bsT, bsF]
 refine av F.strconv_FormatBool_ok ?_
 unfold F.strconv_FormatBool_c
 simp
 refine ag h (by simp) ?_
 simp
abbrev vaR (l : List Tr) : List (List V) := l.map fun x => [V.str (bs (dJ x))]
theorem vaR_eq (l : List Tr) : stR (l.map dJ) = vaR l := by simp [stR, vaR]
theorem vaR_take {l : List Tr} {i : Nat} (h : i < l.length) : (vaR l).take (i + 1) = (vaR l).take i ++ [[V.str (bs (dJ l[i]))]] := by
 rw [List.take_succ_eq_append_getElem (by simpa using h)]; simp
theorem re (l : List Tr) : ea (vaR l) := by rw [← vaR_eq]; exact plain_S _
theorem gpS (o n : Nat) : bA o (n + 1) = .ref o 0 (n + 1) := az (by omega)
theorem gp1 (o : Nat) : bA o 1 = .ref o 0 1 := az (by omega)
set_option maxHeartbeats 4000000 in
theorem value_Text : ∀ {v : Tr}, v.Ok → cB v ≤ 1000000 → CallD Tryz.prog F.value_Text [.agg v.cells] (· = .str (bs (dJ v))) := by
 intro v
 induction v using Tr.ind with
 | h k n l ih =>
   intro hv hm
   rw [fS] at hm
   have m1 := mT l
   cases hv with
   | mk hk hn hl hc =>
     refine av F.value_Text_ok ?_
     unfold F.value_Text_c
     simp [ac, List.filter_cons, aQ]
     have jl := qL (l := l) fun x hx => nT (hc x hx)
     refine aD (fun g : Nat × Nat => (((((Sl.empty.set 10 (.int .i64 g.2)).set 9 (.int .i64 l.length)).set 8 (tl l)).set 3 (bA g.1 g.2)).set 1 (.ptr 0 0 0), [(0, ⟨.own, 3, [[.int .i64 k, .int .i64 n, tl l]]⟩)] ++ dq g.1 1 g.2 ((vaR l).take g.2)))
      (fun g => g.2 ≤ l.length ∧ 0 < g.1) (fun g => l.length - g.2) (1, 0) (by simp) ?_ ?_
     ·refine aC ?_ (by simp [aF, aL]) (by repeat (first | exact aa | refine ah (by simp [aF]) ?_)) (by simp [aF, aL])
      repeat (first | exact ae | refine aj (by simp [aF]) ?_)
     rintro ⟨o, i⟩ ⟨hi, o0⟩
     dsimp only at hi o0
     have o0' : ¬ o = 0 := by omega
     have p0' : ¬ 0 = o := by omega
     by_cases h1 : i < l.length
     ·have hmem := List.getElem_mem h1
      have hih := ih l[i] hmem (hc _ hmem) (by have := mw hmem; omega)
      have e1 := vaR_take h1
      have w1 : IntKind.i64.wrap ((i : Int) + 1) = (i : Int) + 1 := ak (by omega) (by omega)
      have tk : List.take 3 l[i].cells = l[i].cells := by simp
      have dk : List.drop 3 l[i].cells = [] := List.drop_eq_nil_of_le (by simp)
      have hcn : ∀ (q : Nat → Bool), ∀ y ∈ [V.int .i64 k, V.int .i64 n, tl l], y.within q = true := fun q y hy => by simp at hy; rcases hy with rfl | rfl | rfl <;> simp [V.within]
      by_cases hi0 : i = 0
      ·subst hi0
       simp at e1
       simp [h1, tk, dk, aF, aL, ac, List.filter_cons]
       refine ag hih (by simp [a8]) ?_
       simp [ac, List.filter_cons]
       rw [ak (by omega) (by omega)]
       refine ⟨(3, 1), ⟨h1, by dsimp only; omega⟩, by dsimp only; omega, ?_⟩
       refine aC ?_ ?_ (by repeat (first | exact aa | refine ah (by simp [aw, gpS, gp1]) ?_)) ?_
       ·repeat (first | exact ae | refine aj (by simp [gpS, gp1]) ?_)
       ·simp (disch := omega) [aw, az, e1, if_neg]
       ·simp only [aw (show 1 ≠ 0 by omega)]
        intro p hp r hr y hy
        simp only [List.cons_append, List.nil_append, List.mem_cons, List.not_mem_nil, or_false] at hp
        rcases hp with rfl | rfl
        ·simp only [List.mem_singleton] at hr; subst hr; exact hcn _ y hy
        ·exact re l r (List.mem_of_mem_take hr) y hy _
      ·simp (disch := omega) [h1, tk, dk, az hi0, aw hi0, o0', p0', ac, List.filter_cons, Nat.max_eq_right, Nat.max_eq_left, if_neg, if_pos]
       refine ag hih (by simp [a8]) ?_
       simp (disch := omega) [o0', p0', ac, List.filter_cons, Nat.max_eq_right, Nat.max_eq_left, if_neg, if_pos]
       rw [w1]
       refine ⟨(o + 3, i + 1), ⟨h1, by dsimp only; omega⟩, by dsimp only; omega, ?_⟩
       refine aC ?_ ?_ (by repeat (first | exact aa | refine ah (by simp [aw, gpS, gp1]) ?_)) ?_
       ·repeat (first | exact ae | refine aj (by simp [gpS, gp1]) ?_)
       ·simp (disch := omega) [aw, az, e1, o0', p0', if_neg]
       ·simp only [aw (show i + 1 ≠ 0 by omega)]
        intro p hp r hr y hy
        simp only [List.cons_append, List.nil_append, List.mem_cons, List.not_mem_nil, or_false] at hp
        rcases hp with rfl | rfl
        ·simp only [List.mem_singleton] at hr; subst hr; exact hcn _ y hy
        ·exact re l r (List.mem_of_mem_take hr) y hy _
     ·have hil : i = l.length := by omega
      subst hil
      have tl' : (vaR l).take l.length = vaR l := List.take_of_length_le (by simp)
      have jn := strings_Join (L := l.map dJ) (sep := [44, 32]) (by simp; omega) (by omega)
      rw [vaR_eq] at jn
      simp [h1, tl', bsJ]
      refine ag jn (by
       simp
       rw [cb (k := 11) (st := .own) (es := 1) (l := vaR l) (fun h => by simp [aw h, E.look, p0']) (by simp) (by simp) (by simp) (fun r hr => by obtain ⟨x, _, rfl⟩ := List.mem_map.1 hr; simp)]) ?_
      have z1 : 1 + (bM (l.map dJ) [44, 32]).length ≤ 1099511627776 := by omega
      have z2 : (bM (l.map dJ) [44, 32]).length + 1 + 1 ≤ 1099511627776 := by omega
      rw [p8]
      by_cases k1 : k = 1
      ·subst k1
       simp [ac, List.filter_cons]
       refine ag (strconv_FormatBool (!decide (n = 0))) (by simp) ?_
       by_cases n0 : n = 0 <;> simp [n0]
      by_cases k2 : k = 2
      ·subst k2
       simp [ac, List.filter_cons]
       refine ag (strconv_Itoa hn.1 (by omega)) (by simp) ?_
       simp
      by_cases k3 : k = 3
      ·subst k3
       simp [bs40, bs41, dN, z1, z2, ac, List.filter_cons]
      by_cases k4 : k = 4
      ·subst k4
       simp [bs91, bs93, dN, z1, z2, ac, List.filter_cons]
      simp [k1, k2, k3, k4, bs63, ac, List.filter_cons]
end Go.Proofs.YtmjgehbpcchjpaaGreatDoor
