import Derived.Test.YtipbefckimdkkaaGreatIT
namespace Go.Proofs.YtipbefckimdkkaaGreat.F
open Go Go.Proofs Go.Proofs.YtipbefckimdkkaaGreat.E Go.Proofs.YtipbefckimdkkaaGreat.Q
abbrev slices_symMergeCmpFunc_Part : Nat := 150
def slices_symMergeCmpFunc_Part_c : MFn := ⟨220,(.seq (.seq (r [o 25 (.mv (.t 2)),o 26 (.mv (.t 1)),o 27 (.bin .sub (.t 25) (.t 26)),o 28 (.bin .eql (.t 27) (i 1))] [0,1,2,3,4,28]) (.cond (.t 28) (.seq (r [o 29 (.mv (.t 2)),o 10 (.mv (.t 29))] [0,1,3,4,10]) (.seq (r [o 30 (.mv (.t 3)),o 11 (.mv (.t 30))] [0,1,4,10,11]) (.seq (.block 0 (.loop (.seq (.seq (r [o 31 (.mv (.t 10)),o 32 (.mv (.t 11)),o 33 (.bin .lss (.t 31) (.t 32))] [0,1,4,10,11,33]) (.cond (.t 33) .skip (.exit 0))) (.block 1 (.seq (r [o 34 (.mv (.t 10)),o 35 (.mv (.t 11)),o 36 (.bin .add (.t 34) (.t 35)),o 37 (.cvt .u64 (.t 36)),o 38 (.bin .shr (.t 37) (.c (.int .u64 1))),o 39 (.cvt .i64 (.t 38)),o 12 (.mv (.t 39))] [0,1,4,10,11,12]) (.seq (r [o 40 (.mv (.t 4)),o 41 (.mv (.t 0)),o 42 (.mv (.t 12)),o 43 (.ixA 6 (.t 41) (.t 42)),o 44 (.ld (some 6) (.t 43)),o 45 (.mv (.t 0)),o 46 (.mv (.t 1)),o 47 (.ixA 6 (.t 45) (.t 46)),o 48 (.ld (some 6) (.t 47)),o 49 (.callVF (.t 40) [(.t 44),(.t 48)]),o 50 (.bin .lss (.t 49) (i 0))] [0,1,4,10,11,12,50]) (.cond (.t 50) (r [o 51 (.mv (.t 12)),o 52 (.bin .add (.t 51) (i 1)),o 10 (.mv (.t 52))] [0,1,4,10,11]) (r [o 53 (.mv (.t 12)),o 11 (.mv (.t 53))] [0,1,4,10,11])))))))) (.seq (.seq (r [o 54 (.mv (.t 1)),o 13 (.mv (.t 54))] [0,10,13]) (.block 2 (.loop (.seq (.seq (r [o 55 (.mv (.t 13)),o 56 (.mv (.t 10)),o 57 (.bin .sub (.t 56) (i 1)),o 58 (.bin .lss (.t 55) (.t 57))] [0,10,13,58]) (.cond (.t 58) .skip (.exit 2))) (.seq (.block 3 (r [o 61 (.mv (.t 0)),o 62 (.mv (.t 13)),o 63 (.mv (.t 0)),o 64 (.mv (.t 13)),o 65 (.bin .add (.t 64) (i 1)),o 66 (.mv (.t 0)),o 67 (.mv (.t 13)),o 68 (.bin .add (.t 67) (i 1)),o 69 (.ixA 6 (.t 66) (.t 68)),o 70 (.ld (some 6) (.t 69)),o 71 (.mv (.t 0)),o 72 (.mv (.t 13)),o 73 (.ixA 6 (.t 71) (.t 72)),o 74 (.ld (some 6) (.t 73)),o 75 (.ixA 6 (.t 61) (.t 62)),z (.st 6 (.t 75) (.t 70)),o 76 (.ixA 6 (.t 63) (.t 65)),z (.st 6 (.t 76) (.t 74))] [0,10,13])) (r [o 59 (.mv (.t 13)),o 60 (.bin .add (.t 59) (i 1)),o 13 (.mv (.t 60))] [0,10,13])))))) .ret)))) .skip)) (.seq (.seq (r [o 77 (.mv (.t 3)),o 78 (.mv (.t 2)),o 79 (.bin .sub (.t 77) (.t 78)),o 80 (.bin .eql (.t 79) (i 1))] [0,1,2,3,4,80]) (.cond (.t 80) (.seq (r [o 81 (.mv (.t 1)),o 14 (.mv (.t 81))] [0,2,4,14]) (.seq (r [o 82 (.mv (.t 2)),o 15 (.mv (.t 82))] [0,2,4,14,15]) (.seq (.block 4 (.loop (.seq (.seq (r [o 83 (.mv (.t 14)),o 84 (.mv (.t 15)),o 85 (.bin .lss (.t 83) (.t 84))] [0,2,4,14,15,85]) (.cond (.t 85) .skip (.exit 4))) (.block 5 (.seq (r [o 86 (.mv (.t 14)),o 87 (.mv (.t 15)),o 88 (.bin .add (.t 86) (.t 87)),o 89 (.cvt .u64 (.t 88)),o 90 (.bin .shr (.t 89) (.c (.int .u64 1))),o 91 (.cvt .i64 (.t 90)),o 16 (.mv (.t 91))] [0,2,4,14,15,16]) (.seq (r [o 92 (.mv (.t 4)),o 93 (.mv (.t 0)),o 94 (.mv (.t 2)),o 95 (.ixA 6 (.t 93) (.t 94)),o 96 (.ld (some 6) (.t 95)),o 97 (.mv (.t 0)),o 98 (.mv (.t 16)),o 99 (.ixA 6 (.t 97) (.t 98)),o 100 (.ld (some 6) (.t 99)),o 101 (.callVF (.t 92) [(.t 96),(.t 100)]),o 102 (.bin .lss (.t 101) (i 0)),o 103 (.un .not (.t 102))] [0,2,4,14,15,16,103]) (.cond (.t 103) (r [o 104 (.mv (.t 16)),o 105 (.bin .add (.t 104) (i 1)),o 14 (.mv (.t 105))] [0,2,4,14,15]) (r [o 106 (.mv (.t 16)),o 15 (.mv (.t 106))] [0,2,4,14,15])))))))) (.seq (.seq (r [o 107 (.mv (.t 2)),o 17 (.mv (.t 107))] [0,14,17]) (.block 6 (.loop (.seq (.seq (r [o 108 (.mv (.t 17)),o 109 (.mv (.t 14)),o 110 (.bin .gtr (.t 108) (.t 109))] [0,14,17,110]) (.cond (.t 110) .skip (.exit 6))) (.seq (.block 7 (r [o 113 (.mv (.t 0)),o 114 (.mv (.t 17)),o 115 (.mv (.t 0)),o 116 (.mv (.t 17)),o 117 (.bin .sub (.t 116) (i 1)),o 118 (.mv (.t 0)),o 119 (.mv (.t 17)),o 120 (.bin .sub (.t 119) (i 1)),o 121 (.ixA 6 (.t 118) (.t 120)),o 122 (.ld (some 6) (.t 121)),o 123 (.mv (.t 0)),o 124 (.mv (.t 17)),o 125 (.ixA 6 (.t 123) (.t 124)),o 126 (.ld (some 6) (.t 125)),o 127 (.ixA 6 (.t 113) (.t 114)),z (.st 6 (.t 127) (.t 122)),o 128 (.ixA 6 (.t 115) (.t 117)),z (.st 6 (.t 128) (.t 126))] [0,14,17])) (r [o 111 (.mv (.t 17)),o 112 (.bin .sub (.t 111) (i 1)),o 17 (.mv (.t 112))] [0,14,17])))))) .ret)))) .skip)) (.seq (r [o 129 (.mv (.t 1)),o 130 (.mv (.t 3)),o 131 (.bin .add (.t 129) (.t 130)),o 132 (.cvt .u64 (.t 131)),o 133 (.bin .shr (.t 132) (.c (.int .u64 1))),o 134 (.cvt .i64 (.t 133)),o 18 (.mv (.t 134))] [0,1,2,3,4,18]) (.seq (r [o 135 (.mv (.t 18)),o 136 (.mv (.t 2)),o 137 (.bin .add (.t 135) (.t 136)),o 19 (.mv (.t 137))] [0,1,2,3,4,18,19]) (.seq (r [o 20 (.mv (i 0)),o 21 (.mv (i 0))] [0,1,2,3,4,18,19]) (.seq (.seq (r [o 138 (.mv (.t 2)),o 139 (.mv (.t 18)),o 140 (.bin .gtr (.t 138) (.t 139))] [0,1,2,3,4,18,19,140]) (.cond (.t 140) (.seq (r [o 141 (.mv (.t 19)),o 142 (.mv (.t 3)),o 143 (.bin .sub (.t 141) (.t 142)),o 20 (.mv (.t 143))] [0,1,2,3,4,18,19,20]) (r [o 144 (.mv (.t 18)),o 21 (.mv (.t 144))] [0,1,2,3,4,18,19,20,21])) (.seq (r [o 145 (.mv (.t 1)),o 20 (.mv (.t 145))] [0,1,2,3,4,18,19,20]) (r [o 146 (.mv (.t 2)),o 21 (.mv (.t 146))] [0,1,2,3,4,18,19,20,21])))) (.seq (r [o 147 (.mv (.t 19)),o 148 (.bin .sub (.t 147) (i 1)),o 22 (.mv (.t 148))] [0,1,2,3,4,18,19,20,21,22]) (.seq (.block 8 (.loop (.seq (.seq (r [o 149 (.mv (.t 20)),o 150 (.mv (.t 21)),o 151 (.bin .lss (.t 149) (.t 150))] [0,1,2,3,4,18,19,20,21,22,151]) (.cond (.t 151) .skip (.exit 8))) (.block 9 (.seq (r [o 152 (.mv (.t 20)),o 153 (.mv (.t 21)),o 154 (.bin .add (.t 152) (.t 153)),o 155 (.cvt .u64 (.t 154)),o 156 (.bin .shr (.t 155) (.c (.int .u64 1))),o 157 (.cvt .i64 (.t 156)),o 23 (.mv (.t 157))] [0,1,2,3,4,18,19,20,21,22,23]) (.seq (r [o 158 (.mv (.t 4)),o 159 (.mv (.t 0)),o 160 (.mv (.t 22)),o 161 (.mv (.t 23)),o 162 (.bin .sub (.t 160) (.t 161)),o 163 (.ixA 6 (.t 159) (.t 162)),o 164 (.ld (some 6) (.t 163)),o 165 (.mv (.t 0)),o 166 (.mv (.t 23)),o 167 (.ixA 6 (.t 165) (.t 166)),o 168 (.ld (some 6) (.t 167)),o 169 (.callVF (.t 158) [(.t 164),(.t 168)]),o 170 (.bin .lss (.t 169) (i 0)),o 171 (.un .not (.t 170))] [0,1,2,3,4,18,19,20,21,22,23,171]) (.cond (.t 171) (r [o 172 (.mv (.t 23)),o 173 (.bin .add (.t 172) (i 1)),o 20 (.mv (.t 173))] [0,1,2,3,4,18,19,20,21,22]) (r [o 174 (.mv (.t 23)),o 21 (.mv (.t 174))] [0,1,2,3,4,18,19,20,21,22])))))))) (.seq (r [o 175 (.mv (.t 19)),o 176 (.mv (.t 20)),o 177 (.bin .sub (.t 175) (.t 176)),o 24 (.mv (.t 177))] [0,1,2,3,4,18,20,24]) (.seq (.seq (r [o 178 (.mv (.t 20)),o 179 (.mv (.t 2)),o 180 (.bin .lss (.t 178) (.t 179)),o 181 (.mv (.t 180)),y 182 181 (.mv (.t 2)),y 183 181 (.mv (.t 24)),y 184 181 (.bin .lss (.t 182) (.t 183)),o 185 (.pick (.t 181) (.t 184) (.c (.bool false)))] [0,1,2,3,4,18,20,24,185]) (.cond (.t 185) (r [o 186 (.mv (.t 0)),o 187 (.mv (.t 20)),o 188 (.mv (.t 2)),o 189 (.mv (.t 24)),o 190 (.mv (.t 4)),o 191 (.call 168 [(.t 186),(.t 187),(.t 188),(.t 189),(.t 190)])] [0,1,3,4,18,20,24]) .skip)) (.seq (.seq (r [o 192 (.mv (.t 1)),o 193 (.mv (.t 20)),o 194 (.bin .lss (.t 192) (.t 193)),o 195 (.mv (.t 194)),y 196 195 (.mv (.t 20)),y 197 195 (.mv (.t 18)),y 198 195 (.bin .lss (.t 196) (.t 197)),o 199 (.pick (.t 195) (.t 198) (.c (.bool false)))] [0,1,3,4,18,20,24,199]) (.cond (.t 199) (r [o 200 (.mv (.t 0)),o 201 (.mv (.t 1)),o 202 (.mv (.t 20)),o 203 (.mv (.t 18)),o 204 (.mv (.t 4)),o 205 (.call 150 [(.t 200),(.t 201),(.t 202),(.t 203),(.t 204)])] [0,3,4,18,24]) .skip)) (.seq (r [o 206 (.mv (.t 18)),o 207 (.mv (.t 24)),o 208 (.bin .lss (.t 206) (.t 207)),o 209 (.mv (.t 208)),y 210 209 (.mv (.t 24)),y 211 209 (.mv (.t 3)),y 212 209 (.bin .lss (.t 210) (.t 211)),o 213 (.pick (.t 209) (.t 212) (.c (.bool false)))] [0,3,4,18,24,213]) (.cond (.t 213) (r [o 214 (.mv (.t 0)),o 215 (.mv (.t 18)),o 216 (.mv (.t 24)),o 217 (.mv (.t 3)),o 218 (.mv (.t 4)),o 219 (.call 150 [(.t 214),(.t 215),(.t 216),(.t 217),(.t 218)])] []) .skip))))))))))))),[]⟩
theorem slices_symMergeCmpFunc_Part_ok : cFn Tryz.prog (kps [[0,1,2,3,4,28],[0,1,3,4,10],[0,1,4,10,11],[0,1,4,10,11,33],[0,1,4,10,11,12],[0,1,4,10,11,12,50],[0,1,4,10,11],[0,1,4,10,11],[0,10,13],[0,10,13,58],[0,10,13],[0,10,13],[0,1,2,3,4,80],[0,2,4,14],[0,2,4,14,15],[0,2,4,14,15,85],[0,2,4,14,15,16],[0,2,4,14,15,16,103],[0,2,4,14,15],[0,2,4,14,15],[0,14,17],[0,14,17,110],[0,14,17],[0,14,17],[0,1,2,3,4,18],[0,1,2,3,4,18,19],[0,1,2,3,4,18,19],[0,1,2,3,4,18,19,140],[0,1,2,3,4,18,19,20],[0,1,2,3,4,18,19,20,21],[0,1,2,3,4,18,19,20],[0,1,2,3,4,18,19,20,21],[0,1,2,3,4,18,19,20,21,22],[0,1,2,3,4,18,19,20,21,22,151],[0,1,2,3,4,18,19,20,21,22,23],[0,1,2,3,4,18,19,20,21,22,23,171],[0,1,2,3,4,18,19,20,21,22],[0,1,2,3,4,18,19,20,21,22],[0,1,2,3,4,18,20,24],[0,1,2,3,4,18,20,24,185],[0,1,3,4,18,20,24],[0,1,3,4,18,20,24,199],[0,3,4,18,24],[0,3,4,18,24,213],[]]) [] 150 = some slices_symMergeCmpFunc_Part_c := by kernel_rfl
abbrev slices_stableCmpFunc_Part : Nat := 127
def slices_stableCmpFunc_Part_c : MFn := ⟨63,(.seq (r [o 6 (.mv (i 20))] [0,1,2,6]) (.seq (r [o 10 (.mv (.t 6)),o 7 (.mv (i 0)),o 8 (.mv (.t 10))] [0,1,2,6,7,8]) (.seq (.block 0 (.loop (.seq (.seq (r [o 11 (.mv (.t 8)),o 12 (.mv (.t 1)),o 13 (.bin .leq (.t 11) (.t 12))] [0,1,2,6,7,8,13]) (.cond (.t 13) .skip (.exit 0))) (.block 1 (.seq (r [o 14 (.mv (.t 0)),o 15 (.mv (.t 7)),o 16 (.mv (.t 8)),o 17 (.mv (.t 2)),o 18 (.call 149 [(.t 14),(.t 15),(.t 16),(.t 17)])] [0,1,2,6,8]) (.seq (r [o 19 (.mv (.t 8)),o 7 (.mv (.t 19))] [0,1,2,6,7,8]) (r [o 20 (.mv (.t 8)),o 21 (.mv (.t 6)),o 22 (.bin .add (.t 20) (.t 21)),o 8 (.mv (.t 22))] [0,1,2,6,7,8]))))))) (.seq (r [o 23 (.mv (.t 0)),o 24 (.mv (.t 7)),o 25 (.mv (.t 1)),o 26 (.mv (.t 2)),o 27 (.call 149 [(.t 23),(.t 24),(.t 25),(.t 26)])] [0,1,2,6]) (.block 2 (.loop (.seq (.seq (r [o 28 (.mv (.t 6)),o 29 (.mv (.t 1)),o 30 (.bin .lss (.t 28) (.t 29))] [0,1,2,6,30]) (.cond (.t 30) .skip (.exit 2))) (.block 3 (.seq (r [o 31 (.mv (.t 6)),o 32 (.bin .mul (i 2) (.t 31)),o 7 (.mv (i 0)),o 8 (.mv (.t 32))] [0,1,2,6,7,8]) (.seq (.block 4 (.loop (.seq (.seq (r [o 33 (.mv (.t 8)),o 34 (.mv (.t 1)),o 35 (.bin .leq (.t 33) (.t 34))] [0,1,2,6,7,8,35]) (.cond (.t 35) .skip (.exit 4))) (.block 5 (.seq (r [o 36 (.mv (.t 0)),o 37 (.mv (.t 7)),o 38 (.mv (.t 7)),o 39 (.mv (.t 6)),o 40 (.bin .add (.t 38) (.t 39)),o 41 (.mv (.t 8)),o 42 (.mv (.t 2)),o 43 (.call 150 [(.t 36),(.t 37),(.t 40),(.t 41),(.t 42)])] [0,1,2,6,8]) (.seq (r [o 44 (.mv (.t 8)),o 7 (.mv (.t 44))] [0,1,2,6,7,8]) (r [o 45 (.mv (.t 8)),o 46 (.mv (.t 6)),o 47 (.bin .mul (i 2) (.t 46)),o 48 (.bin .add (.t 45) (.t 47)),o 8 (.mv (.t 48))] [0,1,2,6,7,8]))))))) (.seq (.seq (r [o 49 (.mv (.t 7)),o 50 (.mv (.t 6)),o 51 (.bin .add (.t 49) (.t 50)),o 9 (.mv (.t 51))] [0,1,2,6,7,9]) (.seq (r [o 52 (.mv (.t 9)),o 53 (.mv (.t 1)),o 54 (.bin .lss (.t 52) (.t 53))] [0,1,2,6,7,9,54]) (.cond (.t 54) (r [o 55 (.mv (.t 0)),o 56 (.mv (.t 7)),o 57 (.mv (.t 9)),o 58 (.mv (.t 1)),o 59 (.mv (.t 2)),o 60 (.call 150 [(.t 55),(.t 56),(.t 57),(.t 58),(.t 59)])] [0,1,2,6]) .skip))) (r [o 61 (.mv (.t 6)),o 62 (.bin .mul (.t 61) (i 2)),o 6 (.mv (.t 62))] [0,1,2,6])))))))))))),[]⟩
theorem slices_stableCmpFunc_Part_ok : cFn Tryz.prog (kps [[0,1,2,6],[0,1,2,6,7,8],[0,1,2,6,7,8,13],[0,1,2,6,8],[0,1,2,6,7,8],[0,1,2,6,7,8],[0,1,2,6],[0,1,2,6,30],[0,1,2,6,7,8],[0,1,2,6,7,8,35],[0,1,2,6,8],[0,1,2,6,7,8],[0,1,2,6,7,8],[0,1,2,6,7,9],[0,1,2,6,7,9,54],[0,1,2,6],[0,1,2,6]]) [] 127 = some slices_stableCmpFunc_Part_c := by kernel_rfl
abbrev slices_SortStableFunc_Part_Part : Nat := 91
def slices_SortStableFunc_Part_Part_c : MFn := ⟨9,(r [o 4 (.mv (.t 0)),o 5 (.mv (.t 0)),o 6 (.lenS (.t 5)),o 7 (.mv (.t 1)),o 8 (.call 127 [(.t 4),(.t 6),(.t 7)])] []),[]⟩
theorem slices_SortStableFunc_Part_Part_ok : cFn Tryz.prog (kps [[]]) [] 91 = some slices_SortStableFunc_Part_Part_c := by kernel_rfl
end Go.Proofs.YtipbefckimdkkaaGreat.F

namespace Go.Proofs.YtipbefckimdkkaaGreat
open Go Go.Proofs Go.Proofs.YtipbefckimdkkaaGreat.E
set_option linter.unusedSimpArgs false
set_option linter.unusedVariables false
theorem mid64 {i j : Nat} (h : i + j ≤ 4000000) : IntKind.i64.wrap (IntKind.u64.wrap (IntKind.i64.wrap ((i : Int) + j)) / 2) = (((i + j) / 2 : Nat) : Int) := by
 rw [wrap64 (x := (i : Int) + j) (by omega) (by omega), wrapU64 (by omega) (by omega), wrap64 (by omega) (by omega)]; omega
section
set_option maxHeartbeats 16000000 in
theorem sym_merge : ∀ (n : Nat) {a m b : Nat} {σ : Sto} {o : Nat} {L : List Part}, L.length ≤ 1000000 → (∀ p ∈ L, p.v.Ok) → b - a ≤ n → a < m → m < b → b ≤ L.length → SR L a m → SR L m b → E.look σ o = some (obL L) → Shut σ →
 CallX Tryz.prog F.slices_symMergeCmpFunc_Part [.ref o 0 L.length, .int .i64 a, .int .i64 m, .int .i64 b, cmpC] σ
  (fun v s => v = .tup [] ∧ ∃ M : List Part, s = setOb σ o (obL M) ∧ Mrg a b L M) := by
 intro n
 induction n with
 | zero => intro a m b σ o L _ _ _ _ _; omega
 | succ n ih =>
 intro a m b σ o L hl hO hn ham hmb hb sa sb ho hs
 have hoK : (E.look σ o).isSome = true := by rw [ho]; rfl
 have has : Has (setOb σ o (obL L)) σ := by
  intro p x
  rw [look_setOb]
  split
  ·rename_i e; rw [e, ho]; exact id
  ·exact id
 have hasT : ∀ {τ : Sto} {X : List Part}, E.look τ o = some (obL X) → Has (setOb τ o (obL X)) τ := by
  intro τ X h p x
  rw [look_setOb]
  split
  ·rename_i e; rw [e, h]; exact id
  ·exact id
 refine callX_by F.slices_symMergeCmpFunc_Part_ok ?_
 unfold F.slices_symMergeCmpFunc_Part_c
 simp
 repeat simp (disch := omega) [wrap64]
 have haL : a < L.length := by omega
 have hmL : m < L.length := by omega
 have okA : L[a].v.Ok := hO _ (List.getElem_mem haL)
 have okM : L[m].v.Ok := hO _ (List.getElem_mem hmL)
 by_cases c1 : m = a + 1
 ·have c1' : (m : Int) - a = 1 := by omega
  have sb' : SR L (a + 1) b := by rw [← c1]; exact sb
  simp [c1']
  refine wm_loop (fun g : Nat × Nat => (((((Sl.empty.set 11 (.int .i64 g.2)).set 10 (.int .i64 g.1)).set 4 cmpC).set 1 (.int .i64 a)).set 0 (.ref o 0 L.length), setOb σ o (obL L)))
   (fun g => m ≤ g.1 ∧ g.1 ≤ g.2 ∧ g.2 ≤ b ∧ (∀ k y, m ≤ k → k < g.1 → L[k]? = some y → cmpT y.v L[a].v < 0) ∧ (∀ k y, g.2 ≤ k → k < b → L[k]? = some y → 0 ≤ cmpT y.v L[a].v)) (fun g => g.2 - g.1) (m, b)
   ⟨Nat.le_refl _, by dsimp only; omega, Nat.le_refl _, fun k y k1 k2 => by dsimp only at k2; omega, fun k y k1 k2 => by dsimp only at k1; omega⟩ ?_ ?_
  ·refine weak_gen ?_ has (keep_set keys_look) ?_ (shut_set hs (plain_L _))
   ·repeat (first | exact sub_empty | refine sub_set (by simp) ?_)
   ·repeat (first | exact sin_empty | refine sin_set (by simp [V.within]) ?_)
  rintro ⟨i, j⟩ ⟨g1, g2, g3, g4, g5⟩
  dsimp only at g1 g2 g3 g4 g5
  by_cases c : i < j
  ·have hm := mid64 (i := i) (j := j) (by omega)
   obtain ⟨h, eh⟩ : ∃ h : Nat, h = (i + j) / 2 := ⟨_, rfl⟩
   rw [← eh] at hm
   have hhl : h < L.length := by omega
   have okH : L[h].v.Ok := hO _ (List.getElem_mem hhl)
   simp [c, hm, hhl, haL]
   refine ⟨_, _, ⟨rfl, rfl⟩, callXK_of (privacy_Turn_1 okH okA) (by simp [toD_partC]) ?_⟩
   by_cases hc : cmpT L[h].v L[a].v < 0
   ·simp [hc]
    repeat simp (disch := omega) [wrap64]
    refine ⟨(h + 1, j), ⟨by dsimp only; omega, by dsimp only; omega, g3, fun k y k1 k2 hy => ?_, g5⟩, by dsimp only; omega, ?_⟩
    ·have := sb.le (j := h) k1 (by dsimp only at k2; omega) (by omega) hy (List.getElem?_eq_getElem hhl)
     by_cases e : cmpT y.v L[h].v = 0
     ·rw [(cmpT_zero _ _).1 e]; exact hc
     ·exact cmpT_trans (by omega) hc
    ·refine weak_gen ?_ (Has.refl _) (keep_set keys_look) ?_ (shut_set hs (plain_L _))
     ·repeat (first | exact sub_empty | refine sub_set (by simp) ?_)
     ·repeat (first | exact sin_empty | refine sin_set (by simp [V.within]) ?_)
   ·simp [hc]
    refine ⟨(i, h), ⟨g1, by dsimp only; omega, by dsimp only; omega, g4, fun k y k1 k2 hy => ?_⟩, by dsimp only; omega, ?_⟩
    ·have := sb.le (i := h) (by omega) k1 k2 (List.getElem?_eq_getElem hhl) hy
     refine Int.not_lt.1 fun hlt => hc ?_
     by_cases e : cmpT L[h].v y.v = 0
     ·rw [(cmpT_zero _ _).1 e]; exact hlt
     ·exact cmpT_trans (by omega) hlt
    ·refine weak_gen ?_ (Has.refl _) (keep_set keys_look) ?_ (shut_set hs (plain_L _))
     ·repeat (first | exact sub_empty | refine sub_set (by simp) ?_)
     ·repeat (first | exact sin_empty | refine sin_set (by simp [V.within]) ?_)
  ·have hij : j = i := by omega
   subst hij
   simp
   have fin : ∀ M, Moved (roF a (a + 1) j) L M → Mrg a b L M := fun M hM =>
    mrg_first (by omega) (by omega) hb sb' L[a] (List.getElem?_eq_getElem haL) (fun k y k1 k2 hy => g4 k y (by omega) k2 hy) g5 hM
   refine wm_loop (fun g : Nat × List Part => (((Sl.empty.set 13 (.int .i64 g.1)).set 10 (.int .i64 j)).set 0 (.ref o 0 L.length), setOb σ o (obL g.2)))
    (fun g => a ≤ g.1 ∧ g.1 + 1 ≤ j ∧ Moved (roF a (a + 1) (g.1 + 1)) L g.2) (fun g => j - g.1) (a, L) ⟨Nat.le_refl _, by dsimp only; omega, (Moved.refl L).congr fun k _ => (roF_one (by omega)).symm⟩ ?_ ?_
   ·refine weak_gen ?_ (Has.refl _) (keep_set keys_look) ?_ (shut_set hs (plain_L _))
    ·repeat (first | exact sub_empty | refine sub_set (by simp) ?_)
    ·repeat (first | exact sin_empty | refine sin_set (by simp [V.within]) ?_)
   rintro ⟨k, X⟩ ⟨k1, k2, hX⟩
   dsimp only at k1 k2 hX
   have lX := hX.len
   by_cases c2 : k + 1 < j
   ·have q1 : k < X.length := by omega
    have q2 : k + 1 < X.length := by omega
    have q3 : (k : Int) < j - 1 := by omega
    have q3' : ¬ (j : Int) - 1 ≤ k := by omega
    have e1 : ((k : Int) + 1).toNat = k + 1 := by omega
    simp
    repeat simp (disch := omega) [wrap64, if_pos, e1, q1, q2, q3, q3']
    have hsw := moved_swap q1 q2
    have e2 : (k : Int) + 1 = ((k + 1 : Nat) : Int) := by omega
    have e3 : ((List.map partC X).set k (partC X[k + 1])).set (k + 1) (partC X[k]) = List.map partC ((X.set k X[k + 1]).set (k + 1) X[k]) := by rw [List.map_set, List.map_set]
    rw [e3]
    refine ⟨(k + 1, _), ⟨by dsimp only; omega, by dsimp only; omega, ro_on k1 (by omega) hX hsw⟩, by dsimp only; omega, ?_⟩
    refine weak_gen ?_ ?_ (keep_set keys_look) ?_ (shut_set hs (plain_L _))
    ·repeat (first | exact sub_empty | refine sub_set (by simp) ?_)
    ·intro p y
     simp only [look_setOb]
     split <;> exact id
    ·repeat (first | exact sin_empty | refine sin_set (by simp [V.within]) ?_)
   ·have e : j = k + 1 := by omega
    have q3 : ¬ (k : Int) < j - 1 := by omega
    have q3' : (j : Int) - 1 ≤ k := by omega
    simp
    repeat simp (disch := omega) [wrap64, q3, q3']
    exact doneX_gen (r := .tup []) (l := []) (by simp) (by simp) rfl (Has.refl _) (keep_set keys_look) (shut_set hs (plain_L _)) (by simp) ⟨rfl, X, rfl, fin X (by rw [e]; exact hX)⟩
 have c1' : ¬ (m : Int) - a = 1 := by omega
 simp [c1']
 repeat simp (disch := omega) [wrap64]
 by_cases c2 : b = m + 1
 ·have c2' : (b : Int) - m = 1 := by omega
  simp [c2']
  refine wm_loop (fun g : Nat × Nat => (((((Sl.empty.set 15 (.int .i64 g.2)).set 14 (.int .i64 g.1)).set 4 cmpC).set 2 (.int .i64 m)).set 0 (.ref o 0 L.length), setOb σ o (obL L)))
   (fun g => a ≤ g.1 ∧ g.1 ≤ g.2 ∧ g.2 ≤ m ∧ (∀ k y, a ≤ k → k < g.1 → L[k]? = some y → 0 ≤ cmpT L[m].v y.v) ∧ (∀ k y, g.2 ≤ k → k < m → L[k]? = some y → cmpT L[m].v y.v < 0)) (fun g => g.2 - g.1) (a, m)
   ⟨Nat.le_refl _, by dsimp only; omega, Nat.le_refl _, fun k y k1 k2 => by dsimp only at k2; omega, fun k y k1 k2 => by dsimp only at k1; omega⟩ ?_ ?_
  ·refine weak_gen ?_ has (keep_set keys_look) ?_ (shut_set hs (plain_L _))
   ·repeat (first | exact sub_empty | refine sub_set (by simp) ?_)
   ·repeat (first | exact sin_empty | refine sin_set (by simp [V.within]) ?_)
  rintro ⟨i, j⟩ ⟨g1, g2, g3, g4, g5⟩
  dsimp only at g1 g2 g3 g4 g5
  by_cases c : i < j
  ·have hm := mid64 (i := i) (j := j) (by omega)
   obtain ⟨h, eh⟩ : ∃ h : Nat, h = (i + j) / 2 := ⟨_, rfl⟩
   rw [← eh] at hm
   have hhl : h < L.length := by omega
   have okH : L[h].v.Ok := hO _ (List.getElem_mem hhl)
   simp [c, hm, hhl, hmL]
   refine ⟨_, _, ⟨rfl, rfl⟩, callXK_of (privacy_Turn_1 okM okH) (by simp [toD_partC]) ?_⟩
   by_cases hc : cmpT L[m].v L[h].v < 0
   ·simp [hc]
    refine ⟨(i, h), ⟨g1, by dsimp only; omega, by dsimp only; omega, g4, fun k y k1 k2 hy => ?_⟩, by dsimp only; omega, ?_⟩
    ·have := sa.le (i := h) (by omega) k1 k2 (List.getElem?_eq_getElem hhl) hy
     by_cases e : cmpT L[h].v y.v = 0
     ·rw [← (cmpT_zero _ _).1 e]; exact hc
     ·exact cmpT_trans hc (by omega)
    ·refine weak_gen ?_ (Has.refl _) (keep_set keys_look) ?_ (shut_set hs (plain_L _))
     ·repeat (first | exact sub_empty | refine sub_set (by simp) ?_)
     ·repeat (first | exact sin_empty | refine sin_set (by simp [V.within]) ?_)
   ·simp [hc]
    repeat simp (disch := omega) [wrap64]
    refine ⟨(h + 1, j), ⟨by dsimp only; omega, by dsimp only; omega, g3, fun k y k1 k2 hy => ?_, g5⟩, by dsimp only; omega, ?_⟩
    ·have := sa.le (j := h) k1 (by dsimp only at k2; omega) (by omega) hy (List.getElem?_eq_getElem hhl)
     refine Int.not_lt.1 fun hlt => hc ?_
     by_cases e : cmpT y.v L[h].v = 0
     ·rw [← (cmpT_zero _ _).1 e]; exact hlt
     ·exact cmpT_trans hlt (by omega)
    ·refine weak_gen ?_ (Has.refl _) (keep_set keys_look) ?_ (shut_set hs (plain_L _))
     ·repeat (first | exact sub_empty | refine sub_set (by simp) ?_)
     ·repeat (first | exact sin_empty | refine sin_set (by simp [V.within]) ?_)
  ·have hij : j = i := by omega
   subst hij
   simp
   have fin : ∀ M, Moved (roF j m (m + 1)) L M → Mrg a b L M := fun M hM => by
    rw [c2]
    exact mrg_last (by omega) (by omega) (by omega) sa L[m] (List.getElem?_eq_getElem hmL) g4 g5 hM
   refine wm_loop (fun g : Nat × List Part => (((Sl.empty.set 17 (.int .i64 g.1)).set 14 (.int .i64 j)).set 0 (.ref o 0 L.length), setOb σ o (obL g.2)))
    (fun g => j ≤ g.1 ∧ g.1 ≤ m ∧ Moved (roF g.1 m (m + 1)) L g.2) (fun g => g.1) (m, L) ⟨by dsimp only; omega, Nat.le_refl _, (Moved.refl L).congr fun k _ => (roF_nil (by omega)).symm⟩ ?_ ?_
   ·refine weak_gen ?_ (Has.refl _) (keep_set keys_look) ?_ (shut_set hs (plain_L _))
    ·repeat (first | exact sub_empty | refine sub_set (by simp) ?_)
    ·repeat (first | exact sin_empty | refine sin_set (by simp [V.within]) ?_)
   rintro ⟨k, X⟩ ⟨k1, k2, hX⟩
   dsimp only at k1 k2 hX
   have lX := hX.len
   by_cases c3 : j < k
   ·have q1 : k < X.length := by omega
    have q2 : k - 1 < X.length := by omega
    have q3 : (j : Int) < k := by omega
    have c3' : ¬ k ≤ j := by omega
    have e1 : ((k : Int) - 1).toNat = k - 1 := by omega
    simp [c3, c3']
    repeat simp (disch := omega) [wrap64, if_pos, e1, q1, q2, q3]
    have hsw := moved_swap q1 q2
    have e2 : (k : Int) - 1 = ((k - 1 : Nat) : Int) := by omega
    have e3 : ((List.map partC X).set k (partC X[k - 1])).set (k - 1) (partC X[k]) = List.map partC ((X.set k X[k - 1]).set (k - 1) X[k]) := by rw [List.map_set, List.map_set]
    rw [e3, e2]
    refine ⟨(k - 1, _), ⟨by dsimp only; omega, by dsimp only; omega, ro_back (by omega) k2 hmL hX hsw⟩, by dsimp only; omega, ?_⟩
    refine weak_gen ?_ ?_ (keep_set keys_look) ?_ (shut_set hs (plain_L _))
    ·repeat (first | exact sub_empty | refine sub_set (by simp) ?_)
    ·intro p y
     simp only [look_setOb]
     split <;> exact id
    ·repeat (first | exact sin_empty | refine sin_set (by simp [V.within]) ?_)
   ·have e : j = k := by omega
    have q3 : ¬ (j : Int) < k := by omega
    simp [q3]
    exact doneX_gen (r := .tup []) (l := []) (by simp) (by simp) rfl (Has.refl _) (keep_set keys_look) (shut_set hs (plain_L _)) (by simp) ⟨rfl, X, rfl, fin X (by rw [e]; exact hX)⟩
 have c2' : ¬ (b : Int) - m = 1 := by omega
 simp [c2']
 obtain ⟨mid, emid⟩ : ∃ h : Nat, h = (a + b) / 2 := ⟨_, rfl⟩
 have hmid : IntKind.i64.wrap (IntKind.u64.wrap ((a : Int) + b) / 2) = (mid : Int) := by
  rw [wrapU64 (by omega) (by omega), wrap64 (by omega) (by omega)]; omega
 rw [hmid]
 have hcase : ∃ s0 r0 : Nat, (mid < m ∧ s0 = mid + m - b ∧ r0 = mid) ∨ (¬ mid < m ∧ s0 = a ∧ r0 = m) := by
  by_cases hc : mid < m
  ·exact ⟨_, _, .inl ⟨hc, rfl, rfl⟩⟩
  ·exact ⟨_, _, .inr ⟨hc, rfl, rfl⟩⟩
 obtain ⟨s0, r0, hcase⟩ := hcase
 have f1 : a ≤ s0 ∧ s0 ≤ r0 ∧ r0 ≤ m ∧ r0 ≤ mid ∧ mid + m ≤ s0 + b := by omega
 obtain ⟨f1, f2, f3, f4, f5⟩ := f1
 have ep : IntKind.i64.wrap (IntKind.i64.wrap ((mid : Int) + m) - 1) = ((mid + m - 1 : Nat) : Int) := by
  rw [wrap64 (x := (mid : Int) + m) (by omega) (by omega), wrap64 (by omega) (by omega)]; omega
 have en0 : IntKind.i64.wrap ((mid : Int) + m) = ((mid + m : Nat) : Int) := by rw [wrap64 (by omega) (by omega)]; omega
 rw [ep, en0]
 have es0 : mid < m → IntKind.i64.wrap (((mid + m : Nat) : Int) - b) = (s0 : Int) := fun h => by rw [wrap64 (by omega) (by omega)]; omega
 have step : ((mid < m ∧ r0 = mid ∧ mid + m = s0 + b) ∨ (¬ mid < m ∧ r0 = m ∧ s0 = a)) := by omega
 refine ⟨fun hc => ?_, fun hc => ?_⟩
 rotate_left
 have er : r0 = m := by omega
 have es : s0 = a := by omega
 have f6 : r0 = m ∧ s0 = a := by omega
 clear hcase step es0
 rotate_left
 rw [es0 (by omega)]
 have er : r0 = mid := by omega
 have es : s0 = s0 := rfl
 have f6 : r0 = mid ∧ mid + m = s0 + b := by omega
 clear hcase step es0
 all_goals
 (refine wm_loop (fun g : Nat × Nat => ((((((((((Sl.empty.set 22 (.int .i64 (mid + m - 1 : Nat))).set 21 (.int .i64 g.2)).set 20 (.int .i64 g.1)).set 19 (.int .i64 (mid + m : Nat))).set 18 (.int .i64 mid)).set 4 cmpC).set 3 (.int .i64 b)).set 2 (.int .i64 m)).set 1 (.int .i64 a)).set 0 (.ref o 0 L.length), setOb σ o (obL L)))
   (fun g => s0 ≤ g.1 ∧ g.1 ≤ g.2 ∧ g.2 ≤ r0 ∧ (∀ k x y, s0 ≤ k → k < g.1 → L[k]? = some x → L[mid + m - 1 - k]? = some y → 0 ≤ cmpT y.v x.v) ∧ (∀ k x y, g.2 ≤ k → k < r0 → L[k]? = some x → L[mid + m - 1 - k]? = some y → cmpT y.v x.v < 0)) (fun g => g.2 - g.1) (s0, r0)
   ⟨Nat.le_refl _, f2, Nat.le_refl _, fun k x y k1 k2 => by dsimp only at k2; omega, fun k x y k1 k2 => by dsimp only at k1; omega⟩ ?_ ?_
  ·refine weak_gen ?_ has (keep_set keys_look) ?_ (shut_set hs (plain_L _))
   ·repeat (first | exact sub_empty | refine sub_set (by first | (simp; done) | (simp [er]; done) | (simp [es]; done)) ?_)
   ·repeat (first | exact sin_empty | refine sin_set (by simp [V.within]) ?_)
  rintro ⟨i, j⟩ ⟨g1, g2, g3, g4, g5⟩
  dsimp only at g1 g2 g3 g4 g5
  by_cases c : i < j
  ·have hm := mid64 (i := i) (j := j) (by omega)
   obtain ⟨h, eh⟩ : ∃ h : Nat, h = (i + j) / 2 := ⟨_, rfl⟩
   rw [← eh] at hm
   have hhl : h < L.length := by omega
   have hpl : mid + m - 1 - h < L.length := by omega
   have okH : L[h].v.Ok := hO _ (List.getElem_mem hhl)
   have okP : L[mid + m - 1 - h].v.Ok := hO _ (List.getElem_mem hpl)
   have ew : IntKind.i64.wrap (((mid + m - 1 : Nat) : Int) - h) = ((mid + m - 1 - h : Nat) : Int) := by rw [wrap64 (by omega) (by omega)]; omega
   simp [c, hm, hhl, ew, hpl]
   refine ⟨_, _, ⟨rfl, rfl⟩, callXK_of (privacy_Turn_1 okP okH) (by simp [toD_partC]) ?_⟩
   by_cases hc : cmpT L[mid + m - 1 - h].v L[h].v < 0
   ·simp [hc]
    refine ⟨(i, h), ⟨g1, by dsimp only; omega, by dsimp only; omega, g4, fun k x y k1 k2 hx hy => ?_⟩, by dsimp only; omega, ?_⟩
    ·dsimp only at k1
     have t1 := sb.le (i := mid + m - 1 - k) (j := mid + m - 1 - h) (by omega) (by omega) (by omega) hy (List.getElem?_eq_getElem hpl)
     have t2 := sa.le (i := h) (j := k) (by omega) k1 (by omega) (List.getElem?_eq_getElem hhl) hx
     refine Int.not_le.1 fun hge => ?_
     have t3 := cmpT_neg y.v x.v
     have t4 := cmpT_le_trans t2 (cmpT_le_trans (show cmpT x.v y.v ≤ 0 by omega) t1)
     have t5 := cmpT_neg L[h].v L[mid + m - 1 - h].v
     omega
    ·refine weak_gen ?_ (Has.refl _) (keep_set keys_look) ?_ (shut_set hs (plain_L _))
     ·repeat (first | exact sub_empty | refine sub_set (by simp) ?_)
     ·repeat (first | exact sin_empty | refine sin_set (by simp [V.within]) ?_)
   ·simp [hc]
    repeat simp (disch := omega) [wrap64]
    refine ⟨(h + 1, j), ⟨by dsimp only; omega, by dsimp only; omega, g3, fun k x y k1 k2 hx hy => ?_, g5⟩, by dsimp only; omega, ?_⟩
    ·dsimp only at k2
     have t1 := sb.le (i := mid + m - 1 - h) (j := mid + m - 1 - k) (by omega) (by omega) (by omega) (List.getElem?_eq_getElem hpl) hy
     have t2 := sa.le (i := k) (j := h) (by omega) (by omega) (by omega) hx (List.getElem?_eq_getElem hhl)
     have t5 := cmpT_neg L[mid + m - 1 - h].v L[h].v
     have t4 := cmpT_le_trans t2 (cmpT_le_trans (show cmpT L[h].v L[mid + m - 1 - h].v ≤ 0 by omega) t1)
     have t3 := cmpT_neg x.v y.v
     omega
    ·refine weak_gen ?_ (Has.refl _) (keep_set keys_look) ?_ (shut_set hs (plain_L _))
     ·repeat (first | exact sub_empty | refine sub_set (by simp) ?_)
     ·repeat (first | exact sin_empty | refine sin_set (by simp [V.within]) ?_)
  ·have hij : j = i := by omega
   subst hij
   obtain ⟨en, een⟩ : ∃ e : Nat, e = mid + m - j := ⟨_, rfl⟩
   have een' : IntKind.i64.wrap ((mid : Int) + m - j) = (en : Int) := by rw [wrap64 (by omega) (by omega)]; omega
   have q1 : a < j → en < b → ∀ x y, L[j - 1]? = some x → L[en]? = some y → cmpT x.v y.v ≤ 0 := by
    intro h1 h2 x y hx hy
    have e1 : mid + m - 1 - (j - 1) = en := by omega
    have := g4 (j - 1) x y (by omega) (by omega) hx (by rw [e1]; exact hy)
    have t3 := cmpT_neg x.v y.v
    omega
   have q2 : j < m → m < en → ∀ x y, L[en - 1]? = some x → L[j]? = some y → cmpT x.v y.v ≤ 0 := by
    intro h1 h2 x y hx hy
    have e1 : mid + m - 1 - j = en - 1 := by omega
    have := g5 j y x (Nat.le_refl _) (by omega) hy (by rw [e1]; exact hx)
    omega
   have fin : ∀ {X Y Z : List Part}, Moved (roF j m en) L X → (SR X a j → SR X j mid → Mrg a mid X Y) → (SR Y mid en → SR Y en b → Mrg mid b Y Z) → Mrg a b L Z := fun hX hY hZ =>
    mrg_step (by omega) (by omega) hb (by omega) (by omega) (by omega) (by omega) (by omega) (by omega) (by omega) (by omega) sa sb q1 q2 hX hY hZ
   have hsL : Shut (setOb σ o (obL L)) := shut_set hs (plain_L _)
   have hoL : E.look (setOb σ o (obL L)) o = some (obL L) := by rw [look_setOb, if_pos rfl]
   simp [-blk_exit]
   rw [blk_exit, if_pos rfl, then_norm]
   refine wm_cut 2 rfl fun R hR => ?_
   suffices rest1 : ∀ (X : List Part) (S' : Sl), Moved (roF j m en) L X → S' 0 = some (.ref o 0 L.length) → S' 1 = some (.int .i64 a) → S' 3 = some (.int .i64 b) → S' 4 = some cmpC → S' 18 = some (.int .i64 mid) → S' 20 = some (.int .i64 j) → S' 24 = some (.int .i64 en) →
    WpM Tryz.prog (σ.map (·.1)) R S' (setOb σ o (obL X)) (DoneX (σ.map (·.1)) [] fun v s => v = .tup [] ∧ ∃ M : List Part, s = setOb σ o (obL M) ∧ Mrg a b L M) by
    by_cases d1 : j < m
    ·by_cases d2 : m < en
     ·simp [een', d1, d2]
      refine callK_X (rotate d1 d2 (by omega) hl hoL hsL) ?_
      rintro r s ⟨rfl, X, e0, hX⟩
      rw [setOb2] at e0
      subst e0
      simp
      exact rest1 X _ hX (by simp) (by simp) (by simp) (by simp) (by simp) (by simp) (by simp)
     ·have e : en = m := by omega
      have : Moved (roF j m en) L L := (Moved.refl L).congr fun k _ => by rw [e]; exact (roF_one (by omega)).symm
      simp [een', d1, d2]
      exact rest1 L _ this (by simp) (by simp) (by simp) (by simp) (by simp) (by simp) (by simp)
    ·have e : m = j := by omega
     have : Moved (roF j m en) L L := (Moved.refl L).congr fun k _ => by rw [e]; exact (roF_nil (by omega)).symm
     simp [een', d1]
     exact rest1 L _ this (by simp) (by simp) (by simp) (by simp) (by simp) (by simp) (by simp)
   intro X S' hX t0 t1 t3 t4 t18 t20 t24
   have lX := hX.len
   obtain ⟨p1, p2, p3, p4⟩ := mrg_parts (mid := mid) hb (by omega) (by omega) (by omega) (by omega) (by omega) (by omega) sa sb hX
   have okX : ∀ p ∈ X, p.v.Ok := fun p hp => hO p (hX.perm.mem_iff.1 hp)
   have hsX : Shut (setOb σ o (obL X)) := shut_set hs (plain_L _)
   have hoX : E.look (setOb σ o (obL X)) o = some (obL X) := by rw [look_setOb, if_pos rfl]
   rw [hR]
   simp only [tls_succ, tls_zero]
   refine wm_cut 1 rfl fun R2 hR2 => ?_
   suffices rest2 : ∀ (Y : List Part) (S' : Sl), Mrg a mid X Y → S' 0 = some (.ref o 0 L.length) → S' 3 = some (.int .i64 b) → S' 4 = some cmpC → S' 18 = some (.int .i64 mid) → S' 24 = some (.int .i64 en) →
    WpM Tryz.prog (σ.map (·.1)) R2 S' (setOb σ o (obL Y)) (DoneX (σ.map (·.1)) [] fun v s => v = .tup [] ∧ ∃ M : List Part, s = setOb σ o (obL M) ∧ Mrg a b L M) by
    by_cases d3 : a < j
    ·by_cases d4 : j < mid
     ·have call := ih (a := a) (m := j) (b := mid) (L := X) (by omega) okX (by omega) d3 d4 (by omega) p1 p2 hoX hsX
      rw [lX] at call
      simp [t0, t1, t3, t4, t18, t20, t24, d3, d4]
      refine callK_X call ?_
      rintro r s ⟨rfl, Y, e0, hY⟩
      rw [setOb2] at e0
      subst e0
      simp [t0, t1, t3, t4, t18, t20, t24]
      exact rest2 Y _ hY (by simp) (by simp) (by simp) (by simp) (by simp)
     ·simp [t0, t1, t3, t4, t18, t20, t24, d3, d4]
      exact rest2 X _ (Mrg.halves p1 p2 (by omega) (by omega) (by omega)) (by simp) (by simp) (by simp) (by simp) (by simp)
    ·simp [t0, t1, t3, t4, t18, t20, t24, d3]
     exact rest2 X _ (Mrg.halves p1 p2 (by omega) (by omega) (by omega)) (by simp) (by simp) (by simp) (by simp) (by simp)
   intro Y S'' hY u0 u3 u4 u18 u24
   have lY := hY.len
   have p3' := hY.behind p3 (Nat.le_refl _)
   have p4' := hY.behind p4 (by omega)
   have okY : ∀ p ∈ Y, p.v.Ok := fun p hp => okX p (hY.perm.mem_iff.1 hp)
   have hsY : Shut (setOb σ o (obL Y)) := shut_set hs (plain_L _)
   have hoY : E.look (setOb σ o (obL Y)) o = some (obL Y) := by rw [look_setOb, if_pos rfl]
   rw [hR2]
   simp only [tls_succ, tls_zero]
   by_cases d5 : mid < en
   ·by_cases d6 : en < b
    ·have call := ih (a := mid) (m := en) (b := b) (L := Y) (by omega) okY (by omega) d5 d6 (by omega) p3' p4' hoY hsY
     rw [lY, lX] at call
     simp [u0, u3, u4, u18, u24, d5, d6]
     refine callK_X call ?_
     rintro r s ⟨rfl, Z, e0, hZ⟩
     rw [setOb2] at e0
     subst e0
     simp
     exact doneX_gen (r := .tup []) (l := []) (by simp) (by simp) rfl (Has.refl _) (keep_set keys_look) (shut_set hs (plain_L _)) (by simp) ⟨rfl, Z, rfl, fin hX (fun _ _ => hY) (fun _ _ => hZ)⟩
    ·simp [u0, u3, u4, u18, u24, d5, d6]
     exact doneX_gen (r := .tup []) (l := []) (by simp) (by simp) rfl (Has.refl _) (keep_set keys_look) (shut_set hs (plain_L _)) (by simp) ⟨rfl, Y, rfl, fin hX (fun _ _ => hY) (fun h1 h2 => Mrg.halves h1 h2 (by omega) (by omega) (by omega))⟩
   ·simp [u0, u3, u4, u18, u24, d5]
    exact doneX_gen (r := .tup []) (l := []) (by simp) (by simp) rfl (Has.refl _) (keep_set keys_look) (shut_set hs (plain_L _)) (by simp) ⟨rfl, Y, rfl, fin hX (fun _ _ => hY) (fun h1 h2 => Mrg.halves h1 h2 (by omega) (by omega) (by omega))⟩)
end
section
variable {σ : Sto} {o : Nat} {L : List Part}
set_option maxHeartbeats 16000000 in
theorem stable_Part (hl : L.length ≤ 1000000) (hO : ∀ p ∈ L, p.v.Ok) (ho : E.look σ o = some (obL L)) (hs : Shut σ) :
 CallX Tryz.prog F.slices_stableCmpFunc_Part [.ref o 0 L.length, .int .i64 L.length, cmpC] σ
  (fun v s => v = .tup [] ∧ ∃ M : List Part, s = setOb σ o (obL M) ∧ M.Perm L ∧ SR M 0 M.length) := by
 have hoK : (E.look σ o).isSome = true := by rw [ho]; rfl
 have has : Has (setOb σ o (obL L)) σ := by
  intro p x
  rw [look_setOb]
  split
  ·rename_i e; rw [e, ho]; exact id
  ·exact id
 have hsX : ∀ X, Shut (setOb σ o (obL X)) := fun X => shut_set hs (plain_L _)
 have hoX : ∀ X, E.look (setOb σ o (obL X)) o = some (obL X) := fun X => by rw [look_setOb, if_pos rfl]
 refine callX_by F.slices_stableCmpFunc_Part_ok ?_
 unfold F.slices_stableCmpFunc_Part_c
 simp
 refine wm_loop (fun g : Nat × List Part => ((((((Sl.empty.set 8 (.int .i64 ((g.1 + 1) * 20 : Nat))).set 7 (.int .i64 (g.1 * 20 : Nat))).set 6 (.int .i64 20)).set 2 cmpC).set 1 (.int .i64 L.length)).set 0 (.ref o 0 L.length), setOb σ o (obL g.2)))
  (fun g => g.1 * 20 ≤ L.length ∧ g.2.Perm L ∧ Bl 20 g.2 (g.1 * 20)) (fun g => L.length - g.1 * 20) (0, L) ⟨by simp, .refl _, by simpa using Bl.zero 20 L⟩ ?_ ?_
 ·refine weak_gen ?_ has (keep_set keys_look) ?_ (hsX _)
  ·repeat (first | exact sub_empty | refine sub_set (by simp) ?_)
  ·repeat (first | exact sin_empty | refine sin_set (by simp [V.within]) ?_)
 rintro ⟨k, X⟩ ⟨h1, h2, h3⟩
 dsimp only at h1 h2 h3
 have lX : X.length = L.length := h2.length_eq
 have okX : ∀ p ∈ X, p.v.Ok := fun p hp => hO p (h2.mem_iff.1 hp)
 by_cases c : (k + 1) * 20 ≤ L.length
 ·have c' : ((k : Int) + 1) * 20 ≤ L.length := by omega
  have call := ins_sort (a := k * 20) (b := (k + 1) * 20) (L := X) (by omega) (by omega) okX (by omega) (hoX X) (hsX X)
  rw [lX] at call
  simp at call
  simp [c']
  refine callK_X call ?_
  rintro r s ⟨rfl, Y, e0, hY⟩
  rw [setOb2] at e0
  subst e0
  simp
  repeat simp (disch := omega) [wrap64]
  have e1 : ((k : Int) + 1) * 20 + 20 = ((k : Int) + 1 + 1) * 20 := by omega
  refine ⟨(k + 1, Y), ⟨c, hY.perm.trans h2, h3.step hY rfl⟩, by dsimp only; omega, ?_⟩
  refine weak_gen ?_ (Has.refl _) (keep_set keys_look) ?_ (hsX _)
  ·repeat (first | exact sub_empty | refine sub_set (by first | (simp; done) | (simp [e1]; done)) ?_)
  ·repeat (first | exact sin_empty | refine sin_set (by simp [V.within]) ?_)
 ·have c' : ¬ ((k : Int) + 1) * 20 ≤ L.length := by omega
  have call := ins_sort (a := k * 20) (b := L.length) (L := X) (by omega) (by omega) okX (by omega) (hoX X) (hsX X)
  rw [lX] at call
  simp at call
  simp [c']
  refine callK_X call ?_
  rintro r s ⟨rfl, Y, e0, hY⟩
  rw [setOb2] at e0
  subst e0
  have hYL := hY.perm.trans h2
  have hB : Bl 20 Y L.length := h3.step hY rfl
  clear call hY h3 h2 c c' okX lX
  simp
  refine wm_loop (fun g : Nat × List Part => ((((Sl.empty.set 6 (.int .i64 g.1)).set 2 cmpC).set 1 (.int .i64 L.length)).set 0 (.ref o 0 L.length), setOb σ o (obL g.2)))
   (fun g => 0 < g.1 ∧ g.1 ≤ 2000000 ∧ g.2.Perm L ∧ Bl g.1 g.2 L.length) (fun g => 2000000 - g.1) (20, Y) ⟨by simp, by simp, hYL, hB⟩ ?_ ?_
  ·refine weak_gen ?_ (Has.refl _) (keep_set keys_look) ?_ (hsX _)
   ·repeat (first | exact sub_empty | refine sub_set (by simp) ?_)
   ·repeat (first | exact sin_empty | refine sin_set (by simp [V.within]) ?_)
  rintro ⟨s, Z⟩ ⟨s0, s1, hZ, hBZ⟩
  dsimp only at s0 s1 hZ hBZ
  by_cases c : s < L.length
  ·simp [c]
   repeat simp (disch := omega) [wrap64]
   refine wm_loop (fun g : Nat × List Part => ((((((Sl.empty.set 8 (.int .i64 ((g.1 + 1) * (2 * s) : Nat))).set 7 (.int .i64 (g.1 * (2 * s) : Nat))).set 6 (.int .i64 s)).set 2 cmpC).set 1 (.int .i64 L.length)).set 0 (.ref o 0 L.length), setOb σ o (obL g.2)))
    (fun g => g.1 * (2 * s) ≤ L.length ∧ g.2.Perm L ∧ Bl s g.2 L.length ∧ Bl (2 * s) g.2 (g.1 * (2 * s))) (fun g => L.length - g.1 * (2 * s)) (0, Z) ⟨by simp, hZ, hBZ, by simpa using Bl.zero (2 * s) Z⟩ ?_ ?_
   ·refine weak_gen ?_ (Has.refl _) (keep_set keys_look) ?_ (hsX _)
    ·repeat (first | exact sub_empty | refine sub_set (by simp) ?_)
    ·repeat (first | exact sin_empty | refine sin_set (by simp [V.within]) ?_)
   rintro ⟨k, X⟩ ⟨h1, h2, h3, h4⟩
   dsimp only at h1 h2 h3 h4
   have lX : X.length = L.length := h2.length_eq
   have okX : ∀ p ∈ X, p.v.Ok := fun p hp => hO p (h2.mem_iff.1 hp)
   obtain ⟨A, hA⟩ : ∃ A : Nat, A = k * (2 * s) := ⟨_, rfl⟩
   have eB : (k + 1) * (2 * s) = A + 2 * s := by rw [Nat.add_mul, Nat.one_mul, hA]
   have eA : A = (2 * k) * s := by rw [hA, Nat.mul_comm 2 k, Nat.mul_assoc]
   have eA2 : (2 * k + 1) * s = A + s := by rw [Nat.add_mul, Nat.one_mul, eA]
   have eA3 : (2 * k + 1 + 1) * s = A + 2 * s := by rw [Nat.add_mul, Nat.one_mul, eA2]; omega
   rw [← hA] at h1 h4
   dsimp only
   rw [eB, ← hA]
   have sr1 : SR X A (A + s) ∨ L.length < A + s := by
    by_cases h : A + s ≤ L.length
    ·exact .inl (h3.sr (k := 2 * k) (by omega) (by omega) h)
    ·exact .inr (by omega)
   have mulk : IntKind.i64.wrap ((A : Int) + s) = ((A + s : Nat) : Int) := by rw [wrap64 (by omega) (by omega)]; omega
   by_cases c2 : A + 2 * s ≤ L.length
   ·have c2' : (A : Int) + 2 * s ≤ L.length := by omega
    have call := sym_merge _ (a := A) (m := A + s) (b := A + 2 * s) (L := X) (by omega) okX (Nat.le_refl _) (by omega) (by omega) (by omega) (sr1.resolve_right (by omega)) (h3.sr (k := 2 * k + 1) (by omega) (by omega) c2) (hoX X) (hsX X)
    rw [lX] at call
    simp at call
    simp [c2', mulk]
    refine callK_X call ?_
    rintro r s' ⟨rfl, Y, e0, hY⟩
    rw [setOb2] at e0
    subst e0
    simp
    repeat simp (disch := omega) [wrap64]
    have e5 : (k + 1 + 1) * (2 * s) = A + 2 * s + 2 * s := by rw [Nat.add_mul, Nat.one_mul, eB]
    refine ⟨(k + 1, Y), ⟨by dsimp only; omega, hY.perm.trans h2, h3.keep hY (j := 2 * k) (l := 2 * k + 1 + 1) eA (.inl eA3.symm), ?_⟩, by dsimp only; omega, ?_⟩
    ·dsimp only
     rw [eB]
     exact h4.step hY hA
    ·have e5i : (((k + 1 : Nat) : Int) + 1) * (2 * (s : Int)) = A + 2 * s + 2 * s := by exact_mod_cast e5
     have eBi : ((k + 1 : Nat) : Int) * (2 * (s : Int)) = A + 2 * s := by exact_mod_cast eB
     dsimp only
     rw [e5i, eBi]
     refine weak_gen ?_ (Has.refl _) (keep_set keys_look) ?_ (hsX _)
     ·repeat (first | exact sub_empty | refine sub_set (by simp) ?_)
     ·repeat (first | exact sin_empty | refine sin_set (by simp [V.within]) ?_)
   ·have c2' : ¬ (A : Int) + 2 * s ≤ L.length := by omega
    simp [c2', mulk]
    by_cases c3 : A + s < L.length
    ·have c3' : (A : Int) + s < L.length := by omega
     have call := sym_merge _ (a := A) (m := A + s) (b := L.length) (L := X) (by omega) okX (Nat.le_refl _) (by omega) (by omega) (by omega) (sr1.resolve_right (by omega)) (h3.sr (k := 2 * k + 1) (by omega) (by omega) (Nat.le_refl _)) (hoX X) (hsX X)
     rw [lX] at call
     simp at call
     have c3n : ¬ (L.length : Int) ≤ A + s := by omega
     simp [c3', c3n]
     refine callK_X call ?_
     rintro r s' ⟨rfl, Y, e0, hY⟩
     rw [setOb2] at e0
     subst e0
     simp
     repeat simp (disch := omega) [wrap64]
     have e6 : (s : Int) * 2 = ((2 * s : Nat) : Int) := by omega
     rw [e6]
     refine ⟨(2 * s, Y), ⟨by dsimp only; omega, by dsimp only; omega, hY.perm.trans h2, h4.step hY hA⟩, by dsimp only; omega, ?_⟩
     refine weak_gen ?_ (Has.refl _) (keep_set keys_look) ?_ (hsX _)
     ·repeat (first | exact sub_empty | refine sub_set (by simp) ?_)
     ·repeat (first | exact sin_empty | refine sin_set (by simp [V.within]) ?_)
    ·have c3' : ¬ (A : Int) + s < L.length := by omega
     have c3n : (L.length : Int) ≤ A + s := by omega
     simp [c3', c3n]
     repeat simp (disch := omega) [wrap64]
     have e6 : (s : Int) * 2 = ((2 * s : Nat) : Int) := by omega
     rw [e6]
     refine ⟨(2 * s, X), ⟨by dsimp only; omega, by dsimp only; omega, h2, h4.last h3 hA (by omega)⟩, by dsimp only; omega, ?_⟩
     refine weak_gen ?_ (Has.refl _) (keep_set keys_look) ?_ (hsX _)
     ·repeat (first | exact sub_empty | refine sub_set (by simp) ?_)
     ·repeat (first | exact sin_empty | refine sin_set (by simp [V.within]) ?_)
  ·have c' : ¬ (s : Int) < L.length := by omega
   simp [c, c']
   refine doneX_gen (r := .tup []) (l := []) (by simp) (by simp) rfl (Has.refl _) (keep_set keys_look) (hsX _) (by simp) ⟨rfl, Z, rfl, hZ, ?_⟩
   rw [hZ.length_eq]
   exact hBZ.sr (k := 0) (by omega) (by omega) (Nat.le_refl _)
theorem sort_Part (hl : L.length ≤ 1000000) (hO : ∀ p ∈ L, p.v.Ok) (ho : E.look σ o = some (obL L)) (hs : Shut σ) :
 CallX Tryz.prog F.slices_SortStableFunc_Part_Part [.ref o 0 L.length, cmpC] σ
  (fun v s => v = .tup [] ∧ ∃ M : List Part, s = setOb σ o (obL M) ∧ M.Perm L ∧ SR M 0 M.length) := by
 refine callX_by F.slices_SortStableFunc_Part_Part_ok ?_
 unfold F.slices_SortStableFunc_Part_Part_c
 simp
 refine callK_X (stable_Part hl hO ho hs) ?_
 rintro r s ⟨rfl, M, rfl, h1, h2⟩
 simp
 exact doneX_gen (r := .tup []) (l := []) (by simp) (by simp) rfl (Has.refl _) (keep_set keys_look) (shut_set hs (plain_L _)) (by simp) ⟨rfl, M, rfl, h1, h2⟩
end
end Go.Proofs.YtipbefckimdkkaaGreat
