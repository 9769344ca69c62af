import Derived.Test.YtkockkfmjmheeaaGreatGO
import Derived.Test.YtkockkfmjmheeaaGreatGE
import Derived.KernelRfl
import Derived.Test.YtkockkfmjmheeaaGreatJTTy
import Derived.Test.YtkockkfmjmheeaaGreatGP
namespace Go.Proofs.YtkockkfmjmheeaaGreat.F
open Go Go.Proofs Go.Proofs.YtkockkfmjmheeaaGreat.E Go.Proofs.YtkockkfmjmheeaaGreat.Q
abbrev law30_Many : Nat := 10
def law30_Many_c : MFn := ⟨26,(.seq (r [o 1 (.box (.t 0)),o 2 (.mv (i 0))] [1]) (.seq (r [o 3 (.mv (i 1))] [1,3]) (.seq (.seq (r [o 4 (.mv (i 0))] [1,3,4]) (.block 0 (.loop (.seq (.seq (r [o 5 (.mv (.t 4)),o 6 (.fA 2 (.t 1)),o 7 (.ld none (.t 6)),o 8 (.lenS (.t 7)),o 9 (.bin .lss (.t 5) (.t 8)),o 10 (.mv (.t 9)),y 11 10 (.mv (.t 3)),y 12 10 (.bin .leq (.t 11) (i 1000)),o 13 (.pick (.t 10) (.t 12) (.c (.bool false)))] [1,3,4,13]) (.cond (.t 13) .skip (.exit 0))) (.seq (.block 1 (r [o 16 (.mv (.t 3)),o 17 (.fA 2 (.t 1)),o 18 (.ld none (.t 17)),o 19 (.mv (.t 4)),o 20 (.ixA 3 (.t 18) (.t 19)),o 21 (.ld (some 3) (.t 20)),o 22 (.call 10 [(.t 21)]),o 23 (.bin .add (.t 16) (.t 22)),o 3 (.mv (.t 23))] [1,3,4])) (r [o 14 (.mv (.t 4)),o 15 (.bin .add (.t 14) (i 1)),o 4 (.mv (.t 15))] [1,3,4])))))) (.seq (r [o 24 (.mv (.t 3)),o 25 (.min2 (.t 24) (i 1001)),o 2 (.mv (.t 25))] [2]) .ret)))),[.t 2]⟩
theorem law30_Many_ok : cFn Tryz.prog (kps [[1],[1,3],[1,3,4],[1,3,4,13],[1,3,4],[1,3,4],[2]]) [] 10 = some law30_Many_c := by kernel_rfl
end Go.Proofs.YtkockkfmjmheeaaGreat.F

namespace Go.Proofs.YtkockkfmjmheeaaGreat
open Go Go.Proofs Go.Proofs.YtkockkfmjmheeaaGreat.E
set_option linter.unusedSimpArgs false
set_option linter.unusedVariables false
inductive E.Shp where
 | b
 | i (k : IntKind)
 | sl (e : TypeId)
 | st (l : List TypeId)
 | ar (n : Nat) (e : TypeId)
def E.shOf (P : Program) (t : TypeId) : Option Shp := match P.underlying t with
 | some .bool => some .b
 | some (.int k) => some (.i k)
 | some (.slice e) => some (.sl e)
 | some (.struct fs) => some (.st (fs.toList.map (·.type)))
 | some (.array n e) => some (.ar n e)
 | _ => none
section
variable {P : Program} {n : Nat} {t : TypeId} {vs : List V}
theorem E.typed_b (h : shOf P t = some .b) (hv : Typed P n t vs) : ∃ b, vs = [.bool b] := by
 cases n with
 | zero => exact hv.elim
 | succ n =>
   unfold shOf at h; unfold Typed at hv
   split at h <;> simp_all
theorem E.typed_i {k : IntKind} (h : shOf P t = some (.i k)) (hv : Typed P n t vs) : ∃ x, vs = [.int k x] ∧ (Lit.int k x).wf = true := by
 cases n with
 | zero => exact hv.elim
 | succ n =>
   unfold shOf at h; unfold Typed at hv
   split at h <;> simp_all
theorem E.typed_sl {e : TypeId} (h : shOf P t = some (.sl e)) (hv : Typed P n t vs) : ∃ l : List (List V), vs = [.dat l] ∧ l.length ≤ maxLen ∧ ∃ m, m < n ∧ ∀ x ∈ l, Typed P m e x := by
 cases n with
 | zero => exact hv.elim
 | succ n =>
   unfold shOf at h; unfold Typed at hv
   split at h <;> simp_all
   obtain ⟨l, h1, h2, h3⟩ := hv
   exact ⟨l, h1, h2, n, by omega, h3⟩
theorem E.typed_st {l : List TypeId} (h : shOf P t = some (.st l)) (hv : Typed P n t vs) : ∃ m, m < n ∧ TypedAll (Typed P m) l vs := by
 cases n with
 | zero => exact hv.elim
 | succ n =>
   unfold shOf at h; unfold Typed at hv
   split at h <;> simp_all
   exact ⟨n, by omega, hv⟩
end
theorem E.list_of {α : Type} {f : α → List V} {p : α → Prop} : ∀ {l : List (List V)}, (∀ x ∈ l, ∃ a, x = f a ∧ p a) → ∃ us : List α, l = us.map f ∧ ∀ a ∈ us, p a
 | [], _ => ⟨[], rfl, by simp⟩
 | x :: l, h => by
   obtain ⟨a, rfl, ha⟩ := h x (by simp)
   obtain ⟨us, rfl, has⟩ := list_of (l := l) fun y hy => h y (by simp [hy])
   exact ⟨a :: us, rfl, by intro b hb; simp at hb; rcases hb with rfl | hb; exact ha; exact has b hb⟩
theorem E.all_nil {R : TypeId → List V → Prop} {vs : List V} (h : TypedAll R [] vs) : vs = [] := h
theorem E.all_cons {R : TypeId → List V → Prop} {t : TypeId} {r : List TypeId} {vs : List V} (h : TypedAll R (t :: r) vs) : ∃ x y, vs = x ++ y ∧ R t x ∧ TypedAll R r y := h
theorem rng64 {x : Int} (h1 : IntKind.i64.min ≤ x) (h2 : x ≤ IntKind.i64.max) : -9223372036854775808 ≤ x ∧ x < 9223372036854775808 := by
 have a : IntKind.i64.min = -9223372036854775808 := by decide
 have b : IntKind.i64.max = 9223372036854775807 := by decide
 omega
theorem rng32 {x : Int} (h1 : IntKind.u32.min ≤ x) (h2 : x ≤ IntKind.u32.max) : 0 ≤ x ∧ x < 4294967296 := by
 have a : IntKind.u32.min = 0 := by decide
 have b : IntKind.u32.max = 4294967295 := by decide
 omega
theorem read_int {n : Nat} {vs : List V} (h : Typed Tryz.prog n T.int vs) : ∃ x, vs = [.int .i64 x] ∧ -9223372036854775808 ≤ x ∧ x < 9223372036854775808 := by
 obtain ⟨x, rfl, hw⟩ := E.typed_i (k := .i64) (by kernel_rfl) h
 refine ⟨x, rfl, ?_⟩
 have e1 := of_decide_eq_true ((Bool.and_eq_true _ _ ▸ hw).1)
 have e2 := of_decide_eq_true ((Bool.and_eq_true _ _ ▸ hw).2)
 exact rng64 e1 e2
theorem read_dig {n : Nat} {vs : List V} (h : Typed Tryz.prog n T.u32 vs) : ∃ x, vs = [.int .u32 x] ∧ 0 ≤ x ∧ x < 4294967296 := by
 obtain ⟨x, rfl, hw⟩ := E.typed_i (k := .u32) (by kernel_rfl) h
 refine ⟨x, rfl, ?_⟩
 have e1 := of_decide_eq_true ((Bool.and_eq_true _ _ ▸ hw).1)
 have e2 := of_decide_eq_true ((Bool.and_eq_true _ _ ▸ hw).2)
 exact rng32 e1 e2
theorem read_nat {n : Nat} {vs : List V} (h : Typed Tryz.prog n T.nat vs) : ∃ l, vs = [nat l] ∧ Dig l ∧ l.length ≤ maxLen := by
 obtain ⟨l, rfl, hl, m, _, h⟩ := E.typed_sl (e := T.u32) (by kernel_rfl) h
 obtain ⟨ds, rfl, hd⟩ := E.list_of (f := fun d => [V.int .u32 d]) (p := fun d => 0 ≤ d ∧ d < 4294967296) fun x hx => read_dig (h x hx)
 exact ⟨ds, rfl, hd, by simpa using hl⟩
theorem read_tree : ∀ {n : Nat} {vs : List V}, Typed Tryz.prog n T.value vs → ∃ t : Tr, vs = t.cells ∧ t.Ok := by
 intro n
 induction n using Nat.strongRecOn with
 | ind n ih =>
   intro vs h
   obtain ⟨m, hm, h⟩ := E.typed_st (l := [T.int, T.int, T.values]) (by kernel_rfl) h
   obtain ⟨a, y, rfl, ha, h⟩ := E.all_cons h
   obtain ⟨b, z, rfl, hb, h⟩ := E.all_cons h
   obtain ⟨c, w, rfl, hc, h⟩ := E.all_cons h
   have := E.all_nil h
   subst this
   obtain ⟨k, rfl, hk⟩ := read_int ha
   obtain ⟨n', rfl, hn⟩ := read_int hb
   obtain ⟨l, rfl, hl, m', hm', hc⟩ := E.typed_sl (e := T.value) (by kernel_rfl) hc
   obtain ⟨ts, rfl, ht⟩ := E.list_of (f := Tr.cells) (p := Tr.Ok) fun x hx => ih m' (by omega) (hc x hx)
   refine ⟨.mk k n' ts, ?_, .mk hk hn ?_ ht⟩
   ·rw [cells_mk]; rfl
   ·have : maxLen = 9223372036854775807 := rfl
    simp at hl; omega
theorem read_raw {n : Nat} {vs : List V} (h : Typed Tryz.prog n T.ratio vs) : ∃ x : Raw, vs = x.c ∧ x.Ok maxLen := by
 obtain ⟨m, _, h⟩ := E.typed_st (l := [T.bool, T.nat, T.nat]) (by kernel_rfl) h
 obtain ⟨a, y, rfl, ha, h⟩ := E.all_cons h
 obtain ⟨b, z, rfl, hb, h⟩ := E.all_cons h
 obtain ⟨c, w, rfl, hc, h⟩ := E.all_cons h
 have := E.all_nil h
 subst this
 obtain ⟨g, rfl⟩ := E.typed_b (by kernel_rfl) ha
 obtain ⟨x, rfl, hx, lx⟩ := read_nat hb
 obtain ⟨y, rfl, hy, ly⟩ := read_nat hc
 exact ⟨⟨g, x, y⟩, rfl, hx, hy, lx, ly⟩
mutual
/-- How many values a value holds, up to a bound. -/
def E.manyT : Tr → Int
 | .mk _ _ l => min (manyL l 1) 1001
def E.manyL : List Tr → Int → Int
 | [], n => n
 | a :: l, n => if n ≤ 1000 then manyL l (n + manyT a) else n
end
theorem E.manyT_mk (k n : Int) (l : List Tr) : manyT (.mk k n l) = min (manyL l 1) 1001 := by rw [manyT]
theorem E.manyL_step {l : List Tr} {i : Nat} (h : i < l.length) (n : Int) : manyL (l.drop i) n = if n ≤ 1000 then manyL (l.drop (i + 1)) (n + manyT l[i]) else n := by
 rw [List.drop_eq_getElem_cons h, manyL]
theorem E.manyL_end {l : List Tr} {i : Nat} (h : l.length ≤ i) (n : Int) : manyL (l.drop i) n = n := by
 rw [List.drop_eq_nil_of_le h, manyL]
theorem E.manyL_ge : ∀ {l : List Tr} {n : Int}, 1 ≤ n → (∀ x ∈ l, 1 ≤ manyT x) → 1 ≤ manyL l n
 | [], n, h, _ => by rw [manyL]; exact h
 | a :: l, n, h, ha => by
   rw [manyL]
   split
   ·have := ha a (by simp)
    exact manyL_ge (by omega) fun x hx => ha x (by simp [hx])
   ·exact h
theorem E.manyT_range (t : Tr) : 1 ≤ manyT t ∧ manyT t ≤ 1001 := by
 induction t using Tr.ind with
 | h k n l ih =>
   rw [manyT_mk]
   have := manyL_ge (l := l) (n := 1) (by omega) fun x hx => (ih x hx).1
   omega
theorem law30_Many : ∀ {t : Tr}, t.Ok → CallD Tryz.prog F.law30_Many [.agg t.cells] (· = .int .i64 (manyT t)) := by
 intro t
 induction t using Tr.ind with
 | h k n l ih =>
   intro ht
   cases ht with
   | mk hk hn hl hc =>
   refine callD_by F.law30_Many_ok ?_
   unfold F.law30_Many_c
   rw [manyT_mk]
   simp [cells_mk, setOb, List.filter_cons]
   refine wm_loop (fun g : Nat × Int => (((Sl.empty.set 4 (.int .i64 g.1)).set 3 (.int .i64 g.2)).set 1 (.ptr 0 0 0), [(0, ⟨.own, 3, [(Tr.mk k n l).cells]⟩)]))
    (fun g => g.1 ≤ l.length ∧ 1 ≤ g.2 ∧ g.2 ≤ 2001 ∧ manyL l 1 = manyL (l.drop g.1) g.2) (fun g => l.length - g.1) (0, 1) ⟨by simp, by simp, by simp, by simp⟩ ?_ ?_
   ·refine weak_obs ?_ (by simp [cells_mk]) (by repeat (first | exact sin_empty | refine sin_set (by simp) ?_)) (by simp [cells_mk])
    repeat (first | exact sub_empty | refine sub_set (by simp) ?_)
   rintro ⟨i, m⟩ ⟨hi, h1, h2, hm⟩
   dsimp only at hi h1 h2 hm
   by_cases h3 : i < l.length
   ·rw [manyL_step h3] at hm
    by_cases h4 : m ≤ 1000
    ·rw [if_pos h4] at hm
     have hr := manyT_range l[i]
     simp [h3, h4, cells_mk]
     refine callK_of (ih l[i] (List.getElem_mem h3) (hc _ (List.getElem_mem h3))) (by simp [toD_cells]) ?_
     simp
     rw [wrap64 (by omega) (by omega), wrap64 (by omega) (by omega)]
     refine ⟨(i + 1, m + manyT l[i]), ⟨h3, by dsimp only; omega, by dsimp only; omega, hm⟩, by dsimp only; omega, ?_⟩
     refine weak_obs ?_ (by simp [cells_mk]) (by repeat (first | exact sin_empty | refine sin_set (by simp) ?_)) (by simp [cells_mk])
     repeat (first | exact sub_empty | refine sub_set (by simp) ?_)
    ·rw [if_neg h4] at hm
     simp [h3, h4, cells_mk, hm]
     rw [Int.min_def]; split <;> split <;> omega
   ·rw [manyL_end (by omega)] at hm
    simp [h3, cells_mk, hm]
    rw [Int.min_def]; split <;> split <;> omega
theorem Part.Ok.mono {p : Part} {j k : Nat} (h : p.Ok j) (hk : j ≤ k) : p.Ok k := ⟨h.v, h.w.dn, h.w.dd, Nat.le_trans h.w.ln hk, Nat.le_trans h.w.ld hk⟩
theorem E.Raw.Ok.mono {p : Raw} {j k : Nat} (h : p.Ok j) (hk : j ≤ k) : p.Ok k := ⟨h.dn, h.dd, Nat.le_trans h.ln hk, Nat.le_trans h.ld hk⟩
end Go.Proofs.YtkockkfmjmheeaaGreat
