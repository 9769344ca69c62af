import Derived.Test.YtmjgehbpcchjpaaGreatDoorGO
import Derived.Test.YtmjgehbpcchjpaaGreatDoorGE
import Derived.KernelRfl
import Derived.Test.YtmjgehbpcchjpaaGreatDoorJTTy
namespace Go.Proofs.YtmjgehbpcchjpaaGreatDoor
open Go Go.Proofs Go.Proofs.YtmjgehbpcchjpaaGreatDoor.E
set_option linter.unusedSimpArgs false
set_option linter.unusedVariables false
inductive E.Shp where
 | b
 | i (k : IntKind)
 | sl (e : TypeId)
 | st (l : List TypeId)
 | ar (n : Nat) (e : TypeId)
def E.shOf (P : Program) (t : TypeId) : Option Shp := match P.underlying t with
 | some .bool => some .b
 | some (.int k) => some (.i k)
 | some (.slice e) => some (.sl e)
 | some (.struct fs) => some (.st (fs.toList.map (·.type)))
 | some (.array n e) => some (.ar n e)
 | _ => none
section
variable {P : Program} {n : Nat} {t : TypeId} {vs : List V}
theorem E.typed_b (h : shOf P t = some .b) (hv : bZ P n t vs) : ∃ b, vs = [.bool b] := by
 cases n with
 | zero => exact hv.elim
 | succ n =>
   unfold shOf at h; unfold bZ at hv
   split at h <;> simp_all
theorem E.typed_i {k : IntKind} (h : shOf P t = some (.i k)) (hv : bZ P n t vs) : ∃ x, vs = [.int k x] ∧ (Lit.int k x).wf = true := by
 cases n with
 | zero => exact hv.elim
 | succ n =>
   unfold shOf at h; unfold bZ at hv
   split at h <;> simp_all
theorem E.typed_sl {e : TypeId} (h : shOf P t = some (.sl e)) (hv : bZ P n t vs) : ∃ l : List (List V), vs = [.dat l] ∧ l.length ≤ maxLen ∧ ∃ m, m < n ∧ ∀ x ∈ l, bZ P m e x := by
 cases n with
 | zero => exact hv.elim
 | succ n =>
   unfold shOf at h; unfold bZ at hv
   split at h <;> simp_all
   obtain ⟨l, h1, h2, h3⟩ := hv
   exact ⟨l, h1, h2, n, by omega, h3⟩
theorem E.typed_st {l : List TypeId} (h : shOf P t = some (.st l)) (hv : bZ P n t vs) : ∃ m, m < n ∧ dW (bZ P m) l vs := by
 cases n with
 | zero => exact hv.elim
 | succ n =>
   unfold shOf at h; unfold bZ at hv
   split at h <;> simp_all
   exact ⟨n, by omega, hv⟩
theorem E.typed_ar {m : Nat} {e : TypeId} (h : shOf P t = some (.ar m e)) (hv : bZ P n t vs) : ∃ k, k < n ∧ dW (bZ P k) (List.replicate m e) vs := by
 cases n with
 | zero => exact hv.elim
 | succ n =>
   unfold shOf at h; unfold bZ at hv
   split at h <;> simp_all
   exact ⟨n, by omega, hv⟩
end
theorem E.list_of {α : Type} {f : α → List V} {p : α → Prop} : ∀ {l : List (List V)}, (∀ x ∈ l, ∃ a, x = f a ∧ p a) → ∃ us : List α, l = us.map f ∧ ∀ a ∈ us, p a
 | [], _ => ⟨[], rfl, by simp⟩
 | x :: l, h => by
   obtain ⟨a, rfl, ha⟩ := h x (by simp)
   obtain ⟨us, rfl, has⟩ := list_of (l := l) fun y hy => h y (by simp [hy])
   exact ⟨a :: us, rfl, by intro b hb; simp at hb; rcases hb with rfl | hb; exact ha; exact has b hb⟩
theorem E.all_nil {R : TypeId → List V → Prop} {vs : List V} (h : dW R [] vs) : vs = [] := h
theorem E.all_cons {R : TypeId → List V → Prop} {t : TypeId} {r : List TypeId} {vs : List V} (h : dW R (t :: r) vs) : ∃ x y, vs = x ++ y ∧ R t x ∧ dW R r y := h
theorem rng64 {x : Int} (h1 : IntKind.i64.min ≤ x) (h2 : x ≤ IntKind.i64.max) : -9223372036854775808 ≤ x ∧ x < 9223372036854775808 := by
 have a : IntKind.i64.min = -9223372036854775808 := by decide
 have b : IntKind.i64.max = 9223372036854775807 := by decide
 omega
theorem rng32 {x : Int} (h1 : IntKind.u32.min ≤ x) (h2 : x ≤ IntKind.u32.max) : 0 ≤ x ∧ x < 4294967296 := by
 have a : IntKind.u32.min = 0 := by decide
 have b : IntKind.u32.max = 4294967295 := by decide
 omega
theorem qj {n : Nat} {vs : List V} (h : bZ Tryz.prog n T.int vs) : ∃ x, vs = [.int .i64 x] ∧ -9223372036854775808 ≤ x ∧ x < 9223372036854775808 := by
 obtain ⟨x, rfl, hw⟩ := E.typed_i (k := .i64) (by kernel_rfl) h
 refine ⟨x, rfl, ?_⟩
 have e1 := of_decide_eq_true ((Bool.and_eq_true _ _ ▸ hw).1)
 have e2 := of_decide_eq_true ((Bool.and_eq_true _ _ ▸ hw).2)
 exact rng64 e1 e2
theorem read_dig {n : Nat} {vs : List V} (h : bZ Tryz.prog n T.u32 vs) : ∃ x, vs = [.int .u32 x] ∧ 0 ≤ x ∧ x < 4294967296 := by
 obtain ⟨x, rfl, hw⟩ := E.typed_i (k := .u32) (by kernel_rfl) h
 refine ⟨x, rfl, ?_⟩
 have e1 := of_decide_eq_true ((Bool.and_eq_true _ _ ▸ hw).1)
 have e2 := of_decide_eq_true ((Bool.and_eq_true _ _ ▸ hw).2)
 exact rng32 e1 e2
theorem ql {n : Nat} {vs : List V} (h : bZ Tryz.prog n T.nat vs) : ∃ l, vs = [nat l] ∧ Dig l ∧ l.length ≤ maxLen := by
 obtain ⟨l, rfl, hl, m, _, h⟩ := E.typed_sl (e := T.u32) (by kernel_rfl) h
 obtain ⟨ds, rfl, hd⟩ := E.list_of (f := fun d => [V.int .u32 d]) (p := fun d => 0 ≤ d ∧ d < 4294967296) fun x hx => read_dig (h x hx)
 exact ⟨ds, rfl, hd, by simpa using hl⟩
theorem sQ : ∀ {n : Nat} {vs : List V}, bZ Tryz.prog n T.value vs → ∃ t : Tr, vs = t.cells ∧ t.Ok := by
 intro n
 induction n using Nat.strongRecOn with
 | ind n ih =>
   intro vs h
   obtain ⟨m, hm, h⟩ := E.typed_st (l := [T.int, T.int, T.values]) (by kernel_rfl) h
   obtain ⟨a, y, rfl, ha, h⟩ := E.all_cons h
   obtain ⟨b, z, rfl, hb, h⟩ := E.all_cons h
   obtain ⟨c, w, rfl, hc, h⟩ := E.all_cons h
   have := E.all_nil h
   subst this
   obtain ⟨k, rfl, hk⟩ := qj ha
   obtain ⟨n', rfl, hn⟩ := qj hb
   obtain ⟨l, rfl, hl, m', hm', hc⟩ := E.typed_sl (e := T.value) (by kernel_rfl) hc
   obtain ⟨ts, rfl, ht⟩ := E.list_of (f := Tr.cells) (p := Tr.Ok) fun x hx => ih m' (by omega) (hc x hx)
   refine ⟨.mk k n' ts, ?_, .mk hk hn ?_ ht⟩
   ·rw [ct]; rfl
   ·have : maxLen = 9223372036854775807 := rfl
    simp at hl; omega
theorem gc {n : Nat} {vs : List V} (h : bZ Tryz.prog n T.ratio vs) : ∃ x : Raw, vs = x.c ∧ x.Ok maxLen := by
 obtain ⟨m, _, h⟩ := E.typed_st (l := [T.bool, T.nat, T.nat]) (by kernel_rfl) h
 obtain ⟨a, y, rfl, ha, h⟩ := E.all_cons h
 obtain ⟨b, z, rfl, hb, h⟩ := E.all_cons h
 obtain ⟨c, w, rfl, hc, h⟩ := E.all_cons h
 have := E.all_nil h
 subst this
 obtain ⟨g, rfl⟩ := E.typed_b (by kernel_rfl) ha
 obtain ⟨x, rfl, hx, lx⟩ := ql hb
 obtain ⟨y, rfl, hy, ly⟩ := ql hc
 exact ⟨⟨g, x, y⟩, rfl, hx, hy, lx, ly⟩
theorem sP {n : Nat} {vs : List V} (h : bZ Tryz.prog n T.part vs) : ∃ p : Part, vs = aA p ∧ p.Ok maxLen := by
 obtain ⟨m, _, h⟩ := E.typed_st (l := [T.value, T.ratio]) (by kernel_rfl) h
 obtain ⟨a, y, rfl, ha, h⟩ := E.all_cons h
 obtain ⟨b, z, rfl, hb, h⟩ := E.all_cons h
 have := E.all_nil h
 subst this
 obtain ⟨t, rfl, ht⟩ := sQ ha
 obtain ⟨x, rfl, hx⟩ := gc hb
 exact ⟨⟨t, x⟩, by simp [aA], ht, hx⟩
theorem rj {l : List (List V)} (h : ∃ n, bZ Tryz.prog n T.parts [.dat l]) : ∃ ps : List Part, l = ps.map aA ∧ ps.length ≤ maxLen ∧ ∀ p ∈ ps, p.Ok maxLen := by
 obtain ⟨n, h⟩ := h
 obtain ⟨l', e, hl, m, _, h⟩ := E.typed_sl (e := T.part) (by kernel_rfl) h
 injection e with e _; injection e with e; subst e
 obtain ⟨ps, rfl, hp⟩ := E.list_of (f := aA) (p := fun p => p.Ok maxLen) fun x hx => sP (h x hx)
 exact ⟨ps, rfl, by simpa using hl, hp⟩
end Go.Proofs.YtmjgehbpcchjpaaGreatDoor
