import Derived.Test.YtmjgehbpcchjpaaGreatDoorIC
import Derived.Test.YtmjgehbpcchjpaaGreatDoorIA
import Derived.Test.YtmjgehbpcchjpaaGreatDoorIB
import Derived.Test.YtmjgehbpcchjpaaGreatDoorHW
namespace Go.Proofs.YtmjgehbpcchjpaaGreatDoor
open Go Go.Proofs Go.Proofs.YtmjgehbpcchjpaaGreatDoor.E
set_option linter.unusedSimpArgs false
set_option linter.unusedVariables false
theorem totQ_bindM {m : Ms} {g : Tr → Ms} (h : ∀ p ∈ m.parts, totQ (g p.v) = 1) : totQ (bindM m g) = totQ m := by
 obtain ⟨e1, e2, e3, e4, e5⟩ := bindM_q m g
 have ep : psum (bindM m g).parts = hsum (fun v => psum (g v).parts) m.parts := by
  rw [psum_hsum, hsum_bindM]
  exact hsum_ext fun p _ => (psum_hsum _).symm
 have key : hsum (fun v => psum (g v).parts) m.parts + (hsum (fun v => (g v).f0.q) m.parts + hsum (fun v => (g v).f1.q) m.parts + hsum (fun v => (g v).f2.q) m.parts) + (hsum (fun v => (g v).rf.q) m.parts + hsum (fun v => (g v).lo.q) m.parts) = psum m.parts := by
  rw [psum_hsum, ← hsum_add, ← hsum_add, ← hsum_add, ← hsum_add, ← hsum_add]
  refine hsum_ext fun p hp => ?_
  have := h p hp
  rw [totQ_eq] at this
  exact this
 rw [totQ_eq, totQ_eq, e1, e2, e3, e4, e5, ep]
 grind
theorem sumBy_ext {α : Type} {f g : α → Rat} {l : List α} (h : ∀ x ∈ l, f x = g x) : sumBy f l = sumBy g l := by
 induction l with
 | nil => rfl
 | cons a l ih => rw [sumBy_cons, sumBy_cons, h a (by simp), ih fun x hx => h x (by simp [hx])]
theorem psum_mixM (L : List (Ms × Rat)) : psum (mixM L).parts = sumBy (fun x => psum x.1.parts * x.2) L := by
 show psum (L.map fun x => normP (sclP x.1.parts x.2)).flatten = _
 induction L with
 | nil => rfl
 | cons a L ih => rw [List.map_cons, List.flatten_cons, psum_append, ih, psum_normP, psum_sclP, sumBy_cons]
theorem wsum_mixM (L : List (Ms × Rat)) (v : Tr) : wsum (mixM L).parts v = sumBy (fun x => wsum x.1.parts v * x.2) L := by
 show wsum (L.map fun x => normP (sclP x.1.parts x.2)).flatten v = _
 induction L with
 | nil => rfl
 | cons a L ih => rw [List.map_cons, List.flatten_cons, wsum_append, ih, wsum_normP, wsum_sclP, sumBy_cons]
theorem totQ_mixM (L : List (Ms × Rat)) : totQ (mixM L) = sumBy (fun x => totQ x.1 * x.2) L := by
 have e : sumBy (fun x : Ms × Rat => totQ x.1 * x.2) L = sumBy (fun x => psum x.1.parts * x.2) L + (sumBy (fun x => x.1.f0.q * x.2) L + sumBy (fun x => x.1.f1.q * x.2) L + sumBy (fun x => x.1.f2.q * x.2) L) + (sumBy (fun x => x.1.rf.q * x.2) L + sumBy (fun x => x.1.lo.q * x.2) L) := by
  rw [← sumBy_add, ← sumBy_add, ← sumBy_add, ← sumBy_add, ← sumBy_add]
  refine sumBy_ext fun x _ => ?_
  rw [totQ_eq]; grind
 rw [e, totQ_eq, psum_mixM]
 simp only [mixM, rawOf_q]
theorem isum_rat (odds : List Int) (d : Nat) (hd : d ≠ 0) : sumBy (fun r : Rat => r) (odds.map fun n => mkRat n d) = mkRat (isum odds) d := by
 induction odds with
 | nil => simp [sumBy, isum]
 | cons a l ih =>
   have e : isum (a :: l) = a + isum l := rfl
   rw [List.map_cons, sumBy_cons, ih, e, Rat.mkRat_eq_div, Rat.mkRat_eq_div, Rat.mkRat_eq_div, Rat.intCast_add]
   grind
theorem zip_snd {ms : List Ms} {ws : List Rat} (h : ms.length = ws.length) : sumBy (fun x : Ms × Rat => x.2) (ms.zip ws) = sumBy (fun r : Rat => r) ws := by
 induction ms generalizing ws with
 | nil =>
   have : ws = [] := List.length_eq_zero_iff.1 (by rw [← h]; rfl)
   subst this; rfl
 | cons a ms ih =>
   cases ws with
   | nil => simp at h
   | cons b ws => rw [List.zip_cons_cons, sumBy_cons, sumBy_cons, ih (by simpa using h)]
theorem totQ_mix {ms : List Ms} {odds : List Int} (hl : ms.length = odds.length) (h0 : 0 < isum odds) (h : ∀ x ∈ ms, totQ x = 1) : totQ (normM (mixM (ms.zip (oddsR odds)))) = 1 := by
 rw [totQ_normM, totQ_mixM]
 have e : sumBy (fun x : Ms × Rat => totQ x.1 * x.2) (ms.zip (oddsR odds)) = sumBy (fun x : Ms × Rat => x.2) (ms.zip (oddsR odds)) := sumBy_ext fun x hx => by
  rw [h x.1 (List.of_mem_zip hx).1, Rat.one_mul]
 rw [e, zip_snd (by simp [oddsR, hl])]
 unfold oddsR
 have hd : (isum odds).toNat ≠ 0 := by omega
 rw [isum_rat odds _ hd, Rat.mkRat_eq_div]
 have e2 : ((isum odds).toNat : Rat) = (isum odds : Rat) := by
  have : (((isum odds).toNat : Int) : Rat) = (isum odds : Rat) := by rw [Int.toNat_of_nonneg (by omega)]
  rw [← this]; rfl
 have e3 : (isum odds : Rat) ≠ 0 := by
  intro h
  have := Rat.intCast_inj.1 (h.trans (show (0 : Rat) = ((0 : Int) : Rat) from rfl))
  omega
 rw [e2]
 rw [Rat.div_def]; exact Rat.mul_inv_cancel _ e3
end Go.Proofs.YtmjgehbpcchjpaaGreatDoor

namespace Go.Proofs.YtmjgehbpcchjpaaGreatDoor
open Go Go.Proofs Go.Proofs.YtmjgehbpcchjpaaGreatDoor.E
set_option linter.unusedSimpArgs false
set_option linter.unusedVariables false
theorem read_masses {l : List (List V)} (h : ∃ n, Typed Tryz.prog n T.masses [.dat l]) : ∃ ms : List Ms, l = ms.map msC ∧ ms.length ≤ maxLen ∧ ∀ m ∈ ms, m.Ok maxLen ∧ m.parts.length ≤ maxLen := by
 obtain ⟨n, h⟩ := h
 obtain ⟨l', e, hl, m, _, h⟩ := E.typed_sl (e := T.mass) (by kernel_rfl) h
 injection e with e _; injection e with e; subst e
 obtain ⟨ps, rfl, hp⟩ := E.list_of (f := msC) (p := fun m => m.Ok maxLen ∧ m.parts.length ≤ maxLen) fun x hx => by
  obtain ⟨m, e, h1, h2⟩ := read_mass (h x hx)
  exact ⟨m, e, h1, h2⟩
 exact ⟨ps, rfl, by simpa using hl, hp⟩
def valsM (l : List Ms) : List Tr := (l.map fun m => m.parts.map Part.v).flatten
theorem valsM_len : ∀ {l : List Ms} {b : Nat}, (∀ m ∈ l, m.parts.length ≤ b) → (valsM l).length ≤ l.length * b
 | [], _, _ => by simp [valsM]
 | a :: l, b, h => by
   have h1 := h a (by simp)
   have h2 := valsM_len (l := l) (b := b) fun x hx => h x (by simp [hx])
   unfold valsM at h2 ⊢
   rw [List.map_cons, List.flatten_cons, List.length_append, List.length_map, List.length_cons, Nat.succ_mul]; omega
theorem Sml.toBd {m : Ms} {K n W : Nat} {S : List Tr} (h : Sml m K n) (hK : 1 ≤ K) (hW : 1 + n * (K + 1) ≤ W) (hW2 : K ≤ W) (hv : ∀ p ∈ m.parts, p.v ∈ S) : Bd m K n W S := by
 have f : ∀ {x : Raw}, x.Ok K → Fits x.q W := fun hx => (Raw.fits hx hK).mono hW2
 refine ⟨h.ok, h.len, h.cnt, hv, fun v => ?_, f h.ok.rf, f h.ok.lo, f h.ok.f0, f h.ok.f1, f h.ok.f2⟩
 have l1 := Nat.mul_le_mul_right (K + 1) h.len
 exact (wsum_fits (k := K) hK (fun x hx => Raw.fits (h.ok.parts x hx).2 hK) v).mono (by omega)
theorem Sml.bd {m : Ms} {l : List Ms} (h : Sml m 6 40) (hm : m ∈ l) : Bd m 6 40 300 (valsM l) :=
 h.toBd (by omega) (by omega) (by omega) fun p hp => List.mem_flatten.2 ⟨_, List.mem_map.2 ⟨m, hm, rfl⟩, List.mem_map.2 ⟨p, hp, rfl⟩⟩
theorem Bd.same {x y : Ms} {Kx nx Wx Ky ny Wy : Nat} {S R : List Tr} (h : Bd x Kx nx Wx S) (k : Bd y Ky ny Wy R) (K : Nat) (hK : 1 ≤ K) (hx : Kx ≤ K) (hy : Ky ≤ K) (hb : K ≤ 1000000) (hnx : nx ≤ 1000) (hny : ny ≤ 1000) (he : normM x = normM y) : CallD Tryz.prog F.mass_Same [.agg (msC x), .agg (msC y)] (· = .bool true) :=
 mass_Same hK hb (h.ok.mono hx) (k.ok.mono hy) (Nat.le_trans h.len hnx) (Nat.le_trans k.len hny) he
theorem Bd.mono {m : Ms} {K n W K' n' W' : Nat} {S : List Tr} (h : Bd m K n W S) (h1 : K ≤ K') (h2 : n ≤ n') (h3 : W ≤ W') : Bd m K' n' W' S :=
 ⟨h.ok.mono h1, Nat.le_trans h.len h2, h.cnt, h.vals, fun v => (h.w v).mono h3, h.rf.mono h3, h.lo.mono h3, h.f0.mono h3, h.f1.mono h3, h.f2.mono h3⟩
theorem rchP_ptrG {σ : Sto} {o n : Nat} {x : Ob} {r : List V} {t : List Nat} (h : getOb σ o = some x) (hr : x.cells[0]? = some r) (hm : r.flatMap (rchP σ n) = t) : rchP σ (n + 1) (.ptr o 0 0) = o :: t := by
 show (match getOb σ o with | some x => (match x.cells[0]? with | some r => o :: (r.drop 0).flatMap (rchP σ n) | none => []) | none => []) = _
 rw [h]
 simp only [hr, List.drop_zero, hm]
theorem Bd.vok {m : Ms} {K n W : Nat} {S : List Tr} (h : Bd m K n W S) : ∀ p ∈ normP m.parts, p.v.Ok ∧ cntT p.v ≤ 1000000 := fun p hp => by
 obtain ⟨q, hq, e⟩ := normP_vals hp
 rw [← e]; exact ⟨(h.ok.parts q hq).1, h.cnt q hq⟩
end Go.Proofs.YtmjgehbpcchjpaaGreatDoor
