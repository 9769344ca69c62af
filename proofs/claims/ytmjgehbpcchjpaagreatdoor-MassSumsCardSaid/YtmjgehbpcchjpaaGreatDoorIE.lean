import Derived.Test.YtmjgehbpcchjpaaGreatDoorID
namespace Go.Proofs.YtmjgehbpcchjpaaGreatDoor
open Go Go.Proofs Go.Proofs.YtmjgehbpcchjpaaGreatDoor.E
set_option linter.unusedSimpArgs false
set_option linter.unusedVariables false
theorem read_ilV {l : List (List V)} (h : ∃ n, Typed Tryz.prog n T.ints [.dat l]) : ∃ xs : List Int, .dat l = ilV xs ∧ xs.length = l.length ∧ ∀ x ∈ xs, -9223372036854775808 ≤ x ∧ x < 9223372036854775808 := by
 obtain ⟨n, h⟩ := h
 obtain ⟨l', e, hl, m, _, h⟩ := E.typed_sl (e := T.int) (by kernel_rfl) h
 injection e with e _; injection e with e; subst e
 obtain ⟨xs, rfl, hp⟩ := E.list_of (f := fun x : Int => [V.int .i64 x]) (p := fun x => -9223372036854775808 ≤ x ∧ x < 9223372036854775808) fun x hx => by
  obtain ⟨y, e, h1, h2⟩ := read_int (h x hx)
  exact ⟨y, e, h1, h2⟩
 exact ⟨xs, rfl, by simp, hp⟩
theorem mix_ok {ms : List Ms} {odds : List Int} {Kg ng Wg : Nat} {S : List Tr} (hg : ∀ x ∈ ms, Bd x Kg ng Wg S) (l8 : ms.length ≤ 8) (o8 : odds.length ≤ 8) (hl : ms.length = odds.length) (h0 : 0 < ms.length) (ho : ∀ x ∈ odds, 1 ≤ x ∧ x ≤ 1000)
 (w1 : 1 ≤ Wg) (n1 : ng ≤ 100) (k1 : 1 ≤ Kg) (k2 : Kg ≤ 100000) (w2 : Wg ≤ 100000) : MixOk ms odds (Wg + 2) ∧ Sml (normM (mixM (ms.zip (oddsR odds)))) (1 + 8 * (Wg + 3)) (8 * ng) ∧ ∀ p ∈ (mixM (ms.zip (oddsR odds))).parts, cntT p.v ≤ 1000000 := by
 obtain ⟨s1, s2⟩ := isum_bound ho
 have hw : ∀ x ∈ ms.zip (oddsR odds), x.1 ∈ ms ∧ Fits x.2 2 := fun x hx => by
  obtain ⟨h1, h2⟩ := List.of_mem_zip hx
  refine ⟨h1, ?_⟩
  obtain ⟨n, hn, e⟩ := List.mem_map.1 h2
  rw [← e]
  have := ho n hn
  exact fits_mkRat' (digs_length_le (by omega)) (digs_length_le (by omega)) (by omega)
 have lz : (ms.zip (oddsR odds)).length ≤ 8 := by rw [List.length_zip]; omega
 have hpar : ∀ x ∈ ms.zip (oddsR odds), ∀ p ∈ normP (sclP x.1.parts x.2), p.v.Ok ∧ p.w.Ok (Wg + 2) ∧ cntT p.v ≤ 1000000 := fun x hx p hp => by
  obtain ⟨hm, f2⟩ := hw x hx
  have bg := hg _ hm
  obtain ⟨y, hy, e⟩ := normP_vals hp
  obtain ⟨z, hz, rfl⟩ := List.mem_map.1 hy
  have e' : z.v = p.v := e
  refine ⟨e' ▸ (bg.ok.parts z hz).1, ?_, e' ▸ bg.cnt z hz⟩
  rw [(normP_w hp).1, wsum_sclP]
  exact rawOf_ok (fits_mul (bg.w _) f2 w1)
 have hr : ∀ x ∈ ms.zip (oddsR odds), ∀ y : Rat, Fits y Wg → (rawOf (rawOf (y * x.2)).q).Ok (2 ^ 31) := fun x hx y hy => by
  rw [rawOf_q]; exact rawOf_ok ((fits_mul hy (hw x hx).2 w1).mono (by omega))
 have q1 := Nat.mul_le_mul n1 (show 2 * (Kg + 2) + 1 ≤ 200005 by omega)
 have hsum : ∀ (i : Nat) (h : Ms → Rat), (∀ x ∈ ms, Fits (h x) Wg) → Fits (sumBy (fun x : Ms × Rat => h x.1 * x.2) ((ms.zip (oddsR odds)).take i)) (1 + 8 * (Wg + 3)) := fun i h hh => by
  have f := sumBy_fits (k := Wg + 2) (f := fun x : Ms × Rat => h x.1 * x.2) ((ms.zip (oddsR odds)).take i) fun x hx => by
   obtain ⟨hm, f2⟩ := hw x (List.mem_of_mem_take hx)
   exact fits_mul (hh _ hm) f2 w1
  refine f.mono ?_
  have l1 : ((ms.zip (oddsR odds)).take i).length ≤ 8 := by rw [List.length_take]; omega
  have := Nat.mul_le_mul_right (Wg + 2 + 1) l1
  omega
 have hap : ∀ i, ∀ p ∈ (mixM ((ms.zip (oddsR odds)).take i)).parts, p.v.Ok ∧ p.w.Ok (Wg + 2) ∧ cntT p.v ≤ 1000000 := fun i p hp => by
  obtain ⟨l, hl, hp⟩ := List.mem_flatten.1 hp
  obtain ⟨x, hx, rfl⟩ := List.mem_map.1 hl
  exact hpar x (List.mem_of_mem_take hx) p hp
 have hlen : ∀ i, (mixM ((ms.zip (oddsR odds)).take i)).parts.length ≤ 8 * ng := fun i => by
  refine Nat.le_trans (flat_len (b := ng) fun x hx => ?_) ?_
  ·exact Nat.le_trans (normP_len _) (by simp only [sclP, List.length_map]; exact (hg _ (hw x (List.mem_of_mem_take hx)).1).len)
  ·exact Nat.mul_le_mul_right _ (by rw [List.length_take]; omega)
 have fin : (ms.zip (oddsR odds)).take (ms.zip (oddsR odds)).length = ms.zip (oddsR odds) := List.take_length
 have hapF := hap (ms.zip (oddsR odds)).length
 have hlenF := hlen (ms.zip (oddsR odds)).length
 rw [fin] at hapF hlenF
 have q2 := Nat.mul_le_mul (Nat.le_trans hlenF (Nat.mul_le_mul_left 8 n1)) (show Wg + 2 + 1 ≤ 100003 by omega)
 have raw : ∀ (i : Nat) (h : Ms → Rat), (∀ x ∈ ms, Fits (h x) Wg) → (rawOf (sumBy (fun x : Ms × Rat => h x.1 * x.2) ((ms.zip (oddsR odds)).take i))).Ok (1 + 8 * (Wg + 3)) := fun i h hh => rawOf_ok (hsum i h hh)
 refine ⟨⟨fun x hx => ?_, fun i => ⟨⟨fun p hp => ⟨(hap i p hp).1, rok (hap i p hp).2.1 (by omega)⟩, rok (raw i (fun y => y.rf.q) fun x hx => (hg x hx).rf) (by omega), rok (raw i (fun y => y.lo.q) fun x hx => (hg x hx).lo) (by omega), rok (raw i (fun y => y.f0.q) fun x hx => (hg x hx).f0) (by omega), rok (raw i (fun y => y.f1.q) fun x hx => (hg x hx).f1) (by omega), rok (raw i (fun y => y.f2.q) fun x hx => (hg x hx).f2) (by omega)⟩, by have := hlen i; omega⟩, by omega, fun p hp => (hapF p hp).2.1, by omega⟩, ⟨⟨fun p hp => ?_, ?_, ?_, ?_, ?_, ?_⟩, Nat.le_trans (normM_len _) hlenF, normM_cnt fun p hp => (hapF p hp).2.2⟩, fun p hp => (hapF p hp).2.2⟩
 ·obtain ⟨hm, f2⟩ := hw x hx
  have bg := hg _ hm
  have q := Nat.mul_le_mul (Nat.le_trans bg.len n1) (show 2 * (Kg + 2) + 1 ≤ 200005 by omega)
  have key := weights_Scale (m := x.1) (w := rawOf x.2) (K := Kg + 2) (by omega) (bg.ok.mono (by omega)) (rawOf_ok (f2.mono (by omega))) (by have := bg.len; omega) (by omega)
  rw [rawOf_q] at key
  refine ⟨key, ⟨fun p hp => ?_, hr x hx _ bg.rf, hr x hx _ bg.lo, hr x hx _ bg.f0, hr x hx _ bg.f1, hr x hx _ bg.f2⟩, by have := bg.len; omega⟩
  obtain ⟨x1, x2, _⟩ := hpar x hx p hp
  exact ⟨x1, rok x2 (by omega)⟩
 ·obtain ⟨y, hy, e⟩ := normP_vals hp
  refine ⟨e ▸ (hapF y hy).1, ?_⟩
  rw [(normP_w hp).1, wsum_mixM]
  have := hsum (ms.zip (oddsR odds)).length (fun y => wsum y.parts p.v) fun x hx => (hg x hx).w _
  rw [fin] at this
  exact rawOf_ok this
 ·have := hsum (ms.zip (oddsR odds)).length (fun y => y.rf.q) fun x hx => (hg x hx).rf
  rw [fin] at this
  show (rawOf (rawOf _).q).Ok _
  rw [rawOf_q]; exact rawOf_ok this
 ·have := hsum (ms.zip (oddsR odds)).length (fun y => y.lo.q) fun x hx => (hg x hx).lo
  rw [fin] at this
  show (rawOf (rawOf _).q).Ok _
  rw [rawOf_q]; exact rawOf_ok this
 ·have := hsum (ms.zip (oddsR odds)).length (fun y => y.f0.q) fun x hx => (hg x hx).f0
  rw [fin] at this
  show (rawOf (rawOf _).q).Ok _
  rw [rawOf_q]; exact rawOf_ok this
 ·have := hsum (ms.zip (oddsR odds)).length (fun y => y.f1.q) fun x hx => (hg x hx).f1
  rw [fin] at this
  show (rawOf (rawOf _).q).Ok _
  rw [rawOf_q]; exact rawOf_ok this
 ·have := hsum (ms.zip (oddsR odds)).length (fun y => y.f2.q) fun x hx => (hg x hx).f2
  rw [fin] at this
  show (rawOf (rawOf _).q).Ok _
  rw [rawOf_q]; exact rawOf_ok this
end Go.Proofs.YtmjgehbpcchjpaaGreatDoor
