import Derived.Test.YtmjgehbpcchjpaaGreatDoorIA
import Derived.Test.YtmjgehbpcchjpaaGreatDoorHX2
import Derived.Test.YtmjgehbpcchjpaaGreatDoorHR
namespace Go.Proofs.YtmjgehbpcchjpaaGreatDoor.F
open Go Go.Proofs Go.Proofs.YtmjgehbpcchjpaaGreatDoor.E Go.Proofs.YtmjgehbpcchjpaaGreatDoor.Q
abbrev law04_next : Nat := 62
def law04_next_c : MFn := ⟨28,(.seq (r [o 3 (.box (.t 1)),o 4 (.alloc zM)] [0,3,4]) (.seq (r [o 6 (.fA 1 (.t 3)),o 7 (.ld none (.t 6)),o 8 (.fA 2 (.t 3)),o 9 (.ld none (.t 8)),o 10 (.lenS (.t 9)),o 11 (.bin .add (.t 7) (.t 10)),o 12 (.fA 0 (.t 3)),o 13 (.ld none (.t 12)),o 14 (.bin .add (.t 11) (.t 13)),o 5 (.mv (.t 14))] [0,4,5]) (.seq (r [o 15 (.mv (.t 0)),o 16 (.mv (.t 5)),o 17 (.mv (.t 0)),o 18 (.lenS (.t 17)),o 19 (.bin .rem (.t 16) (.t 18)),o 20 (.mv (.t 0)),o 21 (.lenS (.t 20)),o 22 (.bin .add (.t 19) (.t 21)),o 23 (.mv (.t 0)),o 24 (.lenS (.t 23)),o 25 (.bin .rem (.t 22) (.t 24)),o 26 (.ixA 16 (.t 15) (.t 25)),o 27 (.ld (some 16) (.t 26)),z (.st 16 (.t 4) (.t 27))] [4]) .ret))),[.cell 4 (some 16)]⟩
theorem law04_next_ok : cFn Tryz.prog (kps [[0,3,4],[0,4,5],[4]]) [] 62 = some law04_next_c := by kernel_rfl
end Go.Proofs.YtmjgehbpcchjpaaGreatDoor.F

namespace Go.Proofs.YtmjgehbpcchjpaaGreatDoor
open Go Go.Proofs Go.Proofs.YtmjgehbpcchjpaaGreatDoor.E
set_option linter.unusedSimpArgs false
set_option linter.unusedVariables false
structure Bd (m : Ms) (K n W : Nat) (S : List Tr) : Prop where
 ok : m.Ok K
 len : m.parts.length ≤ n
 cnt : ∀ p ∈ m.parts, cntT p.v ≤ 1000000
 vals : ∀ p ∈ m.parts, p.v ∈ S
 w : ∀ v, Fits (wsum m.parts v) W
 rf : Fits m.rf.q W
 lo : Fits m.lo.q W
 f0 : Fits m.f0.q W
 f1 : Fits m.f1.q W
 f2 : Fits m.f2.q W
theorem bind_bd {m : Ms} {Km nm Wm : Nat} {Sm : List Tr} {g : Tr → Ms} {Kg ng Wg : Nat} {Sg : List Tr} {k : Nat} {cp : List V} {N : Nat}
 (bm : Bd m Km nm Wm Sm) (hN : (normP m.parts).length ≤ N) (hg : ∀ v ∈ Sm, Bd (g v) Kg ng Wg Sg) (he : Elts cp) (hc : ∀ p ∈ normP m.parts, CallD Tryz.prog k (.agg p.v.cells :: cp) (· = (g p.v).v))
 (k1 : 1 ≤ Km) (k2 : Km ≤ 100000) (n1 : nm ≤ 1000) (g1 : 1 ≤ Kg) (w1 : 1 ≤ Wm) (w2 : 1 ≤ Wg) (ng1 : ng ≤ 1000) (b1 : 1 + ng * (2 * (Kg + Wm) + 1) + 2 * (Kg + Wm) ≤ 2 ^ 31)
 (b2 : 1 + N * ng * (Wg + Wm + 1) ≤ 2 ^ 31) (b3 : Wm + 1 + (1 + N * (Wg + Wm + 1)) ≤ 2 ^ 31) (b4 : N * ng ≤ 1000000) :
 CallD Tryz.prog F.mass_Bind [m.v, .clo k cp] (· = (bindM m g).v) ∧ Bd (bindM m g) (Wm + 1 + (1 + N * (Wg + Wm + 1))) Sg.length (Wm + 1 + (1 + N * (Wg + Wm + 1))) Sg := by
 have hLv : ∀ p ∈ normP m.parts, p.v ∈ Sm := fun p hp => by
  obtain ⟨q, hq, e⟩ := normP_vals hp
  rw [← e]; exact bm.vals q hq
 have hLw : ∀ p ∈ normP m.parts, p.w.Ok Wm ∧ Fits p.w.q Wm := fun p hp => by
  have h := (normP_w hp).1
  rw [h, rawOf_q]
  exact ⟨rawOf_ok (bm.w _), bm.w _⟩
 have hmul : ∀ p ∈ normP m.parts, ∀ x : Rat, Fits x Wg → Fits (x * p.w.q) (Wg + Wm) := fun p hp x hx => fits_mul hx (hLw p hp).2 w2
 have hpar : ∀ p ∈ normP m.parts, ∀ x ∈ normP (sclP (g p.v).parts p.w.q), x.v.Ok ∧ x.w.Ok (Wg + Wm) ∧ cntT x.v ≤ 1000000 ∧ x.v ∈ Sg := fun p hp x hx => by
  have bg := hg _ (hLv p hp)
  obtain ⟨y, hy, e⟩ := normP_vals hx
  obtain ⟨z, hz, rfl⟩ := List.mem_map.1 hy
  have e' : z.v = x.v := e
  refine ⟨e' ▸ (bg.ok.parts z hz).1, ?_, e' ▸ bg.cnt z hz, e' ▸ bg.vals z hz⟩
  rw [(normP_w hx).1, wsum_sclP]
  exact rawOf_ok (hmul p hp _ (bg.w _))
 have hr : ∀ p ∈ normP m.parts, ∀ x : Rat, Fits x Wg → (rawOf (rawOf (x * p.w.q)).q).Ok (2 ^ 31) := fun p hp x hx => by
  have hm : Wg + Wm ≤ 2 ^ 31 := by
   have : 1 ≤ N := by
    have := List.length_pos_of_mem hp
    omega
   have := Nat.mul_le_mul_right (Wg + Wm + 1) this
   omega
  rw [rawOf_q]; exact rawOf_ok ((hmul p hp x hx).mono hm)
 have hW31 : ∀ p ∈ normP m.parts, Wg + Wm ≤ 2 ^ 31 := fun p hp => by
  have : 1 ≤ N := by
   have := List.length_pos_of_mem hp
   omega
  have := Nat.mul_le_mul_right (Wg + Wm + 1) this
  omega
 have hs : ∀ p ∈ normP m.parts, CallD Tryz.prog F.weights_Scale [(g p.v).v, p.w.v] (· = (normM (sclM (g p.v) p.w.q)).v) ∧ (normM (sclM (g p.v) p.w.q)).Ok (2 ^ 31) ∧ (g p.v).parts.length ≤ 1000 := fun p hp => by
  have bg := hg _ (hLv p hp)
  have q := Nat.mul_le_mul_right (2 * (Kg + Wm) + 1) bg.len
  refine ⟨weights_Scale (K := Kg + Wm) (by omega) (bg.ok.mono (by omega)) (rok (hLw p hp).1 (by omega)) (by have := bg.len; omega) (by omega), ⟨fun x hx => ?_, hr p hp _ bg.rf, hr p hp _ bg.lo, hr p hp _ bg.f0, hr p hp _ bg.f1, hr p hp _ bg.f2⟩, by have := bg.len; omega⟩
  obtain ⟨x1, x2, _, _⟩ := hpar p hp x hx
  exact ⟨x1, rok x2 (hW31 p hp)⟩
 have hmem : ∀ i, ∀ p ∈ (normP m.parts).take i, p ∈ normP m.parts := fun i p hp => List.mem_of_mem_take hp
 have hsum : ∀ (i : Nat) (x : Rat) (h : Ms → Rat), Fits x Wm → (∀ v ∈ Sm, Fits (h (g v)) Wg) → Fits (x + sumBy (fun p => h (g p.v) * p.w.q) ((normP m.parts).take i)) (Wm + 1 + (1 + N * (Wg + Wm + 1))) := fun i x h hx hh => by
  have f := sumBy_fits (k := Wg + Wm) (f := fun p => h (g p.v) * p.w.q) ((normP m.parts).take i) fun p hp => hmul p (hmem i p hp) _ (hh _ (hLv p (hmem i p hp)))
  have l1 : ((normP m.parts).take i).length ≤ N := by rw [List.length_take]; omega
  have l2 := Nat.mul_le_mul_right (Wg + Wm + 1) l1
  exact (fits_add hx f).mono (by omega)
 have hap : ∀ i, ∀ x ∈ (accB m g ((normP m.parts).take i)).parts, x.v.Ok ∧ x.w.Ok (Wg + Wm) ∧ cntT x.v ≤ 1000000 ∧ x.v ∈ Sg := fun i x hx => by
  obtain ⟨l, hl, hx⟩ := List.mem_flatten.1 hx
  obtain ⟨p, hp, rfl⟩ := List.mem_map.1 hl
  exact hpar p (hmem i p hp) x hx
 have hap1 : ∀ i, ∀ x ∈ (accB m g ((normP m.parts).take i)).parts, x.w.Ok (2 ^ 31) := fun i x hx => by
  obtain ⟨l, hl, hx'⟩ := List.mem_flatten.1 hx
  obtain ⟨p, hp, rfl⟩ := List.mem_map.1 hl
  exact rok (hap i x hx).2.1 (hW31 p (hmem i p hp))
 have hlen : ∀ i, (accB m g ((normP m.parts).take i)).parts.length ≤ N * ng := fun i => by
  refine Nat.le_trans (flat_len (b := ng) fun p hp => ?_) ?_
  ·exact Nat.le_trans (normP_len _) (by simp only [sclP, List.length_map]; exact (hg _ (hLv p (hmem i p hp))).len)
  ·exact Nat.mul_le_mul_right _ (by rw [List.length_take]; omega)
 have hA : ∀ i, (accB m g ((normP m.parts).take i)).Ok (2 ^ 31) ∧ (accB m g ((normP m.parts).take i)).parts.length ≤ 1000000 := fun i =>
  ⟨⟨fun x hx => ⟨(hap i x hx).1, hap1 i x hx⟩,
    rawOf_ok ((hsum i _ (fun y => y.rf.q) bm.rf fun v hv => (hg v hv).rf).mono b3), rawOf_ok ((hsum i _ (fun y => y.lo.q) bm.lo fun v hv => (hg v hv).lo).mono b3),
    rawOf_ok ((hsum i _ (fun y => y.f0.q) bm.f0 fun v hv => (hg v hv).f0).mono b3), rawOf_ok ((hsum i _ (fun y => y.f1.q) bm.f1 fun v hv => (hg v hv).f1).mono b3), rawOf_ok ((hsum i _ (fun y => y.f2.q) bm.f2 fun v hv => (hg v hv).f2).mono b3)⟩,
    Nat.le_trans (hlen i) b4⟩
 have fin : accB m g ((normP m.parts).take (normP m.parts).length) = accB m g (normP m.parts) := by rw [List.take_length]
 have hapF := hap (normP m.parts).length
 have hlenF := hlen (normP m.parts).length
 rw [fin] at hapF hlenF
 have q2 := Nat.mul_le_mul_right (Wg + Wm + 1) hlenF
 have call := mass_Bind (m := m) (k := k) (cp := cp) (g := g) (J := Wg + Wm) k1 bm.ok (Nat.le_trans bm.len n1) k2 bm.cnt he hc hs hA (by omega) (fun x hx => (hapF x hx).2.1) (by omega) (fun x hx => (hapF x hx).2.2.1)
 refine ⟨call, ?_⟩
 have ws : ∀ v, Fits (wsum (bindM m g).parts v) (Wm + 1 + (1 + N * (Wg + Wm + 1))) := fun v => by
  have e : wsum (bindM m g).parts v = 0 + sumBy (fun p => wsum (g p.v).parts v * p.w.q) (normP m.parts) := by
   rw [Rat.zero_add, wsum_hsum, hsum_bindM, ← hsum_normP]
   show sumBy _ _ = _
   congr 1
   funext p
   rw [wsum_hsum]
  have f := hsum (normP m.parts).length 0 (fun y => wsum y.parts v) (fits_zero.mono w1) fun u hu => (hg u hu).w v
  rw [List.take_length] at f
  rw [e]; exact f
 obtain ⟨e1, e2, e3, e4, e5⟩ := bindM_q m g
 have rq : ∀ (x : Rat) (h : Ms → Rat), Fits x Wm → (∀ v ∈ Sm, Fits (h (g v)) Wg) → Fits (x + Go.Proofs.YtmjgehbpcchjpaaGreatDoor.hsum (fun v => h (g v)) m.parts) (Wm + 1 + (1 + N * (Wg + Wm + 1))) := fun x h hx hh => by
  rw [← hsum_normP]
  have f := hsum (normP m.parts).length x h hx hh
  rw [List.take_length] at f
  exact f
 have h1 := rq _ (fun y => y.rf.q) bm.rf fun v hv => (hg v hv).rf
 have h2 := rq _ (fun y => y.lo.q) bm.lo fun v hv => (hg v hv).lo
 have h3 := rq _ (fun y => y.f0.q) bm.f0 fun v hv => (hg v hv).f0
 have h4 := rq _ (fun y => y.f1.q) bm.f1 fun v hv => (hg v hv).f1
 have h5 := rq _ (fun y => y.f2.q) bm.f2 fun v hv => (hg v hv).f2
 have hv : ∀ x ∈ (bindM m g).parts, ∃ y ∈ (accB m g (normP m.parts)).parts, y.v = x.v := fun x hx => normP_vals hx
 refine ⟨⟨fun x hx => ?_, ?_, ?_, ?_, ?_, ?_⟩, ?_, fun x hx => ?_, fun x hx => ?_, ws, by rw [e1]; exact h1, by rw [e2]; exact h2, by rw [e3]; exact h3, by rw [e4]; exact h4, by rw [e5]; exact h5⟩
 ·obtain ⟨y, hy, e⟩ := hv x hx
  refine ⟨e ▸ (hapF y hy).1, ?_⟩
  have ew : x.w = rawOf (wsum (accB m g (normP m.parts)).parts x.v) := (normP_w hx).1
  have ew2 := ws x.v
  have ew3 : wsum (bindM m g).parts x.v = wsum (accB m g (normP m.parts)).parts x.v := wsum_normP _ _
  rw [ew, ← ew3]; exact rawOf_ok ew2
 ·rw [show (bindM m g).rf = rawOf (bindM m g).rf.q from (rawOf_q _).symm ▸ rfl, e1]; exact rawOf_ok h1
 ·rw [show (bindM m g).lo = rawOf (bindM m g).lo.q from (rawOf_q _).symm ▸ rfl, e2]; exact rawOf_ok h2
 ·rw [show (bindM m g).f0 = rawOf (bindM m g).f0.q from (rawOf_q _).symm ▸ rfl, e3]; exact rawOf_ok h3
 ·rw [show (bindM m g).f1 = rawOf (bindM m g).f1.q from (rawOf_q _).symm ▸ rfl, e4]; exact rawOf_ok h4
 ·rw [show (bindM m g).f2 = rawOf (bindM m g).f2.q from (rawOf_q _).symm ▸ rfl, e5]; exact rawOf_ok h5
 ·exact up_len (normP_up _) fun x hx => by obtain ⟨y, hy, e⟩ := hv x hx; rw [← e]; exact (hapF y hy).2.2.2
 ·obtain ⟨y, hy, e⟩ := hv x hx
  rw [← e]; exact (hapF y hy).2.2.1
 ·obtain ⟨y, hy, e⟩ := hv x hx
  rw [← e]; exact (hapF y hy).2.2.2
end Go.Proofs.YtmjgehbpcchjpaaGreatDoor

namespace Go.Proofs.YtmjgehbpcchjpaaGreatDoor
open Go Go.Proofs Go.Proofs.YtmjgehbpcchjpaaGreatDoor.E
set_option linter.unusedSimpArgs false
set_option linter.unusedVariables false
def nxI (c : Nat) : Tr → Nat
 | .mk k n t => ((((IntKind.i64.wrap (IntKind.i64.wrap (n + t.length) + k)).tmod c + c).tmod c).toNat)
theorem nxI_lt {c : Nat} (hc : 0 < c) (v : Tr) : nxI c v < c := by
 cases v with
 | mk k n t =>
   simp only [nxI]
   have h1 := Int.tmod_lt_of_pos ((IntKind.i64.wrap (IntKind.i64.wrap (n + t.length) + k)).tmod c + c) (show (0 : Int) < c by omega)
   omega
theorem law04_next {l : List Ms} {v : Tr} (h0 : l ≠ []) (hl : l.length ≤ 1000) (hv : v.Ok) : CallD Tryz.prog F.law04_next [.dat (l.map msC), .agg v.cells] (· = .agg (msC (l.getD (nxI l.length v) msN))) := by
 refine callD_by F.law04_next_ok ?_
 unfold F.law04_next_c
 cases hv with
 | @mk k n t hk hn hl hc =>
 have c0 : (0 : Int) < l.length := by have := List.length_pos_iff.2 h0; omega
 simp [setOb, List.filter_cons, cells_mk, h0]
 have hx := nxI_lt (c := l.length) (by omega) (Tr.mk k n t)
 simp only [nxI] at hx ⊢
 generalize IntKind.i64.wrap (IntKind.i64.wrap (n + ↑t.length) + k) = x at *
 have b1 := Int.tmod_lt_of_pos x c0
 have b2 := Int.lt_tmod_of_pos x c0
 rw [wrap64 (by omega) (by omega)]
 have b3 : 0 ≤ (x.tmod l.length + l.length).tmod l.length := Int.tmod_nonneg _ (by omega)
 generalize hz : (x.tmod ↑l.length + ↑l.length).tmod ↑l.length = z at *
 obtain ⟨j, rfl⟩ := Int.eq_ofNat_of_zero_le b3
 simp only [Int.toNat_natCast] at hx
 have e16 : ∀ m : Ms, List.take 16 (msC m) = msC m := fun m => by simp [msC, tailC]
 have l16 : ∀ m : Ms, (msC m).length = 16 := fun m => by simp [msC, tailC]
 have d16 : ∀ m : Ms, List.drop 16 (msC m) = [] := fun m => by simp [msC, tailC]
 simp [h0, hz, hx, e16, l16, d16, setOb, List.filter_cons, toD_msV]
def nxM (l : List Ms) (v : Tr) : Ms := l.getD (nxI l.length v) msN
theorem nxM_mem {l : List Ms} (h0 : l ≠ []) (v : Tr) : nxM l v ∈ l := by
 have h := nxI_lt (c := l.length) (List.length_pos_iff.2 h0) v
 unfold nxM
 rw [List.getD_eq_getElem?_getD, List.getElem?_eq_getElem h]
 exact List.getElem_mem h
end Go.Proofs.YtmjgehbpcchjpaaGreatDoor
