import Derived.Test.YtmjgehbpcchjpaaGreatDoorIB
import Derived.Test.YtmjgehbpcchjpaaGreatDoorIJ
import Derived.Test.YtmjgehbpcchjpaaGreatDoorIA
import Derived.Test.YtmjgehbpcchjpaaGreatDoorGC
import Derived.Test.YtmjgehbpcchjpaaGreatDoorProg
import Derived.KernelRfl
import Derived.Test.YtmjgehbpcchjpaaGreatDoorHR
namespace Go.Proofs.YtmjgehbpcchjpaaGreatDoor.F
open Go Go.Proofs Go.Proofs.YtmjgehbpcchjpaaGreatDoor.E Go.Proofs.YtmjgehbpcchjpaaGreatDoor.Q
abbrev weights_BindX : Nat := 119
def weights_BindX_c : MFn := ⟨31,(.seq (r [o 2 (.box (.t 0)),o 4 (.alloc zM)] [1,2,4]) (.seq (r [o 8 (.ld (some 16) (.t 2)),o 9 (.call 128 [(.t 8)]),z (.st 16 (.t 2) (.t 9))] [1,2,4]) (.seq (r [o 10 (.ld (some 16) (.t 2)),o 5 (.alloc zM),z (.st 16 (.t 5) (.t 10))] [1,2,4,5]) (.seq (r [o 11 (.fA 0 (.t 5)),z (.st 1 (.t 11) (.c .nils))] [1,2,4,5]) (.seq (.seq (r [o 12 (.fA 0 (.t 2)),o 13 (.ld none (.t 12)),o 14 (.lenS (.t 13)),o 15 (.mv (i 0))] [1,4,5,13,14,15]) (.block 0 (.loop (.seq (r [o 16 (.bin .lss (.t 15) (.t 14))] [1,4,5,13,14,15,16]) (.seq (.cond (.t 16) .skip (.exit 0)) (.seq (.block 1 (.seq (r [o 17 (.ixA 6 (.t 13) (.t 15)),o 18 (.ld (some 6) (.t 17)),o 7 (.alloc zP),z (.st 6 (.t 7) (.t 18))] [1,4,5,7,13,14,15]) (r [o 19 (.ld (some 16) (.t 5)),o 20 (.mv (.t 1)),o 21 (.fA 0 (.t 7)),o 22 (.ld (some 3) (.t 21)),o 24 (.fA 3 (.t 7)),o 25 (.ld (some 3) (.t 24)),o 23 (.callVA (.t 20) [(.t 22)] [5,24]),o 26 (.callF 83 [(.t 23),(.t 25)]),o 27 (.callXF 127 [(.t 19),(.t 26)]),z (.st 16 (.t 5) (.t 27))] [1,4,5,13,14,15]))) (r [o 28 (.bin .add (.t 15) (i 1)),o 15 (.mv (.t 28))] [1,4,5,13,14,15]))))))) (.seq (r [o 29 (.ld (some 16) (.t 5)),o 30 (.call 128 [(.t 29)]),z (.st 16 (.t 4) (.t 30))] [4]) .ret)))))),[.cell 4 (some 16)]⟩
theorem weights_BindX_ok : cFn Tryz.prog (kps [[1,2,4],[1,2,4],[1,2,4,5],[1,2,4,5],[1,4,5,13,14,15],[1,4,5,13,14,15,16],[1,4,5,7,13,14,15],[1,4,5,13,14,15],[1,4,5,13,14,15],[4]]) [1001280007] 119 = some weights_BindX_c := by kernel_rfl
end Go.Proofs.YtmjgehbpcchjpaaGreatDoor.F

namespace Go.Proofs.YtmjgehbpcchjpaaGreatDoor
open Go Go.Proofs Go.Proofs.YtmjgehbpcchjpaaGreatDoor.E
set_option linter.unusedSimpArgs false
set_option linter.unusedVariables false
theorem rZ {m : Ms} {g : Tr → Ms} {L : List Part} {i : Nat} (h : i < L.length) : aI (fm (aI (aZ m g (L.take i))) (aI (c9 (g L[i].v) L[i].w.q))) = aI (aZ m g (L.take (i + 1))) := by
 obtain ⟨e1, e2, e3, e4, e5⟩ := qJ (m := m) (g := g) h
 have ep := jc (m := m) (g := g) h
 refine sI ⟨fun v => ?_, ?_, ?_, ?_, ?_, ?_⟩
 ·rw [tt, jz, jz, ep, eL, jz]
 ·rw [← e1, addM_rf, normM_rf, be]
 ·rw [← e2, addM_lo, normM_lo, be]
 ·rw [← e3, addM_f0, normM_f0, be]
 ·rw [← e4, addM_f1, normM_f1, be]
 ·rw [← e5, addM_f2, normM_f2, be]
structure BindP (m : Ms) (g : Tr → Ms) (J : Nat) : Prop where
 s : ∀ p ∈ aL m.parts, CallD Tryz.prog F.weights_Scale [(g p.v).v, p.w.v] (· = (aI (c9 (g p.v) p.w.q)).v) ∧ (aI (c9 (g p.v) p.w.q)).Ok (2 ^ 31) ∧ (g p.v).parts.length ≤ 1000
 a : ∀ i, (aZ m g ((aL m.parts).take i)).Ok (2 ^ 31) ∧ (aZ m g ((aL m.parts).take i)).parts.length ≤ 1000000
 p : ∀ p ∈ (aZ m g (aL m.parts)).parts, p.w.Ok J
 j : 1 + (aZ m g (aL m.parts)).parts.length * (J + 1) ≤ 2 ^ 31
 c : ∀ p ∈ (aZ m g (aL m.parts)).parts, cQ p.v ≤ 1000000
structure BindR (m : Ms) (g : Tr → Ms) : Prop where
 s : ∀ p ∈ aL m.parts, CallD Tryz.prog F.ref04_Scale [(g p.v).v, p.w.v] (· = (aI (c9 (g p.v) p.w.q)).v)
 a : ∀ (i : Nat) (h : i < (aL m.parts).length), CallD Tryz.prog F.ref04_Add [(aI (aZ m g ((aL m.parts).take i))).v, (aI (c9 (g (aL m.parts)[i].v) (aL m.parts)[i].w.q)).v] (· = (aI (aZ m g ((aL m.parts).take (i + 1)))).v)
set_option maxHeartbeats 1600000 in
theorem r9 {m : Ms} {Km nm Wm : Nat} {Sm : List Tr} {g : Tr → Ms} {Kg ng Wg : Nat} {Sg : List Tr} {N : Nat}
 (bm : Bd m Km nm Wm Sm) (hN : (aL m.parts).length ≤ N) (hg : ∀ v ∈ Sm, Bd (g v) Kg ng Wg Sg)
 (k1 : 1 ≤ Km) (k2 : Km ≤ 100000) (n1 : nm ≤ 1000) (g1 : 1 ≤ Kg) (w1 : 1 ≤ Wm) (w2 : 1 ≤ Wg) (ng1 : ng ≤ 400) (b1 : 1 + ng * (2 * (Kg + Wm) + 1) + 2 * (Kg + Wm) ≤ 2 ^ 31)
 (b2 : 1 + N * ng * (Wg + Wm + 1) ≤ 2 ^ 31) (b3 : Wm + 1 + (1 + N * (Wg + Wm + 1)) ≤ 40000) (b4 : N * ng ≤ 1000000) (b5 : Sg.length ≤ 400) (b6 : Wg + Wm ≤ 40000) (b7 : Kg ≤ 10000) :
 BindP m g (Wg + Wm) ∧ BindR m g ∧ Sml (aI (aZ m g (aL m.parts))) 40000 400 := by
 have hLv : ∀ p ∈ aL m.parts, p.v ∈ Sm := fun p hp => by
  obtain ⟨q, hq, e⟩ := cf hp
  rw [← e]; exact bm.vals q hq
 have hLw : ∀ p ∈ aL m.parts, p.w.Ok Wm ∧ Fits p.w.q Wm := fun p hp => by
  have h := (j6 hp).1
  rw [h, be]
  exact ⟨bw (bm.w _), bm.w _⟩
 have hmul : ∀ p ∈ aL m.parts, ∀ x : Rat, Fits x Wg → Fits (x * p.w.q) (Wg + Wm) := fun p hp x hx => pI hx (hLw p hp).2 w2
 have hpar : ∀ p ∈ aL m.parts, ∀ x ∈ aL (dm (g p.v).parts p.w.q), x.v.Ok ∧ x.w.Ok (Wg + Wm) ∧ cQ x.v ≤ 1000000 ∧ x.v ∈ Sg := fun p hp x hx => by
  have bg := hg _ (hLv p hp)
  obtain ⟨y, hy, e⟩ := cf hx
  obtain ⟨z, hz, rfl⟩ := List.mem_map.1 hy
  have e' : z.v = x.v := e
  refine ⟨e' ▸ (bg.ok.parts z hz).1, ?_, e' ▸ bg.cnt z hz, e' ▸ bg.vals z hz⟩
  rw [(j6 hx).1, tz]
  exact bw (hmul p hp _ (bg.w _))
 have hr : ∀ p ∈ aL m.parts, ∀ x : Rat, Fits x Wg → (ao (ao (x * p.w.q)).q).Ok (2 ^ 31) := fun p hp x hx => by
  have hm : Wg + Wm ≤ 2 ^ 31 := by
   have : 1 ≤ N := by
    have := List.length_pos_of_mem hp
    omega
   have := Nat.mul_le_mul_right (Wg + Wm + 1) this
   omega
  rw [be]; exact bw ((hmul p hp x hx).mono hm)
 have hW31 : ∀ p ∈ aL m.parts, Wg + Wm ≤ 2 ^ 31 := fun p hp => by
  have : 1 ≤ N := by
   have := List.length_pos_of_mem hp
   omega
  have := Nat.mul_le_mul_right (Wg + Wm + 1) this
  omega
 have hs : ∀ p ∈ aL m.parts, CallD Tryz.prog F.weights_Scale [(g p.v).v, p.w.v] (· = (aI (c9 (g p.v) p.w.q)).v) ∧ (aI (c9 (g p.v) p.w.q)).Ok (2 ^ 31) ∧ (g p.v).parts.length ≤ 1000 := fun p hp => by
  have bg := hg _ (hLv p hp)
  have q := Nat.mul_le_mul_right (2 * (Kg + Wm) + 1) bg.len
  refine ⟨weights_Scale (K := Kg + Wm) (by omega) (bg.ok.mono (by omega)) (rok (hLw p hp).1 (by omega)) (by have := bg.len; omega) (by omega), ⟨fun x hx => ?_, hr p hp _ bg.rf, hr p hp _ bg.lo, hr p hp _ bg.f0, hr p hp _ bg.f1, hr p hp _ bg.f2⟩, by have := bg.len; omega⟩
  obtain ⟨x1, x2, _, _⟩ := hpar p hp x hx
  exact ⟨x1, rok x2 (hW31 p hp)⟩
 have hmem : ∀ i, ∀ p ∈ (aL m.parts).take i, p ∈ aL m.parts := fun i p hp => List.mem_of_mem_take hp
 have dB : ∀ (i : Nat) (x : Rat) (h : Ms → Rat), Fits x Wm → (∀ v ∈ Sm, Fits (h (g v)) Wg) → Fits (x + cM (fun p => h (g p.v) * p.w.q) ((aL m.parts).take i)) (Wm + 1 + (1 + N * (Wg + Wm + 1))) := fun i x h hx hh => by
  have f := nf (k := Wg + Wm) (f := fun p => h (g p.v) * p.w.q) ((aL m.parts).take i) fun p hp => hmul p (hmem i p hp) _ (hh _ (hLv p (hmem i p hp)))
  have l1 : ((aL m.parts).take i).length ≤ N := by rw [List.length_take]; omega
  have l2 := Nat.mul_le_mul_right (Wg + Wm + 1) l1
  exact (mH hx f).mono (by omega)
 have hap : ∀ i, ∀ x ∈ (aZ m g ((aL m.parts).take i)).parts, x.v.Ok ∧ x.w.Ok (Wg + Wm) ∧ cQ x.v ≤ 1000000 ∧ x.v ∈ Sg := fun i x hx => by
  obtain ⟨l, hl, hx⟩ := List.mem_flatten.1 hx
  obtain ⟨p, hp, rfl⟩ := List.mem_map.1 hl
  exact hpar p (hmem i p hp) x hx
 have hap1 : ∀ i, ∀ x ∈ (aZ m g ((aL m.parts).take i)).parts, x.w.Ok (2 ^ 31) := fun i x hx => by
  obtain ⟨l, hl, hx'⟩ := List.mem_flatten.1 hx
  obtain ⟨p, hp, rfl⟩ := List.mem_map.1 hl
  exact rok (hap i x hx).2.1 (hW31 p (hmem i p hp))
 have hlen : ∀ i, (aZ m g ((aL m.parts).take i)).parts.length ≤ N * ng := fun i => by
  refine Nat.le_trans (pJ (b := ng) fun p hp => ?_) ?_
  ·exact Nat.le_trans (dT _) (by simp only [dm, List.length_map]; exact (hg _ (hLv p (hmem i p hp))).len)
  ·exact Nat.mul_le_mul_right _ (by rw [List.length_take]; omega)
 have hA : ∀ i, (aZ m g ((aL m.parts).take i)).Ok (2 ^ 31) ∧ (aZ m g ((aL m.parts).take i)).parts.length ≤ 1000000 := fun i =>
  ⟨⟨fun x hx => ⟨(hap i x hx).1, hap1 i x hx⟩,
    bw ((dB i _ (fun y => y.rf.q) bm.rf fun v hv => (hg v hv).rf).mono (by omega)), bw ((dB i _ (fun y => y.lo.q) bm.lo fun v hv => (hg v hv).lo).mono (by omega)),
    bw ((dB i _ (fun y => y.f0.q) bm.f0 fun v hv => (hg v hv).f0).mono (by omega)), bw ((dB i _ (fun y => y.f1.q) bm.f1 fun v hv => (hg v hv).f1).mono (by omega)), bw ((dB i _ (fun y => y.f2.q) bm.f2 fun v hv => (hg v hv).f2).mono (by omega))⟩,
    Nat.le_trans (hlen i) b4⟩
 have fin : aZ m g ((aL m.parts).take (aL m.parts).length) = aZ m g (aL m.parts) := by rw [List.take_length]
 have hapF := hap (aL m.parts).length
 have hlenF := hlen (aL m.parts).length
 rw [fin] at hapF hlenF
 have q2 := Nat.mul_le_mul_right (Wg + Wm + 1) hlenF
 have sm : ∀ i, Sml (aI (aZ m g ((aL m.parts).take i))) (Wm + 1 + (1 + N * (Wg + Wm + 1))) 400 := fun i => by
  have fr : ∀ (h : Ms → Rat), (x : Rat) → Fits x Wm → (∀ v ∈ Sm, Fits (h (g v)) Wg) → (ao (ao (x + cM (fun p => h (g p.v) * p.w.q) ((aL m.parts).take i))).q).Ok (Wm + 1 + (1 + N * (Wg + Wm + 1))) := fun h x hx hh => by
   rw [be]; exact bw (dB i x h hx hh)
  refine ⟨⟨fun p hp => ?_, fr (fun y => y.rf.q) _ bm.rf fun v hv => (hg v hv).rf, fr (fun y => y.lo.q) _ bm.lo fun v hv => (hg v hv).lo, fr (fun y => y.f0.q) _ bm.f0 fun v hv => (hg v hv).f0, fr (fun y => y.f1.q) _ bm.f1 fun v hv => (hg v hv).f1, fr (fun y => y.f2.q) _ bm.f2 fun v hv => (hg v hv).f2⟩, ?_, fun p hp => ?_⟩
  ·obtain ⟨y, hy, e⟩ := cf hp
   refine ⟨e ▸ (hap i y hy).1, ?_⟩
   rw [(j6 hp).1]
   have e2 : aU (aZ m g ((aL m.parts).take i)).parts p.v = 0 + cM (fun x => aU (g x.v).parts p.v * x.w.q) ((aL m.parts).take i) := by
    rw [Rat.zero_add, oB, hsum_acc]
    show cM _ _ = _
    congr 1
    funext x
    rw [oB]
   rw [e2]
   exact bw (dB i 0 (fun y => aU y.parts p.v) (fits_zero.mono w1) fun u hu => (hg u hu).w p.v)
  ·exact Nat.le_trans (up_len (S := Sg) (qc _) fun p hp => by obtain ⟨q, hq, e⟩ := cf hp; rw [← e]; exact (hap i q hq).2.2.2) b5
  ·obtain ⟨y, hy, e⟩ := cf hp
   exact e ▸ (hap i y hy).2.2.1
 have sc : ∀ p ∈ aL m.parts, Sml (aI (c9 (g p.v) p.w.q)) (Wg + Wm) 400 := fun p hp => by
  have bg := hg _ (hLv p hp)
  have hr2 : ∀ x : Rat, Fits x Wg → (ao (ao (x * p.w.q)).q).Ok (Wg + Wm) := fun x hx => by rw [be]; exact bw (hmul p hp x hx)
  refine ⟨⟨fun x hx => ⟨(hpar p hp x hx).1, (hpar p hp x hx).2.1⟩, hr2 _ bg.rf, hr2 _ bg.lo, hr2 _ bg.f0, hr2 _ bg.f1, hr2 _ bg.f2⟩, ?_, fun x hx => (hpar p hp x hx).2.2.1⟩
  exact Nat.le_trans (dS _) (by rw [ge]; exact Nat.le_trans bg.len ng1)
 refine ⟨⟨hs, hA, fun x hx => (hapF x hx).2.1, by omega, fun x hx => (hapF x hx).2.2.1⟩, ⟨fun p hp => ?_, fun i h => ?_⟩, ?_⟩
 ·have bg := hg _ (hLv p hp)
  exact ref04_Scale (K := Kg + Wm) (by omega) (bg.ok.mono (by omega)) (rok (hLw p hp).1 (by omega)) (by have := bg.len; omega) (by omega) bg.cnt
 ·have a := sm i
  have b := sc _ (List.getElem_mem h)
  rw [← rZ h]
  exact ref04_Add (K := 40000) (by omega) (by omega) (a.ok.mono (by omega)) (b.ok.mono (by omega)) a.len b.len a.cnt b.cnt
 ·have a := sm (aL m.parts).length
  rw [List.take_length] at a
  exact a.mono (by omega) (Nat.le_refl _)
structure Turn (k : Nat) (cp : List V) (n : Nat) (C : Nat → Sto → Prop) (i : Nat) (v : Tr) (y : Ms) (τ τ' : Sto) : Prop where
 call : CallX Tryz.prog k (.agg v.cells :: cp) τ (fun r s => r = y.v ∧ s = τ')
 c : C (i + 1) τ'
 shut : bV τ'
 le : fresh τ ≤ fresh τ'
 old : ∀ o, n ≤ o → o < fresh τ → E.look τ' o = E.look τ o
 keep : ∀ o, (E.look τ o).isSome = true → (E.look τ' o).isSome = true
structure Caps (k : Nat) (cp : List V) (n : Nat) (C : Nat → Sto → Prop) (g : Tr → Ms) (L : List Part) : Prop where
 turn : ∀ i (h : i < L.length) τ, C i τ → bV τ → n ≤ fresh τ → ∃ τ', Turn k cp n C i L[i].v (g L[i].v) τ τ'
 low : ∀ i τ τ', C i τ → (∀ o, o < n → E.look τ' o = E.look τ o) → C i τ'
 has : ∀ i τ, C i τ → (V.clo k cp).within (fun o => (E.look τ o).isSome) = true
structure BX (n : Nat) (A : Ms) (q : Nat) (τ : Sto) : Prop where
 res : E.look τ (n + 1) = some ⟨.own, 16, [az]⟩
 out : E.look τ (n + 2) = some ⟨.own, 16, [bl q A.parts.length :: am A.rf A.lo A.f0 A.f1 A.f2]⟩
 prt : A.parts ≠ [] → E.look τ q = some (obL A.parts)
 q2 : A.parts ≠ [] → n + 3 ≤ q
 shut : bV τ
theorem BX.fresh {n q : Nat} {A : Ms} {τ : Sto} (I : BX n A q τ) : n + 3 ≤ fresh τ := by have := bt I.out; omega
theorem BX.mono {n q : Nat} {A : Ms} {τ τ' : Sto} (I : BX n A q τ) (h : ∀ o, n ≤ o → o < E.fresh τ → E.look τ' o = E.look τ o) (hs : bV τ') : BX n A q τ' := by
 have f := I.fresh
 exact ⟨by rw [h _ (by omega) (by omega)]; exact I.res, by rw [h _ (by omega) (by omega)]; exact I.out, fun g => by rw [h _ (by have := I.q2 g; omega) (bt (I.prt g))]; exact I.prt g, I.q2, hs⟩
theorem nX {σ : Sto} {q : Nat} {G B : List Part} {o : Nat} (ho : (E.look σ o).isSome = true) : (E.look (ee σ q G B) o).isSome = true := by
 unfold ee
 split
 ·exact ho
 split
 ·rw [ab]; split
  ·rfl
  ·exact ho
 ·rw [ab, ab]; split
  ·rfl
  split
  ·rfl
  ·exact ho
theorem cC {σ : Sto} {p o : Nat} {x : Ob} (ho : (E.look σ o).isSome = true) : (E.look (ag σ p x) o).isSome = true := by
 rw [ab]; split
 ·rfl
 ·exact ho
theorem shut_frz {σ : Sto} {l : List Nat} (h : bV σ) : bV (frz σ l) := by
 intro o x ho hd r hr y hy
 have e : (fun q => (E.look (frz σ l) q).isSome) = fun q => (E.look σ q).isSome := by
  funext q; rw [cG]; cases E.look σ q <;> rfl
 rw [e]
 rw [cG] at ho
 obtain ⟨x0, h0, h1⟩ := Option.map_eq_some_iff.1 ho
 have hc : x.cells = x0.cells := by rw [← h1]; split <;> rfl
 have hs : x0.st ≠ .dead := fun e => hd (by rw [← h1]; split <;> simp_all)
 rw [hc] at hr
 exact h o x0 h0 hs r hr y hy
theorem rJ {n q : Nat} {G B : List Part} {σ : Sto} (h : G ≠ [] → n ≤ q) (hn : G ++ B ≠ []) (hf : n ≤ fresh σ) : n ≤ iS σ q B := by
 unfold iS
 split
 ·rename_i hB
  exact h fun g => hn (by rw [g, hB]; rfl)
 ·omega
theorem BX.step {n q : Nat} {A y A' : Ms} {τ : Sto} (I : BX n A q τ) (hp : A'.parts = A.parts ++ y.parts) :
 BX n A' (iS τ q y.parts) (ag (ee τ q A.parts y.parts) (n + 2) ⟨.own, 16, [bl (iS τ q y.parts) A'.parts.length :: am A'.rf A'.lo A'.f0 A'.f1 A'.f2]⟩) := by
 have f := I.fresh
 refine ⟨?_, ?_, fun h => ?_, fun h => ?_, ?_⟩
 ·rw [ab, if_neg (by omega), fc (fun h => by have := I.q2 h; omega) (by omega)]; exact I.res
 ·rw [ab, if_pos rfl]
 ·have h' : A.parts ++ y.parts ≠ [] := by rw [← hp]; exact h
  have := rJ (B := y.parts) (σ := τ) I.q2 h' (by omega)
  rw [ab, if_neg (by omega), hp]
  exact fa I.prt h'
 ·exact rJ I.q2 (by rw [← hp]; exact h) (by omega)
 ·refine eW (kH I.shut) fun r hr z hz => ?_
  simp only [List.mem_singleton] at hr; subst hr
  rcases List.mem_cons.1 hz with rfl | hz
  ·by_cases n0 : A'.parts.length = 0
   ·rw [n0, aF]; simp [V.within]
   ·have h' : A.parts ++ y.parts ≠ [] := by rw [← hp]; exact fun h => n0 (by rw [h]; rfl)
    rw [ax n0, bA, ab]
    split
    ·rfl
    ·rw [fa I.prt h']; rfl
  ·exact bL _ _ _ _ _ z hz _
def Keys (σ τ : Sto) : Prop := ∀ x ∈ σ.map (·.1), (E.look τ x).isSome = true
def mr (n k : Nat) (cp : List V) (L : List Part) (i : Nat) : Sl := (((((Sl.empty.set 15 (.int .i64 i)).set 14 (.int .i64 L.length)).set 13 (pl L)).set 5 (.ptr (n + 2) 0 0)).set 4 (.ptr (n + 1) 0 0)).set 1 (.clo k cp)
theorem BX.weak {n q k i : Nat} {A : Ms} {τ : Sto} {cp K : _} {L : List Part} {S : Sl} (I : BX n A q τ) (he : (V.clo k cp).within (fun o => (E.look τ o).isSome) = true) (hk : ∀ x ∈ K, (E.look τ x).isSome = true) (h : Sub (mr n k cp L i) S) : Weak K (mr n k cp L i) τ S τ := by
 refine aO h (Has.refl _) hk ?_ I.shut
 unfold mr
 have s1 : (E.look τ (n + 1)).isSome = true := by rw [I.res]; rfl
 have s2 : (E.look τ (n + 2)).isSome = true := by rw [I.out]; rfl
 repeat (first | exact ac | refine ah (by first | (simp; done) | exact he | (rw [ch]; first | exact s1 | exact s2)) ?_)
set_option maxHeartbeats 8000000 in
theorem weights_BindX {m : Ms} {k : Nat} {cp : List V} {C : Nat → Sto → Prop} {g : Tr → Ms} {σ : Sto} {K J : Nat} (hK : 1 ≤ K) (hm : m.Ok K) (hl : m.parts.length ≤ 1000) (hb : K ≤ 100000)
 (hC : Caps k cp (fresh σ) C g (aL m.parts)) (c0 : C 0 σ) (hsh : bV σ)
 (hs : ∀ p ∈ aL m.parts, CallD Tryz.prog F.weights_Scale [(g p.v).v, p.w.v] (· = (aI (c9 (g p.v) p.w.q)).v) ∧ (aI (c9 (g p.v) p.w.q)).Ok (2 ^ 31) ∧ (g p.v).parts.length ≤ 1000)
 (hA : ∀ i, (aZ m g ((aL m.parts).take i)).Ok (2 ^ 31) ∧ (aZ m g ((aL m.parts).take i)).parts.length ≤ 1000000) (hJ : 1 ≤ J) (hP : ∀ p ∈ (aZ m g (aL m.parts)).parts, p.w.Ok J) (hJb : 1 + (aZ m g (aL m.parts)).parts.length * (J + 1) ≤ 2 ^ 31) :
 CallX Tryz.prog F.weights_BindX [m.v, .clo k cp] σ (fun r s => r = (aI (aZ m g (aL m.parts))).v ∧ C (aL m.parts).length s ∧ bV s ∧ fresh σ ≤ fresh s ∧ Keys σ s) := by
 have p1 : m.parts.length * (K + 1) ≤ 1000 * 100001 := Nat.mul_le_mul hl (by omega)
 refine cF F.weights_BindX_ok ?_
 unfold F.weights_BindX_c
 generalize hf : fresh σ = n at *
 have n0 : E.look σ n = none := bH σ _ (by omega)
 have n1 : E.look σ (n + 1) = none := bH σ _ (by omega)
 have n2 : E.look σ (n + 2) = none := bH σ _ (by omega)
 have l16 : (msC m).length = 16 := by simp [msC, am]
 simp (disch := omega) [-ab, hf, bc, l16, Nat.max_eq_left, Nat.max_eq_right, cU]
 generalize hX : ag (ag σ n ⟨.own, 16, [msC m]⟩) (n + 1) ⟨.own, 16, [[.nils, .bool false, .nils, .nils, .bool false, .nils, .nils, .bool false, .nils, .nils, .bool false, .nils, .nils, .bool false, .nils, .nils]]⟩ = X
 have hX0 : E.look X n = some ⟨.own, 16, [msC m]⟩ := by rw [← hX, ab, if_neg (by omega), ab, if_pos rfl]
 have hX1 : E.look X (n + 1) = some ⟨.own, 16, [az]⟩ := by rw [← hX, ab, if_pos rfl]; rfl
 have hXo : ∀ o, o < n → E.look X o = E.look σ o := fun o ho => by rw [← hX, ab, if_neg (by omega), ab, if_neg (by omega)]
 have hXf : fresh X = n + 2 := by rw [← hX, bc, bc, hf]; omega
 have hXs : bV X := by rw [← hX]; exact aE (aE hsh (av (bS m))) (av (by simp [V.within]))
 clear hX
 have x1 : ¬ n = n + 1 := by omega
 have x2 : ¬ n + 1 = n := by omega
 have x3 : ¬ n + 2 = n := by omega
 have x4 : ¬ n = n + 2 := by omega
 have x5 : ¬ n + 2 = n + 1 := by omega
 have x6 : ¬ n + 1 = n + 2 := by omega
 have e2 : n + 1 + 1 = n + 2 := rfl
 have l15 : ∀ {a b c d e : Raw}, (am a b c d e).length = 15 := by simp [am]
 have m16 : ∀ m : Ms, (msC m).length = 16 := fun m => by simp [msC, am]
 have t16 : ∀ m : Ms, List.take 16 (msC m) = msC m := fun m => by simp [msC, am]
 have d16 : ∀ m : Ms, List.drop 16 (msC m) = [] := fun m => by simp [msC, am]
 simp [hX0, aM, m16, t16, x1, x2]
 refine ai (dj hK (by omega) hm (by omega) (by omega)) (by simp [msC, am]) ?_
 have rm : ∀ (m : Ms) (σ : Sto) (n : Nat), (msC m).flatMap (rch σ n) = [] := fun m σ n => gK σ n m
 have g0 : ∀ y : Ms, (msC y)[0]? = some (pl y.parts) := fun y => by simp [msC]
 have g1 : ∀ y : Ms, (msC y).tail = am y.rf y.lo y.f0 y.f1 y.f2 := fun y => by simp [msC]
 simp (disch := omega) [g0, g1, rm, hX0, aM, m16, t16, d16, bc, hXf, e2, x1, x2, x3, x4, x5, x6, cU, Ms.v, Nat.max_eq_left, Nat.max_eq_right]
 have okL : ∀ p ∈ aL m.parts, p.v.Ok := fun p hp => by
  obtain ⟨x, hx, e⟩ := cf hp
  rw [← e]; exact (hm.parts x hx).1
 have hL : (aI m).parts = aL m.parts := rfl
 have ll : (aL m.parts).length ≤ 1000 := Nat.le_trans (dT _) hl
 rw [hL]
 have eA : aZ m g ((aL m.parts).take 0) = ⟨[], (aI m).rf, (aI m).lo, (aI m).f0, (aI m).f1, (aI m).f2⟩ := by
  simp [aZ, cM, aI, Rat.add_zero]
 generalize hLe : aL m.parts = L at *
 have fin : aZ m g (L.take L.length) = aZ m g L := by rw [List.take_length]
 generalize hT : ag (ag X n ⟨.own, 16, [msC (aI m)]⟩) (n + 2) ⟨.own, 16, [.nils :: am (aI m).rf (aI m).lo (aI m).f0 (aI m).f1 (aI m).f2]⟩ = T
 have hT0 : BX n (aZ m g (L.take 0)) 0 T := by
  rw [eA]
  refine ⟨?_, ?_, fun h => (h rfl).elim, fun h => (h rfl).elim, ?_⟩
  ·rw [← hT, ab, if_neg (by omega), ab, if_neg (by omega)]; exact hX1
  ·rw [← hT, ab, if_pos rfl]; rfl
  ·rw [← hT]
   refine aE (aE hXs (av (bS _))) (av ?_)
   intro y hy f
   simp only [List.mem_cons] at hy
   rcases hy with rfl | hy
   ·simp [V.within]
   ·exact bL _ _ _ _ _ y hy f
 have hTo : ∀ o, o < n → E.look T o = E.look σ o := fun o ho => by rw [← hT, ab, if_neg (by omega), ab, if_neg (by omega)]; exact hXo o ho
 have hTk : ∀ x ∈ σ.map (·.1), (E.look T x).isSome = true := fun x hx => by
  have h := aS x hx
  obtain ⟨y, hy⟩ := Option.isSome_iff_exists.1 h
  rw [hTo x (by rw [← hf]; exact bt hy)]; exact h
 have hTc := hC.low 0 σ T c0 hTo
 clear hT eA
 refine aH (fun t : Nat × Nat × Sto => (mr n k cp L t.1, t.2.2)) (fun t => t.1 ≤ L.length ∧ BX n (aZ m g (L.take t.1)) t.2.1 t.2.2 ∧ C t.1 t.2.2 ∧ Keys σ t.2.2) (fun t => L.length - t.1)
  (0, 0, T) ⟨Nat.zero_le _, hT0, hTc, hTk⟩ ?_ ?_
 ·refine hT0.weak (hC.has _ _ hTc) hTk ?_
  unfold mr
  repeat (first | exact af | refine aj (by simp) ?_)
 rintro ⟨i, q, τ⟩ ⟨hi, I, hc, hk⟩
 dsimp only at hi I hc hk
 have f2 := I.fresh
 unfold mr
 by_cases h1 : i < L.length
 ·have hmem := List.getElem_mem h1
  have tk : List.take 6 (aA L[i]) = aA L[i] := by simp
  have ec3 : List.take 3 (aA L[i]) = L[i].v.cells := by unfold aA; exact List.take_left' (by simp)
  have ec6 : List.drop 3 (aA L[i]) = L[i].w.c := by unfold aA; exact List.drop_left' (by simp)
  have hout := I.out
  have y2 : ¬ n + 2 = fresh τ := by omega
  obtain ⟨s1, s2, s3⟩ := hs _ hmem
  have t15 : ∀ {a b c d e : Raw}, List.take 15 (am a b c d e) = am a b c d e := by simp [am]
  have d15 : ∀ {a b c d e : Raw}, List.drop 15 (am a b c d e) = [] := by simp [am]
  simp [h1, tk, ec3, ec6, hout, y2, l15, t15, cU, aM]
  have hsY : bV (ag τ (fresh τ) ⟨.own, 6, [aA L[i]]⟩) := aE I.shut (av fun y hy f => bn _ y hy f)
  have hfY : fresh (ag τ (fresh τ) ⟨.own, 6, [aA L[i]]⟩) = fresh τ + 1 := by rw [bc]; omega
  have hlY : E.look (ag τ (fresh τ) ⟨.own, 6, [aA L[i]]⟩) (fresh τ) = some ⟨.own, 6, [aA L[i]]⟩ := by rw [ab, if_pos rfl]
  have hoY : ∀ o, o < fresh τ → E.look (ag τ (fresh τ) ⟨.own, 6, [aA L[i]]⟩) o = E.look τ o := fun o ho => by rw [ab, if_neg (by omega)]
  have hcY := hC.low i τ (ag τ (fresh τ) ⟨.own, 6, [aA L[i]]⟩) hc fun o ho => hoY o (by omega)
  have IY := I.mono (fun o _ ho => hoY o ho) hsY
  have kY : ∀ x ∈ σ.map (·.1), (E.look (ag τ (fresh τ) ⟨.own, 6, [aA L[i]]⟩) x).isSome = true := fun x hx => cC (hk x hx)
  generalize ag τ (fresh τ) ⟨.own, 6, [aA L[i]]⟩ = Y at *
  obtain ⟨Z, T⟩ := hC.turn i h1 Y hcY hsY (by omega)
  have IZ := IY.mono T.old T.shut
  have kZ : ∀ x ∈ σ.map (·.1), (E.look Z x).isSome = true := fun x hx => T.keep x (kY x hx)
  have fZ := IZ.fresh
  refine ⟨_, _, ⟨rfl, rfl⟩, _, Z, T.call, ?_, ?_⟩
  ·intro s hs o a b e
   simp only [List.mem_cons, List.not_mem_nil, or_false] at hs
   rcases hs with rfl | rfl
   ·simp at e
    rw [← e.1]
    exact T.old _ (by omega) (by omega)
   ·simp at e
    rw [← e.1]
    exact T.old _ (by omega) (by omega)
  have hcZ := T.c
  clear T
  simp [tk, ec3, ec6, aM, Ms.v]
  refine ak s1 (by simp [cP, bq, bW, Ms.v]) ?_
  have r0 : ∀ (σ : Sto) (n : Nat), (msC (g L[i].v)).flatMap (rch σ n) = [] := fun σ n => gK σ n _
  simp [r0, rchs, E.deep]
  have gok := (hA i).1
  have gth := weights_gather (σ := Z) (G := (aZ m g (L.take i)).parts) (q := q) (y := aI (c9 (g L[i].v) L[i].w.q)) (a := (aZ m g (L.take i)).rf) (b := (aZ m g (L.take i)).lo) (c := (aZ m g (L.take i)).f0) (d := (aZ m g (L.take i)).f1) (e := (aZ m g (L.take i)).f2)
   IZ.shut IZ.prt (hA i).2 (Nat.le_trans (dS _) (by rw [ge]; omega)) gok.rf gok.lo gok.f0 gok.f1 gok.f2 s2
  obtain ⟨e1, e2, e3, e4, e5⟩ := qJ (m := m) (g := g) h1
  have ep := jc (m := m) (g := g) h1
  rw [e1, e2, e3, e4, e5, ← ep] at gth
  have st := IZ.step (y := aI (c9 (g L[i].v) L[i].w.q)) (A' := aZ m g (L.take (i + 1))) ep
  have g2 : E.look (ee Z q (aZ m g (L.take i)).parts (aI (c9 (g L[i].v) L[i].w.q)).parts) (n + 2) = some ⟨.own, 16, [bl q (aZ m g (L.take i)).parts.length :: am (aZ m g (L.take i)).rf (aZ m g (L.take i)).lo (aZ m g (L.take i)).f0 (aZ m g (L.take i)).f1 (aZ m g (L.take i)).f2]⟩ := by
   rw [fc (fun h => by have := IZ.q2 h; omega) (by omega)]; exact IZ.out
  have hcN := hC.low (i + 1) Z (ag (ee Z q (aZ m g (L.take i)).parts (aI (c9 (g L[i].v) L[i].w.q)).parts) (n + 2) ⟨.own, 16, [bl (iS Z q (aI (c9 (g L[i].v) L[i].w.q)).parts) (aZ m g (L.take (i + 1))).parts.length :: am (aZ m g (L.take (i + 1))).rf (aZ m g (L.take (i + 1))).lo (aZ m g (L.take (i + 1))).f0 (aZ m g (L.take (i + 1))).f1 (aZ m g (L.take (i + 1))).f2]⟩) hcZ fun o ho => by
   rw [ab, if_neg (by omega), fc (fun h => by have := IZ.q2 h; omega) (by omega)]
  refine mD gth ?_
  simp [g2, l15, d15, aM]
  rw [ap (by omega) (by omega)]
  refine ⟨(i + 1, _, _), ⟨h1, st, hcN, fun x hx => cC (nX (kZ x hx))⟩, by dsimp only; omega, st.weak (hC.has _ _ hcN) (fun x hx => cC (nX (kZ x hx))) ?_⟩
  unfold mr
  repeat (first | exact af | refine aj (by simp) ?_)
 ·have hil : i = L.length := by omega
  subst hil
  have hout := I.out
  have hres := I.res
  have t15 : ∀ {a b c d e : Raw}, List.take 15 (am a b c d e) = am a b c d e := by simp [am]
  have d15 : ∀ {a b c d e : Raw}, List.drop 15 (am a b c d e) = [] := by simp [am]
  simp [hout, l15, t15, aM]
  have okE := (hA L.length).1
  rw [fin] at okE
  have come := fP (m := aZ m g L) hJ (fun p hp => ⟨(okE.parts p hp).1, hP p hp⟩) okE hJb (by have := (hA L.length).2; rwa [fin] at this)
  rw [fin] at I
  have hprt := I.prt
  have hq2 := I.q2
  have hsI := I.shut
  generalize aZ m g L = A at *
  have e11 : ∀ {a b c d e : Raw}, bo (toD τ 11) (am a b c d e) = some (am a b c d e) := by simp [am]
  have hTD : toD τ 11 (bl q A.parts.length) = some (pl A.parts) := cI (k := 10) (st := .own) (es := 6) (fun h => hprt (fun e => h (by rw [e]; rfl))) (by simp) (by simp) (by simp) (fun r hr => by obtain ⟨p, _, rfl⟩ := List.mem_map.1 hr; exact bG _ _ _)
  refine ai come ?_ ?_
  ·simp [e11, hTD, msC]
  have hrr : rch τ 11 (bl q A.parts.length) = if A.parts = [] then [] else [q] := by
   by_cases n0 : A.parts = []
   ·rw [if_pos n0, n0]; rfl
   ·rw [if_neg n0, ax (fun h => n0 (List.length_eq_zero_iff.1 h))]
    exact fi (k := 10) (st := .own) (es := 6) (l := A.parts.map aA) (by simp [aM, hprt n0]) (by simp) (fun r hr => by obtain ⟨p, _, rfl⟩ := List.mem_map.1 hr; exact f9 _ _ _)
  have rt : ∀ {a b c d e : Raw}, (am a b c d e).flatMap (rch τ 11) = [] := by simp [am]
  have l1 : E.look (frz τ (if A.parts = [] then [] else [q])) (n + 1) = some ⟨.own, 16, [az]⟩ := by
   rw [cG, hres]
   by_cases n0 : A.parts = []
   ·simp [n0]
   ·have := hq2 n0
    have : ¬ n + 1 = q := by omega
    simp [n0, this]
  have n16 : (msC (aI A)).length = 16 := by simp [msC, am]
  have t16 : List.take 16 (msC (aI A)) = msC (aI A) := by simp [msC, am]
  have lo : ∀ o, o < n → E.look (frz τ (if A.parts = [] then [] else [q])) o = E.look τ o := fun o ho => by
   rw [cG]
   have : (if A.parts = [] then [] else [q]).contains o = false := by
    by_cases n0 : A.parts = []
    ·simp [n0]
    ·have := hq2 n0
     simp [n0]; omega
   rw [this]; cases E.look τ o <;> simp
  have ks : ∀ o, (E.look τ o).isSome = true → (E.look (frz τ (if A.parts = [] then [] else [q])) o).isSome = true := fun o ho => by
   rw [cG]; cases h : E.look τ o with
   | none => rw [h] at ho; cases ho
   | some x => rfl
  have sF := shut_frz (l := if A.parts = [] then [] else [q]) hsI
  have fF := eY (if A.parts = [] then [] else [q]) τ
  have bh : behind τ [V.agg (bl q A.parts.length :: am A.rf A.lo A.f0 A.f1 A.f2)] (aI A).v = frz τ (if A.parts = [] then [] else [q]) := by
   simp [rchs, E.deep, hrr, rt, Ms.v]
  rw [bh]
  generalize (frz τ (if A.parts = [] then [] else [q])) = Z at *
  have hcZ := hC.low _ τ Z hc lo
  have kZ : ∀ x ∈ σ.map (·.1), (E.look Z x).isSome = true := fun x hx => ks x (hk x hx)
  simp [Ms.v, l1, az, n16, t16, cP]
  refine bQ (r := .agg (msC (aI A))) (l := [.agg (msC (aI A))]) (σ1 := ag Z (n + 1) ⟨.own, 16, [msC (aI A)]⟩) (by simp) (by simp [n16, t16, aM]) rfl (Has.refl _) (fun x hx => cC (kZ x hx)) (aE sF (av (bS _))) ?_ ⟨rfl, ?_, aE sF (av (bS _)), ?_, fun x hx => cC (kZ x hx)⟩
  ·rw [ej, List.all_eq_true]
   exact fun z hz => bS _ z hz _
  ·exact hC.low _ Z _ hcZ fun o ho => by rw [ab, if_neg (by omega)]
  ·rw [bc]; omega
theorem oW {v : Tr} {k b n n1 i : Nat} {cp : List V} {y : Ms} {C : Nat → Sto → Prop} {x : Ob} {τ : Sto} (hv : v.Ok) (hc : cQ v ≤ 1000000) (h0 : C i τ) (hs : bV τ) (hb : E.look τ b = some ⟨.own, 1, [[.clo k cp]]⟩) (hx : E.look τ (b + 1) = some x) (hn : n ≤ b) (hn1 : n ≤ n1) (hn2 : n1 ≤ fresh τ)
 (low : ∀ i τ τ', C i τ → (∀ o, o < n → E.look τ' o = E.look τ o) → C i τ')
 (turn : ∀ τ, C i τ → bV τ → n ≤ fresh τ → ∃ τ', Turn k cp n C i v y τ τ') :
 ∃ τ', Turn F.mass_Bind_1 [.ptr b 0 0] n1 (fun j s => C j s ∧ E.look s b = some ⟨.own, 1, [[.clo k cp]]⟩ ∧ E.look s (b + 1) = some x) i v y τ τ' := by
 have fb := bt hb
 have fx := bt hx
 generalize hf : fresh τ = f at *
 generalize hX : ag (ag τ f ⟨.own, 3, [v.cells]⟩) (f + 1) ⟨.own, 16, [az]⟩ = X
 have hX0 : E.look X f = some ⟨.own, 3, [v.cells]⟩ := by rw [← hX, ab, if_neg (by omega), ab, if_pos rfl]
 have hX1 : E.look X (f + 1) = some ⟨.own, 16, [az]⟩ := by rw [← hX, ab, if_pos rfl]
 have hXo : ∀ o, o < f → E.look X o = E.look τ o := fun o ho => by rw [← hX, ab, if_neg (by omega), ab, if_neg (by omega)]
 have hXf : fresh X = f + 2 := by rw [← hX, bc, bc, hf]; omega
 have hXs : bV X := by rw [← hX]; exact aE (aE hs (av fun y hy f => by cases v; simp [ct] at hy; rcases hy with rfl | rfl | rfl <;> simp [V.within])) (av (by simp [az, V.within]))
 obtain ⟨Z, T⟩ := turn X (low i τ X h0 fun o ho => hXo o (by omega)) hXs (by omega)
 have n16 : (msC y).length = 16 := by simp [msC, am]
 have t16 : List.take 16 (msC y) = msC y := by simp [msC, am]
 have d16 : List.drop 16 (msC y) = [] := by simp [msC, am]
 have hZ1 : E.look Z (f + 1) = some ⟨.own, 16, [az]⟩ := by rw [T.old _ (by omega) (by omega)]; exact hX1
 have hZb : E.look Z b = some ⟨.own, 1, [[.clo k cp]]⟩ := by rw [T.old _ (by omega) (by omega), hXo _ (by omega)]; exact hb
 have hZx : E.look Z (b + 1) = some x := by rw [T.old _ (by omega) (by omega), hXo _ (by omega)]; exact hx
 have kX : ∀ o, (E.look τ o).isSome = true → (E.look X o).isSome = true := fun o ho => by rw [← hX]; exact cC (cC ho)
 have tf := T.le
 refine ⟨ag Z (f + 1) ⟨.own, 16, [msC y]⟩, ⟨?_, ⟨low _ Z _ T.c fun o ho => by rw [ab, if_neg (by omega)], by rw [ab, if_neg (by omega)]; exact hZb, by rw [ab, if_neg (by omega)]; exact hZx⟩, aE T.shut (av (bS _)), by rw [bc]; omega, fun o h1 h2 => ?_, fun o ho => cC (T.keep o (kX o ho))⟩⟩
 ·refine cF F.mass_Bind_1_ok ?_
  unfold F.mass_Bind_1_c
  simp (disch := omega) [-ab, hf, bc, Nat.max_eq_left, Nat.max_eq_right]
  have hXe := hX
  simp only [az] at hXe
  rw [hXe]
  clear hXe hX
  have hXb : E.look X b = some ⟨.own, 1, [[.clo k cp]]⟩ := by rw [hXo b (by omega)]; exact hb
  simp [hXb, hX0, aM]
  refine ak (gH hv hc) (by simp [ba]) ?_
  simp
  refine ⟨_, _, ⟨rfl, rfl⟩, ?_⟩
  refine mD T.call ?_
  simp [hZ1, aM, Ms.v, n16, t16, d16, az]
  refine bQ (r := .agg (msC y)) (l := [.agg (msC y)]) (σ1 := ag Z (f + 1) ⟨.own, 16, [msC y]⟩) (by simp) (by simp [n16, t16, aM]) rfl (Has.refl _) (fun x hx => cC (T.keep x (kX x (aS x hx)))) (aE T.shut (av (bS _))) ?_ ⟨rfl, rfl⟩
  rw [ej, List.all_eq_true]
  exact fun z hz => bS _ z hz _
 ·rw [ab, if_neg (by omega), T.old o (by omega) (by omega), hXo o (by omega)]
set_option maxHeartbeats 4000000 in
theorem rc {m : Ms} {k : Nat} {cp : List V} {C : Nat → Sto → Prop} {g : Tr → Ms} {σ : Sto} {K J : Nat} (hK : 1 ≤ K) (hm : m.Ok K) (hl : m.parts.length ≤ 1000) (hb : K ≤ 100000) (hc : ∀ p ∈ m.parts, cQ p.v ≤ 1000000)
 (hC : Caps k cp (fresh σ) C g (aL m.parts)) (c0 : C 0 σ) (hsh : bV σ)
 (hs : ∀ p ∈ aL m.parts, CallD Tryz.prog F.weights_Scale [(g p.v).v, p.w.v] (· = (aI (c9 (g p.v) p.w.q)).v) ∧ (aI (c9 (g p.v) p.w.q)).Ok (2 ^ 31) ∧ (g p.v).parts.length ≤ 1000)
 (hA : ∀ i, (aZ m g ((aL m.parts).take i)).Ok (2 ^ 31) ∧ (aZ m g ((aL m.parts).take i)).parts.length ≤ 1000000) (hJ : 1 ≤ J) (hP : ∀ p ∈ (aZ m g (aL m.parts)).parts, p.w.Ok J) (hJb : 1 + (aZ m g (aL m.parts)).parts.length * (J + 1) ≤ 2 ^ 31)
 (hgc : ∀ p ∈ (aZ m g (aL m.parts)).parts, cQ p.v ≤ 1000000) :
 CallX Tryz.prog F.mass_Bind [m.v, .clo k cp] σ (fun r s => r = (aI (aZ m g (aL m.parts))).v ∧ C (aL m.parts).length s ∧ bV s ∧ fresh σ ≤ fresh s ∧ Keys σ s) := by
 have okv : ∀ p ∈ aL m.parts, p.v.Ok ∧ cQ p.v ≤ 1000000 := fun p hp => by
  obtain ⟨x, hx, e⟩ := cf hp
  rw [← e]; exact ⟨(hm.parts x hx).1, hc x hx⟩
 have fin : aZ m g ((aL m.parts).take (aL m.parts).length) = aZ m g (aL m.parts) := by rw [List.take_length]
 have okA := (hA (aL m.parts).length).1
 have lnA := (hA (aL m.parts).length).2
 rw [fin] at okA lnA
 have n16 : ∀ y : Ms, (msC y).length = 16 := fun y => by simp [msC, am]
 have t16 : ∀ y : Ms, List.take 16 (msC y) = msC y := fun y => by simp [msC, am]
 have d16 : ∀ y : Ms, List.drop 16 (msC y) = [] := fun y => by simp [msC, am]
 have own := own_Mass (m := aI (aZ m g (aL m.parts))) (K := 2 ^ 31) (by omega) (n6 hJ okA hP hJb) (Nat.le_trans (dS _) lnA) (iI hgc)
 have cw := hC.has 0 σ c0
 generalize hf : fresh σ = n at *
 generalize hX : ag (ag (ag σ n ⟨.own, 16, [msC m]⟩) (n + 1) ⟨.own, 1, [[.clo k cp]]⟩) (n + 2) ⟨.own, 16, [az]⟩ = X
 have hX0 : E.look X n = some ⟨.own, 16, [msC m]⟩ := by rw [← hX, ab, if_neg (by omega), ab, if_neg (by omega), ab, if_pos rfl]
 have hX1 : E.look X (n + 1) = some ⟨.own, 1, [[.clo k cp]]⟩ := by rw [← hX, ab, if_neg (by omega), ab, if_pos rfl]
 have hX2 : E.look X (n + 2) = some ⟨.own, 16, [az]⟩ := by rw [← hX, ab, if_pos rfl]
 have hXo : ∀ o, o < n → E.look X o = E.look σ o := fun o ho => by rw [← hX, ab, if_neg (by omega), ab, if_neg (by omega), ab, if_neg (by omega)]
 have hXf : fresh X = n + 3 := by rw [← hX, bc, bc, bc, hf]; omega
 have hXk : Keys σ X := fun x hx => by rw [← hX]; exact cC (cC (cC (aS x hx)))
 have hXs : bV X := by
  rw [← hX]
  refine aE (eW (aE hsh (av (bS m))) fun r hr z hz => ?_) (av (by simp [az, V.within]))
  simp only [List.mem_singleton] at hr; subst hr
  simp only [List.mem_singleton] at hz; subst hz
  exact iv cw fun o ho => cC (cC ho)
 have hC1 : Caps F.mass_Bind_1 [.ptr (n + 1) 0 0] (fresh X) (fun j s => C j s ∧ E.look s (n + 1) = some ⟨.own, 1, [[.clo k cp]]⟩ ∧ E.look s (n + 1 + 1) = some ⟨.own, 16, [az]⟩) g (aL m.parts) := by
  refine ⟨fun i h τ hc hs hn => ?_, fun i τ τ' hc ho => ⟨hC.low i τ τ' hc.1 fun o h => ho o (by omega), by rw [ho _ (by omega)]; exact hc.2.1, by rw [ho _ (by omega)]; exact hc.2.2⟩, fun i τ hc => ?_⟩
  ·obtain ⟨o1, o2⟩ := okv _ (List.getElem_mem h)
   exact oW o1 o2 hc.1 hs hc.2.1 hc.2.2 (by omega) (by omega) hn hC.low (hC.turn i h)
  ·simp [V.within, hc.2.1]
 have wb := weights_BindX (m := m) (σ := X) hK hm hl hb hC1 ⟨hC.low 0 σ X c0 hXo, hX1, hX2⟩ hXs hs hA hJ hP hJb
 refine cF F.mass_Bind_ok ?_
 unfold F.mass_Bind_c
 simp (disch := omega) [-ab, hf, bc, n16, Nat.max_eq_left, Nat.max_eq_right]
 have hXe := hX
 simp only [az] at hXe
 have e2 : n + 1 + 1 = n + 2 := rfl
 rw [e2, hXe]
 clear hXe hX
 simp [hX0, hX1, aM, n16, t16]
 refine cB wb ?_
 rintro r s ⟨rfl, ⟨c1, c2, c3⟩, ss, sf, sk⟩
 rw [hXf] at sf
 simp [Ms.v]
 refine ai own (by simp [cP, Ms.v]) ?_
 generalize aI (aZ m g (aL m.parts)) = y at *
 have c3' : E.look s (n + 2) = some ⟨.own, 16, [az]⟩ := c3
 simp [c3', az, aM, n16, t16, d16, cP, gK, Ms.v]
 have cz := hC.low _ s (ag s (n + 2) ⟨.own, 16, [msC y]⟩) c1 fun o ho => by rw [ab, if_neg (by omega)]
 have ks : Keys σ (ag s (n + 2) ⟨.own, 16, [msC y]⟩) := fun x hx => by
  exact cC (sk x (mR (hXk x hx)))
 refine bQ (r := .agg (msC y)) (l := [.agg (msC y)]) (σ1 := ag s (n + 2) ⟨.own, 16, [msC y]⟩) (by simp) (by simp [n16, t16, aM]) rfl (Has.refl _) ks (aE ss (av (bS _))) ?_ ⟨rfl, cz, aE ss (av (bS _)), by rw [bc]; omega, ks⟩
 rw [ej, List.all_eq_true]
 exact fun z hz => bS _ z hz _
end Go.Proofs.YtmjgehbpcchjpaaGreatDoor
