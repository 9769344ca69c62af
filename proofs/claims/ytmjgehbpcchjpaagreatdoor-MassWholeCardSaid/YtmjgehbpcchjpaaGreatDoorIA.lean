import Derived.Test.YtmjgehbpcchjpaaGreatDoorHZ
import Derived.Test.YtmjgehbpcchjpaaGreatDoorHW
import Derived.Test.YtmjgehbpcchjpaaGreatDoorHR
namespace Go.Proofs.YtmjgehbpcchjpaaGreatDoor.F
open Go Go.Proofs Go.Proofs.YtmjgehbpcchjpaaGreatDoor.E Go.Proofs.YtmjgehbpcchjpaaGreatDoor.Q
abbrev mass_Bind_1 : Nat := 120
def mass_Bind_1_c : MFn := ⟨8,(.seq (r [o 2 (.box (.t 0)),o 3 (.alloc zM)] [1,2,3]) (.seq (r [o 4 (.ld none (.t 1)),o 5 (.ld (some 3) (.t 2)),o 6 (.callF 121 [(.t 5)]),o 7 (.callVF (.t 4) [(.t 6)]),z (.st 16 (.t 3) (.t 7))] [3]) .ret)),[.cell 3 (some 16)]⟩
theorem mass_Bind_1_ok : cFn Tryz.prog (kps [[1,2,3],[3]]) [] 120 = some mass_Bind_1_c := by kernel_rfl
abbrev mass_Bind : Nat := 57
def mass_Bind_c : MFn := ⟨9,(.seq (r [o 2 (.box (.t 0)),o 3 (.box (.t 1)),o 4 (.alloc zM)] [2,3,4]) (.seq (r [o 5 (.ld (some 16) (.t 2)),o 6 (.mkF 120 [(.t 3)]),o 7 (.call 119 [(.t 5),(.t 6)]),o 8 (.call 78 [(.t 7)]),z (.st 16 (.t 4) (.t 8))] [4]) .ret)),[.cell 4 (some 16)]⟩
theorem mass_Bind_ok : cFn Tryz.prog (kps [[2,3,4],[4]]) [] 57 = some mass_Bind_c := by kernel_rfl
end Go.Proofs.YtmjgehbpcchjpaaGreatDoor.F

namespace Go.Proofs.YtmjgehbpcchjpaaGreatDoor
open Go Go.Proofs Go.Proofs.YtmjgehbpcchjpaaGreatDoor.E
set_option linter.unusedSimpArgs false
set_option linter.unusedVariables false
theorem Elts.toDs {l : List V} (h : Elts l) (σ : Sto) : toDs σ l = some l := by
 induction l with
 | nil => rfl
 | cons a l ih =>
   obtain ⟨r, rfl⟩ := h a (by simp)
   have := ih fun y hy => h y (by simp [hy])
   simp only [E.toDs, this]
   rfl
theorem Elts.rchs {l : List V} (h : Elts l) (σ : Sto) : rchs σ l = [] := by
 unfold E.rchs
 rw [List.flatMap_eq_nil_iff]
 intro y hy
 obtain ⟨r, rfl⟩ := h y hy
 rfl
theorem toDs_call {cp : List V} (he : Elts cp) (v : Tr) (σ : Sto) : toDs σ (.agg v.cells :: cp) = some (.agg v.cells :: cp) := by
 have h := he.toDs σ
 have e : toD σ deep (.agg v.cells) = some (.agg v.cells) := by
  show (mapO (toD σ 11) v.cells).map V.agg = _
  rw [toD_cells]; rfl
 simp only [E.toDs, e, h]
theorem behind_call {cp : List V} (he : Elts cp) (v : Tr) (σ : Sto) (r : V) : behind σ (.agg v.cells :: cp) r = σ := by
 have e : rchs σ (.agg v.cells :: cp) = [] := by
  have h := he.rchs σ
  unfold E.rchs at h ⊢
  rw [List.flatMap_cons, h]
  show v.cells.flatMap (rch σ 11) ++ [] = []
  rw [rch_cells]; rfl
 unfold behind
 rw [e, frz_nil]
 split <;> rfl
theorem Elts.mapP {l : List V} (h : Elts l) (σ : Sto) (n : Nat) : mapO (toP σ (n + 1)) l = some l := by
 induction l with
 | nil => rfl
 | cons a l ih =>
   obtain ⟨r, rfl⟩ := h a (by simp)
   have := ih fun y hy => h y (by simp [hy])
   simp only [mapO, this]
   rfl
theorem Elts.rchP {l : List V} (h : Elts l) (σ : Sto) (n : Nat) : l.flatMap (rchP σ n) = [] := by
 rw [List.flatMap_eq_nil_iff]
 intro y hy
 obtain ⟨r, rfl⟩ := h y hy
 cases n <;> rfl
theorem toP_ptr {σ : Sto} {o n : Nat} {x : Ob} {r r' : List V} (h : getOb σ o = some x) (hr : x.cells[0]? = some r) (h0 : 0 < r.length) (hm : mapO (toP σ n) r = some r') : toP σ (n + 1) (.ptr o 0 0) = some (.elt r') := by
 show (match getOb σ o with | some x => (match x.cells[0]? with | some r => if 0 < List.length r then (mapO (toP σ n) (List.drop 0 r)).map V.elt else none | none => none) | none => none) = _
 rw [h]
 simp only [hr, if_pos h0, List.drop_zero, hm]
 rfl
theorem rchP_ptr {σ : Sto} {o n : Nat} {x : Ob} {r : List V} (h : getOb σ o = some x) (hr : x.cells[0]? = some r) (hm : r.flatMap (rchP σ n) = []) : rchP σ (n + 1) (.ptr o 0 0) = [o] := by
 show (match getOb σ o with | some x => (match x.cells[0]? with | some r => o :: (r.drop 0).flatMap (rchP σ n) | none => []) | none => []) = _
 rw [h]
 simp only [hr, List.drop_zero, hm]
theorem toP_clo {σ : Sto} {f n : Nat} {l l' : List V} (h : mapO (toP σ n) l = some l') : toP σ (n + 1) (.clo f l) = some (.clo f l') := by
 show (mapO (toP σ n) l).map (V.clo f) = _
 rw [h]; rfl
theorem toP_agg {σ : Sto} {n : Nat} {l l' : List V} (h : mapO (toP σ n) l = some l') : toP σ (n + 1) (.agg l) = some (.agg l') := by
 show (mapO (toP σ n) l).map V.agg = _
 rw [h]; rfl
theorem toPs2 {σ : Sto} {a b a' b' : V} (h : toP σ deep a = some a') (k : toP σ deep b = some b') : toPs σ [a, b] = some [a', b'] := by simp only [E.toPs, h, k]
theorem rchP_agg {σ : Sto} {n : Nat} {l : List V} (h : l.flatMap (rchP σ n) = []) : rchP σ (n + 1) (.agg l) = [] := h
theorem rchP_clo {σ : Sto} {f n : Nat} {l : List V} {r : List Nat} (h : l.flatMap (rchP σ n) = r) : rchP σ (n + 1) (.clo f l) = r := h
theorem rchPs2 {σ : Sto} {a b : V} {r s : List Nat} (h : rchP σ deep a = r) (k : rchP σ deep b = s) : rchPs σ [a, b] = r ++ s := by
 show rchP σ deep a ++ (rchP σ deep b ++ []) = _
 rw [h, k, List.append_nil]
theorem callK_P2 {P : Program} {S : Sl} {σ : Sto} {f : Nat} {vs ds : List V} {rest : List MOper} {d : Option Nat} {Q : Sl → Sto → Prop} {r : V} {l : List Nat} (hc : CallD P f ds (· = r)) (hd : toPs σ vs = some ds) (hl : rchPs σ vs = l) (hs : r.scalar = false) (h : Nxt P rest d S Q r (frz σ l)) : CallK P f vs σ rest d S Q :=
 callK_P hc hd (by unfold behindP; rw [hs, hl]; exact h)
theorem mapO1 {f : V → Option V} {a a' : V} (h : f a = some a') : mapO f [a] = some [a'] := by simp only [mapO, h]
theorem toP_msV (σ : Sto) (n : Nat) (m : Ms) : mapO (toP σ (n + 1)) (msC m) = some (msC m) := by simp [msC, tailC, toP, mapO]
theorem rchP_msV (σ : Sto) (n : Nat) (m : Ms) : (msC m).flatMap (rchP σ (n + 1)) = [] := by simp [msC, tailC, rchP]
theorem normM_okB {m : Ms} {K : Nat} (hK : 1 ≤ K) (hm : m.Ok (2 ^ 31)) (hp : ∀ p ∈ m.parts, p.w.Ok K) (hb : 1 + m.parts.length * (K + 1) ≤ 2 ^ 31) : (normM m).Ok (2 ^ 31) := by
 have fr : ∀ {x : Raw}, x.Ok (2 ^ 31) → (rawOf x.q).Ok (2 ^ 31) := fun hx => rawOf_ok (Raw.fits hx (by omega))
 refine ⟨fun p h => ?_, fr hm.rf, fr hm.lo, fr hm.f0, fr hm.f1, fr hm.f2⟩
 obtain ⟨q, hq, e⟩ := normP_vals h
 refine ⟨e ▸ (hm.parts q hq).1, ?_⟩
 rw [(normP_w h).1]
 exact rawOf_ok ((wsum_fits hK (fun x hx => Raw.fits (hp x hx) hK) _).mono hb)
theorem mass_Bind_1 {v : Tr} {k : Nat} {cp : List V} {y : Ms} (hv : v.Ok) (hc : cntT v ≤ 1000000) (he : Elts cp) (hk : CallD Tryz.prog k (.agg v.cells :: cp) (· = y.v)) : CallD Tryz.prog F.mass_Bind_1 [.agg v.cells, .elt [.clo k cp]] (· = y.v) := by
 refine callD_by F.mass_Bind_1_ok ?_
 unfold F.mass_Bind_1_c
 have n16 : (msC y).length = 16 := by simp [msC, tailC]
 have t16 : List.take 16 (msC y) = msC y := by simp [msC, tailC]
 have d16 : List.drop 16 (msC y) = [] := by simp [msC, tailC]
 simp [setOb, List.filter_cons]
 refine callFK_of (mown_Value hv hc) (by simp [toD_cells]) ?_
 simp
 refine ⟨_, _, ⟨rfl, rfl⟩, callXK_of hk (toDs_call he _ _) ?_⟩
 rw [behind_call he]
 simp [setOb, List.filter_cons, n16, t16, d16, toD_msV]
theorem mass_Bind {m : Ms} {k : Nat} {cp : List V} {g : Tr → Ms} {K J : Nat} (hK : 1 ≤ K) (hm : m.Ok K) (hl : m.parts.length ≤ 1000) (hb : K ≤ 100000) (hc : ∀ p ∈ m.parts, cntT p.v ≤ 1000000) (he : Elts cp)
 (hg : ∀ p ∈ normP m.parts, CallD Tryz.prog k (.agg p.v.cells :: cp) (· = (g p.v).v))
 (hs : ∀ p ∈ normP m.parts, CallD Tryz.prog F.weights_Scale [(g p.v).v, p.w.v] (· = (normM (sclM (g p.v) p.w.q)).v) ∧ (normM (sclM (g p.v) p.w.q)).Ok (2 ^ 31) ∧ (g p.v).parts.length ≤ 1000)
 (hA : ∀ i, (accB m g ((normP m.parts).take i)).Ok (2 ^ 31) ∧ (accB m g ((normP m.parts).take i)).parts.length ≤ 1000000) (hJ : 1 ≤ J) (hP : ∀ p ∈ (accB m g (normP m.parts)).parts, p.w.Ok J) (hJb : 1 + (accB m g (normP m.parts)).parts.length * (J + 1) ≤ 2 ^ 31)
 (hgc : ∀ p ∈ (accB m g (normP m.parts)).parts, cntT p.v ≤ 1000000) :
 CallD Tryz.prog F.mass_Bind [m.v, .clo k cp] (· = (normM (accB m g (normP m.parts))).v) := by
 have okv : ∀ p ∈ normP m.parts, p.v.Ok ∧ cntT p.v ≤ 1000000 := fun p hp => by
  obtain ⟨x, hx, e⟩ := normP_vals hp
  rw [← e]; exact ⟨(hm.parts x hx).1, hc x hx⟩
 have wb := weights_Bind (m := m) (k := F.mass_Bind_1) (cp := [.elt [.clo k cp]]) (g := g) hK hm hl hb (fun y hy => by simp at hy; exact ⟨_, hy⟩) (fun p hp => mass_Bind_1 (okv p hp).1 (okv p hp).2 he (hg p hp)) hs hA hJ hP hJb
 have fin : accB m g ((normP m.parts).take (normP m.parts).length) = accB m g (normP m.parts) := by rw [List.take_length]
 have okA := (hA (normP m.parts).length).1
 have lnA := (hA (normP m.parts).length).2
 rw [fin] at okA lnA
 refine callD_by F.mass_Bind_ok ?_
 unfold F.mass_Bind_c
 have n16 : ∀ y : Ms, (msC y).length = 16 := fun y => by simp [msC, tailC]
 have t16 : ∀ y : Ms, List.take 16 (msC y) = msC y := fun y => by simp [msC, tailC]
 have d16 : ∀ y : Ms, List.drop 16 (msC y) = [] := fun y => by simp [msC, tailC]
 have cpP := he.mapP
 have cpR := he.rchP
 simp [setOb, List.filter_cons, n16, t16, d16]
 refine callK_P2 (l := [1]) wb (toPs2 (toP_agg (toP_msV _ _ _)) (toP_clo (mapO1 (toP_ptr (x := ⟨.own, 1, [[.clo k cp]]⟩) (by simp [getOb, E.look]) rfl (by simp) (mapO1 (toP_clo (cpP _ _))))))) ?_ rfl ?_
 ·exact rchPs2 (r := []) (rchP_agg (rchP_msV _ _ _)) (rchP_clo (r := [1]) (by
   rw [List.flatMap_cons, List.flatMap_nil, rchP_ptr (x := ⟨.own, 1, [[.clo k cp]]⟩) (r := [.clo k cp]) (by simp [getOb, E.look]) rfl (by rw [List.flatMap_cons, rchP_clo (r := []) (cpR _ _)]; rfl)]
   rfl))
 simp [frz, Ms.v]
 refine callK_of (own_Mass (m := normM (accB m g (normP m.parts))) (K := 2 ^ 31) (by omega) (normM_okB hJ okA hP hJb) (Nat.le_trans (normM_len _) lnA) (normM_cnt hgc)) (by simp [toD_msV]) ?_
 simp [setOb, List.filter_cons, n16, t16, d16, toD_msV, rch_msV, Ms.v]
end Go.Proofs.YtmjgehbpcchjpaaGreatDoor

namespace Go.Proofs.YtmjgehbpcchjpaaGreatDoor
open Go Go.Proofs Go.Proofs.YtmjgehbpcchjpaaGreatDoor.E
set_option linter.unusedSimpArgs false
set_option linter.unusedVariables false
def hsum (h : Tr → Rat) (l : List Part) : Rat := sumBy (fun p => h p.v * p.w.q) l
theorem hsum_nil (h : Tr → Rat) : hsum h [] = 0 := rfl
theorem hsum_cons (h : Tr → Rat) (p : Part) (l : List Part) : hsum h (p :: l) = h p.v * p.w.q + hsum h l := sumBy_cons p l
theorem hsum_append (h : Tr → Rat) (l m : List Part) : hsum h (l ++ m) = hsum h l + hsum h m := sumBy_append l m
theorem hsum_putP {h : Tr → Rat} {v : Tr} {w : Rat} {l : List Part} : hsum h (putP v w l) = hsum h l + h v * w := by
 induction l with
 | nil => simp only [putP, hsum_cons, hsum_nil, rawOf_q]; grind
 | cons a l ih =>
   unfold putP
   split
   ·simp only [hsum_cons, rawOf_q]; grind
   ·split
    ·rename_i hc
     have e := (cmpT_zero _ _).1 hc
     subst e
     simp only [hsum_cons, rawOf_q]; grind
    ·simp only [hsum_cons, ih]; grind
theorem hsum_fullP (h : Tr → Rat) (l : List Part) : hsum h (fullP l) = hsum h l := by
 refine snoc_ind (P := fun l => hsum h (fullP l) = hsum h l) rfl (fun l p ih => ?_) l
 rw [fullP_snoc, hsum_putP, ih, hsum_append, hsum_cons, hsum_nil, Rat.add_zero]
theorem hsum_normP (h : Tr → Rat) (l : List Part) : hsum h (normP l) = hsum h l := by
 have key : ∀ m : List Part, hsum h (m.filter fun p => decide (p.w.q ≠ 0)) = hsum h m := fun m => by
  induction m with
  | nil => rfl
  | cons a m ih =>
    rw [List.filter_cons]
    by_cases h0 : a.w.q = 0
    ·rw [if_neg (by simpa using h0), ih, hsum_cons, h0]; grind
    ·rw [if_pos (by simpa using h0), hsum_cons, hsum_cons, ih]
 exact (key (fullP l)).trans (hsum_fullP h l)
theorem hsum_sclP (h : Tr → Rat) (l : List Part) (r : Rat) : hsum h (sclP l r) = hsum h l * r := by
 induction l with
 | nil => simp [sclP, hsum_nil]
 | cons p l ih =>
   have e : sclP (p :: l) r = ⟨p.v, rawOf (p.w.q * r)⟩ :: sclP l r := rfl
   rw [e, hsum_cons, hsum_cons, ih, rawOf_q]; grind
theorem hsum_add (a b : Tr → Rat) (l : List Part) : hsum (fun v => a v + b v) l = hsum a l + hsum b l := by
 induction l with
 | nil => simp [hsum_nil, Rat.add_zero]
 | cons p l ih => rw [hsum_cons, hsum_cons, hsum_cons, ih]; grind
theorem wsum_hsum (l : List Part) (v : Tr) : wsum l v = hsum (fun u => if u = v then 1 else 0) l := by
 induction l with
 | nil => rfl
 | cons p l ih => rw [wsum_cons, hsum_cons, ih]; split <;> grind
theorem psum_hsum (l : List Part) : psum l = hsum (fun _ => 1) l := by
 induction l with
 | nil => rfl
 | cons p l ih => rw [psum_cons, hsum_cons, ih]; grind
theorem hsum_ext {a b : Tr → Rat} {l : List Part} (h : ∀ p ∈ l, a p.v = b p.v) : hsum a l = hsum b l := by
 induction l with
 | nil => rfl
 | cons p l ih => rw [hsum_cons, hsum_cons, h p (by simp), ih fun q hq => h q (by simp [hq])]
theorem hsum_acc (h : Tr → Rat) (m : Ms) (g : Tr → Ms) (L : List Part) : hsum h (accB m g L).parts = hsum (fun v => hsum h (g v).parts) L := by
 show hsum h (L.map fun p => normP (sclP (g p.v).parts p.w.q)).flatten = _
 induction L with
 | nil => rfl
 | cons p L ih => rw [List.map_cons, List.flatten_cons, hsum_append, ih, hsum_normP, hsum_sclP, hsum_cons]
def bindM (m : Ms) (g : Tr → Ms) : Ms := normM (accB m g (normP m.parts))
theorem hsum_bindM (h : Tr → Rat) (m : Ms) (g : Tr → Ms) : hsum h (bindM m g).parts = hsum (fun v => hsum h (g v).parts) m.parts := by
 show hsum h (normP _) = _
 rw [hsum_normP, hsum_acc, hsum_normP]
theorem bindM_q (m : Ms) (g : Tr → Ms) : (bindM m g).rf.q = m.rf.q + hsum (fun v => (g v).rf.q) m.parts ∧ (bindM m g).lo.q = m.lo.q + hsum (fun v => (g v).lo.q) m.parts ∧
 (bindM m g).f0.q = m.f0.q + hsum (fun v => (g v).f0.q) m.parts ∧ (bindM m g).f1.q = m.f1.q + hsum (fun v => (g v).f1.q) m.parts ∧ (bindM m g).f2.q = m.f2.q + hsum (fun v => (g v).f2.q) m.parts := by
 have k : ∀ (x : Rat) (h : Tr → Rat), (rawOf (rawOf (x + hsum h (normP m.parts))).q).q = x + hsum h m.parts := fun x h => by
  rw [rawOf_q, rawOf_q, hsum_normP]
 exact ⟨k m.rf.q fun v => (g v).rf.q, k m.lo.q fun v => (g v).lo.q, k m.f0.q fun v => (g v).f0.q, k m.f1.q fun v => (g v).f1.q, k m.f2.q fun v => (g v).f2.q⟩
theorem up_len : ∀ {L : List Part} {S : List Tr}, UpP L → (∀ p ∈ L, p.v ∈ S) → L.length ≤ S.length
 | [], _, _, _ => Nat.zero_le _
 | a :: L, S, h, hS => by
   obtain ⟨h1, h2⟩ := List.pairwise_cons.1 h
   have ha := hS a (by simp)
   have := up_len (L := L) (S := S.erase a.v) h2 fun p hp => by
    have hne : p.v ≠ a.v := fun e => by have := h1 p hp; rw [e, cmpT_self] at this; omega
    exact (List.mem_erase_of_ne hne).2 (hS p (by simp [hp]))
   rw [List.length_erase_of_mem ha] at this
   have : 0 < S.length := List.length_pos_of_mem ha
   simp only [List.length_cons]; omega
theorem flat_len {α : Type} {f : α → List Part} {b : Nat} : ∀ {L : List α}, (∀ x ∈ L, (f x).length ≤ b) → (L.map f).flatten.length ≤ L.length * b
 | [], _ => by simp
 | a :: L, h => by
   have h1 := h a (by simp)
   have h2 := flat_len (L := L) fun x hx => h x (by simp [hx])
   rw [List.map_cons, List.flatten_cons, List.length_append, List.length_cons, Nat.succ_mul]; omega
end Go.Proofs.YtmjgehbpcchjpaaGreatDoor
