import Derived.Test.YtmjgehbpcchjpaaGreatDoorHZ
import Derived.Test.YtmjgehbpcchjpaaGreatDoorHW
import Derived.Test.YtmjgehbpcchjpaaGreatDoorHR
namespace Go.Proofs.YtmjgehbpcchjpaaGreatDoor.F
open Go Go.Proofs Go.Proofs.YtmjgehbpcchjpaaGreatDoor.E Go.Proofs.YtmjgehbpcchjpaaGreatDoor.Q
abbrev mass_Bind_1 : Nat := 120
def mass_Bind_1_c : MFn := ⟨8,(.seq (r [o 2 (.box (.t 0)),o 3 (.alloc zM)] [1,2,3]) (.seq (r [o 4 (.ld none (.t 1)),o 5 (.ld (some 3) (.t 2)),o 6 (.callF 121 [(.t 5)]),o 7 (.callVF (.t 4) [(.t 6)]),z (.st 16 (.t 3) (.t 7))] [3]) .ret)),[.cell 3 (some 16)]⟩
theorem mass_Bind_1_ok : cFn Tryz.prog (kps [[1,2,3],[3]]) [] 120 = some mass_Bind_1_c := by kernel_rfl
abbrev mass_Bind : Nat := 57
def mass_Bind_c : MFn := ⟨9,(.seq (r [o 2 (.box (.t 0)),o 3 (.box (.t 1)),o 4 (.alloc zM)] [2,3,4]) (.seq (r [o 5 (.ld (some 16) (.t 2)),o 6 (.mkF 120 [(.t 3)]),o 7 (.call 119 [(.t 5),(.t 6)]),o 8 (.call 78 [(.t 7)]),z (.st 16 (.t 4) (.t 8))] [4]) .ret)),[.cell 4 (some 16)]⟩
theorem mass_Bind_ok : cFn Tryz.prog (kps [[2,3,4],[4]]) [] 57 = some mass_Bind_c := by kernel_rfl
end Go.Proofs.YtmjgehbpcchjpaaGreatDoor.F

namespace Go.Proofs.YtmjgehbpcchjpaaGreatDoor
open Go Go.Proofs Go.Proofs.YtmjgehbpcchjpaaGreatDoor.E
set_option linter.unusedSimpArgs false
set_option linter.unusedVariables false
theorem Elts.toDs {l : List V} (h : Elts l) (σ : Sto) : toDs σ l = some l := by
 induction l with
 | nil => rfl
 | cons a l ih =>
   obtain ⟨r, rfl⟩ := h a (by simp)
   have := ih fun y hy => h y (by simp [hy])
   simp only [E.toDs, this]
   rfl
theorem Elts.rchs {l : List V} (h : Elts l) (σ : Sto) : rchs σ l = [] := by
 unfold E.rchs
 rw [List.flatMap_eq_nil_iff]
 intro y hy
 obtain ⟨r, rfl⟩ := h y hy
 rfl
theorem s7 {cp : List V} (he : Elts cp) (v : Tr) (σ : Sto) : toDs σ (.agg v.cells :: cp) = some (.agg v.cells :: cp) := by
 have h := he.toDs σ
 have e : toD σ deep (.agg v.cells) = some (.agg v.cells) := by
  show (bo (toD σ 11) v.cells).map V.agg = _
  rw [ba]; rfl
 simp only [E.toDs, e, h]
theorem pu {cp : List V} (he : Elts cp) (v : Tr) (σ : Sto) (r : V) : behind σ (.agg v.cells :: cp) r = σ := by
 have e : rchs σ (.agg v.cells :: cp) = [] := by
  have h := he.rchs σ
  unfold E.rchs at h ⊢
  rw [List.flatMap_cons, h]
  show v.cells.flatMap (rch σ 11) ++ [] = []
  rw [sO]; rfl
 unfold behind
 rw [e, aN]
 split <;> rfl
theorem Elts.mapP {l : List V} (h : Elts l) (σ : Sto) (n : Nat) : bo (toP σ (n + 1)) l = some l := by
 induction l with
 | nil => rfl
 | cons a l ih =>
   obtain ⟨r, rfl⟩ := h a (by simp)
   have := ih fun y hy => h y (by simp [hy])
   simp only [bo, this]
   rfl
theorem Elts.rchP {l : List V} (h : Elts l) (σ : Sto) (n : Nat) : l.flatMap (rchP σ n) = [] := by
 rw [List.flatMap_eq_nil_iff]
 intro y hy
 obtain ⟨r, rfl⟩ := h y hy
 cases n <;> rfl
theorem toP_ptr {σ : Sto} {o n : Nat} {x : Ob} {r r' : List V} (h : aM σ o = some x) (hr : x.cells[0]? = some r) (h0 : 0 < r.length) (hm : bo (toP σ n) r = some r') : toP σ (n + 1) (.ptr o 0 0) = some (.elt r') := by
 show (match aM σ o with | some x => (match x.cells[0]? with | some r => if 0 < List.length r then (bo (toP σ n) (List.drop 0 r)).map V.elt else none | none => none) | none => none) = _
 rw [h]
 simp only [hr, if_pos h0, List.drop_zero, hm]
 rfl
theorem rchP_ptr {σ : Sto} {o n : Nat} {x : Ob} {r : List V} (h : aM σ o = some x) (hr : x.cells[0]? = some r) (hm : r.flatMap (rchP σ n) = []) : rchP σ (n + 1) (.ptr o 0 0) = [o] := by
 show (match aM σ o with | some x => (match x.cells[0]? with | some r => o :: (r.drop 0).flatMap (rchP σ n) | none => []) | none => []) = _
 rw [h]
 simp only [hr, List.drop_zero, hm]
theorem rV {σ : Sto} {f n : Nat} {l l' : List V} (h : bo (toP σ n) l = some l') : toP σ (n + 1) (.clo f l) = some (.clo f l') := by
 show (bo (toP σ n) l).map (V.clo f) = _
 rw [h]; rfl
theorem toP_agg {σ : Sto} {n : Nat} {l l' : List V} (h : bo (toP σ n) l = some l') : toP σ (n + 1) (.agg l) = some (.agg l') := by
 show (bo (toP σ n) l).map V.agg = _
 rw [h]; rfl
theorem toPs2 {σ : Sto} {a b a' b' : V} (h : toP σ deep a = some a') (k : toP σ deep b = some b') : toPs σ [a, b] = some [a', b'] := by simp only [E.toPs, h, k]
theorem rchP_agg {σ : Sto} {n : Nat} {l : List V} (h : l.flatMap (rchP σ n) = []) : rchP σ (n + 1) (.agg l) = [] := h
theorem qg {σ : Sto} {f n : Nat} {l : List V} {r : List Nat} (h : l.flatMap (rchP σ n) = r) : rchP σ (n + 1) (.clo f l) = r := h
theorem rchPs2 {σ : Sto} {a b : V} {r s : List Nat} (h : rchP σ deep a = r) (k : rchP σ deep b = s) : rchPs σ [a, b] = r ++ s := by
 show rchP σ deep a ++ (rchP σ deep b ++ []) = _
 rw [h, k, List.append_nil]
theorem callK_P2 {P : Program} {S : Sl} {σ : Sto} {f : Nat} {vs ds : List V} {rest : List MOper} {d : Option Nat} {Q : Sl → Sto → Prop} {r : V} {l : List Nat} (hc : CallD P f ds (· = r)) (hd : toPs σ vs = some ds) (hl : rchPs σ vs = l) (hs : r.scalar = false) (h : Nxt P rest d S Q r (frz σ l)) : CallK P f vs σ rest d S Q :=
 callK_P hc hd (by unfold bF; rw [hs, hl]; exact h)
theorem mapO1 {f : V → Option V} {a a' : V} (h : f a = some a') : bo f [a] = some [a'] := by simp only [bo, h]
theorem toP_msV (σ : Sto) (n : Nat) (m : Ms) : bo (toP σ (n + 1)) (msC m) = some (msC m) := by simp [msC, am, toP, bo]
theorem rchP_msV (σ : Sto) (n : Nat) (m : Ms) : (msC m).flatMap (rchP σ (n + 1)) = [] := by simp [msC, am, rchP]
theorem n6 {m : Ms} {K : Nat} (hK : 1 ≤ K) (hm : m.Ok (2 ^ 31)) (hp : ∀ p ∈ m.parts, p.w.Ok K) (hb : 1 + m.parts.length * (K + 1) ≤ 2 ^ 31) : (aI m).Ok (2 ^ 31) := by
 have fr : ∀ {x : Raw}, x.Ok (2 ^ 31) → (ao x.q).Ok (2 ^ 31) := fun hx => bw (Raw.fits hx (by omega))
 refine ⟨fun p h => ?_, fr hm.rf, fr hm.lo, fr hm.f0, fr hm.f1, fr hm.f2⟩
 obtain ⟨q, hq, e⟩ := cf h
 refine ⟨e ▸ (hm.parts q hq).1, ?_⟩
 rw [(j6 h).1]
 exact bw ((gj hK (fun x hx => Raw.fits (hp x hx) hK) _).mono hb)
theorem mass_Bind_1 {v : Tr} {k : Nat} {cp : List V} {y : Ms} (hv : v.Ok) (hc : cQ v ≤ 1000000) (he : Elts cp) (hk : CallD Tryz.prog k (.agg v.cells :: cp) (· = y.v)) : CallD Tryz.prog F.mass_Bind_1 [.agg v.cells, .elt [.clo k cp]] (· = y.v) := by
 refine aB F.mass_Bind_1_ok ?_
 unfold F.mass_Bind_1_c
 have n16 : (msC y).length = 16 := by simp [msC, am]
 have t16 : List.take 16 (msC y) = msC y := by simp [msC, am]
 have d16 : List.drop 16 (msC y) = [] := by simp [msC, am]
 simp [ag, List.filter_cons]
 refine ak (gH hv hc) (by simp [ba]) ?_
 simp
 refine ⟨_, _, ⟨rfl, rfl⟩, fU hk (s7 he _ _) ?_⟩
 rw [pu he]
 simp [ag, List.filter_cons, n16, t16, d16, cP]
theorem mass_Bind {m : Ms} {k : Nat} {cp : List V} {g : Tr → Ms} {K J : Nat} (hK : 1 ≤ K) (hm : m.Ok K) (hl : m.parts.length ≤ 1000) (hb : K ≤ 100000) (hc : ∀ p ∈ m.parts, cQ p.v ≤ 1000000) (he : Elts cp)
 (hg : ∀ p ∈ aL m.parts, CallD Tryz.prog k (.agg p.v.cells :: cp) (· = (g p.v).v))
 (hs : ∀ p ∈ aL m.parts, CallD Tryz.prog F.weights_Scale [(g p.v).v, p.w.v] (· = (aI (c9 (g p.v) p.w.q)).v) ∧ (aI (c9 (g p.v) p.w.q)).Ok (2 ^ 31) ∧ (g p.v).parts.length ≤ 1000)
 (hA : ∀ i, (aZ m g ((aL m.parts).take i)).Ok (2 ^ 31) ∧ (aZ m g ((aL m.parts).take i)).parts.length ≤ 1000000) (hJ : 1 ≤ J) (hP : ∀ p ∈ (aZ m g (aL m.parts)).parts, p.w.Ok J) (hJb : 1 + (aZ m g (aL m.parts)).parts.length * (J + 1) ≤ 2 ^ 31)
 (hgc : ∀ p ∈ (aZ m g (aL m.parts)).parts, cQ p.v ≤ 1000000) :
 CallD Tryz.prog F.mass_Bind [m.v, .clo k cp] (· = (aI (aZ m g (aL m.parts))).v) := by
 have okv : ∀ p ∈ aL m.parts, p.v.Ok ∧ cQ p.v ≤ 1000000 := fun p hp => by
  obtain ⟨x, hx, e⟩ := cf hp
  rw [← e]; exact ⟨(hm.parts x hx).1, hc x hx⟩
 have wb := weights_Bind (m := m) (k := F.mass_Bind_1) (cp := [.elt [.clo k cp]]) (g := g) hK hm hl hb (fun y hy => by simp at hy; exact ⟨_, hy⟩) (fun p hp => mass_Bind_1 (okv p hp).1 (okv p hp).2 he (hg p hp)) hs hA hJ hP hJb
 have fin : aZ m g ((aL m.parts).take (aL m.parts).length) = aZ m g (aL m.parts) := by rw [List.take_length]
 have okA := (hA (aL m.parts).length).1
 have lnA := (hA (aL m.parts).length).2
 rw [fin] at okA lnA
 refine aB F.mass_Bind_ok ?_
 unfold F.mass_Bind_c
 have n16 : ∀ y : Ms, (msC y).length = 16 := fun y => by simp [msC, am]
 have t16 : ∀ y : Ms, List.take 16 (msC y) = msC y := fun y => by simp [msC, am]
 have d16 : ∀ y : Ms, List.drop 16 (msC y) = [] := fun y => by simp [msC, am]
 have cpP := he.mapP
 have cpR := he.rchP
 simp [ag, List.filter_cons, n16, t16, d16]
 refine callK_P2 (l := [1]) wb (toPs2 (toP_agg (toP_msV _ _ _)) (rV (mapO1 (toP_ptr (x := ⟨.own, 1, [[.clo k cp]]⟩) (by simp [aM, E.look]) rfl (by simp) (mapO1 (rV (cpP _ _))))))) ?_ rfl ?_
 ·exact rchPs2 (r := []) (rchP_agg (rchP_msV _ _ _)) (qg (r := [1]) (by
   rw [List.flatMap_cons, List.flatMap_nil, rchP_ptr (x := ⟨.own, 1, [[.clo k cp]]⟩) (r := [.clo k cp]) (by simp [aM, E.look]) rfl (by rw [List.flatMap_cons, qg (r := []) (cpR _ _)]; rfl)]
   rfl))
 simp [frz, Ms.v]
 refine ai (own_Mass (m := aI (aZ m g (aL m.parts))) (K := 2 ^ 31) (by omega) (n6 hJ okA hP hJb) (Nat.le_trans (dS _) lnA) (iI hgc)) (by simp [cP]) ?_
 simp [ag, List.filter_cons, n16, t16, d16, cP, gK, Ms.v]
def dB (h : Tr → Rat) (l : List Part) : Rat := cM (fun p => h p.v * p.w.q) l
theorem mO (h : Tr → Rat) : dB h [] = 0 := rfl
theorem cN (h : Tr → Rat) (p : Part) (l : List Part) : dB h (p :: l) = h p.v * p.w.q + dB h l := nb p l
theorem ls (h : Tr → Rat) (l m : List Part) : dB h (l ++ m) = dB h l + dB h m := ki l m
theorem sw {h : Tr → Rat} {v : Tr} {w : Rat} {l : List Part} : dB h (dl v w l) = dB h l + h v * w := by
 induction l with
 | nil => simp only [dl, cN, mO, be]; grind
 | cons a l ih =>
   unfold dl
   split
   ·simp only [cN, be]; grind
   ·split
    ·rename_i hc
     have e := (bP _ _).1 hc
     subst e
     simp only [cN, be]; grind
    ·simp only [cN, ih]; grind
theorem qY (h : Tr → Rat) (l : List Part) : dB h (cj l) = dB h l := by
 refine gf (P := fun l => dB h (cj l) = dB h l) rfl (fun l p ih => ?_) l
 rw [dK, sw, ih, ls, cN, mO, Rat.add_zero]
theorem qZ (h : Tr → Rat) (l : List Part) : dB h (aL l) = dB h l := by
 have key : ∀ m : List Part, dB h (m.filter fun p => decide (p.w.q ≠ 0)) = dB h m := fun m => by
  induction m with
  | nil => rfl
  | cons a m ih =>
    rw [List.filter_cons]
    by_cases h0 : a.w.q = 0
    ·rw [if_neg (by simpa using h0), ih, cN, h0]; grind
    ·rw [if_pos (by simpa using h0), cN, cN, ih]
 exact (key (cj l)).trans (qY h l)
theorem sx (h : Tr → Rat) (l : List Part) (r : Rat) : dB h (dm l r) = dB h l * r := by
 induction l with
 | nil => simp [dm, mO]
 | cons p l ih =>
   have e : dm (p :: l) r = ⟨p.v, ao (p.w.q * r)⟩ :: dm l r := rfl
   rw [e, cN, cN, ih, be]; grind
theorem oB (l : List Part) (v : Tr) : aU l v = dB (fun u => if u = v then 1 else 0) l := by
 induction l with
 | nil => rfl
 | cons p l ih => rw [cD, cN, ih]; split <;> grind
theorem hsum_acc (h : Tr → Rat) (m : Ms) (g : Tr → Ms) (L : List Part) : dB h (aZ m g L).parts = dB (fun v => dB h (g v).parts) L := by
 show dB h (L.map fun p => aL (dm (g p.v).parts p.w.q)).flatten = _
 induction L with
 | nil => rfl
 | cons p L ih => rw [List.map_cons, List.flatten_cons, ls, ih, qZ, sx, cN]
theorem up_len : ∀ {L : List Part} {S : List Tr}, UpP L → (∀ p ∈ L, p.v ∈ S) → L.length ≤ S.length
 | [], _, _, _ => Nat.zero_le _
 | a :: L, S, h, hS => by
   obtain ⟨h1, h2⟩ := List.pairwise_cons.1 h
   have ha := hS a (by simp)
   have := up_len (L := L) (S := S.erase a.v) h2 fun p hp => by
    have hne : p.v ≠ a.v := fun e => by have := h1 p hp; rw [e, de] at this; omega
    exact (List.mem_erase_of_ne hne).2 (hS p (by simp [hp]))
   rw [List.length_erase_of_mem ha] at this
   have : 0 < S.length := List.length_pos_of_mem ha
   simp only [List.length_cons]; omega
theorem pJ {α : Type} {f : α → List Part} {b : Nat} : ∀ {L : List α}, (∀ x ∈ L, (f x).length ≤ b) → (L.map f).flatten.length ≤ L.length * b
 | [], _ => by simp
 | a :: L, h => by
   have h1 := h a (by simp)
   have h2 := pJ (L := L) fun x hx => h x (by simp [hx])
   rw [List.map_cons, List.flatten_cons, List.length_append, List.length_cons, Nat.succ_mul]; omega
end Go.Proofs.YtmjgehbpcchjpaaGreatDoor
