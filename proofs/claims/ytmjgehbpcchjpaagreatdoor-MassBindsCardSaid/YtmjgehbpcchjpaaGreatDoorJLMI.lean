/- MassBinds, over data. -/
import Derived.Test.YtmjgehbpcchjpaaGreatDoorKB
import Derived.Test.YtmjgehbpcchjpaaGreatDoorIE
namespace Go.Proofs.YtmjgehbpcchjpaaGreatDoor.F
open Go Go.Proofs Go.Proofs.YtmjgehbpcchjpaaGreatDoor.E Go.Proofs.YtmjgehbpcchjpaaGreatDoor.Q
abbrev law04_MassBinds : Nat := 10
def law04_MassBinds_c : MFn := ⟨69,(.seq (r [o 2 (.box (.t 0)),o 3 (.box (.t 1)),o 4 (.mv (.c (.bool false)))] [2,3]) (.seq (.seq (r [o 11 (.ld none (.t 3)),o 12 (.lenS (.t 11)),o 13 (.bin .gtr (.t 12) (i 8)),o 14 (.mv (.t 13)),n 15 14 (.ld none (.t 3)),n 16 14 (.lenS (.t 15)),n 17 14 (.bin .eql (.t 16) (i 0)),o 18 (.pick (.t 14) (.c (.bool true)) (.t 17)),o 19 (.mv (.t 18)),n 20 19 (.ld (some 16) (.t 2)),n 21 19 (.buildSl 16 1 zM [(0,(.t 20))]),n 22 19 (.call 14 [(.t 21)]),n 23 19 (.un .not (.t 22)),o 24 (.pick (.t 19) (.c (.bool true)) (.t 23)),o 25 (.mv (.t 24)),n 26 25 (.ld none (.t 3)),n 27 25 (.call 14 [(.t 26)]),n 28 25 (.un .not (.t 27)),o 29 (.pick (.t 25) (.c (.bool true)) (.t 28))] [2,3,29]) (.cond (.t 29) (.seq (r [o 30 (.call 16 []),o 4 (.mv (.t 30))] [4]) .ret) .skip)) (.seq (r [o 31 (.ld (some 16) (.t 2)),o 32 (.call 56 [(.t 31)]),o 5 (.alloc [.nils]),z (.st 1 (.t 5) (.t 32))] [2,3,5]) (.seq (r [o 6 (.mv (.c .nils))] [2,3,5,6]) (.seq (.seq (r [o 7 (.mv (i 0))] [2,3,5,6,7]) (.block 0 (.loop (.seq (.seq (r [o 33 (.mv (.t 7)),o 34 (.ld none (.t 5)),o 35 (.lenS (.t 34)),o 36 (.bin .lss (.t 33) (.t 35))] [2,3,5,6,7,36]) (.cond (.t 36) .skip (.exit 0))) (.seq (.block 1 (r [o 39 (.mv (.t 6)),o 40 (.ld none (.t 3)),o 41 (.mv (.t 7)),o 42 (.ld none (.t 3)),o 43 (.lenS (.t 42)),o 44 (.bin .rem (.t 41) (.t 43)),o 45 (.ixA 16 (.t 40) (.t 44)),o 46 (.ld (some 16) (.t 45)),o 47 (.buildSl 16 1 zM [(0,(.t 46))]),o 48 (.app 16 304 (.t 39) (.t 47)),o 6 (.mv (.t 48))] [2,3,5,6,7])) (r [o 37 (.mv (.t 7)),o 38 (.bin .add (.t 37) (i 1)),o 7 (.mv (.t 38))] [2,3,5,6,7])))))) (.seq (r [o 8 (.alloc [.int .i64 0]),o 9 (.alloc [.bool false]),z (.st 1 (.t 8) (i 0)),z (.st 1 (.t 9) (.c (.bool true)))] [2,3,5,6,8,9]) (.seq (r [o 49 (.ld (some 16) (.t 2)),o 50 (.mkF 58 [(.t 9),(.t 8),(.t 5),(.t 3)]),o 51 (.call 57 [(.t 49),(.t 50)]),o 10 (.alloc zM),z (.st 16 (.t 10) (.t 51))] [2,5,6,8,9,10]) (.seq (r [o 52 (.ld none (.t 9)),o 53 (.mv (.t 52)),y 54 53 (.ld none (.t 8)),y 55 53 (.ld none (.t 5)),y 56 53 (.lenS (.t 55)),y 57 53 (.bin .eql (.t 54) (.t 56)),o 58 (.pick (.t 53) (.t 57) (.c (.bool false))),o 59 (.mv (.t 58)),y 60 59 (.ld (some 16) (.t 10)),y 61 59 (.ld (some 16) (.t 2)),y 62 59 (.mv (.t 6)),y 63 59 (.callF 60 [(.t 61),(.t 62)]),y 64 59 (.callF 19 [(.t 60),(.t 63)]),o 65 (.pick (.t 59) (.t 64) (.c (.bool false))),o 66 (.mv (.t 65)),y 67 66 (.callF 16 []),o 68 (.pick (.t 66) (.t 67) (.c (.bool false))),o 4 (.mv (.t 68))] [4]) .ret)))))))),[.t 4]⟩
theorem law04_MassBinds_ok : cFn Tryz.prog (kps [[2,3],[2,3,29],[4],[2,3,5],[2,3,5,6],[2,3,5,6,7],[2,3,5,6,7,36],[2,3,5,6,7],[2,3,5,6,7],[2,3,5,6,8,9],[2,5,6,8,9,10],[4]]) [] 10 = some law04_MassBinds_c := by kernel_rfl
end Go.Proofs.YtmjgehbpcchjpaaGreatDoor.F

namespace Go.Proofs.YtmjgehbpcchjpaaGreatDoor
open Go Go.Proofs Go.Proofs.YtmjgehbpcchjpaaGreatDoor.E
open Classical
set_option linter.unusedSimpArgs false
set_option linter.unusedVariables false
noncomputable def atV (L : List Part) (l : List Ms) (v : Tr) : Ms := if h : ∃ i, ∃ hi : i < L.length, L[i].v = v then l.getD (h.choose % l.length) msN else l.getD 0 msN
theorem atV_at {L : List Part} {l : List Ms} (hu : UpP L) (l0 : l ≠ []) {i : Nat} (h : i < L.length) : l[i % l.length]? = some (atV L l L[i].v) := by
 have ex : ∃ j, ∃ hj : j < L.length, L[j].v = L[i].v := ⟨i, h, rfl⟩
 have hm : i % l.length < l.length := Nat.mod_lt _ (List.length_pos_iff.2 l0)
 unfold atV
 rw [dif_pos ex]
 obtain ⟨hj, e⟩ := ex.choose_spec
 have p := List.pairwise_iff_getElem.1 hu
 have : ex.choose = i := by
  rcases Nat.lt_trichotomy ex.choose i with hl | hl | hl
  ·have := p _ _ hj h hl
   rw [e, (bP _ _).2 rfl] at this; omega
  ·exact hl
  ·have := p _ _ h hj hl
   rw [e, (bP _ _).2 rfl] at this; omega
 rw [this, List.getD_eq_getElem?_getD, List.getElem?_eq_getElem hm]; rfl
theorem atV_mem {L : List Part} {l : List Ms} (l0 : l ≠ []) (v : Tr) : atV L l v ∈ l := by
 have hl := List.length_pos_iff.2 l0
 unfold atV
 split
 ·rw [List.getD_eq_getElem?_getD, List.getElem?_eq_getElem (Nat.mod_lt _ hl)]
  exact List.getElem_mem _
 ·rw [List.getD_eq_getElem?_getD, List.getElem?_eq_getElem hl]
  exact List.getElem_mem _
def apR (X : Sto) (q es : Nat) (G : List (List V)) (r : List V) : Sto := if G = [] then ag X (fresh X) ⟨.own, es, [r]⟩ else ag (ag X q ⟨.dead, es, []⟩) (fresh X) ⟨.own, es, G ++ [r]⟩
theorem app_row {X : Sto} {q es bytes : Nat} {G : List (List V)} {r : List V} (hG : G ≠ [] → E.look X q = some ⟨.own, es, G⟩) (lG : G.length ≤ 1000000) (hb : bytes ≤ 1000) : fR X es bytes [r] (bl q G.length) = some (bl (fresh X) (G.length + 1), apR X q es G r) := by
 have rb : (G.length + 1) * bytes ≤ 1000001 * 1000 := Nat.mul_le_mul (by omega) hb
 by_cases g0 : G = []
 ·subst g0
  simp (disch := omega) [fR, aF, apR, if_pos]
  rw [ax (by omega)]
 ·have g1 : G.length ≠ 0 := fun h => g0 (List.length_eq_zero_iff.1 h)
  rw [ax g1]
  have hq := hG g0
  simp (disch := omega) [fR, hq, aM, apR, g0, if_pos]
  rw [ax (by omega)]
structure BQ (m : Ms) (l : List Ms) (L : List Part) (q : Nat) (G : List (List V)) (τ : Sto) : Prop where
 m : E.look τ 0 = some ⟨.own, 16, [msC m]⟩
 l : E.look τ 1 = some ⟨.own, 1, [[.dat (l.map msC)]]⟩
 p : E.look τ 3 = some ⟨.own, 1, [[pl L]]⟩
 q4 : G ≠ [] → 4 ≤ q
 s : G ≠ [] → E.look τ q = some ⟨.own, 16, G⟩
 shut : bV τ
theorem BQ.step {m y : Ms} {l : List Ms} {L : List Part} {q : Nat} {G : List (List V)} {τ : Sto} (I : BQ m l L q G τ) {x : Ob} (hx : dV x.cells) (hG : dV G) :
 BQ m l L (fresh (ag τ (fresh τ) x)) (G ++ [msC y]) (apR (ag τ (fresh τ) x) q 16 G (msC y)) := by
 have f := bt I.p
 have lf : fresh (ag τ (fresh τ) x) = fresh τ + 1 := by rw [bc]; omega
 have old : ∀ o, o < 4 → E.look (apR (ag τ (fresh τ) x) q 16 G (msC y)) o = E.look τ o := fun o ho => by
  unfold apR
  split
  ·rw [lf, ab, if_neg (by omega), ab, if_neg (by omega)]
  ·rename_i g0
   have := I.q4 g0
   rw [lf, ab, if_neg (by omega), ab, if_neg (by omega), ab, if_neg (by omega)]
 refine ⟨by rw [old 0 (by omega)]; exact I.m, by rw [old 1 (by omega)]; exact I.l, by rw [old 3 (by omega)]; exact I.p, fun _ => by rw [lf]; omega, fun _ => ?_, ?_⟩
 ·unfold apR
  split
  ·rename_i g0; rw [ab, if_pos rfl, g0, List.nil_append]
  ·rw [ab, if_pos rfl]
 ·unfold apR
  split
  ·exact aE (aE I.shut hx) (av (bS _))
  ·refine aE (aE (aE I.shut hx) (fun r hr => by simp at hr)) ?_
   intro r hr y hy f
   rcases List.mem_append.1 hr with hr | hr
   ·exact hG r hr y hy f
   ·simp at hr; subst hr; exact bS _ y hy f
set_option maxHeartbeats 4000000 in
theorem nB {l0 : List V} {l1 : List (List V)} (h0 : ∃ n, bZ Tryz.prog n T.mass l0) (h1 : ∃ n, bZ Tryz.prog n T.masses [.dat l1]) : CallD Tryz.prog F.law04_MassBinds [.agg l0, .dat l1] (· = .bool true) := by
 obtain ⟨_, h0⟩ := h0
 obtain ⟨m, rfl, hm, lm⟩ := oa h0
 obtain ⟨l, rfl, ll, hl⟩ := qk h1
 clear h0 h1
 refine aB F.law04_MassBinds_ok ?_
 unfold F.law04_MassBinds_c
 have e16 : ∀ m : Ms, List.take 16 (msC m) = msC m := fun m => by simp [msC, am]
 have l16 : ∀ m : Ms, (msC m).length = 16 := fun m => by simp [msC, am]
 have d16 : ∀ m : Ms, List.drop 16 (msC m) = [] := fun m => by simp [msC, am]
 have rm : ∀ (m : Ms) (σ : Sto) (n : Nat), (msC m).flatMap (rch σ n) = [] := fun m σ n => gK σ n m
 by_cases c3 : (8 : Int) < (l.length : Int)
 ·simp [c3, ag, List.filter_cons, e16, l16]
  refine ai law04_awake (by simp) ?_
  simp
 by_cases c4 : l = []
 ·subst c4
  simp [ag, List.filter_cons, e16, l16]
  refine ai law04_awake (by simp) ?_
  simp
 have c5 : ¬ (l.length : Int) = 0 := by have := List.length_pos_iff.2 c4; omega
 simp [c3, c4, c5, ag, List.filter_cons, e16, l16]
 refine ai (law04_Few (l := [m]) (by simp) (by simp; exact ⟨hm, lm⟩)) (by
  simp
  rw [kn (k := 11) (es := 16) (st := .own) (l := [msC m]) (by simp [aM, E.look]) (by simp) (by simp) (by simp; exact toD_msC _ _ _)]) ?_
 cases c6 : iR m with
 | false =>
   simp [c6, ag, List.filter_cons]
   refine ai law04_awake (by simp) ?_
   simp
 | true =>
 simp [c6, ag, List.filter_cons]
 refine ai (law04_Few (l := l) (by omega) hl) (by simp) ?_
 cases c7 : l.all iR with
 | false =>
   simp [ag, List.filter_cons]
   refine ai law04_awake (by simp) ?_
   simp
 | true =>
 have sm := rH hm c6
 have sl : ∀ x ∈ l, Sml x 6 40 := fun x hx => rH (hl x hx).1 (List.all_eq_true.1 c7 x hx)
 simp [ag, List.filter_cons, e16, l16]
 refine ai (ref04_Parts (K := 6) (by omega) sm.ok (by have := sm.len; omega) (by omega) sm.cnt) (by simp [cP, Ms.v]) ?_
 simp [rm, ag, List.filter_cons, e16, l16]
 have ln : (aL m.parts).length ≤ 40 := Nat.le_trans (dT _) sm.len
 have up := qc m.parts
 have okL : ∀ p ∈ aL m.parts, p.v.Ok := fun p hp => by
  obtain ⟨x, hx, e⟩ := cf hp
  rw [← e]; exact (sm.ok.parts x hx).1
 obtain ⟨g, hg⟩ : ∃ g : Tr → Ms, g = atV (aL m.parts) l := ⟨_, rfl⟩
 have gm : ∀ v, g v ∈ l := fun v => by rw [hg]; exact atV_mem c4 v
 have ga : ∀ (i : Nat) (h : i < (aL m.parts).length), l[i % l.length]? = some (g (aL m.parts)[i].v) := fun i h => by rw [hg]; exact atV_at up c4 h
 clear hg
 have l0 := List.length_pos_iff.2 c4
 have l8 : l.length ≤ 8 := by omega
 obtain ⟨bp, br, bs⟩ := r9 (m := m) (g := g) (Km := 6) (nm := 40) (Wm := 300) (Sm := m.parts.map Part.v) (Kg := 6) (ng := 40) (Wg := 300) (Sg := qE l) (N := 40)
  (sm.toBd (by omega) (by omega) (by omega) fun p hp => List.mem_map.2 ⟨p, hp, rfl⟩) ln (fun v _ => (sl _ (gm v)).bd (gm v)) (by omega) (by omega) (by omega) (by omega) (by omega) (by omega) (by omega) (by omega) (by omega) (by omega) (by omega) (by have := ou (l := l) (b := 40) fun x hx => (sl x hx).len; omega) (by omega) (by omega)
 have rb := ref04_Bind (m := m) (g := g) (all := (aL m.parts).map fun p => g p.v) (K := 6) (by omega) sm.ok (by have := sm.len; omega) (by omega) sm.cnt rfl br
 have al := law04_Alike (m := aI (aZ m g (aL m.parts))) (K := 40000) (by have := bs.len; omega) (by omega) (bs.ok.mono (by omega))
 generalize hLe : aL m.parts = L at *
 generalize hGe : (L.map fun p => g p.v) = all at *
 have la : all.length = L.length := by rw [← hGe]; simp
 have aa : ∀ (i : Nat) (h : i < L.length) (h2 : i < all.length), all[i] = g L[i].v := fun i h h2 => by subst hGe; simp
 have pG : ∀ i, dV ((all.map msC).take i) := fun i r hr y hy f => by
  obtain ⟨x, _, rfl⟩ := List.mem_map.1 (List.mem_of_mem_take hr)
  exact bS _ y hy f
 refine aH (fun t : Nat × Nat × Sto => (((((Sl.empty.set 7 (.int .i64 t.1)).set 6 (bl t.2.1 ((all.map msC).take t.1).length)).set 5 (.ptr 3 0 0)).set 3 (.ptr 1 0 0)).set 2 (.ptr 0 0 0), t.2.2)) (fun t => t.1 ≤ L.length ∧ BQ m l L t.2.1 ((all.map msC).take t.1) t.2.2) (fun t => L.length - t.1)
  (0, 0, [(3, ⟨.own, 1, [[pl L]]⟩), (1, ⟨.own, 1, [[.dat (l.map msC)]]⟩), (0, ⟨.own, 16, [msC m]⟩)]) ?_ ?_ ?_
 ·refine ⟨Nat.zero_le _, by simp [E.look], by simp [E.look], by simp [E.look], fun h => (h rfl).elim, fun h => (h rfl).elim, aK (aK (aK dU (av (bS _))) (av (by simp [V.within]))) (av (by simp [V.within]))⟩
 ·refine aO ?_ ?_ (by simp) ?_ (aK (aK (aK dU (av (bS _))) (av (by simp [V.within]))) (av (by simp [V.within])))
  ·simp only [List.take_zero, List.length_nil, aF]
   repeat (first | exact af | refine aj (by simp) ?_)
  ·intro o x ho
   simp only [E.look] at ho ⊢
   split at ho
   ·rename_i e; subst e; simpa using ho
   split at ho
   ·rename_i e; subst e; simpa using ho
   split at ho
   ·rename_i e; subst e; simpa using ho
   ·simp at ho
  ·simp only [List.take_zero, List.length_nil, aF]
   repeat (first | exact ac | refine ah (by simp [E.look]) ?_)
 rintro ⟨i, q, τ⟩ ⟨hi, I⟩
 dsimp only at hi I
 have fT := bt I.p
 by_cases h1 : i < L.length
 ·have il := I.l
  have ip := I.p
  have h3 : (i : Int) < (L.length : Int) := by omega
  have hm' : i % l.length < l.length := Nat.mod_lt _ l0
  have hm2 : ((i % l.length : Nat) : Int) < (l.length : Int) := by omega
  have tm : ((i : Int).tmod (l.length : Int)) = ((i % l.length : Nat) : Int) := (Int.ofNat_tmod i l.length).symm
  have hy := ga i h1
  rw [List.getElem?_eq_getElem hm'] at hy
  have hy2 : l[i % l.length] = g L[i].v := Option.some.inj hy
  have st := I.step (y := g L[i].v) (x := ⟨.own, 16, [msC (g L[i].v)]⟩) (av (bS _)) (pG i)
  have lY : E.look (ag τ (fresh τ) ⟨.own, 16, [msC (g L[i].v)]⟩) (fresh τ) = some ⟨.own, 16, [msC (g L[i].v)]⟩ := by rw [ab, if_pos rfl]
  have hap := app_row (X := ag τ (fresh τ) ⟨.own, 16, [msC (g L[i].v)]⟩) (q := q) (es := 16) (bytes := 304) (G := (all.map msC).take i) (r := msC (g L[i].v)) (fun h => by rw [ab, if_neg (by have := bt (I.s h); omega)]; exact I.s h) (by rw [List.length_take]; omega) (by omega)
  have et : (all.map msC).take (i + 1) = (all.map msC).take i ++ [msC (g L[i].v)] := by
   rw [List.take_succ_eq_append_getElem (by simp; omega)]
   simp [aa i h1 (by omega)]
  have el : ((all.map msC).take i).length = i := by rw [List.length_take, List.length_map]; omega
  rw [← et] at st
  rw [el] at hap ⊢
  clear hy ga
  generalize i % l.length = r at *
  simp [-fR, -cT, -ab, il, ip, h1, h3, c4, tm, hm', hm2, hy2, aM, e16, l16]
  have hel : cT (ag τ (fresh τ) ⟨.own, 16, [msC (g L[i].v)]⟩) 16 (.ref (fresh τ) 0 1) = some [msC (g L[i].v)] := by simp [cT, aM]
  rw [hel]
  simp only []
  rw [hap]
  have mi : min (i + 1) all.length = i + 1 := by omega
  have hne : (all.map msC).take (i + 1) ≠ [] := by rw [et]; simp
  have hss := st.s hne
  have hsm := st.m
  have hsl := st.l
  have hsp := st.p
  have hsh := st.shut
  generalize apR (ag τ (fresh τ) ⟨.own, 16, [msC (g L[i].v)]⟩) q 16 ((all.map msC).take i) (msC (g L[i].v)) = Z at *
  generalize fresh (ag τ (fresh τ) ⟨.own, 16, [msC (g L[i].v)]⟩) = q' at *
  simp
  rw [ap (by omega) (by omega)]
  refine ⟨(i + 1, q', Z), ⟨h1, st⟩, by dsimp only; omega, ?_⟩
  have gq : (bl q' (i + 1)).within (fun o => (E.look Z o).isSome) = true := by rw [ax (by omega), bA, hss]; rfl
  refine aO ?_ (Has.refl _) (by simp) ?_ hsh
  ·simp only [mi]
   repeat (first | exact af | refine aj (by simp) ?_)
  ·simp only [mi]
   repeat (first | exact ac | refine ah (by first | exact gq | (simp; done) | (rw [ch]; first | (rw [hsm]; rfl) | (rw [hsl]; rfl) | (rw [hsp]; rfl))) ?_)
 ·have hil : i = L.length := by omega
  subst hil
  have tl : (all.map msC).take L.length = all.map msC := List.take_of_length_le (by simp; omega)
  rw [tl] at I ⊢
  have il := I.l
  have ip := I.p
  have im := I.m
  have is := I.shut
  have iq := I.s
  have iq4 := I.q4
  generalize hF : fresh τ = f at *
  simp (disch := omega) [-ab, il, ip, im, aM, hF, bc, Nat.max_eq_left, Nat.max_eq_right]
  generalize hX : ag (ag τ f ⟨.own, 1, [[.int .i64 0]]⟩) (f + 1) ⟨.own, 1, [[.bool false]]⟩ = X
  have x0 : E.look X f = some ⟨.own, 1, [[.int .i64 0]]⟩ := by rw [← hX, ab, if_neg (by omega), ab, if_pos rfl]
  have x1 : E.look X (f + 1) = some ⟨.own, 1, [[.bool false]]⟩ := by rw [← hX, ab, if_pos rfl]
  have xo : ∀ o, o < f → E.look X o = E.look τ o := fun o ho => by rw [← hX, ab, if_neg (by omega), ab, if_neg (by omega)]
  have xf : fresh X = f + 2 := by rw [← hX, bc, bc, hF]; omega
  have xs : bV X := by rw [← hX]; exact aE (aE is (av (by simp [V.within]))) (av (by simp [V.within]))
  have y1 : ¬ f + 1 = f := by omega
  have y0 : ¬ f = f + 1 := by omega
  simp [-ab, x0, aM]
  generalize hY : ag X f ⟨.own, 1, [[.int .i64 0]]⟩ = Y
  have z1 : E.look Y (f + 1) = some ⟨.own, 1, [[.bool false]]⟩ := by rw [← hY, ab, if_neg (by omega)]; exact x1
  simp [-ab, z1, aM]
  generalize hZ : ag Y (f + 1) ⟨.own, 1, [[.bool true]]⟩ = Z
  have zo : ∀ o, o < f → E.look Z o = E.look τ o := fun o ho => by rw [← hZ, ab, if_neg (by omega), ← hY, ab, if_neg (by omega)]; exact xo o ho
  have zN : E.look Z f = some ⟨.own, 1, [[.int .i64 0]]⟩ := by rw [← hZ, ab, if_neg (by omega), ← hY, ab, if_pos rfl]
  have zA : E.look Z (f + 1) = some ⟨.own, 1, [[.bool true]]⟩ := by rw [← hZ, ab, if_pos rfl]
  have zf : fresh Z = f + 2 := by rw [← hZ, bc, ← hY, bc, xf]; omega
  have zs : bV Z := by rw [← hZ, ← hY]; exact aE (aE xs (av (by simp [V.within]))) (av (by simp [V.within]))
  clear hX hY hZ x0 x1 xo xf xs z1
  have zm : E.look Z 0 = some ⟨.own, 16, [msC m]⟩ := by rw [zo 0 (by omega)]; exact im
  have zl : E.look Z 1 = some ⟨.own, 1, [[.dat (l.map msC)]]⟩ := by rw [zo 1 (by omega)]; exact il
  have zp : E.look Z 3 = some ⟨.own, 1, [[pl L]]⟩ := by rw [zo 3 (by omega)]; exact ip
  obtain ⟨r, W, hr, hrF, hW⟩ : ∃ (r : Nat) (W : Ob), E.look Z r = some W ∧ r < f ∧ (all ≠ [] → r = q ∧ W = ⟨.own, 16, all.map msC⟩) := by
   by_cases a0 : all = []
   ·exact ⟨0, _, zm, by omega, fun h => (h a0).elim⟩
   ·have h := iq (by simpa using a0)
    have := bt h
    exact ⟨q, _, by rw [zo q (by omega)]; exact h, by omega, fun _ => ⟨rfl, rfl⟩⟩
  have cb0 : CB (f + 1) f 3 1 0 r L l m W 0 Z := ⟨zA, zN, zp, zl, zm, hr⟩
  have caps : Caps F.law04_MassBinds_1 [.ptr (f + 1) 0 0, .ptr f 0 0, .ptr 3 0 0, .ptr 1 0 0] (fresh Z) (CB (f + 1) f 3 1 0 r L l m W) g L := by
   refine ⟨fun i h τ' hc hs hn => binds_1 okL (by omega) c4 (by omega) h (ga i h) hc hs hn (by omega) (by omega) (by omega) (by omega) (by omega) (by omega) (by omega) (by omega) (by omega) (by omega) (by omega) (by omega) (by omega) (by omega) (by omega), fun i τ1 τ2 hc ho => ?_, fun i τ1 hc => ?_⟩
   ·exact ⟨by rw [ho _ (by omega)]; exact hc.a, by rw [ho _ (by omega)]; exact hc.n, by rw [ho _ (by omega)]; exact hc.p, by rw [ho _ (by omega)]; exact hc.l, by rw [ho _ (by omega)]; exact hc.m, by rw [ho _ (by omega)]; exact hc.q⟩
   ·simp [V.within, hc.a, hc.n, hc.p, hc.l]
  simp [-ab, zm, aM, e16, l16]
  have mb := rc (m := m) (k := F.law04_MassBinds_1) (cp := [.ptr (f + 1) 0 0, .ptr f 0 0, .ptr 3 0 0, .ptr 1 0 0]) (C := CB (f + 1) f 3 1 0 r L l m W) (g := g) (σ := Z) (K := 6) (J := 300 + 300) (by omega) sm.ok (by have := sm.len; omega) (by omega) sm.cnt (by rw [hLe]; exact caps) cb0 zs bp.s bp.a (by omega) bp.p bp.j bp.c
  rw [hLe] at mb
  clear caps cb0
  refine cB mb ?_
  rintro v s ⟨rfl, cb, ss, sf, sk⟩
  clear mb
  generalize aI (aZ m g L) = R at *
  rw [zf] at sf
  generalize hu : fresh s = u at *
  simp [-ab, hu, Ms.v, e16, l16, d16, aM]
  generalize hY : ag s u ⟨.own, 16, [[.nils, .bool false, .nils, .nils, .bool false, .nils, .nils, .bool false, .nils, .nils, .bool false, .nils, .nils, .bool false, .nils, .nils]]⟩ = Y
  have yu : E.look Y u = some ⟨.own, 16, [[.nils, .bool false, .nils, .nils, .bool false, .nils, .nils, .bool false, .nils, .nils, .bool false, .nils, .nils, .bool false, .nils, .nils]]⟩ := by rw [← hY, ab, if_pos rfl]
  have yo : ∀ o, o < u → E.look Y o = E.look s o := fun o ho => by rw [← hY, ab, if_neg (by omega)]
  simp [-ab, yu, e16, l16, d16]
  generalize hX : ag Y u ⟨.own, 16, [msC R]⟩ = X
  have xu : E.look X u = some ⟨.own, 16, [msC R]⟩ := by rw [← hX, ab, if_pos rfl]
  have xo : ∀ o, o < u → E.look X o = E.look s o := fun o ho => by rw [← hX, ab, if_neg (by omega)]; exact yo o ho
  clear hX hY yu yo
  have xA : E.look X (f + 1) = some ⟨.own, 1, [[.bool true]]⟩ := by rw [xo _ (by omega)]; exact cb.a
  have xN : E.look X f = some ⟨.own, 1, [[.int .i64 L.length]]⟩ := by rw [xo _ (by omega)]; exact cb.n
  have xP : E.look X 3 = some ⟨.own, 1, [[pl L]]⟩ := by rw [xo _ (by omega)]; exact cb.p
  have xM : E.look X 0 = some ⟨.own, 16, [msC m]⟩ := by rw [xo _ (by omega)]; exact cb.m
  have xQ : all ≠ [] → E.look X q = some ⟨.own, 16, all.map msC⟩ := fun h => by
   obtain ⟨e1, e2⟩ := hW h
   rw [← e1, ← e2, xo _ (by omega)]; exact cb.q
  have hTD : ∀ k, toD X (k + 2) (bl q all.length) = some (.dat (all.map msC)) := fun k => cI (k := k + 1) (st := .own) (es := 16) (fun h => xQ (fun e => h (by rw [e]; rfl))) (by simp) (by simp) (by simp) (fun r hr => by obtain ⟨p, _, rfl⟩ := List.mem_map.1 hr; exact cP _ _ _)
  simp [-ab, xA, xN, xP, xM, xu, aM, e16, l16, d16]
  refine ak rb (by simp [hTD, cP, Ms.v]) ?_
  generalize behind X [V.agg (msC m), bl q all.length] R.v = X2
  simp [-ab, Ms.v]
  refine ak al (by simp [cP, Ms.v]) ?_
  simp [-ab]
  refine ak law04_awake (by simp) ?_
  simp
end Go.Proofs.YtmjgehbpcchjpaaGreatDoor
