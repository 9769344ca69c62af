import Derived.Test.YtkockkfmjmheeaaGreatGD
import Derived.WideShapes
import Derived.ChangeShapes
import Derived.OpenShut
namespace Go.Proofs.YtkockkfmjmheeaaGreat.E
open Go Go.RowKit
set_option linter.unusedSimpArgs false
set_option linter.unusedVariables false
abbrev Run := Nat → List V → Sto → Option (V × Sto)
def exCall (run : Run) (B : Nat → List V → Option V) (X : Nat → Bool) (f : Nat) (vs : List V) (σ : Sto) : Option (V × Sto) :=
 match X f with
 | true => match vs with
   | [.dat []] => match B f [.dat []] with
     | some d => some (d, σ)
     | none => run f vs σ
   | _ => run f vs σ
 | false => match toDs σ vs with
   | some ds => match B f ds with
     | some d => some (d, behind σ vs d)
     | none => match run f ds [] with
       | some (r, σ') => match toD σ' deep r with
         | some d => some (d, behind σ vs d)
         | none => none
       | none => none
   | none => none
def exCallD (run : Run) (B : Nat → List V → Option V) (f : Nat) (ds : List V) : Option V :=
 match B f ds with
 | some d => some d
 | none => match run f ds [] with
   | some (r, σ') => toD σ' deep r
   | none => none
def exRes (run : Run) (B : Nat → List V → Option V) : R2 → List V → List V → Option V
 | .fn f, _, ds => exCallD run B f ds
 | .dyn, .clo f _ :: _, ds => exCallD run B f ds
 | .cpy, _, [.dat _, .dat []] => some (.int .i64 0)
 | .mx, _, [.int k p, .int _ q] => some (.int k (if q > p then q else p))
 | .arr n es, _, [.elt l] => if es ≠ 0 ∧ n * es ≤ l.length then some (.dat (chunk es n l)) else none
 | _, _, _ => none
def exStep (run : Run) (B : Nat → List V → Option V) (X : Nat → Bool) (m : MOp) (S : Sl) (σ : Sto) : Option (V × Sto) :=
 match m with
 | .call f l => match evs S l with
   | some vs => exCall run B X f vs σ
   | none => none
 | .callF f l => match evs S l with
   | some vs => match toDs σ vs with
     | some ds => match exCallD run B f ds with
       | some d => some (d, behind σ vs d)
       | none => none
     | none => none
   | none => none
 | .callXF f l => match evs S l with
   | some vs => exCall run B X f vs σ
   | none => none
 | .callV x l => match ev S x, evs S l with
   | some (.clo f cap), some vs => exCall run B X f (vs ++ cap) σ
   | _, _ => none
 | .callVF x l => match ev S x, evs S l with
   | some (.clo f cap), some vs => exCall run B X f (vs ++ cap) σ
   | _, _ => none
 | .rd2 k l => match evs S l with
   | some us => match k.args us with
     | some vs => match toPs σ vs with
       | some ds => match exRes run B k us ds with
         | some d => some (d, behindP σ vs d)
         | none => none
       | none => none
     | none => none
   | none => none
 | m => evOp S σ m
def exOps (run : Run) (B : Nat → List V → Option V) (X : Nat → Bool) : List MOper → Sl → Sto → Option (Sl × Sto)
 | [], S, σ => some (S, σ)
 | o :: rest, S, σ => match o.guard with
   | none => match exStep run B X o.op S σ with
     | some (v, σ') => exOps run B X rest (S.putd o.dst v) σ'
     | none => none
   | some (d, b) => match S d with
     | some (.bool t) => match t == b with
       | true => match exStep run B X o.op S σ with
         | some (v, σ') => exOps run B X rest (S.putd o.dst v) σ'
         | none => none
       | false => exOps run B X rest (S.putd o.dst (.tup [])) σ
     | some (.tup []) => exOps run B X rest (S.putd o.dst (.tup [])) σ
     | _ => none
def iter (step : Sl → Sto → Option (Ex × Sl × Sto)) : Nat → Sl → Sto → Option (Ex × Sl × Sto)
 | 0, _, _ => none
 | k + 1, S, σ => match step S σ with
   | some (.norm, S', σ') => iter step k S' σ'
   | r => r
def exC (run : Run) (B : Nat → List V → Option V) (X : Nat → Bool) (k : Nat) : MCode → Sl → Sto → Option (Ex × Sl × Sto)
 | .skip, S, σ => some (.norm, S, σ)
 | .region ops keep, S, σ => match exOps run B X ops S σ with
   | some (S', σ') => some (.norm, S'.keepO keep, σ')
   | none => none
 | .region2 _ _ _, _, _ => none
 | .seq a b, S, σ => match exC run B X k a S σ with
   | some (.norm, S', σ') => exC run B X k b S' σ'
   | r => r
 | .cond c a b, S, σ => match ev S c with
   | some (.bool true) => exC run B X k a S σ
   | some (.bool false) => exC run B X k b S σ
   | _ => none
 | .block id b, S, σ => match exC run B X k b S σ with
   | some (.exit n, S', σ') => match Nat.beq n id with
     | true => some (.norm, S', σ')
     | false => some (.exit n, S', σ')
   | r => r
 | .loop b, S, σ => iter (fun S σ => exC run B X k b S σ) k S σ
 | .exit n, S, σ => some (.exit n, S, σ)
 | .ret, S, σ => some (.ret, S, σ)
variable {Df : List Deferred} {P : Program} {w0 : World} {base : Nat} {I0 I : Imm} {β : Beta} {S : Sl} {σ σ' : Sto} {w : World} {a : Act} {v : V} {n : Nat}
def BOK (P : Program) (B : Nat → List V → Option V) : Prop := ∀ f ds d, B f ds = some d → CallD P f ds (· = d)
def RunOK (P : Program) (run : Run) : Prop := ∀ f vs σ r σ', run f vs σ = some (r, σ') → CallX P f vs σ (fun r2 s => r2 = r ∧ s = σ')
theorem callD_of_X {f : Nat} {ds : List V} {r d : V} (h : CallX P f ds [] (fun r2 s => r2 = r ∧ s = σ')) (hd : toD σ' deep r = some d) : CallD P f ds (· = d) := by
 refine ⟨h.1, fun I w cs hI hT hargs => ?_⟩
 have hinv : Inv w w.heap.size I I Beta.none [] w := ⟨Below.refl _ _, Nat.le_refl _, hI, fun _ _ => rfl, hT, fun o x h => by simp [Beta.none] at h, fun o x h => by simp [look] at h, fun o o' x x' k k' h => by simp [look] at h⟩
 refine (h.2 w w.heap.size I I Beta.none w cs hinv hargs).mono ?_
 rintro e w' ⟨rv, I', β', r2, s, rfl, h2, h3, h4, rfl, rfl⟩
 obtain ⟨hF, hext⟩ := h2.freeze (rch s deep r2)
 have hd' := toD_sound h2 (rch s deep r2) deep rv _ d h4 hd (fun o ho => ho)
 exact ⟨rv, _, d, rfl, hF.below, fun b arr hb => hext.imm _ _ (h3.imm _ _ hb), hF.imm, hF.old, hd', rfl⟩
theorem exCall_wp {run : Run} {B : Nat → List V → Option V} {X : Nat → Bool} (hB : BOK P B) (hr : RunOK P run) {f : Nat} {vs : List V} (h : exCall run B X f vs σ = some (v, σ')) : CallX P f vs σ (fun r2 s => r2 = v ∧ s = σ') := by
 unfold exCall at h
 split at h
 ·split at h
  ·split at h
   ·rename_i d hd
    injection h with h; injection h with h1 h2; subst h1; subst h2
    have hds : toDs σ [.dat []] = some [.dat []] := rfl
    refine CallX.of_D hds (hB _ _ _ hd) fun r e => ⟨e, ?_⟩
    unfold behind
    split
    ·rfl
    ·show frz σ (rchs σ [.dat []]) = σ
     have : rchs σ [.dat []] = [] := rfl
     rw [this]
     exact frz_nil σ
   ·exact hr _ _ _ _ _ h
  ·exact hr _ _ _ _ _ h
 ·split at h
  ·rename_i ds hds
   split at h
   ·rename_i d hd
    injection h with h; injection h with h1 h2; subst h1; subst h2
    exact CallX.of_D hds (hB _ _ _ hd) fun _ e => ⟨e, by rw [e]⟩
   split at h
   ·rename_i r σ1 hrun
    split at h
    ·rename_i d hd
     injection h with h; injection h with h1 h2; subst h1; subst h2
     exact CallX.of_D hds (callD_of_X (hr _ _ _ _ _ hrun) hd) fun _ e => ⟨e, by rw [e]⟩
    ·simp at h
   ·simp at h
  ·simp at h
theorem exCallD_ok {run : Run} {B : Nat → List V → Option V} (hB : BOK P B) (hr : RunOK P run) {f : Nat} {ds : List V} {d : V} (h : exCallD run B f ds = some d) : CallD P f ds (· = d) := by
 unfold exCallD at h
 split at h
 ·rename_i d' hd
  injection h with h; subst h
  exact hB _ _ _ hd
 split at h
 ·rename_i r σ1 hrun
  exact callD_of_X (hr _ _ _ _ _ hrun) h
 ·simp at h
theorem exRes_ok {run : Run} {B : Nat → List V → Option V} (hB : BOK P B) (hr : RunOK P run) {k : R2} {us ds : List V} {d : V} (h : exRes run B k us ds = some d) : k.res P us ds d := by
 unfold exRes at h
 split at h
 ·exact exCallD_ok hB hr h
 ·exact exCallD_ok hB hr h
 ·injection h with h; exact h.symm
 ·injection h with h; exact h.symm
 ·split at h
  ·rename_i hc
   injection h with h; subst h
   exact ⟨hc.1, hc.2, rfl⟩
  ·simp at h
 ·simp at h
theorem exStep_wp {run : Run} {B : Nat → List V → Option V} {X : Nat → Bool} (hB : BOK P B) (hr : RunOK P run) {m : MOp} (h : exStep run B X m S σ = some (v, σ')) {K : V → Sto → Prop} (hK : K v σ') : Step P m S σ K := by
 have big : ∀ {f vs}, CallX P f vs σ (fun r2 s => r2 = v ∧ s = σ') → CallX P f vs σ K := fun h => h.mono fun r s e => by obtain ⟨rfl, rfl⟩ := e; exact hK
 cases m with
 | call f l =>
   simp only [exStep] at h
   split at h
   ·rename_i vs hvs; exact ⟨vs, hvs, big (exCall_wp hB hr h)⟩
   ·simp at h
 | callF f l =>
   simp only [exStep] at h
   split at h
   ·rename_i vs hvs
    split at h
    ·rename_i ds hds
     split at h
     ·rename_i d hd
      injection h with h; injection h with h1 h2; subst h1; subst h2
      exact ⟨vs, ds, d, hvs, hds, exCallD_ok hB hr hd, hK⟩
     ·simp at h
    ·simp at h
   ·simp at h
 | callXF f l =>
   simp only [exStep] at h
   split at h
   ·rename_i vs hvs; exact ⟨vs, v, σ', hvs, exCall_wp hB hr h, hK⟩
   ·simp at h
 | callV x l =>
   simp only [exStep] at h
   split at h
   ·rename_i f cap vs hx hvs; exact ⟨f, cap, vs, hx, hvs, big (exCall_wp hB hr h)⟩
   ·simp at h
 | callVF x l =>
   simp only [exStep] at h
   split at h
   ·rename_i f cap vs hx hvs; exact ⟨f, cap, vs, v, σ', hx, hvs, exCall_wp hB hr h, hK⟩
   ·simp at h
 | rd2 k l =>
   simp only [exStep] at h
   split at h
   ·rename_i us hus
    split at h
    ·rename_i vs hvs
     split at h
     ·rename_i ds hds
      split at h
      ·rename_i d hd
       injection h with h; injection h with h1 h2; subst h1; subst h2
       exact ⟨us, vs, ds, d, hus, hvs, hds, exRes_ok hB hr hd, hK⟩
      ·simp at h
     ·simp at h
    ·simp at h
   ·simp at h
 | callVA x l oth => simp [exStep, evOp] at h
 | _ => exact ⟨v, σ', h, hK⟩
theorem exOps_wp {run : Run} {B : Nat → List V → Option V} {X : Nat → Bool} (hB : BOK P B) (hr : RunOK P run) : ∀ {ops : List MOper} {S S' : Sl} {σ σ' : Sto}, exOps run B X ops S σ = some (S', σ') → ∀ {Q : Sl → Sto → Prop}, Q S' σ' → WpOps P ops S σ Q
 | [], S, S', σ, σ', h, Q, hQ => by
   simp only [exOps] at h
   injection h with h; injection h with h1 h2; subst h1; subst h2; exact hQ
 | o :: rest, S, S', σ, σ', h, Q, hQ => by
   simp only [exOps] at h
   simp only [WpOps, WpOp]
   split at h
   ·rename_i hg
    rw [hg]
    split at h
    ·rename_i v σ1 hs
     exact exStep_wp hB hr hs (exOps_wp hB hr h hQ)
    ·simp at h
   ·rename_i d b hg
    rw [hg]
    simp only
    split at h
    ·rename_i t ht
     rw [ht]
     simp only
     split at h
     ·rename_i hb
      have hb : t = b := by simpa using hb
      split at h
      ·rename_i v σ1 hs
       exact ⟨fun _ => exStep_wp hB hr hs (exOps_wp hB hr h hQ), fun hne => (hne hb).elim⟩
      ·simp at h
     ·rename_i hb
      have hb : t ≠ b := by simpa using hb
      exact ⟨fun e => (hb e).elim, fun _ => exOps_wp hB hr h hQ⟩
    ·rename_i ht
     rw [ht]
     exact exOps_wp hB hr h hQ
    ·simp at h
open Classical in
theorem ex_sound {run : Run} {B : Nat → List V → Option V} {X : Nat → Bool} {k : Nat} (hB : BOK P B) (hr : RunOK P run) {K : Nat → Option (List Nat)} {Y : List Nat} : ∀ (c : Code) (mc : MCode), cCode P n K Y c = some mc → ∀ {S S' : Sl} {σ σ' : Sto} {I : Imm} {β : Beta} {a : Act} {w : World} {e : Ex},
 exC run B X k mc S σ = some (e, S', σ') → At Df w0 base I0 n I β S σ a w → ∀ (Q : Exit → Act → World → Prop), (∀ I' β' a' w', At Df w0 base I0 n I' β' S' σ' a' w' → Ext I β I' β' → Q e.of a' w') → c.wp P Q a w := by
 intro c
 induction c with
 | skip =>
   intro mc hc S S' σ σ' I β a w e h hA Q hn
   simp [cCode] at hc; subst hc
   simp only [exC] at h
   injection h with h; injection h with h0 h; injection h with h1 h2; subst h0; subst h1; subst h2
   exact wp_skip (hn I β a w hA (Ext.refl _ _))
 | region id ops draw =>
   intro mc hc S S' σ σ' I β a w e h hA Q hn
   simp only [cCode] at hc
   cases draw with
   | false =>
     simp only [Bool.false_eq_true, if_false] at hc
     split at hc
     case h_2 => simp at hc
     rename_i ms hms
     injection hc with hc; subst hc
     simp only [exC] at h
     split at h
     ·rename_i S1 σ1 hex
      injection h with h; injection h with h0 h; injection h with h1 h2; subst h0; subst h1; subst h2
      refine region_sound hms (Q' := fun s t => s = S1 ∧ t = σ1) Q (exOps_wp hB hr hex ⟨rfl, rfl⟩) hA ?_
      rintro S2 σ2 I' β' a' w' ⟨rfl, rfl⟩ g1 g2
      exact hn I' β' a' w' (g1.keepO _) g2
     ·simp at h
   | true =>
     simp only [if_true] at hc
     split at hc
     ·rename_i hcond
      have hcond' : P.follows .mixedOrders = true ∨ Region.departs ops = false := by simpa using hcond
      obtain ⟨l, hl, rfl⟩ := opt_map_some hc
      simp only [exC] at h
      split at h
      ·rename_i S1 σ1 hex
       injection h with h; injection h with h0 h; injection h with h1 h2; subst h0; subst h1; subst h2
       refine region_read hl (Q' := fun s t => s = S1 ∧ t = σ1) Q hA ?_ (exOps_wp hB hr hex ⟨rfl, rfl⟩) hcond'
       rintro S2 σ2 I' β' a' w' ⟨rfl, rfl⟩ g1 g2
       exact hn I' β' a' w' (g1.keepO _) g2
      ·simp at h
     ·simp at hc
 | seq x y ihx ihy =>
   intro mc hc S S' σ σ' I β a w e h hA Q hn
   simp only [cCode] at hc
   split at hc
   ·rename_i mx my hx hy
    injection hc with hc; subst hc
    simp only [exC] at h
    split at h
    ·rename_i S1 σ1 h1
     refine wp_seq (ihx mx hx h1 hA _ (fun I1 β1 a1 w1 g1 g2 => ?_))
     exact ihy my hy h g1 Q (fun I2 β2 a2 w2 k1 k2 => hn I2 β2 a2 w2 k1 (g2.trans k2))
    ·rename_i hne
     refine wp_seq (ihx mx hx h hA _ (fun I1 β1 a1 w1 g1 g2 => ?_))
     cases e with
     | norm => exact (hne _ _ h).elim
     | exit k => exact hn I1 β1 a1 w1 g1 g2
     | ret => exact hn I1 β1 a1 w1 g1 g2
   ·simp at hc
 | cond c x y ihx ihy =>
   intro mc hc S S' σ σ' I β a w e h hA Q hn
   simp only [cCode] at hc
   split at hc
   ·rename_i c' mx my hcc hx hy
    injection hc with hc; subst hc
    simp only [exC] at h
    split at h
    ·rename_i ht
     have := (ev_sound hcc hA.slots ht).inv_bool
     exact wp_cond_split this (fun _ => ihx mx hx h hA Q hn) (fun e => by simp at e)
    ·rename_i ht
     have := (ev_sound hcc hA.slots ht).inv_bool
     exact wp_cond_split this (fun e => by simp at e) (fun _ => ihy my hy h hA Q hn)
    ·simp at h
   ·simp at hc
 | block id x ih =>
   intro mc hc S S' σ σ' I β a w e h hA Q hn
   simp only [cCode] at hc
   obtain ⟨mx, hx, rfl⟩ := opt_map_some hc
   simp only [exC] at h
   split at h
   ·rename_i m S1 σ1 h1
    refine wp_block (ih mx hx h1 hA _ (fun I1 β1 a1 w1 g1 g2 => ?_))
    split at h
    ·rename_i hb
     have hb : m = id := Nat.eq_of_beq_eq_true hb
     injection h with h; injection h with h0 h; injection h with h1 h2; subst h0; subst h1; subst h2
     simp only [Ex.of, Exit.inBlock]
     rw [if_pos hb]
     exact hn I1 β1 a1 w1 g1 g2
    ·rename_i hb
     have hb : ¬ m = id := fun e => by rw [e, Nat.beq_refl] at hb; simp at hb
     injection h with h; injection h with h0 h; injection h with h1 h2; subst h0; subst h1; subst h2
     simp only [Ex.of, Exit.inBlock]
     rw [if_neg hb]
     exact hn I1 β1 a1 w1 g1 g2
   ·rename_i hne
    refine wp_block (ih mx hx h hA _ (fun I1 β1 a1 w1 g1 g2 => ?_))
    cases e with
    | norm => exact hn I1 β1 a1 w1 g1 g2
    | exit k => exact (hne _ _ _ h).elim
    | ret => exact hn I1 β1 a1 w1 g1 g2
 | loop x ih =>
   intro mc hc S S' σ σ' I β a w e h hA Q hn
   simp only [cCode] at hc
   obtain ⟨mx, hx, rfl⟩ := opt_map_some hc
   simp only [exC] at h
   let R : Nat → Act → World → Prop := fun k' a' w' => ∃ S1 σ1 I1 β1, iter (fun S σ => exC run B X k mx S σ) k' S1 σ1 = some (e, S', σ') ∧ At Df w0 base I0 n I1 β1 S1 σ1 a' w' ∧ Ext I β I1 β1
   let μ : Act → World → Nat := fun a' w' => if h : ∃ k, R k a' w' then Classical.choose (exists_min h) else 0
   refine wp_loop (fun a' w' => ∃ k, R k a' w') μ ⟨k, S, σ, I, β, h, hA, Ext.refl _ _⟩ ?_
   intro a' w' hex
   have hk := (Classical.choose_spec (exists_min hex)).1
   have hμ : μ a' w' = Classical.choose (exists_min hex) := by simp only [μ]; rw [dif_pos hex]
   generalize Classical.choose (exists_min hex) = j at hk hμ
   obtain ⟨S1, σ1, I1, β1, hJ, hA1, hE1⟩ := hk
   cases j with
   | zero => simp [iter] at hJ
   | succ j =>
     simp only [iter] at hJ
     split at hJ
     ·rename_i S2 σ2 h2
      refine ih mx hx h2 hA1 _ (fun I3 β3 a3 w3 g1 g2 => ?_)
      have hR : R j a3 w3 := ⟨S2, σ2, I3, β3, hJ, g1, hE1.trans g2⟩
      refine ⟨⟨j, hR⟩, ?_⟩
      have hex2 : ∃ k, R k a3 w3 := ⟨j, hR⟩
      have hμ2 : μ a3 w3 = Classical.choose (exists_min hex2) := by simp only [μ]; rw [dif_pos hex2]
      rw [hμ2, hμ]
      exact Nat.lt_succ_of_le ((Classical.choose_spec (exists_min hex2)).2 _ hR)
     ·rename_i hne
      refine ih mx hx hJ hA1 _ (fun I3 β3 a3 w3 g1 g2 => ?_)
      cases e with
      | norm => exact (hne _ _ hJ).elim
      | exit m => exact hn I3 β3 a3 w3 g1 (hE1.trans g2)
      | ret => exact hn I3 β3 a3 w3 g1 (hE1.trans g2)
 | exit id =>
   intro mc hc S S' σ σ' I β a w e h hA Q hn
   simp [cCode] at hc; subst hc
   simp only [exC] at h
   injection h with h; injection h with h0 h; injection h with h1 h2; subst h0; subst h1; subst h2
   exact wp_exit (hn I β a w hA (Ext.refl _ _))
 | ret =>
   intro mc hc S S' σ σ' I β a w e h hA Q hn
   simp [cCode] at hc; subst hc
   simp only [exC] at h
   injection h with h; injection h with h0 h; injection h with h1 h2; subst h0; subst h1; subst h2
   exact wp_ret (hn I β a w hA (Ext.refl _ _))
 | _ => intro mc hc; simp [cCode] at hc
def TabOK (P : Program) (T : Nat → Option MFn) : Prop := ∀ f mf, T f = some mf → ∃ K Y, cFn P K Y f = some mf
end Go.Proofs.YtkockkfmjmheeaaGreat.E

namespace Go.Proofs.YtkockkfmjmheeaaGreat.E
open Go Go.RowKit
set_option linter.unusedSimpArgs false
set_option linter.unusedVariables false
def immOf (w : World) : Imm := fun b => match w.heap[b]? with
 | some (.cells arr _ _) => some arr
 | _ => none
theorem immOf_ok (w : World) : ImmOK (immOf w) w := by
 intro b arr h
 unfold immOf at h
 split at h
 ·rename_i a t fr e; injection h with h; subst h; exact ⟨t, fr, e⟩
 ·simp at h
def tile (P : Program) : List TypeId → List Nat → Nat → Option Nat
 | [], [], k => some k
 | t :: ts, o :: os, k => if o = k then tile P ts os (k + P.cellsOf t) else none
 | _, _, _ => none
def okTypes (P : Program) (L : List TypeId) : Bool := L.all fun t => match P.underlying t with
 | some .bool | some (.int _) | some .string => decide (P.cellsOf t = 1)
 | some (.slice e) => L.contains e && decide (0 < P.cellsOf e) && decide (P.cellsOf t = 1)
 | some (.struct fs) => fs.toList.all (fun f => L.contains f.type) && decide (tile P (fs.toList.map (·.type)) (fs.toList.map (·.offset)) 0 = some (P.cellsOf t))
 | some (.array n e) => L.contains e && decide (n * P.cellsOf e = P.cellsOf t)
 | _ => false
def TypedAll (R : TypeId → List V → Prop) : List TypeId → List V → Prop
 | [], vs => vs = []
 | t :: r, vs => ∃ x y, vs = x ++ y ∧ R t x ∧ TypedAll R r y
def Typed (P : Program) : Nat → TypeId → List V → Prop
 | 0, _, _ => False
 | n + 1, t, vs => match P.underlying t with
   | some .bool => ∃ b, vs = [.bool b]
   | some (.int k) => ∃ x, vs = [.int k x] ∧ (Lit.int k x).wf = true
   | some .string => ∃ s : ByteArray, vs = [.str s] ∧ s.size ≤ maxLen
   | some (.slice e) => ∃ l : List (List V), vs = [.dat l] ∧ l.length ≤ maxLen ∧ ∀ x ∈ l, Typed P n e x
   | some (.struct fs) => TypedAll (Typed P n) (fs.toList.map (·.type)) vs
   | some (.array m e) => TypedAll (Typed P n) (List.replicate m e) vs
   | _ => False
structure Reads (w : World) (cs : List Value) (vs : List V) : Prop where
 len : cs.length = vs.length
 rel : ∀ (i : Nat) (c : Value) (v : V), cs[i]? = some c → vs[i]? = some v → v.one = true ∧ Rel (immOf w) Beta.none c v
theorem Reads.nil (w : World) : Reads w [] [] := ⟨rfl, by simp⟩
theorem Reads.one {w : World} {c : Value} {v : V} (h1 : v.one = true) (h2 : Rel (immOf w) Beta.none c v) : Reads w [c] [v] := by
 refine ⟨rfl, fun i c' v' hc hv => ?_⟩
 cases i with
 | zero => simp at hc hv; subst hc; subst hv; exact ⟨h1, h2⟩
 | succ i => simp at hc
theorem Reads.append {w : World} {a b : List Value} {x y : List V} (h : Reads w a x) (k : Reads w b y) : Reads w (a ++ b) (x ++ y) := by
 refine ⟨by simp [h.len, k.len], fun i c v hc hv => ?_⟩
 by_cases hi : i < a.length
 ·rw [List.getElem?_append_left hi] at hc
  rw [List.getElem?_append_left (by rw [← h.len]; exact hi)] at hv
  exact h.rel i c v hc hv
 ·rw [List.getElem?_append_right (by omega)] at hc
  rw [List.getElem?_append_right (by rw [← h.len]; omega), ← h.len] at hv
  exact k.rel _ c v hc hv
theorem mapM_opt {α β : Type} {f : α → Option β} : ∀ {l : List α} {r : List β}, l.mapM f = some r → l.length = r.length ∧ ∀ (i : Nat) (a : α), l[i]? = some a → ∃ b, r[i]? = some b ∧ f a = some b
 | [], r, h => by simp at h; subst h; simp
 | a :: l, r, h => by
   rw [List.mapM_cons] at h
   cases hf : f a with
   | none => simp [hf] at h
   | some b =>
     cases hl : l.mapM f with
     | none => simp [hf, hl] at h
     | some r' =>
       simp [hf, hl] at h
       subst h
       obtain ⟨h1, h2⟩ := mapM_opt hl
       refine ⟨by simp [h1], fun i a' ha => ?_⟩
       cases i with
       | zero => simp at ha; subst ha; exact ⟨b, by simp, hf⟩
       | succ i => simpa using h2 i a' (by simpa using ha)
theorem cells_spec {w : World} {a : Addr} {n : Nat} {cs : List Value} (h : w.cells? 0 a n = some cs) (hn : 0 < n) : cs.length = n ∧ ∃ arr, immOf w a.block = some arr ∧ a.spot.isSome = false ∧ ∀ j, j < n → arr[a.off + j]? = cs[j]? := by
 unfold World.cells? at h
 simp at h
 obtain ⟨h1, h2⟩ := mapM_opt h
 have hlen : cs.length = n := by simpa using h1.symm
 refine ⟨hlen, ?_⟩
 obtain ⟨b, hb, h0⟩ := h2 0 0 (by simp [hn])
 have e0 : a.add 0 = a := by simp [Addr.add]
 rw [e0] at h0
 unfold World.cell? at h0
 split at h0
 ·rename_i arr t fr he
  split at h0
  ·simp at h0
  ·rename_i hs
   refine ⟨arr, by simp [immOf, he], by simpa using hs, fun j hj => ?_⟩
   obtain ⟨b, hb, hj0⟩ := h2 j j (by simp [hj])
   have e1 : (a.add j).block = a.block := by unfold Addr.add; split <;> rfl
   have e2 : (a.add j).off = a.off + j := by unfold Addr.add; split <;> simp_all
   unfold World.cell? at hj0
   rw [e1, he] at hj0
   simp only at hj0
   split at hj0
   ·simp at hj0
   ·rw [e2] at hj0
    rw [hj0, hb]
 ·simp at h0
theorem struct_reads {P : Program} {w : World} {R : TypeId → List V → Prop} {G : TypeId → List Value → Prop} (hG : ∀ t cs, G t cs → cs.length = P.cellsOf t ∧ ∃ vs, Reads w cs vs ∧ R t vs) :
 ∀ (ts : List TypeId) (os : List Nat) (k m : Nat) (cs : List Value), tile P ts os k = some m → cs.length = m → k ≤ m → (∀ (i : Nat) (t : TypeId) (o : Nat), ts[i]? = some t → os[i]? = some o → G t ((cs.drop o).take (P.cellsOf t))) → ∃ vs, Reads w (cs.drop k) vs ∧ TypedAll R ts vs
 | [], [], k, m, cs, ht, hl, hk, _ => by
   simp only [tile] at ht
   injection ht with ht; subst ht
   exact ⟨[], by rw [List.drop_eq_nil_of_le (by omega)]; exact Reads.nil w, rfl⟩
 | t :: ts, o :: os, k, m, cs, ht, hl, hk, h => by
   simp only [tile] at ht
   split at ht
   ·rename_i e; subst e
    have h0 := h 0 t o rfl rfl
    obtain ⟨hlen, vs, hr, hR⟩ := hG _ _ h0
    rw [List.length_take, List.length_drop] at hlen
    have hle : o + P.cellsOf t ≤ m ∨ P.cellsOf t = 0 := by omega
    have hm : o + P.cellsOf t ≤ m := by omega
    obtain ⟨ws, hw, hT⟩ := struct_reads hG ts os (o + P.cellsOf t) m cs ht hl hm (fun i t' o' h1 h2 => h (i + 1) t' o' (by simpa using h1) (by simpa using h2))
    refine ⟨vs ++ ws, ?_, vs, ws, rfl, hR, hT⟩
    have e : cs.drop o = (cs.drop o).take (P.cellsOf t) ++ cs.drop (o + P.cellsOf t) := by
     rw [← List.drop_drop, List.take_append_drop]
    rw [e]
    exact hr.append hw
   ·simp at ht
 | [], _ :: _, k, m, cs, ht, _, _, _ => by simp [tile] at ht
 | _ :: _, [], k, m, cs, ht, _, _, _ => by simp [tile] at ht
theorem tile_list {P : Program} : ∀ (n : Nat) (t : TypeId) (k : Nat), tile P (List.replicate n t) ((List.range n).map fun i => k + i * P.cellsOf t) k = some (k + n * P.cellsOf t)
 | 0, t, k => by simp [tile]
 | n + 1, t, k => by
   rw [List.replicate_succ, List.range_succ_eq_map, List.map_cons, List.map_map]
   simp only [tile, Nat.zero_mul, Nat.add_zero, if_true]
   have h := tile_list (P := P) n t (k + P.cellsOf t)
   have e : (fun i => k + i * P.cellsOf t) ∘ Nat.succ = fun i => k + P.cellsOf t + i * P.cellsOf t := by
    funext i; simp only [Function.comp, Nat.succ_eq_add_one, Nat.add_mul, Nat.one_mul]; omega
   rw [e, h]
   congr 1
   rw [Nat.add_mul, Nat.one_mul]; omega
set_option maxHeartbeats 4000000 in
/-- What a reading is, in the engine's values. -/
theorem trod_typed {H : Type} {enc : TypeId × Value → H} {P : Program} {w : World} {L : List TypeId} (hL : okTypes P L = true) : ∀ (fuel : Nat) (t : TypeId) (cs : List Value) (d : DataW H) (ps : List MemPlace), L.contains t = true → DataW.trod enc P w 0 (fun _ => true) true fuel t cs = some (d, ps) →
 cs.length = P.cellsOf t ∧ ∃ vs, Reads w cs vs ∧ Typed P fuel t vs
 | 0, t, cs, d, ps, _, h => by simp [DataW.trod] at h
 | fuel + 1, t, cs, d, ps, ht, h => by
   have ih := fun t cs d ps (ht : L.contains t = true) h => trod_typed (enc := enc) (w := w) hL fuel t cs d ps ht h
   have hk := hL
   unfold okTypes at hk
   rw [List.all_eq_true] at hk
   have hk := hk t (by simpa using ht)
   unfold DataW.trod at h
   unfold Typed
   cases hu : P.underlying t with
   | none => rw [hu] at hk; simp at hk
   | some desc =>
     rw [hu] at hk h
     cases desc <;> simp only [] at hk <;> (try (simp at hk; done))
     case bool =>
      split at h <;> simp_all
      rename_i b _
      refine ⟨[.bool b], Reads.one rfl .bool, ?_⟩
      cases b <;> simp
     case int k =>
      split at h <;> simp_all
      exact ⟨[.int _ _], Reads.one rfl .int, _, rfl, by simp_all⟩
     case string =>
      split at h <;> simp_all
      rename_i s _
      exact ⟨[.str s], Reads.one rfl .str, s, rfl, h.1⟩
     case slice e =>
      simp only [Bool.and_eq_true, decide_eq_true_eq] at hk
      obtain ⟨⟨he, hpos⟩, hone⟩ := hk
      split at h <;> (try (simp_all; done))
      case h_7 =>
       rename_i heq
       cases heq
       exact ⟨by simp [hone], [.dat []], Reads.one rfl .datn, [], rfl, by simp, by simp⟩
      case h_8 =>
       rename_i e' a len cap heq
       cases heq
       split at h
       case isFalse => simp at h
       rename_i hc
       refine ⟨by simp [hone], ?_⟩
       cases hm : (List.range len).mapM (fun i => (w.cells? 0 (a.add (i * P.cellsOf e)) (P.cellsOf e)).bind (DataW.trod enc P w 0 (fun _ => true) true fuel e)) with
       | none => simp [hm] at h
       | some elems =>
         obtain ⟨m1, m2⟩ := mapM_opt hm
         have each : ∀ i, i < len → ∃ cs vs, w.cells? 0 (a.add (i * P.cellsOf e)) (P.cellsOf e) = some cs ∧ cs.length = P.cellsOf e ∧ Reads w cs vs ∧ Typed P fuel e vs := by
          intro i hi
          obtain ⟨b, _, hb⟩ := m2 i i (by simp [hi])
          cases hcell : w.cells? 0 (a.add (i * P.cellsOf e)) (P.cellsOf e) with
          | none => simp [hcell] at hb
          | some cs =>
            rw [hcell] at hb
            obtain ⟨g1, vs, g2, g3⟩ := ih e cs b.1 b.2 he hb
            exact ⟨cs, vs, rfl, g1, g2, g3⟩
         by_cases h0 : len = 0
         ·subst h0
          exact ⟨[.dat []], Reads.one rfl .dat0, [], rfl, by simp, by simp⟩
         have hchoose : ∃ (F : Nat → List Value) (G : Nat → List V), ∀ i, i < len → w.cells? 0 (a.add (i * P.cellsOf e)) (P.cellsOf e) = some (F i) ∧ (F i).length = P.cellsOf e ∧ Reads w (F i) (G i) ∧ Typed P fuel e (G i) := by
          refine ⟨fun i => if hi : i < len then Classical.choose (each i hi) else [], fun i => if hi : i < len then Classical.choose (Classical.choose_spec (each i hi)) else [], fun i hi => ?_⟩
          simp only [dif_pos hi]
          exact Classical.choose_spec (Classical.choose_spec (each i hi))
         obtain ⟨F, G, hFG⟩ := hchoose
         obtain ⟨f1, f2, f3, f4⟩ := hFG 0 (by omega)
         rw [Nat.zero_mul, show a.add 0 = a from by simp [Addr.add]] at f1
         obtain ⟨_, arr, harr, hspot, _⟩ := cells_spec f1 hpos
         have hblk : ∀ n, (a.add n).block = a.block := fun n => by unfold Addr.add; split <;> rfl
         have hoff : ∀ n, (a.add n).off = a.off + n := fun n => by unfold Addr.add; split <;> simp_all
         have hcellArr : ∀ i, i < len → ∀ j, j < P.cellsOf e → arr[a.off + i * P.cellsOf e + j]? = (F i)[j]? := by
          intro i hi j hj
          obtain ⟨_, arr', h1, _, h3⟩ := cells_spec (hFG i hi).1 hpos
          rw [hblk, harr] at h1
          injection h1 with h1; subst h1
          have := h3 j hj
          rwa [hoff] at this
         refine ⟨[.dat ((List.range len).map G)], Reads.one rfl ?_, (List.range len).map G, rfl, by simp; omega, ?_⟩
         ·have hl : ((List.range len).map G).length = len := by simp
          have ha : a = ⟨a.block, a.off, none⟩ := by
           cases a with
           | mk b o s => cases s with
             | none => rfl
             | some s => simp at hspot
          have hget : ∀ i x, ((List.range len).map G)[i]? = some x → i < len ∧ x = G i := by
           intro i x hx
           have hi : i < len := by have := (List.getElem?_eq_some_iff.1 hx).1; simpa using this
           refine ⟨hi, ?_⟩
           simp [hi] at hx
           exact hx.symm
          conv => arg 3; rw [ha]; rw [← hl]
          refine Rel.dat (es := P.cellsOf e) (arr := arr) (fun i j => (F i).getD j default) harr (fun i x hx => ?_) (by rw [hl]; exact hc.2.1) (fun i x j y hx hy => ?_) (fun i x j y hx hy => ?_) (fun i x j y hx hy => ?_)
          ·obtain ⟨hi, rfl⟩ := hget i x hx
           rw [← (hFG i hi).2.2.1.len]; exact (hFG i hi).2.1
          all_goals
           obtain ⟨hi, rfl⟩ := hget i x hx
           obtain ⟨k1, k2, k3, k4⟩ := hFG i hi
           have hj : j < (F i).length := by rw [k3.len]; exact (List.getElem?_eq_some_iff.1 hy).1
           have hFj : (F i)[j]? = some ((F i).getD j default) := by simp [List.getD_eq_getElem?_getD, hj]
          ·rw [hcellArr i hi j (by omega)]; exact hFj
          ·exact (k3.rel j _ y hFj hy).1
          ·exact (k3.rel j _ y hFj hy).2
         ·intro x hx
          simp at hx
          obtain ⟨i, hi, rfl⟩ := hx
          exact (hFG i hi).2.2.2
     case struct fs =>
      simp only [Bool.and_eq_true, decide_eq_true_eq, List.all_eq_true] at hk
      obtain ⟨hmem, htile⟩ := hk
      have hlen : cs.length = P.cellsOf t := by
       split at h <;> first | (simp_all; done) | skip
       all_goals (split at h <;> simp_all)
      refine ⟨hlen, ?_⟩
      have hbody : ∃ xs, (fs.toList.mapM fun f => DataW.trod enc P w 0 (fun _ => true) true fuel f.type ((cs.drop f.offset).take (P.cellsOf f.type))) = some xs := by
       cases hm : (fs.toList.mapM fun f => DataW.trod enc P w 0 (fun _ => true) true fuel f.type ((cs.drop f.offset).take (P.cellsOf f.type))) with
       | some xs => exact ⟨xs, rfl⟩
       | none => exfalso; split at h <;> simp_all
      obtain ⟨xs, hxs⟩ := hbody
      obtain ⟨_, m2⟩ := mapM_opt hxs
      have := struct_reads (P := P) (w := w) (R := Typed P fuel) (G := fun t cs => L.contains t = true ∧ ∃ d ps, DataW.trod enc P w 0 (fun _ => true) true fuel t cs = some (d, ps))
       (fun t cs ⟨h1, d, ps, h2⟩ => ih t cs d ps h1 h2) _ _ 0 _ cs htile hlen (Nat.zero_le _) (fun i t o h1 h2 => by
         rw [List.getElem?_map] at h1 h2
         cases hf : fs.toList[i]? with
         | none => rw [hf] at h1; simp at h1
         | some f =>
           rw [hf] at h1 h2
           simp at h1 h2
           subst h1; subst h2
           obtain ⟨b, _, hb⟩ := m2 i f hf
           exact ⟨hmem f (List.mem_of_getElem? hf), b.1, b.2, hb⟩)
      simpa using this
     case array n e =>
      simp only [Bool.and_eq_true, decide_eq_true_eq] at hk
      obtain ⟨hmem, hsz⟩ := hk
      have hlen : cs.length = P.cellsOf t := by
       split at h <;> first | (simp_all; done) | skip
       all_goals (split at h <;> simp_all)
      refine ⟨hlen, ?_⟩
      have hbody : ∃ xs, ((List.range n).mapM fun i => DataW.trod enc P w 0 (fun _ => true) true fuel e ((cs.drop (i * P.cellsOf e)).take (P.cellsOf e))) = some xs := by
       cases hm : ((List.range n).mapM fun i => DataW.trod enc P w 0 (fun _ => true) true fuel e ((cs.drop (i * P.cellsOf e)).take (P.cellsOf e))) with
       | some xs => exact ⟨xs, rfl⟩
       | none => exfalso; split at h <;> simp_all
      obtain ⟨xs, hxs⟩ := hbody
      obtain ⟨_, m2⟩ := mapM_opt hxs
      have htile := tile_list (P := P) n e 0
      have := struct_reads (P := P) (w := w) (R := Typed P fuel) (G := fun t cs => L.contains t = true ∧ ∃ d ps, DataW.trod enc P w 0 (fun _ => true) true fuel t cs = some (d, ps))
       (fun t cs ⟨h1, d, ps, h2⟩ => ih t cs d ps h1 h2) _ _ 0 _ cs htile (by rw [hlen, ← hsz]; omega) (Nat.zero_le _) (fun i t o h1 h2 => by
         have hi : i < n := by have := (List.getElem?_eq_some_iff.1 h1).1; simpa using this
         simp [hi] at h1 h2
         subst h1; subst h2
         obtain ⟨b, _, hb⟩ := m2 i i (by simp [hi])
         exact ⟨hmem, b.1, b.2, hb⟩)
      simpa using this
end Go.Proofs.YtkockkfmjmheeaaGreat.E

namespace Go.Proofs.YtkockkfmjmheeaaGreat.E
open Go Go.RowKit Go.WideShapes Go.ChangeShapes
set_option linter.unusedSimpArgs false
set_option linter.unusedVariables false
variable {H : Type} {enc : TypeId × Value → H} {P : Program} {w : World} {L : List TypeId} {t e : TypeId} {v : Value} {d : DataW H} {ps : List MemPlace} {r : Reach} {b0 : Nat}
theorem arg_slice (hL : okTypes P L = true) (hc : L.contains t = true) (hu : P.underlying t = some (.slice e)) (hv : Value.okWide P w r b0 t v) (h : DataW.Trod enc P w 0 (fun _ => true) true t v d ps) :
 ∃ l n, Rel (immOf w) Beta.none v (.dat l) ∧ Typed P n t [.dat l] := by
 obtain ⟨a, len, cap, rfl⟩ := okWide_slice hu hv
 obtain ⟨fuel, hf⟩ := h
 obtain ⟨_, vs, hr, hT⟩ := trod_typed hL fuel t _ _ _ hc hf
 have hT' := hT
 cases fuel with
 | zero => exact hT.elim
 | succ n =>
   unfold Typed at hT'
   rw [hu] at hT'
   obtain ⟨l, rfl, _⟩ := hT'
   exact ⟨l, n + 1, (hr.rel 0 _ _ rfl rfl).2, hT⟩
theorem arg_agg (hL : okTypes P L = true) (hc : L.contains t = true) (hu : P.cellsOf t ≠ 1) (h : DataW.Trod enc P w 0 (fun _ => true) true t v d ps) :
 ∃ l n, Rel (immOf w) Beta.none v (.agg l) ∧ Typed P n t l := by
 obtain ⟨fuel, hf⟩ := h
 obtain ⟨hlen, vs, hr, hT⟩ := trod_typed hL fuel t _ _ _ hc hf
 have hagg : ∃ cs, v = .agg cs := by
  cases v <;> first | exact ⟨_, rfl⟩ | (exfalso; apply hu; rw [← hlen]; rfl)
 obtain ⟨cs, rfl⟩ := hagg
 have hcs : (Value.agg cs).cells.toList = cs.toList := rfl
 rw [hcs] at hr
 refine ⟨vs, fuel, .agg (by simpa using hr.len) (fun i y hy => ?_) (fun i c y hc hy => (hr.rel i c y (by simpa using hc) hy).2), hT⟩
 have hi : i < cs.size := by have := (List.getElem?_eq_some_iff.1 hy).1; have := hr.len; simp at this; omega
 exact (hr.rel i cs[i] y (by simp [hi]) hy).1
def RelAll (I : Imm) (β : Beta) : List Value → List V → Prop
 | [], [] => True
 | c :: cs, v :: vs => Rel I β c v ∧ RelAll I β cs vs
 | _, _ => False
theorem args_of {I : Imm} {β : Beta} : ∀ {cs : List Value} {vs : List V}, RelAll I β cs vs → ArgsRel I β cs.toArray vs
 | [], [], _ => ⟨rfl, by simp⟩
 | c :: cs, v :: vs, h => by
   obtain ⟨h1, h2⟩ := h
   have ih := args_of h2
   refine ⟨by have := ih.1; simp at this ⊢; exact this, fun i c' v' hc hv => ?_⟩
   cases i with
   | zero => simp at hc hv; subst hc; subst hv; exact h1
   | succ i => exact ih.2 i c' v' (by simpa using hc) (by simpa using hv)
 | [], _ :: _, h => h.elim
 | _ :: _, [], h => h.elim
end Go.Proofs.YtkockkfmjmheeaaGreat.E

namespace Go.Proofs.YtkockkfmjmheeaaGreat.E
open Go Go.RowKit
set_option linter.unusedSimpArgs false
set_option linter.unusedVariables false
structure MFnE where
 n : Nat
 pre : List MCode
 t : Nat
 k : Nat
 l : List Opd
 rest : MCode
 res : List MRes
def seqs : List Code → Code → Code
 | [], c => c
 | a :: l, c => .seq a (seqs l c)
def isDef (ops : Array Oper) : Bool := match ops.toList with
 | [_, o2] => match o2.op with
   | .defer _ => true
   | _ => false
 | _ => false
def defOps : Code → Option (Array Oper)
 | .region _ ops false => if isDef ops then some ops else none
 | _ => none
theorem defOps_spec {c : Code} {ops : Array Oper} (h : defOps c = some ops) : ∃ i, c = .region i ops false := by
 unfold defOps at h
 split at h
 ·split at h
  ·injection h with h; subst h; exact ⟨_, rfl⟩
  ·simp at h
 ·simp at h
def splitD : Code → Option (List Code × Code × Array Oper × Code)
 | .seq a r => match defOps a with
   | some ops => some ([], a, ops, r)
   | none => match splitD r with
     | some (p, x) => some (a :: p, x)
     | none => none
 | _ => none
theorem splitD_spec : ∀ {c : Code} {pre : List Code} {d : Code} {ops : Array Oper} {r : Code}, splitD c = some (pre, d, ops, r) → c = seqs pre (.seq d r) ∧ ∃ i, d = .region i ops false := by
 intro c
 induction c with
 | seq a b _ ih =>
   intro pre d ops r h
   simp only [splitD] at h
   split at h
   ·rename_i ops' hd
    injection h with h; injection h with h1 h2; injection h2 with h2 h3; injection h3 with h3 h4
    subst h1; subst h2; subst h3; subst h4
    exact ⟨rfl, defOps_spec hd⟩
   ·split at h
    ·rename_i p x hs
     injection h with h; injection h with h1 h2
     subst h1; subst h2
     obtain ⟨e, hi⟩ := ih hs
     exact ⟨by rw [e]; rfl, hi⟩
    ·simp at h
 | _ => intro pre d ops r h; simp [splitD] at h
def cCodes (P : Program) (n : Nat) (K : Nat → Option (List Nat)) (X : List Nat) : List Code → Option (List MCode)
 | [] => some []
 | c :: l => match cCode P n K X c, cCodes P n K X l with
   | some m, some r => some (m :: r)
   | _, _ => none
def cFnE (P : Program) (K : Nat → Option (List Nat)) (X : List Nat) (f : Nat) : Option MFnE :=
 match P.funcs[f]? with
 | some fn => match fn.body with
   | some c => match splitD c with
     | some (pre, _, ops1, rest) => match cCodes P fn.ntmps K X pre, ops1.toList, cCode P fn.ntmps K X rest, cRes P fn.results.toList with
       | some mp, [o1, o2], some mc, some rs => match cOper P fn.ntmps 0 ops1 o1, o2.op, o2.dst, o2.guard with
         | some ⟨some t, .mkF k l, none⟩, .defer ⟨.value (.tmp t'), ⟨[]⟩, _⟩, none, none => if t' = t ∧ fn.name ≠ "runtime.NumGoroutine" ∧ f < bm then some ⟨fn.ntmps, mp, t, k, l, mc, rs⟩ else none
         | _, _, _, _ => none
       | _, _, _, _ => none
     | none => none
   | none => none
 | none => none
variable {P : Program}
theorem cFnE_spec {K : Nat → Option (List Nat)} {X : List Nat} {f : Nat} {mf : MFnE} (h : cFnE P K X f = some mf) : ∃ fn pre i o1 o2 rest ops1 at_, P.funcs[f]? = some fn ∧ fn.body = some (seqs pre (.seq (.region i ops1 false) rest)) ∧ ops1.toList = [o1, o2] ∧
 cCodes P fn.ntmps K X pre = some mf.pre ∧ cOper P fn.ntmps 0 ops1 o1 = some ⟨some mf.t, .mkF mf.k mf.l, none⟩ ∧ o2.op = .defer ⟨.value (.tmp mf.t), #[], at_⟩ ∧ o2.dst = none ∧ o2.guard = none ∧ cCode P fn.ntmps K X rest = some mf.rest ∧ cRes P fn.results.toList = some mf.res ∧ isFn P f = true := by
 unfold cFnE at h
 split at h
 case h_2 => simp at h
 rename_i fn hf
 split at h
 case h_2 => simp at h
 rename_i c hb
 split at h
 case h_2 => simp at h
 rename_i pre d ops1 rest hs
 split at h
 case h_2 => simp at h
 rename_i mp o1 o2 mc rs h1 h2 h3 h4
 split at h
 case h_2 => simp at h
 rename_i t k l t' at_ h5 h6 h7 h8
 split at h
 case isFalse => simp at h
 rename_i hc
 obtain ⟨rfl, hn, hfm⟩ := hc
 injection h with h; subst h
 obtain ⟨e, i, hi⟩ := splitD_spec hs
 rw [hi] at e
 exact ⟨fn, pre, i, o1, o2, rest, ops1, at_, hf, by rw [hb, e], h2, h1, h5, h6, h7, h8, h3, h4, by simp [isFn, hf, hb, hn, hfm]⟩
def exPre (run : Run) (B : Nat → List V → Option V) (X : Nat → Bool) (k : Nat) : List MCode → Sl → Sto → Option (Sl × Sto)
 | [], S, σ => some (S, σ)
 | c :: r, S, σ => match exC run B X k c S σ with
   | some (.norm, S', σ') => exPre run B X k r S' σ'
   | _ => none
variable {Df : List Deferred} {w0 : World} {base : Nat} {I0 I : Imm} {β : Beta} {S S1 : Sl} {σ σ1 σ' : Sto} {w : World} {a : Act} {v : V} {n : Nat}
theorem pre_sound {run : Run} {B : Nat → List V → Option V} {X : Nat → Bool} {k : Nat} (hB : BOK P B) (hr : RunOK P run) {K : Nat → Option (List Nat)} {Y : List Nat} : ∀ (pre : List Code) (mp : List MCode), cCodes P n K Y pre = some mp → ∀ {S S1 : Sl} {σ σ1 : Sto} {I : Imm} {β : Beta} {a : Act} {w : World},
 exPre run B X k mp S σ = some (S1, σ1) → At Df w0 base I0 n I β S σ a w → ∀ (rest : Code) (Q : Exit → Act → World → Prop), (∀ I' β' a' w', At Df w0 base I0 n I' β' S1 σ1 a' w' → Ext I β I' β' → rest.wp P Q a' w') → (seqs pre rest).wp P Q a w
 | [], mp, hc, S, S1, σ, σ1, I, β, a, w, h, hA, rest, Q, hn => by
   simp only [cCodes] at hc
   injection hc with hc; subst hc
   simp only [exPre] at h
   injection h with h; injection h with h1 h2; subst h1; subst h2
   exact hn I β a w hA (Ext.refl _ _)
 | c :: pre, mp, hc, S, S1, σ, σ1, I, β, a, w, h, hA, rest, Q, hn => by
   simp only [cCodes] at hc
   split at hc
   case h_2 => simp at hc
   rename_i m r h1 h2
   injection hc with hc; subst hc
   simp only [exPre] at h
   split at h
   case h_2 => simp at h
   rename_i S2 σ2 hex
   show (Code.seq c (seqs pre rest)).wp P Q a w
   refine wp_seq (ex_sound hB hr c m h1 hex hA _ (fun I1 β1 a1 w1 g1 g2 => ?_))
   exact pre_sound hB hr pre r h2 h g1 rest Q (fun I2 β2 a2 w2 k1 k2 => hn I2 β2 a2 w2 k1 (g2.trans k2))
def isTrue (σ : Sto) (o i j : Nat) : Bool := match look σ o with
 | some x => match x.st with
   | .own => match x.cells[i]? with
     | some r => match r[j]? with
       | some (.bool b) => b
       | _ => false
     | none => false
   | _ => false
 | none => false
def runY (T : Nat → Option MFn) (TE : Nat → Option MFnE) (D : Nat → Bool) (B : Nat → List V → Option V) (X : Nat → Bool) : Nat → Run
 | 0, _, _, _ => none
 | k + 1, f, vs, σ => match T f with
   | some mf => match exC (runY T TE D B X k) B X k mf.body (argS vs) σ with
     | some (.exit _, _, _) => none
     | some (_, S', σ') => match resV S' σ' mf.res with
       | some l => some (resOf l, σ')
       | none => none
     | none => none
   | none => match TE f with
     | some mf => match D mf.k with
       | true => match exPre (runY T TE D B X k) B X k mf.pre (argS vs) σ with
         | some (S1, σ1) => match evs S1 mf.l with
           | some [.ptr o i j] => match exC (runY T TE D B X k) B X k mf.rest (S1.set mf.t (.clo mf.k [.ptr o i j])) σ1 with
             | some (.exit _, _, _) => none
             | some (_, S', σ') => match isTrue σ' o i j with
               | true => match resV S' σ' mf.res with
                 | some l => some (resOf l, σ')
                 | none => none
               | false => none
             | none => none
           | _ => none
         | none => none
       | false => none
     | none => none
def TabE (P : Program) (T : Nat → Option MFnE) : Prop := ∀ f mf, T f = some mf → ∃ K Y, cFnE P K Y f = some mf
def DOK (P : Program) (D : Nat → Bool) : Prop := ∀ k, D k = true → isFn P k = true ∧ IdleB P k
theorem isTrue_mem (hI : Inv w0 base I0 I β σ w) {o i j : Nat} (h : isTrue σ o i j = true) {k : Blk} (hk : β o = some k) : ∃ arr t, w.heap[k.b]? = some (.cells arr t (0, 0)) ∧ arr[i * k.es + j]? = some (.bool true) := by
 unfold isTrue at h
 split at h
 case h_2 => simp at h
 rename_i x hx
 split at h
 case h_2 => simp at h
 rename_i hst
 split at h
 case h_2 => simp at h
 rename_i r hr
 split at h
 case h_2 => simp at h
 rename_i b hb
 subst h
 obtain ⟨k2, hk2, hes, _, hobr⟩ := hI.ob o x hx
 rw [hk] at hk2; injection hk2 with hk2; subst hk2
 obtain ⟨⟨arr, t, fr, hm, hs, hown, _, hrel⟩, _, _, _⟩ := hobr (by rw [hst]; simp)
 obtain ⟨rfl, _⟩ := hown hst
 obtain ⟨c, hc, hcr⟩ := hrel i r j _ hr hb
 have hcb := hcr.inv_bool
 subst hcb
 rw [hes]
 exact ⟨arr, t, hm, hc⟩
theorem runY_ok {T : Nat → Option MFn} {TE : Nat → Option MFnE} {D : Nat → Bool} {B : Nat → List V → Option V} {X : Nat → Bool} (hT : TabOK P T) (hTE : TabE P TE) (hD : DOK P D) (hB : BOK P B) : ∀ k, RunOK P (runY T TE D B X k)
 | 0 => fun f vs σ r σ' h => by simp [runY] at h
 | k + 1 => fun f vs σ r σ' h => by
   simp only [runY] at h
   split at h
   ·rename_i mf hmf
    obtain ⟨K, Y, hc⟩ := hT f mf hmf
    obtain ⟨fn, c, hf, hb, hn, hc, hr, hfn⟩ := cFn_spec hc
    have fin : ∀ {e : Ex} {S' : Sl} {σ1 : Sto}, exC (runY T TE D B X k) B X k mf.body (argS vs) σ = some (e, S', σ1) → (∀ n, e ≠ .exit n) → (match resV S' σ1 mf.res with | some l => some (resOf l, σ1) | none => none) = some (r, σ') → CallX P f vs σ (fun r2 s => r2 = r ∧ s = σ') := by
     intro e S' σ1 hex hne h
     split at h
     ·rename_i l hl
      injection h with h; injection h with h1 h2; subst h1; subst h2
      refine ⟨hfn, fun w0 base I0 I β w cs hI hargs => ?_⟩
      refine calls_of_wp hf hb ?_
      refine ex_sound (n := fn.ntmps) hB (runY_ok hT hTE hD hB k) c mf.body hc hex (at_start hI hargs fn.ntmps) _ (fun I' β' a' w' hA hE => ?_)
      obtain ⟨rv, h4, h5⟩ := run_results hr hA hl
      have post : a'.defers = [] ∧ ∃ v, (results fn a'.tmps).run P w' = .ok v w' ∧ ∃ rv I' β' r σ', Ending.returned v = .returned rv ∧ Inv w0 base I0 I' β' σ' w' ∧ Ext I β I' β' ∧ Rel I' β' rv r ∧ (r = resOf l ∧ σ' = σ1) :=
       ⟨hA.defers, rv, h4, rv, I', β', _, σ1, rfl, hA.inv, hE, h5, rfl, rfl⟩
      cases e with
      | norm => exact post
      | exit n => exact (hne n rfl).elim
      | ret => exact post
     ·simp at h
    split at h
    ·simp at h
    ·rename_i e S' σ1 hne hex
     exact fin hex (fun n e' => hne n e') h
    ·simp at h
   ·split at h
    case h_2 => simp at h
    rename_i mf hmf
    obtain ⟨K, Y, hc⟩ := hTE f mf hmf
    obtain ⟨fn, pre, i0, o1, o2, rest, ops1, at_, hf, hb, h2, hc0, hc1, ho2, hd2, hg2, hcr, hr, hfn⟩ := cFnE_spec hc
    split at h
    case h_2 => simp at h
    rename_i hDk
    obtain ⟨hkf, hid⟩ := hD _ hDk
    split at h
    case h_2 => simp at h
    rename_i S1 σ1 hpre
    split at h
    case h_2 => simp at h
    rename_i o i j hev
    have fin : ∀ {e : Ex} {S' : Sl} {σ2 : Sto}, exC (runY T TE D B X k) B X k mf.rest (S1.set mf.t (.clo mf.k [.ptr o i j])) σ1 = some (e, S', σ2) → (∀ n, e ≠ .exit n) → isTrue σ2 o i j = true → (match resV S' σ2 mf.res with | some l => some (resOf l, σ2) | none => none) = some (r, σ') → CallX P f vs σ (fun r2 s => r2 = r ∧ s = σ') := by
     intro e S' σ3 hex hne htrue h
     split at h
     case h_2 => simp at h
     rename_i l hl
     injection h with h; injection h with h1 h2'; subst h1; subst h2'
     refine ⟨hfn, fun w0 base I0 I β w cs hI hargs => ?_⟩
     refine calls_of_wp_defers hf hb ?_
     refine pre_sound hB (runY_ok hT hTE hD hB k) pre mf.pre hc0 hpre (at_start hI hargs fn.ntmps) _ _ (fun I1 β1 a1 w1 hA1 hE1 => ?_)
     refine wp_seq ?_
     refine wp_region ?_
     have hsz : ops1.size = 2 := by have := congrArg List.length h2; simpa using this
     have e0 : ops1[0]? = some o1 := by rw [← Array.getElem?_toList, h2]; rfl
     have e1 : ops1[1]? = some o2 := by rw [← Array.getElem?_toList, h2]; rfl
     rw [hsz]
     show wpOps P ops1 _ [0, 1] a1 w1
     rw [wpOps_cons]
     have st1 : WpOp P ⟨some mf.t, .mkF mf.k mf.l, none⟩ S1 σ1 fun S2 σ2 => S2 = S1.set mf.t (.clo mf.k [.ptr o i j]) ∧ σ2 = σ1 := by
      simp only [WpOp, Step]
      exact ⟨.clo mf.k [.ptr o i j], σ1, by simp [evOp, hev], rfl, rfl⟩
     refine wpOp_sound e0 hc1 st1 hA1 _ _ ?_
     rintro S2 σ2 I2 β2 a2 w2 ⟨rfl, rfl⟩ hA2 hE2
     rw [wpOps_cons]
     unfold wpOp
     rw [e1]
     simp only []
     have hw2 : Region.wanted o2 (yielded ops1 a2.tmps) = true := by simp [Region.wanted, hg2]
     rw [if_pos hw2]
     refine .inl ?_
     obtain ⟨c, hcc, hrel⟩ := hA2.slots mf.t (.clo mf.k [.ptr o i j]) (by simp [Sl.set])
     obtain ⟨cs2, rfl, hcs, hcr2⟩ := hrel.inv_clo (isFn_lt hkf)
     have hev2 : a2.eval (.tmp mf.t) = .func (.func mf.k) #[] cs2 := by
      simp only [Act.eval]
      simp [hcc]
     unfold Oper.wp
     rw [exec_defer ho2 hev2, Oper.upon_defer, hd2]
     let dd : Deferred := ⟨.fn (.func mf.k) cs2, #[]⟩
     have hA3 : At [dd] w0 base I0 fn.ntmps I2 β2 (S1.set mf.t (.clo mf.k [.ptr o i j])) σ2 { a2 with defers := dd :: a2.defers } w2 := ⟨hA2.inv, hA2.slots, hA2.size, by rw [hA2.defers]⟩
     show (Code.wp P rest (bodyPostD P fn _) { a2 with defers := dd :: a2.defers } w2)
     refine ex_sound (n := fn.ntmps) hB (runY_ok hT hTE hD hB k) rest mf.rest hcr hex hA3 _ (fun I' β' a' w' hA hE => ?_)
     obtain ⟨rv, g4, g5⟩ := run_results hr hA hl
     have hE12 := (hE1.trans hE2).trans hE
     have hlen : 0 < cs2.size := by rw [hcs]; simp
     obtain ⟨kb, hkb, hc2⟩ := (hcr2 0 cs2[0] (.ptr o i j) (by simp [hlen]) rfl).inv_ptr
     have hkb' := hE.beta o kb hkb
     obtain ⟨arr, ty, hm, ht⟩ := isTrue_mem hA.inv htrue hkb'
     have hcs2 : cs2 = #[.pointer (some ⟨kb.b, i * kb.es + j, none⟩)] := by
      have h1 : cs2.size = 1 := by rw [hcs]; rfl
      refine Array.ext (by simp [h1]) fun q q1 q2 => ?_
      have : q = 0 := by simp at q2; omega
      subst this
      simpa using hc2
     have post : Leaves P fn a'.tmps (fun e w' => ∃ rv I' β' r σ', e = .returned rv ∧ Inv w0 base I0 I' β' σ' w' ∧ Ext I β I' β' ∧ Rel I' β' rv r ∧ r = resOf l ∧ σ' = σ3) a'.defers .returning w' := by
      rw [hA.defers]
      refine leaves_cons (f := mf.k) (args := cs2) (by simp) ?_ ?_
      ·simp [invoke, callFunc_run hkf]
      ·rw [hcs2]
       refine (hid kb.b (i * kb.es + j) arr ty w' hm ht).mono ?_
       rintro e u' w4 ⟨⟨v, rfl⟩, rfl, rfl⟩
       exact ⟨rv, g4, rv, I', β', _, σ3, rfl, hA.inv, hE12, g5, rfl, rfl⟩
     cases e with
     | norm => exact post
     | exit n => exact (hne n rfl).elim
     | ret => exact post
    split at h
    ·simp at h
    ·rename_i e S' σ2 hne hex
     split at h
     ·rename_i ht
      exact fin hex (fun n e' => hne n e') ht h
     ·simp at h
    ·simp at h
def runDY (T : Nat → Option MFn) (TE : Nat → Option MFnE) (D : Nat → Bool) (B : Nat → List V → Option V) (X : Nat → Bool) (k : Nat) (f : Nat) (ds : List V) : Option V :=
 match runY T TE D B X k f ds [] with
 | some (r, σ) => toD σ deep r
 | none => none
theorem callD_runY {T : Nat → Option MFn} {TE : Nat → Option MFnE} {D : Nat → Bool} {B : Nat → List V → Option V} {X : Nat → Bool} (hT : TabOK P T) (hTE : TabE P TE) (hD : DOK P D) (hB : BOK P B) (k : Nat) {f : Nat} {ds : List V} {d : V} (h : runDY T TE D B X k f ds = some d) : CallD P f ds (· = d) := by
 unfold runDY at h
 split at h
 ·rename_i r σ hr
  exact callD_of_X (runY_ok hT hTE hD hB k _ _ _ _ _ hr) h
 ·simp at h
end Go.Proofs.YtkockkfmjmheeaaGreat.E
