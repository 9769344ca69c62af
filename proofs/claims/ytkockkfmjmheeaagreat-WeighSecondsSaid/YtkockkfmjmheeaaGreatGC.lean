import Derived.Test.YtkockkfmjmheeaaGreatGB
namespace Go.Proofs.YtkockkfmjmheeaaGreat.E
open Go Go.RowKit
set_option linter.unusedSimpArgs false
set_option linter.unusedVariables false
variable {P : Program} {w0 : World} {base : Nat} {I0 I : Imm} {β : Beta} {S : Sl} {σ σ' : Sto} {w : World} {a : Act} {v : V} {n : Nat}
def MOp.opds : MOp → List Opd
 | .mv x => [x]
 | .pick c a b => [c, a, b]
 | .box x => [x]
 | .alloc _ => []
 | .build _ ps => ps.map (·.2.2)
 | .buildSl _ _ _ ps => ps.map (·.2)
 | .ld _ a => [a]
 | .st _ a x => [a, x]
 | .stA _ a x oth => a :: x :: oth.map .t
 | .bin _ x y => [x, y]
 | .binB _ x y => [x, y]
 | .binS _ x y => [x, y]
 | .binF _ x y => [x, y]
 | .binT _ x y => [x, y]
 | .un _ x => [x]
 | .cvt _ x => [x]
 | .mkSl _ _ _ l c => [l, c]
 | .slc _ x lo hi mx => x :: (lo.toList ++ hi.toList ++ mx.toList)
 | .slcS x lo hi => x :: (lo.toList ++ hi.toList)
 | .fA _ x => [x]
 | .fld _ _ x => [x]
 | .ixA _ x i => [x, i]
 | .ixArr _ _ x i => [x, i]
 | .ix _ _ _ x i => [x, i]
 | .ixS x i => [x, i]
 | .ext x _ => [x]
 | .lenS x => [x]
 | .lenT x => [x]
 | .app _ _ s x => [s, x]
 | .min2 x y => [x, y]
 | .capN x => [x]
 | .appN _ _ _ s x => [s, x]
 | .no => []
 | .mkF _ l => l
 | .mkI _ x => [x]
 | .call _ l => l
 | .callF _ l => l
 | .callXF _ l => l
 | .callVF x l => x :: l
 | .callV x l => x :: l
 | .allocN _ _ => []
 | .buildSlN _ _ _ _ ps => ps.map (·.2)
 | .strB x => [x]
 | .clr _ _ x => [x]
 | .rd2 _ l => l
 | .appA _ _ s x oth => s :: x :: oth.map .t
 | .callVA x l oth => x :: (l ++ oth.map .t)
def Opd.slots : Opd → List Nat
 | .t n => [n]
 | .c _ => []
def MOper.reads (o : MOper) : List Nat := o.op.opds.flatMap Opd.slots ++ (match o.guard with | some (d, _) => [d] | none => [])
def MOp.cl : MOp → Nat
 | .st .. | .stA .. | .app .. | .appN .. | .appA .. => 3
 | .box _ | .alloc _ | .buildSl .. | .mkSl .. => 5
 | .ld .. | .ixA .. | .slc .. | .strB .. => 1
 | .callF .. | .rd2 .. => 2
 | .callXF .. | .callVF .. | .callVA .. => 4
 | .call .. | .callV .. | .clr .. => 9
 | .allocN .. | .buildSlN .. => 6
 | _ => 0
def commute (x y : MOper) : Bool :=
 (match x.dst with | some d => !y.reads.contains d && y.dst != some d | none => true) &&
 (match y.dst with | some d => !x.reads.contains d | none => true) &&
 ((x.op.cl == 0 && decide (y.op.cl ≤ 6)) || (y.op.cl == 0 && decide (x.op.cl ≤ 6)) || (decide (x.op.cl ≤ 2) && decide (y.op.cl ≤ 2)) || (decide (x.op.cl ≤ 2) && y.op.cl == 5) || (decide (x.op.cl ≤ 2) && y.op.cl == 6) || (x.op.cl == 6 && y.op.cl == 6))
def Fn1 (P : Program) (m : MOp) (S : Sl) (σ : Sto) (v : V) (σ' : Sto) : Prop :=
 match m with
 | .callF f l => ∃ vs ds, evs S l = some vs ∧ toDs σ vs = some ds ∧ CallD P f ds (· = v) ∧ σ' = behind σ vs v
 | .rd2 k l => ∃ us vs ds, evs S l = some us ∧ k.args us = some vs ∧ toPs σ vs = some ds ∧ k.res P us ds v ∧ σ' = behindP σ vs v
 | .callXF f l => ∃ vs, evs S l = some vs ∧ CallX P f vs σ fun r' s => r' = v ∧ s = σ'
 | .callVF x l => ∃ f cap vs, ev S x = some (.clo f cap) ∧ evs S l = some vs ∧ CallX P f (vs ++ cap) σ fun r' s => r' = v ∧ s = σ'
 | .callVA x l oth => ∃ f cap vs, ev S x = some (.clo f cap) ∧ evs S l = some vs ∧ CallX P f (vs ++ cap) σ (fun r' s => r' = v ∧ s = σ') ∧ Stays S oth σ σ'
 | .call _ _ => False
 | .callV _ _ => False
 | m => evOp S σ m = some (v, σ')
def Act1 (P : Program) (o : MOper) (S : Sl) (σ : Sto) (v : V) (σ' : Sto) : Prop :=
 match o.guard with
 | none => Fn1 P o.op S σ v σ'
 | some (d, b) => match S d with
   | some (.bool t) => (t = b → Fn1 P o.op S σ v σ') ∧ (t ≠ b → v = .tup [] ∧ σ' = σ)
   | some (.tup []) => v = .tup [] ∧ σ' = σ
   | _ => False
theorem step_fn {m : MOp} (h : m.cl ≤ 6) (K : V → Sto → Prop) : Step P m S σ K ↔ ∃ v σ', Fn1 P m S σ v σ' ∧ K v σ' := by
 cases m <;> first
  | (simp [MOp.cl] at h; done)
  | exact Iff.rfl
  | skip
 ·rename_i f l
  constructor
  ·rintro ⟨vs, ds, r, h1, h2, h3, h4⟩
   exact ⟨r, _, ⟨vs, ds, h1, h2, h3, rfl⟩, h4⟩
  ·rintro ⟨r, _, ⟨vs, ds, h1, h2, h3, rfl⟩, h4⟩
   exact ⟨vs, ds, r, h1, h2, h3, h4⟩
 ·rename_i f l
  constructor
  ·rintro ⟨vs, r, s, h1, h2, h3⟩
   exact ⟨r, s, ⟨vs, h1, h2⟩, h3⟩
  ·rintro ⟨r, s, ⟨vs, h1, h2⟩, h3⟩
   exact ⟨vs, r, s, h1, h2, h3⟩
 ·rename_i x l
  constructor
  ·rintro ⟨f, cap, vs, r, s, h0, h1, h2, h3⟩
   exact ⟨r, s, ⟨f, cap, vs, h0, h1, h2⟩, h3⟩
  ·rintro ⟨r, s, ⟨f, cap, vs, h0, h1, h2⟩, h3⟩
   exact ⟨f, cap, vs, r, s, h0, h1, h2, h3⟩
 ·rename_i k l
  constructor
  ·rintro ⟨us, vs, ds, r, h0, h1, h2, h3, h4⟩
   exact ⟨r, _, ⟨us, vs, ds, h0, h1, h2, h3, rfl⟩, h4⟩
  ·rintro ⟨r, _, ⟨us, vs, ds, h0, h1, h2, h3, rfl⟩, h4⟩
   exact ⟨us, vs, ds, r, h0, h1, h2, h3, h4⟩
 ·rename_i x l oth
  constructor
  ·rintro ⟨f, cap, vs, r, s, h0, h1, h2, h3, h4⟩
   exact ⟨r, s, ⟨f, cap, vs, h0, h1, h2, h3⟩, h4⟩
  ·rintro ⟨r, s, ⟨f, cap, vs, h0, h1, h2, h3⟩, h4⟩
   exact ⟨f, cap, vs, r, s, h0, h1, h2, h3, h4⟩
theorem wpOp_act {o : MOper} (h : o.op.cl ≤ 6) (K : Sl → Sto → Prop) : WpOp P o S σ K ↔ ∃ v σ', Act1 P o S σ v σ' ∧ K (S.putd o.dst v) σ' := by
 unfold WpOp Act1
 cases hg : o.guard with
 | none => exact step_fn h _
 | some db =>
   obtain ⟨d, b⟩ := db
   have none : ∀ (K : Sl → Sto → Prop), (False ↔ ∃ v σ', (False : Prop) ∧ K (S.putd o.dst v) σ') := fun K => ⟨fun h => h.elim, fun ⟨_, _, h, _⟩ => h.elim⟩
   simp only []
   generalize S d = u0
   cases u0 with
   | none => exact none K
   | some u =>
     cases u <;> (try exact none K)
     ·rename_i t
      by_cases e : t = b
      ·subst e
       simp only [true_implies, ne_eq, not_true_eq_false, false_implies, and_true]
       exact step_fn h _
      ·simp only [e, false_implies, ne_eq, not_false_eq_true, true_implies, true_and]
       constructor
       ·intro h; exact ⟨_, _, ⟨rfl, rfl⟩, h⟩
       ·rintro ⟨_, _, ⟨rfl, rfl⟩, h⟩; exact h
     ·rename_i l
      cases l with
      | nil =>
        simp only []
        constructor
        ·intro h; exact ⟨_, _, ⟨rfl, rfl⟩, h⟩
        ·rintro ⟨_, _, ⟨rfl, rfl⟩, h⟩; exact h
      | cons => exact none K
theorem CallX.mono {f : Nat} {vs : List V} {Q Q' : V → Sto → Prop} (h : CallX P f vs σ Q) (hq : ∀ r σ', Q r σ' → Q' r σ') : CallX P f vs σ Q' :=
 ⟨h.1, fun w0 base I0 I β w cs hI ha => (h.2 w0 base I0 I β w cs hI ha).mono fun e w' ⟨rv, I', β', r, σ', h1, h2, h3, h4, h5⟩ => ⟨rv, I', β', r, σ', h1, h2, h3, h4, hq _ _ h5⟩⟩
theorem step_mono {m : MOp} {K K' : V → Sto → Prop} (h : Step P m S σ K) (hk : ∀ v σ', K v σ' → K' v σ') : Step P m S σ K' := by
 cases m <;> simp only [Step] at h ⊢ <;> first
  | (obtain ⟨v, σ', h1, h2⟩ := h; exact ⟨v, σ', h1, hk _ _ h2⟩)
  | (obtain ⟨vs, h1, h2⟩ := h; exact ⟨vs, h1, h2.mono hk⟩)
  | (obtain ⟨vs, ds, r, h1, h2, h3, h4⟩ := h; exact ⟨vs, ds, r, h1, h2, h3, hk _ _ h4⟩)
  | (obtain ⟨f, cap, vs, h1, h2, h3⟩ := h; exact ⟨f, cap, vs, h1, h2, h3.mono hk⟩)
  | (obtain ⟨vs, r, s, h1, h2, h3⟩ := h; exact ⟨vs, r, s, h1, h2, hk _ _ h3⟩)
  | (obtain ⟨f, cap, vs, r, s, h1, h2, h3, h4⟩ := h; exact ⟨f, cap, vs, r, s, h1, h2, h3, hk _ _ h4⟩)
  | (obtain ⟨f, cap, vs, r, s, h1, h2, h3, h4, h5⟩ := h; exact ⟨f, cap, vs, r, s, h1, h2, h3, h4, hk _ _ h5⟩)
  | (obtain ⟨us, vs, ds, r, h1, h2, h3, h4, h5⟩ := h; exact ⟨us, vs, ds, r, h1, h2, h3, h4, hk _ _ h5⟩)
theorem wpOp_mono' {o : MOper} {K K' : Sl → Sto → Prop} (h : WpOp P o S σ K) (hk : ∀ S' σ', K S' σ' → K' S' σ') : WpOp P o S σ K' := by
 unfold WpOp at h ⊢
 cases hg : o.guard with
 | none => rw [hg] at h; exact step_mono h (fun _ _ => hk _ _)
 | some db =>
   obtain ⟨d, b⟩ := db
   simp only [hg] at h ⊢
   split at h
   ·exact ⟨fun e => step_mono (h.1 e) (fun _ _ => hk _ _), fun e => hk _ _ (h.2 e)⟩
   ·exact hk _ _ h
   ·exact h.elim
theorem ev_congr {S' : Sl} {x : Opd} (h : ∀ j ∈ x.slots, S j = S' j) : ev S x = ev S' x := by
 cases x with
 | t n => exact h n (by simp [Opd.slots])
 | c v => rfl
theorem evs_congr {S' : Sl} : ∀ {l : List Opd}, (∀ x ∈ l, ev S x = ev S' x) → evs S l = evs S' l
 | [], _ => rfl
 | x :: l, h => by simp only [evs, h x (by simp), evs_congr (l := l) fun y hy => h y (by simp [hy])]
theorem fillV_congr {S' : Sl} : ∀ {l : List (Nat × Nat × Opd)} {z : List V}, (∀ x ∈ l, ev S x.2.2 = ev S' x.2.2) → fillV S z l = fillV S' z l
 | [], _, _ => rfl
 | (i, q, x) :: l, z, h => by
   have ih := fun z => fillV_congr (l := l) (z := z) fun y hy => h y (by simp [hy])
   have h0 : ev S x = ev S' x := h (i, q, x) (by simp)
   simp only [fillV, h0, ih]
theorem fillS_congr {S' : Sl} {es : Nat} : ∀ {l : List (Nat × Opd)} {z : List (List V)}, (∀ x ∈ l, ev S x.2 = ev S' x.2) → fillS S es z l = fillS S' es z l
 | [], _, _ => rfl
 | (i, x) :: l, z, h => by
   have ih := fun z => fillS_congr (l := l) (z := z) (es := es) fun y hy => h y (by simp [hy])
   have h0 : ev S x = ev S' x := h (i, x) (by simp)
   simp only [fillS, h0, ih]
theorem evOp_congr {S' : Sl} {m : MOp} (h : ∀ x ∈ m.opds, ev S x = ev S' x) : evOp S σ m = evOp S' σ m := by
 have hb : ∀ (o : Option Opd) (y : Nat), (∀ x ∈ o.toList, ev S x = ev S' x) → boundHi S y o = boundHi S' y o ∧ boundLo S y o = boundLo S' y o := by
  intro o y ho
  cases o with
  | none => exact ⟨rfl, rfl⟩
  | some x => simp [boundHi, boundLo, bound, ho x (by simp)]
 cases m <;> simp only [MOp.opds, List.mem_cons, List.mem_append, List.not_mem_nil, or_false, forall_eq_or_imp, forall_eq] at h <;> simp only [evOp] <;> first
  | rfl
  | (rw [h]; done)
  | (rw [h.1, h.2]; done)
  | (rw [h.1, h.2.1, h.2.2]; done)
  | (rw [evs_congr h]; done)
  | skip
 case stA n a x oth =>
  rw [h.1, h.2.1]
  have e : ∀ o, offs S oth o = offs S' oth o := by
   intro o
   have hs : ∀ s ∈ oth, S s = S' s := fun s hs => h.2.2 (.t s) (List.mem_map_of_mem (f := Opd.t) hs)
   rw [Bool.eq_iff_iff]
   simp only [offs, List.all_eq_true]
   constructor <;> intro hh s hm
   ·rw [← hs s hm]; exact hh s hm
   ·rw [hs s hm]; exact hh s hm
  simp only [e]
 case appA es bytes s x oth =>
  rw [h.1, h.2.1]
  have e : ∀ o, offs S oth o = offs S' oth o := by
   intro o
   have hs : ∀ s ∈ oth, S s = S' s := fun s hs => h.2.2 (.t s) (List.mem_map_of_mem (f := Opd.t) hs)
   rw [Bool.eq_iff_iff]
   simp only [offs, List.all_eq_true]
   constructor <;> intro hh s hm
   ·rw [← hs s hm]; exact hh s hm
   ·rw [hs s hm]; exact hh s hm
  have e2 : ∀ v, offA S oth v = offA S' oth v := fun v => by cases v <;> simp only [offA, e]
  simp only [e2]
 case build z ps => rw [fillV_congr fun x hx => h x.2.2 (List.mem_map_of_mem (f := fun p : Nat × Nat × Opd => p.2.2) hx)]
 case buildSl es len z ps => rw [fillS_congr fun x hx => h x.2 (List.mem_map_of_mem (f := fun p : Nat × Opd => p.2) hx)]
 case buildSlN q es len z ps => rw [fillS_congr fun x hx => h x.2 (List.mem_map_of_mem (f := fun p : Nat × Opd => p.2) hx)]
 case slc es x lo hi mx =>
  have h1 := fun y => (hb lo y fun x hx => h.2 x (.inl (.inl hx))).2
  have h2 := fun y => (hb hi y fun x hx => h.2 x (.inl (.inr hx))).1
  rw [h.1]
  cases mx with
  | none => simp only [h1, h2]
  | some m => simp only []; rw [h.2 m (by simp)]
 case slcS x lo hi =>
  have h1 := fun y => (hb lo y fun x hx => h.2 x (.inl hx)).2
  have h2 := fun y => (hb hi y fun x hx => h.2 x (.inr hx)).1
  rw [h.1]
  simp only [h1, h2]
theorem act_congr {S' : Sl} {o : MOper} (h : ∀ j ∈ o.reads, S j = S' j) {σ' : Sto} (ha : Act1 P o S σ v σ') : Act1 P o S' σ v σ' := by
 have ho : ∀ x ∈ o.op.opds, ev S x = ev S' x := fun x hx => ev_congr fun j hj => h j (by
  unfold MOper.reads; rw [List.mem_append, List.mem_flatMap]; exact .inl ⟨x, hx, hj⟩)
 have hF : Fn1 P o.op S σ v σ' → Fn1 P o.op S' σ v σ' := by
  intro hf
  have e := evOp_congr (σ := σ) ho
  cases hm : o.op <;> rw [hm] at hf ho e <;> simp only [Fn1] at hf ⊢ <;> first
   | (rw [← e]; exact hf)
   | exact hf.elim
   | skip
  ·obtain ⟨vs, ds, h1, h2⟩ := hf
   exact ⟨vs, ds, by rw [← h1]; exact (evs_congr fun x hx => ho x (by simpa [MOp.opds] using hx)).symm, h2⟩
  ·obtain ⟨vs, h1, h2⟩ := hf
   exact ⟨vs, by rw [← h1]; exact (evs_congr fun x hx => ho x (by simpa [MOp.opds] using hx)).symm, h2⟩
  ·obtain ⟨f, cap, vs, h0, h1, h2⟩ := hf
   exact ⟨f, cap, vs, by rw [← h0]; exact (ho _ (by simp [MOp.opds])).symm, by rw [← h1]; exact (evs_congr fun x hx => ho x (by simp [MOp.opds, hx])).symm, h2⟩
  ·obtain ⟨us, vs, ds, h1, h2⟩ := hf
   exact ⟨us, vs, ds, by rw [← h1]; exact (evs_congr fun x hx => ho x (by simpa [MOp.opds] using hx)).symm, h2⟩
  ·obtain ⟨f, cap, vs, h0, h1, h2, h3⟩ := hf
   refine ⟨f, cap, vs, by rw [← h0]; exact (ho _ (by simp [MOp.opds])).symm, by rw [← h1]; exact (evs_congr fun x hx => ho x (by simp [MOp.opds, hx])).symm, h2, fun s hs o i j e => h3 s hs o i j ?_⟩
   have := ho (.t s) (by simp [MOp.opds, hs])
   rw [show S s = S' s from this]; exact e
 unfold Act1 at ha ⊢
 cases hg : o.guard with
 | none => rw [hg] at ha; exact hF ha
 | some db =>
   obtain ⟨d, b⟩ := db
   have hd : S d = S' d := h d (by simp [MOper.reads, hg])
   simp only [hg] at ha ⊢
   rw [← hd]
   split at ha
   ·exact ⟨fun e => hF (ha.1 e), ha.2⟩
   ·exact ha
   ·exact ha.elim
theorem frz_nil : ∀ σ : Sto, frz σ [] = σ
 | [] => rfl
 | (k, x) :: r => by
   have := frz_nil r
   simp [frz] at this ⊢
theorem frz_comm (l m : List Nat) : ∀ σ : Sto, frz (frz σ l) m = frz (frz σ m) l
 | [] => rfl
 | (k, x) :: r => by
   have := frz_comm l m r
   simp only [frz, List.map_cons, List.cons.injEq] at this ⊢
   refine ⟨?_, this⟩
   cases h1 : l.contains k <;> cases h2 : m.contains k <;> cases h3 : x.st <;> simp_all
theorem getOb_frz (l : List Nat) (o : Nat) : getOb (frz σ l) o = (getOb σ o).map fun x => if l.contains o && x.st == .own then { x with st := .fro } else x := by
 unfold getOb
 rw [look_frz]
 cases h : look σ o with
 | none => rfl
 | some x =>
   simp only [Option.map_some]
   by_cases hd : x.st = .dead
   ·simp [hd]
   ·rw [if_neg hd]
    by_cases hc : (l.contains o && x.st == .own) = true
    ·rw [if_pos hc, if_neg (by simp), Option.map_some, if_pos hc]
    ·rw [if_neg hc, if_neg hd, Option.map_some, if_neg hc]
theorem toD_frz (l : List Nat) : ∀ (n : Nat) (v : V), toD (frz σ l) n v = toD σ n v
 | 0, v => rfl
 | n + 1, v => by
   have e : toD (frz σ l) n = toD σ n := funext fun v => toD_frz l n v
   cases v <;> simp only [toD, e]
   rename_i o off len
   rw [getOb_frz]
   cases getOb σ o with
   | none => rfl
   | some x => simp only [Option.map_some]; split <;> rfl
theorem rch_frz (l : List Nat) : ∀ (n : Nat) (v : V), rch (frz σ l) n v = rch σ n v
 | 0, v => rfl
 | n + 1, v => by
   have e : rch (frz σ l) n = rch σ n := funext fun v => rch_frz l n v
   cases v <;> simp only [rch, e]
   rename_i o off len
   rw [getOb_frz]
   cases getOb σ o with
   | none => rfl
   | some x => simp only [Option.map_some]; split <;> rfl
theorem toDs_frz (l : List Nat) : ∀ (vs : List V), toDs (frz σ l) vs = toDs σ vs
 | [] => rfl
 | v :: vs => by simp only [toDs, toD_frz, toDs_frz l vs]
theorem rchs_frz (l : List Nat) (vs : List V) : rchs (frz σ l) vs = rchs σ vs := by
 unfold rchs
 congr 1
 exact funext fun v => rch_frz l deep v
theorem toP_frz (l : List Nat) : ∀ (n : Nat) (v : V), toP (frz σ l) n v = toP σ n v
 | 0, v => rfl
 | n + 1, v => by
   have e : toP (frz σ l) n = toP σ n := funext fun v => toP_frz l n v
   cases v <;> simp only [toP, e]
   ·rename_i o off len
    rw [getOb_frz]
    cases getOb σ o with
    | none => rfl
    | some x => simp only [Option.map_some]; split <;> rfl
   ·rename_i o i j
    rw [getOb_frz]
    cases getOb σ o with
    | none => rfl
    | some x =>
      simp only [Option.map_some]
      by_cases hc : (l.contains o && x.st == .own) = true
      ·rw [if_pos hc]
      ·rw [if_neg hc]
theorem rchP_frz (l : List Nat) : ∀ (n : Nat) (v : V), rchP (frz σ l) n v = rchP σ n v
 | 0, v => rfl
 | n + 1, v => by
   have e : rchP (frz σ l) n = rchP σ n := funext fun v => rchP_frz l n v
   cases v <;> simp only [rchP, e]
   ·rename_i o off len
    rw [getOb_frz]
    cases getOb σ o with
    | none => rfl
    | some x => simp only [Option.map_some]; split <;> rfl
   ·rename_i o i j
    rw [getOb_frz]
    cases getOb σ o with
    | none => rfl
    | some x =>
      simp only [Option.map_some]
      by_cases hc : (l.contains o && x.st == .own) = true
      ·rw [if_pos hc]
      ·rw [if_neg hc]
theorem toPs_frz (l : List Nat) : ∀ (vs : List V), toPs (frz σ l) vs = toPs σ vs
 | [] => rfl
 | v :: vs => by simp only [toPs, toP_frz, toPs_frz l vs]
theorem rchPs_frz (l : List Nat) (vs : List V) : rchPs (frz σ l) vs = rchPs σ vs := by
 unfold rchPs
 congr 1
 exact funext fun v => rchP_frz l deep v
theorem fn_pure {m : MOp} (h : m.cl = 0) {σ' : Sto} (hf : Fn1 P m S σ v σ') : σ' = σ ∧ ∀ σ2, Fn1 P m S σ2 v σ2 := by
 cases m <;> (try (simp [MOp.cl] at h; done)) <;> simp only [Fn1, evOp] at hf ⊢
 all_goals
  (repeat' split at hf) <;> first
    | (simp at hf; done)
    | (obtain ⟨u, hu, e⟩ := opt_map_some hf; injection e with e1 e2; subst e1; subst e2; exact ⟨rfl, fun σ2 => by simp_all⟩)
    | (injection hf with hf; injection hf with e1 e2; subst e1; subst e2; exact ⟨rfl, fun σ2 => by first | (simp_all; done) | (simp [*]; done)⟩)
theorem ldV_frz (q : List Nat) (k : Option Nat) (u : V) : ldV (frz σ q) k u = (ldV σ k u).map fun p => (p.1, frz σ q) := by
 cases u <;> simp only [ldV, getOb_frz, Option.map_none]
 ·rename_i o i j
  cases hg : getOb σ o with
  | none => rfl
  | some x =>
    have e : ∀ y : Ob, (if (q.contains o && y.st == St.own) = true then ({ y with st := .fro } : Ob) else y).cells = y.cells := fun y => by split <;> rfl
    simp only [Option.map_some, e]
    split
    ·rw [Option.map_map]; rfl
    ·rfl
 ·rw [Option.map_map]; rfl
theorem ldV_same {k : Option Nat} {u : V} {σ' : Sto} (h : ldV σ k u = some (v, σ')) : σ' = σ := by
 cases u <;> simp only [ldV] at h <;> (repeat' split at h) <;> first
  | (simp at h; done)
  | (obtain ⟨_, _, e⟩ := opt_map_some h; injection e with _ e; exact e.symm)
theorem elems_frz (q : List Nat) (es : Nat) (v : V) : elems (frz σ q) es v = elems σ es v := by
 cases v <;> simp only [elems]
 rename_i o off len
 rw [getOb_frz]
 cases getOb σ o with
 | none => rfl
 | some x =>
   simp only [Option.map_some]
   by_cases hc : (q.contains o && x.st == .own) = true
   ·rw [if_pos hc]
   ·rw [if_neg hc]
theorem ev_frz {m : MOp} (h : m.cl = 1) (q : List Nat) : evOp S (frz σ q) m = (evOp S σ m).map fun p => (p.1, frz σ q) := by
 cases m <;> (try (simp [MOp.cl] at h; done))
 case ld k x =>
  simp only [evOp]
  cases ev S x with
  | none => rfl
  | some u => exact ldV_frz q k u
 case slc es x lo hi mx =>
  simp only [evOp]
  cases mx with
  | some m => simp only []; split <;> simp
  | none =>
    simp only []
    cases ev S x with
    | none => rfl
    | some u =>
      cases u <;> simp only [Option.map_none]
      ·split
       ·rw [Option.map_map]; rfl
       ·rfl
      ·split
       ·rename_i hh hhe
        cases boundLo S hh lo with
        | none => rfl
        | some l2 => simp only [Option.bind_some]; split <;> simp
       ·rfl
      ·rename_i o off len
       split
       ·rename_i hh hhe
        cases boundLo S hh lo with
        | none => rfl
        | some l2 =>
          simp only [Option.bind_some, look_frz]
          cases look σ o with
          | none => rfl
          | some ob =>
            have e : (if (q.contains o && ob.st == St.own) = true then ({ ob with st := .fro } : Ob) else ob).es = ob.es := by split <;> rfl
            simp only [Option.map_some, e]
            split <;> simp
       ·rfl
 case ixA es x i =>
  simp only [evOp]
  split
  ·split
   ·split
    ·split <;> simp
    ·rfl
   ·rfl
  ·rename_i o off len k n h1 h2
   split
   ·simp only [look_frz]
    cases look σ o with
    | none => rfl
    | some ob =>
      have e : (if (q.contains o && ob.st == St.own) = true then ({ ob with st := .fro } : Ob) else ob).es = ob.es := by split <;> rfl
      simp only [Option.map_some, e]
      split <;> simp
   ·rfl
  ·rfl
 case strB x =>
  simp only [evOp]
  cases ev S x with
  | none => rfl
  | some u =>
    simp only [elems_frz]
    split
    ·rw [Option.map_map]; rfl
    ·rfl
theorem ev_same {m : MOp} (h : m.cl = 1) {σ' : Sto} (hf : evOp S σ m = some (v, σ')) : σ' = σ := by
 cases m <;> (try (simp [MOp.cl] at h; done)) <;> simp only [evOp] at hf
 case ld k x =>
  split at hf
  ·exact ldV_same hf
  ·simp at hf
 case slc es x lo hi mx =>
  cases mx with
  | some m =>
    simp only [] at hf
    split at hf <;> first
     | (simp at hf; done)
     | (injection hf with hf; injection hf with e1 e2; exact e2.symm)
  | none =>
    simp only [] at hf
    cases hx : ev S x with
    | none => simp [hx] at hf
    | some u =>
      simp only [hx] at hf
      cases u <;> simp only [] at hf <;> (try (simp at hf; done))
      ·split at hf
       ·obtain ⟨_, _, e⟩ := opt_map_some hf
        injection e with _ e; exact e.symm
       ·simp at hf
      ·split at hf
       ·rename_i hh hhe
        cases hl : boundLo S hh lo with
        | none => simp [hl] at hf
        | some l2 =>
          simp only [hl, Option.bind_some] at hf
          split at hf
          ·injection hf with hf; injection hf with e1 e2; exact e2.symm
          ·simp at hf
       ·simp at hf
      ·split at hf
       ·rename_i hh hhe
        cases hl : boundLo S hh lo with
        | none => simp [hl] at hf
        | some l2 =>
          simp only [hl, Option.bind_some] at hf
          (repeat' split at hf) <;> first
            | (simp at hf; done)
            | (injection hf with hf; injection hf with e1 e2; exact e2.symm)
       ·simp at hf
 case ixA es x i =>
  (repeat' split at hf) <;> first
    | (simp at hf; done)
    | (injection hf with hf; injection hf with e1 e2; exact e2.symm)
 case strB x =>
  split at hf
  ·split at hf
   ·obtain ⟨_, _, e⟩ := opt_map_some hf
    injection e with _ e; exact e.symm
   ·simp at hf
  ·simp at hf
theorem fn_ev {m : MOp} (h : m.cl = 1) {σ' : Sto} : Fn1 P m S σ v σ' = (evOp S σ m = some (v, σ')) := by
 cases m <;> first
  | (simp [MOp.cl] at h; done)
  | rfl
theorem fn_read {m : MOp} (h : m.cl ≤ 2) {σ' : Sto} (hf : Fn1 P m S σ v σ') : ∃ l, σ' = frz σ l ∧ ∀ q, Fn1 P m S (frz σ q) v (frz (frz σ q) l) := by
 rcases (show m.cl = 0 ∨ m.cl = 1 ∨ m.cl = 2 by omega) with h0 | h0 | h0
 ·obtain ⟨rfl, h2⟩ := fn_pure h0 hf
  exact ⟨[], (frz_nil _).symm, fun q => by rw [frz_nil]; exact h2 _⟩
 ·rw [fn_ev h0] at hf
  have := ev_same h0 hf
  subst this
  exact ⟨[], (frz_nil _).symm, fun q => by rw [fn_ev h0, ev_frz h0, hf, frz_nil]; rfl⟩
 ·cases m <;> (try (simp [MOp.cl] at h0; done))
  ·rename_i f l
   obtain ⟨vs, ds, h1, h2, h3, rfl⟩ := hf
   by_cases hs : v.scalar = true
   ·refine ⟨[], by rw [frz_nil]; simp [behind, hs], fun q => ⟨vs, ds, h1, by rw [toDs_frz]; exact h2, h3, by rw [frz_nil]; simp [behind, hs]⟩⟩
   ·refine ⟨rchs σ vs, by simp [behind, hs], fun q => ⟨vs, ds, h1, by rw [toDs_frz]; exact h2, h3, by simp [behind, hs, rchs_frz]⟩⟩
  ·rename_i k l
   obtain ⟨us, vs, ds, h0, h1, h2, h3, rfl⟩ := hf
   by_cases hs : v.scalar = true
   ·refine ⟨[], by rw [frz_nil]; simp [behindP, hs], fun q => ⟨us, vs, ds, h0, h1, by rw [toPs_frz]; exact h2, h3, by rw [frz_nil]; simp [behindP, hs]⟩⟩
   ·refine ⟨rchPs σ vs, by simp [behindP, hs], fun q => ⟨us, vs, ds, h0, h1, by rw [toPs_frz]; exact h2, h3, by simp [behindP, hs, rchPs_frz]⟩⟩
theorem fn_read_back {m : MOp} (h : m.cl ≤ 2) {σ' : Sto} {q : List Nat} (hf : Fn1 P m S (frz σ q) v σ') : ∃ l, σ' = frz (frz σ q) l ∧ Fn1 P m S σ v (frz σ l) := by
 rcases (show m.cl = 0 ∨ m.cl = 1 ∨ m.cl = 2 by omega) with h0 | h0 | h0
 ·obtain ⟨rfl, h2⟩ := fn_pure h0 hf
  exact ⟨[], (frz_nil _).symm, by rw [frz_nil]; exact h2 _⟩
 ·rw [fn_ev h0] at hf
  have := ev_same h0 hf
  subst this
  refine ⟨[], (frz_nil _).symm, ?_⟩
  rw [fn_ev h0, frz_nil]
  rw [ev_frz h0] at hf
  obtain ⟨⟨v', σ1⟩, h1, h2⟩ := opt_map_some hf
  injection h2 with h2 _
  subst h2
  have := ev_same h0 h1
  rw [h1, this]
 ·cases m <;> (try (simp [MOp.cl] at h0; done))
  ·rename_i f l
   obtain ⟨vs, ds, h1, h2, h3, rfl⟩ := hf
   rw [toDs_frz] at h2
   by_cases hs : v.scalar = true
   ·exact ⟨[], by rw [frz_nil]; simp [behind, hs], ⟨vs, ds, h1, h2, h3, by rw [frz_nil]; simp [behind, hs]⟩⟩
   ·exact ⟨rchs σ vs, by simp [behind, hs, rchs_frz], ⟨vs, ds, h1, h2, h3, by simp [behind, hs]⟩⟩
  ·rename_i k l
   obtain ⟨us, vs, ds, h0, h1, h2, h3, rfl⟩ := hf
   rw [toPs_frz] at h2
   by_cases hs : v.scalar = true
   ·exact ⟨[], by rw [frz_nil]; simp [behindP, hs], ⟨us, vs, ds, h0, h1, h2, h3, by rw [frz_nil]; simp [behindP, hs]⟩⟩
   ·exact ⟨rchPs σ vs, by simp [behindP, hs, rchPs_frz], ⟨us, vs, ds, h0, h1, h2, h3, by simp [behindP, hs]⟩⟩
theorem ev_alloc {m : MOp} (h : m.cl = 5) {σ' : Sto} (hf : evOp S σ m = some (v, σ')) : ∃ (mk : Nat → V) (ob : Ob), v = mk (fresh σ) ∧ σ' = setOb σ (fresh σ) ob ∧ ∀ σ2, evOp S σ2 m = some (mk (fresh σ2), setOb σ2 (fresh σ2) ob) := by
 cases m <;> (try (simp [MOp.cl] at h; done)) <;> simp only [evOp] at hf ⊢
 ·split at hf
  ·simp at hf
  ·rename_i u ht hu
   injection hf with hf; injection hf with e1 e2; subst e1; subst e2
   refine ⟨fun f => .ptr f 0 0, ⟨.own, u.cells.length, [u.cells]⟩, rfl, rfl, fun σ2 => ?_⟩
   rfl
  ·simp at hf
 ·rename_i z
  injection hf with hf; injection hf with e1 e2; subst e1; subst e2
  exact ⟨fun f => .ptr f 0 0, ⟨.own, z.length, [z]⟩, rfl, rfl, fun σ2 => rfl⟩
 ·rename_i es len z ps
  obtain ⟨l, hl, e⟩ := opt_map_some hf
  injection e with e1 e2; subst e1; subst e2
  exact ⟨fun f => .ref f 0 len, ⟨.own, es, l⟩, rfl, rfl, fun σ2 => by rw [hl]; rfl⟩
 ·rename_i es bytes z x y
  split at hf
  ·rename_i k1 l k2 c h1 h2
   split at hf
   ·rename_i hc
    injection hf with hf; injection hf with e1 e2; subst e1; subst e2
    exact ⟨fun f => .ref f 0 l.toNat, ⟨.own, es, List.replicate l.toNat z⟩, rfl, rfl, fun σ2 => if_pos hc⟩
   ·simp at hf
  ·simp at hf
theorem fn_alloc {m : MOp} (h : m.cl = 5) {σ' : Sto} : Fn1 P m S σ v σ' = (evOp S σ m = some (v, σ')) := by
 cases m <;> first
  | (simp [MOp.cl] at h; done)
  | rfl
theorem fresh_frz (l : List Nat) : ∀ σ : Sto, fresh (frz σ l) = fresh σ
 | [] => rfl
 | (k, x) :: r => by
   have := fresh_frz l r
   simp only [frz, List.map_cons, fresh] at this ⊢
   rw [this]
theorem getOb_ne {o : Nat} {x : Ob} (h : getOb σ o = some x) : o ≠ fresh σ := by
 have := look_lt_fresh (getOb_some h).1
 omega
theorem getOb_set {o : Nat} (h : o ≠ fresh σ) (ob : Ob) : getOb (setOb σ (fresh σ) ob) o = getOb σ o := by
 simp only [getOb, look_setOb, if_neg h]
theorem mapO_congr {α : Type} {f g : α → Option α} : ∀ {l r : List α}, mapO f l = some r → (∀ x ∈ l, ∀ y, f x = some y → g x = some y) → mapO g l = some r
 | [], r, h, _ => h
 | a :: l, r, h, hg => by
   simp only [mapO] at h ⊢
   split at h
   ·rename_i x r' h1 h2
    rw [hg a (by simp) x h1, mapO_congr h2 fun y hy => hg y (by simp [hy])]
    exact h
   ·simp at h
theorem flatMap_congr' {α γ : Type} {f g : α → List γ} : ∀ {l : List α}, (∀ x ∈ l, f x = g x) → l.flatMap f = l.flatMap g
 | [], _ => rfl
 | a :: l, h => by rw [List.flatMap_cons, List.flatMap_cons, h a (by simp), flatMap_congr' fun x hx => h x (by simp [hx])]
theorem toD_set (ob : Ob) : ∀ (n : Nat) (v d : V), toD σ n v = some d → toD (setOb σ (fresh σ) ob) n v = some d ∧ rch (setOb σ (fresh σ) ob) n v = rch σ n v ∧ fresh σ ∉ rch σ n v
 | 0, v, d, h => by simp [toD] at h
 | n + 1, v, d, h => by
   have ihl : ∀ (l r : List V), mapO (toD σ n) l = some r → mapO (toD (setOb σ (fresh σ) ob) n) l = some r ∧ l.flatMap (rch (setOb σ (fresh σ) ob) n) = l.flatMap (rch σ n) ∧ fresh σ ∉ l.flatMap (rch σ n) := by
    intro l r hr
    obtain ⟨_, h2, _⟩ := mapO_get hr
    have each : ∀ x ∈ l, ∃ y, toD σ n x = some y := by
     intro x hx
     obtain ⟨i, hi, rfl⟩ := List.getElem_of_mem hx
     obtain ⟨y, hy, _⟩ := h2 i _ (List.getElem?_eq_getElem hi)
     exact ⟨y, hy⟩
    refine ⟨mapO_congr hr fun x _ y hy => (toD_set ob n x y hy).1, ?_, ?_⟩
    ·apply flatMap_congr'
     intro x hx
     obtain ⟨y, hy⟩ := each x hx
     exact (toD_set ob n x y hy).2.1
    ·intro hm
     obtain ⟨x, hx, hxm⟩ := List.mem_flatMap.1 hm
     obtain ⟨y, hy⟩ := each x hx
     exact (toD_set ob n x y hy).2.2 hxm
   cases v <;> simp only [toD] at h <;> simp only [toD, rch] <;> first
    | (simp at h; done)
    | (exact ⟨h, by simp⟩)
    | (obtain ⟨q, hq, rfl⟩ := opt_map_some h
       obtain ⟨a1, a2, a3⟩ := ihl _ _ hq
       exact ⟨by rw [a1]; rfl, a2, a3⟩)
    | skip
   ·rename_i o off len
    split at h
    ·rename_i x hx
     have hne := getOb_ne hx
     rw [getOb_set hne, hx]
     simp only []
     split at h
     ·rename_i hc
      rw [if_pos hc]
      obtain ⟨q, hq, rfl⟩ := opt_map_some h
      obtain ⟨_, h2, _⟩ := mapO_get hq
      have each : ∀ r ∈ (x.cells.drop off).take len, ∃ y, mapO (toD σ n) r = some y := by
       intro r hr
       obtain ⟨i, hi, rfl⟩ := List.getElem_of_mem hr
       obtain ⟨y, hy, _⟩ := h2 i _ (List.getElem?_eq_getElem hi)
       exact ⟨y, hy⟩
      refine ⟨?_, ?_, ?_⟩
      ·rw [mapO_congr hq fun r _ y hy => (ihl r y hy).1]; rfl
      ·congr 1
       apply flatMap_congr'
       intro r hr
       obtain ⟨y, hy⟩ := each r hr
       exact (ihl r y hy).2.1
      ·simp only [List.mem_cons, not_or]
       refine ⟨Ne.symm hne, fun hm => ?_⟩
       obtain ⟨r, hr, hrm⟩ := List.mem_flatMap.1 hm
       obtain ⟨y, hy⟩ := each r hr
       exact (ihl r y hy).2.2 hrm
     ·simp at h
    ·simp at h
   ·obtain ⟨q, hq, rfl⟩ := opt_map_some h
    obtain ⟨a1, a2, a3⟩ := toD_set ob n _ _ hq
    exact ⟨by rw [a1]; rfl, a2, a3⟩
theorem toDs_cons {u d : V} {vs ds : List V} (h1 : toD σ deep u = some d) (h2 : toDs σ vs = some ds) : toDs σ (u :: vs) = some (d :: ds) := by
 unfold toDs; rw [h1, h2]
theorem rchs_cons (u : V) (vs : List V) : rchs σ (u :: vs) = rch σ deep u ++ rchs σ vs := by
 unfold rchs; rw [List.flatMap_cons]
theorem toDs_nil (σ : Sto) : toDs σ [] = some [] := by simp only [toDs]
theorem rchs_nil (σ : Sto) : rchs σ [] = [] := by simp only [rchs, List.flatMap_nil]
theorem toDs_inv {u : V} {vs ds : List V} (h : toDs σ (u :: vs) = some ds) : ∃ d l, toD σ deep u = some d ∧ toDs σ vs = some l ∧ ds = d :: l := by
 simp only [toDs] at h
 split at h
 ·rename_i d l h1 h2
  injection h with h
  exact ⟨d, l, h1, h2, h.symm⟩
 ·simp at h
theorem toDs_set (ob : Ob) (vs : List V) : ∀ ds : List V, toDs σ vs = some ds → toDs (setOb σ (fresh σ) ob) vs = some ds ∧ rchs (setOb σ (fresh σ) ob) vs = rchs σ vs ∧ fresh σ ∉ rchs σ vs := by
 induction vs with
 | nil =>
   intro ds h
   rw [toDs_nil] at h
   rw [toDs_nil, rchs_nil, rchs_nil]
   exact ⟨h, rfl, List.not_mem_nil⟩
 | cons v vs ih =>
   intro ds h
   obtain ⟨d, l, h1, h2, h⟩ := toDs_inv h
   obtain ⟨a1, a2, a3⟩ := toD_set ob deep v d h1
   obtain ⟨b1, b2, b3⟩ := ih l h2
   rw [rchs_cons, rchs_cons, a2, b2, h]
   refine ⟨toDs_cons a1 b1, rfl, ?_⟩
   rw [List.mem_append]
   exact fun hm => hm.elim a3 b3
theorem toP_set (ob : Ob) : ∀ (n : Nat) (v d : V), toP σ n v = some d → toP (setOb σ (fresh σ) ob) n v = some d ∧ rchP (setOb σ (fresh σ) ob) n v = rchP σ n v ∧ fresh σ ∉ rchP σ n v
 | 0, v, d, h => by simp [toP] at h
 | n + 1, v, d, h => by
   have ihl : ∀ (l r : List V), mapO (toP σ n) l = some r → mapO (toP (setOb σ (fresh σ) ob) n) l = some r ∧ l.flatMap (rchP (setOb σ (fresh σ) ob) n) = l.flatMap (rchP σ n) ∧ fresh σ ∉ l.flatMap (rchP σ n) := by
    intro l r hr
    obtain ⟨_, h2, _⟩ := mapO_get hr
    have each : ∀ x ∈ l, ∃ y, toP σ n x = some y := by
     intro x hx
     obtain ⟨i, hi, rfl⟩ := List.getElem_of_mem hx
     obtain ⟨y, hy, _⟩ := h2 i _ (List.getElem?_eq_getElem hi)
     exact ⟨y, hy⟩
    refine ⟨mapO_congr hr fun x _ y hy => (toP_set ob n x y hy).1, ?_, ?_⟩
    ·apply flatMap_congr'
     intro x hx
     obtain ⟨y, hy⟩ := each x hx
     exact (toP_set ob n x y hy).2.1
    ·intro hm
     obtain ⟨x, hx, hxm⟩ := List.mem_flatMap.1 hm
     obtain ⟨y, hy⟩ := each x hx
     exact (toP_set ob n x y hy).2.2 hxm
   cases v <;> simp only [toP] at h <;> simp only [toP, rchP] <;> first
    | (simp at h; done)
    | (exact ⟨h, by simp⟩)
    | (obtain ⟨q, hq, rfl⟩ := opt_map_some h
       obtain ⟨a1, a2, a3⟩ := ihl _ _ hq
       exact ⟨by rw [a1]; rfl, a2, a3⟩)
    | skip
   ·rename_i o off len
    split at h
    ·rename_i x hx
     have hne := getOb_ne hx
     rw [getOb_set hne, hx]
     simp only []
     split at h
     ·rename_i hc
      rw [if_pos hc]
      obtain ⟨q, hq, rfl⟩ := opt_map_some h
      obtain ⟨_, h2, _⟩ := mapO_get hq
      have each : ∀ r ∈ (x.cells.drop off).take len, ∃ y, mapO (toP σ n) r = some y := by
       intro r hr
       obtain ⟨i, hi, rfl⟩ := List.getElem_of_mem hr
       obtain ⟨y, hy, _⟩ := h2 i _ (List.getElem?_eq_getElem hi)
       exact ⟨y, hy⟩
      refine ⟨?_, ?_, ?_⟩
      ·rw [mapO_congr hq fun r _ y hy => (ihl r y hy).1]; rfl
      ·congr 1
       apply flatMap_congr'
       intro r hr
       obtain ⟨y, hy⟩ := each r hr
       exact (ihl r y hy).2.1
      ·simp only [List.mem_cons, not_or]
       refine ⟨Ne.symm hne, fun hm => ?_⟩
       obtain ⟨r, hr, hrm⟩ := List.mem_flatMap.1 hm
       obtain ⟨y, hy⟩ := each r hr
       exact (ihl r y hy).2.2 hrm
     ·simp at h
    ·simp at h
   ·rename_i o i j
    split at h
    ·rename_i x hx
     have hne := getOb_ne hx
     rw [getOb_set hne, hx]
     simp only []
     split at h
     ·rename_i r hr
      split at h
      ·rename_i hj
       rw [if_pos hj]
       obtain ⟨q, hq, rfl⟩ := opt_map_some h
       obtain ⟨a1, a2, a3⟩ := ihl _ _ hq
       refine ⟨by rw [a1]; rfl, by rw [a2], ?_⟩
       simp only [List.mem_cons, not_or]
       exact ⟨Ne.symm hne, a3⟩
      ·simp at h
     ·simp at h
    ·simp at h
   ·obtain ⟨q, hq, rfl⟩ := opt_map_some h
    obtain ⟨a1, a2, a3⟩ := toP_set ob n _ _ hq
    exact ⟨by rw [a1]; rfl, a2, a3⟩
theorem toPs_cons {u d : V} {vs ds : List V} (h1 : toP σ deep u = some d) (h2 : toPs σ vs = some ds) : toPs σ (u :: vs) = some (d :: ds) := by
 unfold toPs; rw [h1, h2]
theorem rchPs_cons (u : V) (vs : List V) : rchPs σ (u :: vs) = rchP σ deep u ++ rchPs σ vs := by
 unfold rchPs; rw [List.flatMap_cons]
theorem toPs_nil (σ : Sto) : toPs σ [] = some [] := by simp only [toPs]
theorem rchPs_nil (σ : Sto) : rchPs σ [] = [] := by simp only [rchPs, List.flatMap_nil]
theorem toPs_inv {u : V} {vs ds : List V} (h : toPs σ (u :: vs) = some ds) : ∃ d l, toP σ deep u = some d ∧ toPs σ vs = some l ∧ ds = d :: l := by
 simp only [toPs] at h
 split at h
 ·rename_i d l h1 h2
  injection h with h
  exact ⟨d, l, h1, h2, h.symm⟩
 ·simp at h
theorem toPs_set (ob : Ob) (vs : List V) : ∀ ds : List V, toPs σ vs = some ds → toPs (setOb σ (fresh σ) ob) vs = some ds ∧ rchPs (setOb σ (fresh σ) ob) vs = rchPs σ vs ∧ fresh σ ∉ rchPs σ vs := by
 induction vs with
 | nil =>
   intro ds h
   rw [toPs_nil] at h
   rw [toPs_nil, rchPs_nil, rchPs_nil]
   exact ⟨h, rfl, List.not_mem_nil⟩
 | cons v vs ih =>
   intro ds h
   obtain ⟨d, l, h1, h2, h⟩ := toPs_inv h
   obtain ⟨a1, a2, a3⟩ := toP_set ob deep v d h1
   obtain ⟨b1, b2, b3⟩ := ih l h2
   rw [rchPs_cons, rchPs_cons, a2, b2, h]
   refine ⟨toPs_cons a1 b1, rfl, ?_⟩
   rw [List.mem_append]
   exact fun hm => hm.elim a3 b3
theorem frz_set (l : List Nat) (o : Nat) (ob : Ob) (h : o ∉ l) (σ : Sto) : frz (setOb σ o ob) l = setOb (frz σ l) o ob := by
 have hc : l.contains o = false := by simpa using h
 simp only [setOb, frz, List.map_cons, hc, Bool.false_and, Bool.false_eq_true, if_false]
 congr 1
 induction σ with
 | nil => rfl
 | cons a r ih =>
   obtain ⟨k, x⟩ := a
   simp only [List.filter_cons, List.map_cons]
   split <;> simp_all
theorem elems_set {es : Nat} {v : V} {xs : List (List V)} (ob : Ob) (h : elems σ es v = some xs) : elems (setOb σ (fresh σ) ob) es v = some xs := by
 cases v <;> simp only [elems] at h ⊢ <;> (try exact h)
 rename_i o off len
 cases hg : getOb σ o with
 | none => rw [hg] at h; simp at h
 | some x => rw [getOb_set (getOb_ne hg), hg]; rw [hg] at h; exact h
theorem fn_read_set {m : MOp} (h : m.cl ≤ 2) {σ' : Sto} (hf : Fn1 P m S σ v σ') (ob : Ob) : ∃ l, σ' = frz σ l ∧ fresh σ ∉ l ∧ Fn1 P m S (setOb σ (fresh σ) ob) v (frz (setOb σ (fresh σ) ob) l) := by
 rcases (show m.cl = 0 ∨ m.cl = 1 ∨ m.cl = 2 by omega) with h0 | h0 | h0
 ·obtain ⟨rfl, h2⟩ := fn_pure h0 hf
  exact ⟨[], (frz_nil _).symm, by simp, by rw [frz_nil]; exact h2 _⟩
 ·rw [fn_ev h0] at hf
  have := ev_same h0 hf
  subst this
  refine ⟨[], (frz_nil _).symm, by simp, ?_⟩
  rw [fn_ev h0, frz_nil]
  cases m <;> (try (simp [MOp.cl] at h0; done))
  case ld k x =>
   simp only [evOp] at hf ⊢
   split at hf
   ·rename_i u hu
    cases u <;> simp only [ldV] at hf ⊢ <;> (try (simp at hf; done))
    ·rename_i o i j
     cases hg : getOb σ' o with
     | none => simp [hg] at hf
     | some x =>
       rw [getOb_set (getOb_ne hg), hg]
       simp only [hg] at hf
       simp only []
       split at hf
       ·obtain ⟨u2, hu2, e2⟩ := opt_map_some hf
        injection e2 with e2 _; subst e2
        rw [hu2]; rfl
       ·simp at hf
    ·obtain ⟨u2, hu2, e2⟩ := opt_map_some hf
     injection e2 with e2 _; subst e2
     rw [hu2]; rfl
   ·simp at hf
  case strB x =>
   simp only [evOp] at hf ⊢
   split at hf
   ·split at hf
    ·rename_i rows hrows
     rw [elems_set ob hrows]
     obtain ⟨b, hb, e⟩ := opt_map_some hf
     injection e with e _; subst e
     simp only [hb]; rfl
    ·simp at hf
   ·simp at hf
  case slc es x lo hi mx =>
   simp only [evOp] at hf ⊢
   cases mx with
   | some m =>
     simp only [] at hf ⊢
     split at hf <;> first
      | (simp at hf; done)
      | (injection hf with hf; injection hf with e1 e2; subst e1; rfl)
   | none =>
     simp only [] at hf ⊢
     cases hx : ev S x with
     | none => simp [hx] at hf
     | some u =>
       simp only [hx] at hf ⊢
       cases u <;> simp only [] at hf ⊢ <;> (try (simp at hf; done))
       ·split at hf
        ·obtain ⟨_, h3, e⟩ := opt_map_some hf
         injection e with e1 e2; subst e1
         rw [h3]; rfl
        ·simp at hf
       ·split at hf
        ·rename_i hh hhe
         cases hl : boundLo S hh lo with
         | none => simp [hl] at hf
         | some l2 =>
           simp only [hl, Option.bind_some] at hf ⊢
           split at hf
           ·rename_i hall
            injection hf with hf; injection hf with e1 e2; subst e1
            rw [if_pos hall]
           ·simp at hf
        ·simp at hf
       ·rename_i o off len
        split at hf
        ·rename_i hh hhe
         cases hl : boundLo S hh lo with
         | none => simp [hl] at hf
         | some l2 =>
           simp only [hl, Option.bind_some] at hf ⊢
           split at hf
           ·rename_i ob2 hob
            split at hf
            ·rename_i hes
             injection hf with hf; injection hf with e1 e2; subst e1
             have hne : o ≠ fresh σ' := by have := look_lt_fresh hob; omega
             rw [look_setOb, if_neg hne, hob]
             simp only [if_pos hes]
            ·simp at hf
           ·simp at hf
        ·simp at hf
  case ixA es x i =>
   simp only [evOp] at hf ⊢
   split at hf
   ·(repeat' split at hf) <;> first
      | (simp at hf; done)
      | (injection hf with hf; injection hf with e1 e2; subst e1; simp_all)
   ·rename_i o off len k n h1 h2
    split at hf
    ·rename_i hc
     split at hf
     ·rename_i ob2 hob
      split at hf
      ·rename_i hes
       injection hf with hf; injection hf with e1 e2; subst e1
       have hne : o ≠ fresh σ' := by have := look_lt_fresh hob; omega
       rw [if_pos hc, look_setOb, if_neg hne, hob]
       simp only [if_pos hes]
      ·simp at hf
     ·simp at hf
    ·simp at hf
   ·simp at hf
 ·cases m <;> (try (simp [MOp.cl] at h0; done))
  ·rename_i f l
   obtain ⟨vs, ds, h1, h2, h3, rfl⟩ := hf
   obtain ⟨a1, a2, a3⟩ := toDs_set ob vs ds h2
   by_cases hs : v.scalar = true
   ·exact ⟨[], by rw [frz_nil]; simp [behind, hs], by simp, vs, ds, h1, a1, h3, by rw [frz_nil]; simp [behind, hs]⟩
   ·exact ⟨rchs σ vs, by simp [behind, hs], a3, vs, ds, h1, a1, h3, by simp [behind, hs, a2]⟩
  ·rename_i k l
   obtain ⟨us, vs, ds, h0, h1, h2, h3, rfl⟩ := hf
   obtain ⟨a1, a2, a3⟩ := toPs_set ob vs ds h2
   by_cases hs : v.scalar = true
   ·exact ⟨[], by rw [frz_nil]; simp [behindP, hs], by simp, us, vs, ds, h0, h1, a1, h3, by rw [frz_nil]; simp [behindP, hs]⟩
   ·exact ⟨rchPs σ vs, by simp [behindP, hs], a3, us, vs, ds, h0, h1, a1, h3, by simp [behindP, hs, a2]⟩
/-! ### A store, and readers that stand before it -/
def isT : Opd → Bool
 | .t _ => true
 | .c _ => false
def needs : MOp → Option (List Nat)
 | .ld _ (.t a) => some [a]
 | .ld _ (.c _) => none
 | .callF _ l => if l.all isT then some (l.flatMap Opd.slots) else none
 | .ixA .. | .slc .. => some []
 | m => if m.cl = 0 then some [] else none
def V.pl : V → V
 | .nils | .emp => .dat []
 | v => v
theorem toD_plain (σ : Sto) (n : Nat) {v : V} (h : v.plain = true) : toD σ (n + 1) v = some v.pl ∧ rch σ (n + 1) v = [] := by
 cases v <;> first | (simp [V.plain] at h; done) | exact ⟨rfl, rfl⟩
theorem mapO_map {α : Type} {f : α → Option α} {g : α → α} : ∀ {l : List α}, (∀ x ∈ l, f x = some (g x)) → mapO f l = some (l.map g)
 | [], _ => rfl
 | a :: l, h => by simp [mapO, h a (by simp), mapO_map (l := l) fun x hx => h x (by simp [hx])]
theorem toD_off (σ : Sto) (n : Nat) {v d : V} {o : Nat} (h : v.off o = true) (hd : toD σ (n + 2) v = some d) : rch σ (n + 2) v = [] ∧ ∀ σ2, toD σ2 (n + 2) v = some d ∧ rch σ2 (n + 2) v = [] := by
 have agg : ∀ (σ : Sto) (l : List V), l.all V.plain = true → toD σ (n + 2) (.agg l) = some (.agg (l.map V.pl)) ∧ rch σ (n + 2) (.agg l) = [] := by
  intro σ l hl
  rw [List.all_eq_true] at hl
  refine ⟨?_, ?_⟩
  ·show (mapO (toD σ (n + 1)) l).map V.agg = _
   rw [mapO_map fun x hx => (toD_plain σ n (hl x hx)).1]; rfl
  ·show l.flatMap (rch σ (n + 1)) = []
   rw [flatMap_congr' (g := fun _ => []) fun x hx => (toD_plain σ n (hl x hx)).2]
   simp
 cases v <;> first
  | (simp [V.off] at h; done)
  | (simp [toD] at hd; done)
  | (injection hd with hd; subst hd; exact ⟨rfl, fun _ => ⟨rfl, rfl⟩⟩)
  | skip
 ·rename_i l
  have h : l.all V.plain = true := h
  rw [(agg σ l h).1] at hd
  injection hd with hd
  subst hd
  exact ⟨(agg σ l h).2, fun σ2 => agg σ2 l h⟩
 ·rename_i l
  have h : l = [] := by simpa [V.off] using h
  subst h
  have e : toD σ (n + 2) (.tup []) = some (.tup []) := rfl
  rw [e] at hd
  injection hd with hd; subst hd
  exact ⟨rfl, fun _ => ⟨rfl, rfl⟩⟩
theorem toDs_off {o : Nat} : ∀ (vs ds : List V), (∀ v ∈ vs, v.off o = true) → toDs σ vs = some ds → rchs σ vs = [] ∧ ∀ σ2, toDs σ2 vs = some ds ∧ rchs σ2 vs = []
 | [], ds, _, h => ⟨rchs_nil _, fun σ2 => ⟨by rw [toDs_nil] at h ⊢; exact h, rchs_nil _⟩⟩
 | v :: vs, ds, hv, h => by
   obtain ⟨d, l, h1, h2, e⟩ := toDs_inv h
   obtain ⟨a2, a3⟩ := toD_off σ 10 (hv v (by simp)) h1
   obtain ⟨b2, b3⟩ := toDs_off vs l (fun u hu => hv u (by simp [hu])) h2
   refine ⟨by rw [rchs_cons, b2]; exact congrArg (· ++ []) a2, fun σ2 => ⟨?_, ?_⟩⟩
   ·rw [e]; exact toDs_cons (a3 σ2).1 (b3 σ2).1
   ·rw [rchs_cons, (b3 σ2).2]; exact congrArg (· ++ []) (a3 σ2).2
theorem evs_slots : ∀ {l : List Opd} {vs : List V}, evs S l = some vs → l.all isT = true → ∀ v ∈ vs, ∃ s ∈ l.flatMap Opd.slots, S s = some v
 | [], vs, h, _, v, hv => by simp [evs] at h; subst h; simp at hv
 | x :: l, vs, h, ht, v, hv => by
   simp only [evs] at h
   split at h
   ·rename_i u us hu hus
    injection h with h; subst h
    simp only [List.all_cons, Bool.and_eq_true] at ht
    rcases List.mem_cons.1 hv with rfl | hv
    ·cases x with
     | t s => exact ⟨s, by simp [Opd.slots], hu⟩
     | c _ => simp [isT] at ht
    ·obtain ⟨s, h1, h2⟩ := evs_slots hus ht.2 v hv
     exact ⟨s, by rw [List.flatMap_cons, List.mem_append]; exact .inr h1, h2⟩
   ·simp at h
theorem behind_nil {vs : List V} (h : rchs σ vs = []) (r : V) : behind σ vs r = σ := by
 unfold behind; rw [h, frz_nil]; split <;> rfl
theorem fn_read_wr {m : MOp} {Ns : List Nat} (hN : needs m = some Ns) {σ' : Sto} (hf : Fn1 P m S σ v σ') {o : Nat} {ob ob2 : Ob} (ho : look σ o = some ob) (hes : ob2.es = ob.es) (hoff : ∀ s ∈ Ns, ∃ u, S s = some u ∧ u.off o = true) :
 σ' = σ ∧ Fn1 P m S (setOb σ o ob2) v (setOb σ o ob2) := by
 by_cases h0 : m.cl = 0
 ·obtain ⟨rfl, h2⟩ := fn_pure h0 hf
  exact ⟨rfl, h2 _⟩
 ·cases m <;> (try (simp [needs, MOp.cl] at hN; done)) <;> (try (exact (h0 rfl).elim))
  case ld k x =>
   have hs := ev_same (m := .ld k x) rfl hf
   subst hs
   refine ⟨rfl, ?_⟩
   cases x with
   | c _ => simp [needs] at hN
   | t a =>
     simp only [needs, Option.some.injEq] at hN
     subst hN
     obtain ⟨u, hu, huo⟩ := hoff a (by simp)
     simp only [Fn1, evOp, ev, hu] at hf ⊢
     cases u <;> simp only [ldV] at hf ⊢ <;> (try (simp at hf; done))
     ·rename_i o' i j
      have hne : o' ≠ o := by simpa [V.off] using huo
      have e : getOb (setOb σ' o ob2) o' = getOb σ' o' := by simp only [getOb, look_setOb, if_neg hne]
      rw [e]
      split at hf
      ·split at hf
       ·obtain ⟨w, hw, e2⟩ := opt_map_some hf
        injection e2 with e2 _; subst e2
        rw [hw]; rfl
       ·simp at hf
      ·simp at hf
     ·obtain ⟨w, hw, e2⟩ := opt_map_some hf
      injection e2 with e2 _; subst e2
      rw [hw]; rfl
  case slc es x lo hi mx =>
   have hs := ev_same (m := .slc es x lo hi mx) rfl hf
   subst hs
   refine ⟨rfl, ?_⟩
   have hl : ∀ p q, look σ' p = some q → ∃ q', look (setOb σ' o ob2) p = some q' ∧ q'.es = q.es := by
    intro p q hp
    rw [look_setOb]
    by_cases e : p = o
    ·subst e; rw [hp] at ho; injection ho with ho; subst ho; exact ⟨ob2, by simp, hes⟩
    ·exact ⟨q, by rw [if_neg e]; exact hp, rfl⟩
   simp only [Fn1, evOp] at hf ⊢
   cases mx with
   | some m =>
     simp only [] at hf ⊢
     split at hf <;> first
      | (simp at hf; done)
      | (injection hf with hf; injection hf with e1 e2; subst e1; rfl)
   | none =>
     simp only [] at hf ⊢
     cases hx : ev S x with
     | none => simp [hx] at hf
     | some u =>
       simp only [hx] at hf ⊢
       cases u <;> simp only [] at hf ⊢ <;> (try (simp at hf; done))
       ·split at hf
        ·obtain ⟨_, h3, e⟩ := opt_map_some hf
         injection e with e1 e2; subst e1
         rw [h3]; rfl
        ·simp at hf
       ·split at hf
        ·rename_i hh hhe
         cases hl2 : boundLo S hh lo with
         | none => simp [hl2] at hf
         | some l2 =>
           simp only [hl2, Option.bind_some] at hf ⊢
           split at hf
           ·rename_i hall
            injection hf with hf; injection hf with e1 e2; subst e1
            rw [if_pos hall]
           ·simp at hf
        ·simp at hf
       ·rename_i o' off len
        split at hf
        ·rename_i hh hhe
         cases hl2 : boundLo S hh lo with
         | none => simp [hl2] at hf
         | some l2 =>
           simp only [hl2, Option.bind_some] at hf ⊢
           split at hf
           ·rename_i ob3 hob
            split at hf
            ·rename_i hes3
             injection hf with hf; injection hf with e1 e2; subst e1
             obtain ⟨q', hq, hqe⟩ := hl _ _ hob
             rw [hq]
             simp only [hqe, if_pos hes3]
            ·simp at hf
           ·simp at hf
        ·simp at hf
  case ixA es x i =>
   have hs := ev_same (m := .ixA es x i) rfl hf
   subst hs
   refine ⟨rfl, ?_⟩
   have hl : ∀ p q, look σ' p = some q → ∃ q', look (setOb σ' o ob2) p = some q' ∧ q'.es = q.es := by
    intro p q hp
    rw [look_setOb]
    by_cases e : p = o
    ·subst e; rw [hp] at ho; injection ho with ho; subst ho; exact ⟨ob2, by simp, hes⟩
    ·exact ⟨q, by rw [if_neg e]; exact hp, rfl⟩
   simp only [Fn1, evOp] at hf ⊢
   split at hf
   ·(repeat' split at hf) <;> first
      | (simp at hf; done)
      | (injection hf with hf; injection hf with e1 e2; subst e1; simp_all)
   ·rename_i o' off len k n h1 h2
    split at hf
    ·rename_i hc
     split at hf
     ·rename_i ob3 hob
      split at hf
      ·rename_i hes3
       injection hf with hf; injection hf with e1 e2; subst e1
       obtain ⟨q', hq, hqe⟩ := hl _ _ hob
       rw [if_pos hc, hq]
       simp only [hqe, if_pos hes3]
      ·simp at hf
     ·simp at hf
    ·simp at hf
   ·simp at hf
  case callF f l =>
   simp only [needs] at hN
   split at hN
   ·rename_i ht
    injection hN with hN; subst hN
    obtain ⟨vs, ds, h1, h2, h3, rfl⟩ := hf
    have hv : ∀ v ∈ vs, v.off o = true := by
     intro v hv
     obtain ⟨s, hs1, hs2⟩ := evs_slots h1 ht v hv
     obtain ⟨u, hu1, hu2⟩ := hoff s hs1
     rw [hs2] at hu1; injection hu1 with hu1; subst hu1; exact hu2
    obtain ⟨a1, a2⟩ := toDs_off vs ds hv h2
    refine ⟨behind_nil a1 _, vs, ds, h1, (a2 _).1, h3, (behind_nil (a2 _).2 _).symm⟩
   ·simp at hN
end Go.Proofs.YtkockkfmjmheeaaGreat.E

namespace Go.Proofs.YtkockkfmjmheeaaGreat.E
open Go Go.RowKit
set_option linter.unusedSimpArgs false
set_option linter.unusedVariables false
variable {P : Program} {w0 : World} {base : Nat} {I0 I : Imm} {β : Beta} {S : Sl} {σ σ' : Sto} {w : World} {a : Act} {v : V} {n : Nat}
theorem look_insD {q : Nat} {ob : Ob} : ∀ {σ : Sto}, look σ q = none → ∀ o, look (insD q ob σ) o = if o = q then some ob else look σ o
 | [], _, o => by
   simp only [insD, look]
   by_cases e : o = q
   ·subst e; simp
   ·rw [if_neg (fun h => e h.symm), if_neg e]
 | (k, x) :: r, h, o => by
   simp only [look] at h
   by_cases hk : k = q
   ·rw [if_pos hk] at h; simp at h
   ·rw [if_neg hk] at h
    simp only [insD]
    split
    ·simp only [look, look_insD h o]
     by_cases e : k = o
     ·subst e; rw [if_pos rfl, if_neg hk, if_pos rfl]
     ·rw [if_neg e, if_neg e]
    ·simp only [look]
     by_cases e : o = q
     ·subst e; simp
     ·rw [if_neg (fun h => e h.symm), if_neg e]
theorem insD_comm {q q' : Nat} (hne : q ≠ q') (ob ob' : Ob) : ∀ σ : Sto, insD q ob (insD q' ob' σ) = insD q' ob' (insD q ob σ)
 | [] => by
   simp only [insD]
   by_cases h : q < q'
   ·rw [if_pos h, if_neg (by omega)]
   ·rw [if_neg h, if_pos (by omega)]
 | (k, x) :: r => by
   have ih := insD_comm hne ob ob' r
   by_cases h1 : q < k <;> by_cases h2 : q' < k
   ·simp only [insD, h1, h2, if_true, ih]
   ·have h3 : q < q' := by omega
    have h4 : ¬ q' < q := by omega
    simp only [insD, h1, h2, h3, if_true, if_false]
   ·have h3 : q' < q := by omega
    have h4 : ¬ q < q' := by omega
    simp only [insD, h1, h2, h3, if_true, if_false]
   ·by_cases h3 : q < q'
    ·have h4 : ¬ q' < q := by omega
     simp only [insD, h1, h2, h3, h4, if_true, if_false]
    ·have h4 : q' < q := by omega
     simp only [insD, h1, h2, h3, h4, if_true, if_false]
theorem insD_top {q : Nat} {ob : Ob} : ∀ {σ : Sto}, fresh σ ≤ q → insD q ob σ = (q, ob) :: σ
 | [], _ => rfl
 | (k, x) :: r, h => by
   simp only [fresh] at h
   simp only [insD]
   rw [if_neg (by omega)]
theorem filter_top {q : Nat} : ∀ {σ : Sto}, fresh σ ≤ q → σ.filter (·.1 != q) = σ
 | [], _ => rfl
 | (k, x) :: r, h => by
   simp only [fresh] at h
   have hk : (k != q) = true := by simp; omega
   rw [List.filter_cons, if_pos hk, filter_top (by omega)]
theorem insD_fresh (σ : Sto) (ob : Ob) : insD (fresh σ) ob σ = setOb σ (fresh σ) ob := by
 rw [insD_top (Nat.le_refl _), setOb, filter_top (Nat.le_refl _)]
theorem frz_insD {q : Nat} {ob : Ob} {l : List Nat} (h : q ∉ l) : ∀ σ : Sto, frz (insD q ob σ) l = insD q ob (frz σ l)
 | [] => by
   have hc : l.contains q = false := by simpa using h
   simp only [insD, frz, List.map_cons, List.map_nil, hc, Bool.false_and, Bool.false_eq_true, if_false]
 | (k, x) :: r => by
   have hc : l.contains q = false := by simpa using h
   have ih := frz_insD (ob := ob) h r
   simp only [frz] at ih
   by_cases h1 : q < k
   ·simp only [insD, frz, List.map_cons, h1, if_true, ih]
   ·simp only [insD, frz, List.map_cons, h1, if_false, hc, Bool.false_and, Bool.false_eq_true]
def Sees (σ τ : Sto) : Prop := ∀ o x, look σ o = some x → look τ o = some x
theorem Sees.get {τ : Sto} (h : Sees σ τ) {o : Nat} {x : Ob} (hx : getOb σ o = some x) : getOb τ o = some x := by
 obtain ⟨h1, h2⟩ := getOb_some hx
 simp only [getOb, h _ _ h1, if_neg h2]
theorem sees_insD {q : Nat} (h : look σ q = none) (ob : Ob) : Sees σ (insD q ob σ) := fun o x ho => by
 rw [look_insD h, if_neg (fun e => by subst e; rw [h] at ho; simp at ho)]; exact ho
theorem toD_sees {τ : Sto} (hs : Sees σ τ) : ∀ (n : Nat) (v d : V), toD σ n v = some d → toD (τ) n v = some d ∧ rch (τ) n v = rch σ n v ∧ ∀ q, look σ q = none → q ∉ rch σ n v
 | 0, v, d, h => by simp [toD] at h
 | n + 1, v, d, h => by
   have ihl : ∀ (l r : List V), mapO (toD σ n) l = some r → mapO (toD (τ) n) l = some r ∧ l.flatMap (rch (τ) n) = l.flatMap (rch σ n) ∧ ∀ q, look σ q = none → q ∉ l.flatMap (rch σ n) := by
    intro l r hr
    obtain ⟨_, h2, _⟩ := mapO_get hr
    have each : ∀ x ∈ l, ∃ y, toD σ n x = some y := by
     intro x hx
     obtain ⟨i, hi, rfl⟩ := List.getElem_of_mem hx
     obtain ⟨y, hy, _⟩ := h2 i _ (List.getElem?_eq_getElem hi)
     exact ⟨y, hy⟩
    refine ⟨mapO_congr hr fun x _ y hy => (toD_sees hs n x y hy).1, ?_, ?_⟩
    ·apply flatMap_congr'
     intro x hx
     obtain ⟨y, hy⟩ := each x hx
     exact (toD_sees hs n x y hy).2.1
    ·intro q hq hm
     obtain ⟨x, hx, hxm⟩ := List.mem_flatMap.1 hm
     obtain ⟨y, hy⟩ := each x hx
     exact (toD_sees hs n x y hy).2.2 q hq hxm
   cases v <;> simp only [toD] at h <;> simp only [toD, rch] <;> first
    | (simp at h; done)
    | (exact ⟨h, by simp⟩)
    | (obtain ⟨q, hq, rfl⟩ := opt_map_some h
       obtain ⟨a1, a2, a3⟩ := ihl _ _ hq
       exact ⟨by rw [a1]; rfl, a2, a3⟩)
    | skip
   ·rename_i o off len
    split at h
    ·rename_i x hx
     rw [hs.get hx]
     simp only []
     split at h
     ·rename_i hc
      rw [if_pos hc]
      obtain ⟨q, hq, rfl⟩ := opt_map_some h
      obtain ⟨_, h2, _⟩ := mapO_get hq
      have each : ∀ r ∈ (x.cells.drop off).take len, ∃ y, mapO (toD σ n) r = some y := by
       intro r hr
       obtain ⟨i, hi, rfl⟩ := List.getElem_of_mem hr
       obtain ⟨y, hy, _⟩ := h2 i _ (List.getElem?_eq_getElem hi)
       exact ⟨y, hy⟩
      refine ⟨?_, ?_, ?_⟩
      ·rw [mapO_congr hq fun r _ y hy => (ihl r y hy).1]; rfl
      ·congr 1
       apply flatMap_congr'
       intro r hr
       obtain ⟨y, hy⟩ := each r hr
       exact (ihl r y hy).2.1
      ·intro q0 hq0
       simp only [List.mem_cons, not_or]
       refine ⟨fun e => by subst e; have := (getOb_some hx).1; rw [hq0] at this; simp at this, fun hm => ?_⟩
       obtain ⟨r, hr, hrm⟩ := List.mem_flatMap.1 hm
       obtain ⟨y, hy⟩ := each r hr
       exact (ihl r y hy).2.2 q0 hq0 hrm
     ·simp at h
    ·simp at h
   ·obtain ⟨q, hq, rfl⟩ := opt_map_some h
    obtain ⟨a1, a2, a3⟩ := toD_sees hs n _ _ hq
    exact ⟨by rw [a1]; rfl, a2, a3⟩
theorem toDs_sees {τ : Sto} (hs : Sees σ τ) (vs : List V) : ∀ ds : List V, toDs σ vs = some ds → toDs (τ) vs = some ds ∧ rchs (τ) vs = rchs σ vs ∧ ∀ q, look σ q = none → q ∉ rchs σ vs := by
 induction vs with
 | nil =>
   intro ds h
   rw [toDs_nil] at h
   rw [toDs_nil, rchs_nil, rchs_nil]
   exact ⟨h, rfl, fun _ _ => List.not_mem_nil⟩
 | cons v vs ih =>
   intro ds h
   obtain ⟨d, l, h1, h2, h⟩ := toDs_inv h
   obtain ⟨a1, a2, a3⟩ := toD_sees hs deep v d h1
   obtain ⟨b1, b2, b3⟩ := ih l h2
   rw [rchs_cons, rchs_cons, a2, b2, h]
   refine ⟨toDs_cons a1 b1, rfl, ?_⟩
   intro q hq
   rw [List.mem_append]
   exact fun hm => hm.elim (a3 q hq) (b3 q hq)
theorem toP_sees {τ : Sto} (hs : Sees σ τ) : ∀ (n : Nat) (v d : V), toP σ n v = some d → toP (τ) n v = some d ∧ rchP (τ) n v = rchP σ n v ∧ ∀ q, look σ q = none → q ∉ rchP σ n v
 | 0, v, d, h => by simp [toP] at h
 | n + 1, v, d, h => by
   have ihl : ∀ (l r : List V), mapO (toP σ n) l = some r → mapO (toP (τ) n) l = some r ∧ l.flatMap (rchP (τ) n) = l.flatMap (rchP σ n) ∧ ∀ q, look σ q = none → q ∉ l.flatMap (rchP σ n) := by
    intro l r hr
    obtain ⟨_, h2, _⟩ := mapO_get hr
    have each : ∀ x ∈ l, ∃ y, toP σ n x = some y := by
     intro x hx
     obtain ⟨i, hi, rfl⟩ := List.getElem_of_mem hx
     obtain ⟨y, hy, _⟩ := h2 i _ (List.getElem?_eq_getElem hi)
     exact ⟨y, hy⟩
    refine ⟨mapO_congr hr fun x _ y hy => (toP_sees hs n x y hy).1, ?_, ?_⟩
    ·apply flatMap_congr'
     intro x hx
     obtain ⟨y, hy⟩ := each x hx
     exact (toP_sees hs n x y hy).2.1
    ·intro q hq hm
     obtain ⟨x, hx, hxm⟩ := List.mem_flatMap.1 hm
     obtain ⟨y, hy⟩ := each x hx
     exact (toP_sees hs n x y hy).2.2 q hq hxm
   cases v <;> simp only [toP] at h <;> simp only [toP, rchP] <;> first
    | (simp at h; done)
    | (exact ⟨h, by simp⟩)
    | (obtain ⟨q, hq, rfl⟩ := opt_map_some h
       obtain ⟨a1, a2, a3⟩ := ihl _ _ hq
       exact ⟨by rw [a1]; rfl, a2, a3⟩)
    | skip
   ·rename_i o off len
    split at h
    ·rename_i x hx
     rw [hs.get hx]
     simp only []
     split at h
     ·rename_i hc
      rw [if_pos hc]
      obtain ⟨q, hq, rfl⟩ := opt_map_some h
      obtain ⟨_, h2, _⟩ := mapO_get hq
      have each : ∀ r ∈ (x.cells.drop off).take len, ∃ y, mapO (toP σ n) r = some y := by
       intro r hr
       obtain ⟨i, hi, rfl⟩ := List.getElem_of_mem hr
       obtain ⟨y, hy, _⟩ := h2 i _ (List.getElem?_eq_getElem hi)
       exact ⟨y, hy⟩
      refine ⟨?_, ?_, ?_⟩
      ·rw [mapO_congr hq fun r _ y hy => (ihl r y hy).1]; rfl
      ·congr 1
       apply flatMap_congr'
       intro r hr
       obtain ⟨y, hy⟩ := each r hr
       exact (ihl r y hy).2.1
      ·intro q0 hq0
       simp only [List.mem_cons, not_or]
       refine ⟨fun e => by subst e; have := (getOb_some hx).1; rw [hq0] at this; simp at this, fun hm => ?_⟩
       obtain ⟨r, hr, hrm⟩ := List.mem_flatMap.1 hm
       obtain ⟨y, hy⟩ := each r hr
       exact (ihl r y hy).2.2 q0 hq0 hrm
     ·simp at h
    ·simp at h
   ·rename_i o i j
    split at h
    ·rename_i x hx
     rw [hs.get hx]
     simp only []
     split at h
     ·rename_i r hr
      split at h
      ·rename_i hj
       rw [if_pos hj]
       obtain ⟨q, hq, rfl⟩ := opt_map_some h
       obtain ⟨a1, a2, a3⟩ := ihl _ _ hq
       refine ⟨by rw [a1]; rfl, by rw [a2], ?_⟩
       intro q0 hq0
       simp only [List.mem_cons, not_or]
       exact ⟨fun e => by subst e; have := (getOb_some hx).1; rw [hq0] at this; simp at this, a3 q0 hq0⟩
      ·simp at h
     ·simp at h
    ·simp at h
   ·obtain ⟨q, hq, rfl⟩ := opt_map_some h
    obtain ⟨a1, a2, a3⟩ := toP_sees hs n _ _ hq
    exact ⟨by rw [a1]; rfl, a2, a3⟩
theorem toPs_sees {τ : Sto} (hs : Sees σ τ) (vs : List V) : ∀ ds : List V, toPs σ vs = some ds → toPs (τ) vs = some ds ∧ rchPs (τ) vs = rchPs σ vs ∧ ∀ q, look σ q = none → q ∉ rchPs σ vs := by
 induction vs with
 | nil =>
   intro ds h
   rw [toPs_nil] at h
   rw [toPs_nil, rchPs_nil, rchPs_nil]
   exact ⟨h, rfl, fun _ _ => List.not_mem_nil⟩
 | cons v vs ih =>
   intro ds h
   obtain ⟨d, l, h1, h2, h⟩ := toPs_inv h
   obtain ⟨a1, a2, a3⟩ := toP_sees hs deep v d h1
   obtain ⟨b1, b2, b3⟩ := ih l h2
   rw [rchPs_cons, rchPs_cons, a2, b2, h]
   refine ⟨toPs_cons a1 b1, rfl, ?_⟩
   intro q hq
   rw [List.mem_append]
   exact fun hm => hm.elim (a3 q hq) (b3 q hq)
theorem elems_sees {τ : Sto} (hs : Sees σ τ) {es : Nat} {v : V} {xs : List (List V)} (h : elems σ es v = some xs) : elems τ es v = some xs := by
 cases v <;> simp only [elems] at h ⊢ <;> (try exact h)
 rename_i o off len
 cases hg : getOb σ o with
 | none => rw [hg] at h; simp at h
 | some x => rw [hs.get hg]; rw [hg] at h; exact h
theorem fn_read_sees {m : MOp} (h : m.cl ≤ 2) {σ' : Sto} (hf : Fn1 P m S σ v σ') {τ : Sto} (hss : Sees σ τ) : ∃ l, σ' = frz σ l ∧ (∀ q, look σ q = none → q ∉ l) ∧ Fn1 P m S (τ) v (frz (τ) l) := by
 rcases (show m.cl = 0 ∨ m.cl = 1 ∨ m.cl = 2 by omega) with h0 | h0 | h0
 ·obtain ⟨rfl, h2⟩ := fn_pure h0 hf
  exact ⟨[], (frz_nil _).symm, by simp, by rw [frz_nil]; exact h2 _⟩
 ·rw [fn_ev h0] at hf
  have := ev_same h0 hf
  subst this
  refine ⟨[], (frz_nil _).symm, by simp, ?_⟩
  rw [fn_ev h0, frz_nil]
  cases m <;> (try (simp [MOp.cl] at h0; done))
  case ld k x =>
   simp only [evOp] at hf ⊢
   split at hf
   ·rename_i u hu
    cases u <;> simp only [ldV] at hf ⊢ <;> (try (simp at hf; done))
    ·rename_i o i j
     cases hg : getOb σ' o with
     | none => simp [hg] at hf
     | some x =>
       rw [hss.get hg]
       simp only [hg] at hf
       simp only []
       split at hf
       ·obtain ⟨u2, hu2, e2⟩ := opt_map_some hf
        injection e2 with e2 _; subst e2
        rw [hu2]; rfl
       ·simp at hf
    ·obtain ⟨u2, hu2, e2⟩ := opt_map_some hf
     injection e2 with e2 _; subst e2
     rw [hu2]; rfl
   ·simp at hf
  case strB x =>
   simp only [evOp] at hf ⊢
   split at hf
   ·split at hf
    ·rename_i rows hrows
     rw [elems_sees hss hrows]
     obtain ⟨b, hb, e⟩ := opt_map_some hf
     injection e with e _; subst e
     simp only [hb]; rfl
    ·simp at hf
   ·simp at hf
  case slc es x lo hi mx =>
   simp only [evOp] at hf ⊢
   cases mx with
   | some m =>
     simp only [] at hf ⊢
     split at hf <;> first
      | (simp at hf; done)
      | (injection hf with hf; injection hf with e1 e2; subst e1; rfl)
   | none =>
     simp only [] at hf ⊢
     cases hx : ev S x with
     | none => simp [hx] at hf
     | some u =>
       simp only [hx] at hf ⊢
       cases u <;> simp only [] at hf ⊢ <;> (try (simp at hf; done))
       ·split at hf
        ·obtain ⟨_, h3, e⟩ := opt_map_some hf
         injection e with e1 e2; subst e1
         rw [h3]; rfl
        ·simp at hf
       ·split at hf
        ·rename_i hh hhe
         cases hl : boundLo S hh lo with
         | none => simp [hl] at hf
         | some l2 =>
           simp only [hl, Option.bind_some] at hf ⊢
           split at hf
           ·rename_i hall
            injection hf with hf; injection hf with e1 e2; subst e1
            rw [if_pos hall]
           ·simp at hf
        ·simp at hf
       ·rename_i o off len
        split at hf
        ·rename_i hh hhe
         cases hl : boundLo S hh lo with
         | none => simp [hl] at hf
         | some l2 =>
           simp only [hl, Option.bind_some] at hf ⊢
           split at hf
           ·rename_i ob2 hob
            split at hf
            ·rename_i hes
             injection hf with hf; injection hf with e1 e2; subst e1
             rw [hss _ _ hob]
             simp only [if_pos hes]
            ·simp at hf
           ·simp at hf
        ·simp at hf
  case ixA es x i =>
   simp only [evOp] at hf ⊢
   split at hf
   ·(repeat' split at hf) <;> first
      | (simp at hf; done)
      | (injection hf with hf; injection hf with e1 e2; subst e1; simp_all)
   ·rename_i o off len k n h1 h2
    split at hf
    ·rename_i hc
     split at hf
     ·rename_i ob2 hob
      split at hf
      ·rename_i hes
       injection hf with hf; injection hf with e1 e2; subst e1
       rw [if_pos hc, hss _ _ hob]
       simp only [if_pos hes]
      ·simp at hf
     ·simp at hf
    ·simp at hf
   ·simp at hf
 ·cases m <;> (try (simp [MOp.cl] at h0; done))
  ·rename_i f l
   obtain ⟨vs, ds, h1, h2, h3, rfl⟩ := hf
   obtain ⟨a1, a2, a3⟩ := toDs_sees hss vs ds h2
   by_cases hs : v.scalar = true
   ·exact ⟨[], by rw [frz_nil]; simp [behind, hs], by simp, vs, ds, h1, a1, h3, by rw [frz_nil]; simp [behind, hs]⟩
   ·exact ⟨rchs σ vs, by simp [behind, hs], a3, vs, ds, h1, a1, h3, by simp [behind, hs, a2]⟩
  ·rename_i k l
   obtain ⟨us, vs, ds, h0', h1, h2, h3, rfl⟩ := hf
   obtain ⟨a1, a2, a3⟩ := toPs_sees hss vs ds h2
   by_cases hs : v.scalar = true
   ·exact ⟨[], by rw [frz_nil]; simp [behindP, hs], by simp, us, vs, ds, h0', h1, a1, h3, by rw [frz_nil]; simp [behindP, hs]⟩
   ·exact ⟨rchPs σ vs, by simp [behindP, hs], a3, us, vs, ds, h0', h1, a1, h3, by simp [behindP, hs, a2]⟩
end Go.Proofs.YtkockkfmjmheeaaGreat.E

namespace Go.Proofs.YtkockkfmjmheeaaGreat.E
open Go Go.RowKit
set_option linter.unusedSimpArgs false
set_option linter.unusedVariables false
variable {Df : List Deferred} {P : Program} {w0 : World} {base : Nat} {I0 I : Imm} {β : Beta} {S : Sl} {σ σ' : Sto} {w : World} {a : Act} {v : V} {n : Nat}
def MOp.nm (q : Nat) : MOp → MOp
 | .alloc z => .allocN q z
 | .buildSl es len z ps => .buildSlN q es len z ps
 | m => m
def MOp.mk5 : MOp → Bool
 | .alloc _ | .buildSl .. => true
 | _ => false
theorem cOp_alloc {o : Op} {z : List V} (h : cOp P o = some (.alloc z)) : ∃ t, o = .alloc t ∧ cZero P t = some z := by
 cases o <;> simp only [cOp] at h
 case alloc t =>
  obtain ⟨z', hz, h⟩ := opt_map_some h
  injection h with h; subst h
  exact ⟨t, rfl, hz⟩
 case call c =>
  split at h
  all_goals (repeat' split at h)
  all_goals first
   | (simp at h; done)
   | (obtain ⟨_, _, h⟩ := opt_map_some h; simp at h; done)
 all_goals first
  | (simp at h; done)
  | (obtain ⟨_, _, h⟩ := opt_map_some h; simp at h; done)
  | ((repeat' split at h) <;> first | contradiction | (simp at h; done) | (obtain ⟨_, _, h⟩ := opt_map_some h; simp at h; done))
theorem cOp_buildSl {o : Op} {es len : Nat} {z : List V} {ps : List (Nat × Opd)} (h : cOp P o = some (.buildSl es len z ps)) : ∃ t parts e, o = .buildSlice t len parts ∧ P.underlying t = some (.slice e) ∧ cZero P e = some z ∧ ¬ (z.length = 0 ∨ len * z.length > 2 ^ 24) ∧ es = z.length ∧ cPartsS parts.toList = some ps := by
 cases o <;> simp only [cOp] at h
 case buildSlice t len' parts =>
  split at h
  ·rename_i e hu
   split at h
   ·rename_i z' hz
    split at h
    ·simp at h
    ·rename_i hcond
     obtain ⟨ps', hps, h⟩ := opt_map_some h
     injection h with h1 h2 h3 h4; subst h1; subst h2; subst h3; subst h4
     exact ⟨t, parts, e, rfl, hu, hz, hcond, rfl, hps⟩
   ·simp at h
  ·simp at h
 case call c =>
  split at h
  all_goals (repeat' split at h)
  all_goals first
   | (simp at h; done)
   | (obtain ⟨_, _, h⟩ := opt_map_some h; simp at h; done)
 all_goals first
  | (simp at h; done)
  | (obtain ⟨_, _, h⟩ := opt_map_some h; simp at h; done)
  | ((repeat' split at h) <;> first | contradiction | (simp at h; done) | (obtain ⟨_, _, h⟩ := opt_map_some h; simp at h; done))
theorem good_newVarN (hI : Inv w0 base I0 I β σ w) (t : TypeId) {c : Value} (l : List V) {q : Nat} (hq : look σ q = none) (hs : c.cells.size = l.length) (ho : ∀ (i : Nat) (y : V), l[i]? = some y → y.one = true)
 (hr : ∀ (i : Nat) (x : Value) (y : V), c.cells[i]? = some x → l[i]? = some y → Rel I β x y) :
 Good w0 base I0 I β (.ptr q 0 0) (insD q ⟨.own, l.length, [l]⟩ σ) ((do pure (Next.value (Value.pointer (some (← newVar t c)))) : Sem Next).run P w) := by
 obtain ⟨h1, h2⟩ := hI.allocAt q hq c.cells t l.length [l] (fun i r hi => by cases i <;> simp at hi; subst hi; rfl) (by simp [hs]) (fun i r j y hi hj => by cases i <;> simp at hi; subst hi; exact ho j y hj)
  (fun i r j y hi hj => by
    cases i <;> simp at hi
    subst hi
    have hlt : j < c.cells.size := by rw [hs]; exact (List.getElem?_eq_some_iff.1 hj).1
    exact ⟨c.cells[j], by simp [hlt], hr j _ y (by simp [hlt]) hj⟩)
 refine ⟨_, _, I, _, .pointer (some ⟨w.heap.size, 0, none⟩), by simp [newVar, run_newRow], .inl rfl, ?_, h1.congr fun o => by rw [look_insD hq, look_setOb], h2⟩
 have := Rel.ptr (I := I) (β := Beta.put β (q) ⟨w.heap.size, l.length, c.cells.size⟩) (o := q) (b := w.heap.size) (es := l.length) (n := c.cells.size) (i := 0) (j := 0) (by simp [Beta.put])
 simpa using this
theorem op_sound_named {o : Oper} {m : MOp} (h5 : m.mk5 = true) (hc : cOp P o.op = some m) {q : Nat} (he : evOp S σ (m.nm q) = some (v, σ')) (hS : SRel I β S a) (hI : Inv w0 base I0 I β σ w) :
 Good w0 base I0 I β v σ' ((execOp a.eval o).run P w) := by
 cases m <;> (try (simp [MOp.mk5] at h5; done))
 ·rename_i z
  obtain ⟨t, ho, hz⟩ := cOp_alloc hc
  simp only [MOp.nm, evOp] at he
  split at he
  ·rename_i hq
   injection he with he; injection he with h1 h2; subst h1; subst h2
   obtain ⟨i, zv, hi, hzv, hrz, hzs, his, hzo, hzr⟩ := zero_sound (w := w) hz I β
   have := good_newVarN (P := P) hI t (c := zv) z hq hzs hzo hzr
   simpa [execOp, ho, Instr.alloc, hrz] using this
  ·simp at he
 ·rename_i es len z ps
  obtain ⟨t, parts, e, ho, hu, hz, hcond, rfl, hps⟩ := cOp_buildSl hc
  simp only [MOp.nm, evOp] at he
  split at he
  ·rename_i hq
   obtain ⟨l, hl, h2⟩ := opt_map_some he
   injection h2 with h2 h3; subst h2; subst h3
   obtain ⟨i, zv, hi, hzv, hrz, hzs, his, hzo, hzr⟩ := zero_sound (w := w) hz I β
   have hne : z.length ≠ 0 := fun e => hcond (.inl e)
   have hbig : ¬ (len * z.length > 2 ^ 24) := fun e => hcond (.inr e)
   obtain ⟨g1, g2⟩ := cPartsS_sound hps
   have hl0 : ∀ (i : Nat) (r : List V), (List.replicate len z)[i]? = some r → r.length = z.length := fun i r h => by simp [List.getElem?_replicate] at h; rw [h.2]
   obtain ⟨f1, f2⟩ := flatten_get hne hl0
   have hinit : CellsRel I β ((Array.range (len * z.length)).map (fun k => zv.cells[k % zv.cells.size]!)) (List.replicate len z).flatten := by
    have split : ∀ (j : Nat) (y : V), (List.replicate len z).flatten[j]? = some y → ∃ q r, q < len ∧ r < z.length ∧ j = q * z.length + r ∧ z[r]? = some y := by
     intro j y hj
     have hlt : j < len * z.length := by have := (List.getElem?_eq_some_iff.1 hj).1; rw [f1] at this; simpa using this
     have hq : j / z.length < len := Nat.div_lt_of_lt_mul (by rw [Nat.mul_comm]; exact hlt)
     have hr : j % z.length < z.length := Nat.mod_lt _ (by omega)
     have hm : j = j / z.length * z.length + j % z.length := by rw [Nat.mul_comm]; exact (Nat.div_add_mod j z.length).symm
     refine ⟨_, _, hq, hr, hm, ?_⟩
     have := f2 (j / z.length) z (j % z.length) (z[j % z.length]'hr) (by simp [List.getElem?_replicate, hq]) (List.getElem?_eq_getElem hr)
     rw [← hm, hj] at this
     rw [this]; exact List.getElem?_eq_getElem hr
    refine ⟨by simp [f1], fun j y hj => ?_, fun j c y hc hj => ?_⟩
    ·obtain ⟨q, r, _, _, _, h⟩ := split j y hj
     exact hzo r y h
    ·obtain ⟨q, r, hq, hr, rfl, h⟩ := split j y hj
     rw [zero_cells_get zv.cells len z.length hzs hne q r hq hr] at hc
     exact hzr r c y hc h
   obtain ⟨cells', h3, h4, h5, h6⟩ := fillS_sound hne hS parts.toList ps _ _ l hl0 hinit hl g2 g1
   obtain ⟨p1, p2⟩ := flatten_get hne h5
   obtain ⟨q1, q2⟩ := hI.allocAt q hq cells' e z.length l h5 (by rw [h4.1, p1]; exact Nat.le_refl _)
    (fun i r j y hi hj => h4.2.1 _ y (p2 i r j y hi hj))
    (fun i r j y hi hj => by
      have := p2 i r j y hi hj
      have hlt : i * z.length + j < cells'.size := by rw [h4.1]; exact (List.getElem?_eq_some_iff.1 this).1
      exact ⟨cells'[i * z.length + j], Array.getElem?_eq_getElem hlt, h4.2.2 _ _ y (Array.getElem?_eq_getElem hlt) this⟩)
   have hlen : l.length = len := by rw [h6]; simp
   have hrun : (Instr.buildSlice t len (parts.map fun (i, x) => (i, a.eval x))).run P w = .ok (.slice (some ⟨w.heap.size, 0, none⟩) len len) (w.alloc (.cells cells' e)) := by
    simp at h3
    have hzrun : ∀ w', (zeroValue e).run P w' = .ok zv w' := fun w' => by simp [zeroValue, typeInfo, hi, hzv]
    simp [Instr.buildSlice, run_underlying hu, sizeOf, typeInfo, hi, his]
    rw [if_neg (by omega)]
    by_cases h0 : len = 0
    ·subst h0
     have e0 : (Array.range (0 * z.length)).map (fun _ => (default : Value)) = (Array.range (0 * z.length)).map (fun k => zv.cells[k % zv.cells.size]!) :=
      (Array.eq_empty_of_size_eq_zero (by simp)).trans (Array.eq_empty_of_size_eq_zero (by simp)).symm
     rw [if_pos (by simp), e0, h3]
     simp [run_newRow]
    ·rw [if_neg (Nat.mul_ne_zero h0 hne), hzrun]
     simp only [Result.andThen]
     rw [h3]
     simp [run_newRow]
   refine (good_of_value hrun ?_ (q1.congr fun o => by rw [look_insD hq, look_setOb]) q2) |> fun h => by simpa [execOp, ho] using h
   have := Rel.ref (I := I) (β := Beta.put β q ⟨w.heap.size, z.length, cells'.size⟩) (o := q) (b := w.heap.size) (es := z.length) (n := cells'.size) (off := 0) (len := len) (cap := len) (by simp [Beta.put]) (Nat.le_refl _) (by rw [h4.1, p1, hlen]; simp)
   simpa using this
  ·simp at he
theorem wpOp_sound_named {b : Nat} {ops : Array Oper} {i : Nat} {o : Oper} {m : MOper} (hi : ops[i]? = some o) (hc : cOper P n b ops o = some m) (hg : m.guard = none) (h5 : m.op.mk5 = true) {q : Nat} {K : Sl → Sto → Prop} (h : WpOp P ⟨m.dst, m.op.nm q, none⟩ S σ K) (hA : At Df w0 base I0 n I β S σ a w)
 (Q : Exit → Act → World → Prop) (next : Act → World → Prop) (hn : ∀ S' σ' I' β' a' w', K S' σ' → At Df w0 base I0 n I' β' S' σ' a' w' → Ext I β I' β' → next a' w') : wpOp P ops Q i next a w := by
 unfold cOper at hc
 split at hc
 case h_2 => simp at hc
 rename_i m0 hm0
 split at hc
 case isFalse => simp at hc
 rename_i hdst
 have hd : ∀ q, o.dst = some q → q < n := by
  intro q hq; rw [hq] at hdst; simpa [dstOk] using hdst
 cases hgo : o.guard with
 | some jb =>
   obtain ⟨j, t⟩ := jb
   simp only [hgo] at hc
   split at hc
   ·injection hc with hc; subst hc; simp at hg
   ·simp at hc
 | none =>
   simp only [hgo] at hc
   injection hc with hc; subst hc
   have hm : (if b = 0 then m0 else m0.fnl b) = m0 := by
    split
    ·rfl
    ·rename_i hb
     simp only [if_neg hb] at h5
     cases m0 <;> first | rfl | (simp only [MOp.fnl] at h5; revert h5; (repeat' split) <;> simp [MOp.mk5]) | (simp [MOp.fnl, MOp.mk5] at h5)
   simp only [hm] at h h5
   have hw : Region.wanted o (yielded ops a.tmps) = true := by simp [Region.wanted, hgo]
   unfold wpOp
   rw [hi]
   simp only []
   rw [if_pos hw]
   refine .inl ?_
   have h6 : (m0.nm q).cl ≤ 6 := by cases m0 <;> first | (simp [MOp.mk5] at h5; done) | (simp [MOp.nm, MOp.cl])
   obtain ⟨v, σ', hf, hK⟩ := (wpOp_act (o := ⟨o.dst, m0.nm q, none⟩) h6 K).1 h
   have he : evOp S σ (m0.nm q) = some (v, σ') := by
    cases m0 <;> first | (simp [MOp.mk5] at h5; done) | exact hf
   obtain ⟨nx, w', I', β', rv, hr, hnx, hrel, hinv, hext⟩ := op_sound_named (w := w) h5 hm0 he hA.slots hA.inv
   unfold Oper.wp
   rw [hr]
   rcases hnx with rfl | ⟨rfl, rfl⟩
   ·exact hn _ _ I' β' _ w' hK (hA.put hinv hext hrel hd) hext
   ·exact hn _ _ I' β' _ w' hK (hA.put hinv hext hrel hd) hext
end Go.Proofs.YtkockkfmjmheeaaGreat.E

namespace Go.Proofs.YtkockkfmjmheeaaGreat.E
open Go Go.RowKit
set_option linter.unusedSimpArgs false
set_option linter.unusedVariables false
variable {Df : List Deferred} {P : Program} {w0 : World} {base : Nat} {I0 I : Imm} {β : Beta} {S : Sl} {σ σ' : Sto} {w : World} {a : Act} {v : V} {n : Nat}
theorem act_pure {o : MOper} (h : o.op.cl = 0) {σ' : Sto} (ha : Act1 P o S σ v σ') : σ' = σ ∧ ∀ σ2, Act1 P o S σ2 v σ2 := by
 unfold Act1 at ha ⊢
 cases hg : o.guard with
 | none => rw [hg] at ha; exact fn_pure h ha
 | some db =>
   obtain ⟨d, b⟩ := db
   simp only [hg] at ha ⊢
   generalize S d = u0 at ha ⊢
   cases u0 with
   | none => exact ha.elim
   | some u =>
     cases u <;> (try exact ha.elim)
     ·rename_i t
      by_cases e : t = b
      ·obtain ⟨h1, h2⟩ := fn_pure h (ha.1 e)
       exact ⟨h1, fun σ2 => ⟨fun _ => h2 σ2, fun hn => (hn e).elim⟩⟩
      ·obtain ⟨h1, h2⟩ := ha.2 e
       exact ⟨h2, fun σ2 => ⟨fun he => (e he).elim, fun _ => ⟨h1, trivial⟩⟩⟩
     ·rename_i l
      cases l with
      | nil => exact ⟨ha.2, fun σ2 => ⟨ha.1, trivial⟩⟩
      | cons => exact ha.elim
theorem act_read {o : MOper} (h : o.op.cl ≤ 2) {σ' : Sto} (ha : Act1 P o S σ v σ') : ∃ l, σ' = frz σ l ∧ ∀ q, Act1 P o S (frz σ q) v (frz (frz σ q) l) := by
 unfold Act1 at ha ⊢
 cases hg : o.guard with
 | none => rw [hg] at ha; exact fn_read h ha
 | some db =>
   obtain ⟨d, b⟩ := db
   simp only [hg] at ha ⊢
   generalize S d = u0 at ha ⊢
   cases u0 with
   | none => exact ha.elim
   | some u =>
     cases u <;> (try exact ha.elim)
     ·rename_i t
      by_cases e : t = b
      ·obtain ⟨l, h1, h2⟩ := fn_read h (ha.1 e)
       exact ⟨l, h1, fun q => ⟨fun _ => h2 q, fun hn => (hn e).elim⟩⟩
      ·obtain ⟨h1, h2⟩ := ha.2 e
       exact ⟨[], by rw [frz_nil]; exact h2, fun q => ⟨fun he => (e he).elim, fun _ => ⟨h1, frz_nil _⟩⟩⟩
     ·rename_i l
      cases l with
      | nil => exact ⟨[], by rw [frz_nil]; exact ha.2, fun q => ⟨ha.1, frz_nil _⟩⟩
      | cons => exact ha.elim
theorem act_read_back {o : MOper} (h : o.op.cl ≤ 2) {σ' : Sto} {q : List Nat} (ha : Act1 P o S (frz σ q) v σ') : ∃ l, σ' = frz (frz σ q) l ∧ Act1 P o S σ v (frz σ l) := by
 unfold Act1 at ha ⊢
 cases hg : o.guard with
 | none => rw [hg] at ha; exact fn_read_back h ha
 | some db =>
   obtain ⟨d, b⟩ := db
   simp only [hg] at ha ⊢
   generalize S d = u0 at ha ⊢
   cases u0 with
   | none => exact ha.elim
   | some u =>
     cases u <;> (try exact ha.elim)
     ·rename_i t
      by_cases e : t = b
      ·obtain ⟨l, h1, h2⟩ := fn_read_back h (ha.1 e)
       exact ⟨l, h1, fun _ => h2, fun hn => (hn e).elim⟩
      ·obtain ⟨h1, h2⟩ := ha.2 e
       exact ⟨[], by rw [frz_nil]; exact h2, fun he => (e he).elim, fun _ => ⟨h1, frz_nil _⟩⟩
     ·rename_i l
      cases l with
      | nil => exact ⟨[], by rw [frz_nil]; exact ha.2, ha.1, frz_nil _⟩
      | cons => exact ha.elim
theorem act_alloc {o : MOper} (h : o.op.cl = 5) {σ' : Sto} (ha : Act1 P o S σ v σ') : (v = .tup [] ∧ σ' = σ ∧ ∀ σ2, Act1 P o S σ2 (.tup []) σ2) ∨
 ∃ (mk : Nat → V) (ob : Ob), v = mk (fresh σ) ∧ σ' = setOb σ (fresh σ) ob ∧ ∀ σ2, Act1 P o S σ2 (mk (fresh σ2)) (setOb σ2 (fresh σ2) ob) := by
 have hF : Fn1 P o.op S σ v σ' → ∃ (mk : Nat → V) (ob : Ob), v = mk (fresh σ) ∧ σ' = setOb σ (fresh σ) ob ∧ ∀ σ2, Fn1 P o.op S σ2 (mk (fresh σ2)) (setOb σ2 (fresh σ2) ob) := by
  intro hf
  rw [fn_alloc h] at hf
  obtain ⟨mk, ob, h1, h2, h3⟩ := ev_alloc h hf
  exact ⟨mk, ob, h1, h2, fun σ2 => by rw [fn_alloc h]; exact h3 σ2⟩
 unfold Act1 at ha ⊢
 cases hg : o.guard with
 | none => rw [hg] at ha; exact .inr (hF ha)
 | some db =>
   obtain ⟨d, b⟩ := db
   simp only [hg] at ha ⊢
   generalize S d = u0 at ha ⊢
   cases u0 with
   | none => exact ha.elim
   | some u =>
     cases u <;> (try exact ha.elim)
     ·rename_i t
      by_cases e : t = b
      ·obtain ⟨mk, ob, h1, h2, h3⟩ := hF (ha.1 e)
       exact .inr ⟨mk, ob, h1, h2, fun σ2 => ⟨fun _ => h3 σ2, fun hn => (hn e).elim⟩⟩
      ·obtain ⟨h1, h2⟩ := ha.2 e
       exact .inl ⟨h1, h2, fun σ2 => ⟨fun he => (e he).elim, fun _ => ⟨trivial, trivial⟩⟩⟩
     ·rename_i l
      cases l with
      | nil => exact .inl ⟨ha.1, ha.2, fun σ2 => ⟨trivial, trivial⟩⟩
      | cons => exact ha.elim
theorem act_read_set {o : MOper} (h : o.op.cl ≤ 2) {σ' : Sto} (ha : Act1 P o S σ v σ') (ob : Ob) : ∃ l, σ' = frz σ l ∧ fresh σ ∉ l ∧ Act1 P o S (setOb σ (fresh σ) ob) v (frz (setOb σ (fresh σ) ob) l) := by
 unfold Act1 at ha ⊢
 cases hg : o.guard with
 | none => rw [hg] at ha; exact fn_read_set h ha ob
 | some db =>
   obtain ⟨d, b⟩ := db
   simp only [hg] at ha ⊢
   generalize S d = u0 at ha ⊢
   cases u0 with
   | none => exact ha.elim
   | some u =>
     cases u <;> (try exact ha.elim)
     ·rename_i t
      by_cases e : t = b
      ·obtain ⟨l, h1, h2, h3⟩ := fn_read_set h (ha.1 e) ob
       exact ⟨l, h1, h2, fun _ => h3, fun hn => (hn e).elim⟩
      ·obtain ⟨h1, h2⟩ := ha.2 e
       exact ⟨[], by rw [frz_nil]; exact h2, by simp, fun he => (e he).elim, fun _ => ⟨h1, frz_nil _⟩⟩
     ·rename_i l
      cases l with
      | nil => exact ⟨[], by rw [frz_nil]; exact ha.2, by simp, ha.1, frz_nil _⟩
      | cons => exact ha.elim
theorem look_frz_none {l : List Nat} {q : Nat} (h : look (frz σ l) q = none) : look σ q = none := by
 rw [look_frz] at h
 cases hl : look σ q with
 | none => rfl
 | some x => rw [hl] at h; simp at h
theorem act_read_sees {o : MOper} (h : o.op.cl ≤ 2) {σ' : Sto} (ha : Act1 P o S σ v σ') {τ : Sto} (hs : Sees σ τ) : ∃ l, σ' = frz σ l ∧ (∀ q, look σ q = none → q ∉ l) ∧ Act1 P o S τ v (frz τ l) := by
 unfold Act1 at ha ⊢
 cases hg : o.guard with
 | none => rw [hg] at ha; exact fn_read_sees h ha hs
 | some db =>
   obtain ⟨d, b⟩ := db
   simp only [hg] at ha ⊢
   generalize S d = u0 at ha ⊢
   cases u0 with
   | none => exact ha.elim
   | some u =>
     cases u <;> (try exact ha.elim)
     ·rename_i t
      by_cases e : t = b
      ·obtain ⟨l, h1, h2, h3⟩ := fn_read_sees h (ha.1 e) hs
       exact ⟨l, h1, h2, fun _ => h3, fun hn => (hn e).elim⟩
      ·obtain ⟨h1, h2⟩ := ha.2 e
       exact ⟨[], by rw [frz_nil]; exact h2, by simp, fun he => (e he).elim, fun _ => ⟨h1, frz_nil _⟩⟩
     ·rename_i l
      cases l with
      | nil => exact ⟨[], by rw [frz_nil]; exact ha.2, by simp, ha.1, frz_nil _⟩
      | cons => exact ha.elim
theorem fn_named {m : MOp} (h : m.cl = 6) {σ' : Sto} (hf : Fn1 P m S σ v σ') : ∃ q ob, look σ q = none ∧ σ' = insD q ob σ ∧ ∀ σ2, look σ2 q = none → Fn1 P m S σ2 v (insD q ob σ2) := by
 cases m <;> (try (simp [MOp.cl] at h; done))
 ·rename_i q z
  simp only [Fn1, evOp] at hf ⊢
  split at hf
  ·rename_i hq
   injection hf with hf; injection hf with e1 e2; subst e1; subst e2
   exact ⟨q, _, hq, rfl, fun σ2 h2 => by rw [h2]⟩
  ·simp at hf
 ·rename_i q es len z ps
  simp only [Fn1, evOp] at hf ⊢
  split at hf
  ·rename_i hq
   obtain ⟨l, hl, e⟩ := opt_map_some hf
   injection e with e1 e2; subst e1; subst e2
   exact ⟨q, _, hq, rfl, fun σ2 h2 => by rw [h2]; simp only [hl, Option.map_some]⟩
  ·simp at hf
theorem act_named {o : MOper} (h : o.op.cl = 6) {σ' : Sto} (ha : Act1 P o S σ v σ') : (v = .tup [] ∧ σ' = σ ∧ ∀ σ2, Act1 P o S σ2 (.tup []) σ2) ∨
 ∃ q ob, look σ q = none ∧ σ' = insD q ob σ ∧ ∀ σ2, look σ2 q = none → Act1 P o S σ2 v (insD q ob σ2) := by
 unfold Act1 at ha ⊢
 cases hg : o.guard with
 | none => rw [hg] at ha; exact .inr (fn_named h ha)
 | some db =>
   obtain ⟨d, b⟩ := db
   simp only [hg] at ha ⊢
   generalize S d = u0 at ha ⊢
   cases u0 with
   | none => exact ha.elim
   | some u =>
     cases u <;> (try exact ha.elim)
     ·rename_i t
      by_cases e : t = b
      ·obtain ⟨q, ob, h1, h2, h3⟩ := fn_named h (ha.1 e)
       exact .inr ⟨q, ob, h1, h2, fun σ2 h4 => ⟨fun _ => h3 σ2 h4, fun hn => (hn e).elim⟩⟩
      ·obtain ⟨h1, h2⟩ := ha.2 e
       exact .inl ⟨h1, h2, fun σ2 => ⟨fun he => (e he).elim, fun _ => ⟨trivial, trivial⟩⟩⟩
     ·rename_i l
      cases l with
      | nil => exact .inl ⟨ha.1, ha.2, fun σ2 => ⟨trivial, trivial⟩⟩
      | cons => exact ha.elim
theorem putd_comm {x y : Option Nat} (h : ∀ d, x = some d → y ≠ some d) (u v : V) : (S.putd x u).putd y v = (S.putd y v).putd x u := by
 cases x with
 | none => rfl
 | some d =>
   cases y with
   | none => rfl
   | some e =>
     have hne : d ≠ e := fun e' => h d rfl (by rw [e'])
     funext i
     simp only [Sl.putd, Sl.set]
     by_cases h1 : i = d
     ·have : i ≠ e := fun e' => hne (by omega)
      simp [h1, hne]
     ·by_cases h2 : i = e <;> simp [h1, h2, Ne.symm hne]
theorem putd_other {d : Option Nat} {j : Nat} (h : d ≠ some j) (u : V) : (S.putd d u) j = S j := by
 cases d with
 | none => rfl
 | some e => simp only [Sl.putd, Sl.set]; rw [if_neg (fun e' => h (by rw [e']))]
theorem commute_spec {x y : MOper} (h : commute x y = true) : (∀ d, x.dst = some d → d ∉ y.reads ∧ y.dst ≠ some d) ∧ (∀ d, y.dst = some d → d ∉ x.reads) ∧
 ((x.op.cl = 0 ∧ y.op.cl ≤ 6) ∨ (y.op.cl = 0 ∧ x.op.cl ≤ 6) ∨ (x.op.cl ≤ 2 ∧ y.op.cl ≤ 2) ∨ (x.op.cl ≤ 2 ∧ y.op.cl = 5) ∨ (x.op.cl ≤ 2 ∧ y.op.cl = 6) ∨ (x.op.cl = 6 ∧ y.op.cl = 6)) := by
 simp only [commute, Bool.and_eq_true, Bool.or_eq_true, decide_eq_true_eq, beq_iff_eq] at h
 refine ⟨fun d hd => ?_, fun d hd => ?_, ?_⟩
 ·have := h.1.1; rw [hd] at this; simpa using this
 ·have := h.1.2; rw [hd] at this; simpa using this
 ·rcases h.2 with ((((h | h) | h) | h) | h) | h
  ·exact .inl h
  ·exact .inr (.inl h)
  ·exact .inr (.inr (.inl h))
  ·exact .inr (.inr (.inr (.inl h)))
  ·exact .inr (.inr (.inr (.inr (.inl h))))
  ·exact .inr (.inr (.inr (.inr (.inr h))))
theorem swap_ops {x y : MOper} (hc : commute x y = true) {K : Sl → Sto → Prop} (h : WpOp P x S σ fun S' σ' => WpOp P y S' σ' K) : WpOp P y S σ fun S' σ' => WpOp P x S' σ' K := by
 obtain ⟨c1, c2, c3⟩ := commute_spec hc
 have hx : x.op.cl ≤ 6 := by omega
 have hy : y.op.cl ≤ 6 := by omega
 rw [wpOp_act hx] at h
 obtain ⟨u, σ1, h1, h⟩ := h
 rw [wpOp_act hy] at h
 obtain ⟨v, σ2, h2, h3⟩ := h
 have hyS : ∀ j ∈ y.reads, (S.putd x.dst u) j = S j := fun j hj => putd_other (fun e => (c1 j e).1 hj) u
 have hxS : ∀ j ∈ x.reads, S j = (S.putd y.dst v) j := fun j hj => (putd_other (fun e => c2 j e hj) v).symm
 have hcom : (S.putd x.dst u).putd y.dst v = (S.putd y.dst v).putd x.dst u := putd_comm (fun d hd => (c1 d hd).2) u v
 have h2 := act_congr hyS h2
 rw [hcom] at h3
 rw [wpOp_act hy]
 rcases c3 with ⟨e1, e2⟩ | ⟨e1, e2⟩ | ⟨e1, e2⟩ | ⟨e1, e2⟩ | ⟨e1, e2⟩ | ⟨e1, e2⟩
 ·obtain ⟨rfl, g⟩ := act_pure e1 h1
  exact ⟨v, σ2, h2, (wpOp_act hx _).2 ⟨u, σ2, act_congr hxS (g σ2), h3⟩⟩
 ·obtain ⟨rfl, g⟩ := act_pure e1 h2
  exact ⟨v, σ, g σ, (wpOp_act hx _).2 ⟨u, σ2, act_congr hxS h1, h3⟩⟩
 ·obtain ⟨l1, rfl, g1⟩ := act_read e1 h1
  obtain ⟨l2, rfl, h4⟩ := act_read_back e2 h2
  exact ⟨v, frz σ l2, h4, (wpOp_act hx _).2 ⟨u, frz (frz σ l1) l2, act_congr hxS (by rw [frz_comm]; exact g1 l2), h3⟩⟩
 ·rcases act_alloc e2 h2 with ⟨rfl, rfl, g⟩ | ⟨mk, ob, rfl, rfl, g⟩
  ·exact ⟨.tup [], σ, g σ, (wpOp_act hx _).2 ⟨u, σ2, act_congr hxS h1, h3⟩⟩
  ·obtain ⟨l, rfl, hl, h5⟩ := act_read_set e1 h1 ob
   rw [fresh_frz] at h3
   refine ⟨mk (fresh σ), setOb σ (fresh σ) ob, g σ, (wpOp_act hx _).2 ⟨u, frz (setOb σ (fresh σ) ob) l, act_congr ?_ h5, ?_⟩⟩
   ·rw [fresh_frz] at hxS; exact hxS
   ·rw [frz_set l _ ob hl]; exact h3
 ·rcases act_named e2 h2 with ⟨rfl, rfl, g⟩ | ⟨q, ob, hq, rfl, g⟩
  ·exact ⟨.tup [], σ, g σ, (wpOp_act hx _).2 ⟨u, σ2, act_congr hxS h1, h3⟩⟩
  ·obtain ⟨l0, rfl, _⟩ := act_read e1 h1
   have hq' : look σ q = none := look_frz_none hq
   obtain ⟨l, hl0, hl, h5⟩ := act_read_sees e1 h1 (sees_insD hq' ob)
   refine ⟨v, insD q ob σ, g σ hq', (wpOp_act hx _).2 ⟨u, frz (insD q ob σ) l, act_congr hxS h5, ?_⟩⟩
   rw [frz_insD (hl q hq'), ← hl0]; exact h3
 ·rcases act_named e2 h2 with ⟨rfl, rfl, g2⟩ | ⟨q2, ob2, hq2, rfl, g2⟩ <;> rcases act_named e1 h1 with ⟨rfl, rfl, g1⟩ | ⟨q1, ob1, hq1, rfl, g1⟩
  ·exact ⟨.tup [], _, g2 _, (wpOp_act hx _).2 ⟨.tup [], _, act_congr hxS (g1 _), h3⟩⟩
  ·exact ⟨.tup [], σ, g2 σ, (wpOp_act hx _).2 ⟨u, _, act_congr hxS (g1 σ hq1), h3⟩⟩
  ·exact ⟨v, _, g2 _ hq2, (wpOp_act hx _).2 ⟨.tup [], _, act_congr hxS (g1 _), h3⟩⟩
  ·rw [look_insD hq1] at hq2
   have hne : q2 ≠ q1 := fun e => by subst e; simp at hq2
   rw [if_neg hne] at hq2
   refine ⟨v, insD q2 ob2 σ, g2 σ hq2, (wpOp_act hx _).2 ⟨u, insD q1 ob1 (insD q2 ob2 σ), act_congr hxS (g1 _ ?_), ?_⟩⟩
   ·rw [look_insD hq2, if_neg (Ne.symm hne)]; exact hq1
   ·rw [insD_comm (Ne.symm hne)]; exact h3
theorem idx_mono {ms : List MOper} : ∀ (l : List Nat) {S : Sl} {σ : Sto} {Q Q' : Sl → Sto → Prop}, WpIdx P ms l S σ Q → (∀ S' σ', Q S' σ' → Q' S' σ') → WpIdx P ms l S σ Q'
 | [], S, σ, Q, Q', h, hq => hq _ _ h
 | i :: l, S, σ, Q, Q', h, hq => by
   simp only [WpIdx] at h ⊢
   split at h
   ·exact wpOp_mono' h fun S' σ' h' => idx_mono l h' hq
   ·exact h.elim
def MOper.less (m : MOper) (p : Nat → Bool) : MOper :=
 match m.op with
 | .stA n a x oth => { m with op := .stA n a x (oth.filter p) }
 | .appA es b s x oth => { m with op := .appA es b s x (oth.filter p) }
 | .callVA x l oth => { m with op := .callVA x l (oth.filter p) }
 | _ => m
def MOper.looks (m : MOper) : List Nat :=
 match m.op with
 | .stA _ _ _ oth => oth
 | .appA _ _ _ _ oth => oth
 | .callVA _ _ oth => oth
 | _ => []
def MOp.bare : MOp → MOp
 | .stA n a x _ => .st n a x
 | .appA es b s x _ => .app es b s x
 | .callVA x l _ => .callVF x l
 | m => m
def isLd : MOp → Bool
 | .ld _ (.t _) => true
 | _ => false
def passes (x y : MOper) (between : List (Option Nat)) : Bool :=
 match y.op with
 | .stA n a b oth =>
   (match x.dst with | some d => !(([a, b].flatMap Opd.slots) ++ (match y.guard with | some (g, _) => [g] | none => [])).contains d && y.dst != some d | none => true) &&
   (match y.dst with | some d => !x.reads.contains d | none => true) && decide (x.op.cl ≤ 2) &&
   (match needs x.op with | some ns => ns.all fun s => oth.contains s && !between.contains (some s) && x.dst != some s | none => false)
 | .appA _ _ a b oth =>
   (match x.dst with | some d => !(([a, b].flatMap Opd.slots) ++ (match y.guard with | some (g, _) => [g] | none => [])).contains d && y.dst != some d | none => true) &&
   (match y.dst with | some d => !x.reads.contains d | none => true) && decide (x.op.cl ≤ 2) &&
   (match needs x.op with | some ns => ns.all fun s => oth.contains s && !between.contains (some s) && x.dst != some s | none => false)
 | .callVA a l oth =>
   (match x.dst with | some d => !(((a :: l).flatMap Opd.slots) ++ (match y.guard with | some (g, _) => [g] | none => [])).contains d && y.dst != some d | none => true) &&
   (match y.dst with | some d => !x.reads.contains d | none => true) && (x.op.cl == 0 || (x.op.cl == 1 && needs x.op != some [])) &&
   (match needs x.op with | some ns => ns.all fun s => oth.contains s && !between.contains (some s) && x.dst != some s | none => false)
 | _ => false
theorem swap_st {x : MOper} {d : Option Nat} {g : Option (Nat × Bool)} {n : Nat} {a b : Opd} {oth Ns : List Nat} (h1 : ∀ e, x.dst = some e → e ∉ ([a, b].flatMap Opd.slots) ++ (match g with | some (g, _) => [g] | none => []) ∧ d ≠ some e) (h2 : ∀ e, d = some e → e ∉ x.reads) (hx : x.op.cl ≤ 2)
 (hN : needs x.op = some Ns) (hNs : ∀ s ∈ Ns, s ∈ oth ∧ x.dst ≠ some s) {K : Sl → Sto → Prop} (h : WpOp P x S σ fun S' σ' => WpOp P ⟨d, .stA n a b oth, g⟩ S' σ' K) :
 WpOp P ⟨d, .stA n a b (oth.filter fun s => x.dst != some s), g⟩ S σ fun S' σ' => WpOp P x S' σ' K := by
 have hx5 : x.op.cl ≤ 5 := by omega
 have hst : ∀ oth, (MOp.stA n a b oth).cl ≤ 6 := fun _ => by simp [MOp.cl]
 rw [wpOp_act (show x.op.cl ≤ 6 by omega)] at h
 obtain ⟨u, σ1, ha, h⟩ := h
 rw [wpOp_act (hst _)] at h
 obtain ⟨v, σ2, hb, h3⟩ := h
 have hxS : ∀ j ∈ x.reads, S j = (S.putd d v) j := fun j hj => (putd_other (fun e => h2 j e hj) v).symm
 have hcom : (S.putd x.dst u).putd d v = (S.putd d v).putd x.dst u := putd_comm (fun e he => (h1 e he).2) u v
 rw [hcom] at h3
 rw [wpOp_act (hst _)]
 -- the store's guard and operands read the same
 have hev : ∀ y ∈ [a, b], ev (S.putd x.dst u) y = ev S y := by
  intro y hy
  refine ev_congr fun j hj => putd_other (fun e => ?_) u
  exact (h1 j e).1 (List.mem_append.2 (.inl (List.mem_flatMap.2 ⟨y, hy, hj⟩)))
 have hguard : ∀ q t, g = some (q, t) → (S.putd x.dst u) q = S q := by
  intro q t hg
  refine putd_other (fun e => ?_) u
  refine (h1 q e).1 (List.mem_append.2 (.inr ?_))
  rw [hg]; simp
 have core : Fn1 P (.stA n a b oth) (S.putd x.dst u) σ1 v σ2 → ∃ σ1', Act1 P x S σ1' u σ2 ∧ Fn1 P (.stA n a b (oth.filter fun s => x.dst != some s)) S σ v σ1' := by
  intro hf
  simp only [Fn1, evOp, hev a (by simp), hev b (by simp)] at hf
  split at hf
  ·rename_i o i j w hw1 hw2
   split at hf
   ·simp at hf
   ·rename_i w _ _ ob hnt hob
    split at hf
    ·rename_i r hr
     split at hf
     ·rename_i hc
      injection hf with hf; injection hf with e1 e2; subst e1; subst e2
      have hoffs : ∀ s ∈ oth, ∃ w, (S.putd x.dst u) s = some w ∧ w.off o = true := by
       intro s hs
       have := hc.2
       simp only [offs, List.all_eq_true] at this
       have := this s hs
       split at this
       ·rename_i w hw; exact ⟨w, hw, this⟩
       ·simp at this
      have hoff : ∀ s ∈ Ns, ∃ w, S s = some w ∧ w.off o = true := by
       intro s hs
       obtain ⟨w, hw1, hw2⟩ := hoffs s (hNs s hs).1
       rw [putd_other (hNs s hs).2] at hw1
       exact ⟨w, hw1, hw2⟩
      obtain ⟨hlk, hd⟩ := getOb_some hob
      -- what x came to left the store's object alone
      have hxa : ∃ (hs : σ1 = σ), Act1 P x S (setOb σ o { ob with cells := ob.cells.set i (splice r j w.cells) }) u (setOb σ o { ob with cells := ob.cells.set i (splice r j w.cells) }) := by
       have hfx : Fn1 P x.op S σ u σ1 → σ1 = σ ∧ Fn1 P x.op S (setOb σ o { ob with cells := ob.cells.set i (splice r j w.cells) }) u (setOb σ o { ob with cells := ob.cells.set i (splice r j w.cells) }) := by
        intro hfx
        have hlk' : ∃ ob0, look σ o = some ob0 ∧ ob0.es = ob.es := by
         obtain ⟨l, hl, _⟩ := fn_read hx hfx
         rw [hl, look_frz] at hlk
         obtain ⟨ob0, h0, h01⟩ := opt_map_some hlk
         refine ⟨ob0, h0, ?_⟩
         rw [← h01]; split <;> rfl
        obtain ⟨ob0, h0, hes⟩ := hlk'
        exact fn_read_wr hN hfx h0 (by simpa using hes.symm) hoff
       unfold Act1 at ha ⊢
       cases hg : x.guard with
       | none => rw [hg] at ha; exact ⟨(hfx ha).1, (hfx ha).2⟩
       | some db =>
         obtain ⟨q, t⟩ := db
         simp only [hg] at ha ⊢
         generalize S q = u0 at ha ⊢
         cases u0 with
         | none => exact ha.elim
         | some u1 =>
           cases u1 <;> (try exact ha.elim)
           ·rename_i t'
            by_cases e : t' = t
            ·obtain ⟨g1, g2⟩ := hfx (ha.1 e)
             exact ⟨g1, fun _ => g2, fun hn => (hn e).elim⟩
            ·obtain ⟨g1, g2⟩ := ha.2 e
             exact ⟨g2, fun he => (e he).elim, fun _ => ⟨g1, trivial⟩⟩
           ·rename_i l
            cases l with
            | nil => exact ⟨ha.2, ha.1, trivial⟩
            | cons => exact ha.elim
      obtain ⟨rfl, hxa⟩ := hxa
      refine ⟨_, hxa, ?_⟩
      simp only [Fn1, evOp, hw1, hw2, hob, hr]
      rw [if_pos]
      refine ⟨hc.1, ?_⟩
      simp only [offs, List.all_eq_true, List.mem_filter]
      rintro s ⟨hs, hsd⟩
      obtain ⟨w', hw1', hw2'⟩ := hoffs s hs
      rw [putd_other (by simpa using hsd)] at hw1'
      rw [hw1']; exact hw2'
     ·simp at hf
    ·simp at hf
   ·simp at hf
  ·simp at hf
 have skip : v = .tup [] → σ2 = σ1 → ∃ σ1', Act1 P x S σ1' u σ2 ∧ v = .tup [] ∧ σ1' = σ := fun e1 e2 => ⟨σ, by rw [e2]; exact ha, e1, rfl⟩
 have fin : ∀ σ1', Act1 P x S σ1' u σ2 → Act1 P ⟨d, .stA n a b (oth.filter fun s => x.dst != some s), g⟩ S σ v σ1' → ∃ v σ', Act1 P ⟨d, .stA n a b (oth.filter fun s => x.dst != some s), g⟩ S σ v σ' ∧ WpOp P x (S.putd d v) σ' K :=
  fun σ1' q1 q2 => ⟨v, σ1', q2, (wpOp_act (show x.op.cl ≤ 6 by omega) _).2 ⟨u, σ2, act_congr hxS q1, h3⟩⟩
 unfold Act1 at hb
 cases hg : g with
 | none =>
   rw [hg] at hb fin
   obtain ⟨σ1', q1, q2⟩ := core hb
   exact fin σ1' q1 q2
 | some db =>
   obtain ⟨q, t⟩ := db
   rw [hg] at hb fin
   simp only [] at hb
   rw [hguard q t hg] at hb
   have fin2 : ∀ σ1', Act1 P x S σ1' u σ2 → (match S q with
    | some (.bool t') => (t' = t → Fn1 P (.stA n a b (oth.filter fun s => x.dst != some s)) S σ v σ1') ∧ (t' ≠ t → v = .tup [] ∧ σ1' = σ)
    | some (.tup []) => v = .tup [] ∧ σ1' = σ
    | _ => False) → ∃ v σ', Act1 P ⟨d, .stA n a b (oth.filter fun s => x.dst != some s), some (q, t)⟩ S σ v σ' ∧ WpOp P x (S.putd d v) σ' K := fin
   generalize S q = u0 at hb fin2
   cases u0 with
   | none => exact hb.elim
   | some u1 =>
     cases u1 <;> (try exact hb.elim)
     ·rename_i t'
      by_cases e : t' = t
      ·obtain ⟨σ1', q1, q2⟩ := core (hb.1 e)
       exact fin2 σ1' q1 ⟨fun _ => q2, fun hn => (hn e).elim⟩
      ·obtain ⟨e1, e2⟩ := hb.2 e
       obtain ⟨σ1', q1, q2, q3⟩ := skip e1 e2
       exact fin2 σ1' q1 ⟨fun he => (e he).elim, fun _ => ⟨q2, q3⟩⟩
     ·rename_i l
      cases l with
      | nil =>
        obtain ⟨σ1', q1, q2, q3⟩ := skip hb.1 hb.2
        exact fin2 σ1' q1 ⟨q2, q3⟩
      | cons => exact hb.elim
theorem fresh_was {o : Nat} {x : Ob} (h : look σ o = some x) (y : Ob) : fresh (setOb σ o y) = fresh σ := by
 have h1 := look_lt_fresh h
 have h2 := fresh_filter σ o
 simp only [setOb, fresh]
 omega
theorem swap_app {x : MOper} {d : Option Nat} {g : Option (Nat × Bool)} {es bytes : Nat} {a b : Opd} {oth Ns : List Nat} (h1 : ∀ e, x.dst = some e → e ∉ ([a, b].flatMap Opd.slots) ++ (match g with | some (g, _) => [g] | none => []) ∧ d ≠ some e) (h2 : ∀ e, d = some e → e ∉ x.reads) (hx : x.op.cl ≤ 2)
 (hN : needs x.op = some Ns) (hNs : ∀ s ∈ Ns, s ∈ oth ∧ x.dst ≠ some s) {K : Sl → Sto → Prop} (h : WpOp P x S σ fun S' σ' => WpOp P ⟨d, .appA es bytes a b oth, g⟩ S' σ' K) :
 WpOp P ⟨d, .appA es bytes a b (oth.filter fun s => x.dst != some s), g⟩ S σ fun S' σ' => WpOp P x S' σ' K := by
 have hst : ∀ oth, (MOp.appA es bytes a b oth).cl ≤ 6 := fun _ => by simp [MOp.cl]
 rw [wpOp_act (show x.op.cl ≤ 6 by omega)] at h
 obtain ⟨u, σ1, ha, h⟩ := h
 rw [wpOp_act (hst _)] at h
 obtain ⟨v, σ2, hb, h3⟩ := h
 have hxS : ∀ j ∈ x.reads, S j = (S.putd d v) j := fun j hj => (putd_other (fun e => h2 j e hj) v).symm
 have hcom : (S.putd x.dst u).putd d v = (S.putd d v).putd x.dst u := putd_comm (fun e he => (h1 e he).2) u v
 rw [hcom] at h3
 rw [wpOp_act (hst _)]
 have hev : ∀ y ∈ [a, b], ev (S.putd x.dst u) y = ev S y := by
  intro y hy
  refine ev_congr fun j hj => putd_other (fun e => ?_) u
  exact (h1 j e).1 (List.mem_append.2 (.inl (List.mem_flatMap.2 ⟨y, hy, hj⟩)))
 have hguard : ∀ q t, g = some (q, t) → (S.putd x.dst u) q = S q := by
  intro q t hg
  refine putd_other (fun e => ?_) u
  refine (h1 q e).1 (List.mem_append.2 (.inr ?_))
  rw [hg]; simp
 have core : Fn1 P (.appA es bytes a b oth) (S.putd x.dst u) σ1 v σ2 → ∃ σ1', Act1 P x S σ1' u σ2 ∧ Fn1 P (.appA es bytes a b (oth.filter fun s => x.dst != some s)) S σ v σ1' := by
  intro hf
  simp only [Fn1, evOp, hev a (by simp), hev b (by simp)] at hf
  split at hf
  ·rename_i s t hs ht
   split at hf
   ·rename_i xs hxs
    split at hf
    ·rename_i hc
     obtain ⟨l, hl, -⟩ := act_read hx ha
     have hxs' : elems σ es t = some xs := by rw [hl, elems_frz] at hxs; exact hxs
     have hoffs : ∀ o, offs (S.putd x.dst u) oth o = true → (∀ s ∈ oth, ∃ w, (S.putd x.dst u) s = some w ∧ w.off o = true) ∧ offs S (oth.filter fun s => x.dst != some s) o = true ∧ ∀ s ∈ Ns, ∃ w, S s = some w ∧ w.off o = true := by
      intro o ho
      have k1 : ∀ s ∈ oth, ∃ w, (S.putd x.dst u) s = some w ∧ w.off o = true := by
       intro s hs
       simp only [offs, List.all_eq_true] at ho
       have := ho s hs
       split at this
       ·rename_i w hw; exact ⟨w, hw, this⟩
       ·simp at this
      refine ⟨k1, ?_, ?_⟩
      ·simp only [offs, List.all_eq_true, List.mem_filter]
       rintro s ⟨hs, hsd⟩
       obtain ⟨w', hw1', hw2'⟩ := k1 s hs
       rw [putd_other (by simpa using hsd)] at hw1'
       rw [hw1']; exact hw2'
      ·intro s hs
       obtain ⟨w, hw1, hw2⟩ := k1 s (hNs s hs).1
       rw [putd_other (hNs s hs).2] at hw1
       exact ⟨w, hw1, hw2⟩
     have hchk : offA S (oth.filter fun s => x.dst != some s) s = true := by
      cases s <;> simp only [offA] at hc ⊢
      exact (hoffs _ hc).2.1
     have mk : ∀ σ1', appV σ es bytes xs s = some (v, σ1') → Fn1 P (.appA es bytes a b (oth.filter fun s => x.dst != some s)) S σ v σ1' := by
      intro σ1' hv
      simp only [Fn1, evOp, hs, ht, hxs', hchk, if_true]
      exact hv
     cases xs with
     | nil =>
       have e0 : σ2 = σ1 ∧ appV σ es bytes [] s = some (v, σ) := by
        cases s <;> simp only [appV] at hf ⊢ <;> first
         | (simp at hf; done)
         | (injection hf with hf; injection hf with e1 e2; subst e1; exact ⟨e2.symm, rfl⟩)
       obtain ⟨rfl, e0⟩ := e0
       exact ⟨σ, ha, mk σ e0⟩
     | cons y r =>
       cases s <;> simp only [appV] at hf <;> (try (simp at hf; done))
       ·-- a nil slice
        split at hf
        ·rename_i hroom
         injection hf with hf; injection hf with e1 e2
         obtain ⟨l2, rfl, hnl, hset⟩ := act_read_set hx ha ⟨.own, es, y :: r⟩
         rw [fresh_frz] at e1 e2
         refine ⟨setOb σ (fresh σ) ⟨.own, es, y :: r⟩, ?_, mk _ ?_⟩
         ·rw [← e2, ← frz_set l2 _ _ hnl]; exact hset
         ·simp only [appV]
          rw [if_pos hroom, ← e1]
        ·simp at hf
       ·rename_i o off len
        simp only [offA] at hc
        obtain ⟨k1, k2, hoff⟩ := hoffs o hc
        split at hf
        case h_2 => simp at hf
        rename_i ob hob
        obtain ⟨hlk, hd⟩ := getOb_some hob
        have hxa : σ1 = σ ∧ ∀ ob2 : Ob, ob2.es = ob.es → Act1 P x S (setOb σ o ob2) u (setOb σ o ob2) := by
         have hlk' : ∃ ob0, look σ o = some ob0 ∧ ob0.es = ob.es := by
          rw [hl, look_frz] at hlk
          obtain ⟨ob0, h0, h01⟩ := opt_map_some hlk
          refine ⟨ob0, h0, ?_⟩
          rw [← h01]; split <;> rfl
         obtain ⟨ob0, h0, hes⟩ := hlk'
         have hfx : Fn1 P x.op S σ u σ1 → σ1 = σ ∧ ∀ ob2 : Ob, ob2.es = ob.es → Fn1 P x.op S (setOb σ o ob2) u (setOb σ o ob2) := by
          intro hfx
          exact ⟨(fn_read_wr hN hfx h0 (ob2 := ob0) rfl hoff).1, fun ob2 h2 => (fn_read_wr hN hfx h0 (ob2 := ob2) (by rw [h2, hes]) hoff).2⟩
         unfold Act1 at ha ⊢
         cases hg : x.guard with
         | none => rw [hg] at ha; exact hfx ha
         | some db =>
           obtain ⟨q, t⟩ := db
           simp only [hg] at ha ⊢
           generalize S q = u0 at ha ⊢
           cases u0 with
           | none => exact ha.elim
           | some u1 =>
             cases u1 <;> (try exact ha.elim)
             ·rename_i t'
              by_cases e : t' = t
              ·obtain ⟨g1, g2⟩ := hfx (ha.1 e)
               exact ⟨g1, fun ob2 h2 => ⟨fun _ => g2 ob2 h2, fun hn => (hn e).elim⟩⟩
              ·obtain ⟨g1, g2⟩ := ha.2 e
               exact ⟨g2, fun ob2 h2 => ⟨fun he => (e he).elim, fun _ => ⟨g1, trivial⟩⟩⟩
             ·rename_i l
              cases l with
              | nil => exact ⟨ha.2, fun ob2 h2 => ⟨ha.1, trivial⟩⟩
              | cons => exact ha.elim
        obtain ⟨rfl, hxa⟩ := hxa
        have fin : ∀ nob : Ob, es = ob.es → Act1 P x S (setOb (setOb σ1 o ⟨.dead, es, []⟩) (fresh σ1) nob) u (setOb (setOb σ1 o ⟨.dead, es, []⟩) (fresh σ1) nob) := by
         intro nob hes
         have hA := hxa ⟨.dead, es, []⟩ hes
         obtain ⟨l2, e1, hnl, hset⟩ := act_read_set hx hA nob
         rw [fresh_was hlk] at hnl hset
         rw [frz_set l2 _ _ hnl, ← e1] at hset
         exact hset
        refine ⟨σ2, ?_, mk σ2 ?_⟩
        ·split at hf
         ·rename_i hq
          injection hf with hf; injection hf with e1 e2
          rw [← e2]; exact fin _ hq.2.1.symm
         ·split at hf
          ·rename_i hq
           injection hf with hf; injection hf with e1 e2
           rw [← e2]; exact fin _ hq.2.1.symm
          ·simp at hf
        ·simp only [appV, hob]
         exact hf
    ·simp at hf
   ·simp at hf
  ·simp at hf
 have skip : v = .tup [] → σ2 = σ1 → ∃ σ1', Act1 P x S σ1' u σ2 ∧ v = .tup [] ∧ σ1' = σ := fun e1 e2 => ⟨σ, by rw [e2]; exact ha, e1, rfl⟩
 have fin : ∀ σ1', Act1 P x S σ1' u σ2 → Act1 P ⟨d, .appA es bytes a b (oth.filter fun s => x.dst != some s), g⟩ S σ v σ1' → ∃ v σ', Act1 P ⟨d, .appA es bytes a b (oth.filter fun s => x.dst != some s), g⟩ S σ v σ' ∧ WpOp P x (S.putd d v) σ' K :=
  fun σ1' q1 q2 => ⟨v, σ1', q2, (wpOp_act (show x.op.cl ≤ 6 by omega) _).2 ⟨u, σ2, act_congr hxS q1, h3⟩⟩
 unfold Act1 at hb
 cases hg : g with
 | none =>
   rw [hg] at hb fin
   obtain ⟨σ1', q1, q2⟩ := core hb
   exact fin σ1' q1 q2
 | some db =>
   obtain ⟨q, t⟩ := db
   rw [hg] at hb fin
   simp only [] at hb
   rw [hguard q t hg] at hb
   have fin2 : ∀ σ1', Act1 P x S σ1' u σ2 → (match S q with
    | some (.bool t') => (t' = t → Fn1 P (.appA es bytes a b (oth.filter fun s => x.dst != some s)) S σ v σ1') ∧ (t' ≠ t → v = .tup [] ∧ σ1' = σ)
    | some (.tup []) => v = .tup [] ∧ σ1' = σ
    | _ => False) → ∃ v σ', Act1 P ⟨d, .appA es bytes a b (oth.filter fun s => x.dst != some s), some (q, t)⟩ S σ v σ' ∧ WpOp P x (S.putd d v) σ' K := fin
   generalize S q = u0 at hb fin2
   cases u0 with
   | none => exact hb.elim
   | some u1 =>
     cases u1 <;> (try exact hb.elim)
     ·rename_i t'
      by_cases e : t' = t
      ·obtain ⟨σ1', q1, q2⟩ := core (hb.1 e)
       exact fin2 σ1' q1 ⟨fun _ => q2, fun hn => (hn e).elim⟩
      ·obtain ⟨e1, e2⟩ := hb.2 e
       obtain ⟨σ1', q1, q2, q3⟩ := skip e1 e2
       exact fin2 σ1' q1 ⟨fun he => (e he).elim, fun _ => ⟨q2, q3⟩⟩
     ·rename_i l
      cases l with
      | nil =>
        obtain ⟨σ1', q1, q2, q3⟩ := skip hb.1 hb.2
        exact fin2 σ1' q1 ⟨q2, q3⟩
      | cons => exact hb.elim
theorem ldV_stays {k : Option Nat} {u v : V} {σ1 τ : Sto} (hs : ∀ o i j, u = .ptr o i j → look τ o = look σ o) (h : ldV σ k u = some (v, σ1)) : σ1 = σ ∧ ldV τ k u = some (v, τ) := by
 cases u <;> simp only [ldV] at h ⊢ <;> (try (simp at h; done))
 ·rename_i o i j
  have e : getOb τ o = getOb σ o := by unfold getOb; rw [hs o i j rfl]
  rw [e]
  split at h
  ·rename_i x hx
   split at h
   ·rename_i r hr
    obtain ⟨y, h1, h2⟩ := opt_map_some h
    injection h2 with h2 h3; subst h2; subst h3
    exact ⟨rfl, by simp only [hr, h1]; rfl⟩
   ·simp at h
  ·simp at h
 ·obtain ⟨y, h1, h2⟩ := opt_map_some h
  injection h2 with h2 h3; subst h2; subst h3
  exact ⟨rfl, by rw [h1]; rfl⟩
theorem isLd_of {m : MOp} {ns : List Nat} (h1 : m.cl = 1) (h2 : needs m = some ns) (h3 : ns ≠ []) : isLd m = true := by
 cases m <;> (try (simp [MOp.cl] at h1; done)) <;> simp only [needs] at h2
 ·rename_i k p
  cases p <;> first | rfl | simp at h2
 all_goals first
  | (injection h2 with h2; exact (h3 h2.symm).elim)
  | (simp [MOp.cl] at h2; done)
theorem swap_cv {x : MOper} {d : Option Nat} {g : Option (Nat × Bool)} {a : Opd} {l : List Opd} {oth Ns : List Nat} (h1 : ∀ e, x.dst = some e → e ∉ ((a :: l).flatMap Opd.slots) ++ (match g with | some (g, _) => [g] | none => []) ∧ d ≠ some e) (h2 : ∀ e, d = some e → e ∉ x.reads) (hx : x.op.cl = 0 ∨ isLd x.op = true)
 (hN : needs x.op = some Ns) (hNs : ∀ s ∈ Ns, s ∈ oth ∧ x.dst ≠ some s) {K : Sl → Sto → Prop} (h : WpOp P x S σ fun S' σ' => WpOp P ⟨d, .callVA a l oth, g⟩ S' σ' K) :
 WpOp P ⟨d, .callVA a l (oth.filter fun s => x.dst != some s), g⟩ S σ fun S' σ' => WpOp P x S' σ' K := by
 have hst : ∀ oth, (MOp.callVA a l oth).cl ≤ 6 := fun _ => by simp [MOp.cl]
 have hx2 : x.op.cl ≤ 6 := by
  rcases hx with hx | hx
  ·omega
  obtain ⟨xd, xo, xg⟩ := x
  cases xo <;> first | (simp [isLd] at hx; done) | simp [MOp.cl]
 rw [wpOp_act hx2] at h
 obtain ⟨u, σ1, ha, h⟩ := h
 rw [wpOp_act (hst _)] at h
 obtain ⟨v, σ2, hb, h3⟩ := h
 have hxS : ∀ j ∈ x.reads, S j = (S.putd d v) j := fun j hj => (putd_other (fun e => h2 j e hj) v).symm
 have hcom : (S.putd x.dst u).putd d v = (S.putd d v).putd x.dst u := putd_comm (fun e he => (h1 e he).2) u v
 rw [hcom] at h3
 rw [wpOp_act (hst _)]
 have hev : ∀ y ∈ a :: l, ev (S.putd x.dst u) y = ev S y := by
  intro y hy
  refine ev_congr fun j hj => putd_other (fun e => ?_) u
  exact (h1 j e).1 (List.mem_append.2 (.inl (List.mem_flatMap.2 ⟨y, hy, hj⟩)))
 have hevs : evs (S.putd x.dst u) l = evs S l := evs_congr fun y hy => hev y (by simp [hy])
 have hguard : ∀ q t, g = some (q, t) → (S.putd x.dst u) q = S q := by
  intro q t hg
  refine putd_other (fun e => ?_) u
  refine (h1 q e).1 (List.mem_append.2 (.inr ?_))
  rw [hg]; simp
 -- a load leaves the store alone, and tells the same where what it points at stays
 have ldS : σ1 = σ ∧ ∀ τ, (∀ s ∈ Ns, ∀ o i j, S s = some (.ptr o i j) → look τ o = look σ o) → Act1 P x S τ u τ := by
  rcases hx with hx | hx
  ·obtain ⟨e, h⟩ := act_pure hx ha
   exact ⟨e, fun τ _ => h τ⟩
  have hfx : Fn1 P x.op S σ u σ1 → σ1 = σ ∧ ∀ τ, (∀ s ∈ Ns, ∀ o i j, S s = some (.ptr o i j) → look τ o = look σ o) → Fn1 P x.op S τ u τ := by
   intro hfx
   obtain ⟨xd, xo, xg⟩ := x
   cases xo <;> (try (simp [isLd] at hx; done))
   rename_i k p
   cases p with
   | c c => simp [isLd] at hx
   | t p =>
     simp only [needs] at hN
     injection hN with hN; subst hN
     simp only [Fn1, evOp] at hfx ⊢
     split at hfx
     ·rename_i w hw
      refine ⟨(ldV_stays (τ := σ) (fun _ _ _ _ => rfl) hfx).1, fun τ ht => ?_⟩
      exact (ldV_stays (fun o i j e => ht p (by simp) o i j (by rw [← e]; exact hw)) hfx).2
     ·simp at hfx
  unfold Act1 at ha ⊢
  cases hg : x.guard with
  | none => rw [hg] at ha; exact hfx ha
  | some db =>
    obtain ⟨q, t⟩ := db
    simp only [hg] at ha ⊢
    generalize S q = u0 at ha ⊢
    cases u0 with
    | none => exact ha.elim
    | some u1 =>
      cases u1 <;> (try exact ha.elim)
      ·rename_i t'
       by_cases e : t' = t
       ·obtain ⟨g1, g2⟩ := hfx (ha.1 e)
        exact ⟨g1, fun τ ht => ⟨fun _ => g2 τ ht, fun hn => (hn e).elim⟩⟩
       ·obtain ⟨g1, g2⟩ := ha.2 e
        exact ⟨g2, fun τ _ => ⟨fun he => (e he).elim, fun _ => ⟨g1, trivial⟩⟩⟩
      ·rename_i l
       cases l with
       | nil => exact ⟨ha.2, fun τ _ => ⟨ha.1, trivial⟩⟩
       | cons => exact ha.elim
 obtain ⟨rfl, hld⟩ := ldS
 have core : Fn1 P (.callVA a l oth) (S.putd x.dst u) σ1 v σ2 → Act1 P x S σ2 u σ2 ∧ Fn1 P (.callVA a l (oth.filter fun s => x.dst != some s)) S σ1 v σ2 := by
  rintro ⟨f, cap, vs, e1, e2, e3, e4⟩
  rw [hev a (by simp)] at e1
  rw [hevs] at e2
  refine ⟨hld σ2 fun s hs o i j e => ?_, f, cap, vs, e1, e2, e3, fun s hs o i j e => ?_⟩
  ·refine e4 s (hNs s hs).1 o i j ?_
   rw [putd_other (hNs s hs).2]; exact e
  ·obtain ⟨h1, h2⟩ := List.mem_filter.1 hs
   refine e4 s h1 o i j ?_
   rw [putd_other (by simpa using h2)]; exact e
 have skip : v = .tup [] → σ2 = σ1 → Act1 P x S σ2 u σ2 := fun e1 e2 => hld σ2 fun s _ o i j _ => by rw [e2]
 have fin : Act1 P x S σ2 u σ2 → Act1 P ⟨d, .callVA a l (oth.filter fun s => x.dst != some s), g⟩ S σ1 v σ2 → ∃ v σ', Act1 P ⟨d, .callVA a l (oth.filter fun s => x.dst != some s), g⟩ S σ1 v σ' ∧ WpOp P x (S.putd d v) σ' K :=
  fun q1 q2 => ⟨v, σ2, q2, (wpOp_act hx2 _).2 ⟨u, σ2, act_congr hxS q1, h3⟩⟩
 unfold Act1 at hb
 cases hg : g with
 | none =>
   rw [hg] at hb fin
   obtain ⟨q1, q2⟩ := core hb
   exact fin q1 q2
 | some db =>
   obtain ⟨q, t⟩ := db
   rw [hg] at hb fin
   simp only [] at hb
   rw [hguard q t hg] at hb
   have fin2 : Act1 P x S σ2 u σ2 → (match S q with
    | some (.bool t') => (t' = t → Fn1 P (.callVA a l (oth.filter fun s => x.dst != some s)) S σ1 v σ2) ∧ (t' ≠ t → v = .tup [] ∧ σ2 = σ1)
    | some (.tup []) => v = .tup [] ∧ σ2 = σ1
    | _ => False) → ∃ v σ', Act1 P ⟨d, .callVA a l (oth.filter fun s => x.dst != some s), some (q, t)⟩ S σ1 v σ' ∧ WpOp P x (S.putd d v) σ' K := fin
   generalize S q = u0 at hb fin2
   cases u0 with
   | none => exact hb.elim
   | some u1 =>
     cases u1 <;> (try exact hb.elim)
     ·rename_i t'
      by_cases e : t' = t
      ·obtain ⟨q1, q2⟩ := core (hb.1 e)
       exact fin2 q1 ⟨fun _ => q2, fun hn => (hn e).elim⟩
      ·obtain ⟨e1, e2⟩ := hb.2 e
       exact fin2 (skip e1 e2) ⟨fun he => (e he).elim, fun _ => ⟨e1, e2⟩⟩
     ·rename_i l
      cases l with
      | nil => exact fin2 (skip hb.1 hb.2) hb
      | cons => exact hb.elim
theorem less_less (m : MOper) (p q : Nat → Bool) : (m.less p).less q = m.less fun s => p s && q s := by
 obtain ⟨d, o, g⟩ := m
 cases o <;> simp only [MOper.less]
 all_goals simp [List.filter_filter, Bool.and_comm]
theorem less_guard (m : MOper) (p : Nat → Bool) : (m.less p).guard = m.guard ∧ (m.less p).dst = m.dst := by
 obtain ⟨d, o, g⟩ := m
 cases o <;> exact ⟨rfl, rfl⟩
theorem step_less {m : MOper} {p : Nat → Bool} {K : V → Sto → Prop} (h : Step P m.op S σ K) : Step P (m.less p).op S σ K := by
 obtain ⟨d, o, g⟩ := m
 cases o <;> simp only [MOper.less] at h ⊢ <;> (try exact h)
 case callVA x l oth =>
  obtain ⟨f, cap, vs, r, s, h1, h2, h3, h4, h5⟩ := h
  exact ⟨f, cap, vs, r, s, h1, h2, h3, fun q hq => h4 q (List.mem_filter.1 hq).1, h5⟩
 case appA es bytes a b oth =>
  obtain ⟨v, σ', he, hK⟩ := h
  refine ⟨v, σ', ?_, hK⟩
  simp only [evOp] at he ⊢
  split at he
  ·rename_i s t hs ht
   split at he
   ·split at he
    ·rename_i hc
     rw [if_pos]
     ·exact he
     ·cases s <;> simp only [offA] at hc ⊢
      simp only [offs, List.all_eq_true, List.mem_filter] at hc ⊢
      exact fun s hs => hc s hs.1
    ·simp at he
   ·simp at he
  ·simp at he
 rename_i n a b oth
 obtain ⟨v, σ', he, hK⟩ := h
 refine ⟨v, σ', ?_, hK⟩
 simp only [evOp] at he ⊢
 split at he
 ·rename_i o i j w hw1 hw2
  split at he
  ·simp at he
  ·rename_i w _ _ ob hnt hob
   split at he
   ·rename_i r hr
    split at he
    ·rename_i hc
     rw [if_pos]
     ·exact he
     ·refine ⟨hc.1, ?_⟩
      have := hc.2
      simp only [offs, List.all_eq_true, List.mem_filter] at this ⊢
      exact fun s hs => this s hs.1
    ·simp at he
   ·simp at he
  ·simp at he
 ·simp at he
theorem step_bare {m : MOper} {K : V → Sto → Prop} (h : Step P m.op S σ K) : Step P m.op.bare S σ K := by
 obtain ⟨d, o, g⟩ := m
 cases o <;> simp only [MOp.bare] at h ⊢ <;> (try exact h)
 case callVA x l oth =>
  obtain ⟨f, cap, vs, r, s, h1, h2, h3, h4, h5⟩ := h
  exact ⟨f, cap, vs, r, s, h1, h2, h3, h5⟩
 case appA es bytes a b oth =>
  obtain ⟨v, σ', he, hK⟩ := h
  refine ⟨v, σ', ?_, hK⟩
  simp only [evOp] at he ⊢
  split at he
  ·split at he
   ·split at he
    ·exact he
    ·simp at he
   ·simp at he
  ·simp at he
 rename_i n a b oth
 obtain ⟨v, σ', he, hK⟩ := h
 refine ⟨v, σ', ?_, hK⟩
 simp only [evOp] at he ⊢
 split at he
 ·rename_i o i j w hw1 hw2
  split at he
  ·simp at he
  ·rename_i w _ _ ob hnt hob
   split at he
   ·rename_i r hr
    split at he
    ·rename_i hc
     rw [if_pos hc.1]
     exact he
    ·simp at he
   ·simp at he
  ·simp at he
 ·simp at he
theorem wpOp_step {m m' : MOper} (hg : m'.guard = m.guard) (hd : m'.dst = m.dst) (hs : ∀ K : V → Sto → Prop, Step P m.op S σ K → Step P m'.op S σ K) {K : Sl → Sto → Prop} (h : WpOp P m S σ K) : WpOp P m' S σ K := by
 unfold WpOp at h ⊢
 rw [hg, hd]
 cases hg2 : m.guard with
 | none => rw [hg2] at h; exact hs _ h
 | some db =>
   obtain ⟨d, b⟩ := db
   simp only [hg2] at h ⊢
   split at h
   ·exact ⟨fun e => hs _ (h.1 e), h.2⟩
   ·exact h
   ·exact h.elim
theorem wpOp_less {m : MOper} (p : Nat → Bool) {K : Sl → Sto → Prop} (h : WpOp P m S σ K) : WpOp P (m.less p) S σ K :=
 wpOp_step (less_guard m p).1 (less_guard m p).2 (fun K hs => step_less hs) h
theorem commute_less {x y : MOper} (p : Nat → Bool) (h : commute x y = true) : commute x (y.less p) = true := by
 obtain ⟨d, o, g⟩ := y
 cases o <;> simp only [MOper.less] <;> (try exact h)
 case callVA a l oth =>
  have hr : ∀ j, j ∈ (MOper.reads ⟨d, .callVA a l (oth.filter p), g⟩) → j ∈ (MOper.reads ⟨d, .callVA a l oth, g⟩) := by
   intro j hj
   simp only [MOper.reads, MOp.opds, List.mem_append, List.mem_flatMap, List.mem_cons, List.mem_map, List.mem_filter] at hj ⊢
   rcases hj with ⟨q, h1, h2⟩ | h
   ·refine .inl ⟨q, ?_, h2⟩
    rcases h1 with h | h | ⟨s, ⟨hs, _⟩, h⟩
    ·exact .inl h
    ·exact .inr (.inl h)
    ·exact .inr (.inr ⟨s, hs, h⟩)
   ·exact .inr h
  simp only [commute, Bool.and_eq_true] at h ⊢
  refine ⟨⟨?_, h.1.2⟩, h.2⟩
  have := h.1.1
  cases hd : x.dst with
  | none => rfl
  | some e =>
    rw [hd] at this
    simp only [Bool.and_eq_true, Bool.not_eq_true', List.contains_eq_mem, decide_eq_false_iff_not] at this ⊢
    exact ⟨fun hm => this.1 (hr e hm), this.2⟩
 case appA es bytes a b oth =>
  have hr : ∀ j, j ∈ (MOper.reads ⟨d, .appA es bytes a b (oth.filter p), g⟩) → j ∈ (MOper.reads ⟨d, .appA es bytes a b oth, g⟩) := by
   intro j hj
   simp only [MOper.reads, MOp.opds, List.mem_append, List.mem_flatMap, List.mem_cons, List.mem_map, List.mem_filter] at hj ⊢
   rcases hj with ⟨q, h1, h2⟩ | h
   ·refine .inl ⟨q, ?_, h2⟩
    rcases h1 with h | h | ⟨s, ⟨hs, _⟩, h⟩
    ·exact .inl h
    ·exact .inr (.inl h)
    ·exact .inr (.inr ⟨s, hs, h⟩)
   ·exact .inr h
  simp only [commute, Bool.and_eq_true] at h ⊢
  refine ⟨⟨?_, h.1.2⟩, h.2⟩
  have := h.1.1
  cases hd : x.dst with
  | none => rfl
  | some e =>
    rw [hd] at this
    simp only [Bool.and_eq_true, Bool.not_eq_true', List.contains_eq_mem, decide_eq_false_iff_not] at this ⊢
    exact ⟨fun hm => this.1 (hr e hm), this.2⟩
 rename_i n a b oth
 have hr : ∀ j, j ∈ (MOper.reads ⟨d, .stA n a b (oth.filter p), g⟩) → j ∈ (MOper.reads ⟨d, .stA n a b oth, g⟩) := by
  intro j hj
  simp only [MOper.reads, MOp.opds, List.mem_append, List.mem_flatMap, List.mem_cons, List.mem_map, List.mem_filter] at hj ⊢
  rcases hj with ⟨q, h1, h2⟩ | h
  ·refine .inl ⟨q, ?_, h2⟩
   rcases h1 with h | h | ⟨s, ⟨hs, _⟩, h⟩
   ·exact .inl h
   ·exact .inr (.inl h)
   ·exact .inr (.inr ⟨s, hs, h⟩)
  ·exact .inr h
 simp only [commute, Bool.and_eq_true] at h ⊢
 refine ⟨⟨?_, h.1.2⟩, h.2⟩
 have := h.1.1
 cases hd : x.dst with
 | none => rfl
 | some e =>
   rw [hd] at this
   simp only [Bool.and_eq_true, Bool.not_eq_true', List.contains_eq_mem, decide_eq_false_iff_not] at this ⊢
   exact ⟨fun hm => this.1 (hr e hm), this.2⟩
def dstAt (ms : List MOper) (z : Nat) : Option Nat := (ms[z]?).bind (·.dst)
theorem idx_append {ms : List MOper} : ∀ (l1 l2 : List Nat) {S : Sl} {σ : Sto} {Q : Sl → Sto → Prop}, WpIdx P ms (l1 ++ l2) S σ Q ↔ WpIdx P ms l1 S σ fun S' σ' => WpIdx P ms l2 S' σ' Q
 | [], l2, S, σ, Q => Iff.rfl
 | i :: l1, l2, S, σ, Q => by
   simp only [List.cons_append, WpIdx]
   split
   ·constructor
    ·exact fun h => wpOp_mono' h fun S' σ' h' => (idx_append l1 l2).1 h'
    ·exact fun h => wpOp_mono' h fun S' σ' h' => (idx_append l1 l2).2 h'
   ·exact Iff.rfl
theorem idx_front {ms : List MOper} {p : Nat → Bool} {mi : MOper} : ∀ (k1 : List Nat) {S : Sl} {σ : Sto} {K : Sl → Sto → Prop}, (∀ ka y kb, k1 = ka ++ y :: kb → p y = true → ∀ my, ms[y]? = some my → commute my mi = true ∨ passes my mi (kb.map (dstAt ms)) = true) →
 WpIdx P ms (k1.filter p) S σ (fun S' σ' => WpOp P mi S' σ' K) → WpOp P (mi.less fun s => !(k1.map (dstAt ms)).contains (some s)) S σ fun S' σ' => WpIdx P ms (k1.filter p) S' σ' K
 | [], S, σ, K, _, h => wpOp_less _ h
 | y :: k1, S, σ, K, hc, h => by
   have hc' : ∀ ka z kb, k1 = ka ++ z :: kb → p z = true → ∀ mz, ms[z]? = some mz → commute mz mi = true ∨ passes mz mi (kb.map (dstAt ms)) = true := fun ka z kb e => hc (y :: ka) z kb (by rw [e]; rfl)
   have hcomp : ∀ {q : Nat → Bool}, (∀ s, (!((y :: k1).map (dstAt ms)).contains (some s)) = ((!(k1.map (dstAt ms)).contains (some s)) && q s)) → (mi.less fun s => !((y :: k1).map (dstAt ms)).contains (some s)) = (mi.less fun s => !(k1.map (dstAt ms)).contains (some s)).less q := by
    intro q hq
    rw [less_less]
    congr 1
    funext s
    exact hq s
   have hq0 : ∀ s, (!((y :: k1).map (dstAt ms)).contains (some s)) = ((!(k1.map (dstAt ms)).contains (some s)) && (dstAt ms y != some s)) := by
    intro s
    simp only [List.map_cons, List.contains_cons]
    cases h1 : (k1.map (dstAt ms)).contains (some s) <;> simp [bne, Bool.beq_comm, eq_comm]
   rw [hcomp hq0]
   by_cases hp : p y = true
   ·simp only [List.filter_cons, hp, if_true, WpIdx] at h ⊢
    split at h
    ·rename_i my hmy
     have h1 : WpOp P my S σ fun S' σ' => WpOp P (mi.less fun s => !(k1.map (dstAt ms)).contains (some s)) S' σ' fun S2 σ2 => WpIdx P ms (k1.filter p) S2 σ2 K := wpOp_mono' h fun S' σ' h' => idx_front k1 hc' h'
     have hdy : dstAt ms y = my.dst := by simp [dstAt, hmy]
     rw [hdy]
     try simp only [hmy]
     rcases hc [] y k1 rfl hp my hmy with hco | hpa
     ·exact wpOp_less _ (swap_ops (commute_less _ hco) h1)
     ·obtain ⟨d, o, g⟩ := mi
      cases o <;> (try (simp [passes] at hpa; done))
      case callVA a l oth =>
       simp only [passes, Bool.and_eq_true] at hpa
       obtain ⟨⟨⟨p1, p2⟩, p3⟩, p4⟩ := hpa
       cases hN : needs my.op with
       | none => rw [hN] at p4; simp at p4
       | some Ns =>
         rw [hN] at p4
         simp only [List.all_eq_true, Bool.and_eq_true, Bool.not_eq_true'] at p4
         simp only [MOper.less] at h1 ⊢
         refine swap_cv (Ns := Ns) (fun e he => ?_) (fun e he => ?_) (by
          simp only [Bool.or_eq_true, Bool.and_eq_true, beq_iff_eq] at p3
          rcases p3 with p3 | p3
          ·exact .inl p3
          ·exact .inr (isLd_of p3.1 hN (fun e => by have := p3.2; rw [hN, e] at this; simp at this))) hN (fun s hs => ?_) h1
         ·rw [he] at p1
          simp only [Bool.and_eq_true, Bool.not_eq_true', List.contains_eq_mem, decide_eq_false_iff_not] at p1
          exact ⟨p1.1, by simpa using p1.2⟩
         ·rw [he] at p2
          simpa using p2
         ·have := p4 s hs
          refine ⟨List.mem_filter.2 ⟨by simpa using this.1.1, by rw [this.1.2]; rfl⟩, by simpa using this.2⟩
      case appA es bytes a b oth =>
       simp only [passes, Bool.and_eq_true, decide_eq_true_eq] at hpa
       obtain ⟨⟨⟨p1, p2⟩, p3⟩, p4⟩ := hpa
       cases hN : needs my.op with
       | none => rw [hN] at p4; simp at p4
       | some Ns =>
         rw [hN] at p4
         simp only [List.all_eq_true, Bool.and_eq_true, Bool.not_eq_true'] at p4
         simp only [MOper.less] at h1 ⊢
         refine swap_app (Ns := Ns) (fun e he => ?_) (fun e he => ?_) p3 hN (fun s hs => ?_) h1
         ·rw [he] at p1
          simp only [Bool.and_eq_true, Bool.not_eq_true', List.contains_eq_mem, decide_eq_false_iff_not] at p1
          exact ⟨p1.1, by simpa using p1.2⟩
         ·rw [he] at p2
          simpa using p2
         ·have := p4 s hs
          refine ⟨List.mem_filter.2 ⟨by simpa using this.1.1, by rw [this.1.2]; rfl⟩, by simpa using this.2⟩
      case stA n a b oth =>
       simp only [passes, Bool.and_eq_true, decide_eq_true_eq] at hpa
       obtain ⟨⟨⟨p1, p2⟩, p3⟩, p4⟩ := hpa
       cases hN : needs my.op with
       | none => rw [hN] at p4; simp at p4
       | some Ns =>
         rw [hN] at p4
         simp only [List.all_eq_true, Bool.and_eq_true, Bool.not_eq_true'] at p4
         simp only [MOper.less] at h1 ⊢
         refine swap_st (Ns := Ns) (fun e he => ?_) (fun e he => ?_) p3 hN (fun s hs => ?_) h1
         ·rw [he] at p1
          simp only [Bool.and_eq_true, Bool.not_eq_true', List.contains_eq_mem, decide_eq_false_iff_not] at p1
          exact ⟨p1.1, by simpa using p1.2⟩
         ·rw [he] at p2
          simpa using p2
         ·have := p4 s hs
          refine ⟨List.mem_filter.2 ⟨by simpa using this.1.1, by rw [this.1.2]; rfl⟩, by simpa using this.2⟩
    ·exact h.elim
   ·have hp' : p y = false := by simpa using hp
    simp only [List.filter_cons, hp', Bool.false_eq_true, if_false] at h ⊢
    exact wpOp_less _ (idx_front k1 hc' h)
def ord (md : Region.Mode) (ops : Array Oper) : Nat → Nat → Nat → Bool
 | 0, _, _ => false
 | k + 1, i, j => match ops[j]? with
   | some o => o.after.any fun e => Region.binds md e && (e.on == i || ord md ops k i e.on)
   | none => false
def topo (md : Region.Mode) (ops : Array Oper) : List Nat → List Nat → Bool
 | [], seen => (List.range ops.size).all seen.contains
 | i :: r, seen => (match ops[i]? with | some o => o.after.all fun e => !Region.binds md e || seen.contains e.on | none => false) && topo md ops r (i :: seen)
def okPair (ms : List MOper) (y i : Nat) (btw : List Nat) : Bool :=
 match ms[y]?, ms[i]? with
 | some my, some mi => commute my mi || passes my mi (btw.map (dstAt ms))
 | _, _ => false
def pairsFrom (md : Region.Mode) (ops : Array Oper) (ms : List MOper) (y : Nat) (btw : List Nat) : List Nat → Bool
 | [] => true
 | i :: r => (ord md ops ops.size y i || okPair ms y i btw) && pairsFrom md ops ms y (btw ++ [i]) r
def pairsOK (md : Region.Mode) (ops : Array Oper) (ms : List MOper) : List Nat → Bool
 | [] => true
 | y :: r => pairsFrom md ops ms y [] r && pairsOK md ops ms r
def anyOrder (md : Region.Mode) (ops : Array Oper) (ms : List MOper) (perm : List Nat) : Bool :=
 decide perm.Nodup && perm.all (fun i => decide (i < ops.size)) && decide (perm.length = ops.size) && topo md ops perm [] && pairsOK md ops ms perm
def Closed (md : Region.Mode) (ops : Array Oper) (listed : Array Bool) : Prop := ∀ j o, listed.getD j false = true → ops[j]? = some o → ∀ e ∈ o.after, Region.binds md e = true → listed.getD e.on false = true
theorem ord_listed {md : Region.Mode} {ops : Array Oper} {listed : Array Bool} (hc : Closed md ops listed) : ∀ (k i j : Nat), ord md ops k i j = true → (∀ o, ops[j]? = some o → ∀ e ∈ o.after, Region.binds md e = true → listed.getD e.on false = true) → listed.getD i false = true
 | 0, i, j, h, _ => by simp [ord] at h
 | k + 1, i, j, h, hj => by
   simp only [ord] at h
   split at h
   ·rename_i o ho
    rw [Array.any_eq_true'] at h
    obtain ⟨e, he, h⟩ := h
    simp only [Bool.and_eq_true, Bool.or_eq_true, beq_iff_eq] at h
    have hl := hj o ho e he h.1
    rcases h.2 with h2 | h2
    ·rw [← h2]; exact hl
    ·exact ord_listed hc k i e.on h2 (fun o' ho' e' he' hb => hc e.on o' hl ho' e' he' hb)
   ·simp at h
theorem topo_ready {md : Region.Mode} {ops : Array Oper} {listed : Array Bool} (hsz : listed.size = ops.size) (hr : ∀ i, i < ops.size → listed.getD i false = false → ∃ o e, ops[i]? = some o ∧ e ∈ o.after ∧ Region.binds md e = true ∧ listed.getD e.on false = false) :
 ∀ (l seen : List Nat), topo md ops l seen = true → (∀ i ∈ seen, listed.getD i false = true) → (∀ i ∈ l, i < ops.size) → ∀ i, i < ops.size → listed.getD i false = true
 | [], seen, h, hs, _, i, hi => by
   simp only [topo, List.all_eq_true, List.mem_range] at h
   exact hs i (by simpa using h i hi)
 | j :: l, seen, h, hs, hl, i, hi => by
   simp only [topo, Bool.and_eq_true] at h
   refine topo_ready hsz hr l (j :: seen) h.2 (fun k hk => ?_) (fun k hk => hl k (by simp [hk])) i hi
   rcases List.mem_cons.1 hk with rfl | hk
   ·cases hk : listed.getD k false with
    | true => rfl
    | false =>
      exfalso
      obtain ⟨o, e, ho, he, hb, hn⟩ := hr k (hl k (by simp)) hk
      have h1 := h.1
      rw [ho] at h1
      simp only [Array.all_eq_true'] at h1
      have := h1 e he
      simp [hb] at this
      rw [hs _ this] at hn; simp at hn
   ·exact hs k hk
theorem topo_all {md : Region.Mode} {ops : Array Oper} : ∀ (l seen : List Nat), topo md ops l seen = true → ∀ i, i < ops.size → i ∈ l ∨ i ∈ seen
 | [], seen, h, i, hi => by
   simp only [topo, List.all_eq_true, List.mem_range] at h
   exact .inr (by simpa using h i hi)
 | j :: l, seen, h, i, hi => by
   simp only [topo, Bool.and_eq_true] at h
   rcases topo_all l (j :: seen) h.2 i hi with h | h
   ·exact .inl (by simp [h])
   ·rcases List.mem_cons.1 h with rfl | h
    ·exact .inl (by simp)
    ·exact .inr h
theorem pairsFrom_spec {md : Region.Mode} {ops : Array Oper} {ms : List MOper} {y : Nat} : ∀ {l btw : List Nat}, pairsFrom md ops ms y btw l = true → ∀ (kb kc : List Nat) (i : Nat), l = kb ++ i :: kc → ord md ops ops.size y i = true ∨ okPair ms y i (btw ++ kb) = true
 | [], btw, h, kb, kc, i, e => by simp at e
 | a :: l, btw, h, kb, kc, i, e => by
   simp only [pairsFrom, Bool.and_eq_true, Bool.or_eq_true] at h
   cases kb with
   | nil =>
     simp only [List.nil_append, List.cons.injEq] at e
     obtain ⟨rfl, _⟩ := e
     simpa using h.1
   | cons b kb =>
     simp only [List.cons_append, List.cons.injEq] at e
     obtain ⟨rfl, e⟩ := e
     have := pairsFrom_spec h.2 kb kc i e
     simpa [List.append_assoc] using this
theorem pairs_spec {md : Region.Mode} {ops : Array Oper} {ms : List MOper} : ∀ {l : List Nat}, pairsOK md ops ms l = true → ∀ (ka kb kc : List Nat) (y i : Nat), l = ka ++ y :: (kb ++ i :: kc) → ord md ops ops.size y i = true ∨ okPair ms y i kb = true
 | [], _, ka, kb, kc, y, i, e => by simp at e
 | a :: l, h, ka, kb, kc, y, i, e => by
   simp only [pairsOK, Bool.and_eq_true] at h
   cases ka with
   | nil =>
     simp only [List.nil_append, List.cons.injEq] at e
     obtain ⟨rfl, e⟩ := e
     simpa using pairsFrom_spec h.1 kb kc i e
   | cons b ka =>
     simp only [List.cons_append, List.cons.injEq] at e
     obtain ⟨rfl, e⟩ := e
     exact pairs_spec h.2 ka kb kc y i e
def arm (md : Region.Mode) (ops : Array Oper) (ms : List MOper) (perm : List Nat) (i : Nat) (m : MOper) : MOper :=
 match m.op with
 | .st n a x => { m with op := .stA n a x (((perm.takeWhile (· != i)).filter fun y => !ord md ops ops.size y i).flatMap fun y => match ms[y]? with
    | some my => if my.op.cl = 1 ∨ my.op.cl = 2 then (needs my.op).getD [] else []
    | none => []).eraseDups }
 | .app es bytes s x => { m with op := .appA es bytes s x (((perm.takeWhile (· != i)).filter fun y => !ord md ops ops.size y i).flatMap fun y => match ms[y]? with
    | some my => if my.op.cl = 1 ∨ my.op.cl = 2 then (needs my.op).getD [] else []
    | none => []).eraseDups }
 | .callVF x l => { m with op := .callVA x l (((perm.takeWhile (· != i)).filter fun y => !ord md ops ops.size y i).flatMap fun y => match ms[y]? with
    | some my => if isLd my.op then (needs my.op).getD [] else []
    | none => []).eraseDups }
 | _ => m
def armFrom (md : Region.Mode) (ops : Array Oper) (ms : List MOper) (perm : List Nat) : Nat → List MOper → List MOper
 | _, [] => []
 | i, m :: r => (if (arm md ops ms perm i m).looks = [] then m else arm md ops ms perm i m) :: armFrom md ops ms perm (i + 1) r
theorem arm_bare {md : Region.Mode} {ops : Array Oper} {ms : List MOper} {perm : List Nat} : ∀ {l : List MOper} {k i : Nat} {m : MOper}, l[i]? = some m → ∃ m', (armFrom md ops ms perm k l)[i]? = some m' ∧ m'.guard = m.guard ∧ m'.dst = m.dst ∧ (m' = m ∨ m'.op.bare = m.op)
 | [], k, i, m, h => by simp at h
 | a :: l, k, i, m, h => by
   cases i with
   | zero =>
     simp at h; subst h
     refine ⟨_, rfl, ?_⟩
     split
     ·exact ⟨rfl, rfl, .inl rfl⟩
     ·unfold arm
      split
      ·rename_i n x y hop
       exact ⟨rfl, rfl, .inr (by simp only [MOp.bare]; exact hop.symm)⟩
      ·rename_i hop
       exact ⟨rfl, rfl, .inr (by simp only [MOp.bare]; exact hop.symm)⟩
      ·rename_i hop
       exact ⟨rfl, rfl, .inr (by simp only [MOp.bare]; exact hop.symm)⟩
      ·exact ⟨rfl, rfl, .inl rfl⟩
   | succ i => exact arm_bare (k := k + 1) (i := i) (by simpa using h)
def left (perm : List Nat) (listed : Array Bool) : List Nat := perm.filter fun i => !listed.getD i false
theorem filter_split {p : Nat → Bool} : ∀ {l : List Nat} {i : Nat}, i ∈ l → p i = true → l.Nodup → ∃ l2 k1 k2, l = k1 ++ i :: k2 ∧ l.filter p = k1.filter p ++ i :: l2 ∧ l.filter (fun k => p k && k != i) = k1.filter p ++ l2
 | [], i, h, _, _ => by simp at h
 | a :: l, i, h, hp, hs => by
   rw [List.nodup_cons] at hs
   by_cases e : a = i
   ·subst e
    refine ⟨l.filter p, [], l, rfl, by simp [hp], ?_⟩
    simp only [List.filter_cons, bne_self_eq_false, Bool.and_false, Bool.false_eq_true, if_false, List.nil_append, List.filter_nil]
    apply List.filter_congr
    intro x hx
    have : x ≠ a := fun e => hs.1 (e ▸ hx)
    simp [this]
   ·have h : i ∈ l := by
     rcases List.mem_cons.1 h with h | h
     ·exact (e h.symm).elim
     ·exact h
    obtain ⟨l2, k1, k2, h0, h1, h3⟩ := filter_split h hp hs.2
    have hne : (a != i) = true := by simp [e]
    by_cases ha : p a = true
    ·exact ⟨l2, a :: k1, k2, by simp [h0], by simp [ha, h1], by simp [ha, hne, h3]⟩
    ·exact ⟨l2, a :: k1, k2, by simp [h0], by simp [ha, h1], by simp [ha, h3]⟩
theorem cOp_stA {o : Op} {n : Nat} {a x : Opd} {oth : List Nat} (h : cOp P o = some (.stA n a x oth)) : False := by
 cases o <;> simp only [cOp] at h
 case call c =>
  split at h
  all_goals (repeat' split at h)
  all_goals first
   | (simp at h; done)
   | (obtain ⟨_, _, h⟩ := opt_map_some h; simp at h; done)
 all_goals first
  | (simp at h; done)
  | (obtain ⟨_, _, h⟩ := opt_map_some h; simp at h; done)
  | ((repeat' split at h) <;> first | contradiction | (simp at h; done) | (obtain ⟨_, _, h⟩ := opt_map_some h; simp at h; done))
theorem no_stA {b : Nat} {ops : Array Oper} {o : Oper} {d : Option Nat} {k : Nat} {x y : Opd} {oth : List Nat} {g : Option (Nat × Bool)} (h : cOper P n b ops o = some ⟨d, .stA k x y oth, g⟩) : False := by
 unfold cOper at h
 split at h
 ·rename_i m hm
  have key : (if b = 0 then m else m.fnl b) = .stA k x y oth → False := by
   intro e
   have : m = .stA k x y oth := by
    split at e
    ·exact e
    ·cases m <;> simp only [MOp.fnl] at e <;> first
      | exact e
      | (simp at e; done)
      | (split at e <;> simp at e)
      | ((repeat' split at e) <;> simp at e)
   subst this
   exact cOp_stA hm
  split at h
  ·split at h
   ·injection h with h; injection h with _ h _; exact key h
   ·split at h
    ·injection h with h; injection h with _ h _; exact key h
    ·simp at h
  ·simp at h
 ·simp at h
theorem cOp_appA {o : Op} {n m' : Nat} {a x : Opd} {oth : List Nat} (h : cOp P o = some (.appA n m' a x oth)) : False := by
 cases o <;> simp only [cOp] at h
 case call c =>
  split at h
  all_goals (repeat' split at h)
  all_goals first
   | (simp at h; done)
   | (obtain ⟨_, _, h⟩ := opt_map_some h; simp at h; done)
 all_goals first
  | (simp at h; done)
  | (obtain ⟨_, _, h⟩ := opt_map_some h; simp at h; done)
  | ((repeat' split at h) <;> first | contradiction | (simp at h; done) | (obtain ⟨_, _, h⟩ := opt_map_some h; simp at h; done))
theorem no_appA {b : Nat} {ops : Array Oper} {o : Oper} {d : Option Nat} {k k' : Nat} {x y : Opd} {oth : List Nat} {g : Option (Nat × Bool)} (h : cOper P n b ops o = some ⟨d, .appA k k' x y oth, g⟩) : False := by
 unfold cOper at h
 split at h
 ·rename_i m hm
  have key : (if b = 0 then m else m.fnl b) = .appA k k' x y oth → False := by
   intro e
   have : m = .appA k k' x y oth := by
    split at e
    ·exact e
    ·cases m <;> simp only [MOp.fnl] at e <;> first
      | exact e
      | (simp at e; done)
      | (split at e <;> simp at e)
      | ((repeat' split at e) <;> simp at e)
   subst this
   exact cOp_appA hm
  split at h
  ·split at h
   ·injection h with h; injection h with _ h _; exact key h
   ·split at h
    ·injection h with h; injection h with _ h _; exact key h
    ·simp at h
  ·simp at h
 ·simp at h
theorem no_callVA {b : Nat} {ops : Array Oper} {o : Oper} {d : Option Nat} {x : Opd} {y : List Opd} {oth : List Nat} {g : Option (Nat × Bool)} (h : cOper P n b ops o = some ⟨d, .callVA x y oth, g⟩) : False := by
 unfold cOper at h
 split at h
 ·rename_i m hm
  have key : (if b = 0 then m else m.fnl b) = .callVA x y oth → False := by
   intro e
   have : m = .callVA x y oth := by
    split at e
    ·exact e
    ·cases m <;> simp only [MOp.fnl] at e <;> first
      | exact e
      | (simp at e; done)
      | (split at e <;> simp at e)
      | ((repeat' split at e) <;> simp at e)
   subst this
   exact cOp_callVA hm
  split at h
  ·split at h
   ·injection h with h; injection h with _ h _; exact key h
   ·split at h
    ·injection h with h; injection h with _ h _; exact key h
    ·simp at h
  ·simp at h
 ·simp at h
def Alike (m' m : MOper) : Prop := m' = m ∨ m'.op.bare = m.op ∨ (m.guard = none ∧ m.op.mk5 = true ∧ ∃ q, m'.op = m.op.nm q)
theorem any_sound {md : Region.Mode} {b : Nat} {ops : Array Oper} {ms ms' : List MOper} {perm : List Nat} (hc : cOpers P n b ops ops.toList = some ms) (hms : ∀ (i : Nat) (m : MOper), ms[i]? = some m → ∃ m', ms'[i]? = some m' ∧ m'.guard = m.guard ∧ m'.dst = m.dst ∧ Alike m' m) (ha : anyOrder md ops ms' perm = true) {Q' : Sl → Sto → Prop} (Q : Exit → Act → World → Prop) :
 ∀ (fuel : Nat) (listed : Array Bool) {S : Sl} {σ : Sto} {I : Imm} {β : Beta} {a : Act} {w : World}, listed.size = ops.size → Closed md ops listed → (left perm listed).length ≤ fuel → WpIdx P ms' (left perm listed) S σ Q' → At Df w0 base I0 n I β S σ a w →
   (∀ S' σ' I' β' a' w', Q' S' σ' → At Df w0 base I0 n I' β' S' σ' a' w' → Ext I β I' β' → Q .normal a' w') → wpAny P md ops Q fuel listed a w := by
 simp only [anyOrder, Bool.and_eq_true, decide_eq_true_eq, List.all_eq_true] at ha
 obtain ⟨⟨⟨⟨hnd, hlt⟩, hlen⟩, htopo⟩, hpairs⟩ := ha
 have hready : ∀ (listed : Array Bool), listed.size = ops.size → ∀ i, i ∈ Region.ready md ops listed ↔ i < ops.size ∧ listed.getD i false = false ∧ ∀ o, ops[i]? = some o → ∀ e ∈ o.after, Region.binds md e = true → listed.getD e.on false = true := by
  intro listed hsz i
  simp only [Region.ready, List.mem_filter, List.mem_range, Bool.and_eq_true]
  constructor
  ·rintro ⟨h1, h2, h3⟩
   refine ⟨h1, ?_, fun o ho e he hb => ?_⟩
   ·have : i < listed.size := by omega
    simp [Array.getD_eq_getD_getElem?, this] at h2 ⊢; exact h2
   ·rw [ho] at h3
    simp only [Option.map_some, Option.getD_some, Array.all_eq_true'] at h3
    have := h3 e he
    simpa [hb] using this
  ·rintro ⟨h1, h2, h3⟩
   refine ⟨h1, ?_, ?_⟩
   ·have : i < listed.size := by omega
    simp [Array.getD_eq_getD_getElem?, this] at h2 ⊢; exact h2
   ·rw [Array.getElem?_eq_getElem h1]
    simp only [Option.map_some, Option.getD_some, Array.all_eq_true']
    intro e he
    by_cases hb : Region.binds md e = true
    ·simp [h3 ops[i] (Array.getElem?_eq_getElem h1) e he hb]
    ·simp [hb]
 have hmem : ∀ (listed : Array Bool) i, i ∈ left perm listed → i < ops.size ∧ listed.getD i false = false := by
  intro listed i h
  simp only [left, List.mem_filter] at h
  exact ⟨by simpa using hlt i h.1, by simpa using h.2⟩
 -- what is left over has a first operation, and that is ready
 have hnone : ∀ (listed : Array Bool), listed.size = ops.size → Region.ready md ops listed = [] → left perm listed = [] := by
  intro listed hsz hr
  have all : ∀ i, i < ops.size → listed.getD i false = true := by
   refine topo_ready hsz (md := md) (fun i hi hn => ?_) perm [] htopo (by simp) (fun i hi => by simpa using hlt i hi)
   by_cases h : ∀ o, ops[i]? = some o → ∀ e ∈ o.after, Region.binds md e = true → listed.getD e.on false = true
   ·have := (hready listed hsz i).2 ⟨hi, hn, h⟩
    rw [hr] at this; simp at this
   ·simp only [Classical.not_forall] at h
    obtain ⟨o, ho, e, he, hb, hx⟩ := h
    exact ⟨o, e, ho, he, hb, by simpa using hx⟩
  unfold left
  rw [List.filter_eq_nil_iff]
  intro i hi
  simp [all i (by simpa using hlt i hi)]
 intro fuel
 induction fuel with
 | zero =>
   intro listed S σ I β a w hsz hcl hln h hA hn
   have hl : left perm listed = [] := List.eq_nil_of_length_eq_zero (by omega)
   rw [hl] at h
   refine ⟨?_, hn S σ I β a w h hA (Ext.refl _ _)⟩
   cases hr : Region.ready md ops listed with
   | nil => rfl
   | cons i rest =>
     exfalso
     obtain ⟨h1, h2, _⟩ := (hready listed hsz i).1 (by rw [hr]; simp)
     have hp : i ∈ perm := by
      rcases topo_all perm [] htopo i h1 with h | h
      ·exact h
      ·simp at h
     have : i ∈ left perm listed := by
      simp only [left, List.mem_filter]; exact ⟨hp, by simp [h2]⟩
     rw [hl] at this; simp at this
 | succ fuel ih =>
   intro listed S σ I β a w hsz hcl hln h hA hn
   refine ⟨fun hr => ?_, fun i hi => ?_⟩
   ·rw [hnone listed hsz hr] at h
    exact hn S σ I β a w h hA (Ext.refl _ _)
   ·obtain ⟨h1, h2, h3⟩ := (hready listed hsz i).1 hi
    have hp : i ∈ perm := by
     rcases topo_all perm [] htopo i h1 with h | h
     ·exact h
     ·simp at h
    obtain ⟨l2, k1, k2, hk, e1, e3⟩ := filter_split (p := fun k => !listed.getD k false) hp (by simp [h2]) hnd
    obtain ⟨g1, g2⟩ := cOpers_get hc
    obtain ⟨m, hm, hcm⟩ := g2 i ops[i] (by simp [h1])
    obtain ⟨m', hm', hg', hd', hb'⟩ := hms i m hm
    have e0 : left perm listed = (k1.filter fun k => !listed.getD k false) ++ i :: l2 := e1
    rw [e0] at h hln
    rw [idx_append] at h
    have h' : WpIdx P ms' (k1.filter fun k => !listed.getD k false) S σ fun S' σ' => WpOp P m' S' σ' fun S2 σ2 => WpIdx P ms' l2 S2 σ2 Q' := idx_mono _ h fun S' σ' hh => by
     simp only [WpIdx, hm'] at hh; exact hh
    have hfront := idx_front (mi := m') k1 (fun ka y kb hka hpy my hmy => by
     rcases pairs_spec hpairs ka kb k2 y i (by rw [hk, hka]; simp) with ho | ho
     ·have := ord_listed hcl ops.size y i ho h3
      simp only [Bool.not_eq_true', this] at hpy; simp at hpy
     ·unfold okPair at ho
      rw [hmy, hm'] at ho
      simpa using ho) h'
    have hleft : left perm (listed.setIfInBounds i true) = (k1.filter fun k => !listed.getD k false) ++ l2 := by
     rw [← e3]
     unfold left
     apply List.filter_congr
     intro k hk
     have hk' : k < listed.size := by rw [hsz]; simpa using hlt k hk
     by_cases hki : k = i
     ·subst hki; simp [Array.getD_eq_getD_getElem?, hk']
     ·have : (k != i) = true := by simp [hki]
      simp [this, Array.getD_eq_getD_getElem?, Array.getElem?_setIfInBounds, Ne.symm hki]
    have tail : ∀ S' σ' I' β' a' w', WpIdx P ms' ((k1.filter fun k => !listed.getD k false) ++ l2) S' σ' Q' → At Df w0 base I0 n I' β' S' σ' a' w' → Ext I β I' β' → wpAny P md ops Q fuel (listed.setIfInBounds i true) a' w' := by
     intro S' σ' I' β' a' w' hK hA' hext
     refine ih (listed.setIfInBounds i true) (by simpa using hsz) ?_ ?_ (by rw [hleft]; exact hK) hA' (fun S2 σ2 I2 β2 a2 w2 q1 q2 q3 => hn S2 σ2 I2 β2 a2 w2 q1 q2 (hext.trans q3))
     ·intro j o hj ho e he hb
      have hmon : ∀ k, listed.getD k false = true → (listed.setIfInBounds i true).getD k false = true := by
       intro k hk
       simp only [Array.getD_eq_getD_getElem?, Array.getElem?_setIfInBounds] at hk ⊢
       by_cases hki : i = k
       ·subst hki
        by_cases hlt : i < listed.size
        ·simp [hlt]
        ·simp [hlt] at hk
       ·rw [if_neg hki]; exact hk
      by_cases hji : j = i
      ·subst hji; exact hmon _ (h3 o ho e he hb)
      ·refine hmon _ (hcl j o ?_ ho e he hb)
       simpa [Array.getD_eq_getD_getElem?, Array.getElem?_setIfInBounds, Ne.symm hji] using hj
     ·rw [hleft]
      simp at hln ⊢; omega
    have hpre : WpOp P (m'.less fun s => !(k1.map (dstAt ms')).contains (some s)) S σ fun S' σ' => WpIdx P ms' ((k1.filter fun k => !listed.getD k false) ++ l2) S' σ' Q' :=
     wpOp_mono' hfront fun S' σ' hh => (idx_append (P := P) (ms := ms') _ l2).2 hh
    by_cases hnm : m.guard = none ∧ m.op.mk5 = true ∧ ∃ q, m'.op = m.op.nm q
    ·obtain ⟨hgn, h5, q, hq⟩ := hnm
     have em : (m'.less fun s => !(k1.map (dstAt ms')).contains (some s)) = ⟨m.dst, m.op.nm q, none⟩ := by
      obtain ⟨d, o, g⟩ := m'
      obtain ⟨d2, o2, g2⟩ := m
      simp only at hg' hd' hgn hq h5 ⊢
      subst hg'; subst hd'; subst hgn; subst hq
      cases o2 <;> first | (simp [MOp.mk5] at h5; done) | rfl
     rw [em] at hpre
     exact wpOp_sound_named (o := ops[i]) (by simp [h1]) hcm hgn h5 hpre hA Q _ tail
    have hb' : m' = m ∨ m'.op.bare = m.op := by
     rcases hb' with h | h | h
     ·exact .inl h
     ·exact .inr h
     ·exact (hnm h).elim
    have hfront2 : WpOp P m S σ fun S' σ' => WpIdx P ms' ((k1.filter fun k => !listed.getD k false) ++ l2) S' σ' Q' := by
     have h5 := wpOp_mono' hfront fun S' σ' hh => (idx_append (P := P) (ms := ms') _ l2).2 hh
     refine wpOp_step (m := m'.less _) (by rw [(less_guard m' _).1, hg']) (by rw [(less_guard m' _).2, hd']) (fun K hs => ?_) h5
     have hb2 : ((m'.less fun s => !(k1.map (dstAt ms')).contains (some s)).op.bare = m.op) ∨ ((m'.less fun s => !(k1.map (dstAt ms')).contains (some s)) = m) := by
      rcases hb' with rfl | hb'
      ·obtain ⟨d, o, g⟩ := m'
       cases o <;> first
        | exact .inr rfl
        | skip
       -- the translation itself has no such store
       ·exact (no_stA hcm).elim
       ·exact (no_appA hcm).elim
       ·exact (no_callVA hcm).elim
      ·left
       rw [← hb']
       obtain ⟨d, o, g⟩ := m'
       cases o <;> rfl
     rcases hb2 with hb2 | hb2
     ·rw [← hb2]; exact step_bare hs
     ·rw [hb2] at hs; exact hs
    exact wpOp_sound (o := ops[i]) (by simp [h1]) hcm hfront2 hA Q _ tail
theorem any_start {md : Region.Mode} {b : Nat} {ops : Array Oper} {ms ms' : List MOper} {perm : List Nat} (hc : cOpers P n b ops ops.toList = some ms) (hms : ∀ (i : Nat) (m : MOper), ms[i]? = some m → ∃ m', ms'[i]? = some m' ∧ m'.guard = m.guard ∧ m'.dst = m.dst ∧ Alike m' m) (ha : anyOrder md ops ms' perm = true) {Q' : Sl → Sto → Prop} (Q : Exit → Act → World → Prop) (h : WpIdx P ms' perm S σ Q') (hA : At Df w0 base I0 n I β S σ a w)
 (hn : ∀ S' σ' I' β' a' w', Q' S' σ' → At Df w0 base I0 n I' β' S' σ' a' w' → Ext I β I' β' → Q .normal a' w') (t : Nat) : wpOps P ops Q (Region.linearise md ops t) a { w with drawn := w.drawn + 1 } := by
 have hall : left perm (Array.replicate ops.size false) = perm := by
  unfold left
  rw [List.filter_eq_self]
  intro k hk
  by_cases hlt : k < ops.size <;> simp [Array.getD_eq_getD_getElem?, hlt]
 have hlen : perm.length = ops.size := by
  simp only [anyOrder, Bool.and_eq_true, decide_eq_true_eq] at ha
  exact ha.1.1.2
 refine wpAny_sound ops.size t _ a _ (any_sound hc hms ha Q ops.size (Array.replicate ops.size false) (by simp) (fun j o hj => ?_) (by rw [hall, hlen]; exact Nat.le_refl _) (by rw [hall]; exact h) ⟨hA.inv.drew, hA.slots, hA.size, hA.defers⟩ hn)
 by_cases hlt : j < ops.size
 ·simp [Array.getD_eq_getD_getElem?, hlt] at hj
 ·simp [Array.getD_eq_getD_getElem?, hlt] at hj
def inOrder (ms : List MOper) : List Nat → Option (List MOper)
 | [] => some []
 | i :: r => match ms[i]?, inOrder ms r with
   | some m, some l => some (m :: l)
   | _, _ => none
theorem inOrder_idx {ms : List MOper} : ∀ {l : List Nat} {ps : List MOper}, inOrder ms l = some ps → ∀ (S : Sl) (σ : Sto) (Q : Sl → Sto → Prop), WpOps P ps S σ Q → WpIdx P ms l S σ Q
 | [], ps, h, S, σ, Q, hw => by simp [inOrder] at h; subst h; exact hw
 | i :: l, ps, h, S, σ, Q, hw => by
   simp only [inOrder] at h
   split at h
   ·rename_i m ps' h1 h2
    injection h with h; subst h
    simp only [WpIdx, h1]
    exact wpOp_mono' hw fun S' σ' hw' => inOrder_idx h2 S' σ' Q hw'
   ·simp at h
theorem region_any {b : Nat} {id : Nat} {ops : Array Oper} {ms : List MOper} (hc : cOpers P n b ops ops.toList = some ms) {Q' : Sl → Sto → Prop} (Q : Exit → Act → World → Prop) (hA : At Df w0 base I0 n I β S σ a w)
 (hn : ∀ S' σ' I' β' a' w', Q' S' σ' → At Df w0 base I0 n I' β' S' σ' a' w' → Ext I β I' β' → Q .normal a' w')
 (h0 : P.follows .mixedOrders = true ∨ Region.departs ops = false → ∃ p, anyOrder .any ops (armFrom .any ops ms p 0 ms) p = true ∧ WpIdx P (armFrom .any ops ms p 0 ms) p S σ Q')
 (h1 : P.follows .mixedOrders = true ∨ Region.departs ops = false) : (Code.region id ops true).wp P Q a w := by
 refine wp_region_draw fun t => ?_
 unfold Region.schedule
 have : (P.follows .mixedOrders || !Region.departs ops) = true := by
  rcases h1 with h | h <;> simp [h]
 rw [if_pos this]
 obtain ⟨p, hp, hw⟩ := h0 h1
 exact any_start hc (fun i m hm => let ⟨m', a, b, c, d⟩ := arm_bare hm; ⟨m', a, b, c, d.imp (fun h => h) .inl⟩) hp Q hw hA hn t
end Go.Proofs.YtkockkfmjmheeaaGreat.E

namespace Go.Proofs.YtkockkfmjmheeaaGreat.E
open Go Go.RowKit
set_option linter.unusedSimpArgs false
set_option linter.unusedVariables false
def befores (md : Region.Mode) (n T j : Nat) : List Edge → Nat
 | [] => 0
 | e :: r => (match Region.binds md e && Nat.blt e.on j with | true => (1 <<< e.on) ||| ((T >>> (n * e.on)) % 2 ^ n) | false => 0) ||| befores md n T j r
def edgesOK (md : Region.Mode) (j : Nat) : List Edge → Bool
 | [] => true
 | e :: r => (!Region.binds md e || Nat.blt e.on j) && edgesOK md j r
def table (md : Region.Mode) (n : Nat) : List Oper → Nat → Nat → Option Nat
 | [], _, T => some T
 | o :: r, j, T => match edgesOK md j o.after.toList with
   | true => match T ||| (befores md n T j o.after.toList <<< (n * j)) with
     | 0 => table md n r (j + 1) 0
     | T' + 1 => table md n r (j + 1) (T' + 1)
   | false => none
theorem ord_mono {md : Region.Mode} {ops : Array Oper} : ∀ {k i j : Nat}, ord md ops k i j = true → ord md ops (k + 1) i j = true
 | 0, i, j, h => by simp [ord] at h
 | k + 1, i, j, h => by
   rw [ord] at h ⊢
   split at h
   ·rename_i o ho
    rw [Array.any_eq_true'] at h ⊢
    obtain ⟨e, he, h⟩ := h
    refine ⟨e, he, ?_⟩
    simp only [Bool.and_eq_true, Bool.or_eq_true] at h ⊢
    exact ⟨h.1, h.2.imp id ord_mono⟩
   ·simp at h
theorem ord_le {md : Region.Mode} {ops : Array Oper} {k k' i j : Nat} (h : ord md ops k i j = true) (hk : k ≤ k') : ord md ops k' i j = true := by
 induction hk with
 | refl => exact h
 | step _ ih => exact ord_mono ih
theorem befores_spec {md : Region.Mode} {n T j i : Nat} (hj : j ≤ n) : ∀ {l : List Edge}, (befores md n T j l).testBit i = true → i < n ∧ ∃ e ∈ l, Region.binds md e = true ∧ e.on < j ∧ (e.on = i ∨ T.testBit (n * e.on + i) = true)
 | [], h => by simp [befores] at h
 | e :: r, h => by
   simp only [befores, Nat.testBit_or, Bool.or_eq_true] at h
   rcases h with h | h
   ·split at h
    ·rename_i hb
     simp only [Bool.and_eq_true, Nat.blt_eq] at hb
     simp only [Nat.testBit_or, Bool.or_eq_true, Nat.testBit_mod_two_pow, Bool.and_eq_true, decide_eq_true_eq, Nat.testBit_shiftRight] at h
     rcases h with h | h
     ·have : i = e.on := by
       rw [Nat.one_shiftLeft, Nat.testBit_two_pow] at h
       have := (of_decide_eq_true (by simpa using h) : e.on = i); exact this.symm
      exact ⟨by omega, e, by simp, hb.1, hb.2, .inl this.symm⟩
     ·exact ⟨h.1, e, by simp, hb.1, hb.2, .inr h.2⟩
    ·simp at h
   ·obtain ⟨h1, e', h2, h3⟩ := befores_spec hj h
    exact ⟨h1, e', List.mem_cons_of_mem _ h2, h3⟩
def TabSpec (md : Region.Mode) (ops : Array Oper) (n T j0 : Nat) : Prop := ∀ j i, i < n → T.testBit (n * j + i) = true → j < j0 ∧ ord md ops (j + 1) i j = true
theorem tabSpec_step {md : Region.Mode} {ops : Array Oper} {n T j0 : Nat} {o : Oper} (hn : j0 < n) (ho : ops[j0]? = some o) (h : TabSpec md ops n T j0) : TabSpec md ops n (T ||| (befores md n T j0 o.after.toList <<< (n * j0))) (j0 + 1) := by
 intro j i hi hb
 simp only [Nat.testBit_or, Bool.or_eq_true, Nat.testBit_shiftLeft, Bool.and_eq_true, decide_eq_true_eq] at hb
 rcases hb with hb | ⟨hge, hb⟩
 ·have := h j i hi hb
  exact ⟨by omega, this.2⟩
 ·obtain ⟨hlt, e, he, h1, h2, h3⟩ := befores_spec (by omega) hb
  have hj : j = j0 := by
   have a1 : j0 ≤ j := by
    by_cases h : j0 ≤ j
    ·exact h
    ·have h3 := Nat.mul_le_mul_left n (show j + 1 ≤ j0 by omega)
     rw [Nat.mul_add, Nat.mul_one] at h3
     omega
   have a2 : j ≤ j0 := by
    by_cases h : j ≤ j0
    ·exact h
    ·have h3 := Nat.mul_le_mul_left n (show j0 + 1 ≤ j by omega)
     rw [Nat.mul_add, Nat.mul_one] at h3
     omega
   omega
  subst hj
  have hi' : n * j + i - n * j = i := by omega
  rw [hi'] at h3
  refine ⟨by omega, ?_⟩
  rw [ord, ho]
  simp only []
  rw [Array.any_eq_true']
  refine ⟨e, by simpa using he, ?_⟩
  simp only [Bool.and_eq_true, Bool.or_eq_true, beq_iff_eq]
  refine ⟨h1, h3.imp id fun h3 => ?_⟩
  exact ord_le (h e.on i hi h3).2 (by omega)
theorem table_spec {md : Region.Mode} {ops : Array Oper} : ∀ {l : List Oper} {j T T' : Nat}, table md ops.size l j T = some T' → (∀ k, l[k]? = ops[j + k]?) → j + l.length = ops.size → TabSpec md ops ops.size T j →
 TabSpec md ops ops.size T' ops.size ∧ ∀ k o, l[k]? = some o → edgesOK md (j + k) o.after.toList = true
 | [], j, T, T', h, _, hl, hs => by
   simp only [table] at h
   injection h with h; subst h
   have hl : j = ops.size := by simpa using hl
   exact ⟨fun a i hi hb => by have := hs a i hi hb; exact ⟨by omega, this.2⟩, by simp⟩
 | o :: r, j, T, T', h, hg, hl, hs => by
   have h0 : ops[j]? = some o := by have := hg 0; simpa using this.symm
   simp only [table] at h
   simp only [List.length_cons] at hl
   have hg' : ∀ k, r[k]? = ops[j + 1 + k]? := fun k => by have := hg (k + 1); simpa [Nat.add_assoc, Nat.add_comm 1] using this
   split at h
   ·rename_i he
    have hstep := tabSpec_step (by omega) h0 hs
    have fin : ∀ {T2}, T ||| (befores md ops.size T j o.after.toList <<< (ops.size * j)) = T2 → table md ops.size r (j + 1) T2 = some T' → TabSpec md ops ops.size T' ops.size ∧ ∀ k o', (o :: r)[k]? = some o' → edgesOK md (j + k) o'.after.toList = true := by
     rintro T2 rfl h2
     obtain ⟨g1, g2⟩ := table_spec h2 hg' (by omega) hstep
     refine ⟨g1, fun k o' hk => ?_⟩
     cases k with
     | zero => simp at hk; subst hk; exact he
     | succ k => have := g2 k o' (by simpa using hk); rwa [show j + (k + 1) = j + 1 + k from by omega]
    split at h
    ·rename_i e; exact fin e h
    ·rename_i T2 e; exact fin e h
   ·simp at h
theorem edgesOK_spec {md : Region.Mode} {j : Nat} : ∀ {l : List Edge}, edgesOK md j l = true → ∀ e ∈ l, Region.binds md e = true → e.on < j
 | [], _, e, he, _ => by simp at he
 | a :: l, h, e, he, hb => by
   simp only [edgesOK, Bool.and_eq_true, Bool.or_eq_true, Bool.not_eq_true', Nat.blt_eq] at h
   rcases List.mem_cons.1 he with rfl | he
   ·rcases h.1 with h1 | h1
    ·rw [hb] at h1; simp at h1
    ·exact h1
   ·exact edgesOK_spec h.2 e he hb
theorem topo_range {md : Region.Mode} {ops : Array Oper} : ∀ (k j : Nat) (seen : List Nat), j + k = ops.size → (∀ i, i < j → i ∈ seen) → (∀ i o, j ≤ i → ops[i]? = some o → edgesOK md i o.after.toList = true) → topo md ops (List.range' j k) seen = true
 | 0, j, seen, hj, hs, _ => by
   simp only [List.range'_zero, topo, List.all_eq_true, List.mem_range, List.contains_iff_mem]
   intro i hi; exact hs i (by omega)
 | k + 1, j, seen, hj, hs, he => by
   simp only [List.range'_succ, topo, Bool.and_eq_true]
   have hlt : j < ops.size := by omega
   rw [Array.getElem?_eq_getElem hlt]
   refine ⟨?_, topo_range k (j + 1) (j :: seen) (by omega) (fun i hi => ?_) (fun i o hi ho => he i o (by omega) ho)⟩
   ·simp only []
    rw [Array.all_eq_true']
    intro e hm
    have := he j ops[j] (Nat.le_refl _) (Array.getElem?_eq_getElem hlt)
    cases hb : Region.binds md e with
    | false => simp
    | true =>
      have := hs _ (edgesOK_spec this e (by simpa using hm) hb)
      simpa using this
   ·by_cases e : i = j
    ·subst e; simp
    ·exact List.mem_cons_of_mem _ (hs i (by omega))
def fromF (n T : Nat) (my : MOper) (y : Nat) : Nat → List (Option Nat) → List MOper → Bool
 | _, _, [] => true
 | i, btw, mi :: r => (Nat.testBit T (n * i + y) || (commute my mi || passes my mi btw)) && fromF n T my y (i + 1) (btw ++ [mi.dst]) r
def pairsF (n T : Nat) : Nat → List MOper → Bool
 | _, [] => true
 | y, my :: r => fromF n T my y (y + 1) [] r && pairsF n T (y + 1) r
theorem fromF_spec {md : Region.Mode} {ops : Array Oper} {ms : List MOper} {T y : Nat} {my : MOper} (hT : TabSpec md ops ops.size T ops.size) (hy : y < ops.size) (hmy : ms[y]? = some my) : ∀ {l : List MOper} {i : Nat} {btw : List Nat}, (∀ k, l[k]? = ms[i + k]?) → fromF ops.size T my y i (btw.map (dstAt ms)) l = true →
 pairsFrom md ops ms y btw (List.range' i l.length) = true
 | [], i, btw, _, _ => by simp [pairsFrom]
 | mi :: r, i, btw, hg, h => by
   have h0 : ms[i]? = some mi := by have := hg 0; simpa using this.symm
   simp only [fromF, Bool.and_eq_true, Bool.or_eq_true] at h
   simp only [List.length_cons, List.range'_succ, pairsFrom, Bool.and_eq_true, Bool.or_eq_true]
   refine ⟨?_, fromF_spec hT hy hmy (fun k => by have := hg (k + 1); simpa [Nat.add_assoc, Nat.add_comm 1] using this) ?_⟩
   ·rcases h.1 with h1 | h1
    ·have := hT i y hy h1
     exact .inl (ord_le this.2 (by omega))
    ·refine .inr ?_
     simp only [okPair, hmy, h0, Bool.or_eq_true]
     exact h1
   ·have e : dstAt ms i = mi.dst := by simp [dstAt, h0]
    rw [List.map_append, List.map_singleton, e]
    exact h.2
theorem pairsF_spec {md : Region.Mode} {ops : Array Oper} {ms : List MOper} {T : Nat} (hT : TabSpec md ops ops.size T ops.size) (hlen : ms.length = ops.size) : ∀ {l : List MOper} {y : Nat}, (∀ k, l[k]? = ms[y + k]?) → pairsF ops.size T y l = true → pairsOK md ops ms (List.range' y l.length) = true
 | [], y, _, _ => by simp [pairsOK]
 | my :: r, y, hg, h => by
   have h0 : ms[y]? = some my := by have := hg 0; simpa using this.symm
   have hlt : y < ops.size := by rw [← hlen]; exact (List.getElem?_eq_some_iff.1 h0).1
   have hg' : ∀ k, r[k]? = ms[y + 1 + k]? := fun k => by have := hg (k + 1); simpa [Nat.add_assoc, Nat.add_comm 1] using this
   simp only [pairsF, Bool.and_eq_true] at h
   simp only [List.length_cons, List.range'_succ, pairsOK, Bool.and_eq_true]
   exact ⟨fromF_spec hT hlt h0 hg' (btw := []) h.1, pairsF_spec hT hlen hg' h.2⟩
def slotsF (n T i : Nat) : Nat → List MOper → List Nat
 | _, [] => []
 | y, my :: r => match Nat.beq y i with
   | true => []
   | false => (match Nat.testBit T (n * i + y) with
     | true => []
     | false => match Nat.blt 0 my.op.cl && Nat.blt my.op.cl 3 with
       | true => (needs my.op).getD []
       | false => []) ++ slotsF n T i (y + 1) r
def armF (l : List Nat) (m : MOper) : MOper :=
 match l with
 | [] => m
 | s :: l => match m.op with
   | .st k a x => { m with op := .stA k a x (s :: l).eraseDups }
   | .app es bytes a x => { m with op := .appA es bytes a x (s :: l).eraseDups }
   | .callVF a x => { m with op := .callVA a x (s :: l).eraseDups }
   | _ => m
def armFromF (n T : Nat) (ms : List MOper) : Nat → List MOper → List MOper
 | _, [] => []
 | i, m :: r => (match m.op.cl with | 3 | 4 => armF (slotsF n T i 0 ms) m | _ => m) :: armFromF n T ms (i + 1) r
theorem armF_bare (l : List Nat) (m : MOper) : (armF l m).guard = m.guard ∧ (armF l m).dst = m.dst ∧ (armF l m = m ∨ (armF l m).op.bare = m.op) := by
 unfold armF
 split
 ·exact ⟨rfl, rfl, .inl rfl⟩
 ·split
  ·rename_i h; exact ⟨rfl, rfl, .inr (by simp only [MOp.bare]; exact h.symm)⟩
  ·rename_i h; exact ⟨rfl, rfl, .inr (by simp only [MOp.bare]; exact h.symm)⟩
  ·rename_i h; exact ⟨rfl, rfl, .inr (by simp only [MOp.bare]; exact h.symm)⟩
  ·exact ⟨rfl, rfl, .inl rfl⟩
theorem armFromF_bare {n T : Nat} {ms : List MOper} : ∀ {l : List MOper} {k i : Nat} {m : MOper}, l[i]? = some m → ∃ m', (armFromF n T ms k l)[i]? = some m' ∧ m'.guard = m.guard ∧ m'.dst = m.dst ∧ (m' = m ∨ m'.op.bare = m.op)
 | [], k, i, m, h => by simp at h
 | a :: l, k, i, m, h => by
   cases i with
   | zero =>
     simp at h; subst h
     refine ⟨_, rfl, ?_⟩
     split
     ·exact armF_bare _ _
     ·exact armF_bare _ _
     ·exact ⟨rfl, rfl, .inl rfl⟩
   | succ i => exact armFromF_bare (k := k + 1) (i := i) (by simpa using h)
theorem armFromF_length {n T : Nat} {ms : List MOper} : ∀ {l : List MOper} {k : Nat}, (armFromF n T ms k l).length = l.length
 | [], k => rfl
 | a :: l, k => by simp [armFromF, armFromF_length]
def fastRegion (ops : Array Oper) (ms : List MOper) : Option (List MOper) :=
 match table .any ops.size ops.toList 0 0 with
 | some T => match pairsF ops.size T 0 (armFromF ops.size T ms 0 ms) with
   | true => some (armFromF ops.size T ms 0 ms)
   | false => none
 | none => none
variable {Df : List Deferred} {P : Program} {w0 : World} {base : Nat} {I0 I : Imm} {β : Beta} {S : Sl} {σ σ' : Sto} {w : World} {a : Act} {v : V} {n : Nat}
theorem region_fast {b : Nat} {id : Nat} {ops : Array Oper} {ms ms' : List MOper} (hc : cOpers P n b ops ops.toList = some ms) (hf : fastRegion ops ms = some ms') {Q' : Sl → Sto → Prop} (Q : Exit → Act → World → Prop) (hA : At Df w0 base I0 n I β S σ a w)
 (hn : ∀ S' σ' I' β' a' w', Q' S' σ' → At Df w0 base I0 n I' β' S' σ' a' w' → Ext I β I' β' → Q .normal a' w')
 (h0 : WpOps P ms' S σ Q') (h1 : P.follows .mixedOrders = true ∨ Region.departs ops = false) : (Code.region id ops true).wp P Q a w := by
 unfold fastRegion at hf
 split at hf
 case h_2 => simp at hf
 rename_i T hT
 split at hf
 case h_2 => simp at hf
 rename_i hp
 injection hf with hf
 have hlen0 : ops.size = ms.length := by have := (cOpers_get hc).1; simpa using this
 have hlen : ms'.length = ops.size := by rw [← hf, armFromF_length, hlen0]
 obtain ⟨hs, he⟩ := table_spec hT (fun k => by simp) (by simp) (fun j i hi hb => by simp at hb)
 rw [hf] at hp
 refine wp_region_draw fun t => ?_
 unfold Region.schedule
 have : (P.follows .mixedOrders || !Region.departs ops) = true := by
  rcases h1 with h | h <;> simp [h]
 rw [if_pos this]
 refine any_start (ms' := ms') (perm := List.range' 0 ms'.length) hc (fun i m hm => by rw [← hf]; obtain ⟨m', a, b, c, d⟩ := armFromF_bare (n := ops.size) (T := T) (ms := ms) (k := 0) hm; exact ⟨m', a, b, c, d.imp (fun h => h) .inl⟩) ?_ Q ?_ hA hn t
 ·simp only [anyOrder, Bool.and_eq_true, decide_eq_true_eq, List.all_eq_true]
  refine ⟨⟨⟨⟨List.nodup_range' .., fun i hi => ?_⟩, ?_⟩, ?_⟩, pairsF_spec hs hlen (fun k => by simp) hp⟩
  ·rw [List.mem_range'] at hi
   obtain ⟨k, hk, rfl⟩ := hi
   omega
  ·simpa using hlen
  ·refine topo_range _ _ _ (by rw [hlen]; simp) (fun i hi => by omega) (fun i o _ ho => ?_)
   have := he i o (by simpa using ho)
   simpa using this
 ·rw [← WpIdx_range ms' ms' 0 (fun j => by simp)]
  exact h0
end Go.Proofs.YtkockkfmjmheeaaGreat.E

namespace Go.Proofs.YtkockkfmjmheeaaGreat.E
open Go Go.RowKit
set_option linter.unusedSimpArgs false
set_option linter.unusedVariables false
variable {Df : List Deferred} {P : Program} {w0 : World} {base : Nat} {I0 I : Imm} {β : Beta} {S : Sl} {σ σ' : Sto} {w : World} {a : Act} {v : V} {n : Nat}
def nmAll : Nat → List MOper → List MOper
 | _, [] => []
 | f, o :: r => match o.op.mk5 && o.guard.isNone with
   | true => ⟨o.dst, o.op.nm f, none⟩ :: nmAll (f + 1) r
   | false => o :: nmAll f r
def isSt : MOp → Bool
 | .st .. | .stA .. => true
 | _ => false
def keepsFresh (m : MOper) : Bool := (m.op.mk5 && m.guard.isNone) || (decide (m.op.cl ≤ 2) || isSt m.op)
theorem nmAll_length : ∀ (f : Nat) (l : List MOper), (nmAll f l).length = l.length
 | _, [] => rfl
 | f, o :: r => by
   unfold nmAll
   cases o.op.mk5 && o.guard.isNone <;> simp [nmAll_length]
theorem nmAll_get : ∀ {l : List MOper} {f i : Nat} {m : MOper}, l[i]? = some m → ∃ m', (nmAll f l)[i]? = some m' ∧ (m' = m ∨ (m.guard = none ∧ m.op.mk5 = true ∧ ∃ q, m' = ⟨m.dst, m.op.nm q, none⟩))
 | [], f, i, m, h => by simp at h
 | o :: r, f, i, m, h => by
   unfold nmAll
   cases hb : o.op.mk5 && o.guard.isNone with
   | true =>
     simp only [Bool.and_eq_true, Option.isNone_iff_eq_none] at hb
     cases i with
     | zero => simp at h; subst h; exact ⟨_, rfl, .inr ⟨hb.2, hb.1, f, rfl⟩⟩
     | succ i => simp at h; obtain ⟨m', h1, h2⟩ := nmAll_get (f := f + 1) h; exact ⟨m', by simpa using h1, h2⟩
   | false =>
     cases i with
     | zero => simp at h; subst h; exact ⟨o, by simp, .inl rfl⟩
     | succ i => simp at h; obtain ⟨m', h1, h2⟩ := nmAll_get (f := f) h; exact ⟨m', by simpa using h1, h2⟩
theorem fresh_new (σ : Sto) (ob : Ob) : fresh (setOb σ (fresh σ) ob) = fresh σ + 1 := by
 rw [setOb, filter_top (Nat.le_refl _)]
 simp only [fresh]; omega
theorem fresh_old {o : Nat} {x : Ob} (h : look σ o = some x) (y : Ob) : fresh (setOb σ o y) = fresh σ := by
 have h1 := look_lt_fresh h
 have h2 := fresh_filter σ o
 simp only [setOb, fresh]
 omega
theorem act_keeps {o : MOper} (h : o.op.cl ≤ 2 ∨ isSt o.op = true) {σ' : Sto} (ha : Act1 P o S σ v σ') : fresh σ' = fresh σ := by
 rcases h with h | h
 ·obtain ⟨l, rfl, _⟩ := act_read h ha
  exact fresh_frz l σ
 ·have hF : Fn1 P o.op S σ v σ' → fresh σ' = fresh σ := by
   intro hf
   obtain ⟨d, op, g⟩ := o
   cases op <;> (try (simp [isSt] at h; done))
   ·simp only [Fn1, evOp] at hf
    split at hf
    ·split at hf
     ·simp at hf
     ·have hob := ‹getOb _ _ = some _›
      split at hf
      ·split at hf
       ·injection hf with hf; injection hf with e1 e2; subst e2
        exact fresh_old (getOb_some hob).1 _
       ·simp at hf
      ·simp at hf
     ·simp at hf
    ·simp at hf
   ·simp only [Fn1, evOp] at hf
    split at hf
    ·split at hf
     ·simp at hf
     ·have hob := ‹getOb _ _ = some _›
      split at hf
      ·split at hf
       ·injection hf with hf; injection hf with e1 e2; subst e2
        exact fresh_old (getOb_some hob).1 _
       ·simp at hf
      ·simp at hf
     ·simp at hf
    ·simp at hf
  unfold Act1 at ha
  cases hg : o.guard with
  | none => rw [hg] at ha; exact hF ha
  | some db =>
    obtain ⟨d, b⟩ := db
    simp only [hg] at ha
    split at ha
    ·rename_i t _
     by_cases e : t = b
     ·exact hF (ha.1 e)
     ·rw [(ha.2 e).2]
    ·rw [ha.2]
    ·exact ha.elim
theorem cl_st {o : MOper} (h : o.op.cl ≤ 2 ∨ isSt o.op = true) : o.op.cl ≤ 6 := by
 rcases h with h | h
 ·omega
 ·obtain ⟨d, op, g⟩ := o
  cases op <;> (try (simp [isSt] at h; done)) <;> simp [MOp.cl]
theorem fn_nm {m : MOp} (h5 : m.mk5 = true) {σ' : Sto} (hf : Fn1 P m S σ v σ') : Fn1 P (m.nm (fresh σ)) S σ v σ' ∧ fresh σ' = fresh σ + 1 := by
 have hn : look σ (fresh σ) = none := look_fresh σ _ (Nat.le_refl _)
 cases m <;> (try (simp [MOp.mk5] at h5; done))
 ·simp only [Fn1, evOp, MOp.nm] at hf ⊢
  rw [hn]
  injection hf with hf; injection hf with e1 e2; subst e1; subst e2
  simp only [insD_fresh, fresh_new, and_self]
 ·simp only [Fn1, evOp, MOp.nm] at hf ⊢
  rw [hn]
  obtain ⟨l, hl, e⟩ := opt_map_some hf
  injection e with e1 e2; subst e1; subst e2
  simp only [hl, Option.map_some, insD_fresh, fresh_new, and_self]
theorem nm_wp : ∀ (ms : List MOper) {S : Sl} {σ : Sto} {Q : Sl → Sto → Prop}, ms.all keepsFresh = true → WpOps P ms S σ Q → WpOps P (nmAll (fresh σ) ms) S σ Q
 | [], S, σ, Q, _, h => h
 | o :: r, S, σ, Q, hk, h => by
   simp only [List.all_cons, Bool.and_eq_true] at hk
   have hk1 := hk.1
   unfold keepsFresh at hk1
   unfold nmAll
   simp only [WpOps] at h
   cases hb : o.op.mk5 && o.guard.isNone with
   | true =>
     simp only [Bool.and_eq_true, Option.isNone_iff_eq_none] at hb
     obtain ⟨d, op, g⟩ := o
     obtain ⟨h5, rfl⟩ := hb
     simp only at h5
     have c5 : op.cl ≤ 6 := by cases op <;> (try (simp [MOp.mk5] at h5; done)) <;> simp [MOp.cl]
     have c6 : (op.nm (fresh σ)).cl ≤ 6 := by cases op <;> (try (simp [MOp.mk5] at h5; done)) <;> simp [MOp.cl, MOp.nm]
     obtain ⟨v, σ', hf, hK⟩ := (wpOp_act (o := ⟨d, op, none⟩) c5 _).1 h
     obtain ⟨g1, g2⟩ := fn_nm h5 hf
     show WpOp P ⟨d, op.nm (fresh σ), none⟩ S σ _
     refine (wpOp_act (o := ⟨d, op.nm (fresh σ), none⟩) c6 _).2 ⟨v, σ', g1, ?_⟩
     have := nm_wp r hk.2 hK
     rwa [g2] at this
   | false =>
     rw [hb, Bool.false_or, Bool.or_eq_true, decide_eq_true_eq] at hk1
     obtain ⟨v, σ', hf, hK⟩ := (wpOp_act (cl_st hk1) _).1 h
     show WpOp P o S σ _
     refine (wpOp_act (cl_st hk1) _).2 ⟨v, σ', hf, ?_⟩
     have := nm_wp r hk.2 hK
     rwa [act_keeps hk1 hf] at this
/-! ### the test does not see the names -/
def isStA : MOp → Bool
 | .stA .. | .appA .. | .callVA .. => true
 | _ => false
structure Sh (m m' : MOper) : Prop where
 dst : m.dst = m'.dst
 guard : m.guard = m'.guard
 reads : m.reads = m'.reads
 cl : m.op.cl = m'.op.cl
 needs : needs m.op = needs m'.op
 st : m = m' ∨ (isStA m.op = false ∧ isStA m'.op = false)
theorem Sh.refl (m : MOper) : Sh m m := ⟨rfl, rfl, rfl, rfl, rfl, .inl rfl⟩
theorem sh_nm {o : MOper} (h : o.op.mk5 = true) (f g : Nat) : Sh ⟨o.dst, o.op.nm f, none⟩ ⟨o.dst, o.op.nm g, none⟩ := by
 obtain ⟨d, op, gd⟩ := o
 cases op <;> first
  | (simp [MOp.mk5] at h; done)
  | exact ⟨rfl, rfl, rfl, rfl, rfl, .inr ⟨rfl, rfl⟩⟩
theorem commute_sh {x x' y y' : MOper} (hx : Sh x x') (hy : Sh y y') : commute x y = commute x' y' := by
 unfold commute
 rw [hx.dst, hx.reads, hx.cl, hy.dst, hy.reads, hy.cl]
theorem passes_sh {x x' y y' : MOper} (hx : Sh x x') (hy : Sh y y') (btw : List (Option Nat)) : passes x y btw = passes x' y' btw := by
 rcases hy.st with rfl | ⟨h1, h2⟩
 ·unfold passes
  rw [hx.dst, hx.reads, hx.cl, hx.needs]
 ·have no : ∀ (z y : MOper), isStA y.op = false → passes z y btw = false := by
   intro z y h
   obtain ⟨d, op, g⟩ := y
   cases op <;> first
    | rfl
    | (simp [isStA] at h; done)
  rw [no x y h1, no x' y' h2]
theorem fromF_nm {n T y : Nat} {my my' : MOper} (hm : Sh my my') : ∀ (l : List MOper) (f g i : Nat) (btw : List (Option Nat)), fromF n T my y i btw (nmAll f l) = fromF n T my' y i btw (nmAll g l)
 | [], f, g, i, btw => rfl
 | o :: r, f, g, i, btw => by
   unfold nmAll
   cases hb : o.op.mk5 && o.guard.isNone with
   | true =>
     simp only [Bool.and_eq_true] at hb
     have hs := sh_nm hb.1 f g
     simp only [fromF]
     rw [commute_sh hm hs, passes_sh hm hs, fromF_nm hm r (f + 1) (g + 1)]
   | false =>
     simp only [fromF]
     rw [commute_sh hm (Sh.refl o), passes_sh hm (Sh.refl o), fromF_nm hm r f g]
theorem pairsF_nm {n T : Nat} : ∀ (l : List MOper) (f g y : Nat), pairsF n T y (nmAll f l) = pairsF n T y (nmAll g l)
 | [], f, g, y => rfl
 | o :: r, f, g, y => by
   unfold nmAll
   cases hb : o.op.mk5 && o.guard.isNone with
   | true =>
     simp only [Bool.and_eq_true] at hb
     simp only [pairsF]
     rw [fromF_nm (sh_nm hb.1 f g) r (f + 1) (g + 1), pairsF_nm r (f + 1) (g + 1)]
   | false =>
     simp only [pairsF]
     rw [fromF_nm (Sh.refl o) r f g, pairsF_nm r f g]
def fastNamed (ops : Array Oper) (ms : List MOper) : Option (List MOper) :=
 match table .any ops.size ops.toList 0 0 with
 | some T => match (armFromF ops.size T ms 0 ms).all keepsFresh && pairsF ops.size T 0 (nmAll 0 (armFromF ops.size T ms 0 ms)) with
   | true => some (armFromF ops.size T ms 0 ms)
   | false => none
 | none => none
theorem region_named {b : Nat} {id : Nat} {ops : Array Oper} {ms ms' : List MOper} (hc : cOpers P n b ops ops.toList = some ms) (hf : fastNamed ops ms = some ms') {Q' : Sl → Sto → Prop} (Q : Exit → Act → World → Prop) (hA : At Df w0 base I0 n I β S σ a w)
 (hn : ∀ S' σ' I' β' a' w', Q' S' σ' → At Df w0 base I0 n I' β' S' σ' a' w' → Ext I β I' β' → Q .normal a' w')
 (h0 : WpOps P ms' S σ Q') (h1 : P.follows .mixedOrders = true ∨ Region.departs ops = false) : (Code.region id ops true).wp P Q a w := by
 unfold fastNamed at hf
 split at hf
 case h_2 => simp at hf
 rename_i T hT
 split at hf
 case h_2 => simp at hf
 rename_i hp
 injection hf with hf
 rw [Bool.and_eq_true] at hp
 obtain ⟨hk, hp⟩ := hp
 have hlen0 : ops.size = ms.length := by have := (cOpers_get hc).1; simpa using this
 have hlen : ms'.length = ops.size := by rw [← hf, armFromF_length, hlen0]
 obtain ⟨hs, he⟩ := table_spec hT (fun k => by simp) (by simp) (fun j i hi hb => by simp at hb)
 rw [hf] at hp hk
 have hp2 : pairsF ops.size T 0 (nmAll (fresh σ) ms') = true := by rw [← hp]; exact pairsF_nm ms' (fresh σ) 0 0
 have h0' := nm_wp ms' hk h0
 have hlen2 : (nmAll (fresh σ) ms').length = ops.size := by rw [nmAll_length, hlen]
 refine wp_region_draw fun t => ?_
 unfold Region.schedule
 have : (P.follows .mixedOrders || !Region.departs ops) = true := by
  rcases h1 with h | h <;> simp [h]
 rw [if_pos this]
 refine any_start (ms' := nmAll (fresh σ) ms') (perm := List.range' 0 (nmAll (fresh σ) ms').length) hc (fun i m hm => ?_) ?_ Q ?_ hA hn t
 ·obtain ⟨m', a1, a2, a3, a4⟩ := armFromF_bare (n := ops.size) (T := T) (ms := ms) (k := 0) hm
  rw [hf] at a1
  obtain ⟨m'', b1, b2⟩ := nmAll_get (f := fresh σ) a1
  rcases b2 with rfl | ⟨c1, c2, q, rfl⟩
  ·exact ⟨_, b1, a2, a3, a4.imp (fun h => h) .inl⟩
  ·have e : m'.op = m.op := by
    rcases a4 with h | h
    ·rw [h]
    ·rw [← h]
     obtain ⟨d, op, g⟩ := m'
     cases op <;> first
      | (simp [MOp.mk5] at c2; done)
      | rfl
   refine ⟨_, b1, ?_, a3, .inr (.inr ⟨by rw [← a2]; exact c1, by rw [← e]; exact c2, q, by rw [← e]⟩)⟩
   show none = m.guard
   rw [← a2]; exact c1.symm
 ·simp only [anyOrder, Bool.and_eq_true, decide_eq_true_eq, List.all_eq_true]
  refine ⟨⟨⟨⟨List.nodup_range' .., fun i hi => ?_⟩, ?_⟩, ?_⟩, pairsF_spec hs hlen2 (fun k => by simp) hp2⟩
  ·rw [List.mem_range'] at hi
   obtain ⟨k, hk, rfl⟩ := hi
   omega
  ·simpa using hlen2
  ·refine topo_range _ _ _ (by rw [hlen2]; simp) (fun i hi => by omega) (fun i o _ ho => ?_)
   have := he i o (by simpa using ho)
   simpa using this
 ·rw [← WpIdx_range (nmAll (fresh σ) ms') (nmAll (fresh σ) ms') 0 (fun j => by simp)]
  exact h0'
end Go.Proofs.YtkockkfmjmheeaaGreat.E

namespace Go.Proofs.YtkockkfmjmheeaaGreat.E
open Go Go.RowKit
set_option linter.unusedSimpArgs false
set_option linter.unusedVariables false
variable {Df : List Deferred} {P : Program} {w0 : World} {base : Nat} {I0 I : Imm} {β : Beta} {S : Sl} {σ σ' : Sto} {w : World} {a : Act} {v : V} {n : Nat}
def lateBy (last : MOper → Bool) (ops : Array Oper) (ms : List MOper) : List Nat :=
 go ops.size 0 []
where
 go : Nat → Nat → List Nat → List Nat
  | 0, _, acc => acc.reverse
  | fuel + 1, seen, acc =>
    let rs := (List.range ops.size).filter fun i => !seen.testBit i && ((ops[i]?).map (·.after.all fun e => !Region.binds .any e || seen.testBit e.on)).getD false
    match rs.find? fun i => (ms[i]?.map fun m => !last m).getD true with
    | some i => go fuel (seen ||| (1 <<< i)) (i :: acc)
    | none => match rs with
      | i :: _ => go fuel (seen ||| (1 <<< i)) (i :: acc)
      | [] => acc.reverse
def lateMakers (ops : Array Oper) (ms : List MOper) : List Nat := lateBy (fun m => m.op.mk5) ops ms
def lateWriters (ops : Array Oper) (ms : List MOper) : List Nat := lateBy (fun m => !decide (m.op.cl ≤ 2)) ops ms
/-! ### makers named along an order -/
def nmP : Nat → List Nat → List MOper → List MOper
 | _, [], ms => ms
 | f, i :: r, ms => match ms[i]? with
   | some o => match o.op.mk5 && o.guard.isNone with
     | true => nmP (f + 1) r (ms.set i ⟨o.dst, o.op.nm f, none⟩)
     | false => nmP f r ms
   | none => nmP f r ms
theorem nmP_notin : ∀ {f : Nat} {p : List Nat} {ms : List MOper} {i : Nat}, i ∉ p → (nmP f p ms)[i]? = ms[i]?
 | _, [], _, _, _ => rfl
 | f, j :: r, ms, i, h => by
   simp only [List.mem_cons, not_or] at h
   unfold nmP
   split
   ·split
    ·rw [nmP_notin h.2, List.getElem?_set, if_neg (fun e => h.1 e.symm)]
    ·rw [nmP_notin h.2]
   ·rw [nmP_notin h.2]
theorem nmP_get : ∀ {f : Nat} {p : List Nat} {ms : List MOper} {i : Nat} {m : MOper}, p.Nodup → ms[i]? = some m → ∃ m', (nmP f p ms)[i]? = some m' ∧ (m' = m ∨ (m.guard = none ∧ m.op.mk5 = true ∧ ∃ q, m' = ⟨m.dst, m.op.nm q, none⟩))
 | _, [], _, _, m, _, h => ⟨m, h, .inl rfl⟩
 | f, j :: r, ms, i, m, hn, h => by
   obtain ⟨h1, h2⟩ := List.nodup_cons.1 hn
   unfold nmP
   cases hj : ms[j]? with
   | none => exact nmP_get h2 h
   | some o =>
     simp only []
     cases hb : o.op.mk5 && o.guard.isNone with
     | false => exact nmP_get h2 h
     | true =>
       simp only []
       by_cases e : j = i
       ·subst e
        rw [hj] at h; injection h with h; subst h
        simp only [Bool.and_eq_true, Option.isNone_iff_eq_none] at hb
        have hlt := (List.getElem?_eq_some_iff.1 hj).1
        exact ⟨_, by rw [nmP_notin h1, List.getElem?_set, if_pos rfl, if_pos hlt], .inr ⟨hb.2, hb.1, f, rfl⟩⟩
       ·exact nmP_get h2 (by rw [List.getElem?_set, if_neg e]; exact h)
theorem WpIdx_cg {ms ms' : List MOper} : ∀ {p : List Nat} {S : Sl} {σ : Sto} {Q : Sl → Sto → Prop}, (∀ i ∈ p, ms[i]? = ms'[i]?) → WpIdx P ms p S σ Q → WpIdx P ms' p S σ Q
 | [], _, _, _, _, h => h
 | i :: r, S, σ, Q, he, h => by
   simp only [WpIdx] at h ⊢
   rw [← he i (by simp)]
   split at h
   ·exact wpOp_mono' h fun S' σ' h' => WpIdx_cg (fun j hj => he j (by simp [hj])) h'
   ·exact h.elim
theorem nmP_wp : ∀ {p : List Nat} {ms : List MOper} {S : Sl} {σ : Sto} {Q : Sl → Sto → Prop}, p.Nodup → (∀ i ∈ p, ∀ m, ms[i]? = some m → keepsFresh m = true) → WpIdx P ms p S σ Q → WpIdx P (nmP (fresh σ) p ms) p S σ Q
 | [], _, _, _, _, _, _, h => h
 | i :: r, ms, S, σ, Q, hn, hk, h => by
   obtain ⟨hn1, hn2⟩ := List.nodup_cons.1 hn
   simp only [WpIdx] at h ⊢
   cases hi : ms[i]? with
   | none => rw [hi] at h; exact h.elim
   | some o =>
     rw [hi] at h
     simp only [] at h
     have hk1 := hk i (by simp) o hi
     have hlt := (List.getElem?_eq_some_iff.1 hi).1
     unfold keepsFresh at hk1
     unfold nmP
     rw [hi]
     simp only []
     cases hb : o.op.mk5 && o.guard.isNone with
     | true =>
       simp only [Bool.and_eq_true, Option.isNone_iff_eq_none] at hb
       simp only []
       rw [nmP_notin hn1, List.getElem?_set, if_pos rfl, if_pos hlt]
       simp only []
       obtain ⟨d, op, g⟩ := o
       obtain ⟨h5, rfl⟩ := hb
       simp only at h5
       have c5 : op.cl ≤ 6 := by cases op <;> (try (simp [MOp.mk5] at h5; done)) <;> simp [MOp.cl]
       have c6 : (op.nm (fresh σ)).cl ≤ 6 := by cases op <;> (try (simp [MOp.mk5] at h5; done)) <;> simp [MOp.cl, MOp.nm]
       obtain ⟨v, σ', hf, hK⟩ := (wpOp_act (o := ⟨d, op, none⟩) c5 _).1 h
       obtain ⟨g1, g2⟩ := fn_nm h5 hf
       refine (wpOp_act (o := ⟨d, op.nm (fresh σ), none⟩) c6 _).2 ⟨v, σ', g1, ?_⟩
       have hK2 := WpIdx_cg (ms' := ms.set i ⟨d, op.nm (fresh σ), none⟩) (fun j hj => by rw [List.getElem?_set, if_neg (fun e => by subst e; exact hn1 hj)]) hK
       have := nmP_wp hn2 (fun j hj m hm => hk j (by simp [hj]) m (by rw [List.getElem?_set, if_neg (fun e => by subst e; exact hn1 hj)] at hm; exact hm)) hK2
       rwa [g2] at this
     | false =>
       simp only []
       rw [nmP_notin hn1, hi]
       simp only []
       rw [hb, Bool.false_or, Bool.or_eq_true, decide_eq_true_eq] at hk1
       obtain ⟨v, σ', hf, hK⟩ := (wpOp_act (cl_st hk1) _).1 h
       refine (wpOp_act (cl_st hk1) _).2 ⟨v, σ', hf, ?_⟩
       have := nmP_wp hn2 (fun j hj m hm => hk j (by simp [hj]) m hm) hK
       rwa [act_keeps hk1 hf] at this
/-! ### the test does not see the names -/
def ShL (l m : List MOper) : Prop := ∀ i : Nat, (l[i]? = none ∧ m[i]? = none) ∨ ∃ x y, l[i]? = some x ∧ m[i]? = some y ∧ Sh x y
theorem ShL.refl (l : List MOper) : ShL l l := fun i => by
 cases h : l[i]? with
 | none => exact .inl ⟨rfl, rfl⟩
 | some x => exact .inr ⟨x, x, rfl, rfl, Sh.refl x⟩
theorem nmP_sh : ∀ {p : List Nat} {f g : Nat} {ms : List MOper}, p.Nodup → ShL (nmP f p ms) (nmP g p ms) := by
 have key : ∀ {p : List Nat} {f g : Nat} {ms ms' : List MOper}, p.Nodup → (∀ i ∈ p, ms[i]? = ms'[i]?) → ShL ms ms' → ShL (nmP f p ms) (nmP g p ms') := by
  intro p
  induction p with
  | nil => intro f g ms ms' _ _ h; exact h
  | cons i r ih =>
    intro f g ms ms' hn he h
    obtain ⟨hn1, hn2⟩ := List.nodup_cons.1 hn
    unfold nmP
    rw [← he i (by simp)]
    cases hi : ms[i]? with
    | none => exact ih hn2 (fun j hj => he j (by simp [hj])) h
    | some o =>
      have hi' : ms'[i]? = some o := by rw [← he i (by simp)]; exact hi
      simp only []
      cases hb : o.op.mk5 && o.guard.isNone with
      | false => exact ih hn2 (fun j hj => he j (by simp [hj])) h
      | true =>
        simp only []
        simp only [Bool.and_eq_true] at hb
        refine ih hn2 (fun j hj => ?_) (fun j => ?_)
        ·have hne : ¬ i = j := fun e => by subst e; exact hn1 hj
         rw [List.getElem?_set, if_neg hne, List.getElem?_set, if_neg hne]
         exact he j (by simp [hj])
        ·by_cases e : i = j
         ·subst e
          have l1 := (List.getElem?_eq_some_iff.1 hi).1
          have l2 := (List.getElem?_eq_some_iff.1 hi').1
          exact .inr ⟨_, _, by rw [List.getElem?_set, if_pos rfl, if_pos l1], by rw [List.getElem?_set, if_pos rfl, if_pos l2], sh_nm hb.1 f g⟩
         ·rw [List.getElem?_set, if_neg e, List.getElem?_set, if_neg e]
          exact h j
 intro p f g ms hn
 exact key hn (fun _ _ => rfl) (ShL.refl ms)
theorem dstAt_sh {l m : List MOper} (h : ShL l m) : dstAt l = dstAt m := by
 funext i
 unfold dstAt
 rcases h i with ⟨h1, h2⟩ | ⟨x, y, h1, h2, hs⟩
 ·rw [h1, h2]
 ·rw [h1, h2]; simp [hs.dst]
theorem okPair_sh {l m : List MOper} (h : ShL l m) (y i : Nat) (btw : List Nat) : okPair l y i btw = okPair m y i btw := by
 unfold okPair
 rw [dstAt_sh h]
 rcases h y with ⟨h1, h2⟩ | ⟨x1, y1, h1, h2, s1⟩
 ·rw [h1, h2]
 ·rw [h1, h2]
  rcases h i with ⟨h3, h4⟩ | ⟨x2, y2, h3, h4, s2⟩
  ·rw [h3, h4]
  ·rw [h3, h4]
   simp only []
   rw [commute_sh s1 s2, passes_sh s1 s2]
theorem pairsOK_sh {l m : List MOper} (h : ShL l m) (md : Region.Mode) (ops : Array Oper) : ∀ p : List Nat, pairsOK md ops l p = pairsOK md ops m p := by
 have key : ∀ (r : List Nat) (y : Nat) (btw : List Nat), pairsFrom md ops l y btw r = pairsFrom md ops m y btw r := by
  intro r
  induction r with
  | nil => intro y btw; rfl
  | cons i r ih => intro y btw; simp only [pairsFrom, okPair_sh h, ih]
 intro p
 induction p with
 | nil => rfl
 | cons y r ih => simp only [pairsOK, key, ih]
theorem anyOrder_sh {l m : List MOper} (h : ShL l m) (md : Region.Mode) (ops : Array Oper) (p : List Nat) : anyOrder md ops l p = anyOrder md ops m p := by
 unfold anyOrder; rw [pairsOK_sh h]
theorem region_late {b : Nat} {id : Nat} {ops : Array Oper} {ms l : List MOper} {p : List Nat} (hc : cOpers P n b ops ops.toList = some ms) (hk : (armFrom .any ops ms p 0 ms).all keepsFresh = true) (ha : anyOrder .any ops (nmP 0 p (armFrom .any ops ms p 0 ms)) p = true) (hl : inOrder (armFrom .any ops ms p 0 ms) p = some l) {Q' : Sl → Sto → Prop} (Q : Exit → Act → World → Prop) (hA : At Df w0 base I0 n I β S σ a w)
 (hn : ∀ S' σ' I' β' a' w', Q' S' σ' → At Df w0 base I0 n I' β' S' σ' a' w' → Ext I β I' β' → Q .normal a' w')
 (h0 : WpOps P l S σ Q') (h1 : P.follows .mixedOrders = true ∨ Region.departs ops = false) : (Code.region id ops true).wp P Q a w := by
 have hnd : p.Nodup := by
  simp only [anyOrder, Bool.and_eq_true, decide_eq_true_eq] at ha
  exact ha.1.1.1.1
 refine wp_region_draw fun t => ?_
 unfold Region.schedule
 have : (P.follows .mixedOrders || !Region.departs ops) = true := by
  rcases h1 with h | h <;> simp [h]
 rw [if_pos this]
 rw [anyOrder_sh (nmP_sh (f := 0) (g := fresh σ) hnd)] at ha
 refine any_start (ms' := nmP (fresh σ) p (armFrom .any ops ms p 0 ms)) (perm := p) hc (fun i m hm => ?_) ha Q ?_ hA hn t
 ·obtain ⟨m', a1, a2, a3, a4⟩ := arm_bare (md := .any) (ops := ops) (ms := ms) (perm := p) (k := 0) hm
  obtain ⟨m'', b1, b2⟩ := nmP_get (f := fresh σ) hnd a1
  rcases b2 with rfl | ⟨c1, c2, q, rfl⟩
  ·exact ⟨_, b1, a2, a3, a4.imp (fun h => h) .inl⟩
  ·have e : m'.op = m.op := by
    rcases a4 with h | h
    ·rw [h]
    ·rw [← h]
     obtain ⟨d, op, g⟩ := m'
     cases op <;> first
      | (simp [MOp.mk5] at c2; done)
      | rfl
   refine ⟨_, b1, ?_, a3, .inr (.inr ⟨by rw [← a2]; exact c1, by rw [← e]; exact c2, q, by rw [← e]⟩)⟩
   show none = m.guard
   rw [← a2]; exact c1.symm
 ·exact nmP_wp hnd (fun i _ m hm => by rw [List.all_eq_true] at hk; exact hk m (List.mem_of_getElem? hm)) (inOrder_idx hl _ _ _ h0)
def orderOf (ops : Array Oper) (ms : List MOper) : Option (List MOper) :=
 match fastRegion ops ms with
 | some l => some l
 | none =>
 match fastNamed ops ms with
 | some l => some l
 | none =>
 let p := lateMakers ops ms
 let msa := armFrom .any ops ms p 0 ms
 if anyOrder .any ops msa p then inOrder msa p else
 let p := lateWriters ops ms
 let msa := armFrom .any ops ms p 0 ms
 if anyOrder .any ops msa p then inOrder msa p else
 if msa.all keepsFresh && anyOrder .any ops (nmP 0 p msa) p then inOrder msa p else none
theorem region_order {b : Nat} {id : Nat} {ops : Array Oper} {ms l : List MOper} (hc : cOpers P n b ops ops.toList = some ms) (ho : orderOf ops ms = some l) {Q' : Sl → Sto → Prop} (Q : Exit → Act → World → Prop) (hA : At Df w0 base I0 n I β S σ a w)
 (hn : ∀ S' σ' I' β' a' w', Q' S' σ' → At Df w0 base I0 n I' β' S' σ' a' w' → Ext I β I' β' → Q .normal a' w')
 (h0 : WpOps P l S σ Q') (h1 : P.follows .mixedOrders = true ∨ Region.departs ops = false) : (Code.region id ops true).wp P Q a w := by
 simp only [orderOf] at ho
 split at ho
 ·rename_i l' hl
  injection ho with ho; subst ho
  exact region_fast hc hl Q hA hn h0 h1
 split at ho
 ·rename_i l' hl
  injection ho with ho; subst ho
  exact region_named hc hl Q hA hn h0 h1
 split at ho
 ·rename_i hp
  exact region_any hc Q hA hn (fun _ => ⟨_, hp, inOrder_idx ho _ _ _ h0⟩) h1
 split at ho
 ·rename_i hp
  exact region_any hc Q hA hn (fun _ => ⟨_, hp, inOrder_idx ho _ _ _ h0⟩) h1
 split at ho
 ·rename_i hp
  rw [Bool.and_eq_true] at hp
  exact region_late hc hp.1 hp.2 ho Q hA hn h0 h1
 ·simp at ho
def modeOf (X : List Nat) (id : Nat) : Nat :=
 match X.find? fun x => decide (10000 ≤ x) && x % 10000 == id with
 | some x => 10 + (x / 10000 - 1)
 | none => if X.contains (id + 2000) then 4 else if X.contains (id + 1000) then 3 else if X.contains id then 2 else 1
def cReg (P : Program) (n : Nat) (X : List Nat) (id : Nat) (ops : Array Oper) : Option (List MOper) :=
 match cOpers P n (modeOf X id) ops ops.toList with
 | some ms => match orderOf ops ms with
   | some l => some l
   | none => match cOpers P n 3 ops ops.toList with
     | some ms => orderOf ops ms
     | none => none
 | none => none
theorem region_read {X : List Nat} {id : Nat} {ops : Array Oper} {l : List MOper} (hc : cReg P n X id ops = some l) {Q' : Sl → Sto → Prop} (Q : Exit → Act → World → Prop) (hA : At Df w0 base I0 n I β S σ a w)
 (hn : ∀ S' σ' I' β' a' w', Q' S' σ' → At Df w0 base I0 n I' β' S' σ' a' w' → Ext I β I' β' → Q .normal a' w')
 (h0 : WpOps P l S σ Q') (h1 : P.follows .mixedOrders = true ∨ Region.departs ops = false) : (Code.region id ops true).wp P Q a w := by
 unfold cReg at hc
 split at hc
 ·rename_i ms hms
  split at hc
  ·rename_i l' hl
   injection hc with hc; subst hc
   exact region_order hms hl Q hA hn h0 h1
  ·split at hc
   ·rename_i ms2 hms2
    exact region_order hms2 hc Q hA hn h0 h1
   ·simp at hc
 ·simp at hc
end Go.Proofs.YtkockkfmjmheeaaGreat.E

namespace Go.Proofs.YtkockkfmjmheeaaGreat.E
open Go Go.RowKit
set_option linter.unusedSimpArgs false
set_option linter.unusedVariables false
open Classical
variable {Df : List Deferred} {P : Program} {w0 : World} {base : Nat} {I0 I : Imm} {β : Beta} {S : Sl} {σ σ' : Sto} {w : World} {a : Act} {v : V} {n : Nat}
def cCode (P : Program) (n : Nat) (K : Nat → Option (List Nat)) (X : List Nat) : Code → Option MCode
 | .skip => some .skip
 | .region id ops draw =>
   if draw then
    if P.follows .mixedOrders || !Region.departs ops then (cReg P n X id ops).map fun l => .region l (K id) else none
   else match cOpers P n (if X.contains (id + 2000) then 4 else 0) ops ops.toList with
    | some ms => some (.region ms (K id))
    | none => none
 | .seq x y => match cCode P n K X x, cCode P n K X y with
   | some x, some y => some (.seq x y)
   | _, _ => none
 | .cond c x y => match cOpd c, cCode P n K X x, cCode P n K X y with
   | some c, some x, some y => some (.cond c x y)
   | _, _, _ => none
 | .block id x => (cCode P n K X x).map (.block id)
 | .loop x => (cCode P n K X x).map .loop
 | .exit id => some (.exit id)
 | .ret => some .ret
 | _ => none
def Ex.of : Ex → Exit
 | .norm => .normal
 | .exit n => .exit n
 | .ret => .ret
theorem exists_min {p : Nat → Prop} (h : ∃ k, p k) : ∃ k, p k ∧ ∀ j, p j → k ≤ j := by
 obtain ⟨k, hk⟩ := h
 induction k using Nat.strongRecOn with
 | _ k ih =>
   by_cases h : ∃ j, j < k ∧ p j
   ·obtain ⟨j, hj, hp⟩ := h; exact ih j hj hp
   ·exact ⟨k, hk, fun j hj => Nat.le_of_not_lt fun hlt => h ⟨j, hlt, hj⟩⟩
theorem code_sound {K : Nat → Option (List Nat)} {X : List Nat} {Ks : List Nat} : ∀ (c : Code) (mc : MCode), cCode P n K X c = some mc → ∀ {S : Sl} {σ : Sto} {I : Imm} {β : Beta} {a : Act} {w : World} {Q' : Ex → Sl → Sto → Prop},
 WpM P Ks mc S σ Q' → At Df w0 base I0 n I β S σ a w → ∀ (Q : Exit → Act → World → Prop), (∀ e S' σ' I' β' a' w', Q' e S' σ' → At Df w0 base I0 n I' β' S' σ' a' w' → ExtK Ks I β I' β' → Q e.of a' w') → c.wp P Q a w := by
 intro c
 induction c with
 | skip =>
   intro mc hc S σ I β a w Q' h hA Q hn
   simp [cCode] at hc; subst hc
   exact wp_skip (hn .norm S σ I β a w h hA (ExtK.refl _ _ _))
 | region id ops draw =>
   intro mc hc S σ I β a w Q' h hA Q hn
   simp only [cCode] at hc
   have hn' : ∀ (l : List MOper), (∀ S' σ' I' β' a' w', Q' .norm (S'.keepO (K id)) σ' → At Df w0 base I0 n I' β' S' σ' a' w' → Ext I β I' β' → Q .normal a' w') := fun l S' σ' I' β' a' w' h1 h2 h3 => hn .norm _ σ' I' β' a' w' h1 (h2.keepO _) h3.K
   cases draw with
   | false =>
     simp only [Bool.false_eq_true, if_false] at hc
     split at hc
     case h_2 => simp at hc
     rename_i ms hms
     injection hc with hc; subst hc
     exact region_sound hms Q h hA (hn' [])
   | true =>
     simp only [if_true] at hc
     split at hc
     ·rename_i hcond
      have hcond' : P.follows .mixedOrders = true ∨ Region.departs ops = false := by simpa using hcond
      obtain ⟨l, hl, rfl⟩ := opt_map_some hc
      exact region_read hl Q hA (hn' []) h hcond'
     ·simp at hc
 | seq x y ihx ihy =>
   intro mc hc S σ I β a w Q' h hA Q hn
   simp only [cCode] at hc
   split at hc
   ·rename_i mx my hx hy
    injection hc with hc; subst hc
    refine wp_seq (ihx mx hx h hA _ (fun e S' σ' I' β' a' w' h1 h2 h3 => ?_))
    cases e with
    | norm => exact ihy my hy h1 h2 Q (fun e S2 σ2 I2 β2 a2 w2 g1 g2 g3 => hn e S2 σ2 I2 β2 a2 w2 g1 g2 (h3.trans g3))
    | exit k => exact hn (.exit k) S' σ' I' β' a' w' h1 h2 h3
    | ret => exact hn .ret S' σ' I' β' a' w' h1 h2 h3
   ·simp at hc
 | cond c x y ihx ihy =>
   intro mc hc S σ I β a w Q' h hA Q hn
   simp only [cCode] at hc
   split at hc
   ·rename_i c' mx my hcc hx hy
    injection hc with hc; subst hc
    obtain ⟨t, ht, h1, h2⟩ := h
    have := (ev_sound hcc hA.slots ht).inv_bool
    exact wp_cond_split this (fun e => ihx mx hx (h1 e) hA Q hn) (fun e => ihy my hy (h2 e) hA Q hn)
   ·simp at hc
 | block id x ih =>
   intro mc hc S σ I β a w Q' h hA Q hn
   simp only [cCode] at hc
   obtain ⟨mx, hx, rfl⟩ := opt_map_some hc
   refine wp_block (ih mx hx h hA _ (fun e S' σ' I' β' a' w' h1 h2 h3 => ?_))
   cases e with
   | norm => exact hn .norm S' σ' I' β' a' w' h1 h2 h3
   | exit k =>
     simp only [Ex.of, Exit.inBlock]
     simp only [] at h1
     split
     ·rename_i e; rw [if_pos e] at h1; exact hn .norm S' σ' I' β' a' w' h1 h2 h3
     ·rename_i e; rw [if_neg e] at h1; exact hn (.exit k) S' σ' I' β' a' w' h1 h2 h3
   | ret => exact hn .ret S' σ' I' β' a' w' h1 h2 h3
 | loop x ih =>
   intro mc hc S σ I β a w Q' h hA Q hn
   simp only [cCode] at hc
   obtain ⟨mx, hx, rfl⟩ := opt_map_some hc
   obtain ⟨J, ⟨k0, S1, σ1, hweak, hJ⟩, hround⟩ := h
   let R : Nat → Act → World → Prop := fun k a' w' => ∃ S' σ' I' β', J k S' σ' ∧ At Df w0 base I0 n I' β' S' σ' a' w' ∧ ExtK Ks I β I' β'
   let μ : Act → World → Nat := fun a' w' => if h : ∃ k, R k a' w' then Classical.choose (exists_min h) else 0
   refine wp_loop (fun a' w' => ∃ k, R k a' w') μ ?_ ?_
   ·obtain ⟨g1, g2, g3⟩ := hweak.sound hA.inv hA.slots
    exact ⟨k0, S1, σ1, I, _, hJ, ⟨g1, g2, hA.size, hA.defers⟩, g3⟩
   ·intro a' w' hex
    have hk := (Classical.choose_spec (exists_min hex)).1
    have hμ : μ a' w' = Classical.choose (exists_min hex) := by simp only [μ]; rw [dif_pos hex]
    obtain ⟨S', σ', I', β', hJ', hA', hE'⟩ := hk
    refine ih mx hx (hround _ S' σ' hJ') hA' _ (fun e S2 σ2 I2 β2 a2 w2 h1 h2 h3 => ?_)
    cases e with
    | norm =>
      obtain ⟨k', S3, σ3, hlt, hw3, hJ3⟩ := h1
      obtain ⟨g1, g2, g3⟩ := hw3.sound h2.inv h2.slots
      have hR : R k' a2 w2 := ⟨S3, σ3, I2, _, hJ3, ⟨g1, g2, h2.size, h2.defers⟩, (hE'.trans h3).trans g3⟩
      refine ⟨⟨k', hR⟩, ?_⟩
      have hex2 : ∃ k, R k a2 w2 := ⟨k', hR⟩
      have hμ2 : μ a2 w2 = Classical.choose (exists_min hex2) := by simp only [μ]; rw [dif_pos hex2]
      rw [hμ2, hμ]
      exact Nat.lt_of_le_of_lt ((Classical.choose_spec (exists_min hex2)).2 _ hR) hlt
    | exit k => exact hn (.exit k) S2 σ2 I2 β2 a2 w2 h1 h2 (hE'.trans h3)
    | ret => exact hn .ret S2 σ2 I2 β2 a2 w2 h1 h2 (hE'.trans h3)
 | exit id =>
   intro mc hc S σ I β a w Q' h hA Q hn
   simp [cCode] at hc; subst hc
   exact wp_exit (hn (.exit id) S σ I β a w h hA (ExtK.refl _ _ _))
 | ret =>
   intro mc hc S σ I β a w Q' h hA Q hn
   simp [cCode] at hc; subst hc
   exact wp_ret (hn .ret S σ I β a w h hA (ExtK.refl _ _ _))
 | _ => intro mc hc; simp [cCode] at hc
/-! ### Functions -/
inductive MRes where
 | t (n : Nat)
 | cell (n : Nat) (k : Option Nat)
 deriving Inhabited
structure MFn where
 n : Nat
 body : MCode
 res : List MRes
 deriving Inhabited
def cRes (P : Program) : List ResultVar → Option (List MRes)
 | [] => some []
 | .tmp t :: r => (cRes P r).map (.t t :: ·)
 | .cell t ty :: r => match cKind P ty, cRes P r with
   | some k, some l => some (.cell t k :: l)
   | _, _ => none
def cFn (P : Program) (K : Nat → Option (List Nat)) (X : List Nat) (f : Nat) : Option MFn :=
 match P.funcs[f]? with
 | some fn => match fn.body with
   | some c => match cCode P fn.ntmps K X c, cRes P fn.results.toList with
     | some mc, some rs => if fn.name == "runtime.NumGoroutine" || decide (bm ≤ f) then none else some ⟨fn.ntmps, mc, rs⟩
     | _, _ => none
   | none => none
 | none => none
def res1 (S : Sl) (σ : Sto) : MRes → Option V
 | .t t => S t
 | .cell t k => match S t with
   | some u => (ldV σ k u).map (·.1)
   | none => none
def resV (S : Sl) (σ : Sto) : List MRes → Option (List V)
 | [] => some []
 | r :: l => match res1 S σ r, resV S σ l with
   | some v, some vs => some (v :: vs)
   | _, _ => none
def resOf : List V → V
 | [v] => v
 | l => .tup l
def argS (vs : List V) : Sl := fun i => vs[i]?
theorem run_res1 {r : ResultVar} {m : MRes} (hr : cRes P [r] = some [m]) (hA : At Df w0 base I0 n I β S σ a w) {v : V} (hv : res1 S σ m = some v) :
 ∃ rv, (match r with | .tmp t => pure (a.tmps.getD t undef) | .cell t ty => do loadVar ty (← asAddr (a.tmps.getD t undef)) : Sem Value).run P w = .ok rv w ∧ Rel I β rv v := by
 cases r with
 | tmp t =>
   simp [cRes] at hr; subst hr
   obtain ⟨c, h1, h2⟩ := hA.slots t v hv
   exact ⟨c, by simp [Array.getD_eq_getD_getElem?, h1], h2⟩
 | cell t ty =>
   simp only [cRes] at hr
   split at hr
   ·rename_i k l hk hl
    injection hr with hr; injection hr with hr _; subst hr
    simp only [res1] at hv
    split at hv
    ·rename_i u hu
     obtain ⟨⟨v', σ1⟩, h1, h2⟩ := opt_map_some hv
     simp at h2; subst h2
     obtain ⟨c, h3, h4⟩ := hA.slots t u hu
     obtain ⟨rv, h5, h6, _⟩ := run_load (P := P) (w := w) hk h4 hA.inv h1
     refine ⟨rv, ?_, h6⟩
     have hc : ∃ ad, c = .pointer (some ad) := by
      cases u <;> simp [ldV] at h1
      ·obtain ⟨k, _, e⟩ := h4.inv_ptr; exact ⟨_, e⟩
      ·obtain ⟨b, off, arr, _, e, _⟩ := h4.inv_elt; exact ⟨_, e⟩
     obtain ⟨ad, rfl⟩ := hc
     simp [Array.getD_eq_getD_getElem?, h3, asAddr]
     simpa [Instr.loadAt, Instr.sureAddr] using h5
    ·simp at hv
   ·simp at hr
theorem run_resL (hA : At Df w0 base I0 n I β S σ a w) : ∀ (rs : List ResultVar) (ms : List MRes) (vs : List V), cRes P rs = some ms → resV S σ ms = some vs →
 ∃ cs : List Value, (rs.mapM fun | .tmp t => pure (a.tmps.getD t undef) | .cell t ty => do loadVar ty (← asAddr (a.tmps.getD t undef)) : Sem (List Value)).run P w = .ok cs w ∧ cs.length = vs.length ∧ ∀ (i : Nat) (c : Value) (v : V), cs[i]? = some c → vs[i]? = some v → Rel I β c v
 | [], ms, vs, h1, h2 => by
   simp [cRes] at h1; subst h1
   simp [resV] at h2; subst h2
   exact ⟨[], by simp, rfl, by simp⟩
 | r :: rs, ms, vs, h1, h2 => by
   have hsplit : ∃ m ms', ms = m :: ms' ∧ cRes P [r] = some [m] ∧ cRes P rs = some ms' := by
    cases r with
    | tmp t =>
      simp only [cRes] at h1
      obtain ⟨ms', h, rfl⟩ := opt_map_some h1
      exact ⟨_, ms', rfl, by simp [cRes], h⟩
    | cell t ty =>
      simp only [cRes] at h1
      split at h1
      ·rename_i k l hk hl
       injection h1 with h1; subst h1
       exact ⟨_, l, rfl, by simp [cRes, hk], hl⟩
      ·simp at h1
   obtain ⟨m, ms', rfl, h3, h4⟩ := hsplit
   simp only [resV] at h2
   split at h2
   ·rename_i v vs' hv hvs
    injection h2 with h2; subst h2
    obtain ⟨rv, h5, h6⟩ := run_res1 h3 hA hv
    obtain ⟨cs, h7, h8, h9⟩ := run_resL hA rs ms' vs' h4 hvs
    refine ⟨rv :: cs, ?_, by simp [h8], fun i c v' hc hv' => ?_⟩
    ·rw [List.mapM_cons, Sem.run_bind, h5]
     simp only [Result.andThen, Sem.run_bind, h7]
     rfl
    ·cases i with
     | zero => simp at hc hv'; subst hc; subst hv'; exact h6
     | succ i => exact h9 i c v' (by simpa using hc) (by simpa using hv')
   ·simp at h2
theorem run_results {fn : Func} {ms : List MRes} (hr : cRes P fn.results.toList = some ms) (hA : At Df w0 base I0 n I β S σ a w) {vs : List V} (hv : resV S σ ms = some vs) : ∃ rv, (results fn a.tmps).run P w = .ok rv w ∧ Rel I β rv (resOf vs) := by
 obtain ⟨cs, h1, h2, h3⟩ := run_resL hA _ _ _ hr hv
 have e : (fn.results.mapM fun | .tmp t => pure (a.tmps.getD t undef) | .cell t ty => do loadVar ty (← asAddr (a.tmps.getD t undef)) : Sem (Array Value)).run P w = .ok cs.toArray w := by
  have e : fn.results = fn.results.toList.toArray := by simp
  rw [e, List.mapM_toArray]
  simp only [Sem.run_map]
  rw [h1]; rfl
 unfold results
 rw [Sem.run_bind]
 erw [e]
 simp only [Result.andThen]
 match vs, cs, h2, h3 with
 | [v], [c], _, h3 => exact ⟨c, by simp [pure, Sem.run], h3 0 c v rfl rfl⟩
 | [], [], _, h3 => exact ⟨.tuple #[], by simp [pure, Sem.run], .tup (cs := #[]) rfl (fun i c y hc _ => by simp at hc)⟩
 | v :: u :: vs, c :: d :: cs, h2, h3 => exact ⟨.tuple (c :: d :: cs).toArray, by simp [pure, Sem.run], .tup (by simpa using h2) (fun i x y hx hy => h3 i x y (by simpa using hx) hy)⟩
theorem at_start {cs : Array Value} {vs : List V} (hI : Inv w0 base I0 I β σ w) (hargs : ArgsRel I β cs vs) (n : Nat) : At [] w0 base I0 n I β (argS vs) σ { tmps := cs ++ Array.replicate (n - cs.size) undef, defers := [] } w := by
 refine ⟨hI, fun j v hj => ?_, by simp; omega, rfl⟩
 have hlt : j < cs.size := by rw [hargs.1]; exact (List.getElem?_eq_some_iff.1 hj).1
 exact ⟨cs[j], by rw [Array.getElem?_append_left hlt]; simp [hlt], hargs.2 j _ v (by simp [hlt]) hj⟩
theorem cFn_spec {K : Nat → Option (List Nat)} {X : List Nat} {f : Nat} {mf : MFn} (h : cFn P K X f = some mf) : ∃ fn c, P.funcs[f]? = some fn ∧ fn.body = some c ∧ mf.n = fn.ntmps ∧ cCode P fn.ntmps K X c = some mf.body ∧ cRes P fn.results.toList = some mf.res ∧ isFn P f = true := by
 unfold cFn at h
 split at h
 ·rename_i fn hf
  split at h
  ·rename_i c hb
   split at h
   ·rename_i mc rs h1 h2
    split at h
    ·simp at h
    ·rename_i hn
     injection h with h; subst h
     simp only [Bool.or_eq_true, decide_eq_true_eq, not_or, Nat.not_le] at hn
     exact ⟨fn, c, hf, hb, rfl, h1, h2, by simp [isFn, hf, hb, hn.2]; simpa using hn.1⟩
   ·simp at h
  ·simp at h
 ·simp at h
theorem callD_of {K : Nat → Option (List Nat)} {X : List Nat} {f : Nat} {mf : MFn} (h : cFn P K X f = some mf) {vs : List V} {Q : V → Prop}
 (hw : WpM P [] mf.body (argS vs) [] fun e S σ => (∀ n, e ≠ .exit n) ∧ ∃ l d, resV S σ mf.res = some l ∧ toD σ deep (resOf l) = some d ∧ Q d) : CallD P f vs Q := by
 obtain ⟨fn, c, hf, hb, hn, hc, hr, hfn⟩ := cFn_spec h
 refine ⟨hfn, fun I w cs hI hT hargs => ?_⟩
 have hinv : Inv w w.heap.size I I Beta.none [] w := ⟨Below.refl _ _, Nat.le_refl _, hI, fun _ _ => rfl, hT, fun o x h => by simp [Beta.none] at h, fun o x h => by simp [look] at h, fun o o' x x' k k' h => by simp [look] at h⟩
 refine calls_of_wp hf hb ?_
 refine code_sound (n := fn.ntmps) (Ks := []) c mf.body hc hw (at_start hinv hargs fn.ntmps) _ (fun e S' σ' I' β' a' w' hq hA hE => ?_)
 obtain ⟨hne, l, d, h1, h2, h3⟩ := hq
 obtain ⟨rv, h4, h5⟩ := run_results hr hA h1
 obtain ⟨hF, hext⟩ := hA.inv.freeze (rch σ' deep (resOf l))
 have hd := toD_sound hA.inv (rch σ' deep (resOf l)) deep rv _ d h5 h2 (fun o ho => ho)
 have post : a'.defers = [] ∧ ∃ v, (results fn a'.tmps).run P w' = .ok v w' ∧ ∃ rv I' r, Ending.returned v = .returned rv ∧ Below w.heap.size w w' ∧ (∀ b arr, I b = some arr → I' b = some arr) ∧ ImmOK I' w' ∧ (∀ b, b < w.heap.size → I' b = I b) ∧ Rel I' Beta.none rv r ∧ Q r :=
  ⟨hA.defers, rv, h4, rv, _, d, rfl, hF.below, fun b arr hb => hext.imm _ _ (hE.imm _ _ hb), hF.imm, hF.old, hd, h3⟩
 cases e with
 | norm => exact post
 | exit n => exact (hne n rfl).elim
 | ret => exact post
structure WeakR (K : List Nat) (r : V) (σ1 σ : Sto) : Prop where
 obs : ∀ o x, look σ1 o = some x → look σ o = some x
 keep : ∀ o ∈ K, (look σ o).isSome = true → (look σ1 o).isSome = true
 resIn : r.within (fun o => (look σ1 o).isSome) = true
 obsIn : ∀ o x, look σ1 o = some x → x.st ≠ .dead → ∀ r ∈ x.cells, ∀ y ∈ r, y.within (fun o => (look σ1 o).isSome) = true
theorem look_key : ∀ {σ : Sto} {o : Nat}, (look σ o).isSome = true → o ∈ σ.map (·.1)
 | [], o, h => by simp [look] at h
 | (k, x) :: r, o, h => by
   simp only [look] at h
   by_cases e : k = o
   ·simp [e]
   ·rw [if_neg e] at h
    simp only [List.map_cons, List.mem_cons]
    exact .inr (look_key h)
theorem callX_of {K : Nat → Option (List Nat)} {X : List Nat} {f : Nat} {mf : MFn} (h : cFn P K X f = some mf) {vs : List V} {Q : V → Sto → Prop}
 (hw : WpM P (σ.map (·.1)) mf.body (argS vs) σ fun e S σ' => (∀ n, e ≠ .exit n) ∧ ∃ l σ1, resV S σ' mf.res = some l ∧ WeakR (σ.map (·.1)) (resOf l) σ1 σ' ∧ Q (resOf l) σ1) : CallX P f vs σ Q := by
 obtain ⟨fn, c, hf, hb, hn, hc, hr, hfn⟩ := cFn_spec h
 refine ⟨hfn, fun w0 base I0 I β w cs hI hargs => ?_⟩
 refine calls_of_wp hf hb ?_
 refine code_sound (n := fn.ntmps) (Ks := σ.map (·.1)) c mf.body hc hw (at_start hI hargs fn.ntmps) _ (fun e S' σ' I' β' a' w' hq hA hE => ?_)
 obtain ⟨hne, l, σ1, h1, h2, h3⟩ := hq
 obtain ⟨rv, h4, h5⟩ := run_results hr hA h1
 have hI1 := hA.inv.fewer h2.obs h2.obsIn
 have hext : Ext I β I' (Beta.only β' σ1) := by
  refine ⟨hE.imm, fun o x hx => ?_⟩
  have hk := look_key (hI.dom o x hx)
  have hb' := hE.beta o hk x hx
  exact Beta.only_of hb' (h2.keep o hk (hA.inv.dom o x hb'))
 have post : a'.defers = [] ∧ ∃ v, (results fn a'.tmps).run P w' = .ok v w' ∧ ∃ rv I' β' r σ', Ending.returned v = .returned rv ∧ Inv w0 base I0 I' β' σ' w' ∧ Ext I β I' β' ∧ Rel I' β' rv r ∧ Q r σ' :=
  ⟨hA.defers, rv, h4, rv, I', _, _, σ1, rfl, hI1, hext, h5.within h2.resIn (fun o x hp hb => Beta.only_of hb hp), h3⟩
 cases e with
 | norm => exact post
 | exit n => exact (hne n rfl).elim
 | ret => exact post
def kps (l : List (List Nat)) : Nat → Option (List Nat) := fun i => l[i]?
end Go.Proofs.YtkockkfmjmheeaaGreat.E
/-! Short forms for the printed functions. -/
namespace Go.Proofs.YtkockkfmjmheeaaGreat.Q
open Go Go.Proofs.YtkockkfmjmheeaaGreat.E
abbrev o (d : Nat) (m : MOp) : MOper := ⟨some d, m, none⟩
abbrev z (m : MOp) : MOper := ⟨none, m, none⟩
abbrev y (d g : Nat) (m : MOp) : MOper := ⟨some d, m, some (g, true)⟩
abbrev n (d g : Nat) (m : MOp) : MOper := ⟨some d, m, some (g, false)⟩
abbrev i (x : Int) : Opd := .c (.int .i64 x)
abbrev r (l : List MOper) (k : List Nat) : MCode := .region l (some k)
@[simp] abbrev zM : List V := [.nils, .bool false, .nils, .nils, .bool false, .nils, .nils, .bool false, .nils, .nils, .bool false, .nils, .nils, .bool false, .nils, .nils]
@[simp] abbrev zP : List V := [.int .i64 0, .int .i64 0, .nils, .bool false, .nils, .nils]
@[simp] abbrev zR : List V := [.bool false, .nils, .nils]
@[simp] abbrev zV : List V := [.int .i64 0, .int .i64 0, .nils]
end Go.Proofs.YtkockkfmjmheeaaGreat.Q

namespace Go.Proofs.YtkockkfmjmheeaaGreat.E
open Go Go.RowKit
set_option linter.unusedSimpArgs false
set_option linter.unusedVariables false
variable {P : Program} {S S' : Sl} {σ σ' : Sto} {v : V}
def Nxt (P : Program) (rest : List MOper) (d : Option Nat) (S : Sl) (Q : Sl → Sto → Prop) (v : V) (σ : Sto) : Prop := WpOps P rest (S.putd d v) σ Q
@[congr] theorem Nxt.cg {rest : List MOper} {d : Option Nat} {Q : Sl → Sto → Prop} {v v' : V} (h1 : S = S') (h2 : v = v') (h3 : σ = σ') : Nxt P rest d S Q v σ = Nxt P rest d S' Q v' σ' := by subst h1; subst h2; subst h3; rfl
@[congr] theorem WpOps.cg {l : List MOper} {Q : Sl → Sto → Prop} (h1 : S = S') (h2 : σ = σ') : WpOps P l S σ Q = WpOps P l S' σ' Q := by subst h1; subst h2; rfl
@[congr] theorem WpM.cg {K : List Nat} {c : MCode} {Q : Ex → Sl → Sto → Prop} (h1 : S = S') (h2 : σ = σ') : WpM P K c S σ Q = WpM P K c S' σ' Q := by subst h1; subst h2; rfl
def CallK (P : Program) (f : Nat) (vs : List V) (σ : Sto) (rest : List MOper) (d : Option Nat) (S : Sl) (Q : Sl → Sto → Prop) : Prop := CallX P f vs σ (Nxt P rest d S Q)
@[congr] theorem CallK.cg {f : Nat} {vs vs' : List V} {rest : List MOper} {d : Option Nat} {Q : Sl → Sto → Prop} (h1 : S = S') (h2 : vs = vs') (h3 : σ = σ') : CallK P f vs σ rest d S Q = CallK P f vs' σ' rest d S' Q := by subst h1; subst h2; subst h3; rfl
def MOp.evb : MOp → Bool
 | .call .. | .callF .. | .callV .. | .callXF .. | .callVF .. | .callVA .. | .rd2 .. => false
 | _ => true
theorem wp_nil {Q : Sl → Sto → Prop} : WpOps P [] S σ Q = Q S σ := (rfl)
theorem wp_ev {d : Option Nat} {m : MOp} {rest : List MOper} {Q : Sl → Sto → Prop} (h : m.evb = true) : WpOps P (⟨d, m, none⟩ :: rest) S σ Q = ∃ v σ', evOp S σ m = some (v, σ') ∧ Nxt P rest d S Q v σ' := by
 cases m <;> first | rfl | (simp [MOp.evb] at h)
theorem wp_call {d : Option Nat} {f : Nat} {l : List Opd} {rest : List MOper} {Q : Sl → Sto → Prop} : WpOps P (⟨d, .call f l, none⟩ :: rest) S σ Q = ∃ vs, evs S l = some vs ∧ CallK P f vs σ rest d S Q := (rfl)
theorem wp_callV {d : Option Nat} {x : Opd} {l : List Opd} {rest : List MOper} {Q : Sl → Sto → Prop} : WpOps P (⟨d, .callV x l, none⟩ :: rest) S σ Q = ∃ f cap vs, ev S x = some (.clo f cap) ∧ evs S l = some vs ∧ CallK P f (vs ++ cap) σ rest d S Q := (rfl)
def CallFK (P : Program) (f : Nat) (vs : List V) (σ : Sto) (rest : List MOper) (d : Option Nat) (S : Sl) (Q : Sl → Sto → Prop) : Prop := ∃ ds r, toDs σ vs = some ds ∧ CallD P f ds (· = r) ∧ Nxt P rest d S Q r (behind σ vs r)
@[congr] theorem CallFK.cg {f : Nat} {vs vs' : List V} {rest : List MOper} {d : Option Nat} {Q : Sl → Sto → Prop} (h1 : S = S') (h2 : vs = vs') (h3 : σ = σ') : CallFK P f vs σ rest d S Q = CallFK P f vs' σ' rest d S' Q := by subst h1; subst h2; subst h3; rfl
theorem wp_callF {d : Option Nat} {f : Nat} {l : List Opd} {rest : List MOper} {Q : Sl → Sto → Prop} : WpOps P (⟨d, .callF f l, none⟩ :: rest) S σ Q = ∃ vs, evs S l = some vs ∧ CallFK P f vs σ rest d S Q := by
 simp only [WpOps, WpOp, Step, CallFK, Nxt]
 apply propext
 constructor
 ·rintro ⟨vs, ds, r, h1, h2, h3, h4⟩; exact ⟨vs, h1, ds, r, h2, h3, h4⟩
 ·rintro ⟨vs, h1, ds, r, h2, h3, h4⟩; exact ⟨vs, ds, r, h1, h2, h3, h4⟩
def Grd (P : Program) (u : Option V) (b : Bool) (o : MOper) (rest : List MOper) (S : Sl) (σ : Sto) (Q : Sl → Sto → Prop) : Prop :=
 match u with
 | some (.bool t) => (t = b → WpOps P (o :: rest) S σ Q) ∧ (t ≠ b → Nxt P rest o.dst S Q (.tup []) σ)
 | some (.tup []) => Nxt P rest o.dst S Q (.tup []) σ
 | _ => False
@[congr] theorem Grd.cg {u u' : Option V} {b : Bool} {o : MOper} {rest : List MOper} {Q : Sl → Sto → Prop} (h0 : u = u') : Grd P u b o rest S σ Q = Grd P u' b o rest S σ Q := by subst h0; rfl
theorem wp_grd {d : Option Nat} {m : MOp} {g : Nat} {b : Bool} {rest : List MOper} {Q : Sl → Sto → Prop} : WpOps P (⟨d, m, some (g, b)⟩ :: rest) S σ Q = Grd P (S g) b ⟨d, m, none⟩ rest S σ Q := by
 simp only [WpOps, WpOp, Grd, Nxt]
 rfl
theorem grd_bool {t b : Bool} {o : MOper} {rest : List MOper} {Q : Sl → Sto → Prop} : Grd P (some (.bool t)) b o rest S σ Q = ((t = b → WpOps P (o :: rest) S σ Q) ∧ (t ≠ b → Nxt P rest o.dst S Q (.tup []) σ)) := (rfl)
theorem grd_skip {b : Bool} {o : MOper} {rest : List MOper} {Q : Sl → Sto → Prop} : Grd P (some (.tup [])) b o rest S σ Q = Nxt P rest o.dst S Q (.tup []) σ := (rfl)
theorem nxt {rest : List MOper} {d : Option Nat} {Q : Sl → Sto → Prop} : Nxt P rest d S Q v σ = WpOps P rest (S.putd d v) σ Q := (rfl)
theorem sl_set (d : Nat) (v : V) (i : Nat) : (S.set d v) i = if i = d then some v else S i := (rfl)
theorem sl_empty (i : Nat) : Sl.empty i = none := (rfl)
theorem sl_arg (vs : List V) (i : Nat) : argS vs i = vs[i]? := (rfl)
theorem putd_some (d : Nat) (v : V) : S.putd (some d) v = S.set d v := (rfl)
theorem putd_none (v : V) : S.putd none v = S := (rfl)
theorem keep_nil : S.keep [] = Sl.empty := (rfl)
theorem keep_cons (k : Nat) (l : List Nat) : S.keep (k :: l) = match S k with | some v => (S.keep l).set k v | none => S.keep l := (rfl)
theorem keepO_some (l : List Nat) : S.keepO (some l) = S.keep l := (rfl)
theorem keepO_none : S.keepO none = S := (rfl)
theorem ev_t (n : Nat) : ev S (.t n) = S n := (rfl)
theorem ev_c (v : V) : ev S (.c v) = some v := (rfl)
theorem evs_nil : evs S [] = some [] := (rfl)
theorem evs_cons (x : Opd) (l : List Opd) : evs S (x :: l) = match ev S x, evs S l with | some v, some l => some (v :: l) | _, _ => none := (rfl)
theorem wm_skip {K : List Nat} {Q : Ex → Sl → Sto → Prop} : WpM P K .skip S σ Q = Q .norm S σ := (rfl)
def KeepQ (k : Option (List Nat)) (Q : Ex → Sl → Sto → Prop) (S : Sl) (σ : Sto) : Prop := Q .norm (S.keepO k) σ
@[congr] theorem KeepQ.cg {k : Option (List Nat)} {Q : Ex → Sl → Sto → Prop} (h1 : S = S') (h2 : σ = σ') : KeepQ k Q S σ = KeepQ k Q S' σ' := by subst h1; subst h2; rfl
theorem keepQ {k : Option (List Nat)} {Q : Ex → Sl → Sto → Prop} : KeepQ k Q S σ = Q .norm (S.keepO k) σ := (rfl)
theorem wm_region {K : List Nat} {ops : List MOper} {k : Option (List Nat)} {Q : Ex → Sl → Sto → Prop} : WpM P K (.region ops k) S σ Q = WpOps P ops S σ (KeepQ k Q) := (rfl)
def DoneD (rs : List MRes) (R : V → Prop) (e : Ex) (S : Sl) (σ : Sto) : Prop := (∀ n, e ≠ .exit n) ∧ ∃ l d, resV S σ rs = some l ∧ toD σ deep (resOf l) = some d ∧ R d
@[congr] theorem DoneD.cg {rs : List MRes} {R : V → Prop} {e : Ex} (h1 : S = S') (h2 : σ = σ') : DoneD rs R e S σ = DoneD rs R e S' σ' := by subst h1; subst h2; rfl
theorem done_ret {rs : List MRes} {R : V → Prop} : DoneD rs R .ret S σ = ∃ l d, resV S σ rs = some l ∧ toD σ deep (resOf l) = some d ∧ R d := by simp [DoneD]
theorem callD_by {K : Nat → Option (List Nat)} {X : List Nat} {f : Nat} {mf : MFn} (h : cFn P K X f = some mf) {vs : List V} {Q : V → Prop} (hw : WpM P [] mf.body (argS vs) [] (DoneD mf.res Q)) : CallD P f vs Q := callD_of h hw
theorem wm_region2 {K : List Nat} {ops ops' : List MOper} {k : Option (List Nat)} {Q : Ex → Sl → Sto → Prop} : WpM P K (.region2 ops ops' k) S σ Q = ((WpOps P ops S σ fun S' σ' => Q .norm (S'.keepO k) σ') ∧ WpOps P ops' S σ fun S' σ' => Q .norm (S'.keepO k) σ') := (rfl)
def Then (P : Program) (K : List Nat) (b : MCode) (Q : Ex → Sl → Sto → Prop) (e : Ex) (S : Sl) (σ : Sto) : Prop :=
 match e with
 | .norm => WpM P K b S σ Q
 | .exit n => Q (.exit n) S σ
 | .ret => Q .ret S σ
theorem wm_seq {K : List Nat} {a b : MCode} {Q : Ex → Sl → Sto → Prop} : WpM P K (.seq a b) S σ Q = WpM P K a S σ (Then P K b Q) := by
 simp only [WpM]; congr 1
@[congr] theorem Then.cg {K : List Nat} {b : MCode} {Q : Ex → Sl → Sto → Prop} {e : Ex} (h1 : S = S') (h2 : σ = σ') : Then P K b Q e S σ = Then P K b Q e S' σ' := by subst h1; subst h2; rfl
theorem then_norm {K : List Nat} {b : MCode} {Q : Ex → Sl → Sto → Prop} : Then P K b Q .norm S σ = WpM P K b S σ Q := (rfl)
theorem then_exit {K : List Nat} {b : MCode} {n : Nat} {Q : Ex → Sl → Sto → Prop} : Then P K b Q (.exit n) S σ = Q (.exit n) S σ := (rfl)
theorem then_ret {K : List Nat} {b : MCode} {Q : Ex → Sl → Sto → Prop} : Then P K b Q .ret S σ = Q .ret S σ := (rfl)
def Cnd (P : Program) (K : List Nat) (u : Option V) (a b : MCode) (S : Sl) (σ : Sto) (Q : Ex → Sl → Sto → Prop) : Prop :=
 ∃ t, u = some (.bool t) ∧ (t = true → WpM P K a S σ Q) ∧ (t = false → WpM P K b S σ Q)
@[congr] theorem Cnd.cg {K : List Nat} {u u' : Option V} {a b : MCode} {Q : Ex → Sl → Sto → Prop} (h0 : u = u') : Cnd P K u a b S σ Q = Cnd P K u' a b S σ Q := by subst h0; rfl
theorem wm_cond {K : List Nat} {c : Opd} {a b : MCode} {Q : Ex → Sl → Sto → Prop} : WpM P K (.cond c a b) S σ Q = Cnd P K (ev S c) a b S σ Q := (rfl)
theorem cnd_bool {K : List Nat} {t : Bool} {a b : MCode} {Q : Ex → Sl → Sto → Prop} : Cnd P K (some (.bool t)) a b S σ Q = ((t = true → WpM P K a S σ Q) ∧ (t = false → WpM P K b S σ Q)) := by
 simp [Cnd]
def Blk2 (id : Nat) (Q : Ex → Sl → Sto → Prop) (e : Ex) (S : Sl) (σ : Sto) : Prop :=
 match e with
 | .norm => Q .norm S σ
 | .exit n => if n = id then Q .norm S σ else Q (.exit n) S σ
 | .ret => Q .ret S σ
@[congr] theorem Blk2.cg {id : Nat} {Q : Ex → Sl → Sto → Prop} {e : Ex} (h1 : S = S') (h2 : σ = σ') : Blk2 id Q e S σ = Blk2 id Q e S' σ' := by subst h1; subst h2; rfl
theorem wm_block {K : List Nat} {id : Nat} {b : MCode} {Q : Ex → Sl → Sto → Prop} : WpM P K (.block id b) S σ Q = WpM P K b S σ (Blk2 id Q) := by
 simp only [WpM]; congr 1
theorem blk_norm {id : Nat} {Q : Ex → Sl → Sto → Prop} : Blk2 id Q .norm S σ = Q .norm S σ := (rfl)
theorem blk_exit {id n : Nat} {Q : Ex → Sl → Sto → Prop} : Blk2 id Q (.exit n) S σ = if n = id then Q .norm S σ else Q (.exit n) S σ := (rfl)
theorem blk_ret {id : Nat} {Q : Ex → Sl → Sto → Prop} : Blk2 id Q .ret S σ = Q .ret S σ := (rfl)
theorem wm_exit {K : List Nat} {n : Nat} {Q : Ex → Sl → Sto → Prop} : WpM P K (.exit n) S σ Q = Q (.exit n) S σ := (rfl)
theorem wm_ret {K : List Nat} {Q : Ex → Sl → Sto → Prop} : WpM P K .ret S σ Q = Q .ret S σ := (rfl)
def Again (K : List Nat) {G : Type} (st : G → Sl × Sto) (inv : G → Prop) (m : G → Nat) (g : G) (S : Sl) (σ : Sto) : Prop := ∃ g', inv g' ∧ m g' < m g ∧ Weak K (st g').1 (st g').2 S σ
@[congr] theorem Again.cg {K : List Nat} {G : Type} {st : G → Sl × Sto} {inv : G → Prop} {m : G → Nat} {g : G} (h1 : S = S') (h2 : σ = σ') : Again K st inv m g S σ = Again K st inv m g S' σ' := by subst h1; subst h2; rfl
def Rnd (K : List Nat) {G : Type} (st : G → Sl × Sto) (inv : G → Prop) (m : G → Nat) (g : G) (Q : Ex → Sl → Sto → Prop) (e : Ex) (S : Sl) (σ : Sto) : Prop :=
 match e with
 | .norm => Again K st inv m g S σ
 | .exit n => Q (.exit n) S σ
 | .ret => Q .ret S σ
@[congr] theorem Rnd.cg {K : List Nat} {G : Type} {st : G → Sl × Sto} {inv : G → Prop} {m : G → Nat} {g : G} {Q : Ex → Sl → Sto → Prop} {e : Ex} (h1 : S = S') (h2 : σ = σ') : Rnd K st inv m g Q e S σ = Rnd K st inv m g Q e S' σ' := by subst h1; subst h2; rfl
theorem rnd_norm {K : List Nat} {G : Type} {st : G → Sl × Sto} {inv : G → Prop} {m : G → Nat} {g : G} {Q : Ex → Sl → Sto → Prop} : Rnd K st inv m g Q .norm S σ = Again K st inv m g S σ := (rfl)
theorem rnd_exit {K : List Nat} {G : Type} {st : G → Sl × Sto} {inv : G → Prop} {m : G → Nat} {g : G} {n : Nat} {Q : Ex → Sl → Sto → Prop} : Rnd K st inv m g Q (.exit n) S σ = Q (.exit n) S σ := (rfl)
theorem rnd_ret {K : List Nat} {G : Type} {st : G → Sl × Sto} {inv : G → Prop} {m : G → Nat} {g : G} {Q : Ex → Sl → Sto → Prop} : Rnd K st inv m g Q .ret S σ = Q .ret S σ := (rfl)
theorem wm_loop {K : List Nat} {b : MCode} {Q : Ex → Sl → Sto → Prop} {G : Type} (st : G → Sl × Sto) (inv : G → Prop) (m : G → Nat) (g0 : G) (h0 : inv g0) (hw : Weak K (st g0).1 (st g0).2 S σ)
 (round : ∀ g, inv g → WpM P K b (st g).1 (st g).2 (Rnd K st inv m g Q)) : WpM P K (.loop b) S σ Q := by
 refine ⟨fun n S σ => ∃ g, inv g ∧ m g = n ∧ S = (st g).1 ∧ σ = (st g).2, ⟨m g0, _, _, hw, g0, h0, rfl, rfl, rfl⟩, ?_⟩
 rintro n S σ ⟨g, hg, rfl, rfl, rfl⟩
 have := round g hg
 refine cast ?_ this
 congr 1
 funext e S' σ'
 cases e with
 | norm =>
   apply propext
   constructor
   ·rintro ⟨g', hg', h1, h2⟩; exact ⟨m g', _, _, h1, h2, g', hg', rfl, rfl, rfl⟩
   ·rintro ⟨n', S1, σ1, h1, h2, g', hg', rfl, rfl, rfl⟩; exact ⟨g', hg', h1, h2⟩
 | exit n => rfl
 | ret => rfl
def Sub (S1 S : Sl) : Prop := ∀ j v, S1 j = some v → S j = some v
theorem sub_empty : Sub Sl.empty S := fun j v h => by simp [Sl.empty] at h
theorem sub_set {S1 : Sl} {d : Nat} (h1 : S d = some v) (h2 : Sub S1 S) : Sub (S1.set d v) S := by
 intro j u hj
 simp only [Sl.set] at hj
 split at hj
 ·rename_i e; injection hj with hj; subst hj; rw [e]; exact h1
 ·exact h2 j u hj
def SIn (p : Nat → Bool) (S : Sl) : Prop := ∀ j v, S j = some v → v.within p = true
theorem sin_empty {p : Nat → Bool} : SIn p Sl.empty := fun j v h => by simp [Sl.empty] at h
theorem sin_set {p : Nat → Bool} {d : Nat} (h1 : v.within p = true) (h2 : SIn p S) : SIn p (S.set d v) := by
 intro j u hj
 simp only [Sl.set] at hj
 split at hj
 ·injection hj with hj; subst hj; exact h1
 ·exact h2 j u hj
theorem weak_plain {S1 : Sl} (h1 : Sub S1 S) (h2 : SIn (fun _ => false) S1) : Weak [] S1 [] S σ :=
 ⟨h1, fun o x h => by simp [look] at h, by simp, fun j v h => by simpa [look] using h2 j v h, fun o x h => by simp [look] at h⟩
end Go.Proofs.YtkockkfmjmheeaaGreat.E
