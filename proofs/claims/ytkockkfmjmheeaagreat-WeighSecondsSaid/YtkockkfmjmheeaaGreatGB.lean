import Derived.Test.YtkockkfmjmheeaaGreatGA
import Derived.Laws.BytesString
import Derived.Orders
namespace Go.Proofs.YtkockkfmjmheeaaGreat.E
open Go Go.RowKit
set_option linter.unusedSimpArgs false
set_option linter.unusedVariables false
variable {P : Program} {w0 : World} {base : Nat} {I0 I : Imm} {β : Beta} {S : Sl} {σ σ' : Sto} {w : World} {a : Act} {v : V}
/-! ### slice expressions -/
theorem bound_sound {x : Operand} {y : Opd} (hc : cOpd x = some y) (hS : SRel I β S a) {m n : Nat} (h : bound S y m = some n) : ∃ k : IntKind, a.eval x = .int k (n : Int) ∧ n ≤ m := by
 unfold bound at h
 split at h
 ·rename_i k q hq
  split at h
  ·rename_i h1
   injection h with h; subst h
   have := (ev_sound hc hS hq).inv_int
   exact ⟨k, by rw [this, Int.toNat_of_nonneg h1.1], by omega⟩
  ·simp at h
 ·simp at h
theorem run_sliceBound' (k : IntKind) (n m : Nat) (code : BoundsCode) (h : n ≤ m) : (Instr.sliceBound (.int k (n : Int)) m code).run P w = .ok n w := by
 simp [Instr.sliceBound, asIntOf, h]
theorem bounds_sound {lo hi : Option Operand} {lo' hi' : Option Opd} (h1 : cOpt lo = some lo') (h2 : cOpt hi = some hi') (hS : SRel I β S a) {len cap h l : Nat} (hh : boundHi S len hi' = some h) (hl : boundLo S h lo' = some l) (hc : len ≤ cap) (b : Bool) :
 (Instr.sliceBounds b len cap (lo.map a.eval) (hi.map a.eval) none).run P w = .ok (l, h, cap) w ∧ l ≤ h ∧ h ≤ len := by
 have hH : h ≤ len ∧ ((hi = none ∧ h = len) ∨ ∃ x k, hi = some x ∧ a.eval x = .int k (h : Int)) := by
  cases hi with
  | none =>
    simp [cOpt] at h2; subst h2
    simp [boundHi] at hh
    exact ⟨by omega, .inl ⟨rfl, hh.symm⟩⟩
  | some x =>
    simp only [cOpt] at h2
    obtain ⟨y, hy, rfl⟩ := opt_map_some h2
    obtain ⟨k, hk, hle⟩ := bound_sound hy hS hh
    exact ⟨hle, .inr ⟨x, k, rfl, hk⟩⟩
 have hL : l ≤ h ∧ ((lo = none ∧ l = 0) ∨ ∃ x k, lo = some x ∧ a.eval x = .int k (l : Int)) := by
  cases lo with
  | none =>
    simp [cOpt] at h1; subst h1
    simp [boundLo] at hl
    exact ⟨by omega, .inl ⟨rfl, hl.symm⟩⟩
  | some x =>
    simp only [cOpt] at h1
    obtain ⟨y, hy, rfl⟩ := opt_map_some h1
    obtain ⟨k, hk, hle⟩ := bound_sound hy hS hl
    exact ⟨hle, .inr ⟨x, k, rfl, hk⟩⟩
 refine ⟨?_, hL.1, hH.1⟩
 rcases hH.2 with ⟨rfl, rfl⟩ | ⟨x, k, rfl, hx⟩ <;> rcases hL.2 with ⟨rfl, rfl⟩ | ⟨y, q, rfl, hy⟩
 ·simp [Instr.sliceBounds]
 ·simp [Instr.sliceBounds, hy, run_sliceBound' q l h .sliceB hL.1]
 ·simp [Instr.sliceBounds, hx, run_sliceBound' k h cap _ (show h ≤ cap by omega)]
 ·simp [Instr.sliceBounds, hx, hy, run_sliceBound' k h cap _ (show h ≤ cap by omega), run_sliceBound' q l h .sliceB hL.1]
theorem run_slc {t e : TypeId} {es : Nat} (hu : P.underlying t = some (.slice e)) (he : cSize P e = some es) {x : Operand} {lo hi : Option Operand} {x' : Opd} {lo' hi' : Option Opd} (hx : cOpd x = some x') (h1 : cOpt lo = some lo') (h2 : cOpt hi = some hi')
 (hS : SRel I β S a) (hInv : Inv w0 base I0 I β σ w) (h : evOp S σ (.slc es x' lo' hi' none) = some (v, σ')) :
 ∃ rv, (Instr.sliceAt t (a.eval x) (lo.map a.eval) (hi.map a.eval) none).run P w = .ok rv w ∧ Rel I β rv v ∧ σ' = σ := by
 have run : ∀ (ad : Option Addr) (len cap l h : Nat), (Instr.sliceBounds true len cap (lo.map a.eval) (hi.map a.eval) none).run P w = .ok (l, h, cap) w →
  (Instr.sliceAt t (.slice ad len cap) (lo.map a.eval) (hi.map a.eval) none).run P w = .ok (.slice (if cap = l then ad else ad.map (·.add (l * es))) (h - l) (cap - l)) w := by
  intro ad len cap l h hb
  simp [Instr.sliceAt, run_underlying hu, Instr.slice, hb, cSize_run he]
 simp only [evOp] at h
 split at h
 ·rename_i hv
  have hr := ev_sound hx hS hv
  rw [hr.inv_nils]
  split at h
  ·rename_i q hq
   obtain ⟨l, hl, he2⟩ := opt_map_some h
   injection he2 with e1 e2; subst e1; subst e2
   obtain ⟨hb, hle, hle2⟩ := bounds_sound (P := P) (w := w) h1 h2 hS hq hl (Nat.le_refl 0) true
   refine ⟨_, run _ _ _ _ _ hb, ?_, rfl⟩
   have : l = 0 := by omega
   have : q = 0 := by omega
   subst_vars
   exact .nils
  ·simp at h
 ·rename_i d hv
  have hr := ev_sound hx hS hv
  split at h
  ·rename_i q hq
   cases hl : boundLo S q lo' with
   | none => simp [hl] at h
   | some l =>
     simp only [hl, Option.bind_some] at h
     split at h
     ·rename_i hall
      injection h with h; injection h with e1 e2; subst e1; subst e2
      rcases hr.inv_dat with ⟨rfl, ad, cap, hc, hcn⟩ | ⟨b, off, cap, es', arr, hI, hlen, hcap, hc, ho, hrel⟩
      ·rw [hc]
       obtain ⟨hb, hle, hle2⟩ := bounds_sound (P := P) (w := w) h1 h2 hS hq hl (Nat.zero_le cap) true
       refine ⟨_, run _ _ _ _ _ hb, ?_, rfl⟩
       have hl0 : l = 0 := by simp at hle2; omega
       have hq0 : q = 0 := by simp at hle2; omega
       subst hl0; subst hq0
       simp
       by_cases hc0 : cap = 0
       ·simp [hc0]; exact Rel.mk_dat0 (by simp)
       ·simp [hc0]; exact Rel.mk_dat0 (by simpa using hcn)
      ·rw [hc]
       obtain ⟨hb, hle, hle2⟩ := bounds_sound (P := P) (w := w) h1 h2 hS hq hl hcap true
       refine ⟨_, run _ _ _ _ _ hb, ?_, rfl⟩
       by_cases hlt : l < q
       ·have hes : es' = es := by
         have hl2 : l < d.length := by omega
         have e1 := hlen l _ (List.getElem?_eq_getElem hl2)
         have e2 := List.all_eq_true.1 hall d[l] (List.getElem_mem hl2)
         simp at e2; omega
        subst hes
        have hne : ¬ cap = l := by omega
        have hlen2 : ((d.take q).drop l).length = q - l := by simp; omega
        rw [if_neg hne]
        simp only [Option.map_some, add_mk]
        rw [← hlen2]
        have get : ∀ (i : Nat) (x : List V), ((d.take q).drop l)[i]? = some x → d[l + i]? = some x := by
         intro i x hx
         rw [List.getElem?_drop, List.getElem?_take] at hx
         split at hx <;> simp_all
        refine Rel.mk_dat hI (fun i x hx => hlen _ x (get i x hx)) (by rw [hlen2]; omega) (fun i x j y hx hy => ho _ x j y (get i x hx) hy) (fun i x j y hx hy => ?_)
        obtain ⟨c, hc1, hc2⟩ := hrel _ x j y (get i x hx) hy
        refine ⟨c, ?_, hc2⟩
        rw [← hc1]; congr 1; rw [Nat.add_mul]; omega
       ·have hnil : (d.take q).drop l = [] := by apply List.drop_eq_nil_of_le; simp; omega
        have hz : q - l = 0 := by omega
        rw [hnil, hz]
        split
        ·exact Rel.mk_dat0 (by simp)
        ·exact Rel.mk_dat0 (by simp)
     ·simp at h
  ·simp at h
 ·rename_i o off len hv
  have hr := ev_sound hx hS hv
  split at h
  ·rename_i q hq
   cases hl : boundLo S q lo' with
   | none => simp [hl] at h
   | some l =>
     simp only [hl, Option.bind_some] at h
     split at h
     ·rename_i ob hob
      split at h
      ·rename_i hes
       injection h with h; injection h with e1 e2; subst e1; subst e2
       rcases hr.inv_ref with ⟨rfl, k, ad, hk, hc⟩ | ⟨k, cap, hk, hcap, hfit, hc⟩
       ·rw [hc]
        obtain ⟨hb, hle, hle2⟩ := bounds_sound (P := P) (w := w) h1 h2 hS hq hl (Nat.le_refl 0) true
        refine ⟨_, run _ _ _ _ _ hb, ?_, rfl⟩
        have hl0 : l = 0 := by omega
        have hq0 : q = 0 := by omega
        subst hl0; subst hq0
        simp
        exact .refz hk
       ·rw [hc]
        obtain ⟨hb, hle, hle2⟩ := bounds_sound (P := P) (w := w) h1 h2 hS hq hl hcap true
        refine ⟨_, run _ _ _ _ _ hb, ?_, rfl⟩
        by_cases hne : cap = l
        ·rw [if_pos hne, show q - l = 0 from by omega, show cap - l = 0 from by omega]
         exact .refz hk
        ·rw [if_neg hne]
         simp only [Option.map_some, add_mk]
         obtain ⟨k2, hk2, hes2, _, _⟩ := hInv.ob o ob hob
         rw [hk] at hk2; injection hk2 with hk2; subst hk2
         have e1 : off * k.es + l * es = (off + l) * k.es := by rw [Nat.add_mul, hes2, hes]
         rw [e1]
         refine .ref hk (by omega) ?_
         rw [show off + l + (cap - l) = off + cap from by omega]; exact hfit
      ·simp at h
     ·simp at h
  ·simp at h
 ·simp at h
end Go.Proofs.YtkockkfmjmheeaaGreat.E

namespace Go.Proofs.YtkockkfmjmheeaaGreat.E
open Go Go.RowKit
set_option linter.unusedSimpArgs false
set_option linter.unusedVariables false
variable {P : Program} {w0 : World} {base : Nat} {I0 I : Imm} {β : Beta} {S : Sl} {σ σ' : Sto} {w : World} {a : Act} {v : V}
theorem elems_sound {es : Nat} (hes : es ≠ 0) {x : V} {xs : List (List V)} (h : elems σ es x = some xs) {cx : Value} (hx : Rel I β cx x) (hI : Inv w0 base I0 I β σ w) :
 ∃ ad cap, cx = .slice ad xs.length cap ∧ (∀ (i : Nat) (r : List V), xs[i]? = some r → r.length = es) ∧ (∀ (i : Nat) (r : List V) (j : Nat) (y : V), xs[i]? = some r → r[j]? = some y → y.one = true) ∧
   ∃ cs : Array Value, (∀ w', (∀ k, k < w.heap.size → w'.heap[k]? = w.heap[k]?) → (Builtin.firstCells es xs.length cx).run P w' = .ok cs w') ∧ cs.size = xs.length * es ∧
     ∀ (i : Nat) (r : List V) (j : Nat) (y : V), xs[i]? = some r → r[j]? = some y → ∃ c, cs[i * es + j]? = some c ∧ Rel I β c y := by
 have none0 : ∀ (ad : Option Addr) (cap : Nat), cx = .slice ad 0 cap → xs = [] → ∃ ad cap, cx = .slice ad xs.length cap ∧ (∀ (i : Nat) (r : List V), xs[i]? = some r → r.length = es) ∧ (∀ (i : Nat) (r : List V) (j : Nat) (y : V), xs[i]? = some r → r[j]? = some y → y.one = true) ∧
  ∃ cs : Array Value, (∀ w', (∀ k, k < w.heap.size → w'.heap[k]? = w.heap[k]?) → (Builtin.firstCells es xs.length cx).run P w' = .ok cs w') ∧ cs.size = xs.length * es ∧
    ∀ (i : Nat) (r : List V) (j : Nat) (y : V), xs[i]? = some r → r[j]? = some y → ∃ c, cs[i * es + j]? = some c ∧ Rel I β c y := by
  intro ad cap hc hn
  subst hn
  refine ⟨ad, cap, hc, by simp, by simp, #[], fun w' _ => ?_, by simp, by simp⟩
  rw [hc]
  cases ad <;> simp [Builtin.firstCells, loadCells, loadCellsFrom]
 have flat : ∀ (b off cap : Nat) (arr : Array Value) (t : TypeId) (fr : Nat × Nat) (β' : Beta), w.heap[b]? = some (.cells arr t fr) → cx = .slice (some ⟨b, off, none⟩) xs.length cap → (∀ (i : Nat) (r : List V), xs[i]? = some r → r.length = es) →
  (∀ (i : Nat) (r : List V) (j : Nat) (y : V), xs[i]? = some r → r[j]? = some y → y.one = true) →
  (∀ (i : Nat) (r : List V) (j : Nat) (y : V), xs[i]? = some r → r[j]? = some y → ∃ c, arr[off + i * es + j]? = some c ∧ Rel I β c y) →
  ∃ ad cap, cx = .slice ad xs.length cap ∧ (∀ (i : Nat) (r : List V), xs[i]? = some r → r.length = es) ∧ (∀ (i : Nat) (r : List V) (j : Nat) (y : V), xs[i]? = some r → r[j]? = some y → y.one = true) ∧
  ∃ cs : Array Value, (∀ w', (∀ k, k < w.heap.size → w'.heap[k]? = w.heap[k]?) → (Builtin.firstCells es xs.length cx).run P w' = .ok cs w') ∧ cs.size = xs.length * es ∧
    ∀ (i : Nat) (r : List V) (j : Nat) (y : V), xs[i]? = some r → r[j]? = some y → ∃ c, cs[i * es + j]? = some c ∧ Rel I β c y := by
  intro b off cap arr t fr β' hm hc hl ho hr
  refine ⟨_, cap, hc, hl, ho, ((List.range (xs.length * es)).map fun i => arr.getD (off + i) undef).toArray, fun w' hw' => ?_, by simp, fun i r j y hi hj => ?_⟩
  ·rw [hc]
   have hb : b < w.heap.size := (Array.getElem?_eq_some_iff.1 hm).1
   have hm' : w'.heap[b]? = some (.cells arr t fr) := by rw [hw' b hb]; exact hm
   simp only [Builtin.firstCells]
   rw [run_loadCells w' _ (xs.length * es) (fun i => arr.getD (off + i) undef)]
   intro j hj
   rw [add_mk]
   have hq : j / es < xs.length := Nat.div_lt_of_lt_mul (by rw [Nat.mul_comm]; exact hj)
   have hjm : j % es < es := Nat.mod_lt _ (by omega)
   have hlen := hl (j / es) _ (List.getElem?_eq_getElem hq)
   obtain ⟨c, h1, _⟩ := hr (j / es) _ (j % es) _ (List.getElem?_eq_getElem hq) (List.getElem?_eq_getElem (by omega))
   have e : off + j / es * es + j % es = off + j := by have := Nat.div_add_mod j es; rw [Nat.mul_comm] at this; omega
   rw [e] at h1
   simp [World.cell?, hm', Array.getD_eq_getD_getElem?, h1]
  ·obtain ⟨c, h1, h2⟩ := hr i r j y hi hj
   refine ⟨c, ?_, h2⟩
   have hil : i < xs.length := (List.getElem?_eq_some_iff.1 hi).1
   have hjl : j < r.length := (List.getElem?_eq_some_iff.1 hj).1
   have := hl i r hi
   have hlt : i * es + j < xs.length * es := by have := idx_lt hil (Nat.le_refl (xs.length * es)); omega
   simp [hlt, Array.getD_eq_getD_getElem?]
   rw [← Nat.add_assoc, h1]; rfl
 unfold elems at h
 split at h
 ·injection h with h; exact none0 none 0 hx.inv_nils h.symm
 ·injection h with h; obtain ⟨ad, cap, hc⟩ := hx.inv_emp; exact none0 (some ad) cap hc h.symm
 ·rename_i l
  split at h
  ·rename_i hall
   injection h with h; subst h
   rcases hx.inv_dat with ⟨rfl, ad, cap, hc, hcn⟩ | ⟨b, off, cap, es', arr, hb, hlen, hcap, hc, ho, hrel⟩
   ·exact none0 _ _ hc rfl
   ·obtain ⟨t, fr, hm⟩ := hI.imm _ _ hb
    by_cases hnil : l = []
    ·subst hnil; exact none0 _ _ hc rfl
    ·have hes' : es' = es := by
      obtain ⟨r0, l0, rfl⟩ := List.exists_cons_of_ne_nil hnil
      have e1 := hlen 0 r0 rfl
      have e2 := List.all_eq_true.1 hall r0 (by simp)
      simp at e2; omega
     subst hes'
     exact flat b off cap arr t fr Beta.none hm hc hlen ho (fun i r j y hi hj => by
      obtain ⟨c, h1, h2⟩ := hrel i r j y hi hj
      exact ⟨c, h1, h2.mono (fun _ _ h => h) (fun _ _ h => by simp [Beta.none] at h)⟩)
  ·simp at h
 ·rename_i o off len
  split at h
  ·rename_i ob hob
   split at h
   ·rename_i hcond
    injection h with h; subst h
    obtain ⟨hlk, hd⟩ := getOb_some hob
    obtain ⟨k, hk, hkes, hbase, hr⟩ := hI.ob o ob hlk
    have R := hr hd
    obtain ⟨arr, t, fr, hm, hsz, _, _, hrel⟩ := R.mem
    have hlen : ((ob.cells.drop off).take len).length = len := by simp; omega
    have get : ∀ (i : Nat) (r : List V), ((ob.cells.drop off).take len)[i]? = some r → ob.cells[off + i]? = some r := by
     intro i r hi
     rw [List.getElem?_take] at hi
     split at hi
     ·rwa [List.getElem?_drop] at hi
     ·simp at hi
    rcases hx.inv_ref with ⟨rfl, k', ad, _, hc⟩ | ⟨k', cap, hk', hcap, hfit, hc⟩
    ·exact none0 _ _ hc (by simp)
    ·rw [hk] at hk'; injection hk' with hk'; subst hk'
     refine flat k.b (off * k.es) cap arr t fr β hm (by rw [hlen]; exact hc) (fun i r hi => by rw [R.len _ r (get i r hi)]; exact hcond.1) (fun i r j y hi hj => R.one _ r j y (get i r hi) hj) (fun i r j y hi hj => ?_)
     obtain ⟨c, h1, h2⟩ := hrel _ r j y (get i r hi) hj
     refine ⟨c, ?_, h2⟩
     rw [← h1, hkes, hcond.1]; congr 1; rw [Nat.add_mul]
   ·simp at h
  ·simp at h
 ·simp at h
theorem nextslicecap_le (need c : Nat) (h : c < need) : Builtin.nextslicecap need c ≤ 2 * need := by
 have grow : ∀ (r q : Nat), 256 ≤ q → q ≤ 2 * need → Builtin.growBy need r q ≤ 2 * need := by
  intro r
  induction r with
  | zero => intro q _ h; exact h
  | succ r ih =>
    intro q h1 h2
    simp only [Builtin.growBy]
    split
    ·exact h2
    ·exact ih _ (by omega) (by omega)
 unfold Builtin.nextslicecap
 split
 ·omega
 ·split
  ·omega
  ·exact grow 4 c (by omega) (by omega)
theorem cut_ge (need c : Nat) (e : TypeId) (t : Nat) : need ≤ (Question.appendCap need c e).cut t := by simp [Question.cut]
theorem grown_get (old new : Array Value) (zv : Array Value) (n : Nat) (m : Nat) : (m < old.size → (old ++ new ++ Builtin.zeroCells zv n)[m]? = old[m]?) ∧ (old.size ≤ m → m < old.size + new.size → (old ++ new ++ Builtin.zeroCells zv n)[m]? = new[m - old.size]?) := by
 constructor
 ·intro h
  rw [Array.getElem?_append, if_pos (by simp; omega), Array.getElem?_append, if_pos h]
 ·intro h1 h2
  rw [Array.getElem?_append, if_pos (by simp; omega), Array.getElem?_append, if_neg (by omega)]
theorem zeroCells_size (zv : Array Value) (n : Nat) : (Builtin.zeroCells zv n).size = n * zv.size := by simp [Builtin.zeroCells]
theorem run_append_new {t u e : TypeId} {i : TypeInfo} {zv : Value} {es bytes : Nat} (ht : P.underlying t = some (.slice e)) (hu : ∃ e', P.underlying u = some (.slice e')) (hi : P.info? e = some i) (hz : i.zero = some zv) (hs : i.size = es) (hb : i.bytes = bytes)
 (rest : List TypeId) (ty : TypeId) {ad ad2 : Option Addr} {sl sc n c2 : Nat} {old new : Array Value} (hlt : sc < sl + n) (hroom : (sl + n) * bytes ≤ roomy) (hroom2 : sl + n ≤ roomy)
 (hold : (Builtin.firstCells es sl (.slice ad sl sc)).run P w.drew = .ok old w.drew) (hnew : (Builtin.firstCells es n (.slice ad2 n c2)).run P w.drew = .ok new w.drew) :
 ∃ nc, sl + n ≤ nc ∧ (Builtin.append_ ⟨t :: u :: rest⟩ ty #[.slice ad sl sc, .slice ad2 n c2]).run P w = .ok (.slice (some ⟨w.heap.size, 0, none⟩) (sl + n) nc) (w.drew.alloc (.cells (old ++ new ++ Builtin.zeroCells zv.cells (nc - (sl + n))) e)) := by
 obtain ⟨e', hu⟩ := hu
 let q := Question.appendCap (sl + n) sc e
 refine ⟨q.cut (w.tape w.drawn q), cut_ge _ _ _ _, ?_⟩
 have hcap := nextslicecap_le (sl + n) sc hlt
 have hroom3 : ¬ (Builtin.nextslicecap (sl + n) sc * bytes > 2 ^ 48) := by
  have : Builtin.nextslicecap (sl + n) sc * bytes ≤ 2 * (sl + n) * bytes := Nat.mul_le_mul_right _ hcap
  rw [Nat.mul_assoc] at this
  unfold roomy at hroom; omega
 have hnle : ¬ (sl + n ≤ sc) := by omega
 have hmax : ¬ (((sl + n : Nat) : Int) > IntKind.i64.max ∧ (false = true ∨ bytes = 0)) := by
  rintro ⟨h1, _⟩
  simp [IntKind.max, IntKind.bits] at h1
  unfold roomy at hroom2; omega
 simp [Builtin.append_, run_underlying ht, run_underlying hu, sizeOf, typeInfo, hi, hs, Builtin.lenOf, hnle, hb, askRoom]
 rw [if_neg (by rintro ⟨h1, _⟩; unfold roomy at hroom2; omega), if_neg (by omega)]
 have hf : ¬ ((Question.appendCap (sl + n) sc e).forced = true) := by simp [Question.forced]
 rw [if_neg hf, hold]
 simp only [Result.andThen, hnew]
 have hzr : ∀ w', (zeroValue e).run P w' = .ok zv w' := fun w' => by simp [zeroValue, typeInfo, hi, hz]
 simp only [hzr, run_newRow, Array.append_assoc]
 rfl
theorem run_append_room {t u e : TypeId} {i : TypeInfo} {es : Nat} (ht : P.underlying t = some (.slice e)) (hu : ∃ e', P.underlying u = some (.slice e')) (hi : P.info? e = some i) (hs : i.size = es)
 (rest : List TypeId) (ty : TypeId) {b off : Nat} {ad2 : Option Addr} {sl sc n c2 : Nat} {arr new : Array Value} {te : TypeId} (hle : sl + n ≤ sc) (hm : w.heap[b]? = some (.cells arr te (0, 0)))
 (hnew : (Builtin.firstCells es n (.slice ad2 n c2)).run P w = .ok new w) (hfit : off + sl * es + new.size ≤ arr.size) (h1 : ∀ c ∈ new.toList, c.oneCell' = true) :
 (Builtin.append_ ⟨t :: u :: rest⟩ ty #[.slice (some ⟨b, off, none⟩) sl sc, .slice ad2 n c2]).run P w = .ok (.slice (some ⟨b, off, none⟩) (sl + n) sc) (w.setRow b (arr.toList.take (off + sl * es) ++ new.toList ++ arr.toList.drop (off + sl * es + new.toList.length)).toArray) := by
 obtain ⟨e', hu⟩ := hu
 have hst := run_storeCells_at P b (off + sl * es) te new.toList 0 arr w hm (by simpa using hfit) h1
 simp only [Nat.add_zero] at hst
 simp [Builtin.append_, run_underlying ht, run_underlying hu, sizeOf, typeInfo, hi, hs, Builtin.lenOf, hle, add_mk, hnew]
 rw [hst]; simp [Result.andThen]
def AppIn (P : Program) (w : World) (I : Imm) (β : Beta) (es : Nat) (cx : Value) (xs : List (List V)) : Prop :=
 ∃ ad cap, cx = .slice ad xs.length cap ∧ (∀ (i : Nat) (r : List V), xs[i]? = some r → r.length = es) ∧ (∀ (i : Nat) (r : List V) (j : Nat) (y : V), xs[i]? = some r → r[j]? = some y → y.one = true) ∧
   ∃ cs : Array Value, (∀ w', (∀ k, k < w.heap.size → w'.heap[k]? = w.heap[k]?) → (Builtin.firstCells es xs.length cx).run P w' = .ok cs w') ∧ cs.size = xs.length * es ∧
     ∀ (i : Nat) (r : List V) (j : Nat) (y : V), xs[i]? = some r → r[j]? = some y → ∃ c, cs[i * es + j]? = some c ∧ Rel I β c y
def appV0 (σ : Sto) (es bytes : Nat) (xs : List (List V)) (s : V) : Option (V × Sto) :=
 match xs with
 | [] => match s with
   | .nils => some (.nils, σ)
   | .emp => some (.emp, σ)
   | .dat l => some (.dat l, σ)
   | .ref o off len => some (.ref o off len, σ)
   | _ => none
 | y :: r =>
   match s with
   | .nils => if (r.length + 1) * bytes ≤ roomy ∧ r.length + 1 ≤ roomy then some (.ref (fresh σ) 0 (r.length + 1), setOb σ (fresh σ) ⟨.own, es, y :: r⟩) else none
   | .ref o off len => match getOb σ o with
     | some ob => if ob.st = .own ∧ ob.es = es ∧ off = 0 ∧ len = ob.cells.length ∧ (len + (r.length + 1)) * bytes ≤ roomy ∧ len + (r.length + 1) ≤ roomy then
        some (.ref (fresh σ) 0 (len + (r.length + 1)), setOb (setOb σ o ⟨.dead, es, []⟩) (fresh σ) ⟨.own, es, ob.cells ++ y :: r⟩) else none
     | none => none
   | _ => none
theorem fresh_filter (σ : Sto) (o : Nat) : max (o + 1) (fresh (σ.filter (·.1 != o))) = max (o + 1) (fresh σ) := by
 induction σ with
 | nil => rfl
 | cons a r ih =>
   obtain ⟨k, x⟩ := a
   rw [List.filter_cons]
   by_cases h : k = o
   ·subst h
    simp only [bne_self_eq_false, Bool.false_eq_true, if_false, fresh]
    rw [ih]; omega
   ·have : (k != o) = true := by simp [h]
    simp only [this, if_true, fresh]
    omega
theorem fresh_set (σ : Sto) (o : Nat) (x : Ob) : fresh (setOb σ o x) = max (o + 1) (fresh σ) := by
 show max (o + 1) (fresh (σ.filter (·.1 != o))) = _
 exact fresh_filter σ o
theorem Inv.shrink (hI : Inv w0 base I0 I β σ w) {o : Nat} {x : Ob} (ho : look σ o = some x) (hx : x.st ≠ .dead) (n : Nat) : Inv w0 base I0 I β (setOb σ o { x with cells := x.cells.take n }) w := by
 refine ⟨hI.below, hI.baseLe, hI.imm, hI.old, hI.tab, fun p y hp => ?_, fun p y hp => ?_, fun p p' y y' q q' h h' hy hy' hq hq' e => ?_⟩
 ·rw [look_setOb]; split
  ·rfl
  ·exact hI.dom _ _ hp
 ·rw [look_setOb] at hp
  by_cases he : p = o
  ·subst he
   rw [if_pos rfl] at hp
   injection hp with hp; subst hp
   obtain ⟨k, hk, hes, hb, hr⟩ := hI.ob p x ho
   have up : ∀ {i : Nat} {r : List V}, (x.cells.take n)[i]? = some r → x.cells[i]? = some r := fun {i r} h => by
    rw [List.getElem?_take] at h; split at h
    ·exact h
    ·simp at h
   refine ⟨k, hk, hes, hb, fun hd => ?_⟩
   obtain ⟨⟨arr, t, fr, hm, hs, hown, hfro, hrel⟩, hl, hz, h1⟩ := hr hd
   refine ⟨⟨arr, t, fr, hm, hs, hown, hfro, fun i r j y hi hj => hrel i r j y (up hi) hj⟩, fun i r hi => hl i r (up hi), ?_, fun i r j y hi hj => h1 i r j y (up hi) hj⟩
   refine Nat.le_trans (Nat.mul_le_mul_right _ ?_) hz
   show (x.cells.take n).length ≤ _
   rw [List.length_take]; omega
  ·rw [if_neg he] at hp
   exact hI.ob p y hp
 ·rw [look_setOb] at h h'
  have aux : ∀ {p : Nat} {y : Ob}, (if p = o then some { x with cells := x.cells.take n } else look σ p) = some y → y.st ≠ .dead → ∃ y0, look σ p = some y0 ∧ y0.st ≠ .dead := by
   intro p y hp hy
   by_cases he : p = o
   ·subst he; exact ⟨x, ho, hx⟩
   ·rw [if_neg he] at hp; exact ⟨y, hp, hy⟩
  obtain ⟨y0, h0, hy0⟩ := aux h hy
  obtain ⟨y0', h0', hy0'⟩ := aux h' hy'
  exact hI.inj p p' y0 y0' q q' h0 h0' hy0 hy0' hq hq' e
theorem good_append0 {es bytes : Nat} {t u e : TypeId} {rest : List TypeId} {z : List V} {i : TypeInfo} (ht : P.underlying t = some (.slice e)) (hu : ∃ e', P.underlying u = some (.slice e')) (hz : cZero P e = some z) (hi : P.info? e = some i) (hb : i.bytes = bytes) (hzl : z.length = es) (hne : es ≠ 0)
 {cs cx : Value} {s : V} {xs : List (List V)} (hS : Rel I β cs s) (hI : Inv w0 base I0 I β σ w)
 (hE : AppIn P w I β es cx xs) (ty : TypeId)
 (h : appV0 σ es bytes xs s = some (v, σ')) :
 ∃ rv w' β', (Builtin.append_ ⟨t :: u :: rest⟩ ty #[cs, cx]).run P w = .ok rv w' ∧ Rel I β' rv v ∧ Inv w0 base I0 I β' σ' w' ∧ Ext I β I β' := by
 obtain ⟨ad2, c2, rfl, hxl, hxo, new, hnew, hnsz, hnrel⟩ := hE
 obtain ⟨i', zv, hi', hzv, _, hzs, his, _, _⟩ := zero_sound (w := w) hz I β
 rw [hi] at hi'; injection hi' with hi'; subst hi'
 have hsz : i.size = es := by omega
 have h1 : ∀ c ∈ new.toList, c.oneCell' = true := by
  intro c hc
  obtain ⟨q, hq, rfl⟩ := List.getElem_of_mem hc
  have hq2 : q < new.size := by simpa using hq
  have hqd : q / es < xs.length := Nat.div_lt_of_lt_mul (by rw [Nat.mul_comm, ← hnsz]; exact hq2)
  have hqm : q % es < es := Nat.mod_lt _ (by omega)
  have hlen := hxl (q / es) _ (List.getElem?_eq_getElem hqd)
  obtain ⟨c, hc1, hc2⟩ := hnrel (q / es) _ (q % es) _ (List.getElem?_eq_getElem hqd) (List.getElem?_eq_getElem (by omega))
  rw [show q / es * es + q % es = q from by rw [Nat.mul_comm]; exact Nat.div_add_mod q es] at hc1
  have e : new.toList[q] = c := by rw [Array.getElem?_eq_getElem hq2] at hc1; simpa using hc1
  rw [e]
  exact hc2.oneCell' (hxo _ _ _ _ (List.getElem?_eq_getElem hqd) (List.getElem?_eq_getElem (by omega)))
 have room : ∀ (b off sl sc : Nat) (arr : Array Value) (te : TypeId), sl + xs.length ≤ sc → w.heap[b]? = some (.cells arr te (0, 0)) → off + sl * es + new.size ≤ arr.size →
  (Builtin.append_ ⟨t :: u :: rest⟩ ty #[.slice (some ⟨b, off, none⟩) sl sc, .slice ad2 xs.length c2]).run P w = .ok (.slice (some ⟨b, off, none⟩) (sl + xs.length) sc) (w.setRow b (arr.toList.take (off + sl * es) ++ new.toList ++ arr.toList.drop (off + sl * es + new.toList.length)).toArray) :=
  fun b off sl sc arr te hle hm hfit => run_append_room ht hu hi hsz rest ty hle hm (hnew w fun _ _ => rfl) hfit h1
 cases xs with
 | nil =>
   have hn0 : new = #[] := by apply Array.eq_empty_of_size_eq_zero; simpa using hnsz
   have zero : ∀ (ad : Option Addr) (len cap : Nat), len ≤ cap → (Builtin.append_ ⟨t :: u :: rest⟩ ty #[.slice ad len cap, .slice ad2 0 c2]).run P w = .ok (.slice ad len cap) w := by
    intro ad len cap hle
    obtain ⟨e', hu⟩ := hu
    have hn := hnew w (fun _ _ => rfl)
    simp only [List.length_nil] at hn
    cases ad <;> simp [Builtin.append_, run_underlying ht, run_underlying hu, sizeOf, typeInfo, hi, hsz, Builtin.lenOf, hle, hn, hn0, storeCells]
   cases s with
   | nils =>
     simp only [appV0] at h
     injection h with h; injection h with e1 e2; subst e1; subst e2
     rw [hS.inv_nils]
     exact ⟨_, w, β, zero _ _ _ (Nat.le_refl _), .nils, hI, Ext.refl _ _⟩
   | emp =>
     simp only [appV0] at h
     injection h with h; injection h with e1 e2; subst e1; subst e2
     obtain ⟨ad, cap, rfl⟩ := hS.inv_emp
     exact ⟨_, w, β, zero _ _ _ (Nat.zero_le _), .emp, hI, Ext.refl _ _⟩
   | dat l =>
     simp only [appV0] at h
     injection h with h; injection h with e1 e2; subst e1; subst e2
     rcases hS.inv_dat with ⟨rfl, ad, cap, rfl, hcn⟩ | ⟨b, off, cap, es', arr, hb', hlen, hcap, rfl, ho, hrel⟩
     ·exact ⟨_, w, β, zero _ _ _ (Nat.zero_le _), Rel.mk_dat0 hcn, hI, Ext.refl _ _⟩
     ·exact ⟨_, w, β, zero _ _ _ hcap, Rel.mk_dat hb' hlen hcap ho hrel, hI, Ext.refl _ _⟩
   | ref o off len =>
     simp only [appV0] at h
     injection h with h; injection h with e1 e2; subst e1; subst e2
     rcases hS.inv_ref with ⟨rfl, k, ad, hk, rfl⟩ | ⟨k, cap, hk, hcap, hfit, rfl⟩
     ·exact ⟨_, w, β, zero _ _ _ (Nat.le_refl _), .refz hk, hI, Ext.refl _ _⟩
     ·exact ⟨_, w, β, zero _ _ _ hcap, .ref hk hcap hfit, hI, Ext.refl _ _⟩
   | _ => simp [appV0] at h
 | cons y r =>
   simp only [List.length_cons] at hnew hnsz room
   -- a new block
   have grow : ∀ {σ1 : Sto} (hI1 : Inv w0 base I0 I β σ1 w) (n0 : Nat) (hn0 : look σ1 n0 = none) (ad : Option Addr) (sl sc : Nat) (old : Array Value) (oc : List (List V)), sc < sl + (r.length + 1) → (sl + (r.length + 1)) * bytes ≤ roomy → sl + (r.length + 1) ≤ roomy →
    (Builtin.firstCells es sl (.slice ad sl sc)).run P w.drew = .ok old w.drew → old.size = sl * es → oc.length = sl → (∀ (i : Nat) (r : List V), oc[i]? = some r → r.length = es) →
    (∀ (i : Nat) (r : List V) (j : Nat) (y : V), oc[i]? = some r → r[j]? = some y → y.one = true ∧ ∃ c, old[i * es + j]? = some c ∧ Rel I β c y) →
    ∃ rv w' β', (Builtin.append_ ⟨t :: u :: rest⟩ ty #[.slice ad sl sc, .slice ad2 (r.length + 1) c2]).run P w = .ok rv w' ∧ Rel I β' rv (.ref n0 0 (sl + (r.length + 1))) ∧
      Inv w0 base I0 I β' (setOb σ1 n0 ⟨.own, es, oc ++ y :: r⟩) w' ∧ Ext I β I β' := by
    intro σ1 hI1 n0 hn0 ad sl sc old oc hlt hr1 hr2 hold hosz hol hoc hor
    obtain ⟨nc, hnc, hrun⟩ := run_append_new (w := w) ht hu hi hzv hsz hb rest ty (ad := ad) (ad2 := ad2) (c2 := c2) (old := old) (new := new) hlt hr1 hr2 hold (hnew w.drew fun _ _ => rfl)
    have hasz : (old ++ new ++ Builtin.zeroCells zv.cells (nc - (sl + (r.length + 1)))).size = nc * es := by
     simp only [Array.size_append, zeroCells_size, hosz, hnsz, hzs, hzl]
     rw [← Nat.add_mul, ← Nat.add_mul]; congr 1; omega
    have hlen : (oc ++ y :: r).length = sl + (r.length + 1) := by simp [hol]
    have parts : ∀ (i : Nat) (q : List V), (oc ++ y :: r)[i]? = some q → (i < sl ∧ oc[i]? = some q) ∨ (sl ≤ i ∧ (y :: r)[i - sl]? = some q) := by
     intro i q hi
     rw [List.getElem?_append] at hi
     split at hi
     ·exact .inl ⟨by omega, hi⟩
     ·exact .inr ⟨by omega, by rw [← hol]; exact hi⟩
    obtain ⟨g1, g2⟩ := hI1.drew.allocAt n0 hn0 (old ++ new ++ Builtin.zeroCells zv.cells (nc - (sl + (r.length + 1)))) e es (oc ++ y :: r)
     (fun i q hi => by rcases parts i q hi with ⟨_, h⟩ | ⟨_, h⟩; exact hoc i q h; exact hxl _ q h)
     (by rw [hasz, hlen]; exact Nat.mul_le_mul_right _ hnc)
     (fun i q j y' hi hj => by rcases parts i q hi with ⟨_, h⟩ | ⟨_, h⟩; exact (hor i q j y' h hj).1; exact hxo _ q j y' h hj)
     (fun i q j y' hi hj => by
       rcases parts i q hi with ⟨hlt2, h⟩ | ⟨hge, h⟩
       ·obtain ⟨c, hc, hR⟩ := (hor i q j y' h hj).2
        have hjl : j < es := by rw [← hoc i q h]; exact (List.getElem?_eq_some_iff.1 hj).1
        refine ⟨c, ?_, hR⟩
        rw [(grown_get old new zv.cells _ _).1 (by rw [hosz]; have := idx_lt hlt2 (Nat.le_refl (sl * es)); omega)]
        exact hc
       ·obtain ⟨c, hc, hR⟩ := hnrel (i - sl) q j y' h hj
        have hjl : j < es := by rw [← hxl _ q h]; exact (List.getElem?_eq_some_iff.1 hj).1
        have hil : i - sl < r.length + 1 := by simpa using (List.getElem?_eq_some_iff.1 h).1
        have e1 : (i - sl) * es + sl * es = i * es := by rw [← Nat.add_mul]; congr 1; omega
        have := idx_lt hil (Nat.le_refl ((r.length + 1) * es))
        refine ⟨c, ?_, hR⟩
        rw [(grown_get old new zv.cells _ _).2 (by rw [hosz]; omega) (by rw [hosz, hnsz]; omega), hosz, ← hc]
        congr 1; omega)
    refine ⟨_, _, _, hrun, ?_, g1, g2⟩
    have hd : w.drew.heap.size = w.heap.size := rfl
    have := Rel.ref (I := I) (β := Beta.put β n0 ⟨w.drew.heap.size, es, (old ++ new ++ Builtin.zeroCells zv.cells (nc - (sl + (r.length + 1)))).size⟩) (o := n0) (b := w.heap.size) (es := es)
     (n := (old ++ new ++ Builtin.zeroCells zv.cells (nc - (sl + (r.length + 1)))).size) (off := 0) (len := sl + (r.length + 1)) (cap := nc) (by simp [Beta.put]) hnc (by rw [hasz]; simp)
    simpa using this
   cases s with
   | nils =>
     simp only [appV0] at h
     split at h
     ·rename_i hc
      injection h with h; injection h with e1 e2; subst e1; subst e2
      rw [hS.inv_nils]
      have := grow hI (fresh σ) (look_fresh σ _ (Nat.le_refl _)) none 0 0 #[] [] (by omega) (by simpa using hc.1) (by simpa using hc.2) (by simp [Builtin.firstCells]) (by simp) rfl (by simp) (by simp)
      simpa using this
     ·simp at h
   | ref o off len =>
     simp only [appV0] at h
     split at h
     ·rename_i ob hob
      split at h
      ·rename_i hc
       obtain ⟨hown, hoes, rfl, hlen, hr1, hr2⟩ := hc
       injection h with h; injection h with e1 e2; subst e1; subst e2
       obtain ⟨hlk, hd⟩ := getOb_some hob
       obtain ⟨k, hk, hkes, hbase, hrr⟩ := hI.ob o ob hlk
       have R := hrr hd
       obtain ⟨arr, te, fr, hm, hasz, ho0, _, hrel⟩ := R.mem
       have hfr := (ho0 hown).1
       subst hfr
       have hkill : Inv w0 base I0 I β (setOb σ o ⟨.dead, es, []⟩) w := by have := hI.kill hlk; rwa [hoes] at this
       have hfn : look (setOb σ o ⟨.dead, es, []⟩) (fresh σ) = none := by
        rw [look_setOb, if_neg (by have := look_lt_fresh hlk; omega)]; exact look_fresh σ _ (Nat.le_refl _)
       have hol : ∀ (i : Nat) (q : List V), ob.cells[i]? = some q → q.length = es := fun i q hi => by rw [R.len i q hi]; exact hoes
       -- what was there, read again
       have hold : ∃ old : Array Value, (∀ (b off : Nat) (cap : Nat), b = k.b → off = 0 → (Builtin.firstCells es len (.slice (some ⟨b, off, none⟩) len cap)).run P w.drew = .ok old w.drew) ∧ old.size = len * es ∧
        ∀ (i : Nat) (q : List V) (j : Nat) (y : V), ob.cells[i]? = some q → q[j]? = some y → y.one = true ∧ ∃ c, old[i * es + j]? = some c ∧ Rel I β c y := by
        have hce : elems σ es (.ref o 0 ob.cells.length) = some ob.cells := by simp [elems, hob, hoes]
        obtain ⟨ad3, cap3, h3, _, _, old, ho1, ho2, ho3⟩ := elems_sound (P := P) (cx := .slice (some ⟨k.b, 0 * k.es, none⟩) ob.cells.length ob.cells.length) hne hce (.ref hk (Nat.le_refl _) (by simpa [hkes] using R.size)) hI
        refine ⟨old, fun b off cap hb ho => ?_, by rw [ho2, hlen], fun i q j y' hi hj => ⟨R.one i q j y' hi hj, ho3 i q j y' hi hj⟩⟩
        subst hb; subst ho
        have := ho1 w.drew (fun _ _ => rfl)
        rw [hlen]
        simpa [Builtin.firstCells] using this
       obtain ⟨old, hold1, hold2, hold3⟩ := hold
       rcases hS.inv_ref with ⟨hl0, k', ad, hk', hcs⟩ | ⟨k', cap, hk', hcap, hfit, hcs⟩
       ·rw [hcs]
        subst hl0
        have hcn : ob.cells = [] := List.eq_nil_of_length_eq_zero hlen.symm
        have := grow hkill (fresh σ) hfn ad 0 0 #[] [] (by omega) (by simpa using hr1) (by simpa using hr2) (by cases ad <;> simp [Builtin.firstCells, loadCells, loadCellsFrom]) (by simp) rfl (by simp) (by simp)
        simpa [hcn] using this
       ·rw [hk] at hk'; injection hk' with hk'; subst hk'
        rw [hcs]
        by_cases hle : len + (r.length + 1) ≤ cap
        ·-- within the capacity
         have hfits : 0 * k.es + len * es + new.size ≤ arr.size := by
          rw [hnsz, hasz]
          have : (len + (r.length + 1)) * es ≤ (0 + cap) * k.es := by rw [hkes, hoes, Nat.zero_add]; exact Nat.mul_le_mul_right _ hle
          rw [Nat.add_mul] at this; omega
         have hrun := room k.b (0 * k.es) len cap arr te hle hm hfits
         have get : ∀ m, ((arr.toList.take (0 * k.es + len * es) ++ new.toList ++ arr.toList.drop (0 * k.es + len * es + new.toList.length)).toArray)[m]? =
          if len * es ≤ m ∧ m < len * es + new.size then new[m - len * es]? else arr[m]? := by
          intro m
          simp only [List.getElem?_toArray, List.append_assoc, List.getElem?_append, List.length_take, List.getElem?_take, List.getElem?_drop, Array.length_toList, Nat.zero_mul, Nat.zero_add]
          have : min (len * es) arr.size = len * es := by omega
          rw [this]
          by_cases h1 : m < len * es
          ·simp [h1]; omega
          ·by_cases h2 : m - len * es < new.size
           ·have : len * es ≤ m ∧ m < len * es + new.size := by omega
            simp [h1, h2, this]
           ·have : ¬ (len * es ≤ m ∧ m < len * es + new.size) := by omega
            simp only [h1, h2, this, if_false]
            simp
            congr 1
            omega
         have parts : ∀ (i : Nat) (q : List V), (ob.cells ++ y :: r)[i]? = some q → (i < len ∧ ob.cells[i]? = some q) ∨ (len ≤ i ∧ (y :: r)[i - len]? = some q) := by
          intro i q hi
          rw [List.getElem?_append] at hi
          split at hi
          ·exact .inl ⟨by omega, hi⟩
          ·exact .inr ⟨by omega, by rw [hlen]; exact hi⟩
         have hW := hI.write hlk hown hk hm (arr := (arr.toList.take (0 * k.es + len * es) ++ new.toList ++ arr.toList.drop (0 * k.es + len * es + new.toList.length)).toArray) (by simp; omega) (ob.cells ++ y :: r)
          (fun i q hi => by rw [hoes]; rcases parts i q hi with ⟨_, h⟩ | ⟨_, h⟩; exact hol i q h; exact hxl _ q h)
          (by
            rw [hoes, ← hasz]
            simp only [List.length_append, List.length_cons, ← hlen]
            rw [hnsz] at hfits
            rw [Nat.add_mul]; omega)
          (fun i q j y' hi hj => by rcases parts i q hi with ⟨_, h⟩ | ⟨_, h⟩; exact R.one i q j y' h hj; exact hxo _ q j y' h hj)
          (fun i q j y' hi hj => by
            rw [get, hoes]
            rcases parts i q hi with ⟨hlt2, h⟩ | ⟨hge, h⟩
            ·obtain ⟨c, hc, hR⟩ := hrel i q j y' h hj
             have hjl : j < es := by rw [← hol i q h]; exact (List.getElem?_eq_some_iff.1 hj).1
             have := idx_lt hlt2 (Nat.le_refl (len * es))
             rw [if_neg (by omega), ← hoes]
             exact ⟨c, hc, hR⟩
            ·obtain ⟨c, hc, hR⟩ := hnrel (i - len) q j y' h hj
             have hjl : j < es := by rw [← hxl _ q h]; exact (List.getElem?_eq_some_iff.1 hj).1
             have hil : i - len < r.length + 1 := by simpa using (List.getElem?_eq_some_iff.1 h).1
             have e1 : (i - len) * es + len * es = i * es := by rw [← Nat.add_mul]; congr 1; omega
             have := idx_lt hil (Nat.le_refl ((r.length + 1) * es))
             rw [if_pos (by rw [hnsz]; omega)]
             refine ⟨c, ?_, hR⟩
             rw [← hc]; congr 1; omega)
         obtain ⟨g1, g2⟩ := hW.rename (o := o) (x := { ob with cells := ob.cells ++ y :: r }) (by simp) hown hk (fresh σ) (by rw [look_setOb, if_neg (by have := look_lt_fresh hlk; omega)]; exact look_fresh σ _ (Nat.le_refl _))
         refine ⟨_, _, _, hrun, ?_, g1.congr (fun p => ?_), g2⟩
         ·have := Rel.ref (I := I) (β := Beta.put β (fresh σ) k) (o := fresh σ) (b := k.b) (es := k.es) (n := k.n) (off := 0) (len := len + (r.length + 1)) (cap := cap) (by simp [Beta.put]) hle hfit
          exact this
         ·simp only [look_setOb]
          by_cases h1 : p = fresh σ
          ·simp [h1, hown, hoes]
          ·by_cases h2 : p = o <;> simp [h1, h2, hoes, hown]
        ·have := grow hkill (fresh σ) hfn (some ⟨k.b, 0 * k.es, none⟩) len cap old ob.cells (by omega) hr1 hr2 (hold1 k.b _ cap rfl (by simp)) hold2 hlen.symm hol hold3
         exact this
      ·simp at h
     ·simp at h
   | _ => simp [appV0] at h
theorem appV_split {es bytes : Nat} {xs : List (List V)} {s : V} (h : appV σ es bytes xs s = some (v, σ')) : appV0 σ es bytes xs s = some (v, σ') ∨
 ∃ o len ob σ2, s = .ref o 0 len ∧ look σ o = some ob ∧ ob.st ≠ .dead ∧ appV0 (setOb σ o { ob with cells := ob.cells.take len }) es bytes xs s = some (v, σ2) ∧ ∀ p, look σ' p = look σ2 p := by
 unfold appV at h
 cases xs with
 | nil => exact .inl h
 | cons y r =>
   cases s with
   | ref o off len =>
     simp only at h
     split at h
     ·rename_i ob hob
      split at h
      ·rename_i hc
       left
       simp only [appV0, hob]
       rw [if_pos hc]; exact h
      ·split at h
       ·rename_i hc
        obtain ⟨hown, hoes, rfl, hlen, hr1, hr2⟩ := hc
        injection h with h; injection h with e1 e2
        obtain ⟨hlk, hd⟩ := getOb_some hob
        right
        have hlt := look_lt_fresh hlk
        have hg : getOb (setOb σ o { ob with cells := ob.cells.take len }) o = some { ob with cells := ob.cells.take len } := by
         unfold getOb; rw [look_setOb, if_pos rfl]; simp only; rw [if_neg hd]
        have hl2 : (ob.cells.take len).length = len := by rw [List.length_take]; omega
        have hfr : fresh (setOb σ o { ob with cells := ob.cells.take len }) = fresh σ := by rw [fresh_set]; omega
        refine ⟨o, len, ob, setOb (setOb (setOb σ o { ob with cells := ob.cells.take len }) o ⟨.dead, es, []⟩) (fresh σ) ⟨.own, es, ob.cells.take len ++ y :: r⟩, rfl, hlk, hd, ?_, fun p => ?_⟩
        ·simp only [appV0, hg]
         rw [if_pos ⟨hown, hoes, by trivial, hl2.symm, hr1, hr2⟩, hfr, ← e1]
        ·rw [← e2]
         simp only [look_setOb]
         by_cases h1 : p = fresh σ
         ·simp [h1]
         ·by_cases h2 : p = o <;> simp [h1, h2]
       ·simp at h
     ·simp at h
   | nils => exact .inl h
   | _ => simp at h
theorem good_append {es bytes : Nat} {t u e : TypeId} {rest : List TypeId} {z : List V} {i : TypeInfo} (ht : P.underlying t = some (.slice e)) (hu : ∃ e', P.underlying u = some (.slice e')) (hz : cZero P e = some z) (hi : P.info? e = some i) (hb : i.bytes = bytes) (hzl : z.length = es) (hne : es ≠ 0)
 {cs cx : Value} {s x : V} {xs : List (List V)} (hS : Rel I β cs s) (hX : Rel I β cx x) (hI : Inv w0 base I0 I β σ w) (hel : elems σ es x = some xs) (ty : TypeId)
 (h : appV σ es bytes xs s = some (v, σ')) :
 ∃ rv w' β', (Builtin.append_ ⟨t :: u :: rest⟩ ty #[cs, cx]).run P w = .ok rv w' ∧ Rel I β' rv v ∧ Inv w0 base I0 I β' σ' w' ∧ Ext I β I β' := by
 have hE : AppIn P w I β es cx xs := elems_sound (P := P) hne hel hX hI
 rcases appV_split h with h | ⟨o, len, ob, σ2, rfl, hlk, hd, h, hl⟩
 ·exact good_append0 ht hu hz hi hb hzl hne hS hI hE ty h
 ·obtain ⟨rv, w', β', h1, h2, h3, h4⟩ := good_append0 ht hu hz hi hb hzl hne hS (hI.shrink hlk hd len) hE ty h
  exact ⟨rv, w', β', h1, h2, h3.congr hl, h4⟩
theorem run_append_zeros {t u e : TypeId} {k : IntKind} {i : TypeInfo} {zv : Value} {es bytes : Nat} (ht : P.underlying t = some (.slice e)) (hu : P.underlying u = some (.int k)) (hi : P.info? e = some i) (hz : i.zero = some zv) (hs : i.size = es) (hne : es ≠ 0) (hb : i.bytes = bytes)
 (rest : List TypeId) (ty : TypeId) {kx : IntKind} {n : Nat} (h0 : 0 < n) (hroom : n * bytes ≤ roomy) (hroom2 : n ≤ roomy) :
 ∃ nc, n ≤ nc ∧ (Builtin.append_ ⟨t :: u :: rest⟩ ty #[.slice none 0 0, .int kx (n : Int)]).run P w = .ok (.slice (some ⟨w.heap.size, 0, none⟩) n nc) (w.drew.alloc (.cells (#[] ++ Builtin.zeroCells zv.cells n ++ Builtin.zeroCells zv.cells (nc - n)) e)) := by
 have hw : IntKind.i64.wrap (n : Int) = n := wrap_small (by omega) (by exact_mod_cast hroom2)
 have hcap := nextslicecap_le n 0 h0
 have hroom3 : ¬ (Builtin.nextslicecap n 0 * bytes > 2 ^ 48) := by
  have : Builtin.nextslicecap n 0 * bytes ≤ 2 * n * bytes := Nat.mul_le_mul_right _ hcap
  rw [Nat.mul_assoc] at this
  unfold roomy at hroom; omega
 have hnb : ¬ ((n : Int) * bytes > 2 ^ 48) := by
  have : ((n * bytes : Nat) : Int) = (n : Int) * bytes := by push_cast; rfl
  unfold roomy at hroom; omega
 have hzr : ∀ w', (zeroValue e).run P w' = .ok zv w' := fun w' => by simp [zeroValue, typeInfo, hi, hz]
 have hf : ¬ ((Question.appendCap n 0 e).forced = true) := by simp [Question.forced]
 refine ⟨(Question.appendCap n 0 e).cut (w.tape w.drawn (Question.appendCap n 0 e)), cut_ge n 0 e _, ?_⟩
 have hn0 : ¬ n = 0 := by omega
 simp [Builtin.append_, run_underlying ht, run_underlying hu, sizeOf, typeInfo, hi, hs, hb, askRoom, asInt, asIntOf, hw, hn0, hne, Builtin.firstCells]
 have hne2 : ¬ (n * es = 0) := Nat.mul_ne_zero (by omega) hne
 rw [if_neg (by omega), if_neg (by omega), if_neg (by unfold roomy at hroom2; omega), if_neg (by omega), if_neg hf, if_neg hne2]
 simp only [hzr, Result.andThen, run_newRow]
 rfl
theorem good_appendN {es bytes : Nat} {t u e : TypeId} {k : IntKind} {rest : List TypeId} {z : List V} {i : TypeInfo} (ht : P.underlying t = some (.slice e)) (hu : P.underlying u = some (.int k)) (hz : cZero P e = some z) (hi : P.info? e = some i) (hb : i.bytes = bytes) (hzl : z.length = es) (hne : es ≠ 0)
 {kx : IntKind} {n : Int} (h0 : 0 < n) (h1 : n * bytes ≤ roomy) (h2 : n ≤ roomy) (ty : TypeId) (hI : Inv w0 base I0 I β σ w) :
 ∃ rv w' β', (Builtin.append_ ⟨t :: u :: rest⟩ ty #[.slice none 0 0, .int kx n]).run P w = .ok rv w' ∧ Rel I β' rv (.ref (fresh σ) 0 n.toNat) ∧ Inv w0 base I0 I β' (setOb σ (fresh σ) ⟨.own, es, List.replicate n.toNat z⟩) w' ∧ Ext I β I β' := by
 obtain ⟨m, rfl⟩ := Int.eq_ofNat_of_zero_le (show 0 ≤ n by omega)
 rw [Int.toNat_natCast]
 obtain ⟨i', zv, hi', hzv, _, hzs, his, hzo, hzr⟩ := zero_sound (w := w) hz I β
 rw [hi] at hi'; injection hi' with hi'; subst hi'
 have hm1 : m * bytes ≤ roomy := by
  have : ((m * bytes : Nat) : Int) = (m : Int) * bytes := by push_cast; rfl
  omega
 obtain ⟨nc, hnc, hrun⟩ := run_append_zeros (w := w) ht hu hi hzv (by omega) hne hb rest ty (kx := kx) (n := m) (by omega) hm1 (by omega)
 have hasz : (#[] ++ Builtin.zeroCells zv.cells m ++ Builtin.zeroCells zv.cells (nc - m)).size = nc * es := by
  simp only [Array.size_append, zeroCells_size, hzs, hzl, Array.size_empty, Nat.zero_add]
  rw [← Nat.add_mul]; congr 1; omega
 obtain ⟨g1, g2⟩ := hI.drew.alloc (#[] ++ Builtin.zeroCells zv.cells m ++ Builtin.zeroCells zv.cells (nc - m)) e es (List.replicate m z) (fun i r h => by simp [List.getElem?_replicate] at h; rw [← h.2]; exact hzl) (by rw [hasz]; simp; exact Nat.mul_le_mul_right _ hnc)
  (fun i r j y hi hj => by simp [List.getElem?_replicate] at hi; rw [← hi.2] at hj; exact hzo j y hj)
  (fun i r j y hi hj => by
    simp [List.getElem?_replicate] at hi
    obtain ⟨hi1, rfl⟩ := hi
    have hj' : j < z.length := (List.getElem?_eq_some_iff.1 hj).1
    have hj2 : j < zv.cells.size := by omega
    refine ⟨zv.cells[j], ?_, hzr j _ y (by simp [hj2]) hj⟩
    have hlt := idx_lt hi1 (Nat.le_refl (m * es))
    have hlt2 : i * es + j < (Builtin.zeroCells zv.cells m).size := by rw [zeroCells_size, hzs, hzl]; omega
    rw [(grown_get #[] (Builtin.zeroCells zv.cells m) zv.cells (nc - m) (i * es + j)).2 (by simp) (by simpa using hlt2)]
    simp only [Array.size_empty, Nat.sub_zero]
    rw [show (Builtin.zeroCells zv.cells m)[i * es + j]? = zv.cells[j]? from by
     have := zero_cells_get zv.cells m es (by omega) hne i j hi1 (by omega)
     simpa [Builtin.zeroCells, hzs, hzl] using this]
    simp [hj2])
 refine ⟨_, _, _, hrun, ?_, g1, g2⟩
 have := Rel.ref (I := I) (β := Beta.put β (fresh σ) ⟨w.drew.heap.size, es, (#[] ++ Builtin.zeroCells zv.cells m ++ Builtin.zeroCells zv.cells (nc - m)).size⟩) (o := fresh σ) (b := w.heap.size) (es := es)
  (n := (#[] ++ Builtin.zeroCells zv.cells m ++ Builtin.zeroCells zv.cells (nc - m)).size) (off := 0) (len := m) (cap := nc) (by simp [Beta.put]) hnc (by rw [hasz]; simp)
 simpa using this
end Go.Proofs.YtkockkfmjmheeaaGreat.E

namespace Go.Proofs.YtkockkfmjmheeaaGreat.E
open Go Go.RowKit
set_option linter.unusedSimpArgs false
set_option linter.unusedVariables false
variable {P : Program} {w0 : World} {base : Nat} {I0 I : Imm} {β : Beta} {S : Sl} {σ σ' : Sto} {w : World} {a : Act} {v : V}
theorem foldl_set_get (off : Nat) : ∀ (l : List Value) (k : Nat) (cells : Array Value), off + k + l.length ≤ cells.size → ∀ m,
 ((l.zipIdx k).foldl (fun (cs : Array Value) (x : Value × Nat) => cs.setIfInBounds (off + x.2) x.1) cells).size = cells.size ∧
 ((l.zipIdx k).foldl (fun (cs : Array Value) (x : Value × Nat) => cs.setIfInBounds (off + x.2) x.1) cells)[m]? = if off + k ≤ m ∧ m < off + k + l.length then l[m - (off + k)]? else cells[m]?
 | [], k, cells, h, m => by simp; omega
 | c :: l, k, cells, h, m => by
   simp only [List.length_cons] at h
   simp only [List.zipIdx_cons, List.foldl_cons]
   obtain ⟨h1, h2⟩ := foldl_set_get off l (k + 1) (cells.setIfInBounds (off + k) c) (by simp; omega) m
   refine ⟨by simpa using h1, ?_⟩
   rw [h2]
   by_cases e1 : off + (k + 1) ≤ m ∧ m < off + (k + 1) + l.length
   ·have e2 : off + k ≤ m ∧ m < off + k + (c :: l).length := by simp; omega
    rw [if_pos e1, if_pos e2, show m - (off + k) = (m - (off + (k + 1))) + 1 from by omega]
    simp
   ·rw [if_neg e1, Array.getElem?_setIfInBounds]
    by_cases e3 : m = off + k
    ·have e2 : off + k ≤ m ∧ m < off + k + (c :: l).length := by simp; omega
     rw [if_pos e3.symm, if_pos e2, e3]
     simp; omega
    ·have e2 : ¬ (off + k ≤ m ∧ m < off + k + (c :: l).length) := by simp; omega
     rw [if_neg (Ne.symm e3), if_neg e2]
def CellsRel (I : Imm) (β : Beta) (cells : Array Value) (l : List V) : Prop :=
 cells.size = l.length ∧ (∀ (j : Nat) (y : V), l[j]? = some y → y.one = true) ∧ ∀ (j : Nat) (c : Value) (y : V), cells[j]? = some c → l[j]? = some y → Rel I β c y
theorem lay_part {cells : Array Value} {l : List V} (h : CellsRel I β cells l) {c : Value} {y : V} (hy : Rel I β c y) (ht : ∀ l, y ≠ .tup l) {off : Nat} (hf : off + y.cells.length ≤ l.length) :
 CellsRel I β (c.cells.zipIdx.foldl (fun (cs : Array Value) (x : Value × Nat) => cs.setIfInBounds (off + x.2) x.1) cells) (splice l off y.cells) := by
 obtain ⟨hs, ho, hr⟩ := h
 obtain ⟨h1, h2, h3⟩ := hy.cells ht
 have e : c.cells.zipIdx.foldl (fun (cs : Array Value) (x : Value × Nat) => cs.setIfInBounds (off + x.2) x.1) cells = (c.cells.toList.zipIdx 0).foldl (fun (cs : Array Value) (x : Value × Nat) => cs.setIfInBounds (off + x.2) x.1) cells := by
  rw [← Array.foldl_toList]; simp
 have hfit : off + 0 + c.cells.toList.length ≤ cells.size := by simp; omega
 rw [e]
 refine ⟨?_, fun j y' hj => ?_, fun j c' y' hc hj => ?_⟩
 ·rw [(foldl_set_get off c.cells.toList 0 cells hfit 0).1, splice_length _ _ _ hf, hs]
 ·rw [getElem?_splice _ _ _ _ hf] at hj
  split at hj
  ·exact h2 _ _ hj
  ·exact ho _ _ hj
 ·rw [(foldl_set_get off c.cells.toList 0 cells hfit j).2] at hc
  rw [getElem?_splice _ _ _ _ hf] at hj
  simp only [Nat.add_zero, Array.length_toList] at hc
  rw [h1] at hc
  split at hj
  ·rename_i hin
   rw [if_pos hin] at hc
   exact h3 _ c' y' (by simpa using hc) hj
  ·rename_i hin
   rw [if_neg hin] at hc
   exact hr _ c' y' hc hj
theorem fillV_sound (hS : SRel I β S a) (place : Nat → Option (Nat × Nat)) : ∀ (parts : List (Nat × Operand)) (ps : List (Nat × Nat × Opd)) (cells : Array Value) (l l' : List V), CellsRel I β cells l → fillV S l ps = some l' →
 (∀ (k : Nat) (i : Nat) (x : Operand), parts[k]? = some (i, x) → ∃ off n y, ps[k]? = some (off, n, y) ∧ place i = some (off, n) ∧ cOpd x = some y) → parts.length = ps.length →
 ∃ cells', Instr.fill place cells (parts.map fun (i, x) => (i, a.eval x)) = some cells' ∧ CellsRel I β cells' l'
 | [], ps, cells, l, l', h, hf, hp, hl => by
   cases ps with
   | nil => simp [fillV] at hf; subst hf; exact ⟨cells, rfl, h⟩
   | cons => simp at hl
 | (i, x) :: parts, ps, cells, l, l', h, hf, hp, hl => by
   cases ps with
   | nil => simp at hl
   | cons q ps =>
     obtain ⟨off, n, y, hq, hpl, hc⟩ := hp 0 i x rfl
     simp at hq; subst hq
     simp only [fillV] at hf
     split at hf
     ·simp at hf
     ·rename_i u ht hu
      split at hf
      ·rename_i hcond
       have hr := ev_sound hc hS hu
       have hnt : ∀ l, u ≠ .tup l := fun l e => ht l e
       have hsz := (hr.cells hnt).1
       have hlay := lay_part h hr hnt (off := off) (by rw [hcond.1]; exact hcond.2)
       obtain ⟨cells', h1, h2⟩ := fillV_sound hS place parts ps _ _ l' hlay hf (fun k i' x' hk => hp (k + 1) i' x' hk) (by simpa using hl)
       refine ⟨cells', ?_, h2⟩
       simp only [List.map_cons, Instr.fill, hpl]
       have hno : ((a.eval x).cells.size ≠ n || off + (a.eval x).cells.size > cells.size) = false := by
        rw [hsz, hcond.1, h.1]; simp; exact hcond.2
       simp only [hno, Bool.false_eq_true, if_false]
       exact h1
      ·simp at hf
     ·simp at hf
theorem cParts_sound {fs : List Field} : ∀ {parts : List (Nat × Operand)} {ps : List (Nat × Nat × Opd)}, cParts P fs parts = some ps → parts.length = ps.length ∧
 ∀ (k : Nat) (i : Nat) (x : Operand), parts[k]? = some (i, x) → ∃ f n y, fs[i]? = some f ∧ ps[k]? = some (f.offset, n, y) ∧ cSize P f.type = some n ∧ cOpd x = some y
 | [], ps, h => by simp [cParts] at h; subst h; simp
 | (i, x) :: parts, ps, h => by
   simp only [cParts] at h
   split at h
   ·rename_i f y l hf hy hl
    split at h
    ·rename_i n hn
     injection h with h; subst h
     obtain ⟨h1, h2⟩ := cParts_sound hl
     refine ⟨by simp [h1], fun k i' x' hk => ?_⟩
     cases k with
     | zero => simp at hk; obtain ⟨rfl, rfl⟩ := hk; exact ⟨f, n, y, hf, rfl, hn, hy⟩
     | succ k => exact h2 k i' x' hk
    ·simp at h
   ·simp at h
theorem cPartsA_sound {es : Nat} : ∀ {parts : List (Nat × Operand)} {ps : List (Nat × Nat × Opd)}, cPartsA es parts = some ps → parts.length = ps.length ∧
 ∀ (k : Nat) (i : Nat) (x : Operand), parts[k]? = some (i, x) → ∃ y, ps[k]? = some (i * es, es, y) ∧ cOpd x = some y
 | [], ps, h => by simp [cPartsA] at h; subst h; simp
 | (i, x) :: parts, ps, h => by
   simp only [cPartsA] at h
   split at h
   ·rename_i y l hy hl
    injection h with h; subst h
    obtain ⟨h1, h2⟩ := cPartsA_sound hl
    refine ⟨by simp [h1], fun k i' x' hk => ?_⟩
    cases k with
    | zero => simp at hk; obtain ⟨rfl, rfl⟩ := hk; exact ⟨y, rfl, hy⟩
    | succ k => exact h2 k i' x' hk
   ·simp at h
theorem cPartsS_sound : ∀ {parts : List (Nat × Operand)} {ps : List (Nat × Opd)}, cPartsS parts = some ps → parts.length = ps.length ∧
 ∀ (k : Nat) (i : Nat) (x : Operand), parts[k]? = some (i, x) → ∃ y, ps[k]? = some (i, y) ∧ cOpd x = some y
 | [], ps, h => by simp [cPartsS] at h; subst h; simp
 | (i, x) :: parts, ps, h => by
   simp only [cPartsS] at h
   split at h
   ·rename_i y l hy hl
    injection h with h; subst h
    obtain ⟨h1, h2⟩ := cPartsS_sound hl
    refine ⟨by simp [h1], fun k i' x' hk => ?_⟩
    cases k with
    | zero => simp at hk; obtain ⟨rfl, rfl⟩ := hk; exact ⟨y, rfl, hy⟩
    | succ k => exact h2 k i' x' hk
   ·simp at h
theorem flatten_get {es : Nat} (hes : es ≠ 0) : ∀ {l : List (List V)}, (∀ (i : Nat) (r : List V), l[i]? = some r → r.length = es) → l.flatten.length = l.length * es ∧ ∀ (i : Nat) (r : List V) (j : Nat) (y : V), l[i]? = some r → r[j]? = some y → l.flatten[i * es + j]? = some y
 | [], _ => by simp
 | q :: l, h => by
   have hq := h 0 q rfl
   obtain ⟨h1, h2⟩ := flatten_get hes (l := l) (fun i r hi => h (i + 1) r hi)
   refine ⟨by simp [h1, hq, Nat.add_mul]; omega, fun i r j y hi hj => ?_⟩
   have hjl : j < r.length := (List.getElem?_eq_some_iff.1 hj).1
   cases i with
   | zero => simp at hi; subst hi; rw [List.flatten_cons, List.getElem?_append_left (by omega)]; simpa using hj
   | succ i =>
     simp only [List.getElem?_cons_succ] at hi
     rw [List.flatten_cons, List.getElem?_append_right (by rw [hq, Nat.add_mul]; omega), hq, show (i + 1) * es + j - es = i * es + j from by rw [Nat.add_mul]; omega]
     exact h2 i r j y hi hj
theorem fillS_sound {es : Nat} (hes : es ≠ 0) (hS : SRel I β S a) : ∀ (parts : List (Nat × Operand)) (ps : List (Nat × Opd)) (cells : Array Value) (l l' : List (List V)), (∀ (i : Nat) (r : List V), l[i]? = some r → r.length = es) → CellsRel I β cells l.flatten → fillS S es l ps = some l' →
 (∀ (k : Nat) (i : Nat) (x : Operand), parts[k]? = some (i, x) → ∃ y, ps[k]? = some (i, y) ∧ cOpd x = some y) → parts.length = ps.length →
 ∃ cells', Instr.fill (fun i => some (i * es, es)) cells (parts.map fun (i, x) => (i, a.eval x)) = some cells' ∧ CellsRel I β cells' l'.flatten ∧ (∀ (i : Nat) (r : List V), l'[i]? = some r → r.length = es) ∧ l'.length = l.length
 | [], ps, cells, l, l', hl0, h, hf, hp, hl => by
   cases ps with
   | nil => simp [fillS] at hf; subst hf; exact ⟨cells, rfl, h, hl0, rfl⟩
   | cons => simp at hl
 | (i, x) :: parts, ps, cells, l, l', hl0, h, hf, hp, hl => by
   cases ps with
   | nil => simp at hl
   | cons q ps =>
     obtain ⟨y, hq, hc⟩ := hp 0 i x rfl
     simp at hq; subst hq
     simp only [fillS] at hf
     split at hf
     ·simp at hf
     ·rename_i u ht hu
      split at hf
      ·rename_i hcond
       have hr := ev_sound hc hS hu
       have hnt : ∀ l, u ≠ .tup l := fun l e => ht l e
       have hsz := (hr.cells hnt).1
       obtain ⟨hfl, hfg⟩ := flatten_get hes hl0
       have hfit : i * es + u.cells.length ≤ l.flatten.length := by rw [hfl, hcond.1]; exact idx_lt hcond.2 (Nat.le_refl _)
       have hlay := lay_part h hr hnt (off := i * es) hfit
       have hl1 : ∀ (k : Nat) (r : List V), (l.set i u.cells)[k]? = some r → r.length = es := by
        intro k r hk
        rw [List.getElem?_set] at hk
        by_cases he : i = k
        ·subst he; simp [hcond.2] at hk; subst hk; exact hcond.1
        ·rw [if_neg he] at hk; exact hl0 k r hk
       have e : splice l.flatten (i * es) u.cells = (l.set i u.cells).flatten := by
        obtain ⟨g1, g2⟩ := flatten_get hes hl1
        apply List.ext_getElem?
        intro m
        rw [getElem?_splice _ _ _ _ hfit]
        by_cases hm : m < l.length * es
        ·have hq : m / es < l.length := Nat.div_lt_of_lt_mul (by rw [Nat.mul_comm]; exact hm)
         have hr0 : m % es < es := Nat.mod_lt _ (by omega)
         have hm2 : m / es * es + m % es = m := by rw [Nat.mul_comm]; exact Nat.div_add_mod m es
         by_cases hin : i * es ≤ m ∧ m < i * es + u.cells.length
         ·rw [if_pos hin]
          have he : m / es = i := by
           rw [hcond.1] at hin
           exact Nat.div_eq_of_lt_le (by omega) (by rw [Nat.add_mul]; omega)
          have := g2 i u.cells (m % es) (u.cells[m % es]'(by omega)) (by simp [hcond.2]) (List.getElem?_eq_getElem (by omega))
          have hmi : i * es + m % es = m := by have := hm2; rw [he] at this; exact this
          rw [hmi] at this
          rw [this, show m - i * es = m % es from by omega]
          exact List.getElem?_eq_getElem (by omega)
         ·rw [if_neg hin]
          have he : ¬ i = m / es := by
           intro he
           rw [hcond.1, he] at hin
           omega
          have hlen := hl0 _ _ (List.getElem?_eq_getElem hq)
          have a1 := g2 (m / es) l[m / es] (m % es) (l[m / es][m % es]'(by omega)) (by rw [List.getElem?_set, if_neg he]; exact List.getElem?_eq_getElem hq) (List.getElem?_eq_getElem (by omega))
          have a2 := hfg (m / es) l[m / es] (m % es) (l[m / es][m % es]'(by omega)) (List.getElem?_eq_getElem hq) (List.getElem?_eq_getElem (by omega))
          rw [hm2] at a1 a2
          rw [a1, a2]
        ·have hin : ¬ (i * es ≤ m ∧ m < i * es + u.cells.length) := by rw [← hfl] at hm; omega
         rw [if_neg hin, List.getElem?_eq_none (by omega), List.getElem?_eq_none (by rw [g1]; simp; omega)]
       rw [e] at hlay
       obtain ⟨cells', h1, h2, h3, h4⟩ := fillS_sound hes hS parts ps _ _ l' hl1 hlay hf (fun k i' x' hk => hp (k + 1) i' x' hk) (by simpa using hl)
       refine ⟨cells', ?_, h2, h3, by simpa using h4⟩
       simp only [List.map_cons, Instr.fill]
       have hno : ((a.eval x).cells.size ≠ es || i * es + (a.eval x).cells.size > cells.size) = false := by
        rw [hsz, hcond.1, h.1]; simp; rw [hcond.1] at hfit; simpa using hfit
       simp only [hno, Bool.false_eq_true, if_false]
       exact h1
      ·simp at hf
     ·simp at hf
end Go.Proofs.YtkockkfmjmheeaaGreat.E

namespace Go.Proofs.YtkockkfmjmheeaaGreat.E
open Go Go.RowKit
set_option linter.unusedSimpArgs false
set_option linter.unusedVariables false
variable {P : Program} {w0 : World} {base : Nat} {I0 I : Imm} {β : Beta} {S : Sl} {σ σ' : Sto} {w : World} {a : Act} {v : V}
theorem good_of_value {s : Sem Value} {rv : Value} {w' : World} {I' : Imm} {β' : Beta} (hr : s.run P w = .ok rv w') (hv : Rel I' β' rv v) (hI : Inv w0 base I0 I' β' σ' w') (he : Ext I β I' β') :
 Good w0 base I0 I β v σ' ((do pure (Next.value (← s)) : Sem Next).run P w) :=
 ⟨_, w', I', β', rv, by simp [hr], .inl rfl, hv, hI, he⟩
theorem mapM_get {α γ : Type} (f : α → Option γ) : ∀ (l : List α) (r : List γ), l.mapM f = some r → ∀ (i : Nat) (x : α), l[i]? = some x → ∃ y, f x = some y ∧ r[i]? = some y
 | [], r, h, i, x, hi => by simp at hi
 | a :: l, r, h, i, x, hi => by
   simp only [List.mapM_cons, Option.bind_eq_bind, Option.pure_def] at h
   cases hf : f a with
   | none => simp [hf] at h
   | some y =>
     cases hr : l.mapM f with
     | none => simp [hf, hr] at h
     | some r' =>
       simp [hf, hr] at h
       subst h
       cases i with
       | zero => simp at hi; subst hi; exact ⟨y, hf, rfl⟩
       | succ i => exact mapM_get f l r' hr i x (by simpa using hi)
theorem bytes_cells : ∀ {rows : List (List V)} {bs : List Int} {cs : Array Value}, bytesL rows = some bs → cs.size = rows.length → (∀ (i : Nat) (r : List V) (j : Nat) (y : V), rows[i]? = some r → r[j]? = some y → ∃ c, cs[i * 1 + j]? = some c ∧ Rel I β c y) → cs = (bs.map (Value.int .u8)).toArray := by
 intro rows bs cs h hs hg
 have key : ∀ {rows : List (List V)} {bs : List Int}, bytesL rows = some bs → bs.length = rows.length ∧ ∀ (i : Nat) (n : Int), bs[i]? = some n → rows[i]? = some [V.int .u8 n] := by
  intro rows
  induction rows with
  | nil => intro bs h; simp [bytesL] at h; subst h; simp
  | cons r rows ih =>
    intro bs h
    unfold bytesL at h
    split at h
    ·simp at *
    ·rename_i n r' e
     injection e with e1 e2; subst e1; subst e2
     obtain ⟨l, hl, rfl⟩ := opt_map_some h
     obtain ⟨g1, g2⟩ := ih hl
     refine ⟨by simp [g1], fun i n hi => ?_⟩
     cases i with
     | zero => simp at hi; subst hi; rfl
     | succ i => simpa using g2 i n (by simpa using hi)
    ·simp at h
 obtain ⟨k1, k2⟩ := key h
 apply Array.ext
 ·simp [hs, k1]
 ·intro i h1 h2
  have hi : i < bs.length := by rw [k1, ← hs]; exact h1
  have h3 := k2 i _ (List.getElem?_eq_getElem hi)
  obtain ⟨c, h4, h5⟩ := hg i _ 0 _ h3 rfl
  rw [Nat.mul_one, Nat.add_zero, Array.getElem?_eq_getElem h1] at h4
  injection h4 with h4
  rw [h4, h5.inv_int]
  simp
theorem run_clear {t e : TypeId} {z : List V} {o off len cap : Nat} {ob : Ob} {k : Blk} (hI : Inv w0 base I0 I β σ w) (hu : P.underlying t = some (.slice e)) (hz : cZero P e = some z) (hne : ¬ z.length = 0) (hob : getOb σ o = some ob) (hown : ob.st = .own) (hes : ob.es = z.length) (hfit : off + len ≤ ob.cells.length) (h0 : ¬ len = 0) (hk : β o = some k) :
 ∃ w', (∀ ty, (Builtin.clear_ #[t] ty #[.slice (some ⟨k.b, off * k.es, none⟩) len cap]).run P w = .ok (.tuple #[]) w') ∧ Inv w0 base I0 I β (setOb σ o { ob with cells := ob.cells.take off ++ List.replicate len z ++ ob.cells.drop (off + len) }) w' := by
 obtain ⟨i, zv, hi, hzv, hrz, hzs, his, hzo, hzr⟩ := zero_sound (w := w) hz I β
 obtain ⟨hl, hd⟩ := getOb_some hob
 obtain ⟨k2, hk2, hes2, hbase, hr'⟩ := hI.ob o ob hl
 rw [hk] at hk2; injection hk2 with hk2; subst hk2
 have R := hr' hd
 obtain ⟨arr, ty, fr, hm, hs, hown', hfro, hrel⟩ := R.mem
 obtain ⟨hfr, hnone⟩ := hown' hown
 subst hfr
 have ez : zv.cells.size = z.length := hzs
 have eke : k.es = z.length := hes2.trans hes
 have zsz : (Builtin.zeroCells zv.cells len).size = len * z.length := by rw [zeroCells_size, ez]
 have hsize := R.size
 rw [hes] at hsize
 have hmul : (off + len) * z.length ≤ ob.cells.length * z.length := Nat.mul_le_mul_right _ hfit
 rw [Nat.add_mul] at hmul
 have hf2 : off * z.length + len * z.length ≤ arr.size := by omega
 have zget : ∀ q r, q < len → r < z.length → (Builtin.zeroCells zv.cells len)[q * z.length + r]? = zv.cells[r]? := by
  intro q r hq hr
  have h1 := zero_cells_get zv.cells len z.length ez hne q r hq hr
  have : (Builtin.zeroCells zv.cells len)[q * z.length + r]? = ((Array.range (len * z.length)).map (fun k => zv.cells[k % zv.cells.size]!))[q * z.length + r]? := by
   unfold Builtin.zeroCells; rw [ez]
  rw [this, h1]
 have one : ∀ c ∈ (Builtin.zeroCells zv.cells len).toList, c.oneCell' = true := by
  intro c hc
  obtain ⟨q, hq, rfl⟩ := List.getElem_of_mem hc
  have hq2 : q < len * z.length := by rw [← zsz]; simpa using hq
  have a1 : q / z.length < len := Nat.div_lt_of_lt_mul (by rw [Nat.mul_comm]; exact hq2)
  have a2 : q % z.length < z.length := Nat.mod_lt _ (by omega)
  have a3 : q = q / z.length * z.length + q % z.length := by rw [Nat.mul_comm]; exact (Nat.div_add_mod q z.length).symm
  have a4 := zget _ _ a1 a2
  rw [← a3] at a4
  have a5 : q % z.length < zv.cells.size := by rw [ez]; exact a2
  rw [Array.getElem?_eq_getElem (by rw [zsz]; exact hq2), Array.getElem?_eq_getElem a5] at a4
  injection a4 with a4
  have a6 := hzr _ _ _ (Array.getElem?_eq_getElem a5) (List.getElem?_eq_getElem a2)
  have a7 := a6.oneCell' (hzo _ _ (List.getElem?_eq_getElem a2))
  rw [← a4] at a7
  simpa using a7
 have hst := run_storeCells_at P k.b (off * k.es) ty (Builtin.zeroCells zv.cells len).toList 0 arr w hm (by rw [eke]; simp [zsz]; exact hf2) one
 simp only [Nat.add_zero] at hst
 refine ⟨w.setRow k.b (arr.toList.take (off * k.es) ++ (Builtin.zeroCells zv.cells len).toList ++ arr.toList.drop (off * k.es + (Builtin.zeroCells zv.cells len).toList.length)).toArray, fun ty' => ?_, ?_⟩
 ·have hzrun : (zeroValue e).run P w = .ok zv w := by simp [zeroValue, typeInfo, hi, hzv]
  have h1 : (Builtin.clear_ #[t] ty' #[.slice (some ⟨k.b, off * k.es, none⟩) len cap]).run P w = ((storeCells ⟨k.b, off * k.es, none⟩ (Builtin.zeroCells zv.cells len).toList).run P w).andThen fun _ w' => .ok (.tuple #[]) w' := by
   cases len with
   | zero => exact (h0 rfl).elim
   | succ len => simp [Builtin.clear_, run_underlying hu, hzrun, Result.andThen, Sem.run_pure]
  rw [h1, hst]
  rfl
 ·have lz : ∀ (i : Nat) (r : List V), (List.replicate len z)[i]? = some r → i < len ∧ r = z := by
   intro i r h
   rw [List.getElem?_replicate] at h
   split at h
   ·rename_i hlt; injection h with h; exact ⟨hlt, h.symm⟩
   ·simp at h
  have cell : ∀ (i : Nat) (r : List V), (ob.cells.take off ++ List.replicate len z ++ ob.cells.drop (off + len))[i]? = some r → (i < off ∧ ob.cells[i]? = some r) ∨ (off ≤ i ∧ i < off + len ∧ r = z) ∨ (off + len ≤ i ∧ ob.cells[i]? = some r) := by
   intro i r h
   have l1 : (ob.cells.take off).length = off := by simp; omega
   rw [List.append_assoc] at h
   by_cases hi : i < off
   ·rw [List.getElem?_append_left (by omega), List.getElem?_take_of_lt hi] at h
    exact .inl ⟨hi, h⟩
   ·rw [List.getElem?_append_right (by omega), l1] at h
    by_cases hi2 : i < off + len
    ·rw [List.getElem?_append_left (by simp; omega)] at h
     exact .inr (.inl ⟨by omega, hi2, (lz _ _ h).2⟩)
    ·rw [List.getElem?_append_right (by simp; omega), List.getElem?_drop] at h
     refine .inr (.inr ⟨by omega, ?_⟩)
     rw [← h]; congr 1; simp; omega
  refine hI.write hl hown hk hm (by rw [← hs]; simp [zsz, eke]; omega) _ (fun i r h => ?_) (by rw [hes]; simp; have : off + (len + (ob.cells.length - (off + len))) = ob.cells.length := by omega
                                                                                               rw [Nat.min_eq_left (by omega), this]; exact hsize) (fun i r j y h hj => ?_) (fun i r j y h hj => ?_)
  ·rcases cell i r h with ⟨_, h1⟩ | ⟨_, _, rfl⟩ | ⟨_, h1⟩
   ·exact R.len i r h1
   ·exact hes.symm
   ·exact R.len i r h1
  ·rcases cell i r h with ⟨_, h1⟩ | ⟨_, _, rfl⟩ | ⟨_, h1⟩
   ·exact R.one i r j y h1 hj
   ·exact hzo j y hj
   ·exact R.one i r j y h1 hj
  ·have jlt : j < z.length := by
    rcases cell i r h with ⟨_, h1⟩ | ⟨_, _, rfl⟩ | ⟨_, h1⟩
    ·have := R.len i r h1; have := (List.getElem?_eq_some_iff.1 hj).1; omega
    ·exact (List.getElem?_eq_some_iff.1 hj).1
    ·have := R.len i r h1; have := (List.getElem?_eq_some_iff.1 hj).1; omega
   have t1 : (arr.toList.take (off * k.es)).length = off * z.length := by rw [eke]; simp; omega
   have t2 : (Builtin.zeroCells zv.cells len).toList.length = len * z.length := by simp [zsz]
   have place : ∀ p, (arr.toList.take (off * k.es) ++ (Builtin.zeroCells zv.cells len).toList ++ arr.toList.drop (off * k.es + (Builtin.zeroCells zv.cells len).toList.length)).toArray[p]? = if p < off * z.length then arr[p]? else if p < off * z.length + len * z.length then (Builtin.zeroCells zv.cells len)[p - off * z.length]? else arr[p]? := by
    intro p
    rw [List.getElem?_toArray, List.append_assoc]
    by_cases h1 : p < off * z.length
    ·rw [if_pos h1, List.getElem?_append_left (by omega), List.getElem?_take_of_lt (by rw [eke]; exact h1), Array.getElem?_toList]
    ·rw [if_neg h1, List.getElem?_append_right (by omega), t1]
     by_cases h2 : p < off * z.length + len * z.length
     ·rw [if_pos h2, List.getElem?_append_left (by omega), Array.getElem?_toList]
     ·rw [if_neg h2, List.getElem?_append_right (by omega), t2, List.getElem?_drop, Array.getElem?_toList, eke]
      congr 1; omega
   rw [hes]
   have mulmono : ∀ {p q : Nat}, p < q → p * z.length + z.length ≤ q * z.length := fun {p q} h => by
    have := Nat.mul_le_mul_right z.length (show p + 1 ≤ q by omega)
    rw [Nat.add_mul, Nat.one_mul] at this; exact this
   have mulle : ∀ {p q : Nat}, p ≤ q → p * z.length ≤ q * z.length := fun h => Nat.mul_le_mul_right _ h
   rw [place]
   rcases cell i r h with ⟨hi, h1⟩ | ⟨hi, hi2, rfl⟩ | ⟨hi, h1⟩
   ·have := mulmono hi
    rw [if_pos (by omega)]
    have := hrel i r j y h1 hj
    rwa [hes] at this
   ·have m1 := mulle hi
    have m2 := mulmono hi2
    rw [Nat.add_mul] at m2
    rw [if_neg (by omega), if_pos (by omega)]
    have e : i * r.length + j - off * r.length = (i - off) * r.length + j := by rw [Nat.sub_mul]; omega
    rw [e, zget _ _ (by omega) jlt]
    have a5 : j < zv.cells.size := by rw [ez]; exact jlt
    exact ⟨zv.cells[j], Array.getElem?_eq_getElem a5, hzr _ _ _ (Array.getElem?_eq_getElem a5) hj⟩
   ·have m1 := mulle hi
    rw [Nat.add_mul] at m1
    rw [if_neg (by omega), if_neg (by omega)]
    have := hrel i r j y h1 hj
    rwa [hes] at this
theorem op_sound {o : Oper} {m : MOp} (hc : cOp P o.op = some m) (he : evOp S σ m = some (v, σ')) (hS : SRel I β S a) (hI : Inv w0 base I0 I β σ w) :
 Good w0 base I0 I β v σ' ((execOp a.eval o).run P w) := by
 cases ho : o.op with
 | move x =>
   rw [ho] at hc
   obtain ⟨y, hy, rfl⟩ := opt_map_some hc
   obtain ⟨u, hu, h2⟩ := opt_map_some he
   injection h2 with h2 h3; subst h2; subst h3
   exact Good.pure (by simp [execOp, ho]) (ev_sound hy hS hu) hI
 | assign x =>
   rw [ho] at hc
   obtain ⟨y, hy, rfl⟩ := opt_map_some hc
   obtain ⟨u, hu, h2⟩ := opt_map_some he
   injection h2 with h2 h3; subst h2; subst h3
   exact Good.pure (by simp [execOp, ho]) (ev_sound hy hS hu) hI
 | pick c x y =>
   rw [ho] at hc
   simp only [cOp] at hc
   split at hc
   ·rename_i c' x' y' h1 h2 h3
    injection hc with hc; subst hc
    simp only [evOp] at he
    split at he
    ·rename_i t ht
     obtain ⟨u, hu, h4⟩ := opt_map_some he
     injection h4 with h4 h5; subst h4; subst h5
     have := (ev_sound h1 hS ht).inv_bool
     cases t
     ·exact Good.pure (rv := a.eval y) (by simp [execOp, ho, this, asBool]) (ev_sound h3 hS (by simpa using hu)) hI
     ·exact Good.pure (rv := a.eval x) (by simp [execOp, ho, this, asBool]) (ev_sound h2 hS (by simpa using hu)) hI
    ·simp at he
   ·simp at hc
 | alloc t =>
   rw [ho] at hc
   obtain ⟨z, hz, rfl⟩ := opt_map_some hc
   simp only [evOp] at he
   injection he with he; injection he with h1 h2; subst h1; subst h2
   obtain ⟨i, zv, hi, hzv, hrz, hzs, his, hzo, hzr⟩ := zero_sound (w := w) hz I β
   have := good_newVar (P := P) hI t (c := zv) z hzs hzo hzr
   simpa [execOp, ho, Instr.alloc, hrz] using this
 | box t x =>
   rw [ho] at hc
   obtain ⟨y, hy, rfl⟩ := opt_map_some hc
   simp only [evOp] at he
   split at he
   ·simp at he
   ·rename_i u ht hu
    injection he with he; injection he with h1 h2; subst h1; subst h2
    obtain ⟨h3, h4, h5⟩ := (ev_sound hy hS hu).cells (fun l e => ht l e)
    have := good_newVar (P := P) hI t (c := a.eval x) u.cells h3 h4 h5
    simpa [execOp, ho, Instr.box] using this
   ·simp at he
 | build t parts =>
   rw [ho] at hc
   simp only [cOp] at hc
   split at hc
   ·rename_i z hz
    obtain ⟨i, zv, hi, hzv, hrz, hzs, his, hzo, hzr⟩ := zero_sound (w := w) hz I β
    split at hc
    ·rename_i fs hu
     split at hc
     case isFalse => simp at hc
     rename_i hpls
     obtain ⟨pl, hpl⟩ := Option.isSome_iff_exists.1 hpls
     obtain ⟨ps, hps, rfl⟩ := opt_map_some hc
     obtain ⟨l, hl, h2⟩ := opt_map_some he
     injection h2 with h2 h3; subst h2; subst h3
     obtain ⟨g1, g2⟩ := cParts_sound hps
     have hrun := run_places (P := P) w _ _ hpl
     obtain ⟨cells', h4, h5⟩ := fillV_sound hS (pl.toArray[·]?) parts.toList ps zv.cells z l ⟨hzs, hzo, hzr⟩ hl (fun k i x hk => by
      obtain ⟨f, n, y, hf, hq, hn, hy⟩ := g2 k i x hk
      refine ⟨f.offset, n, y, hq, ?_, hy⟩
      have := mapM_get _ _ _ hpl i f hf
      obtain ⟨u, hu1, hu2⟩ := this
      unfold cSize at hn
      cases hi2 : P.info? f.type with
      | none => simp [hi2] at hn
      | some inf =>
        simp [hi2] at hn hu1
        rw [← hu1, hn] at hu2
        simpa using hu2) g1
     refine good_of_value (s := Instr.build t (parts.map fun (i, x) => (i, a.eval x))) (rv := .agg cells') (w' := w) (I' := I) (β' := β) ?_ (.agg h5.1 h5.2.1 h5.2.2) hI (Ext.refl _ _) |> fun h => by simpa [execOp, ho] using h
     have hpl2 : (Array.mapM (fun f => Prod.mk f.offset <$> sizeOf f.type) fs).run P w = .ok pl.toArray w := by
      have e : fs = fs.toList.toArray := by simp
      rw [e, List.mapM_toArray]
      simp [hrun]
     simp [Instr.build, hrz, run_underlying hu, hpl2, Result.andThen]
     simp at h4
     rw [h4]
     rfl
    ·rename_i n e hu
     split at hc
     ·rename_i es hes
      obtain ⟨ps, hps, rfl⟩ := opt_map_some hc
      obtain ⟨l, hl, h2⟩ := opt_map_some he
      injection h2 with h2 h3; subst h2; subst h3
      obtain ⟨g1, g2⟩ := cPartsA_sound hps
      obtain ⟨cells', h4, h5⟩ := fillV_sound hS (fun i => some (i * es, es)) parts.toList ps zv.cells z l ⟨hzs, hzo, hzr⟩ hl (fun k i x hk => by
       obtain ⟨y, hq, hy⟩ := g2 k i x hk
       exact ⟨i * es, es, y, hq, rfl, hy⟩) g1
      refine good_of_value (rv := .agg cells') (w' := w) (I' := I) (β' := β) ?_ (.agg h5.1 h5.2.1 h5.2.2) hI (Ext.refl _ _) |> fun h => by simpa [execOp, ho] using h
      simp [Instr.build, hrz, run_underlying hu, cSize_run hes]
      simp at h4
      rw [h4]
      rfl
     ·simp at hc
    ·simp at hc
   ·simp at hc
 | buildSlice t len parts =>
   rw [ho] at hc
   simp only [cOp] at hc
   split at hc
   ·rename_i e hu
    split at hc
    ·rename_i z hz
     split at hc
     ·simp at hc
     ·rename_i hcond
      obtain ⟨ps, hps, rfl⟩ := opt_map_some hc
      simp only [evOp] at he
      obtain ⟨l, hl, h2⟩ := opt_map_some he
      injection h2 with h2 h3; subst h2; subst h3
      obtain ⟨i, zv, hi, hzv, hrz, hzs, his, hzo, hzr⟩ := zero_sound (w := w) hz I β
      have hne : z.length ≠ 0 := fun e => hcond (.inl e)
      have hbig : ¬ (len * z.length > 2 ^ 24) := fun e => hcond (.inr e)
      obtain ⟨g1, g2⟩ := cPartsS_sound hps
      have hl0 : ∀ (i : Nat) (r : List V), (List.replicate len z)[i]? = some r → r.length = z.length := fun i r h => by simp [List.getElem?_replicate] at h; rw [h.2]
      obtain ⟨f1, f2⟩ := flatten_get hne hl0
      have hinit : CellsRel I β ((Array.range (len * z.length)).map (fun k => zv.cells[k % zv.cells.size]!)) (List.replicate len z).flatten := by
       have split : ∀ (j : Nat) (y : V), (List.replicate len z).flatten[j]? = some y → ∃ q r, q < len ∧ r < z.length ∧ j = q * z.length + r ∧ z[r]? = some y := by
        intro j y hj
        have hlt : j < len * z.length := by have := (List.getElem?_eq_some_iff.1 hj).1; rw [f1] at this; simpa using this
        have hq : j / z.length < len := Nat.div_lt_of_lt_mul (by rw [Nat.mul_comm]; exact hlt)
        have hr : j % z.length < z.length := Nat.mod_lt _ (by omega)
        have hm : j = j / z.length * z.length + j % z.length := by rw [Nat.mul_comm]; exact (Nat.div_add_mod j z.length).symm
        refine ⟨_, _, hq, hr, hm, ?_⟩
        have := f2 (j / z.length) z (j % z.length) (z[j % z.length]'hr) (by simp [List.getElem?_replicate, hq]) (List.getElem?_eq_getElem hr)
        rw [← hm, hj] at this
        rw [this]; exact List.getElem?_eq_getElem hr
       refine ⟨by simp [f1], fun j y hj => ?_, fun j c y hc hj => ?_⟩
       ·obtain ⟨q, r, _, _, _, h⟩ := split j y hj
        exact hzo r y h
       ·obtain ⟨q, r, hq, hr, rfl, h⟩ := split j y hj
        rw [zero_cells_get zv.cells len z.length hzs hne q r hq hr] at hc
        exact hzr r c y hc h
      obtain ⟨cells', h3, h4, h5, h6⟩ := fillS_sound hne hS parts.toList ps _ _ l hl0 hinit hl g2 g1
      obtain ⟨p1, p2⟩ := flatten_get hne h5
      obtain ⟨q1, q2⟩ := hI.alloc cells' e z.length l h5 (by rw [h4.1, p1]; exact Nat.le_refl _)
       (fun i r j y hi hj => h4.2.1 _ y (p2 i r j y hi hj))
       (fun i r j y hi hj => by
         have := p2 i r j y hi hj
         have hlt : i * z.length + j < cells'.size := by rw [h4.1]; exact (List.getElem?_eq_some_iff.1 this).1
         exact ⟨cells'[i * z.length + j], Array.getElem?_eq_getElem hlt, h4.2.2 _ _ y (Array.getElem?_eq_getElem hlt) this⟩)
      have hlen : l.length = len := by rw [h6]; simp
      have hrun : (Instr.buildSlice t len (parts.map fun (i, x) => (i, a.eval x))).run P w = .ok (.slice (some ⟨w.heap.size, 0, none⟩) len len) (w.alloc (.cells cells' e)) := by
       simp at h3
       have hzrun : ∀ w', (zeroValue e).run P w' = .ok zv w' := fun w' => by simp [zeroValue, typeInfo, hi, hzv]
       simp [Instr.buildSlice, run_underlying hu, sizeOf, typeInfo, hi, his]
       rw [if_neg (by omega)]
       by_cases h0 : len = 0
       ·subst h0
        have e0 : (Array.range (0 * z.length)).map (fun _ => (default : Value)) = (Array.range (0 * z.length)).map (fun k => zv.cells[k % zv.cells.size]!) :=
         (Array.eq_empty_of_size_eq_zero (by simp)).trans (Array.eq_empty_of_size_eq_zero (by simp)).symm
        rw [if_pos (by simp), e0, h3]
        simp [run_newRow]
       ·rw [if_neg (Nat.mul_ne_zero h0 hne), hzrun]
        simp only [Result.andThen]
        rw [h3]
        simp [run_newRow]
      refine (good_of_value hrun ?_ q1 q2) |> fun h => by simpa [execOp, ho] using h
      have := Rel.ref (I := I) (β := Beta.put β (fresh σ) ⟨w.heap.size, z.length, cells'.size⟩) (o := fresh σ) (b := w.heap.size) (es := z.length) (n := cells'.size) (off := 0) (len := len) (cap := len) (by simp [Beta.put]) (Nat.le_refl _) (by rw [h4.1, p1, hlen]; simp)
      simpa using this
    ·simp at hc
   ·simp at hc
 | load t x =>
   rw [ho] at hc
   simp only [cOp] at hc
   cases hk : cKind P t with
   | none => simp [hk] at hc
   | some k =>
   cases hy : cOpd x with
   | none => simp [hk, hy] at hc
   | some y =>
   simp only [hk, hy] at hc
   injection hc with hc; subst hc
   simp only [evOp] at he
   cases hu : ev S y with
   | none => simp [hu] at he
   | some u =>
     have hr := ev_sound hy hS hu
     simp only [hu] at he
     obtain ⟨rv, h1, h2, rfl⟩ := run_load (w := w) hk hr hI he
     exact (good_of_value h1 h2 hI (Ext.refl _ _)) |> fun h => by simpa [execOp, ho] using h
 | store t x y =>
   rw [ho] at hc
   simp only [cOp] at hc
   split at hc
   ·rename_i n x' y' hn hx hy
    injection hc with hc; subst hc
    simp only [evOp] at he
    split at he
    ·rename_i o' i j u hu1 hu2
     split at he
     ·simp at he
     ·rename_i ob ht hob
      split at he
      ·rename_i r hr
       split at he
       ·rename_i hcond
        injection he with he; injection he with h1 h2; subst h1; subst h2
        obtain ⟨w', h3, h4⟩ := run_store (w := w) hn (ev_sound hx hS hu1) (ev_sound hy hS hu2) (fun l e => ht l e) hI hob hr hcond.1 hcond.2.1 hcond.2.2
        exact ⟨.skip, w', I, β, undef, by simp [execOp, ho, h3], .inr ⟨rfl, rfl⟩, .tup (cs := #[]) rfl (fun i c y hc _ => by simp at hc), h4, Ext.refl _ _⟩
       ·simp at he
      ·simp at he
     ·simp at he
    ·simp at he
   ·simp at hc
 | binOp op t x y ty =>
   rw [ho] at hc
   simp only [cOp] at hc
   cases hx : cOpd x with
   | none => simp [hx] at hc
   | some x' =>
   cases hy : cOpd y with
   | none => simp [hx, hy] at hc
   | some y' =>
   simp only [hx, hy] at hc
   split at hc
   ·rename_i kk hu
    injection hc with hc; subst hc
    simp only [evOp] at he
    split at he
    case h_2 => simp at he
    rename_i u1 u2 hu1 hu2
    obtain ⟨u, hu3, h2⟩ := opt_map_some he
    injection h2 with h2 h3; subst h2; subst h3
    obtain ⟨rv, h4, h5⟩ := run_bin (P := P) (w := w) (t := t) hu3 (ev_sound hx hS hu1) (ev_sound hy hS hu2) x y
    exact (good_of_value h4 h5 hI (Ext.refl _ _)) |> fun h => by simpa [execOp, ho] using h
   ·rename_i hu
    injection hc with hc; subst hc
    simp only [evOp] at he
    split at he
    case h_2 => simp at he
    rename_i u1 u2 hu1 hu2
    obtain ⟨u, hu3, h2⟩ := opt_map_some he
    injection h2 with h2 h3; subst h2; subst h3
    obtain ⟨rv, h4, h5⟩ := run_binB (P := P) (w := w) (t := t) hu3 (ev_sound hx hS hu1) (ev_sound hy hS hu2) x y hu
    exact (good_of_value h4 h5 hI (Ext.refl _ _)) |> fun h => by simpa [execOp, ho] using h
   ·rename_i e hu
    injection hc with hc; subst hc
    simp only [evOp] at he
    split at he
    case h_2 => simp at he
    rename_i u1 u2 hu1 hu2
    obtain ⟨u, hu3, h2⟩ := opt_map_some he
    injection h2 with h2 h3; subst h2; subst h3
    obtain ⟨rv, h4, h5⟩ := run_binS (P := P) (w := w) (t := t) hu3 (ev_sound hx hS hu1) (ev_sound hy hS hu2) x y hu
    exact (good_of_value h4 h5 hI (Ext.refl _ _)) |> fun h => by simpa [execOp, ho] using h
   ·rename_i hu
    injection hc with hc; subst hc
    simp only [evOp] at he
    split at he
    case h_2 => simp at he
    rename_i u1 u2 hu1 hu2
    obtain ⟨u, hu3, h2⟩ := opt_map_some he
    injection h2 with h2 h3; subst h2; subst h3
    obtain ⟨rv, h4, h5⟩ := run_binT (P := P) (w := w) (t := t) hu3 (ev_sound hx hS hu1) (ev_sound hy hS hu2) x y
    exact (good_of_value h4 h5 hI (Ext.refl _ _)) |> fun h => by simpa [execOp, ho] using h
   ·rename_i d1 d2 d3 hu
    injection hc with hc; subst hc
    simp only [evOp] at he
    split at he
    case h_2 => simp at he
    rename_i u1 u2 hu1 hu2
    obtain ⟨u, hu3, h2⟩ := opt_map_some he
    injection h2 with h2 h3; subst h2; subst h3
    obtain ⟨rv, h4, h5⟩ := run_binF (P := P) (w := w) (t := t) hu3 (ev_sound hx hS hu1) (ev_sound hy hS hu2) x y hu
    exact (good_of_value h4 h5 hI (Ext.refl _ _)) |> fun h => by simpa [execOp, ho] using h
   ·simp at hc
 | unOp op t x =>
   rw [ho] at hc
   obtain ⟨y, hy, rfl⟩ := opt_map_some hc
   simp only [evOp] at he
   split at he
   ·rename_i u hu
    obtain ⟨u2, hu2, h2⟩ := opt_map_some he
    injection h2 with h2 h3; subst h2; subst h3
    obtain ⟨rv, h4, h5⟩ := run_un (P := P) (w := w) hu2 (ev_sound hy hS hu)
    exact (good_of_value h4 h5 hI (Ext.refl _ _)) |> fun h => by simpa [execOp, ho] using h
   ·simp at he
 | convert src dst x =>
   rw [ho] at hc
   simp only [cOp] at hc
   split at hc
   ·rename_i d k hs hd
    obtain ⟨y, hy, rfl⟩ := opt_map_some hc
    simp only [evOp] at he
    split at he
    ·rename_i k' n hn
     injection he with he; injection he with h1 h2; subst h1; subst h2
     have := (ev_sound hy hS hn).inv_int
     refine (good_of_value (s := convert src dst (a.eval x)) (rv := .int k (k.wrap n)) ?_ .int hI (Ext.refl _ _)) |> fun h => by simpa [execOp, ho] using h
     rw [this]
     simp [convert, run_underlying hs, run_underlying hd, Conv.intToInt]
    ·simp at he
   ·rename_i e hs hd
    split at hc
    ·rename_i hb
     obtain ⟨y, hy, rfl⟩ := opt_map_some hc
     simp only [evOp] at he
     split at he
     ·rename_i u hu
      split at he
      ·rename_i rows hrows
       obtain ⟨bs, hbs, h2⟩ := opt_map_some he
       injection h2 with h2 h3; subst h2; subst h3
       obtain ⟨ad, cap, hcx, _, _, cs, hrun, hsz, hget⟩ := elems_sound (es := 1) (by omega) hrows (ev_sound hy hS hu) hI
       have hr := hrun w (fun _ _ => rfl)
       have hcs := bytes_cells hbs (by simpa using hsz) (fun i r j y hi hj => hget i r j y hi hj)
       refine (good_of_value (s := convert src dst (a.eval x)) (rv := .string (strOf bs)) ?_ .str hI (Ext.refl _ _)) |> fun h => by simpa [execOp, ho] using h
       rw [hcx, run_convert_bytes_string w src dst e _ _ _ hs hb hd]
       rw [hcx] at hr
       cases ad with
       | none =>
         simp [Builtin.firstCells] at hr
         first | rw [← hr] at hcs | rw [hr] at hcs | subst hr
         have : bs = [] := by
          cases bs with
          | nil => rfl
          | cons x l => simp at hcs
         subst this
         simp [Conv.bytesToString, strOf]
       | some ad =>
         simp only [Builtin.firstCells, Nat.mul_one] at hr
         rw [run_bytesToString w ad _ cap bs (by rw [hr, hcs])]
         rfl
      ·simp at he
     ·simp at he
    ·simp at hc
   ·simp at hc
 | makeSlice t l c =>
   rw [ho] at hc
   simp only [cOp] at hc
   split at hc
   ·rename_i e hu
    split at hc
    ·rename_i z i l' c' hz hi hl hcc
     split at hc
     ·simp at hc
     ·rename_i hne
      injection hc with hc; subst hc
      simp only [evOp] at he
      split at he
      ·rename_i k1 ln k2 cn h1 h2
       split at he
       ·rename_i hcond
        injection he with he; injection he with h3 h4; subst h3; subst h4
        have e1 := (ev_sound hl hS h1).inv_int
        have e2 := (ev_sound hcc hS h2).inv_int
        have := good_make (P := P) hI hu hz hi rfl hne (kl := k1) (kc := k2) hcond.1 hcond.2.1 hcond.2.2.1 hcond.2.2.2
        simpa [execOp, ho, e1, e2] using this
       ·simp at he
      ·simp at he
    ·simp at hc
   ·simp at hc
 | slice t x lo hi mx =>
   rw [ho] at hc
   simp only [cOp] at hc
   split at hc
   ·rename_i e hu
    split at hc
    ·rename_i es x' lo' hi' mx' hes hx hlo hhi hmx
     injection hc with hc; subst hc
     cases mx with
     | none =>
       simp [cOpt] at hmx; subst hmx
       obtain ⟨rv, h1, h2, rfl⟩ := run_slc (w := w) hu hes hx hlo hhi hS hI he
       exact (good_of_value h1 h2 hI (Ext.refl _ _)) |> fun h => by simpa [execOp, ho] using h
     | some m0 =>
       simp only [cOpt] at hmx
       obtain ⟨m1, hm1, rfl⟩ := opt_map_some hmx
       simp only [evOp] at he
       -- 's[:0:0]'
       have key : ∀ (ad : Option Addr) (len cap : Nat) (kh km : IntKind), a.eval x = .slice ad len cap → lo = none → (∃ h0, hi = some h0 ∧ a.eval h0 = .int kh 0) → a.eval m0 = .int km 0 →
        (Instr.sliceAt t (a.eval x) (lo.map a.eval) (hi.map a.eval) ((some m0).map a.eval)).run P w = .ok (.slice ad 0 0) w := by
        intro ad len cap kh km h1 h2 h3 h4
        obtain ⟨h0, rfl, h3⟩ := h3
        subst h2
        rw [h1]
        simp [Instr.sliceAt, run_underlying hu, Instr.slice, Instr.sliceBounds, h3, h4, Instr.sliceBound, asIntOf, cSize_run hes]
       have hiC : ∀ {kh : IntKind}, hi' = some (.c (.int kh 0)) → ∃ h0, hi = some h0 ∧ a.eval h0 = .int kh 0 := by
        intro kh e
        subst e
        cases hi with
        | none => simp [cOpt] at hhi
        | some h0 =>
          simp only [cOpt] at hhi
          obtain ⟨q, hq, hq2⟩ := opt_map_some hhi
          injection hq2 with hq2; subst hq2
          exact ⟨h0, rfl, (ev_sound (β := β) (I := I) hq hS (v := .int kh 0) rfl).inv_int⟩
       have loC : lo' = none → lo = none := by
        intro e; subst e
        cases lo with
        | none => rfl
        | some l0 =>
          simp only [cOpt] at hlo
          obtain ⟨q, _, hq2⟩ := opt_map_some hlo
          simp at hq2
       split at he
       ·rename_i l0 kh km hxv hmv
        injection he with he; injection he with h1 h2; subst h1; subst h2
        rcases (ev_sound hx hS hxv).inv_dat with ⟨_, ad, cap, hcx, _⟩ | ⟨b, off, cap, es', arr, _, _, _, hcx, _⟩
        ·exact (good_of_value (key _ _ _ kh km hcx (loC rfl) (hiC rfl) (ev_sound hm1 hS hmv).inv_int) (Rel.mk_dat0 (by simp)) hI (Ext.refl _ _)) |> fun h => by simpa [execOp, ho] using h
        ·exact (good_of_value (key _ _ _ kh km hcx (loC rfl) (hiC rfl) (ev_sound hm1 hS hmv).inv_int) (Rel.mk_dat0 (by simp)) hI (Ext.refl _ _)) |> fun h => by simpa [execOp, ho] using h
       ·rename_i kh km hxv hmv
        injection he with he; injection he with h1 h2; subst h1; subst h2
        obtain ⟨ad, cap, hcx⟩ := (ev_sound hx hS hxv).inv_emp
        exact (good_of_value (key _ _ _ kh km hcx (loC rfl) (hiC rfl) (ev_sound hm1 hS hmv).inv_int) .emp hI (Ext.refl _ _)) |> fun h => by simpa [execOp, ho] using h
       ·rename_i kh km hxv hmv
        injection he with he; injection he with h1 h2; subst h1; subst h2
        exact (good_of_value (key _ _ _ kh km (ev_sound hx hS hxv).inv_nils (loC rfl) (hiC rfl) (ev_sound hm1 hS hmv).inv_int) .nils hI (Ext.refl _ _)) |> fun h => by simpa [execOp, ho] using h
       ·simp at he
    ·simp at hc
   ·rename_i hu
    split at hc
    ·rename_i x' lo' hi' hx hlo hhi
     injection hc with hc; subst hc
     simp only [evOp] at he
     split at he
     ·rename_i s hs
      have e1 := (ev_sound hx hS hs).inv_str
      split at he
      ·rename_i h hh
       obtain ⟨l, hl, h2⟩ := opt_map_some he
       injection h2 with h2 h3; subst h2; subst h3
       obtain ⟨hb, _, _⟩ := bounds_sound (P := P) (w := w) hlo hhi hS hh hl (Nat.le_refl _) false
       refine (good_of_value (s := Instr.sliceAt t (a.eval x) (lo.map a.eval) (hi.map a.eval) none) (rv := .string (s.extract l h)) ?_ .str hI (Ext.refl _ _)) |> fun h => by simpa [execOp, ho] using h
       rw [e1]
       simp [Instr.sliceAt, run_underlying hu, Instr.slice, hb]
      ·simp at he
     ·simp at he
    ·simp at hc
   ·split at hc
    ·injection hc with hc; subst hc
     simp [evOp] at he
    ·simp at hc
   ·simp at hc
 | fieldAddr s x f =>
   rw [ho] at hc
   simp only [cOp] at hc
   split at hc
   ·rename_i fs hu
    split at hc
    ·rename_i fd hf
     split at hc
     ·rename_i n y hn hy
      split at hc
      ·simp at hc
      ·rename_i hn0
       injection hc with hc; subst hc
       simp only [evOp] at he
       split at he
       ·rename_i o' i j hv
        injection he with he; injection he with h1 h2; subst h1; subst h2
        obtain ⟨k, hk, e1⟩ := (ev_sound hy hS hv).inv_ptr
        refine (good_of_value (s := Instr.fieldAt s (a.eval x) f) (by rw [e1]; exact run_fieldAt hu hf hn hn0 _ _) ?_ hI (Ext.refl _ _)) |> fun h => by simpa [execOp, ho] using h
        rw [Nat.add_assoc]; exact .ptr hk
       ·rename_i l hv
        injection he with he; injection he with h1 h2; subst h1; subst h2
        obtain ⟨b, off, arr, hb, e1, h3, h4⟩ := (ev_sound hy hS hv).inv_elt
        exact (good_of_value (s := Instr.fieldAt s (a.eval x) f) (by rw [e1]; exact run_fieldAt hu hf hn hn0 _ _) (Rel.elt_drop hb h3 h4 _) hI (Ext.refl _ _)) |> fun h => by simpa [execOp, ho] using h
       ·simp at he
     ·simp at hc
    ·simp at hc
   ·simp at hc
 | field s x f =>
   rw [ho] at hc
   simp only [cOp] at hc
   split at hc
   ·rename_i fs hu
    split at hc
    ·rename_i fd hf
     cases hk : cKind P fd.type with
     | none => simp [hk] at hc
     | some k =>
     cases hy : cOpd x with
     | none => simp [hk, hy] at hc
     | some y =>
     simp only [hk, hy] at hc
     injection hc with hc; subst hc
     simp only [evOp] at he
     split at he
     ·rename_i l hv
      obtain ⟨u, hu2, h2⟩ := opt_map_some he
      injection h2 with h2 h3; subst h2; subst h3
      obtain ⟨cs, e1, h3, h4, h5⟩ := (ev_sound hy hS hv).inv_agg
      obtain ⟨rv, h6, h7⟩ := run_part (P := P) hk hu2 h3 h4 h5 w
      refine (good_of_value (s := Instr.field s (a.eval x) f) (rv := rv) ?_ h7 hI (Ext.refl _ _)) |> fun h => by simpa [execOp, ho] using h
      rw [e1]
      simp [Instr.field, run_underlying hu, hf, asAgg, h6]
     ·simp at he
    ·simp at hc
   ·simp at hc
 | indexAddr t x i =>
   rw [ho] at hc
   simp only [cOp] at hc
   split at hc
   ·rename_i e hu
    split at hc
    ·rename_i es x' i' hes hx hi
     injection hc with hc; subst hc
     simp only [evOp] at he
     split at he
     ·rename_i l k n h1 h2
      split at he
      ·rename_i h0
       split at he
       ·rename_i r hr
        split at he
        ·rename_i hrl
         injection he with he; injection he with h3 h4; subst h3; subst h4
         have e2 := (ev_sound hi hS h2).inv_int
         have hlt : n.toNat < l.length := (List.getElem?_eq_some_iff.1 hr).1
         rcases (ev_sound hx hS h1).inv_dat with ⟨rfl, _⟩ | ⟨b, off, cap, es', arr, hb, hlen, hcap, e1, hone, hrel⟩
         ·simp at hlt
         ·have hes' : es' = es := by rw [← hlen _ r hr]; exact hrl
          subst hes'
          refine (good_of_value (s := Instr.indexAt t (a.eval x) (a.eval i)) (by rw [e1, e2]; exact run_indexAt_sl hu hes _ _ _ _ k n h0 (by omega)) ?_ hI (Ext.refl _ _)) |> fun h => by simpa [execOp, ho] using h
          exact Rel.mk_elt hb (fun j y hy => hone _ r j y hr hy) (fun j y hy => hrel _ r j y hr hy)
        ·simp at he
       ·simp at he
      ·simp at he
     ·rename_i o' off len k n h1 h2
      split at he
      ·rename_i h0
       split at he
       ·rename_i ob hob
        split at he
        ·rename_i hes'
         injection he with he; injection he with h3 h4; subst h3; subst h4
         have e2 := (ev_sound hi hS h2).inv_int
         rcases (ev_sound hx hS h1).inv_ref with ⟨rfl, _⟩ | ⟨kb, cap, hk, hcap, hfit, e1⟩
         ·omega
         ·obtain ⟨k2, hk2, hkes, _, _⟩ := hI.ob o' ob hob
          rw [hk] at hk2; injection hk2 with hk2; subst hk2
          refine (good_of_value (s := Instr.indexAt t (a.eval x) (a.eval i)) (by rw [e1, e2]; exact run_indexAt_sl hu hes _ _ _ _ k n h0.1 h0.2) ?_ hI (Ext.refl _ _)) |> fun h => by simpa [execOp, ho] using h
          have e3 : off * kb.es + n.toNat * es = (off + n.toNat) * kb.es + 0 := by rw [Nat.add_mul, hkes, hes']; rfl
          rw [e3]
          exact .ptr hk
        ·simp at he
       ·simp at he
      ·simp at he
     ·simp at he
    ·simp at hc
   ·rename_i m e hu
    split at hc
    ·rename_i es x' i' hes hx hi
     injection hc with hc; subst hc
     simp only [evOp] at he
     split at he
     ·rename_i o' i0 j k n h1 h2
      split at he
      ·rename_i h0
       injection he with he; injection he with h3 h4; subst h3; subst h4
       have e2 := (ev_sound hi hS h2).inv_int
       obtain ⟨kb, hk, e1⟩ := (ev_sound hx hS h1).inv_ptr
       refine (good_of_value (s := Instr.indexAt t (a.eval x) (a.eval i)) (by rw [e1, e2]; exact run_indexAt_arr hu hes _ _ k n h0.1 h0.2) ?_ hI (Ext.refl _ _)) |> fun h => by simpa [execOp, ho] using h
       rw [Nat.add_assoc]; exact .ptr hk
      ·simp at he
     ·rename_i l k n h1 h2
      split at he
      ·rename_i h0
       injection he with he; injection he with h3 h4; subst h3; subst h4
       have e2 := (ev_sound hi hS h2).inv_int
       obtain ⟨b, off, arr, hb, e1, h3, h4⟩ := (ev_sound hx hS h1).inv_elt
       exact (good_of_value (s := Instr.indexAt t (a.eval x) (a.eval i)) (by rw [e1, e2]; exact run_indexAt_arr hu hes _ _ k n h0.1 h0.2) (Rel.elt_drop hb h3 h4 _) hI (Ext.refl _ _)) |> fun h => by simpa [execOp, ho] using h
      ·simp at he
     ·simp at he
    ·simp at hc
   ·simp at hc
 | index t x i =>
   rw [ho] at hc
   simp only [cOp] at hc
   split at hc
   ·rename_i m e hu
    split at hc
    ·rename_i es k x' i' hes hk hx hi
     injection hc with hc; subst hc
     simp only [evOp] at he
     split at he
     ·rename_i l kk q h1 h2
      split at he
      ·rename_i h0
       obtain ⟨u, hu2, h3⟩ := opt_map_some he
       injection h3 with h3 h4; subst h3; subst h4
       have e2 := (ev_sound hi hS h2).inv_int
       obtain ⟨cs, e1, h3, h4, h5⟩ := (ev_sound hx hS h1).inv_agg
       obtain ⟨rv, h6, h7⟩ := run_part (P := P) hk hu2 h3 h4 h5 w
       refine (good_of_value (s := Instr.index t (a.eval x) (a.eval i)) (rv := rv) ?_ h7 hI (Ext.refl _ _)) |> fun h => by simpa [execOp, ho] using h
       rw [e1, e2]
       simp [Instr.index, run_underlying hu, asIntOf, h0, cSize_run hes, h6]
      ·simp at he
     ·simp at he
    ·simp at hc
   ·rename_i hu
    cases hx : cOpd x with
    | none => simp [hx] at hc
    | some x' =>
    cases hi : cOpd i with
    | none => simp [hx, hi] at hc
    | some i' =>
    simp only [hx, hi] at hc
    injection hc with hc; subst hc
    simp only [evOp] at he
    split at he
    ·rename_i s kk q h1 h2
     split at he
     ·rename_i h0
      obtain ⟨b, hb, h3⟩ := opt_map_some he
      injection h3 with h3 h4; subst h3; subst h4
      have e2 := (ev_sound hi hS h2).inv_int
      have e1 := (ev_sound hx hS h1).inv_str
      refine (good_of_value (s := Instr.index t (a.eval x) (a.eval i)) (rv := .int .u8 b.toNat) ?_ .int hI (Ext.refl _ _)) |> fun h => by simpa [execOp, ho] using h
      rw [e1, e2]
      simp [Instr.index, run_underlying hu, asIntOf, h0, hb]
     ·simp at he
    ·simp at he
   ·simp at hc
 | extract x i =>
   rw [ho] at hc
   obtain ⟨y, hy, rfl⟩ := opt_map_some hc
   simp only [evOp] at he
   split at he
   ·rename_i l hl
    obtain ⟨u, hu, h2⟩ := opt_map_some he
    injection h2 with h2 h3; subst h2; subst h3
    obtain ⟨cs, e1, h3, h4⟩ := (ev_sound hy hS hl).inv_tup
    have hlt : i < cs.size := by rw [h3]; exact (List.getElem?_eq_some_iff.1 hu).1
    refine (good_of_value (s := Instr.extract (a.eval x) i) (rv := cs[i]) ?_ (h4 i _ _ (Array.getElem?_eq_getElem hlt) hu) hI (Ext.refl _ _)) |> fun h => by simpa [execOp, ho] using h
    rw [e1]
    simp [Instr.extract, hlt]
   ·simp at he
 | makeFunc fn first l =>
   rw [ho] at hc
   cases fn with
   | func f =>
     simp only [cOp] at hc
     split at hc
     ·rename_i h0
      obtain ⟨ys, hys, rfl⟩ := opt_map_some hc
      obtain ⟨vs, hvs, h2⟩ := opt_map_some he
      injection h2 with h2 h3; subst h2; subst h3
      obtain ⟨h3, h4⟩ := evs_sound hS hys hvs
      have hf0 : first = #[] := Array.eq_empty_of_size_eq_zero h0.1
      subst hf0
      refine (good_of_value (s := Instr.makeFunc (.func f) (#[].map a.eval) (l.map a.eval)) (rv := .func (.func f) #[] (l.map a.eval)) (w := w) (w' := w) (by simp [Instr.makeFunc]) (.clo h0.2 (by simpa using h3) (fun i c y hc hy => h4 i c y (by simpa using hc) hy)) hI (Ext.refl _ _)) |> fun h => by simpa [execOp, ho] using h
     ·split at hc
      ·rename_i h0
       obtain ⟨ys, hys, rfl⟩ := opt_map_some hc
       obtain ⟨vs, hvs, h2⟩ := opt_map_some he
       injection h2 with h2 h3; subst h2; subst h3
       obtain ⟨h3, h4⟩ := evs_sound hS hys hvs
       have hf0 : l = #[] := Array.eq_empty_of_size_eq_zero h0
       subst hf0
       refine (good_of_value (s := Instr.makeFunc (.func f) (first.map a.eval) (#[].map a.eval)) (rv := .func (.func f) (first.map a.eval) #[]) (w := w) (w' := w) (by simp [Instr.makeFunc]) (.bnd (by simpa using h3) (fun i c y hc hy => h4 i c y (by simpa using hc) hy)) hI (Ext.refl _ _)) |> fun h => by simpa [execOp, ho] using h
      ·simp at hc
   | _ => simp [cOp] at hc
 | makeInterface t x =>
   rw [ho] at hc
   simp only [cOp] at hc
   split at hc
   ·simp at hc
   ·rename_i d hni hu
    obtain ⟨y, hy, rfl⟩ := opt_map_some hc
    simp only [evOp] at he
    split at he
    ·simp at he
    ·rename_i u ht hu2
     injection he with he; injection he with h1 h2; subst h1; subst h2
     refine (good_of_value (s := Instr.makeInterface t (a.eval x)) (rv := .iface t (a.eval x)) (w := w) (w' := w) ?_ (.ifc (ev_sound hy hS hu2)) hI (Ext.refl _ _)) |> fun h => by simpa [execOp, ho] using h
     cases d <;> first | (exact (hni _ rfl).elim) | simp [Instr.makeInterface, run_underlying hu]
    ·simp at he
   ·simp at hc
 | call c =>
   rw [ho] at hc
   simp only [cOp] at hc
   split at hc
   ·-- len
    rename_i hcal
    split at hc
    ·rename_i x t hx ht
     split at hc
     ·rename_i e hu
      obtain ⟨y, hy, rfl⟩ := opt_map_some hc
      have hargs : c.args = #[x] := by rw [← Array.toList_inj]; simpa using hx
      have hty : c.argTypes = #[t] := by rw [← Array.toList_inj]; simpa using ht
      have key : ∀ (ad : Option Addr) (n cap : Nat), a.eval x = .slice ad n cap → (execOp a.eval o).run P w = .ok (.value (.int .i64 n)) w := by
       intro ad n cap h
       simp [execOp, ho, resolve, hcal, hargs, hty, h, invoke, builtin, Builtin.len_, run_underlying hu, goInt]
      simp only [evOp] at he
      split at he
      ·rename_i hv
       injection he with he; injection he with h1 h2; subst h1; subst h2
       exact Good.pure (key _ _ _ (ev_sound hy hS hv).inv_nils) .int hI
      ·rename_i hv
       injection he with he; injection he with h1 h2; subst h1; subst h2
       obtain ⟨ad, cap, e1⟩ := (ev_sound hy hS hv).inv_emp
       exact Good.pure (key _ _ _ e1) .int hI
      ·rename_i l hv
       injection he with he; injection he with h1 h2; subst h1; subst h2
       rcases (ev_sound hy hS hv).inv_dat with ⟨rfl, ad, cap, e1, _⟩ | ⟨b, off, cap, es', arr, _, _, _, e1, _⟩
       ·exact Good.pure (key _ _ _ e1) .int hI
       ·exact Good.pure (key _ _ _ e1) .int hI
      ·rename_i o' off len hv
       injection he with he; injection he with h1 h2; subst h1; subst h2
       rcases (ev_sound hy hS hv).inv_ref with ⟨rfl, _, ad, _, e1⟩ | ⟨kb, cap, _, _, _, e1⟩
       ·exact Good.pure (key _ _ _ e1) .int hI
       ·exact Good.pure (key _ _ _ e1) .int hI
      ·simp at he
     ·rename_i hu
      obtain ⟨y, hy, rfl⟩ := opt_map_some hc
      have hargs : c.args = #[x] := by rw [← Array.toList_inj]; simpa using hx
      have hty : c.argTypes = #[t] := by rw [← Array.toList_inj]; simpa using ht
      simp only [evOp] at he
      split at he
      ·rename_i s hv
       injection he with he; injection he with h1 h2; subst h1; subst h2
       exact Good.pure (rv := .int .i64 s.size) (by simp [execOp, ho, resolve, hcal, hargs, hty, (ev_sound hy hS hv).inv_str, invoke, builtin, Builtin.len_, run_underlying hu, goInt]) .int hI
      ·simp at he
     ·simp at hc
    ·simp at hc
   ·-- cap
    rename_i hcal
    split at hc
    ·rename_i x t hx ht
     split at hc
     ·rename_i e hu
      obtain ⟨y, hy, rfl⟩ := opt_map_some hc
      have hargs : c.args = #[x] := by rw [← Array.toList_inj]; simpa using hx
      have hty : c.argTypes = #[t] := by rw [← Array.toList_inj]; simpa using ht
      simp only [evOp] at he
      split at he
      ·rename_i hv
       injection he with he; injection he with h1 h2; subst h1; subst h2
       refine Good.pure (rv := .int .i64 0) ?_ .int hI
       simp [execOp, ho, resolve, hcal, hargs, hty, (ev_sound hy hS hv).inv_nils, invoke, builtin, Builtin.cap_, run_underlying hu, goInt]
      ·simp at he
     ·simp at hc
    ·simp at hc
   ·-- append
    rename_i hcal
    split at hc
    ·rename_i s x t u rest hx ht
     split at hc
     ·rename_i e e2 hu hu2
      split at hc
      ·rename_i z i s' x' hz hi hs hxx
       split at hc
       ·simp at hc
       ·rename_i hne
        injection hc with hc; subst hc
        have hargs : c.args = #[s, x] := by rw [← Array.toList_inj]; simpa using hx
        have hty : c.argTypes = ⟨t :: u :: rest⟩ := by rw [← Array.toList_inj]; simpa using ht
        simp only [evOp] at he
        split at he
        ·rename_i sv xv h1 h2
         split at he
         ·rename_i xs hxs
          obtain ⟨rv, w', β', h3, h4, h5, h6⟩ := good_append (P := P) hu ⟨_, hu2⟩ hz hi rfl rfl hne (ev_sound hs hS h1) (ev_sound hxx hS h2) hI hxs o.type he (rest := rest)
          refine ⟨_, w', I, β', rv, ?_, .inl rfl, h4, h5, h6⟩
          simp [execOp, ho, resolve, hcal, hargs, hty, invoke, builtin, h3]
         ·simp at he
        ·simp at he
      ·simp at hc
     ·rename_i e k hu hu2
      split at hc
      ·rename_i z i s' x' hz hi hs hxx
       split at hc
       ·simp at hc
       ·rename_i hne
        injection hc with hc; subst hc
        have hargs : c.args = #[s, x] := by rw [← Array.toList_inj]; simpa using hx
        have hty : c.argTypes = ⟨t :: u :: rest⟩ := by rw [← Array.toList_inj]; simpa using ht
        simp only [evOp] at he
        split at he
        ·rename_i kx n h1 h2
         split at he
         ·rename_i hcd
          injection he with he; injection he with e1 e2; subst e1; subst e2
          obtain ⟨rv, w', β', h3, h4, h5, h6⟩ := good_appendN (P := P) hu hu2 hz hi rfl rfl hne (kx := kx) hcd.1 hcd.2.1 hcd.2.2 o.type hI (rest := rest)
          refine ⟨_, w', I, β', rv, ?_, .inl rfl, h4, h5, h6⟩
          simp [execOp, ho, resolve, hcal, hargs, hty, invoke, builtin, (ev_sound hs hS h1).inv_nils, (ev_sound hxx hS h2).inv_int, h3]
         ·simp at he
        ·simp at he
      ·simp at hc
     ·simp at hc
    ·simp at hc
   ·-- min
    rename_i hcal
    split at hc
    ·rename_i x y hx
     split at hc
     ·rename_i x' y' h1 h2
      injection hc with hc; subst hc
      have hargs : c.args = #[x, y] := by rw [← Array.toList_inj]; simpa using hx
      simp only [evOp] at he
      split at he
      ·rename_i k p k' q hp hq
       injection he with he; injection he with h3 h4; subst h3; subst h4
       exact Good.pure (rv := .int k (if q < p then q else p)) (by simp [execOp, ho, resolve, hcal, hargs, (ev_sound h1 hS hp).inv_int, (ev_sound h2 hS hq).inv_int, invoke, builtin, Builtin.min_, Builtin.min2]) .int hI
      ·simp at he
     ·simp at hc
    ·simp at hc
   ·-- clear
    rename_i hcal
    split at hc
    ·rename_i x t hx ht
     split at hc
     ·rename_i e hu
      split at hc
      ·rename_i z x' hz hxx
       split at hc
       ·simp at hc
       ·rename_i hne
        injection hc with hc; subst hc
        have hargs : c.args = #[x] := by rw [← Array.toList_inj]; simpa using hx
        have hty : c.argTypes = #[t] := by rw [← Array.toList_inj]; simpa using ht
        have fin : ∀ (w' : World), (Builtin.clear_ #[t] o.type #[a.eval x]).run P w = .ok (.tuple #[]) w' → Inv w0 base I0 I β σ' w' → v = .tup [] → Good w0 base I0 I β v σ' ((execOp a.eval o).run P w) := by
         intro w' h1 h2 h3
         subst h3
         refine ⟨_, w', I, β, .tuple #[], ?_, .inl rfl, .tup (cs := #[]) rfl (fun i c y hc _ => by simp at hc), h2, Ext.refl _ _⟩
         simp [execOp, ho, resolve, hcal, hargs, hty, invoke, builtin, h1]
        have fin0 : ∀ (ad : Option Addr) (cap : Nat), a.eval x = .slice ad 0 cap → σ' = σ → v = .tup [] → Good w0 base I0 I β v σ' ((execOp a.eval o).run P w) := by
         intro ad cap h1 h2 h3
         subst h2
         refine fin w ?_ hI h3
         rw [h1]
         cases ad <;> simp [Builtin.clear_, run_underlying hu]
        simp only [evOp] at he
        split at he
        ·rename_i h1
         injection he with he; injection he with e1 e2
         exact fin0 _ _ (ev_sound hxx hS h1).inv_nils e2.symm e1.symm
        ·rename_i h1
         injection he with he; injection he with e1 e2
         obtain ⟨ad, cap, h2⟩ := (ev_sound hxx hS h1).inv_emp
         exact fin0 _ _ h2 e2.symm e1.symm
        ·rename_i o' off len h1
         split at he
         ·rename_i h0
          injection he with he; injection he with e1 e2
          subst h0
          rcases (ev_sound hxx hS h1).inv_ref with ⟨_, _, ad, _, h2⟩ | ⟨k, cap, _, _, _, h2⟩
          ·exact fin0 _ _ h2 e2.symm e1.symm
          ·exact fin0 _ _ h2 e2.symm e1.symm
         ·rename_i h0
          split at he
          ·rename_i ob hob
           split at he
           ·rename_i hcd
            obtain ⟨c1, c2, c4⟩ := hcd
            injection he with he; injection he with e1 e2; subst e2
            rcases (ev_sound hxx hS h1).inv_ref with ⟨h2, _⟩ | ⟨k, cap, hk, hcap, hfit, h2⟩
            ·exact (h0 h2).elim
            obtain ⟨w', g1, g2⟩ := run_clear (P := P) (t := t) hI hu hz hne hob c1 c2 c4 h0 hk (cap := cap)
            exact fin w' (by rw [h2]; exact g1 o.type) g2 e1.symm
           ·simp at he
          ·simp at he
        ·simp at he
      ·simp at hc
     ·simp at hc
    ·simp at hc
   ·-- copy
    split at hc
    ·split at hc
     ·split at hc
      ·injection hc with hc; subst hc
       simp [evOp] at he
      ·simp at hc
     ·simp at hc
    ·simp at hc
   ·-- max
    split at hc
    ·split at hc
     ·injection hc with hc; subst hc
      simp [evOp] at he
     ·simp at hc
    ·simp at hc
   ·split at hc
    ·obtain ⟨l, _, rfl⟩ := opt_map_some hc
     simp [evOp] at he
    ·simp at hc
   ·split at hc
    ·obtain ⟨l, _, rfl⟩ := opt_map_some hc
     simp [evOp] at he
    ·simp at hc
   ·simp at hc
 | nilCheck x =>
   rw [ho] at hc
   simp only [cOp] at hc
   obtain ⟨y, hy, rfl⟩ := opt_map_some hc
   simp only [evOp] at he
   split at he
   ·rename_i o' i j hv
    injection he with he; injection he with h1 h2; subst h1; subst h2
    have hr := ev_sound hy hS hv
    obtain ⟨k, hk, e1⟩ := hr.inv_ptr
    exact Good.pure (rv := a.eval x) (by simp [execOp, ho, e1]) hr hI
   ·rename_i l hv
    injection he with he; injection he with h1 h2; subst h1; subst h2
    have hr := ev_sound hy hS hv
    obtain ⟨b, off, arr, hb, e1, h3, h4⟩ := hr.inv_elt
    rw [List.drop_zero]
    exact Good.pure (rv := a.eval x) (by simp [execOp, ho, e1]) hr hI
   ·simp at he
 | panic x =>
   rw [ho] at hc
   simp only [cOp] at hc
   injection hc with hc; subst hc
   simp [evOp] at he
 | _ => rw [ho] at hc; simp [cOp] at hc
end Go.Proofs.YtkockkfmjmheeaaGreat.E

namespace Go.Proofs.YtkockkfmjmheeaaGreat.E
open Go Go.RowKit
set_option linter.unusedSimpArgs false
set_option linter.unusedVariables false
/-! ### Values without local memory -/
def mapO {α : Type} (f : α → Option α) : List α → Option (List α)
 | [] => some []
 | a :: l => match f a, mapO f l with
   | some x, some r => some (x :: r)
   | _, _ => none
theorem mapO_get {α : Type} {f : α → Option α} : ∀ {l r : List α}, mapO f l = some r → l.length = r.length ∧ (∀ (i : Nat) (x : α), l[i]? = some x → ∃ y, f x = some y ∧ r[i]? = some y) ∧ ∀ (i : Nat) (y : α), r[i]? = some y → ∃ x, l[i]? = some x ∧ f x = some y
 | [], r, h => by simp [mapO] at h; subst h; simp
 | a :: l, r, h => by
   simp only [mapO] at h
   split at h
   ·rename_i x r' h1 h2
    injection h with h; subst h
    obtain ⟨a1, a2, a3⟩ := mapO_get h2
    refine ⟨by simp [a1], fun i y hi => ?_, fun i y hi => ?_⟩
    ·cases i with
     | zero => simp at hi; subst hi; exact ⟨x, h1, rfl⟩
     | succ i => exact a2 i y (by simpa using hi)
    ·cases i with
     | zero => simp at hi; subst hi; exact ⟨a, rfl, h1⟩
     | succ i => exact a3 i y (by simpa using hi)
   ·simp at h
theorem mapO_id {α : Type} {f : α → Option α} : ∀ {l : List α}, (∀ x ∈ l, f x = some x) → mapO f l = some l
 | [], _ => rfl
 | a :: l, h => by simp [mapO, h a (by simp), mapO_id (l := l) fun x hx => h x (by simp [hx])]
def toD (σ : Sto) : Nat → V → Option V
 | 0, _ => none
 | n + 1, v => match v with
   | .nils => some (.dat [])
   | .emp => some (.dat [])
   | .ref o off len => match getOb σ o with
     | some x => if off + len ≤ x.cells.length ∧ x.es ≠ 0 then (mapO (mapO (toD σ n)) ((x.cells.drop off).take len)).map .dat else none
     | none => none
   | .agg l => (mapO (toD σ n) l).map .agg
   | .tup l => (mapO (toD σ n) l).map .tup
   | .clo f l => (mapO (toD σ n) l).map (.clo f)
   | .ifc t u => (toD σ n u).map (.ifc t)
   | .ptr _ _ _ => none
   | v => some v
def rch (σ : Sto) : Nat → V → List Nat
 | 0, _ => []
 | n + 1, v => match v with
   | .ref o off len => match getOb σ o with
     | some x => o :: ((x.cells.drop off).take len).flatMap (fun r => r.flatMap (rch σ n))
     | none => []
   | .agg l => l.flatMap (rch σ n)
   | .tup l => l.flatMap (rch σ n)
   | .clo _ l => l.flatMap (rch σ n)
   | .ifc _ u => rch σ n u
   | _ => []
def toP (σ : Sto) : Nat → V → Option V
 | 0, _ => none
 | n + 1, v => match v with
   | .nils => some (.dat [])
   | .emp => some (.dat [])
   | .ref o off len => match getOb σ o with
     | some x => if off + len ≤ x.cells.length ∧ x.es ≠ 0 then (mapO (mapO (toP σ n)) ((x.cells.drop off).take len)).map .dat else none
     | none => none
   | .agg l => (mapO (toP σ n) l).map .agg
   | .tup l => (mapO (toP σ n) l).map .tup
   | .clo f l => (mapO (toP σ n) l).map (.clo f)
   | .ifc t u => (toP σ n u).map (.ifc t)
   | .ptr o i j => match getOb σ o with
     | some x => match x.cells[i]? with
       | some r => if j < r.length then (mapO (toP σ n) (r.drop j)).map .elt else none
       | none => none
     | none => none
   | v => some v
def rchP (σ : Sto) : Nat → V → List Nat
 | 0, _ => []
 | n + 1, v => match v with
   | .ref o off len => match getOb σ o with
     | some x => o :: ((x.cells.drop off).take len).flatMap (fun r => r.flatMap (rchP σ n))
     | none => []
   | .agg l => l.flatMap (rchP σ n)
   | .tup l => l.flatMap (rchP σ n)
   | .clo _ l => l.flatMap (rchP σ n)
   | .ifc _ u => rchP σ n u
   | .ptr o i j => match getOb σ o with
     | some x => match x.cells[i]? with
       | some r => o :: (r.drop j).flatMap (rchP σ n)
       | none => []
     | none => []
   | _ => []
def frz (σ : Sto) (l : List Nat) : Sto := σ.map fun (k, x) => (k, if l.contains k && x.st == .own then { x with st := .fro } else x)
def deep : Nat := 12
def V.scalar : V → Bool
 | .int _ _ | .bool _ | .str _ | .nils | .nilp | .nilf | .nili => true
 | .tup l => l.all fun v => match v with | .int _ _ | .bool _ | .str _ | .nils => true | _ => false
 | _ => false
def ImmOK (I : Imm) (w : World) : Prop := ∀ b arr, I b = some arr → ∃ t fr, w.heap[b]? = some (.cells arr t fr)
def ArgsRel (I : Imm) (β : Beta) (cs : Array Value) (vs : List V) : Prop := cs.size = vs.length ∧ ∀ (i : Nat) (c : Value) (v : V), cs[i]? = some c → vs[i]? = some v → Rel I β c v
def isFn (P : Program) (f : Nat) : Bool :=
 match P.funcs[f]? with
 | some fn => fn.body.isSome && !(fn.name == "runtime.NumGoroutine") && decide (f < bm)
 | none => false
def CallD (P : Program) (f : Nat) (vs : List V) (Q : V → Prop) : Prop :=
 isFn P f = true ∧ ∀ (I : Imm) (w : World) (cs : Array Value), ImmOK I w → TabI I → ArgsRel I Beta.none cs vs →
  Calls P f cs w fun e w' => ∃ rv I' r, e = .returned rv ∧ Below w.heap.size w w' ∧ (∀ b arr, I b = some arr → I' b = some arr) ∧ ImmOK I' w' ∧ (∀ b, b < w.heap.size → I' b = I b) ∧ Rel I' Beta.none rv r ∧ Q r
def CallX (P : Program) (f : Nat) (vs : List V) (σ : Sto) (Q : V → Sto → Prop) : Prop :=
 isFn P f = true ∧ ∀ (w0 : World) (base : Nat) (I0 I : Imm) (β : Beta) (w : World) (cs : Array Value), Inv w0 base I0 I β σ w → ArgsRel I β cs vs →
  Calls P f cs w fun e w' => ∃ rv I' β' r σ', e = .returned rv ∧ Inv w0 base I0 I' β' σ' w' ∧ Ext I β I' β' ∧ Rel I' β' rv r ∧ Q r σ'
/-! ### Code -/
inductive MCode where
 | skip
 | region (ops : List MOper) (keep : Option (List Nat))
 | region2 (ops ops' : List MOper) (keep : Option (List Nat))
 | seq (a b : MCode)
 | cond (c : Opd) (a b : MCode)
 | block (id : Nat) (b : MCode)
 | loop (b : MCode)
 | exit (id : Nat)
 | ret
 deriving Inhabited
inductive Ex where
 | norm
 | exit (n : Nat)
 | ret
 deriving DecidableEq
def Sl.putd (S : Sl) (d : Option Nat) (v : V) : Sl :=
 match d with
 | none => S
 | some d => S.set d v
def Sl.keep (S : Sl) : List Nat → Sl
 | [] => Sl.empty
 | k :: r => match S k with
   | some v => (Sl.keep S r).set k v
   | none => Sl.keep S r
def Sl.keepO (S : Sl) : Option (List Nat) → Sl
 | none => S
 | some l => S.keep l
def toDs (σ : Sto) : List V → Option (List V)
 | [] => some []
 | v :: r => match toD σ deep v, toDs σ r with
   | some d, some l => some (d :: l)
   | _, _ => none
def rchs (σ : Sto) (l : List V) : List Nat := l.flatMap (rch σ deep)
def behind (σ : Sto) (vs : List V) (r : V) : Sto := if r.scalar then σ else frz σ (rchs σ vs)
def toPs (σ : Sto) : List V → Option (List V)
 | [] => some []
 | v :: r => match toP σ deep v, toPs σ r with
   | some d, some l => some (d :: l)
   | _, _ => none
def rchPs (σ : Sto) (l : List V) : List Nat := l.flatMap (rchP σ deep)
def behindP (σ : Sto) (vs : List V) (r : V) : Sto := if r.scalar then σ else frz σ (rchPs σ vs)
def chunk (es : Nat) : Nat → List V → List (List V)
 | 0, _ => []
 | n + 1, l => l.take es :: chunk es n (l.drop es)
def R2.args : R2 → List V → Option (List V)
 | .fn _, us => some us
 | .dyn, .clo _ cap :: r => some (r ++ cap)
 | .bnd, .clo _ cap :: r => some (cap ++ r)
 | .arr _ _, us => some us
 | .cpy, us => some us
 | .mx, us => some us
 | _, _ => none
def R2.res (P : Program) : R2 → List V → List V → V → Prop
 | .fn f, _, ds, v => CallD P f ds (· = v)
 | .dyn, .clo f _ :: _, ds, v => CallD P f ds (· = v)
 | .bnd, .clo f _ :: _, ds, v => bm ≤ f ∧ CallD P (f - bm) ds (· = v)
 | .cpy, _, [.dat _, .dat []], v => v = .int .i64 0
 | .mx, _, [.int k p, .int _ q], v => v = .int k (if q > p then q else p)
 | .arr n es, _, [.elt l], v => es ≠ 0 ∧ n * es ≤ l.length ∧ v = .dat (chunk es n l)
 | _, _, _, _ => False
def Stays (S : Sl) (oth : List Nat) (σ σ' : Sto) : Prop := ∀ s ∈ oth, ∀ o i j, S s = some (.ptr o i j) → look σ' o = look σ o
def Step (P : Program) (m : MOp) (S : Sl) (σ : Sto) (K : V → Sto → Prop) : Prop :=
 match m with
 | .rd2 k l => ∃ us vs ds r, evs S l = some us ∧ k.args us = some vs ∧ toPs σ vs = some ds ∧ k.res P us ds r ∧ K r (behindP σ vs r)
 | .call f l => ∃ vs, evs S l = some vs ∧ CallX P f vs σ K
 | .callF f l => ∃ vs ds r, evs S l = some vs ∧ toDs σ vs = some ds ∧ CallD P f ds (· = r) ∧ K r (behind σ vs r)
 | .callV x l => ∃ f cap vs, ev S x = some (.clo f cap) ∧ evs S l = some vs ∧ CallX P f (vs ++ cap) σ K
 | .callXF f l => ∃ vs r σ', evs S l = some vs ∧ CallX P f vs σ (fun r' s => r' = r ∧ s = σ') ∧ K r σ'
 | .callVF x l => ∃ f cap vs r σ', ev S x = some (.clo f cap) ∧ evs S l = some vs ∧ CallX P f (vs ++ cap) σ (fun r' s => r' = r ∧ s = σ') ∧ K r σ'
 | .callVA x l oth => ∃ f cap vs r σ', ev S x = some (.clo f cap) ∧ evs S l = some vs ∧ CallX P f (vs ++ cap) σ (fun r' s => r' = r ∧ s = σ') ∧ Stays S oth σ σ' ∧ K r σ'
 | m => ∃ v σ', evOp S σ m = some (v, σ') ∧ K v σ'
def WpOp (P : Program) (o : MOper) (S : Sl) (σ : Sto) (K : Sl → Sto → Prop) : Prop :=
 match o.guard with
 | none => Step P o.op S σ fun v σ' => K (S.putd o.dst v) σ'
 | some (d, b) => match S d with
   | some (.bool t) => (t = b → Step P o.op S σ fun v σ' => K (S.putd o.dst v) σ') ∧ (t ≠ b → K (S.putd o.dst (.tup [])) σ)
   | some (.tup []) => K (S.putd o.dst (.tup [])) σ
   | _ => False
def WpOps (P : Program) : List MOper → Sl → Sto → (Sl → Sto → Prop) → Prop
 | [], S, σ, Q => Q S σ
 | o :: rest, S, σ, Q => WpOp P o S σ fun S' σ' => WpOps P rest S' σ' Q
def V.within (p : Nat → Bool) : V → Bool
 | .ref o _ _ => p o
 | .ptr o _ _ => p o
 | .agg l => l.attach.all fun ⟨x, _⟩ => x.within p
 | .tup l => l.attach.all fun ⟨x, _⟩ => x.within p
 | .clo _ l => l.attach.all fun ⟨x, _⟩ => x.within p
 | .ifc _ v => v.within p
 | _ => true
structure Weak (K : List Nat) (S1 : Sl) (σ1 : Sto) (S : Sl) (σ : Sto) : Prop where
 slots : ∀ j v, S1 j = some v → S j = some v
 obs : ∀ o x, look σ1 o = some x → look σ o = some x
 keep : ∀ o ∈ K, (look σ o).isSome = true → (look σ1 o).isSome = true
 slotsIn : ∀ j v, S1 j = some v → v.within (fun o => (look σ1 o).isSome) = true
 obsIn : ∀ o x, look σ1 o = some x → x.st ≠ .dead → ∀ r ∈ x.cells, ∀ y ∈ r, y.within (fun o => (look σ1 o).isSome) = true
def WpM (P : Program) (K : List Nat) : MCode → Sl → Sto → (Ex → Sl → Sto → Prop) → Prop
 | .skip, S, σ, Q => Q .norm S σ
 | .region ops keep, S, σ, Q => WpOps P ops S σ fun S' σ' => Q .norm (S'.keepO keep) σ'
 | .region2 ops ops' keep, S, σ, Q => (WpOps P ops S σ fun S' σ' => Q .norm (S'.keepO keep) σ') ∧ WpOps P ops' S σ fun S' σ' => Q .norm (S'.keepO keep) σ'
 | .seq a b, S, σ, Q => WpM P K a S σ fun e S' σ' => match e with
   | .norm => WpM P K b S' σ' Q
   | .exit n => Q (.exit n) S' σ'
   | .ret => Q .ret S' σ'
 | .cond c a b, S, σ, Q => ∃ t, ev S c = some (.bool t) ∧ (t = true → WpM P K a S σ Q) ∧ (t = false → WpM P K b S σ Q)
 | .block id b, S, σ, Q => WpM P K b S σ fun e S' σ' => match e with
   | .norm => Q .norm S' σ'
   | .exit n => if n = id then Q .norm S' σ' else Q (.exit n) S' σ'
   | .ret => Q .ret S' σ'
 | .loop b, S, σ, Q => ∃ J : Nat → Sl → Sto → Prop, (∃ n S1 σ1, Weak K S1 σ1 S σ ∧ J n S1 σ1) ∧ ∀ n S σ, J n S σ → WpM P K b S σ fun e S' σ' => match e with
   | .norm => ∃ n' S1 σ1, n' < n ∧ Weak K S1 σ1 S' σ' ∧ J n' S1 σ1
   | .exit n => Q (.exit n) S' σ'
   | .ret => Q .ret S' σ'
 | .exit n, S, σ, Q => Q (.exit n) S σ
 | .ret, S, σ, Q => Q .ret S σ
end Go.Proofs.YtkockkfmjmheeaaGreat.E

namespace Go.Proofs.YtkockkfmjmheeaaGreat.E
open Go Go.RowKit
set_option linter.unusedSimpArgs false
set_option linter.unusedVariables false
open Classical
variable {P : Program} {w0 : World} {base : Nat} {I0 I : Imm} {β : Beta} {S : Sl} {σ σ' : Sto} {w : World} {a : Act} {v : V}
theorem look_frz (l : List Nat) (o : Nat) : ∀ σ : Sto, look (frz σ l) o = (look σ o).map fun x => if l.contains o && x.st == .own then { x with st := .fro } else x
 | [] => rfl
 | (k, x) :: r => by
   simp only [frz, List.map_cons, look]
   by_cases h : k = o
   ·subst h; simp
   ·rw [if_neg h, if_neg h]; exact look_frz l o r
noncomputable def Ifz (I : Imm) (β : Beta) (σ : Sto) (w : World) (l : List Nat) : Imm := fun b =>
 if ∃ o ∈ l, ∃ x k, look σ o = some x ∧ x.st = .own ∧ β o = some k ∧ k.b = b then (match w.heap[b]? with | some (.cells arr _ _) => some arr | _ => none) else I b
theorem Inv.freeze (hI : Inv w0 base I0 I β σ w) (l : List Nat) : Inv w0 base I0 (Ifz I β σ w l) β (frz σ l) w ∧ Ext I β (Ifz I β σ w l) β := by
 have hext : ∀ b arr, I b = some arr → Ifz I β σ w l b = some arr := by
  intro b arr hb
  unfold Ifz
  rw [if_neg]
  ·exact hb
  ·rintro ⟨o, _, x, k, ho, hx, hk, rfl⟩
   obtain ⟨k2, hk2, _, _, hr⟩ := hI.ob o x ho
   rw [hk] at hk2; injection hk2 with hk2; subst hk2
   obtain ⟨_, _, _, _, _, hown, _⟩ := (hr (by simp [hx])).mem
   rw [(hown hx).2] at hb; simp at hb
 refine ⟨⟨hI.below, hI.baseLe, fun b arr hb => ?_, fun b hb => ?_, hI.tab.mono hext, fun o x hx => ?_, fun o x hx => ?_, fun o o' x x' k k' h h' hx hx' hk hk' e => ?_⟩, ⟨hext, fun _ _ h => h⟩⟩
 ·unfold Ifz at hb
  split at hb
  ·split at hb
   ·rename_i arr' t fr hm
    injection hb with hb; subst hb
    exact ⟨t, fr, hm⟩
   ·simp at hb
  ·exact hI.imm _ _ hb
 ·unfold Ifz
  rw [if_neg]
  ·exact hI.old b hb
  ·rintro ⟨o, _, x, k, ho, hx, hk, rfl⟩
   obtain ⟨k2, hk2, _, hbase, _⟩ := hI.ob o x ho
   rw [hk] at hk2; injection hk2 with hk2; subst hk2
   omega
 ·rw [look_frz]; simpa using hI.dom o x hx
 ·rw [look_frz] at hx
  obtain ⟨y, hy, rfl⟩ := opt_map_some hx
  obtain ⟨k, hk, hes, hb, hr⟩ := hI.ob o y hy
  by_cases hc : (l.contains o && y.st == .own) = true
  ·simp only [hc, if_true]
   simp at hc
   refine ⟨k, hk, hes, hb, fun _ => ?_⟩
   have R := hr (by simp [hc.2])
   obtain ⟨arr, t, fr, hm, hs, hown, _, hrel⟩ := R.mem
   refine ⟨⟨arr, t, fr, hm, hs, by simp, fun _ => ?_, fun i r j y' hi hj => ?_⟩, R.len, R.size, R.one⟩
   ·unfold Ifz
    rw [if_pos ⟨o, hc.1, y, k, hy, hc.2, hk, rfl⟩, hm]
   ·obtain ⟨c, h1, h2⟩ := hrel i r j y' hi hj
    exact ⟨c, h1, h2.mono hext (fun _ _ h => h)⟩
  ·simp only [hc, if_false, Bool.false_eq_true]
   refine ⟨k, hk, hes, hb, fun hd => (hr hd).mono rfl hext (fun _ _ h => h) (fun hn => ?_)⟩
   cases hst : y.st with
   | dead => exact (hd hst).elim
   | fro =>
     obtain ⟨arr, t, fr, hm, hs, _, hfro, _⟩ := (hr hd).mem
     rw [hfro hst] at hn; simp at hn
   | own =>
     unfold Ifz
     rw [if_neg]
     ·exact hn
     ·rintro ⟨o', ho', x', k', hlk, hst', hk', e⟩
      have := hI.inj o' o x' y k' k hlk hy (by simp [hst']) hd hk' hk e
      subst this
      simp [ho', hst] at hc
 ·rw [look_frz] at h h'
  obtain ⟨y, hy, rfl⟩ := opt_map_some h
  obtain ⟨y', hy', rfl⟩ := opt_map_some h'
  have nd : ∀ {q : Nat} {y : Ob}, (if (l.contains q && y.st == St.own) = true then ({ y with st := .fro } : Ob) else y).st ≠ .dead → y.st ≠ .dead := by
   intro q y h e
   rw [if_neg (by simp [e])] at h
   exact h e
  exact hI.inj o o' y y' k k' hy hy' (nd hx) (nd hx') hk hk' e
theorem Rel.plain {c : Value} (h : Rel I β c v) (hp : v.plain = true) (β' : Beta) : Rel I β' c v := by
 cases h <;> first
  | (simp [V.plain] at hp; done)
  | exact .int
  | exact .bool
  | exact .str
  | exact .nils
  | exact .emp
  | exact .dat0
  | exact .datn
  | exact .nilp
  | exact .nilf
  | exact .nili
  | (rename_i c hb hl hc h1 ho h2; exact .dat c hb hl hc h1 ho h2)
  | (rename_i c hb h1 ho h2; exact .elt c hb h1 ho h2)
theorem toD_one {n : Nat} {d : V} (h : toD σ n v = some d) (ho : v.one = true) : d.one = true := by
 cases n with
 | zero => simp [toD] at h
 | succ n =>
   cases v <;> simp only [toD] at h <;> first
    | (simp [V.one] at ho; done)
    | (injection h with h; subst h; rfl)
    | (simp at h; done)
    | (obtain ⟨_, _, rfl⟩ := opt_map_some h; rfl)
    | (split at h
       ·split at h
        ·obtain ⟨_, _, rfl⟩ := opt_map_some h; rfl
        ·simp at h
       ·simp at h)
theorem toD_sound (hI : Inv w0 base I0 I β σ w) (l : List Nat) : ∀ (n : Nat) (c : Value) (v d : V), Rel I β c v → toD σ n v = some d → (∀ o ∈ rch σ n v, o ∈ l) → Rel (Ifz I β σ w l) Beta.none c d := by
 obtain ⟨_, hext⟩ := hI.freeze l
 intro n
 induction n with
 | zero => intro c v d _ h; simp [toD] at h
 | succ n ih =>
   intro c v d hr h hl
   by_cases hp : v.plain = true
   ·by_cases hz : v = .nils
    ·subst hz
     simp [toD] at h; subst h
     rw [hr.inv_nils]; exact .datn
    by_cases hz : v = .emp
    ·subst hz
     simp [toD] at h; subst h
     obtain ⟨a, cap, rfl⟩ := hr.inv_emp
     exact Rel.mk_dat0 (by simp)
    have e : d = v := by cases v <;> simp [V.plain] at hp <;> simp [toD] at h <;> first | exact h.symm | exact (absurd rfl ‹_›)
    subst e
    exact (hr.plain hp Beta.none).mono hext.imm (fun _ _ h => h)
   ·cases v <;> first | (exact (hp rfl).elim) | skip
    case ref o off len =>
     simp only [toD] at h
     simp only [rch] at hl
     split at h
     ·rename_i x hx
      rw [hx] at hl
      split at h
      ·rename_i hcond
       obtain ⟨q, hq, rfl⟩ := opt_map_some h
       obtain ⟨q1, q2, q3⟩ := mapO_get hq
       have hlen : q.length = len := by rw [← q1]; simp; omega
       rcases hr.inv_ref with ⟨rfl, _, ad, _, rfl⟩ | ⟨k, cap, hk, hcap, hfit, rfl⟩
       ·have : q = [] := List.eq_nil_of_length_eq_zero hlen
        subst this; exact Rel.mk_dat0 (by simp)
       ·obtain ⟨hlk, hd⟩ := getOb_some hx
        obtain ⟨k2, hk2, hes, hb, hR⟩ := hI.ob o x hlk
        rw [hk] at hk2; injection hk2 with hk2; subst hk2
        have R := hR hd
        obtain ⟨arr, t, fr, hm, hs, hown, hfro, hrel⟩ := R.mem
        have hIb : Ifz I β σ w l k.b = some arr := by
         cases hst : x.st with
         | dead => exact (hd hst).elim
         | fro => exact hext.imm _ _ (hfro hst)
         | own =>
           unfold Ifz
           rw [if_pos ⟨o, hl o (by simp), x, k, hlk, hst, hk, rfl⟩, hm]
        have get : ∀ (i : Nat) (r : List V), ((x.cells.drop off).take len)[i]? = some r → x.cells[off + i]? = some r := by
         intro i r hi
         rw [List.getElem?_take] at hi
         split at hi
         ·rwa [List.getElem?_drop] at hi
         ·simp at hi
        have key : ∀ (i : Nat) (r' : List V) (j : Nat) (y' : V), q[i]? = some r' → r'[j]? = some y' → ∃ r y, x.cells[off + i]? = some r ∧ r[j]? = some y ∧ toD σ n y = some y' ∧ ∀ o ∈ rch σ n y, o ∈ l := by
         intro i r' j y' hi hj
         obtain ⟨r, hr1, hr2⟩ := q3 i r' hi
         obtain ⟨_, _, p3⟩ := mapO_get hr2
         obtain ⟨y, hy1, hy2⟩ := p3 j y' hj
         refine ⟨r, y, get i r hr1, hy1, hy2, fun p hp => hl p ?_⟩
         simp only [List.mem_cons, List.mem_flatMap]
         exact .inr ⟨r, List.mem_of_getElem? hr1, y, List.mem_of_getElem? hy1, hp⟩
        rw [← hlen]
        refine Rel.mk_dat (es := k.es) hIb (fun i r' hi => ?_) (by omega) (fun i r' j y' hi hj => ?_) (fun i r' j y' hi hj => ?_)
        ·obtain ⟨r, hr1, hr2⟩ := q3 i r' hi
         rw [← (mapO_get hr2).1, R.len _ r (get i r hr1), hes]
        ·obtain ⟨r, y, h1, h2, h3, _⟩ := key i r' j y' hi hj
         exact toD_one h3 (R.one _ r j y h1 h2)
        ·obtain ⟨r, y, h1, h2, h3, h4⟩ := key i r' j y' hi hj
         obtain ⟨c, h5, h6⟩ := hrel _ r j y h1 h2
         refine ⟨c, ?_, ih c y y' h6 h3 h4⟩
         rw [← h5, hes]; congr 1; rw [Nat.add_mul]
      ·simp at h
     ·simp at h
    case ptr => simp [toD] at h
    case agg m =>
     simp only [toD] at h
     simp only [rch] at hl
     obtain ⟨q, hq, rfl⟩ := opt_map_some h
     obtain ⟨q1, q2, q3⟩ := mapO_get hq
     obtain ⟨cs, rfl, h1, h2, h3⟩ := hr.inv_agg
     refine .agg (by omega) (fun i y' hy => ?_) (fun i c y' hc hy => ?_)
     ·obtain ⟨y, h4, h5⟩ := q3 i y' hy
      exact toD_one h5 (h2 i y h4)
     ·obtain ⟨y, h4, h5⟩ := q3 i y' hy
      exact ih c y y' (h3 i c y hc h4) h5 (fun o ho => hl o (by simp only [List.mem_flatMap]; exact ⟨y, List.mem_of_getElem? h4, ho⟩))
    case tup m =>
     simp only [toD] at h
     simp only [rch] at hl
     obtain ⟨q, hq, rfl⟩ := opt_map_some h
     obtain ⟨q1, q2, q3⟩ := mapO_get hq
     obtain ⟨cs, rfl, h1, h3⟩ := hr.inv_tup
     refine .tup (by omega) (fun i c y' hc hy => ?_)
     obtain ⟨y, h4, h5⟩ := q3 i y' hy
     exact ih c y y' (h3 i c y hc h4) h5 (fun o ho => hl o (by simp only [List.mem_flatMap]; exact ⟨y, List.mem_of_getElem? h4, ho⟩))
    case clo f m =>
     simp only [toD] at h
     simp only [rch] at hl
     obtain ⟨q, hq, rfl⟩ := opt_map_some h
     obtain ⟨q1, q2, q3⟩ := mapO_get hq
     rcases hr.inv_cloB with ⟨cs, rfl, hf, h1, h3⟩ | ⟨g, cs, rfl, rfl, h1, h3⟩
     ·refine .clo hf (by omega) (fun i c y' hc hy => ?_)
      obtain ⟨y, h4, h5⟩ := q3 i y' hy
      exact ih c y y' (h3 i c y hc h4) h5 (fun o ho => hl o (by simp only [List.mem_flatMap]; exact ⟨y, List.mem_of_getElem? h4, ho⟩))
     ·refine .bnd (by omega) (fun i c y' hc hy => ?_)
      obtain ⟨y, h4, h5⟩ := q3 i y' hy
      exact ih c y y' (h3 i c y hc h4) h5 (fun o ho => hl o (by simp only [List.mem_flatMap]; exact ⟨y, List.mem_of_getElem? h4, ho⟩))
    case ifc t u =>
     simp only [toD] at h
     simp only [rch] at hl
     obtain ⟨q, hq, rfl⟩ := opt_map_some h
     cases hr with
     | ifc hr => exact .ifc (ih _ u q hr hq hl)
theorem toDs_sound (hI : Inv w0 base I0 I β σ w) : ∀ {vs ds : List V} (l : List Nat), toDs σ vs = some ds → (∀ o ∈ rchs σ vs, o ∈ l) → vs.length = ds.length ∧
 ∀ (i : Nat) (c : Value) (v d : V), Rel I β c v → vs[i]? = some v → ds[i]? = some d → Rel (Ifz I β σ w l) Beta.none c d
 | [], ds, l, h, hl => by simp [toDs] at h; subst h; simp
 | u :: vs, ds, l, h, hl => by
   simp only [toDs] at h
   split at h
   ·rename_i d ds' h1 h2
    injection h with h; subst h
    obtain ⟨g1, g2⟩ := toDs_sound hI l h2 (fun o ho => hl o (by simp only [rchs, List.flatMap_cons, List.mem_append]; exact .inr ho))
    refine ⟨by simp [g1], fun i c v d' hr hv hd => ?_⟩
    cases i with
    | zero =>
      simp at hv hd; subst hv; subst hd
      exact toD_sound hI l deep c _ _ hr h1 (fun o ho => hl o (by simp only [rchs, List.flatMap_cons, List.mem_append]; exact .inl ho))
    | succ i => exact g2 i c v d' hr (by simpa using hv) (by simpa using hd)
   ·simp at h
theorem Inv.later (hI : Inv w0 base I0 I β σ w) {w' : World} (hb : Below w.heap.size w w') {I' : Imm} (h1 : ∀ b arr, I b = some arr → I' b = some arr) (h2 : ImmOK I' w') (h3 : ∀ b, b < w.heap.size → I' b = I b) : Inv w0 base I0 I' β σ w' := by
 refine ⟨hI.below.trans (hb.mono hI.baseLe), Nat.le_trans hI.baseLe hb.size, h2, fun b hb' => ?_, hI.tab.mono h1, hI.dom, fun o x hx => ?_, hI.inj⟩
 ·rw [h3 b (Nat.lt_of_lt_of_le hb' hI.baseLe)]; exact hI.old b hb'
 ·obtain ⟨k, hk, hes, hbase, hr⟩ := hI.ob o x hx
  refine ⟨k, hk, hes, hbase, fun hd => ?_⟩
  obtain ⟨k2, hk2, hlt⟩ := hI.blk_lt hx hd
  rw [hk] at hk2; injection hk2 with hk2; subst hk2
  exact (hr hd).mono (hb.block _ hlt) h1 (fun _ _ h => h) (fun h => by rw [h3 _ hlt]; exact h)
theorem Rel.scalar {I' : Imm} {β' : Beta} {c : Value} (h : Rel I β c v) (hs : v.scalar = true) : Rel I' β' c v := by
 cases h <;> first
  | (simp [V.scalar] at hs; done)
  | exact .int
  | exact .bool
  | exact .str
  | exact .nils
  | exact .nilp
  | exact .nilf
  | exact .nili
  | skip
 rename_i l cs h1 h2
 refine .tup h1 (fun i c y hc hy => ?_)
 have := h2 i c y hc hy
 simp only [V.scalar, List.all_eq_true] at hs
 have hs := hs y (List.mem_of_getElem? hy)
 cases this <;> first
  | exact .int
  | exact .bool
  | exact .str
  | exact .nils
  | (simp at hs; done)
theorem CallX.of_D {f : Nat} {vs ds : List V} {R : V → Prop} {Q : V → Sto → Prop} (hd : toDs σ vs = some ds) (hc : CallD P f ds R) (hQ : ∀ r, R r → Q r (behind σ vs r)) : CallX P f vs σ Q := by
 refine ⟨hc.1, fun w0 base I0 I β w cs hI hargs => ?_⟩
 obtain ⟨hF, hext⟩ := hI.freeze (rchs σ vs)
 obtain ⟨g1, g2⟩ := toDs_sound hI (rchs σ vs) hd (fun o ho => ho)
 have hargs2 : ArgsRel (Ifz I β σ w (rchs σ vs)) Beta.none cs ds := by
  refine ⟨by rw [hargs.1, g1], fun i c d hc hd => ?_⟩
  have hlt : i < vs.length := by rw [g1]; exact (List.getElem?_eq_some_iff.1 hd).1
  exact g2 i c vs[i] d (hargs.2 i c _ hc (List.getElem?_eq_getElem hlt)) (List.getElem?_eq_getElem hlt) hd
 refine (hc.2 _ w cs hF.imm hF.tab hargs2).mono ?_
 rintro e w' ⟨rv, I', r, he, hb, h1, h2, h3, h4, h5⟩
 have h6 := hQ r h5
 unfold behind at h6
 by_cases hs : r.scalar = true
 ·rw [if_pos hs] at h6
  refine ⟨rv, I, β, r, σ, he, hI.later hb (fun _ _ h => h) (fun b arr hb' => h2 b arr (h1 b arr (hext.imm b arr hb'))) (fun _ _ => rfl), Ext.refl _ _, h4.scalar hs, h6⟩
 ·rw [if_neg hs] at h6
  exact ⟨rv, I', β, r, _, he, hF.later hb h1 h2 h3, ⟨fun b arr hb' => h1 b arr (hext.imm b arr hb'), fun _ _ h => h⟩, h4.mono (fun _ _ h => h) (fun _ _ h => by simp [Beta.none] at h), h6⟩
/-! ### the same, addresses of local objects too -/
theorem toP_one {n : Nat} {d : V} (h : toP σ n v = some d) (ho : v.one = true) : d.one = true := by
 cases n with
 | zero => simp [toP] at h
 | succ n =>
   cases v <;> simp only [toP] at h <;> first
    | (simp [V.one] at ho; done)
    | (injection h with h; subst h; rfl)
    | (simp at h; done)
    | (obtain ⟨_, _, rfl⟩ := opt_map_some h; rfl)
    | (split at h
       ·split at h
        ·obtain ⟨_, _, rfl⟩ := opt_map_some h; rfl
        ·simp at h
       ·simp at h)
    | (split at h
       ·split at h
        ·split at h
         ·obtain ⟨_, _, rfl⟩ := opt_map_some h; rfl
         ·simp at h
        ·simp at h
       ·simp at h)
theorem toP_sound (hI : Inv w0 base I0 I β σ w) (l : List Nat) : ∀ (n : Nat) (c : Value) (v d : V), Rel I β c v → toP σ n v = some d → (∀ o ∈ rchP σ n v, o ∈ l) → Rel (Ifz I β σ w l) Beta.none c d := by
 obtain ⟨_, hext⟩ := hI.freeze l
 intro n
 induction n with
 | zero => intro c v d _ h; simp [toP] at h
 | succ n ih =>
   intro c v d hr h hl
   by_cases hp : v.plain = true
   ·by_cases hz : v = .nils
    ·subst hz
     simp [toP] at h; subst h
     rw [hr.inv_nils]; exact .datn
    by_cases hz : v = .emp
    ·subst hz
     simp [toP] at h; subst h
     obtain ⟨a, cap, rfl⟩ := hr.inv_emp
     exact Rel.mk_dat0 (by simp)
    have e : d = v := by cases v <;> simp [V.plain] at hp <;> simp [toP] at h <;> first | exact h.symm | exact (absurd rfl ‹_›)
    subst e
    exact (hr.plain hp Beta.none).mono hext.imm (fun _ _ h => h)
   ·cases v <;> first | (exact (hp rfl).elim) | skip
    case ref o off len =>
     simp only [toP] at h
     simp only [rchP] at hl
     split at h
     ·rename_i x hx
      rw [hx] at hl
      split at h
      ·rename_i hcond
       obtain ⟨q, hq, rfl⟩ := opt_map_some h
       obtain ⟨q1, q2, q3⟩ := mapO_get hq
       have hlen : q.length = len := by rw [← q1]; simp; omega
       rcases hr.inv_ref with ⟨rfl, _, ad, _, rfl⟩ | ⟨k, cap, hk, hcap, hfit, rfl⟩
       ·have : q = [] := List.eq_nil_of_length_eq_zero hlen
        subst this; exact Rel.mk_dat0 (by simp)
       ·obtain ⟨hlk, hd⟩ := getOb_some hx
        obtain ⟨k2, hk2, hes, hb, hR⟩ := hI.ob o x hlk
        rw [hk] at hk2; injection hk2 with hk2; subst hk2
        have R := hR hd
        obtain ⟨arr, t, fr, hm, hs, hown, hfro, hrel⟩ := R.mem
        have hIb : Ifz I β σ w l k.b = some arr := by
         cases hst : x.st with
         | dead => exact (hd hst).elim
         | fro => exact hext.imm _ _ (hfro hst)
         | own =>
           unfold Ifz
           rw [if_pos ⟨o, hl o (by simp), x, k, hlk, hst, hk, rfl⟩, hm]
        have get : ∀ (i : Nat) (r : List V), ((x.cells.drop off).take len)[i]? = some r → x.cells[off + i]? = some r := by
         intro i r hi
         rw [List.getElem?_take] at hi
         split at hi
         ·rwa [List.getElem?_drop] at hi
         ·simp at hi
        have key : ∀ (i : Nat) (r' : List V) (j : Nat) (y' : V), q[i]? = some r' → r'[j]? = some y' → ∃ r y, x.cells[off + i]? = some r ∧ r[j]? = some y ∧ toP σ n y = some y' ∧ ∀ o ∈ rchP σ n y, o ∈ l := by
         intro i r' j y' hi hj
         obtain ⟨r, hr1, hr2⟩ := q3 i r' hi
         obtain ⟨_, _, p3⟩ := mapO_get hr2
         obtain ⟨y, hy1, hy2⟩ := p3 j y' hj
         refine ⟨r, y, get i r hr1, hy1, hy2, fun p hp => hl p ?_⟩
         simp only [List.mem_cons, List.mem_flatMap]
         exact .inr ⟨r, List.mem_of_getElem? hr1, y, List.mem_of_getElem? hy1, hp⟩
        rw [← hlen]
        refine Rel.mk_dat (es := k.es) hIb (fun i r' hi => ?_) (by omega) (fun i r' j y' hi hj => ?_) (fun i r' j y' hi hj => ?_)
        ·obtain ⟨r, hr1, hr2⟩ := q3 i r' hi
         rw [← (mapO_get hr2).1, R.len _ r (get i r hr1), hes]
        ·obtain ⟨r, y, h1, h2, h3, _⟩ := key i r' j y' hi hj
         exact toP_one h3 (R.one _ r j y h1 h2)
        ·obtain ⟨r, y, h1, h2, h3, h4⟩ := key i r' j y' hi hj
         obtain ⟨c, h5, h6⟩ := hrel _ r j y h1 h2
         refine ⟨c, ?_, ih c y y' h6 h3 h4⟩
         rw [← h5, hes]; congr 1; rw [Nat.add_mul]
      ·simp at h
     ·simp at h
    case ptr o i j =>
     simp only [toP] at h
     simp only [rchP] at hl
     split at h
     ·rename_i x hx
      rw [hx] at hl
      simp only [] at hl
      split at h
      ·rename_i r hr0
       rw [hr0] at hl
       simp only [] at hl
       split at h
       ·rename_i hj
        obtain ⟨q, hq, rfl⟩ := opt_map_some h
        obtain ⟨q1, q2, q3⟩ := mapO_get hq
        obtain ⟨k, hk, rfl⟩ := hr.inv_ptr
        obtain ⟨hlk, hd⟩ := getOb_some hx
        obtain ⟨k2, hk2, hes, hb, hR⟩ := hI.ob o x hlk
        rw [hk] at hk2; injection hk2 with hk2; subst hk2
        have R := hR hd
        obtain ⟨arr, t, fr, hm, hs, hown, hfro, hrel⟩ := R.mem
        have hIb : Ifz I β σ w l k.b = some arr := by
         cases hst : x.st with
         | dead => exact (hd hst).elim
         | fro => exact hext.imm _ _ (hfro hst)
         | own =>
           unfold Ifz
           rw [if_pos ⟨o, hl o (by simp), x, k, hlk, hst, hk, rfl⟩, hm]
        have key : ∀ (p : Nat) (y' : V), q[p]? = some y' → ∃ y, r[j + p]? = some y ∧ toP σ n y = some y' ∧ ∀ o ∈ rchP σ n y, o ∈ l := by
         intro p y' hp
         obtain ⟨y, hy1, hy2⟩ := q3 p y' hp
         refine ⟨y, by rwa [List.getElem?_drop] at hy1, hy2, fun p hp => hl p ?_⟩
         simp only [List.mem_cons, List.mem_flatMap]
         exact .inr ⟨y, List.mem_of_getElem? hy1, hp⟩
        refine Rel.mk_elt hIb (fun p y' hp => ?_) (fun p y' hp => ?_)
        ·obtain ⟨y, h1, h2, _⟩ := key p y' hp
         exact toP_one h2 (R.one _ r _ y hr0 h1)
        ·obtain ⟨y, h1, h2, h3⟩ := key p y' hp
         obtain ⟨c, h5, h6⟩ := hrel _ r _ y hr0 h1
         exact ⟨c, by rw [← h5, hes]; congr 1; omega, ih c y y' h6 h2 h3⟩
       ·simp at h
      ·simp at h
     ·simp at h
    case agg m =>
     simp only [toP] at h
     simp only [rchP] at hl
     obtain ⟨q, hq, rfl⟩ := opt_map_some h
     obtain ⟨q1, q2, q3⟩ := mapO_get hq
     obtain ⟨cs, rfl, h1, h2, h3⟩ := hr.inv_agg
     refine .agg (by omega) (fun i y' hy => ?_) (fun i c y' hc hy => ?_)
     ·obtain ⟨y, h4, h5⟩ := q3 i y' hy
      exact toP_one h5 (h2 i y h4)
     ·obtain ⟨y, h4, h5⟩ := q3 i y' hy
      exact ih c y y' (h3 i c y hc h4) h5 (fun o ho => hl o (by simp only [List.mem_flatMap]; exact ⟨y, List.mem_of_getElem? h4, ho⟩))
    case tup m =>
     simp only [toP] at h
     simp only [rchP] at hl
     obtain ⟨q, hq, rfl⟩ := opt_map_some h
     obtain ⟨q1, q2, q3⟩ := mapO_get hq
     obtain ⟨cs, rfl, h1, h3⟩ := hr.inv_tup
     refine .tup (by omega) (fun i c y' hc hy => ?_)
     obtain ⟨y, h4, h5⟩ := q3 i y' hy
     exact ih c y y' (h3 i c y hc h4) h5 (fun o ho => hl o (by simp only [List.mem_flatMap]; exact ⟨y, List.mem_of_getElem? h4, ho⟩))
    case clo f m =>
     simp only [toP] at h
     simp only [rchP] at hl
     obtain ⟨q, hq, rfl⟩ := opt_map_some h
     obtain ⟨q1, q2, q3⟩ := mapO_get hq
     rcases hr.inv_cloB with ⟨cs, rfl, hf, h1, h3⟩ | ⟨g, cs, rfl, rfl, h1, h3⟩
     ·refine .clo hf (by omega) (fun i c y' hc hy => ?_)
      obtain ⟨y, h4, h5⟩ := q3 i y' hy
      exact ih c y y' (h3 i c y hc h4) h5 (fun o ho => hl o (by simp only [List.mem_flatMap]; exact ⟨y, List.mem_of_getElem? h4, ho⟩))
     ·refine .bnd (by omega) (fun i c y' hc hy => ?_)
      obtain ⟨y, h4, h5⟩ := q3 i y' hy
      exact ih c y y' (h3 i c y hc h4) h5 (fun o ho => hl o (by simp only [List.mem_flatMap]; exact ⟨y, List.mem_of_getElem? h4, ho⟩))
    case ifc t u =>
     simp only [toP] at h
     simp only [rchP] at hl
     obtain ⟨q, hq, rfl⟩ := opt_map_some h
     cases hr with
     | ifc hr => exact .ifc (ih _ u q hr hq hl)
theorem toPs_sound (hI : Inv w0 base I0 I β σ w) : ∀ {vs ds : List V} (l : List Nat), toPs σ vs = some ds → (∀ o ∈ rchPs σ vs, o ∈ l) → vs.length = ds.length ∧
 ∀ (i : Nat) (c : Value) (v d : V), Rel I β c v → vs[i]? = some v → ds[i]? = some d → Rel (Ifz I β σ w l) Beta.none c d
 | [], ds, l, h, hl => by simp [toPs] at h; subst h; simp
 | u :: vs, ds, l, h, hl => by
   simp only [toPs] at h
   split at h
   ·rename_i d ds' h1 h2
    injection h with h; subst h
    obtain ⟨g1, g2⟩ := toPs_sound hI l h2 (fun o ho => hl o (by simp only [rchPs, List.flatMap_cons, List.mem_append]; exact .inr ho))
    refine ⟨by simp [g1], fun i c v d' hr hv hd => ?_⟩
    cases i with
    | zero =>
      simp at hv hd; subst hv; subst hd
      exact toP_sound hI l deep c _ _ hr h1 (fun o ho => hl o (by simp only [rchPs, List.flatMap_cons, List.mem_append]; exact .inl ho))
    | succ i => exact g2 i c v d' hr (by simpa using hv) (by simpa using hd)
   ·simp at h
theorem CallX.of_P {f : Nat} {vs ds : List V} {R : V → Prop} {Q : V → Sto → Prop} (hd : toPs σ vs = some ds) (hc : CallD P f ds R) (hQ : ∀ r, R r → Q r (behindP σ vs r)) : CallX P f vs σ Q := by
 refine ⟨hc.1, fun w0 base I0 I β w cs hI hargs => ?_⟩
 obtain ⟨hF, hext⟩ := hI.freeze (rchPs σ vs)
 obtain ⟨g1, g2⟩ := toPs_sound hI (rchPs σ vs) hd (fun o ho => ho)
 have hargs2 : ArgsRel (Ifz I β σ w (rchPs σ vs)) Beta.none cs ds := by
  refine ⟨by rw [hargs.1, g1], fun i c d hc hd => ?_⟩
  have hlt : i < vs.length := by rw [g1]; exact (List.getElem?_eq_some_iff.1 hd).1
  exact g2 i c vs[i] d (hargs.2 i c _ hc (List.getElem?_eq_getElem hlt)) (List.getElem?_eq_getElem hlt) hd
 refine (hc.2 _ w cs hF.imm hF.tab hargs2).mono ?_
 rintro e w' ⟨rv, I', r, he, hb, h1, h2, h3, h4, h5⟩
 have h6 := hQ r h5
 unfold behindP at h6
 by_cases hs : r.scalar = true
 ·rw [if_pos hs] at h6
  refine ⟨rv, I, β, r, σ, he, hI.later hb (fun _ _ h => h) (fun b arr hb' => h2 b arr (h1 b arr (hext.imm b arr hb'))) (fun _ _ => rfl), Ext.refl _ _, h4.scalar hs, h6⟩
 ·rw [if_neg hs] at h6
  exact ⟨rv, I', β, r, _, he, hF.later hb h1 h2 h3, ⟨fun b arr hb' => h1 b arr (hext.imm b arr hb'), fun _ _ h => h⟩, h4.mono (fun _ _ h => h) (fun _ _ h => by simp [Beta.none] at h), h6⟩
end Go.Proofs.YtkockkfmjmheeaaGreat.E

namespace Go.Proofs.YtkockkfmjmheeaaGreat.E
open Go Go.RowKit
set_option linter.unusedSimpArgs false
set_option linter.unusedVariables false
variable {Df : List Deferred} {P : Program} {w0 : World} {base : Nat} {I0 I : Imm} {β : Beta} {S : Sl} {σ σ' : Sto} {w : World} {a : Act} {v : V}
@[simp] theorem within_agg (p : Nat → Bool) (l : List V) : (V.agg l).within p = l.all (·.within p) := by simp [V.within]
@[simp] theorem within_tup (p : Nat → Bool) (l : List V) : (V.tup l).within p = l.all (·.within p) := by simp [V.within]
@[simp] theorem within_clo (p : Nat → Bool) (f : Nat) (l : List V) : (V.clo f l).within p = l.all (·.within p) := by simp [V.within]
theorem Rel.within {β' : Beta} {c : Value} (h : Rel I β c v) {p : Nat → Bool} (hw : v.within p = true) (hp : ∀ o x, p o = true → β o = some x → β' o = some x) : Rel I β' c v := by
 induction h with
 | int => exact .int
 | bool => exact .bool
 | str => exact .str
 | nils => exact .nils
 | emp => exact .emp
 | dat0 => exact .dat0
 | datn => exact .datn
 | dat c hb hl hc h1 ho h2 _ => exact .dat c hb hl hc h1 ho h2
 | ref hb hc hn => exact .ref (hp _ _ (by simpa [V.within] using hw) hb) hc hn
 | refz hb => exact .refz (hp _ _ (by simpa [V.within] using hw) hb)
 | ptr hb => exact .ptr (hp _ _ (by simpa [V.within] using hw) hb)
 | nilp => exact .nilp
 | elt c hb h1 ho h2 _ => exact .elt c hb h1 ho h2
 | agg hs ho h ih =>
   simp only [within_agg, List.all_eq_true] at hw
   exact .agg hs ho (fun i c y hc hy => ih i c y hc hy (hw y (List.mem_of_getElem? hy)) hp)
 | tup hs h ih =>
   simp only [within_tup, List.all_eq_true] at hw
   exact .tup hs (fun i c y hc hy => ih i c y hc hy (hw y (List.mem_of_getElem? hy)) hp)
 | clo hf hs h ih =>
   simp only [within_clo, List.all_eq_true] at hw
   exact .clo hf hs (fun i c y hc hy => ih i c y hc hy (hw y (List.mem_of_getElem? hy)) hp)
 | bnd hs h ih =>
   simp only [within_clo, List.all_eq_true] at hw
   exact .bnd hs (fun i c y hc hy => ih i c y hc hy (hw y (List.mem_of_getElem? hy)) hp)
 | nilf => exact .nilf
 | nili => exact .nili
 | ifc h ih => exact .ifc (ih (by simpa [V.within] using hw) hp)
def Beta.only (β : Beta) (σ : Sto) : Beta := fun o => if (look σ o).isSome then β o else Option.none
theorem Beta.only_some {o : Nat} {x : Blk} (h : Beta.only β σ o = some x) : β o = some x ∧ (look σ o).isSome = true := by
 unfold Beta.only at h
 split at h
 ·exact ⟨h, by assumption⟩
 ·simp at h
theorem Beta.only_of {o : Nat} {x : Blk} (h : β o = some x) (hs : (look σ o).isSome = true) : Beta.only β σ o = some x := by
 unfold Beta.only; rw [if_pos hs]; exact h
theorem Inv.fewer (hI : Inv w0 base I0 I β σ w) {σ1 : Sto} (h1 : ∀ o x, look σ1 o = some x → look σ o = some x) (h2 : ∀ o x, look σ1 o = some x → x.st ≠ .dead → ∀ r ∈ x.cells, ∀ y ∈ r, y.within (fun o => (look σ1 o).isSome) = true) :
 Inv w0 base I0 I (Beta.only β σ1) σ1 w := by
 refine ⟨hI.below, hI.baseLe, hI.imm, hI.old, hI.tab, fun o x hx => (Beta.only_some hx).2, fun o x hx => ?_, fun o o' x x' k k' h h' hx hx' hk hk' e => ?_⟩
 ·obtain ⟨k, hk, hes, hb, hr⟩ := hI.ob o x (h1 o x hx)
  refine ⟨k, Beta.only_of hk (by simp [hx]), hes, hb, fun hd => ?_⟩
  obtain ⟨⟨arr, t, fr, hm, hs, hown, hfro, hrel⟩, hl, hz, h1'⟩ := hr hd
  refine ⟨⟨arr, t, fr, hm, hs, hown, hfro, fun i r j y hi hj => ?_⟩, hl, hz, h1'⟩
  obtain ⟨c, hc, hR⟩ := hrel i r j y hi hj
  exact ⟨c, hc, hR.within (h2 o x hx hd r (List.mem_of_getElem? hi) y (List.mem_of_getElem? hj)) (fun o x hp hb => Beta.only_of hb hp)⟩
 ·exact hI.inj o o' x x' k k' (h1 _ _ h) (h1 _ _ h') hx hx' (Beta.only_some hk).1 (Beta.only_some hk').1 e
structure ExtK (K : List Nat) (I : Imm) (β : Beta) (I' : Imm) (β' : Beta) : Prop where
 imm : ∀ b arr, I b = some arr → I' b = some arr
 beta : ∀ o ∈ K, ∀ x, β o = some x → β' o = some x
theorem ExtK.refl (K : List Nat) (I : Imm) (β : Beta) : ExtK K I β I β := ⟨fun _ _ h => h, fun _ _ _ h => h⟩
theorem ExtK.trans {K : List Nat} {I I' I'' : Imm} {β β' β'' : Beta} (h : ExtK K I β I' β') (k : ExtK K I' β' I'' β'') : ExtK K I β I'' β'' := ⟨fun _ _ x => k.imm _ _ (h.imm _ _ x), fun o ho _ x => k.beta o ho _ (h.beta o ho _ x)⟩
theorem Ext.K {K : List Nat} {I I' : Imm} {β β' : Beta} (h : Ext I β I' β') : ExtK K I β I' β' := ⟨h.imm, fun o _ x hx => h.beta o x hx⟩
theorem Weak.sound {K : List Nat} {S1 : Sl} {σ1 : Sto} (h : Weak K S1 σ1 S σ) (hI : Inv w0 base I0 I β σ w) (hS : SRel I β S a) : Inv w0 base I0 I (Beta.only β σ1) σ1 w ∧ SRel I (Beta.only β σ1) S1 a ∧ ExtK K I β I (Beta.only β σ1) := by
 refine ⟨hI.fewer h.obs h.obsIn, fun j v hj => ?_, ⟨fun _ _ h => h, fun o ho x hx => ?_⟩⟩
 ·obtain ⟨c, h1, h2⟩ := hS j v (h.slots j v hj)
  exact ⟨c, h1, h2.within (h.slotsIn j v hj) (fun o x hp hb => Beta.only_of hb hp)⟩
 ·exact Beta.only_of hx (h.keep o ho (hI.dom o x hx))
theorem SRel.put (hS : SRel I β S a) {d : Option Nat} {rv : Value} (hv : Rel I β rv v) (hd : ∀ q, d = some q → q < a.tmps.size) : SRel I β (S.putd d v) (a.put d rv) := by
 cases d with
 | none => exact hS
 | some q =>
   intro j u hj
   simp only [Sl.putd, Sl.set] at hj
   simp only [Act.put]
   split at hj
   ·rename_i e
    injection hj with hj; subst hj; subst e
    exact ⟨rv, by simp [hd j rfl], hv⟩
   ·rename_i e
    obtain ⟨c, h1, h2⟩ := hS j u hj
    exact ⟨c, by rw [Array.getElem?_setIfInBounds, if_neg (Ne.symm e)]; exact h1, h2⟩
theorem put_size (a : Act) (d : Option Nat) (v : Value) : (a.put d v).tmps.size = a.tmps.size := by
 cases d <;> simp [Act.put]
theorem put_defers (a : Act) (d : Option Nat) (v : Value) : (a.put d v).defers = a.defers := by
 cases d <;> simp [Act.put]
structure At (Df : List Deferred) (w0 : World) (base : Nat) (I0 : Imm) (n : Nat) (I : Imm) (β : Beta) (S : Sl) (σ : Sto) (a : Act) (w : World) : Prop where
 inv : Inv w0 base I0 I β σ w
 slots : SRel I β S a
 size : n ≤ a.tmps.size
 defers : a.defers = Df
variable {n : Nat}
theorem At.put (h : At Df w0 base I0 n I β S σ a w) {I' : Imm} {β' : Beta} {w' : World} (hI : Inv w0 base I0 I' β' σ' w') (he : Ext I β I' β') {d : Option Nat} {rv : Value} (hv : Rel I' β' rv v) (hd : ∀ q, d = some q → q < n) :
 At Df w0 base I0 n I' β' (S.putd d v) σ' (a.put d rv) w' :=
 ⟨hI, (h.slots.ext he).put hv (fun q e => Nat.lt_of_lt_of_le (hd q e) h.size), by rw [put_size]; exact h.size, by rw [put_defers]; exact h.defers⟩
theorem callFunc_run {f : Nat} {args : Array Value} (h : isFn P f = true) : (callFunc f args).run P w = .ok (.enter f args) w := by
 unfold isFn at h
 unfold callFunc
 cases hf : P.funcs[f]? with
 | none => simp [hf] at h
 | some fn =>
   simp [hf] at h
   obtain ⟨c, hc⟩ := Option.isSome_iff_exists.1 h.1.1
   simp [hf, h.1.2, hc]
theorem isFn_lt {f : Nat} (h : isFn P f = true) : f < bm := by
 unfold isFn at h
 split at h
 ·simp only [Bool.and_eq_true, decide_eq_true_eq] at h; exact h.2
 ·simp at h
theorem cOp_call {o : Op} {f : Nat} {l : List Opd} (h : cOp P o = some (.call f l)) : ∃ c, o = .call c ∧ c.callee = .value (.func f) ∧ cOpds c.args.toList = some l := by
 cases o <;> simp only [cOp] at h
 case call c =>
  refine ⟨c, rfl, ?_⟩
  split at h
  ·(repeat' split at h) <;> (try (simp at h; done)) <;> (obtain ⟨_, _, h⟩ := opt_map_some h; simp at h)
  ·(repeat' split at h) <;> (try (simp at h; done)) <;> (obtain ⟨_, _, h⟩ := opt_map_some h; simp at h)
  ·(repeat' split at h) <;> simp at h
  ·(repeat' split at h) <;> simp at h
  ·(repeat' split at h) <;> simp at h
  ·(repeat' split at h) <;> simp at h
  ·(repeat' split at h) <;> simp at h
  ·rename_i f' hcal
   split at h
   ·obtain ⟨l', hl, h⟩ := opt_map_some h
    injection h with h1 h2; subst h1; subst h2
    exact ⟨hcal, hl⟩
   ·simp at h
  ·split at h
   ·obtain ⟨_, _, h⟩ := opt_map_some h; simp at h
   ·simp at h
  ·simp at h
 all_goals first
  | (simp at h; done)
  | (obtain ⟨_, _, h⟩ := opt_map_some h; simp at h; done)
  | ((repeat' split at h) <;> first | contradiction | (simp at h; done) | (obtain ⟨_, _, h⟩ := opt_map_some h; simp at h; done))
theorem cOp_callV {o : Op} {x : Opd} {l : List Opd} (h : cOp P o = some (.callV x l)) : ∃ c y, o = .call c ∧ c.callee = .value y ∧ cOpd y = some x ∧ cOpds c.args.toList = some l := by
 cases o <;> simp only [cOp] at h
 case call c =>
  refine ⟨c, ?_⟩
  split at h
  ·(repeat' split at h) <;> (try (simp at h; done)) <;> (obtain ⟨_, _, h⟩ := opt_map_some h; simp at h)
  ·(repeat' split at h) <;> (try (simp at h; done)) <;> (obtain ⟨_, _, h⟩ := opt_map_some h; simp at h)
  ·(repeat' split at h) <;> simp at h
  ·(repeat' split at h) <;> simp at h
  ·(repeat' split at h) <;> simp at h
  ·(repeat' split at h) <;> simp at h
  ·(repeat' split at h) <;> simp at h
  ·split at h
   ·obtain ⟨l', hl, h⟩ := opt_map_some h
    simp at h
   ·simp at h
  ·rename_i y hny hcal
   split at h
   ·rename_i x' hx
    obtain ⟨l', hl, h⟩ := opt_map_some h
    injection h with h1 h2; subst h1; subst h2
    exact ⟨y, rfl, hcal, hx, hl⟩
   ·simp at h
  ·simp at h
 all_goals first
  | (simp at h; done)
  | (obtain ⟨_, _, h⟩ := opt_map_some h; simp at h; done)
  | ((repeat' split at h) <;> first | contradiction | (simp at h; done) | (obtain ⟨_, _, h⟩ := opt_map_some h; simp at h; done))
theorem cOp_callF {o : Op} {f : Nat} {l : List Opd} (h : cOp P o = some (.callF f l)) : False := by
 cases o <;> simp only [cOp] at h
 case call c =>
  split at h
  all_goals (repeat' split at h)
  all_goals first
   | (simp at h; done)
   | (obtain ⟨_, _, h⟩ := opt_map_some h; simp at h; done)
 all_goals first
  | (simp at h; done)
  | (obtain ⟨_, _, h⟩ := opt_map_some h; simp at h; done)
  | ((repeat' split at h) <;> first | contradiction | (simp at h; done) | (obtain ⟨_, _, h⟩ := opt_map_some h; simp at h; done))
theorem cOp_callXF {o : Op} {f : Nat} {l : List Opd} (h : cOp P o = some (.callXF f l)) : False := by
 cases o <;> simp only [cOp] at h
 case call c =>
  split at h
  all_goals (repeat' split at h)
  all_goals first
   | (simp at h; done)
   | (obtain ⟨_, _, h⟩ := opt_map_some h; simp at h; done)
 all_goals first
  | (simp at h; done)
  | (obtain ⟨_, _, h⟩ := opt_map_some h; simp at h; done)
  | ((repeat' split at h) <;> first | contradiction | (simp at h; done) | (obtain ⟨_, _, h⟩ := opt_map_some h; simp at h; done))
theorem cOp_callVF {o : Op} {f : Opd} {l : List Opd} (h : cOp P o = some (.callVF f l)) : False := by
 cases o <;> simp only [cOp] at h
 case call c =>
  split at h
  all_goals (repeat' split at h)
  all_goals first
   | (simp at h; done)
   | (obtain ⟨_, _, h⟩ := opt_map_some h; simp at h; done)
 all_goals first
  | (simp at h; done)
  | (obtain ⟨_, _, h⟩ := opt_map_some h; simp at h; done)
  | ((repeat' split at h) <;> first | contradiction | (simp at h; done) | (obtain ⟨_, _, h⟩ := opt_map_some h; simp at h; done))
theorem cOp_callVA {o : Op} {f : Opd} {l : List Opd} {oth : List Nat} (h : cOp P o = some (.callVA f l oth)) : False := by
 cases o <;> simp only [cOp] at h
 case call c =>
  split at h
  all_goals (repeat' split at h)
  all_goals first
   | (simp at h; done)
   | (obtain ⟨_, _, h⟩ := opt_map_some h; simp at h; done)
 all_goals first
  | (simp at h; done)
  | (obtain ⟨_, _, h⟩ := opt_map_some h; simp at h; done)
  | ((repeat' split at h) <;> first | contradiction | (simp at h; done) | (obtain ⟨_, _, h⟩ := opt_map_some h; simp at h; done))
theorem cOp_rd2 {o : Op} {k : R2} {l : List Opd} (h : cOp P o = some (.rd2 k l)) : (∃ t x n e es x', o = .slice t x none none none ∧ P.underlying t = some (.array n e) ∧ cSize P e = some es ∧ cOpd x = some x' ∧ k = .arr n es ∧ l = [x']) ∨
 (∃ c d s t r e es d' s', o = .call c ∧ c.callee = .builtin .copy ∧ c.args.toList = [d, s] ∧ c.argTypes.toList = t :: r ∧ P.underlying t = some (.slice e) ∧ cSize P e = some es ∧ cOpd d = some d' ∧ cOpd s = some s' ∧ k = .cpy ∧ l = [d', s']) ∨
 ∃ c x y x' y', o = .call c ∧ c.callee = .builtin .max ∧ c.args.toList = [x, y] ∧ cOpd x = some x' ∧ cOpd y = some y' ∧ k = .mx ∧ l = [x', y'] := by
 cases o <;> simp only [cOp] at h
 case call c =>
  right
  split at h
  case h_7 hcal =>
   right
   split at h
   ·rename_i x y hda
    split at h
    ·rename_i x' y' hx hy
     injection h with h; injection h with h1 h2
     exact ⟨c, x, y, x', y', rfl, hcal, hda, hx, hy, h1.symm, h2.symm⟩
    ·simp at h
   ·simp at h
  case h_6 hcal =>
   left
   split at h
   ·rename_i d s t r hda hty
    split at h
    ·rename_i e hu
     split at h
     ·rename_i es d' s' hes hd hs
      injection h with h; injection h with h1 h2
      exact ⟨c, d, s, t, r, e, es, d', s', rfl, hcal, hda, hty, hu, hes, hd, hs, h1.symm, h2.symm⟩
     ·simp at h
    ·simp at h
   ·simp at h
  all_goals (exfalso; repeat' split at h)
  all_goals first
   | (simp at h; done)
   | (obtain ⟨_, _, h⟩ := opt_map_some h; simp at h; done)
 case slice t x lo hi mx =>
  left
  split at h
  ·split at h <;> simp at h
  ·split at h <;> simp at h
  ·rename_i n e hu
   split at h
   ·rename_i es x' hes hx
    injection h with h; injection h with h1 h2
    exact ⟨t, x, n, e, es, x', rfl, hu, hes, hx, h1.symm, h2.symm⟩
   ·simp at h
  ·simp at h
 all_goals exfalso
 all_goals first
  | (simp at h; done)
  | (obtain ⟨_, _, h⟩ := opt_map_some h; simp at h; done)
  | ((repeat' split at h) <;> first | contradiction | (simp at h; done) | (obtain ⟨_, _, h⟩ := opt_map_some h; simp at h; done))
end Go.Proofs.YtkockkfmjmheeaaGreat.E

namespace Go.Proofs.YtkockkfmjmheeaaGreat.E
open Go Go.RowKit
set_option linter.unusedSimpArgs false
set_option linter.unusedVariables false
variable {Df : List Deferred} {P : Program} {w0 : World} {base : Nat} {I0 I : Imm} {β : Beta} {S : Sl} {σ σ' : Sto} {w : World} {a : Act} {v : V} {n : Nat}
theorem exec_call {o : Oper} {c : Call} {f : Nat} (ho : o.op = .call c) (hc : c.callee = .value (.func f)) (hf : isFn P f = true) : (execOp a.eval o).run P w = .ok (.enter f (c.args.map a.eval)) w := by
 have : a.eval (.func f) = .func (.func f) #[] #[] := rfl
 simp [execOp, ho, resolve, hc, this, Deferred.ofValue, invoke, callFunc_run hf]
theorem exec_callV {o : Oper} {c : Call} {y : Operand} {f : Nat} {cs : Array Value} (ho : o.op = .call c) (hc : c.callee = .value y) (hy : a.eval y = .func (.func f) #[] cs) (hf : isFn P f = true) :
 (execOp a.eval o).run P w = .ok (.enter f (c.args.map a.eval ++ cs)) w := by
 simp [execOp, ho, resolve, hc, hy, Deferred.ofValue, invoke, callFunc_run hf]
theorem exec_callB {o : Oper} {c : Call} {y : Operand} {f : Nat} {cs : Array Value} (ho : o.op = .call c) (hc : c.callee = .value y) (hy : a.eval y = .func (.func f) cs #[]) (hf : isFn P f = true) :
 (execOp a.eval o).run P w = .ok (.enter f (cs ++ c.args.map a.eval)) w := by
 simp [execOp, ho, resolve, hc, hy, Deferred.ofValue, invoke, callFunc_run hf]
theorem args_rel (hS : SRel I β S a) {xs : Array Operand} {ys : List Opd} {vs : List V} (h1 : cOpds xs.toList = some ys) (h2 : evs S ys = some vs) : ArgsRel I β (xs.map a.eval) vs := by
 obtain ⟨h3, h4⟩ := evs_sound hS h1 h2
 exact ⟨by simpa using h3, fun i c v hc hv => h4 i c v (by simpa using hc) hv⟩
theorem args_app {cs ds : Array Value} {us vs : List V} (h : ArgsRel I β cs us) (k : ArgsRel I β ds vs) : ArgsRel I β (cs ++ ds) (us ++ vs) := by
 refine ⟨by simp [h.1, k.1], fun i c v hc hv => ?_⟩
 rw [Array.getElem?_append] at hc
 rw [List.getElem?_append] at hv
 rw [h.1] at hc
 split at hv
 ·rename_i hlt; rw [if_pos hlt] at hc; exact h.2 i c v hc hv
 ·rename_i hlt; rw [if_neg hlt] at hc; exact k.2 _ c v hc hv
theorem chunk_len (es : Nat) : ∀ (n : Nat) (l : List V), (chunk es n l).length = n
 | 0, _ => rfl
 | n + 1, l => by simp [chunk, chunk_len es n]
theorem chunk_get {es : Nat} : ∀ {n : Nat} {l : List V} {i : Nat} {r : List V}, n * es ≤ l.length → (chunk es n l)[i]? = some r → r.length = es ∧ ∀ (j : Nat) (y : V), r[j]? = some y → l[i * es + j]? = some y
 | 0, l, i, r, _, h => by simp [chunk] at h
 | n + 1, l, i, r, hl, h => by
   rw [Nat.add_mul, Nat.one_mul] at hl
   cases i with
   | zero =>
     simp [chunk] at h; subst h
     refine ⟨by simp; omega, fun j y hj => ?_⟩
     rw [List.getElem?_take] at hj
     split at hj
     ·simpa using hj
     ·simp at hj
   | succ i =>
     simp only [chunk, List.getElem?_cons_succ] at h
     obtain ⟨h1, h2⟩ := chunk_get (l := l.drop es) (by simp; omega) h
     refine ⟨h1, fun j y hj => ?_⟩
     have := h2 j y hj
     rw [List.getElem?_drop] at this
     rw [← this]; congr 1
     rw [Nat.add_mul]; omega
theorem step_sound {o : Oper} {m m' : MOp} (hc : cOp P o.op = some m) (hm : m' = m ∨ ∃ b, m' = m.fnl b) {K : V → Sto → Prop} (h : Step P m' S σ K) (hA : At Df w0 base I0 n I β S σ a w) (Q : Exit → Act → World → Prop) (next : Act → World → Prop)
 (hn : ∀ v σ' I' β' rv w', K v σ' → Inv w0 base I0 I' β' σ' w' → Ext I β I' β' → Rel I' β' rv v → next (a.put o.dst rv) w') : o.wp P a w next Q := by
 have viaX : ∀ (f : Nat) (vs : List V) (cs : Array Value), CallX P f vs σ K → ArgsRel I β cs vs → (execOp a.eval o).run P w = .ok (.enter f cs) w → o.wp P a w next Q := by
  intro f vs cs hX hargs hrun
  unfold Oper.wp
  rw [hrun, Oper.upon_enter]
  refine (hX.2 w0 base I0 I β w cs hA.inv hargs).mono ?_
  rintro e w' ⟨rv, I', β', r, σ', rfl, h1, h2, h3, h4⟩
  exact hn r σ' I' β' rv w' h4 h1 h2 h3
 have viaE : ∀ v σ', evOp S σ m = some (v, σ') → K v σ' → o.wp P a w next Q := by
  intro v σ' he hK
  obtain ⟨nx, w', I', β', rv, hr, hnx, hrel, hinv, hext⟩ := op_sound (w := w) hc he hA.slots hA.inv
  unfold Oper.wp
  rw [hr]
  rcases hnx with rfl | ⟨rfl, rfl⟩
  ·exact hn v σ' I' β' rv w' hK hinv hext hrel
  ·exact hn v σ' I' β' undef w' hK hinv hext hrel
 have viaG : ∀ (v : V) (σ' : Sto), K v σ' → ∀ (rv : Value), (execOp a.eval o).run P w = .ok (.value rv) w → ∀ {I' : Imm}, Rel I' β rv v → Inv w0 base I0 I' β σ' w → Ext I β I' β → o.wp P a w next Q := by
  intro v σ' hK rv hr I' hrel hinv hext
  unfold Oper.wp
  rw [hr]
  exact hn v σ' I' β rv w hK hinv hext hrel
 have mono : ∀ {f : Nat} {vs : List V} {r : V} {σ' : Sto}, CallX P f vs σ (fun r' s => r' = r ∧ s = σ') → K r σ' → CallX P f vs σ K := by
  intro f vs r σ' h hK
  exact ⟨h.1, fun w0 base I0 I β w cs hI ha => (h.2 w0 base I0 I β w cs hI ha).mono fun e w' ⟨rv, I', β', r2, s2, h1, h2, h3, h4, h5⟩ => ⟨rv, I', β', r2, s2, h1, h2, h3, h4, by obtain ⟨e1, e2⟩ := h5; subst e1; subst e2; exact hK⟩⟩
 cases m with
 | call f l =>
   obtain ⟨c, ho, hcal, hl⟩ := cOp_call hc
   have hm3 : m' = .call f l ∨ m' = .callF f l ∨ m' = .rd2 (.fn f) l ∨ m' = .callXF f l := by
    rcases hm with rfl | ⟨b, rfl⟩
    ·exact .inl rfl
    ·simp only [MOp.fnl]
     repeat' split
     all_goals simp
   rcases hm3 with rfl | rfl | rfl | rfl
   ·obtain ⟨vs, h1, h2⟩ := h
    exact viaX f vs _ h2 (args_rel hA.slots hl h1) (exec_call ho hcal h2.1)
   ·obtain ⟨vs, ds, r, h1, h2, h3, h4⟩ := h
    have hX : CallX P f vs σ K := CallX.of_D h2 h3 (fun r' e => by subst e; exact h4)
    exact viaX f vs _ hX (args_rel hA.slots hl h1) (exec_call ho hcal hX.1)
   ·obtain ⟨us, vs, ds, r, h1, h2, h3, h4, h5⟩ := h
    simp only [R2.args] at h2
    injection h2 with h2; subst h2
    simp only [R2.res] at h4
    have hX : CallX P f us σ K := CallX.of_P h3 h4 (fun r' e => by subst e; exact h5)
    exact viaX f us _ hX (args_rel hA.slots hl h1) (exec_call ho hcal hX.1)
   ·obtain ⟨vs, r, s, h1, h2, h3⟩ := h
    exact viaX f vs _ (mono h2 h3) (args_rel hA.slots hl h1) (exec_call ho hcal h2.1)
 | callF f l => exact (cOp_callF hc).elim
 | callXF f l => exact (cOp_callXF hc).elim
 | callVF f l => exact (cOp_callVF hc).elim
 | callVA f l oth => exact (cOp_callVA hc).elim
 | rd2 k l =>
   rcases cOp_rd2 hc with ⟨t, x, n', e, es, x', ho, hu, hes, hx, rfl, rfl⟩ | ⟨c, d, s, t, r0, e, es, d', s', ho, hcal, hda, hty, hu, hes, hd, hs, rfl, rfl⟩ | ⟨c, x, y, x', y', ho, hcal, hda, hx, hy, rfl, rfl⟩
   rotate_left
   rotate_left
   ·have hm' : m' = .rd2 .mx [x', y'] := by
     rcases hm with rfl | ⟨b, rfl⟩
     ·rfl
     ·rfl
    subst hm'
    obtain ⟨us, vs, ds, r, h1, h2, h3, h4, h5⟩ := h
    simp only [evs] at h1
    split at h1
    case h_2 => simp at h1
    rename_i u us' e1 e2
    injection h1 with h1; subst h1
    split at e2
    case h_2 => simp at e2
    rename_i u2 us2 e3 e4
    injection e2 with e2; subst e2
    injection e4 with e4; subst e4
    simp only [R2.args] at h2
    injection h2 with h2; subst h2
    have hds : ∃ k p k' q, ds = [.int k p, .int k' q] ∧ r = .int k (if q > p then q else p) := by
     unfold R2.res at h4
     split at h4
     all_goals first
      | (exact ⟨_, _, _, _, rfl, h4⟩)
      | (simp at *; done)
      | (exact h4.elim)
    obtain ⟨k, p, k', q, rfl, rfl⟩ := hds
    have hb : behindP σ [u, u2] (.int k (if q > p then q else p)) = σ := by unfold behindP; rw [if_pos (by simp [V.scalar])]
    rw [hb] at h5
    obtain ⟨g1, g2⟩ := toPs_sound hA.inv (rchPs σ [u, u2]) h3 (fun o ho => ho)
    have hX := (g2 0 _ u (.int k p) (ev_sound hx hA.slots e1) rfl rfl).inv_int
    have hY := (g2 1 _ u2 (.int k' q) (ev_sound hy hA.slots e3) rfl rfl).inv_int
    have hargs : c.args = #[x, y] := by rw [← Array.toList_inj]; simpa using hda
    refine viaG _ _ h5 (.int k (if q > p then q else p)) ?_ .int hA.inv (Ext.refl _ _)
    simp [execOp, ho, resolve, hcal, hargs, hX, hY, invoke, builtin, Builtin.max_, Builtin.max2]
   rotate_left
   ·have hm' : m' = .rd2 .cpy [d', s'] := by
     rcases hm with rfl | ⟨b, rfl⟩
     ·rfl
     ·rfl
    subst hm'
    obtain ⟨us, vs, ds, r, h1, h2, h3, h4, h5⟩ := h
    simp only [evs] at h1
    split at h1
    case h_2 => simp at h1
    rename_i u us' e1 e2
    injection h1 with h1; subst h1
    split at e2
    case h_2 => simp at e2
    rename_i u2 us2 e3 e4
    injection e2 with e2; subst e2
    injection e4 with e4; subst e4
    simp only [R2.args] at h2
    injection h2 with h2; subst h2
    have hds : ∃ l, ds = [.dat l, .dat []] ∧ r = .int .i64 0 := by
     unfold R2.res at h4
     split at h4
     all_goals first
      | (exact ⟨_, rfl, h4⟩)
      | (simp at *; done)
      | (exact h4.elim)
    obtain ⟨l, rfl, rfl⟩ := hds
    have hb : behindP σ [u, u2] (.int .i64 0) = σ := by unfold behindP; rw [if_pos (by simp [V.scalar])]
    rw [hb] at h5
    obtain ⟨g1, g2⟩ := toPs_sound hA.inv (rchPs σ [u, u2]) h3 (fun o ho => ho)
    have hD := g2 0 _ u (.dat l) (ev_sound hd hA.slots e1) rfl rfl
    have hSr := g2 1 _ u2 (.dat []) (ev_sound hs hA.slots e3) rfl rfl
    obtain ⟨dad, dn, dcap, hdx⟩ : ∃ ad n cap, a.eval d = .slice ad n cap := by
     rcases hD.inv_dat with ⟨_, ad, cap, e, _⟩ | ⟨b, off, cap, es', arr, _, _, _, e, _⟩
     ·exact ⟨_, _, _, e⟩
     ·exact ⟨_, _, _, e⟩
    obtain ⟨sad, scap, hsx⟩ : ∃ ad cap, a.eval s = .slice ad 0 cap := by
     rcases hSr.inv_dat with ⟨_, ad, cap, e, _⟩ | ⟨b, off, cap, es', arr, _, _, _, e, _⟩
     ·exact ⟨_, _, e⟩
     ·exact ⟨_, _, e⟩
    have hargs : c.args = #[d, s] := by rw [← Array.toList_inj]; simpa using hda
    have h0 : c.argTypes[0]? = some t := by rw [← Array.getElem?_toList, hty]; rfl
    refine viaG _ _ h5 (.int .i64 0) ?_ .int hA.inv (Ext.refl _ _)
    have key : (Builtin.copy_ c.argTypes o.type #[a.eval d, a.eval s]).run P w = .ok (.int .i64 0) w := by
     rw [hdx, hsx]
     cases sad with
     | none => cases dad <;> simp [Builtin.copy_, h0, run_underlying hu, Builtin.lenOf, Builtin.firstCells, cSize_run hes, storeCells, goInt]
     | some q => cases dad <;> simp [Builtin.copy_, h0, run_underlying hu, Builtin.lenOf, Builtin.firstCells, cSize_run hes, storeCells, goInt, loadCells, loadCellsFrom, Result.andThen]
    simp [execOp, ho, resolve, hcal, hargs, invoke, builtin, key]
   have hm' : m' = .rd2 (.arr n' es) [x'] := by
    rcases hm with rfl | ⟨b, rfl⟩
    ·rfl
    ·rfl
   subst hm'
   obtain ⟨us, vs, ds, r, h1, h2, h3, h4, h5⟩ := h
   simp only [evs] at h1
   split at h1
   case h_2 => simp at h1
   rename_i u us' e1 e2
   injection h1 with h1; subst h1
   injection e2 with e2; subst e2
   simp only [R2.args] at h2
   injection h2 with h2; subst h2
   have hds : ∃ l, ds = [.elt l] ∧ es ≠ 0 ∧ n' * es ≤ l.length ∧ r = .dat (chunk es n' l) := by
    unfold R2.res at h4
    split at h4
    ·simp at *
    ·simp at *
    ·simp at *
    ·simp at *
    ·simp at *
    ·rename_i l' e0
     injection e0 with e3 e4; subst e3; subst e4
     exact ⟨l', rfl, h4⟩
    ·exact h4.elim
   obtain ⟨l', rfl, hes0, hfit, rfl⟩ := hds
   have hb : behindP σ [u] (.dat (chunk es n' l')) = frz σ (rchPs σ [u]) := by unfold behindP; rw [if_neg (by simp [V.scalar])]
   rw [hb] at h5
   obtain ⟨hF, hext⟩ := hA.inv.freeze (rchPs σ [u])
   obtain ⟨g1, g2⟩ := toPs_sound hA.inv (rchPs σ [u]) h3 (fun o ho => ho)
   have hR := g2 0 _ u (.elt l') (ev_sound hx hA.slots e1) rfl rfl
   obtain ⟨b, off, arr, hIb, hcx, hone, hcell⟩ := hR.inv_elt
   refine viaG _ _ h5 (.slice (some ⟨b, off, none⟩) n' n') ?_ ?_ hF hext
   ·simp [execOp, ho, hcx, Instr.sliceAt, run_underlying hu, Instr.sureAddr, Instr.sliceBounds, cSize_run hes, add_mk]
   ·have hlen : (chunk es n' l').length = n' := chunk_len es n' l'
    have := Rel.mk_dat (I := Ifz I β σ w (rchPs σ [u])) (β := β) (l := chunk es n' l') (b := b) (off := off) (cap := n') (es := es) (arr := arr) hIb
     (fun i x hi => (chunk_get hfit hi).1) (by omega)
     (fun i x j y hi hj => hone _ _ ((chunk_get hfit hi).2 j y hj))
     (fun i x j y hi hj => by
       obtain ⟨c, c1, c2⟩ := hcell _ _ ((chunk_get hfit hi).2 j y hj)
       exact ⟨c, by rw [← c1]; congr 1; omega, c2⟩)
    rwa [hlen] at this
 | callV x l =>
   obtain ⟨c, y, ho, hcal, hx, hl⟩ := cOp_callV hc
   have hm3 : m' = .callV x l ∨ m' = .rd2 .dyn (x :: l) ∨ m' = .rd2 .bnd (x :: l) ∨ m' = .callVF x l := by
    rcases hm with rfl | ⟨b, rfl⟩
    ·exact .inl rfl
    ·simp only [MOp.fnl]
     repeat' split
     all_goals simp
   rcases hm3 with rfl | rfl | rfl | rfl
   ·obtain ⟨f, cap, vs, h1, h2, h3⟩ := h
    obtain ⟨cs, hcs, h4, h5⟩ := (ev_sound hx hA.slots h1).inv_clo (isFn_lt h3.1)
    exact viaX f _ _ h3 (args_app (args_rel hA.slots hl h2) ⟨h4, h5⟩) (exec_callV ho hcal hcs h3.1)
   ·obtain ⟨us, vs, ds, r, h1, h2, h3, h4, h5⟩ := h
    simp only [evs] at h1
    split at h1
    ·rename_i u us' e1 e2
     injection h1 with h1; subst h1
     cases u <;> simp only [R2.args] at h2 <;> (try (simp at h2; done))
     rename_i f cap
     injection h2 with h2; subst h2
     simp only [R2.res] at h4
     have hX : CallX P f (us' ++ cap) σ K := CallX.of_P h3 h4 (fun r' e => by subst e; exact h5)
     obtain ⟨cs, hcs, h6, h7⟩ := (ev_sound hx hA.slots e1).inv_clo (isFn_lt hX.1)
     exact viaX f _ _ hX (args_app (args_rel hA.slots hl e2) ⟨h6, h7⟩) (exec_callV ho hcal hcs hX.1)
    ·simp at h1
   ·obtain ⟨us, vs, ds, r, h1, h2, h3, h4, h5⟩ := h
    simp only [evs] at h1
    split at h1
    ·rename_i u us' e1 e2
     injection h1 with h1; subst h1
     cases u <;> simp only [R2.args] at h2 <;> (try (simp at h2; done))
     rename_i f cap
     injection h2 with h2; subst h2
     simp only [R2.res] at h4
     have hX : CallX P (f - bm) (cap ++ us') σ K := CallX.of_P h3 h4.2 (fun r' e => by subst e; exact h5)
     rcases (ev_sound hx hA.slots e1).inv_cloB with ⟨cs, hcs, hf, h6, h7⟩ | ⟨g, cs, hg, hcs, h6, h7⟩
     ·exact absurd h4.1 (by omega)
     ·subst hg
      rw [Nat.add_sub_cancel] at hX
      exact viaX g _ _ hX (args_app ⟨h6, h7⟩ (args_rel hA.slots hl e2)) (exec_callB ho hcal hcs hX.1)
    ·simp at h1
   ·obtain ⟨f, cap, vs, r, s, h1, h2, h3, h6⟩ := h
    obtain ⟨cs, hcs, h4, h5⟩ := (ev_sound hx hA.slots h1).inv_clo (isFn_lt h3.1)
    exact viaX f _ _ (mono h3 h6) (args_app (args_rel hA.slots hl h2) ⟨h4, h5⟩) (exec_callV ho hcal hcs h3.1)
 | _ =>
   rcases hm with rfl | ⟨b, rfl⟩ <;> (obtain ⟨v, σ', he, hK⟩ := h; exact viaE v σ' he hK)
theorem wpOp_sound {b : Nat} {ops : Array Oper} {i : Nat} {o : Oper} {m : MOper} (hi : ops[i]? = some o) (hc : cOper P n b ops o = some m) {K : Sl → Sto → Prop} (h : WpOp P m S σ K) (hA : At Df w0 base I0 n I β S σ a w)
 (Q : Exit → Act → World → Prop) (next : Act → World → Prop) (hn : ∀ S' σ' I' β' a' w', K S' σ' → At Df w0 base I0 n I' β' S' σ' a' w' → Ext I β I' β' → next a' w') : wpOp P ops Q i next a w := by
 unfold cOper at hc
 split at hc
 case h_2 => simp at hc
 rename_i m0 hm0
 split at hc
 case isFalse => simp at hc
 rename_i hdst
 have hd : ∀ q, o.dst = some q → q < n := by
  intro q hq; rw [hq] at hdst; simpa [dstOk] using hdst
 have hfn : ∀ x : MOp, x = (if b = 0 then m0 else m0.fnl b) → x = m0 ∨ ∃ b, x = m0.fnl b := by
  intro x hx
  split at hx
  ·exact .inl hx
  ·exact .inr ⟨b, hx⟩
 have hrun : ∀ x : MOp, x = (if b = 0 then m0 else m0.fnl b) → Step P x S σ (fun v σ' => K (S.putd o.dst v) σ') → o.wp P a w next Q := by
  intro x hx hs
  exact step_sound hm0 (hfn x hx) hs hA Q next (fun v σ' I' β' rv w' hK hinv hext hrel => hn _ _ I' β' _ w' hK (hA.put hinv hext hrel hd) hext)
 have hskip : K (S.putd o.dst (.tup [])) σ → next (a.put o.dst undef) w := by
  intro hK
  exact hn _ _ I β _ w hK (hA.put hA.inv (Ext.refl _ _) (.tup (cs := #[]) rfl (fun i c y hc _ => by simp at hc)) hd) (Ext.refl _ _)
 unfold wpOp
 rw [hi]
 simp only []
 cases hg : o.guard with
 | none =>
   simp only [hg] at hc
   injection hc with hc; subst hc
   have hw : Region.wanted o (yielded ops a.tmps) = true := by simp [Region.wanted, hg]
   rw [if_pos hw]
   exact .inl (hrun _ rfl h)
 | some jb =>
   obtain ⟨j, t⟩ := jb
   simp only [hg] at hc
   split at hc
   ·rename_i d hj
    injection hc with hc; subst hc
    simp only [WpOp] at h
    split at h
    ·rename_i t' hS
     obtain ⟨c, h1, h2⟩ := hA.slots d _ hS
     obtain rfl := h2.inv_bool
     have hy : yielded ops a.tmps j = some t' := by simp [yielded, hj, h1]
     by_cases e : t' = t
     ·have hw : Region.wanted o (yielded ops a.tmps) = true := by simp [Region.wanted, hg, hy, e]
      rw [if_pos hw]
      exact .inl (hrun _ rfl (h.1 e))
     ·have hw : Region.wanted o (yielded ops a.tmps) = false := by simp [Region.wanted, hg, hy, e]
      rw [hw]
      exact hskip (h.2 e)
    ·rename_i hS
     obtain ⟨c, h1, h2⟩ := hA.slots d _ hS
     obtain ⟨cs, rfl, _, _⟩ := h2.inv_tup
     have hy : yielded ops a.tmps j = none := by simp [yielded, hj, h1]
     have hw : Region.wanted o (yielded ops a.tmps) = false := by simp [Region.wanted, hg, hy]
     rw [hw]
     exact hskip h
    ·exact h.elim
   ·simp at hc
def cOpers (P : Program) (n : Nat) (b : Nat) (ops : Array Oper) : List Oper → Option (List MOper)
 | [] => some []
 | o :: r => match cOper P n b ops o, cOpers P n b ops r with
   | some m, some l => some (m :: l)
   | _, _ => none
theorem cOpers_get {b : Nat} {ops : Array Oper} : ∀ {l : List Oper} {ms : List MOper}, cOpers P n b ops l = some ms → l.length = ms.length ∧ ∀ (i : Nat) (o : Oper), l[i]? = some o → ∃ m, ms[i]? = some m ∧ cOper P n b ops o = some m
 | [], ms, h => by simp [cOpers] at h; subst h; simp
 | o :: l, ms, h => by
   simp only [cOpers] at h
   split at h
   ·rename_i m ms' h1 h2
    injection h with h; subst h
    obtain ⟨g1, g2⟩ := cOpers_get h2
    refine ⟨by simp [g1], fun i o' hi => ?_⟩
    cases i with
    | zero => simp at hi; subst hi; exact ⟨m, rfl, h1⟩
    | succ i => exact g2 i o' (by simpa using hi)
   ·simp at h
def WpIdx (P : Program) (ms : List MOper) : List Nat → Sl → Sto → (Sl → Sto → Prop) → Prop
 | [], S, σ, Q => Q S σ
 | i :: rest, S, σ, Q => match ms[i]? with
   | some m => WpOp P m S σ fun S' σ' => WpIdx P ms rest S' σ' Q
   | none => False
theorem WpIdx_range (ms : List MOper) : ∀ (l : List MOper) (k : Nat), (∀ j, l[j]? = ms[k + j]?) → ∀ (S : Sl) (σ : Sto) (Q : Sl → Sto → Prop), WpOps P l S σ Q = WpIdx P ms (List.range' k l.length) S σ Q
 | [], k, h, S, σ, Q => rfl
 | o :: l, k, h, S, σ, Q => by
   simp only [WpOps, List.length_cons, List.range'_succ, WpIdx]
   have h0 := h 0
   simp at h0
   rw [← h0]
   simp only []
   congr 1
   funext S' σ'
   exact WpIdx_range ms l (k + 1) (fun j => by have := h (j + 1); simp only [List.getElem?_cons_succ] at this; rw [this]; congr 1; omega) S' σ' Q
theorem wpOps_sound {b : Nat} {ops : Array Oper} {ms : List MOper} (hc : cOpers P n b ops ops.toList = some ms) {Q' : Sl → Sto → Prop} (Q : Exit → Act → World → Prop) : ∀ (l : List Nat) {S : Sl} {σ : Sto} {I : Imm} {β : Beta} {a : Act} {w : World},
 WpIdx P ms l S σ Q' → At Df w0 base I0 n I β S σ a w → (∀ S' σ' I' β' a' w', Q' S' σ' → At Df w0 base I0 n I' β' S' σ' a' w' → Ext I β I' β' → Q .normal a' w') → wpOps P ops Q l a w
 | [], S, σ, I, β, a, w, h, hA, hn => hn S σ I β a w h hA (Ext.refl _ _)
 | i :: l, S, σ, I, β, a, w, h, hA, hn => by
   rw [wpOps_cons]
   simp only [WpIdx] at h
   split at h
   ·rename_i m hm
    obtain ⟨g1, g2⟩ := cOpers_get hc
    have hlt : i < ops.toList.length := by rw [g1]; exact (List.getElem?_eq_some_iff.1 hm).1
    obtain ⟨m', hm', hcm⟩ := g2 i ops.toList[i] (List.getElem?_eq_getElem hlt)
    rw [hm] at hm'; injection hm' with hm'; subst hm'
    have hlt2 : i < ops.size := by simpa using hlt
    exact wpOp_sound (o := ops[i]) (by simp [hlt2]) (by simpa using hcm) h hA Q _ (fun S' σ' I' β' a' w' hK hA' hext => wpOps_sound hc Q l hK hA' (fun S2 σ2 I2 β2 a2 w2 h1 h2 h3 => hn S2 σ2 I2 β2 a2 w2 h1 h2 (hext.trans h3)))
   ·exact h.elim
theorem keep_slots : ∀ (l : List Nat) (S : Sl) (j : Nat) (v : V), S.keep l j = some v → S j = some v
 | [], S, j, v, h => by simp [Sl.keep, Sl.empty] at h
 | k :: l, S, j, v, h => by
   simp only [Sl.keep] at h
   cases hu : S k with
   | none => rw [hu] at h; exact keep_slots l S j v h
   | some u =>
     rw [hu] at h
     simp only [Sl.set] at h
     split at h
     ·rename_i e; rw [e, hu]; exact h
     ·exact keep_slots l S j v h
theorem At.keepO (h : At Df w0 base I0 n I β S σ a w) (l : Option (List Nat)) : At Df w0 base I0 n I β (S.keepO l) σ a w := by
 cases l with
 | none => exact h
 | some l => exact ⟨h.inv, fun j v hj => h.slots j v (keep_slots l S j v hj), h.size, h.defers⟩
theorem region_sound {b : Nat} {id : Nat} {ops : Array Oper} {ms : List MOper} (hc : cOpers P n b ops ops.toList = some ms) {Q' : Sl → Sto → Prop} (Q : Exit → Act → World → Prop) (h : WpOps P ms S σ Q') (hA : At Df w0 base I0 n I β S σ a w)
 (hn : ∀ S' σ' I' β' a' w', Q' S' σ' → At Df w0 base I0 n I' β' S' σ' a' w' → Ext I β I' β' → Q .normal a' w') : (Code.region id ops false).wp P Q a w := by
 refine wp_region (wpOps_sound hc Q _ ?_ hA hn)
 have hl : ops.size = ms.length := by have := (cOpers_get hc).1; simpa using this
 rw [hl, List.range_eq_range', ← WpIdx_range ms ms 0 (fun j => by simp)]
 exact h
end Go.Proofs.YtkockkfmjmheeaaGreat.E
