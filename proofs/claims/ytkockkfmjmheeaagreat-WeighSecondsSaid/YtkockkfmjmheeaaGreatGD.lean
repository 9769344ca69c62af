import Derived.Test.YtkockkfmjmheeaaGreatGC
import Derived.Test.YtkockkfmjmheeaaGreatGF
import Derived.Laws.Bits64b
import Derived.Laws.BitsAllLaws
import Derived.Defers
import Derived.Recover
import Derived.WalkKit
import Derived.Tactics
namespace Go.Proofs.YtkockkfmjmheeaaGreat.E
open Go Go.RowKit
set_option linter.unusedSimpArgs false
set_option linter.unusedVariables false
variable {P : Program} {S S' : Sl} {σ σ' : Sto} {v : V}
def Opt (x : Option (V × Sto)) (K : V → Sto → Prop) : Prop :=
 match x with
 | some (v, σ) => K v σ
 | none => False
@[congr] theorem Opt.cg {x x' : Option (V × Sto)} {K : V → Sto → Prop} (h : x = x') : Opt x K = Opt x' K := by subst h; rfl
@[simp] theorem opt_some {v : V} {σ : Sto} {K : V → Sto → Prop} : Opt (some (v, σ)) K = K v σ := (rfl)
@[simp] theorem opt_none {K : V → Sto → Prop} : Opt none K = False := (rfl)
theorem wp_opt {d : Option Nat} {m : MOp} {rest : List MOper} {Q : Sl → Sto → Prop} (h : m.evb = true) : WpOps P (⟨d, m, none⟩ :: rest) S σ Q = Opt (evOp S σ m) (Nxt P rest d S Q) := by
 rw [wp_ev h]
 apply propext
 constructor
 ·rintro ⟨v, σ', h1, h2⟩; rw [h1]; exact h2
 ·intro h
  cases e : evOp S σ m with
  | none => rw [e] at h; exact h.elim
  | some p => rw [e] at h; exact ⟨p.1, p.2, rfl, h⟩
@[simp] theorem wp_mv {d : Option Nat} {rest : List MOper} {Q : Sl → Sto → Prop} {x} : WpOps P (⟨d, .mv x, none⟩ :: rest) S σ Q = Opt (evOp S σ (.mv x)) (Nxt P rest d S Q) := wp_opt rfl
@[simp] theorem wp_pick {d : Option Nat} {rest : List MOper} {Q : Sl → Sto → Prop} {c a b} : WpOps P (⟨d, .pick c a b, none⟩ :: rest) S σ Q = Opt (evOp S σ (.pick c a b)) (Nxt P rest d S Q) := wp_opt rfl
@[simp] theorem wp_box {d : Option Nat} {rest : List MOper} {Q : Sl → Sto → Prop} {x} : WpOps P (⟨d, .box x, none⟩ :: rest) S σ Q = Opt (evOp S σ (.box x)) (Nxt P rest d S Q) := wp_opt rfl
@[simp] theorem wp_alloc {d : Option Nat} {rest : List MOper} {Q : Sl → Sto → Prop} {z} : WpOps P (⟨d, .alloc z, none⟩ :: rest) S σ Q = Opt (evOp S σ (.alloc z)) (Nxt P rest d S Q) := wp_opt rfl
@[simp] theorem wp_build {d : Option Nat} {rest : List MOper} {Q : Sl → Sto → Prop} {z parts} : WpOps P (⟨d, .build z parts, none⟩ :: rest) S σ Q = Opt (evOp S σ (.build z parts)) (Nxt P rest d S Q) := wp_opt rfl
@[simp] theorem wp_buildSl {d : Option Nat} {rest : List MOper} {Q : Sl → Sto → Prop} {es len z parts} : WpOps P (⟨d, .buildSl es len z parts, none⟩ :: rest) S σ Q = Opt (evOp S σ (.buildSl es len z parts)) (Nxt P rest d S Q) := wp_opt rfl
@[simp] theorem wp_ld {d : Option Nat} {rest : List MOper} {Q : Sl → Sto → Prop} {k a} : WpOps P (⟨d, .ld k a, none⟩ :: rest) S σ Q = Opt (evOp S σ (.ld k a)) (Nxt P rest d S Q) := wp_opt rfl
@[simp] theorem wp_st {d : Option Nat} {rest : List MOper} {Q : Sl → Sto → Prop} {n a x} : WpOps P (⟨d, .st n a x, none⟩ :: rest) S σ Q = Opt (evOp S σ (.st n a x)) (Nxt P rest d S Q) := wp_opt rfl
@[simp] theorem wp_bin {d : Option Nat} {rest : List MOper} {Q : Sl → Sto → Prop} {op x y} : WpOps P (⟨d, .bin op x y, none⟩ :: rest) S σ Q = Opt (evOp S σ (.bin op x y)) (Nxt P rest d S Q) := wp_opt rfl
@[simp] theorem wp_binB {d : Option Nat} {rest : List MOper} {Q : Sl → Sto → Prop} {op x y} : WpOps P (⟨d, .binB op x y, none⟩ :: rest) S σ Q = Opt (evOp S σ (.binB op x y)) (Nxt P rest d S Q) := wp_opt rfl
@[simp] theorem wp_binS {d : Option Nat} {rest : List MOper} {Q : Sl → Sto → Prop} {op x y} : WpOps P (⟨d, .binS op x y, none⟩ :: rest) S σ Q = Opt (evOp S σ (.binS op x y)) (Nxt P rest d S Q) := wp_opt rfl
@[simp] theorem wp_un {d : Option Nat} {rest : List MOper} {Q : Sl → Sto → Prop} {op x} : WpOps P (⟨d, .un op x, none⟩ :: rest) S σ Q = Opt (evOp S σ (.un op x)) (Nxt P rest d S Q) := wp_opt rfl
@[simp] theorem wp_cvt {d : Option Nat} {rest : List MOper} {Q : Sl → Sto → Prop} {k x} : WpOps P (⟨d, .cvt k x, none⟩ :: rest) S σ Q = Opt (evOp S σ (.cvt k x)) (Nxt P rest d S Q) := wp_opt rfl
@[simp] theorem wp_mkSl {d : Option Nat} {rest : List MOper} {Q : Sl → Sto → Prop} {es bytes z l c} : WpOps P (⟨d, .mkSl es bytes z l c, none⟩ :: rest) S σ Q = Opt (evOp S σ (.mkSl es bytes z l c)) (Nxt P rest d S Q) := wp_opt rfl
@[simp] theorem wp_slc {d : Option Nat} {rest : List MOper} {Q : Sl → Sto → Prop} {es x lo hi mx} : WpOps P (⟨d, .slc es x lo hi mx, none⟩ :: rest) S σ Q = Opt (evOp S σ (.slc es x lo hi mx)) (Nxt P rest d S Q) := wp_opt rfl
@[simp] theorem wp_fA {d : Option Nat} {rest : List MOper} {Q : Sl → Sto → Prop} {off x} : WpOps P (⟨d, .fA off x, none⟩ :: rest) S σ Q = Opt (evOp S σ (.fA off x)) (Nxt P rest d S Q) := wp_opt rfl
@[simp] theorem wp_ixA {d : Option Nat} {rest : List MOper} {Q : Sl → Sto → Prop} {es x i} : WpOps P (⟨d, .ixA es x i, none⟩ :: rest) S σ Q = Opt (evOp S σ (.ixA es x i)) (Nxt P rest d S Q) := wp_opt rfl
@[simp] theorem wp_ixS {d : Option Nat} {rest : List MOper} {Q : Sl → Sto → Prop} {x i} : WpOps P (⟨d, .ixS x i, none⟩ :: rest) S σ Q = Opt (evOp S σ (.ixS x i)) (Nxt P rest d S Q) := wp_opt rfl
@[simp] theorem wp_ext {d : Option Nat} {rest : List MOper} {Q : Sl → Sto → Prop} {x i} : WpOps P (⟨d, .ext x i, none⟩ :: rest) S σ Q = Opt (evOp S σ (.ext x i)) (Nxt P rest d S Q) := wp_opt rfl
@[simp] theorem wp_lenS {d : Option Nat} {rest : List MOper} {Q : Sl → Sto → Prop} {x} : WpOps P (⟨d, .lenS x, none⟩ :: rest) S σ Q = Opt (evOp S σ (.lenS x)) (Nxt P rest d S Q) := wp_opt rfl
@[simp] theorem wp_app {d : Option Nat} {rest : List MOper} {Q : Sl → Sto → Prop} {es bytes s x} : WpOps P (⟨d, .app es bytes s x, none⟩ :: rest) S σ Q = Opt (evOp S σ (.app es bytes s x)) (Nxt P rest d S Q) := wp_opt rfl
@[simp] theorem wp_min2 {d : Option Nat} {rest : List MOper} {Q : Sl → Sto → Prop} {x y} : WpOps P (⟨d, .min2 x y, none⟩ :: rest) S σ Q = Opt (evOp S σ (.min2 x y)) (Nxt P rest d S Q) := wp_opt rfl
attribute [simp] keepQ done_ret wp_nil wp_call wp_callV wp_callF wp_grd grd_skip nxt sl_set sl_empty sl_arg putd_some putd_none keep_nil keep_cons keepO_some keepO_none ev_t ev_c evs_nil evs_cons wm_skip wm_region wm_region2 wm_seq then_norm then_exit then_ret wm_cond wm_block blk_norm blk_exit blk_ret wm_exit wm_ret rnd_norm rnd_exit rnd_ret
attribute [simp] evOp offA evBin evBinB evBinS evBinF evBinT evUn takeAt ldV getOb look bound boundHi boundLo fillV fillS splice V.cells
attribute [simp] List.getElem?_cons_zero List.getElem?_cons_succ List.getElem?_nil
attribute [simp low] cnd_bool
@[simp] theorem grd_tt {o : MOper} {rest : List MOper} {Q : Sl → Sto → Prop} : Grd P (some (.bool true)) true o rest S σ Q = WpOps P (o :: rest) S σ Q := by simp [grd_bool]
@[simp] theorem grd_ff {o : MOper} {rest : List MOper} {Q : Sl → Sto → Prop} : Grd P (some (.bool false)) false o rest S σ Q = WpOps P (o :: rest) S σ Q := by simp [grd_bool]
@[simp] theorem grd_tf {o : MOper} {rest : List MOper} {Q : Sl → Sto → Prop} : Grd P (some (.bool true)) false o rest S σ Q = Nxt P rest o.dst S Q (.tup []) σ := by simp [grd_bool]
@[simp] theorem grd_ft {o : MOper} {rest : List MOper} {Q : Sl → Sto → Prop} : Grd P (some (.bool false)) true o rest S σ Q = Nxt P rest o.dst S Q (.tup []) σ := by simp [grd_bool]
@[simp] theorem cnd_true {K : List Nat} {a b : MCode} {Q : Ex → Sl → Sto → Prop} : Cnd P K (some (.bool true)) a b S σ Q = WpM P K a S σ Q := by simp [cnd_bool]
@[simp] theorem cnd_false {K : List Nat} {a b : MCode} {Q : Ex → Sl → Sto → Prop} : Cnd P K (some (.bool false)) a b S σ Q = WpM P K b S σ Q := by simp [cnd_bool]
@[simp] theorem cnd_dec {K : List Nat} {p : Prop} {_ : Decidable p} {a b : MCode} {Q : Ex → Sl → Sto → Prop} : Cnd P K (some (.bool (decide p))) a b S σ Q = ((p → WpM P K a S σ Q) ∧ (¬ p → WpM P K b S σ Q)) := by simp [cnd_bool]
section
variable (p : Nat → Bool)
@[simp] theorem within_int (k : IntKind) (n : Int) : (V.int k n).within p = true := by simp [V.within]
@[simp] theorem within_bool (b : Bool) : (V.bool b).within p = true := by simp [V.within]
@[simp] theorem within_nils : V.nils.within p = true := by simp [V.within]
@[simp] theorem within_dat (l : List (List V)) : (V.dat l).within p = true := by simp [V.within]
@[simp] theorem within_ref (o a b : Nat) : (V.ref o a b).within p = p o := by simp [V.within]
@[simp] theorem within_ptr (o a b : Nat) : (V.ptr o a b).within p = p o := by simp [V.within]
end
@[simp] theorem toD_int (σ : Sto) (n : Nat) (k : IntKind) (x : Int) : toD σ (n + 1) (.int k x) = some (.int k x) := (rfl)
@[simp] theorem toD_bool (σ : Sto) (n : Nat) (x : Bool) : toD σ (n + 1) (.bool x) = some (.bool x) := (rfl)
@[simp] theorem toD_str (σ : Sto) (n : Nat) (x : ByteArray) : toD σ (n + 1) (.str x) = some (.str x) := (rfl)
@[simp] theorem toD_nils (σ : Sto) (n : Nat) : toD σ (n + 1) .nils = some (.dat []) := (rfl)
@[simp] theorem toD_emp (σ : Sto) (n : Nat) : toD σ (n + 1) .emp = some (.dat []) := (rfl)
@[simp] theorem toD_dat (σ : Sto) (n : Nat) (l : List (List V)) : toD σ (n + 1) (.dat l) = some (.dat l) := (rfl)
theorem toD_agg (σ : Sto) (n : Nat) (l : List V) : toD σ (n + 1) (.agg l) = (mapO (toD σ n) l).map .agg := (rfl)
theorem toD_tup (σ : Sto) (n : Nat) (l : List V) : toD σ (n + 1) (.tup l) = (mapO (toD σ n) l).map .tup := (rfl)
theorem deep_eq : deep = 12 := (rfl)
theorem wrap_id {k : IntKind} {x : Int} (h1 : k.min ≤ x) (h2 : x ≤ k.max) : k.wrap x = x := by
 cases k <;> simp [IntKind.wrap, IntKind.min, IntKind.max, IntKind.bits, IntKind.signed] at h1 h2 ⊢ <;> omega
theorem wrap64 {x : Int} (h1 : -9223372036854775808 ≤ x) (h2 : x < 9223372036854775808) : IntKind.i64.wrap x = x := wrap_id (k := .i64) (by simpa [IntKind.min, IntKind.bits, IntKind.signed] using h1) (by simp [IntKind.max, IntKind.bits, IntKind.signed]; omega)
theorem wrapU64 {x : Int} (h1 : 0 ≤ x) (h2 : x < 18446744073709551616) : IntKind.u64.wrap x = x := wrap_id (k := .u64) (by simpa [IntKind.min, IntKind.bits, IntKind.signed] using h1) (by simp [IntKind.max, IntKind.bits, IntKind.signed]; omega)
theorem wrapU32_mod (x : Int) : IntKind.u32.wrap x = x % 4294967296 := by simp [IntKind.wrap, IntKind.bits, IntKind.signed]
theorem wrapU64_mod (x : Int) : IntKind.u64.wrap x = x % 18446744073709551616 := by simp [IntKind.wrap, IntKind.bits, IntKind.signed]
attribute [simp] wrapU32_mod
@[simp] theorem int_beq (a b : Int) : (a == b) = decide (a = b) := by by_cases h : a = b <;> simp [h]
@[simp] theorem int_bne (a b : Int) : (a != b) = decide (a ≠ b) := by by_cases h : a = b <;> simp [h]
@[simp] theorem bits_u64 : IntKind.u64.bits = 64 := (rfl)
@[simp] theorem bits_u32 : IntKind.u32.bits = 32 := (rfl)
@[simp] theorem bits_i64 : IntKind.i64.bits = 64 := (rfl)
@[simp] theorem fdiv_pos {x b : Int} (h : 0 ≤ b) : x.fdiv b = x / b := Int.fdiv_eq_ediv_of_nonneg _ h
@[simp] theorem tn_add (i k : Nat) : ((i : Int) + (k : Int)).toNat = i + k := by omega
def dg (l : List Int) : List (List V) := l.map fun d => [.int .u32 d]
@[simp] theorem dg_nil : dg [] = [] := (rfl)
@[simp] theorem dg_length (l : List Int) : (dg l).length = l.length := by simp [dg]
@[simp] theorem dg_get (l : List Int) (i : Nat) : (dg l)[i]? = l[i]?.map fun d => [.int .u32 d] := by simp [dg]
@[simp] theorem dg_getE (l : List Int) (i : Nat) (h : i < (dg l).length) : (dg l)[i] = [.int .u32 (l[i]'(by simpa using h))] := by simp [dg]
@[simp] theorem dg_take (l : List Int) (i : Nat) : (dg l).take i = dg (l.take i) := by simp [dg, List.map_take]
@[simp] theorem dg_drop (l : List Int) (i : Nat) : (dg l).drop i = dg (l.drop i) := by simp [dg, List.map_drop]
@[simp] theorem dg_all (l : List Int) : ((dg l).all fun r => r.length == 1) = true := by simp [dg]
@[simp] theorem dg_snoc (l : List Int) (d : Int) : dg l ++ [[.int .u32 d]] = dg (l ++ [d]) := by simp [dg]
@[simp] theorem dg_set (l : List Int) (i : Nat) (d : Int) : (dg l).set i [.int .u32 d] = dg (l.set i d) := by simp [dg, List.map_set]
@[simp] theorem dg_replicate (n : Nat) : List.replicate n [V.int .u32 0] = dg (List.replicate n 0) := by simp [dg]
abbrev nat (l : List Int) : V := .dat (dg l)
end Go.Proofs.YtkockkfmjmheeaaGreat.E

namespace Go.Proofs.YtkockkfmjmheeaaGreat.E
open Go Go.RowKit
set_option linter.unusedSimpArgs false
set_option linter.unusedVariables false
variable {P : Program} {S S' : Sl} {σ σ' : Sto} {v : V}
theorem CallD.imp {f : Nat} {vs : List V} {Q Q' : V → Prop} (h : CallD P f vs Q) (hi : ∀ r, Q r → Q' r) : CallD P f vs Q' := by
 refine ⟨h.1, fun I w cs hI hT ha => (h.2 I w cs hI hT ha).mono ?_⟩
 rintro e w' ⟨rv, I', r, h1, h2, h3, h4, h5, h6, h7⟩
 exact ⟨rv, I', r, h1, h2, h3, h4, h5, h6, hi r h7⟩
theorem callK_of {f : Nat} {vs ds : List V} {rest : List MOper} {d : Option Nat} {Q : Sl → Sto → Prop} {r : V} (hc : CallD P f ds (· = r)) (hd : toDs σ vs = some ds) (h : Nxt P rest d S Q r (behind σ vs r)) : CallK P f vs σ rest d S Q :=
 CallX.of_D hd hc fun _ e => by subst e; exact h
theorem callK_rel {f : Nat} {vs ds : List V} {rest : List MOper} {d : Option Nat} {Q : Sl → Sto → Prop} {R : V → Prop} (hc : CallD P f ds R) (hd : toDs σ vs = some ds) (h : ∀ r, R r → Nxt P rest d S Q r (behind σ vs r)) : CallK P f vs σ rest d S Q :=
 CallX.of_D hd hc h
theorem callFK_of {f : Nat} {vs ds : List V} {rest : List MOper} {d : Option Nat} {Q : Sl → Sto → Prop} {r : V} (hc : CallD P f ds (· = r)) (hd : toDs σ vs = some ds) (h : Nxt P rest d S Q r (behind σ vs r)) : CallFK P f vs σ rest d S Q :=
 ⟨ds, r, hd, hc, h⟩
theorem CallD.empty1 {f : Nat} {Q : V → Prop} (h1 : CallD P f [.nils] Q) (h2 : CallD P f [.emp] Q) : CallD P f [.dat []] Q := by
 refine ⟨h1.1, fun I w cs hI hT ha => ?_⟩
 have hs : cs.size = 1 := ha.1
 have hr := ha.2 0 cs[0] (.dat []) (by simp) rfl
 rcases hr.inv_dat with ⟨_, a, cap, e, hn⟩ | ⟨b, off, cap, es, arr, _, _, _, e, _⟩
 ·cases a with
  | none =>
    refine h1.2 I w cs hI hT ⟨hs, fun i c v hc hv => ?_⟩
    cases i with
    | zero => simp at hv; subst hv; rw [Array.getElem?_eq_getElem (by omega)] at hc; injection hc with hc; subst hc; rw [e, hn rfl]; exact .nils
    | succ i => simp at hv
  | some a =>
    refine h2.2 I w cs hI hT ⟨hs, fun i c v hc hv => ?_⟩
    cases i with
    | zero => simp at hv; subst hv; rw [Array.getElem?_eq_getElem (by omega)] at hc; injection hc with hc; subst hc; rw [e]; exact .emp
    | succ i => simp at hv
 ·refine h2.2 I w cs hI hT ⟨hs, fun i c v hc hv => ?_⟩
  cases i with
  | zero => simp at hv; subst hv; rw [Array.getElem?_eq_getElem (by omega)] at hc; injection hc with hc; subst hc; rw [e]; exact .emp
  | succ i => simp at hv
attribute [simp] isNil frz_nil rchs_nil rchs_cons toDs_nil
@[simp] theorem toDs_cons' (u : V) (vs : List V) : toDs σ (u :: vs) = match toD σ 12 u, toDs σ vs with | some d, some l => some (d :: l) | _, _ => none := by
  simp only [toDs, deep_eq]
  generalize toD σ 12 u = x
  generalize toDs σ vs = y
  cases x <;> cases y <;> rfl
@[simp] theorem behind_eq (vs : List V) (r : V) : behind σ vs r = if r.scalar then σ else frz σ (rchs σ vs) := (rfl)
@[simp] theorem roomy_eq : roomy = 1099511627776 := (rfl)
attribute [simp] fresh look_setOb elems appV V.scalar resV res1 resOf deep_eq
section
variable (σ : Sto) (n : Nat)
@[simp] theorem rch_int (k : IntKind) (x : Int) : rch σ n (.int k x) = [] := by cases n <;> rfl
@[simp] theorem rch_bool (b : Bool) : rch σ n (.bool b) = [] := by cases n <;> rfl
@[simp] theorem rch_dat (l : List (List V)) : rch σ n (.dat l) = [] := by cases n <;> rfl
end
@[simp] theorem mapO_nil {α : Type} (f : α → Option α) : mapO f [] = some [] := by simp only [mapO]
@[simp] theorem mapO_cons {α : Type} (f : α → Option α) (a : α) (l : List α) : mapO f (a :: l) = match f a, mapO f l with | some x, some r => some (x :: r) | _, _ => none := by
  simp only [mapO]
  generalize f a = x
  generalize mapO f l = y
  cases x <;> cases y <;> rfl
attribute [simp] toD_agg toD_tup
theorem mapO_dg (σ : Sto) (n : Nat) (l : List Int) : mapO (mapO (toD σ (n + 1))) (dg l) = some (dg l) := by
 refine mapO_id fun x hx => ?_
 obtain ⟨d, _, rfl⟩ := List.mem_map.1 hx
 rfl
theorem toD_digs {o off len : Nat} {n : Nat} {st : St} {l : List Int} (h : look σ o = some ⟨st, 1, dg l⟩) (hs : st ≠ .dead) (hl : off + len ≤ l.length) : toD σ (n + 2) (.ref o off len) = some (nat ((l.drop off).take len)) := by
 show (match getOb σ o with | some x => if off + len ≤ x.cells.length ∧ x.es ≠ 0 then (mapO (mapO (toD σ (n + 1))) ((x.cells.drop off).take len)).map V.dat else none | none => none) = _
 simp only [getOb, h, hs, if_false]
 simp [hl, mapO_dg, nat]
theorem dg_within {l : List Int} {p : Nat → Bool} : ∀ r ∈ dg l, ∀ y ∈ r, y.within p = true := by
 intro r hr y hy
 obtain ⟨d, _, rfl⟩ := List.mem_map.1 hr
 simp at hy; subst hy; simp
theorem look_mem : ∀ {σ : Sto} {o : Nat} {x : Ob}, look σ o = some x → (o, x) ∈ σ
 | [], o, x, h => by simp [look] at h
 | (k, y) :: r, o, x, h => by
   simp only [look] at h
   split at h
   ·rename_i e; injection h with h; subst e; subst h; simp
   ·exact List.mem_cons_of_mem _ (look_mem h)
theorem weak_of {K : List Nat} {S1 : Sl} {σ1 : Sto} (h1 : Sub S1 S) (h2 : ∀ p ∈ σ1, look σ p.1 = some p.2) (h3 : ∀ o ∈ K, (look σ o).isSome = true → (look σ1 o).isSome = true) (h4 : SIn (fun o => (look σ1 o).isSome) S1)
 (h5 : ∀ p ∈ σ1, p.2.st ≠ .dead → ∀ r ∈ p.2.cells, ∀ y ∈ r, y.within (fun o => (look σ1 o).isSome) = true) : Weak K S1 σ1 S σ :=
 ⟨h1, fun o x h => h2 (o, x) (look_mem h), h3, h4, fun o x h => h5 (o, x) (look_mem h)⟩
theorem weak_digs {S1 : Sl} {o : Nat} {l : List Int} (h1 : Sub S1 S) (h2 : look σ o = some ⟨.own, 1, dg l⟩) (h4 : SIn (fun p => p == o) S1) : Weak [] S1 [(o, ⟨.own, 1, dg l⟩)] S σ := by
 refine weak_of h1 (fun p hp => ?_) (by simp) ?_ (fun p hp _ => ?_)
 ·simp at hp; subst hp; exact h2
 ·have : (fun q => (look [(o, (⟨.own, 1, dg l⟩ : Ob))] q).isSome) = fun p => p == o := by
   funext q
   by_cases e : o = q
   ·subst e; simp [look]
   ·simp [look, e, Ne.symm e]
  rw [this]; exact h4
 ·simp at hp; subst hp; exact dg_within
def MCode.tl : MCode → MCode
 | .seq _ b => b
 | c => c
def MCode.hd : MCode → MCode
 | .seq a _ => a
 | c => c
end Go.Proofs.YtkockkfmjmheeaaGreat.E

namespace Go.Proofs.YtkockkfmjmheeaaGreat.E
open Go Go.RowKit
set_option linter.unusedSimpArgs false
set_option linter.unusedVariables false
theorem or_high {a b : Int} (h1 : 0 ≤ a) (h2 : a < 4294967296) (h3 : 0 ≤ b) (h4 : b < 4294967296) : bits .or .u64 a (b * 4294967296) = a + b * 4294967296 := by
 obtain ⟨x, rfl⟩ := Int.eq_ofNat_of_zero_le h1
 obtain ⟨y, rfl⟩ := Int.eq_ofNat_of_zero_le h3
 have h := bits_or_u64_nat x (y * 4294967296) (by omega) (by omega)
 rw [Int.natCast_mul] at h
 rw [show ((4294967296 : Nat) : Int) = 4294967296 from rfl] at h
 rw [h]
 have e := Nat.two_pow_add_eq_or_of_lt (i := 32) (b := x) (by omega) y
 rw [Nat.or_comm, show y * 4294967296 = 2 ^ 32 * y from by omega, ← e]
 omega
theorem or_low {a b : Int} (h1 : 0 ≤ a) (h2 : a < 4294967296) (h3 : 0 ≤ b) (h4 : b < 4294967296) : bits .or .u64 (b * 4294967296) a = b * 4294967296 + a := by
 obtain ⟨x, rfl⟩ := Int.eq_ofNat_of_zero_le h1
 obtain ⟨y, rfl⟩ := Int.eq_ofNat_of_zero_le h3
 have h := bits_or_u64_nat (y * 4294967296) x (by omega) (by omega)
 rw [Int.natCast_mul] at h
 rw [show ((4294967296 : Nat) : Int) = 4294967296 from rfl] at h
 rw [h]
 have e := Nat.two_pow_add_eq_or_of_lt (i := 32) (b := x) (by omega) y
 rw [show y * 4294967296 = 2 ^ 32 * y from by omega, ← e]
 omega
theorem or_shift32 {x a : Int} {s : Nat} (hs : s < 32) (h1 : 0 ≤ x) (h2 : x < 2 ^ s) (h3 : 0 ≤ a) : bits .or .u32 x (a * 2 ^ s % 4294967296) = x + a * 2 ^ s % 4294967296 ∧ x + a * 2 ^ s % 4294967296 < 4294967296 := by
 obtain ⟨y, rfl⟩ := Int.eq_ofNat_of_zero_le h1
 obtain ⟨b, rfl⟩ := Int.eq_ofNat_of_zero_le h3
 have hp : (2 : Nat) ^ s ≤ 2 ^ 31 := Nat.pow_le_pow_right (by decide) (by omega)
 have hy : y < 2 ^ s := by
  have : ((2 : Nat) ^ s : Int) = ((2 ^ s : Nat) : Int) := by simp
  have h2' : (y : Int) < ((2 ^ s : Nat) : Int) := by simpa using h2
  omega
 have e1 : ((b : Int) * 2 ^ s % 4294967296) = ((b * 2 ^ s % 4294967296 : Nat) : Int) := by simp
 have h32 : (4294967296 : Nat) = 2 ^ s * 2 ^ (32 - s) := by rw [← Nat.pow_add, show s + (32 - s) = 32 from by omega]
 have e2 : b * 2 ^ s % 4294967296 = 2 ^ s * (b % 2 ^ (32 - s)) := by
  rw [h32, Nat.mul_comm b, Nat.mul_mod_mul_left]
 have e3 := Nat.two_pow_add_eq_or_of_lt hy (b % 2 ^ (32 - s))
 have hlt : b * 2 ^ s % 4294967296 < 4294967296 := Nat.mod_lt _ (by decide)
 have h := u32_or_nat y (b * 2 ^ s % 4294967296) (by omega) hlt
 rw [e1, h, Nat.or_comm, e2, ← e3]
 refine ⟨by omega, ?_⟩
 have : 2 ^ s * (b % 2 ^ (32 - s)) + y < 2 ^ 32 := by
  rw [e3]
  refine Nat.or_lt_two_pow ?_ ?_
  ·rw [← e2]; exact hlt
  ·omega
 omega
theorem and_mask {a : Int} (h1 : 0 ≤ a) (h2 : a < 18446744073709551616) : bits .and .u64 a 4294967295 = a % 4294967296 := by
 obtain ⟨x, rfl⟩ := Int.eq_ofNat_of_zero_le h1
 have h := bits_and_u64_nat x 4294967295 (by omega) (by omega)
 rw [show ((4294967295 : Nat) : Int) = 4294967295 from rfl] at h
 rw [h, show 4294967295 = 2 ^ 32 - 1 from rfl, Nat.and_two_pow_sub_one_eq_mod]
 omega
def MCode.inn : MCode → MCode
 | .block _ b => b
 | .loop b => b
 | c => c
def outV (o : Nat) (l : List Int) : V := if l = [] then .nils else .ref o 0 l.length
def outS (o : Nat) (l : List Int) : Sto := if l = [] then [] else [(o, ⟨.own, 1, dg l⟩)]
theorem weak_out {S S1 : Sl} {σ : Sto} {o : Nat} {l : List Int} (h1 : Sub S1 S) (h2 : l ≠ [] → E.look σ o = some ⟨.own, 1, dg l⟩) (h4 : SIn (fun p => (E.look (outS o l) p).isSome) S1) : Weak [] S1 (outS o l) S σ := by
 refine weak_of h1 (fun p hp => ?_) (by simp) h4 (fun p hp _ => ?_)
 ·unfold outS at hp
  split at hp
  ·simp at hp
  ·rename_i h
   simp at hp; subst hp; exact h2 h
 ·unfold outS at hp
  split at hp
  ·simp at hp
  ·simp at hp; subst hp; exact dg_within
@[simp] theorem outV_nil (o : Nat) : outV o [] = .nils := (rfl)
@[simp] theorem outS_nil (o : Nat) : outS o [] = [] := (rfl)
@[simp] theorem outV_cons (o : Nat) (d : Int) (l : List Int) : outV o (d :: l) = .ref o 0 (l.length + 1) := by simp [outV]
@[simp] theorem outS_cons (o : Nat) (d : Int) (l : List Int) : outS o (d :: l) = [(o, ⟨.own, 1, dg (d :: l)⟩)] := by simp [outS]
theorem toD_out {o : Nat} {l : List Int} {n : Nat} : toD (outS o l) (n + 2) (outV o l) = some (nat l) := by
 by_cases h : l = []
 ·subst h; simp
 ·have e1 : outV o l = .ref o 0 l.length := by simp [outV, h]
  have e2 : outS o l = [(o, ⟨.own, 1, dg l⟩)] := by simp [outS, h]
  rw [e1, e2, toD_digs (st := .own) (l := l) (by simp [E.look]) (by simp) (by simp)]
  simp
end Go.Proofs.YtkockkfmjmheeaaGreat.E

namespace Go.Proofs.YtkockkfmjmheeaaGreat.E
open Go Go.RowKit
set_option linter.unusedSimpArgs false
set_option linter.unusedVariables false
variable {P : Program} {S S' : Sl} {σ σ' : Sto} {v : V}
def MCode.tls : Nat → MCode → MCode
 | 0, c => c
 | k + 1, c => c.tl.tls k
def MCode.cut : Nat → MCode → MCode → MCode
 | 0, _, R => R
 | k + 1, c, R => .seq c.hd (c.tl.cut k R)
def MCode.long : Nat → MCode → Bool
 | 0, _ => true
 | k + 1, .seq _ b => b.long k
 | _ + 1, _ => false
theorem MCode.cut_eq : ∀ {k : Nat} {c : MCode}, c.long k = true → c.cut k (c.tls k) = c
 | 0, _, _ => rfl
 | k + 1, c, h => by
   cases c <;> simp [MCode.long] at h
   rename_i a b
   show MCode.seq a (b.cut k (b.tls k)) = _
   rw [MCode.cut_eq h]
theorem wm_cut {K : List Nat} {Q : Ex → Sl → Sto → Prop} (k : Nat) {c : MCode} (hl : c.long k = true) (h : ∀ R, R = c.tls k → WpM P K (c.cut k R) S σ Q) : WpM P K c S σ Q := by
 have := h _ rfl
 rwa [MCode.cut_eq hl] at this
theorem cut_zero (c R : MCode) : c.cut 0 R = R := (rfl)
theorem cut_succ (k : Nat) (a b R : MCode) : (MCode.seq a b).cut (k + 1) R = .seq a (b.cut k R) := (rfl)
attribute [simp] cut_zero cut_succ
@[simp] theorem tls_zero (c : MCode) : c.tls 0 = c := (rfl)
@[simp] theorem tls_succ (k : Nat) (a b : MCode) : (MCode.seq a b).tls (k + 1) = b.tls k := (rfl)
theorem weak_p {S1 : Sl} (h1 : Sub S1 S) (h2 : SIn (fun _ => false) S1) : Weak [] S1 [] S σ := weak_plain h1 h2
theorem weak_digs2 {S1 S : Sl} {σ : Sto} {o p : Nat} {l m : List Int} (h1 : Sub S1 S) (h2 : look σ o = some ⟨.own, 1, dg l⟩) (h3 : look σ p = some ⟨.own, 1, dg m⟩) (h4 : SIn (fun x => x == o || x == p) S1) : Weak [] S1 [(o, ⟨.own, 1, dg l⟩), (p, ⟨.own, 1, dg m⟩)] S σ := by
 refine weak_of h1 (fun x hx => ?_) (by simp) ?_ (fun x hx _ => ?_)
 ·simp at hx; rcases hx with rfl | rfl <;> assumption
 ·have : (fun q => (look [(o, (⟨.own, 1, dg l⟩ : Ob)), (p, ⟨.own, 1, dg m⟩)] q).isSome) = fun x => x == o || x == p := by
   funext q
   by_cases e : o = q
   ·subst e; simp [look]
   ·by_cases e' : p = q
    ·subst e'; simp [look, e]
    ·simp [look, e, e', Ne.symm e, Ne.symm e']
  rw [this]; exact h4
 ·simp at hx; rcases hx with rfl | rfl <;> exact dg_within
theorem weak_obs {S1 : Sl} {σ1 : Sto} (h1 : Sub S1 S) (h2 : ∀ p ∈ σ1, look σ p.1 = some p.2) (h4 : SIn (fun q => (σ1.map (·.1)).contains q) S1) (h5 : ∀ p ∈ σ1, ∀ r ∈ p.2.cells, ∀ y ∈ r, y.within (fun q => (σ1.map (·.1)).contains q) = true) : Weak [] S1 σ1 S σ := by
 have e : (fun q => (look σ1 q).isSome) = fun q => (σ1.map (·.1)).contains q := by
  funext q
  clear h1 h2 h4 h5
  induction σ1 with
  | nil => rfl
  | cons a r ih =>
    obtain ⟨k, x⟩ := a
    simp only [look, List.map_cons, List.contains_cons]
    by_cases h : k = q
    ·simp [h]
    ·simp [h, Ne.symm h, ih]
 exact weak_of h1 h2 (by simp) (by rw [e]; exact h4) (fun p hp _ => by rw [e]; exact h5 p hp)
@[simp] theorem rch_agg (σ : Sto) (n : Nat) (l : List V) : rch σ (n + 1) (.agg l) = l.flatMap (rch σ n) := (rfl)
@[simp] theorem rch_tup (σ : Sto) (n : Nat) (l : List V) : rch σ (n + 1) (.tup l) = l.flatMap (rch σ n) := (rfl)
attribute [simp] frz_nil
end Go.Proofs.YtkockkfmjmheeaaGreat.E

namespace Go.Proofs.YtkockkfmjmheeaaGreat.E
open Go Go.RowKit
set_option linter.unusedSimpArgs false
set_option linter.unusedVariables false
variable {P : Program} {S S' : Sl} {σ σ' : Sto} {v : V}
def Has (σ σ' : Sto) : Prop := ∀ o x, look σ o = some x → look σ' o = some x
theorem Has.refl (σ : Sto) : Has σ σ := fun _ _ h => h
theorem Has.new (h : Has σ σ') (x : Ob) : Has σ (setOb σ' (fresh σ') x) := by
 intro o y ho
 have h1 := h o y ho
 rw [look_setOb]
 by_cases e : o = fresh σ'
 ·subst e; rw [look_fresh σ' _ (Nat.le_refl _)] at h1; simp at h1
 ·rw [if_neg e]; exact h1
theorem Has.trans {σ'' : Sto} (h : Has σ σ') (k : Has σ' σ'') : Has σ σ'' := fun o x e => k o x (h o x e)
def DoneX (K : List Nat) (rs : List MRes) (R : V → Sto → Prop) (e : Ex) (S : Sl) (σ' : Sto) : Prop := (∀ n, e ≠ .exit n) ∧ ∃ l σ1, resV S σ' rs = some l ∧ WeakR K (resOf l) σ1 σ' ∧ R (resOf l) σ1
@[congr] theorem DoneX.cg {K : List Nat} {rs : List MRes} {R : V → Sto → Prop} {e : Ex} (h1 : S = S') (h2 : σ = σ') : DoneX K rs R e S σ = DoneX K rs R e S' σ' := by subst h1; subst h2; rfl
end Go.Proofs.YtkockkfmjmheeaaGreat.E

namespace Go.Proofs.YtkockkfmjmheeaaGreat.E
open Go Go.RowKit
set_option linter.unusedSimpArgs false
set_option linter.unusedVariables false
variable {P : Program} {w0 : World} {base : Nat} {I0 I : Imm} {β : Beta} {S : Sl} {σ σ' : Sto} {w : World} {v : V}
theorem Inv.take (hI : Inv w0 base I0 I β σ w) {w' : World} {I' : Imm} {β' : Beta} {σ1 : Sto} (hJ : Inv w w.heap.size I I' β' σ1 w') (he : ∀ b arr, I b = some arr → I' b = some arr) {o : Nat} {x : Ob} (ho : look σ1 o = some x) (hx : x.st ≠ .dead)
 (hd : ∀ r ∈ x.cells, ∀ y ∈ r, y.within (fun _ => false) = true) : ∃ k, β' o = some k ∧ Inv w0 base I0 I' (Beta.put β (fresh σ) k) (setOb σ (fresh σ) x) w' := by
 have hL := hI.later hJ.below he hJ.imm hJ.old
 obtain ⟨k, hk, hes, hb, hr⟩ := hJ.ob o x ho
 have hf : look σ (fresh σ) = none := look_fresh σ _ (Nat.le_refl _)
 have hn : β (fresh σ) = none := hI.beta_none hf
 have hput := Beta.put_ext hn k
 refine ⟨k, hk, ⟨hL.below, hL.baseLe, hL.imm, hL.old, hL.tab, fun p y hp => ?_, fun p y hp => ?_, fun p p' y y' a a' hp hp' hy hy' ha ha' e => ?_⟩⟩
 ·rw [look_setOb]
  by_cases e : p = fresh σ
  ·simp [e]
  ·rw [if_neg e]
   unfold Beta.put at hp; rw [if_neg e] at hp
   exact hI.dom p y hp
 ·rw [look_setOb] at hp
  by_cases e : p = fresh σ
  ·rw [if_pos e] at hp; injection hp with hp; subst hp
   refine ⟨k, by simp [Beta.put, e], hes, Nat.le_trans hI.baseLe hb, fun hd' => ?_⟩
   obtain ⟨⟨arr, t, fr, hm, hs, hown, hfro, hrel⟩, hl, hz, h1'⟩ := hr hd'
   refine ⟨⟨arr, t, fr, hm, hs, hown, hfro, fun i r j y hi hj => ?_⟩, hl, hz, h1'⟩
   obtain ⟨c, hc, hR⟩ := hrel i r j y hi hj
   exact ⟨c, hc, hR.within (hd r (List.mem_of_getElem? hi) y (List.mem_of_getElem? hj)) (fun _ _ h => by simp at h)⟩
  ·rw [if_neg e] at hp
   obtain ⟨k2, hk2, hes2, hb2, hr2⟩ := hL.ob p y hp
   refine ⟨k2, hput _ _ hk2, hes2, hb2, fun hd' => (hr2 hd').mono rfl (fun _ _ h => h) hput (fun h => h)⟩
 ·have old : ∀ {q : Nat} {z : Ob} {c : Blk}, look σ q = some z → z.st ≠ .dead → Beta.put β (fresh σ) k q = some c → q ≠ fresh σ → c.b < w.heap.size := by
   intro q z c hq hz hc hne
   obtain ⟨c2, hc2, hlt⟩ := hI.blk_lt hq hz
   unfold Beta.put at hc; rw [if_neg hne, hc2] at hc; injection hc with hc; subst hc
   exact hlt
  rw [look_setOb] at hp hp'
  by_cases e1 : p = fresh σ
  ·by_cases e2 : p' = fresh σ
   ·rw [e1, e2]
   ·rw [if_neg e2] at hp'
    have h1 := old hp' hy' ha' e2
    have : a = k := by unfold Beta.put at ha; rw [if_pos e1] at ha; injection ha with ha; exact ha.symm
    subst this
    omega
  ·rw [if_neg e1] at hp
   have h1 := old hp hy ha e1
   by_cases e2 : p' = fresh σ
   ·have : a' = k := by unfold Beta.put at ha'; rw [if_pos e2] at ha'; injection ha' with ha'; exact ha'.symm
    subst this
    omega
   ·rw [if_neg e2] at hp'
    refine hL.inj p p' y y' a a' hp hp' hy hy' ?_ ?_ e
    ·unfold Beta.put at ha; rwa [if_neg e1] at ha
    ·unfold Beta.put at ha'; rwa [if_neg e2] at ha'
def grown (o n : Nat) : V := if n = 0 then .nils else .ref o 0 n
def grownS (o es n : Nat) (l : List (List V)) : Sto := if n = 0 then [] else [(o, ⟨.own, es, l⟩)]
theorem grown_zero (o : Nat) : grown o 0 = .nils := rfl
theorem grown_pos {o n : Nat} (h : n ≠ 0) : grown o n = .ref o 0 n := if_neg h
theorem grownS_zero (o es : Nat) (l : List (List V)) : grownS o es 0 l = [] := rfl
theorem grownS_pos {o es n : Nat} {l : List (List V)} (h : n ≠ 0) : grownS o es n l = [(o, ⟨.own, es, l⟩)] := if_neg h
def took (σ : Sto) (es n : Nat) (l : List (List V)) : Sto := if n = 0 then σ else setOb σ (fresh σ) ⟨.own, es, l⟩
theorem CallX.new {f n es : Nat} {ds : List V} {l : List (List V)} (h : CallX P f ds [] (fun v s => ∃ o, v = grown o n ∧ s = grownS o es n l)) (hl : ∀ r ∈ l, ∀ y ∈ r, y.within (fun _ => false) = true) {vs : List V} (hd : toDs σ vs = some ds) (hr : rchs σ vs = []) :
 CallX P f vs σ (fun v s => v = grown (fresh σ) n ∧ s = took σ es n l) := by
 refine ⟨h.1, fun w0 base I0 I β w cs hI hargs => ?_⟩
 obtain ⟨hF, hext⟩ := hI.freeze []
 obtain ⟨g1, g2⟩ := toDs_sound hI [] hd (fun o ho => by rw [hr] at ho; exact ho)
 have hargs2 : ArgsRel (Ifz I β σ w []) Beta.none cs ds := by
  refine ⟨by rw [hargs.1, g1], fun i c d hc hd => ?_⟩
  have hlt : i < vs.length := by rw [g1]; exact (List.getElem?_eq_some_iff.1 hd).1
  exact g2 i c vs[i] d (hargs.2 i c _ hc (List.getElem?_eq_getElem hlt)) (List.getElem?_eq_getElem hlt) hd
 have fz : frz σ [] = σ := by simp
 rw [fz] at hF
 have hinv : Inv w w.heap.size (Ifz I β σ w []) (Ifz I β σ w []) Beta.none [] w := ⟨Below.refl _ _, Nat.le_refl _, hF.imm, fun _ _ => rfl, hF.tab, fun o x h => by simp [Beta.none] at h, fun o x h => by simp [look] at h, fun o o' x x' k k' h => by simp [look] at h⟩
 refine (h.2 w w.heap.size _ _ Beta.none w cs hinv hargs2).mono ?_
 rintro e w' ⟨rv, I', β', r, σ', he, hJ, hE, hrel, o, rfl, rfl⟩
 have hx2 : Ext I β I' β := ⟨fun b arr hb => hE.imm b arr (hext.imm b arr hb), fun _ _ h => h⟩
 by_cases h0 : n = 0
 ·subst h0
  rw [grown_zero] at hrel
  exact ⟨rv, I', β, .nils, σ, he, hF.later hJ.below hE.imm hJ.imm hJ.old, hx2, hrel.scalar rfl, rfl, rfl⟩
 ·rw [grown_pos h0] at hrel
  rw [grownS_pos h0] at hJ
  obtain ⟨k, hk, hJ2⟩ := hF.take hJ hE.imm (o := o) (x := ⟨.own, es, l⟩) (by simp [look]) (by simp) hl
  have hn : β (fresh σ) = none := hI.beta_none (look_fresh σ _ (Nat.le_refl _))
  refine ⟨rv, I', _, .ref (fresh σ) 0 n, _, he, hJ2, ⟨hx2.imm, Beta.put_ext hn k⟩, ?_, by rw [grown_pos h0], by rw [took, if_neg h0]⟩
  have : Beta.put β (fresh σ) k (fresh σ) = some k := by simp [Beta.put]
  cases hrel with
  | ref hb hc hn => rw [hk] at hb; injection hb with hb; subst hb; exact .ref this hc hn
  | refz hb => exact (h0 rfl).elim
end Go.Proofs.YtkockkfmjmheeaaGreat.E

namespace Go.Proofs.YtkockkfmjmheeaaGreat.E
open Go Go.RowKit
set_option linter.unusedSimpArgs false
set_option linter.unusedVariables false
variable {P : Program} {S S' : Sl} {σ σ' : Sto} {v : V}
def CallXK (P : Program) (f : Nat) (vs : List V) (σ : Sto) (rest : List MOper) (d : Option Nat) (S : Sl) (Q : Sl → Sto → Prop) : Prop := ∃ r σ', CallX P f vs σ (fun r' s => r' = r ∧ s = σ') ∧ Nxt P rest d S Q r σ'
@[congr] theorem CallXK.cg {f : Nat} {vs vs' : List V} {rest : List MOper} {d : Option Nat} {Q : Sl → Sto → Prop} (h1 : S = S') (h2 : vs = vs') (h3 : σ = σ') : CallXK P f vs σ rest d S Q = CallXK P f vs' σ' rest d S' Q := by subst h1; subst h2; subst h3; rfl
def CallXA (P : Program) (f : Nat) (vs : List V) (σ : Sto) (oth : List Nat) (rest : List MOper) (d : Option Nat) (S : Sl) (Q : Sl → Sto → Prop) : Prop := ∃ r σ', CallX P f vs σ (fun r' s => r' = r ∧ s = σ') ∧ Stays S oth σ σ' ∧ Nxt P rest d S Q r σ'
@[congr] theorem CallXA.cg {f : Nat} {vs vs' : List V} {oth : List Nat} {rest : List MOper} {d : Option Nat} {Q : Sl → Sto → Prop} (h1 : S = S') (h2 : vs = vs') (h3 : σ = σ') : CallXA P f vs σ oth rest d S Q = CallXA P f vs' σ' oth rest d S' Q := by subst h1; subst h2; subst h3; rfl
def RdK (P : Program) (k : R2) (us : List V) (σ : Sto) (rest : List MOper) (d : Option Nat) (S : Sl) (Q : Sl → Sto → Prop) : Prop := ∃ vs ds r, k.args us = some vs ∧ toPs σ vs = some ds ∧ k.res P us ds r ∧ Nxt P rest d S Q r (behindP σ vs r)
@[congr] theorem RdK.cg {k : R2} {us us' : List V} {rest : List MOper} {d : Option Nat} {Q : Sl → Sto → Prop} (h1 : S = S') (h2 : us = us') (h3 : σ = σ') : RdK P k us σ rest d S Q = RdK P k us' σ' rest d S' Q := by subst h1; subst h2; subst h3; rfl
end Go.Proofs.YtkockkfmjmheeaaGreat.E

namespace Go.Proofs.YtkockkfmjmheeaaGreat.E
open Go Go.RowKit
set_option linter.unusedSimpArgs false
set_option linter.unusedVariables false
variable {P : Program} {S S' : Sl} {σ σ' : Sto} {v : V}
end Go.Proofs.YtkockkfmjmheeaaGreat.E

namespace Go.Proofs.YtkockkfmjmheeaaGreat.E
open Go Go.RowKit
set_option linter.unusedSimpArgs false
set_option linter.unusedVariables false
variable {P : Program}
theorem exec_defer {a : Act} {w : World} {o : Oper} {t k : Nat} {cs : Array Value} {at_ : Array TypeId} (ho : o.op = .defer ⟨.value (.tmp t), #[], at_⟩) (hy : a.eval (.tmp t) = .func (.func k) #[] cs) :
 (execOp a.eval o).run P w = .ok (.defer ⟨.fn (.func k) cs, #[]⟩) w := by
 simp [execOp, ho, resolve, hy, Deferred.ofValue]
end Go.Proofs.YtkockkfmjmheeaaGreat.E

namespace Go.Proofs.YtkockkfmjmheeaaGreat.E
open Go Go.RowKit
set_option linter.unusedSimpArgs false
set_option linter.unusedVariables false
variable {P : Program}
end Go.Proofs.YtkockkfmjmheeaaGreat.E

namespace Go.Proofs.YtkockkfmjmheeaaGreat.E
open Go Go.RowKit
set_option linter.unusedSimpArgs false
set_option linter.unusedVariables false
variable {P : Program}
def IdleB (P : Program) (k : Nat) : Prop := ∀ (b off : Nat) (arr : Array Value) (t : TypeId) (w : World), w.heap[b]? = some (.cells arr t (0, 0)) → arr[off]? = some (.bool true) →
 CallsD P k #[.pointer (some ⟨b, off, none⟩)] .returning w fun e u' w' => (∃ v, e = .returned v) ∧ u' = .returning ∧ w' = w
def recOp (o : Oper) : Bool := match o.op, o.dst, o.guard with
 | .call ⟨.builtin .recover, ⟨[]⟩, _⟩, some 4, none => true
 | _, _, _ => false
def eqOp (P : Program) (o : Oper) : Bool := match o.op, o.dst, o.guard with
 | .binOp .eql t (.tmp 4) (.const .nilIface) _, some 6, none => (match P.underlying t with | some (.interface _) => true | _ => false)
 | _, _, _ => false
def taOp (P : Program) (o : Oper) : Bool := match o.op, o.dst, o.guard with
 | .typeAssert (.tmp 4) _ t true, some 7, none => (match P.underlying t, P.info? t with | some (.struct _), some i => i.zero.isSome | _, _ => false)
 | _, _, _ => false
def exOp (j d : Nat) (o : Oper) : Bool := match o.op, o.dst, o.guard with
 | .extract (.tmp 7) i, some d', none => i == j && d' == d
 | _, _, _ => false
def piOp (o : Oper) : Bool := match o.op, o.dst, o.guard with
 | .pick (.tmp 6) (.const (.bool true)) (.tmp 8), some 10, none => true
 | _, _, _ => false
def asOp (o : Oper) : Bool := match o.op, o.dst, o.guard with
 | .assign (.tmp 4), some 1, none => true
 | _, _, _ => false
def stOp (P : Program) (o : Oper) : Bool := match o.op, o.dst, o.guard with
 | .store t (.tmp 0) (.const (.bool true)), none, none => cSize P t == some 1
 | _, _, _ => false
def isIdleB (P : Program) (f : Nat) : Bool :=
 match P.funcs[f]? with
 | some fn => match fn.body with
   | some (.seq (.region _ r0 false) (.block _ (.seq (.region _ r3 false) (.cond (.tmp 10) (.seq (.region _ r4 false) (.region _ r5 false)) _)))) => match r0.toList, r3.toList, r4.toList, r5.toList, fn.results.toList with
     | [o0], [a1, a2, a3, a4, a5], [b1], [d1], [] => fn.ntmps == 14 && recOp o0 && eqOp P a1 && taOp P a2 && exOp 1 8 a3 && exOp 0 9 a4 && piOp a5 && asOp b1 && stOp P d1
     | _, _, _, _, _ => false
   | _ => false
 | none => false
theorem recOp_run {o : Oper} (h : recOp o = true) : o.dst = some 4 ∧ o.guard = none ∧ ∀ (a : Act) (w : World), (execOp a.eval o).run P w = .ok .recover w := by
 unfold recOp at h
 split at h
 ·rename_i as h1 h2 h3
  exact ⟨h2, h3, fun a w => by simp [execOp, h1, resolve, invoke, builtin, go_sem]⟩
 ·simp at h
theorem eqOp_run {o : Oper} (h : eqOp P o = true) : o.dst = some 6 ∧ o.guard = none ∧ ∀ (a : Act) (w : World), a.eval (.tmp 4) = .nilIface → (execOp a.eval o).run P w = .ok (.value (.bool true)) w := by
 unfold eqOp at h
 split at h
 ·rename_i t t' h1 h2 h3
  have hms : ∃ ms, P.underlying t = some (.interface ms) := by
   split at h
   ·rename_i ms hms; exact ⟨ms, hms⟩
   ·simp at h
  obtain ⟨ms, hms⟩ := hms
  refine ⟨h2, h3, fun a w ha => ?_⟩
  have eq0 : ∀ (d : Nat) (w : World), (Op.equalIn (d + 1) t .nilIface .nilIface).run P w = .ok true w := fun d w => by
   simp [Op.equalIn, go_sem, underlying, hms]
  have eq1 : ∀ w : World, (Op.equalIn Op.maxDepth t .nilIface .nilIface).run P w = .ok true w := fun w => eq0 9999 w
  have hv : a.tmps[4]?.getD undef = .nilIface := by simpa [Act.eval] using ha
  simp [execOp, h1, Act.eval, go_sem, binOp, hv, eqGuard, Op.equal, eq1]
 ·simp at h
theorem taOp_run {o : Oper} (h : taOp P o = true) : o.dst = some 7 ∧ o.guard = none ∧ ∃ z, ∀ (a : Act) (w : World), a.eval (.tmp 4) = .nilIface → (execOp a.eval o).run P w = .ok (.value (.tuple #[z, .bool false])) w := by
 unfold taOp at h
 split at h
 ·rename_i x t h1 h2 h3
  split at h
  ·rename_i fs i hu hi
   obtain ⟨z, hz⟩ := Option.isSome_iff_exists.1 h
   refine ⟨h2, h3, z, fun a w ha => ?_⟩
   have hv : a.tmps[4]?.getD undef = .nilIface := by simpa [Act.eval] using ha
   simp [execOp, h1, Act.eval, hv, Instr.typeAssert, run_underlying hu, zeroValue, typeInfo, hi, hz, go_sem]
  ·simp at h
 ·simp at h
theorem exOp_run {o : Oper} {j d : Nat} (h : exOp j d o = true) : o.dst = some d ∧ o.guard = none ∧ ∀ (a : Act) (w : World) (vs : Array Value) (v : Value), a.eval (.tmp 7) = .tuple vs → vs[j]? = some v → (execOp a.eval o).run P w = .ok (.value v) w := by
 unfold exOp at h
 split at h
 ·rename_i i d' h1 h2 h3
  simp only [Bool.and_eq_true, beq_iff_eq] at h
  obtain ⟨rfl, rfl⟩ := h
  refine ⟨h2, h3, fun a w vs v ha hv => ?_⟩
  have hv' : a.tmps[7]?.getD undef = .tuple vs := by simpa [Act.eval] using ha
  simp [execOp, h1, Act.eval, hv', Instr.extract, hv, go_sem]
 ·simp at h
theorem piOp_run {o : Oper} (h : piOp o = true) : o.dst = some 10 ∧ o.guard = none ∧ ∀ (a : Act) (w : World), a.eval (.tmp 6) = .bool true → (execOp a.eval o).run P w = .ok (.value (.bool true)) w := by
 unfold piOp at h
 split at h
 ·rename_i h1 h2 h3
  refine ⟨h2, h3, fun a w ha => ?_⟩
  have hv' : a.tmps[6]?.getD undef = .bool true := by simpa [Act.eval] using ha
  simp [execOp, h1, Act.eval, hv', asBool, go_sem]
 ·simp at h
theorem asOp_run {o : Oper} (h : asOp o = true) : o.dst = some 1 ∧ o.guard = none ∧ ∀ (a : Act) (w : World), (execOp a.eval o).run P w = .ok (.value (a.eval (.tmp 4))) w := by
 unfold asOp at h
 split at h
 ·rename_i h1 h2 h3
  exact ⟨h2, h3, fun a w => by simp [execOp, h1, go_sem]⟩
 ·simp at h
theorem stOp_run {o : Oper} (h : stOp P o = true) : o.dst = none ∧ o.guard = none ∧ ∀ (a : Act) (w : World) (b off : Nat) (arr : Array Value) (t : TypeId), a.eval (.tmp 0) = .pointer (some ⟨b, off, none⟩) → w.heap[b]? = some (.cells arr t (0, 0)) → arr[off]? = some (.bool true) → ∃ nx, (execOp a.eval o).run P w = .ok nx w ∧ (nx = .skip ∨ ∃ v, nx = .value v) := by
 unfold stOp at h
 split at h
 ·rename_i t0 h1 h2 h3
  have hn : cSize P t0 = some 1 := by simpa using h
  refine ⟨h2, h3, fun a w b off arr t ha hm ht => ?_⟩
  obtain ⟨inf, hinf, hinfs⟩ : ∃ inf, P.info? t0 = some inf ∧ inf.size = 1 := by
   unfold cSize at hn
   cases hi : P.info? t0 with
   | none => simp [hi] at hn
   | some inf => exact ⟨inf, rfl, by simpa [hi] using hn⟩
  have hlt : off < arr.size := (Array.getElem?_eq_some_iff.1 ht).1
  have hst := run_storeCells_at P b off t [Value.bool true] 0 arr w hm (by simp; omega) (fun c hc => by simp at hc; subst hc; rfl)
  simp only [Nat.add_zero] at hst
  have e : (arr.toList.take off ++ [Value.bool true] ++ arr.toList.drop (off + [Value.bool true].length)).toArray = arr := by
   have e1 : arr.toList[off]? = some (Value.bool true) := by rw [Array.getElem?_toList]; exact ht
   have hl : off < arr.toList.length := by simpa using hlt
   have e2 : arr.toList[off] = Value.bool true := by rw [List.getElem?_eq_getElem hl] at e1; injection e1
   rw [← Array.toList_inj]
   simp only [List.append_assoc, List.cons_append, List.nil_append, List.length_cons, List.length_nil, Nat.zero_add]
   rw [← e2, List.getElem_cons_drop, List.take_append_drop]
  rw [e, setRow_self w b arr t (0, 0) hm] at hst
  have hv' : a.tmps[0]?.getD undef = .pointer (some ⟨b, off, none⟩) := by simpa [Act.eval] using ha
  refine ⟨.skip, ?_, .inl rfl⟩
  have key : (Instr.storeAt t0 (.pointer (some ⟨b, off, none⟩)) (.bool true)).run P w = .ok () w := by
   have hc : (Value.bool true).cells = #[Value.bool true] := rfl
   rw [← hst]
   simp [Instr.storeAt, Instr.sureAddr, storeVar, sizeOf, typeInfo, hinf, hinfs, hc]
  simp [execOp, h1, Act.eval, hv', key]
 ·simp at h
theorem wpOp_val {ops : Array Oper} {i : Nat} {o : Oper} {a : Act} {w : World} {nx : Next} {Q : Exit → Act → World → Prop} {rest : List Nat} (hi : ops[i]? = some o) (hg : o.guard = none) {v : Value} (hr : (execOp a.eval o).run P w = .ok nx w) (hv : nx = .value v ∨ (nx = .skip ∧ v = undef)) (hn : wpOps P ops Q rest (a.put o.dst v) w) : wpOps P ops Q (i :: rest) a w := by
 have hw : Region.wanted o (yielded ops a.tmps) = true := by simp [Region.wanted, hg]
 unfold wpOps
 rw [hi]
 simp only []
 rw [if_pos hw]
 refine .inl ?_
 unfold Oper.wp
 rw [hr]
 rcases hv with rfl | ⟨rfl, rfl⟩
 ·exact hn
 ·exact hn
set_option maxHeartbeats 4000000 in
theorem idleB_of {f : Nat} (h : isIdleB P f = true) : IdleB P f := by
 unfold isIdleB at h
 split at h
 case h_2 => simp at h
 rename_i fn hf
 split at h
 case h_2 => simp at h
 rename_i i0 r0 bl i3 r3 i4 r4 i5 r5 els hb
 split at h
 case h_2 => simp at h
 rename_i o0 a1 a2 a3 a4 a5 b1 d1 e0 e3 e4 e5 er
 simp only [Bool.and_eq_true, beq_iff_eq] at h
 obtain ⟨⟨⟨⟨⟨⟨⟨⟨hn, c0⟩, c1⟩, c2⟩, c3⟩, c4⟩, c5⟩, c6⟩, c7⟩ := h
 obtain ⟨k0, g0, x0⟩ := recOp_run (P := P) c0
 obtain ⟨k1, g1, x1⟩ := eqOp_run c1
 obtain ⟨k2, g2, z, x2⟩ := taOp_run c2
 obtain ⟨k3, g3, x3⟩ := exOp_run (P := P) c3
 obtain ⟨k4, g4, x4⟩ := exOp_run (P := P) c4
 obtain ⟨k5, g5, x5⟩ := piOp_run (P := P) c5
 obtain ⟨k6, g6, x6⟩ := asOp_run (P := P) c6
 obtain ⟨k7, g7, x7⟩ := stOp_run c7
 intro b off arr t w hm ht
 refine callsD_of_wpS hf hb fun cc₀ cs hu => ?_
 have gt : ∀ {r : Array Oper} {l : List Oper}, r.toList = l → ∀ i, r[i]? = l[i]? := fun {r l} h i => by rw [← h, Array.getElem?_toList]
 have sz : ∀ {r : Array Oper} {l : List Oper}, r.toList = l → r.size = l.length := fun {r l} h => by rw [← h]; simp
 have rec0 : recoverD (cc₀ :: cs) = none := by simp [recoverD, hu]
 have wn : ∀ (ops : Array Oper) (o : Oper) (a : Array Value), o.guard = none → Region.wanted o (yielded ops a) = true := fun ops o a hg => by simp [Region.wanted, hg]
 have st : ({ tmps := #[Value.pointer (some ⟨b, off, none⟩)] ++ Array.replicate (fn.ntmps - #[Value.pointer (some ⟨b, off, none⟩)].size) undef, defers := [] } : Act) = ⟨#[.pointer (some ⟨b, off, none⟩), undef, undef, undef, undef, undef, undef, undef, undef, undef, undef, undef, undef, undef], []⟩ := by
  rw [hn]; rfl
 rw [st]
 apply wpS_seq
 apply wpS_region
 rw [sz e0]
 show wpOpsS P r0 _ [0] _ _ _
 have q0 : r0[0]? = some o0 := by rw [gt e0]; rfl
 simp only [wpOpsS, q0, wn _ _ _ g0, if_true, x0, rec0, k0]
 show Code.wpS P _ _ _ _ _
 refine wpS_of_wp ?_
 refine wp_block ?_
 refine wp_seq ?_
 refine wp_region ?_
 rw [sz e3]
 show wpOps P r3 _ [0, 1, 2, 3, 4] _ _
 refine wpOp_val (by rw [gt e3]; rfl) g1 (x1 _ _ rfl) (.inl rfl) ?_
 rw [k1]
 refine wpOp_val (by rw [gt e3]; rfl) g2 (x2 _ _ rfl) (.inl rfl) ?_
 rw [k2]
 refine wpOp_val (by rw [gt e3]; rfl) g3 (x3 _ _ _ _ rfl rfl) (.inl rfl) ?_
 rw [k3]
 refine wpOp_val (by rw [gt e3]; rfl) g4 (x4 _ _ _ _ rfl rfl) (.inl rfl) ?_
 rw [k4]
 refine wpOp_val (by rw [gt e3]; rfl) g5 (x5 _ _ rfl) (.inl rfl) ?_
 rw [k5]
 show Code.wp P _ _ _ _
 refine wp_cond (t := true) rfl ?_
 simp only [if_true]
 refine wp_seq ?_
 refine wp_region ?_
 rw [sz e4]
 show wpOps P r4 _ [0] _ _
 refine wpOp_val (by rw [gt e4]; rfl) g6 (x6 _ _) (.inl rfl) ?_
 rw [k6]
 show Code.wp P _ _ _ _
 refine wp_region ?_
 rw [sz e5]
 show wpOps P r5 _ [0] _ _
 obtain ⟨nx, hx, hnx⟩ := x7 (Act.put (Act.put (Act.put (Act.put (Act.put (Act.put (Act.put ⟨#[.pointer (some ⟨b, off, none⟩), undef, undef, undef, undef, undef, undef, undef, undef, undef, undef, undef, undef, undef], []⟩ (some 4) .nilIface) (some 6) (.bool true)) (some 7) (.tuple #[z, .bool false])) (some 8) (.bool false)) (some 9) z) (some 10) (.bool true)) (some 1) .nilIface) w b off arr t rfl hm ht
 have hnx' : ∃ v, nx = .value v ∨ (nx = .skip ∧ v = undef) := by
  rcases hnx with h | ⟨v, h⟩
  ·exact ⟨undef, .inr ⟨h, rfl⟩⟩
  ·exact ⟨v, .inl h⟩
 obtain ⟨v, hv⟩ := hnx'
 refine wpOp_val (by rw [gt e5]; rfl) g7 hx hv ?_
 rw [k7]
 refine ⟨rfl, .returning, by rw [← hu], .tuple #[], ?_, ⟨_, rfl⟩, rfl, rfl⟩
 have hr2 : fn.results = #[] := by
  have : fn.results.toList = (#[] : Array ResultVar).toList := er
  exact Array.ext' this
 simp [results, hr2, go_sem]
end Go.Proofs.YtkockkfmjmheeaaGreat.E
