/- The row of PrivacyTurned: for every input the law returns true, and its arguments read as they did. No condition. -/
import Derived.Test.YtipbefckimdkkaaGreatRows
import Derived.Test.YtipbefckimdkkaaGreatGE
import Derived.Test.YtipbefckimdkkaaGreatJLPV
import Derived.WalkKit
import Derived.ProofKit
import Derived.OpenShut
import Derived.ShutString
import Derived.ChangeOld
import Derived.Below
import Derived.SizedLaws
namespace Go.Proofs.YtipbefckimdkkaaGreat.privacyTurned
open Go Go.ChangeShapes Go.WideShapes Go.ChangeAt Go.RowKit
set_option linter.unusedVariables false
theorem own : ownKnob Tryz.prog.godebug = none := by kernel_rfl
theorem laidOut : laidOutB Tryz.prog = true := by kernel_rfl
def types : List TypeId := [22, 81, 58, 50, 3, 28, 4, 26, 120, 71, 79]
theorem types_ok : E.okTypes Tryz.prog types = true := by kernel_rfl
set_option maxRecDepth 100000 in
theorem lifted (os : Os) (started : os.Started) (H : Type) (enc : TypeId × Value → H) :
 ReturnsInHanded {} Tryz.checked os 12 .any (Rows.privacyTurnedSpec.pre6 enc Tryz.prog Tryz.f12 Rows.privacyTurnedRow.domain false) (Rows.privacyTurnedSpec.post enc Tryz.prog Tryz.f12 false true false false) := by
 refine returnsInHanded_of_change_sized (C := Tryz.checked) own started (by kernel_rfl) Tryz.func12
  (ChangeSpec.witness6 (enc := enc) (C := Tryz.checked) false ⟨#[], #[.agg #[.slice none 0 0, .slice none 0 0], .slice none 0 0, .agg #[.bool false, .slice none 0 0, .slice none 0 0]], []⟩ 8 (by kernel_rfl) (by kernel_rfl) (by kernel_rfl) (by kernel_rfl)) ?_
 intro W base args ds gs before hval0 hW hcnd hsz0 _
 have hval : ∀ (j : Nat) t v, Tryz.f12.params[j]? = some t → args[j]? = some v → Value.okWide Tryz.prog W .any base t v := hval0
 have hW' := hW
 obtain ⟨p, q, hA0, hV, rfl, hfz, hnd⟩ := hW
 have hA : DataW.TrodAll enc Tryz.prog W 0 (fun _ => true) true Tryz.f12.params.toList args.toList ds p := hA0
 rw [Tryz.params12] at hA hval
 obtain ⟨v0, vs0, d0, ds0, p0, q0, hargs, rfl, rfl, h0, r0⟩ := trodAll_cons hA
 obtain ⟨v1, vs1, d1, ds1, p1, q1, rfl, rfl, rfl, h1, r1⟩ := trodAll_cons r0
 obtain ⟨v2, vs2, d2, ds2, p2, q2, rfl, rfl, rfl, h2, r2⟩ := trodAll_cons r1
 obtain ⟨rfl, rfl, rfl⟩ := trodAll_nil r2
 obtain rfl : args = #[v0, v1, v2] := by cases args; simp_all
 obtain ⟨rfl, rfl⟩ := trodVars_none hV
 obtain ⟨l0, n0, e0, T0⟩ := E.arg_agg types_ok (t := 79) (by kernel_rfl) (of_decide_eq_true (by kernel_rfl)) h0
 have k0 := h0
 have lt0 : ∀ x ∈ p0, x.block < W.heap.size := by obtain ⟨m, hm⟩ := k0; exact DataW.trod_lt m _ _ _ hm
 obtain ⟨l1, n1, e1, T1⟩ := E.arg_slice types_ok (by kernel_rfl) Tryz.underlying71 (hval 1 71 v1 rfl rfl) h1
 have k1 := h1
 have lt1 : ∀ x ∈ p1, x.block < W.heap.size := by obtain ⟨m, hm⟩ := k1; exact DataW.trod_lt m _ _ _ hm
 obtain ⟨l2, n2, e2, T2⟩ := E.arg_agg types_ok (t := 28) (by kernel_rfl) (of_decide_eq_true (by kernel_rfl)) h2
 have k2 := h2
 have lt2 : ∀ x ∈ p2, x.block < W.heap.size := by obtain ⟨m, hm⟩ := k2; exact DataW.trod_lt m _ _ _ hm
 have hcall := privacyTurned_law ⟨n0, T0⟩ ⟨n1, T1⟩ ⟨n2, T2⟩
 refine (hcall.2 (E.immOf W) W _ (E.immOf_ok W) (fun p hp => by simp [E.tabs] at hp) (E.args_of (cs := [v0, v1, v2]) (vs := [.agg l0, .dat l1, .agg l2]) ⟨e0, e1, e2, trivial⟩)).mono fun e W' ⟨rv, I', r, he, bel, _, _, _, hrel, hr⟩ => ?_
 subst hr
 cases hrel
 subst he
 exact ⟨_, rfl, _, _, _, [], _, [], hW', trodAll_mk1 (shut_bool Tryz.underlying4 _), (trodAll_cons_mk (Below.trod laidOut (by kernel_rfl) (of_decide_eq_true (by kernel_rfl)) k0 bel lt0) (trodAll_cons_mk (Below.trod laidOut (by kernel_rfl) (of_decide_eq_true (by kernel_rfl)) k1 bel lt1) (trodAll_cons_mk (Below.trod laidOut (by kernel_rfl) (of_decide_eq_true (by kernel_rfl)) k2 bel lt2) trodAll_mk0))), rfl, bel.frame _, fun h => by cases h⟩
theorem over : Rows.privacyTurnedRow.holds Tryz.pinned (OpenSpec.ofChange Rows.privacyTurnedSpec) :=
 OpenClaim.holds_of_wide 12 Tryz.f12 rfl rfl rfl rfl rfl rfl rfl ⟨rfl, rfl, rfl, rfl, rfl⟩ rfl rfl rfl rfl rfl (by kernel_rfl) Tryz.func12 (by kernel_rfl)
  (of_decide_eq_true (by kernel_rfl)) (by unfold Func.isWrapper; first | (rw [if_pos (by decide +kernel)]; kernel_rfl) | (rw [if_neg (by decide +kernel)]; exact ⟨rfl, rfl⟩))
  (fun os started H enc _ => lifted os started H enc)
theorem proved : Rows.PrivacyTurnedSaid := over
end Go.Proofs.YtipbefckimdkkaaGreat.privacyTurned
namespace Go.Proofs.YtipbefckimdkkaaGreat
/-- The row, under a short name, for the claim. -/
theorem privacyTurned_holds : Rows.PrivacyTurnedSaid := privacyTurned.proved
#print axioms privacyTurned_holds
end Go.Proofs.YtipbefckimdkkaaGreat
