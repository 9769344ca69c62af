/- The row of WeighTerms: for every input the law returns true, and its arguments read as they did. No condition. -/
import Derived.Test.YtkockkfmjmheeaaGreatRows
import Derived.Test.YtkockkfmjmheeaaGreatGE
import Derived.Test.YtkockkfmjmheeaaGreatJLWT
import Derived.WalkKit
import Derived.ProofKit
import Derived.OpenShut
import Derived.ShutString
import Derived.ChangeOld
import Derived.Below
import Derived.SizedLaws
namespace Go.Proofs.YtkockkfmjmheeaaGreat.weighTerms
open Go Go.ChangeShapes Go.WideShapes Go.ChangeAt Go.RowKit
set_option linter.unusedVariables false
theorem own : ownKnob Tryz.prog.godebug = none := by kernel_rfl
theorem laidOut : laidOutB Tryz.prog = true := by kernel_rfl
def types : List TypeId := [28, 3, 24, 22, 25, 26]
theorem types_ok : E.okTypes Tryz.prog types = true := by kernel_rfl
set_option maxRecDepth 100000 in
theorem lifted (os : Os) (started : os.Started) (H : Type) (enc : TypeId × Value → H) :
 ReturnsInHanded {} Tryz.checked os 3 .any (Rows.weighTermsSpec.pre6 enc Tryz.prog Tryz.f3 Rows.weighTermsRow.domain false) (Rows.weighTermsSpec.post enc Tryz.prog Tryz.f3 false true false false) := by
 refine returnsInHanded_of_change_sized (C := Tryz.checked) own started (by kernel_rfl) Tryz.func3
  (ChangeSpec.witness6 (enc := enc) (C := Tryz.checked) false ⟨#[], #[.agg #[.int .i64 0, .int .i64 0, .int .i64 0, .int .i64 0, .int .i64 0, .slice none 0 0, .slice none 0 0, .slice none 0 0]], []⟩ 8 (by kernel_rfl) (by kernel_rfl) (by kernel_rfl) (by kernel_rfl)) ?_
 intro W base args ds gs before hval0 hW hcnd hsz0 _
 have hval : ∀ (j : Nat) t v, Tryz.f3.params[j]? = some t → args[j]? = some v → Value.okWide Tryz.prog W .any base t v := hval0
 have hW' := hW
 obtain ⟨p, q, hA0, hV, rfl, hfz, hnd⟩ := hW
 have hA : DataW.TrodAll enc Tryz.prog W 0 (fun _ => true) true Tryz.f3.params.toList args.toList ds p := hA0
 rw [Tryz.params3] at hA hval
 obtain ⟨v0, vs0, d0, ds0, p0, q0, hargs, rfl, rfl, h0, r0⟩ := trodAll_cons hA
 obtain ⟨rfl, rfl, rfl⟩ := trodAll_nil r0
 obtain rfl : args = #[v0] := by cases args; simp_all
 obtain ⟨rfl, rfl⟩ := trodVars_none hV
 obtain ⟨l0, n0, e0, T0⟩ := E.arg_agg types_ok (t := 28) (by kernel_rfl) (of_decide_eq_true (by kernel_rfl)) h0
 have k0 := h0
 have lt0 : ∀ x ∈ p0, x.block < W.heap.size := by obtain ⟨m, hm⟩ := k0; exact DataW.trod_lt m _ _ _ hm
 have hcall := weighTerms_law ⟨n0, T0⟩
 refine (hcall.2 (E.immOf W) W _ (E.immOf_ok W) (fun p hp => by simp [E.tabs] at hp) (E.args_of (cs := [v0]) (vs := [.agg l0]) ⟨e0, trivial⟩)).mono fun e W' ⟨rv, I', r, he, bel, _, _, _, hrel, hr⟩ => ?_
 subst hr
 cases hrel
 subst he
 exact ⟨_, rfl, _, _, _, [], _, [], hW', trodAll_mk1 (shut_bool Tryz.underlying4 _), (trodAll_cons_mk (Below.trod laidOut (by kernel_rfl) (of_decide_eq_true (by kernel_rfl)) k0 bel lt0) trodAll_mk0), rfl, bel.frame _, fun h => by cases h⟩
theorem over : Rows.weighTermsRow.holds Tryz.pinned (OpenSpec.ofChange Rows.weighTermsSpec) :=
 OpenClaim.holds_of_wide 3 Tryz.f3 rfl rfl rfl rfl rfl rfl rfl ⟨rfl, rfl, rfl, rfl, rfl⟩ rfl rfl rfl rfl rfl (by kernel_rfl) Tryz.func3 (by kernel_rfl)
  (of_decide_eq_true (by kernel_rfl)) (by unfold Func.isWrapper; first | (rw [if_pos (by decide +kernel)]; kernel_rfl) | (rw [if_neg (by decide +kernel)]; exact ⟨rfl, rfl⟩))
  (fun os started H enc _ => lifted os started H enc)
theorem proved : Rows.WeighTermsSaid := over
end Go.Proofs.YtkockkfmjmheeaaGreat.weighTerms
namespace Go.Proofs.YtkockkfmjmheeaaGreat
/-- The row, under a short name, for the claim. -/
theorem weighTerms_holds : Rows.WeighTermsSaid := weighTerms.proved
#print axioms weighTerms_holds
end Go.Proofs.YtkockkfmjmheeaaGreat
