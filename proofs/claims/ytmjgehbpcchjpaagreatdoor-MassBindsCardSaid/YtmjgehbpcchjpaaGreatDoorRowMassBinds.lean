/- The row of MassBinds: for every input the law returns true, and its arguments read as they did. No condition. -/
import Derived.Test.YtmjgehbpcchjpaaGreatDoorRows
import Derived.Test.YtmjgehbpcchjpaaGreatDoorGE
import Derived.Test.YtmjgehbpcchjpaaGreatDoorJLMI
import Derived.WalkKit
import Derived.ProofKit
import Derived.OpenShut
import Derived.ShutString
import Derived.ChangeOld
import Derived.Below
import Derived.SizedLaws
import Derived.Lay
import Derived.MakeChecks
import Derived.LaidLaws
import Derived.Lib.LaidTab
namespace Go.Proofs.YtmjgehbpcchjpaaGreatDoor.massBinds
open Go Go.ChangeShapes Go.WideShapes Go.ChangeAt Go.RowKit
set_option linter.unusedVariables false
theorem own : ownKnob Tryz.prog.godebug = none := by kernel_rfl
theorem rM : laidOutB Tryz.prog = true := by kernel_rfl
def types : List TypeId := [35, 32, 67, 45, 43, 3, 27, 4, 25, 111, 33, 22]
theorem qD : E.okTypes Tryz.prog types = true := by kernel_rfl
theorem tail {P : Program} {x : String × DataW Unit} {r : List (String × DataW Unit)} {w : World} (h : laidMet P (x :: r) w) : laidMet P r w := by
 obtain ⟨ps, hv, hnd, hrows⟩ := h
 obtain ⟨n, d⟩ := x
 obtain ⟨g, t, cs, fuel, p, q, _, _, _, _, hq, rfl⟩ := hv
 exact ⟨q, hq, List.Nodup.sublist (List.sublist_append_right _ _) hnd, fun b off hm => hrows b off (List.mem_append_right _ hm)⟩
theorem tabs_ok (W : World) (h : laidMetH Tryz.prog Rows.massBindsRow.laid W) : E.TabI (E.immOf W) := by
 rw [MakeChecks.laidMetH_plain _ _ _ (by kernel_rfl)] at h
 have h : laidMet Tryz.prog [("math/bits.deBruijn32tab", Rows.laid_math_bits_deBruijn32tab), ("math/bits.deBruijn64tab", Rows.laid_math_bits_deBruijn64tab), ("internal/strconv.uint64pow10", Rows.laid_internal_strconv_uint64pow10)] W := h
 have h := tail h
 have h := tail h
 have e : (Rows.laid_internal_strconv_uint64pow10 : DataW Unit) = Lib.tabData .u64 Lib.pow10Tab := by kernel_rfl
 rw [e] at h
 have h2 := Lib.tabIs_of_head (g := 1) (t := 197) (e := 106) (n := 20) (by kernel_rfl) (by kernel_rfl) Tryz.underlying197 Tryz.underlying106 (by kernel_rfl) (by kernel_rfl) h
 intro p hp
 simp only [E.tabs, List.mem_singleton] at hp
 subst hp
 unfold Lib.TabIs World.var? at h2
 rw [show Tryz.prog.globalNamed "internal/strconv.uint64pow10" = some 1 by kernel_rfl] at h2
 simp only [Option.bind_some] at h2
 unfold E.immOf
 split at h2
 ·rename_i cs t fr hm; rw [hm]; exact h2
 ·cases h2
set_option maxRecDepth 100000 in
theorem lifted (os : Os) (started : os.Started) (H : Type) (enc : TypeId × Value → H) :
 ReturnsInHanded {} Tryz.checked os 10 .any (fun w args => (Rows.massBindsSpec.pre enc Tryz.prog Tryz.f10 Rows.massBindsRow.domain false w args ∧ laidMetH Tryz.prog Rows.massBindsRow.laid w) ∧ sizedMet enc Tryz.prog Tryz.f10 (OpenSpec.ofChange Rows.massBindsSpec) false w args) (Rows.massBindsSpec.post enc Tryz.prog Tryz.f10 false true false false) := by
 refine returnsInHanded_of_change_and (C := Tryz.checked) (X := fun w _ => laidMetH Tryz.prog Rows.massBindsRow.laid w) (fun _ _ _ hh h => h.of_heap hh) own started (by kernel_rfl) Tryz.func10
  (ChangeSpec.witness_shaped (enc := enc) (C := Tryz.checked) (os := os) (X := fun w _ => laidMetH Tryz.prog Rows.massBindsRow.laid w) false (World.laidAll Tryz.prog os Rows.massBindsRow.laid) #[.agg #[.slice none 0 0, .bool false, .slice none 0 0, .slice none 0 0, .bool false, .slice none 0 0, .slice none 0 0, .bool false, .slice none 0 0, .slice none 0 0, .bool false, .slice none 0 0, .slice none 0 0, .bool false, .slice none 0 0, .slice none 0 0], .slice none 0 0] 8 (World.laidAll_os _ _ _)
    (World.shaped_of_ZipB (by kernel_rfl) (by kernel_rfl)) (by kernel_rfl) (by kernel_rfl) (by kernel_rfl)
    (by rw [MakeChecks.laidMetH_plain _ _ _ (by kernel_rfl)]; exact laidMet_laidAll _ (by kernel_rfl) (by kernel_rfl))) ?_
 intro W aD args ds gs before hval0 hW hcnd hsz0 hlaid _
 have hval : ∀ (j : Nat) t v, Tryz.f10.params[j]? = some t → args[j]? = some v → Value.okWide Tryz.prog W .any aD t v := hval0
 have hW' := hW
 obtain ⟨p, q, hA0, hV, rfl, hfz, hnd⟩ := hW
 have hA : DataW.TrodAll enc Tryz.prog W 0 (fun _ => true) true Tryz.f10.params.toList args.toList ds p := hA0
 rw [Tryz.params10] at hA hval
 obtain ⟨v0, vs0, d0, ds0, p0, q0, hargs, rfl, rfl, h0, r0⟩ := trodAll_cons hA
 obtain ⟨v1, vs1, d1, ds1, p1, q1, rfl, rfl, rfl, h1, r1⟩ := trodAll_cons r0
 obtain ⟨rfl, rfl, rfl⟩ := trodAll_nil r1
 obtain rfl : args = #[v0, v1] := by cases args; simp_all
 obtain ⟨rfl, rfl⟩ := trodVars_none hV
 obtain ⟨l0, n0, e0, T0⟩ := E.arg_agg qD (t := 35) (by kernel_rfl) (of_decide_eq_true (by kernel_rfl)) h0
 have k0 := h0
 have lt0 : ∀ x ∈ p0, x.block < W.heap.size := by obtain ⟨m, hm⟩ := k0; exact DataW.trod_lt m _ _ _ hm
 obtain ⟨l1, n1, e1, T1⟩ := E.arg_slice qD (by kernel_rfl) Tryz.underlying22 (hval 1 22 v1 rfl rfl) h1
 have k1 := h1
 have lt1 : ∀ x ∈ p1, x.block < W.heap.size := by obtain ⟨m, hm⟩ := k1; exact DataW.trod_lt m _ _ _ hm
 have hcall := nB ⟨n0, T0⟩ ⟨n1, T1⟩
 refine (hcall.2 (E.immOf W) W _ (E.immOf_ok W) (tabs_ok W hlaid) (E.args_of (cs := [v0, v1]) (vs := [.agg l0, .dat l1]) ⟨e0, e1, trivial⟩)).mono fun e W' ⟨rv, I', r, he, bel, _, _, _, hrel, hr⟩ => ?_
 subst hr
 cases hrel
 subst he
 exact ⟨_, rfl, _, _, _, [], _, [], hW', trodAll_mk1 (shut_bool Tryz.underlying4 _), (trodAll_cons_mk (Below.trod rM (by kernel_rfl) (of_decide_eq_true (by kernel_rfl)) k0 bel lt0) (trodAll_cons_mk (Below.trod rM (by kernel_rfl) (of_decide_eq_true (by kernel_rfl)) k1 bel lt1) trodAll_mk0)), rfl, bel.frame _, fun h => by cases h⟩
theorem over : Rows.massBindsRow.holds Tryz.pinned (OpenSpec.ofChange Rows.massBindsSpec) :=
 OpenClaim.holds_of_wide 10 Tryz.f10 rfl rfl rfl rfl rfl rfl rfl ⟨rfl, rfl, rfl, rfl, rfl⟩ rfl rfl rfl rfl rfl (by kernel_rfl) Tryz.func10 (by kernel_rfl)
  (of_decide_eq_true (by kernel_rfl)) (by unfold Func.isWrapper; first | (rw [if_pos (by decide +kernel)]; kernel_rfl) | (rw [if_neg (by decide +kernel)]; exact ⟨rfl, rfl⟩))
  (fun os started H enc _ => lifted os started H enc)
theorem proved : Rows.MassBindsSaid := over
end Go.Proofs.YtmjgehbpcchjpaaGreatDoor.massBinds
namespace Go.Proofs.YtmjgehbpcchjpaaGreatDoor
/-- The row, under a short name, for the claim. -/
theorem massBinds_holds : Rows.MassBindsSaid := massBinds.proved
#print axioms massBinds_holds
end Go.Proofs.YtmjgehbpcchjpaaGreatDoor
