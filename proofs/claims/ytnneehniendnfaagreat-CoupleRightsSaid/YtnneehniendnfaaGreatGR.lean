/- Joined texts: TAlive, CAlive. -/
import Derived.Test.YtnneehniendnfaaGreatGE
import Derived.Test.YtnneehniendnfaaGreatJFNat
import Derived.Test.YtnneehniendnfaaGreatJFRef01
import Derived.Test.YtnneehniendnfaaGreatJFRat
import Derived.Test.YtnneehniendnfaaGreatJFVal
import Derived.Test.YtnneehniendnfaaGreatJFCou
import Derived.Test.YtnneehniendnfaaGreatGH
import Derived.KernelRfl
/- Functions of the program, as a table, for runs on data. Written by tab.py. -/
namespace Go.Proofs.YtnneehniendnfaaGreat
open Go Go.Proofs Go.Proofs.YtnneehniendnfaaGreat.E

def TAliveT (f : Nat) : Option MFn :=
  (match Nat.blt f 96 with
  | true =>
    (match Nat.blt f 57 with
    | true =>
      (match Nat.blt f 42 with
      | true =>
        (match Nat.blt f 24 with
        | true =>
          (match Nat.blt f 19 with
          | true =>
            (match Nat.blt f 16 with
            | true =>
              (match Nat.beq f 14 with | true => some F.couple_Right_c | false => none)
            | false =>
              (match Nat.beq f 16 with | true => some F.couple_Couples_c | false => none))
          | false =>
            (match Nat.blt f 20 with
            | true =>
              (match Nat.beq f 19 with | true => some F.law35_alive_c | false => none)
            | false =>
              (match Nat.blt f 22 with
              | true =>
                (match Nat.beq f 20 with | true => some F.couple_Apart_c | false => none)
              | false =>
                (match Nat.beq f 22 with | true => some F.couple_Best_c | false => none))))
        | false =>
          (match Nat.blt f 30 with
          | true =>
            (match Nat.blt f 27 with
            | true =>
              (match Nat.beq f 24 with | true => some F.ref02_Same_c | false => none)
            | false =>
              (match Nat.blt f 29 with
              | true =>
                (match Nat.beq f 27 with | true => some F.ref02_Compare_c | false => none)
              | false =>
                (match Nat.beq f 29 with | true => some F.ref02_Zero_c | false => none)))
          | false =>
            (match Nat.blt f 31 with
            | true =>
              (match Nat.beq f 30 with | true => some F.ref02_Add_c | false => none)
            | false =>
              (match Nat.blt f 41 with
              | true =>
                (match Nat.beq f 31 with | true => some F.ref02_Sub_c | false => none)
              | false =>
                (match Nat.beq f 41 with | true => some F.ratio_Zero_c | false => none)))))
      | false =>
        (match Nat.blt f 48 with
        | true =>
          (match Nat.blt f 45 with
          | true =>
            (match Nat.blt f 43 with
            | true =>
              (match Nat.beq f 42 with | true => some F.value_Right_c | false => none)
            | false =>
              (match Nat.blt f 44 with
              | true =>
                (match Nat.beq f 43 with | true => some F.ratio_Right_c | false => none)
              | false =>
                (match Nat.beq f 44 with | true => some F.ratio_Sign_c | false => none)))
          | false =>
            (match Nat.blt f 46 with
            | true =>
              (match Nat.beq f 45 with | true => some F.value_Compare_c | false => none)
            | false =>
              (match Nat.blt f 47 with
              | true =>
                (match Nat.beq f 46 with | true => some F.ratio_Add_c | false => none)
              | false =>
                (match Nat.beq f 47 with | true => some F.ratio_Same_c | false => none))))
        | false =>
          (match Nat.blt f 54 with
          | true =>
            (match Nat.blt f 51 with
            | true =>
              (match Nat.beq f 48 with | true => some F.ratio_One_c | false => none)
            | false =>
              (match Nat.blt f 53 with
              | true =>
                (match Nat.beq f 51 with | true => some F.ref02_Sign_c | false => none)
              | false =>
                (match Nat.beq f 53 with | true => some F.ref02_One_c | false => none)))
          | false =>
            (match Nat.blt f 55 with
            | true =>
              (match Nat.beq f 54 with | true => some F.couple_weights_c | false => none)
            | false =>
              (match Nat.blt f 56 with
              | true =>
                (match Nat.beq f 55 with | true => some F.couple_compare_c | false => none)
              | false =>
                (match Nat.beq f 56 with | true => some F.ratio_Sub_c | false => none))))))
    | false =>
      (match Nat.blt f 76 with
      | true =>
        (match Nat.blt f 65 with
        | true =>
          (match Nat.blt f 60 with
          | true =>
            (match Nat.blt f 58 with
            | true =>
              (match Nat.beq f 57 with | true => some F.slices_ContainsFunc_Ratio_Ratio_c | false => none)
            | false =>
              (match Nat.blt f 59 with
              | true =>
                (match Nat.beq f 58 with | true => some F.couple_Couples_1_c | false => none)
              | false =>
                (match Nat.beq f 59 with | true => some F.law35_sure_c | false => none)))
          | false =>
            (match Nat.blt f 61 with
            | true =>
              (match Nat.beq f 60 with | true => some F.couple_place_c | false => none)
            | false =>
              (match Nat.blt f 64 with
              | true =>
                (match Nat.beq f 61 with | true => some F.ref02_Neg_c | false => none)
              | false =>
                (match Nat.beq f 64 with | true => some F.ratio_Least_c | false => none))))
        | false =>
          (match Nat.blt f 73 with
          | true =>
            (match Nat.blt f 66 with
            | true =>
              (match Nat.beq f 65 with | true => some F.couple_gathered_c | false => none)
            | false =>
              (match Nat.blt f 72 with
              | true =>
                (match Nat.beq f 66 with | true => some F.couple_inOrder_c | false => none)
              | false =>
                (match Nat.beq f 72 with | true => some F.ref01_Of_c | false => none)))
          | false =>
            (match Nat.blt f 74 with
            | true =>
              (match Nat.beq f 73 with | true => some F.ref02_valid_c | false => none)
            | false =>
              (match Nat.blt f 75 with
              | true =>
                (match Nat.beq f 74 with | true => some F.ref01_Mul_c | false => none)
              | false =>
                (match Nat.beq f 75 with | true => some F.ref01_Add_c | false => none)))))
      | false =>
        (match Nat.blt f 90 with
        | true =>
          (match Nat.blt f 82 with
          | true =>
            (match Nat.blt f 77 with
            | true =>
              (match Nat.beq f 76 with | true => some F.ref01_Compare_c | false => none)
            | false =>
              (match Nat.blt f 78 with
              | true =>
                (match Nat.beq f 77 with | true => some F.ref01_Sub_c | false => none)
              | false =>
                (match Nat.beq f 78 with | true => some F.ref02_Of_c | false => none)))
          | false =>
            (match Nat.blt f 88 with
            | true =>
              (match Nat.beq f 82 with | true => some F.ratio_Compare_c | false => none)
            | false =>
              (match Nat.blt f 89 with
              | true =>
                (match Nat.beq f 88 with | true => some F.nat_Of_c | false => none)
              | false =>
                (match Nat.beq f 89 with | true => some F.value_shape_c | false => none))))
        | false =>
          (match Nat.blt f 93 with
          | true =>
            (match Nat.blt f 91 with
            | true =>
              (match Nat.beq f 90 with | true => some F.value_TypeRight_c | false => none)
            | false =>
              (match Nat.blt f 92 with
              | true =>
                (match Nat.beq f 91 with | true => some F.value_closed_c | false => none)
              | false =>
                (match Nat.beq f 92 with | true => some F.value_Size_c | false => none)))
          | false =>
            (match Nat.blt f 94 with
            | true =>
              (match Nat.beq f 93 with | true => some F.nat_Right_c | false => none)
            | false =>
              (match Nat.blt f 95 with
              | true =>
                (match Nat.beq f 94 with | true => some F.nat_Small_c | false => none)
              | false =>
                (match Nat.beq f 95 with | true => some F.nat_Gcd_c | false => none)))))))
  | false =>
    (match Nat.blt f 128 with
    | true =>
      (match Nat.blt f 112 with
      | true =>
        (match Nat.blt f 102 with
        | true =>
          (match Nat.blt f 99 with
          | true =>
            (match Nat.blt f 97 with
            | true =>
              (match Nat.beq f 96 with | true => some F.nat_Compare_c | false => none)
            | false =>
              (match Nat.blt f 98 with
              | true =>
                (match Nat.beq f 97 with | true => some F.cmp_Compare_int_c | false => none)
              | false =>
                (match Nat.beq f 98 with | true => some F.slices_CompareFunc_Value_Value_Value_Value_c | false => none)))
          | false =>
            (match Nat.blt f 100 with
            | true =>
              (match Nat.beq f 99 with | true => some F.ratio_made_c | false => none)
            | false =>
              (match Nat.blt f 101 with
              | true =>
                (match Nat.beq f 100 with | true => some F.nat_Mul_c | false => none)
              | false =>
                (match Nat.beq f 101 with | true => some F.nat_Add_c | false => none))))
        | false =>
          (match Nat.blt f 109 with
          | true =>
            (match Nat.blt f 106 with
            | true =>
              (match Nat.beq f 102 with | true => some F.nat_Sub_c | false => none)
            | false =>
              (match Nat.blt f 108 with
              | true =>
                (match Nat.beq f 106 with | true => some F.ref01_Gcd_c | false => none)
              | false =>
                (match Nat.beq f 108 with | true => some F.cmp_Or_int_c | false => none)))
          | false =>
            (match Nat.blt f 110 with
            | true =>
              (match Nat.beq f 109 with | true => some F.ratio_Neg_c | false => none)
            | false =>
              (match Nat.blt f 111 with
              | true =>
                (match Nat.beq f 110 with | true => some F.slices_IndexFunc_Ratio_Ratio_c | false => none)
              | false =>
                (match Nat.beq f 111 with | true => some F.slices_BinarySearchFunc_Part_Part_Value_c | false => none)))))
      | false =>
        (match Nat.blt f 122 with
        | true =>
          (match Nat.blt f 116 with
          | true =>
            (match Nat.blt f 114 with
            | true =>
              (match Nat.beq f 112 with | true => some F.couple_place_1_c | false => none)
            | false =>
              (match Nat.blt f 115 with
              | true =>
                (match Nat.beq f 114 with | true => some F.slices_SortStableFunc_Pair_Pair_c | false => none)
              | false =>
                (match Nat.beq f 115 with | true => some F.ref01_trim_c | false => none)))
          | false =>
            (match Nat.blt f 117 with
            | true =>
              (match Nat.beq f 116 with | true => some F.ref01_at_c | false => none)
            | false =>
              (match Nat.blt f 118 with
              | true =>
                (match Nat.beq f 117 with | true => some F.ref01_Bits_c | false => none)
              | false =>
                (match Nat.beq f 118 with | true => some F.ref01_Div_c | false => none))))
        | false =>
          (match Nat.blt f 125 with
          | true =>
            (match Nat.blt f 123 with
            | true =>
              (match Nat.beq f 122 with | true => some F.slices_Clone_Nat_uint32_c | false => none)
            | false =>
              (match Nat.blt f 124 with
              | true =>
                (match Nat.beq f 123 with | true => some F.nat_trim_c | false => none)
              | false =>
                (match Nat.beq f 124 with | true => some F.value_has_c | false => none)))
          | false =>
            (match Nat.blt f 126 with
            | true =>
              (match Nat.beq f 125 with | true => some F.value_join_c | false => none)
            | false =>
              (match Nat.blt f 127 with
              | true =>
                (match Nat.beq f 126 with | true => some F.value_deep_c | false => none)
              | false =>
                (match Nat.beq f 127 with | true => some F.nat_Div_c | false => none))))))
    | false =>
      (match Nat.blt f 143 with
      | true =>
        (match Nat.blt f 137 with
        | true =>
          (match Nat.blt f 134 with
          | true =>
            (match Nat.blt f 129 with
            | true =>
              (match Nat.beq f 128 with | true => some F.cmp_isNaN_int_c | false => none)
            | false =>
              (match Nat.blt f 133 with
              | true =>
                (match Nat.beq f 129 with | true => some F.ratio_Of_c | false => none)
              | false =>
                (match Nat.beq f 133 with | true => some F.ref01_Small_c | false => none)))
          | false =>
            (match Nat.blt f 135 with
            | true =>
              (match Nat.beq f 134 with | true => some F.ref01_even_c | false => none)
            | false =>
              (match Nat.blt f 136 with
              | true =>
                (match Nat.beq f 135 with | true => some F.ref01_half_c | false => none)
              | false =>
                (match Nat.beq f 136 with | true => some F.slices_stableCmpFunc_Pair_c | false => none))))
        | false =>
          (match Nat.blt f 140 with
          | true =>
            (match Nat.blt f 138 with
            | true =>
              (match Nat.beq f 137 with | true => some F.ref01_short_c | false => none)
            | false =>
              (match Nat.blt f 139 with
              | true =>
                (match Nat.beq f 138 with | true => some F.ref01_guess_c | false => none)
              | false =>
                (match Nat.beq f 139 with | true => some F.ref01_times_c | false => none)))
          | false =>
            (match Nat.blt f 141 with
            | true =>
              (match Nat.beq f 140 with | true => some F.slices_EqualFunc_Type_Value_Type_Value_c | false => none)
            | false =>
              (match Nat.blt f 142 with
              | true =>
                (match Nat.beq f 141 with | true => some F.slices_ContainsFunc_Value_Value_c | false => none)
              | false =>
                (match Nat.beq f 142 with | true => some F.value_has_1_c | false => none)))))
      | false =>
        (match Nat.blt f 149 with
        | true =>
          (match Nat.blt f 146 with
          | true =>
            (match Nat.blt f 144 with
            | true =>
              (match Nat.beq f 143 with | true => some F.slices_ContainsFunc_Type_Type_c | false => none)
            | false =>
              (match Nat.blt f 145 with
              | true =>
                (match Nat.beq f 144 with | true => some F.value_deep_1_c | false => none)
              | false =>
                (match Nat.beq f 145 with | true => some F.nat_short_c | false => none)))
          | false =>
            (match Nat.blt f 147 with
            | true =>
              (match Nat.beq f 146 with | true => some F.math_bits_LeadingZeros32_c | false => none)
            | false =>
              (match Nat.blt f 148 with
              | true =>
                (match Nat.beq f 147 with | true => some F.nat_shifted_c | false => none)
              | false =>
                (match Nat.beq f 148 with | true => some F.slices_insertionSortCmpFunc_Pair_c | false => none))))
        | false =>
          (match Nat.blt f 152 with
          | true =>
            (match Nat.blt f 150 with
            | true =>
              (match Nat.beq f 149 with | true => some F.slices_symMergeCmpFunc_Pair_c | false => none)
            | false =>
              (match Nat.blt f 151 with
              | true =>
                (match Nat.beq f 150 with | true => some F.slices_IndexFunc_Value_Value_c | false => none)
              | false =>
                (match Nat.beq f 151 with | true => some F.slices_IndexFunc_Type_Type_c | false => none)))
          | false =>
            (match Nat.blt f 153 with
            | true =>
              (match Nat.beq f 152 with | true => some F.math_bits_Len32_c | false => none)
            | false =>
              (match Nat.blt f 154 with
              | true =>
                (match Nat.beq f 153 with | true => some F.slices_rotateCmpFunc_Pair_c | false => none)
              | false =>
                (match Nat.beq f 154 with | true => some F.slices_swapRangeCmpFunc_Pair_c | false => none))))))))

theorem TAliveT_ok : TabOK Tryz.prog TAliveT := by
  intro f mf h
  unfold TAliveT at h
  repeat' split at h
  all_goals first | (simp at h; done) | skip
  · rename_i e; have e := Nat.eq_of_beq_eq_true e; subst e; injection h with h; subst h; exact ⟨_, _, F.couple_Right_ok⟩
  · rename_i e; have e := Nat.eq_of_beq_eq_true e; subst e; injection h with h; subst h; exact ⟨_, _, F.couple_Couples_ok⟩
  · rename_i e; have e := Nat.eq_of_beq_eq_true e; subst e; injection h with h; subst h; exact ⟨_, _, F.law35_alive_ok⟩
  · rename_i e; have e := Nat.eq_of_beq_eq_true e; subst e; injection h with h; subst h; exact ⟨_, _, F.couple_Apart_ok⟩
  · rename_i e; have e := Nat.eq_of_beq_eq_true e; subst e; injection h with h; subst h; exact ⟨_, _, F.couple_Best_ok⟩
  · rename_i e; have e := Nat.eq_of_beq_eq_true e; subst e; injection h with h; subst h; exact ⟨_, _, F.ref02_Same_ok⟩
  · rename_i e; have e := Nat.eq_of_beq_eq_true e; subst e; injection h with h; subst h; exact ⟨_, _, F.ref02_Compare_ok⟩
  · rename_i e; have e := Nat.eq_of_beq_eq_true e; subst e; injection h with h; subst h; exact ⟨_, _, F.ref02_Zero_ok⟩
  · rename_i e; have e := Nat.eq_of_beq_eq_true e; subst e; injection h with h; subst h; exact ⟨_, _, F.ref02_Add_ok⟩
  · rename_i e; have e := Nat.eq_of_beq_eq_true e; subst e; injection h with h; subst h; exact ⟨_, _, F.ref02_Sub_ok⟩
  · rename_i e; have e := Nat.eq_of_beq_eq_true e; subst e; injection h with h; subst h; exact ⟨_, _, F.ratio_Zero_ok⟩
  · rename_i e; have e := Nat.eq_of_beq_eq_true e; subst e; injection h with h; subst h; exact ⟨_, _, F.value_Right_ok⟩
  · rename_i e; have e := Nat.eq_of_beq_eq_true e; subst e; injection h with h; subst h; exact ⟨_, _, F.ratio_Right_ok⟩
  · rename_i e; have e := Nat.eq_of_beq_eq_true e; subst e; injection h with h; subst h; exact ⟨_, _, F.ratio_Sign_ok⟩
  · rename_i e; have e := Nat.eq_of_beq_eq_true e; subst e; injection h with h; subst h; exact ⟨_, _, F.value_Compare_ok⟩
  · rename_i e; have e := Nat.eq_of_beq_eq_true e; subst e; injection h with h; subst h; exact ⟨_, _, F.ratio_Add_ok⟩
  · rename_i e; have e := Nat.eq_of_beq_eq_true e; subst e; injection h with h; subst h; exact ⟨_, _, F.ratio_Same_ok⟩
  · rename_i e; have e := Nat.eq_of_beq_eq_true e; subst e; injection h with h; subst h; exact ⟨_, _, F.ratio_One_ok⟩
  · rename_i e; have e := Nat.eq_of_beq_eq_true e; subst e; injection h with h; subst h; exact ⟨_, _, F.ref02_Sign_ok⟩
  · rename_i e; have e := Nat.eq_of_beq_eq_true e; subst e; injection h with h; subst h; exact ⟨_, _, F.ref02_One_ok⟩
  · rename_i e; have e := Nat.eq_of_beq_eq_true e; subst e; injection h with h; subst h; exact ⟨_, _, F.couple_weights_ok⟩
  · rename_i e; have e := Nat.eq_of_beq_eq_true e; subst e; injection h with h; subst h; exact ⟨_, _, F.couple_compare_ok⟩
  · rename_i e; have e := Nat.eq_of_beq_eq_true e; subst e; injection h with h; subst h; exact ⟨_, _, F.ratio_Sub_ok⟩
  · rename_i e; have e := Nat.eq_of_beq_eq_true e; subst e; injection h with h; subst h; exact ⟨_, _, F.slices_ContainsFunc_Ratio_Ratio_ok⟩
  · rename_i e; have e := Nat.eq_of_beq_eq_true e; subst e; injection h with h; subst h; exact ⟨_, _, F.couple_Couples_1_ok⟩
  · rename_i e; have e := Nat.eq_of_beq_eq_true e; subst e; injection h with h; subst h; exact ⟨_, _, F.law35_sure_ok⟩
  · rename_i e; have e := Nat.eq_of_beq_eq_true e; subst e; injection h with h; subst h; exact ⟨_, _, F.couple_place_ok⟩
  · rename_i e; have e := Nat.eq_of_beq_eq_true e; subst e; injection h with h; subst h; exact ⟨_, _, F.ref02_Neg_ok⟩
  · rename_i e; have e := Nat.eq_of_beq_eq_true e; subst e; injection h with h; subst h; exact ⟨_, _, F.ratio_Least_ok⟩
  · rename_i e; have e := Nat.eq_of_beq_eq_true e; subst e; injection h with h; subst h; exact ⟨_, _, F.couple_gathered_ok⟩
  · rename_i e; have e := Nat.eq_of_beq_eq_true e; subst e; injection h with h; subst h; exact ⟨_, _, F.couple_inOrder_ok⟩
  · rename_i e; have e := Nat.eq_of_beq_eq_true e; subst e; injection h with h; subst h; exact ⟨_, _, F.ref01_Of_ok⟩
  · rename_i e; have e := Nat.eq_of_beq_eq_true e; subst e; injection h with h; subst h; exact ⟨_, _, F.ref02_valid_ok⟩
  · rename_i e; have e := Nat.eq_of_beq_eq_true e; subst e; injection h with h; subst h; exact ⟨_, _, F.ref01_Mul_ok⟩
  · rename_i e; have e := Nat.eq_of_beq_eq_true e; subst e; injection h with h; subst h; exact ⟨_, _, F.ref01_Add_ok⟩
  · rename_i e; have e := Nat.eq_of_beq_eq_true e; subst e; injection h with h; subst h; exact ⟨_, _, F.ref01_Compare_ok⟩
  · rename_i e; have e := Nat.eq_of_beq_eq_true e; subst e; injection h with h; subst h; exact ⟨_, _, F.ref01_Sub_ok⟩
  · rename_i e; have e := Nat.eq_of_beq_eq_true e; subst e; injection h with h; subst h; exact ⟨_, _, F.ref02_Of_ok⟩
  · rename_i e; have e := Nat.eq_of_beq_eq_true e; subst e; injection h with h; subst h; exact ⟨_, _, F.ratio_Compare_ok⟩
  · rename_i e; have e := Nat.eq_of_beq_eq_true e; subst e; injection h with h; subst h; exact ⟨_, _, F.nat_Of_ok⟩
  · rename_i e; have e := Nat.eq_of_beq_eq_true e; subst e; injection h with h; subst h; exact ⟨_, _, F.value_shape_ok⟩
  · rename_i e; have e := Nat.eq_of_beq_eq_true e; subst e; injection h with h; subst h; exact ⟨_, _, F.value_TypeRight_ok⟩
  · rename_i e; have e := Nat.eq_of_beq_eq_true e; subst e; injection h with h; subst h; exact ⟨_, _, F.value_closed_ok⟩
  · rename_i e; have e := Nat.eq_of_beq_eq_true e; subst e; injection h with h; subst h; exact ⟨_, _, F.value_Size_ok⟩
  · rename_i e; have e := Nat.eq_of_beq_eq_true e; subst e; injection h with h; subst h; exact ⟨_, _, F.nat_Right_ok⟩
  · rename_i e; have e := Nat.eq_of_beq_eq_true e; subst e; injection h with h; subst h; exact ⟨_, _, F.nat_Small_ok⟩
  · rename_i e; have e := Nat.eq_of_beq_eq_true e; subst e; injection h with h; subst h; exact ⟨_, _, F.nat_Gcd_ok⟩
  · rename_i e; have e := Nat.eq_of_beq_eq_true e; subst e; injection h with h; subst h; exact ⟨_, _, F.nat_Compare_ok⟩
  · rename_i e; have e := Nat.eq_of_beq_eq_true e; subst e; injection h with h; subst h; exact ⟨_, _, F.cmp_Compare_int_ok⟩
  · rename_i e; have e := Nat.eq_of_beq_eq_true e; subst e; injection h with h; subst h; exact ⟨_, _, F.slices_CompareFunc_Value_Value_Value_Value_ok⟩
  · rename_i e; have e := Nat.eq_of_beq_eq_true e; subst e; injection h with h; subst h; exact ⟨_, _, F.ratio_made_ok⟩
  · rename_i e; have e := Nat.eq_of_beq_eq_true e; subst e; injection h with h; subst h; exact ⟨_, _, F.nat_Mul_ok⟩
  · rename_i e; have e := Nat.eq_of_beq_eq_true e; subst e; injection h with h; subst h; exact ⟨_, _, F.nat_Add_ok⟩
  · rename_i e; have e := Nat.eq_of_beq_eq_true e; subst e; injection h with h; subst h; exact ⟨_, _, F.nat_Sub_ok⟩
  · rename_i e; have e := Nat.eq_of_beq_eq_true e; subst e; injection h with h; subst h; exact ⟨_, _, F.ref01_Gcd_ok⟩
  · rename_i e; have e := Nat.eq_of_beq_eq_true e; subst e; injection h with h; subst h; exact ⟨_, _, F.cmp_Or_int_ok⟩
  · rename_i e; have e := Nat.eq_of_beq_eq_true e; subst e; injection h with h; subst h; exact ⟨_, _, F.ratio_Neg_ok⟩
  · rename_i e; have e := Nat.eq_of_beq_eq_true e; subst e; injection h with h; subst h; exact ⟨_, _, F.slices_IndexFunc_Ratio_Ratio_ok⟩
  · rename_i e; have e := Nat.eq_of_beq_eq_true e; subst e; injection h with h; subst h; exact ⟨_, _, F.slices_BinarySearchFunc_Part_Part_Value_ok⟩
  · rename_i e; have e := Nat.eq_of_beq_eq_true e; subst e; injection h with h; subst h; exact ⟨_, _, F.couple_place_1_ok⟩
  · rename_i e; have e := Nat.eq_of_beq_eq_true e; subst e; injection h with h; subst h; exact ⟨_, _, F.slices_SortStableFunc_Pair_Pair_ok⟩
  · rename_i e; have e := Nat.eq_of_beq_eq_true e; subst e; injection h with h; subst h; exact ⟨_, _, F.ref01_trim_ok⟩
  · rename_i e; have e := Nat.eq_of_beq_eq_true e; subst e; injection h with h; subst h; exact ⟨_, _, F.ref01_at_ok⟩
  · rename_i e; have e := Nat.eq_of_beq_eq_true e; subst e; injection h with h; subst h; exact ⟨_, _, F.ref01_Bits_ok⟩
  · rename_i e; have e := Nat.eq_of_beq_eq_true e; subst e; injection h with h; subst h; exact ⟨_, _, F.ref01_Div_ok⟩
  · rename_i e; have e := Nat.eq_of_beq_eq_true e; subst e; injection h with h; subst h; exact ⟨_, _, F.slices_Clone_Nat_uint32_ok⟩
  · rename_i e; have e := Nat.eq_of_beq_eq_true e; subst e; injection h with h; subst h; exact ⟨_, _, F.nat_trim_ok⟩
  · rename_i e; have e := Nat.eq_of_beq_eq_true e; subst e; injection h with h; subst h; exact ⟨_, _, F.value_has_ok⟩
  · rename_i e; have e := Nat.eq_of_beq_eq_true e; subst e; injection h with h; subst h; exact ⟨_, _, F.value_join_ok⟩
  · rename_i e; have e := Nat.eq_of_beq_eq_true e; subst e; injection h with h; subst h; exact ⟨_, _, F.value_deep_ok⟩
  · rename_i e; have e := Nat.eq_of_beq_eq_true e; subst e; injection h with h; subst h; exact ⟨_, _, F.nat_Div_ok⟩
  · rename_i e; have e := Nat.eq_of_beq_eq_true e; subst e; injection h with h; subst h; exact ⟨_, _, F.cmp_isNaN_int_ok⟩
  · rename_i e; have e := Nat.eq_of_beq_eq_true e; subst e; injection h with h; subst h; exact ⟨_, _, F.ratio_Of_ok⟩
  · rename_i e; have e := Nat.eq_of_beq_eq_true e; subst e; injection h with h; subst h; exact ⟨_, _, F.ref01_Small_ok⟩
  · rename_i e; have e := Nat.eq_of_beq_eq_true e; subst e; injection h with h; subst h; exact ⟨_, _, F.ref01_even_ok⟩
  · rename_i e; have e := Nat.eq_of_beq_eq_true e; subst e; injection h with h; subst h; exact ⟨_, _, F.ref01_half_ok⟩
  · rename_i e; have e := Nat.eq_of_beq_eq_true e; subst e; injection h with h; subst h; exact ⟨_, _, F.slices_stableCmpFunc_Pair_ok⟩
  · rename_i e; have e := Nat.eq_of_beq_eq_true e; subst e; injection h with h; subst h; exact ⟨_, _, F.ref01_short_ok⟩
  · rename_i e; have e := Nat.eq_of_beq_eq_true e; subst e; injection h with h; subst h; exact ⟨_, _, F.ref01_guess_ok⟩
  · rename_i e; have e := Nat.eq_of_beq_eq_true e; subst e; injection h with h; subst h; exact ⟨_, _, F.ref01_times_ok⟩
  · rename_i e; have e := Nat.eq_of_beq_eq_true e; subst e; injection h with h; subst h; exact ⟨_, _, F.slices_EqualFunc_Type_Value_Type_Value_ok⟩
  · rename_i e; have e := Nat.eq_of_beq_eq_true e; subst e; injection h with h; subst h; exact ⟨_, _, F.slices_ContainsFunc_Value_Value_ok⟩
  · rename_i e; have e := Nat.eq_of_beq_eq_true e; subst e; injection h with h; subst h; exact ⟨_, _, F.value_has_1_ok⟩
  · rename_i e; have e := Nat.eq_of_beq_eq_true e; subst e; injection h with h; subst h; exact ⟨_, _, F.slices_ContainsFunc_Type_Type_ok⟩
  · rename_i e; have e := Nat.eq_of_beq_eq_true e; subst e; injection h with h; subst h; exact ⟨_, _, F.value_deep_1_ok⟩
  · rename_i e; have e := Nat.eq_of_beq_eq_true e; subst e; injection h with h; subst h; exact ⟨_, _, F.nat_short_ok⟩
  · rename_i e; have e := Nat.eq_of_beq_eq_true e; subst e; injection h with h; subst h; exact ⟨_, _, F.math_bits_LeadingZeros32_ok⟩
  · rename_i e; have e := Nat.eq_of_beq_eq_true e; subst e; injection h with h; subst h; exact ⟨_, _, F.nat_shifted_ok⟩
  · rename_i e; have e := Nat.eq_of_beq_eq_true e; subst e; injection h with h; subst h; exact ⟨_, _, F.slices_insertionSortCmpFunc_Pair_ok⟩
  · rename_i e; have e := Nat.eq_of_beq_eq_true e; subst e; injection h with h; subst h; exact ⟨_, _, F.slices_symMergeCmpFunc_Pair_ok⟩
  · rename_i e; have e := Nat.eq_of_beq_eq_true e; subst e; injection h with h; subst h; exact ⟨_, _, F.slices_IndexFunc_Value_Value_ok⟩
  · rename_i e; have e := Nat.eq_of_beq_eq_true e; subst e; injection h with h; subst h; exact ⟨_, _, F.slices_IndexFunc_Type_Type_ok⟩
  · rename_i e; have e := Nat.eq_of_beq_eq_true e; subst e; injection h with h; subst h; exact ⟨_, _, F.math_bits_Len32_ok⟩
  · rename_i e; have e := Nat.eq_of_beq_eq_true e; subst e; injection h with h; subst h; exact ⟨_, _, F.slices_rotateCmpFunc_Pair_ok⟩
  · rename_i e; have e := Nat.eq_of_beq_eq_true e; subst e; injection h with h; subst h; exact ⟨_, _, F.slices_swapRangeCmpFunc_Pair_ok⟩

end Go.Proofs.YtnneehniendnfaaGreat

/- The laws' own sample, run. -/
namespace Go.Proofs.YtnneehniendnfaaGreat
open Go Go.Proofs Go.Proofs.YtnneehniendnfaaGreat.E

def aliveX (f : Nat) : Bool := match Nat.beq f F.couple_weights || (Nat.beq f F.nat_shifted || (Nat.beq f F.couple_gathered || (Nat.beq f F.couple_inOrder || (Nat.beq f F.slices_SortStableFunc_Pair_Pair || (Nat.beq f F.slices_stableCmpFunc_Pair || (Nat.beq f F.slices_insertionSortCmpFunc_Pair)))))) with | true => true | false => false
def aliveB (f : Nat) (ds : List V) : Option V := match Nat.beq f F.slices_Clone_Nat_uint32, ds with | true, [.dat []] => some (.dat []) | _, _ => none
theorem aliveB_ok : BOK Tryz.prog aliveB := by
  intro f ds d h
  unfold aliveB at h
  split at h
  · rename_i e
    have e := Nat.eq_of_beq_eq_true e
    subst e
    injection h with h
    subst h
    exact slices_Clone (l := []) (by simp)
  · simp at h
set_option maxRecDepth 100000 in
theorem law35_alive : CallD Tryz.prog F.law35_alive [] (· = .bool true) :=
  callD_run (X := aliveX) TAliveT_ok aliveB_ok 100 (by kernel_rfl)
end Go.Proofs.YtnneehniendnfaaGreat
