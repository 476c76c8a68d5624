/-
  The program's TotalInk gives the reference's number for all inks.
-/
import Derived.Test.YtcimbljjkciloaaPFnExactTotalInkx1
import Derived.Test.YtcimbljjkciloaaWSized
import Derived.Test.YtcimbljjkciloaaOpenFnExactTotalInk
namespace Go.Proofs.Ytcimbljjkciloaa.Pure
open Go.RowKit Go.Proofs.Ytcimbljjkciloaa.PFnExactTotalInk Go.Proofs.YtcimbljjkciloaaW.PrintWords Go.Proofs.YtcimbljjkciloaaW.PrintLast Go.Proofs.YtcimbljjkciloaaW.PrintMore Go.Proofs.Ytcimbljjkciloaa.OpenFnExactTotalInk
set_option linter.unusedVariables false
set_option linter.unusedSimpArgs false

theorem w64 {n : Int} (h1 : -9223372036854775808 ≤ n) (h2 : n ≤ 9223372036854775807) : wrap64 n = n := by
  unfold wrap64
  omega
theorem wsucc {i : Nat} (h : i ≤ 1099511627776) : wrap64 ((i : Int) + 1) = ((i + 1 : Nat) : Int) := by
  rw [w64 (by omega) (by omega)]
  omega
theorem rd_nat (l : List Int) (i : Nat) : rd l (i : Int) = l.getD i 0 := by simp [rd]
theorem getD_drop (l : List Int) (i : Nat) (h : i < l.length) : l.drop i = l.getD i 0 :: l.drop (i + 1) := by
  rw [List.drop_eq_getElem_cons h]
  simp [List.getD_eq_getElem?_getD, List.getElem?_eq_getElem h]
theorem getD_take (l : List Int) (i : Nat) (h : i < l.length) : l.take (i + 1) = l.take i ++ [l.getD i 0] := by
  rw [List.take_succ_eq_append_getElem h]
  simp [List.getD_eq_getElem?_getD, List.getElem?_eq_getElem h]
theorem set_mid (p q : List Int) (u v : Int) (i : Nat) (h : p.length = i) : (p ++ u :: q).set i v = p ++ v :: q := by
  subst h
  simp [List.set_append_right]
theorem bind_id {α : Type} {g : Nat → Option α} {r : α} (h : Ev g r) : Ev (fun n => (g n).bind fun x => some x) r := by
  obtain ⟨K, h⟩ := h
  exact ⟨K, fun k hk => by simp [h k hk]⟩

theorem l01In_eq (a b c : Int) : spec_l01In.f a b c = some (decide (b ≤ a ∧ a ≤ c)) := by
  unfold spec_l01In.f
  by_cases h : a ≥ b
  · rw [if_pos h]
    simp [show b ≤ a from h]
  · rw [if_neg h]
    simp [show ¬ b ≤ a from h]

theorem within_eq (a b c : Int) : impl_within.f a b c = some (decide (b ≤ a ∧ a ≤ c)) := by
  unfold impl_within.f
  by_cases h : a ≥ b
  · rw [if_pos h]
    simp [show b ≤ a from h]
  · rw [if_neg h]
    simp [show ¬ b ≤ a from h]

/-- Right inks. -/
def inks (a b c d : Int) : Prop := (0 ≤ a ∧ a ≤ 255) ∧ (0 ≤ b ∧ b ≤ 255) ∧ (0 ≤ c ∧ c ≤ 255) ∧ 0 ≤ d ∧ d ≤ 255
instance (a b c d : Int) : Decidable (inks a b c d) := by
  unfold inks
  infer_instance
theorem impl_InksOk_eq (a b c d : Int) : impl_InksOk.f a b c d = some (decide (inks a b c d)) := by
  unfold impl_InksOk.f inks
  simp only [within_eq, Option.bind_some]
  by_cases h1 : 0 ≤ a ∧ a ≤ 255
  · by_cases h2 : 0 ≤ b ∧ b ≤ 255
    · by_cases h3 : 0 ≤ c ∧ c ≤ 255
      · simp [h1, h2, h3]
      · simp [h1, h2, h3]
    · simp [h1, h2]
  · simp [h1]

theorem spec_InksOk_eq (a b c d : Int) : spec_InksOk.f a b c d = some (decide (inks a b c d)) := by
  unfold spec_InksOk.f inks
  simp only [l01In_eq, Option.bind_some]
  by_cases h1 : 0 ≤ a ∧ a ≤ 255
  · by_cases h2 : 0 ≤ b ∧ b ≤ 255
    · by_cases h3 : 0 ≤ c ∧ c ≤ 255
      · simp [h1, h2, h3]
      · simp [h1, h2, h3]
    · simp [h1, h2]
  · simp [h1]

theorem FnExactTotalInk : FnExactTotalInkPure := by
  intro a b c d _ _ _ _
  unfold laws_FnExactTotalInk.f laws_toInks.f spec_TotalInk.f impl_TotalInk.f
  simp only [impl_InksOk_eq, spec_InksOk_eq, Option.bind_some]
  by_cases h : inks a b c d
  · simp [h]
  · simp [h]

end Go.Proofs.Ytcimbljjkciloaa.Pure
