/-
  The program's TimingOk answers as the reference's does for every timing.
-/
import Derived.Test.YtcimbljjkciloaaPFnExactTimingOkx1
import Derived.Test.YtcimbljjkciloaaWSized
import Derived.Test.YtcimbljjkciloaaOpenFnExactTimingOk
namespace Go.Proofs.Ytcimbljjkciloaa.Pure
open Go.RowKit Go.Proofs.Ytcimbljjkciloaa.PFnExactTimingOk Go.Proofs.YtcimbljjkciloaaW.PrintWords Go.Proofs.YtcimbljjkciloaaW.PrintLast Go.Proofs.YtcimbljjkciloaaW.PrintMore Go.Proofs.Ytcimbljjkciloaa.OpenFnExactTimingOk
set_option linter.unusedVariables false
set_option linter.unusedSimpArgs false

theorem w64 {n : Int} (h1 : -9223372036854775808 ≤ n) (h2 : n ≤ 9223372036854775807) : wrap64 n = n := by
  unfold wrap64
  omega
theorem wsucc {i : Nat} (h : i ≤ 1099511627776) : wrap64 ((i : Int) + 1) = ((i + 1 : Nat) : Int) := by
  rw [w64 (by omega) (by omega)]
  omega
theorem rd_nat (l : List Int) (i : Nat) : rd l (i : Int) = l.getD i 0 := by simp [rd]
theorem getD_drop (l : List Int) (i : Nat) (h : i < l.length) : l.drop i = l.getD i 0 :: l.drop (i + 1) := by
  rw [List.drop_eq_getElem_cons h]
  simp [List.getD_eq_getElem?_getD, List.getElem?_eq_getElem h]
theorem getD_take (l : List Int) (i : Nat) (h : i < l.length) : l.take (i + 1) = l.take i ++ [l.getD i 0] := by
  rw [List.take_succ_eq_append_getElem h]
  simp [List.getD_eq_getElem?_getD, List.getElem?_eq_getElem h]
theorem set_mid (p q : List Int) (u v : Int) (i : Nat) (h : p.length = i) : (p ++ u :: q).set i v = p ++ v :: q := by
  subst h
  simp [List.set_append_right]
theorem bind_id {α : Type} {g : Nat → Option α} {r : α} (h : Ev g r) : Ev (fun n => (g n).bind fun x => some x) r := by
  obtain ⟨K, h⟩ := h
  exact ⟨K, fun k hk => by simp [h k hk]⟩

theorem within_eq (a b c : Int) : impl_within.f a b c = some (decide (b ≤ a ∧ a ≤ c)) := by
  unfold impl_within.f
  by_cases h : a ≥ b
  · rw [if_pos h]
    simp [show b ≤ a from h]
  · rw [if_neg h]
    simp [show ¬ b ≤ a from h]

theorem l01In_eq (a b c : Int) : spec_l01In.f a b c = some (decide (b ≤ a ∧ a ≤ c)) := by
  unfold spec_l01In.f
  by_cases h : a ≥ b
  · rw [if_pos h]
    simp [show b ≤ a from h]
  · rw [if_neg h]
    simp [show ¬ b ≤ a from h]

/-- A right timing. -/
def timing (a b c : Int) : Prop := (0 ≤ a ∧ a ≤ 10000) ∧ (1 ≤ b ∧ b ≤ 1000) ∧ 1 ≤ c ∧ c ≤ 32
instance (a b c : Int) : Decidable (timing a b c) := by
  unfold timing
  infer_instance
theorem impl_TimingOk_eq (a b c : Int) : impl_TimingOk.f a b c = some (decide (timing a b c)) := by
  unfold impl_TimingOk.f timing
  simp only [within_eq, Option.bind_some]
  by_cases h1 : 0 ≤ a ∧ a ≤ 10000
  · by_cases h2 : 1 ≤ b ∧ b ≤ 1000
    · simp [h1, h2]
    · simp [h1, h2]
  · simp [h1]
theorem spec_TimingOk_eq (a b c : Int) : spec_TimingOk.f a b c = some (decide (timing a b c)) := by
  unfold spec_TimingOk.f timing
  simp only [l01In_eq, Option.bind_some]
  by_cases h1 : 0 ≤ a ∧ a ≤ 10000
  · by_cases h2 : 1 ≤ b ∧ b ≤ 1000
    · simp [h1, h2]
    · simp [h1, h2]
  · simp [h1]

theorem FnExactTimingOk : FnExactTimingOkPure := by
  intro a b c _ _ _
  unfold laws_FnExactTimingOk.f laws_toTiming.f
  simp [impl_TimingOk_eq, spec_TimingOk_eq]

end Go.Proofs.Ytcimbljjkciloaa.Pure
