/-
  The program's LimitInks gives the reference's inks and answer for all inks and every limit.
-/
import Derived.Test.YtnbobpbdclbjlaaPFnExactLimitInksx2
import Derived.Test.YtnbobpbdclbjlaaWSized
import Derived.Test.YtnbobpbdclbjlaaOpenFnExactLimitInks
namespace Go.Proofs.Ytnbobpbdclbjlaa.Pure
open Go.RowKit Go.Proofs.Ytnbobpbdclbjlaa.PFnExactLimitInks Go.Proofs.YtnbobpbdclbjlaaW.PrintWords Go.Proofs.YtnbobpbdclbjlaaW.PrintLast Go.Proofs.YtnbobpbdclbjlaaW.PrintMore Go.Proofs.Ytnbobpbdclbjlaa.OpenFnExactLimitInks
set_option linter.unusedVariables false
set_option linter.unusedSimpArgs false

theorem w64 {n : Int} (h1 : -9223372036854775808 ≤ n) (h2 : n ≤ 9223372036854775807) : wrap64 n = n := by
  unfold wrap64
  omega
theorem wsucc {i : Nat} (h : i ≤ 1099511627776) : wrap64 ((i : Int) + 1) = ((i + 1 : Nat) : Int) := by
  rw [w64 (by omega) (by omega)]
  omega
theorem rd_nat (l : List Int) (i : Nat) : rd l (i : Int) = l.getD i 0 := by simp [rd]
theorem getD_drop (l : List Int) (i : Nat) (h : i < l.length) : l.drop i = l.getD i 0 :: l.drop (i + 1) := by
  rw [List.drop_eq_getElem_cons h]
  simp [List.getD_eq_getElem?_getD, List.getElem?_eq_getElem h]
theorem getD_take (l : List Int) (i : Nat) (h : i < l.length) : l.take (i + 1) = l.take i ++ [l.getD i 0] := by
  rw [List.take_succ_eq_append_getElem h]
  simp [List.getD_eq_getElem?_getD, List.getElem?_eq_getElem h]
theorem set_mid (p q : List Int) (u v : Int) (i : Nat) (h : p.length = i) : (p ++ u :: q).set i v = p ++ v :: q := by
  subst h
  simp [List.set_append_right]
theorem bind_id {α : Type} {g : Nat → Option α} {r : α} (h : Ev g r) : Ev (fun n => (g n).bind fun x => some x) r := by
  obtain ⟨K, h⟩ := h
  exact ⟨K, fun k hk => by simp [h k hk]⟩
theorem ev_pos {α : Type} {c : Prop} [Decidable c] {f g : Nat → Option α} {r : α} (h : c) (k : Ev f r) : Ev (fun n => if c then f n else g n) r := Ev.congr (fun n => if_pos h) k
theorem ev_neg {α : Type} {c : Prop} [Decidable c] {f g : Nat → Option α} {r : α} (h : ¬ c) (k : Ev g r) : Ev (fun n => if c then f n else g n) r := Ev.congr (fun n => if_neg h) k
theorem ev_eq {α β : Type} {g : Option α} {f : Nat → α → Option β} {a : α} {r : β} (h : g = some a) (k : Ev (fun n => f n a) r) : Ev (fun n => g.bind (f n)) r := by
  subst h
  exact k
theorem td {v : Int} (h : 0 ≤ v) (c : Int) : Int.tdiv v c = v / c := Int.tdiv_eq_ediv_of_nonneg h
theorem tm {v : Int} (h : 0 ≤ v) (c : Int) : Int.tmod v c = v % c := Int.tmod_eq_emod_of_nonneg h

theorem within_eq (a b c : Int) : impl_within.f a b c = some (decide (b ≤ a ∧ a ≤ c)) := by
  unfold impl_within.f
  by_cases h : a ≥ b
  · rw [if_pos h]
    simp [show b ≤ a from h]
  · rw [if_neg h]
    simp [show ¬ b ≤ a from h]

/-- Right inks. -/
def inks (a b c d : Int) : Prop := (0 ≤ a ∧ a ≤ 255) ∧ (0 ≤ b ∧ b ≤ 255) ∧ (0 ≤ c ∧ c ≤ 255) ∧ 0 ≤ d ∧ d ≤ 255
instance (a b c d : Int) : Decidable (inks a b c d) := by
  unfold inks
  infer_instance
theorem impl_InksOk_eq (a b c d : Int) : impl_InksOk.f a b c d = some (decide (inks a b c d)) := by
  unfold impl_InksOk.f inks
  simp only [within_eq, Option.bind_some]
  by_cases h1 : 0 ≤ a ∧ a ≤ 255
  · by_cases h2 : 0 ≤ b ∧ b ≤ 255
    · by_cases h3 : 0 ≤ c ∧ c ≤ 255
      · simp [h1, h2, h3]
      · simp [h1, h2, h3]
    · simp [h1, h2]
  · simp [h1]

/-- Inks held to a limit. -/
def limited (c m y k L : Int) : Int × Int × Int × Int × Bool :=
  if inks c m y k ∧ 255 ≤ L ∧ L ≤ 1020 then (if c + m + y + k ≤ L then (c, m, y, k, true) else (c * (L - k) / (c + m + y), m * (L - k) / (c + m + y), y * (L - k) / (c + m + y), k, true)) else (c, m, y, k, false)
theorem share_eq {c s L k : Int} (c0 : 0 ≤ c) (c1 : c ≤ 255) (s0 : 0 < s) (h0 : 0 ≤ L - k) (h1 : L - k ≤ 1020) : wrap64 (Int.tdiv (wrap64 (c * (L - k))) s) = c * (L - k) / s ∧ 0 ≤ c * (L - k) / s ∧ c * (L - k) / s * s ≤ c * (L - k) := by
  have m1 : 0 ≤ c * (L - k) := Int.mul_nonneg c0 h0
  have m2 : c * (L - k) ≤ 255 * 1020 := Int.mul_le_mul c1 h1 h0 (by omega)
  generalize c * (L - k) = z at *
  have d0 : 0 ≤ z / s := Int.ediv_nonneg m1 (by omega)
  have d1 : z / s ≤ z := Int.ediv_le_self s m1
  have d2 : z / s * s ≤ z := Int.ediv_mul_le z (by omega)
  rw [w64 (n := z) (by omega) (by omega), td m1, w64 (by omega) (by omega)]
  exact ⟨rfl, d0, d2⟩

theorem impl_Total_eq {c m y k : Int} (h : inks c m y k) : impl_TotalInk.f c m y k = some (c + m + y + k) := by
  unfold impl_TotalInk.f
  rw [impl_InksOk_eq, decide_eq_true h]
  obtain ⟨hc, hm, hy, hk⟩ := h
  simp only [Option.bind_some, if_true]
  rw [w64 (n := c + m) (by omega) (by omega), w64 (n := c + m + y) (by omega) (by omega), w64 (by omega) (by omega)]
theorem impl_Limit_ev (c m y k L : Int) : Ev (fun n => impl_LimitInks.f n c m y k L) (limited c m y k L) := by
  unfold impl_LimitInks.f limited
  have no : Ev (fun n => impl_LimitInks.j0 n L true c m y k) (c, m, y, k, false) := Ev.step (f := fun _ => some (c, m, y, k, false)) (fun n => by simp only [impl_LimitInks.j0]; rw [if_pos trivial]) (Ev.now _)
  refine ev_eq (impl_InksOk_eq _ _ _ _) ?_
  by_cases h : inks c m y k
  · refine ev_pos (decide_eq_true h) (ev_eq (within_eq _ _ _) ?_)
    by_cases hL : 255 ≤ L ∧ L ≤ 1020
    · rw [if_pos ⟨h, hL⟩, decide_eq_true hL]
      have ht := impl_Total_eq h
      obtain ⟨hc, hm, hy, hk⟩ := h
      by_cases q : c + m + y + k ≤ L
      · rw [if_pos q]
        refine Ev.step (f := fun _ => some (c, m, y, k, true)) (fun n => ?_) (Ev.now _)
        simp only [impl_LimitInks.j0, ht, Option.bind_some]
        rw [if_neg (by simp), if_pos q]
      · rw [if_neg q]
        refine Ev.step (f := fun _ => some _) (fun n => ?_) (Ev.now _)
        simp only [impl_LimitInks.j0, ht, Option.bind_some]
        rw [if_neg (by simp), if_neg q, w64 (n := c + m) (by omega) (by omega), w64 (n := c + m + y) (by omega) (by omega), if_neg (by omega), w64 (n := L - k) (by omega) (by omega),
          (share_eq (c := c) (s := c + m + y) (by omega) (by omega) (by omega) (by omega) (by omega)).1, (share_eq (c := m) (s := c + m + y) (by omega) (by omega) (by omega) (by omega) (by omega)).1, (share_eq (c := y) (s := c + m + y) (by omega) (by omega) (by omega) (by omega) (by omega)).1]
    · rw [if_neg (fun q => hL q.2), decide_eq_false hL]
      exact no
  · rw [if_neg (fun q => h q.1)]
    exact ev_neg (by simp [h]) no

theorem l01In_eq (a b c : Int) : spec_l01In.f a b c = some (decide (b ≤ a ∧ a ≤ c)) := by
  unfold spec_l01In.f
  by_cases h : a ≥ b
  · rw [if_pos h]
    simp [show b ≤ a from h]
  · rw [if_neg h]
    simp [show ¬ b ≤ a from h]

theorem spec_InksOk_eq (a b c d : Int) : spec_InksOk.f a b c d = some (decide (inks a b c d)) := by
  unfold spec_InksOk.f inks
  simp only [l01In_eq, Option.bind_some]
  by_cases h1 : 0 ≤ a ∧ a ≤ 255
  · by_cases h2 : 0 ≤ b ∧ b ≤ 255
    · by_cases h3 : 0 ≤ c ∧ c ≤ 255
      · simp [h1, h2, h3]
      · simp [h1, h2, h3]
    · simp [h1, h2]
  · simp [h1]

theorem spec_Limit_ev (c m y k L : Int) : Ev (fun n => spec_LimitInks.f n c m y k L) (limited c m y k L) := by
  unfold spec_LimitInks.f limited
  have no : Ev (fun n => spec_LimitInks.j0 n L true c m y k) (c, m, y, k, false) := Ev.step (f := fun _ => some (c, m, y, k, false)) (fun n => by simp only [spec_LimitInks.j0]; rw [if_pos trivial]) (Ev.now _)
  refine ev_eq (spec_InksOk_eq _ _ _ _) ?_
  by_cases h : inks c m y k
  · refine ev_pos (decide_eq_true h) (ev_eq (l01In_eq _ _ _) ?_)
    by_cases hL : 255 ≤ L ∧ L ≤ 1020
    · rw [if_pos ⟨h, hL⟩, decide_eq_true hL]
      obtain ⟨hc, hm, hy, hk⟩ := h
      by_cases q : c + m + y + k ≤ L
      · rw [if_pos q]
        refine Ev.step (f := fun _ => some (c, m, y, k, true)) (fun n => ?_) (Ev.now _)
        simp only [spec_LimitInks.j0]
        rw [if_neg (by simp), w64 (n := c + m) (by omega) (by omega), w64 (n := c + m + y) (by omega) (by omega), w64 (n := c + m + y + k) (by omega) (by omega), if_pos q]
      · rw [if_neg q]
        refine Ev.step (f := fun _ => some _) (fun n => ?_) (Ev.now _)
        simp only [spec_LimitInks.j0]
        rw [if_neg (by simp), w64 (n := c + m) (by omega) (by omega), w64 (n := c + m + y) (by omega) (by omega), w64 (n := c + m + y + k) (by omega) (by omega), if_neg q, if_neg (by omega), w64 (n := L - k) (by omega) (by omega),
          (share_eq (c := c) (s := c + m + y) (by omega) (by omega) (by omega) (by omega) (by omega)).1, (share_eq (c := m) (s := c + m + y) (by omega) (by omega) (by omega) (by omega) (by omega)).1, (share_eq (c := y) (s := c + m + y) (by omega) (by omega) (by omega) (by omega) (by omega)).1]
    · rw [if_neg (fun q => hL q.2), decide_eq_false hL]
      exact no
  · rw [if_neg (fun q => h q.1)]
    exact ev_neg (by simp [h]) no

theorem FnExactLimitInks : FnExactLimitInksPure := by
  intro c m y k L _ _ _ _ _
  refine Ev.rounds ?_
  unfold laws_FnExactLimitInks.f laws_toInks.f laws_eqInks.f
  refine ev_eq rfl ((spec_Limit_ev c m y k L).bind (ev_eq rfl ((impl_Limit_ev c m y k L).bind ?_)))
  refine ev_eq (a := true) (by simp) (ev_pos rfl (ev_neg (by simp) (Ev.now _)))

end Go.Proofs.Ytnbobpbdclbjlaa.Pure
