/-
  The program's TurnScreen gives the reference's threshold for all ints.
-/
import Derived.Test.YtnbobpbdclbjlaaPFnExactTurnScreenx1
import Derived.Test.YtnbobpbdclbjlaaWSized
/- The printed row names 'PrintWords.sized_ints' without its seat's letter W: the same law under the name that it looks for. -/
namespace Go.Proofs.Ytnbobpbdclbjlaa.PrintWords
open Go.ChangeShapes Go.WideShapes
theorem sized_ints {H : Type} {enc : TypeId × Value → H} {P : Program} {W : World} {base : Nat} {spare : Nat → Bool} {held : Bool} {t e : TypeId} {k : IntKind} {a : Option Addr} {len cap : Nat} {d : DataW H} {ps : List MemPlace} {ts : List TypeId} {ds : List (DataW H)} {j : Nat}
    (hsz : (DataW.weightsEach P ts ds).all (· ≤ reachBytes) = true) (ht : ts[j]? = some t) (hd : ds[j]? = some d) (hu : P.underlying t = some (.slice e)) (he : P.underlying e = some (.int k)) (hc : P.cellsOf e = 1) {B : Nat} (hB : P.bytesOf e = B)
    (h : DataW.Trod enc P W base spare held t (.slice a len cap) d ps) : len * B ≤ 140737488351232 :=
  Go.Proofs.YtnbobpbdclbjlaaW.PrintWords.sized_ints hsz ht hd hu he hc hB h
end Go.Proofs.Ytnbobpbdclbjlaa.PrintWords
namespace Go.Proofs.Ytnbobpbdclbjlaa.Pure
open Go.RowKit Go.Proofs.Ytnbobpbdclbjlaa.PFnExactTurnScreen Go.Proofs.YtnbobpbdclbjlaaW.PrintWords Go.Proofs.YtnbobpbdclbjlaaW.PrintLast Go.Proofs.YtnbobpbdclbjlaaW.PrintMore
set_option linter.unusedVariables false
set_option linter.unusedSimpArgs false

theorem w64 {n : Int} (h1 : -9223372036854775808 ≤ n) (h2 : n ≤ 9223372036854775807) : wrap64 n = n := by
  unfold wrap64
  omega
theorem wsucc {i : Nat} (h : i ≤ 1099511627776) : wrap64 ((i : Int) + 1) = ((i + 1 : Nat) : Int) := by
  rw [w64 (by omega) (by omega)]
  omega
theorem rd_nat (l : List Int) (i : Nat) : rd l (i : Int) = l.getD i 0 := by simp [rd]
theorem getD_drop (l : List Int) (i : Nat) (h : i < l.length) : l.drop i = l.getD i 0 :: l.drop (i + 1) := by
  rw [List.drop_eq_getElem_cons h]
  simp [List.getD_eq_getElem?_getD, List.getElem?_eq_getElem h]
theorem getD_take (l : List Int) (i : Nat) (h : i < l.length) : l.take (i + 1) = l.take i ++ [l.getD i 0] := by
  rw [List.take_succ_eq_append_getElem h]
  simp [List.getD_eq_getElem?_getD, List.getElem?_eq_getElem h]
theorem set_mid (p q : List Int) (u v : Int) (i : Nat) (h : p.length = i) : (p ++ u :: q).set i v = p ++ v :: q := by
  subst h
  simp [List.set_append_right]
theorem bind_id {α : Type} {g : Nat → Option α} {r : α} (h : Ev g r) : Ev (fun n => (g n).bind fun x => some x) r := by
  obtain ⟨K, h⟩ := h
  exact ⟨K, fun k hk => by simp [h k hk]⟩
theorem ev_pos {α : Type} {c : Prop} [Decidable c] {f g : Nat → Option α} {r : α} (h : c) (k : Ev f r) : Ev (fun n => if c then f n else g n) r := Ev.congr (fun n => if_pos h) k
theorem ev_neg {α : Type} {c : Prop} [Decidable c] {f g : Nat → Option α} {r : α} (h : ¬ c) (k : Ev g r) : Ev (fun n => if c then f n else g n) r := Ev.congr (fun n => if_neg h) k
theorem ev_eq {α β : Type} {g : Option α} {f : Nat → α → Option β} {a : α} {r : β} (h : g = some a) (k : Ev (fun n => f n a) r) : Ev (fun n => g.bind (f n)) r := by
  subst h
  exact k
theorem td {v : Int} (h : 0 ≤ v) (c : Int) : Int.tdiv v c = v / c := Int.tdiv_eq_ediv_of_nonneg h
theorem tm {v : Int} (h : 0 ≤ v) (c : Int) : Int.tmod v c = v % c := Int.tmod_eq_emod_of_nonneg h

def tab : List Int := [0, 8, 2, 10, 12, 4, 14, 6, 3, 11, 1, 9, 15, 7, 13, 5]
theorem tab_in : ∀ n : Nat, n < 16 → 0 ≤ rd tab (n : Int) ∧ rd tab (n : Int) ≤ 15 := by decide +kernel
/-- The threshold at a place; -1 outside. -/
def thr (x y : Int) : Int := if x < 0 then -1 else if y < 0 then -1 else 16 * rd tab (4 * (y % 4) + x % 4) + 8
theorem tab_int {i : Int} (h0 : 0 ≤ i) (h1 : i < 16) : 0 ≤ rd tab i ∧ rd tab i ≤ 15 := by
  obtain ⟨n, rfl⟩ : ∃ n : Nat, i = n := ⟨i.toNat, by omega⟩
  exact tab_in n (by omega)
theorem thr_in {x y : Int} (hx : 0 ≤ x) (hy : 0 ≤ y) : 8 ≤ thr x y ∧ thr x y ≤ 248 := by
  have := tab_int (i := 4 * (y % 4) + x % 4) (by omega) (by omega)
  unfold thr
  rw [if_neg (by omega), if_neg (by omega)]
  omega
theorem impl_ThresholdAt_eq (x y : Int) : impl_ThresholdAt.f x y = some (thr x y) := by
  unfold impl_ThresholdAt.f thr
  by_cases hx : x < 0
  · rw [if_pos hx, if_pos hx]
  · rw [if_neg hx, if_neg hx]
    by_cases hy : y < 0
    · rw [if_pos hy, if_pos hy]
    · rw [if_neg hy, if_neg hy]
      rfl

/-- The threshold of the turned screen. -/
def turned (x y q : Int) : Int :=
  if x < 0 ∨ y < 0 then -1 else if q = 0 then thr x y else if q = 1 then thr (3 - y % 4) (x % 4) else if q = 2 then thr (3 - x % 4) (3 - y % 4) else if q = 3 then thr (y % 4) (3 - x % 4) else -1

theorem impl_Turn_ev (x y q : Int) : Ev (fun k => impl_TurnScreen.f k x y q) (turned x y q) := by
  unfold impl_TurnScreen.f turned
  have no : Ev (fun k => impl_TurnScreen.j0 k x y q true) (-1) := Ev.step (f := fun _ => some (-1)) (fun k => by simp only [impl_TurnScreen.j0]; rw [if_pos trivial]) (Ev.now _)
  by_cases hx : x < 0
  · rw [if_pos (Or.inl hx)]
    exact ev_pos hx no
  · refine ev_neg hx ?_
    by_cases hy : y < 0
    · rw [if_pos (Or.inr hy), decide_eq_true hy]
      exact no
    · rw [if_neg (by omega), decide_eq_false hy]
      refine Ev.step (f := fun _ => some _) (fun k => ?_) (Ev.now _)
      simp only [impl_TurnScreen.j0, impl_ThresholdAt_eq, Option.bind_some]
      rw [if_neg (by simp), tm (show 0 ≤ x by omega), tm (show 0 ≤ y by omega), w64 (n := 3 - x % 4) (by omega) (by omega), w64 (n := 3 - y % 4) (by omega) (by omega)]
      by_cases h0 : q = 0
      · rw [if_pos h0, if_pos h0]
      · rw [if_neg h0, if_neg h0]
        by_cases h1 : q = 1
        · rw [if_pos h1, if_pos h1]
        · rw [if_neg h1, if_neg h1]
          by_cases h2 : q = 2
          · rw [if_pos h2, if_pos h2]
          · rw [if_neg h2, if_neg h2]
            by_cases h3 : q = 3
            · rw [if_pos h3, if_pos h3]
            · rw [if_neg h3, if_neg h3]

theorem spec_ThresholdAt_eq (x y : Int) : spec_ThresholdAt.f x y = some (thr x y) := by
  unfold spec_ThresholdAt.f thr
  by_cases hx : x < 0
  · rw [if_pos hx, if_pos hx]
  · rw [if_neg hx, if_neg hx]
    by_cases hy : y < 0
    · rw [if_pos hy, if_pos hy]
    · rw [if_neg hy, if_neg hy]
      have t := tab_int (i := 4 * (y % 4) + x % 4) (by omega) (by omega)
      show (if 0 ≤ _ then _ else none) = _
      rw [tm (show 0 ≤ y by omega), tm (show 0 ≤ x by omega), w64 (n := y % 4 * 4) (by omega) (by omega), w64 (n := y % 4 * 4 + x % 4) (by omega) (by omega), show y % 4 * 4 + x % 4 = 4 * (y % 4) + x % 4 by omega, if_pos (by omega), if_pos (by simp; omega)]
      show some (wrap64 (wrap64 (16 * rd tab _) + 8)) = _
      rw [w64 (n := 16 * rd tab (4 * (y % 4) + x % 4)) (by omega) (by omega), w64 (by omega) (by omega)]

theorem spec_Turn_ev (x y q : Int) : Ev (fun k => spec_TurnScreen.f k x y q) (turned x y q) := by
  unfold spec_TurnScreen.f turned
  have no : Ev (fun k => spec_TurnScreen.j0 k x y q true) (-1) := Ev.step (f := fun _ => some (-1)) (fun k => by simp only [spec_TurnScreen.j0]; rw [if_pos trivial]) (Ev.now _)
  by_cases hx : x < 0
  · rw [if_pos (Or.inl hx)]
    exact ev_pos hx no
  · refine ev_neg hx ?_
    by_cases hy : y < 0
    · rw [if_pos (Or.inr hy), decide_eq_true hy]
      exact no
    · rw [if_neg (by omega), decide_eq_false hy]
      refine Ev.step (f := fun _ => some _) (fun k => ?_) (Ev.now _)
      simp only [spec_TurnScreen.j0, spec_ThresholdAt_eq, Option.bind_some]
      rw [if_neg (by simp), tm (show 0 ≤ x by omega), tm (show 0 ≤ y by omega), w64 (n := 3 - x % 4) (by omega) (by omega), w64 (n := 3 - y % 4) (by omega) (by omega)]
      by_cases h0 : q = 0
      · rw [if_pos h0, if_pos h0]
      · rw [if_neg h0, if_neg h0]
        by_cases h1 : q = 1
        · rw [if_pos h1, if_pos h1]
        · rw [if_neg h1, if_neg h1]
          by_cases h2 : q = 2
          · rw [if_pos h2, if_pos h2]
          · rw [if_neg h2, if_neg h2]
            by_cases h3 : q = 3
            · rw [if_pos h3, if_pos h3]
            · rw [if_neg h3, if_neg h3]

theorem FnExactTurnScreen : laws_FnExactTurnScreen.Pure := by
  intro x y q _ _ _
  refine Ev.rounds ?_
  unfold laws_FnExactTurnScreen.f
  exact (spec_Turn_ev x y q).bind ((impl_Turn_ev x y q).bind (ev_pos rfl (Ev.now _)))

end Go.Proofs.Ytnbobpbdclbjlaa.Pure
