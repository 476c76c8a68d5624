/-
  The program's DotsInTile gives the reference's number for every int.
-/
import Derived.Test.YtnbobpbdclbjlaaPFnExactDotsInTilex1
import Derived.Test.YtnbobpbdclbjlaaWSized
/- The printed row names 'PrintWords.sized_ints' without its seat's letter W: the same law under the name that it looks for. -/
namespace Go.Proofs.Ytnbobpbdclbjlaa.PrintWords
open Go.ChangeShapes Go.WideShapes
theorem sized_ints {H : Type} {enc : TypeId × Value → H} {P : Program} {W : World} {base : Nat} {spare : Nat → Bool} {held : Bool} {t e : TypeId} {k : IntKind} {a : Option Addr} {len cap : Nat} {d : DataW H} {ps : List MemPlace} {ts : List TypeId} {ds : List (DataW H)} {j : Nat}
    (hsz : (DataW.weightsEach P ts ds).all (· ≤ reachBytes) = true) (ht : ts[j]? = some t) (hd : ds[j]? = some d) (hu : P.underlying t = some (.slice e)) (he : P.underlying e = some (.int k)) (hc : P.cellsOf e = 1) {B : Nat} (hB : P.bytesOf e = B)
    (h : DataW.Trod enc P W base spare held t (.slice a len cap) d ps) : len * B ≤ 140737488351232 :=
  Go.Proofs.YtnbobpbdclbjlaaW.PrintWords.sized_ints hsz ht hd hu he hc hB h
end Go.Proofs.Ytnbobpbdclbjlaa.PrintWords
namespace Go.Proofs.Ytnbobpbdclbjlaa.Pure
open Go.RowKit Go.Proofs.Ytnbobpbdclbjlaa.PFnExactDotsInTile Go.Proofs.YtnbobpbdclbjlaaW.PrintWords Go.Proofs.YtnbobpbdclbjlaaW.PrintLast Go.Proofs.YtnbobpbdclbjlaaW.PrintMore
set_option linter.unusedVariables false
set_option linter.unusedSimpArgs false

theorem w64 {n : Int} (h1 : -9223372036854775808 ≤ n) (h2 : n ≤ 9223372036854775807) : wrap64 n = n := by
  unfold wrap64
  omega
theorem wsucc {i : Nat} (h : i ≤ 1099511627776) : wrap64 ((i : Int) + 1) = ((i + 1 : Nat) : Int) := by
  rw [w64 (by omega) (by omega)]
  omega
theorem rd_nat (l : List Int) (i : Nat) : rd l (i : Int) = l.getD i 0 := by simp [rd]
theorem getD_drop (l : List Int) (i : Nat) (h : i < l.length) : l.drop i = l.getD i 0 :: l.drop (i + 1) := by
  rw [List.drop_eq_getElem_cons h]
  simp [List.getD_eq_getElem?_getD, List.getElem?_eq_getElem h]
theorem getD_take (l : List Int) (i : Nat) (h : i < l.length) : l.take (i + 1) = l.take i ++ [l.getD i 0] := by
  rw [List.take_succ_eq_append_getElem h]
  simp [List.getD_eq_getElem?_getD, List.getElem?_eq_getElem h]
theorem set_mid (p q : List Int) (u v : Int) (i : Nat) (h : p.length = i) : (p ++ u :: q).set i v = p ++ v :: q := by
  subst h
  simp [List.set_append_right]
theorem bind_id {α : Type} {g : Nat → Option α} {r : α} (h : Ev g r) : Ev (fun n => (g n).bind fun x => some x) r := by
  obtain ⟨K, h⟩ := h
  exact ⟨K, fun k hk => by simp [h k hk]⟩
theorem ev_pos {α : Type} {c : Prop} [Decidable c] {f g : Nat → Option α} {r : α} (h : c) (k : Ev f r) : Ev (fun n => if c then f n else g n) r := Ev.congr (fun n => if_pos h) k
theorem ev_neg {α : Type} {c : Prop} [Decidable c] {f g : Nat → Option α} {r : α} (h : ¬ c) (k : Ev g r) : Ev (fun n => if c then f n else g n) r := Ev.congr (fun n => if_neg h) k
theorem ev_eq {α β : Type} {g : Option α} {f : Nat → α → Option β} {a : α} {r : β} (h : g = some a) (k : Ev (fun n => f n a) r) : Ev (fun n => g.bind (f n)) r := by
  subst h
  exact k
theorem td {v : Int} (h : 0 ≤ v) (c : Int) : Int.tdiv v c = v / c := Int.tdiv_eq_ediv_of_nonneg h
theorem tm {v : Int} (h : 0 ≤ v) (c : Int) : Int.tmod v c = v % c := Int.tmod_eq_emod_of_nonneg h

def tab : List Int := [0, 8, 2, 10, 12, 4, 14, 6, 3, 11, 1, 9, 15, 7, 13, 5]
theorem tab_in : ∀ n : Nat, n < 16 → 0 ≤ rd tab (n : Int) ∧ rd tab (n : Int) ≤ 15 := by decide +kernel
/-- The threshold at a place; -1 outside. -/
def thr (x y : Int) : Int := if x < 0 then -1 else if y < 0 then -1 else 16 * rd tab (4 * (y % 4) + x % 4) + 8
theorem tab_int {i : Int} (h0 : 0 ≤ i) (h1 : i < 16) : 0 ≤ rd tab i ∧ rd tab i ≤ 15 := by
  obtain ⟨n, rfl⟩ : ∃ n : Nat, i = n := ⟨i.toNat, by omega⟩
  exact tab_in n (by omega)
theorem thr_in {x y : Int} (hx : 0 ≤ x) (hy : 0 ≤ y) : 8 ≤ thr x y ∧ thr x y ≤ 248 := by
  have := tab_int (i := 4 * (y % 4) + x % 4) (by omega) (by omega)
  unfold thr
  rw [if_neg (by omega), if_neg (by omega)]
  omega
theorem impl_ThresholdAt_eq (x y : Int) : impl_ThresholdAt.f x y = some (thr x y) := by
  unfold impl_ThresholdAt.f thr
  by_cases hx : x < 0
  · rw [if_pos hx, if_pos hx]
  · rw [if_neg hx, if_neg hx]
    by_cases hy : y < 0
    · rw [if_pos hy, if_pos hy]
    · rw [if_neg hy, if_neg hy]
      rfl

/-- Is there a dot? -/
def dot (v x y : Int) : Int := if x < 0 ∨ y < 0 ∨ v ≤ thr x y then 0 else 1
theorem dot_in (v x y : Int) : 0 ≤ dot v x y ∧ dot v x y ≤ 1 := by
  unfold dot
  split <;> omega
theorem impl_ScreenDot_eq (v x y : Int) : impl_ScreenDot.f v x y = some (dot v x y) := by
  unfold impl_ScreenDot.f dot
  rw [impl_ThresholdAt_eq]
  by_cases hx : x < 0
  · simp [hx]
  · by_cases hy : y < 0
    · simp [hy]
    · by_cases hv : v ≤ thr x y
      · simp [hx, hy, hv]
      · simp [hx, hy, hv]

/-- The dots of row y from place x on, d places. -/
def rowDots (v : Int) (y : Nat) : Nat → Nat → Int
  | 0, _ => 0
  | d + 1, x => dot v (x : Nat) (y : Nat) + rowDots v y d (x + 1)
/-- The dots of the rows from y on, d rows. -/
def tileDots (v : Int) : Nat → Nat → Int
  | 0, _ => 0
  | d + 1, y => rowDots v y 4 0 + tileDots v d (y + 1)
theorem rowDots_in (v : Int) (y : Nat) : ∀ d x, 0 ≤ rowDots v y d x ∧ rowDots v y d x ≤ d
  | 0, x => by simp [rowDots]
  | d + 1, x => by
    have h1 := dot_in v (x : Nat) (y : Nat)
    have h2 := rowDots_in v y d (x + 1)
    unfold rowDots
    omega

theorem impl_Tile_l1 (v R : Int) (y : Nat) : ∀ (d x : Nat) (s : Int), x + d = 4 → 0 ≤ s → s ≤ 100 + x → Ev (fun k => impl_DotsInTile.l0 k v (s + rowDots v y d x) (wrap64 ((y : Int) + 1))) R → Ev (fun k => impl_DotsInTile.l1 k v s y x) R
  | 0, x, s, hd, h0, h1, h => by
    refine Ev.step (fun k => ?_) h
    simp only [impl_DotsInTile.l1, rowDots]
    rw [if_neg (by omega), Int.add_zero]
  | d + 1, x, s, hd, h0, h1, h => by
    have h2 := dot_in v (x : Nat) (y : Nat)
    refine Ev.step (fun k => ?_) (impl_Tile_l1 v R y d (x + 1) (s + dot v (x : Nat) (y : Nat)) (by omega) (by omega) (by omega) ?_)
    · simp only [impl_DotsInTile.l1, impl_ScreenDot_eq, Option.bind_some]
      rw [if_pos (by omega), w64 (n := s + dot v (x : Nat) (y : Nat)) (by omega) (by omega), wsucc (by omega)]
    · rw [Int.add_assoc]
      exact h
theorem impl_Tile_l0 (v : Int) : ∀ (d y : Nat) (s : Int), y + d = 4 → 0 ≤ s → s ≤ 4 * y → Ev (fun k => impl_DotsInTile.l0 k v s y) (s + tileDots v d y)
  | 0, y, s, hd, h0, h1 => by
    refine Ev.step (f := fun _ => some s) (fun k => ?_) (by simp only [tileDots, Int.add_zero]; exact Ev.now _)
    simp only [impl_DotsInTile.l0]
    rw [if_neg (by omega)]
  | d + 1, y, s, hd, h0, h1 => by
    have h2 := rowDots_in v y 4 0
    refine Ev.step (f := fun k => impl_DotsInTile.l1 k v s y 0) (fun k => ?_) (impl_Tile_l1 v _ y 4 0 s (by omega) h0 (by omega) ?_)
    · simp only [impl_DotsInTile.l0]
      rw [if_pos (by omega)]
    · rw [wsucc (by omega)]
      simp only [tileDots]
      rw [← Int.add_assoc]
      exact impl_Tile_l0 v d (y + 1) (s + rowDots v y 4 0) (by omega) (by omega) (by omega)
theorem impl_Tile_ev (v : Int) : Ev (fun k => impl_DotsInTile.f k v) (tileDots v 4 0) := by
  have := impl_Tile_l0 v 4 0 0 (by omega) (by omega) (by omega)
  rw [Int.zero_add] at this
  exact this

theorem spec_ThresholdAt_eq (x y : Int) : spec_ThresholdAt.f x y = some (thr x y) := by
  unfold spec_ThresholdAt.f thr
  by_cases hx : x < 0
  · rw [if_pos hx, if_pos hx]
  · rw [if_neg hx, if_neg hx]
    by_cases hy : y < 0
    · rw [if_pos hy, if_pos hy]
    · rw [if_neg hy, if_neg hy]
      have t := tab_int (i := 4 * (y % 4) + x % 4) (by omega) (by omega)
      show (if 0 ≤ _ then _ else none) = _
      rw [tm (show 0 ≤ y by omega), tm (show 0 ≤ x by omega), w64 (n := y % 4 * 4) (by omega) (by omega), w64 (n := y % 4 * 4 + x % 4) (by omega) (by omega), show y % 4 * 4 + x % 4 = 4 * (y % 4) + x % 4 by omega, if_pos (by omega), if_pos (by simp; omega)]
      show some (wrap64 (wrap64 (16 * rd tab _) + 8)) = _
      rw [w64 (n := 16 * rd tab (4 * (y % 4) + x % 4)) (by omega) (by omega), w64 (by omega) (by omega)]

theorem spec_ScreenDot_eq (v x y : Int) : spec_ScreenDot.f v x y = some (dot v x y) := by
  unfold spec_ScreenDot.f dot
  rw [spec_ThresholdAt_eq]
  simp only [Option.bind_some]
  by_cases hx : x < 0
  · rw [if_pos (Or.inl hx)]
    have : thr x y = -1 := by
      unfold thr
      rw [if_pos hx]
    rw [this, if_neg (by omega)]
  · by_cases hy : y < 0
    · rw [if_pos (Or.inr (Or.inl hy))]
      have : thr x y = -1 := by
        unfold thr
        rw [if_neg hx, if_pos hy]
      rw [this, if_neg (by omega)]
    · have := thr_in (x := x) (y := y) (by omega) (by omega)
      rw [if_pos (by omega)]
      by_cases hv : v ≤ thr x y
      · rw [if_pos (Or.inr (Or.inr hv)), if_neg (by omega)]
      · rw [if_pos (by omega), if_neg (by omega)]

theorem spec_Tile_l1 (v R : Int) (y : Nat) : ∀ (d x : Nat) (s : Int), x + d = 4 → 0 ≤ s → s ≤ 100 + x → Ev (fun k => spec_DotsInTile.l0 k v (s + rowDots v y d x) (wrap64 ((y : Int) + 1))) R → Ev (fun k => spec_DotsInTile.l1 k v s y x) R
  | 0, x, s, hd, h0, h1, h => by
    refine Ev.step (fun k => ?_) h
    simp only [spec_DotsInTile.l1, rowDots]
    rw [if_neg (by omega), Int.add_zero]
  | d + 1, x, s, hd, h0, h1, h => by
    have h2 := dot_in v (x : Nat) (y : Nat)
    refine Ev.step (fun k => ?_) (spec_Tile_l1 v R y d (x + 1) (s + dot v (x : Nat) (y : Nat)) (by omega) (by omega) (by omega) ?_)
    · simp only [spec_DotsInTile.l1, spec_ScreenDot_eq, Option.bind_some]
      rw [if_pos (by omega), w64 (n := s + dot v (x : Nat) (y : Nat)) (by omega) (by omega), wsucc (by omega)]
    · rw [Int.add_assoc]
      exact h
theorem spec_Tile_l0 (v : Int) : ∀ (d y : Nat) (s : Int), y + d = 4 → 0 ≤ s → s ≤ 4 * y → Ev (fun k => spec_DotsInTile.l0 k v s y) (s + tileDots v d y)
  | 0, y, s, hd, h0, h1 => by
    refine Ev.step (f := fun _ => some s) (fun k => ?_) (by simp only [tileDots, Int.add_zero]; exact Ev.now _)
    simp only [spec_DotsInTile.l0]
    rw [if_neg (by omega)]
  | d + 1, y, s, hd, h0, h1 => by
    have h2 := rowDots_in v y 4 0
    refine Ev.step (f := fun k => spec_DotsInTile.l1 k v s y 0) (fun k => ?_) (spec_Tile_l1 v _ y 4 0 s (by omega) h0 (by omega) ?_)
    · simp only [spec_DotsInTile.l0]
      rw [if_pos (by omega)]
    · rw [wsucc (by omega)]
      simp only [tileDots]
      rw [← Int.add_assoc]
      exact spec_Tile_l0 v d (y + 1) (s + rowDots v y 4 0) (by omega) (by omega) (by omega)
theorem spec_Tile_ev (v : Int) : Ev (fun k => spec_DotsInTile.f k v) (tileDots v 4 0) := by
  have := spec_Tile_l0 v 4 0 0 (by omega) (by omega) (by omega)
  rw [Int.zero_add] at this
  exact this

theorem FnExactDotsInTile : laws_FnExactDotsInTile.Pure := by
  intro v _
  refine Ev.rounds ?_
  unfold laws_FnExactDotsInTile.f
  exact (spec_Tile_ev v).bind ((impl_Tile_ev v).bind (ev_pos rfl (Ev.now _)))

end Go.Proofs.Ytnbobpbdclbjlaa.Pure
