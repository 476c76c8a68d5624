/-
  The program's GlyphDots answers as the reference's does for every glyph, and leaves it as it was.
-/
import Derived.Test.YtcjkndcmeedneaaPFnExactGlyphDotsx3
import Derived.Test.YtcjkndcmeedneaaWSized
import Derived.Test.YtcjkndcmeedneaaOpenFnExactGlyphDots
namespace Go.Proofs.Ytcjkndcmeedneaa.Pure
open Go.RowKit Go.Proofs.Ytcjkndcmeedneaa.PFnExactGlyphDots Go.Proofs.YtcjkndcmeedneaaW.PrintWords Go.Proofs.YtcjkndcmeedneaaW.PrintLast Go.Proofs.YtcjkndcmeedneaaW.PrintMore Go.Proofs.Ytcjkndcmeedneaa.OpenFnExactGlyphDots
set_option linter.unusedVariables false
set_option linter.unusedSimpArgs false

theorem w64 {n : Int} (h1 : -9223372036854775808 ≤ n) (h2 : n ≤ 9223372036854775807) : wrap64 n = n := by
  unfold wrap64
  omega
theorem wsucc {i : Nat} (h : i ≤ 1099511627776) : wrap64 ((i : Int) + 1) = ((i + 1 : Nat) : Int) := by
  rw [w64 (by omega) (by omega)]
  omega
theorem rd_nat (l : List Int) (i : Nat) : rd l (i : Int) = l.getD i 0 := by simp [rd]
theorem getD_drop (l : List Int) (i : Nat) (h : i < l.length) : l.drop i = l.getD i 0 :: l.drop (i + 1) := by
  rw [List.drop_eq_getElem_cons h]
  simp [List.getD_eq_getElem?_getD, List.getElem?_eq_getElem h]
theorem getD_take (l : List Int) (i : Nat) (h : i < l.length) : l.take (i + 1) = l.take i ++ [l.getD i 0] := by
  rw [List.take_succ_eq_append_getElem h]
  simp [List.getD_eq_getElem?_getD, List.getElem?_eq_getElem h]
theorem set_mid (p q : List Int) (u v : Int) (i : Nat) (h : p.length = i) : (p ++ u :: q).set i v = p ++ v :: q := by
  subst h
  simp [List.set_append_right]
theorem bind_id {α : Type} {g : Nat → Option α} {r : α} (h : Ev g r) : Ev (fun n => (g n).bind fun x => some x) r := by
  obtain ⟨K, h⟩ := h
  exact ⟨K, fun k hk => by simp [h k hk]⟩
theorem ev_pos {α : Type} {c : Prop} [Decidable c] {f g : Nat → Option α} {r : α} (h : c) (k : Ev f r) : Ev (fun n => if c then f n else g n) r := Ev.congr (fun n => if_pos h) k
theorem ev_neg {α : Type} {c : Prop} [Decidable c] {f g : Nat → Option α} {r : α} (h : ¬ c) (k : Ev g r) : Ev (fun n => if c then f n else g n) r := Ev.congr (fun n => if_neg h) k
theorem ev_eq {α β : Type} {g : Option α} {f : Nat → α → Option β} {a : α} {r : β} (h : g = some a) (k : Ev (fun n => f n a) r) : Ev (fun n => g.bind (f n)) r := by
  subst h
  exact k
theorem td {v : Int} (h : 0 ≤ v) (c : Int) : Int.tdiv v c = v / c := Int.tdiv_eq_ediv_of_nonneg h
theorem tm {v : Int} (h : 0 ≤ v) (c : Int) : Int.tmod v c = v % c := Int.tmod_eq_emod_of_nonneg h

theorem eqIntS_l0 (a : List Int) (hn : a.length ≤ 1099511627776) :
    ∀ d i : Nat, i + d = a.length → Ev (fun k => laws_eqIntS.l0 k a a i) true
  | 0, i, h => by
    refine Ev.step (f := fun _ => some true) (fun k => ?_) (Ev.now _)
    simp only [laws_eqIntS.l0]
    rw [if_neg (by omega)]
  | d + 1, i, h => by
    refine Ev.step (f := fun k => laws_eqIntS.l0 k a a ((i + 1 : Nat) : Int)) (fun k => ?_) (eqIntS_l0 a hn d (i + 1) (by omega))
    simp only [laws_eqIntS.l0]
    rw [if_pos (by omega), if_pos (by omega), if_pos (by omega), if_pos trivial, wsucc (by omega)]
theorem eqIntS_ev (a : List Int) (hn : a.length ≤ 1099511627776) : Ev (fun k => laws_eqIntS.f k a a) true := by
  refine Ev.congr (f := fun k => laws_eqIntS.l0 k a a 0) (fun k => ?_) (eqIntS_l0 a hn a.length 0 (by omega))
  unfold laws_eqIntS.f
  rw [if_pos rfl]

theorem toIntS_l0 (a : List Int) (hn : a.length ≤ 1099511627776) :
    ∀ d i : Nat, i + d = a.length → Ev (fun k => laws_toIntS.l0 k a (a.take i ++ List.replicate d 0) i) a
  | 0, i, h => by
    refine Ev.step (f := fun _ => some a) (fun k => ?_) (Ev.now _)
    simp only [laws_toIntS.l0]
    rw [if_neg (by omega)]
    simp [List.take_of_length_le (show a.length ≤ i by omega)]
  | d + 1, i, h => by
    refine Ev.step (f := fun k => laws_toIntS.l0 k a (a.take (i + 1) ++ List.replicate d 0) ((i + 1 : Nat) : Int)) (fun k => ?_) (toIntS_l0 a hn d (i + 1) (by omega))
    simp only [laws_toIntS.l0]
    rw [if_pos (by omega), if_pos (by omega), if_pos (by simp; omega), wsucc (by omega), rd_nat, List.replicate_succ, Int.toNat_natCast, set_mid _ _ _ _ _ (by simp; omega), getD_take a i (by omega)]
    simp
theorem toIntS_ev (a : List Int) (hn : a.length ≤ 1099511627776) : Ev (fun k => laws_toIntS.f k a) a := by
  refine Ev.congr (f := fun k => laws_toIntS.l0 k a (a.take 0 ++ List.replicate a.length 0) 0) (fun k => ?_) (toIntS_l0 a hn a.length 0 (by omega))
  unfold laws_toIntS.f
  rw [if_pos (by omega), if_pos (by omega)]
  simp

theorem szGlyph_eq (id w : Int) (a : List Int) (h : a.length ≤ 9223372036854775807) : laws_szGlyph.f id w a 1048576 = some (if (a.length : Int) > 1048576 then -1 else 1048576 - (a.length : Int)) := by
  unfold laws_szGlyph.f laws_szIntS.f
  rw [w64 (by omega) (by omega)]
  by_cases c : (a.length : Int) > 1048576
  · rw [if_pos (by omega), if_pos c]
    simp
  · rw [if_neg (by omega), if_neg c]
    simp only [Option.bind_some]
    rw [if_neg (by omega)]
theorem toGlyph_ev (id w : Int) (a : List Int) (hn : a.length ≤ 1099511627776) : Ev (fun k => laws_toGlyph.f k id w a) (id, w, a) := by
  unfold laws_toGlyph.f
  exact (toIntS_ev a hn).bind (Ev.now _)
theorem eqGlyph_ev (id w : Int) (a : List Int) (hn : a.length ≤ 1099511627776) : Ev (fun k => laws_eqGlyph.f k id w a id w a) true := by
  unfold laws_eqGlyph.f
  exact ev_pos rfl (ev_pos rfl ((eqIntS_ev a hn).bind (ev_pos rfl (Ev.now _))))

/-- The greatest row of a width, as the program reckons it. -/
def topRow (w : Int) : Int := wrap64 ((shl .i64 1 w) - 1)
/-- A right glyph. -/
def glyph (id w : Int) (rows : List Int) : Prop := (0 ≤ id ∧ id ≤ 999) ∧ (1 ≤ w ∧ w ≤ 8) ∧ (1 ≤ (rows.length : Int) ∧ (rows.length : Int) ≤ 8) ∧ ∀ i : Nat, i < rows.length → 0 ≤ rd rows i ∧ rd rows i ≤ topRow w
instance (id w : Int) (rows : List Int) : Decidable (glyph id w rows) := by
  unfold glyph
  infer_instance
theorem and1 (n : Int) : Go.bits .and .i64 n 1 = n % 2 := by
  have h1 : (BitVec.ofInt 64 1).toNat = 2 ^ 1 - 1 := by decide
  have key : (BitVec.ofInt 64 n &&& BitVec.ofInt 64 1).toNat = (n % ((2 ^ 64 : Nat) : Int)).toNat % 2 ^ 1 := by
    rw [BitVec.toNat_and, BitVec.toNat_ofInt, h1, Nat.and_two_pow_sub_one_eq_mod]
  show IntKind.i64.wrap ((BitVec.ofInt 64 n &&& BitVec.ofInt 64 1).toNat : Nat) = n % 2
  rw [key, IntKind.wrap_i64]
  omega
/-- A glyph's dot; 0 outside, and of a wrong glyph. -/
def gdot (id w : Int) (rows : List Int) (x y : Int) : Int :=
  if glyph id w rows ∧ (0 ≤ x ∧ x ≤ w - 1) ∧ 0 ≤ y ∧ y ≤ (rows.length : Int) - 1 then Go.bits .and .i64 (shr .i64 (rd rows y) x) 1 else 0
theorem gdot_in (id w : Int) (rows : List Int) (x y : Int) : 0 ≤ gdot id w rows x y ∧ gdot id w rows x y ≤ 1 := by
  unfold gdot
  split
  · rw [and1]
    omega
  · omega

/-- The dots of a glyph's row y from place x on, d places. -/
def growDots (id w : Int) (a : List Int) (y : Nat) : Nat → Nat → Int
  | 0, _ => 0
  | d + 1, x => gdot id w a (x : Nat) (y : Nat) + growDots id w a y d (x + 1)
/-- The dots of the rows from y on, d rows. -/
def gallDots (id w : Int) (a : List Int) : Nat → Nat → Int
  | 0, _ => 0
  | d + 1, y => growDots id w a y w.toNat 0 + gallDots id w a d (y + 1)
theorem growDots_in (id w : Int) (a : List Int) (y : Nat) : ∀ d x, 0 ≤ growDots id w a y d x ∧ growDots id w a y d x ≤ d
  | 0, x => by simp [growDots]
  | d + 1, x => by
    have h1 := gdot_in id w a (x : Nat) (y : Nat)
    have h2 := growDots_in id w a y d (x + 1)
    unfold growDots
    omega
/-- The number of a glyph's dots. -/
def gdots (id w : Int) (a : List Int) : Int := if glyph id w a then gallDots id w a a.length 0 else 0

theorem within_eq (a b c : Int) : impl_within.f a b c = some (decide (b ≤ a ∧ a ≤ c)) := by
  unfold impl_within.f
  by_cases h : a ≥ b
  · rw [if_pos h]
    simp [show b ≤ a from h]
  · rw [if_neg h]
    simp [show ¬ b ≤ a from h]

theorem impl_GlyphOk_l0 (id w : Int) (a : List Int) (hi : 0 ≤ id ∧ id ≤ 999) (hw : 1 ≤ w ∧ w ≤ 8) (hl : 1 ≤ (a.length : Int) ∧ (a.length : Int) ≤ 8) :
    ∀ d i : Nat, i + d = a.length → (∀ j : Nat, j < i → 0 ≤ rd a j ∧ rd a j ≤ topRow w) → Ev (fun k => impl_GlyphOk.l0 k a (a.length : Int) i id w a) (decide (glyph id w a))
  | 0, i, h, hj => by
    refine Ev.step (f := fun _ => some true) (fun k => ?_) ?_
    · simp only [impl_GlyphOk.l0]
      rw [if_neg (by omega)]
    · rw [decide_eq_true (show glyph id w a from ⟨hi, hw, hl, fun j h1 => hj j (by omega)⟩)]
      exact Ev.now _
  | d + 1, i, h, hj => by
    by_cases c : 0 ≤ rd a i ∧ rd a i ≤ topRow w
    · refine Ev.step (f := fun k => impl_GlyphOk.l0 k a (a.length : Int) ((i + 1 : Nat) : Int) id w a) (fun k => ?_) (impl_GlyphOk_l0 id w a hi hw hl d (i + 1) (by omega) (fun j h1 => ?_))
      · simp only [impl_GlyphOk.l0, within_eq, Option.bind_some]
        rw [if_pos (by omega), if_pos (by omega), if_pos (by omega), if_pos (by omega), if_pos (show decide (0 ≤ rd a i ∧ rd a i ≤ wrap64 ((shl .i64 1 w) - 1)) = true from decide_eq_true c), wsucc (by omega)]
      · by_cases e : j = i
        · subst e
          exact c
        · exact hj j (by omega)
    · refine Ev.step (f := fun _ => some false) (fun k => ?_) ?_
      · simp only [impl_GlyphOk.l0, within_eq, Option.bind_some]
        rw [if_pos (by omega), if_pos (by omega), if_pos (by omega), if_pos (by omega), if_neg (show ¬ decide (0 ≤ rd a i ∧ rd a i ≤ wrap64 ((shl .i64 1 w) - 1)) = true from by simp only [decide_eq_true_eq]; exact c)]
      · rw [decide_eq_false (show ¬ glyph id w a from fun h3 => c (h3.2.2.2 i (by omega)))]
        exact Ev.now _
theorem impl_GlyphOk_ev (id w : Int) (a : List Int) : Ev (fun k => impl_GlyphOk.f k id w a) (decide (glyph id w a)) := by
  unfold impl_GlyphOk.f
  have no : ∀ h : ¬ glyph id w a, Ev (fun k => impl_GlyphOk.j0 k true id w a) (decide (glyph id w a)) := by
    intro h
    rw [decide_eq_false h]
    exact Ev.step (f := fun _ => some false) (fun k => by simp only [impl_GlyphOk.j0]; rw [if_pos trivial]) (Ev.now _)
  refine ev_eq (within_eq _ _ _) ?_
  by_cases hi : 0 ≤ id ∧ id ≤ 999
  · refine ev_pos (decide_eq_true hi) (ev_eq (within_eq _ _ _) ?_)
    by_cases hw : 1 ≤ w ∧ w ≤ 8
    · refine ev_pos (decide_eq_true hw) (ev_eq (within_eq _ _ _) ?_)
      by_cases hl : 1 ≤ (a.length : Int) ∧ (a.length : Int) ≤ 8
      · rw [decide_eq_true hl]
        refine Ev.step (f := fun k => impl_GlyphOk.l0 k a (a.length : Int) 0 id w a) (fun k => ?_) (impl_GlyphOk_l0 id w a hi hw hl a.length 0 (by omega) (fun j h => by omega))
        simp only [impl_GlyphOk.j0]
        rw [if_neg (by simp)]
      · rw [decide_eq_false hl]
        exact no fun h => hl h.2.2.1
    · exact ev_neg (by simp only [decide_eq_true_eq]; exact hw) (no fun h => hw h.2.1)
  · exact ev_neg (by simp only [decide_eq_true_eq]; exact hi) (no fun h => hi h.1)

theorem impl_GlyphDot_ev (id w : Int) (a : List Int) (x y : Int) : Ev (fun k => impl_GlyphDot.f k id w a x y) (gdot id w a x y) := by
  unfold impl_GlyphDot.f gdot
  refine (impl_GlyphOk_ev id w a).bind ?_
  by_cases hg : glyph id w a
  · have hg' := hg
    obtain ⟨_, hw, hl, _⟩ := hg'
    refine ev_pos (decide_eq_true hg) (ev_eq (within_eq _ _ _) ?_)
    rw [w64 (n := w - 1) (by omega) (by omega)]
    by_cases hx : 0 ≤ x ∧ x ≤ w - 1
    · refine ev_pos (decide_eq_true hx) (ev_eq (within_eq _ _ _) ?_)
      rw [w64 (n := (a.length : Int) - 1) (by omega) (by omega)]
      by_cases hy : 0 ≤ y ∧ y ≤ (a.length : Int) - 1
      · rw [if_pos (c := glyph id w a ∧ (0 ≤ x ∧ x ≤ w - 1) ∧ 0 ≤ y ∧ y ≤ (a.length : Int) - 1) ⟨hg, hx, hy⟩]
        exact ev_pos (decide_eq_true hy) (ev_pos (by omega) (ev_pos (by omega) (ev_pos (by omega) (Ev.now _))))
      · rw [if_neg (c := glyph id w a ∧ (0 ≤ x ∧ x ≤ w - 1) ∧ 0 ≤ y ∧ y ≤ (a.length : Int) - 1) (fun q => hy q.2.2)]
        exact ev_neg (by simp only [decide_eq_true_eq]; exact hy) (Ev.now _)
    · rw [if_neg (c := glyph id w a ∧ (0 ≤ x ∧ x ≤ w - 1) ∧ 0 ≤ y ∧ y ≤ (a.length : Int) - 1) (fun q => hx q.2.1)]
      exact ev_neg (by simp only [decide_eq_true_eq]; exact hx) (Ev.now _)
  · rw [if_neg (c := glyph id w a ∧ (0 ≤ x ∧ x ≤ w - 1) ∧ 0 ≤ y ∧ y ≤ (a.length : Int) - 1) (fun q => hg q.1)]
    exact ev_neg (by simp only [decide_eq_true_eq]; exact hg) (Ev.now _)

theorem impl_GDots_l1 (id w R : Int) (a : List Int) (hg : glyph id w a) (y : Nat) (hy : y < 8) : ∀ (d x : Nat) (s : Int), (x : Int) + d = w → 0 ≤ s → s ≤ 64 + x → Ev (fun k => impl_GlyphDots.l0 k (s + growDots id w a y d x) (a.length : Int) (wrap64 ((y : Int) + 1)) id w a) R → Ev (fun k => impl_GlyphDots.l1 k s y x (a.length : Int) y id w a) R
  | 0, x, s, hd, h0, h1, h => by
    refine Ev.step (fun k => ?_) h
    simp only [impl_GlyphDots.l1, growDots]
    rw [if_neg (by omega), Int.add_zero]
  | d + 1, x, s, hd, h0, h1, h => by
    have h2 := gdot_in id w a (x : Nat) (y : Nat)
    have hw := hg.2.1
    have hO := impl_GlyphOk_ev id w a
    rw [decide_eq_true hg] at hO
    have ih := impl_GDots_l1 id w R a hg y hy d (x + 1) (s + gdot id w a (x : Nat) (y : Nat)) (by omega) (by omega) (by omega) (by rw [Int.add_assoc]; exact h)
    refine Ev.step (f := fun k => (impl_GlyphOk.f k id w a).bind fun t => (if t = true then ((impl_GlyphDot.f k id w a (x : Nat) (y : Nat)).bind fun u => (impl_GlyphDots.l1 k (wrap64 (s + u)) y (wrap64 ((x : Int) + 1)) (a.length : Int) y id w a)) else (impl_GlyphDots.l0 k s (a.length : Int) (wrap64 ((y : Int) + 1)) id w a))) (fun k => ?_) (hO.bind (ev_pos rfl ((impl_GlyphDot_ev id w a (x : Nat) (y : Nat)).bind ?_)))
    · simp only [impl_GlyphDots.l1]
      rw [if_pos (by omega)]
    · rw [w64 (n := s + gdot id w a (x : Nat) (y : Nat)) (by omega) (by omega), wsucc (by omega)]
      exact ih
theorem impl_GDots_l0 (id w : Int) (a : List Int) (hg : glyph id w a) : ∀ (d y : Nat) (s : Int), y + d = a.length → 0 ≤ s → s ≤ 8 * y → Ev (fun k => impl_GlyphDots.l0 k s (a.length : Int) y id w a) (s + gallDots id w a d y)
  | 0, y, s, hd, h0, h1 => by
    refine Ev.step (f := fun _ => some s) (fun k => ?_) (by simp only [gallDots, Int.add_zero]; exact Ev.now _)
    simp only [impl_GlyphDots.l0]
    rw [if_neg (by omega)]
  | d + 1, y, s, hd, h0, h1 => by
    have h2 := growDots_in id w a y w.toNat 0
    have hw := hg.2.1
    have hl := hg.2.2.1
    refine Ev.step (f := fun k => impl_GlyphDots.l1 k s y 0 (a.length : Int) y id w a) (fun k => ?_) (impl_GDots_l1 id w _ a hg y (by omega) w.toNat 0 s (by omega) h0 (by omega) ?_)
    · simp only [impl_GlyphDots.l0]
      rw [if_pos (by omega)]
    · rw [wsucc (by omega)]
      simp only [gallDots]
      rw [← Int.add_assoc]
      exact impl_GDots_l0 id w a hg d (y + 1) (s + growDots id w a y w.toNat 0) (by omega) (by omega) (by omega)
theorem impl_GDots_no (id w : Int) (a : List Int) (hg : ¬ glyph id w a) (hn : a.length ≤ 1099511627776) : ∀ (d y : Nat), y + d = a.length → Ev (fun k => impl_GlyphDots.l0 k 0 (a.length : Int) y id w a) 0
  | 0, y, hd => by
    refine Ev.step (f := fun _ => some 0) (fun k => ?_) (Ev.now _)
    simp only [impl_GlyphDots.l0]
    rw [if_neg (by omega)]
  | d + 1, y, hd => by
    have ih := impl_GDots_no id w a hg hn d (y + 1) (by omega)
    rw [← wsucc (by omega)] at ih
    refine Ev.step (f := fun k => impl_GlyphDots.l1 k 0 y 0 (a.length : Int) y id w a) (fun k => ?_) ?_
    · simp only [impl_GlyphDots.l0]
      rw [if_pos (by omega)]
    · by_cases c : (0 : Int) < w
      · have hO := impl_GlyphOk_ev id w a
        rw [decide_eq_false hg] at hO
        refine Ev.step (f := fun k => (impl_GlyphOk.f k id w a).bind fun t => (if t = true then ((impl_GlyphDot.f k id w a 0 (y : Nat)).bind fun u => (impl_GlyphDots.l1 k (wrap64 (0 + u)) y (wrap64 ((0 : Int) + 1)) (a.length : Int) y id w a)) else (impl_GlyphDots.l0 k 0 (a.length : Int) (wrap64 ((y : Int) + 1)) id w a))) (fun k => ?_) (hO.bind (ev_neg (by simp) ih))
        simp only [impl_GlyphDots.l1]
        rw [if_pos c]
      · refine Ev.step (fun k => ?_) ih
        simp only [impl_GlyphDots.l1]
        rw [if_neg c]
theorem impl_GDots_ev (id w : Int) (a : List Int) (hn : a.length ≤ 1099511627776) : Ev (fun k => impl_GlyphDots.f k id w a) (gdots id w a) := by
  unfold impl_GlyphDots.f gdots
  by_cases hg : glyph id w a
  · rw [if_pos hg]
    have := impl_GDots_l0 id w a hg a.length 0 0 (by omega) (by omega) (by omega)
    rw [Int.zero_add] at this
    exact this
  · rw [if_neg hg]
    exact impl_GDots_no id w a hg hn a.length 0 (by omega)

theorem l01In_eq (a b c : Int) : spec_l01In.f a b c = some (decide (b ≤ a ∧ a ≤ c)) := by
  unfold spec_l01In.f
  by_cases h : a ≥ b
  · rw [if_pos h]
    simp [show b ≤ a from h]
  · rw [if_neg h]
    simp [show ¬ b ≤ a from h]

theorem spec_GlyphOk_l0 (id w : Int) (a : List Int) (hi : 0 ≤ id ∧ id ≤ 999) (hw : 1 ≤ w ∧ w ≤ 8) (hl : 1 ≤ (a.length : Int) ∧ (a.length : Int) ≤ 8) :
    ∀ d i : Nat, i + d = a.length → (∀ j : Nat, j < i → 0 ≤ rd a j ∧ rd a j ≤ topRow w) → Ev (fun k => spec_GlyphOk.l0 k i id w a) (decide (glyph id w a))
  | 0, i, h, hj => by
    refine Ev.step (f := fun _ => some true) (fun k => ?_) ?_
    · simp only [spec_GlyphOk.l0]
      rw [if_neg (by omega)]
    · rw [decide_eq_true (show glyph id w a from ⟨hi, hw, hl, fun j h1 => hj j (by omega)⟩)]
      exact Ev.now _
  | d + 1, i, h, hj => by
    by_cases c : 0 ≤ rd a i ∧ rd a i ≤ topRow w
    · refine Ev.step (f := fun k => spec_GlyphOk.l0 k ((i + 1 : Nat) : Int) id w a) (fun k => ?_) (spec_GlyphOk_l0 id w a hi hw hl d (i + 1) (by omega) (fun j h1 => ?_))
      · simp only [spec_GlyphOk.l0, l01In_eq, Option.bind_some]
        rw [if_pos (by omega), if_pos (by omega), if_pos (by omega), if_pos (show decide (0 ≤ rd a i ∧ rd a i ≤ wrap64 ((shl .i64 1 w) - 1)) = true from decide_eq_true c), wsucc (by omega)]
      · by_cases e : j = i
        · subst e
          exact c
        · exact hj j (by omega)
    · refine Ev.step (f := fun _ => some false) (fun k => ?_) ?_
      · simp only [spec_GlyphOk.l0, l01In_eq, Option.bind_some]
        rw [if_pos (by omega), if_pos (by omega), if_pos (by omega), if_neg (show ¬ decide (0 ≤ rd a i ∧ rd a i ≤ wrap64 ((shl .i64 1 w) - 1)) = true from by simp only [decide_eq_true_eq]; exact c)]
      · rw [decide_eq_false (show ¬ glyph id w a from fun h3 => c (h3.2.2.2 i (by omega)))]
        exact Ev.now _
theorem spec_GlyphOk_ev (id w : Int) (a : List Int) : Ev (fun k => spec_GlyphOk.f k id w a) (decide (glyph id w a)) := by
  unfold spec_GlyphOk.f
  have no : ∀ h : ¬ glyph id w a, Ev (fun k => spec_GlyphOk.j0 k true id w a) (decide (glyph id w a)) := by
    intro h
    rw [decide_eq_false h]
    exact Ev.step (f := fun _ => some false) (fun k => by simp only [spec_GlyphOk.j0]; rw [if_pos trivial]) (Ev.now _)
  refine ev_eq (l01In_eq _ _ _) ?_
  by_cases hi : 0 ≤ id ∧ id ≤ 999
  · refine ev_pos (decide_eq_true hi) (ev_eq (l01In_eq _ _ _) ?_)
    by_cases hw : 1 ≤ w ∧ w ≤ 8
    · refine ev_pos (decide_eq_true hw) (ev_eq (l01In_eq _ _ _) ?_)
      by_cases hl : 1 ≤ (a.length : Int) ∧ (a.length : Int) ≤ 8
      · rw [decide_eq_true hl]
        refine Ev.step (f := fun k => spec_GlyphOk.l0 k 0 id w a) (fun k => ?_) (spec_GlyphOk_l0 id w a hi hw hl a.length 0 (by omega) (fun j h => by omega))
        simp only [spec_GlyphOk.j0]
        rw [if_neg (by simp)]
      · rw [decide_eq_false hl]
        exact no fun h => hl h.2.2.1
    · exact ev_neg (by simp only [decide_eq_true_eq]; exact hw) (no fun h => hw h.2.1)
  · exact ev_neg (by simp only [decide_eq_true_eq]; exact hi) (no fun h => hi h.1)

theorem spec_GlyphDot_ev (id w : Int) (a : List Int) (x y : Int) : Ev (fun k => spec_GlyphDot.f k id w a x y) (gdot id w a x y) := by
  unfold spec_GlyphDot.f gdot
  refine (spec_GlyphOk_ev id w a).bind ?_
  by_cases hg : glyph id w a
  · have hg' := hg
    obtain ⟨_, hw, hl, _⟩ := hg'
    refine ev_pos (decide_eq_true hg) (ev_eq (l01In_eq _ _ _) ?_)
    rw [w64 (n := w - 1) (by omega) (by omega)]
    by_cases hx : 0 ≤ x ∧ x ≤ w - 1
    · refine ev_pos (decide_eq_true hx) (ev_eq (l01In_eq _ _ _) ?_)
      rw [w64 (n := (a.length : Int) - 1) (by omega) (by omega)]
      by_cases hy : 0 ≤ y ∧ y ≤ (a.length : Int) - 1
      · rw [if_pos (c := glyph id w a ∧ (0 ≤ x ∧ x ≤ w - 1) ∧ 0 ≤ y ∧ y ≤ (a.length : Int) - 1) ⟨hg, hx, hy⟩]
        exact ev_pos (decide_eq_true hy) (ev_pos (by omega) (ev_pos (by omega) (ev_pos (by omega) (Ev.now _))))
      · rw [if_neg (c := glyph id w a ∧ (0 ≤ x ∧ x ≤ w - 1) ∧ 0 ≤ y ∧ y ≤ (a.length : Int) - 1) (fun q => hy q.2.2)]
        exact ev_neg (by simp only [decide_eq_true_eq]; exact hy) (Ev.now _)
    · rw [if_neg (c := glyph id w a ∧ (0 ≤ x ∧ x ≤ w - 1) ∧ 0 ≤ y ∧ y ≤ (a.length : Int) - 1) (fun q => hx q.2.1)]
      exact ev_neg (by simp only [decide_eq_true_eq]; exact hx) (Ev.now _)
  · rw [if_neg (c := glyph id w a ∧ (0 ≤ x ∧ x ≤ w - 1) ∧ 0 ≤ y ∧ y ≤ (a.length : Int) - 1) (fun q => hg q.1)]
    exact ev_neg (by simp only [decide_eq_true_eq]; exact hg) (Ev.now _)

theorem spec_GDots_l1 (id w R : Int) (a : List Int) (hg : glyph id w a) (y : Nat) (hy : y < 8) : ∀ (d x : Nat) (s : Int), (x : Int) + d = w → 0 ≤ s → s ≤ 64 + x → Ev (fun k => spec_GlyphDots.l0 k (s + growDots id w a y d x) (wrap64 ((y : Int) + 1)) id w a) R → Ev (fun k => spec_GlyphDots.l1 k s y x id w a) R
  | 0, x, s, hd, h0, h1, h => by
    refine Ev.step (fun k => ?_) h
    simp only [spec_GlyphDots.l1, growDots]
    rw [if_neg (by omega), Int.add_zero]
  | d + 1, x, s, hd, h0, h1, h => by
    have h2 := gdot_in id w a (x : Nat) (y : Nat)
    have hw := hg.2.1
    have ih := spec_GDots_l1 id w R a hg y hy d (x + 1) (s + gdot id w a (x : Nat) (y : Nat)) (by omega) (by omega) (by omega) (by rw [Int.add_assoc]; exact h)
    refine Ev.step (f := fun k => (spec_GlyphDot.f k id w a (x : Nat) (y : Nat)).bind fun u => (spec_GlyphDots.l1 k (wrap64 (s + u)) y (wrap64 ((x : Int) + 1)) id w a)) (fun k => ?_) ((spec_GlyphDot_ev id w a (x : Nat) (y : Nat)).bind ?_)
    · simp only [spec_GlyphDots.l1]
      rw [if_pos (by omega)]
    · rw [w64 (n := s + gdot id w a (x : Nat) (y : Nat)) (by omega) (by omega), wsucc (by omega)]
      exact ih
theorem spec_GDots_l0 (id w : Int) (a : List Int) (hg : glyph id w a) : ∀ (d y : Nat) (s : Int), y + d = a.length → 0 ≤ s → s ≤ 8 * y → Ev (fun k => spec_GlyphDots.l0 k s y id w a) (s + gallDots id w a d y)
  | 0, y, s, hd, h0, h1 => by
    refine Ev.step (f := fun k => spec_GlyphDots.j1 k s y false id w a) (fun k => ?_) (Ev.step (f := fun _ => some s) (fun k => ?_) (by simp only [gallDots, Int.add_zero]; exact Ev.now _))
    · simp only [spec_GlyphDots.l0]
      rw [if_neg (by omega)]
    · simp only [spec_GlyphDots.j1]
      rw [if_neg (by simp)]
  | d + 1, y, s, hd, h0, h1 => by
    have h2 := growDots_in id w a y w.toNat 0
    have hw := hg.2.1
    have hl := hg.2.2.1
    have hO := spec_GlyphOk_ev id w a
    rw [decide_eq_true hg] at hO
    refine Ev.step (f := fun k => (spec_GlyphOk.f k id w a).bind fun t => spec_GlyphDots.j1 k s y t id w a) (fun k => ?_) (hO.bind (Ev.step (f := fun k => spec_GlyphDots.l1 k s y 0 id w a) (fun k => ?_) (spec_GDots_l1 id w _ a hg y (by omega) w.toNat 0 s (by omega) h0 (by omega) ?_)))
    · simp only [spec_GlyphDots.l0]
      rw [if_pos (by omega)]
    · simp only [spec_GlyphDots.j1]
      rw [if_pos trivial]
    · rw [wsucc (by omega)]
      simp only [gallDots]
      rw [← Int.add_assoc]
      exact spec_GDots_l0 id w a hg d (y + 1) (s + growDots id w a y w.toNat 0) (by omega) (by omega) (by omega)
theorem spec_GDots_ev (id w : Int) (a : List Int) : Ev (fun k => spec_GlyphDots.f k id w a) (gdots id w a) := by
  unfold spec_GlyphDots.f gdots
  by_cases hg : glyph id w a
  · rw [if_pos hg]
    have := spec_GDots_l0 id w a hg a.length 0 0 (by omega) (by omega) (by omega)
    rw [Int.zero_add] at this
    exact this
  · rw [if_neg hg]
    have no : Ev (fun k => spec_GlyphDots.j1 k 0 0 false id w a) 0 := Ev.step (f := fun _ => some 0) (fun k => by simp only [spec_GlyphDots.j1]; rw [if_neg (by simp)]) (Ev.now _)
    by_cases c : (0 : Int) < (a.length : Int)
    · have hO := spec_GlyphOk_ev id w a
      rw [decide_eq_false hg] at hO
      refine Ev.step (f := fun k => (spec_GlyphOk.f k id w a).bind fun t => spec_GlyphDots.j1 k 0 0 t id w a) (fun k => ?_) (hO.bind no)
      simp only [spec_GlyphDots.l0]
      rw [if_pos c]
    · refine Ev.step (fun k => ?_) no
      simp only [spec_GlyphDots.l0]
      rw [if_neg c]

theorem FnExactGlyphDots : FnExactGlyphDotsPure := by
  intro id w a _ _ hm _
  have hm' : a.length ≤ 9223372036854775807 := hm
  refine Ev.rounds ?_
  unfold laws_FnExactGlyphDots.f
  refine ev_eq (szGlyph_eq id w a hm') ?_
  by_cases c : (a.length : Int) > 1048576
  · rw [if_pos c]
    exact ev_pos (by omega) (Ev.now _)
  rw [if_neg c]
  refine ev_neg (by omega) ?_
  have t := toGlyph_ev id w a (by omega)
  refine t.bind ((spec_GDots_ev id w a).bind (t.bind ((impl_GDots_ev id w a (by omega)).bind (ev_pos rfl ?_))))
  exact t.bind ((eqGlyph_ev id w a (by omega)).bind (ev_pos rfl (Ev.now _)))

end Go.Proofs.Ytcjkndcmeedneaa.Pure
