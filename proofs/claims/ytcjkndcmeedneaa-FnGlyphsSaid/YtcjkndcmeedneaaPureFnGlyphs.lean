/-
  For every code the law of glyphs returns true: a glyph that is turned four times is the same, with the same number of dots at each time.
-/
import Derived.Test.YtcjkndcmeedneaaPFnGlyphsx3
import Derived.Test.YtcjkndcmeedneaaWSized
/- The printed row names 'PrintWords.sized_ints' without its seat's letter W: the same law under the name that it looks for. -/
namespace Go.Proofs.Ytcjkndcmeedneaa.PrintWords
open Go.ChangeShapes Go.WideShapes
theorem sized_ints {H : Type} {enc : TypeId × Value → H} {P : Program} {W : World} {base : Nat} {spare : Nat → Bool} {held : Bool} {t e : TypeId} {k : IntKind} {a : Option Addr} {len cap : Nat} {d : DataW H} {ps : List MemPlace} {ts : List TypeId} {ds : List (DataW H)} {j : Nat}
    (hsz : (DataW.weightsEach P ts ds).all (· ≤ reachBytes) = true) (ht : ts[j]? = some t) (hd : ds[j]? = some d) (hu : P.underlying t = some (.slice e)) (he : P.underlying e = some (.int k)) (hc : P.cellsOf e = 1) {B : Nat} (hB : P.bytesOf e = B)
    (h : DataW.Trod enc P W base spare held t (.slice a len cap) d ps) : len * B ≤ 140737488351232 :=
  Go.Proofs.YtcjkndcmeedneaaW.PrintWords.sized_ints hsz ht hd hu he hc hB h
end Go.Proofs.Ytcjkndcmeedneaa.PrintWords
namespace Go.Proofs.Ytcjkndcmeedneaa.Pure
open Go.RowKit Go.Proofs.Ytcjkndcmeedneaa.PFnGlyphs Go.Proofs.YtcjkndcmeedneaaW.PrintWords Go.Proofs.YtcjkndcmeedneaaW.PrintLast Go.Proofs.YtcjkndcmeedneaaW.PrintMore
set_option linter.unusedVariables false
set_option linter.unusedSimpArgs false

theorem w64 {n : Int} (h1 : -9223372036854775808 ≤ n) (h2 : n ≤ 9223372036854775807) : wrap64 n = n := by
  unfold wrap64
  omega
theorem wsucc {i : Nat} (h : i ≤ 1099511627776) : wrap64 ((i : Int) + 1) = ((i + 1 : Nat) : Int) := by
  rw [w64 (by omega) (by omega)]
  omega
theorem rd_nat (l : List Int) (i : Nat) : rd l (i : Int) = l.getD i 0 := by simp [rd]
theorem getD_drop (l : List Int) (i : Nat) (h : i < l.length) : l.drop i = l.getD i 0 :: l.drop (i + 1) := by
  rw [List.drop_eq_getElem_cons h]
  simp [List.getD_eq_getElem?_getD, List.getElem?_eq_getElem h]
theorem getD_take (l : List Int) (i : Nat) (h : i < l.length) : l.take (i + 1) = l.take i ++ [l.getD i 0] := by
  rw [List.take_succ_eq_append_getElem h]
  simp [List.getD_eq_getElem?_getD, List.getElem?_eq_getElem h]
theorem set_mid (p q : List Int) (u v : Int) (i : Nat) (h : p.length = i) : (p ++ u :: q).set i v = p ++ v :: q := by
  subst h
  simp [List.set_append_right]
theorem bind_id {α : Type} {g : Nat → Option α} {r : α} (h : Ev g r) : Ev (fun n => (g n).bind fun x => some x) r := by
  obtain ⟨K, h⟩ := h
  exact ⟨K, fun k hk => by simp [h k hk]⟩
theorem ev_pos {α : Type} {c : Prop} [Decidable c] {f g : Nat → Option α} {r : α} (h : c) (k : Ev f r) : Ev (fun n => if c then f n else g n) r := Ev.congr (fun n => if_pos h) k
theorem ev_neg {α : Type} {c : Prop} [Decidable c] {f g : Nat → Option α} {r : α} (h : ¬ c) (k : Ev g r) : Ev (fun n => if c then f n else g n) r := Ev.congr (fun n => if_neg h) k
theorem ev_eq {α β : Type} {g : Option α} {f : Nat → α → Option β} {a : α} {r : β} (h : g = some a) (k : Ev (fun n => f n a) r) : Ev (fun n => g.bind (f n)) r := by
  subst h
  exact k
theorem td {v : Int} (h : 0 ≤ v) (c : Int) : Int.tdiv v c = v / c := Int.tdiv_eq_ediv_of_nonneg h
theorem tm {v : Int} (h : 0 ≤ v) (c : Int) : Int.tmod v c = v % c := Int.tmod_eq_emod_of_nonneg h

/-- The greatest row of a width, as the program reckons it. -/
def topRow (w : Int) : Int := wrap64 ((shl .i64 1 w) - 1)
/-- A right glyph. -/
def glyph (id w : Int) (rows : List Int) : Prop := (0 ≤ id ∧ id ≤ 999) ∧ (1 ≤ w ∧ w ≤ 8) ∧ (1 ≤ (rows.length : Int) ∧ (rows.length : Int) ≤ 8) ∧ ∀ i : Nat, i < rows.length → 0 ≤ rd rows i ∧ rd rows i ≤ topRow w
instance (id w : Int) (rows : List Int) : Decidable (glyph id w rows) := by
  unfold glyph
  infer_instance
theorem and1 (n : Int) : Go.bits .and .i64 n 1 = n % 2 := by
  have h1 : (BitVec.ofInt 64 1).toNat = 2 ^ 1 - 1 := by decide
  have key : (BitVec.ofInt 64 n &&& BitVec.ofInt 64 1).toNat = (n % ((2 ^ 64 : Nat) : Int)).toNat % 2 ^ 1 := by
    rw [BitVec.toNat_and, BitVec.toNat_ofInt, h1, Nat.and_two_pow_sub_one_eq_mod]
  show IntKind.i64.wrap ((BitVec.ofInt 64 n &&& BitVec.ofInt 64 1).toNat : Nat) = n % 2
  rw [key, IntKind.wrap_i64]
  omega
/-- A glyph's dot; 0 outside, and of a wrong glyph. -/
def gdot (id w : Int) (rows : List Int) (x y : Int) : Int :=
  if glyph id w rows ∧ (0 ≤ x ∧ x ≤ w - 1) ∧ 0 ≤ y ∧ y ≤ (rows.length : Int) - 1 then Go.bits .and .i64 (shr .i64 (rd rows y) x) 1 else 0
theorem gdot_in (id w : Int) (rows : List Int) (x y : Int) : 0 ≤ gdot id w rows x y ∧ gdot id w rows x y ≤ 1 := by
  unfold gdot
  split
  · rw [and1]
    omega
  · omega

/-- The dots of a glyph's row y from place x on, d places. -/
def growDots (id w : Int) (a : List Int) (y : Nat) : Nat → Nat → Int
  | 0, _ => 0
  | d + 1, x => gdot id w a (x : Nat) (y : Nat) + growDots id w a y d (x + 1)
/-- The dots of the rows from y on, d rows. -/
def gallDots (id w : Int) (a : List Int) : Nat → Nat → Int
  | 0, _ => 0
  | d + 1, y => growDots id w a y w.toNat 0 + gallDots id w a d (y + 1)
theorem growDots_in (id w : Int) (a : List Int) (y : Nat) : ∀ d x, 0 ≤ growDots id w a y d x ∧ growDots id w a y d x ≤ d
  | 0, x => by simp [growDots]
  | d + 1, x => by
    have h1 := gdot_in id w a (x : Nat) (y : Nat)
    have h2 := growDots_in id w a y d (x + 1)
    unfold growDots
    omega
/-- The number of a glyph's dots. -/
def gdots (id w : Int) (a : List Int) : Int := if glyph id w a then gallDots id w a a.length 0 else 0

theorem within_eq (a b c : Int) : impl_within.f a b c = some (decide (b ≤ a ∧ a ≤ c)) := by
  unfold impl_within.f
  by_cases h : a ≥ b
  · rw [if_pos h]
    simp [show b ≤ a from h]
  · rw [if_neg h]
    simp [show ¬ b ≤ a from h]

theorem impl_GlyphOk_l0 (id w : Int) (a : List Int) (hi : 0 ≤ id ∧ id ≤ 999) (hw : 1 ≤ w ∧ w ≤ 8) (hl : 1 ≤ (a.length : Int) ∧ (a.length : Int) ≤ 8) :
    ∀ d i : Nat, i + d = a.length → (∀ j : Nat, j < i → 0 ≤ rd a j ∧ rd a j ≤ topRow w) → Ev (fun k => impl_GlyphOk.l0 k a (a.length : Int) i id w a) (decide (glyph id w a))
  | 0, i, h, hj => by
    refine Ev.step (f := fun _ => some true) (fun k => ?_) ?_
    · simp only [impl_GlyphOk.l0]
      rw [if_neg (by omega)]
    · rw [decide_eq_true (show glyph id w a from ⟨hi, hw, hl, fun j h1 => hj j (by omega)⟩)]
      exact Ev.now _
  | d + 1, i, h, hj => by
    by_cases c : 0 ≤ rd a i ∧ rd a i ≤ topRow w
    · refine Ev.step (f := fun k => impl_GlyphOk.l0 k a (a.length : Int) ((i + 1 : Nat) : Int) id w a) (fun k => ?_) (impl_GlyphOk_l0 id w a hi hw hl d (i + 1) (by omega) (fun j h1 => ?_))
      · simp only [impl_GlyphOk.l0, within_eq, Option.bind_some]
        rw [if_pos (by omega), if_pos (by omega), if_pos (by omega), if_pos (by omega), if_pos (show decide (0 ≤ rd a i ∧ rd a i ≤ wrap64 ((shl .i64 1 w) - 1)) = true from decide_eq_true c), wsucc (by omega)]
      · by_cases e : j = i
        · subst e
          exact c
        · exact hj j (by omega)
    · refine Ev.step (f := fun _ => some false) (fun k => ?_) ?_
      · simp only [impl_GlyphOk.l0, within_eq, Option.bind_some]
        rw [if_pos (by omega), if_pos (by omega), if_pos (by omega), if_pos (by omega), if_neg (show ¬ decide (0 ≤ rd a i ∧ rd a i ≤ wrap64 ((shl .i64 1 w) - 1)) = true from by simp only [decide_eq_true_eq]; exact c)]
      · rw [decide_eq_false (show ¬ glyph id w a from fun h3 => c (h3.2.2.2 i (by omega)))]
        exact Ev.now _
theorem impl_GlyphOk_ev (id w : Int) (a : List Int) : Ev (fun k => impl_GlyphOk.f k id w a) (decide (glyph id w a)) := by
  unfold impl_GlyphOk.f
  have no : ∀ h : ¬ glyph id w a, Ev (fun k => impl_GlyphOk.j0 k true id w a) (decide (glyph id w a)) := by
    intro h
    rw [decide_eq_false h]
    exact Ev.step (f := fun _ => some false) (fun k => by simp only [impl_GlyphOk.j0]; rw [if_pos trivial]) (Ev.now _)
  refine ev_eq (within_eq _ _ _) ?_
  by_cases hi : 0 ≤ id ∧ id ≤ 999
  · refine ev_pos (decide_eq_true hi) (ev_eq (within_eq _ _ _) ?_)
    by_cases hw : 1 ≤ w ∧ w ≤ 8
    · refine ev_pos (decide_eq_true hw) (ev_eq (within_eq _ _ _) ?_)
      by_cases hl : 1 ≤ (a.length : Int) ∧ (a.length : Int) ≤ 8
      · rw [decide_eq_true hl]
        refine Ev.step (f := fun k => impl_GlyphOk.l0 k a (a.length : Int) 0 id w a) (fun k => ?_) (impl_GlyphOk_l0 id w a hi hw hl a.length 0 (by omega) (fun j h => by omega))
        simp only [impl_GlyphOk.j0]
        rw [if_neg (by simp)]
      · rw [decide_eq_false hl]
        exact no fun h => hl h.2.2.1
    · exact ev_neg (by simp only [decide_eq_true_eq]; exact hw) (no fun h => hw h.2.1)
  · exact ev_neg (by simp only [decide_eq_true_eq]; exact hi) (no fun h => hi h.1)

theorem impl_GlyphDot_ev (id w : Int) (a : List Int) (x y : Int) : Ev (fun k => impl_GlyphDot.f k id w a x y) (gdot id w a x y) := by
  unfold impl_GlyphDot.f gdot
  refine (impl_GlyphOk_ev id w a).bind ?_
  by_cases hg : glyph id w a
  · have hg' := hg
    obtain ⟨_, hw, hl, _⟩ := hg'
    refine ev_pos (decide_eq_true hg) (ev_eq (within_eq _ _ _) ?_)
    rw [w64 (n := w - 1) (by omega) (by omega)]
    by_cases hx : 0 ≤ x ∧ x ≤ w - 1
    · refine ev_pos (decide_eq_true hx) (ev_eq (within_eq _ _ _) ?_)
      rw [w64 (n := (a.length : Int) - 1) (by omega) (by omega)]
      by_cases hy : 0 ≤ y ∧ y ≤ (a.length : Int) - 1
      · rw [if_pos (c := glyph id w a ∧ (0 ≤ x ∧ x ≤ w - 1) ∧ 0 ≤ y ∧ y ≤ (a.length : Int) - 1) ⟨hg, hx, hy⟩]
        exact ev_pos (decide_eq_true hy) (ev_pos (by omega) (ev_pos (by omega) (ev_pos (by omega) (Ev.now _))))
      · rw [if_neg (c := glyph id w a ∧ (0 ≤ x ∧ x ≤ w - 1) ∧ 0 ≤ y ∧ y ≤ (a.length : Int) - 1) (fun q => hy q.2.2)]
        exact ev_neg (by simp only [decide_eq_true_eq]; exact hy) (Ev.now _)
    · rw [if_neg (c := glyph id w a ∧ (0 ≤ x ∧ x ≤ w - 1) ∧ 0 ≤ y ∧ y ≤ (a.length : Int) - 1) (fun q => hx q.2.1)]
      exact ev_neg (by simp only [decide_eq_true_eq]; exact hx) (Ev.now _)
  · rw [if_neg (c := glyph id w a ∧ (0 ≤ x ∧ x ≤ w - 1) ∧ 0 ≤ y ∧ y ≤ (a.length : Int) - 1) (fun q => hg q.1)]
    exact ev_neg (by simp only [decide_eq_true_eq]; exact hg) (Ev.now _)

theorem impl_GDots_l1 (id w R : Int) (a : List Int) (hg : glyph id w a) (y : Nat) (hy : y < 8) : ∀ (d x : Nat) (s : Int), (x : Int) + d = w → 0 ≤ s → s ≤ 64 + x → Ev (fun k => impl_GlyphDots.l0 k (s + growDots id w a y d x) (a.length : Int) (wrap64 ((y : Int) + 1)) id w a) R → Ev (fun k => impl_GlyphDots.l1 k s y x (a.length : Int) y id w a) R
  | 0, x, s, hd, h0, h1, h => by
    refine Ev.step (fun k => ?_) h
    simp only [impl_GlyphDots.l1, growDots]
    rw [if_neg (by omega), Int.add_zero]
  | d + 1, x, s, hd, h0, h1, h => by
    have h2 := gdot_in id w a (x : Nat) (y : Nat)
    have hw := hg.2.1
    have hO := impl_GlyphOk_ev id w a
    rw [decide_eq_true hg] at hO
    have ih := impl_GDots_l1 id w R a hg y hy d (x + 1) (s + gdot id w a (x : Nat) (y : Nat)) (by omega) (by omega) (by omega) (by rw [Int.add_assoc]; exact h)
    refine Ev.step (f := fun k => (impl_GlyphOk.f k id w a).bind fun t => (if t = true then ((impl_GlyphDot.f k id w a (x : Nat) (y : Nat)).bind fun u => (impl_GlyphDots.l1 k (wrap64 (s + u)) y (wrap64 ((x : Int) + 1)) (a.length : Int) y id w a)) else (impl_GlyphDots.l0 k s (a.length : Int) (wrap64 ((y : Int) + 1)) id w a))) (fun k => ?_) (hO.bind (ev_pos rfl ((impl_GlyphDot_ev id w a (x : Nat) (y : Nat)).bind ?_)))
    · simp only [impl_GlyphDots.l1]
      rw [if_pos (by omega)]
    · rw [w64 (n := s + gdot id w a (x : Nat) (y : Nat)) (by omega) (by omega), wsucc (by omega)]
      exact ih
theorem impl_GDots_l0 (id w : Int) (a : List Int) (hg : glyph id w a) : ∀ (d y : Nat) (s : Int), y + d = a.length → 0 ≤ s → s ≤ 8 * y → Ev (fun k => impl_GlyphDots.l0 k s (a.length : Int) y id w a) (s + gallDots id w a d y)
  | 0, y, s, hd, h0, h1 => by
    refine Ev.step (f := fun _ => some s) (fun k => ?_) (by simp only [gallDots, Int.add_zero]; exact Ev.now _)
    simp only [impl_GlyphDots.l0]
    rw [if_neg (by omega)]
  | d + 1, y, s, hd, h0, h1 => by
    have h2 := growDots_in id w a y w.toNat 0
    have hw := hg.2.1
    have hl := hg.2.2.1
    refine Ev.step (f := fun k => impl_GlyphDots.l1 k s y 0 (a.length : Int) y id w a) (fun k => ?_) (impl_GDots_l1 id w _ a hg y (by omega) w.toNat 0 s (by omega) h0 (by omega) ?_)
    · simp only [impl_GlyphDots.l0]
      rw [if_pos (by omega)]
    · rw [wsucc (by omega)]
      simp only [gallDots]
      rw [← Int.add_assoc]
      exact impl_GDots_l0 id w a hg d (y + 1) (s + growDots id w a y w.toNat 0) (by omega) (by omega) (by omega)
theorem impl_GDots_no (id w : Int) (a : List Int) (hg : ¬ glyph id w a) (hn : a.length ≤ 1099511627776) : ∀ (d y : Nat), y + d = a.length → Ev (fun k => impl_GlyphDots.l0 k 0 (a.length : Int) y id w a) 0
  | 0, y, hd => by
    refine Ev.step (f := fun _ => some 0) (fun k => ?_) (Ev.now _)
    simp only [impl_GlyphDots.l0]
    rw [if_neg (by omega)]
  | d + 1, y, hd => by
    have ih := impl_GDots_no id w a hg hn d (y + 1) (by omega)
    rw [← wsucc (by omega)] at ih
    refine Ev.step (f := fun k => impl_GlyphDots.l1 k 0 y 0 (a.length : Int) y id w a) (fun k => ?_) ?_
    · simp only [impl_GlyphDots.l0]
      rw [if_pos (by omega)]
    · by_cases c : (0 : Int) < w
      · have hO := impl_GlyphOk_ev id w a
        rw [decide_eq_false hg] at hO
        refine Ev.step (f := fun k => (impl_GlyphOk.f k id w a).bind fun t => (if t = true then ((impl_GlyphDot.f k id w a 0 (y : Nat)).bind fun u => (impl_GlyphDots.l1 k (wrap64 (0 + u)) y (wrap64 ((0 : Int) + 1)) (a.length : Int) y id w a)) else (impl_GlyphDots.l0 k 0 (a.length : Int) (wrap64 ((y : Int) + 1)) id w a))) (fun k => ?_) (hO.bind (ev_neg (by simp) ih))
        simp only [impl_GlyphDots.l1]
        rw [if_pos c]
      · refine Ev.step (fun k => ?_) ih
        simp only [impl_GlyphDots.l1]
        rw [if_neg c]
theorem impl_GDots_ev (id w : Int) (a : List Int) (hn : a.length ≤ 1099511627776) : Ev (fun k => impl_GlyphDots.f k id w a) (gdots id w a) := by
  unfold impl_GlyphDots.f gdots
  by_cases hg : glyph id w a
  · rw [if_pos hg]
    have := impl_GDots_l0 id w a hg a.length 0 0 (by omega) (by omega) (by omega)
    rw [Int.zero_add] at this
    exact this
  · rw [if_neg hg]
    exact impl_GDots_no id w a hg hn a.length 0 (by omega)

/-- A row of the turned glyph from place x on, d places, behind acc: as the program reckons it. -/
def orRow (id w : Int) (a : List Int) (y : Nat) : Nat → Nat → Int → Int
  | 0, _, acc => acc
  | d + 1, x, acc => orRow id w a y d (x + 1) (Go.bits .or .i64 acc (shl .i64 (gdot id w a (y : Nat) ((a.length : Int) - 1 - (x : Nat))) (x : Nat)))
/-- The rows of the turned glyph from y on, d rows. -/
def orRows (id w : Int) (a : List Int) : Nat → Nat → List Int
  | 0, _ => []
  | d + 1, y => orRow id w a y a.length 0 0 :: orRows id w a d (y + 1)
theorem orRows_length (id w : Int) (a : List Int) : ∀ d y, (orRows id w a d y).length = d
  | 0, _ => rfl
  | d + 1, y => by simp [orRows, orRows_length id w a d]
/-- The turned glyph: id, width, rows, and whether there is one. -/
def turnedG (id w : Int) (a : List Int) : Int × Int × List Int × Bool := if glyph id w a then (id, (a.length : Int), orRows id w a w.toNat 0, true) else (0, 0, [], false)
theorem turnedG_length (id w : Int) (a : List Int) : (turnedG id w a).2.2.1.length ≤ 8 := by
  unfold turnedG
  split
  · rename_i h
    have := h.2.1
    simp only [orRows_length]
    omega
  · simp

theorem impl_TurnG_l1 (id w : Int) (a : List Int) (hg : glyph id w a) (R : Int × Int × List Int × Bool) (y : Nat) (acc : List Int) (hacc : acc.length ≤ 8) (p q : Int) :
    ∀ (d x : Nat) (s : Int), x + d = a.length → Ev (fun k => impl_TurnGlyph.l0 k (a.length : Int) (wrap64 ((y : Int) + 1)) id w a p q (acc ++ [orRow id w a y d x s])) R → Ev (fun k => impl_TurnGlyph.l1 k (a.length : Int) y s x id w a p q acc) R
  | 0, x, s, hd, h => by
    refine Ev.step (fun k => ?_) h
    simp only [impl_TurnGlyph.l1, orRow]
    rw [if_neg (by omega), if_pos (by omega)]
  | d + 1, x, s, hd, h => by
    have hl := hg.2.2.1
    have ih := impl_TurnG_l1 id w a hg R y acc hacc p q d (x + 1) (Go.bits .or .i64 s (shl .i64 (gdot id w a (y : Nat) ((a.length : Int) - 1 - (x : Nat))) (x : Nat))) (by omega) h
    have e : wrap64 ((wrap64 ((a.length : Int) - 1)) - (x : Int)) = (a.length : Int) - 1 - (x : Nat) := by
      rw [w64 (n := (a.length : Int) - 1) (by omega) (by omega), w64 (by omega) (by omega)]
    refine Ev.step (f := fun k => (impl_GlyphDot.f k id w a y ((a.length : Int) - 1 - (x : Nat))).bind fun t => (impl_TurnGlyph.l1 k (a.length : Int) y (Go.bits .or .i64 s (shl .i64 t x)) ((x + 1 : Nat) : Int) id w a p q acc)) (fun k => ?_) ((impl_GlyphDot_ev id w a y _).bind ih)
    simp only [impl_TurnGlyph.l1]
    rw [if_pos (by omega), e, wsucc (by omega)]
    simp only [show (0 : Int) ≤ (x : Int) by omega, if_true]
theorem impl_TurnG_l0 (id w : Int) (a : List Int) (hg : glyph id w a) (p q : Int) :
    ∀ (d y : Nat) (acc : List Int), (y : Int) + d = w → acc.length = y → Ev (fun k => impl_TurnGlyph.l0 k (a.length : Int) y id w a p q acc) (p, q, acc ++ orRows id w a d y, true)
  | 0, y, acc, hd, hl => by
    refine Ev.step (f := fun _ => some (p, q, acc, true)) (fun k => ?_) (by simp only [orRows, List.append_nil]; exact Ev.now _)
    simp only [impl_TurnGlyph.l0]
    rw [if_neg (by omega)]
  | d + 1, y, acc, hd, hl => by
    have hw := hg.2.1
    refine Ev.step (f := fun k => impl_TurnGlyph.l1 k (a.length : Int) y 0 0 id w a p q acc) (fun k => ?_) (impl_TurnG_l1 id w a hg _ y acc (by omega) p q a.length 0 0 (by omega) ?_)
    · simp only [impl_TurnGlyph.l0]
      rw [if_pos (by omega)]
    · rw [wsucc (by omega)]
      simp only [orRows]
      rw [show acc ++ orRow id w a y a.length 0 0 :: orRows id w a d (y + 1) = acc ++ [orRow id w a y a.length 0 0] ++ orRows id w a d (y + 1) by simp]
      exact impl_TurnG_l0 id w a hg p q d (y + 1) (acc ++ [orRow id w a y a.length 0 0]) (by omega) (by simp; omega)
theorem impl_TurnG_ev (id w : Int) (a : List Int) : Ev (fun k => impl_TurnGlyph.f k id w a) (turnedG id w a) := by
  unfold impl_TurnGlyph.f turnedG
  refine (impl_GlyphOk_ev id w a).bind ?_
  by_cases hg : glyph id w a
  · rw [if_pos (c := glyph id w a) hg]
    have := hg.2.1
    exact ev_pos (decide_eq_true hg) (impl_TurnG_l0 id w a hg id _ w.toNat 0 [] (by omega) rfl)
  · rw [if_neg (c := glyph id w a) hg]
    exact ev_neg (by simp [hg]) (Ev.now _)

/-- f 0 + .. + f (n - 1). -/
def S (f : Nat → Int) : Nat → Int
  | 0 => 0
  | n + 1 => S f n + f n
theorem S_congr {f g : Nat → Int} : ∀ {n : Nat}, (∀ i, i < n → f i = g i) → S f n = S g n
  | 0, _ => rfl
  | n + 1, h => by
    simp only [S]
    rw [S_congr (fun i hi => h i (by omega)), h n (by omega)]
theorem S_shift (f : Nat → Int) : ∀ n : Nat, S f (n + 1) = f 0 + S (fun i => f (i + 1)) n
  | 0 => by simp [S]
  | n + 1 => by
    rw [S, S_shift f n]
    simp only [S]
    omega
theorem S_rev (f : Nat → Int) : ∀ n : Nat, S (fun i => f (n - 1 - i)) n = S f n
  | 0 => rfl
  | n + 1 => by
    rw [S_shift, S, Int.add_comm, show n + 1 - 1 - 0 = n by omega]
    congr 1
    rw [← S_rev f n]
    exact S_congr fun i _ => by rw [show n + 1 - 1 - (i + 1) = n - 1 - i by omega]
theorem S_add (f g : Nat → Int) : ∀ n : Nat, S (fun i => f i + g i) n = S f n + S g n
  | 0 => rfl
  | n + 1 => by
    simp only [S]
    rw [S_add f g n]
    omega
theorem S_zero : ∀ n : Nat, S (fun _ => 0) n = 0
  | 0 => rfl
  | n + 1 => by
    simp only [S]
    rw [S_zero n]
    rfl
theorem S_swap (F : Nat → Nat → Int) (m : Nat) : ∀ n : Nat, S (fun y => S (fun x => F x y) m) n = S (fun x => S (fun y => F x y) n) m
  | 0 => by
    simp only [S]
    rw [S_zero]
  | n + 1 => by
    simp only [S]
    rw [S_swap F m n, S_add]
theorem S_le {f g : Nat → Int} : ∀ {n : Nat}, (∀ i, i < n → f i ≤ g i) → S f n ≤ S g n
  | 0, _ => Int.le_refl _
  | n + 1, h => by
    simp only [S]
    have := S_le (n := n) (fun i hi => h i (by omega))
    have := h n (by omega)
    omega

/-- The number whose bits f tells. -/
def bsum (f : Nat → Int) : Nat → Int
  | 0 => 0
  | n + 1 => bsum f n + f n * 2 ^ n
theorem two_pos (n : Nat) : (0 : Int) < 2 ^ n := Int.pow_pos (by omega)
theorem bsum_in {f : Nat → Int} : ∀ {n : Nat}, (∀ i, i < n → 0 ≤ f i ∧ f i ≤ 1) → 0 ≤ bsum f n ∧ bsum f n < 2 ^ n
  | 0, _ => by simp [bsum]
  | n + 1, h => by
    have h1 := bsum_in (n := n) (fun i hi => h i (by omega))
    have h2 := h n (by omega)
    have h3 := two_pos n
    have h4 : f n * 2 ^ n = 0 ∨ f n * 2 ^ n = 2 ^ n := by
      rcases (show f n = 0 ∨ f n = 1 by omega) with e | e
      · rw [e]
        simp
      · rw [e]
        simp
    rw [Int.pow_succ]
    simp only [bsum]
    omega
theorem bsum_congr {f g : Nat → Int} : ∀ {n : Nat}, (∀ i, i < n → f i = g i) → bsum f n = bsum g n
  | 0, _ => rfl
  | n + 1, h => by
    simp only [bsum]
    rw [bsum_congr (fun i hi => h i (by omega)), h n (by omega)]
theorem bsum_bit {f : Nat → Int} {x : Nat} : ∀ {n : Nat}, (∀ i, i < n → 0 ≤ f i ∧ f i ≤ 1) → x < n → bsum f n / 2 ^ x % 2 = f x
  | 0, _, hx => by omega
  | n + 1, h, hx => by
    have hp := two_pos x
    simp only [bsum]
    by_cases e : x = n
    · subst e
      have h1 := bsum_in (n := x) (fun i hi => h i (by omega))
      have h2 := h x (by omega)
      rw [Int.add_mul_ediv_right _ _ (by omega), Int.ediv_eq_zero_of_lt h1.1 h1.2]
      omega
    · have ih := bsum_bit (n := n) (x := x) (fun i hi => h i (by omega)) (by omega)
      have e2 : f n * 2 ^ n = (f n * 2 ^ (n - x - 1) * 2) * 2 ^ x := by
        have : (2 : Int) ^ n = 2 ^ (n - x - 1) * 2 * 2 ^ x := by
          rw [← Int.pow_succ, ← Int.pow_add]
          congr 1
          omega
        rw [this]
        simp only [Int.mul_assoc]
      rw [e2, Int.add_mul_ediv_right _ _ (by omega)]
      omega
theorem bsum_of (r : Int) (h : 0 ≤ r) : ∀ n : Nat, bsum (fun i => r / 2 ^ i % 2) n = r % 2 ^ n
  | 0 => by simp [bsum]
  | n + 1 => by
    simp only [bsum]
    rw [bsum_of r h n]
    obtain ⟨m, rfl⟩ : ∃ m : Nat, r = m := ⟨r.toNat, by omega⟩
    have := Nat.mod_pow_succ (x := m) (b := 2) (k := n)
    have e : (m : Int) % 2 ^ (n + 1) = ((m % 2 ^ (n + 1) : Nat) : Int) := by simp
    rw [e, this]
    simp [Int.mul_comm]

theorem top_eq : ∀ n : Nat, n < 9 → topRow (n : Int) = 2 ^ n - 1 := by decide +kernel
theorem shl_one : ∀ n : Nat, n < 9 → shl .i64 1 (n : Int) = 2 ^ n := by decide +kernel
theorem or_step : ∀ x : Nat, x < 8 → ∀ a : Nat, a < 2 ^ x → ∀ b : Nat, b < 2 → Go.bits .or .i64 (a : Int) (shl .i64 (b : Int) (x : Int)) = (a : Int) + (b : Int) * 2 ^ x := by decide +kernel
theorem gdot_eq {id : Int} {w : Nat} {a : List Int} (hg : glyph id w a) {x y : Nat} (hx : x < w) (hy : y < a.length) : gdot id w a x y = rd a y / 2 ^ x % 2 := by
  have hw := hg.2.1
  unfold gdot
  rw [if_pos ⟨hg, by omega, by omega⟩, and1]
  unfold shr
  rw [Int.toNat_natCast, Nat.min_eq_left (show x ≤ IntKind.bits .i64 from by show x ≤ 64; omega)]
theorem orRow_eq {id : Int} {w : Nat} {a : List Int} (hl : a.length ≤ 8) (y : Nat) : ∀ d x : Nat, x + d = a.length → orRow id w a y d x (bsum (fun i => gdot id w a (y : Nat) ((a.length - 1 - i : Nat) : Int)) x) = bsum (fun i => gdot id w a (y : Nat) ((a.length - 1 - i : Nat) : Int)) a.length
  | 0, x, h => by
    obtain rfl : x = a.length := by omega
    rfl
  | d + 1, x, h => by
    have hb := bsum_in (f := fun i => gdot id w a (y : Nat) ((a.length - 1 - i : Nat) : Int)) (n := x) (fun i _ => gdot_in _ _ _ _ _)
    have hd := gdot_in id w a (y : Nat) ((a.length - 1 - x : Nat) : Int)
    have ih := orRow_eq (id := id) (w := w) hl y d (x + 1) (by omega)
    have hstep := or_step x (by omega) (bsum (fun i => gdot id w a (y : Nat) ((a.length - 1 - i : Nat) : Int)) x).toNat (by
      have : ((bsum (fun i => gdot id w a (y : Nat) ((a.length - 1 - i : Nat) : Int)) x).toNat : Int) < ((2 ^ x : Nat) : Int) := by
        rw [Int.toNat_of_nonneg hb.1]
        simpa using hb.2
      exact_mod_cast this) (gdot id w a (y : Nat) ((a.length - 1 - x : Nat) : Int)).toNat (by omega)
    rw [Int.toNat_of_nonneg hb.1, Int.toNat_of_nonneg hd.1] at hstep
    simp only [orRow]
    rw [show (a.length : Int) - 1 - (x : Nat) = ((a.length - 1 - x : Nat) : Int) by omega, hstep]
    exact ih
theorem rd_orRows (id w : Int) (a : List Int) : ∀ (d y j : Nat), j < d → rd (orRows id w a d y) j = orRow id w a (y + j) a.length 0 0
  | 0, y, j, h => by omega
  | d + 1, y, 0, h => rfl
  | d + 1, y, j + 1, h => by
    have ih := rd_orRows id w a d (y + 1) j (by omega)
    rw [show y + (j + 1) = y + 1 + j by omega, ← ih, rd_nat, rd_nat]
    rfl
/-- What a turn does: a right glyph, whose dots are those of the elder, turned. -/
theorem turn_ok {id : Int} {w : Nat} {a : List Int} (hg : glyph id w a) : glyph id (a.length : Nat) (orRows id w a w 0) ∧ ∀ x y : Nat, x < a.length → y < w → gdot id (a.length : Nat) (orRows id w a w 0) x y = gdot id w a y ((a.length - 1 - x : Nat) : Int) := by
  have hw := hg.2.1
  have hl := hg.2.2.1
  have row : ∀ y : Nat, y < w → rd (orRows id w a w 0) y = bsum (fun i => gdot id w a (y : Nat) ((a.length - 1 - i : Nat) : Int)) a.length := by
    intro y hy
    rw [rd_orRows id w a w 0 y hy, Nat.zero_add]
    exact orRow_eq (by omega) y a.length 0 (by omega)
  have len := orRows_length id w a w 0
  have ok : glyph id (a.length : Nat) (orRows id w a w 0) := by
    refine ⟨hg.1, hl, by rw [len]; exact hw, fun y hy => ?_⟩
    rw [len] at hy
    rw [row y hy, top_eq a.length (by omega)]
    have := bsum_in (f := fun i => gdot id w a (y : Nat) ((a.length - 1 - i : Nat) : Int)) (n := a.length) (fun i _ => gdot_in _ _ _ _ _)
    omega
  refine ⟨ok, fun x y hx hy => ?_⟩
  rw [gdot_eq ok hx (by rw [len]; exact hy), row y hy]
  exact bsum_bit (fun i _ => gdot_in _ _ _ _ _) hx
theorem growDots_eq (id w : Int) (a : List Int) (y : Nat) : ∀ d x : Nat, growDots id w a y d x = S (fun i => gdot id w a ((x + i : Nat) : Int) (y : Nat)) d
  | 0, x => rfl
  | d + 1, x => by
    rw [growDots, growDots_eq id w a y d (x + 1), S_shift]
    congr 1
    exact S_congr fun i _ => by rw [show x + 1 + i = x + (i + 1) by omega]
theorem gallDots_eq (id w : Int) (a : List Int) : ∀ d y : Nat, gallDots id w a d y = S (fun j => S (fun i => gdot id w a (i : Nat) ((y + j : Nat) : Int)) w.toNat) d
  | 0, y => rfl
  | d + 1, y => by
    rw [gallDots, gallDots_eq id w a d (y + 1), S_shift, growDots_eq]
    congr 1
    · exact S_congr fun i _ => by rw [Nat.zero_add]; rfl
    · exact S_congr fun j _ => by rw [show y + 1 + j = y + (j + 1) by omega]
theorem gdots_eq {id : Int} {w : Nat} {a : List Int} (hg : glyph id w a) : gdots id w a = S (fun y => S (fun x => gdot id w a (x : Nat) (y : Nat)) w) a.length := by
  unfold gdots
  rw [if_pos hg, gallDots_eq, Int.toNat_natCast]
  exact S_congr fun j _ => by rw [Nat.zero_add]
theorem turn_dots {id : Int} {w : Nat} {a : List Int} (hg : glyph id w a) : gdots id (a.length : Nat) (orRows id w a w 0) = gdots id w a := by
  obtain ⟨ok, hd⟩ := turn_ok hg
  rw [gdots_eq ok, gdots_eq hg, orRows_length]
  have e1 : S (fun y => S (fun x => gdot id (a.length : Nat) (orRows id w a w 0) (x : Nat) (y : Nat)) a.length) w = S (fun y => S (fun x => gdot id w a (y : Nat) (x : Nat)) a.length) w := by
    refine S_congr fun y hy => ?_
    rw [← S_rev (fun x => gdot id w a (y : Nat) (x : Nat)) a.length]
    exact S_congr fun x hx => hd x y hx hy
  rw [e1]
  exact S_swap (fun x y => gdot id w a (y : Nat) (x : Nat)) a.length w
/-- Two right glyphs of one size with the same dots have the same rows. -/
theorem rows_eq {id : Int} {w : Nat} {a b : List Int} (ha : glyph id w a) (hb : glyph id w b) (hl : a.length = b.length) (h : ∀ x y : Nat, x < w → y < a.length → gdot id w a x y = gdot id w b x y) : a = b := by
  have hw := ha.2.1
  have row : ∀ {c : List Int}, glyph id w c → ∀ y : Nat, y < c.length → rd c y = bsum (fun i => rd c y / 2 ^ i % 2) w := by
    intro c hc y hy
    have hr := hc.2.2.2 y hy
    rw [top_eq w (by omega)] at hr
    rw [bsum_of _ hr.1, Int.emod_eq_of_lt hr.1 (by omega)]
  refine List.ext_getElem hl fun y h1 h2 => ?_
  have e : rd a y = rd b y := by
    rw [row ha y h1, row hb y h2]
    refine bsum_congr fun i hi => ?_
    rw [← gdot_eq ha hi h1, ← gdot_eq hb hi h2]
    exact h i y hi h1
  rw [rd_nat, rd_nat, List.getD_eq_getElem?_getD, List.getD_eq_getElem?_getD, List.getElem?_eq_getElem h1, List.getElem?_eq_getElem h2] at e
  exact e

theorem and255 (n : Int) : Go.bits .and .i64 n 255 = n % 256 := by
  have h255 : (BitVec.ofInt 64 255).toNat = 2 ^ 8 - 1 := by decide
  have key : (BitVec.ofInt 64 n &&& BitVec.ofInt 64 255).toNat = (n % ((2 ^ 64 : Nat) : Int)).toNat % 2 ^ 8 := by
    rw [BitVec.toNat_and, BitVec.toNat_ofInt, h255, Nat.and_two_pow_sub_one_eq_mod]
  show IntKind.i64.wrap ((BitVec.ofInt 64 n &&& BitVec.ofInt 64 255).toNat : Nat) = n % 256
  rw [key, IntKind.wrap_i64]
  omega
theorem l01New_l0 (l : List Int) (hn : l.length ≤ 1099511627776) : ∀ d i : Nat, i + d = l.length → ∀ h : Int, ∃ h', Ev (fun k => spec_l01New.l0 k l h i) (l, 0, h')
  | 0, i, hd, h => by
    refine ⟨h, Ev.step (f := fun _ => some (l, 0, h)) (fun k => ?_) (Ev.now _)⟩
    simp only [spec_l01New.l0]
    rw [if_neg (by omega)]
  | d + 1, i, hd, h => by
    by_cases c : (i : Int) < 4000
    · obtain ⟨h', e⟩ := l01New_l0 l hn d (i + 1) (by omega) (Go.bits .and .i64 (wrap64 ((wrap64 ((wrap64 (h * 131)) + (wrap64 (rd l i)))) + 7)) 1073741823)
      refine ⟨h', Ev.step (fun k => ?_) e⟩
      simp only [spec_l01New.l0]
      rw [if_pos (by omega), if_pos c, if_pos (by omega), wsucc (by omega)]
    · refine ⟨h, Ev.step (f := fun _ => some (l, 0, h)) (fun k => ?_) (Ev.now _)⟩
      simp only [spec_l01New.l0]
      rw [if_pos (by omega), if_neg c]
theorem l01New_ev (l : List Int) (hn : l.length ≤ 1099511627776) : ∃ h, Ev (fun k => spec_l01New.f k l) (l, 0, h) :=
  l01New_l0 l hn l.length 0 (by omega) _
/-- A cursor that can be read from. -/
def cur (l : List Int) (i : Int) : Prop := l.length ≤ 1099511627776 ∧ 0 ≤ i
theorem l01Byte_ex {l : List Int} {i : Int} (h : Int) (hc : cur l i) : ∃ x i' h', spec_l01Byte.f l i h = some (x, i', h') ∧ cur l i' ∧ 0 ≤ x ∧ x ≤ 255 := by
  obtain ⟨hl, h0⟩ := hc
  unfold spec_l01Byte.f
  by_cases c : i < (l.length : Int)
  · rw [if_pos c, if_pos h0, w64 (n := i + 1) (by omega) (by omega)]
    refine ⟨_, _, _, rfl, ⟨hl, by omega⟩, ?_⟩
    simp only [and255]
    omega
  · rw [if_neg c]
    refine ⟨_, _, _, rfl, ⟨hl, h0⟩, ?_⟩
    simp only [and255]
    omega

theorem l01Below_ex {l : List Int} {i : Int} (h : Int) (hc : cur l i) {n : Int} (hn : 0 < n) (hn2 : n ≤ 1000000) : ∃ x i' h', spec_l01Below.f l i h n = some (x, i', h') ∧ cur l i' ∧ 0 ≤ x ∧ x < n := by
  unfold spec_l01Below.f
  rw [if_neg (by omega)]
  by_cases c : n ≤ 256
  · rw [if_pos c]
    obtain ⟨x, i1, h1, e, hc1, b0, b1⟩ := l01Byte_ex h hc
    rw [e]
    simp only [Option.bind_some]
    rw [if_neg (by omega), tm b0]
    exact ⟨_, _, _, rfl, hc1, Int.emod_nonneg _ (by omega), Int.emod_lt_of_pos _ hn⟩
  · rw [if_neg c]
    obtain ⟨x, i1, h1, e1, hc1, b0, b1⟩ := l01Byte_ex h hc
    rw [e1]
    simp only [Option.bind_some]
    obtain ⟨y, i2, h2, e2, hc2, c0, c1⟩ := l01Byte_ex h1 hc1
    rw [e2]
    simp only [Option.bind_some]
    obtain ⟨z, i3, h3, e3, hc3, d0, d1⟩ := l01Byte_ex h2 hc2
    rw [e3]
    simp only [Option.bind_some]
    obtain ⟨u, i4, h4, e4, hc4, f0, f1⟩ := l01Byte_ex h3 hc3
    rw [e4]
    simp only [Option.bind_some]
    rw [if_neg (by omega), w64 (n := x * 16777216) (by omega) (by omega), w64 (n := y * 65536) (by omega) (by omega), w64 (n := z * 256) (by omega) (by omega), w64 (n := x * 16777216 + y * 65536) (by omega) (by omega), w64 (n := x * 16777216 + y * 65536 + z * 256) (by omega) (by omega), w64 (n := x * 16777216 + y * 65536 + z * 256 + u) (by omega) (by omega), tm (by omega)]
    exact ⟨_, _, _, rfl, hc4, Int.emod_nonneg _ (by omega), Int.emod_lt_of_pos _ hn⟩

theorem rd_mem (l : List Int) (i : Nat) (h : i < l.length) : rd l i ∈ l := by
  rw [rd_nat, List.getD_eq_getElem?_getD, List.getElem?_eq_getElem h]
  simp
theorem l24Glyph_l0 (l : List Int) (id : Int) (w m : Nat) (hw : 1 ≤ w ∧ w ≤ 8) (hm : m ≤ 8) : ∀ (d n : Nat) (ps : List Int) (i h : Int), n + d = m → cur l i → ps.length = n → (∀ x ∈ ps, 0 ≤ x ∧ x < 2 ^ w) →
    ∃ r i' h', Ev (fun k => spec_l24Glyph.l0 k m n l i h id w ps) (id, (w : Int), r, i', h') ∧ r.length = m ∧ (∀ x ∈ r, 0 ≤ x ∧ x < 2 ^ w)
  | 0, n, ps, i, h, hd, hc, hl, hp => by
    refine ⟨ps, i, h, Ev.step (f := fun _ => some (id, (w : Int), ps, i, h)) (fun k => ?_) (Ev.now _), by omega, hp⟩
    simp only [spec_l24Glyph.l0]
    rw [if_neg (by omega)]
  | d + 1, n, ps, i, h, hd, hc, hl, hp => by
    have h2 := two_pos w
    have h3 : (2 : Int) ^ w ≤ 256 := by
      have : ∀ n : Nat, n < 9 → (2 : Int) ^ n ≤ 256 := by decide
      exact this w (by omega)
    obtain ⟨x, i1, h1, e, hc1, b0, b1⟩ := l01Below_ex h hc (n := 2 ^ w) h2 (by omega)
    obtain ⟨r, i2, h2, e2, e3⟩ := l24Glyph_l0 l id w m hw hm d (n + 1) (ps ++ [x]) i1 h1 (by omega) hc1 (by simp; omega) (fun y hy => by
      rcases List.mem_append.1 hy with hy | hy
      · exact hp y hy
      · rw [List.mem_singleton.1 hy]
        exact ⟨b0, b1⟩)
    refine ⟨r, i2, h2, Ev.step (fun k => ?_) e2, e3⟩
    simp only [spec_l24Glyph.l0]
    rw [if_pos (by omega), if_pos (by omega), shl_one w (by omega), e]
    simp only [Option.bind_some]
    rw [if_pos (by omega), wsucc (by omega)]
theorem drawGlyph_ev (l : List Int) (hn : l.length ≤ 1099511627776) : ∃ (id : Int) (w : Nat) (a : List Int), Ev (fun k => spec_DrawGlyph.f k l) (id, (w : Int), a) ∧ glyph id w a ∧ w ≤ 6 ∧ a.length ≤ 6 := by
  obtain ⟨h, e⟩ := l01New_ev l hn
  obtain ⟨id, i1, h1, e1, c1, a0, a1⟩ := l01Below_ex (l := l) (i := 0) h ⟨hn, by omega⟩ (n := 6) (by omega) (by omega)
  obtain ⟨w, i2, h2, e2, c2, w0, w1⟩ := l01Below_ex h1 c1 (n := 6) (by omega) (by omega)
  obtain ⟨m, i3, h3, e3, c3, m0, m1⟩ := l01Below_ex h2 c2 (n := 6) (by omega) (by omega)
  obtain ⟨r, i4, h4, e4, hl, hr⟩ := l24Glyph_l0 l id (1 + w).toNat (1 + m).toNat (by omega) (by omega) (1 + m).toNat 0 [] i3 h3 (by omega) c3 rfl (by simp)
  refine ⟨id, (1 + w).toNat, r, ?_, ⟨by omega, by omega, by omega, fun i hi => ?_⟩, by omega, by omega⟩
  · unfold spec_DrawGlyph.f
    refine e.bind (Ev.bind (a := (id, ((1 + w).toNat : Int), r, i4, h4)) ?_ (Ev.now _))
    unfold spec_l24Glyph.f
    refine ev_eq e1 (ev_eq e2 (ev_eq e3 ?_))
    rw [w64 (n := 1 + m) (by omega) (by omega), w64 (n := 1 + w) (by omega) (by omega)]
    have q1 : ((1 + m).toNat : Int) = 1 + m := by omega
    have q2 : ((1 + w).toNat : Int) = 1 + w := by omega
    rw [q1, q2] at e4
    rw [q2]
    exact e4
  · have := hr _ (rd_mem r i hi)
    rw [top_eq _ (by omega)]
    omega

theorem sameInts_l0 (a : List Int) (hn : a.length ≤ 1099511627776) :
    ∀ d i : Nat, i + d = a.length → Ev (fun k => laws_sameInts.l0 k a a i) true
  | 0, i, h => by
    refine Ev.step (f := fun _ => some true) (fun k => ?_) (Ev.now _)
    simp only [laws_sameInts.l0]
    rw [if_neg (by omega)]
  | d + 1, i, h => by
    refine Ev.step (f := fun k => laws_sameInts.l0 k a a ((i + 1 : Nat) : Int)) (fun k => ?_) (sameInts_l0 a hn d (i + 1) (by omega))
    simp only [laws_sameInts.l0]
    rw [if_pos (by omega), if_pos (by omega), if_pos (by omega), if_pos trivial, wsucc (by omega)]
theorem sameInts_ev (a : List Int) (hn : a.length ≤ 1099511627776) : Ev (fun k => laws_sameInts.f k a a) true := by
  unfold laws_sameInts.f
  exact ev_pos rfl (sameInts_l0 a hn a.length 0 (by omega))

theorem glyphs_step (id : Int) (w w0 : Nat) (a a0 : List Int) (hg : glyph id w a) (n : Int) (hn : gdots id w a = n) (i : Nat) (hi : i < 4)
    (h : Ev (fun k => laws_FnGlyphs.l0 k n ((i + 1 : Nat) : Int) id w0 a0 id (a.length : Nat) (orRows id w a w 0)) true) :
    Ev (fun k => laws_FnGlyphs.l0 k n i id w0 a0 id w a) true := by
  obtain ⟨ok, _⟩ := turn_ok hg
  have ht := impl_TurnG_ev id w a
  unfold turnedG at ht
  rw [if_pos hg, Int.toNat_natCast] at ht
  have hO := impl_GlyphOk_ev id (a.length : Nat) (orRows id w a w 0)
  rw [decide_eq_true ok] at hO
  have hD := impl_GDots_ev id (a.length : Nat) (orRows id w a w 0) (by rw [orRows_length]; have := hg.2.1; omega)
  rw [turn_dots hg, hn] at hD
  refine Ev.step (f := fun k => (impl_TurnGlyph.f k id w a).bind fun bt => (if bt.2.2.2 = true then ((impl_GlyphOk.f k bt.1 bt.2.1 bt.2.2.1).bind fun t => (if t = true then ((impl_GlyphDots.f k bt.1 bt.2.1 bt.2.2.1).bind fun u => (if u = n then (if bt.2.1 = (a.length : Int) then (laws_FnGlyphs.l0 k n ((i + 1 : Nat) : Int) id w0 a0 bt.1 bt.2.1 bt.2.2.1) else (some false)) else (some false))) else (some false))) else (some false))) (fun k => ?_) (ht.bind (ev_pos rfl (hO.bind (ev_pos rfl (hD.bind (ev_pos rfl (ev_pos rfl h)))))))
  simp only [laws_FnGlyphs.l0]
  rw [if_pos (by omega), wsucc (by omega)]
theorem FnGlyphs : laws_FnGlyphs.Pure := by
  intro l hm hb hw
  refine Ev.rounds ?_
  unfold laws_FnGlyphs.f
  refine ev_eq (g := laws_big.f l) rfl ?_
  by_cases hl : (l.length : Int) > 1048576
  · exact ev_pos (decide_eq_true hl) (Ev.now _)
  refine ev_neg (by simpa using hl) ?_
  obtain ⟨id, w, a, ed, hg, _, _⟩ := drawGlyph_ev l (by omega)
  have hL := hg.2.2.1
  refine ed.bind ((impl_GDots_ev id w a (by omega)).bind ?_)
  obtain ⟨ok1, d1⟩ := turn_ok hg
  have n1 := turn_dots hg
  generalize ha1 : orRows id w a w 0 = a1 at *
  have l1 : a1.length = w := by rw [← ha1]; exact orRows_length _ _ _ _ _
  obtain ⟨ok2, d2⟩ := turn_ok ok1
  have n2 := turn_dots ok1
  generalize ha2 : orRows id (a.length : Nat) a1 a.length 0 = a2 at *
  have l2 : a2.length = a.length := by rw [← ha2]; exact orRows_length _ _ _ _ _
  rw [l1] at ok2 d2 n2
  obtain ⟨ok3, d3⟩ := turn_ok ok2
  have n3 := turn_dots ok2
  generalize ha3 : orRows id (w : Nat) a2 w 0 = a3 at *
  have l3 : a3.length = w := by rw [← ha3]; exact orRows_length _ _ _ _ _
  rw [l2] at ok3 d3 n3
  obtain ⟨ok4, d4⟩ := turn_ok ok3
  generalize ha4 : orRows id (a.length : Nat) a3 a.length 0 = a4 at *
  have l4 : a4.length = a.length := by rw [← ha4]; exact orRows_length _ _ _ _ _
  rw [l3] at ok4 d4
  have same : a4 = a := by
    refine rows_eq ok4 hg l4 fun x y hx hy => ?_
    rw [d4 x y hx (by omega), d3 y (w - 1 - x) (by omega) (by omega), d2 (w - 1 - x) (a.length - 1 - y) (by omega) (by omega), show w - 1 - (w - 1 - x) = x by omega, d1 (a.length - 1 - y) x (by omega) (by omega), show a.length - 1 - (a.length - 1 - y) = y by omega]
  refine glyphs_step id w w a a hg _ rfl 0 (by omega) ?_
  rw [ha1]
  refine glyphs_step id a.length w a1 a ok1 _ n1 1 (by omega) ?_
  rw [ha2, l1]
  refine glyphs_step id w w a2 a ok2 _ (n2.trans n1) 2 (by omega) ?_
  rw [ha3, l2]
  refine glyphs_step id a.length w a3 a ok3 _ (n3.trans (n2.trans n1)) 3 (by omega) ?_
  rw [ha4, l3, same]
  refine Ev.step (f := fun k => if (w : Int) = (w : Int) then ((laws_sameInts.f k a a).bind fun t182 => (if t182 = true then (some (id == id)) else (some false))) else (some false)) (fun k => ?_) (ev_pos rfl ((sameInts_ev a (by omega)).bind (ev_pos rfl (by rw [beq_self_eq_true]; exact Ev.now _))))
  simp only [laws_FnGlyphs.l0]
  rw [if_neg (by omega)]

end Go.Proofs.Ytcjkndcmeedneaa.Pure
