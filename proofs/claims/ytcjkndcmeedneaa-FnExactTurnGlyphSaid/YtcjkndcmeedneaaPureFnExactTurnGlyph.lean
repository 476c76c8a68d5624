/-
  The program's TurnGlyph gives the reference's glyph and answer for every glyph, in memory of its own, and leaves the glyph as it was.
-/
import Derived.Test.YtcjkndcmeedneaaPFnExactTurnGlyphx4
import Derived.Test.YtcjkndcmeedneaaWSized
import Derived.Test.YtcjkndcmeedneaaOpenFnExactTurnGlyph
namespace Go.Proofs.Ytcjkndcmeedneaa.Pure
open Go.RowKit Go.Proofs.Ytcjkndcmeedneaa.PFnExactTurnGlyph Go.Proofs.YtcjkndcmeedneaaW.PrintWords Go.Proofs.YtcjkndcmeedneaaW.PrintLast Go.Proofs.YtcjkndcmeedneaaW.PrintMore Go.Proofs.Ytcjkndcmeedneaa.OpenFnExactTurnGlyph
set_option linter.unusedVariables false
set_option linter.unusedSimpArgs false

theorem w64 {n : Int} (h1 : -9223372036854775808 ≤ n) (h2 : n ≤ 9223372036854775807) : wrap64 n = n := by
  unfold wrap64
  omega
theorem wsucc {i : Nat} (h : i ≤ 1099511627776) : wrap64 ((i : Int) + 1) = ((i + 1 : Nat) : Int) := by
  rw [w64 (by omega) (by omega)]
  omega
theorem rd_nat (l : List Int) (i : Nat) : rd l (i : Int) = l.getD i 0 := by simp [rd]
theorem getD_drop (l : List Int) (i : Nat) (h : i < l.length) : l.drop i = l.getD i 0 :: l.drop (i + 1) := by
  rw [List.drop_eq_getElem_cons h]
  simp [List.getD_eq_getElem?_getD, List.getElem?_eq_getElem h]
theorem getD_take (l : List Int) (i : Nat) (h : i < l.length) : l.take (i + 1) = l.take i ++ [l.getD i 0] := by
  rw [List.take_succ_eq_append_getElem h]
  simp [List.getD_eq_getElem?_getD, List.getElem?_eq_getElem h]
theorem set_mid (p q : List Int) (u v : Int) (i : Nat) (h : p.length = i) : (p ++ u :: q).set i v = p ++ v :: q := by
  subst h
  simp [List.set_append_right]
theorem bind_id {α : Type} {g : Nat → Option α} {r : α} (h : Ev g r) : Ev (fun n => (g n).bind fun x => some x) r := by
  obtain ⟨K, h⟩ := h
  exact ⟨K, fun k hk => by simp [h k hk]⟩
theorem ev_pos {α : Type} {c : Prop} [Decidable c] {f g : Nat → Option α} {r : α} (h : c) (k : Ev f r) : Ev (fun n => if c then f n else g n) r := Ev.congr (fun n => if_pos h) k
theorem ev_neg {α : Type} {c : Prop} [Decidable c] {f g : Nat → Option α} {r : α} (h : ¬ c) (k : Ev g r) : Ev (fun n => if c then f n else g n) r := Ev.congr (fun n => if_neg h) k
theorem ev_eq {α β : Type} {g : Option α} {f : Nat → α → Option β} {a : α} {r : β} (h : g = some a) (k : Ev (fun n => f n a) r) : Ev (fun n => g.bind (f n)) r := by
  subst h
  exact k
theorem td {v : Int} (h : 0 ≤ v) (c : Int) : Int.tdiv v c = v / c := Int.tdiv_eq_ediv_of_nonneg h
theorem tm {v : Int} (h : 0 ≤ v) (c : Int) : Int.tmod v c = v % c := Int.tmod_eq_emod_of_nonneg h

theorem eqIntS_l0 (a : List Int) (hn : a.length ≤ 1099511627776) :
    ∀ d i : Nat, i + d = a.length → Ev (fun k => laws_eqIntS.l0 k a a i) true
  | 0, i, h => by
    refine Ev.step (f := fun _ => some true) (fun k => ?_) (Ev.now _)
    simp only [laws_eqIntS.l0]
    rw [if_neg (by omega)]
  | d + 1, i, h => by
    refine Ev.step (f := fun k => laws_eqIntS.l0 k a a ((i + 1 : Nat) : Int)) (fun k => ?_) (eqIntS_l0 a hn d (i + 1) (by omega))
    simp only [laws_eqIntS.l0]
    rw [if_pos (by omega), if_pos (by omega), if_pos (by omega), if_pos trivial, wsucc (by omega)]
theorem eqIntS_ev (a : List Int) (hn : a.length ≤ 1099511627776) : Ev (fun k => laws_eqIntS.f k a a) true := by
  refine Ev.congr (f := fun k => laws_eqIntS.l0 k a a 0) (fun k => ?_) (eqIntS_l0 a hn a.length 0 (by omega))
  unfold laws_eqIntS.f
  rw [if_pos rfl]

theorem toIntS_l0 (a : List Int) (hn : a.length ≤ 1099511627776) :
    ∀ d i : Nat, i + d = a.length → Ev (fun k => laws_toIntS.l0 k a (a.take i ++ List.replicate d 0) i) a
  | 0, i, h => by
    refine Ev.step (f := fun _ => some a) (fun k => ?_) (Ev.now _)
    simp only [laws_toIntS.l0]
    rw [if_neg (by omega)]
    simp [List.take_of_length_le (show a.length ≤ i by omega)]
  | d + 1, i, h => by
    refine Ev.step (f := fun k => laws_toIntS.l0 k a (a.take (i + 1) ++ List.replicate d 0) ((i + 1 : Nat) : Int)) (fun k => ?_) (toIntS_l0 a hn d (i + 1) (by omega))
    simp only [laws_toIntS.l0]
    rw [if_pos (by omega), if_pos (by omega), if_pos (by simp; omega), wsucc (by omega), rd_nat, List.replicate_succ, Int.toNat_natCast, set_mid _ _ _ _ _ (by simp; omega), getD_take a i (by omega)]
    simp
theorem toIntS_ev (a : List Int) (hn : a.length ≤ 1099511627776) : Ev (fun k => laws_toIntS.f k a) a := by
  refine Ev.congr (f := fun k => laws_toIntS.l0 k a (a.take 0 ++ List.replicate a.length 0) 0) (fun k => ?_) (toIntS_l0 a hn a.length 0 (by omega))
  unfold laws_toIntS.f
  rw [if_pos (by omega), if_pos (by omega)]
  simp

theorem szGlyph_eq (id w : Int) (a : List Int) (h : a.length ≤ 9223372036854775807) : laws_szGlyph.f id w a 1048576 = some (if (a.length : Int) > 1048576 then -1 else 1048576 - (a.length : Int)) := by
  unfold laws_szGlyph.f laws_szIntS.f
  rw [w64 (by omega) (by omega)]
  by_cases c : (a.length : Int) > 1048576
  · rw [if_pos (by omega), if_pos c]
    simp
  · rw [if_neg (by omega), if_neg c]
    simp only [Option.bind_some]
    rw [if_neg (by omega)]
theorem toGlyph_ev (id w : Int) (a : List Int) (hn : a.length ≤ 1099511627776) : Ev (fun k => laws_toGlyph.f k id w a) (id, w, a) := by
  unfold laws_toGlyph.f
  exact (toIntS_ev a hn).bind (Ev.now _)
theorem eqGlyph_ev (id w : Int) (a : List Int) (hn : a.length ≤ 1099511627776) : Ev (fun k => laws_eqGlyph.f k id w a id w a) true := by
  unfold laws_eqGlyph.f
  exact ev_pos rfl (ev_pos rfl ((eqIntS_ev a hn).bind (ev_pos rfl (Ev.now _))))

def marks (c : Nat) : Nat → List Int
  | 0 => []
  | n + 1 => (c : Int) :: marks (c + 1) n
theorem marks_length (n : Nat) : ∀ c, (marks c n).length = n := by
  induction n with
  | zero => intro c; rfl
  | succ n ih => intro c; simp [marks, ih]
theorem marks_snoc (n : Nat) : ∀ c, marks c (n + 1) = marks c n ++ [((c + n : Nat) : Int)] := by
  induction n with
  | zero => intro c; simp [marks]
  | succ n ih =>
    intro c
    rw [marks, ih (c + 1), marks]
    simp
    omega
theorem marks_get (n : Nat) : ∀ c i, i < n → (marks c n).getD i 0 = ((c + i : Nat) : Int) := by
  induction n with
  | zero => intro c i h; omega
  | succ n ih =>
    intro c i h
    cases i with
    | zero => simp [marks]
    | succ i =>
      rw [marks, List.getD_cons_succ, ih (c + 1) i (by omega)]
      omega
theorem markIntS_l0 (a : List Int) (c : Nat) (hn : a.length + c ≤ 1099511627776) :
    ∀ d i : Nat, i + d = a.length → Ev (fun k => laws_markIntS.l0 k (marks c i ++ a.drop i) ((c + i : Nat) : Int) i) (((c + a.length : Nat) : Int), marks c a.length)
  | 0, i, h => by
    obtain rfl : i = a.length := by omega
    refine Ev.step (f := fun _ => some (((c + a.length : Nat) : Int), marks c a.length)) (fun k => ?_) (Ev.now _)
    simp only [laws_markIntS.l0]
    rw [if_neg (by simp [marks_length])]
    simp
  | d + 1, i, h => by
    refine Ev.step (f := fun k => laws_markIntS.l0 k (marks c (i + 1) ++ a.drop (i + 1)) ((c + (i + 1) : Nat) : Int) ((i + 1 : Nat) : Int)) (fun k => ?_) (markIntS_l0 a c hn d (i + 1) (by omega))
    simp only [laws_markIntS.l0]
    rw [if_pos (by simp [marks_length]; omega), if_pos (by omega), wsucc (by omega), wsucc (by omega), getD_drop a i (by omega), Int.toNat_natCast, set_mid _ _ _ _ _ (marks_length _ _), marks_snoc]
    simp [Nat.add_assoc]
theorem markIntS_ev (a : List Int) (c : Nat) (hn : a.length + c ≤ 1099511627776) : Ev (fun k => laws_markIntS.f k a c) (((c + a.length : Nat) : Int), marks c a.length) := by
  refine Ev.congr (f := fun k => laws_markIntS.l0 k (marks c 0 ++ a.drop 0) ((c + 0 : Nat) : Int) 0) (fun k => ?_) (markIntS_l0 a c hn a.length 0 (by omega))
  unfold laws_markIntS.f
  simp [marks]

theorem heldIntS_l0 (n c : Nat) (hn : n + c ≤ 1099511627776) :
    ∀ d i : Nat, i + d = n → Ev (fun k => laws_heldIntS.l0 k (marks c n) ((c + i : Nat) : Int) i) ((c + n : Nat) : Int)
  | 0, i, h => by
    obtain rfl : i = n := by omega
    refine Ev.step (f := fun _ => some ((c + i : Nat) : Int)) (fun k => ?_) (Ev.now _)
    simp only [laws_heldIntS.l0]
    rw [if_neg (by simp [marks_length])]
  | d + 1, i, h => by
    refine Ev.step (f := fun k => laws_heldIntS.l0 k (marks c n) ((c + (i + 1) : Nat) : Int) ((i + 1 : Nat) : Int)) (fun k => ?_) (heldIntS_l0 n c hn d (i + 1) (by omega))
    simp only [laws_heldIntS.l0]
    rw [if_pos (by simp [marks_length]; omega), if_pos (by omega), wsucc (by omega), wsucc (by omega), rd_nat, marks_get _ _ _ (by omega), if_pos rfl]
    simp [Nat.add_assoc]
theorem heldIntS_ev (n c : Nat) (hn : n + c ≤ 1099511627776) : Ev (fun k => laws_heldIntS.f k (marks c n) c) ((c + n : Nat) : Int) := by
  refine Ev.congr (f := fun k => laws_heldIntS.l0 k (marks c n) ((c + 0 : Nat) : Int) 0) (fun k => ?_) (heldIntS_l0 n c hn n 0 (by omega))
  unfold laws_heldIntS.f
  simp

theorem markGlyph_ev (id w : Int) (a : List Int) (c : Nat) (hn : a.length + c ≤ 1099511627776) : Ev (fun k => laws_markGlyph.f k id w a c) (((c + a.length : Nat) : Int), marks c a.length) := by
  unfold laws_markGlyph.f
  exact (markIntS_ev a c hn).bind (Ev.now _)
theorem heldGlyph_ev (id w : Int) (n c : Nat) (hn : n + c ≤ 1099511627776) : Ev (fun k => laws_heldGlyph.f k id w (marks c n) c) ((c + n : Nat) : Int) := by
  unfold laws_heldGlyph.f
  exact (heldIntS_ev n c hn).bind (ev_neg (by omega) (Ev.now _))

/-- The greatest row of a width, as the program reckons it. -/
def topRow (w : Int) : Int := wrap64 ((shl .i64 1 w) - 1)
/-- A right glyph. -/
def glyph (id w : Int) (rows : List Int) : Prop := (0 ≤ id ∧ id ≤ 999) ∧ (1 ≤ w ∧ w ≤ 8) ∧ (1 ≤ (rows.length : Int) ∧ (rows.length : Int) ≤ 8) ∧ ∀ i : Nat, i < rows.length → 0 ≤ rd rows i ∧ rd rows i ≤ topRow w
instance (id w : Int) (rows : List Int) : Decidable (glyph id w rows) := by
  unfold glyph
  infer_instance
theorem and1 (n : Int) : Go.bits .and .i64 n 1 = n % 2 := by
  have h1 : (BitVec.ofInt 64 1).toNat = 2 ^ 1 - 1 := by decide
  have key : (BitVec.ofInt 64 n &&& BitVec.ofInt 64 1).toNat = (n % ((2 ^ 64 : Nat) : Int)).toNat % 2 ^ 1 := by
    rw [BitVec.toNat_and, BitVec.toNat_ofInt, h1, Nat.and_two_pow_sub_one_eq_mod]
  show IntKind.i64.wrap ((BitVec.ofInt 64 n &&& BitVec.ofInt 64 1).toNat : Nat) = n % 2
  rw [key, IntKind.wrap_i64]
  omega
/-- A glyph's dot; 0 outside, and of a wrong glyph. -/
def gdot (id w : Int) (rows : List Int) (x y : Int) : Int :=
  if glyph id w rows ∧ (0 ≤ x ∧ x ≤ w - 1) ∧ 0 ≤ y ∧ y ≤ (rows.length : Int) - 1 then Go.bits .and .i64 (shr .i64 (rd rows y) x) 1 else 0
theorem gdot_in (id w : Int) (rows : List Int) (x y : Int) : 0 ≤ gdot id w rows x y ∧ gdot id w rows x y ≤ 1 := by
  unfold gdot
  split
  · rw [and1]
    omega
  · omega

/-- A row of the turned glyph from place x on, d places, behind acc: as the program reckons it. -/
def orRow (id w : Int) (a : List Int) (y : Nat) : Nat → Nat → Int → Int
  | 0, _, acc => acc
  | d + 1, x, acc => orRow id w a y d (x + 1) (Go.bits .or .i64 acc (shl .i64 (gdot id w a (y : Nat) ((a.length : Int) - 1 - (x : Nat))) (x : Nat)))
/-- The rows of the turned glyph from y on, d rows. -/
def orRows (id w : Int) (a : List Int) : Nat → Nat → List Int
  | 0, _ => []
  | d + 1, y => orRow id w a y a.length 0 0 :: orRows id w a d (y + 1)
theorem orRows_length (id w : Int) (a : List Int) : ∀ d y, (orRows id w a d y).length = d
  | 0, _ => rfl
  | d + 1, y => by simp [orRows, orRows_length id w a d]
/-- The turned glyph: id, width, rows, and whether there is one. -/
def turnedG (id w : Int) (a : List Int) : Int × Int × List Int × Bool := if glyph id w a then (id, (a.length : Int), orRows id w a w.toNat 0, true) else (0, 0, [], false)
theorem turnedG_length (id w : Int) (a : List Int) : (turnedG id w a).2.2.1.length ≤ 8 := by
  unfold turnedG
  split
  · rename_i h
    have := h.2.1
    simp only [orRows_length]
    omega
  · simp

theorem within_eq (a b c : Int) : impl_within.f a b c = some (decide (b ≤ a ∧ a ≤ c)) := by
  unfold impl_within.f
  by_cases h : a ≥ b
  · rw [if_pos h]
    simp [show b ≤ a from h]
  · rw [if_neg h]
    simp [show ¬ b ≤ a from h]

theorem impl_GlyphOk_l0 (id w : Int) (a : List Int) (hi : 0 ≤ id ∧ id ≤ 999) (hw : 1 ≤ w ∧ w ≤ 8) (hl : 1 ≤ (a.length : Int) ∧ (a.length : Int) ≤ 8) :
    ∀ d i : Nat, i + d = a.length → (∀ j : Nat, j < i → 0 ≤ rd a j ∧ rd a j ≤ topRow w) → Ev (fun k => impl_GlyphOk.l0 k a (a.length : Int) i id w a) (decide (glyph id w a))
  | 0, i, h, hj => by
    refine Ev.step (f := fun _ => some true) (fun k => ?_) ?_
    · simp only [impl_GlyphOk.l0]
      rw [if_neg (by omega)]
    · rw [decide_eq_true (show glyph id w a from ⟨hi, hw, hl, fun j h1 => hj j (by omega)⟩)]
      exact Ev.now _
  | d + 1, i, h, hj => by
    by_cases c : 0 ≤ rd a i ∧ rd a i ≤ topRow w
    · refine Ev.step (f := fun k => impl_GlyphOk.l0 k a (a.length : Int) ((i + 1 : Nat) : Int) id w a) (fun k => ?_) (impl_GlyphOk_l0 id w a hi hw hl d (i + 1) (by omega) (fun j h1 => ?_))
      · simp only [impl_GlyphOk.l0, within_eq, Option.bind_some]
        rw [if_pos (by omega), if_pos (by omega), if_pos (by omega), if_pos (by omega), if_pos (show decide (0 ≤ rd a i ∧ rd a i ≤ wrap64 ((shl .i64 1 w) - 1)) = true from decide_eq_true c), wsucc (by omega)]
      · by_cases e : j = i
        · subst e
          exact c
        · exact hj j (by omega)
    · refine Ev.step (f := fun _ => some false) (fun k => ?_) ?_
      · simp only [impl_GlyphOk.l0, within_eq, Option.bind_some]
        rw [if_pos (by omega), if_pos (by omega), if_pos (by omega), if_pos (by omega), if_neg (show ¬ decide (0 ≤ rd a i ∧ rd a i ≤ wrap64 ((shl .i64 1 w) - 1)) = true from by simp only [decide_eq_true_eq]; exact c)]
      · rw [decide_eq_false (show ¬ glyph id w a from fun h3 => c (h3.2.2.2 i (by omega)))]
        exact Ev.now _
theorem impl_GlyphOk_ev (id w : Int) (a : List Int) : Ev (fun k => impl_GlyphOk.f k id w a) (decide (glyph id w a)) := by
  unfold impl_GlyphOk.f
  have no : ∀ h : ¬ glyph id w a, Ev (fun k => impl_GlyphOk.j0 k true id w a) (decide (glyph id w a)) := by
    intro h
    rw [decide_eq_false h]
    exact Ev.step (f := fun _ => some false) (fun k => by simp only [impl_GlyphOk.j0]; rw [if_pos trivial]) (Ev.now _)
  refine ev_eq (within_eq _ _ _) ?_
  by_cases hi : 0 ≤ id ∧ id ≤ 999
  · refine ev_pos (decide_eq_true hi) (ev_eq (within_eq _ _ _) ?_)
    by_cases hw : 1 ≤ w ∧ w ≤ 8
    · refine ev_pos (decide_eq_true hw) (ev_eq (within_eq _ _ _) ?_)
      by_cases hl : 1 ≤ (a.length : Int) ∧ (a.length : Int) ≤ 8
      · rw [decide_eq_true hl]
        refine Ev.step (f := fun k => impl_GlyphOk.l0 k a (a.length : Int) 0 id w a) (fun k => ?_) (impl_GlyphOk_l0 id w a hi hw hl a.length 0 (by omega) (fun j h => by omega))
        simp only [impl_GlyphOk.j0]
        rw [if_neg (by simp)]
      · rw [decide_eq_false hl]
        exact no fun h => hl h.2.2.1
    · exact ev_neg (by simp only [decide_eq_true_eq]; exact hw) (no fun h => hw h.2.1)
  · exact ev_neg (by simp only [decide_eq_true_eq]; exact hi) (no fun h => hi h.1)

theorem impl_GlyphDot_ev (id w : Int) (a : List Int) (x y : Int) : Ev (fun k => impl_GlyphDot.f k id w a x y) (gdot id w a x y) := by
  unfold impl_GlyphDot.f gdot
  refine (impl_GlyphOk_ev id w a).bind ?_
  by_cases hg : glyph id w a
  · have hg' := hg
    obtain ⟨_, hw, hl, _⟩ := hg'
    refine ev_pos (decide_eq_true hg) (ev_eq (within_eq _ _ _) ?_)
    rw [w64 (n := w - 1) (by omega) (by omega)]
    by_cases hx : 0 ≤ x ∧ x ≤ w - 1
    · refine ev_pos (decide_eq_true hx) (ev_eq (within_eq _ _ _) ?_)
      rw [w64 (n := (a.length : Int) - 1) (by omega) (by omega)]
      by_cases hy : 0 ≤ y ∧ y ≤ (a.length : Int) - 1
      · rw [if_pos (c := glyph id w a ∧ (0 ≤ x ∧ x ≤ w - 1) ∧ 0 ≤ y ∧ y ≤ (a.length : Int) - 1) ⟨hg, hx, hy⟩]
        exact ev_pos (decide_eq_true hy) (ev_pos (by omega) (ev_pos (by omega) (ev_pos (by omega) (Ev.now _))))
      · rw [if_neg (c := glyph id w a ∧ (0 ≤ x ∧ x ≤ w - 1) ∧ 0 ≤ y ∧ y ≤ (a.length : Int) - 1) (fun q => hy q.2.2)]
        exact ev_neg (by simp only [decide_eq_true_eq]; exact hy) (Ev.now _)
    · rw [if_neg (c := glyph id w a ∧ (0 ≤ x ∧ x ≤ w - 1) ∧ 0 ≤ y ∧ y ≤ (a.length : Int) - 1) (fun q => hx q.2.1)]
      exact ev_neg (by simp only [decide_eq_true_eq]; exact hx) (Ev.now _)
  · rw [if_neg (c := glyph id w a ∧ (0 ≤ x ∧ x ≤ w - 1) ∧ 0 ≤ y ∧ y ≤ (a.length : Int) - 1) (fun q => hg q.1)]
    exact ev_neg (by simp only [decide_eq_true_eq]; exact hg) (Ev.now _)

theorem impl_TurnG_l1 (id w : Int) (a : List Int) (hg : glyph id w a) (R : Int × Int × List Int × Bool) (y : Nat) (acc : List Int) (hacc : acc.length ≤ 8) (p q : Int) :
    ∀ (d x : Nat) (s : Int), x + d = a.length → Ev (fun k => impl_TurnGlyph.l0 k (a.length : Int) (wrap64 ((y : Int) + 1)) id w a p q (acc ++ [orRow id w a y d x s])) R → Ev (fun k => impl_TurnGlyph.l1 k (a.length : Int) y s x id w a p q acc) R
  | 0, x, s, hd, h => by
    refine Ev.step (fun k => ?_) h
    simp only [impl_TurnGlyph.l1, orRow]
    rw [if_neg (by omega), if_pos (by omega)]
  | d + 1, x, s, hd, h => by
    have hl := hg.2.2.1
    have ih := impl_TurnG_l1 id w a hg R y acc hacc p q d (x + 1) (Go.bits .or .i64 s (shl .i64 (gdot id w a (y : Nat) ((a.length : Int) - 1 - (x : Nat))) (x : Nat))) (by omega) h
    have e : wrap64 ((wrap64 ((a.length : Int) - 1)) - (x : Int)) = (a.length : Int) - 1 - (x : Nat) := by
      rw [w64 (n := (a.length : Int) - 1) (by omega) (by omega), w64 (by omega) (by omega)]
    refine Ev.step (f := fun k => (impl_GlyphDot.f k id w a y ((a.length : Int) - 1 - (x : Nat))).bind fun t => (impl_TurnGlyph.l1 k (a.length : Int) y (Go.bits .or .i64 s (shl .i64 t x)) ((x + 1 : Nat) : Int) id w a p q acc)) (fun k => ?_) ((impl_GlyphDot_ev id w a y _).bind ih)
    simp only [impl_TurnGlyph.l1]
    rw [if_pos (by omega), e, wsucc (by omega)]
    simp only [show (0 : Int) ≤ (x : Int) by omega, if_true]
theorem impl_TurnG_l0 (id w : Int) (a : List Int) (hg : glyph id w a) (p q : Int) :
    ∀ (d y : Nat) (acc : List Int), (y : Int) + d = w → acc.length = y → Ev (fun k => impl_TurnGlyph.l0 k (a.length : Int) y id w a p q acc) (p, q, acc ++ orRows id w a d y, true)
  | 0, y, acc, hd, hl => by
    refine Ev.step (f := fun _ => some (p, q, acc, true)) (fun k => ?_) (by simp only [orRows, List.append_nil]; exact Ev.now _)
    simp only [impl_TurnGlyph.l0]
    rw [if_neg (by omega)]
  | d + 1, y, acc, hd, hl => by
    have hw := hg.2.1
    refine Ev.step (f := fun k => impl_TurnGlyph.l1 k (a.length : Int) y 0 0 id w a p q acc) (fun k => ?_) (impl_TurnG_l1 id w a hg _ y acc (by omega) p q a.length 0 0 (by omega) ?_)
    · simp only [impl_TurnGlyph.l0]
      rw [if_pos (by omega)]
    · rw [wsucc (by omega)]
      simp only [orRows]
      rw [show acc ++ orRow id w a y a.length 0 0 :: orRows id w a d (y + 1) = acc ++ [orRow id w a y a.length 0 0] ++ orRows id w a d (y + 1) by simp]
      exact impl_TurnG_l0 id w a hg p q d (y + 1) (acc ++ [orRow id w a y a.length 0 0]) (by omega) (by simp; omega)
theorem impl_TurnG_ev (id w : Int) (a : List Int) : Ev (fun k => impl_TurnGlyph.f k id w a) (turnedG id w a) := by
  unfold impl_TurnGlyph.f turnedG
  refine (impl_GlyphOk_ev id w a).bind ?_
  by_cases hg : glyph id w a
  · rw [if_pos (c := glyph id w a) hg]
    have := hg.2.1
    exact ev_pos (decide_eq_true hg) (impl_TurnG_l0 id w a hg id _ w.toNat 0 [] (by omega) rfl)
  · rw [if_neg (c := glyph id w a) hg]
    exact ev_neg (by simp [hg]) (Ev.now _)

theorem l01In_eq (a b c : Int) : spec_l01In.f a b c = some (decide (b ≤ a ∧ a ≤ c)) := by
  unfold spec_l01In.f
  by_cases h : a ≥ b
  · rw [if_pos h]
    simp [show b ≤ a from h]
  · rw [if_neg h]
    simp [show ¬ b ≤ a from h]

theorem spec_GlyphOk_l0 (id w : Int) (a : List Int) (hi : 0 ≤ id ∧ id ≤ 999) (hw : 1 ≤ w ∧ w ≤ 8) (hl : 1 ≤ (a.length : Int) ∧ (a.length : Int) ≤ 8) :
    ∀ d i : Nat, i + d = a.length → (∀ j : Nat, j < i → 0 ≤ rd a j ∧ rd a j ≤ topRow w) → Ev (fun k => spec_GlyphOk.l0 k i id w a) (decide (glyph id w a))
  | 0, i, h, hj => by
    refine Ev.step (f := fun _ => some true) (fun k => ?_) ?_
    · simp only [spec_GlyphOk.l0]
      rw [if_neg (by omega)]
    · rw [decide_eq_true (show glyph id w a from ⟨hi, hw, hl, fun j h1 => hj j (by omega)⟩)]
      exact Ev.now _
  | d + 1, i, h, hj => by
    by_cases c : 0 ≤ rd a i ∧ rd a i ≤ topRow w
    · refine Ev.step (f := fun k => spec_GlyphOk.l0 k ((i + 1 : Nat) : Int) id w a) (fun k => ?_) (spec_GlyphOk_l0 id w a hi hw hl d (i + 1) (by omega) (fun j h1 => ?_))
      · simp only [spec_GlyphOk.l0, l01In_eq, Option.bind_some]
        rw [if_pos (by omega), if_pos (by omega), if_pos (by omega), if_pos (show decide (0 ≤ rd a i ∧ rd a i ≤ wrap64 ((shl .i64 1 w) - 1)) = true from decide_eq_true c), wsucc (by omega)]
      · by_cases e : j = i
        · subst e
          exact c
        · exact hj j (by omega)
    · refine Ev.step (f := fun _ => some false) (fun k => ?_) ?_
      · simp only [spec_GlyphOk.l0, l01In_eq, Option.bind_some]
        rw [if_pos (by omega), if_pos (by omega), if_pos (by omega), if_neg (show ¬ decide (0 ≤ rd a i ∧ rd a i ≤ wrap64 ((shl .i64 1 w) - 1)) = true from by simp only [decide_eq_true_eq]; exact c)]
      · rw [decide_eq_false (show ¬ glyph id w a from fun h3 => c (h3.2.2.2 i (by omega)))]
        exact Ev.now _
theorem spec_GlyphOk_ev (id w : Int) (a : List Int) : Ev (fun k => spec_GlyphOk.f k id w a) (decide (glyph id w a)) := by
  unfold spec_GlyphOk.f
  have no : ∀ h : ¬ glyph id w a, Ev (fun k => spec_GlyphOk.j0 k true id w a) (decide (glyph id w a)) := by
    intro h
    rw [decide_eq_false h]
    exact Ev.step (f := fun _ => some false) (fun k => by simp only [spec_GlyphOk.j0]; rw [if_pos trivial]) (Ev.now _)
  refine ev_eq (l01In_eq _ _ _) ?_
  by_cases hi : 0 ≤ id ∧ id ≤ 999
  · refine ev_pos (decide_eq_true hi) (ev_eq (l01In_eq _ _ _) ?_)
    by_cases hw : 1 ≤ w ∧ w ≤ 8
    · refine ev_pos (decide_eq_true hw) (ev_eq (l01In_eq _ _ _) ?_)
      by_cases hl : 1 ≤ (a.length : Int) ∧ (a.length : Int) ≤ 8
      · rw [decide_eq_true hl]
        refine Ev.step (f := fun k => spec_GlyphOk.l0 k 0 id w a) (fun k => ?_) (spec_GlyphOk_l0 id w a hi hw hl a.length 0 (by omega) (fun j h => by omega))
        simp only [spec_GlyphOk.j0]
        rw [if_neg (by simp)]
      · rw [decide_eq_false hl]
        exact no fun h => hl h.2.2.1
    · exact ev_neg (by simp only [decide_eq_true_eq]; exact hw) (no fun h => hw h.2.1)
  · exact ev_neg (by simp only [decide_eq_true_eq]; exact hi) (no fun h => hi h.1)

theorem spec_GlyphDot_ev (id w : Int) (a : List Int) (x y : Int) : Ev (fun k => spec_GlyphDot.f k id w a x y) (gdot id w a x y) := by
  unfold spec_GlyphDot.f gdot
  refine (spec_GlyphOk_ev id w a).bind ?_
  by_cases hg : glyph id w a
  · have hg' := hg
    obtain ⟨_, hw, hl, _⟩ := hg'
    refine ev_pos (decide_eq_true hg) (ev_eq (l01In_eq _ _ _) ?_)
    rw [w64 (n := w - 1) (by omega) (by omega)]
    by_cases hx : 0 ≤ x ∧ x ≤ w - 1
    · refine ev_pos (decide_eq_true hx) (ev_eq (l01In_eq _ _ _) ?_)
      rw [w64 (n := (a.length : Int) - 1) (by omega) (by omega)]
      by_cases hy : 0 ≤ y ∧ y ≤ (a.length : Int) - 1
      · rw [if_pos (c := glyph id w a ∧ (0 ≤ x ∧ x ≤ w - 1) ∧ 0 ≤ y ∧ y ≤ (a.length : Int) - 1) ⟨hg, hx, hy⟩]
        exact ev_pos (decide_eq_true hy) (ev_pos (by omega) (ev_pos (by omega) (ev_pos (by omega) (Ev.now _))))
      · rw [if_neg (c := glyph id w a ∧ (0 ≤ x ∧ x ≤ w - 1) ∧ 0 ≤ y ∧ y ≤ (a.length : Int) - 1) (fun q => hy q.2.2)]
        exact ev_neg (by simp only [decide_eq_true_eq]; exact hy) (Ev.now _)
    · rw [if_neg (c := glyph id w a ∧ (0 ≤ x ∧ x ≤ w - 1) ∧ 0 ≤ y ∧ y ≤ (a.length : Int) - 1) (fun q => hx q.2.1)]
      exact ev_neg (by simp only [decide_eq_true_eq]; exact hx) (Ev.now _)
  · rw [if_neg (c := glyph id w a ∧ (0 ≤ x ∧ x ≤ w - 1) ∧ 0 ≤ y ∧ y ≤ (a.length : Int) - 1) (fun q => hg q.1)]
    exact ev_neg (by simp only [decide_eq_true_eq]; exact hg) (Ev.now _)

theorem spec_TurnG_l1 (id w : Int) (a : List Int) (hg : glyph id w a) (R : Int × Int × List Int × Bool) (y : Nat) (acc : List Int) (hacc : acc.length ≤ 8) (p q : Int) :
    ∀ (d x : Nat) (s : Int), x + d = a.length → Ev (fun k => spec_TurnGlyph.l0 k (a.length : Int) (wrap64 ((y : Int) + 1)) id w a p q (acc ++ [orRow id w a y d x s])) R → Ev (fun k => spec_TurnGlyph.l1 k (a.length : Int) y s x id w a p q acc) R
  | 0, x, s, hd, h => by
    refine Ev.step (fun k => ?_) h
    simp only [spec_TurnGlyph.l1, orRow]
    rw [if_neg (by omega), if_pos (by omega)]
  | d + 1, x, s, hd, h => by
    have hl := hg.2.2.1
    have ih := spec_TurnG_l1 id w a hg R y acc hacc p q d (x + 1) (Go.bits .or .i64 s (shl .i64 (gdot id w a (y : Nat) ((a.length : Int) - 1 - (x : Nat))) (x : Nat))) (by omega) h
    have e : wrap64 ((wrap64 ((a.length : Int) - 1)) - (x : Int)) = (a.length : Int) - 1 - (x : Nat) := by
      rw [w64 (n := (a.length : Int) - 1) (by omega) (by omega), w64 (by omega) (by omega)]
    refine Ev.step (f := fun k => (spec_GlyphDot.f k id w a y ((a.length : Int) - 1 - (x : Nat))).bind fun t => (spec_TurnGlyph.l1 k (a.length : Int) y (Go.bits .or .i64 s (shl .i64 t x)) ((x + 1 : Nat) : Int) id w a p q acc)) (fun k => ?_) ((spec_GlyphDot_ev id w a y _).bind ih)
    simp only [spec_TurnGlyph.l1]
    rw [if_pos (by omega), e, wsucc (by omega)]
    simp only [show (0 : Int) ≤ (x : Int) by omega, if_true]
theorem spec_TurnG_l0 (id w : Int) (a : List Int) (hg : glyph id w a) (p q : Int) :
    ∀ (d y : Nat) (acc : List Int), (y : Int) + d = w → acc.length = y → Ev (fun k => spec_TurnGlyph.l0 k (a.length : Int) y id w a p q acc) (p, q, acc ++ orRows id w a d y, true)
  | 0, y, acc, hd, hl => by
    refine Ev.step (f := fun _ => some (p, q, acc, true)) (fun k => ?_) (by simp only [orRows, List.append_nil]; exact Ev.now _)
    simp only [spec_TurnGlyph.l0]
    rw [if_neg (by omega)]
  | d + 1, y, acc, hd, hl => by
    have hw := hg.2.1
    refine Ev.step (f := fun k => spec_TurnGlyph.l1 k (a.length : Int) y 0 0 id w a p q acc) (fun k => ?_) (spec_TurnG_l1 id w a hg _ y acc (by omega) p q a.length 0 0 (by omega) ?_)
    · simp only [spec_TurnGlyph.l0]
      rw [if_pos (by omega)]
    · rw [wsucc (by omega)]
      simp only [orRows]
      rw [show acc ++ orRow id w a y a.length 0 0 :: orRows id w a d (y + 1) = acc ++ [orRow id w a y a.length 0 0] ++ orRows id w a d (y + 1) by simp]
      exact spec_TurnG_l0 id w a hg p q d (y + 1) (acc ++ [orRow id w a y a.length 0 0]) (by omega) (by simp; omega)
theorem spec_TurnG_ev (id w : Int) (a : List Int) : Ev (fun k => spec_TurnGlyph.f k id w a) (turnedG id w a) := by
  unfold spec_TurnGlyph.f turnedG
  refine (spec_GlyphOk_ev id w a).bind ?_
  by_cases hg : glyph id w a
  · rw [if_pos (c := glyph id w a) hg]
    have := hg.2.1
    exact ev_pos (decide_eq_true hg) (spec_TurnG_l0 id w a hg id _ w.toNat 0 [] (by omega) rfl)
  · rw [if_neg (c := glyph id w a) hg]
    exact ev_neg (by simp [hg]) (Ev.now _)

theorem FnExactTurnGlyph : FnExactTurnGlyphPure := by
  intro id w a _ _ hm _
  have hm' : a.length ≤ 9223372036854775807 := hm
  refine Ev.rounds ?_
  unfold laws_FnExactTurnGlyph.f
  refine ev_eq (szGlyph_eq id w a hm') ?_
  by_cases c : (a.length : Int) > 1048576
  · rw [if_pos c]
    exact ev_pos (by omega) (Ev.now _)
  rw [if_neg c]
  refine ev_neg (by omega) ?_
  have t := toGlyph_ev id w a (by omega)
  have s := spec_TurnG_ev id w a
  have i := impl_TurnG_ev id w a
  have hr := turnedG_length id w a
  generalize turnedG id w a = r at *
  obtain ⟨r1, r2, r3, r4⟩ := r
  simp only at hr
  have e := eqGlyph_ev r1 r2 r3 (by omega)
  refine t.bind (s.bind (t.bind (i.bind (e.bind (ev_pos rfl ?_)))))
  simp only [bne_self_eq_false]
  refine Ev.step (fun k => by simp only [laws_FnExactTurnGlyph.j0]; rw [if_neg (by simp)]) ?_
  refine t.bind ((eqGlyph_ev id w a (by omega)).bind (ev_pos rfl ?_))
  have m0 := markGlyph_ev id w a 1 (by omega)
  refine m0.bind (ev_neg (by simp only; omega) (e.bind (ev_pos rfl ?_)))
  simp only [bne_self_eq_false]
  refine Ev.step (fun k => by simp only [laws_FnExactTurnGlyph.j1]; rw [if_neg (by simp)]) ?_
  have m1 := markGlyph_ev r1 r2 r3 1 (by omega)
  have h1 := heldGlyph_ev r1 r2 r3.length 1 (by omega)
  refine m1.bind (h1.bind (ev_neg (by omega) (ev_pos rfl (t.bind (i.bind (e.bind (ev_pos rfl ?_)))))))
  simp only [bne_self_eq_false]
  refine Ev.step (fun k => by simp only [laws_FnExactTurnGlyph.j2]; rw [if_neg (by simp)]) ?_
  exact h1.bind (ev_neg (by omega) (ev_pos rfl (Ev.now _)))

end Go.Proofs.Ytcjkndcmeedneaa.Pure
