/-
  The program's CountOnes gives the number that the reference gives for all rows, and leaves them as they were.
-/
import Derived.Test.YtophklfiooklbaaPFnExactCountOnesx3
import Derived.Test.YtophklfiooklbaaWSized
import Derived.Test.YtophklfiooklbaaOpenFnExactCountOnes
namespace Go.Proofs.Ytophklfiooklbaa.Pure
open Go.RowKit Go.Proofs.Ytophklfiooklbaa.PFnExactCountOnes Go.Proofs.YtophklfiooklbaaW.PrintWords Go.Proofs.YtophklfiooklbaaW.PrintLast Go.Proofs.YtophklfiooklbaaW.PrintMore Go.Proofs.Ytophklfiooklbaa.OpenFnExactCountOnes
set_option linter.unusedVariables false
set_option linter.unusedSimpArgs false

theorem w64 {n : Int} (h1 : -9223372036854775808 ≤ n) (h2 : n ≤ 9223372036854775807) : wrap64 n = n := by
  unfold wrap64
  omega
theorem wsucc {i : Nat} (h : i ≤ 1099511627776) : wrap64 ((i : Int) + 1) = ((i + 1 : Nat) : Int) := by
  rw [w64 (by omega) (by omega)]
  omega
theorem rd_nat (l : List Int) (i : Nat) : rd l (i : Int) = l.getD i 0 := by simp [rd]
theorem getD_drop (l : List Int) (i : Nat) (h : i < l.length) : l.drop i = l.getD i 0 :: l.drop (i + 1) := by
  rw [List.drop_eq_getElem_cons h]
  simp [List.getD_eq_getElem?_getD, List.getElem?_eq_getElem h]
theorem getD_take (l : List Int) (i : Nat) (h : i < l.length) : l.take (i + 1) = l.take i ++ [l.getD i 0] := by
  rw [List.take_succ_eq_append_getElem h]
  simp [List.getD_eq_getElem?_getD, List.getElem?_eq_getElem h]
theorem set_mid (p q : List Int) (u v : Int) (i : Nat) (h : p.length = i) : (p ++ u :: q).set i v = p ++ v :: q := by
  subst h
  simp [List.set_append_right]
theorem bind_id {α : Type} {g : Nat → Option α} {r : α} (h : Ev g r) : Ev (fun n => (g n).bind fun x => some x) r := by
  obtain ⟨K, h⟩ := h
  exact ⟨K, fun k hk => by simp [h k hk]⟩
theorem ev_pos {α : Type} {c : Prop} [Decidable c] {f g : Nat → Option α} {r : α} (h : c) (k : Ev f r) : Ev (fun n => if c then f n else g n) r := Ev.congr (fun n => if_pos h) k
theorem ev_neg {α : Type} {c : Prop} [Decidable c] {f g : Nat → Option α} {r : α} (h : ¬ c) (k : Ev g r) : Ev (fun n => if c then f n else g n) r := Ev.congr (fun n => if_neg h) k
theorem ev_eq {α β : Type} {g : Option α} {f : Nat → α → Option β} {a : α} {r : β} (h : g = some a) (k : Ev (fun n => f n a) r) : Ev (fun n => g.bind (f n)) r := by
  subst h
  exact k
theorem td {v : Int} (h : 0 ≤ v) (c : Int) : Int.tdiv v c = v / c := Int.tdiv_eq_ediv_of_nonneg h
theorem tm {v : Int} (h : 0 ≤ v) (c : Int) : Int.tmod v c = v % c := Int.tmod_eq_emod_of_nonneg h

/-- A row of 32 values from 0 to hi. -/
def rowP (hi : Int) (r : List Int) : Prop := r.length = 32 ∧ ∀ i : Nat, i < r.length → 0 ≤ rd r i ∧ rd r i ≤ hi
/-- At most 32 such rows. -/
def mat (hi : Int) (m : List (List Int)) : Prop := m.length ≤ 32 ∧ ∀ j : Nat, j < m.length → rowP hi (rd_L1 m j)
instance (hi : Int) (r : List Int) : Decidable (rowP hi r) := by
  unfold rowP
  infer_instance
instance (hi : Int) (m : List (List Int)) : Decidable (mat hi m) := by
  unfold mat
  infer_instance
theorem rowP_mono {a b : Int} (h : a ≤ b) {r : List Int} (hr : rowP a r) : rowP b r := ⟨hr.1, fun i hi => ⟨(hr.2 i hi).1, by have := (hr.2 i hi).2; omega⟩⟩
theorem mat_mono {a b : Int} (h : a ≤ b) {m : List (List Int)} (hm : mat a m) : mat b m := ⟨hm.1, fun j hj => rowP_mono h (hm.2 j hj)⟩
/-- Rows that are not too long to be counted. -/
def small (m : List (List Int)) : Prop := m.length ≤ 1099511627776 ∧ ∀ j : Nat, j < m.length → (rd_L1 m j).length ≤ 1099511627776

theorem eqIntS_l0 (a : List Int) (hn : a.length ≤ 1099511627776) :
    ∀ d i : Nat, i + d = a.length → Ev (fun k => laws_eqIntS.l0 k a a i) true
  | 0, i, h => by
    refine Ev.step (f := fun _ => some true) (fun k => ?_) (Ev.now _)
    simp only [laws_eqIntS.l0]
    rw [if_neg (by omega)]
  | d + 1, i, h => by
    refine Ev.step (f := fun k => laws_eqIntS.l0 k a a ((i + 1 : Nat) : Int)) (fun k => ?_) (eqIntS_l0 a hn d (i + 1) (by omega))
    simp only [laws_eqIntS.l0]
    rw [if_pos (by omega), if_pos (by omega), if_pos (by omega), if_pos trivial, wsucc (by omega)]
theorem eqIntS_ev (a : List Int) (hn : a.length ≤ 1099511627776) : Ev (fun k => laws_eqIntS.f k a a) true := by
  refine Ev.congr (f := fun k => laws_eqIntS.l0 k a a 0) (fun k => ?_) (eqIntS_l0 a hn a.length 0 (by omega))
  unfold laws_eqIntS.f
  rw [if_pos rfl]

theorem toIntS_l0 (a : List Int) (hn : a.length ≤ 1099511627776) :
    ∀ d i : Nat, i + d = a.length → Ev (fun k => laws_toIntS.l0 k a (a.take i ++ List.replicate d 0) i) a
  | 0, i, h => by
    refine Ev.step (f := fun _ => some a) (fun k => ?_) (Ev.now _)
    simp only [laws_toIntS.l0]
    rw [if_neg (by omega)]
    simp [List.take_of_length_le (show a.length ≤ i by omega)]
  | d + 1, i, h => by
    refine Ev.step (f := fun k => laws_toIntS.l0 k a (a.take (i + 1) ++ List.replicate d 0) ((i + 1 : Nat) : Int)) (fun k => ?_) (toIntS_l0 a hn d (i + 1) (by omega))
    simp only [laws_toIntS.l0]
    rw [if_pos (by omega), if_pos (by omega), if_pos (by simp; omega), wsucc (by omega), rd_nat, List.replicate_succ, Int.toNat_natCast, set_mid _ _ _ _ _ (by simp; omega), getD_take a i (by omega)]
    simp
theorem toIntS_ev (a : List Int) (hn : a.length ≤ 1099511627776) : Ev (fun k => laws_toIntS.f k a) a := by
  refine Ev.congr (f := fun k => laws_toIntS.l0 k a (a.take 0 ++ List.replicate a.length 0) 0) (fun k => ?_) (toIntS_l0 a hn a.length 0 (by omega))
  unfold laws_toIntS.f
  rw [if_pos (by omega), if_pos (by omega)]
  simp

theorem szIntSS_l0 (m : List (List Int)) (hg : ∀ r ∈ m, r.length ≤ 9223372036854775807) (hn : m.length ≤ 1099511627776) : ∀ (d i : Nat) (left : Int), i + d = m.length → 0 ≤ left → left ≤ 1048576 →
    ∃ r, Ev (fun k => laws_szIntSS.l0 k m left i) r ∧ (r < 0 ∨ (0 ≤ r ∧ r ≤ left ∧ ∀ j : Nat, i ≤ j → j < m.length → (rd_L1 m j).length ≤ 1048576))
  | 0, i, left, hd, h0, h1 => by
    refine ⟨left, Ev.step (f := fun _ => some left) (fun k => ?_) (Ev.now _), .inr ⟨h0, Int.le_refl _, fun j _ _ => by omega⟩⟩
    simp only [laws_szIntSS.l0]
    rw [if_neg (by omega)]
  | d + 1, i, left, hd, h0, h1 => by
    have hm : (rd_L1 m i) ∈ m := by
      unfold rd_L1
      rw [Int.toNat_natCast, List.getD_eq_getElem?_getD, List.getElem?_eq_getElem (show i < m.length by omega)]
      simp
    have hl := hg _ hm
    have e : laws_szIntS.f (rd_L1 m i) left = some (if left - ((rd_L1 m i).length : Int) < 0 then -1 else left - ((rd_L1 m i).length : Int)) := by
      unfold laws_szIntS.f
      rw [w64 (by omega) (by omega)]
      by_cases c : left - ((rd_L1 m i).length : Int) < 0
      · rw [if_pos c, if_pos c]
      · rw [if_neg c, if_neg c]
    by_cases c : left - ((rd_L1 m i).length : Int) < 0
    · rw [if_pos c] at e
      refine ⟨-1, Ev.step (f := fun _ => some (-1)) (fun k => ?_) (Ev.now _), .inl (by omega)⟩
      simp only [laws_szIntSS.l0, e, Option.bind_some]
      rw [if_pos (by omega), if_pos (by omega), if_pos (by omega)]
    · rw [if_neg c] at e
      obtain ⟨r, h2, h3⟩ := szIntSS_l0 m hg hn d (i + 1) (left - ((rd_L1 m i).length : Int)) (by omega) (by omega) (by omega)
      refine ⟨r, Ev.step (fun k => ?_) h2, ?_⟩
      · simp only [laws_szIntSS.l0, e, Option.bind_some]
        rw [if_pos (by omega), if_pos (by omega), if_neg c, wsucc (by omega)]
      · rcases h3 with h3 | ⟨h3, h4, h5⟩
        · exact .inl h3
        · refine .inr ⟨h3, by omega, fun j hj1 hj2 => ?_⟩
          by_cases q : j = i
          · subst q
            omega
          · exact h5 j (by omega) hj2
/-- Rows whose lengths, and their number, are at most 1048576. -/
def tiny (m : List (List Int)) : Prop := m.length ≤ 1048576 ∧ ∀ j : Nat, j < m.length → (rd_L1 m j).length ≤ 1048576
theorem tiny_small {m : List (List Int)} (h : tiny m) : small m := ⟨by have := h.1; omega, fun j hj => by have := h.2 j hj; omega⟩
/-- The measuring of a law's rows: too much, or all of them are short. -/
theorem szIntSS_ev (m : List (List Int)) (left : Int) (h0 : 0 ≤ left) (h1 : left ≤ 1048576) (hm : m.length ≤ 9223372036854775807) (hg : ∀ r ∈ m, r.length ≤ 9223372036854775807) : ∃ r, Ev (fun k => laws_szIntSS.f k m left) r ∧ (r < 0 ∨ (0 ≤ r ∧ r ≤ left ∧ tiny m)) := by
  unfold laws_szIntSS.f
  rw [w64 (by omega) (by omega)]
  by_cases c : left - (m.length : Int) < 0
  · exact ⟨-1, ev_pos c (Ev.now _), .inl (by omega)⟩
  · obtain ⟨r, e, h⟩ := szIntSS_l0 m hg (by omega) m.length 0 (left - (m.length : Int)) (by omega) (by omega) (by omega)
    refine ⟨r, ev_neg c e, ?_⟩
    rcases h with h | ⟨h2, h3, h4⟩
    · exact .inl h
    · exact .inr ⟨h2, by omega, by omega, fun j hj => h4 j (by omega) hj⟩
theorem rows_mem {m : List (List Int)} {j : Nat} (hj : j < m.length) : rd_L1 m j = m[j] := by
  unfold rd_L1
  rw [Int.toNat_natCast, List.getD_eq_getElem?_getD, List.getElem?_eq_getElem hj]
  rfl
theorem set_midL (p q : List (List Int)) (u v : List Int) (i : Nat) (h : p.length = i) : (p ++ u :: q).set i v = p ++ v :: q := by
  subst h
  simp [List.set_append_right]
theorem toIntSS_l0 (m : List (List Int)) (hs : tiny m) : ∀ d i : Nat, i + d = m.length → Ev (fun k => laws_toIntSS.l0 k m (m.take i ++ List.replicate d []) i) m
  | 0, i, h => by
    refine Ev.step (f := fun _ => some m) (fun k => ?_) (Ev.now _)
    simp only [laws_toIntSS.l0]
    rw [if_neg (by omega)]
    simp [List.take_of_length_le (show m.length ≤ i by omega)]
  | d + 1, i, h => by
    have hn := hs.1
    have hl := hs.2 i (by omega)
    have ih := toIntSS_l0 m hs d (i + 1) (by omega)
    refine Ev.step (f := fun k => (laws_toIntS.f k (rd_L1 m i)).bind fun t => laws_toIntSS.l0 k m ((m.take i ++ List.replicate (d + 1) []).set i t) ((i + 1 : Nat) : Int)) (fun k => ?_) ((toIntS_ev (rd_L1 m i) (by omega)).bind ?_)
    · simp only [laws_toIntSS.l0]
      rw [if_pos (by omega), if_pos (by omega), wsucc (by omega)]
      congr 1
      funext t
      rw [if_pos (by simp; omega)]
      rfl
    · have e : (m.take i ++ List.replicate (d + 1) []).set i (rd_L1 m i) = m.take (i + 1) ++ List.replicate d [] := by
        rw [List.replicate_succ, set_midL _ _ _ _ _ (by simp; omega), List.take_succ_eq_append_getElem (show i < m.length by omega), rows_mem (by omega), List.append_assoc]
        rfl
      simp only [e]
      exact ih
theorem toIntSS_ev (m : List (List Int)) (hs : tiny m) : Ev (fun k => laws_toIntSS.f k m) m := by
  have hn := hs.1
  unfold laws_toIntSS.f
  refine ev_pos (by omega) (ev_pos (by omega) ?_)
  have := toIntSS_l0 m hs m.length 0 (by omega)
  simpa using this
theorem eqIntSS_l0 (m : List (List Int)) (hs : small m) : ∀ d i : Nat, i + d = m.length → Ev (fun k => laws_eqIntSS.l0 k m m i) true
  | 0, i, h => by
    refine Ev.step (f := fun _ => some true) (fun k => ?_) (Ev.now _)
    simp only [laws_eqIntSS.l0]
    rw [if_neg (by omega)]
  | d + 1, i, h => by
    have hn := hs.1
    refine Ev.step (f := fun k => (laws_eqIntS.f k (rd_L1 m i) (rd_L1 m i)).bind fun t => if t = true then laws_eqIntSS.l0 k m m ((i + 1 : Nat) : Int) else some false) (fun k => ?_) ((eqIntS_ev (rd_L1 m i) (hs.2 i (by omega))).bind (ev_pos rfl (eqIntSS_l0 m hs d (i + 1) (by omega))))
    simp only [laws_eqIntSS.l0]
    rw [if_pos (by omega), if_pos (by omega), if_pos (by omega), wsucc (by omega)]
theorem eqIntSS_ev (m : List (List Int)) (hs : small m) : Ev (fun k => laws_eqIntSS.f k m m) true := by
  unfold laws_eqIntSS.f
  exact ev_pos rfl (eqIntSS_l0 m hs m.length 0 (by omega))

/-- How often v stands in a row from place i on, d places. -/
def countRow (v : Int) (r : List Int) : Nat → Nat → Int
  | 0, _ => 0
  | d + 1, i => (if rd r i = v then 1 else 0) + countRow v r d (i + 1)
/-- How often v stands in the rows from y on, d rows. -/
def countRows (v : Int) (m : List (List Int)) : Nat → Nat → Int
  | 0, _ => 0
  | d + 1, y => countRow v (rd_L1 m y) (rd_L1 m y).length 0 + countRows v m d (y + 1)
theorem countRow_in (v : Int) (r : List Int) : ∀ d i, 0 ≤ countRow v r d i ∧ countRow v r d i ≤ d
  | 0, i => by simp [countRow]
  | d + 1, i => by
    have := countRow_in v r d (i + 1)
    unfold countRow
    split <;> omega
/-- The number of v in the rows. -/
def countOf (v : Int) (m : List (List Int)) : Int := countRows v m m.length 0

theorem impl_Count_l1 (v R : Int) (m : List (List Int)) (h : mat 255 m) (y : Nat) (hy : y < m.length) : ∀ (d i : Nat) (s : Int), i + d = (rd_L1 m y).length → 0 ≤ s → s ≤ 2000 + i → Ev (fun k => impl_CountValue.l0 k v (s + countRow v (rd_L1 m y) d i) m (m.length : Int) (wrap64 ((y : Int) + 1))) R → Ev (fun k => impl_CountValue.l1 k v s m (m.length : Int) y (rd_L1 m y) ((rd_L1 m y).length : Int) i) R
  | 0, i, s, hd, h0, h1, e => by
    refine Ev.step (fun k => ?_) e
    simp only [impl_CountValue.l1, countRow]
    rw [if_neg (by omega), Int.add_zero]
  | d + 1, i, s, hd, h0, h1, e => by
    have hl := (h.2 y hy).1
    by_cases c : rd (rd_L1 m y) i = v
    · refine Ev.step (fun k => ?_) (impl_Count_l1 v R m h y hy d (i + 1) (s + 1) (by omega) (by omega) (by omega) ?_)
      · simp only [impl_CountValue.l1]
        rw [if_pos (by omega), if_pos (by omega), if_pos (by omega), if_pos c, w64 (n := s + 1) (by omega) (by omega), wsucc (by omega)]
      · simp only [countRow] at e
        rw [if_pos c, ← Int.add_assoc] at e
        exact e
    · refine Ev.step (fun k => ?_) (impl_Count_l1 v R m h y hy d (i + 1) s (by omega) (by omega) (by omega) ?_)
      · simp only [impl_CountValue.l1]
        rw [if_pos (by omega), if_pos (by omega), if_pos (by omega), if_neg c, wsucc (by omega)]
      · simp only [countRow] at e
        rw [if_neg c, Int.zero_add] at e
        exact e
theorem impl_Count_l0 (v : Int) (m : List (List Int)) (h : mat 255 m) : ∀ (d y : Nat) (s : Int), y + d = m.length → 0 ≤ s → s ≤ 32 * y → Ev (fun k => impl_CountValue.l0 k v s m (m.length : Int) y) (s + countRows v m d y)
  | 0, y, s, hd, h0, h1 => by
    refine Ev.step (f := fun _ => some s) (fun k => ?_) (by simp only [countRows, Int.add_zero]; exact Ev.now _)
    simp only [impl_CountValue.l0]
    rw [if_neg (by omega)]
  | d + 1, y, s, hd, h0, h1 => by
    have hn := h.1
    have hl := (h.2 y (by omega)).1
    have h2 := countRow_in v (rd_L1 m y) (rd_L1 m y).length 0
    refine Ev.step (f := fun k => impl_CountValue.l1 k v s m (m.length : Int) y (rd_L1 m y) ((rd_L1 m y).length : Int) 0) (fun k => ?_) (impl_Count_l1 v _ m h y (by omega) (rd_L1 m y).length 0 s (by omega) h0 (by omega) ?_)
    · simp only [impl_CountValue.l0]
      rw [if_pos (by omega), if_pos (by omega), if_pos (by omega)]
    · rw [wsucc (by omega)]
      simp only [countRows]
      rw [← Int.add_assoc]
      exact impl_Count_l0 v m h d (y + 1) _ (by omega) (by omega) (by omega)
theorem impl_Count_ev (v : Int) (m : List (List Int)) (h : mat 255 m) : Ev (fun k => impl_CountValue.f k m v) (countOf v m) := by
  have := impl_Count_l0 v m h m.length 0 0 (by omega) (by omega) (by omega)
  rw [Int.zero_add] at this
  exact this

theorem within_eq (a b c : Int) : impl_within.f a b c = some (decide (b ≤ a ∧ a ≤ c)) := by
  unfold impl_within.f
  by_cases h : a ≥ b
  · rw [if_pos h]
    simp [show b ≤ a from h]
  · rw [if_neg h]
    simp [show ¬ b ≤ a from h]

theorem impl_rowOk_l0 (a : List Int) (hn : a.length = 32) :
    ∀ d i : Nat, i + d = a.length → (∀ j : Nat, j < i → 0 ≤ rd a j ∧ rd a j ≤ 255) → Ev (fun k => impl_rowOk.l0 k a (a.length : Int) i) (decide (rowP 255 a))
  | 0, i, h, hj => by
    refine Ev.step (f := fun _ => some true) (fun k => ?_) ?_
    · simp only [impl_rowOk.l0]
      rw [if_neg (by omega)]
    · rw [decide_eq_true (show rowP 255 a from ⟨hn, fun j h1 => hj j (by omega)⟩)]
      exact Ev.now _
  | d + 1, i, h, hj => by
    by_cases c : 0 ≤ rd a i ∧ rd a i ≤ 255
    · refine Ev.step (f := fun k => impl_rowOk.l0 k a (a.length : Int) ((i + 1 : Nat) : Int)) (fun k => ?_) (impl_rowOk_l0 a hn d (i + 1) (by omega) (fun j h1 => ?_))
      · simp only [impl_rowOk.l0, within_eq, Option.bind_some]
        rw [if_pos (by omega), if_pos (by omega), if_pos (by omega), if_pos (decide_eq_true c), wsucc (by omega)]
      · by_cases e : j = i
        · subst e
          exact c
        · exact hj j (by omega)
    · refine Ev.step (f := fun _ => some false) (fun k => ?_) ?_
      · simp only [impl_rowOk.l0, within_eq, Option.bind_some]
        rw [if_pos (by omega), if_pos (by omega), if_pos (by omega), if_neg (by simp only [decide_eq_true_eq]; exact c)]
      · rw [decide_eq_false (show ¬ rowP 255 a from fun h3 => c (h3.2 i (by omega)))]
        exact Ev.now _
theorem impl_rowOk_ev (a : List Int) : Ev (fun k => impl_rowOk.f k a) (decide (rowP 255 a)) := by
  unfold impl_rowOk.f
  by_cases c : (a.length : Int) = 32
  · exact ev_pos c (impl_rowOk_l0 a (by omega) a.length 0 (by omega) (fun j h => by omega))
  · rw [decide_eq_false (show ¬ rowP 255 a from fun h => by have := h.1; omega)]
    exact ev_neg c (Ev.now _)
theorem impl_RowsOk_l0 (m : List (List Int)) (hn : m.length ≤ 32) :
    ∀ d i : Nat, i + d = m.length → (∀ j : Nat, j < i → rowP 255 (rd_L1 m j)) → Ev (fun k => impl_RowsOk.l0 k m (m.length : Int) i) (decide (mat 255 m))
  | 0, i, h, hj => by
    refine Ev.step (f := fun _ => some true) (fun k => ?_) ?_
    · simp only [impl_RowsOk.l0]
      rw [if_neg (by omega)]
    · rw [decide_eq_true (show mat 255 m from ⟨hn, fun j h1 => hj j (by omega)⟩)]
      exact Ev.now _
  | d + 1, i, h, hj => by
    refine Ev.step (f := fun k => (impl_rowOk.f k (rd_L1 m i)).bind fun t => if t = true then impl_RowsOk.l0 k m (m.length : Int) ((i + 1 : Nat) : Int) else some false) (fun k => ?_) ((impl_rowOk_ev (rd_L1 m i)).bind ?_)
    · simp only [impl_RowsOk.l0]
      rw [if_pos (by omega), if_pos (by omega), if_pos (by omega), wsucc (by omega)]
    · by_cases c : rowP 255 (rd_L1 m i)
      · refine ev_pos (decide_eq_true c) (impl_RowsOk_l0 m hn d (i + 1) (by omega) (fun j h1 => ?_))
        by_cases e : j = i
        · subst e
          exact c
        · exact hj j (by omega)
      · rw [decide_eq_false (show ¬ mat 255 m from fun h3 => c (h3.2 i (by omega)))]
        exact ev_neg (by simp [c]) (Ev.now _)
theorem impl_RowsOk_ev (m : List (List Int)) : Ev (fun k => impl_RowsOk.f k m) (decide (mat 255 m)) := by
  unfold impl_RowsOk.f
  by_cases c : (m.length : Int) > 32
  · rw [decide_eq_false (show ¬ mat 255 m from fun h => by have := h.1; omega)]
    exact ev_pos c (Ev.now _)
  · exact ev_neg c (impl_RowsOk_l0 m (by omega) m.length 0 (by omega) (fun j h => by omega))

theorem impl_BitsOk_l1 (m : List (List Int)) (h255 : mat 255 m) (y : Nat) (hy : y < m.length) (R : Bool) :
    ∀ d i : Nat, i + d = (rd_L1 m y).length → (∀ j : Nat, j < i → rd (rd_L1 m y) j ≤ 1) → (rowP 1 (rd_L1 m y) → Ev (fun k => impl_BitsOk.l0 k m (m.length : Int) (wrap64 ((y : Int) + 1))) R) → (¬ rowP 1 (rd_L1 m y) → R = false) →
      Ev (fun k => impl_BitsOk.l1 k m (m.length : Int) y (rd_L1 m y) ((rd_L1 m y).length : Int) i) R
  | 0, i, h, hj, h1, h2 => by
    have hr := h255.2 y hy
    refine Ev.step (fun k => ?_) (h1 ⟨hr.1, fun j hj2 => ⟨(hr.2 j hj2).1, hj j (by omega)⟩⟩)
    simp only [impl_BitsOk.l1]
    rw [if_neg (by omega)]
  | d + 1, i, h, hj, h1, h2 => by
    have hr := h255.2 y hy
    have hl := hr.1
    by_cases c : rd (rd_L1 m y) i > 1
    · rw [h2 fun q => by have := (q.2 i (by omega)).2; omega]
      refine Ev.step (f := fun _ => some false) (fun k => ?_) (Ev.now _)
      simp only [impl_BitsOk.l1]
      rw [if_pos (by omega), if_pos (by omega), if_pos (by omega), if_pos c]
    · refine Ev.step (fun k => ?_) (impl_BitsOk_l1 m h255 y hy R d (i + 1) (by omega) (fun j hj2 => ?_) h1 h2)
      · simp only [impl_BitsOk.l1]
        rw [if_pos (by omega), if_pos (by omega), if_pos (by omega), if_neg c, wsucc (by omega)]
      · by_cases e : j = i
        · subst e
          omega
        · exact hj j (by omega)
theorem impl_BitsOk_l0 (m : List (List Int)) (h255 : mat 255 m) : ∀ d i : Nat, i + d = m.length → (∀ j : Nat, j < i → rowP 1 (rd_L1 m j)) → Ev (fun k => impl_BitsOk.l0 k m (m.length : Int) i) (decide (mat 1 m))
  | 0, i, h, hj => by
    have hn := h255.1
    refine Ev.step (f := fun _ => some true) (fun k => ?_) ?_
    · simp only [impl_BitsOk.l0]
      rw [if_neg (by omega)]
    · rw [decide_eq_true (show mat 1 m from ⟨hn, fun j h1 => hj j (by omega)⟩)]
      exact Ev.now _
  | d + 1, i, h, hj => by
    have hn := h255.1
    refine Ev.step (f := fun k => impl_BitsOk.l1 k m (m.length : Int) i (rd_L1 m i) ((rd_L1 m i).length : Int) 0) (fun k => ?_) (impl_BitsOk_l1 m h255 i (by omega) _ (rd_L1 m i).length 0 (by omega) (fun j h1 => by omega) (fun hr => ?_) (fun hr => decide_eq_false fun q => hr (q.2 i (by omega))))
    · simp only [impl_BitsOk.l0]
      rw [if_pos (by omega), if_pos (by omega), if_pos (by omega)]
    · rw [wsucc (by omega)]
      refine impl_BitsOk_l0 m h255 d (i + 1) (by omega) (fun j h1 => ?_)
      by_cases e : j = i
      · subst e
        exact hr
      · exact hj j (by omega)
theorem impl_BitsOk_ev (m : List (List Int)) : Ev (fun k => impl_BitsOk.f k m) (decide (mat 1 m)) := by
  unfold impl_BitsOk.f
  refine (impl_RowsOk_ev m).bind ?_
  by_cases c : mat 255 m
  · exact ev_pos (decide_eq_true c) (impl_BitsOk_l0 m c m.length 0 (by omega) (fun j h => by omega))
  · rw [decide_eq_false (show ¬ mat 1 m from fun h => c (mat_mono (by omega) h))]
    exact ev_neg (by simp [c]) (Ev.now _)

theorem impl_Ones_ev (m : List (List Int)) : Ev (fun k => impl_CountOnes.f k m) (if mat 1 m then countOf 1 m else 0) := by
  unfold impl_CountOnes.f
  refine (impl_BitsOk_ev m).bind ?_
  by_cases c : mat 1 m
  · rw [if_pos (c := mat 1 m) c]
    exact ev_pos (decide_eq_true c) ((impl_Count_ev 1 m (mat_mono (by omega) c)).bind (Ev.now _))
  · rw [if_neg (c := mat 1 m) c]
    exact ev_neg (by simp [c]) (Ev.now _)

theorem spec_Count_l1 (v R : Int) (m : List (List Int)) (h : mat 255 m) (y : Nat) (hy : y < m.length) : ∀ (d i : Nat) (s : Int), i + d = (rd_L1 m y).length → 0 ≤ s → s ≤ 2000 + i → Ev (fun k => spec_CountValue.l0 k m v (s + countRow v (rd_L1 m y) d i) (wrap64 ((y : Int) + 1))) R → Ev (fun k => spec_CountValue.l1 k m v s y i) R
  | 0, i, s, hd, h0, h1, e => by
    refine Ev.step (fun k => ?_) e
    simp only [spec_CountValue.l1, countRow]
    rw [if_pos (by omega), if_pos (by omega), if_neg (by omega), Int.add_zero]
  | d + 1, i, s, hd, h0, h1, e => by
    have hl := (h.2 y hy).1
    by_cases c : rd (rd_L1 m y) i = v
    · refine Ev.step (fun k => ?_) (spec_Count_l1 v R m h y hy d (i + 1) (s + 1) (by omega) (by omega) (by omega) ?_)
      · simp only [spec_CountValue.l1]
        rw [if_pos (by omega), if_pos (by omega), if_pos (by omega), if_pos (by omega), if_pos c, w64 (n := s + 1) (by omega) (by omega), wsucc (by omega)]
      · simp only [countRow] at e
        rw [if_pos c, ← Int.add_assoc] at e
        exact e
    · refine Ev.step (fun k => ?_) (spec_Count_l1 v R m h y hy d (i + 1) s (by omega) (by omega) (by omega) ?_)
      · simp only [spec_CountValue.l1]
        rw [if_pos (by omega), if_pos (by omega), if_pos (by omega), if_pos (by omega), if_neg c, wsucc (by omega)]
      · simp only [countRow] at e
        rw [if_neg c, Int.zero_add] at e
        exact e
theorem spec_Count_l0 (v : Int) (m : List (List Int)) (h : mat 255 m) : ∀ (d y : Nat) (s : Int), y + d = m.length → 0 ≤ s → s ≤ 32 * y → Ev (fun k => spec_CountValue.l0 k m v s y) (s + countRows v m d y)
  | 0, y, s, hd, h0, h1 => by
    refine Ev.step (f := fun _ => some s) (fun k => ?_) (by simp only [countRows, Int.add_zero]; exact Ev.now _)
    simp only [spec_CountValue.l0]
    rw [if_neg (by omega)]
  | d + 1, y, s, hd, h0, h1 => by
    have hn := h.1
    have hl := (h.2 y (by omega)).1
    have h2 := countRow_in v (rd_L1 m y) (rd_L1 m y).length 0
    refine Ev.step (f := fun k => spec_CountValue.l1 k m v s y 0) (fun k => ?_) (spec_Count_l1 v _ m h y (by omega) (rd_L1 m y).length 0 s (by omega) h0 (by omega) ?_)
    · simp only [spec_CountValue.l0]
      rw [if_pos (by omega)]
    · rw [wsucc (by omega)]
      simp only [countRows]
      rw [← Int.add_assoc]
      exact spec_Count_l0 v m h d (y + 1) _ (by omega) (by omega) (by omega)
theorem spec_Count_ev (v : Int) (m : List (List Int)) (h : mat 255 m) : Ev (fun k => spec_CountValue.f k m v) (countOf v m) := by
  have := spec_Count_l0 v m h m.length 0 0 (by omega) (by omega) (by omega)
  rw [Int.zero_add] at this
  exact this

theorem l01In_eq (a b c : Int) : spec_l01In.f a b c = some (decide (b ≤ a ∧ a ≤ c)) := by
  unfold spec_l01In.f
  by_cases h : a ≥ b
  · rw [if_pos h]
    simp [show b ≤ a from h]
  · rw [if_neg h]
    simp [show ¬ b ≤ a from h]

theorem spec_l11Row_l0 (a : List Int) (hn : a.length ≤ 1099511627776) :
    ∀ d i : Nat, i + d = a.length → (∀ j : Nat, j < i → 0 ≤ rd a j ∧ rd a j ≤ 255) → Ev (fun k => spec_l11Row.l0 k a i) (decide (rowP 255 a))
  | 0, i, h, hj => by
    refine Ev.step (f := fun _ => some ((a.length : Int) == 32)) (fun k => ?_) ?_
    · simp only [spec_l11Row.l0]
      rw [if_neg (by omega)]
    · rw [show ((a.length : Int) == 32) = decide (rowP 255 a) from by
        rw [Bool.eq_iff_iff]
        simp only [beq_iff_eq, decide_eq_true_eq]
        exact ⟨fun q => ⟨by omega, fun j h1 => hj j (by omega)⟩, fun q => by rw [q.1]; rfl⟩]
      exact Ev.now _
  | d + 1, i, h, hj => by
    by_cases c : 0 ≤ rd a i ∧ rd a i ≤ 255
    · refine Ev.step (f := fun k => spec_l11Row.l0 k a ((i + 1 : Nat) : Int)) (fun k => ?_) (spec_l11Row_l0 a hn d (i + 1) (by omega) (fun j h1 => ?_))
      · simp only [spec_l11Row.l0, l01In_eq, Option.bind_some]
        rw [if_pos (by omega), if_pos (by omega), if_pos (decide_eq_true c), wsucc (by omega)]
      · by_cases e : j = i
        · subst e
          exact c
        · exact hj j (by omega)
    · refine Ev.step (f := fun _ => some false) (fun k => ?_) ?_
      · simp only [spec_l11Row.l0, l01In_eq, Option.bind_some]
        rw [if_pos (by omega), if_pos (by omega), if_neg (by simp only [decide_eq_true_eq]; exact c)]
      · rw [decide_eq_false (show ¬ rowP 255 a from fun h3 => c (h3.2 i (by omega)))]
        exact Ev.now _
theorem spec_l11Row_ev (a : List Int) (hn : a.length ≤ 1099511627776) : Ev (fun k => spec_l11Row.f k a) (decide (rowP 255 a)) :=
  spec_l11Row_l0 a hn a.length 0 (by omega) (fun j h => by omega)
theorem spec_RowsOk_l0 (m : List (List Int)) (hs : small m) :
    ∀ d i : Nat, i + d = m.length → (∀ j : Nat, j < i → rowP 255 (rd_L1 m j)) → Ev (fun k => spec_RowsOk.l0 k m i) (decide (mat 255 m))
  | 0, i, h, hj => by
    refine Ev.step (f := fun _ => some (decide ((m.length : Int) ≤ 32))) (fun k => ?_) ?_
    · simp only [spec_RowsOk.l0]
      rw [if_neg (by omega)]
    · rw [show decide ((m.length : Int) ≤ 32) = decide (mat 255 m) from decide_eq_decide.mpr ⟨fun q => ⟨by omega, fun j h1 => hj j (by omega)⟩, fun q => by have := q.1; omega⟩]
      exact Ev.now _
  | d + 1, i, h, hj => by
    have hn := hs.1
    refine Ev.step (f := fun k => (spec_l11Row.f k (rd_L1 m i)).bind fun t => if t = true then spec_RowsOk.l0 k m ((i + 1 : Nat) : Int) else some false) (fun k => ?_) ((spec_l11Row_ev (rd_L1 m i) (hs.2 i (by omega))).bind ?_)
    · simp only [spec_RowsOk.l0]
      rw [if_pos (by omega), if_pos (by omega), wsucc (by omega)]
    · by_cases c : rowP 255 (rd_L1 m i)
      · refine ev_pos (decide_eq_true c) (spec_RowsOk_l0 m hs d (i + 1) (by omega) (fun j h1 => ?_))
        by_cases e : j = i
        · subst e
          exact c
        · exact hj j (by omega)
      · rw [decide_eq_false (show ¬ mat 255 m from fun h3 => c (h3.2 i (by omega)))]
        exact ev_neg (by simp [c]) (Ev.now _)
theorem spec_RowsOk_ev (m : List (List Int)) (hs : small m) : Ev (fun k => spec_RowsOk.f k m) (decide (mat 255 m)) :=
  spec_RowsOk_l0 m hs m.length 0 (by omega) (fun j h => by omega)

theorem spec_BitsOk_l1 (m : List (List Int)) (hs : small m) (y : Nat) (hy : y < m.length) (R : Bool) :
    ∀ d i : Nat, i + d = (rd_L1 m y).length → (∀ j : Nat, j < i → 0 ≤ rd (rd_L1 m y) j ∧ rd (rd_L1 m y) j ≤ 1) → ((∀ j : Nat, j < (rd_L1 m y).length → 0 ≤ rd (rd_L1 m y) j ∧ rd (rd_L1 m y) j ≤ 1) → Ev (fun k => spec_BitsOk.l0 k m (wrap64 ((y : Int) + 1))) R) → (¬ rowP 1 (rd_L1 m y) → R = false) →
      Ev (fun k => spec_BitsOk.l1 k m y i) R
  | 0, i, h, hj, h1, h2 => by
    refine Ev.step (fun k => ?_) (h1 fun j hj2 => hj j (by omega))
    simp only [spec_BitsOk.l1]
    rw [if_pos (by omega), if_pos (by omega), if_neg (by omega)]
  | d + 1, i, h, hj, h1, h2 => by
    have hl := hs.2 y hy
    by_cases c : 0 ≤ rd (rd_L1 m y) i ∧ rd (rd_L1 m y) i ≤ 1
    · refine Ev.step (fun k => ?_) (spec_BitsOk_l1 m hs y hy R d (i + 1) (by omega) (fun j hj2 => ?_) h1 h2)
      · simp only [spec_BitsOk.l1, l01In_eq, Option.bind_some]
        rw [if_pos (by omega), if_pos (by omega), if_pos (by omega), if_pos (by omega), if_pos (decide_eq_true c), wsucc (by omega)]
      · by_cases e : j = i
        · subst e
          exact c
        · exact hj j (by omega)
    · rw [h2 fun q => c (q.2 i (by omega))]
      refine Ev.step (f := fun _ => some false) (fun k => ?_) (Ev.now _)
      simp only [spec_BitsOk.l1, l01In_eq, Option.bind_some]
      rw [if_pos (by omega), if_pos (by omega), if_pos (by omega), if_pos (by omega), if_neg (by simp only [decide_eq_true_eq]; exact c)]
theorem spec_BitsOk_l0 (m : List (List Int)) (hs : small m) : ∀ d i : Nat, i + d = m.length → (∀ j : Nat, j < i → ∀ x : Nat, x < (rd_L1 m j).length → 0 ≤ rd (rd_L1 m j) x ∧ rd (rd_L1 m j) x ≤ 1) → Ev (fun k => spec_BitsOk.l0 k m i) (decide (mat 1 m))
  | 0, i, h, hj => by
    refine Ev.step (f := fun k => (spec_RowsOk.f k m).bind fun t => some t) (fun k => ?_) ((spec_RowsOk_ev m hs).bind ?_)
    · simp only [spec_BitsOk.l0]
      rw [if_neg (by omega)]
    · rw [show decide (mat 255 m) = decide (mat 1 m) from decide_eq_decide.mpr ⟨fun q => ⟨q.1, fun j h1 => ⟨(q.2 j h1).1, fun x hx => hj j (by omega) x hx⟩⟩, fun q => mat_mono (by omega) q⟩]
      exact Ev.now _
  | d + 1, i, h, hj => by
    have hn := hs.1
    refine Ev.step (f := fun k => spec_BitsOk.l1 k m i 0) (fun k => ?_) (spec_BitsOk_l1 m hs i (by omega) _ (rd_L1 m i).length 0 (by omega) (fun j h1 => by omega) (fun hr => ?_) (fun hr => decide_eq_false fun q => hr (q.2 i (by omega))))
    · simp only [spec_BitsOk.l0]
      rw [if_pos (by omega)]
    · rw [wsucc (by omega)]
      refine spec_BitsOk_l0 m hs d (i + 1) (by omega) (fun j h1 => ?_)
      by_cases e : j = i
      · subst e
        exact hr
      · exact hj j (by omega)
theorem spec_BitsOk_ev (m : List (List Int)) (hs : small m) : Ev (fun k => spec_BitsOk.f k m) (decide (mat 1 m)) :=
  spec_BitsOk_l0 m hs m.length 0 (by omega) (fun j h => by omega)

theorem spec_Ones_ev (m : List (List Int)) (hs : small m) : Ev (fun k => spec_CountOnes.f k m) (if mat 1 m then countOf 1 m else 0) := by
  unfold spec_CountOnes.f
  refine (spec_BitsOk_ev m hs).bind ?_
  by_cases c : mat 1 m
  · rw [if_pos (c := mat 1 m) c]
    exact ev_pos (decide_eq_true c) ((spec_Count_ev 1 m (mat_mono (by omega) c)).bind (Ev.now _))
  · rw [if_neg (c := mat 1 m) c]
    exact ev_neg (by simp [c]) (Ev.now _)

theorem FnExactCountOnes : FnExactCountOnesPure := by
  intro m hm hw
  refine Ev.rounds ?_
  unfold laws_FnExactCountOnes.f
  obtain ⟨r, e, h⟩ := szIntSS_ev m 1048576 (by omega) (by omega) hm (fun r hr => (hw r hr).1)
  refine e.bind ?_
  rcases h with h | ⟨h0, h1, ht⟩
  · exact ev_pos h (Ev.now _)
  refine ev_neg (by omega) ?_
  have t := toIntSS_ev m ht
  refine t.bind ((spec_Ones_ev m (tiny_small ht)).bind (t.bind ((impl_Ones_ev m).bind (ev_pos rfl ?_))))
  exact t.bind ((eqIntSS_ev m (tiny_small ht)).bind (ev_pos rfl (Ev.now _)))

end Go.Proofs.Ytophklfiooklbaa.Pure
