/-
  The program's CountInk gives the number that the reference gives for all rows, and leaves them as they were.
-/
import Derived.Test.YtophklfiooklbaaPFnExactCountInkx4
import Derived.Test.YtophklfiooklbaaWSized
import Derived.Test.YtophklfiooklbaaOpenFnExactCountInk
namespace Go.Proofs.Ytophklfiooklbaa.Pure
open Go.RowKit Go.Proofs.Ytophklfiooklbaa.PFnExactCountInk Go.Proofs.YtophklfiooklbaaW.PrintWords Go.Proofs.YtophklfiooklbaaW.PrintLast Go.Proofs.YtophklfiooklbaaW.PrintMore Go.Proofs.Ytophklfiooklbaa.OpenFnExactCountInk
set_option linter.unusedVariables false
set_option linter.unusedSimpArgs false

theorem w64 {n : Int} (h1 : -9223372036854775808 ≤ n) (h2 : n ≤ 9223372036854775807) : wrap64 n = n := by
  unfold wrap64
  omega
theorem wsucc {i : Nat} (h : i ≤ 4611686018427387904) : wrap64 ((i : Int) + 1) = ((i + 1 : Nat) : Int) := by
  rw [w64 (by omega) (by omega)]
  omega
theorem rd_nat (l : List Int) (i : Nat) : rd l (i : Int) = l.getD i 0 := by simp [rd]
theorem getD_drop (l : List Int) (i : Nat) (h : i < l.length) : l.drop i = l.getD i 0 :: l.drop (i + 1) := by
  rw [List.drop_eq_getElem_cons h]
  simp [List.getD_eq_getElem?_getD, List.getElem?_eq_getElem h]
theorem getD_take (l : List Int) (i : Nat) (h : i < l.length) : l.take (i + 1) = l.take i ++ [l.getD i 0] := by
  rw [List.take_succ_eq_append_getElem h]
  simp [List.getD_eq_getElem?_getD, List.getElem?_eq_getElem h]
theorem set_mid (p q : List Int) (u v : Int) (i : Nat) (h : p.length = i) : (p ++ u :: q).set i v = p ++ v :: q := by
  subst h
  simp [List.set_append_right]
theorem bind_id {α : Type} {g : Nat → Option α} {r : α} (h : Ev g r) : Ev (fun n => (g n).bind fun x => some x) r := by
  obtain ⟨K, h⟩ := h
  exact ⟨K, fun k hk => by simp [h k hk]⟩
theorem ev_pos {α : Type} {c : Prop} [Decidable c] {f g : Nat → Option α} {r : α} (h : c) (k : Ev f r) : Ev (fun n => if c then f n else g n) r := Ev.congr (fun n => if_pos h) k
theorem ev_neg {α : Type} {c : Prop} [Decidable c] {f g : Nat → Option α} {r : α} (h : ¬ c) (k : Ev g r) : Ev (fun n => if c then f n else g n) r := Ev.congr (fun n => if_neg h) k
theorem ev_eq {α β : Type} {g : Option α} {f : Nat → α → Option β} {a : α} {r : β} (h : g = some a) (k : Ev (fun n => f n a) r) : Ev (fun n => g.bind (f n)) r := by
  subst h
  exact k
theorem td {v : Int} (h : 0 ≤ v) (c : Int) : Int.tdiv v c = v / c := Int.tdiv_eq_ediv_of_nonneg h
theorem tm {v : Int} (h : 0 ≤ v) (c : Int) : Int.tmod v c = v % c := Int.tmod_eq_emod_of_nonneg h

/-- A row of 32 values from 0 to hi. -/
def rowP (hi : Int) (r : List Int) : Prop := r.length = 32 ∧ ∀ i : Nat, i < r.length → 0 ≤ rd r i ∧ rd r i ≤ hi
/-- At most 32 such rows. -/
def mat (hi : Int) (m : List (List Int)) : Prop := m.length ≤ 32 ∧ ∀ j : Nat, j < m.length → rowP hi (rd_L1 m j)
instance (hi : Int) (r : List Int) : Decidable (rowP hi r) := by
  unfold rowP
  infer_instance
instance (hi : Int) (m : List (List Int)) : Decidable (mat hi m) := by
  unfold mat
  infer_instance
theorem rowP_mono {a b : Int} (h : a ≤ b) {r : List Int} (hr : rowP a r) : rowP b r := ⟨hr.1, fun i hi => ⟨(hr.2 i hi).1, by have := (hr.2 i hi).2; omega⟩⟩
theorem mat_mono {a b : Int} (h : a ≤ b) {m : List (List Int)} (hm : mat a m) : mat b m := ⟨hm.1, fun j hj => rowP_mono h (hm.2 j hj)⟩
/-- Rows that are not too long to be counted. -/
def small (m : List (List Int)) : Prop := m.length ≤ 1099511627776 ∧ ∀ j : Nat, j < m.length → (rd_L1 m j).length ≤ 1099511627776

theorem eqIntS_l0 (a : List Int) (hn : a.length ≤ 1099511627776) :
    ∀ d i : Nat, i + d = a.length → Ev (fun k => laws_eqIntS.l0 k a a i) true
  | 0, i, h => by
    refine Ev.step (f := fun _ => some true) (fun k => ?_) (Ev.now _)
    simp only [laws_eqIntS.l0]
    rw [if_neg (by omega)]
  | d + 1, i, h => by
    refine Ev.step (f := fun k => laws_eqIntS.l0 k a a ((i + 1 : Nat) : Int)) (fun k => ?_) (eqIntS_l0 a hn d (i + 1) (by omega))
    simp only [laws_eqIntS.l0]
    rw [if_pos (by omega), if_pos (by omega), if_pos (by omega), if_pos trivial, wsucc (by omega)]
theorem eqIntS_ev (a : List Int) (hn : a.length ≤ 1099511627776) : Ev (fun k => laws_eqIntS.f k a a) true := by
  refine Ev.congr (f := fun k => laws_eqIntS.l0 k a a 0) (fun k => ?_) (eqIntS_l0 a hn a.length 0 (by omega))
  unfold laws_eqIntS.f
  rw [if_pos rfl]

theorem toIntS_l0 (a : List Int) (hn : a.length ≤ 1099511627776) :
    ∀ d i : Nat, i + d = a.length → Ev (fun k => laws_toIntS.l0 k a (a.take i ++ List.replicate d 0) i) a
  | 0, i, h => by
    refine Ev.step (f := fun _ => some a) (fun k => ?_) (Ev.now _)
    simp only [laws_toIntS.l0]
    rw [if_neg (by omega)]
    simp [List.take_of_length_le (show a.length ≤ i by omega)]
  | d + 1, i, h => by
    refine Ev.step (f := fun k => laws_toIntS.l0 k a (a.take (i + 1) ++ List.replicate d 0) ((i + 1 : Nat) : Int)) (fun k => ?_) (toIntS_l0 a hn d (i + 1) (by omega))
    simp only [laws_toIntS.l0]
    rw [if_pos (by omega), if_pos (by omega), if_pos (by simp; omega), wsucc (by omega), rd_nat, List.replicate_succ, Int.toNat_natCast, set_mid _ _ _ _ _ (by simp; omega), getD_take a i (by omega)]
    simp
theorem toIntS_ev (a : List Int) (hn : a.length ≤ 1099511627776) : Ev (fun k => laws_toIntS.f k a) a := by
  refine Ev.congr (f := fun k => laws_toIntS.l0 k a (a.take 0 ++ List.replicate a.length 0) 0) (fun k => ?_) (toIntS_l0 a hn a.length 0 (by omega))
  unfold laws_toIntS.f
  rw [if_pos (by omega), if_pos (by omega)]
  simp

theorem szIntSS_l0 (m : List (List Int)) (hg : ∀ r ∈ m, r.length ≤ 9223372036854775807) (hn : m.length ≤ 1099511627776) : ∀ (d i : Nat) (left : Int), i + d = m.length → 0 ≤ left → left ≤ 1048576 →
    ∃ r, Ev (fun k => laws_szIntSS.l0 k m left i) r ∧ (r < 0 ∨ (0 ≤ r ∧ r ≤ left ∧ ∀ j : Nat, i ≤ j → j < m.length → (rd_L1 m j).length ≤ 1048576))
  | 0, i, left, hd, h0, h1 => by
    refine ⟨left, Ev.step (f := fun _ => some left) (fun k => ?_) (Ev.now _), .inr ⟨h0, Int.le_refl _, fun j _ _ => by omega⟩⟩
    simp only [laws_szIntSS.l0]
    rw [if_neg (by omega)]
  | d + 1, i, left, hd, h0, h1 => by
    have hm : (rd_L1 m i) ∈ m := by
      unfold rd_L1
      rw [Int.toNat_natCast, List.getD_eq_getElem?_getD, List.getElem?_eq_getElem (show i < m.length by omega)]
      simp
    have hl := hg _ hm
    have e : laws_szIntS.f (rd_L1 m i) left = some (if left - ((rd_L1 m i).length : Int) < 0 then -1 else left - ((rd_L1 m i).length : Int)) := by
      unfold laws_szIntS.f
      rw [w64 (by omega) (by omega)]
      by_cases c : left - ((rd_L1 m i).length : Int) < 0
      · rw [if_pos c, if_pos c]
      · rw [if_neg c, if_neg c]
    by_cases c : left - ((rd_L1 m i).length : Int) < 0
    · rw [if_pos c] at e
      refine ⟨-1, Ev.step (f := fun _ => some (-1)) (fun k => ?_) (Ev.now _), .inl (by omega)⟩
      simp only [laws_szIntSS.l0, e, Option.bind_some]
      rw [if_pos (by omega), if_pos (by omega), if_pos (by omega)]
    · rw [if_neg c] at e
      obtain ⟨r, h2, h3⟩ := szIntSS_l0 m hg hn d (i + 1) (left - ((rd_L1 m i).length : Int)) (by omega) (by omega) (by omega)
      refine ⟨r, Ev.step (fun k => ?_) h2, ?_⟩
      · simp only [laws_szIntSS.l0, e, Option.bind_some]
        rw [if_pos (by omega), if_pos (by omega), if_neg c, wsucc (by omega)]
      · rcases h3 with h3 | ⟨h3, h4, h5⟩
        · exact .inl h3
        · refine .inr ⟨h3, by omega, fun j hj1 hj2 => ?_⟩
          by_cases q : j = i
          · subst q
            omega
          · exact h5 j (by omega) hj2
/-- Rows whose lengths, and their number, are at most 1048576. -/
def tiny (m : List (List Int)) : Prop := m.length ≤ 1048576 ∧ ∀ j : Nat, j < m.length → (rd_L1 m j).length ≤ 1048576
theorem tiny_small {m : List (List Int)} (h : tiny m) : small m := ⟨by have := h.1; omega, fun j hj => by have := h.2 j hj; omega⟩
/-- The measuring of a law's rows: too much, or all of them are short. -/
theorem szIntSS_ev (m : List (List Int)) (left : Int) (h0 : 0 ≤ left) (h1 : left ≤ 1048576) (hm : m.length ≤ 9223372036854775807) (hg : ∀ r ∈ m, r.length ≤ 9223372036854775807) : ∃ r, Ev (fun k => laws_szIntSS.f k m left) r ∧ (r < 0 ∨ (0 ≤ r ∧ r ≤ left ∧ tiny m)) := by
  unfold laws_szIntSS.f
  rw [w64 (by omega) (by omega)]
  by_cases c : left - (m.length : Int) < 0
  · exact ⟨-1, ev_pos c (Ev.now _), .inl (by omega)⟩
  · obtain ⟨r, e, h⟩ := szIntSS_l0 m hg (by omega) m.length 0 (left - (m.length : Int)) (by omega) (by omega) (by omega)
    refine ⟨r, ev_neg c e, ?_⟩
    rcases h with h | ⟨h2, h3, h4⟩
    · exact .inl h
    · exact .inr ⟨h2, by omega, by omega, fun j hj => h4 j (by omega) hj⟩
theorem rows_mem {m : List (List Int)} {j : Nat} (hj : j < m.length) : rd_L1 m j = m[j] := by
  unfold rd_L1
  rw [Int.toNat_natCast, List.getD_eq_getElem?_getD, List.getElem?_eq_getElem hj]
  rfl
theorem set_midL (p q : List (List Int)) (u v : List Int) (i : Nat) (h : p.length = i) : (p ++ u :: q).set i v = p ++ v :: q := by
  subst h
  simp [List.set_append_right]
theorem toIntSS_l0 (m : List (List Int)) (hs : tiny m) : ∀ d i : Nat, i + d = m.length → Ev (fun k => laws_toIntSS.l0 k m (m.take i ++ List.replicate d []) i) m
  | 0, i, h => by
    refine Ev.step (f := fun _ => some m) (fun k => ?_) (Ev.now _)
    simp only [laws_toIntSS.l0]
    rw [if_neg (by omega)]
    simp [List.take_of_length_le (show m.length ≤ i by omega)]
  | d + 1, i, h => by
    have hn := hs.1
    have hl := hs.2 i (by omega)
    have ih := toIntSS_l0 m hs d (i + 1) (by omega)
    refine Ev.step (f := fun k => (laws_toIntS.f k (rd_L1 m i)).bind fun t => laws_toIntSS.l0 k m ((m.take i ++ List.replicate (d + 1) []).set i t) ((i + 1 : Nat) : Int)) (fun k => ?_) ((toIntS_ev (rd_L1 m i) (by omega)).bind ?_)
    · simp only [laws_toIntSS.l0]
      rw [if_pos (by omega), if_pos (by omega), wsucc (by omega)]
      congr 1
      funext t
      rw [if_pos (by simp; omega)]
      rfl
    · have e : (m.take i ++ List.replicate (d + 1) []).set i (rd_L1 m i) = m.take (i + 1) ++ List.replicate d [] := by
        rw [List.replicate_succ, set_midL _ _ _ _ _ (by simp; omega), List.take_succ_eq_append_getElem (show i < m.length by omega), rows_mem (by omega), List.append_assoc]
        rfl
      simp only [e]
      exact ih
theorem toIntSS_ev (m : List (List Int)) (hs : tiny m) : Ev (fun k => laws_toIntSS.f k m) m := by
  have hn := hs.1
  unfold laws_toIntSS.f
  refine ev_pos (by omega) (ev_pos (by omega) ?_)
  have := toIntSS_l0 m hs m.length 0 (by omega)
  simpa using this
theorem eqIntSS_l0 (m : List (List Int)) (hs : small m) : ∀ d i : Nat, i + d = m.length → Ev (fun k => laws_eqIntSS.l0 k m m i) true
  | 0, i, h => by
    refine Ev.step (f := fun _ => some true) (fun k => ?_) (Ev.now _)
    simp only [laws_eqIntSS.l0]
    rw [if_neg (by omega)]
  | d + 1, i, h => by
    have hn := hs.1
    refine Ev.step (f := fun k => (laws_eqIntS.f k (rd_L1 m i) (rd_L1 m i)).bind fun t => if t = true then laws_eqIntSS.l0 k m m ((i + 1 : Nat) : Int) else some false) (fun k => ?_) ((eqIntS_ev (rd_L1 m i) (hs.2 i (by omega))).bind (ev_pos rfl (eqIntSS_l0 m hs d (i + 1) (by omega))))
    simp only [laws_eqIntSS.l0]
    rw [if_pos (by omega), if_pos (by omega), if_pos (by omega), wsucc (by omega)]
theorem eqIntSS_ev (m : List (List Int)) (hs : small m) : Ev (fun k => laws_eqIntSS.f k m m) true := by
  unfold laws_eqIntSS.f
  exact ev_pos rfl (eqIntSS_l0 m hs m.length 0 (by omega))

/-- Rows of 32 values, told dot by dot. -/
def tabRow (F : Nat → Nat → Int) (y n : Nat) : List Int := (List.range n).map (F y)
def tab (F : Nat → Nat → Int) (n : Nat) : List (List Int) := (List.range n).map fun y => tabRow F y 32
theorem tabRow_snoc (F : Nat → Nat → Int) (y n : Nat) : tabRow F y (n + 1) = tabRow F y n ++ [F y n] := by simp [tabRow, List.range_succ]
theorem tabRow_length (F : Nat → Nat → Int) (y n : Nat) : (tabRow F y n).length = n := by simp [tabRow]
theorem tab_snoc (F : Nat → Nat → Int) (n : Nat) : tab F (n + 1) = tab F n ++ [tabRow F n 32] := by simp [tab, List.range_succ]
theorem tab_length (F : Nat → Nat → Int) (n : Nat) : (tab F n).length = n := by simp [tab]
theorem tab_row (F : Nat → Nat → Int) {n y : Nat} (h : y < n) : rd_L1 (tab F n) y = tabRow F y 32 := by
  rw [rows_mem (by rw [tab_length]; exact h)]
  simp [tab]
theorem tabRow_get (F : Nat → Nat → Int) (y : Nat) {n x : Nat} (h : x < n) : rd (tabRow F y n) x = F y x := by
  rw [rd_nat, List.getD_eq_getElem?_getD, List.getElem?_eq_getElem (by rw [tabRow_length]; exact h)]
  simp [tabRow]
theorem rows_mid (p q : List (List Int)) (u : List Int) (i : Nat) (h : p.length = i) : rd_L1 (p ++ u :: q) i = u := by
  subst h
  simp [rd_L1]
theorem dots_mid (p q : List Int) (u : Int) (i : Nat) (h : p.length = i) : rd (p ++ u :: q) i = u := by
  subst h
  simp [rd_nat]
theorem rows_drop (m : List (List Int)) {i : Nat} (h : i < m.length) : m.drop i = rd_L1 m i :: m.drop (i + 1) := by
  rw [List.drop_eq_getElem_cons h, rows_mem h]
theorem dots_drop (r : List Int) {i : Nat} (h : i < r.length) : r.drop i = rd r i :: r.drop (i + 1) := by
  rw [getD_drop r i h, rd_nat]
theorem tab_small (F : Nat → Nat → Int) (n : Nat) (h : n ≤ 32) : small (tab F n) := by
  refine ⟨by rw [tab_length]; omega, fun j hj => ?_⟩
  rw [tab_length] at hj
  rw [tab_row F hj, tabRow_length]
  omega
theorem tab_total (F : Nat → Nat → Int) (n : Nat) (h : n ≤ 32) : True := trivial
theorem small_total {m : List (List Int)} (h : m.length ≤ 32) (h2 : ∀ j : Nat, j < m.length → (rd_L1 m j).length ≤ 32) : m.length ≤ 1048576 ∧ ∀ j : Nat, j < m.length → (rd_L1 m j).length ≤ 1048576 := ⟨by omega, fun j hj => by have := h2 j hj; omega⟩
theorem tab_tiny (F : Nat → Nat → Int) (n : Nat) (h : n ≤ 32) : tiny (tab F n) := by
  refine ⟨by rw [tab_length]; omega, fun j hj => ?_⟩
  rw [tab_length] at hj
  rw [tab_row F hj, tabRow_length]
  omega
theorem mat_dot {hi : Int} {m : List (List Int)} (h : mat hi m) {y x : Nat} (hy : y < m.length) (hx : x < 32) : 0 ≤ rd (rd_L1 m y) x ∧ rd (rd_L1 m y) x ≤ hi := (h.2 y hy).2 x (by rw [(h.2 y hy).1]; exact hx)
theorem tab_mat (F : Nat → Nat → Int) (n : Nat) (hi : Int) (h : n ≤ 32) (hF : ∀ y x, y < n → x < 32 → 0 ≤ F y x ∧ F y x ≤ hi) : mat hi (tab F n) := by
  refine ⟨by rw [tab_length]; exact h, fun j hj => ?_⟩
  rw [tab_length] at hj
  rw [tab_row F hj]
  refine ⟨tabRow_length _ _ _, fun i h1 => ?_⟩
  rw [tabRow_length] at h1
  rw [tabRow_get F j h1]
  exact hF j i hj h1

def planeF (p : Int) (m : List (List Int)) (y x : Nat) : Int := Go.bits .and .i64 (shr .i64 (rd (rd_L1 m y) x) p) 1

/-- f 0 + .. + f (n - 1). -/
def S (f : Nat → Int) : Nat → Int
  | 0 => 0
  | n + 1 => S f n + f n
theorem S_congr {f g : Nat → Int} : ∀ {n : Nat}, (∀ i, i < n → f i = g i) → S f n = S g n
  | 0, _ => rfl
  | n + 1, h => by
    simp only [S]
    rw [S_congr (fun i hi => h i (by omega)), h n (by omega)]
theorem S_shift (f : Nat → Int) : ∀ n : Nat, S f (n + 1) = f 0 + S (fun i => f (i + 1)) n
  | 0 => by simp [S]
  | n + 1 => by
    rw [S, S_shift f n]
    simp only [S]
    omega
theorem S_rev (f : Nat → Int) : ∀ n : Nat, S (fun i => f (n - 1 - i)) n = S f n
  | 0 => rfl
  | n + 1 => by
    rw [S_shift, S, Int.add_comm, show n + 1 - 1 - 0 = n by omega]
    congr 1
    rw [← S_rev f n]
    exact S_congr fun i _ => by rw [show n + 1 - 1 - (i + 1) = n - 1 - i by omega]
theorem S_add (f g : Nat → Int) : ∀ n : Nat, S (fun i => f i + g i) n = S f n + S g n
  | 0 => rfl
  | n + 1 => by
    simp only [S]
    rw [S_add f g n]
    omega
theorem S_zero : ∀ n : Nat, S (fun _ => 0) n = 0
  | 0 => rfl
  | n + 1 => by
    simp only [S]
    rw [S_zero n]
    rfl
theorem S_swap (F : Nat → Nat → Int) (m : Nat) : ∀ n : Nat, S (fun y => S (fun x => F x y) m) n = S (fun x => S (fun y => F x y) n) m
  | 0 => by
    simp only [S]
    rw [S_zero]
  | n + 1 => by
    simp only [S]
    rw [S_swap F m n, S_add]
theorem S_le {f g : Nat → Int} : ∀ {n : Nat}, (∀ i, i < n → f i ≤ g i) → S f n ≤ S g n
  | 0, _ => Int.le_refl _
  | n + 1, h => by
    simp only [S]
    have := S_le (n := n) (fun i hi => h i (by omega))
    have := h n (by omega)
    omega

/-- How often v stands in a row from place i on, d places. -/
def countRow (v : Int) (r : List Int) : Nat → Nat → Int
  | 0, _ => 0
  | d + 1, i => (if rd r i = v then 1 else 0) + countRow v r d (i + 1)
/-- How often v stands in the rows from y on, d rows. -/
def countRows (v : Int) (m : List (List Int)) : Nat → Nat → Int
  | 0, _ => 0
  | d + 1, y => countRow v (rd_L1 m y) (rd_L1 m y).length 0 + countRows v m d (y + 1)
theorem countRow_in (v : Int) (r : List Int) : ∀ d i, 0 ≤ countRow v r d i ∧ countRow v r d i ≤ d
  | 0, i => by simp [countRow]
  | d + 1, i => by
    have := countRow_in v r d (i + 1)
    unfold countRow
    split <;> omega
/-- The number of v in the rows. -/
def countOf (v : Int) (m : List (List Int)) : Int := countRows v m m.length 0

def bitAt (v p : Int) : Int := Go.bits .and .i64 (shr .i64 v p) 1
def pop (v : Int) : Int := bitAt v 0 + bitAt v 1 + bitAt v 2 + bitAt v 3
theorem cases16 {P : Int → Prop} (h : ∀ n : Nat, n < 16 → P n) {v : Int} (h0 : 0 ≤ v) (h1 : v ≤ 15) : P v := by
  have := h v.toNat (by omega)
  rwa [Int.toNat_of_nonneg h0] at this
theorem bitAt_in {v : Int} (h0 : 0 ≤ v) (h1 : v ≤ 15) (p : Nat) (hp : p < 4) : 0 ≤ bitAt v p ∧ bitAt v p ≤ 1 := by
  refine cases16 (P := fun v => 0 ≤ bitAt v p ∧ bitAt v p ≤ 1) (fun n hn => ?_) h0 h1
  have : ∀ n : Fin 16, ∀ p : Fin 4, 0 ≤ bitAt (n.val : Int) (p.val : Int) ∧ bitAt (n.val : Int) (p.val : Int) ≤ 1 := by decide +kernel
  exact this ⟨n, hn⟩ ⟨p, hp⟩
theorem onesCount_eq {v : Int} (h0 : 0 ≤ v) (h1 : v ≤ 15) : bits_OnesCount.f (IntKind.u64.wrap v) = some (pop v) := by
  refine cases16 (P := fun v => bits_OnesCount.f (IntKind.u64.wrap v) = some (pop v)) (fun n hn => ?_) h0 h1
  have : ∀ n : Fin 16, bits_OnesCount.f (IntKind.u64.wrap (n.val : Int)) = some (pop (n.val : Int)) := by decide +kernel
  exact this ⟨n, hn⟩
theorem pop_in {v : Int} (h0 : 0 ≤ v) (h1 : v ≤ 15) : 0 ≤ pop v ∧ pop v ≤ 4 := by
  have a := bitAt_in h0 h1 0 (by omega)
  have b := bitAt_in h0 h1 1 (by omega)
  have c := bitAt_in h0 h1 2 (by omega)
  have d := bitAt_in h0 h1 3 (by omega)
  unfold pop
  simp only [Int.natCast_zero, Int.natCast_one] at a b
  have c2 : 0 ≤ bitAt v 2 ∧ bitAt v 2 ≤ 1 := c
  have d2 : 0 ≤ bitAt v 3 ∧ bitAt v 3 ≤ 1 := d
  omega
/-- The dots of a row from its begin, summed. -/
def inkRow (m : List (List Int)) (y n : Nat) : Int := S (fun x => pop (rd (rd_L1 m y) x)) n
def inkOf (m : List (List Int)) (n : Nat) : Int := S (fun y => inkRow m y 32) n
theorem S_in {f : Nat → Int} {B : Int} : ∀ {n : Nat}, (∀ i, i < n → 0 ≤ f i ∧ f i ≤ B) → 0 ≤ S f n ∧ S f n ≤ n * B
  | 0, _ => by simp [S]
  | n + 1, h => by
    have h1 := S_in (n := n) (fun i hi => h i (by omega))
    have h2 := h n (by omega)
    simp only [S]
    refine ⟨by omega, ?_⟩
    rw [show ((n + 1 : Nat) : Int) * B = n * B + B by rw [Int.natCast_add, Int.add_mul]; simp]
    omega
theorem inkRow_in {m : List (List Int)} (h : mat 15 m) {y : Nat} (hy : y < m.length) {n : Nat} (hn : n ≤ 32) : 0 ≤ inkRow m y n ∧ inkRow m y n ≤ n * 4 :=
  S_in fun x hx => by
    have := mat_dot h hy (x := x) (by omega)
    exact pop_in this.1 this.2
theorem inkOf_in {m : List (List Int)} (h : mat 15 m) {n : Nat} (hn : n ≤ m.length) : 0 ≤ inkOf m n ∧ inkOf m n ≤ n * 128 :=
  S_in fun y hy => by
    have := inkRow_in h (y := y) (by omega) (n := 32) (by omega)
    omega
theorem countRow_S (v : Int) (r : List Int) : ∀ d i : Nat, countRow v r d i = S (fun j => if rd r ((i + j : Nat) : Int) = v then 1 else 0) d
  | 0, _ => rfl
  | d + 1, i => by
    rw [countRow, countRow_S v r d (i + 1), S_shift]
    simp only [Nat.add_zero]
    congr 1
    exact S_congr fun j _ => by rw [show i + 1 + j = i + (j + 1) by omega]
theorem countRows_S (v : Int) (m : List (List Int)) : ∀ d y : Nat, countRows v m d y = S (fun j => countRow v (rd_L1 m ((y + j : Nat) : Int)) (rd_L1 m ((y + j : Nat) : Int)).length 0) d
  | 0, _ => rfl
  | d + 1, y => by
    rw [countRows, countRows_S v m d (y + 1), S_shift]
    simp only [Nat.add_zero]
    congr 1
    exact S_congr fun j _ => by rw [show y + 1 + j = y + (j + 1) by omega]
/-- The ones in rows of bits are the bits' sum. -/
theorem countOf_tab (F : Nat → Nat → Int) (n : Nat) (hF : ∀ y x, y < n → x < 32 → 0 ≤ F y x ∧ F y x ≤ 1) : countOf 1 (tab F n) = S (fun y => S (fun x => F y x) 32) n := by
  unfold countOf
  rw [countRows_S, tab_length]
  refine S_congr fun y hy => ?_
  simp only [Nat.zero_add]
  rw [tab_row F hy, tabRow_length, countRow_S]
  refine S_congr fun x hx => ?_
  simp only [Nat.zero_add]
  rw [tabRow_get F y hx]
  have := hF y x hy hx
  by_cases c : F y x = 1
  · rw [if_pos c, c]
  · rw [if_neg c]
    omega

theorem within_eq (a b c : Int) : impl_within.f a b c = some (decide (b ≤ a ∧ a ≤ c)) := by
  unfold impl_within.f
  by_cases h : a ≥ b
  · rw [if_pos h]
    simp [show b ≤ a from h]
  · rw [if_neg h]
    simp [show ¬ b ≤ a from h]

theorem impl_rowOk_l0 (a : List Int) (hn : a.length = 32) :
    ∀ d i : Nat, i + d = a.length → (∀ j : Nat, j < i → 0 ≤ rd a j ∧ rd a j ≤ 255) → Ev (fun k => impl_rowOk.l0 k a (a.length : Int) i) (decide (rowP 255 a))
  | 0, i, h, hj => by
    refine Ev.step (f := fun _ => some true) (fun k => ?_) ?_
    · simp only [impl_rowOk.l0]
      rw [if_neg (by omega)]
    · rw [decide_eq_true (show rowP 255 a from ⟨hn, fun j h1 => hj j (by omega)⟩)]
      exact Ev.now _
  | d + 1, i, h, hj => by
    by_cases c : 0 ≤ rd a i ∧ rd a i ≤ 255
    · refine Ev.step (f := fun k => impl_rowOk.l0 k a (a.length : Int) ((i + 1 : Nat) : Int)) (fun k => ?_) (impl_rowOk_l0 a hn d (i + 1) (by omega) (fun j h1 => ?_))
      · simp only [impl_rowOk.l0, within_eq, Option.bind_some]
        rw [if_pos (by omega), if_pos (by omega), if_pos (by omega), if_pos (decide_eq_true c), wsucc (by omega)]
      · by_cases e : j = i
        · subst e
          exact c
        · exact hj j (by omega)
    · refine Ev.step (f := fun _ => some false) (fun k => ?_) ?_
      · simp only [impl_rowOk.l0, within_eq, Option.bind_some]
        rw [if_pos (by omega), if_pos (by omega), if_pos (by omega), if_neg (by simp only [decide_eq_true_eq]; exact c)]
      · rw [decide_eq_false (show ¬ rowP 255 a from fun h3 => c (h3.2 i (by omega)))]
        exact Ev.now _
theorem impl_rowOk_ev (a : List Int) : Ev (fun k => impl_rowOk.f k a) (decide (rowP 255 a)) := by
  unfold impl_rowOk.f
  by_cases c : (a.length : Int) = 32
  · exact ev_pos c (impl_rowOk_l0 a (by omega) a.length 0 (by omega) (fun j h => by omega))
  · rw [decide_eq_false (show ¬ rowP 255 a from fun h => by have := h.1; omega)]
    exact ev_neg c (Ev.now _)
theorem impl_RowsOk_l0 (m : List (List Int)) (hn : m.length ≤ 32) :
    ∀ d i : Nat, i + d = m.length → (∀ j : Nat, j < i → rowP 255 (rd_L1 m j)) → Ev (fun k => impl_RowsOk.l0 k m (m.length : Int) i) (decide (mat 255 m))
  | 0, i, h, hj => by
    refine Ev.step (f := fun _ => some true) (fun k => ?_) ?_
    · simp only [impl_RowsOk.l0]
      rw [if_neg (by omega)]
    · rw [decide_eq_true (show mat 255 m from ⟨hn, fun j h1 => hj j (by omega)⟩)]
      exact Ev.now _
  | d + 1, i, h, hj => by
    refine Ev.step (f := fun k => (impl_rowOk.f k (rd_L1 m i)).bind fun t => if t = true then impl_RowsOk.l0 k m (m.length : Int) ((i + 1 : Nat) : Int) else some false) (fun k => ?_) ((impl_rowOk_ev (rd_L1 m i)).bind ?_)
    · simp only [impl_RowsOk.l0]
      rw [if_pos (by omega), if_pos (by omega), if_pos (by omega), wsucc (by omega)]
    · by_cases c : rowP 255 (rd_L1 m i)
      · refine ev_pos (decide_eq_true c) (impl_RowsOk_l0 m hn d (i + 1) (by omega) (fun j h1 => ?_))
        by_cases e : j = i
        · subst e
          exact c
        · exact hj j (by omega)
      · rw [decide_eq_false (show ¬ mat 255 m from fun h3 => c (h3.2 i (by omega)))]
        exact ev_neg (by simp [c]) (Ev.now _)
theorem impl_RowsOk_ev (m : List (List Int)) : Ev (fun k => impl_RowsOk.f k m) (decide (mat 255 m)) := by
  unfold impl_RowsOk.f
  by_cases c : (m.length : Int) > 32
  · rw [decide_eq_false (show ¬ mat 255 m from fun h => by have := h.1; omega)]
    exact ev_pos c (Ev.now _)
  · exact ev_neg c (impl_RowsOk_l0 m (by omega) m.length 0 (by omega) (fun j h => by omega))

theorem impl_planesOk_l1 (m : List (List Int)) (h255 : mat 255 m) (y : Nat) (hy : y < m.length) (R : Bool) :
    ∀ d i : Nat, i + d = (rd_L1 m y).length → (∀ j : Nat, j < i → rd (rd_L1 m y) j ≤ 15) → (rowP 15 (rd_L1 m y) → Ev (fun k => impl_planesOk.l0 k m (m.length : Int) (wrap64 ((y : Int) + 1))) R) → (¬ rowP 15 (rd_L1 m y) → R = false) →
      Ev (fun k => impl_planesOk.l1 k m (m.length : Int) y (rd_L1 m y) ((rd_L1 m y).length : Int) i) R
  | 0, i, h, hj, h1, h2 => by
    have hr := h255.2 y hy
    refine Ev.step (fun k => ?_) (h1 ⟨hr.1, fun j hj2 => ⟨(hr.2 j hj2).1, hj j (by omega)⟩⟩)
    simp only [impl_planesOk.l1]
    rw [if_neg (by omega)]
  | d + 1, i, h, hj, h1, h2 => by
    have hr := h255.2 y hy
    have hl := hr.1
    by_cases c : rd (rd_L1 m y) i > 15
    · rw [h2 fun q => by have := (q.2 i (by omega)).2; omega]
      refine Ev.step (f := fun _ => some false) (fun k => ?_) (Ev.now _)
      simp only [impl_planesOk.l1]
      rw [if_pos (by omega), if_pos (by omega), if_pos (by omega), if_pos c]
    · refine Ev.step (fun k => ?_) (impl_planesOk_l1 m h255 y hy R d (i + 1) (by omega) (fun j hj2 => ?_) h1 h2)
      · simp only [impl_planesOk.l1]
        rw [if_pos (by omega), if_pos (by omega), if_pos (by omega), if_neg c, wsucc (by omega)]
      · by_cases e : j = i
        · subst e
          omega
        · exact hj j (by omega)
theorem impl_planesOk_l0 (m : List (List Int)) (h255 : mat 255 m) : ∀ d i : Nat, i + d = m.length → (∀ j : Nat, j < i → rowP 15 (rd_L1 m j)) → Ev (fun k => impl_planesOk.l0 k m (m.length : Int) i) (decide (mat 15 m))
  | 0, i, h, hj => by
    have hn := h255.1
    refine Ev.step (f := fun _ => some true) (fun k => ?_) ?_
    · simp only [impl_planesOk.l0]
      rw [if_neg (by omega)]
    · rw [decide_eq_true (show mat 15 m from ⟨hn, fun j h1 => hj j (by omega)⟩)]
      exact Ev.now _
  | d + 1, i, h, hj => by
    have hn := h255.1
    refine Ev.step (f := fun k => impl_planesOk.l1 k m (m.length : Int) i (rd_L1 m i) ((rd_L1 m i).length : Int) 0) (fun k => ?_) (impl_planesOk_l1 m h255 i (by omega) _ (rd_L1 m i).length 0 (by omega) (fun j h1 => by omega) (fun hr => ?_) (fun hr => decide_eq_false fun q => hr (q.2 i (by omega))))
    · simp only [impl_planesOk.l0]
      rw [if_pos (by omega), if_pos (by omega), if_pos (by omega)]
    · rw [wsucc (by omega)]
      refine impl_planesOk_l0 m h255 d (i + 1) (by omega) (fun j h1 => ?_)
      by_cases e : j = i
      · subst e
        exact hr
      · exact hj j (by omega)
theorem impl_planesOk_ev (m : List (List Int)) : Ev (fun k => impl_planesOk.f k m) (decide (mat 15 m)) := by
  unfold impl_planesOk.f
  refine (impl_RowsOk_ev m).bind ?_
  by_cases c : mat 255 m
  · exact ev_pos (decide_eq_true c) (impl_planesOk_l0 m c m.length 0 (by omega) (fun j h => by omega))
  · rw [decide_eq_false (show ¬ mat 15 m from fun h => c (mat_mono (by omega) h))]
    exact ev_neg (by simp [c]) (Ev.now _)

theorem impl_Ink_l1 (R : Int) (m : List (List Int)) (h : mat 15 m) (y : Nat) (hy : y < m.length) (s : Int) (hs : 0 ≤ s ∧ s ≤ 128 * y) : ∀ d x : Nat, x + d = 32 → Ev (fun k => impl_CountInk.l0 k (s + inkRow m y 32) m (m.length : Int) (wrap64 ((y : Int) + 1))) R → Ev (fun k => impl_CountInk.l1 k (s + inkRow m y x) m (m.length : Int) y (rd_L1 m y) 32 x) R
  | 0, x, hd, e => by
    obtain rfl : x = 32 := by omega
    refine Ev.step (fun k => ?_) e
    simp only [impl_CountInk.l1]
    rw [if_neg (by omega)]
  | d + 1, x, hd, e => by
    have hl := (h.2 y hy).1
    have hn := h.1
    have hv := mat_dot h hy (x := x) (by omega)
    have hp := pop_in hv.1 hv.2
    have hr := inkRow_in h hy (n := x) (by omega)
    refine Ev.step (fun k => ?_) (impl_Ink_l1 R m h y hy s hs d (x + 1) (by omega) e)
    simp only [impl_CountInk.l1, onesCount_eq hv.1 hv.2, Option.bind_some]
    rw [if_pos (by omega), if_pos (by omega), if_pos (by omega), wsucc (by omega), w64 (by omega) (by omega), Int.add_assoc]
    rfl
theorem impl_Ink_l0 (m : List (List Int)) (h : mat 15 m) : ∀ d y : Nat, y + d = m.length → Ev (fun k => impl_CountInk.l0 k (inkOf m y) m (m.length : Int) y) (inkOf m m.length)
  | 0, y, hd => by
    obtain rfl : y = m.length := by omega
    refine Ev.step (f := fun _ => some (inkOf m m.length)) (fun k => ?_) (Ev.now _)
    simp only [impl_CountInk.l0]
    rw [if_neg (by omega)]
  | d + 1, y, hd => by
    have hn := h.1
    have hl := (h.2 y (by omega)).1
    have hi := inkOf_in h (n := y) (by omega)
    refine Ev.step (f := fun k => impl_CountInk.l1 k (inkOf m y + inkRow m y 0) m (m.length : Int) y (rd_L1 m y) 32 0) (fun k => ?_) (impl_Ink_l1 _ m h y (by omega) (inkOf m y) (by omega) 32 0 (by omega) ?_)
    · simp only [impl_CountInk.l0]
      rw [if_pos (by omega), if_pos (by omega), if_pos (by omega), hl, show inkRow m y 0 = 0 from rfl, Int.add_zero]
      rfl
    · rw [wsucc (by omega)]
      exact impl_Ink_l0 m h d (y + 1) (by omega)
theorem impl_Ink_ev (m : List (List Int)) : Ev (fun k => impl_CountInk.f k m) (if mat 15 m then inkOf m m.length else 0) := by
  unfold impl_CountInk.f
  refine (impl_planesOk_ev m).bind ?_
  by_cases c : mat 15 m
  · rw [if_pos (c := mat 15 m) c]
    exact ev_pos (decide_eq_true c) (impl_Ink_l0 m c m.length 0 (by omega))
  · rw [if_neg (c := mat 15 m) c]
    exact ev_neg (by simp [c]) (Ev.now _)

theorem l01In_eq (a b c : Int) : spec_l01In.f a b c = some (decide (b ≤ a ∧ a ≤ c)) := by
  unfold spec_l01In.f
  by_cases h : a ≥ b
  · rw [if_pos h]
    simp [show b ≤ a from h]
  · rw [if_neg h]
    simp [show ¬ b ≤ a from h]

theorem spec_l11Row_l0 (a : List Int) (hn : a.length ≤ 1099511627776) :
    ∀ d i : Nat, i + d = a.length → (∀ j : Nat, j < i → 0 ≤ rd a j ∧ rd a j ≤ 255) → Ev (fun k => spec_l11Row.l0 k a i) (decide (rowP 255 a))
  | 0, i, h, hj => by
    refine Ev.step (f := fun _ => some ((a.length : Int) == 32)) (fun k => ?_) ?_
    · simp only [spec_l11Row.l0]
      rw [if_neg (by omega)]
    · rw [show ((a.length : Int) == 32) = decide (rowP 255 a) from by
        rw [Bool.eq_iff_iff]
        simp only [beq_iff_eq, decide_eq_true_eq]
        exact ⟨fun q => ⟨by omega, fun j h1 => hj j (by omega)⟩, fun q => by rw [q.1]; rfl⟩]
      exact Ev.now _
  | d + 1, i, h, hj => by
    by_cases c : 0 ≤ rd a i ∧ rd a i ≤ 255
    · refine Ev.step (f := fun k => spec_l11Row.l0 k a ((i + 1 : Nat) : Int)) (fun k => ?_) (spec_l11Row_l0 a hn d (i + 1) (by omega) (fun j h1 => ?_))
      · simp only [spec_l11Row.l0, l01In_eq, Option.bind_some]
        rw [if_pos (by omega), if_pos (by omega), if_pos (decide_eq_true c), wsucc (by omega)]
      · by_cases e : j = i
        · subst e
          exact c
        · exact hj j (by omega)
    · refine Ev.step (f := fun _ => some false) (fun k => ?_) ?_
      · simp only [spec_l11Row.l0, l01In_eq, Option.bind_some]
        rw [if_pos (by omega), if_pos (by omega), if_neg (by simp only [decide_eq_true_eq]; exact c)]
      · rw [decide_eq_false (show ¬ rowP 255 a from fun h3 => c (h3.2 i (by omega)))]
        exact Ev.now _
theorem spec_l11Row_ev (a : List Int) (hn : a.length ≤ 1099511627776) : Ev (fun k => spec_l11Row.f k a) (decide (rowP 255 a)) :=
  spec_l11Row_l0 a hn a.length 0 (by omega) (fun j h => by omega)
theorem spec_RowsOk_l0 (m : List (List Int)) (hs : small m) :
    ∀ d i : Nat, i + d = m.length → (∀ j : Nat, j < i → rowP 255 (rd_L1 m j)) → Ev (fun k => spec_RowsOk.l0 k m i) (decide (mat 255 m))
  | 0, i, h, hj => by
    refine Ev.step (f := fun _ => some (decide ((m.length : Int) ≤ 32))) (fun k => ?_) ?_
    · simp only [spec_RowsOk.l0]
      rw [if_neg (by omega)]
    · rw [show decide ((m.length : Int) ≤ 32) = decide (mat 255 m) from decide_eq_decide.mpr ⟨fun q => ⟨by omega, fun j h1 => hj j (by omega)⟩, fun q => by have := q.1; omega⟩]
      exact Ev.now _
  | d + 1, i, h, hj => by
    have hn := hs.1
    refine Ev.step (f := fun k => (spec_l11Row.f k (rd_L1 m i)).bind fun t => if t = true then spec_RowsOk.l0 k m ((i + 1 : Nat) : Int) else some false) (fun k => ?_) ((spec_l11Row_ev (rd_L1 m i) (hs.2 i (by omega))).bind ?_)
    · simp only [spec_RowsOk.l0]
      rw [if_pos (by omega), if_pos (by omega), wsucc (by omega)]
    · by_cases c : rowP 255 (rd_L1 m i)
      · refine ev_pos (decide_eq_true c) (spec_RowsOk_l0 m hs d (i + 1) (by omega) (fun j h1 => ?_))
        by_cases e : j = i
        · subst e
          exact c
        · exact hj j (by omega)
      · rw [decide_eq_false (show ¬ mat 255 m from fun h3 => c (h3.2 i (by omega)))]
        exact ev_neg (by simp [c]) (Ev.now _)
theorem spec_RowsOk_ev (m : List (List Int)) (hs : small m) : Ev (fun k => spec_RowsOk.f k m) (decide (mat 255 m)) :=
  spec_RowsOk_l0 m hs m.length 0 (by omega) (fun j h => by omega)

theorem spec_l23Ok_l1 (m : List (List Int)) (hs : small m) (y : Nat) (hy : y < m.length) (R : Bool) :
    ∀ d i : Nat, i + d = (rd_L1 m y).length → (∀ j : Nat, j < i → 0 ≤ rd (rd_L1 m y) j ∧ rd (rd_L1 m y) j ≤ 15) → ((∀ j : Nat, j < (rd_L1 m y).length → 0 ≤ rd (rd_L1 m y) j ∧ rd (rd_L1 m y) j ≤ 15) → Ev (fun k => spec_l23Ok.l0 k m (wrap64 ((y : Int) + 1))) R) → (¬ rowP 15 (rd_L1 m y) → R = false) →
      Ev (fun k => spec_l23Ok.l1 k m y i) R
  | 0, i, h, hj, h1, h2 => by
    refine Ev.step (fun k => ?_) (h1 fun j hj2 => hj j (by omega))
    simp only [spec_l23Ok.l1]
    rw [if_pos (by omega), if_pos (by omega), if_neg (by omega)]
  | d + 1, i, h, hj, h1, h2 => by
    have hl := hs.2 y hy
    by_cases c : 0 ≤ rd (rd_L1 m y) i ∧ rd (rd_L1 m y) i ≤ 15
    · refine Ev.step (fun k => ?_) (spec_l23Ok_l1 m hs y hy R d (i + 1) (by omega) (fun j hj2 => ?_) h1 h2)
      · simp only [spec_l23Ok.l1, l01In_eq, Option.bind_some]
        rw [if_pos (by omega), if_pos (by omega), if_pos (by omega), if_pos (by omega), if_pos (decide_eq_true c), wsucc (by omega)]
      · by_cases e : j = i
        · subst e
          exact c
        · exact hj j (by omega)
    · rw [h2 fun q => c (q.2 i (by omega))]
      refine Ev.step (f := fun _ => some false) (fun k => ?_) (Ev.now _)
      simp only [spec_l23Ok.l1, l01In_eq, Option.bind_some]
      rw [if_pos (by omega), if_pos (by omega), if_pos (by omega), if_pos (by omega), if_neg (by simp only [decide_eq_true_eq]; exact c)]
theorem spec_l23Ok_l0 (m : List (List Int)) (hs : small m) : ∀ d i : Nat, i + d = m.length → (∀ j : Nat, j < i → ∀ x : Nat, x < (rd_L1 m j).length → 0 ≤ rd (rd_L1 m j) x ∧ rd (rd_L1 m j) x ≤ 15) → Ev (fun k => spec_l23Ok.l0 k m i) (decide (mat 15 m))
  | 0, i, h, hj => by
    refine Ev.step (f := fun k => (spec_RowsOk.f k m).bind fun t => some t) (fun k => ?_) ((spec_RowsOk_ev m hs).bind ?_)
    · simp only [spec_l23Ok.l0]
      rw [if_neg (by omega)]
    · rw [show decide (mat 255 m) = decide (mat 15 m) from decide_eq_decide.mpr ⟨fun q => ⟨q.1, fun j h1 => ⟨(q.2 j h1).1, fun x hx => hj j (by omega) x hx⟩⟩, fun q => mat_mono (by omega) q⟩]
      exact Ev.now _
  | d + 1, i, h, hj => by
    have hn := hs.1
    refine Ev.step (f := fun k => spec_l23Ok.l1 k m i 0) (fun k => ?_) (spec_l23Ok_l1 m hs i (by omega) _ (rd_L1 m i).length 0 (by omega) (fun j h1 => by omega) (fun hr => ?_) (fun hr => decide_eq_false fun q => hr (q.2 i (by omega))))
    · simp only [spec_l23Ok.l0]
      rw [if_pos (by omega)]
    · rw [wsucc (by omega)]
      refine spec_l23Ok_l0 m hs d (i + 1) (by omega) (fun j h1 => ?_)
      by_cases e : j = i
      · subst e
        exact hr
      · exact hj j (by omega)
theorem spec_l23Ok_ev (m : List (List Int)) (hs : small m) : Ev (fun k => spec_l23Ok.f k m) (decide (mat 15 m)) :=
  spec_l23Ok_l0 m hs m.length 0 (by omega) (fun j h => by omega)

theorem spec_Plane_l1 (R : List (List Int)) (p : Int) (hp : 0 ≤ p ∧ p ≤ 3) (m : List (List Int)) (h : mat 15 m) (y : Nat) (hy : y < m.length) (acc : List (List Int)) (ha : acc.length ≤ 32) : ∀ d x : Nat, x + d = 32 → Ev (fun k => spec_PlaneOf.l0 k m p (acc ++ [tabRow (planeF p m) y 32]) (wrap64 ((y : Int) + 1))) R → Ev (fun k => spec_PlaneOf.l1 k m p acc y (tabRow (planeF p m) y x) x) R
  | 0, x, hd, e => by
    obtain rfl : x = 32 := by omega
    refine Ev.step (fun k => ?_) e
    simp only [spec_PlaneOf.l1]
    rw [if_neg (by omega), if_pos (by omega)]
  | d + 1, x, hd, e => by
    have hl := (h.2 y hy).1
    have hn := h.1
    refine Ev.step (fun k => ?_) (spec_Plane_l1 R p hp m h y hy acc ha d (x + 1) (by omega) e)
    simp only [spec_PlaneOf.l1]
    rw [if_pos (by omega), if_pos (by omega), if_pos (by omega), if_pos (by omega), if_pos (by omega), if_pos hp.1, if_pos (by rw [tabRow_length]; omega), wsucc (by omega), tabRow_snoc]
    rfl
theorem spec_Plane_l0 (p : Int) (hp : 0 ≤ p ∧ p ≤ 3) (m : List (List Int)) (h : mat 15 m) : ∀ d y : Nat, y + d = m.length → Ev (fun k => spec_PlaneOf.l0 k m p (tab (planeF p m) y) y) (tab (planeF p m) m.length)
  | 0, y, hd => by
    have hn := h.1
    obtain rfl : y = m.length := by omega
    refine Ev.step (f := fun k => spec_PlaneOf.j1 k m p (tab (planeF p m) m.length) (m.length : Nat) false) (fun k => ?_) (Ev.step (f := fun _ => some (tab (planeF p m) m.length)) (fun k => ?_) (Ev.now _))
    · simp only [spec_PlaneOf.l0]
      rw [if_neg (by omega)]
    · simp only [spec_PlaneOf.j1]
      rfl
  | d + 1, y, hd => by
    have hn := h.1
    refine Ev.step (f := fun k => (spec_l23Ok.f k m).bind fun t => if t = true then (spec_l01In.f p 0 3).bind fun t2 => spec_PlaneOf.j1 k m p (tab (planeF p m) y) y t2 else spec_PlaneOf.j1 k m p (tab (planeF p m) y) y false) (fun k => ?_) ((spec_l23Ok_ev m ⟨by omega, fun j hj => by rw [(h.2 j hj).1]; omega⟩).bind ?_)
    · simp only [spec_PlaneOf.l0]
      rw [if_pos (by omega)]
    · refine ev_pos (decide_eq_true h) ?_
      simp only [l01In_eq, Option.bind_some]
      rw [decide_eq_true hp]
      refine Ev.step (f := fun k => spec_PlaneOf.l1 k m p (tab (planeF p m) y) y [] 0) (fun k => ?_) (spec_Plane_l1 _ p hp m h y (by omega) _ (by rw [tab_length]; omega) 32 0 (by omega) ?_)
      · simp only [spec_PlaneOf.j1]
        rfl
      · rw [wsucc (by omega), ← tab_snoc]
        exact spec_Plane_l0 p hp m h d (y + 1) (by omega)
theorem spec_Plane_ev (m : List (List Int)) (p : Int) (hs : small m) : Ev (fun k => spec_PlaneOf.f k m p) (if mat 15 m ∧ 0 ≤ p ∧ p ≤ 3 then tab (planeF p m) m.length else []) := by
  by_cases c : mat 15 m ∧ 0 ≤ p ∧ p ≤ 3
  · rw [if_pos c]
    exact spec_Plane_l0 p c.2 m c.1 m.length 0 (by omega)
  · rw [if_neg c]
    have stop : Ev (fun k => spec_PlaneOf.j1 k m p [] 0 false) ([] : List (List Int)) := by
      refine Ev.step (f := fun _ => some []) (fun k => ?_) (Ev.now _)
      simp only [spec_PlaneOf.j1]
      rfl
    have e := spec_l23Ok_ev m hs
    show Ev (fun k => spec_PlaneOf.l0 k m p [] 0) _
    by_cases c0 : (0 : Int) < (m.length : Int)
    · refine Ev.step (f := fun k => (spec_l23Ok.f k m).bind fun t => if t = true then (spec_l01In.f p 0 3).bind fun t2 => spec_PlaneOf.j1 k m p [] 0 t2 else spec_PlaneOf.j1 k m p [] 0 false) (fun k => ?_) (e.bind ?_)
      · simp only [spec_PlaneOf.l0]
        rw [if_pos c0]
      · by_cases c1 : mat 15 m
        · refine ev_pos (decide_eq_true c1) ?_
          simp only [l01In_eq, Option.bind_some]
          rw [decide_eq_false fun q => c ⟨c1, q⟩]
          exact stop
        · exact ev_neg (by simp [c1]) stop
    · refine Ev.step (f := fun k => spec_PlaneOf.j1 k m p [] 0 false) (fun k => ?_) stop
      simp only [spec_PlaneOf.l0]
      rw [if_neg c0]

theorem spec_Count_l1 (v R : Int) (m : List (List Int)) (h : mat 255 m) (y : Nat) (hy : y < m.length) : ∀ (d i : Nat) (s : Int), i + d = (rd_L1 m y).length → 0 ≤ s → s ≤ 2000 + i → Ev (fun k => spec_CountValue.l0 k m v (s + countRow v (rd_L1 m y) d i) (wrap64 ((y : Int) + 1))) R → Ev (fun k => spec_CountValue.l1 k m v s y i) R
  | 0, i, s, hd, h0, h1, e => by
    refine Ev.step (fun k => ?_) e
    simp only [spec_CountValue.l1, countRow]
    rw [if_pos (by omega), if_pos (by omega), if_neg (by omega), Int.add_zero]
  | d + 1, i, s, hd, h0, h1, e => by
    have hl := (h.2 y hy).1
    by_cases c : rd (rd_L1 m y) i = v
    · refine Ev.step (fun k => ?_) (spec_Count_l1 v R m h y hy d (i + 1) (s + 1) (by omega) (by omega) (by omega) ?_)
      · simp only [spec_CountValue.l1]
        rw [if_pos (by omega), if_pos (by omega), if_pos (by omega), if_pos (by omega), if_pos c, w64 (n := s + 1) (by omega) (by omega), wsucc (by omega)]
      · simp only [countRow] at e
        rw [if_pos c, ← Int.add_assoc] at e
        exact e
    · refine Ev.step (fun k => ?_) (spec_Count_l1 v R m h y hy d (i + 1) s (by omega) (by omega) (by omega) ?_)
      · simp only [spec_CountValue.l1]
        rw [if_pos (by omega), if_pos (by omega), if_pos (by omega), if_pos (by omega), if_neg c, wsucc (by omega)]
      · simp only [countRow] at e
        rw [if_neg c, Int.zero_add] at e
        exact e
theorem spec_Count_l0 (v : Int) (m : List (List Int)) (h : mat 255 m) : ∀ (d y : Nat) (s : Int), y + d = m.length → 0 ≤ s → s ≤ 32 * y → Ev (fun k => spec_CountValue.l0 k m v s y) (s + countRows v m d y)
  | 0, y, s, hd, h0, h1 => by
    refine Ev.step (f := fun _ => some s) (fun k => ?_) (by simp only [countRows, Int.add_zero]; exact Ev.now _)
    simp only [spec_CountValue.l0]
    rw [if_neg (by omega)]
  | d + 1, y, s, hd, h0, h1 => by
    have hn := h.1
    have hl := (h.2 y (by omega)).1
    have h2 := countRow_in v (rd_L1 m y) (rd_L1 m y).length 0
    refine Ev.step (f := fun k => spec_CountValue.l1 k m v s y 0) (fun k => ?_) (spec_Count_l1 v _ m h y (by omega) (rd_L1 m y).length 0 s (by omega) h0 (by omega) ?_)
    · simp only [spec_CountValue.l0]
      rw [if_pos (by omega)]
    · rw [wsucc (by omega)]
      simp only [countRows]
      rw [← Int.add_assoc]
      exact spec_Count_l0 v m h d (y + 1) _ (by omega) (by omega) (by omega)
theorem spec_Count_ev (v : Int) (m : List (List Int)) (h : mat 255 m) : Ev (fun k => spec_CountValue.f k m v) (countOf v m) := by
  have := spec_Count_l0 v m h m.length 0 0 (by omega) (by omega) (by omega)
  rw [Int.zero_add] at this
  exact this

theorem spec_BitsOk_l1 (m : List (List Int)) (hs : small m) (y : Nat) (hy : y < m.length) (R : Bool) :
    ∀ d i : Nat, i + d = (rd_L1 m y).length → (∀ j : Nat, j < i → 0 ≤ rd (rd_L1 m y) j ∧ rd (rd_L1 m y) j ≤ 1) → ((∀ j : Nat, j < (rd_L1 m y).length → 0 ≤ rd (rd_L1 m y) j ∧ rd (rd_L1 m y) j ≤ 1) → Ev (fun k => spec_BitsOk.l0 k m (wrap64 ((y : Int) + 1))) R) → (¬ rowP 1 (rd_L1 m y) → R = false) →
      Ev (fun k => spec_BitsOk.l1 k m y i) R
  | 0, i, h, hj, h1, h2 => by
    refine Ev.step (fun k => ?_) (h1 fun j hj2 => hj j (by omega))
    simp only [spec_BitsOk.l1]
    rw [if_pos (by omega), if_pos (by omega), if_neg (by omega)]
  | d + 1, i, h, hj, h1, h2 => by
    have hl := hs.2 y hy
    by_cases c : 0 ≤ rd (rd_L1 m y) i ∧ rd (rd_L1 m y) i ≤ 1
    · refine Ev.step (fun k => ?_) (spec_BitsOk_l1 m hs y hy R d (i + 1) (by omega) (fun j hj2 => ?_) h1 h2)
      · simp only [spec_BitsOk.l1, l01In_eq, Option.bind_some]
        rw [if_pos (by omega), if_pos (by omega), if_pos (by omega), if_pos (by omega), if_pos (decide_eq_true c), wsucc (by omega)]
      · by_cases e : j = i
        · subst e
          exact c
        · exact hj j (by omega)
    · rw [h2 fun q => c (q.2 i (by omega))]
      refine Ev.step (f := fun _ => some false) (fun k => ?_) (Ev.now _)
      simp only [spec_BitsOk.l1, l01In_eq, Option.bind_some]
      rw [if_pos (by omega), if_pos (by omega), if_pos (by omega), if_pos (by omega), if_neg (by simp only [decide_eq_true_eq]; exact c)]
theorem spec_BitsOk_l0 (m : List (List Int)) (hs : small m) : ∀ d i : Nat, i + d = m.length → (∀ j : Nat, j < i → ∀ x : Nat, x < (rd_L1 m j).length → 0 ≤ rd (rd_L1 m j) x ∧ rd (rd_L1 m j) x ≤ 1) → Ev (fun k => spec_BitsOk.l0 k m i) (decide (mat 1 m))
  | 0, i, h, hj => by
    refine Ev.step (f := fun k => (spec_RowsOk.f k m).bind fun t => some t) (fun k => ?_) ((spec_RowsOk_ev m hs).bind ?_)
    · simp only [spec_BitsOk.l0]
      rw [if_neg (by omega)]
    · rw [show decide (mat 255 m) = decide (mat 1 m) from decide_eq_decide.mpr ⟨fun q => ⟨q.1, fun j h1 => ⟨(q.2 j h1).1, fun x hx => hj j (by omega) x hx⟩⟩, fun q => mat_mono (by omega) q⟩]
      exact Ev.now _
  | d + 1, i, h, hj => by
    have hn := hs.1
    refine Ev.step (f := fun k => spec_BitsOk.l1 k m i 0) (fun k => ?_) (spec_BitsOk_l1 m hs i (by omega) _ (rd_L1 m i).length 0 (by omega) (fun j h1 => by omega) (fun hr => ?_) (fun hr => decide_eq_false fun q => hr (q.2 i (by omega))))
    · simp only [spec_BitsOk.l0]
      rw [if_pos (by omega)]
    · rw [wsucc (by omega)]
      refine spec_BitsOk_l0 m hs d (i + 1) (by omega) (fun j h1 => ?_)
      by_cases e : j = i
      · subst e
        exact hr
      · exact hj j (by omega)
theorem spec_BitsOk_ev (m : List (List Int)) (hs : small m) : Ev (fun k => spec_BitsOk.f k m) (decide (mat 1 m)) :=
  spec_BitsOk_l0 m hs m.length 0 (by omega) (fun j h => by omega)

theorem spec_Ones_ev (m : List (List Int)) (hs : small m) : Ev (fun k => spec_CountOnes.f k m) (if mat 1 m then countOf 1 m else 0) := by
  unfold spec_CountOnes.f
  refine (spec_BitsOk_ev m hs).bind ?_
  by_cases c : mat 1 m
  · rw [if_pos (c := mat 1 m) c]
    exact ev_pos (decide_eq_true c) ((spec_Count_ev 1 m (mat_mono (by omega) c)).bind (Ev.now _))
  · rw [if_neg (c := mat 1 m) c]
    exact ev_neg (by simp [c]) (Ev.now _)

/-- The ones in plane p. -/
def planeOnes (m : List (List Int)) (p : Nat) : Int := S (fun y => S (fun x => planeF p m y x) 32) m.length
theorem planeF_in {m : List (List Int)} (h : mat 15 m) (p : Nat) (hp : p < 4) {y x : Nat} (hy : y < m.length) (hx : x < 32) : 0 ≤ planeF p m y x ∧ planeF p m y x ≤ 1 := by
  have hv := mat_dot h hy hx
  exact bitAt_in hv.1 hv.2 p hp
theorem spec_onePlane (m : List (List Int)) (hs : small m) (p : Nat) (hp : p < 4) : ∃ v, Ev (fun k => spec_PlaneOf.f k m p) v ∧ Ev (fun k => spec_CountOnes.f k v) (if mat 15 m then planeOnes m p else 0) := by
  have e := spec_Plane_ev m p hs
  by_cases c : mat 15 m
  · rw [if_pos ⟨c, by omega, by omega⟩] at e
    refine ⟨_, e, ?_⟩
    have e2 := spec_Ones_ev (tab (planeF p m) m.length) (tab_small _ _ c.1)
    rw [if_pos (tab_mat _ _ 1 c.1 fun y x hy hx => planeF_in c p hp hy hx), countOf_tab _ _ (fun y x hy hx => planeF_in c p hp hy hx)] at e2
    rw [if_pos (c := mat 15 m) c]
    exact e2
  · rw [if_neg (fun q => c q.1)] at e
    refine ⟨_, e, ?_⟩
    have e2 := spec_Ones_ev [] ⟨by simp, fun j hj => absurd hj (by simp)⟩
    rw [if_pos (show mat 1 [] from ⟨by simp, fun j hj => absurd hj (by simp)⟩)] at e2
    rw [if_neg (c := mat 15 m) c]
    exact e2
theorem planeOnes_in {m : List (List Int)} (h : mat 15 m) (p : Nat) (hp : p < 4) : 0 ≤ planeOnes m p ∧ planeOnes m p ≤ 1024 := by
  have := S_in (n := m.length) (B := 32) (f := fun y => S (fun x => planeF p m y x) 32) (fun y hy => by
    have := S_in (n := 32) (B := 1) (f := fun x => planeF p m y x) (fun x hx => planeF_in h p hp hy hx)
    omega)
  have hn := h.1
  unfold planeOnes
  omega
theorem spec_Ink_l0 (m : List (List Int)) (hs : small m) (f : Nat → Int) (hf : ∀ p, p < 4 → 0 ≤ f p ∧ f p ≤ 1024) (he : ∀ p, p < 4 → ∃ v, Ev (fun k => spec_PlaneOf.f k m (p : Nat)) v ∧ Ev (fun k => spec_CountOnes.f k v) (f p)) : ∀ d p : Nat, p + d = 4 → Ev (fun k => spec_CountInk.l0 k m (S f p) p) (S f 4)
  | 0, p, hd => by
    obtain rfl : p = 4 := by omega
    refine Ev.step (f := fun _ => some (S f 4)) (fun k => ?_) (Ev.now _)
    simp only [spec_CountInk.l0]
    rw [if_neg (by omega)]
  | d + 1, p, hd => by
    obtain ⟨v, e1, e2⟩ := he p (by omega)
    have h1 := S_in (f := f) (n := p) (B := 1024) (fun i hi => hf i (by omega))
    have h2 := hf p (by omega)
    refine Ev.step (f := fun k => (spec_PlaneOf.f k m p).bind fun t => (spec_CountOnes.f k t).bind fun t2 => spec_CountInk.l0 k m (wrap64 (S f p + t2)) ((p + 1 : Nat) : Int)) (fun k => ?_) (e1.bind (e2.bind ?_))
    · simp only [spec_CountInk.l0]
      rw [if_pos (by omega), wsucc (by omega)]
    · rw [w64 (by omega) (by omega)]
      exact spec_Ink_l0 m hs f hf he d (p + 1) (by omega)
theorem spec_Ink_ev (m : List (List Int)) (hs : small m) : Ev (fun k => spec_CountInk.f k m) (if mat 15 m then inkOf m m.length else 0) := by
  have e := spec_Ink_l0 m hs (fun p => if mat 15 m then planeOnes m p else 0) (fun p hp => by
    by_cases c : mat 15 m
    · simp only [if_pos (c := mat 15 m) c]
      exact planeOnes_in c p hp
    · simp only [if_neg (c := mat 15 m) c]
      omega) (fun p hp => spec_onePlane m hs p hp) 4 0 (by omega)
  have e3 : S (fun p => if mat 15 m then planeOnes m p else 0) 4 = (if mat 15 m then inkOf m m.length else 0) := by
    by_cases c : mat 15 m
    · simp only [if_pos (c := mat 15 m) c]
      show 0 + planeOnes m 0 + planeOnes m 1 + planeOnes m 2 + planeOnes m 3 = _
      unfold planeOnes inkOf inkRow
      rw [Int.zero_add, ← S_add, ← S_add, ← S_add]
      refine S_congr fun y hy => ?_
      rw [← S_add, ← S_add, ← S_add]
      rfl
    · simp only [if_neg (c := mat 15 m) c]
      rfl
  rw [e3] at e
  exact e

theorem FnExactCountInk : FnExactCountInkPure := by
  intro m hm hw
  refine Ev.rounds ?_
  unfold laws_FnExactCountInk.f
  obtain ⟨r, e, h⟩ := szIntSS_ev m 1048576 (by omega) (by omega) hm (fun r hr => (hw r hr).1)
  refine e.bind ?_
  rcases h with h | ⟨h0, h1, ht⟩
  · exact ev_pos h (Ev.now _)
  refine ev_neg (by omega) ?_
  have t := toIntSS_ev m ht
  refine t.bind ((spec_Ink_ev m (tiny_small ht)).bind (t.bind ((impl_Ink_ev m).bind (ev_pos rfl ?_))))
  exact t.bind ((eqIntSS_ev m (tiny_small ht)).bind (ev_pos rfl (Ev.now _)))

end Go.Proofs.Ytophklfiooklbaa.Pure
