/-
  The program's PlaceGlyph gives what the reference gives for all rows, glyphs and places, leaves its arguments as they were, and shares nothing with them.
-/
import Derived.Test.YtjkddcnflpfinaaPFnExactPlaceGlyphx7
import Derived.Test.YtjkddcnflpfinaaWSized
import Derived.Test.YtjkddcnflpfinaaOpenFnExactPlaceGlyph
namespace Go.Proofs.Ytjkddcnflpfinaa.Pure
open Go.RowKit Go.Proofs.Ytjkddcnflpfinaa.PFnExactPlaceGlyph Go.Proofs.YtjkddcnflpfinaaW.PrintWords Go.Proofs.YtjkddcnflpfinaaW.PrintLast Go.Proofs.YtjkddcnflpfinaaW.PrintMore Go.Proofs.Ytjkddcnflpfinaa.OpenFnExactPlaceGlyph
set_option linter.unusedVariables false
set_option linter.unusedSimpArgs false

theorem w64 {n : Int} (h1 : -9223372036854775808 ≤ n) (h2 : n ≤ 9223372036854775807) : wrap64 n = n := by
  unfold wrap64
  omega
theorem wsucc {i : Nat} (h : i ≤ 4611686018427387904) : wrap64 ((i : Int) + 1) = ((i + 1 : Nat) : Int) := by
  rw [w64 (by omega) (by omega)]
  omega
theorem rd_nat (l : List Int) (i : Nat) : rd l (i : Int) = l.getD i 0 := by simp [rd]
theorem getD_drop (l : List Int) (i : Nat) (h : i < l.length) : l.drop i = l.getD i 0 :: l.drop (i + 1) := by
  rw [List.drop_eq_getElem_cons h]
  simp [List.getD_eq_getElem?_getD, List.getElem?_eq_getElem h]
theorem getD_take (l : List Int) (i : Nat) (h : i < l.length) : l.take (i + 1) = l.take i ++ [l.getD i 0] := by
  rw [List.take_succ_eq_append_getElem h]
  simp [List.getD_eq_getElem?_getD, List.getElem?_eq_getElem h]
theorem set_mid (p q : List Int) (u v : Int) (i : Nat) (h : p.length = i) : (p ++ u :: q).set i v = p ++ v :: q := by
  subst h
  simp [List.set_append_right]
theorem bind_id {α : Type} {g : Nat → Option α} {r : α} (h : Ev g r) : Ev (fun n => (g n).bind fun x => some x) r := by
  obtain ⟨K, h⟩ := h
  exact ⟨K, fun k hk => by simp [h k hk]⟩
theorem ev_pos {α : Type} {c : Prop} [Decidable c] {f g : Nat → Option α} {r : α} (h : c) (k : Ev f r) : Ev (fun n => if c then f n else g n) r := Ev.congr (fun n => if_pos h) k
theorem ev_neg {α : Type} {c : Prop} [Decidable c] {f g : Nat → Option α} {r : α} (h : ¬ c) (k : Ev g r) : Ev (fun n => if c then f n else g n) r := Ev.congr (fun n => if_neg h) k
theorem ev_eq {α β : Type} {g : Option α} {f : Nat → α → Option β} {a : α} {r : β} (h : g = some a) (k : Ev (fun n => f n a) r) : Ev (fun n => g.bind (f n)) r := by
  subst h
  exact k
theorem td {v : Int} (h : 0 ≤ v) (c : Int) : Int.tdiv v c = v / c := Int.tdiv_eq_ediv_of_nonneg h
theorem tm {v : Int} (h : 0 ≤ v) (c : Int) : Int.tmod v c = v % c := Int.tmod_eq_emod_of_nonneg h

/-- A row of 32 values from 0 to hi. -/
def rowP (hi : Int) (r : List Int) : Prop := r.length = 32 ∧ ∀ i : Nat, i < r.length → 0 ≤ rd r i ∧ rd r i ≤ hi
/-- At most 32 such rows. -/
def mat (hi : Int) (m : List (List Int)) : Prop := m.length ≤ 32 ∧ ∀ j : Nat, j < m.length → rowP hi (rd_L1 m j)
instance (hi : Int) (r : List Int) : Decidable (rowP hi r) := by
  unfold rowP
  infer_instance
instance (hi : Int) (m : List (List Int)) : Decidable (mat hi m) := by
  unfold mat
  infer_instance
theorem rowP_mono {a b : Int} (h : a ≤ b) {r : List Int} (hr : rowP a r) : rowP b r := ⟨hr.1, fun i hi => ⟨(hr.2 i hi).1, by have := (hr.2 i hi).2; omega⟩⟩
theorem mat_mono {a b : Int} (h : a ≤ b) {m : List (List Int)} (hm : mat a m) : mat b m := ⟨hm.1, fun j hj => rowP_mono h (hm.2 j hj)⟩
/-- Rows that are not too long to be counted. -/
def small (m : List (List Int)) : Prop := m.length ≤ 1099511627776 ∧ ∀ j : Nat, j < m.length → (rd_L1 m j).length ≤ 1099511627776

/-- Rows whose lengths, and their number, are at most 1048576. -/
def tiny (m : List (List Int)) : Prop := m.length ≤ 1048576 ∧ ∀ j : Nat, j < m.length → (rd_L1 m j).length ≤ 1048576
theorem tiny_small {m : List (List Int)} (h : tiny m) : small m := ⟨by have := h.1; omega, fun j hj => by have := h.2 j hj; omega⟩
theorem rows_mem {m : List (List Int)} {j : Nat} (hj : j < m.length) : rd_L1 m j = m[j] := by
  unfold rd_L1
  rw [Int.toNat_natCast, List.getD_eq_getElem?_getD, List.getElem?_eq_getElem hj]
  rfl
theorem set_midL (p q : List (List Int)) (u v : List Int) (i : Nat) (h : p.length = i) : (p ++ u :: q).set i v = p ++ v :: q := by
  subst h
  simp [List.set_append_right]

theorem eqIntS_l0 (a : List Int) (hn : a.length ≤ 1099511627776) :
    ∀ d i : Nat, i + d = a.length → Ev (fun k => laws_eqIntS.l0 k a a i) true
  | 0, i, h => by
    refine Ev.step (f := fun _ => some true) (fun k => ?_) (Ev.now _)
    simp only [laws_eqIntS.l0]
    rw [if_neg (by omega)]
  | d + 1, i, h => by
    refine Ev.step (f := fun k => laws_eqIntS.l0 k a a ((i + 1 : Nat) : Int)) (fun k => ?_) (eqIntS_l0 a hn d (i + 1) (by omega))
    simp only [laws_eqIntS.l0]
    rw [if_pos (by omega), if_pos (by omega), if_pos (by omega), if_pos trivial, wsucc (by omega)]
theorem eqIntS_ev (a : List Int) (hn : a.length ≤ 1099511627776) : Ev (fun k => laws_eqIntS.f k a a) true := by
  refine Ev.congr (f := fun k => laws_eqIntS.l0 k a a 0) (fun k => ?_) (eqIntS_l0 a hn a.length 0 (by omega))
  unfold laws_eqIntS.f
  rw [if_pos rfl]

theorem toIntS_l0 (a : List Int) (hn : a.length ≤ 1099511627776) :
    ∀ d i : Nat, i + d = a.length → Ev (fun k => laws_toIntS.l0 k a (a.take i ++ List.replicate d 0) i) a
  | 0, i, h => by
    refine Ev.step (f := fun _ => some a) (fun k => ?_) (Ev.now _)
    simp only [laws_toIntS.l0]
    rw [if_neg (by omega)]
    simp [List.take_of_length_le (show a.length ≤ i by omega)]
  | d + 1, i, h => by
    refine Ev.step (f := fun k => laws_toIntS.l0 k a (a.take (i + 1) ++ List.replicate d 0) ((i + 1 : Nat) : Int)) (fun k => ?_) (toIntS_l0 a hn d (i + 1) (by omega))
    simp only [laws_toIntS.l0]
    rw [if_pos (by omega), if_pos (by omega), if_pos (by simp; omega), wsucc (by omega), rd_nat, List.replicate_succ, Int.toNat_natCast, set_mid _ _ _ _ _ (by simp; omega), getD_take a i (by omega)]
    simp
theorem toIntS_ev (a : List Int) (hn : a.length ≤ 1099511627776) : Ev (fun k => laws_toIntS.f k a) a := by
  refine Ev.congr (f := fun k => laws_toIntS.l0 k a (a.take 0 ++ List.replicate a.length 0) 0) (fun k => ?_) (toIntS_l0 a hn a.length 0 (by omega))
  unfold laws_toIntS.f
  rw [if_pos (by omega), if_pos (by omega)]
  simp

theorem szIntSS_l0 (m : List (List Int)) (hg : ∀ r ∈ m, r.length ≤ 9223372036854775807) (hn : m.length ≤ 1099511627776) : ∀ (d i : Nat) (left : Int), i + d = m.length → 0 ≤ left → left ≤ 1048576 →
    ∃ r, Ev (fun k => laws_szIntSS.l0 k m left i) r ∧ (r < 0 ∨ (0 ≤ r ∧ r ≤ left ∧ ∀ j : Nat, i ≤ j → j < m.length → (rd_L1 m j).length ≤ 1048576))
  | 0, i, left, hd, h0, h1 => by
    refine ⟨left, Ev.step (f := fun _ => some left) (fun k => ?_) (Ev.now _), .inr ⟨h0, Int.le_refl _, fun j _ _ => by omega⟩⟩
    simp only [laws_szIntSS.l0]
    rw [if_neg (by omega)]
  | d + 1, i, left, hd, h0, h1 => by
    have hm : (rd_L1 m i) ∈ m := by
      unfold rd_L1
      rw [Int.toNat_natCast, List.getD_eq_getElem?_getD, List.getElem?_eq_getElem (show i < m.length by omega)]
      simp
    have hl := hg _ hm
    have e : laws_szIntS.f (rd_L1 m i) left = some (if left - ((rd_L1 m i).length : Int) < 0 then -1 else left - ((rd_L1 m i).length : Int)) := by
      unfold laws_szIntS.f
      rw [w64 (by omega) (by omega)]
      by_cases c : left - ((rd_L1 m i).length : Int) < 0
      · rw [if_pos c, if_pos c]
      · rw [if_neg c, if_neg c]
    by_cases c : left - ((rd_L1 m i).length : Int) < 0
    · rw [if_pos c] at e
      refine ⟨-1, Ev.step (f := fun _ => some (-1)) (fun k => ?_) (Ev.now _), .inl (by omega)⟩
      simp only [laws_szIntSS.l0, e, Option.bind_some]
      rw [if_pos (by omega), if_pos (by omega), if_pos (by omega)]
    · rw [if_neg c] at e
      obtain ⟨r, h2, h3⟩ := szIntSS_l0 m hg hn d (i + 1) (left - ((rd_L1 m i).length : Int)) (by omega) (by omega) (by omega)
      refine ⟨r, Ev.step (fun k => ?_) h2, ?_⟩
      · simp only [laws_szIntSS.l0, e, Option.bind_some]
        rw [if_pos (by omega), if_pos (by omega), if_neg c, wsucc (by omega)]
      · rcases h3 with h3 | ⟨h3, h4, h5⟩
        · exact .inl h3
        · refine .inr ⟨h3, by omega, fun j hj1 hj2 => ?_⟩
          by_cases q : j = i
          · subst q
            omega
          · exact h5 j (by omega) hj2
/-- The measuring of a law's rows: too much, or all of them are short. -/
theorem szIntSS_ev (m : List (List Int)) (left : Int) (h0 : 0 ≤ left) (h1 : left ≤ 1048576) (hm : m.length ≤ 9223372036854775807) (hg : ∀ r ∈ m, r.length ≤ 9223372036854775807) : ∃ r, Ev (fun k => laws_szIntSS.f k m left) r ∧ (r < 0 ∨ (0 ≤ r ∧ r ≤ left ∧ tiny m)) := by
  unfold laws_szIntSS.f
  rw [w64 (by omega) (by omega)]
  by_cases c : left - (m.length : Int) < 0
  · exact ⟨-1, ev_pos c (Ev.now _), .inl (by omega)⟩
  · obtain ⟨r, e, h⟩ := szIntSS_l0 m hg (by omega) m.length 0 (left - (m.length : Int)) (by omega) (by omega) (by omega)
    refine ⟨r, ev_neg c e, ?_⟩
    rcases h with h | ⟨h2, h3, h4⟩
    · exact .inl h
    · exact .inr ⟨h2, by omega, by omega, fun j hj => h4 j (by omega) hj⟩
theorem toIntSS_l0 (m : List (List Int)) (hs : tiny m) : ∀ d i : Nat, i + d = m.length → Ev (fun k => laws_toIntSS.l0 k m (m.take i ++ List.replicate d []) i) m
  | 0, i, h => by
    refine Ev.step (f := fun _ => some m) (fun k => ?_) (Ev.now _)
    simp only [laws_toIntSS.l0]
    rw [if_neg (by omega)]
    simp [List.take_of_length_le (show m.length ≤ i by omega)]
  | d + 1, i, h => by
    have hn := hs.1
    have hl := hs.2 i (by omega)
    have ih := toIntSS_l0 m hs d (i + 1) (by omega)
    refine Ev.step (f := fun k => (laws_toIntS.f k (rd_L1 m i)).bind fun t => laws_toIntSS.l0 k m ((m.take i ++ List.replicate (d + 1) []).set i t) ((i + 1 : Nat) : Int)) (fun k => ?_) ((toIntS_ev (rd_L1 m i) (by omega)).bind ?_)
    · simp only [laws_toIntSS.l0]
      rw [if_pos (by omega), if_pos (by omega), wsucc (by omega)]
      congr 1
      funext t
      rw [if_pos (by simp; omega)]
      rfl
    · have e : (m.take i ++ List.replicate (d + 1) []).set i (rd_L1 m i) = m.take (i + 1) ++ List.replicate d [] := by
        rw [List.replicate_succ, set_midL _ _ _ _ _ (by simp; omega), List.take_succ_eq_append_getElem (show i < m.length by omega), rows_mem (by omega), List.append_assoc]
        rfl
      simp only [e]
      exact ih
theorem toIntSS_ev (m : List (List Int)) (hs : tiny m) : Ev (fun k => laws_toIntSS.f k m) m := by
  have hn := hs.1
  unfold laws_toIntSS.f
  refine ev_pos (by omega) (ev_pos (by omega) ?_)
  have := toIntSS_l0 m hs m.length 0 (by omega)
  simpa using this
theorem eqIntSS_l0 (m : List (List Int)) (hs : small m) : ∀ d i : Nat, i + d = m.length → Ev (fun k => laws_eqIntSS.l0 k m m i) true
  | 0, i, h => by
    refine Ev.step (f := fun _ => some true) (fun k => ?_) (Ev.now _)
    simp only [laws_eqIntSS.l0]
    rw [if_neg (by omega)]
  | d + 1, i, h => by
    have hn := hs.1
    refine Ev.step (f := fun k => (laws_eqIntS.f k (rd_L1 m i) (rd_L1 m i)).bind fun t => if t = true then laws_eqIntSS.l0 k m m ((i + 1 : Nat) : Int) else some false) (fun k => ?_) ((eqIntS_ev (rd_L1 m i) (hs.2 i (by omega))).bind (ev_pos rfl (eqIntSS_l0 m hs d (i + 1) (by omega))))
    simp only [laws_eqIntSS.l0]
    rw [if_pos (by omega), if_pos (by omega), if_pos (by omega), wsucc (by omega)]
theorem eqIntSS_ev (m : List (List Int)) (hs : small m) : Ev (fun k => laws_eqIntSS.f k m m) true := by
  unfold laws_eqIntSS.f
  exact ev_pos rfl (eqIntSS_l0 m hs m.length 0 (by omega))

def marks (c : Nat) : Nat → List Int
  | 0 => []
  | n + 1 => (c : Int) :: marks (c + 1) n
theorem marks_length (n : Nat) : ∀ c, (marks c n).length = n := by
  induction n with
  | zero => intro c; rfl
  | succ n ih => intro c; simp [marks, ih]
theorem marks_snoc (n : Nat) : ∀ c, marks c (n + 1) = marks c n ++ [((c + n : Nat) : Int)] := by
  induction n with
  | zero => intro c; simp [marks]
  | succ n ih =>
    intro c
    rw [marks, ih (c + 1), marks]
    simp
    omega
theorem marks_get (n : Nat) : ∀ c i, i < n → (marks c n).getD i 0 = ((c + i : Nat) : Int) := by
  induction n with
  | zero => intro c i h; omega
  | succ n ih =>
    intro c i h
    cases i with
    | zero => simp [marks]
    | succ i =>
      rw [marks, List.getD_cons_succ, ih (c + 1) i (by omega)]
      omega
theorem markIntS_l0 (a : List Int) (c : Nat) (hn : a.length + c ≤ 4611686018427387904) :
    ∀ d i : Nat, i + d = a.length → Ev (fun k => laws_markIntS.l0 k (marks c i ++ a.drop i) ((c + i : Nat) : Int) i) (((c + a.length : Nat) : Int), marks c a.length)
  | 0, i, h => by
    obtain rfl : i = a.length := by omega
    refine Ev.step (f := fun _ => some (((c + a.length : Nat) : Int), marks c a.length)) (fun k => ?_) (Ev.now _)
    simp only [laws_markIntS.l0]
    rw [if_neg (by simp [marks_length])]
    simp
  | d + 1, i, h => by
    refine Ev.step (f := fun k => laws_markIntS.l0 k (marks c (i + 1) ++ a.drop (i + 1)) ((c + (i + 1) : Nat) : Int) ((i + 1 : Nat) : Int)) (fun k => ?_) (markIntS_l0 a c hn d (i + 1) (by omega))
    simp only [laws_markIntS.l0]
    rw [if_pos (by simp [marks_length]; omega), if_pos (by omega), wsucc (by omega), wsucc (by omega), getD_drop a i (by omega), Int.toNat_natCast, set_mid _ _ _ _ _ (marks_length _ _), marks_snoc]
    simp [Nat.add_assoc]
theorem markIntS_ev (a : List Int) (c : Nat) (hn : a.length + c ≤ 4611686018427387904) : Ev (fun k => laws_markIntS.f k a c) (((c + a.length : Nat) : Int), marks c a.length) := by
  refine Ev.congr (f := fun k => laws_markIntS.l0 k (marks c 0 ++ a.drop 0) ((c + 0 : Nat) : Int) 0) (fun k => ?_) (markIntS_l0 a c hn a.length 0 (by omega))
  unfold laws_markIntS.f
  simp [marks]

theorem heldIntS_l0 (n c : Nat) (hn : n + c ≤ 4611686018427387904) :
    ∀ d i : Nat, i + d = n → Ev (fun k => laws_heldIntS.l0 k (marks c n) ((c + i : Nat) : Int) i) ((c + n : Nat) : Int)
  | 0, i, h => by
    obtain rfl : i = n := by omega
    refine Ev.step (f := fun _ => some ((c + i : Nat) : Int)) (fun k => ?_) (Ev.now _)
    simp only [laws_heldIntS.l0]
    rw [if_neg (by simp [marks_length])]
  | d + 1, i, h => by
    refine Ev.step (f := fun k => laws_heldIntS.l0 k (marks c n) ((c + (i + 1) : Nat) : Int) ((i + 1 : Nat) : Int)) (fun k => ?_) (heldIntS_l0 n c hn d (i + 1) (by omega))
    simp only [laws_heldIntS.l0]
    rw [if_pos (by simp [marks_length]; omega), if_pos (by omega), wsucc (by omega), wsucc (by omega), rd_nat, marks_get _ _ _ (by omega), if_pos rfl]
    simp [Nat.add_assoc]
theorem heldIntS_ev (n c : Nat) (hn : n + c ≤ 4611686018427387904) : Ev (fun k => laws_heldIntS.f k (marks c n) c) ((c + n : Nat) : Int) := by
  refine Ev.congr (f := fun k => laws_heldIntS.l0 k (marks c n) ((c + 0 : Nat) : Int) 0) (fun k => ?_) (heldIntS_l0 n c hn n 0 (by omega))
  unfold laws_heldIntS.f
  simp

def total : List (List Int) → Nat
  | [] => 0
  | r :: q => r.length + total q
def markRows : Nat → List (List Int) → List (List Int)
  | _, [] => []
  | c, r :: q => marks c r.length :: markRows (c + r.length) q
theorem markSS_l0 : ∀ (q p : List (List Int)) (c : Nat), p.length + q.length ≤ 1099511627776 → c + total q ≤ 4611686018427387904 → Ev (fun k => laws_markIntSS.l0 k (p ++ q) c (p.length : Nat)) (((c + total q : Nat) : Int), p ++ markRows c q)
  | [], p, c, _, _ => by
    refine Ev.step (f := fun _ => some (((c + total [] : Nat) : Int), p ++ markRows c [])) (fun k => ?_) (Ev.now _)
    simp only [laws_markIntSS.l0, List.append_nil]
    rw [if_neg (by omega)]
    simp [total, markRows]
  | r :: q, p, c, hp, h => by
    simp only [total] at h
    simp only [List.length_cons] at hp
    have ih := markSS_l0 q (p ++ [marks c r.length]) (c + r.length) (by simp; omega) (by omega)
    refine Ev.step (f := fun k => (laws_markIntS.f k r c).bind fun t => laws_markIntSS.l0 k ((p ++ r :: q).set p.length t.2) t.1 ((p.length + 1 : Nat) : Int)) (fun k => ?_) ((markIntS_ev r c (by omega)).bind ?_)
    · simp only [laws_markIntSS.l0]
      rw [if_pos (by simp only [List.length_append, List.length_cons]; omega), if_pos (by omega), wsucc (by omega), Int.toNat_natCast]
      simp
    · rw [set_midL p q r (marks c r.length) p.length rfl]
      have e1 : p ++ marks c r.length :: q = (p ++ [marks c r.length]) ++ q := by simp
      have e2 : p ++ markRows c (r :: q) = (p ++ [marks c r.length]) ++ markRows (c + r.length) q := by simp [markRows]
      have e3 : c + total (r :: q) = c + r.length + total q := by simp only [total]; omega
      have e4 : (p ++ [marks c r.length]).length = p.length + 1 := by simp
      rw [e4] at ih
      rw [e2, e3]
      simp only [e1]
      exact ih
theorem markIntSS_ev (m : List (List Int)) (c : Nat) (hm : m.length ≤ 1099511627776) (h : c + total m ≤ 4611686018427387904) : Ev (fun k => laws_markIntSS.f k m c) (((c + total m : Nat) : Int), markRows c m) := by
  have := markSS_l0 m [] c (by simpa using hm) h
  exact this
theorem markRows_length : ∀ (m : List (List Int)) (c : Nat), (markRows c m).length = m.length
  | [], c => rfl
  | r :: q, c => by simp [markRows, markRows_length q]
theorem heldSS_l0 : ∀ (q p : List (List Int)) (c : Nat), p.length + q.length ≤ 1099511627776 → c + total q ≤ 4611686018427387904 → Ev (fun k => laws_heldIntSS.l0 k (p ++ markRows c q) c (p.length : Nat)) ((c + total q : Nat) : Int)
  | [], p, c, _, _ => by
    refine Ev.step (f := fun _ => some ((c + total [] : Nat) : Int)) (fun k => ?_) (Ev.now _)
    simp only [laws_heldIntSS.l0, markRows, List.append_nil]
    rw [if_neg (by omega)]
    simp [total]
  | r :: q, p, c, hp, h => by
    simp only [total] at h
    simp only [List.length_cons] at hp
    have ih := heldSS_l0 q (p ++ [marks c r.length]) (c + r.length) (by simp; omega) (by omega)
    have e4 : (p ++ [marks c r.length]).length = p.length + 1 := by simp
    have e1 : p ++ markRows c (r :: q) = (p ++ [marks c r.length]) ++ markRows (c + r.length) q := by simp [markRows]
    have e3 : c + total (r :: q) = c + r.length + total q := by simp only [total]; omega
    rw [e4] at ih
    rw [e1, e3]
    refine Ev.step (f := fun k => (laws_heldIntS.f k (marks c r.length) c).bind fun t => if t < 0 then some (-1) else laws_heldIntSS.l0 k ((p ++ [marks c r.length]) ++ markRows (c + r.length) q) t ((p.length + 1 : Nat) : Int)) (fun k => ?_) ((heldIntS_ev r.length c (by omega)).bind (ev_neg (by omega) ih))
    simp only [laws_heldIntSS.l0]
    rw [if_pos (by simp only [List.length_append, List.length_cons, markRows_length]; omega), if_pos (by omega), wsucc (by omega)]
    simp [rd_L1]
theorem heldIntSS_ev (m : List (List Int)) (c : Nat) (hm : m.length ≤ 1099511627776) (h : c + total m ≤ 4611686018427387904) : Ev (fun k => laws_heldIntSS.f k (markRows c m) c) ((c + total m : Nat) : Int) := by
  have := heldSS_l0 m [] c (by simpa using hm) h
  exact this
theorem total_le (B : Nat) : ∀ m : List (List Int), (∀ r ∈ m, r.length ≤ B) → total m ≤ m.length * B
  | [], _ => by simp [total]
  | r :: q, h => by
    have h1 := total_le B q (fun r hr => h r (List.mem_cons_of_mem _ hr))
    have h2 := h r (List.mem_cons_self)
    simp only [total, List.length_cons, Nat.succ_mul]
    omega
theorem total_tiny {m : List (List Int)} (h : tiny m) : total m ≤ 1099511627776 := by
  have h1 := total_le 1048576 m (fun r hr => by
    obtain ⟨i, hi, rfl⟩ := List.mem_iff_getElem.1 hr
    have := h.2 i hi
    rwa [rows_mem hi] at this)
  have h2 := Nat.mul_le_mul_right 1048576 h.1
  omega

/-- Rows of 32 values, told dot by dot. -/
def tabRow (F : Nat → Nat → Int) (y n : Nat) : List Int := (List.range n).map (F y)
def tab (F : Nat → Nat → Int) (n : Nat) : List (List Int) := (List.range n).map fun y => tabRow F y 32
theorem tabRow_snoc (F : Nat → Nat → Int) (y n : Nat) : tabRow F y (n + 1) = tabRow F y n ++ [F y n] := by simp [tabRow, List.range_succ]
theorem tabRow_length (F : Nat → Nat → Int) (y n : Nat) : (tabRow F y n).length = n := by simp [tabRow]
theorem tab_snoc (F : Nat → Nat → Int) (n : Nat) : tab F (n + 1) = tab F n ++ [tabRow F n 32] := by simp [tab, List.range_succ]
theorem tab_length (F : Nat → Nat → Int) (n : Nat) : (tab F n).length = n := by simp [tab]
theorem tab_row (F : Nat → Nat → Int) {n y : Nat} (h : y < n) : rd_L1 (tab F n) y = tabRow F y 32 := by
  rw [rows_mem (by rw [tab_length]; exact h)]
  simp [tab]
theorem tabRow_get (F : Nat → Nat → Int) (y : Nat) {n x : Nat} (h : x < n) : rd (tabRow F y n) x = F y x := by
  rw [rd_nat, List.getD_eq_getElem?_getD, List.getElem?_eq_getElem (by rw [tabRow_length]; exact h)]
  simp [tabRow]
theorem rows_mid (p q : List (List Int)) (u : List Int) (i : Nat) (h : p.length = i) : rd_L1 (p ++ u :: q) i = u := by
  subst h
  simp [rd_L1]
theorem dots_mid (p q : List Int) (u : Int) (i : Nat) (h : p.length = i) : rd (p ++ u :: q) i = u := by
  subst h
  simp [rd_nat]
theorem rows_drop (m : List (List Int)) {i : Nat} (h : i < m.length) : m.drop i = rd_L1 m i :: m.drop (i + 1) := by
  rw [List.drop_eq_getElem_cons h, rows_mem h]
theorem dots_drop (r : List Int) {i : Nat} (h : i < r.length) : r.drop i = rd r i :: r.drop (i + 1) := by
  rw [getD_drop r i h, rd_nat]
theorem tab_small (F : Nat → Nat → Int) (n : Nat) (h : n ≤ 32) : small (tab F n) := by
  refine ⟨by rw [tab_length]; omega, fun j hj => ?_⟩
  rw [tab_length] at hj
  rw [tab_row F hj, tabRow_length]
  omega
theorem tab_total (F : Nat → Nat → Int) (n : Nat) (h : n ≤ 32) : True := trivial
theorem small_total {m : List (List Int)} (h : m.length ≤ 32) (h2 : ∀ j : Nat, j < m.length → (rd_L1 m j).length ≤ 32) : m.length ≤ 1048576 ∧ ∀ j : Nat, j < m.length → (rd_L1 m j).length ≤ 1048576 := ⟨by omega, fun j hj => by have := h2 j hj; omega⟩
theorem tab_tiny (F : Nat → Nat → Int) (n : Nat) (h : n ≤ 32) : tiny (tab F n) := by
  refine ⟨by rw [tab_length]; omega, fun j hj => ?_⟩
  rw [tab_length] at hj
  rw [tab_row F hj, tabRow_length]
  omega
theorem mat_dot {hi : Int} {m : List (List Int)} (h : mat hi m) {y x : Nat} (hy : y < m.length) (hx : x < 32) : 0 ≤ rd (rd_L1 m y) x ∧ rd (rd_L1 m y) x ≤ hi := (h.2 y hy).2 x (by rw [(h.2 y hy).1]; exact hx)
theorem tab_mat (F : Nat → Nat → Int) (n : Nat) (hi : Int) (h : n ≤ 32) (hF : ∀ y x, y < n → x < 32 → 0 ≤ F y x ∧ F y x ≤ hi) : mat hi (tab F n) := by
  refine ⟨by rw [tab_length]; exact h, fun j hj => ?_⟩
  rw [tab_length] at hj
  rw [tab_row F hj]
  refine ⟨tabRow_length _ _ _, fun i h1 => ?_⟩
  rw [tabRow_length] at h1
  rw [tabRow_get F j h1]
  exact hF j i hj h1

/-- The greatest row of a width, as the program reckons it. -/
def topRow (w : Int) : Int := wrap64 ((shl .i64 1 w) - 1)
/-- A right glyph. -/
def glyph (id w : Int) (rows : List Int) : Prop := (0 ≤ id ∧ id ≤ 999) ∧ (1 ≤ w ∧ w ≤ 8) ∧ (1 ≤ (rows.length : Int) ∧ (rows.length : Int) ≤ 8) ∧ ∀ i : Nat, i < rows.length → 0 ≤ rd rows i ∧ rd rows i ≤ topRow w
instance (id w : Int) (rows : List Int) : Decidable (glyph id w rows) := by
  unfold glyph
  infer_instance
theorem and1 (n : Int) : Go.bits .and .i64 n 1 = n % 2 := by
  have h1 : (BitVec.ofInt 64 1).toNat = 2 ^ 1 - 1 := by decide
  have key : (BitVec.ofInt 64 n &&& BitVec.ofInt 64 1).toNat = (n % ((2 ^ 64 : Nat) : Int)).toNat % 2 ^ 1 := by
    rw [BitVec.toNat_and, BitVec.toNat_ofInt, h1, Nat.and_two_pow_sub_one_eq_mod]
  show IntKind.i64.wrap ((BitVec.ofInt 64 n &&& BitVec.ofInt 64 1).toNat : Nat) = n % 2
  rw [key, IntKind.wrap_i64]
  omega
/-- A glyph's dot; 0 outside, and of a wrong glyph. -/
def gdot (id w : Int) (rows : List Int) (x y : Int) : Int :=
  if glyph id w rows ∧ (0 ≤ x ∧ x ≤ w - 1) ∧ 0 ≤ y ∧ y ≤ (rows.length : Int) - 1 then Go.bits .and .i64 (shr .i64 (rd rows y) x) 1 else 0
theorem gdot_in (id w : Int) (rows : List Int) (x y : Int) : 0 ≤ gdot id w rows x y ∧ gdot id w rows x y ≤ 1 := by
  unfold gdot
  split
  · rw [and1]
    omega
  · omega

/-! A glyph that is placed over rows of dots. -/
/-- A dot within the rows. -/
def putDot (m : List (List Int)) (a b : Int) : List (List Int) := if (0 ≤ a ∧ a ≤ (m.length : Int) - 1) ∧ (0 ≤ b ∧ b ≤ 31) then m.set a.toNat ((rd_L1 m a).set b.toNat 1) else m
def plRow (id w : Int) (g : List Int) (x y : Int) (j : Nat) : Nat → Nat → List (List Int) → List (List Int)
  | 0, _, m => m
  | d + 1, i, m => plRow id w g x y j d (i + 1) (if gdot id w g (i : Nat) (j : Nat) = 1 then putDot m (y + (j : Nat)) (x + (i : Nat)) else m)
def plAll (id w : Int) (g : List Int) (x y : Int) : Nat → Nat → List (List Int) → List (List Int)
  | 0, _, m => m
  | d + 1, j, m => plAll id w g x y d (j + 1) (plRow id w g x y j w.toNat 0 m)
def shape (n : Nat) (m : List (List Int)) : Prop := m.length = n ∧ ∀ j : Nat, j < n → (rd_L1 m j).length = 32
theorem rows_set (m : List (List Int)) (i j : Nat) (r : List Int) (hi : i < m.length) : rd_L1 (m.set i r) j = if j = i then r else rd_L1 m j := by
  unfold rd_L1
  simp only [Int.toNat_natCast, List.getD_eq_getElem?_getD]
  by_cases c : j = i
  · subst c
    rw [if_pos rfl, List.getElem?_set_self hi]
    rfl
  · rw [if_neg c, List.getElem?_set_ne (by omega)]
theorem dots_set (r : List Int) (i j : Nat) (u : Int) (hi : i < r.length) : rd (r.set i u) j = if j = i then u else rd r j := by
  rw [rd_nat, rd_nat, List.getD_eq_getElem?_getD, List.getD_eq_getElem?_getD]
  by_cases c : j = i
  · subst c
    rw [if_pos rfl, List.getElem?_set_self hi]
    rfl
  · rw [if_neg c, List.getElem?_set_ne (by omega)]
theorem putDot_shape {n : Nat} {m : List (List Int)} (h : shape n m) (a b : Int) : shape n (putDot m a b) := by
  unfold putDot
  split
  · rename_i c
    refine ⟨by rw [List.length_set]; exact h.1, fun j hj => ?_⟩
    rw [rows_set _ _ _ _ (by omega)]
    split
    · rename_i e
      rw [List.length_set, show a = ((a.toNat : Nat) : Int) by omega]
      exact h.2 _ (by have := h.1; omega)
    · exact h.2 j hj
  · exact h
theorem plRow_shape (id w : Int) (g : List Int) (x y : Int) (j : Nat) {n : Nat} : ∀ (d i : Nat) (m : List (List Int)), shape n m → shape n (plRow id w g x y j d i m)
  | 0, _, _, h => h
  | d + 1, i, m, h => by
    simp only [plRow]
    apply plRow_shape
    split
    · exact putDot_shape h _ _
    · exact h
theorem plAll_shape (id w : Int) (g : List Int) (x y : Int) {n : Nat} : ∀ (d j : Nat) (m : List (List Int)), shape n m → shape n (plAll id w g x y d j m)
  | 0, _, _, h => h
  | d + 1, j, m, h => by
    simp only [plAll]
    exact plAll_shape id w g x y d (j + 1) _ (plRow_shape id w g x y j _ _ _ h)
theorem mat_shape {hi : Int} {m : List (List Int)} (h : mat hi m) : shape m.length m := ⟨rfl, fun j hj => (h.2 j hj).1⟩
def placeOk (m : List (List Int)) (id w : Int) (g : List Int) (x y : Int) : Prop := mat 1 m ∧ glyph id w g ∧ (-8 ≤ x ∧ x ≤ 32) ∧ (-8 ≤ y ∧ y ≤ 32)
instance (m : List (List Int)) (id w : Int) (g : List Int) (x y : Int) : Decidable (placeOk m id w g x y) := by
  unfold placeOk
  infer_instance
/-- What the placing gives. -/
def placeV (m : List (List Int)) (id w : Int) (g : List Int) (x y : Int) : List (List Int) × Bool := if placeOk m id w g x y then (plAll id w g x y g.length 0 m, true) else (m, false)
theorem placeV_tiny {m : List (List Int)} (h : tiny m) (id w : Int) (g : List Int) (x y : Int) : tiny (placeV m id w g x y).1 := by
  unfold placeV
  split
  · rename_i ok
    have s := plAll_shape id w g x y g.length 0 m (mat_shape ok.1)
    have l := ok.1.1
    refine ⟨by rw [s.1]; omega, fun j hj => ?_⟩
    rw [s.1] at hj
    have e := s.2 j hj
    show (rd_L1 (plAll id w g x y g.length 0 m) j).length ≤ 1048576
    omega
  · exact h

theorem within_eq (a b c : Int) : impl_within.f a b c = some (decide (b ≤ a ∧ a ≤ c)) := by
  unfold impl_within.f
  by_cases h : a ≥ b
  · rw [if_pos h]
    simp [show b ≤ a from h]
  · rw [if_neg h]
    simp [show ¬ b ≤ a from h]

theorem impl_rowOk_l0 (a : List Int) (hn : a.length = 32) :
    ∀ d i : Nat, i + d = a.length → (∀ j : Nat, j < i → 0 ≤ rd a j ∧ rd a j ≤ 255) → Ev (fun k => impl_rowOk.l0 k a (a.length : Int) i) (decide (rowP 255 a))
  | 0, i, h, hj => by
    refine Ev.step (f := fun _ => some true) (fun k => ?_) ?_
    · simp only [impl_rowOk.l0]
      rw [if_neg (by omega)]
    · rw [decide_eq_true (show rowP 255 a from ⟨hn, fun j h1 => hj j (by omega)⟩)]
      exact Ev.now _
  | d + 1, i, h, hj => by
    by_cases c : 0 ≤ rd a i ∧ rd a i ≤ 255
    · refine Ev.step (f := fun k => impl_rowOk.l0 k a (a.length : Int) ((i + 1 : Nat) : Int)) (fun k => ?_) (impl_rowOk_l0 a hn d (i + 1) (by omega) (fun j h1 => ?_))
      · simp only [impl_rowOk.l0, within_eq, Option.bind_some]
        rw [if_pos (by omega), if_pos (by omega), if_pos (by omega), if_pos (decide_eq_true c), wsucc (by omega)]
      · by_cases e : j = i
        · subst e
          exact c
        · exact hj j (by omega)
    · refine Ev.step (f := fun _ => some false) (fun k => ?_) ?_
      · simp only [impl_rowOk.l0, within_eq, Option.bind_some]
        rw [if_pos (by omega), if_pos (by omega), if_pos (by omega), if_neg (by simp only [decide_eq_true_eq]; exact c)]
      · rw [decide_eq_false (show ¬ rowP 255 a from fun h3 => c (h3.2 i (by omega)))]
        exact Ev.now _
theorem impl_rowOk_ev (a : List Int) : Ev (fun k => impl_rowOk.f k a) (decide (rowP 255 a)) := by
  unfold impl_rowOk.f
  by_cases c : (a.length : Int) = 32
  · exact ev_pos c (impl_rowOk_l0 a (by omega) a.length 0 (by omega) (fun j h => by omega))
  · rw [decide_eq_false (show ¬ rowP 255 a from fun h => by have := h.1; omega)]
    exact ev_neg c (Ev.now _)
theorem impl_RowsOk_l0 (m : List (List Int)) (hn : m.length ≤ 32) :
    ∀ d i : Nat, i + d = m.length → (∀ j : Nat, j < i → rowP 255 (rd_L1 m j)) → Ev (fun k => impl_RowsOk.l0 k m (m.length : Int) i) (decide (mat 255 m))
  | 0, i, h, hj => by
    refine Ev.step (f := fun _ => some true) (fun k => ?_) ?_
    · simp only [impl_RowsOk.l0]
      rw [if_neg (by omega)]
    · rw [decide_eq_true (show mat 255 m from ⟨hn, fun j h1 => hj j (by omega)⟩)]
      exact Ev.now _
  | d + 1, i, h, hj => by
    refine Ev.step (f := fun k => (impl_rowOk.f k (rd_L1 m i)).bind fun t => if t = true then impl_RowsOk.l0 k m (m.length : Int) ((i + 1 : Nat) : Int) else some false) (fun k => ?_) ((impl_rowOk_ev (rd_L1 m i)).bind ?_)
    · simp only [impl_RowsOk.l0]
      rw [if_pos (by omega), if_pos (by omega), if_pos (by omega), wsucc (by omega)]
    · by_cases c : rowP 255 (rd_L1 m i)
      · refine ev_pos (decide_eq_true c) (impl_RowsOk_l0 m hn d (i + 1) (by omega) (fun j h1 => ?_))
        by_cases e : j = i
        · subst e
          exact c
        · exact hj j (by omega)
      · rw [decide_eq_false (show ¬ mat 255 m from fun h3 => c (h3.2 i (by omega)))]
        exact ev_neg (by simp [c]) (Ev.now _)
theorem impl_RowsOk_ev (m : List (List Int)) : Ev (fun k => impl_RowsOk.f k m) (decide (mat 255 m)) := by
  unfold impl_RowsOk.f
  by_cases c : (m.length : Int) > 32
  · rw [decide_eq_false (show ¬ mat 255 m from fun h => by have := h.1; omega)]
    exact ev_pos c (Ev.now _)
  · exact ev_neg c (impl_RowsOk_l0 m (by omega) m.length 0 (by omega) (fun j h => by omega))

theorem impl_BitsOk_l1 (m : List (List Int)) (h255 : mat 255 m) (y : Nat) (hy : y < m.length) (R : Bool) :
    ∀ d i : Nat, i + d = (rd_L1 m y).length → (∀ j : Nat, j < i → rd (rd_L1 m y) j ≤ 1) → (rowP 1 (rd_L1 m y) → Ev (fun k => impl_BitsOk.l0 k m (m.length : Int) (wrap64 ((y : Int) + 1))) R) → (¬ rowP 1 (rd_L1 m y) → R = false) →
      Ev (fun k => impl_BitsOk.l1 k m (m.length : Int) y (rd_L1 m y) ((rd_L1 m y).length : Int) i) R
  | 0, i, h, hj, h1, h2 => by
    have hr := h255.2 y hy
    refine Ev.step (fun k => ?_) (h1 ⟨hr.1, fun j hj2 => ⟨(hr.2 j hj2).1, hj j (by omega)⟩⟩)
    simp only [impl_BitsOk.l1]
    rw [if_neg (by omega)]
  | d + 1, i, h, hj, h1, h2 => by
    have hr := h255.2 y hy
    have hl := hr.1
    by_cases c : rd (rd_L1 m y) i > 1
    · rw [h2 fun q => by have := (q.2 i (by omega)).2; omega]
      refine Ev.step (f := fun _ => some false) (fun k => ?_) (Ev.now _)
      simp only [impl_BitsOk.l1]
      rw [if_pos (by omega), if_pos (by omega), if_pos (by omega), if_pos c]
    · refine Ev.step (fun k => ?_) (impl_BitsOk_l1 m h255 y hy R d (i + 1) (by omega) (fun j hj2 => ?_) h1 h2)
      · simp only [impl_BitsOk.l1]
        rw [if_pos (by omega), if_pos (by omega), if_pos (by omega), if_neg c, wsucc (by omega)]
      · by_cases e : j = i
        · subst e
          omega
        · exact hj j (by omega)
theorem impl_BitsOk_l0 (m : List (List Int)) (h255 : mat 255 m) : ∀ d i : Nat, i + d = m.length → (∀ j : Nat, j < i → rowP 1 (rd_L1 m j)) → Ev (fun k => impl_BitsOk.l0 k m (m.length : Int) i) (decide (mat 1 m))
  | 0, i, h, hj => by
    have hn := h255.1
    refine Ev.step (f := fun _ => some true) (fun k => ?_) ?_
    · simp only [impl_BitsOk.l0]
      rw [if_neg (by omega)]
    · rw [decide_eq_true (show mat 1 m from ⟨hn, fun j h1 => hj j (by omega)⟩)]
      exact Ev.now _
  | d + 1, i, h, hj => by
    have hn := h255.1
    refine Ev.step (f := fun k => impl_BitsOk.l1 k m (m.length : Int) i (rd_L1 m i) ((rd_L1 m i).length : Int) 0) (fun k => ?_) (impl_BitsOk_l1 m h255 i (by omega) _ (rd_L1 m i).length 0 (by omega) (fun j h1 => by omega) (fun hr => ?_) (fun hr => decide_eq_false fun q => hr (q.2 i (by omega))))
    · simp only [impl_BitsOk.l0]
      rw [if_pos (by omega), if_pos (by omega), if_pos (by omega)]
    · rw [wsucc (by omega)]
      refine impl_BitsOk_l0 m h255 d (i + 1) (by omega) (fun j h1 => ?_)
      by_cases e : j = i
      · subst e
        exact hr
      · exact hj j (by omega)
theorem impl_BitsOk_ev (m : List (List Int)) : Ev (fun k => impl_BitsOk.f k m) (decide (mat 1 m)) := by
  unfold impl_BitsOk.f
  refine (impl_RowsOk_ev m).bind ?_
  by_cases c : mat 255 m
  · exact ev_pos (decide_eq_true c) (impl_BitsOk_l0 m c m.length 0 (by omega) (fun j h => by omega))
  · rw [decide_eq_false (show ¬ mat 1 m from fun h => c (mat_mono (by omega) h))]
    exact ev_neg (by simp [c]) (Ev.now _)

theorem impl_copyRows_l0 (m : List (List Int)) (hs : small m) (hm : m.length ≤ 1048576) : ∀ d i : Nat, i + d = m.length → Ev (fun k => impl_copyRows.l0 k (m.take i) m (m.length : Int) i) m
  | 0, i, h => by
    refine Ev.step (f := fun _ => some m) (fun k => ?_) (Ev.now _)
    simp only [impl_copyRows.l0]
    rw [if_neg (by omega), List.take_of_length_le (show m.length ≤ i by omega)]
  | d + 1, i, h => by
    have hl := hs.2 i (by omega)
    refine Ev.step (fun k => ?_) (impl_copyRows_l0 m hs hm d (i + 1) (by omega))
    have e : slices_Clone_int_int.f (rd_L1 m i) = some (rd_L1 m i) := by
      unfold slices_Clone_int_int.f
      rw [if_pos (by omega)]
    simp only [impl_copyRows.l0, e, Option.bind_some]
    rw [if_pos (by omega), if_pos (by omega), if_pos (by omega), if_pos (by rw [List.length_take]; omega), wsucc (by omega), List.take_succ_eq_append_getElem (show i < m.length by omega), rows_mem (by omega)]
theorem impl_copyRows_ev (m : List (List Int)) (hs : tiny m) : Ev (fun k => impl_copyRows.f k m) m := by
  have := impl_copyRows_l0 m (tiny_small hs) hs.1 m.length 0 (by omega)
  unfold impl_copyRows.f
  simpa using this

theorem impl_GlyphOk_l0 (id w : Int) (a : List Int) (hi : 0 ≤ id ∧ id ≤ 999) (hw : 1 ≤ w ∧ w ≤ 8) (hl : 1 ≤ (a.length : Int) ∧ (a.length : Int) ≤ 8) :
    ∀ d i : Nat, i + d = a.length → (∀ j : Nat, j < i → 0 ≤ rd a j ∧ rd a j ≤ topRow w) → Ev (fun k => impl_GlyphOk.l0 k a (a.length : Int) i id w a) (decide (glyph id w a))
  | 0, i, h, hj => by
    refine Ev.step (f := fun _ => some true) (fun k => ?_) ?_
    · simp only [impl_GlyphOk.l0]
      rw [if_neg (by omega)]
    · rw [decide_eq_true (show glyph id w a from ⟨hi, hw, hl, fun j h1 => hj j (by omega)⟩)]
      exact Ev.now _
  | d + 1, i, h, hj => by
    by_cases c : 0 ≤ rd a i ∧ rd a i ≤ topRow w
    · refine Ev.step (f := fun k => impl_GlyphOk.l0 k a (a.length : Int) ((i + 1 : Nat) : Int) id w a) (fun k => ?_) (impl_GlyphOk_l0 id w a hi hw hl d (i + 1) (by omega) (fun j h1 => ?_))
      · simp only [impl_GlyphOk.l0, within_eq, Option.bind_some]
        rw [if_pos (by omega), if_pos (by omega), if_pos (by omega), if_pos (by omega), if_pos (show decide (0 ≤ rd a i ∧ rd a i ≤ wrap64 ((shl .i64 1 w) - 1)) = true from decide_eq_true c), wsucc (by omega)]
      · by_cases e : j = i
        · subst e
          exact c
        · exact hj j (by omega)
    · refine Ev.step (f := fun _ => some false) (fun k => ?_) ?_
      · simp only [impl_GlyphOk.l0, within_eq, Option.bind_some]
        rw [if_pos (by omega), if_pos (by omega), if_pos (by omega), if_pos (by omega), if_neg (show ¬ decide (0 ≤ rd a i ∧ rd a i ≤ wrap64 ((shl .i64 1 w) - 1)) = true from by simp only [decide_eq_true_eq]; exact c)]
      · rw [decide_eq_false (show ¬ glyph id w a from fun h3 => c (h3.2.2.2 i (by omega)))]
        exact Ev.now _
theorem impl_GlyphOk_ev (id w : Int) (a : List Int) : Ev (fun k => impl_GlyphOk.f k id w a) (decide (glyph id w a)) := by
  unfold impl_GlyphOk.f
  have no : ∀ h : ¬ glyph id w a, Ev (fun k => impl_GlyphOk.j0 k true id w a) (decide (glyph id w a)) := by
    intro h
    rw [decide_eq_false h]
    exact Ev.step (f := fun _ => some false) (fun k => by simp only [impl_GlyphOk.j0]; rw [if_pos trivial]) (Ev.now _)
  refine ev_eq (within_eq _ _ _) ?_
  by_cases hi : 0 ≤ id ∧ id ≤ 999
  · refine ev_pos (decide_eq_true hi) (ev_eq (within_eq _ _ _) ?_)
    by_cases hw : 1 ≤ w ∧ w ≤ 8
    · refine ev_pos (decide_eq_true hw) (ev_eq (within_eq _ _ _) ?_)
      by_cases hl : 1 ≤ (a.length : Int) ∧ (a.length : Int) ≤ 8
      · rw [decide_eq_true hl]
        refine Ev.step (f := fun k => impl_GlyphOk.l0 k a (a.length : Int) 0 id w a) (fun k => ?_) (impl_GlyphOk_l0 id w a hi hw hl a.length 0 (by omega) (fun j h => by omega))
        simp only [impl_GlyphOk.j0]
        rw [if_neg (by simp)]
      · rw [decide_eq_false hl]
        exact no fun h => hl h.2.2.1
    · exact ev_neg (by simp only [decide_eq_true_eq]; exact hw) (no fun h => hw h.2.1)
  · exact ev_neg (by simp only [decide_eq_true_eq]; exact hi) (no fun h => hi h.1)

theorem impl_GlyphDot_ev (id w : Int) (a : List Int) (x y : Int) : Ev (fun k => impl_GlyphDot.f k id w a x y) (gdot id w a x y) := by
  unfold impl_GlyphDot.f gdot
  refine (impl_GlyphOk_ev id w a).bind ?_
  by_cases hg : glyph id w a
  · have hg' := hg
    obtain ⟨_, hw, hl, _⟩ := hg'
    refine ev_pos (decide_eq_true hg) (ev_eq (within_eq _ _ _) ?_)
    rw [w64 (n := w - 1) (by omega) (by omega)]
    by_cases hx : 0 ≤ x ∧ x ≤ w - 1
    · refine ev_pos (decide_eq_true hx) (ev_eq (within_eq _ _ _) ?_)
      rw [w64 (n := (a.length : Int) - 1) (by omega) (by omega)]
      by_cases hy : 0 ≤ y ∧ y ≤ (a.length : Int) - 1
      · rw [if_pos (c := glyph id w a ∧ (0 ≤ x ∧ x ≤ w - 1) ∧ 0 ≤ y ∧ y ≤ (a.length : Int) - 1) ⟨hg, hx, hy⟩]
        exact ev_pos (decide_eq_true hy) (ev_pos (by omega) (ev_pos (by omega) (ev_pos (by omega) (Ev.now _))))
      · rw [if_neg (c := glyph id w a ∧ (0 ≤ x ∧ x ≤ w - 1) ∧ 0 ≤ y ∧ y ≤ (a.length : Int) - 1) (fun q => hy q.2.2)]
        exact ev_neg (by simp only [decide_eq_true_eq]; exact hy) (Ev.now _)
    · rw [if_neg (c := glyph id w a ∧ (0 ≤ x ∧ x ≤ w - 1) ∧ 0 ≤ y ∧ y ≤ (a.length : Int) - 1) (fun q => hx q.2.1)]
      exact ev_neg (by simp only [decide_eq_true_eq]; exact hx) (Ev.now _)
  · rw [if_neg (c := glyph id w a ∧ (0 ≤ x ∧ x ≤ w - 1) ∧ 0 ≤ y ∧ y ≤ (a.length : Int) - 1) (fun q => hg q.1)]
    exact ev_neg (by simp only [decide_eq_true_eq]; exact hg) (Ev.now _)

theorem impl_Place_l1 (R : List (List Int) × Bool) (id w : Int) (g : List Int) (x y : Int) (hg : glyph id w g) (hx : -8 ≤ x ∧ x ≤ 32) (hy : -8 ≤ y ∧ y ≤ 32) (n : Nat) (hn : n ≤ 32) (j : Nat) (hj : j < g.length) : ∀ (d i : Nat) (m : List (List Int)), i + d = w.toNat → shape n m →
    Ev (fun k => impl_PlaceGlyph.l0 k x y (plRow id w g x y j d i m) (g.length : Int) (wrap64 ((j : Int) + 1)) id w g) R → Ev (fun k => impl_PlaceGlyph.l1 k x y m j i (g.length : Int) j id w g) R
  | 0, i, m, hd, hs, e => by
    have hw := hg.2.1
    refine Ev.step (fun k => ?_) e
    simp only [impl_PlaceGlyph.l1, plRow]
    rw [if_neg (by omega)]
  | d + 1, i, m, hd, hs, e => by
    have hw := hg.2.1
    have hiw : (i : Int) < w := by omega
    have hl := hg.2.2.1
    have hm := hs.1
    simp only [plRow] at e
    have ed := impl_GlyphDot_ev id w g (i : Nat) (j : Nat)
    have w1 : wrap64 (y + (j : Int)) = y + (j : Int) := w64 (by omega) (by omega)
    have w2 : wrap64 (x + (i : Int)) = x + (i : Int) := w64 (by omega) (by omega)
    have w3 : wrap64 ((m.length : Int) - 1) = (m.length : Int) - 1 := w64 (by omega) (by omega)
    have w5 : wrap64 ((i : Int) + 1) = ((i + 1 : Nat) : Int) := wsucc (by omega)
    refine Ev.step (f := fun k => (impl_GlyphDot.f k id w g (i : Nat) (j : Nat)).bind fun t => if t = 1 then (if decide (0 ≤ y + (j : Int) ∧ y + (j : Int) ≤ (m.length : Int) - 1) = true then (if decide (0 ≤ x + (i : Int) ∧ x + (i : Int) ≤ 31) = true then (if 0 ≤ y + (j : Int) then (if y + (j : Int) < (m.length : Int) then (if 0 ≤ x + (i : Int) then (if x + (i : Int) < ((rd_L1 m (y + (j : Int))).length : Int) then impl_PlaceGlyph.l1 k x y (m.set (y + (j : Int)).toNat ((rd_L1 m (y + (j : Int))).set (x + (i : Int)).toNat 1)) j ((i + 1 : Nat) : Int) (g.length : Int) j id w g else none) else none) else none) else none) else (impl_PlaceGlyph.l1 k x y m j ((i + 1 : Nat) : Int) (g.length : Int) j id w g)) else (impl_PlaceGlyph.l1 k x y m j ((i + 1 : Nat) : Int) (g.length : Int) j id w g)) else (impl_PlaceGlyph.l1 k x y m j ((i + 1 : Nat) : Int) (g.length : Int) j id w g)) (fun k => ?_) ?_
    · simp only [impl_PlaceGlyph.l1, w1, w2, w3, within_eq, Option.bind_some]
      rw [if_pos hiw, w5]
    · by_cases c : gdot id w g (i : Nat) (j : Nat) = 1
      · rw [if_pos c] at e
        have ih := impl_Place_l1 R id w g x y hg hx hy n hn j hj d (i + 1) (putDot m (y + (j : Nat)) (x + (i : Nat))) (by omega) (putDot_shape hs _ _) e
        by_cases c1 : (0 ≤ y + (j : Int) ∧ y + (j : Int) ≤ (m.length : Int) - 1)
        · by_cases c2 : (0 ≤ x + (i : Int) ∧ x + (i : Int) ≤ 31)
          · have ep : putDot m (y + (j : Nat)) (x + (i : Nat)) = m.set (y + (j : Int)).toNat ((rd_L1 m (y + (j : Int))).set (x + (i : Int)).toNat 1) := by unfold putDot; rw [if_pos ⟨c1, c2⟩]
            have hr : (rd_L1 m (y + (j : Int))).length = 32 := by
              rw [show y + (j : Int) = (((y + (j : Int)).toNat : Nat) : Int) by omega]
              exact hs.2 _ (by omega)
            rw [ep] at ih
            exact ed.bind (ev_pos c (ev_pos (decide_eq_true c1) (ev_pos (decide_eq_true c2) (ev_pos c1.1 (ev_pos (by omega) (ev_pos c2.1 (ev_pos (by omega) ih)))))))
          · have ep : putDot m (y + (j : Nat)) (x + (i : Nat)) = m := by unfold putDot; rw [if_neg (fun q => c2 q.2)]
            rw [ep] at ih
            exact ed.bind (ev_pos c (ev_pos (decide_eq_true c1) (ev_neg (by simp only [decide_eq_true_eq]; exact c2) ih)))
        · have ep : putDot m (y + (j : Nat)) (x + (i : Nat)) = m := by unfold putDot; rw [if_neg (fun q => c1 q.1)]
          rw [ep] at ih
          exact ed.bind (ev_pos c (ev_neg (by simp only [decide_eq_true_eq]; exact c1) ih))
      · rw [if_neg c] at e
        exact ed.bind (ev_neg c (impl_Place_l1 R id w g x y hg hx hy n hn j hj d (i + 1) m (by omega) hs e))
theorem impl_Place_l0 (id w : Int) (g : List Int) (x y : Int) (hg : glyph id w g) (hx : -8 ≤ x ∧ x ≤ 32) (hy : -8 ≤ y ∧ y ≤ 32) (n : Nat) (hn : n ≤ 32) : ∀ (d j : Nat) (m : List (List Int)), j + d = g.length → shape n m → Ev (fun k => impl_PlaceGlyph.l0 k x y m (g.length : Int) j id w g) (plAll id w g x y d j m, true)
  | 0, j, m, hd, hs => by
    refine Ev.step (f := fun _ => some (m, true)) (fun k => ?_) (Ev.now _)
    simp only [impl_PlaceGlyph.l0]
    rw [if_neg (by omega)]
  | d + 1, j, m, hd, hs => by
    have hl := hg.2.2.1
    have hw := hg.2.1
    have w5 : wrap64 ((j : Int) + 1) = ((j + 1 : Nat) : Int) := wsucc (by omega)
    refine Ev.step (f := fun k => impl_PlaceGlyph.l1 k x y m j ((0 : Nat) : Int) (g.length : Int) j id w g) (fun k => ?_) (impl_Place_l1 _ id w g x y hg hx hy n hn j (by omega) w.toNat 0 m (by omega) hs ?_)
    · simp only [impl_PlaceGlyph.l0]
      rw [if_pos (by omega)]
      rfl
    · rw [w5]
      exact impl_Place_l0 id w g x y hg hx hy n hn d (j + 1) _ (by omega) (plRow_shape id w g x y j _ _ _ hs)
theorem impl_Place_ev (a : List (List Int)) (id w : Int) (g : List Int) (x y : Int) (ht : tiny a) : Ev (fun k => impl_PlaceGlyph.f k a id w g x y) (placeV a id w g x y) := by
  have stop : Ev (fun k => impl_PlaceGlyph.j0 k x y a true id w g) (a, false) := by
    refine Ev.step (f := fun _ => some (a, false)) (fun k => ?_) (Ev.now _)
    simp only [impl_PlaceGlyph.j0]
    rfl
  unfold impl_PlaceGlyph.f placeV
  refine (impl_copyRows_ev a ht).bind ((impl_BitsOk_ev a).bind ?_)
  by_cases c1 : mat 1 a
  · refine ev_pos (decide_eq_true c1) ((impl_GlyphOk_ev id w g).bind ?_)
    by_cases c2 : glyph id w g
    · refine ev_pos (decide_eq_true c2) (ev_eq (within_eq _ _ _) ?_)
      by_cases c3 : -8 ≤ x ∧ x ≤ 32
      · refine ev_pos (decide_eq_true c3) (ev_eq (within_eq _ _ _) ?_)
        by_cases c4 : -8 ≤ y ∧ y ≤ 32
        · rw [if_pos (c := placeOk a id w g x y) ⟨c1, c2, c3, c4⟩, decide_eq_true c4]
          have e := impl_Place_l0 id w g x y c2 c3 c4 a.length c1.1 g.length 0 a (by omega) (mat_shape c1)
          refine Ev.step (fun k => ?_) e
          simp only [impl_PlaceGlyph.j0]
          rfl
        · rw [if_neg (c := placeOk a id w g x y) (fun q => c4 q.2.2.2), decide_eq_false c4]
          exact stop
      · rw [if_neg (c := placeOk a id w g x y) (fun q => c3 q.2.2.1)]
        exact ev_neg (by simp only [decide_eq_true_eq]; exact c3) stop
    · rw [if_neg (c := placeOk a id w g x y) (fun q => c2 q.2.1)]
      exact ev_neg (by simp only [decide_eq_true_eq]; exact c2) stop
  · rw [if_neg (c := placeOk a id w g x y) (fun q => c1 q.1)]
    exact ev_neg (by simp only [decide_eq_true_eq]; exact c1) stop

theorem l01In_eq (a b c : Int) : spec_l01In.f a b c = some (decide (b ≤ a ∧ a ≤ c)) := by
  unfold spec_l01In.f
  by_cases h : a ≥ b
  · rw [if_pos h]
    simp [show b ≤ a from h]
  · rw [if_neg h]
    simp [show ¬ b ≤ a from h]

theorem spec_l11Row_l0 (a : List Int) (hn : a.length ≤ 1099511627776) :
    ∀ d i : Nat, i + d = a.length → (∀ j : Nat, j < i → 0 ≤ rd a j ∧ rd a j ≤ 255) → Ev (fun k => spec_l11Row.l0 k a i) (decide (rowP 255 a))
  | 0, i, h, hj => by
    refine Ev.step (f := fun _ => some ((a.length : Int) == 32)) (fun k => ?_) ?_
    · simp only [spec_l11Row.l0]
      rw [if_neg (by omega)]
    · rw [show ((a.length : Int) == 32) = decide (rowP 255 a) from by
        rw [Bool.eq_iff_iff]
        simp only [beq_iff_eq, decide_eq_true_eq]
        exact ⟨fun q => ⟨by omega, fun j h1 => hj j (by omega)⟩, fun q => by rw [q.1]; rfl⟩]
      exact Ev.now _
  | d + 1, i, h, hj => by
    by_cases c : 0 ≤ rd a i ∧ rd a i ≤ 255
    · refine Ev.step (f := fun k => spec_l11Row.l0 k a ((i + 1 : Nat) : Int)) (fun k => ?_) (spec_l11Row_l0 a hn d (i + 1) (by omega) (fun j h1 => ?_))
      · simp only [spec_l11Row.l0, l01In_eq, Option.bind_some]
        rw [if_pos (by omega), if_pos (by omega), if_pos (decide_eq_true c), wsucc (by omega)]
      · by_cases e : j = i
        · subst e
          exact c
        · exact hj j (by omega)
    · refine Ev.step (f := fun _ => some false) (fun k => ?_) ?_
      · simp only [spec_l11Row.l0, l01In_eq, Option.bind_some]
        rw [if_pos (by omega), if_pos (by omega), if_neg (by simp only [decide_eq_true_eq]; exact c)]
      · rw [decide_eq_false (show ¬ rowP 255 a from fun h3 => c (h3.2 i (by omega)))]
        exact Ev.now _
theorem spec_l11Row_ev (a : List Int) (hn : a.length ≤ 1099511627776) : Ev (fun k => spec_l11Row.f k a) (decide (rowP 255 a)) :=
  spec_l11Row_l0 a hn a.length 0 (by omega) (fun j h => by omega)
theorem spec_RowsOk_l0 (m : List (List Int)) (hs : small m) :
    ∀ d i : Nat, i + d = m.length → (∀ j : Nat, j < i → rowP 255 (rd_L1 m j)) → Ev (fun k => spec_RowsOk.l0 k m i) (decide (mat 255 m))
  | 0, i, h, hj => by
    refine Ev.step (f := fun _ => some (decide ((m.length : Int) ≤ 32))) (fun k => ?_) ?_
    · simp only [spec_RowsOk.l0]
      rw [if_neg (by omega)]
    · rw [show decide ((m.length : Int) ≤ 32) = decide (mat 255 m) from decide_eq_decide.mpr ⟨fun q => ⟨by omega, fun j h1 => hj j (by omega)⟩, fun q => by have := q.1; omega⟩]
      exact Ev.now _
  | d + 1, i, h, hj => by
    have hn := hs.1
    refine Ev.step (f := fun k => (spec_l11Row.f k (rd_L1 m i)).bind fun t => if t = true then spec_RowsOk.l0 k m ((i + 1 : Nat) : Int) else some false) (fun k => ?_) ((spec_l11Row_ev (rd_L1 m i) (hs.2 i (by omega))).bind ?_)
    · simp only [spec_RowsOk.l0]
      rw [if_pos (by omega), if_pos (by omega), wsucc (by omega)]
    · by_cases c : rowP 255 (rd_L1 m i)
      · refine ev_pos (decide_eq_true c) (spec_RowsOk_l0 m hs d (i + 1) (by omega) (fun j h1 => ?_))
        by_cases e : j = i
        · subst e
          exact c
        · exact hj j (by omega)
      · rw [decide_eq_false (show ¬ mat 255 m from fun h3 => c (h3.2 i (by omega)))]
        exact ev_neg (by simp [c]) (Ev.now _)
theorem spec_RowsOk_ev (m : List (List Int)) (hs : small m) : Ev (fun k => spec_RowsOk.f k m) (decide (mat 255 m)) :=
  spec_RowsOk_l0 m hs m.length 0 (by omega) (fun j h => by omega)

theorem spec_BitsOk_l1 (m : List (List Int)) (hs : small m) (y : Nat) (hy : y < m.length) (R : Bool) :
    ∀ d i : Nat, i + d = (rd_L1 m y).length → (∀ j : Nat, j < i → 0 ≤ rd (rd_L1 m y) j ∧ rd (rd_L1 m y) j ≤ 1) → ((∀ j : Nat, j < (rd_L1 m y).length → 0 ≤ rd (rd_L1 m y) j ∧ rd (rd_L1 m y) j ≤ 1) → Ev (fun k => spec_BitsOk.l0 k m (wrap64 ((y : Int) + 1))) R) → (¬ rowP 1 (rd_L1 m y) → R = false) →
      Ev (fun k => spec_BitsOk.l1 k m y i) R
  | 0, i, h, hj, h1, h2 => by
    refine Ev.step (fun k => ?_) (h1 fun j hj2 => hj j (by omega))
    simp only [spec_BitsOk.l1]
    rw [if_pos (by omega), if_pos (by omega), if_neg (by omega)]
  | d + 1, i, h, hj, h1, h2 => by
    have hl := hs.2 y hy
    by_cases c : 0 ≤ rd (rd_L1 m y) i ∧ rd (rd_L1 m y) i ≤ 1
    · refine Ev.step (fun k => ?_) (spec_BitsOk_l1 m hs y hy R d (i + 1) (by omega) (fun j hj2 => ?_) h1 h2)
      · simp only [spec_BitsOk.l1, l01In_eq, Option.bind_some]
        rw [if_pos (by omega), if_pos (by omega), if_pos (by omega), if_pos (by omega), if_pos (decide_eq_true c), wsucc (by omega)]
      · by_cases e : j = i
        · subst e
          exact c
        · exact hj j (by omega)
    · rw [h2 fun q => c (q.2 i (by omega))]
      refine Ev.step (f := fun _ => some false) (fun k => ?_) (Ev.now _)
      simp only [spec_BitsOk.l1, l01In_eq, Option.bind_some]
      rw [if_pos (by omega), if_pos (by omega), if_pos (by omega), if_pos (by omega), if_neg (by simp only [decide_eq_true_eq]; exact c)]
theorem spec_BitsOk_l0 (m : List (List Int)) (hs : small m) : ∀ d i : Nat, i + d = m.length → (∀ j : Nat, j < i → ∀ x : Nat, x < (rd_L1 m j).length → 0 ≤ rd (rd_L1 m j) x ∧ rd (rd_L1 m j) x ≤ 1) → Ev (fun k => spec_BitsOk.l0 k m i) (decide (mat 1 m))
  | 0, i, h, hj => by
    refine Ev.step (f := fun k => (spec_RowsOk.f k m).bind fun t => some t) (fun k => ?_) ((spec_RowsOk_ev m hs).bind ?_)
    · simp only [spec_BitsOk.l0]
      rw [if_neg (by omega)]
    · rw [show decide (mat 255 m) = decide (mat 1 m) from decide_eq_decide.mpr ⟨fun q => ⟨q.1, fun j h1 => ⟨(q.2 j h1).1, fun x hx => hj j (by omega) x hx⟩⟩, fun q => mat_mono (by omega) q⟩]
      exact Ev.now _
  | d + 1, i, h, hj => by
    have hn := hs.1
    refine Ev.step (f := fun k => spec_BitsOk.l1 k m i 0) (fun k => ?_) (spec_BitsOk_l1 m hs i (by omega) _ (rd_L1 m i).length 0 (by omega) (fun j h1 => by omega) (fun hr => ?_) (fun hr => decide_eq_false fun q => hr (q.2 i (by omega))))
    · simp only [spec_BitsOk.l0]
      rw [if_pos (by omega)]
    · rw [wsucc (by omega)]
      refine spec_BitsOk_l0 m hs d (i + 1) (by omega) (fun j h1 => ?_)
      by_cases e : j = i
      · subst e
        exact hr
      · exact hj j (by omega)
theorem spec_BitsOk_ev (m : List (List Int)) (hs : small m) : Ev (fun k => spec_BitsOk.f k m) (decide (mat 1 m)) :=
  spec_BitsOk_l0 m hs m.length 0 (by omega) (fun j h => by omega)

theorem spec_GlyphOk_l0 (id w : Int) (a : List Int) (hi : 0 ≤ id ∧ id ≤ 999) (hw : 1 ≤ w ∧ w ≤ 8) (hl : 1 ≤ (a.length : Int) ∧ (a.length : Int) ≤ 8) :
    ∀ d i : Nat, i + d = a.length → (∀ j : Nat, j < i → 0 ≤ rd a j ∧ rd a j ≤ topRow w) → Ev (fun k => spec_GlyphOk.l0 k i id w a) (decide (glyph id w a))
  | 0, i, h, hj => by
    refine Ev.step (f := fun _ => some true) (fun k => ?_) ?_
    · simp only [spec_GlyphOk.l0]
      rw [if_neg (by omega)]
    · rw [decide_eq_true (show glyph id w a from ⟨hi, hw, hl, fun j h1 => hj j (by omega)⟩)]
      exact Ev.now _
  | d + 1, i, h, hj => by
    by_cases c : 0 ≤ rd a i ∧ rd a i ≤ topRow w
    · refine Ev.step (f := fun k => spec_GlyphOk.l0 k ((i + 1 : Nat) : Int) id w a) (fun k => ?_) (spec_GlyphOk_l0 id w a hi hw hl d (i + 1) (by omega) (fun j h1 => ?_))
      · simp only [spec_GlyphOk.l0, l01In_eq, Option.bind_some]
        rw [if_pos (by omega), if_pos (by omega), if_pos (by omega), if_pos (show decide (0 ≤ rd a i ∧ rd a i ≤ wrap64 ((shl .i64 1 w) - 1)) = true from decide_eq_true c), wsucc (by omega)]
      · by_cases e : j = i
        · subst e
          exact c
        · exact hj j (by omega)
    · refine Ev.step (f := fun _ => some false) (fun k => ?_) ?_
      · simp only [spec_GlyphOk.l0, l01In_eq, Option.bind_some]
        rw [if_pos (by omega), if_pos (by omega), if_pos (by omega), if_neg (show ¬ decide (0 ≤ rd a i ∧ rd a i ≤ wrap64 ((shl .i64 1 w) - 1)) = true from by simp only [decide_eq_true_eq]; exact c)]
      · rw [decide_eq_false (show ¬ glyph id w a from fun h3 => c (h3.2.2.2 i (by omega)))]
        exact Ev.now _
theorem spec_GlyphOk_ev (id w : Int) (a : List Int) : Ev (fun k => spec_GlyphOk.f k id w a) (decide (glyph id w a)) := by
  unfold spec_GlyphOk.f
  have no : ∀ h : ¬ glyph id w a, Ev (fun k => spec_GlyphOk.j0 k true id w a) (decide (glyph id w a)) := by
    intro h
    rw [decide_eq_false h]
    exact Ev.step (f := fun _ => some false) (fun k => by simp only [spec_GlyphOk.j0]; rw [if_pos trivial]) (Ev.now _)
  refine ev_eq (l01In_eq _ _ _) ?_
  by_cases hi : 0 ≤ id ∧ id ≤ 999
  · refine ev_pos (decide_eq_true hi) (ev_eq (l01In_eq _ _ _) ?_)
    by_cases hw : 1 ≤ w ∧ w ≤ 8
    · refine ev_pos (decide_eq_true hw) (ev_eq (l01In_eq _ _ _) ?_)
      by_cases hl : 1 ≤ (a.length : Int) ∧ (a.length : Int) ≤ 8
      · rw [decide_eq_true hl]
        refine Ev.step (f := fun k => spec_GlyphOk.l0 k 0 id w a) (fun k => ?_) (spec_GlyphOk_l0 id w a hi hw hl a.length 0 (by omega) (fun j h => by omega))
        simp only [spec_GlyphOk.j0]
        rw [if_neg (by simp)]
      · rw [decide_eq_false hl]
        exact no fun h => hl h.2.2.1
    · exact ev_neg (by simp only [decide_eq_true_eq]; exact hw) (no fun h => hw h.2.1)
  · exact ev_neg (by simp only [decide_eq_true_eq]; exact hi) (no fun h => hi h.1)

theorem spec_GlyphDot_ev (id w : Int) (a : List Int) (x y : Int) : Ev (fun k => spec_GlyphDot.f k id w a x y) (gdot id w a x y) := by
  unfold spec_GlyphDot.f gdot
  refine (spec_GlyphOk_ev id w a).bind ?_
  by_cases hg : glyph id w a
  · have hg' := hg
    obtain ⟨_, hw, hl, _⟩ := hg'
    refine ev_pos (decide_eq_true hg) (ev_eq (l01In_eq _ _ _) ?_)
    rw [w64 (n := w - 1) (by omega) (by omega)]
    by_cases hx : 0 ≤ x ∧ x ≤ w - 1
    · refine ev_pos (decide_eq_true hx) (ev_eq (l01In_eq _ _ _) ?_)
      rw [w64 (n := (a.length : Int) - 1) (by omega) (by omega)]
      by_cases hy : 0 ≤ y ∧ y ≤ (a.length : Int) - 1
      · rw [if_pos (c := glyph id w a ∧ (0 ≤ x ∧ x ≤ w - 1) ∧ 0 ≤ y ∧ y ≤ (a.length : Int) - 1) ⟨hg, hx, hy⟩]
        exact ev_pos (decide_eq_true hy) (ev_pos (by omega) (ev_pos (by omega) (ev_pos (by omega) (Ev.now _))))
      · rw [if_neg (c := glyph id w a ∧ (0 ≤ x ∧ x ≤ w - 1) ∧ 0 ≤ y ∧ y ≤ (a.length : Int) - 1) (fun q => hy q.2.2)]
        exact ev_neg (by simp only [decide_eq_true_eq]; exact hy) (Ev.now _)
    · rw [if_neg (c := glyph id w a ∧ (0 ≤ x ∧ x ≤ w - 1) ∧ 0 ≤ y ∧ y ≤ (a.length : Int) - 1) (fun q => hx q.2.1)]
      exact ev_neg (by simp only [decide_eq_true_eq]; exact hx) (Ev.now _)
  · rw [if_neg (c := glyph id w a ∧ (0 ≤ x ∧ x ≤ w - 1) ∧ 0 ≤ y ∧ y ≤ (a.length : Int) - 1) (fun q => hg q.1)]
    exact ev_neg (by simp only [decide_eq_true_eq]; exact hg) (Ev.now _)

theorem spec_l11Copy_l0 (m : List (List Int)) (hs : tiny m) : ∀ d i : Nat, i + d = m.length → Ev (fun k => spec_l11Copy.l0 k m (m.take i) i) m
  | 0, i, h => by
    refine Ev.step (f := fun _ => some m) (fun k => ?_) (Ev.now _)
    simp only [spec_l11Copy.l0]
    rw [if_neg (by omega), List.take_of_length_le (show m.length ≤ i by omega)]
  | d + 1, i, h => by
    have hl := hs.2 i (by omega)
    have hm := hs.1
    refine Ev.step (fun k => ?_) (spec_l11Copy_l0 m hs d (i + 1) (by omega))
    have e : spec_l05Copy.f (rd_L1 m i) = some (rd_L1 m i) := by
      unfold spec_l05Copy.f
      simp only [Option.bind_some, List.nil_append, List.length_nil]
      rw [if_pos (by omega)]
    simp only [spec_l11Copy.l0, e, Option.bind_some]
    rw [if_pos (by omega), if_pos (by omega), if_pos (by rw [List.length_take]; omega), wsucc (by omega), List.take_succ_eq_append_getElem (show i < m.length by omega), rows_mem (by omega)]
theorem spec_l11Copy_ev (m : List (List Int)) (hs : tiny m) : Ev (fun k => spec_l11Copy.f k m) m := by
  have := spec_l11Copy_l0 m hs m.length 0 (by omega)
  unfold spec_l11Copy.f
  simpa using this

theorem spec_Place_l1 (R : List (List Int) × Bool) (id w : Int) (g : List Int) (x y : Int) (hg : glyph id w g) (hx : -8 ≤ x ∧ x ≤ 32) (hy : -8 ≤ y ∧ y ≤ 32) (n : Nat) (hn : n ≤ 32) (o : List (List Int)) (ho : o.length = n) (j : Nat) (hj : j < g.length) : ∀ (d i : Nat) (m : List (List Int)), i + d = w.toNat → shape n m →
    Ev (fun k => spec_PlaceGlyph.l0 k o x y (plRow id w g x y j d i m) (wrap64 ((j : Int) + 1)) id w g) R → Ev (fun k => spec_PlaceGlyph.l1 k o x y m j i id w g) R
  | 0, i, m, hd, hs, e => by
    have hw := hg.2.1
    refine Ev.step (fun k => ?_) e
    simp only [spec_PlaceGlyph.l1, plRow]
    rw [if_neg (by omega)]
  | d + 1, i, m, hd, hs, e => by
    have hw := hg.2.1
    have hiw : (i : Int) < w := by omega
    have hl := hg.2.2.1
    have hm := hs.1
    simp only [plRow] at e
    have ed := spec_GlyphDot_ev id w g (i : Nat) (j : Nat)
    have w1 : wrap64 (y + (j : Int)) = y + (j : Int) := w64 (by omega) (by omega)
    have w2 : wrap64 (x + (i : Int)) = x + (i : Int) := w64 (by omega) (by omega)
    have w3 : wrap64 ((o.length : Int) - 1) = (o.length : Int) - 1 := w64 (by omega) (by omega)
    have w5 : wrap64 ((i : Int) + 1) = ((i + 1 : Nat) : Int) := wsucc (by omega)
    refine Ev.step (f := fun k => (spec_GlyphDot.f k id w g (i : Nat) (j : Nat)).bind fun t => if t = 1 then (if decide (0 ≤ x + (i : Int) ∧ x + (i : Int) ≤ 31) = true then (if decide (0 ≤ y + (j : Int) ∧ y + (j : Int) ≤ (o.length : Int) - 1) = true then (if 0 ≤ y + (j : Int) then (if y + (j : Int) < (m.length : Int) then (if 0 ≤ x + (i : Int) then (if x + (i : Int) < ((rd_L1 m (y + (j : Int))).length : Int) then spec_PlaceGlyph.l1 k o x y (m.set (y + (j : Int)).toNat ((rd_L1 m (y + (j : Int))).set (x + (i : Int)).toNat 1)) j ((i + 1 : Nat) : Int) id w g else none) else none) else none) else none) else (spec_PlaceGlyph.l1 k o x y m j ((i + 1 : Nat) : Int) id w g)) else (spec_PlaceGlyph.l1 k o x y m j ((i + 1 : Nat) : Int) id w g)) else (spec_PlaceGlyph.l1 k o x y m j ((i + 1 : Nat) : Int) id w g)) (fun k => ?_) ?_
    · simp only [spec_PlaceGlyph.l1, w1, w2, w3, l01In_eq, Option.bind_some]
      rw [if_pos hiw, w5]
    · by_cases c : gdot id w g (i : Nat) (j : Nat) = 1
      · rw [if_pos c] at e
        have ih := spec_Place_l1 R id w g x y hg hx hy n hn o ho j hj d (i + 1) (putDot m (y + (j : Nat)) (x + (i : Nat))) (by omega) (putDot_shape hs _ _) e
        by_cases c1 : (0 ≤ y + (j : Int) ∧ y + (j : Int) ≤ (m.length : Int) - 1)
        · by_cases c2 : (0 ≤ x + (i : Int) ∧ x + (i : Int) ≤ 31)
          · have ep : putDot m (y + (j : Nat)) (x + (i : Nat)) = m.set (y + (j : Int)).toNat ((rd_L1 m (y + (j : Int))).set (x + (i : Int)).toNat 1) := by unfold putDot; rw [if_pos ⟨c1, c2⟩]
            have hr : (rd_L1 m (y + (j : Int))).length = 32 := by
              rw [show y + (j : Int) = (((y + (j : Int)).toNat : Nat) : Int) by omega]
              exact hs.2 _ (by omega)
            rw [ep] at ih
            exact ed.bind (ev_pos c (ev_pos (decide_eq_true c2) (ev_pos (decide_eq_true (by rw [ho, ← hm]; exact c1)) (ev_pos c1.1 (ev_pos (by omega) (ev_pos c2.1 (ev_pos (by omega) ih)))))))
          · have ep : putDot m (y + (j : Nat)) (x + (i : Nat)) = m := by unfold putDot; rw [if_neg (fun q => c2 q.2)]
            rw [ep] at ih
            exact ed.bind (ev_pos c (ev_neg (by simp only [decide_eq_true_eq]; exact c2) ih))
        · have ep : putDot m (y + (j : Nat)) (x + (i : Nat)) = m := by unfold putDot; rw [if_neg (fun q => c1 q.1)]
          rw [ep] at ih
          by_cases c2 : (0 ≤ x + (i : Int) ∧ x + (i : Int) ≤ 31)
          · exact ed.bind (ev_pos c (ev_pos (decide_eq_true c2) (ev_neg (by simp only [decide_eq_true_eq]; rw [ho, ← hm]; exact c1) ih)))
          · exact ed.bind (ev_pos c (ev_neg (by simp only [decide_eq_true_eq]; exact c2) ih))
      · rw [if_neg c] at e
        exact ed.bind (ev_neg c (spec_Place_l1 R id w g x y hg hx hy n hn o ho j hj d (i + 1) m (by omega) hs e))
theorem spec_Place_l0 (id w : Int) (g : List Int) (x y : Int) (hg : glyph id w g) (hx : -8 ≤ x ∧ x ≤ 32) (hy : -8 ≤ y ∧ y ≤ 32) (n : Nat) (hn : n ≤ 32) (o : List (List Int)) (ho : o.length = n) : ∀ (d j : Nat) (m : List (List Int)), j + d = g.length → shape n m → Ev (fun k => spec_PlaceGlyph.l0 k o x y m j id w g) (plAll id w g x y d j m, true)
  | 0, j, m, hd, hs => by
    refine Ev.step (f := fun _ => some (m, true)) (fun k => ?_) (Ev.now _)
    simp only [spec_PlaceGlyph.l0]
    rw [if_neg (by omega)]
  | d + 1, j, m, hd, hs => by
    have hl := hg.2.2.1
    have hw := hg.2.1
    have w5 : wrap64 ((j : Int) + 1) = ((j + 1 : Nat) : Int) := wsucc (by omega)
    refine Ev.step (f := fun k => spec_PlaceGlyph.l1 k o x y m j ((0 : Nat) : Int) id w g) (fun k => ?_) (spec_Place_l1 _ id w g x y hg hx hy n hn o ho j (by omega) w.toNat 0 m (by omega) hs ?_)
    · simp only [spec_PlaceGlyph.l0]
      rw [if_pos (by omega)]
      rfl
    · rw [w5]
      exact spec_Place_l0 id w g x y hg hx hy n hn o ho d (j + 1) _ (by omega) (plRow_shape id w g x y j _ _ _ hs)
theorem spec_Place_ev (a : List (List Int)) (id w : Int) (g : List Int) (x y : Int) (ht : tiny a) : Ev (fun k => spec_PlaceGlyph.f k a id w g x y) (placeV a id w g x y) := by
  have stop : Ev (fun k => spec_PlaceGlyph.j0 k a x y a true id w g) (a, false) := by
    refine Ev.step (f := fun _ => some (a, false)) (fun k => ?_) (Ev.now _)
    simp only [spec_PlaceGlyph.j0]
    rfl
  unfold spec_PlaceGlyph.f placeV
  refine (spec_l11Copy_ev a ht).bind ((spec_BitsOk_ev a (tiny_small ht)).bind ?_)
  by_cases c1 : mat 1 a
  · refine ev_pos (decide_eq_true c1) ((spec_GlyphOk_ev id w g).bind ?_)
    by_cases c2 : glyph id w g
    · refine ev_pos (decide_eq_true c2) (ev_eq (l01In_eq _ _ _) ?_)
      by_cases c3 : -8 ≤ x ∧ x ≤ 32
      · refine ev_pos (decide_eq_true c3) (ev_eq (l01In_eq _ _ _) ?_)
        by_cases c4 : -8 ≤ y ∧ y ≤ 32
        · rw [if_pos (c := placeOk a id w g x y) ⟨c1, c2, c3, c4⟩, decide_eq_true c4]
          have e := spec_Place_l0 id w g x y c2 c3 c4 a.length c1.1 a rfl g.length 0 a (by omega) (mat_shape c1)
          refine Ev.step (fun k => ?_) e
          simp only [spec_PlaceGlyph.j0]
          rfl
        · rw [if_neg (c := placeOk a id w g x y) (fun q => c4 q.2.2.2), decide_eq_false c4]
          exact stop
      · rw [if_neg (c := placeOk a id w g x y) (fun q => c3 q.2.2.1)]
        exact ev_neg (by simp only [decide_eq_true_eq]; exact c3) stop
    · rw [if_neg (c := placeOk a id w g x y) (fun q => c2 q.2.1)]
      exact ev_neg (by simp only [decide_eq_true_eq]; exact c2) stop
  · rw [if_neg (c := placeOk a id w g x y) (fun q => c1 q.1)]
    exact ev_neg (by simp only [decide_eq_true_eq]; exact c1) stop

theorem szGlyph_eq2 (id w : Int) (a : List Int) (left : Int) (h : a.length ≤ 9223372036854775807) (h0 : 0 ≤ left) (h1 : left ≤ 1048576) : ∃ r, laws_szGlyph.f id w a left = some r ∧ (r < 0 ∨ (0 ≤ r ∧ a.length ≤ 1048576)) := by
  unfold laws_szGlyph.f laws_szIntS.f
  rw [w64 (by omega) (by omega)]
  by_cases c : left - (a.length : Int) < 0
  · rw [if_pos c]
    exact ⟨-1, by simp, .inl (by omega)⟩
  · rw [if_neg c]
    simp only [Option.bind_some]
    rw [if_neg c]
    exact ⟨_, rfl, .inr ⟨by omega, by omega⟩⟩
theorem toGlyph_ev2 (id w : Int) (a : List Int) (hn : a.length ≤ 1099511627776) : Ev (fun k => laws_toGlyph.f k id w a) (id, w, a) := by
  unfold laws_toGlyph.f
  exact (toIntS_ev a hn).bind (Ev.now _)
theorem eqGlyph_ev2 (id w : Int) (a : List Int) (hn : a.length ≤ 1099511627776) : Ev (fun k => laws_eqGlyph.f k id w a id w a) true := by
  unfold laws_eqGlyph.f
  exact ev_pos rfl (ev_pos rfl ((eqIntS_ev a hn).bind (ev_pos rfl (Ev.now _))))
theorem markGlyph_ev2 (id w : Int) (a : List Int) (c : Nat) (hn : a.length + c ≤ 4611686018427387904) : Ev (fun k => laws_markGlyph.f k id w a c) (((c + a.length : Nat) : Int), marks c a.length) := by
  unfold laws_markGlyph.f
  exact (markIntS_ev a c hn).bind (Ev.now _)
theorem FnExactPlaceGlyph : FnExactPlaceGlyphPure := by
  intro a id w g x y hm hw _ _ hm2 _ _ _
  have hm2' : g.length ≤ 9223372036854775807 := hm2
  refine Ev.rounds ?_
  unfold laws_FnExactPlaceGlyph.f
  obtain ⟨r, e, h⟩ := szIntSS_ev a 1048576 (by omega) (by omega) hm (fun r hr => (hw r hr).1)
  refine e.bind ?_
  rcases h with h | ⟨h0, h1, ht⟩
  · exact ev_pos h (Ev.now _)
  refine ev_neg (by omega) ?_
  obtain ⟨r2, e2, h2⟩ := szGlyph_eq2 id w g r hm2' h0 h1
  refine ev_eq e2 ?_
  rcases h2 with h2 | ⟨h20, h21⟩
  · exact ev_pos h2 (Ev.now _)
  refine ev_neg (by omega) ?_
  have t := toIntSS_ev a ht
  have t2 := toGlyph_ev2 id w g (by omega)
  have q1 := total_tiny ht
  have e1 := spec_Place_ev a id w g x y ht
  have e2 := impl_Place_ev a id w g x y ht
  have hVt := placeV_tiny ht id w g x y
  generalize placeV a id w g x y = V at e1 e2 hVt
  obtain ⟨V, B⟩ := V
  have hVt : tiny V := hVt
  have hVs : small V := tiny_small hVt
  have hVT : total V ≤ 1099511627776 := total_tiny hVt
  have eq := eqIntSS_ev V hVs
  refine t.bind (t2.bind (e1.bind (t.bind (t2.bind (e2.bind (eq.bind (ev_pos rfl (ev_neg (by simp) ?_))))))))
  refine t.bind ((eqIntSS_ev a (tiny_small ht)).bind (ev_pos rfl (t2.bind ((eqGlyph_ev2 id w g (by omega)).bind (ev_pos rfl ?_)))))
  refine (markIntSS_ev a 1 (tiny_small ht).1 (by omega)).bind ((markGlyph_ev2 id w g (1 + total a) (by omega)).bind (ev_neg (by simp only; omega) (eq.bind (ev_pos rfl (ev_neg (by simp) ?_)))))
  have held := heldIntSS_ev V 1 hVs.1 (by omega)
  refine (markIntSS_ev V 1 hVs.1 (by omega)).bind (held.bind (ev_neg (by omega) (ev_pos rfl ?_)))
  exact t.bind (t2.bind (e2.bind (eq.bind (ev_pos rfl (ev_neg (by simp) (held.bind (ev_neg (by omega) (ev_pos rfl (Ev.now _)))))))))

end Go.Proofs.Ytjkddcnflpfinaa.Pure
