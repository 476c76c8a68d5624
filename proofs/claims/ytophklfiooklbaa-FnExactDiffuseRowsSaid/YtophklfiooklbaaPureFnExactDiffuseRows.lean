/-
  The program's DiffuseRows gives what the reference gives for all rows and carries, leaves its arguments as they were, and shares nothing with them.
-/
import Derived.Test.YtophklfiooklbaaPFnExactDiffuseRowsx6
import Derived.Test.YtophklfiooklbaaWSized
import Derived.Test.YtophklfiooklbaaOpenFnExactDiffuseRows
namespace Go.Proofs.Ytophklfiooklbaa.Pure
open Go.RowKit Go.Proofs.Ytophklfiooklbaa.PFnExactDiffuseRows Go.Proofs.YtophklfiooklbaaW.PrintWords Go.Proofs.YtophklfiooklbaaW.PrintLast Go.Proofs.YtophklfiooklbaaW.PrintMore Go.Proofs.Ytophklfiooklbaa.OpenFnExactDiffuseRows
set_option linter.unusedVariables false
set_option linter.unusedSimpArgs false

theorem w64 {n : Int} (h1 : -9223372036854775808 ≤ n) (h2 : n ≤ 9223372036854775807) : wrap64 n = n := by
  unfold wrap64
  omega
theorem wsucc {i : Nat} (h : i ≤ 4611686018427387904) : wrap64 ((i : Int) + 1) = ((i + 1 : Nat) : Int) := by
  rw [w64 (by omega) (by omega)]
  omega
theorem rd_nat (l : List Int) (i : Nat) : rd l (i : Int) = l.getD i 0 := by simp [rd]
theorem getD_drop (l : List Int) (i : Nat) (h : i < l.length) : l.drop i = l.getD i 0 :: l.drop (i + 1) := by
  rw [List.drop_eq_getElem_cons h]
  simp [List.getD_eq_getElem?_getD, List.getElem?_eq_getElem h]
theorem getD_take (l : List Int) (i : Nat) (h : i < l.length) : l.take (i + 1) = l.take i ++ [l.getD i 0] := by
  rw [List.take_succ_eq_append_getElem h]
  simp [List.getD_eq_getElem?_getD, List.getElem?_eq_getElem h]
theorem set_mid (p q : List Int) (u v : Int) (i : Nat) (h : p.length = i) : (p ++ u :: q).set i v = p ++ v :: q := by
  subst h
  simp [List.set_append_right]
theorem bind_id {α : Type} {g : Nat → Option α} {r : α} (h : Ev g r) : Ev (fun n => (g n).bind fun x => some x) r := by
  obtain ⟨K, h⟩ := h
  exact ⟨K, fun k hk => by simp [h k hk]⟩
theorem ev_pos {α : Type} {c : Prop} [Decidable c] {f g : Nat → Option α} {r : α} (h : c) (k : Ev f r) : Ev (fun n => if c then f n else g n) r := Ev.congr (fun n => if_pos h) k
theorem ev_neg {α : Type} {c : Prop} [Decidable c] {f g : Nat → Option α} {r : α} (h : ¬ c) (k : Ev g r) : Ev (fun n => if c then f n else g n) r := Ev.congr (fun n => if_neg h) k
theorem ev_eq {α β : Type} {g : Option α} {f : Nat → α → Option β} {a : α} {r : β} (h : g = some a) (k : Ev (fun n => f n a) r) : Ev (fun n => g.bind (f n)) r := by
  subst h
  exact k
theorem td {v : Int} (h : 0 ≤ v) (c : Int) : Int.tdiv v c = v / c := Int.tdiv_eq_ediv_of_nonneg h
theorem tm {v : Int} (h : 0 ≤ v) (c : Int) : Int.tmod v c = v % c := Int.tmod_eq_emod_of_nonneg h

theorem eqIntS_l0 (a : List Int) (hn : a.length ≤ 1099511627776) :
    ∀ d i : Nat, i + d = a.length → Ev (fun k => laws_eqIntS.l0 k a a i) true
  | 0, i, h => by
    refine Ev.step (f := fun _ => some true) (fun k => ?_) (Ev.now _)
    simp only [laws_eqIntS.l0]
    rw [if_neg (by omega)]
  | d + 1, i, h => by
    refine Ev.step (f := fun k => laws_eqIntS.l0 k a a ((i + 1 : Nat) : Int)) (fun k => ?_) (eqIntS_l0 a hn d (i + 1) (by omega))
    simp only [laws_eqIntS.l0]
    rw [if_pos (by omega), if_pos (by omega), if_pos (by omega), if_pos trivial, wsucc (by omega)]
theorem eqIntS_ev (a : List Int) (hn : a.length ≤ 1099511627776) : Ev (fun k => laws_eqIntS.f k a a) true := by
  refine Ev.congr (f := fun k => laws_eqIntS.l0 k a a 0) (fun k => ?_) (eqIntS_l0 a hn a.length 0 (by omega))
  unfold laws_eqIntS.f
  rw [if_pos rfl]

theorem toIntS_l0 (a : List Int) (hn : a.length ≤ 1099511627776) :
    ∀ d i : Nat, i + d = a.length → Ev (fun k => laws_toIntS.l0 k a (a.take i ++ List.replicate d 0) i) a
  | 0, i, h => by
    refine Ev.step (f := fun _ => some a) (fun k => ?_) (Ev.now _)
    simp only [laws_toIntS.l0]
    rw [if_neg (by omega)]
    simp [List.take_of_length_le (show a.length ≤ i by omega)]
  | d + 1, i, h => by
    refine Ev.step (f := fun k => laws_toIntS.l0 k a (a.take (i + 1) ++ List.replicate d 0) ((i + 1 : Nat) : Int)) (fun k => ?_) (toIntS_l0 a hn d (i + 1) (by omega))
    simp only [laws_toIntS.l0]
    rw [if_pos (by omega), if_pos (by omega), if_pos (by simp; omega), wsucc (by omega), rd_nat, List.replicate_succ, Int.toNat_natCast, set_mid _ _ _ _ _ (by simp; omega), getD_take a i (by omega)]
    simp
theorem toIntS_ev (a : List Int) (hn : a.length ≤ 1099511627776) : Ev (fun k => laws_toIntS.f k a) a := by
  refine Ev.congr (f := fun k => laws_toIntS.l0 k a (a.take 0 ++ List.replicate a.length 0) 0) (fun k => ?_) (toIntS_l0 a hn a.length 0 (by omega))
  unfold laws_toIntS.f
  rw [if_pos (by omega), if_pos (by omega)]
  simp

def marks (c : Nat) : Nat → List Int
  | 0 => []
  | n + 1 => (c : Int) :: marks (c + 1) n
theorem marks_length (n : Nat) : ∀ c, (marks c n).length = n := by
  induction n with
  | zero => intro c; rfl
  | succ n ih => intro c; simp [marks, ih]
theorem marks_snoc (n : Nat) : ∀ c, marks c (n + 1) = marks c n ++ [((c + n : Nat) : Int)] := by
  induction n with
  | zero => intro c; simp [marks]
  | succ n ih =>
    intro c
    rw [marks, ih (c + 1), marks]
    simp
    omega
theorem marks_get (n : Nat) : ∀ c i, i < n → (marks c n).getD i 0 = ((c + i : Nat) : Int) := by
  induction n with
  | zero => intro c i h; omega
  | succ n ih =>
    intro c i h
    cases i with
    | zero => simp [marks]
    | succ i =>
      rw [marks, List.getD_cons_succ, ih (c + 1) i (by omega)]
      omega
theorem markIntS_l0 (a : List Int) (c : Nat) (hn : a.length + c ≤ 4611686018427387904) :
    ∀ d i : Nat, i + d = a.length → Ev (fun k => laws_markIntS.l0 k (marks c i ++ a.drop i) ((c + i : Nat) : Int) i) (((c + a.length : Nat) : Int), marks c a.length)
  | 0, i, h => by
    obtain rfl : i = a.length := by omega
    refine Ev.step (f := fun _ => some (((c + a.length : Nat) : Int), marks c a.length)) (fun k => ?_) (Ev.now _)
    simp only [laws_markIntS.l0]
    rw [if_neg (by simp [marks_length])]
    simp
  | d + 1, i, h => by
    refine Ev.step (f := fun k => laws_markIntS.l0 k (marks c (i + 1) ++ a.drop (i + 1)) ((c + (i + 1) : Nat) : Int) ((i + 1 : Nat) : Int)) (fun k => ?_) (markIntS_l0 a c hn d (i + 1) (by omega))
    simp only [laws_markIntS.l0]
    rw [if_pos (by simp [marks_length]; omega), if_pos (by omega), wsucc (by omega), wsucc (by omega), getD_drop a i (by omega), Int.toNat_natCast, set_mid _ _ _ _ _ (marks_length _ _), marks_snoc]
    simp [Nat.add_assoc]
theorem markIntS_ev (a : List Int) (c : Nat) (hn : a.length + c ≤ 4611686018427387904) : Ev (fun k => laws_markIntS.f k a c) (((c + a.length : Nat) : Int), marks c a.length) := by
  refine Ev.congr (f := fun k => laws_markIntS.l0 k (marks c 0 ++ a.drop 0) ((c + 0 : Nat) : Int) 0) (fun k => ?_) (markIntS_l0 a c hn a.length 0 (by omega))
  unfold laws_markIntS.f
  simp [marks]

theorem heldIntS_l0 (n c : Nat) (hn : n + c ≤ 4611686018427387904) :
    ∀ d i : Nat, i + d = n → Ev (fun k => laws_heldIntS.l0 k (marks c n) ((c + i : Nat) : Int) i) ((c + n : Nat) : Int)
  | 0, i, h => by
    obtain rfl : i = n := by omega
    refine Ev.step (f := fun _ => some ((c + i : Nat) : Int)) (fun k => ?_) (Ev.now _)
    simp only [laws_heldIntS.l0]
    rw [if_neg (by simp [marks_length])]
  | d + 1, i, h => by
    refine Ev.step (f := fun k => laws_heldIntS.l0 k (marks c n) ((c + (i + 1) : Nat) : Int) ((i + 1 : Nat) : Int)) (fun k => ?_) (heldIntS_l0 n c hn d (i + 1) (by omega))
    simp only [laws_heldIntS.l0]
    rw [if_pos (by simp [marks_length]; omega), if_pos (by omega), wsucc (by omega), wsucc (by omega), rd_nat, marks_get _ _ _ (by omega), if_pos rfl]
    simp [Nat.add_assoc]
theorem heldIntS_ev (n c : Nat) (hn : n + c ≤ 4611686018427387904) : Ev (fun k => laws_heldIntS.f k (marks c n) c) ((c + n : Nat) : Int) := by
  refine Ev.congr (f := fun k => laws_heldIntS.l0 k (marks c n) ((c + 0 : Nat) : Int) 0) (fun k => ?_) (heldIntS_l0 n c hn n 0 (by omega))
  unfold laws_heldIntS.f
  simp

/-- A row of 32 values from 0 to hi. -/
def rowP (hi : Int) (r : List Int) : Prop := r.length = 32 ∧ ∀ i : Nat, i < r.length → 0 ≤ rd r i ∧ rd r i ≤ hi
/-- At most 32 such rows. -/
def mat (hi : Int) (m : List (List Int)) : Prop := m.length ≤ 32 ∧ ∀ j : Nat, j < m.length → rowP hi (rd_L1 m j)
instance (hi : Int) (r : List Int) : Decidable (rowP hi r) := by
  unfold rowP
  infer_instance
instance (hi : Int) (m : List (List Int)) : Decidable (mat hi m) := by
  unfold mat
  infer_instance
theorem rowP_mono {a b : Int} (h : a ≤ b) {r : List Int} (hr : rowP a r) : rowP b r := ⟨hr.1, fun i hi => ⟨(hr.2 i hi).1, by have := (hr.2 i hi).2; omega⟩⟩
theorem mat_mono {a b : Int} (h : a ≤ b) {m : List (List Int)} (hm : mat a m) : mat b m := ⟨hm.1, fun j hj => rowP_mono h (hm.2 j hj)⟩
/-- Rows that are not too long to be counted. -/
def small (m : List (List Int)) : Prop := m.length ≤ 1099511627776 ∧ ∀ j : Nat, j < m.length → (rd_L1 m j).length ≤ 1099511627776

/-- Rows whose lengths, and their number, are at most 1048576. -/
def tiny (m : List (List Int)) : Prop := m.length ≤ 1048576 ∧ ∀ j : Nat, j < m.length → (rd_L1 m j).length ≤ 1048576
theorem tiny_small {m : List (List Int)} (h : tiny m) : small m := ⟨by have := h.1; omega, fun j hj => by have := h.2 j hj; omega⟩
theorem rows_mem {m : List (List Int)} {j : Nat} (hj : j < m.length) : rd_L1 m j = m[j] := by
  unfold rd_L1
  rw [Int.toNat_natCast, List.getD_eq_getElem?_getD, List.getElem?_eq_getElem hj]
  rfl
theorem set_midL (p q : List (List Int)) (u v : List Int) (i : Nat) (h : p.length = i) : (p ++ u :: q).set i v = p ++ v :: q := by
  subst h
  simp [List.set_append_right]

theorem szIntSS_l0 (m : List (List Int)) (hg : ∀ r ∈ m, r.length ≤ 9223372036854775807) (hn : m.length ≤ 1099511627776) : ∀ (d i : Nat) (left : Int), i + d = m.length → 0 ≤ left → left ≤ 1048576 →
    ∃ r, Ev (fun k => laws_szIntSS.l0 k m left i) r ∧ (r < 0 ∨ (0 ≤ r ∧ r ≤ left ∧ ∀ j : Nat, i ≤ j → j < m.length → (rd_L1 m j).length ≤ 1048576))
  | 0, i, left, hd, h0, h1 => by
    refine ⟨left, Ev.step (f := fun _ => some left) (fun k => ?_) (Ev.now _), .inr ⟨h0, Int.le_refl _, fun j _ _ => by omega⟩⟩
    simp only [laws_szIntSS.l0]
    rw [if_neg (by omega)]
  | d + 1, i, left, hd, h0, h1 => by
    have hm : (rd_L1 m i) ∈ m := by
      unfold rd_L1
      rw [Int.toNat_natCast, List.getD_eq_getElem?_getD, List.getElem?_eq_getElem (show i < m.length by omega)]
      simp
    have hl := hg _ hm
    have e : laws_szIntS.f (rd_L1 m i) left = some (if left - ((rd_L1 m i).length : Int) < 0 then -1 else left - ((rd_L1 m i).length : Int)) := by
      unfold laws_szIntS.f
      rw [w64 (by omega) (by omega)]
      by_cases c : left - ((rd_L1 m i).length : Int) < 0
      · rw [if_pos c, if_pos c]
      · rw [if_neg c, if_neg c]
    by_cases c : left - ((rd_L1 m i).length : Int) < 0
    · rw [if_pos c] at e
      refine ⟨-1, Ev.step (f := fun _ => some (-1)) (fun k => ?_) (Ev.now _), .inl (by omega)⟩
      simp only [laws_szIntSS.l0, e, Option.bind_some]
      rw [if_pos (by omega), if_pos (by omega), if_pos (by omega)]
    · rw [if_neg c] at e
      obtain ⟨r, h2, h3⟩ := szIntSS_l0 m hg hn d (i + 1) (left - ((rd_L1 m i).length : Int)) (by omega) (by omega) (by omega)
      refine ⟨r, Ev.step (fun k => ?_) h2, ?_⟩
      · simp only [laws_szIntSS.l0, e, Option.bind_some]
        rw [if_pos (by omega), if_pos (by omega), if_neg c, wsucc (by omega)]
      · rcases h3 with h3 | ⟨h3, h4, h5⟩
        · exact .inl h3
        · refine .inr ⟨h3, by omega, fun j hj1 hj2 => ?_⟩
          by_cases q : j = i
          · subst q
            omega
          · exact h5 j (by omega) hj2
/-- The measuring of a law's rows: too much, or all of them are short. -/
theorem szIntSS_ev (m : List (List Int)) (left : Int) (h0 : 0 ≤ left) (h1 : left ≤ 1048576) (hm : m.length ≤ 9223372036854775807) (hg : ∀ r ∈ m, r.length ≤ 9223372036854775807) : ∃ r, Ev (fun k => laws_szIntSS.f k m left) r ∧ (r < 0 ∨ (0 ≤ r ∧ r ≤ left ∧ tiny m)) := by
  unfold laws_szIntSS.f
  rw [w64 (by omega) (by omega)]
  by_cases c : left - (m.length : Int) < 0
  · exact ⟨-1, ev_pos c (Ev.now _), .inl (by omega)⟩
  · obtain ⟨r, e, h⟩ := szIntSS_l0 m hg (by omega) m.length 0 (left - (m.length : Int)) (by omega) (by omega) (by omega)
    refine ⟨r, ev_neg c e, ?_⟩
    rcases h with h | ⟨h2, h3, h4⟩
    · exact .inl h
    · exact .inr ⟨h2, by omega, by omega, fun j hj => h4 j (by omega) hj⟩
theorem toIntSS_l0 (m : List (List Int)) (hs : tiny m) : ∀ d i : Nat, i + d = m.length → Ev (fun k => laws_toIntSS.l0 k m (m.take i ++ List.replicate d []) i) m
  | 0, i, h => by
    refine Ev.step (f := fun _ => some m) (fun k => ?_) (Ev.now _)
    simp only [laws_toIntSS.l0]
    rw [if_neg (by omega)]
    simp [List.take_of_length_le (show m.length ≤ i by omega)]
  | d + 1, i, h => by
    have hn := hs.1
    have hl := hs.2 i (by omega)
    have ih := toIntSS_l0 m hs d (i + 1) (by omega)
    refine Ev.step (f := fun k => (laws_toIntS.f k (rd_L1 m i)).bind fun t => laws_toIntSS.l0 k m ((m.take i ++ List.replicate (d + 1) []).set i t) ((i + 1 : Nat) : Int)) (fun k => ?_) ((toIntS_ev (rd_L1 m i) (by omega)).bind ?_)
    · simp only [laws_toIntSS.l0]
      rw [if_pos (by omega), if_pos (by omega), wsucc (by omega)]
      congr 1
      funext t
      rw [if_pos (by simp; omega)]
      rfl
    · have e : (m.take i ++ List.replicate (d + 1) []).set i (rd_L1 m i) = m.take (i + 1) ++ List.replicate d [] := by
        rw [List.replicate_succ, set_midL _ _ _ _ _ (by simp; omega), List.take_succ_eq_append_getElem (show i < m.length by omega), rows_mem (by omega), List.append_assoc]
        rfl
      simp only [e]
      exact ih
theorem toIntSS_ev (m : List (List Int)) (hs : tiny m) : Ev (fun k => laws_toIntSS.f k m) m := by
  have hn := hs.1
  unfold laws_toIntSS.f
  refine ev_pos (by omega) (ev_pos (by omega) ?_)
  have := toIntSS_l0 m hs m.length 0 (by omega)
  simpa using this
theorem eqIntSS_l0 (m : List (List Int)) (hs : small m) : ∀ d i : Nat, i + d = m.length → Ev (fun k => laws_eqIntSS.l0 k m m i) true
  | 0, i, h => by
    refine Ev.step (f := fun _ => some true) (fun k => ?_) (Ev.now _)
    simp only [laws_eqIntSS.l0]
    rw [if_neg (by omega)]
  | d + 1, i, h => by
    have hn := hs.1
    refine Ev.step (f := fun k => (laws_eqIntS.f k (rd_L1 m i) (rd_L1 m i)).bind fun t => if t = true then laws_eqIntSS.l0 k m m ((i + 1 : Nat) : Int) else some false) (fun k => ?_) ((eqIntS_ev (rd_L1 m i) (hs.2 i (by omega))).bind (ev_pos rfl (eqIntSS_l0 m hs d (i + 1) (by omega))))
    simp only [laws_eqIntSS.l0]
    rw [if_pos (by omega), if_pos (by omega), if_pos (by omega), wsucc (by omega)]
theorem eqIntSS_ev (m : List (List Int)) (hs : small m) : Ev (fun k => laws_eqIntSS.f k m m) true := by
  unfold laws_eqIntSS.f
  exact ev_pos rfl (eqIntSS_l0 m hs m.length 0 (by omega))

def total : List (List Int) → Nat
  | [] => 0
  | r :: q => r.length + total q
def markRows : Nat → List (List Int) → List (List Int)
  | _, [] => []
  | c, r :: q => marks c r.length :: markRows (c + r.length) q
theorem markSS_l0 : ∀ (q p : List (List Int)) (c : Nat), p.length + q.length ≤ 1099511627776 → c + total q ≤ 4611686018427387904 → Ev (fun k => laws_markIntSS.l0 k (p ++ q) c (p.length : Nat)) (((c + total q : Nat) : Int), p ++ markRows c q)
  | [], p, c, _, _ => by
    refine Ev.step (f := fun _ => some (((c + total [] : Nat) : Int), p ++ markRows c [])) (fun k => ?_) (Ev.now _)
    simp only [laws_markIntSS.l0, List.append_nil]
    rw [if_neg (by omega)]
    simp [total, markRows]
  | r :: q, p, c, hp, h => by
    simp only [total] at h
    simp only [List.length_cons] at hp
    have ih := markSS_l0 q (p ++ [marks c r.length]) (c + r.length) (by simp; omega) (by omega)
    refine Ev.step (f := fun k => (laws_markIntS.f k r c).bind fun t => laws_markIntSS.l0 k ((p ++ r :: q).set p.length t.2) t.1 ((p.length + 1 : Nat) : Int)) (fun k => ?_) ((markIntS_ev r c (by omega)).bind ?_)
    · simp only [laws_markIntSS.l0]
      rw [if_pos (by simp only [List.length_append, List.length_cons]; omega), if_pos (by omega), wsucc (by omega), Int.toNat_natCast]
      simp
    · rw [set_midL p q r (marks c r.length) p.length rfl]
      have e1 : p ++ marks c r.length :: q = (p ++ [marks c r.length]) ++ q := by simp
      have e2 : p ++ markRows c (r :: q) = (p ++ [marks c r.length]) ++ markRows (c + r.length) q := by simp [markRows]
      have e3 : c + total (r :: q) = c + r.length + total q := by simp only [total]; omega
      have e4 : (p ++ [marks c r.length]).length = p.length + 1 := by simp
      rw [e4] at ih
      rw [e2, e3]
      simp only [e1]
      exact ih
theorem markIntSS_ev (m : List (List Int)) (c : Nat) (hm : m.length ≤ 1099511627776) (h : c + total m ≤ 4611686018427387904) : Ev (fun k => laws_markIntSS.f k m c) (((c + total m : Nat) : Int), markRows c m) := by
  have := markSS_l0 m [] c (by simpa using hm) h
  exact this
theorem markRows_length : ∀ (m : List (List Int)) (c : Nat), (markRows c m).length = m.length
  | [], c => rfl
  | r :: q, c => by simp [markRows, markRows_length q]
theorem heldSS_l0 : ∀ (q p : List (List Int)) (c : Nat), p.length + q.length ≤ 1099511627776 → c + total q ≤ 4611686018427387904 → Ev (fun k => laws_heldIntSS.l0 k (p ++ markRows c q) c (p.length : Nat)) ((c + total q : Nat) : Int)
  | [], p, c, _, _ => by
    refine Ev.step (f := fun _ => some ((c + total [] : Nat) : Int)) (fun k => ?_) (Ev.now _)
    simp only [laws_heldIntSS.l0, markRows, List.append_nil]
    rw [if_neg (by omega)]
    simp [total]
  | r :: q, p, c, hp, h => by
    simp only [total] at h
    simp only [List.length_cons] at hp
    have ih := heldSS_l0 q (p ++ [marks c r.length]) (c + r.length) (by simp; omega) (by omega)
    have e4 : (p ++ [marks c r.length]).length = p.length + 1 := by simp
    have e1 : p ++ markRows c (r :: q) = (p ++ [marks c r.length]) ++ markRows (c + r.length) q := by simp [markRows]
    have e3 : c + total (r :: q) = c + r.length + total q := by simp only [total]; omega
    rw [e4] at ih
    rw [e1, e3]
    refine Ev.step (f := fun k => (laws_heldIntS.f k (marks c r.length) c).bind fun t => if t < 0 then some (-1) else laws_heldIntSS.l0 k ((p ++ [marks c r.length]) ++ markRows (c + r.length) q) t ((p.length + 1 : Nat) : Int)) (fun k => ?_) ((heldIntS_ev r.length c (by omega)).bind (ev_neg (by omega) ih))
    simp only [laws_heldIntSS.l0]
    rw [if_pos (by simp only [List.length_append, List.length_cons, markRows_length]; omega), if_pos (by omega), wsucc (by omega)]
    simp [rd_L1]
theorem heldIntSS_ev (m : List (List Int)) (c : Nat) (hm : m.length ≤ 1099511627776) (h : c + total m ≤ 4611686018427387904) : Ev (fun k => laws_heldIntSS.f k (markRows c m) c) ((c + total m : Nat) : Int) := by
  have := heldSS_l0 m [] c (by simpa using hm) h
  exact this
theorem total_le (B : Nat) : ∀ m : List (List Int), (∀ r ∈ m, r.length ≤ B) → total m ≤ m.length * B
  | [], _ => by simp [total]
  | r :: q, h => by
    have h1 := total_le B q (fun r hr => h r (List.mem_cons_of_mem _ hr))
    have h2 := h r (List.mem_cons_self)
    simp only [total, List.length_cons, Nat.succ_mul]
    omega
theorem total_tiny {m : List (List Int)} (h : tiny m) : total m ≤ 1099511627776 := by
  have h1 := total_le 1048576 m (fun r hr => by
    obtain ⟨i, hi, rfl⟩ := List.mem_iff_getElem.1 hr
    have := h.2 i hi
    rwa [rows_mem hi] at this)
  have h2 := Nat.mul_le_mul_right 1048576 h.1
  omega

/-! Error diffusion of one row, told dot by dot: what is passed on (dP), the rest (dR), the bit (dB), the carry (dC). -/
def dRest (t : Int) : Int := if t ≥ 128 then t - 255 else t
def dBit (t : Int) : Int := if t ≥ 128 then 1 else 0
def dPass (r : Int) : Int := r - 3 * r / 16 - 5 * r / 16 - r / 16
def dP (row carry : List Int) : Nat → Int
  | 0 => 0
  | x + 1 => dPass (dRest (rd row x + rd carry x + dP row carry x))
def dT (row carry : List Int) (x : Nat) : Int := rd row x + rd carry x + dP row carry x
def dR (row carry : List Int) (x : Nat) : Int := dRest (dT row carry x)
def dB (row carry : List Int) (x : Nat) : Int := dBit (dT row carry x)
def upL (l : List Int) (i v : Int) : List Int := l.set i.toNat (rd l i + v)
def dC (row carry : List Int) : Nat → List Int
  | 0 => List.replicate 32 0
  | x + 1 => upL (upL (upL (dC row carry x) (mx 0 ((x : Int) - 1)) (3 * dR row carry x / 16)) x (5 * dR row carry x / 16)) (mn 31 ((x : Int) + 1)) (dR row carry x / 16)
def dBits (row carry : List Int) (n : Nat) : List Int := (List.range n).map (dB row carry)
def dEnd (row carry : List Int) : List Int := upL (dC row carry 32) 31 (dP row carry 32)
/-- A row that is diffused, and a carry, as the program asks them. -/
def rowV (r : List Int) : Prop := r.length = 32 ∧ ∀ i : Nat, i < r.length → 0 ≤ rd r i ∧ rd r i ≤ 255
def carV (B : Int) (c : List Int) : Prop := c.length = 32 ∧ ∀ i : Nat, i < c.length → -B ≤ rd c i ∧ rd c i ≤ B
instance (r : List Int) : Decidable (rowV r) := by
  unfold rowV
  infer_instance
instance (B : Int) (r : List Int) : Decidable (carV B r) := by
  unfold carV
  infer_instance
theorem dP_in {row carry : List Int} {B : Int} (hB : 0 ≤ B) (hr : rowV row) (hc : carV B carry) : ∀ x : Nat, x ≤ 32 → -(B + 105) ≤ dP row carry x ∧ dP row carry x ≤ B + 105
  | 0, _ => by
    simp only [dP]
    omega
  | x + 1, h => by
    have ih := dP_in hB hr hc x (by omega)
    have h1 := hr.2 x (by rw [hr.1]; omega)
    have h2 := hc.2 x (by rw [hc.1]; omega)
    simp only [dP, dPass, dRest]
    split <;> omega
theorem dR_in {row carry : List Int} {B : Int} (hB : 0 ≤ B) (hr : rowV row) (hc : carV B carry) {x : Nat} (h : x < 32) : -(2 * B + 232) ≤ dR row carry x ∧ dR row carry x ≤ 2 * B + 232 := by
  have ih := dP_in hB hr hc x (by omega)
  have h1 := hr.2 x (by rw [hr.1]; omega)
  have h2 := hc.2 x (by rw [hc.1]; omega)
  have key : ∀ t : Int, -(2 * B + 105) ≤ t ∧ t ≤ 2 * B + 360 → -(2 * B + 232) ≤ dRest t ∧ dRest t ≤ 2 * B + 232 := fun t ht => by
    unfold dRest
    split <;> omega
  exact key _ (by unfold dT; omega)
theorem upL_length (l : List Int) (i v : Int) : (upL l i v).length = l.length := by simp [upL]
theorem dC_length (row carry : List Int) : ∀ x : Nat, (dC row carry x).length = 32
  | 0 => by simp [dC]
  | x + 1 => by simp only [dC, upL_length, dC_length row carry x]
theorem rd_upL (l : List Int) (i v j : Int) (hi : 0 ≤ i) (hl : i < l.length) (hj : 0 ≤ j) : rd (upL l i v) j = if j = i then rd l i + v else rd l j := by
  unfold upL rd
  simp only [List.getD_eq_getElem?_getD]
  by_cases c : j = i
  · subst c
    rw [if_pos rfl, List.getElem?_set_self (by omega)]
    rfl
  · rw [if_neg c, List.getElem?_set_ne (by omega)]
/-- Roughly. -/
theorem upL_in {l : List Int} {M V i v : Int} (h : ∀ j : Int, 0 ≤ j → -M ≤ rd l j ∧ rd l j ≤ M) (hi : 0 ≤ i) (hl : i < l.length) (hv : -V ≤ v ∧ v ≤ V) (j : Int) (hj : 0 ≤ j) : -(M + V) ≤ rd (upL l i v) j ∧ rd (upL l i v) j ≤ M + V := by
  rw [rd_upL l i v j hi hl hj]
  have h1 := h j hj
  have h2 := h i hi
  split <;> omega
theorem mx_pre (x : Nat) : 0 ≤ mx 0 ((x : Int) - 1) ∧ (x < 32 → mx 0 ((x : Int) - 1) < 32) := by
  unfold mx
  split <;> omega
theorem mn_post (x : Nat) : 0 ≤ mn 31 ((x : Int) + 1) ∧ mn 31 ((x : Int) + 1) < 32 := by
  unfold mn
  split <;> omega
theorem dC_in {row carry : List Int} {B : Int} (hB : 0 ≤ B) (hr : rowV row) (hc : carV B carry) : ∀ x : Nat, x ≤ 32 → ∀ j : Int, 0 ≤ j → -((2 * B + 300) * x) ≤ rd (dC row carry x) j ∧ rd (dC row carry x) j ≤ (2 * B + 300) * x
  | 0, _, j, hj => by
    have : rd (dC row carry 0) j = 0 := by
      simp only [dC, rd, List.getD_eq_getElem?_getD, List.getElem?_replicate]
      split <;> rfl
    rw [this]
    simp
  | x + 1, h, j, hj => by
    have ih := dC_in hB hr hc x (by omega)
    have hR := dR_in hB hr hc (x := x) (by omega)
    have hl := dC_length row carry x
    have m1 := mx_pre x
    have m2 := mn_post x
    have a1 := upL_in (V := 3 * (2 * B + 232) / 16 + 1) ih m1.1 (by rw [hl]; have := m1.2 (by omega); omega) (v := 3 * dR row carry x / 16) (by omega)
    have a2 := upL_in (V := 5 * (2 * B + 232) / 16 + 1) (i := x) a1 (by omega) (by rw [upL_length, hl]; omega) (v := 5 * dR row carry x / 16) (by omega)
    have a3 := upL_in (V := (2 * B + 232) / 16 + 1) a2 m2.1 (by rw [upL_length, upL_length, hl]; exact m2.2) (v := dR row carry x / 16) (by omega) j hj
    simp only [dC]
    have e : (2 * B + 300) * ((x + 1 : Nat) : Int) = (2 * B + 300) * x + (2 * B + 300) := by rw [Int.natCast_add, Int.mul_add]; simp
    rw [e]
    omega
theorem dBits_snoc (row carry : List Int) (x : Nat) : dBits row carry (x + 1) = dBits row carry x ++ [dB row carry x] := by simp [dBits, List.range_succ]
theorem dBits_length (row carry : List Int) (n : Nat) : (dBits row carry n).length = n := by simp [dBits]
theorem dEnd_length (row carry : List Int) : (dEnd row carry).length = 32 := by rw [dEnd, upL_length, dC_length]
/-- What a row's diffusion gives. -/
def difOk (row carry : List Int) : Prop := carV 20000 carry ∧ rowV row
instance (row carry : List Int) : Decidable (difOk row carry) := by
  unfold difOk
  infer_instance
def difV (row carry : List Int) : List Int × List Int × Bool := if difOk row carry then (dBits row carry 32, dEnd row carry, true) else ([], [], false)
theorem difV_short (row carry : List Int) : (difV row carry).1.length ≤ 32 ∧ (difV row carry).2.1.length ≤ 32 := by
  unfold difV
  split
  · simp [dBits_length, dEnd_length]
  · simp

theorem upL_def (l : List Int) (i v : Int) : l.set i.toNat (rd l i + v) = upL l i v := rfl
/-- Nothing wraps in a step. -/
theorem dif_w {row carry : List Int} (h : difOk row carry) {x : Nat} (hx : x < 32) :
    wrap64 (rd row x + rd carry x) = rd row x + rd carry x ∧ wrap64 (rd row x + rd carry x + dP row carry x) = dT row carry x ∧ (-100000 ≤ dR row carry x ∧ dR row carry x ≤ 100000) ∧ wrap64 ((x : Int) - 1) = (x : Int) - 1 ∧
    wrap64 (rd (dC row carry x) (mx 0 ((x : Int) - 1)) + 3 * dR row carry x / 16) = rd (dC row carry x) (mx 0 ((x : Int) - 1)) + 3 * dR row carry x / 16 ∧
    wrap64 (rd (upL (dC row carry x) (mx 0 ((x : Int) - 1)) (3 * dR row carry x / 16)) x + 5 * dR row carry x / 16) = rd (upL (dC row carry x) (mx 0 ((x : Int) - 1)) (3 * dR row carry x / 16)) x + 5 * dR row carry x / 16 ∧
    wrap64 (rd (upL (upL (dC row carry x) (mx 0 ((x : Int) - 1)) (3 * dR row carry x / 16)) x (5 * dR row carry x / 16)) (mn 31 ((x : Int) + 1)) + dR row carry x / 16) = rd (upL (upL (dC row carry x) (mx 0 ((x : Int) - 1)) (3 * dR row carry x / 16)) x (5 * dR row carry x / 16)) (mn 31 ((x : Int) + 1)) + dR row carry x / 16 := by
  obtain ⟨hc, hr⟩ := h
  have h1 := hr.2 x (by rw [hr.1]; omega)
  have h2 := hc.2 x (by rw [hc.1]; omega)
  have hp := dP_in (by omega) hr hc x (by omega)
  have hR := dR_in (by omega) hr hc hx
  have hl := dC_length row carry x
  have m1 := mx_pre x
  have m2 := mn_post x
  have m3 := m1.2 hx
  have a0 := dC_in (by omega) hr hc x (by omega)
  have a1 := upL_in (V := 20000) a0 m1.1 (by rw [hl]; omega) (v := 3 * dR row carry x / 16) (by omega)
  have a2 := upL_in (V := 20000) (i := x) a1 (by omega) (by rw [upL_length, hl]; omega) (v := 5 * dR row carry x / 16) (by omega)
  have b0 := a0 (mx 0 ((x : Int) - 1)) m1.1
  have b1 := a1 x (by omega)
  have b2 := a2 (mn 31 ((x : Int) + 1)) m2.1
  refine ⟨w64 (by omega) (by omega), ?_, by omega, w64 (by omega) (by omega), w64 (by omega) (by omega), w64 (by omega) (by omega), w64 (by omega) (by omega)⟩
  unfold dT
  exact w64 (by omega) (by omega)
theorem dif_end {row carry : List Int} (h : difOk row carry) : wrap64 (rd (dC row carry 32) 31 + dP row carry 32) = rd (dC row carry 32) 31 + dP row carry 32 := by
  obtain ⟨hc, hr⟩ := h
  have hp := dP_in (by omega) hr hc 32 (by omega)
  have a0 := dC_in (by omega) hr hc 32 (by omega) 31 (by omega)
  exact w64 (by omega) (by omega)
theorem dC_succ (row carry : List Int) (x : Nat) : dC row carry (x + 1) = upL (upL (upL (dC row carry x) (mx 0 ((x : Int) - 1)) (3 * dR row carry x / 16)) x (5 * dR row carry x / 16)) (mn 31 ((x : Int) + 1)) (dR row carry x / 16) := rfl
theorem dP_succ (row carry : List Int) (x : Nat) : dP row carry (x + 1) = dR row carry x - 3 * dR row carry x / 16 - 5 * dR row carry x / 16 - dR row carry x / 16 := rfl
theorem dR_pos {row carry : List Int} {x : Nat} (c : dT row carry x ≥ 128) : dR row carry x = dT row carry x - 255 ∧ dB row carry x = 1 := by
  unfold dR dB dRest dBit
  rw [if_pos c, if_pos c]
  exact ⟨rfl, rfl⟩
theorem dR_neg {row carry : List Int} {x : Nat} (c : ¬ dT row carry x ≥ 128) : dR row carry x = dT row carry x ∧ dB row carry x = 0 := by
  unfold dR dB dRest dBit
  rw [if_neg c, if_neg c]
  exact ⟨rfl, rfl⟩
/-- What a step asks. -/
theorem dif_side {row carry : List Int} (h : difOk row carry) {x : Nat} (hx : x < 32) :
    (0 : Int) ≤ x ∧ (x : Int) < 32 ∧ (x : Int) < (row.length : Int) ∧ (x : Int) < (carry.length : Int) ∧ wrap64 ((x : Int) + 1) = (x : Int) + 1 ∧ 0 ≤ mx 0 ((x : Int) - 1) ∧ mx 0 ((x : Int) - 1) < ((dC row carry x).length : Int) ∧ (x : Int) < ((dC row carry x).length : Int) ∧ 0 ≤ mn 31 ((x : Int) + 1) ∧ mn 31 ((x : Int) + 1) < ((dC row carry x).length : Int) := by
  have hc := h.1.1
  have hr := h.2.1
  have hl := dC_length row carry x
  have m1 := mx_pre x
  have m3 := m1.2 hx
  have m2 := mn_post x
  exact ⟨by omega, by omega, by omega, by omega, w64 (by omega) (by omega), m1.1, by omega, by omega, m2.1, by omega⟩
theorem dif_rest {R : Int} (h : -100000 ≤ R ∧ R ≤ 100000) : wrap64 (R - 3 * R / 16) = R - 3 * R / 16 ∧ wrap64 (R - 3 * R / 16 - 5 * R / 16) = R - 3 * R / 16 - 5 * R / 16 ∧ wrap64 (R - 3 * R / 16 - 5 * R / 16 - R / 16) = R - 3 * R / 16 - 5 * R / 16 - R / 16 ∧ wrap64 (3 * R) = 3 * R ∧ wrap64 (5 * R) = 5 * R :=
  ⟨w64 (by omega) (by omega), w64 (by omega) (by omega), w64 (by omega) (by omega), w64 (by omega) (by omega), w64 (by omega) (by omega)⟩
theorem dif_rest2 {row carry : List Int} {x : Nat} (h : -100000 ≤ dR row carry x ∧ dR row carry x ≤ 100000) (c : dT row carry x ≥ 128) : wrap64 (dT row carry x - 255) = dR row carry x := by
  have e := (dR_pos c).1
  rw [e] at h ⊢
  exact w64 (by omega) (by omega)

theorem within_eq (a b c : Int) : impl_within.f a b c = some (decide (b ≤ a ∧ a ≤ c)) := by
  unfold impl_within.f
  by_cases h : a ≥ b
  · rw [if_pos h]
    simp [show b ≤ a from h]
  · rw [if_neg h]
    simp [show ¬ b ≤ a from h]

theorem impl_CarryOk_l0 (a : List Int) (hn : a.length = 32) :
    ∀ d i : Nat, i + d = a.length → (∀ j : Nat, j < i → -20000 ≤ rd a j ∧ rd a j ≤ 20000) → Ev (fun k => impl_CarryOk.l0 k a (a.length : Int) i) (decide (carV 20000 a))
  | 0, i, h, hj => by
    refine Ev.step (f := fun _ => some true) (fun k => ?_) ?_
    · simp only [impl_CarryOk.l0]
      rw [if_neg (by omega)]
    · rw [decide_eq_true (show carV 20000 a from ⟨hn, fun j h1 => hj j (by omega)⟩)]
      exact Ev.now _
  | d + 1, i, h, hj => by
    by_cases c : -20000 ≤ rd a i ∧ rd a i ≤ 20000
    · refine Ev.step (f := fun k => impl_CarryOk.l0 k a (a.length : Int) ((i + 1 : Nat) : Int)) (fun k => ?_) (impl_CarryOk_l0 a hn d (i + 1) (by omega) (fun j h1 => ?_))
      · simp only [impl_CarryOk.l0, within_eq, Option.bind_some]
        rw [if_pos (by omega), if_pos (by omega), if_pos (by omega), if_pos (decide_eq_true c), wsucc (by omega)]
      · by_cases e : j = i
        · subst e
          exact c
        · exact hj j (by omega)
    · refine Ev.step (f := fun _ => some false) (fun k => ?_) ?_
      · simp only [impl_CarryOk.l0, within_eq, Option.bind_some]
        rw [if_pos (by omega), if_pos (by omega), if_pos (by omega), if_neg (by simp only [decide_eq_true_eq]; exact c)]
      · rw [decide_eq_false (show ¬ carV 20000 a from fun h3 => c (h3.2 i (by omega)))]
        exact Ev.now _
theorem impl_CarryOk_ev (a : List Int) : Ev (fun k => impl_CarryOk.f k a) (decide (carV 20000 a)) := by
  unfold impl_CarryOk.f
  by_cases c : (a.length : Int) = 32
  · exact ev_pos c (impl_CarryOk_l0 a (by omega) a.length 0 (by omega) (fun j h => by omega))
  · rw [decide_eq_false (show ¬ carV 20000 a from fun h => by have := h.1; omega)]
    exact ev_neg c (Ev.now _)

theorem impl_rowV_l0 (a : List Int) (hn : a.length = 32) :
    ∀ d i : Nat, i + d = a.length → (∀ j : Nat, j < i → 0 ≤ rd a j ∧ rd a j ≤ 255) → Ev (fun k => impl_rowOk.l0 k a (a.length : Int) i) (decide (rowV a))
  | 0, i, h, hj => by
    refine Ev.step (f := fun _ => some true) (fun k => ?_) ?_
    · simp only [impl_rowOk.l0]
      rw [if_neg (by omega)]
    · rw [decide_eq_true (show rowV a from ⟨hn, fun j h1 => hj j (by omega)⟩)]
      exact Ev.now _
  | d + 1, i, h, hj => by
    by_cases c : 0 ≤ rd a i ∧ rd a i ≤ 255
    · refine Ev.step (f := fun k => impl_rowOk.l0 k a (a.length : Int) ((i + 1 : Nat) : Int)) (fun k => ?_) (impl_rowV_l0 a hn d (i + 1) (by omega) (fun j h1 => ?_))
      · simp only [impl_rowOk.l0, within_eq, Option.bind_some]
        rw [if_pos (by omega), if_pos (by omega), if_pos (by omega), if_pos (decide_eq_true c), wsucc (by omega)]
      · by_cases e : j = i
        · subst e
          exact c
        · exact hj j (by omega)
    · refine Ev.step (f := fun _ => some false) (fun k => ?_) ?_
      · simp only [impl_rowOk.l0, within_eq, Option.bind_some]
        rw [if_pos (by omega), if_pos (by omega), if_pos (by omega), if_neg (by simp only [decide_eq_true_eq]; exact c)]
      · rw [decide_eq_false (show ¬ rowV a from fun h3 => c (h3.2 i (by omega)))]
        exact Ev.now _
theorem impl_rowV_ev (a : List Int) : Ev (fun k => impl_rowOk.f k a) (decide (rowV a)) := by
  unfold impl_rowOk.f
  by_cases c : (a.length : Int) = 32
  · exact ev_pos c (impl_rowV_l0 a (by omega) a.length 0 (by omega) (fun j h => by omega))
  · rw [decide_eq_false (show ¬ rowV a from fun h => by have := h.1; omega)]
    exact ev_neg c (Ev.now _)

theorem down_eq {a : Int} (h : -1000000 ≤ a ∧ a ≤ 1000000) : impl_down.f a 16 = some (a / 16) := by
  unfold impl_down.f
  rw [if_neg (by omega)]
  by_cases c0 : 0 ≤ a
  · rw [td c0, tm c0, w64 (n := a / 16) (by omega) (by omega)]
    by_cases c1 : a % 16 = 0
    · rw [if_pos c1]
    · rw [if_neg c1, if_neg (by simp; omega)]
  · obtain ⟨n, rfl⟩ : ∃ n : Int, a = -n := ⟨-a, by omega⟩
    rw [Int.neg_tdiv, Int.neg_tmod, td (by omega), tm (by omega), w64 (n := -(n / 16)) (by omega) (by omega)]
    by_cases c1 : -(n % 16) = 0
    · rw [if_pos c1, show -(n / 16) = -n / 16 by omega]
    · rw [if_neg c1, if_pos (by simp; omega), w64 (by omega) (by omega), show -(n / 16) - 1 = -n / 16 by omega]
theorem impl_Dif_l0 (row carry : List Int) (h : difOk row carry) : ∀ d x : Nat, x + d = 32 → Ev (fun k => impl_DiffuseRow.l0 k carry (dP row carry x) row 32 x (dBits row carry x ++ List.replicate d 0) (dC row carry x)) (dBits row carry 32, dEnd row carry, true)
  | 0, x, hd => by
    obtain rfl : x = 32 := by omega
    refine Ev.step (f := fun _ => some (dBits row carry 32, dEnd row carry, true)) (fun k => ?_) (Ev.now _)
    have hl := dC_length row carry 32
    have de : (dC row carry 32).set (31 : Int).toNat (rd (dC row carry 32) 31 + dP row carry 32) = dEnd row carry := rfl
    simp only [impl_DiffuseRow.l0, dif_end h, List.replicate_zero, List.append_nil]
    rw [if_neg (by omega), if_pos (by omega)]
    first | done | rw [de]
  | d + 1, x, hd => by
    obtain ⟨w1, w2, hR, w4, u1, u2, u3⟩ := dif_w h (x := x) (by omega)
    obtain ⟨s0, s1, s2, s3, w5, s4, s5, s6, s7, s8⟩ := dif_side h (x := x) (by omega)
    obtain ⟨p1, p2, p3, v1, v2⟩ := dif_rest hR
    have d1 := down_eq (a := 3 * dR row carry x) (by clear u1 u2 u3 w1 w2 w4; omega)
    have d2 := down_eq (a := 5 * dR row carry x) (by clear u1 u2 u3 w1 w2 w4; omega)
    have d3 := down_eq (a := dR row carry x) (by clear u1 u2 u3 w1 w2 w4; omega)
    have ex : ((x + 1 : Nat) : Int) = (x : Int) + 1 := rfl
    have ih := impl_Dif_l0 row carry h d (x + 1) (by clear u1 u2 u3 w1 w2 w4; omega)
    rw [dBits_snoc, dC_succ, List.append_assoc, List.singleton_append, ex, dP_succ] at ih
    by_cases c : dT row carry x ≥ 128
    · have w3 := dif_rest2 hR c
      rw [(dR_pos c).2] at ih
      refine Ev.step (fun k => ?_) ih
      simp only [impl_DiffuseRow.l0, Option.bind_some, w1, w2, if_pos c, w3, w4, w5, v1, v2, d1, d2, d3, u1, upL_def, u2, u3, p1, p2, p3]
      rw [if_pos s1, if_pos s0, if_pos s2, if_pos s3, if_pos (by simp only [List.length_append, dBits_length, List.length_replicate]; clear u1 u2 u3 w1 w2 w4; omega), if_pos s4, if_pos s5, if_pos s6, if_pos s7, if_pos s8, List.replicate_succ, Int.toNat_natCast, set_mid _ _ _ _ _ (dBits_length _ _ _)]
    · have e1 := (dR_neg c).1
      rw [(dR_neg c).2] at ih
      refine Ev.step (fun k => ?_) ih
      rw [← e1] at w2
      have c' : ¬ dR row carry x ≥ 128 := by rw [e1]; exact c
      simp only [impl_DiffuseRow.l0, Option.bind_some, w1, w2, w4, w5, v1, v2, d1, d2, d3, u1, upL_def, u2, u3, p1, p2, p3]
      rw [if_pos s1, if_pos s0, if_pos s2, if_pos s3, if_neg c', if_pos s4, if_pos s5, if_pos s6, if_pos s7, if_pos s8, List.replicate_succ]
theorem impl_Dif_ev (row carry : List Int) : Ev (fun k => impl_DiffuseRow.f k row carry) (difV row carry) := by
  have stop : Ev (fun k => impl_DiffuseRow.j0 k row carry true) (([], [], false) : List Int × List Int × Bool) := by
    refine Ev.step (f := fun _ => some ([], [], false)) (fun k => ?_) (Ev.now _)
    simp only [impl_DiffuseRow.j0]
    rfl
  unfold impl_DiffuseRow.f difV
  refine (impl_CarryOk_ev carry).bind ?_
  by_cases c1 : carV 20000 carry
  · refine ev_pos (decide_eq_true c1) ((impl_rowV_ev row).bind ?_)
    by_cases c2 : rowV row
    · rw [if_pos (c := difOk row carry) ⟨c1, c2⟩, decide_eq_true c2]
      have e := impl_Dif_l0 row carry ⟨c1, c2⟩ 32 0 (by omega)
      refine Ev.step (fun k => ?_) e
      simp only [impl_DiffuseRow.j0]
      rw [c2.1]
      rfl
    · rw [if_neg (c := difOk row carry) (fun q => c2 q.2), decide_eq_false c2]
      exact stop
  · rw [if_neg (c := difOk row carry) (fun q => c1 q.1)]
    exact ev_neg (by simp [c1]) stop

/-- Rows that are diffused one after another. -/
def difGo : List (List Int) → List (List Int) → List Int → List (List Int) × List Int × Bool
  | [], out, now => (out, now, true)
  | r :: q, out, now => if difOk r now then difGo q (out ++ [dBits r now 32]) (dEnd r now) else ([], [], false)
theorem difGo_short : ∀ (q out : List (List Int)) (c : List Int), (∀ r ∈ out, r.length ≤ 32) → c.length ≤ 1048576 → (difGo q out c).1.length ≤ out.length + q.length ∧ (∀ r ∈ (difGo q out c).1, r.length ≤ 32) ∧ (difGo q out c).2.1.length ≤ 1048576
  | [], out, c, h, hc => ⟨by simp [difGo], by simpa [difGo] using h, by simpa [difGo] using hc⟩
  | r :: q, out, c, h, hc => by
    by_cases ok : difOk r c
    · have e : difGo (r :: q) out c = difGo q (out ++ [dBits r c 32]) (dEnd r c) := by simp only [difGo]; rw [if_pos ok]
      rw [e]
      have ih := difGo_short q (out ++ [dBits r c 32]) (dEnd r c) (fun s hs => by
        rcases List.mem_append.1 hs with hs | hs
        · exact h s hs
        · rw [List.mem_singleton.1 hs, dBits_length]
          omega) (by rw [dEnd_length]; omega)
      refine ⟨?_, ih.2⟩
      have := ih.1
      simp only [List.length_append, List.length_cons, List.length_nil] at this ⊢
      omega
    · have e : difGo (r :: q) out c = ([], [], false) := by simp only [difGo]; rw [if_neg ok]
      rw [e]
      simp

/-- Rows of 32 values, told dot by dot. -/
def tabRow (F : Nat → Nat → Int) (y n : Nat) : List Int := (List.range n).map (F y)
def tab (F : Nat → Nat → Int) (n : Nat) : List (List Int) := (List.range n).map fun y => tabRow F y 32
theorem tabRow_snoc (F : Nat → Nat → Int) (y n : Nat) : tabRow F y (n + 1) = tabRow F y n ++ [F y n] := by simp [tabRow, List.range_succ]
theorem tabRow_length (F : Nat → Nat → Int) (y n : Nat) : (tabRow F y n).length = n := by simp [tabRow]
theorem tab_snoc (F : Nat → Nat → Int) (n : Nat) : tab F (n + 1) = tab F n ++ [tabRow F n 32] := by simp [tab, List.range_succ]
theorem tab_length (F : Nat → Nat → Int) (n : Nat) : (tab F n).length = n := by simp [tab]
theorem tab_row (F : Nat → Nat → Int) {n y : Nat} (h : y < n) : rd_L1 (tab F n) y = tabRow F y 32 := by
  rw [rows_mem (by rw [tab_length]; exact h)]
  simp [tab]
theorem tabRow_get (F : Nat → Nat → Int) (y : Nat) {n x : Nat} (h : x < n) : rd (tabRow F y n) x = F y x := by
  rw [rd_nat, List.getD_eq_getElem?_getD, List.getElem?_eq_getElem (by rw [tabRow_length]; exact h)]
  simp [tabRow]
theorem rows_mid (p q : List (List Int)) (u : List Int) (i : Nat) (h : p.length = i) : rd_L1 (p ++ u :: q) i = u := by
  subst h
  simp [rd_L1]
theorem dots_mid (p q : List Int) (u : Int) (i : Nat) (h : p.length = i) : rd (p ++ u :: q) i = u := by
  subst h
  simp [rd_nat]
theorem rows_drop (m : List (List Int)) {i : Nat} (h : i < m.length) : m.drop i = rd_L1 m i :: m.drop (i + 1) := by
  rw [List.drop_eq_getElem_cons h, rows_mem h]
theorem dots_drop (r : List Int) {i : Nat} (h : i < r.length) : r.drop i = rd r i :: r.drop (i + 1) := by
  rw [getD_drop r i h, rd_nat]
theorem tab_small (F : Nat → Nat → Int) (n : Nat) (h : n ≤ 32) : small (tab F n) := by
  refine ⟨by rw [tab_length]; omega, fun j hj => ?_⟩
  rw [tab_length] at hj
  rw [tab_row F hj, tabRow_length]
  omega
theorem tab_total (F : Nat → Nat → Int) (n : Nat) (h : n ≤ 32) : True := trivial
theorem small_total {m : List (List Int)} (h : m.length ≤ 32) (h2 : ∀ j : Nat, j < m.length → (rd_L1 m j).length ≤ 32) : m.length ≤ 1048576 ∧ ∀ j : Nat, j < m.length → (rd_L1 m j).length ≤ 1048576 := ⟨by omega, fun j hj => by have := h2 j hj; omega⟩
theorem tab_tiny (F : Nat → Nat → Int) (n : Nat) (h : n ≤ 32) : tiny (tab F n) := by
  refine ⟨by rw [tab_length]; omega, fun j hj => ?_⟩
  rw [tab_length] at hj
  rw [tab_row F hj, tabRow_length]
  omega
theorem mat_dot {hi : Int} {m : List (List Int)} (h : mat hi m) {y x : Nat} (hy : y < m.length) (hx : x < 32) : 0 ≤ rd (rd_L1 m y) x ∧ rd (rd_L1 m y) x ≤ hi := (h.2 y hy).2 x (by rw [(h.2 y hy).1]; exact hx)
theorem tab_mat (F : Nat → Nat → Int) (n : Nat) (hi : Int) (h : n ≤ 32) (hF : ∀ y x, y < n → x < 32 → 0 ≤ F y x ∧ F y x ≤ hi) : mat hi (tab F n) := by
  refine ⟨by rw [tab_length]; exact h, fun j hj => ?_⟩
  rw [tab_length] at hj
  rw [tab_row F hj]
  refine ⟨tabRow_length _ _ _, fun i h1 => ?_⟩
  rw [tabRow_length] at h1
  rw [tabRow_get F j h1]
  exact hF j i hj h1

theorem impl_DifRows_l0 (m : List (List Int)) (hm : m.length ≤ 1048576) : ∀ (q p out : List (List Int)) (c : List Int), m = p ++ q → out.length = p.length → Ev (fun k => impl_DiffuseRows.l0 k c out m (m.length : Int) (p.length : Nat)) (difGo q out c)
  | [], p, out, c, h, ho => by
    subst h
    refine Ev.step (f := fun _ => some (out, c, true)) (fun k => ?_) (Ev.now _)
    simp only [impl_DiffuseRows.l0, List.append_nil]
    rw [if_neg (by omega)]
  | r :: q, p, out, c, h, ho => by
    have hl : m.length = p.length + (q.length + 1) := by rw [h]; simp
    have e : rd_L1 m (p.length : Nat) = r := by rw [h]; exact rows_mid p q r _ rfl
    have hd := impl_Dif_ev r c
    unfold difV at hd
    by_cases ok : difOk r c
    · rw [if_pos ok] at hd
      have ih := impl_DifRows_l0 m hm q (p ++ [r]) (out ++ [dBits r c 32]) (dEnd r c) (by rw [h]; simp) (by simp [ho])
      rw [show difGo (r :: q) out c = difGo q (out ++ [dBits r c 32]) (dEnd r c) by simp only [difGo]; rw [if_pos ok]]
      generalize dBits r c 32 = u at hd ih ⊢
      generalize dEnd r c = v at hd ih ⊢
      generalize difGo q (out ++ [u]) v = V at ih ⊢
      refine Ev.step (f := fun k => (impl_DiffuseRow.f k r c).bind fun t => if t.2.2 = true then impl_DiffuseRows.l0 k t.2.1 (out ++ [t.1]) m (m.length : Int) ((p ++ [r]).length : Nat) else some ([], [], false)) (fun k => ?_) (hd.bind (ev_pos (c := (true : Bool) = true) rfl ih))
      simp only [impl_DiffuseRows.l0]
      rw [if_pos (by omega), if_pos (by omega), if_pos (by omega), e, wsucc (by omega)]
      simp only [if_pos (show out.length < 5864062014805 by omega), List.length_append, List.length_cons, List.length_nil]
    · rw [if_neg ok] at hd
      rw [show difGo (r :: q) out c = ([], [], false) by simp only [difGo]; rw [if_neg ok]]
      refine Ev.step (f := fun k => (impl_DiffuseRow.f k r c).bind fun t => if t.2.2 = true then impl_DiffuseRows.l0 k t.2.1 (out ++ [t.1]) m (m.length : Int) ((p ++ [r]).length : Nat) else some ([], [], false)) (fun k => ?_) (hd.bind (ev_neg (c := (false : Bool) = true) Bool.false_ne_true (Ev.now _)))
      simp only [impl_DiffuseRows.l0]
      rw [if_pos (by omega), if_pos (by omega), if_pos (by omega), e, wsucc (by omega)]
      simp only [if_pos (show out.length < 5864062014805 by omega), List.length_append, List.length_cons, List.length_nil]
theorem impl_DifRows_ev (m : List (List Int)) (c : List Int) (hm : m.length ≤ 1048576) (hc : c.length ≤ 1048576) : Ev (fun k => impl_DiffuseRows.f k m c) (difGo m [] c) := by
  have e : slices_Clone_int_int.f c = some c := by
    unfold slices_Clone_int_int.f
    rw [if_pos (by omega)]
  have := impl_DifRows_l0 m hm m [] [] c rfl rfl
  unfold impl_DiffuseRows.f
  rw [e]
  exact this

theorem l01In_eq (a b c : Int) : spec_l01In.f a b c = some (decide (b ≤ a ∧ a ≤ c)) := by
  unfold spec_l01In.f
  by_cases h : a ≥ b
  · rw [if_pos h]
    simp [show b ≤ a from h]
  · rw [if_neg h]
    simp [show ¬ b ≤ a from h]

theorem spec_CarryOk_l0 (a : List Int) (hn : a.length ≤ 1099511627776) :
    ∀ d i : Nat, i + d = a.length → (∀ j : Nat, j < i → -20000 ≤ rd a j ∧ rd a j ≤ 20000) → Ev (fun k => spec_CarryOk.l0 k a i) (decide (carV 20000 a))
  | 0, i, h, hj => by
    refine Ev.step (f := fun _ => some ((a.length : Int) == 32)) (fun k => ?_) ?_
    · simp only [spec_CarryOk.l0]
      rw [if_neg (by omega)]
    · rw [show ((a.length : Int) == 32) = decide (carV 20000 a) from by
        rw [Bool.eq_iff_iff]
        simp only [beq_iff_eq, decide_eq_true_eq]
        exact ⟨fun q => ⟨by omega, fun j h1 => hj j (by omega)⟩, fun q => by rw [q.1]; rfl⟩]
      exact Ev.now _
  | d + 1, i, h, hj => by
    by_cases c : -20000 ≤ rd a i ∧ rd a i ≤ 20000
    · refine Ev.step (f := fun k => spec_CarryOk.l0 k a ((i + 1 : Nat) : Int)) (fun k => ?_) (spec_CarryOk_l0 a hn d (i + 1) (by omega) (fun j h1 => ?_))
      · simp only [spec_CarryOk.l0, l01In_eq, Option.bind_some]
        rw [if_pos (by omega), if_pos (by omega), if_pos (decide_eq_true c), wsucc (by omega)]
      · by_cases e : j = i
        · subst e
          exact c
        · exact hj j (by omega)
    · refine Ev.step (f := fun _ => some false) (fun k => ?_) ?_
      · simp only [spec_CarryOk.l0, l01In_eq, Option.bind_some]
        rw [if_pos (by omega), if_pos (by omega), if_neg (by simp only [decide_eq_true_eq]; exact c)]
      · rw [decide_eq_false (show ¬ carV 20000 a from fun h3 => c (h3.2 i (by omega)))]
        exact Ev.now _
theorem spec_CarryOk_ev (a : List Int) (hn : a.length ≤ 1099511627776) : Ev (fun k => spec_CarryOk.f k a) (decide (carV 20000 a)) :=
  spec_CarryOk_l0 a hn a.length 0 (by omega) (fun j h => by omega)
theorem spec_rowV_l0 (a : List Int) (hn : a.length ≤ 1099511627776) :
    ∀ d i : Nat, i + d = a.length → (∀ j : Nat, j < i → 0 ≤ rd a j ∧ rd a j ≤ 255) → Ev (fun k => spec_l11Row.l0 k a i) (decide (rowV a))
  | 0, i, h, hj => by
    refine Ev.step (f := fun _ => some ((a.length : Int) == 32)) (fun k => ?_) ?_
    · simp only [spec_l11Row.l0]
      rw [if_neg (by omega)]
    · rw [show ((a.length : Int) == 32) = decide (rowV a) from by
        rw [Bool.eq_iff_iff]
        simp only [beq_iff_eq, decide_eq_true_eq]
        exact ⟨fun q => ⟨by omega, fun j h1 => hj j (by omega)⟩, fun q => by rw [q.1]; rfl⟩]
      exact Ev.now _
  | d + 1, i, h, hj => by
    by_cases c : 0 ≤ rd a i ∧ rd a i ≤ 255
    · refine Ev.step (f := fun k => spec_l11Row.l0 k a ((i + 1 : Nat) : Int)) (fun k => ?_) (spec_rowV_l0 a hn d (i + 1) (by omega) (fun j h1 => ?_))
      · simp only [spec_l11Row.l0, l01In_eq, Option.bind_some]
        rw [if_pos (by omega), if_pos (by omega), if_pos (decide_eq_true c), wsucc (by omega)]
      · by_cases e : j = i
        · subst e
          exact c
        · exact hj j (by omega)
    · refine Ev.step (f := fun _ => some false) (fun k => ?_) ?_
      · simp only [spec_l11Row.l0, l01In_eq, Option.bind_some]
        rw [if_pos (by omega), if_pos (by omega), if_neg (by simp only [decide_eq_true_eq]; exact c)]
      · rw [decide_eq_false (show ¬ rowV a from fun h3 => c (h3.2 i (by omega)))]
        exact Ev.now _
theorem spec_rowV_ev (a : List Int) (hn : a.length ≤ 1099511627776) : Ev (fun k => spec_l11Row.f k a) (decide (rowV a)) :=
  spec_rowV_l0 a hn a.length 0 (by omega) (fun j h => by omega)

theorem part_eq {a n : Int} (h : -200000 ≤ a ∧ a ≤ 200000) (hn : n = 1 ∨ n = 3 ∨ n = 5) : spec_l21Part.f a n = some (n * a / 16) := by
  unfold spec_l21Part.f
  rcases hn with rfl | rfl | rfl
  · rw [w64 (n := a * 1) (by omega) (by omega), w64 (n := a * 1 + 1600000) (by omega) (by omega), td (by omega), w64 (n := (a * 1 + 1600000) / 16) (by omega) (by omega), w64 (by omega) (by omega), show (a * 1 + 1600000) / 16 - 100000 = 1 * a / 16 by omega]
  · rw [w64 (n := a * 3) (by omega) (by omega), w64 (n := a * 3 + 1600000) (by omega) (by omega), td (by omega), w64 (n := (a * 3 + 1600000) / 16) (by omega) (by omega), w64 (by omega) (by omega), show (a * 3 + 1600000) / 16 - 100000 = 3 * a / 16 by omega]
  · rw [w64 (n := a * 5) (by omega) (by omega), w64 (n := a * 5 + 1600000) (by omega) (by omega), td (by omega), w64 (n := (a * 5 + 1600000) / 16) (by omega) (by omega), w64 (by omega) (by omega), show (a * 5 + 1600000) / 16 - 100000 = 5 * a / 16 by omega]
theorem spec_Dif_l0 (row carry : List Int) (h : difOk row carry) : ∀ d x : Nat, x + d = 32 → Ev (fun k => spec_DiffuseRow.l0 k row carry (dP row carry x) x (dBits row carry x) (dC row carry x)) (dBits row carry 32, dEnd row carry, true)
  | 0, x, hd => by
    obtain rfl : x = 32 := by omega
    refine Ev.step (f := fun _ => some (dBits row carry 32, dEnd row carry, true)) (fun k => ?_) (Ev.now _)
    have hl := dC_length row carry 32
    have de : (dC row carry 32).set (31 : Int).toNat (rd (dC row carry 32) 31 + dP row carry 32) = dEnd row carry := rfl
    simp only [spec_DiffuseRow.l0, dif_end h]
    rw [if_neg (by omega), if_pos (by omega)]
    first | done | rw [de]
  | d + 1, x, hd => by
    obtain ⟨w1, w2, hR, w4, u1, u2, u3⟩ := dif_w h (x := x) (by omega)
    obtain ⟨s0, s1, s2, s3, w5, s4, s5, s6, s7, s8⟩ := dif_side h (x := x) (by omega)
    obtain ⟨p1, p2, p3, v1, v2⟩ := dif_rest hR
    have d1 := part_eq (a := dR row carry x) (n := 3) (by clear u1 u2 u3 w1 w2 w4; omega) (.inr (.inl rfl))
    have d2 := part_eq (a := dR row carry x) (n := 5) (by clear u1 u2 u3 w1 w2 w4; omega) (.inr (.inr rfl))
    have d3 := part_eq (a := dR row carry x) (n := 1) (by clear u1 u2 u3 w1 w2 w4; omega) (.inl rfl)
    rw [Int.one_mul] at d3
    have ex : ((x + 1 : Nat) : Int) = (x : Int) + 1 := rfl
    have ih := spec_Dif_l0 row carry h d (x + 1) (by clear u1 u2 u3 w1 w2 w4; omega)
    rw [dBits_snoc, dC_succ, ex, dP_succ] at ih
    by_cases c : dT row carry x ≥ 128
    · have w3 : wrap64 (dT row carry x - (255 * 1)) = dR row carry x := dif_rest2 hR c
      rw [(dR_pos c).2] at ih
      refine Ev.step (fun k => ?_) ih
      simp only [spec_DiffuseRow.l0, Option.bind_some, w1, w2, if_pos c, w3, w4, w5, d1, d2, d3, u1, upL_def, u2, u3, p1, p2, p3]
      rw [if_pos s1, if_pos s0, if_pos s2, if_pos s3, if_pos (by rw [dBits_length]; clear u1 u2 u3 w1 w2 w4; omega), if_pos s4, if_pos s5, if_pos s6, if_pos s7, if_pos s8]
    · have e1 := (dR_neg c).1
      have w3 : wrap64 (dT row carry x - (255 * 0)) = dR row carry x := by rw [e1] at hR ⊢; exact (w64 (by omega) (by omega)).trans (by omega)
      rw [(dR_neg c).2] at ih
      refine Ev.step (fun k => ?_) ih
      simp only [spec_DiffuseRow.l0, Option.bind_some, w1, w2, if_neg c, w3, w4, w5, d1, d2, d3, u1, upL_def, u2, u3, p1, p2, p3]
      rw [if_pos s1, if_pos s0, if_pos s2, if_pos s3, if_pos (by rw [dBits_length]; clear u1 u2 u3 w1 w2 w4; omega), if_pos s4, if_pos s5, if_pos s6, if_pos s7, if_pos s8]
theorem spec_Dif_ev (row carry : List Int) (h1 : row.length ≤ 1099511627776) (h2 : carry.length ≤ 1099511627776) : Ev (fun k => spec_DiffuseRow.f k row carry) (difV row carry) := by
  have stop : Ev (fun k => spec_DiffuseRow.j0 k row carry true) (([], [], false) : List Int × List Int × Bool) := by
    refine Ev.step (f := fun _ => some ([], [], false)) (fun k => ?_) (Ev.now _)
    simp only [spec_DiffuseRow.j0]
    rfl
  unfold spec_DiffuseRow.f difV
  refine (spec_CarryOk_ev carry h2).bind ?_
  by_cases c1 : carV 20000 carry
  · refine ev_pos (decide_eq_true c1) ((spec_rowV_ev row h1).bind ?_)
    by_cases c2 : rowV row
    · rw [if_pos (c := difOk row carry) ⟨c1, c2⟩, decide_eq_true c2]
      have e := spec_Dif_l0 row carry ⟨c1, c2⟩ 32 0 (by omega)
      refine Ev.step (fun k => ?_) e
      simp only [spec_DiffuseRow.j0]
      rfl
    · rw [if_neg (c := difOk row carry) (fun q => c2 q.2), decide_eq_false c2]
      exact stop
  · rw [if_neg (c := difOk row carry) (fun q => c1 q.1)]
    exact ev_neg (by simp [c1]) stop

theorem spec_DifRows_l0 (m : List (List Int)) (hs : tiny m) : ∀ (q p out : List (List Int)) (c : List Int), m = p ++ q → out.length = p.length → c.length ≤ 1048576 → Ev (fun k => spec_DiffuseRows.l0 k m out c (p.length : Nat)) (difGo q out c)
  | [], p, out, c, h, ho, hc => by
    subst h
    refine Ev.step (f := fun _ => some (out, c, true)) (fun k => ?_) (Ev.now _)
    simp only [spec_DiffuseRows.l0, List.append_nil]
    rw [if_neg (by omega)]
  | r :: q, p, out, c, h, ho, hc => by
    have hm := hs.1
    have hl : m.length = p.length + (q.length + 1) := by rw [h]; simp
    have e : rd_L1 m (p.length : Nat) = r := by rw [h]; exact rows_mid p q r _ rfl
    have hr : r.length ≤ 1048576 := by
      have := hs.2 p.length (by omega)
      rwa [e] at this
    have hd := spec_Dif_ev r c (by omega) (by omega)
    unfold difV at hd
    by_cases ok : difOk r c
    · rw [if_pos ok] at hd
      have ih := spec_DifRows_l0 m hs q (p ++ [r]) (out ++ [dBits r c 32]) (dEnd r c) (by rw [h]; simp) (by simp [ho]) (by rw [dEnd_length]; omega)
      rw [show difGo (r :: q) out c = difGo q (out ++ [dBits r c 32]) (dEnd r c) by simp only [difGo]; rw [if_pos ok]]
      generalize dBits r c 32 = u at hd ih ⊢
      generalize dEnd r c = v at hd ih ⊢
      generalize difGo q (out ++ [u]) v = V at ih ⊢
      refine Ev.step (f := fun k => (spec_DiffuseRow.f k r c).bind fun t => if t.2.2 = true then spec_DiffuseRows.l0 k m (out ++ [t.1]) t.2.1 ((p ++ [r]).length : Nat) else some ([], [], false)) (fun k => ?_) (hd.bind (ev_pos (c := (true : Bool) = true) rfl ih))
      simp only [spec_DiffuseRows.l0]
      rw [if_pos (by omega), if_pos (by omega), e, wsucc (by omega)]
      simp only [if_pos (show out.length < 5864062014805 by omega), List.length_append, List.length_cons, List.length_nil]
    · rw [if_neg ok] at hd
      rw [show difGo (r :: q) out c = ([], [], false) by simp only [difGo]; rw [if_neg ok]]
      refine Ev.step (f := fun k => (spec_DiffuseRow.f k r c).bind fun t => if t.2.2 = true then spec_DiffuseRows.l0 k m (out ++ [t.1]) t.2.1 ((p ++ [r]).length : Nat) else some ([], [], false)) (fun k => ?_) (hd.bind (ev_neg (c := (false : Bool) = true) Bool.false_ne_true (Ev.now _)))
      simp only [spec_DiffuseRows.l0]
      rw [if_pos (by omega), if_pos (by omega), e, wsucc (by omega)]
      simp only [if_pos (show out.length < 5864062014805 by omega), List.length_append, List.length_cons, List.length_nil]
theorem spec_DifRows_ev (m : List (List Int)) (c : List Int) (hs : tiny m) (hc : c.length ≤ 1048576) : Ev (fun k => spec_DiffuseRows.f k m c) (difGo m [] c) := by
  have e : spec_l05Copy.f c = some c := by
    unfold spec_l05Copy.f
    simp only [Option.bind_some, List.nil_append, List.length_nil]
    rw [if_pos (by omega)]
  have := spec_DifRows_l0 m hs m [] [] c rfl rfl hc
  unfold spec_DiffuseRows.f
  rw [e]
  exact this

theorem FnExactDiffuseRows : FnExactDiffuseRowsPure := by
  intro a b hm hw hm2 hw2
  refine Ev.rounds ?_
  unfold laws_FnExactDiffuseRows.f
  by_cases hl : (b.length : Int) > 1048576
  · exact ev_pos hl (Ev.now _)
  refine ev_neg hl ?_
  obtain ⟨r, e, h⟩ := szIntSS_ev a 1048576 (by omega) (by omega) hm (fun r hr => (hw r hr).1)
  refine e.bind ?_
  rcases h with h | ⟨h0, h1, ht⟩
  · exact ev_pos h (Ev.now _)
  refine ev_neg (by omega) ?_
  have t := toIntSS_ev a ht
  have t2 := toIntS_ev b (by omega)
  have q1 := total_tiny ht
  have e1 := spec_DifRows_ev a b ht (by omega)
  have e2 := impl_DifRows_ev a b ht.1 (by omega)
  have hs := difGo_short a [] b (by simp) (by omega)
  generalize difGo a [] b = V at e1 e2 hs
  obtain ⟨V, C, B⟩ := V
  simp only [List.length_nil, Nat.zero_add] at hs
  obtain ⟨hs1, hs2, hs3⟩ := hs
  have hVt : tiny V := ⟨by have := ht.1; omega, fun j hj => by
    rw [rows_mem hj]
    have := hs2 _ (List.getElem_mem hj)
    omega⟩
  have hVs : small V := tiny_small hVt
  have hVT : total V ≤ 1099511627776 := total_tiny hVt
  have eq := eqIntSS_ev V hVs
  have eqC := eqIntS_ev C (by omega)
  refine t.bind (t2.bind (e1.bind (t.bind (t2.bind (e2.bind (eq.bind (ev_pos rfl (eqC.bind (ev_pos rfl (ev_neg (by simp) ?_))))))))))
  refine t.bind ((eqIntSS_ev a (tiny_small ht)).bind (ev_pos rfl (t2.bind ((eqIntS_ev b (by omega)).bind (ev_pos rfl ?_)))))
  refine (markIntSS_ev a 1 (tiny_small ht).1 (by omega)).bind ((markIntS_ev b (1 + total a) (by omega)).bind (ev_neg (by omega) (eq.bind (ev_pos rfl (eqC.bind (ev_pos rfl (ev_neg (by simp) ?_)))))))
  have held := heldIntSS_ev V 1 hVs.1 (by omega)
  have held2 := heldIntS_ev C.length (1 + total V) (by omega)
  refine (markIntSS_ev V 1 hVs.1 (by omega)).bind ((markIntS_ev C (1 + total V) (by omega)).bind (held.bind (ev_neg (by omega) (held2.bind (ev_neg (by omega) (ev_pos rfl ?_))))))
  exact t.bind (t2.bind (e2.bind (eq.bind (ev_pos rfl (eqC.bind (ev_pos rfl (ev_neg (by simp) (held.bind (ev_neg (by omega) (held2.bind (ev_neg (by omega) (ev_pos rfl (Ev.now _)))))))))))))

end Go.Proofs.Ytophklfiooklbaa.Pure
