/-
  The program's PackPlanes gives what the reference gives for all rows, leaves its arguments as they were, and shares nothing with them.
-/
import Derived.Test.YtophklfiooklbaaPFnExactPackPlanesx6
import Derived.Test.YtophklfiooklbaaWSized
import Derived.Test.YtophklfiooklbaaOpenFnExactPackPlanes
namespace Go.Proofs.Ytophklfiooklbaa.Pure
open Go.RowKit Go.Proofs.Ytophklfiooklbaa.PFnExactPackPlanes Go.Proofs.YtophklfiooklbaaW.PrintWords Go.Proofs.YtophklfiooklbaaW.PrintLast Go.Proofs.YtophklfiooklbaaW.PrintMore Go.Proofs.Ytophklfiooklbaa.OpenFnExactPackPlanes
set_option linter.unusedVariables false
set_option linter.unusedSimpArgs false

theorem w64 {n : Int} (h1 : -9223372036854775808 ≤ n) (h2 : n ≤ 9223372036854775807) : wrap64 n = n := by
  unfold wrap64
  omega
theorem wsucc {i : Nat} (h : i ≤ 4611686018427387904) : wrap64 ((i : Int) + 1) = ((i + 1 : Nat) : Int) := by
  rw [w64 (by omega) (by omega)]
  omega
theorem rd_nat (l : List Int) (i : Nat) : rd l (i : Int) = l.getD i 0 := by simp [rd]
theorem getD_drop (l : List Int) (i : Nat) (h : i < l.length) : l.drop i = l.getD i 0 :: l.drop (i + 1) := by
  rw [List.drop_eq_getElem_cons h]
  simp [List.getD_eq_getElem?_getD, List.getElem?_eq_getElem h]
theorem getD_take (l : List Int) (i : Nat) (h : i < l.length) : l.take (i + 1) = l.take i ++ [l.getD i 0] := by
  rw [List.take_succ_eq_append_getElem h]
  simp [List.getD_eq_getElem?_getD, List.getElem?_eq_getElem h]
theorem set_mid (p q : List Int) (u v : Int) (i : Nat) (h : p.length = i) : (p ++ u :: q).set i v = p ++ v :: q := by
  subst h
  simp [List.set_append_right]
theorem bind_id {α : Type} {g : Nat → Option α} {r : α} (h : Ev g r) : Ev (fun n => (g n).bind fun x => some x) r := by
  obtain ⟨K, h⟩ := h
  exact ⟨K, fun k hk => by simp [h k hk]⟩
theorem ev_pos {α : Type} {c : Prop} [Decidable c] {f g : Nat → Option α} {r : α} (h : c) (k : Ev f r) : Ev (fun n => if c then f n else g n) r := Ev.congr (fun n => if_pos h) k
theorem ev_neg {α : Type} {c : Prop} [Decidable c] {f g : Nat → Option α} {r : α} (h : ¬ c) (k : Ev g r) : Ev (fun n => if c then f n else g n) r := Ev.congr (fun n => if_neg h) k
theorem ev_eq {α β : Type} {g : Option α} {f : Nat → α → Option β} {a : α} {r : β} (h : g = some a) (k : Ev (fun n => f n a) r) : Ev (fun n => g.bind (f n)) r := by
  subst h
  exact k
theorem td {v : Int} (h : 0 ≤ v) (c : Int) : Int.tdiv v c = v / c := Int.tdiv_eq_ediv_of_nonneg h
theorem tm {v : Int} (h : 0 ≤ v) (c : Int) : Int.tmod v c = v % c := Int.tmod_eq_emod_of_nonneg h

/-- A row of 32 values from 0 to hi. -/
def rowP (hi : Int) (r : List Int) : Prop := r.length = 32 ∧ ∀ i : Nat, i < r.length → 0 ≤ rd r i ∧ rd r i ≤ hi
/-- At most 32 such rows. -/
def mat (hi : Int) (m : List (List Int)) : Prop := m.length ≤ 32 ∧ ∀ j : Nat, j < m.length → rowP hi (rd_L1 m j)
instance (hi : Int) (r : List Int) : Decidable (rowP hi r) := by
  unfold rowP
  infer_instance
instance (hi : Int) (m : List (List Int)) : Decidable (mat hi m) := by
  unfold mat
  infer_instance
theorem rowP_mono {a b : Int} (h : a ≤ b) {r : List Int} (hr : rowP a r) : rowP b r := ⟨hr.1, fun i hi => ⟨(hr.2 i hi).1, by have := (hr.2 i hi).2; omega⟩⟩
theorem mat_mono {a b : Int} (h : a ≤ b) {m : List (List Int)} (hm : mat a m) : mat b m := ⟨hm.1, fun j hj => rowP_mono h (hm.2 j hj)⟩
/-- Rows that are not too long to be counted. -/
def small (m : List (List Int)) : Prop := m.length ≤ 1099511627776 ∧ ∀ j : Nat, j < m.length → (rd_L1 m j).length ≤ 1099511627776

/-- Rows whose lengths, and their number, are at most 1048576. -/
def tiny (m : List (List Int)) : Prop := m.length ≤ 1048576 ∧ ∀ j : Nat, j < m.length → (rd_L1 m j).length ≤ 1048576
theorem tiny_small {m : List (List Int)} (h : tiny m) : small m := ⟨by have := h.1; omega, fun j hj => by have := h.2 j hj; omega⟩
theorem rows_mem {m : List (List Int)} {j : Nat} (hj : j < m.length) : rd_L1 m j = m[j] := by
  unfold rd_L1
  rw [Int.toNat_natCast, List.getD_eq_getElem?_getD, List.getElem?_eq_getElem hj]
  rfl
theorem set_midL (p q : List (List Int)) (u v : List Int) (i : Nat) (h : p.length = i) : (p ++ u :: q).set i v = p ++ v :: q := by
  subst h
  simp [List.set_append_right]

theorem eqIntS_l0 (a : List Int) (hn : a.length ≤ 1099511627776) :
    ∀ d i : Nat, i + d = a.length → Ev (fun k => laws_eqIntS.l0 k a a i) true
  | 0, i, h => by
    refine Ev.step (f := fun _ => some true) (fun k => ?_) (Ev.now _)
    simp only [laws_eqIntS.l0]
    rw [if_neg (by omega)]
  | d + 1, i, h => by
    refine Ev.step (f := fun k => laws_eqIntS.l0 k a a ((i + 1 : Nat) : Int)) (fun k => ?_) (eqIntS_l0 a hn d (i + 1) (by omega))
    simp only [laws_eqIntS.l0]
    rw [if_pos (by omega), if_pos (by omega), if_pos (by omega), if_pos trivial, wsucc (by omega)]
theorem eqIntS_ev (a : List Int) (hn : a.length ≤ 1099511627776) : Ev (fun k => laws_eqIntS.f k a a) true := by
  refine Ev.congr (f := fun k => laws_eqIntS.l0 k a a 0) (fun k => ?_) (eqIntS_l0 a hn a.length 0 (by omega))
  unfold laws_eqIntS.f
  rw [if_pos rfl]

theorem toIntS_l0 (a : List Int) (hn : a.length ≤ 1099511627776) :
    ∀ d i : Nat, i + d = a.length → Ev (fun k => laws_toIntS.l0 k a (a.take i ++ List.replicate d 0) i) a
  | 0, i, h => by
    refine Ev.step (f := fun _ => some a) (fun k => ?_) (Ev.now _)
    simp only [laws_toIntS.l0]
    rw [if_neg (by omega)]
    simp [List.take_of_length_le (show a.length ≤ i by omega)]
  | d + 1, i, h => by
    refine Ev.step (f := fun k => laws_toIntS.l0 k a (a.take (i + 1) ++ List.replicate d 0) ((i + 1 : Nat) : Int)) (fun k => ?_) (toIntS_l0 a hn d (i + 1) (by omega))
    simp only [laws_toIntS.l0]
    rw [if_pos (by omega), if_pos (by omega), if_pos (by simp; omega), wsucc (by omega), rd_nat, List.replicate_succ, Int.toNat_natCast, set_mid _ _ _ _ _ (by simp; omega), getD_take a i (by omega)]
    simp
theorem toIntS_ev (a : List Int) (hn : a.length ≤ 1099511627776) : Ev (fun k => laws_toIntS.f k a) a := by
  refine Ev.congr (f := fun k => laws_toIntS.l0 k a (a.take 0 ++ List.replicate a.length 0) 0) (fun k => ?_) (toIntS_l0 a hn a.length 0 (by omega))
  unfold laws_toIntS.f
  rw [if_pos (by omega), if_pos (by omega)]
  simp

theorem szIntSS_l0 (m : List (List Int)) (hg : ∀ r ∈ m, r.length ≤ 9223372036854775807) (hn : m.length ≤ 1099511627776) : ∀ (d i : Nat) (left : Int), i + d = m.length → 0 ≤ left → left ≤ 1048576 →
    ∃ r, Ev (fun k => laws_szIntSS.l0 k m left i) r ∧ (r < 0 ∨ (0 ≤ r ∧ r ≤ left ∧ ∀ j : Nat, i ≤ j → j < m.length → (rd_L1 m j).length ≤ 1048576))
  | 0, i, left, hd, h0, h1 => by
    refine ⟨left, Ev.step (f := fun _ => some left) (fun k => ?_) (Ev.now _), .inr ⟨h0, Int.le_refl _, fun j _ _ => by omega⟩⟩
    simp only [laws_szIntSS.l0]
    rw [if_neg (by omega)]
  | d + 1, i, left, hd, h0, h1 => by
    have hm : (rd_L1 m i) ∈ m := by
      unfold rd_L1
      rw [Int.toNat_natCast, List.getD_eq_getElem?_getD, List.getElem?_eq_getElem (show i < m.length by omega)]
      simp
    have hl := hg _ hm
    have e : laws_szIntS.f (rd_L1 m i) left = some (if left - ((rd_L1 m i).length : Int) < 0 then -1 else left - ((rd_L1 m i).length : Int)) := by
      unfold laws_szIntS.f
      rw [w64 (by omega) (by omega)]
      by_cases c : left - ((rd_L1 m i).length : Int) < 0
      · rw [if_pos c, if_pos c]
      · rw [if_neg c, if_neg c]
    by_cases c : left - ((rd_L1 m i).length : Int) < 0
    · rw [if_pos c] at e
      refine ⟨-1, Ev.step (f := fun _ => some (-1)) (fun k => ?_) (Ev.now _), .inl (by omega)⟩
      simp only [laws_szIntSS.l0, e, Option.bind_some]
      rw [if_pos (by omega), if_pos (by omega), if_pos (by omega)]
    · rw [if_neg c] at e
      obtain ⟨r, h2, h3⟩ := szIntSS_l0 m hg hn d (i + 1) (left - ((rd_L1 m i).length : Int)) (by omega) (by omega) (by omega)
      refine ⟨r, Ev.step (fun k => ?_) h2, ?_⟩
      · simp only [laws_szIntSS.l0, e, Option.bind_some]
        rw [if_pos (by omega), if_pos (by omega), if_neg c, wsucc (by omega)]
      · rcases h3 with h3 | ⟨h3, h4, h5⟩
        · exact .inl h3
        · refine .inr ⟨h3, by omega, fun j hj1 hj2 => ?_⟩
          by_cases q : j = i
          · subst q
            omega
          · exact h5 j (by omega) hj2
/-- The measuring of a law's rows: too much, or all of them are short. -/
theorem szIntSS_ev (m : List (List Int)) (left : Int) (h0 : 0 ≤ left) (h1 : left ≤ 1048576) (hm : m.length ≤ 9223372036854775807) (hg : ∀ r ∈ m, r.length ≤ 9223372036854775807) : ∃ r, Ev (fun k => laws_szIntSS.f k m left) r ∧ (r < 0 ∨ (0 ≤ r ∧ r ≤ left ∧ tiny m)) := by
  unfold laws_szIntSS.f
  rw [w64 (by omega) (by omega)]
  by_cases c : left - (m.length : Int) < 0
  · exact ⟨-1, ev_pos c (Ev.now _), .inl (by omega)⟩
  · obtain ⟨r, e, h⟩ := szIntSS_l0 m hg (by omega) m.length 0 (left - (m.length : Int)) (by omega) (by omega) (by omega)
    refine ⟨r, ev_neg c e, ?_⟩
    rcases h with h | ⟨h2, h3, h4⟩
    · exact .inl h
    · exact .inr ⟨h2, by omega, by omega, fun j hj => h4 j (by omega) hj⟩
theorem toIntSS_l0 (m : List (List Int)) (hs : tiny m) : ∀ d i : Nat, i + d = m.length → Ev (fun k => laws_toIntSS.l0 k m (m.take i ++ List.replicate d []) i) m
  | 0, i, h => by
    refine Ev.step (f := fun _ => some m) (fun k => ?_) (Ev.now _)
    simp only [laws_toIntSS.l0]
    rw [if_neg (by omega)]
    simp [List.take_of_length_le (show m.length ≤ i by omega)]
  | d + 1, i, h => by
    have hn := hs.1
    have hl := hs.2 i (by omega)
    have ih := toIntSS_l0 m hs d (i + 1) (by omega)
    refine Ev.step (f := fun k => (laws_toIntS.f k (rd_L1 m i)).bind fun t => laws_toIntSS.l0 k m ((m.take i ++ List.replicate (d + 1) []).set i t) ((i + 1 : Nat) : Int)) (fun k => ?_) ((toIntS_ev (rd_L1 m i) (by omega)).bind ?_)
    · simp only [laws_toIntSS.l0]
      rw [if_pos (by omega), if_pos (by omega), wsucc (by omega)]
      congr 1
      funext t
      rw [if_pos (by simp; omega)]
      rfl
    · have e : (m.take i ++ List.replicate (d + 1) []).set i (rd_L1 m i) = m.take (i + 1) ++ List.replicate d [] := by
        rw [List.replicate_succ, set_midL _ _ _ _ _ (by simp; omega), List.take_succ_eq_append_getElem (show i < m.length by omega), rows_mem (by omega), List.append_assoc]
        rfl
      simp only [e]
      exact ih
theorem toIntSS_ev (m : List (List Int)) (hs : tiny m) : Ev (fun k => laws_toIntSS.f k m) m := by
  have hn := hs.1
  unfold laws_toIntSS.f
  refine ev_pos (by omega) (ev_pos (by omega) ?_)
  have := toIntSS_l0 m hs m.length 0 (by omega)
  simpa using this
theorem eqIntSS_l0 (m : List (List Int)) (hs : small m) : ∀ d i : Nat, i + d = m.length → Ev (fun k => laws_eqIntSS.l0 k m m i) true
  | 0, i, h => by
    refine Ev.step (f := fun _ => some true) (fun k => ?_) (Ev.now _)
    simp only [laws_eqIntSS.l0]
    rw [if_neg (by omega)]
  | d + 1, i, h => by
    have hn := hs.1
    refine Ev.step (f := fun k => (laws_eqIntS.f k (rd_L1 m i) (rd_L1 m i)).bind fun t => if t = true then laws_eqIntSS.l0 k m m ((i + 1 : Nat) : Int) else some false) (fun k => ?_) ((eqIntS_ev (rd_L1 m i) (hs.2 i (by omega))).bind (ev_pos rfl (eqIntSS_l0 m hs d (i + 1) (by omega))))
    simp only [laws_eqIntSS.l0]
    rw [if_pos (by omega), if_pos (by omega), if_pos (by omega), wsucc (by omega)]
theorem eqIntSS_ev (m : List (List Int)) (hs : small m) : Ev (fun k => laws_eqIntSS.f k m m) true := by
  unfold laws_eqIntSS.f
  exact ev_pos rfl (eqIntSS_l0 m hs m.length 0 (by omega))

def marks (c : Nat) : Nat → List Int
  | 0 => []
  | n + 1 => (c : Int) :: marks (c + 1) n
theorem marks_length (n : Nat) : ∀ c, (marks c n).length = n := by
  induction n with
  | zero => intro c; rfl
  | succ n ih => intro c; simp [marks, ih]
theorem marks_snoc (n : Nat) : ∀ c, marks c (n + 1) = marks c n ++ [((c + n : Nat) : Int)] := by
  induction n with
  | zero => intro c; simp [marks]
  | succ n ih =>
    intro c
    rw [marks, ih (c + 1), marks]
    simp
    omega
theorem marks_get (n : Nat) : ∀ c i, i < n → (marks c n).getD i 0 = ((c + i : Nat) : Int) := by
  induction n with
  | zero => intro c i h; omega
  | succ n ih =>
    intro c i h
    cases i with
    | zero => simp [marks]
    | succ i =>
      rw [marks, List.getD_cons_succ, ih (c + 1) i (by omega)]
      omega
theorem markIntS_l0 (a : List Int) (c : Nat) (hn : a.length + c ≤ 4611686018427387904) :
    ∀ d i : Nat, i + d = a.length → Ev (fun k => laws_markIntS.l0 k (marks c i ++ a.drop i) ((c + i : Nat) : Int) i) (((c + a.length : Nat) : Int), marks c a.length)
  | 0, i, h => by
    obtain rfl : i = a.length := by omega
    refine Ev.step (f := fun _ => some (((c + a.length : Nat) : Int), marks c a.length)) (fun k => ?_) (Ev.now _)
    simp only [laws_markIntS.l0]
    rw [if_neg (by simp [marks_length])]
    simp
  | d + 1, i, h => by
    refine Ev.step (f := fun k => laws_markIntS.l0 k (marks c (i + 1) ++ a.drop (i + 1)) ((c + (i + 1) : Nat) : Int) ((i + 1 : Nat) : Int)) (fun k => ?_) (markIntS_l0 a c hn d (i + 1) (by omega))
    simp only [laws_markIntS.l0]
    rw [if_pos (by simp [marks_length]; omega), if_pos (by omega), wsucc (by omega), wsucc (by omega), getD_drop a i (by omega), Int.toNat_natCast, set_mid _ _ _ _ _ (marks_length _ _), marks_snoc]
    simp [Nat.add_assoc]
theorem markIntS_ev (a : List Int) (c : Nat) (hn : a.length + c ≤ 4611686018427387904) : Ev (fun k => laws_markIntS.f k a c) (((c + a.length : Nat) : Int), marks c a.length) := by
  refine Ev.congr (f := fun k => laws_markIntS.l0 k (marks c 0 ++ a.drop 0) ((c + 0 : Nat) : Int) 0) (fun k => ?_) (markIntS_l0 a c hn a.length 0 (by omega))
  unfold laws_markIntS.f
  simp [marks]

theorem heldIntS_l0 (n c : Nat) (hn : n + c ≤ 4611686018427387904) :
    ∀ d i : Nat, i + d = n → Ev (fun k => laws_heldIntS.l0 k (marks c n) ((c + i : Nat) : Int) i) ((c + n : Nat) : Int)
  | 0, i, h => by
    obtain rfl : i = n := by omega
    refine Ev.step (f := fun _ => some ((c + i : Nat) : Int)) (fun k => ?_) (Ev.now _)
    simp only [laws_heldIntS.l0]
    rw [if_neg (by simp [marks_length])]
  | d + 1, i, h => by
    refine Ev.step (f := fun k => laws_heldIntS.l0 k (marks c n) ((c + (i + 1) : Nat) : Int) ((i + 1 : Nat) : Int)) (fun k => ?_) (heldIntS_l0 n c hn d (i + 1) (by omega))
    simp only [laws_heldIntS.l0]
    rw [if_pos (by simp [marks_length]; omega), if_pos (by omega), wsucc (by omega), wsucc (by omega), rd_nat, marks_get _ _ _ (by omega), if_pos rfl]
    simp [Nat.add_assoc]
theorem heldIntS_ev (n c : Nat) (hn : n + c ≤ 4611686018427387904) : Ev (fun k => laws_heldIntS.f k (marks c n) c) ((c + n : Nat) : Int) := by
  refine Ev.congr (f := fun k => laws_heldIntS.l0 k (marks c n) ((c + 0 : Nat) : Int) 0) (fun k => ?_) (heldIntS_l0 n c hn n 0 (by omega))
  unfold laws_heldIntS.f
  simp

def total : List (List Int) → Nat
  | [] => 0
  | r :: q => r.length + total q
def markRows : Nat → List (List Int) → List (List Int)
  | _, [] => []
  | c, r :: q => marks c r.length :: markRows (c + r.length) q
theorem markSS_l0 : ∀ (q p : List (List Int)) (c : Nat), p.length + q.length ≤ 1099511627776 → c + total q ≤ 4611686018427387904 → Ev (fun k => laws_markIntSS.l0 k (p ++ q) c (p.length : Nat)) (((c + total q : Nat) : Int), p ++ markRows c q)
  | [], p, c, _, _ => by
    refine Ev.step (f := fun _ => some (((c + total [] : Nat) : Int), p ++ markRows c [])) (fun k => ?_) (Ev.now _)
    simp only [laws_markIntSS.l0, List.append_nil]
    rw [if_neg (by omega)]
    simp [total, markRows]
  | r :: q, p, c, hp, h => by
    simp only [total] at h
    simp only [List.length_cons] at hp
    have ih := markSS_l0 q (p ++ [marks c r.length]) (c + r.length) (by simp; omega) (by omega)
    refine Ev.step (f := fun k => (laws_markIntS.f k r c).bind fun t => laws_markIntSS.l0 k ((p ++ r :: q).set p.length t.2) t.1 ((p.length + 1 : Nat) : Int)) (fun k => ?_) ((markIntS_ev r c (by omega)).bind ?_)
    · simp only [laws_markIntSS.l0]
      rw [if_pos (by simp only [List.length_append, List.length_cons]; omega), if_pos (by omega), wsucc (by omega), Int.toNat_natCast]
      simp
    · rw [set_midL p q r (marks c r.length) p.length rfl]
      have e1 : p ++ marks c r.length :: q = (p ++ [marks c r.length]) ++ q := by simp
      have e2 : p ++ markRows c (r :: q) = (p ++ [marks c r.length]) ++ markRows (c + r.length) q := by simp [markRows]
      have e3 : c + total (r :: q) = c + r.length + total q := by simp only [total]; omega
      have e4 : (p ++ [marks c r.length]).length = p.length + 1 := by simp
      rw [e4] at ih
      rw [e2, e3]
      simp only [e1]
      exact ih
theorem markIntSS_ev (m : List (List Int)) (c : Nat) (hm : m.length ≤ 1099511627776) (h : c + total m ≤ 4611686018427387904) : Ev (fun k => laws_markIntSS.f k m c) (((c + total m : Nat) : Int), markRows c m) := by
  have := markSS_l0 m [] c (by simpa using hm) h
  exact this
theorem markRows_length : ∀ (m : List (List Int)) (c : Nat), (markRows c m).length = m.length
  | [], c => rfl
  | r :: q, c => by simp [markRows, markRows_length q]
theorem heldSS_l0 : ∀ (q p : List (List Int)) (c : Nat), p.length + q.length ≤ 1099511627776 → c + total q ≤ 4611686018427387904 → Ev (fun k => laws_heldIntSS.l0 k (p ++ markRows c q) c (p.length : Nat)) ((c + total q : Nat) : Int)
  | [], p, c, _, _ => by
    refine Ev.step (f := fun _ => some ((c + total [] : Nat) : Int)) (fun k => ?_) (Ev.now _)
    simp only [laws_heldIntSS.l0, markRows, List.append_nil]
    rw [if_neg (by omega)]
    simp [total]
  | r :: q, p, c, hp, h => by
    simp only [total] at h
    simp only [List.length_cons] at hp
    have ih := heldSS_l0 q (p ++ [marks c r.length]) (c + r.length) (by simp; omega) (by omega)
    have e4 : (p ++ [marks c r.length]).length = p.length + 1 := by simp
    have e1 : p ++ markRows c (r :: q) = (p ++ [marks c r.length]) ++ markRows (c + r.length) q := by simp [markRows]
    have e3 : c + total (r :: q) = c + r.length + total q := by simp only [total]; omega
    rw [e4] at ih
    rw [e1, e3]
    refine Ev.step (f := fun k => (laws_heldIntS.f k (marks c r.length) c).bind fun t => if t < 0 then some (-1) else laws_heldIntSS.l0 k ((p ++ [marks c r.length]) ++ markRows (c + r.length) q) t ((p.length + 1 : Nat) : Int)) (fun k => ?_) ((heldIntS_ev r.length c (by omega)).bind (ev_neg (by omega) ih))
    simp only [laws_heldIntSS.l0]
    rw [if_pos (by simp only [List.length_append, List.length_cons, markRows_length]; omega), if_pos (by omega), wsucc (by omega)]
    simp [rd_L1]
theorem heldIntSS_ev (m : List (List Int)) (c : Nat) (hm : m.length ≤ 1099511627776) (h : c + total m ≤ 4611686018427387904) : Ev (fun k => laws_heldIntSS.f k (markRows c m) c) ((c + total m : Nat) : Int) := by
  have := heldSS_l0 m [] c (by simpa using hm) h
  exact this
theorem total_le (B : Nat) : ∀ m : List (List Int), (∀ r ∈ m, r.length ≤ B) → total m ≤ m.length * B
  | [], _ => by simp [total]
  | r :: q, h => by
    have h1 := total_le B q (fun r hr => h r (List.mem_cons_of_mem _ hr))
    have h2 := h r (List.mem_cons_self)
    simp only [total, List.length_cons, Nat.succ_mul]
    omega
theorem total_tiny {m : List (List Int)} (h : tiny m) : total m ≤ 1099511627776 := by
  have h1 := total_le 1048576 m (fun r hr => by
    obtain ⟨i, hi, rfl⟩ := List.mem_iff_getElem.1 hr
    have := h.2 i hi
    rwa [rows_mem hi] at this)
  have h2 := Nat.mul_le_mul_right 1048576 h.1
  omega

/-- Rows of 32 values, told dot by dot. -/
def tabRow (F : Nat → Nat → Int) (y n : Nat) : List Int := (List.range n).map (F y)
def tab (F : Nat → Nat → Int) (n : Nat) : List (List Int) := (List.range n).map fun y => tabRow F y 32
theorem tabRow_snoc (F : Nat → Nat → Int) (y n : Nat) : tabRow F y (n + 1) = tabRow F y n ++ [F y n] := by simp [tabRow, List.range_succ]
theorem tabRow_length (F : Nat → Nat → Int) (y n : Nat) : (tabRow F y n).length = n := by simp [tabRow]
theorem tab_snoc (F : Nat → Nat → Int) (n : Nat) : tab F (n + 1) = tab F n ++ [tabRow F n 32] := by simp [tab, List.range_succ]
theorem tab_length (F : Nat → Nat → Int) (n : Nat) : (tab F n).length = n := by simp [tab]
theorem tab_row (F : Nat → Nat → Int) {n y : Nat} (h : y < n) : rd_L1 (tab F n) y = tabRow F y 32 := by
  rw [rows_mem (by rw [tab_length]; exact h)]
  simp [tab]
theorem tabRow_get (F : Nat → Nat → Int) (y : Nat) {n x : Nat} (h : x < n) : rd (tabRow F y n) x = F y x := by
  rw [rd_nat, List.getD_eq_getElem?_getD, List.getElem?_eq_getElem (by rw [tabRow_length]; exact h)]
  simp [tabRow]
theorem rows_mid (p q : List (List Int)) (u : List Int) (i : Nat) (h : p.length = i) : rd_L1 (p ++ u :: q) i = u := by
  subst h
  simp [rd_L1]
theorem dots_mid (p q : List Int) (u : Int) (i : Nat) (h : p.length = i) : rd (p ++ u :: q) i = u := by
  subst h
  simp [rd_nat]
theorem rows_drop (m : List (List Int)) {i : Nat} (h : i < m.length) : m.drop i = rd_L1 m i :: m.drop (i + 1) := by
  rw [List.drop_eq_getElem_cons h, rows_mem h]
theorem dots_drop (r : List Int) {i : Nat} (h : i < r.length) : r.drop i = rd r i :: r.drop (i + 1) := by
  rw [getD_drop r i h, rd_nat]
theorem tab_small (F : Nat → Nat → Int) (n : Nat) (h : n ≤ 32) : small (tab F n) := by
  refine ⟨by rw [tab_length]; omega, fun j hj => ?_⟩
  rw [tab_length] at hj
  rw [tab_row F hj, tabRow_length]
  omega
theorem tab_total (F : Nat → Nat → Int) (n : Nat) (h : n ≤ 32) : True := trivial
theorem small_total {m : List (List Int)} (h : m.length ≤ 32) (h2 : ∀ j : Nat, j < m.length → (rd_L1 m j).length ≤ 32) : m.length ≤ 1048576 ∧ ∀ j : Nat, j < m.length → (rd_L1 m j).length ≤ 1048576 := ⟨by omega, fun j hj => by have := h2 j hj; omega⟩
theorem tab_tiny (F : Nat → Nat → Int) (n : Nat) (h : n ≤ 32) : tiny (tab F n) := by
  refine ⟨by rw [tab_length]; omega, fun j hj => ?_⟩
  rw [tab_length] at hj
  rw [tab_row F hj, tabRow_length]
  omega
theorem mat_dot {hi : Int} {m : List (List Int)} (h : mat hi m) {y x : Nat} (hy : y < m.length) (hx : x < 32) : 0 ≤ rd (rd_L1 m y) x ∧ rd (rd_L1 m y) x ≤ hi := (h.2 y hy).2 x (by rw [(h.2 y hy).1]; exact hx)
theorem tab_mat (F : Nat → Nat → Int) (n : Nat) (hi : Int) (h : n ≤ 32) (hF : ∀ y x, y < n → x < 32 → 0 ≤ F y x ∧ F y x ≤ hi) : mat hi (tab F n) := by
  refine ⟨by rw [tab_length]; exact h, fun j hj => ?_⟩
  rw [tab_length] at hj
  rw [tab_row F hj]
  refine ⟨tabRow_length _ _ _, fun i h1 => ?_⟩
  rw [tabRow_length] at h1
  rw [tabRow_get F j h1]
  exact hF j i hj h1

/-! Four planes of bits in one. -/
def packF (a b c d : List (List Int)) (y x : Nat) : Int := rd (rd_L1 a y) x + 2 * rd (rd_L1 b y) x + 4 * rd (rd_L1 c y) x + 8 * rd (rd_L1 d y) x
def packOk (a b c d : List (List Int)) : Prop := (mat 1 a ∧ mat 1 b ∧ mat 1 c ∧ mat 1 d) ∧ a.length = b.length ∧ a.length = c.length ∧ a.length = d.length
instance (a b c d : List (List Int)) : Decidable (packOk a b c d) := by
  unfold packOk
  infer_instance
def packV (a b c d : List (List Int)) : List (List Int) × Bool := if packOk a b c d then (tab (packF a b c d) a.length, true) else ([], false)
theorem pack_w {a b c d : List (List Int)} (h : packOk a b c d) {y x : Nat} (hy : y < a.length) (hx : x < 32) :
    wrap64 ((wrap64 ((wrap64 ((rd (rd_L1 a y) x) + (wrap64 (2 * (rd (rd_L1 b y) x))))) + (wrap64 (4 * (rd (rd_L1 c y) x))))) + (wrap64 (8 * (rd (rd_L1 d y) x)))) = packF a b c d y x ∧ (0 ≤ packF a b c d y x ∧ packF a b c d y x ≤ 15) := by
  have h1 := mat_dot h.1.1 hy hx
  have h2 := mat_dot h.1.2.1 (show y < b.length by rw [← h.2.1]; exact hy) hx
  have h3 := mat_dot h.1.2.2.1 (show y < c.length by rw [← h.2.2.1]; exact hy) hx
  have h4 := mat_dot h.1.2.2.2 (show y < d.length by rw [← h.2.2.2]; exact hy) hx
  unfold packF
  generalize rd (rd_L1 a y) x = A at *
  generalize rd (rd_L1 b y) x = B at *
  generalize rd (rd_L1 c y) x = C at *
  generalize rd (rd_L1 d y) x = D at *
  rw [w64 (n := 2 * B) (by omega) (by omega), w64 (n := 4 * C) (by omega) (by omega), w64 (n := 8 * D) (by omega) (by omega), w64 (n := A + 2 * B) (by omega) (by omega), w64 (n := A + 2 * B + 4 * C) (by omega) (by omega), w64 (by omega) (by omega)]
  omega
theorem packV_tiny (a b c d : List (List Int)) : tiny (packV a b c d).1 := by
  unfold packV
  split
  · rename_i h
    exact tab_tiny _ _ h.1.1.1
  · exact ⟨by simp, fun j hj => absurd hj (by simp)⟩
/-- What a step asks. -/
theorem pack_side {a b c d : List (List Int)} (h : packOk a b c d) {y x : Nat} (hy : y < a.length) (hx : x < 32) :
    ((0 : Int) ≤ y ∧ (y : Int) < (a.length : Int) ∧ (y : Int) < (b.length : Int) ∧ (y : Int) < (c.length : Int) ∧ (y : Int) < (d.length : Int)) ∧ ((0 : Int) ≤ x ∧ (x : Int) < 32 ∧ (x : Int) < ((rd_L1 a y).length : Int) ∧ (x : Int) < ((rd_L1 b y).length : Int) ∧ (x : Int) < ((rd_L1 c y).length : Int) ∧ (x : Int) < ((rd_L1 d y).length : Int)) := by
  have l1 := (h.1.1.2 y hy).1
  have l2 := (h.1.2.1.2 y (by rw [← h.2.1]; exact hy)).1
  have l3 := (h.1.2.2.1.2 y (by rw [← h.2.2.1]; exact hy)).1
  have l4 := (h.1.2.2.2.2 y (by rw [← h.2.2.2]; exact hy)).1
  have e1 := h.2.1
  have e2 := h.2.2.1
  have e3 := h.2.2.2
  rw [l1, l2, l3, l4]
  omega

theorem l01In_eq (a b c : Int) : spec_l01In.f a b c = some (decide (b ≤ a ∧ a ≤ c)) := by
  unfold spec_l01In.f
  by_cases h : a ≥ b
  · rw [if_pos h]
    simp [show b ≤ a from h]
  · rw [if_neg h]
    simp [show ¬ b ≤ a from h]

theorem spec_l11Row_l0 (a : List Int) (hn : a.length ≤ 1099511627776) :
    ∀ d i : Nat, i + d = a.length → (∀ j : Nat, j < i → 0 ≤ rd a j ∧ rd a j ≤ 255) → Ev (fun k => spec_l11Row.l0 k a i) (decide (rowP 255 a))
  | 0, i, h, hj => by
    refine Ev.step (f := fun _ => some ((a.length : Int) == 32)) (fun k => ?_) ?_
    · simp only [spec_l11Row.l0]
      rw [if_neg (by omega)]
    · rw [show ((a.length : Int) == 32) = decide (rowP 255 a) from by
        rw [Bool.eq_iff_iff]
        simp only [beq_iff_eq, decide_eq_true_eq]
        exact ⟨fun q => ⟨by omega, fun j h1 => hj j (by omega)⟩, fun q => by rw [q.1]; rfl⟩]
      exact Ev.now _
  | d + 1, i, h, hj => by
    by_cases c : 0 ≤ rd a i ∧ rd a i ≤ 255
    · refine Ev.step (f := fun k => spec_l11Row.l0 k a ((i + 1 : Nat) : Int)) (fun k => ?_) (spec_l11Row_l0 a hn d (i + 1) (by omega) (fun j h1 => ?_))
      · simp only [spec_l11Row.l0, l01In_eq, Option.bind_some]
        rw [if_pos (by omega), if_pos (by omega), if_pos (decide_eq_true c), wsucc (by omega)]
      · by_cases e : j = i
        · subst e
          exact c
        · exact hj j (by omega)
    · refine Ev.step (f := fun _ => some false) (fun k => ?_) ?_
      · simp only [spec_l11Row.l0, l01In_eq, Option.bind_some]
        rw [if_pos (by omega), if_pos (by omega), if_neg (by simp only [decide_eq_true_eq]; exact c)]
      · rw [decide_eq_false (show ¬ rowP 255 a from fun h3 => c (h3.2 i (by omega)))]
        exact Ev.now _
theorem spec_l11Row_ev (a : List Int) (hn : a.length ≤ 1099511627776) : Ev (fun k => spec_l11Row.f k a) (decide (rowP 255 a)) :=
  spec_l11Row_l0 a hn a.length 0 (by omega) (fun j h => by omega)
theorem spec_RowsOk_l0 (m : List (List Int)) (hs : small m) :
    ∀ d i : Nat, i + d = m.length → (∀ j : Nat, j < i → rowP 255 (rd_L1 m j)) → Ev (fun k => spec_RowsOk.l0 k m i) (decide (mat 255 m))
  | 0, i, h, hj => by
    refine Ev.step (f := fun _ => some (decide ((m.length : Int) ≤ 32))) (fun k => ?_) ?_
    · simp only [spec_RowsOk.l0]
      rw [if_neg (by omega)]
    · rw [show decide ((m.length : Int) ≤ 32) = decide (mat 255 m) from decide_eq_decide.mpr ⟨fun q => ⟨by omega, fun j h1 => hj j (by omega)⟩, fun q => by have := q.1; omega⟩]
      exact Ev.now _
  | d + 1, i, h, hj => by
    have hn := hs.1
    refine Ev.step (f := fun k => (spec_l11Row.f k (rd_L1 m i)).bind fun t => if t = true then spec_RowsOk.l0 k m ((i + 1 : Nat) : Int) else some false) (fun k => ?_) ((spec_l11Row_ev (rd_L1 m i) (hs.2 i (by omega))).bind ?_)
    · simp only [spec_RowsOk.l0]
      rw [if_pos (by omega), if_pos (by omega), wsucc (by omega)]
    · by_cases c : rowP 255 (rd_L1 m i)
      · refine ev_pos (decide_eq_true c) (spec_RowsOk_l0 m hs d (i + 1) (by omega) (fun j h1 => ?_))
        by_cases e : j = i
        · subst e
          exact c
        · exact hj j (by omega)
      · rw [decide_eq_false (show ¬ mat 255 m from fun h3 => c (h3.2 i (by omega)))]
        exact ev_neg (by simp [c]) (Ev.now _)
theorem spec_RowsOk_ev (m : List (List Int)) (hs : small m) : Ev (fun k => spec_RowsOk.f k m) (decide (mat 255 m)) :=
  spec_RowsOk_l0 m hs m.length 0 (by omega) (fun j h => by omega)

theorem spec_BitsOk_l1 (m : List (List Int)) (hs : small m) (y : Nat) (hy : y < m.length) (R : Bool) :
    ∀ d i : Nat, i + d = (rd_L1 m y).length → (∀ j : Nat, j < i → 0 ≤ rd (rd_L1 m y) j ∧ rd (rd_L1 m y) j ≤ 1) → ((∀ j : Nat, j < (rd_L1 m y).length → 0 ≤ rd (rd_L1 m y) j ∧ rd (rd_L1 m y) j ≤ 1) → Ev (fun k => spec_BitsOk.l0 k m (wrap64 ((y : Int) + 1))) R) → (¬ rowP 1 (rd_L1 m y) → R = false) →
      Ev (fun k => spec_BitsOk.l1 k m y i) R
  | 0, i, h, hj, h1, h2 => by
    refine Ev.step (fun k => ?_) (h1 fun j hj2 => hj j (by omega))
    simp only [spec_BitsOk.l1]
    rw [if_pos (by omega), if_pos (by omega), if_neg (by omega)]
  | d + 1, i, h, hj, h1, h2 => by
    have hl := hs.2 y hy
    by_cases c : 0 ≤ rd (rd_L1 m y) i ∧ rd (rd_L1 m y) i ≤ 1
    · refine Ev.step (fun k => ?_) (spec_BitsOk_l1 m hs y hy R d (i + 1) (by omega) (fun j hj2 => ?_) h1 h2)
      · simp only [spec_BitsOk.l1, l01In_eq, Option.bind_some]
        rw [if_pos (by omega), if_pos (by omega), if_pos (by omega), if_pos (by omega), if_pos (decide_eq_true c), wsucc (by omega)]
      · by_cases e : j = i
        · subst e
          exact c
        · exact hj j (by omega)
    · rw [h2 fun q => c (q.2 i (by omega))]
      refine Ev.step (f := fun _ => some false) (fun k => ?_) (Ev.now _)
      simp only [spec_BitsOk.l1, l01In_eq, Option.bind_some]
      rw [if_pos (by omega), if_pos (by omega), if_pos (by omega), if_pos (by omega), if_neg (by simp only [decide_eq_true_eq]; exact c)]
theorem spec_BitsOk_l0 (m : List (List Int)) (hs : small m) : ∀ d i : Nat, i + d = m.length → (∀ j : Nat, j < i → ∀ x : Nat, x < (rd_L1 m j).length → 0 ≤ rd (rd_L1 m j) x ∧ rd (rd_L1 m j) x ≤ 1) → Ev (fun k => spec_BitsOk.l0 k m i) (decide (mat 1 m))
  | 0, i, h, hj => by
    refine Ev.step (f := fun k => (spec_RowsOk.f k m).bind fun t => some t) (fun k => ?_) ((spec_RowsOk_ev m hs).bind ?_)
    · simp only [spec_BitsOk.l0]
      rw [if_neg (by omega)]
    · rw [show decide (mat 255 m) = decide (mat 1 m) from decide_eq_decide.mpr ⟨fun q => ⟨q.1, fun j h1 => ⟨(q.2 j h1).1, fun x hx => hj j (by omega) x hx⟩⟩, fun q => mat_mono (by omega) q⟩]
      exact Ev.now _
  | d + 1, i, h, hj => by
    have hn := hs.1
    refine Ev.step (f := fun k => spec_BitsOk.l1 k m i 0) (fun k => ?_) (spec_BitsOk_l1 m hs i (by omega) _ (rd_L1 m i).length 0 (by omega) (fun j h1 => by omega) (fun hr => ?_) (fun hr => decide_eq_false fun q => hr (q.2 i (by omega))))
    · simp only [spec_BitsOk.l0]
      rw [if_pos (by omega)]
    · rw [wsucc (by omega)]
      refine spec_BitsOk_l0 m hs d (i + 1) (by omega) (fun j h1 => ?_)
      by_cases e : j = i
      · subst e
        exact hr
      · exact hj j (by omega)
theorem spec_BitsOk_ev (m : List (List Int)) (hs : small m) : Ev (fun k => spec_BitsOk.f k m) (decide (mat 1 m)) :=
  spec_BitsOk_l0 m hs m.length 0 (by omega) (fun j h => by omega)

theorem spec_Pack_l1 (R : List (List Int) × Bool) (a b c d : List (List Int)) (h : packOk a b c d) (y : Nat) (hy : y < a.length) (acc : List (List Int)) (ha : acc.length ≤ 32) : ∀ n x : Nat, x + n = 32 → Ev (fun k => spec_PackPlanes.l0 k a b c d (acc ++ [tabRow (packF a b c d) y 32]) (wrap64 ((y : Int) + 1))) R → Ev (fun k => spec_PackPlanes.l1 k a b c d acc y (tabRow (packF a b c d) y x) x) R
  | 0, x, hd, e => by
    obtain rfl : x = 32 := by omega
    refine Ev.step (fun k => ?_) e
    simp only [spec_PackPlanes.l1]
    rw [if_neg (by omega), if_pos (by omega)]
  | n + 1, x, hd, e => by
    have hx : x < 32 := by omega
    have q2 : (tabRow (packF a b c d) y x).length < 17592186044416 := by rw [tabRow_length]; omega
    have w5 : wrap64 ((x : Int) + 1) = ((x + 1 : Nat) : Int) := wsucc (by omega)
    obtain ⟨⟨s0, s1, s2, s3, s4⟩, s5, s6, s7, s8, s9, s10⟩ := pack_side h hy hx
    have hv := (pack_w h hy hx).1
    have ih := spec_Pack_l1 R a b c d h y hy acc ha n (x + 1) (by omega) e
    rw [tabRow_snoc] at ih
    refine Ev.step (fun k => ?_) ih
    simp only [spec_PackPlanes.l1, hv, w5]
    rw [if_pos s6, if_pos s0, if_pos s1, if_pos s5, if_pos s7, if_pos s2, if_pos s8, if_pos s3, if_pos s9, if_pos s4, if_pos s10, if_pos q2]
theorem spec_Pack_l0 (a b c d : List (List Int)) (h : packOk a b c d) : ∀ n y : Nat, y + n = a.length → Ev (fun k => spec_PackPlanes.l0 k a b c d (tab (packF a b c d) y) y) (tab (packF a b c d) a.length, true)
  | 0, y, hd => by
    obtain rfl : y = a.length := by omega
    refine Ev.step (f := fun _ => some (tab (packF a b c d) a.length, true)) (fun k => ?_) (Ev.now _)
    simp only [spec_PackPlanes.l0]
    rw [if_neg (by omega)]
  | n + 1, y, hd => by
    have hn := h.1.1.1
    refine Ev.step (f := fun k => spec_PackPlanes.l1 k a b c d (tab (packF a b c d) y) y (tabRow (packF a b c d) y 0) (0 : Nat)) (fun k => ?_) (spec_Pack_l1 _ a b c d h y (by omega) _ (by rw [tab_length]; omega) 32 0 (by omega) ?_)
    · simp only [spec_PackPlanes.l0]
      rw [if_pos (by omega)]
      rfl
    · rw [wsucc (by omega), ← tab_snoc]
      exact spec_Pack_l0 a b c d h n (y + 1) (by omega)
theorem spec_Pack_ev (a b c d : List (List Int)) (ht : small a) (ht2 : small b) (ht3 : small c) (ht4 : small d) : Ev (fun k => spec_PackPlanes.f k a b c d) (packV a b c d) := by
  have stop : ¬ packOk a b c d → Ev (fun k => spec_PackPlanes.j0 k a b c d [] true) (packV a b c d) := fun n => by
    unfold packV
    rw [if_neg n]
    refine Ev.step (f := fun _ => some ([], false)) (fun k => ?_) (Ev.now _)
    simp only [spec_PackPlanes.j0]
    rfl
  unfold spec_PackPlanes.f
  simp only [Option.bind_some]
  refine (spec_BitsOk_ev a ht).bind ?_
  by_cases c1 : mat 1 a
  · refine ev_pos (decide_eq_true c1) ((spec_BitsOk_ev b ht2).bind ?_)
    by_cases c2 : mat 1 b
    · refine ev_pos (decide_eq_true c2) ((spec_BitsOk_ev c ht3).bind ?_)
      by_cases c3 : mat 1 c
      · refine ev_pos (decide_eq_true c3) ((spec_BitsOk_ev d ht4).bind ?_)
        by_cases c4 : mat 1 d
        · refine ev_pos (decide_eq_true c4) ?_
          by_cases c5 : a.length = b.length
          · refine ev_pos (by omega) ?_
            by_cases c6 : a.length = c.length
            · refine ev_pos (by omega) ?_
              by_cases c7 : a.length = d.length
              · have ok : packOk a b c d := ⟨⟨c1, c2, c3, c4⟩, c5, c6, c7⟩
                have e3 : ((a.length : Int) != (d.length : Int)) = false := by rw [c7]; simp
                unfold packV
                rw [if_pos ok, e3]
                refine Ev.step (f := fun k => spec_PackPlanes.l0 k a b c d [] 0) (fun k => ?_) (spec_Pack_l0 a b c d ok a.length 0 (by omega))
                simp only [spec_PackPlanes.j0]
                rfl
              · have e3 : ((a.length : Int) != (d.length : Int)) = true := by simp; omega
                rw [e3]
                exact stop (fun q => c7 q.2.2.2)
            · exact ev_neg (by omega) (stop (fun q => c6 q.2.2.1))
          · exact ev_neg (by omega) (stop (fun q => c5 q.2.1))
        · exact ev_neg (by simp [c4]) (stop (fun q => c4 q.1.2.2.2))
      · exact ev_neg (by simp [c3]) (stop (fun q => c3 q.1.2.2.1))
    · exact ev_neg (by simp [c2]) (stop (fun q => c2 q.1.2.1))
  · exact ev_neg (by simp [c1]) (stop (fun q => c1 q.1.1))

theorem within_eq (a b c : Int) : impl_within.f a b c = some (decide (b ≤ a ∧ a ≤ c)) := by
  unfold impl_within.f
  by_cases h : a ≥ b
  · rw [if_pos h]
    simp [show b ≤ a from h]
  · rw [if_neg h]
    simp [show ¬ b ≤ a from h]

theorem impl_rowOk_l0 (a : List Int) (hn : a.length = 32) :
    ∀ d i : Nat, i + d = a.length → (∀ j : Nat, j < i → 0 ≤ rd a j ∧ rd a j ≤ 255) → Ev (fun k => impl_rowOk.l0 k a (a.length : Int) i) (decide (rowP 255 a))
  | 0, i, h, hj => by
    refine Ev.step (f := fun _ => some true) (fun k => ?_) ?_
    · simp only [impl_rowOk.l0]
      rw [if_neg (by omega)]
    · rw [decide_eq_true (show rowP 255 a from ⟨hn, fun j h1 => hj j (by omega)⟩)]
      exact Ev.now _
  | d + 1, i, h, hj => by
    by_cases c : 0 ≤ rd a i ∧ rd a i ≤ 255
    · refine Ev.step (f := fun k => impl_rowOk.l0 k a (a.length : Int) ((i + 1 : Nat) : Int)) (fun k => ?_) (impl_rowOk_l0 a hn d (i + 1) (by omega) (fun j h1 => ?_))
      · simp only [impl_rowOk.l0, within_eq, Option.bind_some]
        rw [if_pos (by omega), if_pos (by omega), if_pos (by omega), if_pos (decide_eq_true c), wsucc (by omega)]
      · by_cases e : j = i
        · subst e
          exact c
        · exact hj j (by omega)
    · refine Ev.step (f := fun _ => some false) (fun k => ?_) ?_
      · simp only [impl_rowOk.l0, within_eq, Option.bind_some]
        rw [if_pos (by omega), if_pos (by omega), if_pos (by omega), if_neg (by simp only [decide_eq_true_eq]; exact c)]
      · rw [decide_eq_false (show ¬ rowP 255 a from fun h3 => c (h3.2 i (by omega)))]
        exact Ev.now _
theorem impl_rowOk_ev (a : List Int) : Ev (fun k => impl_rowOk.f k a) (decide (rowP 255 a)) := by
  unfold impl_rowOk.f
  by_cases c : (a.length : Int) = 32
  · exact ev_pos c (impl_rowOk_l0 a (by omega) a.length 0 (by omega) (fun j h => by omega))
  · rw [decide_eq_false (show ¬ rowP 255 a from fun h => by have := h.1; omega)]
    exact ev_neg c (Ev.now _)
theorem impl_RowsOk_l0 (m : List (List Int)) (hn : m.length ≤ 32) :
    ∀ d i : Nat, i + d = m.length → (∀ j : Nat, j < i → rowP 255 (rd_L1 m j)) → Ev (fun k => impl_RowsOk.l0 k m (m.length : Int) i) (decide (mat 255 m))
  | 0, i, h, hj => by
    refine Ev.step (f := fun _ => some true) (fun k => ?_) ?_
    · simp only [impl_RowsOk.l0]
      rw [if_neg (by omega)]
    · rw [decide_eq_true (show mat 255 m from ⟨hn, fun j h1 => hj j (by omega)⟩)]
      exact Ev.now _
  | d + 1, i, h, hj => by
    refine Ev.step (f := fun k => (impl_rowOk.f k (rd_L1 m i)).bind fun t => if t = true then impl_RowsOk.l0 k m (m.length : Int) ((i + 1 : Nat) : Int) else some false) (fun k => ?_) ((impl_rowOk_ev (rd_L1 m i)).bind ?_)
    · simp only [impl_RowsOk.l0]
      rw [if_pos (by omega), if_pos (by omega), if_pos (by omega), wsucc (by omega)]
    · by_cases c : rowP 255 (rd_L1 m i)
      · refine ev_pos (decide_eq_true c) (impl_RowsOk_l0 m hn d (i + 1) (by omega) (fun j h1 => ?_))
        by_cases e : j = i
        · subst e
          exact c
        · exact hj j (by omega)
      · rw [decide_eq_false (show ¬ mat 255 m from fun h3 => c (h3.2 i (by omega)))]
        exact ev_neg (by simp [c]) (Ev.now _)
theorem impl_RowsOk_ev (m : List (List Int)) : Ev (fun k => impl_RowsOk.f k m) (decide (mat 255 m)) := by
  unfold impl_RowsOk.f
  by_cases c : (m.length : Int) > 32
  · rw [decide_eq_false (show ¬ mat 255 m from fun h => by have := h.1; omega)]
    exact ev_pos c (Ev.now _)
  · exact ev_neg c (impl_RowsOk_l0 m (by omega) m.length 0 (by omega) (fun j h => by omega))

theorem impl_BitsOk_l1 (m : List (List Int)) (h255 : mat 255 m) (y : Nat) (hy : y < m.length) (R : Bool) :
    ∀ d i : Nat, i + d = (rd_L1 m y).length → (∀ j : Nat, j < i → rd (rd_L1 m y) j ≤ 1) → (rowP 1 (rd_L1 m y) → Ev (fun k => impl_BitsOk.l0 k m (m.length : Int) (wrap64 ((y : Int) + 1))) R) → (¬ rowP 1 (rd_L1 m y) → R = false) →
      Ev (fun k => impl_BitsOk.l1 k m (m.length : Int) y (rd_L1 m y) ((rd_L1 m y).length : Int) i) R
  | 0, i, h, hj, h1, h2 => by
    have hr := h255.2 y hy
    refine Ev.step (fun k => ?_) (h1 ⟨hr.1, fun j hj2 => ⟨(hr.2 j hj2).1, hj j (by omega)⟩⟩)
    simp only [impl_BitsOk.l1]
    rw [if_neg (by omega)]
  | d + 1, i, h, hj, h1, h2 => by
    have hr := h255.2 y hy
    have hl := hr.1
    by_cases c : rd (rd_L1 m y) i > 1
    · rw [h2 fun q => by have := (q.2 i (by omega)).2; omega]
      refine Ev.step (f := fun _ => some false) (fun k => ?_) (Ev.now _)
      simp only [impl_BitsOk.l1]
      rw [if_pos (by omega), if_pos (by omega), if_pos (by omega), if_pos c]
    · refine Ev.step (fun k => ?_) (impl_BitsOk_l1 m h255 y hy R d (i + 1) (by omega) (fun j hj2 => ?_) h1 h2)
      · simp only [impl_BitsOk.l1]
        rw [if_pos (by omega), if_pos (by omega), if_pos (by omega), if_neg c, wsucc (by omega)]
      · by_cases e : j = i
        · subst e
          omega
        · exact hj j (by omega)
theorem impl_BitsOk_l0 (m : List (List Int)) (h255 : mat 255 m) : ∀ d i : Nat, i + d = m.length → (∀ j : Nat, j < i → rowP 1 (rd_L1 m j)) → Ev (fun k => impl_BitsOk.l0 k m (m.length : Int) i) (decide (mat 1 m))
  | 0, i, h, hj => by
    have hn := h255.1
    refine Ev.step (f := fun _ => some true) (fun k => ?_) ?_
    · simp only [impl_BitsOk.l0]
      rw [if_neg (by omega)]
    · rw [decide_eq_true (show mat 1 m from ⟨hn, fun j h1 => hj j (by omega)⟩)]
      exact Ev.now _
  | d + 1, i, h, hj => by
    have hn := h255.1
    refine Ev.step (f := fun k => impl_BitsOk.l1 k m (m.length : Int) i (rd_L1 m i) ((rd_L1 m i).length : Int) 0) (fun k => ?_) (impl_BitsOk_l1 m h255 i (by omega) _ (rd_L1 m i).length 0 (by omega) (fun j h1 => by omega) (fun hr => ?_) (fun hr => decide_eq_false fun q => hr (q.2 i (by omega))))
    · simp only [impl_BitsOk.l0]
      rw [if_pos (by omega), if_pos (by omega), if_pos (by omega)]
    · rw [wsucc (by omega)]
      refine impl_BitsOk_l0 m h255 d (i + 1) (by omega) (fun j h1 => ?_)
      by_cases e : j = i
      · subst e
        exact hr
      · exact hj j (by omega)
theorem impl_BitsOk_ev (m : List (List Int)) : Ev (fun k => impl_BitsOk.f k m) (decide (mat 1 m)) := by
  unfold impl_BitsOk.f
  refine (impl_RowsOk_ev m).bind ?_
  by_cases c : mat 255 m
  · exact ev_pos (decide_eq_true c) (impl_BitsOk_l0 m c m.length 0 (by omega) (fun j h => by omega))
  · rw [decide_eq_false (show ¬ mat 1 m from fun h => c (mat_mono (by omega) h))]
    exact ev_neg (by simp [c]) (Ev.now _)

theorem impl_copyRows_l0 (m : List (List Int)) (hs : small m) (hm : m.length ≤ 1048576) : ∀ d i : Nat, i + d = m.length → Ev (fun k => impl_copyRows.l0 k (m.take i) m (m.length : Int) i) m
  | 0, i, h => by
    refine Ev.step (f := fun _ => some m) (fun k => ?_) (Ev.now _)
    simp only [impl_copyRows.l0]
    rw [if_neg (by omega), List.take_of_length_le (show m.length ≤ i by omega)]
  | d + 1, i, h => by
    have hl := hs.2 i (by omega)
    refine Ev.step (fun k => ?_) (impl_copyRows_l0 m hs hm d (i + 1) (by omega))
    have e : slices_Clone_int_int.f (rd_L1 m i) = some (rd_L1 m i) := by
      unfold slices_Clone_int_int.f
      rw [if_pos (by omega)]
    simp only [impl_copyRows.l0, e, Option.bind_some]
    rw [if_pos (by omega), if_pos (by omega), if_pos (by omega), if_pos (by rw [List.length_take]; omega), wsucc (by omega), List.take_succ_eq_append_getElem (show i < m.length by omega), rows_mem (by omega)]
theorem impl_copyRows_ev (m : List (List Int)) (hs : tiny m) : Ev (fun k => impl_copyRows.f k m) m := by
  have := impl_copyRows_l0 m (tiny_small hs) hs.1 m.length 0 (by omega)
  unfold impl_copyRows.f
  simpa using this

theorem impl_Pack_l1 (R : List (List Int) × Bool) (a b c d : List (List Int)) (h : packOk a b c d) (y : Nat) (hy : y < a.length) : ∀ n x : Nat, x + n = 32 → Ev (fun k => impl_PackPlanes.l0 k a b c d (tab (packF a b c d) y ++ tabRow (packF a b c d) y 32 :: a.drop (y + 1)) (a.length : Int) (wrap64 ((y : Int) + 1))) R → Ev (fun k => impl_PackPlanes.l1 k a b c d (tab (packF a b c d) y ++ (tabRow (packF a b c d) y x ++ (rd_L1 a y).drop x) :: a.drop (y + 1)) y (a.length : Int) y 32 x) R
  | 0, x, hd, e => by
    have hl := (h.1.1.2 y hy).1
    obtain rfl : x = 32 := by omega
    refine Ev.step (fun k => ?_) e
    simp only [impl_PackPlanes.l1]
    rw [if_neg (by omega), List.drop_of_length_le (by omega), List.append_nil]
  | n + 1, x, hd, e => by
    have hx : x < 32 := by omega
    have hl := (h.1.1.2 y hy).1
    have hn := h.1.1.1
    have hd1 := dots_drop (rd_L1 a y) (i := x) (by omega)
    have q1 : (y : Int) < ((tab (packF a b c d) y ++ (tabRow (packF a b c d) y x ++ (rd_L1 a y).drop x) :: a.drop (y + 1)).length : Int) := by simp only [List.length_append, List.length_cons, List.length_drop, tab_length]; omega
    have q2 : (x : Int) < ((tabRow (packF a b c d) y x ++ (rd_L1 a y).drop x).length : Int) := by simp only [List.length_append, List.length_drop, tabRow_length]; omega
    have w5 : wrap64 ((x : Int) + 1) = ((x + 1 : Nat) : Int) := wsucc (by omega)
    obtain ⟨⟨s0, s1, s2, s3, s4⟩, s5, s6, s7, s8, s9, s10⟩ := pack_side h hy hx
    have hv := (pack_w h hy hx).1
    have ih := impl_Pack_l1 R a b c d h y hy n (x + 1) (by omega) e
    rw [tabRow_snoc, List.append_assoc, List.singleton_append] at ih
    refine Ev.step (fun k => ?_) ih
    simp only [impl_PackPlanes.l1, hv, w5]
    rw [if_pos s6, if_pos s0, if_pos q1, if_pos s1, if_pos s5, if_pos s7, if_pos s2, if_pos s8, if_pos s3, if_pos s9, if_pos s4, if_pos s10, rows_mid _ _ _ _ (tab_length _ _), if_pos q2, Int.toNat_natCast, Int.toNat_natCast, hd1, set_mid _ _ _ _ _ (tabRow_length _ _ _), set_midL _ _ _ _ _ (tab_length _ _)]
theorem impl_Pack_l0 (a b c d : List (List Int)) (h : packOk a b c d) : ∀ n y : Nat, y + n = a.length → Ev (fun k => impl_PackPlanes.l0 k a b c d (tab (packF a b c d) y ++ a.drop y) (a.length : Int) y) (tab (packF a b c d) a.length, true)
  | 0, y, hd => by
    obtain rfl : y = a.length := by omega
    refine Ev.step (f := fun _ => some (tab (packF a b c d) a.length, true)) (fun k => ?_) (Ev.now _)
    simp only [impl_PackPlanes.l0]
    rw [if_neg (by omega), List.drop_of_length_le (by omega), List.append_nil]
  | n + 1, y, hd => by
    have hn := h.1.1.1
    have hl := (h.1.1.2 y (by omega)).1
    refine Ev.step (f := fun k => impl_PackPlanes.l1 k a b c d (tab (packF a b c d) y ++ (tabRow (packF a b c d) y 0 ++ (rd_L1 a y).drop 0) :: a.drop (y + 1)) y (a.length : Int) y 32 (0 : Nat)) (fun k => ?_) (impl_Pack_l1 _ a b c d h y (by omega) 32 0 (by omega) ?_)
    · simp only [impl_PackPlanes.l0]
      rw [if_pos (by omega), if_pos (by omega), if_pos (by simp only [List.length_append, List.length_drop, tab_length]; omega), rows_drop a (by omega), rows_mid _ _ _ _ (tab_length _ _), hl]
      rfl
    · have e : tab (packF a b c d) y ++ tabRow (packF a b c d) y 32 :: a.drop (y + 1) = tab (packF a b c d) (y + 1) ++ a.drop (y + 1) := by rw [tab_snoc, List.append_assoc]; rfl
      rw [wsucc (by omega), e]
      exact impl_Pack_l0 a b c d h n (y + 1) (by omega)
theorem impl_Pack_chk (c : List (List Int)) : ∀ q : List (List (List Int)), Ev (fun k => impl_PackPlanes.chk k c q) (decide (∀ p ∈ q, mat 1 p ∧ p.length = c.length))
  | [] => by
    rw [decide_eq_true (by simp)]
    exact Ev.now _
  | p :: q => by
    show Ev (fun k => (impl_BitsOk.f k p).bind fun t => if t = true then (if (p.length : Int) = (c.length : Int) then impl_PackPlanes.chk k c q else some false) else some false) _
    refine (impl_BitsOk_ev p).bind ?_
    by_cases c1 : mat 1 p
    · refine ev_pos (decide_eq_true c1) ?_
      by_cases c2 : p.length = c.length
      · refine ev_pos (by omega) ?_
        have e : decide (∀ r ∈ p :: q, mat 1 r ∧ r.length = c.length) = decide (∀ r ∈ q, mat 1 r ∧ r.length = c.length) := by
          rw [Bool.eq_iff_iff]
          simp only [decide_eq_true_eq, List.mem_cons]
          exact ⟨fun g r hr => g r (.inr hr), fun g r hr => hr.elim (fun z => z ▸ ⟨c1, c2⟩) (g r)⟩
        rw [e]
        exact impl_Pack_chk c q
      · rw [decide_eq_false (fun g => c2 (g p List.mem_cons_self).2)]
        exact ev_neg (by omega) (Ev.now _)
    · rw [decide_eq_false (p := ∀ r ∈ p :: q, mat 1 r ∧ r.length = c.length) (fun g => c1 (g p List.mem_cons_self).1)]
      exact ev_neg (by simp [c1]) (Ev.now _)
theorem impl_Pack_ev (a b c d : List (List Int)) (ht : tiny a) : Ev (fun k => impl_PackPlanes.f k a b c d) (packV a b c d) := by
  unfold impl_PackPlanes.f packV
  refine (impl_Pack_chk a [a, b, c, d]).bind ?_
  by_cases h : packOk a b c d
  · have g : ∀ p ∈ [a, b, c, d], mat 1 p ∧ p.length = a.length := by
      intro p hp
      simp only [List.mem_cons, List.not_mem_nil, or_false] at hp
      rcases hp with rfl | rfl | rfl | rfl
      · exact ⟨h.1.1, rfl⟩
      · exact ⟨h.1.2.1, h.2.1.symm⟩
      · exact ⟨h.1.2.2.1, h.2.2.1.symm⟩
      · exact ⟨h.1.2.2.2, h.2.2.2.symm⟩
    rw [if_pos h]
    refine ev_pos (decide_eq_true g) ?_
    unfold impl_PackPlanes.g
    exact (impl_copyRows_ev a ht).bind (impl_Pack_l0 a b c d h a.length 0 (by omega))
  · have g : ¬ ∀ p ∈ [a, b, c, d], mat 1 p ∧ p.length = a.length := fun q => h ⟨⟨(q a (by simp)).1, (q b (by simp)).1, (q c (by simp)).1, (q d (by simp)).1⟩, (q b (by simp)).2.symm, (q c (by simp)).2.symm, (q d (by simp)).2.symm⟩
    rw [if_neg h]
    exact ev_neg (by simp only [decide_eq_true_eq]; exact g) (Ev.now _)

theorem FnExactPackPlanes : FnExactPackPlanesPure := by
  intro a b c d hm hw hm2 hw2 hm3 hw3 hm4 hw4
  refine Ev.rounds ?_
  unfold laws_FnExactPackPlanes.f
  obtain ⟨r, e, h⟩ := szIntSS_ev a 1048576 (by omega) (by omega) hm (fun r hr => (hw r hr).1)
  refine e.bind ?_
  rcases h with h | ⟨h0, h1, ht⟩
  · exact ev_pos h (Ev.now _)
  refine ev_neg (by omega) ?_
  obtain ⟨r2, e2, h2⟩ := szIntSS_ev b r h0 h1 hm2 (fun r hr => (hw2 r hr).1)
  refine e2.bind ?_
  rcases h2 with h2 | ⟨h20, h21, ht2⟩
  · exact ev_pos h2 (Ev.now _)
  refine ev_neg (by omega) ?_
  obtain ⟨r3, e3, h3⟩ := szIntSS_ev c r2 h20 (by omega) hm3 (fun r hr => (hw3 r hr).1)
  refine e3.bind ?_
  rcases h3 with h3 | ⟨h30, h31, ht3⟩
  · exact ev_pos h3 (Ev.now _)
  refine ev_neg (by omega) ?_
  obtain ⟨r4, e4, h4⟩ := szIntSS_ev d r3 h30 (by omega) hm4 (fun r hr => (hw4 r hr).1)
  refine e4.bind ?_
  rcases h4 with h4 | ⟨h40, h41, ht4⟩
  · exact ev_pos h4 (Ev.now _)
  refine ev_neg (by omega) ?_
  have t := toIntSS_ev a ht
  have t2 := toIntSS_ev b ht2
  have t3 := toIntSS_ev c ht3
  have t4 := toIntSS_ev d ht4
  have q1 := total_tiny ht
  have q2 := total_tiny ht2
  have q3 := total_tiny ht3
  have q4 := total_tiny ht4
  have e1 := spec_Pack_ev a b c d (tiny_small ht) (tiny_small ht2) (tiny_small ht3) (tiny_small ht4)
  have e2 := impl_Pack_ev a b c d ht
  have hVt := packV_tiny a b c d
  generalize packV a b c d = V at e1 e2 hVt
  obtain ⟨V, B⟩ := V
  have hVt : tiny V := hVt
  have hVs : small V := tiny_small hVt
  have hVT : total V ≤ 1099511627776 := total_tiny hVt
  have eq := eqIntSS_ev V hVs
  refine t.bind (t2.bind (t3.bind (t4.bind (e1.bind (t.bind (t2.bind (t3.bind (t4.bind (e2.bind (eq.bind (ev_pos rfl (ev_neg (by simp) ?_))))))))))))
  refine t.bind ((eqIntSS_ev a (tiny_small ht)).bind (ev_pos rfl (t2.bind ((eqIntSS_ev b (tiny_small ht2)).bind (ev_pos rfl (t3.bind ((eqIntSS_ev c (tiny_small ht3)).bind (ev_pos rfl (t4.bind ((eqIntSS_ev d (tiny_small ht4)).bind (ev_pos rfl ?_)))))))))))
  refine (markIntSS_ev a 1 (tiny_small ht).1 (by omega)).bind ((markIntSS_ev b (1 + total a) (tiny_small ht2).1 (by omega)).bind ((markIntSS_ev c (1 + total a + total b) (tiny_small ht3).1 (by omega)).bind ((markIntSS_ev d (1 + total a + total b + total c) (tiny_small ht4).1 (by omega)).bind (ev_neg (by omega) (eq.bind (ev_pos rfl (ev_neg (by simp) ?_)))))))
  have held := heldIntSS_ev V 1 hVs.1 (by omega)
  refine (markIntSS_ev V 1 hVs.1 (by omega)).bind (held.bind (ev_neg (by omega) (ev_pos rfl ?_)))
  exact t.bind (t2.bind (t3.bind (t4.bind (e2.bind (eq.bind (ev_pos rfl (ev_neg (by simp) (held.bind (ev_neg (by omega) (ev_pos rfl (Ev.now _)))))))))))

end Go.Proofs.Ytophklfiooklbaa.Pure
