/-
  The program's PrepaintBands gives the reference's bands for every list of ints and every timing, in memory of its own, and leaves the list as it was.
-/
import Derived.Test.YtcjkndcmeedneaaPFnExactPrepaintBandsx3
import Derived.Test.YtcjkndcmeedneaaWSized
import Derived.Test.YtcjkndcmeedneaaOpenFnExactPrepaintBands
namespace Go.Proofs.Ytcjkndcmeedneaa.Pure
open Go.RowKit Go.Proofs.Ytcjkndcmeedneaa.PFnExactPrepaintBands Go.Proofs.YtcjkndcmeedneaaW.PrintWords Go.Proofs.YtcjkndcmeedneaaW.PrintLast Go.Proofs.YtcjkndcmeedneaaW.PrintMore Go.Proofs.Ytcjkndcmeedneaa.OpenFnExactPrepaintBands
set_option linter.unusedVariables false
set_option linter.unusedSimpArgs false

theorem w64 {n : Int} (h1 : -9223372036854775808 ≤ n) (h2 : n ≤ 9223372036854775807) : wrap64 n = n := by
  unfold wrap64
  omega
theorem wsucc {i : Nat} (h : i ≤ 1099511627776) : wrap64 ((i : Int) + 1) = ((i + 1 : Nat) : Int) := by
  rw [w64 (by omega) (by omega)]
  omega
theorem rd_nat (l : List Int) (i : Nat) : rd l (i : Int) = l.getD i 0 := by simp [rd]
theorem getD_drop (l : List Int) (i : Nat) (h : i < l.length) : l.drop i = l.getD i 0 :: l.drop (i + 1) := by
  rw [List.drop_eq_getElem_cons h]
  simp [List.getD_eq_getElem?_getD, List.getElem?_eq_getElem h]
theorem getD_take (l : List Int) (i : Nat) (h : i < l.length) : l.take (i + 1) = l.take i ++ [l.getD i 0] := by
  rw [List.take_succ_eq_append_getElem h]
  simp [List.getD_eq_getElem?_getD, List.getElem?_eq_getElem h]
theorem set_mid (p q : List Int) (u v : Int) (i : Nat) (h : p.length = i) : (p ++ u :: q).set i v = p ++ v :: q := by
  subst h
  simp [List.set_append_right]
theorem bind_id {α : Type} {g : Nat → Option α} {r : α} (h : Ev g r) : Ev (fun n => (g n).bind fun x => some x) r := by
  obtain ⟨K, h⟩ := h
  exact ⟨K, fun k hk => by simp [h k hk]⟩
theorem ev_pos {α : Type} {c : Prop} [Decidable c] {f g : Nat → Option α} {r : α} (h : c) (k : Ev f r) : Ev (fun n => if c then f n else g n) r := Ev.congr (fun n => if_pos h) k
theorem ev_neg {α : Type} {c : Prop} [Decidable c] {f g : Nat → Option α} {r : α} (h : ¬ c) (k : Ev g r) : Ev (fun n => if c then f n else g n) r := Ev.congr (fun n => if_neg h) k
theorem ev_eq {α β : Type} {g : Option α} {f : Nat → α → Option β} {a : α} {r : β} (h : g = some a) (k : Ev (fun n => f n a) r) : Ev (fun n => g.bind (f n)) r := by
  subst h
  exact k
theorem td {v : Int} (h : 0 ≤ v) (c : Int) : Int.tdiv v c = v / c := Int.tdiv_eq_ediv_of_nonneg h
theorem tm {v : Int} (h : 0 ≤ v) (c : Int) : Int.tmod v c = v % c := Int.tmod_eq_emod_of_nonneg h

theorem eqIntS_l0 (a : List Int) (hn : a.length ≤ 1099511627776) :
    ∀ d i : Nat, i + d = a.length → Ev (fun k => laws_eqIntS.l0 k a a i) true
  | 0, i, h => by
    refine Ev.step (f := fun _ => some true) (fun k => ?_) (Ev.now _)
    simp only [laws_eqIntS.l0]
    rw [if_neg (by omega)]
  | d + 1, i, h => by
    refine Ev.step (f := fun k => laws_eqIntS.l0 k a a ((i + 1 : Nat) : Int)) (fun k => ?_) (eqIntS_l0 a hn d (i + 1) (by omega))
    simp only [laws_eqIntS.l0]
    rw [if_pos (by omega), if_pos (by omega), if_pos (by omega), if_pos trivial, wsucc (by omega)]
theorem eqIntS_ev (a : List Int) (hn : a.length ≤ 1099511627776) : Ev (fun k => laws_eqIntS.f k a a) true := by
  refine Ev.congr (f := fun k => laws_eqIntS.l0 k a a 0) (fun k => ?_) (eqIntS_l0 a hn a.length 0 (by omega))
  unfold laws_eqIntS.f
  rw [if_pos rfl]

theorem toIntS_l0 (a : List Int) (hn : a.length ≤ 1099511627776) :
    ∀ d i : Nat, i + d = a.length → Ev (fun k => laws_toIntS.l0 k a (a.take i ++ List.replicate d 0) i) a
  | 0, i, h => by
    refine Ev.step (f := fun _ => some a) (fun k => ?_) (Ev.now _)
    simp only [laws_toIntS.l0]
    rw [if_neg (by omega)]
    simp [List.take_of_length_le (show a.length ≤ i by omega)]
  | d + 1, i, h => by
    refine Ev.step (f := fun k => laws_toIntS.l0 k a (a.take (i + 1) ++ List.replicate d 0) ((i + 1 : Nat) : Int)) (fun k => ?_) (toIntS_l0 a hn d (i + 1) (by omega))
    simp only [laws_toIntS.l0]
    rw [if_pos (by omega), if_pos (by omega), if_pos (by simp; omega), wsucc (by omega), rd_nat, List.replicate_succ, Int.toNat_natCast, set_mid _ _ _ _ _ (by simp; omega), getD_take a i (by omega)]
    simp
theorem toIntS_ev (a : List Int) (hn : a.length ≤ 1099511627776) : Ev (fun k => laws_toIntS.f k a) a := by
  refine Ev.congr (f := fun k => laws_toIntS.l0 k a (a.take 0 ++ List.replicate a.length 0) 0) (fun k => ?_) (toIntS_l0 a hn a.length 0 (by omega))
  unfold laws_toIntS.f
  rw [if_pos (by omega), if_pos (by omega)]
  simp

def marks (c : Nat) : Nat → List Int
  | 0 => []
  | n + 1 => (c : Int) :: marks (c + 1) n
theorem marks_length (n : Nat) : ∀ c, (marks c n).length = n := by
  induction n with
  | zero => intro c; rfl
  | succ n ih => intro c; simp [marks, ih]
theorem marks_snoc (n : Nat) : ∀ c, marks c (n + 1) = marks c n ++ [((c + n : Nat) : Int)] := by
  induction n with
  | zero => intro c; simp [marks]
  | succ n ih =>
    intro c
    rw [marks, ih (c + 1), marks]
    simp
    omega
theorem marks_get (n : Nat) : ∀ c i, i < n → (marks c n).getD i 0 = ((c + i : Nat) : Int) := by
  induction n with
  | zero => intro c i h; omega
  | succ n ih =>
    intro c i h
    cases i with
    | zero => simp [marks]
    | succ i =>
      rw [marks, List.getD_cons_succ, ih (c + 1) i (by omega)]
      omega
theorem markIntS_l0 (a : List Int) (c : Nat) (hn : a.length + c ≤ 1099511627776) :
    ∀ d i : Nat, i + d = a.length → Ev (fun k => laws_markIntS.l0 k (marks c i ++ a.drop i) ((c + i : Nat) : Int) i) (((c + a.length : Nat) : Int), marks c a.length)
  | 0, i, h => by
    obtain rfl : i = a.length := by omega
    refine Ev.step (f := fun _ => some (((c + a.length : Nat) : Int), marks c a.length)) (fun k => ?_) (Ev.now _)
    simp only [laws_markIntS.l0]
    rw [if_neg (by simp [marks_length])]
    simp
  | d + 1, i, h => by
    refine Ev.step (f := fun k => laws_markIntS.l0 k (marks c (i + 1) ++ a.drop (i + 1)) ((c + (i + 1) : Nat) : Int) ((i + 1 : Nat) : Int)) (fun k => ?_) (markIntS_l0 a c hn d (i + 1) (by omega))
    simp only [laws_markIntS.l0]
    rw [if_pos (by simp [marks_length]; omega), if_pos (by omega), wsucc (by omega), wsucc (by omega), getD_drop a i (by omega), Int.toNat_natCast, set_mid _ _ _ _ _ (marks_length _ _), marks_snoc]
    simp [Nat.add_assoc]
theorem markIntS_ev (a : List Int) (c : Nat) (hn : a.length + c ≤ 1099511627776) : Ev (fun k => laws_markIntS.f k a c) (((c + a.length : Nat) : Int), marks c a.length) := by
  refine Ev.congr (f := fun k => laws_markIntS.l0 k (marks c 0 ++ a.drop 0) ((c + 0 : Nat) : Int) 0) (fun k => ?_) (markIntS_l0 a c hn a.length 0 (by omega))
  unfold laws_markIntS.f
  simp [marks]

theorem heldIntS_l0 (n c : Nat) (hn : n + c ≤ 1099511627776) :
    ∀ d i : Nat, i + d = n → Ev (fun k => laws_heldIntS.l0 k (marks c n) ((c + i : Nat) : Int) i) ((c + n : Nat) : Int)
  | 0, i, h => by
    obtain rfl : i = n := by omega
    refine Ev.step (f := fun _ => some ((c + i : Nat) : Int)) (fun k => ?_) (Ev.now _)
    simp only [laws_heldIntS.l0]
    rw [if_neg (by simp [marks_length])]
  | d + 1, i, h => by
    refine Ev.step (f := fun k => laws_heldIntS.l0 k (marks c n) ((c + (i + 1) : Nat) : Int) ((i + 1 : Nat) : Int)) (fun k => ?_) (heldIntS_l0 n c hn d (i + 1) (by omega))
    simp only [laws_heldIntS.l0]
    rw [if_pos (by simp [marks_length]; omega), if_pos (by omega), wsucc (by omega), wsucc (by omega), rd_nat, marks_get _ _ _ (by omega), if_pos rfl]
    simp [Nat.add_assoc]
theorem heldIntS_ev (n c : Nat) (hn : n + c ≤ 1099511627776) : Ev (fun k => laws_heldIntS.f k (marks c n) c) ((c + n : Nat) : Int) := by
  refine Ev.congr (f := fun k => laws_heldIntS.l0 k (marks c n) ((c + 0 : Nat) : Int) 0) (fun k => ?_) (heldIntS_l0 n c hn n 0 (by omega))
  unfold laws_heldIntS.f
  simp

/-- Right times: at most 32, each from 0 to 1000. -/
def times (a : List Int) : Prop := a.length ≤ 32 ∧ ∀ i : Nat, i < a.length → 0 ≤ rd a i ∧ rd a i ≤ 1000
instance (a : List Int) : Decidable (times a) := by
  unfold times
  infer_instance

/-- A right timing. -/
def timing (a b c : Int) : Prop := (0 ≤ a ∧ a ≤ 10000) ∧ (1 ≤ b ∧ b ≤ 1000) ∧ 1 ≤ c ∧ c ≤ 32
instance (a b c : Int) : Decidable (timing a b c) := by
  unfold timing
  infer_instance

/-- When band k is ready, the bands before it done at s. -/
def doneAt (D P B s : Int) (n : Int) (k : Nat) : Int := (if (k : Int) ≥ B then mx s (D + ((k : Int) - B) * P) else s) + n
/-- When each band from place k on is ready. -/
def readyFrom (D P B : Int) : List Int → Nat → Int → List Int
  | [], _, _ => []
  | n :: ns, k, s => doneAt D P B s n k :: readyFrom D P B ns (k + 1) (doneAt D P B s n k)
theorem readyFrom_length (D P B : Int) : ∀ (l : List Int) (k : Nat) (s : Int), (readyFrom D P B l k s).length = l.length
  | [], _, _ => rfl
  | n :: ns, k, s => by simp [readyFrom, readyFrom_length D P B ns]
theorem drop_cons (a : List Int) (i : Nat) (h : i < a.length) : a.drop i = rd a i :: a.drop (i + 1) := by
  rw [rd_nat]
  exact getD_drop a i h
/-- The program's sum: no sum wraps. -/
theorem doneAt_eq {D P B s n : Int} {k : Nat} (h : timing D P B) (hk : k < 32) (h0 : 0 ≤ s) (h1 : s ≤ 41000 + 1000 * k) (n0 : 0 ≤ n) (n1 : n ≤ 1000) :
    wrap64 (D + (wrap64 ((wrap64 ((k : Int) - B)) * P))) = D + ((k : Int) - B) * P ∧ 0 ≤ doneAt D P B s n k ∧ doneAt D P B s n k ≤ 41000 + 1000 * ((k + 1 : Nat) : Int) ∧
    ((k : Int) ≥ B → wrap64 ((mx s (D + ((k : Int) - B) * P)) + n) = doneAt D P B s n k) ∧ (¬ (k : Int) ≥ B → wrap64 (s + n) = doneAt D P B s n k) := by
  obtain ⟨⟨d0, d1⟩, ⟨p0, p1⟩, b0, b1⟩ := h
  have m1 : ((k : Int) - B) * P ≤ 31 * 1000 := by
    by_cases c : 0 ≤ (k : Int) - B
    · exact Int.mul_le_mul (by omega) p1 (by omega) (by omega)
    · have : ((k : Int) - B) * P ≤ 0 := Int.mul_nonpos_of_nonpos_of_nonneg (by omega) (by omega)
      omega
  have m2 : -(32 * 1000) ≤ ((k : Int) - B) * P := by
    by_cases c : 0 ≤ (k : Int) - B
    · have : 0 ≤ ((k : Int) - B) * P := Int.mul_nonneg c (by omega)
      omega
    · have : (B - (k : Int)) * P ≤ 32 * 1000 := Int.mul_le_mul (by omega) p1 (by omega) (by omega)
      have e : ((k : Int) - B) * P = - ((B - (k : Int)) * P) := by rw [← Int.neg_mul]; congr 1; omega
      omega
  have m3 : (k : Int) ≥ B → 0 ≤ ((k : Int) - B) * P := fun c => Int.mul_nonneg (by omega) (by omega)
  rw [w64 (n := (k : Int) - B) (by omega) (by omega)]
  unfold doneAt mx
  generalize ((k : Int) - B) * P = x at *
  rw [w64 (n := x) (by omega) (by omega), w64 (n := D + x) (by omega) (by omega)]
  refine ⟨rfl, ?_⟩
  by_cases c : (k : Int) ≥ B
  · have := m3 c
    rw [if_pos c]
    have hb : 0 ≤ (if s < D + x then D + x else s) + n ∧ (if s < D + x then D + x else s) + n ≤ 41000 + 1000 * ((k + 1 : Nat) : Int) := by split <;> omega
    exact ⟨hb.1, hb.2, fun _ => w64 (by omega) (by omega), fun q => absurd c q⟩
  · rw [if_neg c]
    exact ⟨by omega, by omega, fun q => absurd q c, fun _ => w64 (by omega) (by omega)⟩
/-- The ready times; of wrong arguments none. -/
def readyOf (l : List Int) (D P B : Int) : List Int := if timing D P B ∧ times l then readyFrom D P B l 0 0 else []
theorem readyOf_length (l : List Int) (D P B : Int) : (readyOf l D P B).length ≤ l.length := by
  unfold readyOf
  split
  · rw [readyFrom_length]
    omega
  · simp
theorem readyOf_small (l : List Int) (D P B : Int) : (readyOf l D P B).length ≤ 32 := by
  unfold readyOf
  split
  · rename_i h
    rw [readyFrom_length]
    exact h.2.1
  · simp

/-- The places from k on that take longer than a period. -/
def overFrom (P : Int) : List Int → Nat → List Int
  | [], _ => []
  | x :: xs, k => if x > P then (k : Int) :: overFrom P xs (k + 1) else overFrom P xs (k + 1)
theorem overFrom_length (P : Int) : ∀ (l : List Int) (k : Nat), (overFrom P l k).length ≤ l.length
  | [], _ => by simp [overFrom]
  | x :: xs, k => by
    have := overFrom_length P xs (k + 1)
    unfold overFrom
    split
    · simp
      omega
    · simp
      omega
def overOf (l : List Int) (D P B : Int) : List Int := if timing D P B ∧ times l then overFrom P l 0 else []
theorem overOf_length (l : List Int) (D P B : Int) : (overOf l D P B).length ≤ l.length := by
  unfold overOf
  split
  · exact overFrom_length P l 0
  · simp

theorem within_eq (a b c : Int) : impl_within.f a b c = some (decide (b ≤ a ∧ a ≤ c)) := by
  unfold impl_within.f
  by_cases h : a ≥ b
  · rw [if_pos h]
    simp [show b ≤ a from h]
  · rw [if_neg h]
    simp [show ¬ b ≤ a from h]

theorem impl_TimingOk_eq (a b c : Int) : impl_TimingOk.f a b c = some (decide (timing a b c)) := by
  unfold impl_TimingOk.f timing
  simp only [within_eq, Option.bind_some]
  by_cases h1 : 0 ≤ a ∧ a ≤ 10000
  · by_cases h2 : 1 ≤ b ∧ b ≤ 1000
    · simp [h1, h2]
    · simp [h1, h2]
  · simp [h1]

theorem impl_timesOk_l0 (a : List Int) (hn : a.length ≤ 32) :
    ∀ d i : Nat, i + d = a.length → (∀ j : Nat, j < i → 0 ≤ rd a j ∧ rd a j ≤ 1000) → Ev (fun k => impl_timesOk.l0 k a (a.length : Int) i) (decide (times a))
  | 0, i, h, hj => by
    refine Ev.step (f := fun _ => some true) (fun k => ?_) ?_
    · simp only [impl_timesOk.l0]
      rw [if_neg (by omega)]
    · rw [decide_eq_true (show times a from ⟨hn, fun j h1 => hj j (by omega)⟩)]
      exact Ev.now _
  | d + 1, i, h, hj => by
    by_cases c : 0 ≤ rd a i ∧ rd a i ≤ 1000
    · refine Ev.step (f := fun k => impl_timesOk.l0 k a (a.length : Int) ((i + 1 : Nat) : Int)) (fun k => ?_) (impl_timesOk_l0 a hn d (i + 1) (by omega) (fun j h1 => ?_))
      · simp only [impl_timesOk.l0, within_eq, Option.bind_some]
        rw [if_pos (by omega), if_pos (by omega), if_pos (by omega), if_pos (decide_eq_true c), wsucc (by omega)]
      · by_cases e : j = i
        · subst e
          exact c
        · exact hj j (by omega)
    · refine Ev.step (f := fun _ => some false) (fun k => ?_) ?_
      · simp only [impl_timesOk.l0, within_eq, Option.bind_some]
        rw [if_pos (by omega), if_pos (by omega), if_pos (by omega), if_neg (by simp only [decide_eq_true_eq]; exact c)]
      · rw [decide_eq_false (show ¬ times a from fun h3 => c (h3.2 i (by omega)))]
        exact Ev.now _
theorem impl_timesOk_ev (a : List Int) : Ev (fun k => impl_timesOk.f k a) (decide (times a)) := by
  unfold impl_timesOk.f
  by_cases c : (a.length : Int) > 32
  · rw [decide_eq_false (show ¬ times a from fun h => by have := h.1; omega)]
    exact ev_pos c (Ev.now _)
  · exact ev_neg c (impl_timesOk_l0 a (by omega) a.length 0 (by omega) (fun j h => by omega))

theorem impl_Over_l0 (a : List Int) (D P B : Int) (ha : a.length ≤ 32) :
    ∀ (d i : Nat) (acc : List Int), i + d = a.length → acc.length ≤ i → Ev (fun k => impl_PrepaintBands.l0 k acc a (a.length : Int) i D P B) (acc ++ overFrom P (a.drop i) i)
  | 0, i, acc, h, hl => by
    refine Ev.step (f := fun _ => some acc) (fun k => ?_) ?_
    · simp only [impl_PrepaintBands.l0]
      rw [if_neg (by omega)]
    · rw [List.drop_of_length_le (by omega)]
      simp only [overFrom, List.append_nil]
      exact Ev.now _
  | d + 1, i, acc, h, hl => by
    rw [drop_cons a i (by omega)]
    simp only [overFrom]
    by_cases c : rd a i > P
    · have ih := impl_Over_l0 a D P B ha d (i + 1) (acc ++ [(i : Int)]) (by omega) (by simp; omega)
      rw [if_pos c, List.append_cons]
      refine Ev.step (fun k => ?_) ih
      simp only [impl_PrepaintBands.l0]
      rw [if_pos (by omega), if_pos (by omega), if_pos (by omega), if_pos c, if_pos (by omega), wsucc (by omega)]
    · have ih := impl_Over_l0 a D P B ha d (i + 1) acc (by omega) (by omega)
      rw [if_neg c]
      refine Ev.step (fun k => ?_) ih
      simp only [impl_PrepaintBands.l0]
      rw [if_pos (by omega), if_pos (by omega), if_pos (by omega), if_neg c, wsucc (by omega)]
theorem impl_Over_ev (a : List Int) (D P B : Int) : Ev (fun k => impl_PrepaintBands.f k a D P B) (overOf a D P B) := by
  unfold impl_PrepaintBands.f overOf
  have no : Ev (fun k => impl_PrepaintBands.j0 k a true D P B) [] := Ev.step (f := fun _ => some []) (fun k => by simp only [impl_PrepaintBands.j0]; rw [if_pos trivial]) (Ev.now _)
  refine ev_eq (impl_TimingOk_eq _ _ _) ?_
  by_cases ht : timing D P B
  · refine ev_pos (decide_eq_true ht) ((impl_timesOk_ev a).bind ?_)
    by_cases ha : times a
    · rw [if_pos ⟨ht, ha⟩, decide_eq_true ha]
      refine Ev.step (f := fun k => impl_PrepaintBands.l0 k [] a (a.length : Int) 0 D P B) (fun k => ?_) (impl_Over_l0 a D P B ha.1 a.length 0 [] (by omega) (by simp))
      simp only [impl_PrepaintBands.j0]
      rw [if_neg (by simp)]
    · rw [if_neg (fun q => ha q.2), decide_eq_false ha]
      exact no
  · rw [if_neg (fun q => ht q.1)]
    exact ev_neg (by simp [ht]) no

theorem l01In_eq (a b c : Int) : spec_l01In.f a b c = some (decide (b ≤ a ∧ a ≤ c)) := by
  unfold spec_l01In.f
  by_cases h : a ≥ b
  · rw [if_pos h]
    simp [show b ≤ a from h]
  · rw [if_neg h]
    simp [show ¬ b ≤ a from h]

theorem spec_TimingOk_eq (a b c : Int) : spec_TimingOk.f a b c = some (decide (timing a b c)) := by
  unfold spec_TimingOk.f timing
  simp only [l01In_eq, Option.bind_some]
  by_cases h1 : 0 ≤ a ∧ a ≤ 10000
  · by_cases h2 : 1 ≤ b ∧ b ≤ 1000
    · simp [h1, h2]
    · simp [h1, h2]
  · simp [h1]

theorem spec_l17Times_l0 (a : List Int) (hn : a.length ≤ 1099511627776) :
    ∀ d i : Nat, i + d = a.length → (∀ j : Nat, j < i → 0 ≤ rd a j ∧ rd a j ≤ 1000) → Ev (fun k => spec_l17Times.l0 k a i) (decide (times a))
  | 0, i, h, hj => by
    refine Ev.step (f := fun _ => some (decide ((a.length : Int) ≤ 32))) (fun k => ?_) ?_
    · simp only [spec_l17Times.l0]
      rw [if_neg (by omega)]
    · rw [show decide ((a.length : Int) ≤ 32) = decide (times a) from decide_eq_decide.mpr ⟨fun q => ⟨by omega, fun j h1 => hj j (by omega)⟩, fun q => by have := q.1; omega⟩]
      exact Ev.now _
  | d + 1, i, h, hj => by
    by_cases c : 0 ≤ rd a i ∧ rd a i ≤ 1000
    · refine Ev.step (f := fun k => spec_l17Times.l0 k a ((i + 1 : Nat) : Int)) (fun k => ?_) (spec_l17Times_l0 a hn d (i + 1) (by omega) (fun j h1 => ?_))
      · simp only [spec_l17Times.l0, l01In_eq, Option.bind_some]
        rw [if_pos (by omega), if_pos (by omega), if_pos (decide_eq_true c), wsucc (by omega)]
      · by_cases e : j = i
        · subst e
          exact c
        · exact hj j (by omega)
    · refine Ev.step (f := fun _ => some false) (fun k => ?_) ?_
      · simp only [spec_l17Times.l0, l01In_eq, Option.bind_some]
        rw [if_pos (by omega), if_pos (by omega), if_neg (by simp only [decide_eq_true_eq]; exact c)]
      · rw [decide_eq_false (show ¬ times a from fun h3 => c (h3.2 i (by omega)))]
        exact Ev.now _
theorem spec_l17Times_ev (a : List Int) (hn : a.length ≤ 1099511627776) : Ev (fun k => spec_l17Times.f k a) (decide (times a)) :=
  spec_l17Times_l0 a hn a.length 0 (by omega) (fun j h => by omega)

theorem spec_Over_l0 (a : List Int) (D P B : Int) (ht : timing D P B) (ha : times a) :
    ∀ (d i : Nat) (acc : List Int), i + d = a.length → acc.length ≤ i → Ev (fun k => spec_PrepaintBands.l0 k a acc i D P B) (acc ++ overFrom P (a.drop i) i)
  | 0, i, acc, h, hl => by
    refine Ev.step (f := fun k => spec_PrepaintBands.j1 k a acc i false D P B) (fun k => ?_) (Ev.step (f := fun _ => some acc) (fun k => ?_) ?_)
    · simp only [spec_PrepaintBands.l0]
      rw [if_neg (by omega)]
    · simp only [spec_PrepaintBands.j1]
      rw [if_neg (by simp)]
    · rw [List.drop_of_length_le (by omega)]
      simp only [overFrom, List.append_nil]
      exact Ev.now _
  | d + 1, i, acc, h, hl => by
    have h32 := ha.1
    have te := spec_l17Times_ev a (by omega)
    rw [decide_eq_true ha] at te
    rw [drop_cons a i (by omega)]
    simp only [overFrom]
    refine Ev.step (f := fun k => (spec_l17Times.f k a).bind fun t => spec_PrepaintBands.j1 k a acc i t D P B) (fun k => ?_) (te.bind ?_)
    · simp only [spec_PrepaintBands.l0, spec_TimingOk_eq, Option.bind_some]
      rw [if_pos (by omega), if_pos (decide_eq_true ht)]
    by_cases c : rd a i > P
    · have ih := spec_Over_l0 a D P B ht ha d (i + 1) (acc ++ [(i : Int)]) (by omega) (by simp; omega)
      rw [if_pos c, List.append_cons]
      refine Ev.step (fun k => ?_) ih
      simp only [spec_PrepaintBands.j1]
      rw [if_pos trivial, if_pos (by omega), if_pos (by omega), if_pos c, if_pos (by omega), wsucc (by omega)]
    · have ih := spec_Over_l0 a D P B ht ha d (i + 1) acc (by omega) (by omega)
      rw [if_neg c]
      refine Ev.step (fun k => ?_) ih
      simp only [spec_PrepaintBands.j1]
      rw [if_pos trivial, if_pos (by omega), if_pos (by omega), if_neg c, wsucc (by omega)]
theorem spec_Over_ev (a : List Int) (D P B : Int) (hn : a.length ≤ 1099511627776) : Ev (fun k => spec_PrepaintBands.f k a D P B) (overOf a D P B) := by
  unfold spec_PrepaintBands.f overOf
  by_cases q : timing D P B ∧ times a
  · rw [if_pos q]
    exact spec_Over_l0 a D P B q.1 q.2 a.length 0 [] (by omega) (by simp)
  · rw [if_neg q]
    have no : Ev (fun k => spec_PrepaintBands.j1 k a [] 0 false D P B) [] := Ev.step (f := fun _ => some []) (fun k => by simp only [spec_PrepaintBands.j1]; rw [if_neg (by simp)]) (Ev.now _)
    by_cases c : (0 : Int) < (a.length : Int)
    · by_cases ht : timing D P B
      · refine Ev.step (f := fun k => (spec_l17Times.f k a).bind fun t => spec_PrepaintBands.j1 k a [] 0 t D P B) (fun k => ?_) ((spec_l17Times_ev a hn).bind ?_)
        · simp only [spec_PrepaintBands.l0, spec_TimingOk_eq, Option.bind_some]
          rw [if_pos c, if_pos (decide_eq_true ht)]
        · rw [decide_eq_false (fun h => q ⟨ht, h⟩)]
          exact no
      · refine Ev.step (fun k => ?_) no
        simp only [spec_PrepaintBands.l0, spec_TimingOk_eq, Option.bind_some]
        rw [if_pos c, if_neg (by simp [ht])]
    · refine Ev.step (fun k => ?_) no
      simp only [spec_PrepaintBands.l0]
      rw [if_neg c]

theorem FnExactPrepaintBands : FnExactPrepaintBandsPure := by
  intro l D P B hm _ _ _ _
  refine Ev.rounds ?_
  unfold laws_FnExactPrepaintBands.f laws_toTiming.f
  by_cases hl : (l.length : Int) > 1048576
  · exact ev_pos hl (Ev.now _)
  refine ev_neg hl ?_
  have s := spec_Over_ev l D P B (by omega)
  have i := impl_Over_ev l D P B
  have hr := overOf_length l D P B
  generalize overOf l D P B = r at *
  have t0 := toIntS_ev l (by omega)
  have e0 := eqIntS_ev l (by omega)
  have er := eqIntS_ev r (by omega)
  refine t0.bind (ev_eq rfl (s.bind (t0.bind (ev_eq rfl (i.bind (er.bind (ev_pos rfl (t0.bind (e0.bind (ev_pos rfl ?_))))))))))
  have m0 := markIntS_ev l 1 (by omega)
  refine m0.bind (ev_neg (by simp only; omega) (er.bind ?_))
  refine Ev.step (fun k => by simp only [laws_FnExactPrepaintBands.j0]; rw [if_neg (by simp)]) ?_
  have m2 := markIntS_ev r 1 (by omega)
  have h2 := heldIntS_ev r.length 1 (by omega)
  refine m2.bind (h2.bind (ev_neg (by omega) (ev_pos rfl ?_)))
  refine t0.bind (ev_eq rfl (i.bind (er.bind (ev_pos rfl ?_))))
  exact h2.bind (ev_neg (by omega) (ev_pos rfl (Ev.now _)))

end Go.Proofs.Ytcjkndcmeedneaa.Pure
