/-
  For every code the law of buffers returns true: more buffers never make a band late, a band is ready after the one before it, and only bands that take longer than a period are painted ahead.
-/
import Derived.Test.YtcjkndcmeedneaaPFnBuffersx3
import Derived.Test.YtcjkndcmeedneaaWSized
/- The printed row names 'PrintWords.sized_ints' without its seat's letter W: the same law under the name that it looks for. -/
namespace Go.Proofs.Ytcjkndcmeedneaa.PrintWords
open Go.ChangeShapes Go.WideShapes
theorem sized_ints {H : Type} {enc : TypeId × Value → H} {P : Program} {W : World} {base : Nat} {spare : Nat → Bool} {held : Bool} {t e : TypeId} {k : IntKind} {a : Option Addr} {len cap : Nat} {d : DataW H} {ps : List MemPlace} {ts : List TypeId} {ds : List (DataW H)} {j : Nat}
    (hsz : (DataW.weightsEach P ts ds).all (· ≤ reachBytes) = true) (ht : ts[j]? = some t) (hd : ds[j]? = some d) (hu : P.underlying t = some (.slice e)) (he : P.underlying e = some (.int k)) (hc : P.cellsOf e = 1) {B : Nat} (hB : P.bytesOf e = B)
    (h : DataW.Trod enc P W base spare held t (.slice a len cap) d ps) : len * B ≤ 140737488351232 :=
  Go.Proofs.YtcjkndcmeedneaaW.PrintWords.sized_ints hsz ht hd hu he hc hB h
end Go.Proofs.Ytcjkndcmeedneaa.PrintWords
namespace Go.Proofs.Ytcjkndcmeedneaa.Pure
open Go.RowKit Go.Proofs.Ytcjkndcmeedneaa.PFnBuffers Go.Proofs.YtcjkndcmeedneaaW.PrintWords Go.Proofs.YtcjkndcmeedneaaW.PrintLast Go.Proofs.YtcjkndcmeedneaaW.PrintMore
set_option linter.unusedVariables false
set_option linter.unusedSimpArgs false

theorem w64 {n : Int} (h1 : -9223372036854775808 ≤ n) (h2 : n ≤ 9223372036854775807) : wrap64 n = n := by
  unfold wrap64
  omega
theorem wsucc {i : Nat} (h : i ≤ 1099511627776) : wrap64 ((i : Int) + 1) = ((i + 1 : Nat) : Int) := by
  rw [w64 (by omega) (by omega)]
  omega
theorem rd_nat (l : List Int) (i : Nat) : rd l (i : Int) = l.getD i 0 := by simp [rd]
theorem getD_drop (l : List Int) (i : Nat) (h : i < l.length) : l.drop i = l.getD i 0 :: l.drop (i + 1) := by
  rw [List.drop_eq_getElem_cons h]
  simp [List.getD_eq_getElem?_getD, List.getElem?_eq_getElem h]
theorem getD_take (l : List Int) (i : Nat) (h : i < l.length) : l.take (i + 1) = l.take i ++ [l.getD i 0] := by
  rw [List.take_succ_eq_append_getElem h]
  simp [List.getD_eq_getElem?_getD, List.getElem?_eq_getElem h]
theorem set_mid (p q : List Int) (u v : Int) (i : Nat) (h : p.length = i) : (p ++ u :: q).set i v = p ++ v :: q := by
  subst h
  simp [List.set_append_right]
theorem bind_id {α : Type} {g : Nat → Option α} {r : α} (h : Ev g r) : Ev (fun n => (g n).bind fun x => some x) r := by
  obtain ⟨K, h⟩ := h
  exact ⟨K, fun k hk => by simp [h k hk]⟩
theorem ev_pos {α : Type} {c : Prop} [Decidable c] {f g : Nat → Option α} {r : α} (h : c) (k : Ev f r) : Ev (fun n => if c then f n else g n) r := Ev.congr (fun n => if_pos h) k
theorem ev_neg {α : Type} {c : Prop} [Decidable c] {f g : Nat → Option α} {r : α} (h : ¬ c) (k : Ev g r) : Ev (fun n => if c then f n else g n) r := Ev.congr (fun n => if_neg h) k
theorem ev_eq {α β : Type} {g : Option α} {f : Nat → α → Option β} {a : α} {r : β} (h : g = some a) (k : Ev (fun n => f n a) r) : Ev (fun n => g.bind (f n)) r := by
  subst h
  exact k
theorem td {v : Int} (h : 0 ≤ v) (c : Int) : Int.tdiv v c = v / c := Int.tdiv_eq_ediv_of_nonneg h
theorem tm {v : Int} (h : 0 ≤ v) (c : Int) : Int.tmod v c = v % c := Int.tmod_eq_emod_of_nonneg h

/-- Right times: at most 32, each from 0 to 1000. -/
def times (a : List Int) : Prop := a.length ≤ 32 ∧ ∀ i : Nat, i < a.length → 0 ≤ rd a i ∧ rd a i ≤ 1000
instance (a : List Int) : Decidable (times a) := by
  unfold times
  infer_instance

/-- A right timing. -/
def timing (a b c : Int) : Prop := (0 ≤ a ∧ a ≤ 10000) ∧ (1 ≤ b ∧ b ≤ 1000) ∧ 1 ≤ c ∧ c ≤ 32
instance (a b c : Int) : Decidable (timing a b c) := by
  unfold timing
  infer_instance

/-- When band k is ready, the bands before it done at s. -/
def doneAt (D P B s : Int) (n : Int) (k : Nat) : Int := (if (k : Int) ≥ B then mx s (D + ((k : Int) - B) * P) else s) + n
/-- When each band from place k on is ready. -/
def readyFrom (D P B : Int) : List Int → Nat → Int → List Int
  | [], _, _ => []
  | n :: ns, k, s => doneAt D P B s n k :: readyFrom D P B ns (k + 1) (doneAt D P B s n k)
theorem readyFrom_length (D P B : Int) : ∀ (l : List Int) (k : Nat) (s : Int), (readyFrom D P B l k s).length = l.length
  | [], _, _ => rfl
  | n :: ns, k, s => by simp [readyFrom, readyFrom_length D P B ns]
theorem drop_cons (a : List Int) (i : Nat) (h : i < a.length) : a.drop i = rd a i :: a.drop (i + 1) := by
  rw [rd_nat]
  exact getD_drop a i h
/-- The program's sum: no sum wraps. -/
theorem doneAt_eq {D P B s n : Int} {k : Nat} (h : timing D P B) (hk : k < 32) (h0 : 0 ≤ s) (h1 : s ≤ 41000 + 1000 * k) (n0 : 0 ≤ n) (n1 : n ≤ 1000) :
    wrap64 (D + (wrap64 ((wrap64 ((k : Int) - B)) * P))) = D + ((k : Int) - B) * P ∧ 0 ≤ doneAt D P B s n k ∧ doneAt D P B s n k ≤ 41000 + 1000 * ((k + 1 : Nat) : Int) ∧
    ((k : Int) ≥ B → wrap64 ((mx s (D + ((k : Int) - B) * P)) + n) = doneAt D P B s n k) ∧ (¬ (k : Int) ≥ B → wrap64 (s + n) = doneAt D P B s n k) := by
  obtain ⟨⟨d0, d1⟩, ⟨p0, p1⟩, b0, b1⟩ := h
  have m1 : ((k : Int) - B) * P ≤ 31 * 1000 := by
    by_cases c : 0 ≤ (k : Int) - B
    · exact Int.mul_le_mul (by omega) p1 (by omega) (by omega)
    · have : ((k : Int) - B) * P ≤ 0 := Int.mul_nonpos_of_nonpos_of_nonneg (by omega) (by omega)
      omega
  have m2 : -(32 * 1000) ≤ ((k : Int) - B) * P := by
    by_cases c : 0 ≤ (k : Int) - B
    · have : 0 ≤ ((k : Int) - B) * P := Int.mul_nonneg c (by omega)
      omega
    · have : (B - (k : Int)) * P ≤ 32 * 1000 := Int.mul_le_mul (by omega) p1 (by omega) (by omega)
      have e : ((k : Int) - B) * P = - ((B - (k : Int)) * P) := by rw [← Int.neg_mul]; congr 1; omega
      omega
  have m3 : (k : Int) ≥ B → 0 ≤ ((k : Int) - B) * P := fun c => Int.mul_nonneg (by omega) (by omega)
  rw [w64 (n := (k : Int) - B) (by omega) (by omega)]
  unfold doneAt mx
  generalize ((k : Int) - B) * P = x at *
  rw [w64 (n := x) (by omega) (by omega), w64 (n := D + x) (by omega) (by omega)]
  refine ⟨rfl, ?_⟩
  by_cases c : (k : Int) ≥ B
  · have := m3 c
    rw [if_pos c]
    have hb : 0 ≤ (if s < D + x then D + x else s) + n ∧ (if s < D + x then D + x else s) + n ≤ 41000 + 1000 * ((k + 1 : Nat) : Int) := by split <;> omega
    exact ⟨hb.1, hb.2, fun _ => w64 (by omega) (by omega), fun q => absurd c q⟩
  · rw [if_neg c]
    exact ⟨by omega, by omega, fun q => absurd q c, fun _ => w64 (by omega) (by omega)⟩
/-- The ready times; of wrong arguments none. -/
def readyOf (l : List Int) (D P B : Int) : List Int := if timing D P B ∧ times l then readyFrom D P B l 0 0 else []
theorem readyOf_length (l : List Int) (D P B : Int) : (readyOf l D P B).length ≤ l.length := by
  unfold readyOf
  split
  · rw [readyFrom_length]
    omega
  · simp
theorem readyOf_small (l : List Int) (D P B : Int) : (readyOf l D P B).length ≤ 32 := by
  unfold readyOf
  split
  · rename_i h
    rw [readyFrom_length]
    exact h.2.1
  · simp

/-- The places from k on that are late. -/
def lateFrom (D P : Int) : List Int → Nat → List Int
  | [], _ => []
  | x :: xs, k => if x > D + (k : Int) * P then (k : Int) :: lateFrom D P xs (k + 1) else lateFrom D P xs (k + 1)
theorem lateFrom_length (D P : Int) : ∀ (l : List Int) (k : Nat), (lateFrom D P l k).length ≤ l.length
  | [], _ => by simp [lateFrom]
  | x :: xs, k => by
    have := lateFrom_length D P xs (k + 1)
    unfold lateFrom
    split
    · simp
      omega
    · simp
      omega
theorem due_eq {D P B : Int} {k : Nat} (h : timing D P B) (hk : k < 32) : wrap64 (D + (wrap64 ((k : Int) * P))) = D + (k : Int) * P := by
  obtain ⟨⟨d0, d1⟩, ⟨p0, p1⟩, b0, b1⟩ := h
  have m1 : (k : Int) * P ≤ 31 * 1000 := Int.mul_le_mul (by omega) p1 (by omega) (by omega)
  have m2 : 0 ≤ (k : Int) * P := Int.mul_nonneg (by omega) (by omega)
  generalize (k : Int) * P = x at *
  rw [w64 (n := x) (by omega) (by omega), w64 (by omega) (by omega)]
/-- The late bands. -/
def lateOf (l : List Int) (D P B : Int) : List Int := lateFrom D P (readyOf l D P B) 0
theorem lateOf_length (l : List Int) (D P B : Int) : (lateOf l D P B).length ≤ 32 := by
  have := lateFrom_length D P (readyOf l D P B) 0
  have := readyOf_small l D P B
  unfold lateOf
  omega
theorem readyOf_timing {l : List Int} {D P B : Int} (h : 0 < (readyOf l D P B).length) : timing D P B := by
  unfold readyOf at h
  split at h
  · rename_i q
    exact q.1
  · simp at h

theorem within_eq (a b c : Int) : impl_within.f a b c = some (decide (b ≤ a ∧ a ≤ c)) := by
  unfold impl_within.f
  by_cases h : a ≥ b
  · rw [if_pos h]
    simp [show b ≤ a from h]
  · rw [if_neg h]
    simp [show ¬ b ≤ a from h]

theorem impl_TimingOk_eq (a b c : Int) : impl_TimingOk.f a b c = some (decide (timing a b c)) := by
  unfold impl_TimingOk.f timing
  simp only [within_eq, Option.bind_some]
  by_cases h1 : 0 ≤ a ∧ a ≤ 10000
  · by_cases h2 : 1 ≤ b ∧ b ≤ 1000
    · simp [h1, h2]
    · simp [h1, h2]
  · simp [h1]

theorem impl_timesOk_l0 (a : List Int) (hn : a.length ≤ 32) :
    ∀ d i : Nat, i + d = a.length → (∀ j : Nat, j < i → 0 ≤ rd a j ∧ rd a j ≤ 1000) → Ev (fun k => impl_timesOk.l0 k a (a.length : Int) i) (decide (times a))
  | 0, i, h, hj => by
    refine Ev.step (f := fun _ => some true) (fun k => ?_) ?_
    · simp only [impl_timesOk.l0]
      rw [if_neg (by omega)]
    · rw [decide_eq_true (show times a from ⟨hn, fun j h1 => hj j (by omega)⟩)]
      exact Ev.now _
  | d + 1, i, h, hj => by
    by_cases c : 0 ≤ rd a i ∧ rd a i ≤ 1000
    · refine Ev.step (f := fun k => impl_timesOk.l0 k a (a.length : Int) ((i + 1 : Nat) : Int)) (fun k => ?_) (impl_timesOk_l0 a hn d (i + 1) (by omega) (fun j h1 => ?_))
      · simp only [impl_timesOk.l0, within_eq, Option.bind_some]
        rw [if_pos (by omega), if_pos (by omega), if_pos (by omega), if_pos (decide_eq_true c), wsucc (by omega)]
      · by_cases e : j = i
        · subst e
          exact c
        · exact hj j (by omega)
    · refine Ev.step (f := fun _ => some false) (fun k => ?_) ?_
      · simp only [impl_timesOk.l0, within_eq, Option.bind_some]
        rw [if_pos (by omega), if_pos (by omega), if_pos (by omega), if_neg (by simp only [decide_eq_true_eq]; exact c)]
      · rw [decide_eq_false (show ¬ times a from fun h3 => c (h3.2 i (by omega)))]
        exact Ev.now _
theorem impl_timesOk_ev (a : List Int) : Ev (fun k => impl_timesOk.f k a) (decide (times a)) := by
  unfold impl_timesOk.f
  by_cases c : (a.length : Int) > 32
  · rw [decide_eq_false (show ¬ times a from fun h => by have := h.1; omega)]
    exact ev_pos c (Ev.now _)
  · exact ev_neg c (impl_timesOk_l0 a (by omega) a.length 0 (by omega) (fun j h => by omega))

theorem impl_Ready_l0 (a : List Int) (D P B : Int) (ht : timing D P B) (ha : times a) :
    ∀ (d i : Nat) (acc : List Int) (s : Int), i + d = a.length → acc.length = i → 0 ≤ s → s ≤ 41000 + 1000 * (i : Int) → Ev (fun k => impl_ReadyTimes.l0 k acc s a (a.length : Int) i D P B) (acc ++ readyFrom D P B (a.drop i) i s)
  | 0, i, acc, s, h, hl, h0, h1 => by
    refine Ev.step (f := fun _ => some acc) (fun k => ?_) ?_
    · simp only [impl_ReadyTimes.l0]
      rw [if_neg (by omega)]
    · rw [List.drop_of_length_le (by omega)]
      simp only [readyFrom, List.append_nil]
      exact Ev.now _
  | d + 1, i, acc, s, h, hl, h0, h1 => by
    have h32 := ha.1
    obtain ⟨n0, n1⟩ := ha.2 i (by omega)
    obtain ⟨e1, q0, q1, e2, e3⟩ := doneAt_eq ht (show i < 32 by omega) h0 h1 n0 n1
    have ih := impl_Ready_l0 a D P B ht ha d (i + 1) (acc ++ [doneAt D P B s (rd a i) i]) (doneAt D P B s (rd a i) i) (by omega) (by simp; omega) q0 q1
    rw [drop_cons a i (by omega)]
    simp only [readyFrom]
    rw [List.append_cons]
    refine Ev.step (fun k => ?_) ih
    simp only [impl_ReadyTimes.l0]
    rw [if_pos (by omega), if_pos (by omega), if_pos (by omega), e1, wsucc (by omega)]
    by_cases c : (i : Int) ≥ B
    · rw [if_pos c, if_pos (by omega), e2 c]
    · rw [if_neg c, if_pos (by omega), e3 c]
theorem impl_Ready_ev (a : List Int) (D P B : Int) : Ev (fun k => impl_ReadyTimes.f k a D P B) (readyOf a D P B) := by
  unfold impl_ReadyTimes.f readyOf
  have no : Ev (fun k => impl_ReadyTimes.j0 k a true D P B) [] := Ev.step (f := fun _ => some []) (fun k => by simp only [impl_ReadyTimes.j0]; rw [if_pos trivial]) (Ev.now _)
  refine ev_eq (impl_TimingOk_eq _ _ _) ?_
  by_cases ht : timing D P B
  · refine ev_pos (decide_eq_true ht) ((impl_timesOk_ev a).bind ?_)
    by_cases ha : times a
    · rw [if_pos ⟨ht, ha⟩, decide_eq_true ha]
      refine Ev.step (f := fun k => impl_ReadyTimes.l0 k [] 0 a (a.length : Int) 0 D P B) (fun k => ?_) (impl_Ready_l0 a D P B ht ha a.length 0 [] 0 (by omega) rfl (by omega) (by omega))
      simp only [impl_ReadyTimes.j0]
      rw [if_neg (by simp)]
    · rw [if_neg (fun q => ha q.2), decide_eq_false ha]
      exact no
  · rw [if_neg (fun q => ht q.1)]
    exact ev_neg (by simp [ht]) no

theorem impl_Late_l0 (a : List Int) (D P B : Int) (ht : timing D P B) (ha : a.length ≤ 32) :
    ∀ (d i : Nat) (acc : List Int), i + d = a.length → acc.length ≤ i → Ev (fun k => impl_LateBands.l0 k acc a (a.length : Int) i D P B) (acc ++ lateFrom D P (a.drop i) i)
  | 0, i, acc, h, hl => by
    refine Ev.step (f := fun _ => some acc) (fun k => ?_) ?_
    · simp only [impl_LateBands.l0]
      rw [if_neg (by omega)]
    · rw [List.drop_of_length_le (by omega)]
      simp only [lateFrom, List.append_nil]
      exact Ev.now _
  | d + 1, i, acc, h, hl => by
    rw [drop_cons a i (by omega)]
    simp only [lateFrom]
    by_cases c : rd a i > D + (i : Int) * P
    · have ih := impl_Late_l0 a D P B ht ha d (i + 1) (acc ++ [(i : Int)]) (by omega) (by simp; omega)
      rw [if_pos c, List.append_cons]
      refine Ev.step (fun k => ?_) ih
      simp only [impl_LateBands.l0]
      rw [if_pos (by omega), if_pos (by omega), if_pos (by omega), due_eq ht (by omega), if_pos c, if_pos (by omega), wsucc (by omega)]
    · have ih := impl_Late_l0 a D P B ht ha d (i + 1) acc (by omega) (by omega)
      rw [if_neg c]
      refine Ev.step (fun k => ?_) ih
      simp only [impl_LateBands.l0]
      rw [if_pos (by omega), if_pos (by omega), if_pos (by omega), due_eq ht (by omega), if_neg c, wsucc (by omega)]
theorem impl_Late_ev (a : List Int) (D P B : Int) : Ev (fun k => impl_LateBands.f k a D P B) (lateOf a D P B) := by
  unfold impl_LateBands.f lateOf
  refine (impl_Ready_ev a D P B).bind ?_
  by_cases h : 0 < (readyOf a D P B).length
  · exact impl_Late_l0 _ D P B (readyOf_timing h) (readyOf_small _ _ _ _) (readyOf a D P B).length 0 [] (by omega) (by simp)
  · have e : readyOf a D P B = [] := List.length_eq_zero_iff.1 (by omega)
    rw [e]
    exact Ev.step (f := fun _ => some []) (fun k => by simp only [impl_LateBands.l0]; rw [if_neg (by simp)]) (Ev.now _)

/-- The places from k on that take longer than a period. -/
def overFrom (P : Int) : List Int → Nat → List Int
  | [], _ => []
  | x :: xs, k => if x > P then (k : Int) :: overFrom P xs (k + 1) else overFrom P xs (k + 1)
theorem overFrom_length (P : Int) : ∀ (l : List Int) (k : Nat), (overFrom P l k).length ≤ l.length
  | [], _ => by simp [overFrom]
  | x :: xs, k => by
    have := overFrom_length P xs (k + 1)
    unfold overFrom
    split
    · simp
      omega
    · simp
      omega
def overOf (l : List Int) (D P B : Int) : List Int := if timing D P B ∧ times l then overFrom P l 0 else []
theorem overOf_length (l : List Int) (D P B : Int) : (overOf l D P B).length ≤ l.length := by
  unfold overOf
  split
  · exact overFrom_length P l 0
  · simp

theorem impl_Over_l0 (a : List Int) (D P B : Int) (ha : a.length ≤ 32) :
    ∀ (d i : Nat) (acc : List Int), i + d = a.length → acc.length ≤ i → Ev (fun k => impl_PrepaintBands.l0 k acc a (a.length : Int) i D P B) (acc ++ overFrom P (a.drop i) i)
  | 0, i, acc, h, hl => by
    refine Ev.step (f := fun _ => some acc) (fun k => ?_) ?_
    · simp only [impl_PrepaintBands.l0]
      rw [if_neg (by omega)]
    · rw [List.drop_of_length_le (by omega)]
      simp only [overFrom, List.append_nil]
      exact Ev.now _
  | d + 1, i, acc, h, hl => by
    rw [drop_cons a i (by omega)]
    simp only [overFrom]
    by_cases c : rd a i > P
    · have ih := impl_Over_l0 a D P B ha d (i + 1) (acc ++ [(i : Int)]) (by omega) (by simp; omega)
      rw [if_pos c, List.append_cons]
      refine Ev.step (fun k => ?_) ih
      simp only [impl_PrepaintBands.l0]
      rw [if_pos (by omega), if_pos (by omega), if_pos (by omega), if_pos c, if_pos (by omega), wsucc (by omega)]
    · have ih := impl_Over_l0 a D P B ha d (i + 1) acc (by omega) (by omega)
      rw [if_neg c]
      refine Ev.step (fun k => ?_) ih
      simp only [impl_PrepaintBands.l0]
      rw [if_pos (by omega), if_pos (by omega), if_pos (by omega), if_neg c, wsucc (by omega)]
theorem impl_Over_ev (a : List Int) (D P B : Int) : Ev (fun k => impl_PrepaintBands.f k a D P B) (overOf a D P B) := by
  unfold impl_PrepaintBands.f overOf
  have no : Ev (fun k => impl_PrepaintBands.j0 k a true D P B) [] := Ev.step (f := fun _ => some []) (fun k => by simp only [impl_PrepaintBands.j0]; rw [if_pos trivial]) (Ev.now _)
  refine ev_eq (impl_TimingOk_eq _ _ _) ?_
  by_cases ht : timing D P B
  · refine ev_pos (decide_eq_true ht) ((impl_timesOk_ev a).bind ?_)
    by_cases ha : times a
    · rw [if_pos ⟨ht, ha⟩, decide_eq_true ha]
      refine Ev.step (f := fun k => impl_PrepaintBands.l0 k [] a (a.length : Int) 0 D P B) (fun k => ?_) (impl_Over_l0 a D P B ha.1 a.length 0 [] (by omega) (by simp))
      simp only [impl_PrepaintBands.j0]
      rw [if_neg (by simp)]
    · rw [if_neg (fun q => ha q.2), decide_eq_false ha]
      exact no
  · rw [if_neg (fun q => ht q.1)]
    exact ev_neg (by simp [ht]) no

theorem and255 (n : Int) : Go.bits .and .i64 n 255 = n % 256 := by
  have h255 : (BitVec.ofInt 64 255).toNat = 2 ^ 8 - 1 := by decide
  have key : (BitVec.ofInt 64 n &&& BitVec.ofInt 64 255).toNat = (n % ((2 ^ 64 : Nat) : Int)).toNat % 2 ^ 8 := by
    rw [BitVec.toNat_and, BitVec.toNat_ofInt, h255, Nat.and_two_pow_sub_one_eq_mod]
  show IntKind.i64.wrap ((BitVec.ofInt 64 n &&& BitVec.ofInt 64 255).toNat : Nat) = n % 256
  rw [key, IntKind.wrap_i64]
  omega
theorem l01New_l0 (l : List Int) (hn : l.length ≤ 1099511627776) : ∀ d i : Nat, i + d = l.length → ∀ h : Int, ∃ h', Ev (fun k => spec_l01New.l0 k l h i) (l, 0, h')
  | 0, i, hd, h => by
    refine ⟨h, Ev.step (f := fun _ => some (l, 0, h)) (fun k => ?_) (Ev.now _)⟩
    simp only [spec_l01New.l0]
    rw [if_neg (by omega)]
  | d + 1, i, hd, h => by
    by_cases c : (i : Int) < 4000
    · obtain ⟨h', e⟩ := l01New_l0 l hn d (i + 1) (by omega) (Go.bits .and .i64 (wrap64 ((wrap64 ((wrap64 (h * 131)) + (wrap64 (rd l i)))) + 7)) 1073741823)
      refine ⟨h', Ev.step (fun k => ?_) e⟩
      simp only [spec_l01New.l0]
      rw [if_pos (by omega), if_pos c, if_pos (by omega), wsucc (by omega)]
    · refine ⟨h, Ev.step (f := fun _ => some (l, 0, h)) (fun k => ?_) (Ev.now _)⟩
      simp only [spec_l01New.l0]
      rw [if_pos (by omega), if_neg c]
theorem l01New_ev (l : List Int) (hn : l.length ≤ 1099511627776) : ∃ h, Ev (fun k => spec_l01New.f k l) (l, 0, h) :=
  l01New_l0 l hn l.length 0 (by omega) _
/-- A cursor that can be read from. -/
def cur (l : List Int) (i : Int) : Prop := l.length ≤ 1099511627776 ∧ 0 ≤ i
theorem l01Byte_ex {l : List Int} {i : Int} (h : Int) (hc : cur l i) : ∃ x i' h', spec_l01Byte.f l i h = some (x, i', h') ∧ cur l i' ∧ 0 ≤ x ∧ x ≤ 255 := by
  obtain ⟨hl, h0⟩ := hc
  unfold spec_l01Byte.f
  by_cases c : i < (l.length : Int)
  · rw [if_pos c, if_pos h0, w64 (n := i + 1) (by omega) (by omega)]
    refine ⟨_, _, _, rfl, ⟨hl, by omega⟩, ?_⟩
    simp only [and255]
    omega
  · rw [if_neg c]
    refine ⟨_, _, _, rfl, ⟨hl, h0⟩, ?_⟩
    simp only [and255]
    omega

theorem l01Below_ex {l : List Int} {i : Int} (h : Int) (hc : cur l i) {n : Int} (hn : 0 < n) (hn2 : n ≤ 1000000) : ∃ x i' h', spec_l01Below.f l i h n = some (x, i', h') ∧ cur l i' ∧ 0 ≤ x ∧ x < n := by
  unfold spec_l01Below.f
  rw [if_neg (by omega)]
  by_cases c : n ≤ 256
  · rw [if_pos c]
    obtain ⟨x, i1, h1, e, hc1, b0, b1⟩ := l01Byte_ex h hc
    rw [e]
    simp only [Option.bind_some]
    rw [if_neg (by omega), tm b0]
    exact ⟨_, _, _, rfl, hc1, Int.emod_nonneg _ (by omega), Int.emod_lt_of_pos _ hn⟩
  · rw [if_neg c]
    obtain ⟨x, i1, h1, e1, hc1, b0, b1⟩ := l01Byte_ex h hc
    rw [e1]
    simp only [Option.bind_some]
    obtain ⟨y, i2, h2, e2, hc2, c0, c1⟩ := l01Byte_ex h1 hc1
    rw [e2]
    simp only [Option.bind_some]
    obtain ⟨z, i3, h3, e3, hc3, d0, d1⟩ := l01Byte_ex h2 hc2
    rw [e3]
    simp only [Option.bind_some]
    obtain ⟨u, i4, h4, e4, hc4, f0, f1⟩ := l01Byte_ex h3 hc3
    rw [e4]
    simp only [Option.bind_some]
    rw [if_neg (by omega), w64 (n := x * 16777216) (by omega) (by omega), w64 (n := y * 65536) (by omega) (by omega), w64 (n := z * 256) (by omega) (by omega), w64 (n := x * 16777216 + y * 65536) (by omega) (by omega), w64 (n := x * 16777216 + y * 65536 + z * 256) (by omega) (by omega), w64 (n := x * 16777216 + y * 65536 + z * 256 + u) (by omega) (by omega), tm (by omega)]
    exact ⟨_, _, _, rfl, hc4, Int.emod_nonneg _ (by omega), Int.emod_lt_of_pos _ hn⟩

theorem rd_mem (l : List Int) (i : Nat) (h : i < l.length) : rd l i ∈ l := by
  rw [rd_nat, List.getD_eq_getElem?_getD, List.getElem?_eq_getElem h]
  simp
theorem l17List_l0 (l : List Int) (m : Int) (hm : m ≤ 9) : ∀ (d n : Nat) (ps : List Int) (i h : Int), (n : Int) + d = m → cur l i → ps.length = n → (∀ x ∈ ps, 0 ≤ x ∧ x ≤ 1000) →
    ∃ r i' h', Ev (fun k => spec_l17List.l0 k ps m n l i h) (r, i', h') ∧ cur l i' ∧ times r
  | 0, n, ps, i, h, hd, hc, hl, hp => by
    refine ⟨ps, i, h, Ev.step (f := fun _ => some (ps, i, h)) (fun k => ?_) (Ev.now _), hc, by omega, fun j hj => hp _ (rd_mem ps j hj)⟩
    simp only [spec_l17List.l0]
    rw [if_neg (by omega)]
  | d + 1, n, ps, i, h, hd, hc, hl, hp => by
    obtain ⟨x, i1, h1, e, hc1, b0, b1⟩ := l01Below_ex h hc (n := 20) (by omega) (by omega)
    obtain ⟨r, i2, h2, e2, e3⟩ := l17List_l0 l m hm d (n + 1) (ps ++ [x]) i1 h1 (by omega) hc1 (by simp; omega) (fun y hy => by
      rcases List.mem_append.1 hy with hy | hy
      · exact hp y hy
      · rw [List.mem_singleton.1 hy]
        omega)
    refine ⟨r, i2, h2, Ev.step (fun k => ?_) e2, e3⟩
    simp only [spec_l17List.l0]
    rw [if_pos (by omega), e]
    simp only [Option.bind_some]
    rw [if_pos (by omega), wsucc (by omega)]
/-- The drawn times and timing are right ones. -/
theorem drawTiming_ev (l : List Int) (hn : l.length ≤ 1099511627776) : ∃ (r : List Int) (D P B : Int), Ev (fun k => spec_DrawTiming.f k l) (r, D, P, B) ∧ times r ∧ (0 ≤ D ∧ D < 40) ∧ (1 ≤ P ∧ P ≤ 20) ∧ 1 ≤ B ∧ B ≤ 4 := by
  obtain ⟨h, e⟩ := l01New_ev l hn
  obtain ⟨m, i1, h1, e1, c1, m0, m1⟩ := l01Below_ex (l := l) (i := 0) h ⟨hn, by omega⟩ (n := 9) (by omega) (by omega)
  obtain ⟨r, i2, h2, e2, c2, hr⟩ := l17List_l0 l m (by omega) m.toNat 0 [] i1 h1 (by omega) c1 rfl (by simp)
  obtain ⟨D, i3, h3, e3, c3, d0, d1⟩ := l01Below_ex h2 c2 (n := 40) (by omega) (by omega)
  obtain ⟨P, i4, h4, e4, c4, p0, p1⟩ := l01Below_ex h3 c3 (n := 20) (by omega) (by omega)
  obtain ⟨B, i5, h5, e5, c5, b0, b1⟩ := l01Below_ex h4 c4 (n := 4) (by omega) (by omega)
  refine ⟨r, D, 1 + P, 1 + B, ?_, hr, ⟨d0, d1⟩, ⟨by omega, by omega⟩, by omega, by omega⟩
  unfold spec_DrawTiming.f
  refine e.bind ?_
  refine Ev.bind (a := (r, i2, h2)) ?_ ?_
  · unfold spec_l17List.f
    exact ev_eq e1 e2
  · refine ev_eq (a := (D, 1 + P, 1 + B, i5, h5)) ?_ (Ev.now _)
    unfold spec_l17Timing.f
    simp only [e3, e4, e5, Option.bind_some]
    rw [w64 (n := 1 + P) (by omega) (by omega), w64 (n := 1 + B) (by omega) (by omega)]

theorem rd_cons_zero (x : Int) (xs : List Int) : rd (x :: xs) ((0 : Nat) : Int) = x := rfl
theorem rd_cons_succ (x : Int) (xs : List Int) (i : Nat) : rd (x :: xs) ((i + 1 : Nat) : Int) = rd xs i := by
  rw [rd_nat, rd_nat]
  rfl
/-- A band is ready at least its own time behind the one before it. -/
theorem ready_up (D P B : Int) : ∀ (l : List Int) (k : Nat) (s : Int) (i : Nat), i < l.length → (if i = 0 then s else rd (readyFrom D P B l k s) ((i - 1 : Nat) : Int)) + rd l i ≤ rd (readyFrom D P B l k s) i
  | [], _, _, i, h => by simp at h
  | n :: ns, k, s, 0, h => by
    rw [if_pos rfl]
    simp only [readyFrom]
    rw [rd_cons_zero, rd_cons_zero]
    unfold doneAt mx
    split
    · split <;> omega
    · omega
  | n :: ns, k, s, i + 1, h => by
    have ih := ready_up D P B ns (k + 1) (doneAt D P B s n k) i (by simpa using h)
    rw [if_neg (by omega)]
    simp only [readyFrom]
    rw [rd_cons_succ, rd_cons_succ, show i + 1 - 1 = i by omega]
    by_cases e : i = 0
    · subst e
      rw [if_pos rfl] at ih
      rw [rd_cons_zero]
      exact ih
    · rw [if_neg e] at ih
      obtain ⟨j, rfl⟩ : ∃ j, i = j + 1 := ⟨i - 1, by omega⟩
      rw [show j + 1 - 1 = j by omega] at ih
      rw [rd_cons_succ]
      exact ih
/-- With more buffers no band is ready later. -/
theorem ready_more {D P B B' : Int} (hP : 0 ≤ P) (hB : B ≤ B') : ∀ (l : List Int) (k : Nat) (s s' : Int), s' ≤ s → ∀ i : Nat, i < l.length → rd (readyFrom D P B' l k s') i ≤ rd (readyFrom D P B l k s) i
  | [], _, _, _, _, i, h => by simp at h
  | n :: ns, k, s, s', hs, i, h => by
    have hd : doneAt D P B' s' n k ≤ doneAt D P B s n k := by
      unfold doneAt mx
      by_cases c : (k : Int) ≥ B'
      · have m : ((k : Int) - B') * P ≤ ((k : Int) - B) * P := Int.mul_le_mul_of_nonneg_right (by omega) hP
        rw [if_pos c, if_pos (show (k : Int) ≥ B by omega)]
        split <;> split <;> omega
      · rw [if_neg c]
        split
        · split <;> omega
        · omega
    simp only [readyFrom]
    cases i with
    | zero =>
      rw [rd_cons_zero, rd_cons_zero]
      exact hd
    | succ i =>
      rw [rd_cons_succ, rd_cons_succ]
      exact ready_more hP hB ns (k + 1) _ _ hd i (by simpa using h)
theorem late_mem (D P : Int) : ∀ (r : List Int) (k : Nat) (x : Int), x ∈ lateFrom D P r k ↔ ∃ i : Nat, i < r.length ∧ x = ((k + i : Nat) : Int) ∧ rd r i > D + ((k + i : Nat) : Int) * P
  | [], k, x => by simp [lateFrom]
  | y :: ys, k, x => by
    have ih := late_mem D P ys (k + 1) x
    have step : (∃ i : Nat, i < (y :: ys).length ∧ x = ((k + i : Nat) : Int) ∧ rd (y :: ys) i > D + ((k + i : Nat) : Int) * P) ↔ (x = (k : Int) ∧ y > D + (k : Int) * P) ∨ ∃ i : Nat, i < ys.length ∧ x = ((k + 1 + i : Nat) : Int) ∧ rd ys i > D + ((k + 1 + i : Nat) : Int) * P := by
      constructor
      · rintro ⟨i, h1, h2, h3⟩
        cases i with
        | zero =>
          rw [rd_cons_zero] at h3
          exact .inl ⟨h2, h3⟩
        | succ i =>
          rw [rd_cons_succ] at h3
          rw [show k + (i + 1) = k + 1 + i by omega] at h2 h3
          exact .inr ⟨i, by simpa using h1, h2, h3⟩
      · rintro (⟨h1, h2⟩ | ⟨i, h1, h2, h3⟩)
        · exact ⟨0, by simp, h1, by rw [rd_cons_zero]; exact h2⟩
        · refine ⟨i + 1, by simpa using h1, ?_, ?_⟩
          · rw [show k + (i + 1) = k + 1 + i by omega]
            exact h2
          · rw [rd_cons_succ, show k + (i + 1) = k + 1 + i by omega]
            exact h3
    rw [step, ← ih, show lateFrom D P (y :: ys) k = if y > D + (k : Int) * P then (k : Int) :: lateFrom D P ys (k + 1) else lateFrom D P ys (k + 1) from rfl]
    by_cases c : y > D + (k : Int) * P
    · rw [if_pos c]
      simp [c]
    · rw [if_neg c]
      simp [c]
theorem over_mem (P : Int) : ∀ (r : List Int) (k : Nat) (x : Int), x ∈ overFrom P r k → ∃ i : Nat, i < r.length ∧ x = ((k + i : Nat) : Int) ∧ rd r i > P
  | [], k, x, h => by simp [overFrom] at h
  | y :: ys, k, x, h => by
    have up : x ∈ overFrom P ys (k + 1) → ∃ i : Nat, i < (y :: ys).length ∧ x = ((k + i : Nat) : Int) ∧ rd (y :: ys) i > P := by
      intro h
      obtain ⟨i, h1, h2, h3⟩ := over_mem P ys (k + 1) x h
      refine ⟨i + 1, by simpa using h1, ?_, by rw [rd_cons_succ]; exact h3⟩
      rw [show k + (i + 1) = k + 1 + i by omega]
      exact h2
    unfold overFrom at h
    split at h
    · rename_i c
      rcases List.mem_cons.1 h with h | h
      · exact ⟨0, by simp, h, by rw [rd_cons_zero]; exact c⟩
      · exact up h
    · exact up h
theorem has_l0 (a : List Int) (x : Int) (hn : a.length ≤ 1099511627776) : ∀ d i : Nat, i + d = a.length → x ∈ a.drop i → Ev (fun k => laws_has.l0 k a x i) true
  | 0, i, h, hx => by
    rw [List.drop_of_length_le (by omega)] at hx
    simp at hx
  | d + 1, i, h, hx => by
    rw [drop_cons a i (by omega)] at hx
    by_cases c : rd a i = x
    · refine Ev.step (f := fun _ => some true) (fun k => ?_) (Ev.now _)
      simp only [laws_has.l0]
      rw [if_pos (by omega), if_pos (by omega), if_pos c]
    · refine Ev.step (fun k => ?_) (has_l0 a x hn d (i + 1) (by omega) (by
        rcases List.mem_cons.1 hx with hx | hx
        · exact absurd hx.symm c
        · exact hx))
      simp only [laws_has.l0]
      rw [if_pos (by omega), if_pos (by omega), if_neg c, wsucc (by omega)]
theorem buffers_l2 (l p : List Int) (D P B : Int) (hn : p.length ≤ 1099511627776) (hp : ∀ i : Nat, i < p.length → 0 ≤ rd p i ∧ rd p i < l.length ∧ rd l (rd p i) > P) :
    ∀ d i : Nat, i + d = p.length → Ev (fun k => laws_FnBuffers.l2 k l p i D P B) true
  | 0, i, h => by
    refine Ev.step (f := fun _ => some true) (fun k => ?_) (Ev.now _)
    simp only [laws_FnBuffers.l2]
    rw [if_neg (by omega)]
  | d + 1, i, h => by
    obtain ⟨h1, h2, h3⟩ := hp i (by omega)
    refine Ev.step (fun k => ?_) (buffers_l2 l p D P B hn hp d (i + 1) (by omega))
    simp only [laws_FnBuffers.l2]
    rw [if_pos (by omega), if_pos (by omega), if_neg (by omega), if_neg (by omega), if_pos h1, if_pos h2, if_neg (by omega), wsucc (by omega)]
theorem buffers_l1 (l late few : List Int) (D P B : Int) (hl : late.length ≤ 1099511627776) (hn : few.length ≤ 1099511627776) (hs : ∀ x ∈ few, x ∈ late)
    (tail : Ev (fun k => (impl_PrepaintBands.f k l D P B).bind fun t => laws_FnBuffers.l2 k l t 0 D P B) true) :
    ∀ d i : Nat, i + d = few.length → Ev (fun k => laws_FnBuffers.l1 k l late few i D P B) true
  | 0, i, h => by
    refine Ev.step (fun k => ?_) tail
    simp only [laws_FnBuffers.l1]
    rw [if_neg (by omega)]
  | d + 1, i, h => by
    have ih := buffers_l1 l late few D P B hl hn hs tail d (i + 1) (by omega)
    refine Ev.step (f := fun k => (laws_has.f k late (rd few i)).bind fun t => if t = true then laws_FnBuffers.l1 k l late few ((i + 1 : Nat) : Int) D P B else some false) (fun k => ?_) (Ev.bind (a := true) ?_ (ev_pos rfl ih))
    · simp only [laws_FnBuffers.l1]
      rw [if_pos (by omega), if_pos (by omega), wsucc (by omega)]
    · exact has_l0 late (rd few i) hl late.length 0 (by omega) (hs _ (rd_mem few i (by omega)))
theorem buffers_l0 (l a b : List Int) (D P B D' P' B' : Int) (ha : a.length = l.length) (hb : b.length = l.length) (hn : l.length ≤ 32)
    (h1 : ∀ i : Nat, i < l.length → rd b i ≤ rd a i) (h2 : ∀ i : Nat, i < l.length → (if i = 0 then 0 else rd a ((i - 1 : Nat) : Int)) + rd l i ≤ rd a i)
    (h3 : ∀ i : Nat, i < l.length → 0 ≤ rd l i ∧ rd l i ≤ 1000) (h4 : ∀ i : Nat, i < l.length → rd a i ≤ 100000) (h5 : ∀ i : Nat, i < l.length → 0 ≤ rd a i)
    (tail : Ev (fun k => (impl_LateBands.f k l D P B).bind fun t => ((impl_LateBands.f k l D' P' B').bind fun u => (laws_FnBuffers.l1 k l t u 0 D P B))) true) :
    ∀ d i : Nat, i + d = l.length → Ev (fun k => laws_FnBuffers.l0 k l a b i D P B D' P' B') true
  | 0, i, h => by
    refine Ev.step (fun k => ?_) tail
    simp only [laws_FnBuffers.l0]
    rw [if_neg (by omega)]
  | d + 1, i, h => by
    refine Ev.step (fun k => ?_) (buffers_l0 l a b D P B D' P' B' ha hb hn h1 h2 h3 h4 h5 tail d (i + 1) (by omega))
    have q1 := h1 i (by omega)
    have q2 := h2 i (by omega)
    have q3 := h3 i (by omega)
    simp only [laws_FnBuffers.l0]
    rw [if_pos (by omega), if_pos (by omega), if_pos (by omega), if_neg (by omega)]
    by_cases z : i = 0
    · subst z
      rw [if_pos rfl] at q2
      rw [if_neg (by omega), if_pos (by omega), if_pos (by omega), if_neg (by omega), wsucc (by omega)]
    · rw [if_neg z] at q2
      have q4 := h4 (i - 1) (by omega)
      have q5 := h5 (i - 1) (by omega)
      rw [if_pos (by omega), w64 (n := (i : Int) - 1) (by omega) (by omega), show (i : Int) - 1 = ((i - 1 : Nat) : Int) by omega, if_pos (by omega), if_pos (by omega), if_pos (by omega), w64 (n := rd a ((i - 1 : Nat) : Int) + rd l i) (by omega) (by omega), if_neg (by omega), if_neg (by omega), wsucc (by omega)]
theorem ready_bound {D P B : Int} (ht : timing D P B) : ∀ (l : List Int) (k : Nat) (s : Int), k + l.length ≤ 32 → (∀ i : Nat, i < l.length → 0 ≤ rd l i ∧ rd l i ≤ 1000) → 0 ≤ s → s ≤ 41000 + 1000 * (k : Int) → ∀ i : Nat, i < l.length → 0 ≤ rd (readyFrom D P B l k s) i ∧ rd (readyFrom D P B l k s) i ≤ 41000 + 1000 * ((k + i + 1 : Nat) : Int)
  | [], _, _, _, _, _, _, i, h => by simp at h
  | n :: ns, k, s, hk, hl, h0, h1, i, h => by
    have hn := hl 0 (by simp)
    rw [rd_cons_zero] at hn
    simp only [List.length_cons] at hk h
    obtain ⟨_, b0, b1, _⟩ := doneAt_eq ht (show k < 32 by omega) h0 h1 hn.1 hn.2
    simp only [readyFrom]
    cases i with
    | zero =>
      rw [rd_cons_zero]
      exact ⟨b0, b1⟩
    | succ i =>
      rw [rd_cons_succ]
      have := ready_bound ht ns (k + 1) _ (by omega) (fun j hj => by
        have := hl (j + 1) (by simp; omega)
        rwa [rd_cons_succ] at this) b0 b1 i (by omega)
      rw [show k + (i + 1) + 1 = k + 1 + i + 1 by omega]
      exact this
theorem FnBuffers : laws_FnBuffers.Pure := by
  intro l hm hb hw
  refine Ev.rounds ?_
  unfold laws_FnBuffers.f
  refine ev_eq (g := laws_big.f l) rfl ?_
  by_cases hl : (l.length : Int) > 1048576
  · exact ev_pos (decide_eq_true hl) (Ev.now _)
  refine ev_neg (by simpa using hl) ?_
  obtain ⟨r, D, P, B, ed, hr, ⟨d0, d1⟩, ⟨p0, p1⟩, b0, b1⟩ := drawTiming_ev l (by omega)
  have ht : timing D P B := ⟨by omega, by omega, by omega⟩
  have ht2 : timing D P (B + 1) := ⟨by omega, by omega, by omega⟩
  have eB : mn 32 (wrap64 (B + 1)) = B + 1 := by
    rw [w64 (by omega) (by omega)]
    unfold mn
    rw [if_pos (by omega)]
  have ea : readyOf r D P B = readyFrom D P B r 0 0 := by
    unfold readyOf
    rw [if_pos ⟨ht, hr⟩]
  have eb : readyOf r D P (B + 1) = readyFrom D P (B + 1) r 0 0 := by
    unfold readyOf
    rw [if_pos ⟨ht2, hr⟩]
  have ra := impl_Ready_ev r D P B
  have rb := impl_Ready_ev r D P (B + 1)
  rw [ea] at ra
  rw [eb] at rb
  have la := readyFrom_length D P B r 0 0
  have lb := readyFrom_length D P (B + 1) r 0 0
  refine ed.bind ?_
  simp only [eB]
  refine ra.bind (rb.bind (ev_pos (by omega) ?_))
  rw [show (((readyFrom D P (B + 1) r 0 0).length : Int) != (r.length : Int)) = false by simp [lb]]
  refine Ev.step (fun k => by simp only [laws_FnBuffers.j0]; rw [if_neg (by simp)]) ?_
  have hbd := ready_bound ht r 0 0 (by have := hr.1; omega) hr.2 (by omega) (by omega)
  have hrl := hr.1
  have hmore := ready_more (D := D) (P := P) (B := B) (B' := B + 1) (by omega) (by omega) r 0 0 0 (Int.le_refl _)
  refine buffers_l0 r _ _ D P B D P (B + 1) la lb hr.1 hmore (ready_up D P B r 0 0) hr.2 (fun i hi => by have := (hbd i hi).2; omega) (fun i hi => (hbd i hi).1) ?_ r.length 0 (by omega)
  refine (impl_Late_ev r D P B).bind ((impl_Late_ev r D P (B + 1)).bind ?_)
  have s1 := lateOf_length r D P B
  have s2 := lateOf_length r D P (B + 1)
  refine buffers_l1 r _ _ D P B (by omega) (by omega) (fun x hx => ?_) ?_ _ 0 (Nat.zero_add _)
  · unfold lateOf at hx ⊢
    rw [eb] at hx
    rw [ea]
    obtain ⟨i, h1, h2, h3⟩ := (late_mem D P _ 0 x).1 hx
    refine (late_mem D P _ 0 x).2 ⟨i, by omega, h2, ?_⟩
    have := hmore i (by omega)
    omega
  · refine (impl_Over_ev r D P B).bind ?_
    have s3 := overOf_length r D P B
    refine buffers_l2 r _ D P B (by omega) (fun i hi => ?_) _ 0 (Nat.zero_add _)
    have hmem := rd_mem _ i hi
    have eo : overOf r D P B = overFrom P r 0 := by
      unfold overOf
      rw [if_pos ⟨ht, hr⟩]
    rw [eo] at hmem
    obtain ⟨j, j1, j2, j3⟩ := over_mem P r 0 _ hmem
    rw [eo, j2, Nat.zero_add]
    exact ⟨by omega, by omega, j3⟩

end Go.Proofs.Ytcjkndcmeedneaa.Pure
