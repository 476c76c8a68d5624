/-
  For every code the law of tones returns true: tones never fall, what is printed for a tone gives at least this tone but not with less, and the straight curve and a blended curve are right curves.
-/
import Derived.Test.YtnbobpbdclbjlaaPFnTonesx4
import Derived.Test.YtnbobpbdclbjlaaWSized
/- The printed row names 'PrintWords.sized_ints' without its seat's letter W: the same law under the name that it looks for. -/
namespace Go.Proofs.Ytnbobpbdclbjlaa.PrintWords
open Go.ChangeShapes Go.WideShapes
theorem sized_ints {H : Type} {enc : TypeId × Value → H} {P : Program} {W : World} {base : Nat} {spare : Nat → Bool} {held : Bool} {t e : TypeId} {k : IntKind} {a : Option Addr} {len cap : Nat} {d : DataW H} {ps : List MemPlace} {ts : List TypeId} {ds : List (DataW H)} {j : Nat}
    (hsz : (DataW.weightsEach P ts ds).all (· ≤ reachBytes) = true) (ht : ts[j]? = some t) (hd : ds[j]? = some d) (hu : P.underlying t = some (.slice e)) (he : P.underlying e = some (.int k)) (hc : P.cellsOf e = 1) {B : Nat} (hB : P.bytesOf e = B)
    (h : DataW.Trod enc P W base spare held t (.slice a len cap) d ps) : len * B ≤ 140737488351232 :=
  Go.Proofs.YtnbobpbdclbjlaaW.PrintWords.sized_ints hsz ht hd hu he hc hB h
end Go.Proofs.Ytnbobpbdclbjlaa.PrintWords
namespace Go.Proofs.Ytnbobpbdclbjlaa.Pure
open Go.RowKit Go.Proofs.Ytnbobpbdclbjlaa.PFnTones Go.Proofs.YtnbobpbdclbjlaaW.PrintWords Go.Proofs.YtnbobpbdclbjlaaW.PrintLast Go.Proofs.YtnbobpbdclbjlaaW.PrintMore
set_option linter.unusedVariables false
set_option linter.unusedSimpArgs false

theorem w64 {n : Int} (h1 : -9223372036854775808 ≤ n) (h2 : n ≤ 9223372036854775807) : wrap64 n = n := by
  unfold wrap64
  omega
theorem wsucc {i : Nat} (h : i ≤ 1099511627776) : wrap64 ((i : Int) + 1) = ((i + 1 : Nat) : Int) := by
  rw [w64 (by omega) (by omega)]
  omega
theorem rd_nat (l : List Int) (i : Nat) : rd l (i : Int) = l.getD i 0 := by simp [rd]
theorem getD_drop (l : List Int) (i : Nat) (h : i < l.length) : l.drop i = l.getD i 0 :: l.drop (i + 1) := by
  rw [List.drop_eq_getElem_cons h]
  simp [List.getD_eq_getElem?_getD, List.getElem?_eq_getElem h]
theorem getD_take (l : List Int) (i : Nat) (h : i < l.length) : l.take (i + 1) = l.take i ++ [l.getD i 0] := by
  rw [List.take_succ_eq_append_getElem h]
  simp [List.getD_eq_getElem?_getD, List.getElem?_eq_getElem h]
theorem set_mid (p q : List Int) (u v : Int) (i : Nat) (h : p.length = i) : (p ++ u :: q).set i v = p ++ v :: q := by
  subst h
  simp [List.set_append_right]
theorem bind_id {α : Type} {g : Nat → Option α} {r : α} (h : Ev g r) : Ev (fun n => (g n).bind fun x => some x) r := by
  obtain ⟨K, h⟩ := h
  exact ⟨K, fun k hk => by simp [h k hk]⟩
theorem ev_pos {α : Type} {c : Prop} [Decidable c] {f g : Nat → Option α} {r : α} (h : c) (k : Ev f r) : Ev (fun n => if c then f n else g n) r := Ev.congr (fun n => if_pos h) k
theorem ev_neg {α : Type} {c : Prop} [Decidable c] {f g : Nat → Option α} {r : α} (h : ¬ c) (k : Ev g r) : Ev (fun n => if c then f n else g n) r := Ev.congr (fun n => if_neg h) k
theorem ev_eq {α β : Type} {g : Option α} {f : Nat → α → Option β} {a : α} {r : β} (h : g = some a) (k : Ev (fun n => f n a) r) : Ev (fun n => g.bind (f n)) r := by
  subst h
  exact k
theorem td {v : Int} (h : 0 ≤ v) (c : Int) : Int.tdiv v c = v / c := Int.tdiv_eq_ediv_of_nonneg h
theorem tm {v : Int} (h : 0 ≤ v) (c : Int) : Int.tmod v c = v % c := Int.tmod_eq_emod_of_nonneg h

/-- A right tone curve: 17 values from 0 to 255 that never fall. -/
def curve (a : List Int) : Prop := a.length = 17 ∧ rd a 0 = 0 ∧ rd a 16 = 255 ∧ ∀ i : Nat, i < 16 → rd a i ≤ rd a ((i + 1 : Nat) : Int)
instance (a : List Int) : Decidable (curve a) := by
  unfold curve
  infer_instance
theorem curve_mk {a : List Int} (h0 : a.length = 17) (h1 : rd a 0 = 0) (h2 : rd a 16 = 255) (h3 : ∀ i : Nat, 1 ≤ i → i ≤ 16 → rd a ((i - 1 : Nat) : Int) ≤ rd a i) : curve a :=
  ⟨h0, h1, h2, fun i hi => h3 (i + 1) (by omega) (by omega)⟩
theorem curve_step {a : List Int} (h : curve a) (i : Nat) (h1 : 1 ≤ i) (h2 : i ≤ 16) : rd a ((i - 1 : Nat) : Int) ≤ rd a i := by
  have := h.2.2.2 (i - 1) (by omega)
  rwa [show i - 1 + 1 = i by omega] at this
theorem curve_le {a : List Int} (h : curve a) : ∀ j i : Nat, i ≤ j → j ≤ 16 → rd a i ≤ rd a j := by
  intro j
  induction j with
  | zero => intro i h1 h2; obtain rfl : i = 0 := by omega
            exact Int.le_refl _
  | succ j ih =>
    intro i h1 h2
    by_cases e : i = j + 1
    · subst e
      exact Int.le_refl _
    · have h3 := ih i (by omega) (by omega)
      have h4 := h.2.2.2 j (by omega)
      omega
theorem curve_in {a : List Int} (h : curve a) (i : Nat) (hi : i ≤ 16) : 0 ≤ rd a i ∧ rd a i ≤ 255 := by
  have h1 := curve_le h i 0 (by omega) hi
  have h2 := curve_le h 16 i hi (by omega)
  have h3 := h.2.1
  have h4 := h.2.2.1
  have e0 : rd a ((0 : Nat) : Int) = rd a 0 := rfl
  have e1 : rd a ((16 : Nat) : Int) = rd a 16 := rfl
  omega

/-- What a right curve gives at a value from 0 to 256. -/
def tone (a : List Int) (v : Int) : Int := if v = 256 then 255 else rd a (v / 16) + (v % 16 * (rd a (v / 16 + 1) - rd a (v / 16))) / 16
theorem curve_int {a : List Int} (h : curve a) {i : Int} (h0 : 0 ≤ i) (h1 : i ≤ 16) : 0 ≤ rd a i ∧ rd a i ≤ 255 := by
  obtain ⟨n, rfl⟩ : ∃ n : Nat, i = n := ⟨i.toNat, by omega⟩
  exact curve_in h n (by omega)
theorem curve_up {a : List Int} (h : curve a) {i j : Int} (h0 : 0 ≤ i) (hij : i ≤ j) (h1 : j ≤ 16) : rd a i ≤ rd a j := by
  obtain ⟨n, rfl⟩ : ∃ n : Nat, i = n := ⟨i.toNat, by omega⟩
  obtain ⟨m, rfl⟩ : ∃ m : Nat, j = m := ⟨j.toNat, by omega⟩
  exact curve_le h m n (by omega) (by omega)
theorem part_bound {r d : Int} (h0 : 0 ≤ r) (h1 : r < 16) (h2 : 0 ≤ d) (h3 : d ≤ 255) : 0 ≤ r * d ∧ r * d ≤ 3825 ∧ r * d ≤ 15 * d := by
  have h4 : r * d ≤ 15 * d := Int.mul_le_mul_of_nonneg_right (by omega) h2
  have h5 : 0 ≤ r * d := Int.mul_nonneg h0 h2
  omega
/-- The program's sum at a value below 256: no sum wraps. -/
theorem tone_expr {a : List Int} (h : curve a) {v : Int} (h0 : 0 ≤ v) (h1 : v < 256) :
    wrap64 (Int.tdiv v 16) = v / 16 ∧ wrap64 ((wrap64 (Int.tdiv v 16)) + 1) = v / 16 + 1 ∧
    wrap64 ((rd a (wrap64 (Int.tdiv v 16))) + (wrap64 (Int.tdiv (wrap64 ((Int.tmod v 16) * (wrap64 ((rd a (wrap64 ((wrap64 (Int.tdiv v 16)) + 1))) - (rd a (wrap64 (Int.tdiv v 16))))))) 16))) = tone a v := by
  have e1 : wrap64 (Int.tdiv v 16) = v / 16 := by rw [td h0, w64 (by omega) (by omega)]
  have e2 : wrap64 ((wrap64 (Int.tdiv v 16)) + 1) = v / 16 + 1 := by rw [e1, w64 (by omega) (by omega)]
  refine ⟨e1, e2, ?_⟩
  rw [e2, e1, tm h0]
  have b1 := curve_int h (i := v / 16) (by omega) (by omega)
  have b2 := curve_int h (i := v / 16 + 1) (by omega) (by omega)
  have b3 := curve_up h (i := v / 16) (j := v / 16 + 1) (by omega) (by omega) (by omega)
  unfold tone
  rw [if_neg (by omega)]
  generalize rd a (v / 16) = x at *
  generalize rd a (v / 16 + 1) = y at *
  rw [w64 (n := y - x) (by omega) (by omega)]
  have b4 := part_bound (r := v % 16) (d := y - x) (by omega) (by omega) (by omega) (by omega)
  generalize (v % 16) * (y - x) = z at *
  rw [w64 (n := z) (by omega) (by omega), td (by omega), w64 (n := z / 16) (by omega) (by omega), w64 (by omega) (by omega)]
theorem tone_in {a : List Int} (h : curve a) {v : Int} (h0 : 0 ≤ v) (h1 : v < 256) : rd a (v / 16) ≤ tone a v ∧ tone a v ≤ rd a (v / 16 + 1) := by
  have b1 := curve_int h (i := v / 16) (by omega) (by omega)
  have b2 := curve_int h (i := v / 16 + 1) (by omega) (by omega)
  have b3 := curve_up h (i := v / 16) (j := v / 16 + 1) (by omega) (by omega) (by omega)
  unfold tone
  rw [if_neg (by omega)]
  generalize rd a (v / 16) = x at *
  generalize rd a (v / 16 + 1) = y at *
  have b4 := part_bound (r := v % 16) (d := y - x) (by omega) (by omega) (by omega) (by omega)
  generalize (v % 16) * (y - x) = z at *
  omega
theorem tone_bound {a : List Int} (h : curve a) {v : Int} (h0 : 0 ≤ v) (h1 : v ≤ 256) : 0 ≤ tone a v ∧ tone a v ≤ 255 := by
  by_cases e : v = 256
  · unfold tone
    rw [if_pos e]
    omega
  · have b0 := tone_in h h0 (by omega)
    have b1 := curve_int h (i := v / 16) (by omega) (by omega)
    have b2 := curve_int h (i := v / 16 + 1) (by omega) (by omega)
    omega
theorem tone_up {a : List Int} (h : curve a) {v : Int} (h0 : 0 ≤ v) (h1 : v < 256) : tone a v ≤ tone a (v + 1) := by
  have b := tone_in h h0 h1
  by_cases e : v + 1 = 256
  · have : tone a (v + 1) = 255 := by
      unfold tone
      rw [if_pos e]
    have b2 := curve_int h (i := v / 16 + 1) (by omega) (by omega)
    omega
  · by_cases q : (v + 1) / 16 = v / 16
    · have b3 := curve_up h (i := v / 16) (j := v / 16 + 1) (by omega) (by omega) (by omega)
      unfold tone
      rw [if_neg (by omega), if_neg e, q]
      have h3 : v % 16 * (rd a (v / 16 + 1) - rd a (v / 16)) ≤ (v + 1) % 16 * (rd a (v / 16 + 1) - rd a (v / 16)) := Int.mul_le_mul_of_nonneg_right (by omega) (by omega)
      omega
    · have b4 := tone_in h (v := v + 1) (by omega) (by omega)
      rw [show (v + 1) / 16 = v / 16 + 1 by omega] at b4
      omega

theorem impl_CurveOk_l0 (a : List Int) (hl : a.length = 17) (c0 : rd a 0 = 0) (c1 : rd a 16 = 255) :
    ∀ d i : Nat, i + d = 17 → (∀ j : Nat, 1 ≤ j → j < i → rd a ((j - 1 : Nat) : Int) ≤ rd a j) → Ev (fun k => impl_CurveOk.l0 k a a (a.length : Int) i) (decide (curve a))
  | 0, i, h, hj => by
    refine Ev.step (f := fun _ => some true) (fun k => ?_) ?_
    · simp only [impl_CurveOk.l0]
      rw [if_neg (by omega)]
    · rw [decide_eq_true (curve_mk hl c0 c1 fun j h1 h2 => hj j h1 (by omega))]
      exact Ev.now _
  | d + 1, i, h, hj => by
    by_cases w : rd a i ≥ 0 ∧ rd a i ≤ 255
    · by_cases i0 : i = 0
      · subst i0
        refine Ev.step (f := fun k => impl_CurveOk.l0 k a a (a.length : Int) ((0 + 1 : Nat) : Int)) (fun k => ?_) (impl_CurveOk_l0 a hl c0 c1 d (0 + 1) (by omega) (fun j h1 h2 => by omega))
        simp only [impl_CurveOk.l0, impl_within.f]
        rw [if_pos (by omega), if_pos (by omega), if_pos (by omega), if_pos w.1, Option.bind_some, if_pos (decide_eq_true w.2), if_neg (by omega), wsucc (by omega)]
      · have e : wrap64 ((i : Int) - 1) = ((i - 1 : Nat) : Int) := by
          rw [w64 (by omega) (by omega)]
          omega
        by_cases c : rd a i < rd a ((i - 1 : Nat) : Int)
        · refine Ev.step (f := fun _ => some false) (fun k => ?_) ?_
          · simp only [impl_CurveOk.l0, impl_within.f]
            rw [if_pos (by omega), if_pos (by omega), if_pos (by omega), if_pos w.1, Option.bind_some, if_pos (decide_eq_true w.2), if_pos (by omega), e, if_pos (by omega), if_pos (by omega), if_pos c]
          · rw [decide_eq_false (show ¬ curve a from fun h3 => by have := curve_step h3 i (by omega) (by omega); omega)]
            exact Ev.now _
        · refine Ev.step (f := fun k => impl_CurveOk.l0 k a a (a.length : Int) ((i + 1 : Nat) : Int)) (fun k => ?_) (impl_CurveOk_l0 a hl c0 c1 d (i + 1) (by omega) (fun j h1 h2 => ?_))
          · simp only [impl_CurveOk.l0, impl_within.f]
            rw [if_pos (by omega), if_pos (by omega), if_pos (by omega), if_pos w.1, Option.bind_some, if_pos (decide_eq_true w.2), if_pos (by omega), e, if_pos (by omega), if_pos (by omega), if_neg c, wsucc (by omega)]
          · by_cases e : j = i
            · subst e
              omega
            · exact hj j h1 (by omega)
    · refine Ev.step (f := fun _ => some false) (fun k => ?_) ?_
      · simp only [impl_CurveOk.l0, impl_within.f]
        rw [if_pos (by omega), if_pos (by omega), if_pos (by omega)]
        by_cases c : rd a i ≥ 0
        · rw [if_pos c]
          simp [show ¬ rd a i ≤ 255 by omega]
        · rw [if_neg c]
          simp
      · rw [decide_eq_false (show ¬ curve a from fun h3 => by have := curve_in h3 i (by omega); omega)]
        exact Ev.now _
theorem impl_CurveOk_ev (a : List Int) (hn : a.length ≤ 1099511627776) : Ev (fun k => impl_CurveOk.f k a) (decide (curve a)) := by
  have no : ∀ h : ¬ curve a, Ev (fun k => impl_CurveOk.j0 k a true) (decide (curve a)) := by
    intro h
    rw [decide_eq_false h]
    exact Ev.step (f := fun _ => some false) (fun k => by simp only [impl_CurveOk.j0]; rw [if_pos trivial]) (Ev.now _)
  unfold impl_CurveOk.f
  by_cases hl : (a.length : Int) = 17
  · refine Ev.congr (fun k => if_pos hl) ?_
    refine Ev.congr (fun k => if_pos (by omega)) ?_
    by_cases h0 : rd a 0 = 0
    · refine Ev.congr (fun k => if_pos h0) ?_
      refine Ev.congr (fun k => if_pos (by omega)) ?_
      by_cases h1 : rd a 16 = 255
      · refine Ev.step (f := fun k => impl_CurveOk.l0 k a a (a.length : Int) 0) (fun k => ?_) (impl_CurveOk_l0 a (by omega) h0 h1 17 0 (by omega) (fun j _ _ => by omega))
        simp only [impl_CurveOk.j0]
        rw [if_neg (by simp [h1])]
      · rw [show (rd a 16 != 255) = true by simp [h1]]
        exact no fun h => h1 h.2.2.1
    · refine Ev.congr (fun k => if_neg h0) ?_
      exact no fun h => h0 h.2.1
  · refine Ev.congr (fun k => if_neg hl) ?_
    exact no fun h => hl (by rw [h.1]; rfl)

theorem within_eq (a b c : Int) : impl_within.f a b c = some (decide (b ≤ a ∧ a ≤ c)) := by
  unfold impl_within.f
  by_cases h : a ≥ b
  · rw [if_pos h]
    simp [show b ≤ a from h]
  · rw [if_neg h]
    simp [show ¬ b ≤ a from h]

theorem impl_ToneAt_ev (a : List Int) (v : Int) (hn : a.length ≤ 1099511627776) : Ev (fun k => impl_ToneAt.f k a v) (if curve a ∧ 0 ≤ v ∧ v ≤ 256 then tone a v else -1) := by
  unfold impl_ToneAt.f
  refine (impl_CurveOk_ev a hn).bind ?_
  have no : Ev (fun k => impl_ToneAt.j0 k a v true) (-1) := Ev.step (f := fun _ => some (-1)) (fun k => by simp only [impl_ToneAt.j0]; rw [if_pos trivial]) (Ev.now _)
  by_cases h : curve a
  · refine ev_pos (decide_eq_true h) ?_
    refine ev_eq (within_eq _ _ _) ?_
    by_cases hv : 0 ≤ v ∧ v ≤ 256
    · rw [if_pos ⟨h, hv⟩, decide_eq_true hv]
      by_cases e : v = 256
      · refine Ev.step (f := fun _ => some (tone a v)) (fun k => ?_) (Ev.now _)
        simp only [impl_ToneAt.j0]
        rw [if_neg (by simp), if_pos e, if_pos (by have := h.1; omega), h.2.2.1]
        unfold tone
        rw [if_pos e]
      · obtain ⟨e1, e2, e3⟩ := tone_expr h hv.1 (show v < 256 by omega)
        refine Ev.step (f := fun _ => some (tone a v)) (fun k => ?_) (Ev.now _)
        simp only [impl_ToneAt.j0]
        rw [if_neg (by simp), if_neg e, e3, e2, e1]
        have := h.1
        rw [if_pos (by omega), if_pos (by omega), if_pos (by omega), if_pos (by omega)]
    · rw [if_neg (fun q => hv q.2), decide_eq_false hv]
      exact no
  · rw [if_neg (fun q => h q.1)]
    exact ev_neg (by simp [h]) no

/-- The first value from n on, at most d further, that gives at least t. -/
def firstAt (a : List Int) (t : Int) : Nat → Nat → Nat
  | 0, n => n
  | d + 1, n => if tone a n ≥ t then n else firstAt a t d (n + 1)
theorem firstAt_le (a : List Int) (t : Int) : ∀ d n, n ≤ firstAt a t d n ∧ firstAt a t d n ≤ n + d
  | 0, n => ⟨Nat.le_refl _, Nat.le_refl _⟩
  | d + 1, n => by
    unfold firstAt
    split
    · omega
    · have := firstAt_le a t d (n + 1)
      omega
theorem firstAt_below (a : List Int) (t : Int) : ∀ d n m, n ≤ m → m < firstAt a t d n → tone a m < t
  | 0, n, m, h1, h2 => by
    simp only [firstAt] at h2
    omega
  | d + 1, n, m, h1, h2 => by
    unfold firstAt at h2
    split at h2
    · omega
    · by_cases e : m = n
      · subst e
        omega
      · exact firstAt_below a t d (n + 1) m (by omega) h2
theorem firstAt_at (a : List Int) (t : Int) : ∀ d n, tone a ((n + d : Nat) : Int) ≥ t → tone a (firstAt a t d n) ≥ t
  | 0, n, h => h
  | d + 1, n, h => by
    unfold firstAt
    split
    · assumption
    · exact firstAt_at a t d (n + 1) (by rw [show n + 1 + d = n + (d + 1) by omega]; exact h)
theorem impl_PrintFor_l0 (a : List Int) (t : Int) (h : curve a) (ht : t ≤ 255) :
    ∀ d n : Nat, n + d = 256 → Ev (fun k => impl_PrintFor.l0 k a t n) (firstAt a t d n)
  | 0, n, hd => by
    obtain rfl : n = 256 := by omega
    refine Ev.step (f := fun k => (impl_ToneAt.f k a ((256 : Nat) : Int)).bind fun t133 => (if t133 ≥ t then (some ((256 : Nat) : Int)) else (impl_PrintFor.l0 k a t (wrap64 (((256 : Nat) : Int) + 1))))) (fun k => ?_) ?_
    · simp only [impl_PrintFor.l0]
      rw [if_pos (by omega)]
    · refine (impl_ToneAt_ev a _ (by have := h.1; omega)).bind ?_
      rw [if_pos ⟨h, by omega, by omega⟩]
      refine ev_pos ?_ (Ev.now _)
      unfold tone
      rw [if_pos (by omega)]
      omega
  | d + 1, n, hd => by
    refine Ev.step (f := fun k => (impl_ToneAt.f k a (n : Int)).bind fun t133 => (if t133 ≥ t then (some (n : Int)) else (impl_PrintFor.l0 k a t (wrap64 ((n : Int) + 1))))) (fun k => ?_) ?_
    · simp only [impl_PrintFor.l0]
      rw [if_pos (by omega)]
    · refine (impl_ToneAt_ev a _ (by have := h.1; omega)).bind ?_
      rw [if_pos ⟨h, by omega, by omega⟩]
      unfold firstAt
      by_cases c : tone a n ≥ t
      · rw [if_pos c]
        exact ev_pos c (Ev.now _)
      · rw [if_neg c, wsucc (by omega)]
        exact ev_neg c (impl_PrintFor_l0 a t h ht d (n + 1) (by omega))
theorem impl_PrintFor_ev (a : List Int) (t : Int) (hn : a.length ≤ 1099511627776) : Ev (fun k => impl_PrintFor.f k a t) (if curve a ∧ 0 ≤ t ∧ t ≤ 255 then (firstAt a t 256 0 : Int) else -1) := by
  unfold impl_PrintFor.f
  refine (impl_CurveOk_ev a hn).bind ?_
  have no : Ev (fun k => impl_PrintFor.j0 k a t true) (-1) := Ev.step (f := fun _ => some (-1)) (fun k => by simp only [impl_PrintFor.j0]; rw [if_pos trivial]) (Ev.now _)
  by_cases h : curve a
  · refine ev_pos (decide_eq_true h) ?_
    refine ev_eq (within_eq _ _ _) ?_
    by_cases hv : 0 ≤ t ∧ t ≤ 255
    · rw [if_pos ⟨h, hv⟩, decide_eq_true hv]
      refine Ev.step (f := fun k => impl_PrintFor.l0 k a t 0) (fun k => ?_) (impl_PrintFor_l0 a t h hv.2 256 0 (by omega))
      simp only [impl_PrintFor.j0]
      rw [if_neg (by simp)]
    · rw [if_neg (fun q => hv q.2), decide_eq_false hv]
      exact no
  · rw [if_neg (fun q => h q.1)]
    exact ev_neg (by simp [h]) no

/-- One blended value, as the program reckons it. -/
def blendAt (a b : List Int) (p i : Int) : Int := wrap64 (Int.tdiv (wrap64 ((wrap64 ((rd a i) * (wrap64 (100 - p)))) + (wrap64 ((rd b i) * p)))) 100)
def blend (a b : List Int) (p : Int) (n : Nat) : List Int := (List.range n).map fun i => blendAt a b p (i : Nat)
theorem blend_succ (a b : List Int) (p : Int) (n : Nat) : blend a b p (n + 1) = blend a b p n ++ [blendAt a b p n] := by
  unfold blend
  rw [List.range_succ, List.map_append]
  rfl
theorem blend_length (a b : List Int) (p : Int) (n : Nat) : (blend a b p n).length = n := by simp [blend]
theorem impl_Blend_l0 (a b : List Int) (p : Int) (ha : a.length = 17) (hb : b.length = 17) :
    ∀ d i : Nat, i + d = 17 → Ev (fun k => impl_BlendCurves.l0 k a b p (blend a b p i) (a.length : Int) i) (blend a b p 17, true)
  | 0, i, h => by
    obtain rfl : i = 17 := by omega
    refine Ev.step (f := fun _ => some (blend a b p 17, true)) (fun k => ?_) (Ev.now _)
    simp only [impl_BlendCurves.l0]
    rw [if_neg (by omega)]
  | d + 1, i, h => by
    refine Ev.step (f := fun k => impl_BlendCurves.l0 k a b p (blend a b p (i + 1)) (a.length : Int) ((i + 1 : Nat) : Int)) (fun k => ?_) (impl_Blend_l0 a b p ha hb d (i + 1) (by omega))
    simp only [impl_BlendCurves.l0]
    rw [if_pos (by omega), if_pos (by omega), if_pos (by omega), if_pos (by omega), if_pos (by rw [blend_length]; omega), wsucc (by omega), blend_succ]
    rfl
theorem impl_Blend_ev (a b : List Int) (p : Int) (ha : a.length ≤ 1099511627776) (hb : b.length ≤ 1099511627776) :
    Ev (fun k => impl_BlendCurves.f k a b p) (if curve a ∧ curve b ∧ 0 ≤ p ∧ p ≤ 100 then (blend a b p 17, true) else ([], false)) := by
  unfold impl_BlendCurves.f
  have no : Ev (fun k => impl_BlendCurves.j0 k a b p true) ([], false) := Ev.step (f := fun _ => some ([], false)) (fun k => by simp only [impl_BlendCurves.j0]; rw [if_pos trivial]) (Ev.now _)
  refine (impl_CurveOk_ev a ha).bind ?_
  by_cases h : curve a
  · refine ev_pos (decide_eq_true h) ?_
    refine (impl_CurveOk_ev b hb).bind ?_
    by_cases h2 : curve b
    · refine ev_pos (decide_eq_true h2) ?_
      refine ev_eq (within_eq _ _ _) ?_
      by_cases hv : 0 ≤ p ∧ p ≤ 100
      · rw [if_pos ⟨h, h2, hv⟩, decide_eq_true hv]
        refine Ev.step (f := fun k => impl_BlendCurves.l0 k a b p (blend a b p 0) (a.length : Int) 0) (fun k => ?_) (impl_Blend_l0 a b p h.1 h2.1 17 0 (by omega))
        simp only [impl_BlendCurves.j0]
        rw [if_neg (by simp)]
        rfl
      · rw [if_neg (fun q => hv q.2.2), decide_eq_false hv]
        exact no
    · rw [if_neg (fun q => h2 q.2.1)]
      exact ev_neg (by simp [h2]) no
  · rw [if_neg (fun q => h q.1)]
    exact ev_neg (by simp [h]) no

theorem and255 (n : Int) : Go.bits .and .i64 n 255 = n % 256 := by
  have h255 : (BitVec.ofInt 64 255).toNat = 2 ^ 8 - 1 := by decide
  have key : (BitVec.ofInt 64 n &&& BitVec.ofInt 64 255).toNat = (n % ((2 ^ 64 : Nat) : Int)).toNat % 2 ^ 8 := by
    rw [BitVec.toNat_and, BitVec.toNat_ofInt, h255, Nat.and_two_pow_sub_one_eq_mod]
  show IntKind.i64.wrap ((BitVec.ofInt 64 n &&& BitVec.ofInt 64 255).toNat : Nat) = n % 256
  rw [key, IntKind.wrap_i64]
  omega
theorem l01New_l0 (l : List Int) (hn : l.length ≤ 1099511627776) : ∀ d i : Nat, i + d = l.length → ∀ h : Int, ∃ h', Ev (fun k => spec_l01New.l0 k l h i) (l, 0, h')
  | 0, i, hd, h => by
    refine ⟨h, Ev.step (f := fun _ => some (l, 0, h)) (fun k => ?_) (Ev.now _)⟩
    simp only [spec_l01New.l0]
    rw [if_neg (by omega)]
  | d + 1, i, hd, h => by
    by_cases c : (i : Int) < 4000
    · obtain ⟨h', e⟩ := l01New_l0 l hn d (i + 1) (by omega) (Go.bits .and .i64 (wrap64 ((wrap64 ((wrap64 (h * 131)) + (wrap64 (rd l i)))) + 7)) 1073741823)
      refine ⟨h', Ev.step (fun k => ?_) e⟩
      simp only [spec_l01New.l0]
      rw [if_pos (by omega), if_pos c, if_pos (by omega), wsucc (by omega)]
    · refine ⟨h, Ev.step (f := fun _ => some (l, 0, h)) (fun k => ?_) (Ev.now _)⟩
      simp only [spec_l01New.l0]
      rw [if_pos (by omega), if_neg c]
theorem l01New_ev (l : List Int) (hn : l.length ≤ 1099511627776) : ∃ h, Ev (fun k => spec_l01New.f k l) (l, 0, h) :=
  l01New_l0 l hn l.length 0 (by omega) _
/-- A cursor that can be read from. -/
def cur (l : List Int) (i : Int) : Prop := l.length ≤ 1099511627776 ∧ 0 ≤ i
theorem l01Byte_ex {l : List Int} {i : Int} (h : Int) (hc : cur l i) : ∃ x i' h', spec_l01Byte.f l i h = some (x, i', h') ∧ cur l i' ∧ 0 ≤ x ∧ x ≤ 255 := by
  obtain ⟨hl, h0⟩ := hc
  unfold spec_l01Byte.f
  by_cases c : i < (l.length : Int)
  · rw [if_pos c, if_pos h0, w64 (n := i + 1) (by omega) (by omega)]
    refine ⟨_, _, _, rfl, ⟨hl, by omega⟩, ?_⟩
    simp only [and255]
    omega
  · rw [if_neg c]
    refine ⟨_, _, _, rfl, ⟨hl, h0⟩, ?_⟩
    simp only [and255]
    omega

theorem l01Below_ex {l : List Int} {i : Int} (h : Int) (hc : cur l i) {n : Int} (hn : 0 < n) (hn2 : n ≤ 1000000) : ∃ x i' h', spec_l01Below.f l i h n = some (x, i', h') ∧ cur l i' ∧ 0 ≤ x ∧ x < n := by
  unfold spec_l01Below.f
  rw [if_neg (by omega)]
  by_cases c : n ≤ 256
  · rw [if_pos c]
    obtain ⟨x, i1, h1, e, hc1, b0, b1⟩ := l01Byte_ex h hc
    rw [e]
    simp only [Option.bind_some]
    rw [if_neg (by omega), tm b0]
    exact ⟨_, _, _, rfl, hc1, Int.emod_nonneg _ (by omega), Int.emod_lt_of_pos _ hn⟩
  · rw [if_neg c]
    obtain ⟨x, i1, h1, e1, hc1, b0, b1⟩ := l01Byte_ex h hc
    rw [e1]
    simp only [Option.bind_some]
    obtain ⟨y, i2, h2, e2, hc2, c0, c1⟩ := l01Byte_ex h1 hc1
    rw [e2]
    simp only [Option.bind_some]
    obtain ⟨z, i3, h3, e3, hc3, d0, d1⟩ := l01Byte_ex h2 hc2
    rw [e3]
    simp only [Option.bind_some]
    obtain ⟨u, i4, h4, e4, hc4, f0, f1⟩ := l01Byte_ex h3 hc3
    rw [e4]
    simp only [Option.bind_some]
    rw [if_neg (by omega), w64 (n := x * 16777216) (by omega) (by omega), w64 (n := y * 65536) (by omega) (by omega), w64 (n := z * 256) (by omega) (by omega), w64 (n := x * 16777216 + y * 65536) (by omega) (by omega), w64 (n := x * 16777216 + y * 65536 + z * 256) (by omega) (by omega), w64 (n := x * 16777216 + y * 65536 + z * 256 + u) (by omega) (by omega), tm (by omega)]
    exact ⟨_, _, _, rfl, hc4, Int.emod_nonneg _ (by omega), Int.emod_lt_of_pos _ hn⟩

theorem drawPlaces_l0 (l : List Int) : ∀ (d n : Nat) (ps : List Int) (i h : Int), n + d = 12 → cur l i → ps.length = n → (∀ x ∈ ps, 0 ≤ x ∧ x < 10000) →
    ∃ r : List Int, Ev (fun k => spec_DrawPlaces.l0 k ps n l i h) r ∧ r.length = 12 ∧ ∀ x ∈ r, 0 ≤ x ∧ x < 10000
  | 0, n, ps, i, h, hd, hc, hl, hp => by
    refine ⟨ps, Ev.step (f := fun _ => some ps) (fun k => ?_) (Ev.now _), by omega, hp⟩
    simp only [spec_DrawPlaces.l0]
    rw [if_neg (by omega)]
  | d + 1, n, ps, i, h, hd, hc, hl, hp => by
    obtain ⟨x, i1, h1, e, hc1, b0, b1⟩ := l01Below_ex h hc (n := 10000) (by omega) (by omega)
    obtain ⟨r, e2, e3⟩ := drawPlaces_l0 l d (n + 1) (ps ++ [x]) i1 h1 (by omega) hc1 (by simp; omega) (fun y hy => by
      rcases List.mem_append.1 hy with hy | hy
      · exact hp y hy
      · rw [List.mem_singleton.1 hy]
        exact ⟨b0, b1⟩)
    refine ⟨r, Ev.step (fun k => ?_) e2, e3⟩
    simp only [spec_DrawPlaces.l0]
    rw [if_pos (by omega), e]
    simp only [Option.bind_some]
    rw [if_pos (by omega), wsucc (by omega)]
theorem drawPlaces_ev (l : List Int) (hn : l.length ≤ 1099511627776) : ∃ r : List Int, Ev (fun k => spec_DrawPlaces.f k l) r ∧ r.length = 12 ∧ ∀ i : Nat, i < 12 → 0 ≤ rd r i ∧ rd r i < 10000 := by
  obtain ⟨h, e⟩ := l01New_ev l hn
  obtain ⟨r, e2, hl, hr⟩ := drawPlaces_l0 l 12 0 [] 0 h (by omega) ⟨hn, by omega⟩ rfl (by simp)
  refine ⟨r, ?_, hl, fun i hi => hr _ ?_⟩
  · unfold spec_DrawPlaces.f
    exact e.bind e2
  · rw [rd_nat, List.getD_eq_getElem?_getD, List.getElem?_eq_getElem (show i < r.length by omega)]
    simp

theorem l01PickInt_ex {l : List Int} {i : Int} (h : Int) (hc : cur l i) (xs : List Int) (hn : 0 < xs.length) (hn2 : xs.length ≤ 1000) : ∃ x i' h', spec_l01PickInt.f l i h xs = some (x, i', h') ∧ cur l i' ∧ x ∈ xs := by
  unfold spec_l01PickInt.f
  obtain ⟨x, i1, h1, e, hc1, b0, b1⟩ := l01Below_ex h hc (n := (xs.length : Int)) (by omega) (by omega)
  rw [e]
  simp only [Option.bind_some]
  rw [if_pos b0, if_pos b1]
  refine ⟨_, _, _, rfl, hc1, ?_⟩
  unfold rd
  rw [List.getD_eq_getElem?_getD, List.getElem?_eq_getElem (show x.toNat < xs.length by omega)]
  simp

theorem rd_snoc_lt (xs : List Int) (y : Int) (i : Nat) (h : i < xs.length) : rd (xs ++ [y]) i = rd xs i := by
  rw [rd_nat, rd_nat]
  simp [List.getD_eq_getElem?_getD, List.getElem?_append_left h]
theorem rd_snoc_eq (xs : List Int) (y : Int) (i : Nat) (h : i = xs.length) : rd (xs ++ [y]) i = y := by
  subst h
  rw [rd_nat]
  simp [List.getD_eq_getElem?_getD]
theorem l19Curve_l0 (l : List Int) : ∀ (d n : Nat) (xs : List Int) (x i h : Int), n + d = 16 → 1 ≤ n → cur l i → xs.length = n → rd xs 0 = 0 → rd xs ((n - 1 : Nat) : Int) = x → 0 ≤ x → x ≤ 255 → (∀ j : Nat, j + 1 < n → rd xs j ≤ rd xs ((j + 1 : Nat) : Int)) →
    ∃ r i' h', Ev (fun k => spec_l19Curve.l0 k xs x n l i h) (r, i', h') ∧ curve r
  | 0, n, xs, x, i, h, hd, h1, hc, hl, hx0, hx, b0, b1, hm => by
    obtain rfl : n = 16 := by omega
    refine ⟨xs ++ [255], i, h, Ev.step (f := fun _ => some (xs ++ [255], i, h)) (fun k => ?_) (Ev.now _), by simp [hl], ?_, ?_, ?_⟩
    · simp only [spec_l19Curve.l0]
      rw [if_neg (by omega), if_pos (by omega)]
    · have := rd_snoc_lt xs 255 0 (by omega)
      exact this.trans hx0
    · exact rd_snoc_eq xs 255 16 hl.symm
    · intro j hj
      by_cases e : j = 15
      · subst e
        rw [rd_snoc_lt xs 255 15 (by omega), rd_snoc_eq xs 255 (15 + 1) hl.symm]
        have e2 : rd xs ((15 : Nat) : Int) = x := hx
        rw [e2]
        exact b1
      · rw [rd_snoc_lt xs 255 j (by omega), rd_snoc_lt xs 255 (j + 1) (by omega)]
        exact hm j (by omega)
  | d + 1, n, xs, x, i, h, hd, h1, hc, hl, hx0, hx, b0, b1, hm => by
    obtain ⟨q, i1, h2, e, hc1, q0, q1⟩ := l01Below_ex h hc (n := 40) (by omega) (by omega)
    obtain ⟨p, i3, h3, e3, hc3, hp⟩ := l01PickInt_ex h2 hc1 [0, 10, 20, q] (by simp) (by simp)
    have hp2 : 0 ≤ p ∧ p ≤ 40 := by
      simp only [List.mem_cons, List.not_mem_nil, or_false] at hp
      omega
    have hw : wrap64 (x + p) = x + p := w64 (by omega) (by omega)
    have hy : x ≤ mn 255 (x + p) ∧ mn 255 (x + p) ≤ 255 := by
      unfold mn
      split <;> omega
    obtain ⟨r, i4, h4, e4, hr⟩ := l19Curve_l0 l d (n + 1) (xs ++ [mn 255 (x + p)]) (mn 255 (x + p)) i3 h3 (by omega) (by omega) hc3 (by simp [hl])
      (by have := rd_snoc_lt xs (mn 255 (x + p)) 0 (by omega); exact this.trans hx0) (rd_snoc_eq _ _ _ (by omega)) (by omega) hy.2 (by
        intro j hj
        by_cases e : j + 1 = n
        · rw [rd_snoc_lt _ _ j (by omega), rd_snoc_eq _ _ (j + 1) (by omega)]
          rw [show n - 1 = j by omega] at hx
          rw [hx]
          exact hy.1
        · rw [rd_snoc_lt _ _ j (by omega), rd_snoc_lt _ _ (j + 1) (by omega)]
          exact hm j (by omega))
    refine ⟨r, i4, h4, Ev.step (fun k => ?_) e4, hr⟩
    simp only [spec_l19Curve.l0]
    rw [if_pos (by omega), e]
    simp only [Option.bind_some]
    rw [e3]
    simp only [Option.bind_some]
    rw [if_pos (by omega), hw, wsucc (by omega)]
theorem drawCurve_ev (l : List Int) (hn : l.length ≤ 1099511627776) : ∃ r, Ev (fun k => spec_DrawCurve.f k l) r ∧ curve r := by
  obtain ⟨h, e⟩ := l01New_ev l hn
  obtain ⟨r, i', h', e2, hr⟩ := l19Curve_l0 l 15 1 [0] 0 0 h (by omega) (by omega) ⟨hn, by omega⟩ rfl rfl rfl (by omega) (by omega) (fun j hj => by omega)
  refine ⟨r, ?_, hr⟩
  unfold spec_DrawCurve.f spec_l19Curve.f
  exact e.bind (e2.bind (Ev.now _))

theorem straight_ev : Ev (fun k => impl_StraightCurve.f k) [0, 15, 31, 47, 63, 79, 95, 111, 127, 143, 159, 175, 191, 207, 223, 239, 255] :=
  Ev.of (fun k => impl_StraightCurve.mono k) (k := 20) (by decide +kernel)
theorem straight_curve : curve [0, 15, 31, 47, 63, 79, 95, 111, 127, 143, 159, 175, 191, 207, 223, 239, 255] := by
  unfold curve
  decide +kernel
theorem blendAt_eq {a b : List Int} (ha : curve a) (hb : curve b) {p : Int} (h0 : 0 ≤ p) (h1 : p ≤ 100) (i : Nat) (hi : i ≤ 16) : blendAt a b p i = (rd a i * (100 - p) + rd b i * p) / 100 := by
  have a1 := curve_in ha i hi
  have b1 := curve_in hb i hi
  unfold blendAt
  generalize rd a i = x at *
  generalize rd b i = y at *
  have m1 : 0 ≤ x * (100 - p) := Int.mul_nonneg a1.1 (by omega)
  have m2 : x * (100 - p) ≤ 255 * (100 - p) := Int.mul_le_mul_of_nonneg_right a1.2 (by omega)
  have m3 : 0 ≤ y * p := Int.mul_nonneg b1.1 h0
  have m4 : y * p ≤ 255 * p := Int.mul_le_mul_of_nonneg_right b1.2 h0
  rw [w64 (n := 100 - p) (by omega) (by omega)]
  generalize x * (100 - p) = u at *
  generalize y * p = v at *
  rw [w64 (n := u) (by omega) (by omega), w64 (n := v) (by omega) (by omega), w64 (n := u + v) (by omega) (by omega), td (by omega), w64 (by omega) (by omega)]
theorem rd_blend (a b : List Int) (p : Int) (n i : Nat) (h : i < n) : rd (blend a b p n) i = blendAt a b p i := by
  rw [rd_nat, List.getD_eq_getElem?_getD, List.getElem?_eq_getElem (show i < (blend a b p n).length by rw [blend_length]; exact h)]
  simp [blend]
theorem blend_curve {a b : List Int} (ha : curve a) (hb : curve b) {p : Int} (h0 : 0 ≤ p) (h1 : p ≤ 100) : curve (blend a b p 17) := by
  refine ⟨blend_length _ _ _ _, ?_, ?_, fun i hi => ?_⟩
  · have e := rd_blend a b p 17 0 (by omega)
    rw [blendAt_eq ha hb h0 h1 0 (by omega)] at e
    have e1 : rd a ((0 : Nat) : Int) = 0 := ha.2.1
    have e2 : rd b ((0 : Nat) : Int) = 0 := hb.2.1
    rw [e1, e2] at e
    exact e.trans (by omega)
  · have e := rd_blend a b p 17 16 (by omega)
    rw [blendAt_eq ha hb h0 h1 16 (by omega)] at e
    have e1 : rd a ((16 : Nat) : Int) = 255 := ha.2.2.1
    have e2 : rd b ((16 : Nat) : Int) = 255 := hb.2.2.1
    rw [e1, e2] at e
    exact e.trans (by omega)
  · rw [rd_blend _ _ _ _ _ (by omega), rd_blend _ _ _ _ _ (by omega), blendAt_eq ha hb h0 h1 i (by omega), blendAt_eq ha hb h0 h1 (i + 1) (by omega)]
    have a1 := ha.2.2.2 i hi
    have b1 := hb.2.2.2 i hi
    have m1 : rd a i * (100 - p) ≤ rd a ((i + 1 : Nat) : Int) * (100 - p) := Int.mul_le_mul_of_nonneg_right a1 (by omega)
    have m2 : rd b i * p ≤ rd b ((i + 1 : Nat) : Int) * p := Int.mul_le_mul_of_nonneg_right b1 h0
    omega
theorem FnTones : laws_FnTones.Pure := by
  intro l hm hb hw
  refine Ev.rounds ?_
  unfold laws_FnTones.f
  refine ev_eq (g := laws_big.f l) rfl ?_
  by_cases hl : (l.length : Int) > 1048576
  · exact ev_pos (decide_eq_true hl) (Ev.now _)
  refine ev_neg (by simpa using hl) ?_
  obtain ⟨c, ec, hc⟩ := drawCurve_ev l (by omega)
  obtain ⟨ps, ep, pl, pb⟩ := drawPlaces_ev l (by omega)
  refine ec.bind (ep.bind ?_)
  have p0 := pb 0 (by omega)
  have p1 := pb 1 (by omega)
  have p2 := pb 2 (by omega)
  have e0 : rd ps ((0 : Nat) : Int) = rd ps 0 := rfl
  have e1 : rd ps ((1 : Nat) : Int) = rd ps 1 := rfl
  have e2 : rd ps ((2 : Nat) : Int) = rd ps 2 := rfl
  rw [e0] at p0
  rw [e1] at p1
  rw [e2] at p2
  rw [tm p0.1, tm p1.1, tm p2.1]
  have hcl := hc.1
  refine ev_pos (by omega) (ev_pos (by omega) ?_)
  generalize hv : rd ps 0 % 256 = v
  generalize ht : rd ps 1 % 256 = t
  generalize hp : rd ps 2 % 101 = p
  have hP := impl_PrintFor_ev c t (by omega)
  rw [if_pos ⟨hc, by omega, by omega⟩] at hP
  have hB := impl_Blend_ev c _ p (by omega) (show [0, 15, 31, 47, 63, 79, 95, 111, 127, 143, 159, 175, 191, 207, 223, 239, 255].length ≤ 1099511627776 by simp)
  rw [if_pos ⟨hc, straight_curve, by omega, by omega⟩] at hB
  have hT : ∀ u : Int, 0 ≤ u → u ≤ 256 → Ev (fun k => impl_ToneAt.f k c u) (tone c u) := fun u h0 h1 => by
    have := impl_ToneAt_ev c u (by omega)
    rwa [if_pos ⟨hc, h0, h1⟩] at this
  have hC := impl_CurveOk_ev c (by omega)
  rw [decide_eq_true hc] at hC
  have hS := impl_CurveOk_ev [0, 15, 31, 47, 63, 79, 95, 111, 127, 143, 159, 175, 191, 207, 223, 239, 255] (by simp)
  rw [decide_eq_true straight_curve] at hS
  have hD := impl_CurveOk_ev (blend c [0, 15, 31, 47, 63, 79, 95, 111, 127, 143, 159, 175, 191, 207, 223, 239, 255] p 17) (by rw [blend_length]; omega)
  rw [decide_eq_true (blend_curve hc straight_curve (by omega) (by omega))] at hD
  refine hP.bind (straight_ev.bind (ev_pos (by omega) (hB.bind (hC.bind (ev_pos rfl ?_)))))
  rw [w64 (n := v + 1) (by omega) (by omega)]
  refine (hT v (by omega) (by omega)).bind ((hT (v + 1) (by omega) (by omega)).bind (ev_pos (tone_up hc (by omega) (by omega)) ?_))
  have f1 := firstAt_le c t 256 0
  have f2 := firstAt_at c t 256 0 (by unfold tone; rw [if_pos (by omega)]; omega)
  have f3 := firstAt_below c t 256 0
  generalize firstAt c t 256 0 = q at *
  refine (hT q (by omega) (by omega)).bind (ev_pos f2 ?_)
  by_cases z : (q : Int) = 0
  · refine ev_pos z (straight_ev.bind (hS.bind (ev_pos rfl (ev_pos rfl ?_))))
    exact hD.bind (Ev.now _)
  · refine ev_neg z ?_
    rw [w64 (n := (q : Int) - 1) (by omega) (by omega)]
    refine (hT ((q : Int) - 1) (by omega) (by omega)).bind (ev_pos ?_ ?_)
    · have := f3 (q - 1) (by omega) (by omega)
      rwa [show ((q - 1 : Nat) : Int) = (q : Int) - 1 by omega] at this
    · refine straight_ev.bind (hS.bind (ev_pos rfl (ev_pos rfl ?_)))
      exact hD.bind (Ev.now _)

end Go.Proofs.Ytnbobpbdclbjlaa.Pure
