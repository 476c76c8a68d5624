/-
  The program's PrintFor answers as the reference's does for every list of ints and every tone, and leaves the list as it was.
-/
import Derived.Test.YtnbobpbdclbjlaaPFnExactPrintForx3
import Derived.Test.YtnbobpbdclbjlaaWSized
/- The printed row names 'PrintWords.sized_ints' without its seat's letter W: the same law under the name that it looks for. -/
namespace Go.Proofs.Ytnbobpbdclbjlaa.PrintWords
open Go.ChangeShapes Go.WideShapes
theorem sized_ints {H : Type} {enc : TypeId × Value → H} {P : Program} {W : World} {base : Nat} {spare : Nat → Bool} {held : Bool} {t e : TypeId} {k : IntKind} {a : Option Addr} {len cap : Nat} {d : DataW H} {ps : List MemPlace} {ts : List TypeId} {ds : List (DataW H)} {j : Nat}
    (hsz : (DataW.weightsEach P ts ds).all (· ≤ reachBytes) = true) (ht : ts[j]? = some t) (hd : ds[j]? = some d) (hu : P.underlying t = some (.slice e)) (he : P.underlying e = some (.int k)) (hc : P.cellsOf e = 1) {B : Nat} (hB : P.bytesOf e = B)
    (h : DataW.Trod enc P W base spare held t (.slice a len cap) d ps) : len * B ≤ 140737488351232 :=
  Go.Proofs.YtnbobpbdclbjlaaW.PrintWords.sized_ints hsz ht hd hu he hc hB h
end Go.Proofs.Ytnbobpbdclbjlaa.PrintWords
namespace Go.Proofs.Ytnbobpbdclbjlaa.Pure
open Go.RowKit Go.Proofs.Ytnbobpbdclbjlaa.PFnExactPrintFor Go.Proofs.YtnbobpbdclbjlaaW.PrintWords Go.Proofs.YtnbobpbdclbjlaaW.PrintLast Go.Proofs.YtnbobpbdclbjlaaW.PrintMore
set_option linter.unusedVariables false
set_option linter.unusedSimpArgs false

theorem w64 {n : Int} (h1 : -9223372036854775808 ≤ n) (h2 : n ≤ 9223372036854775807) : wrap64 n = n := by
  unfold wrap64
  omega
theorem wsucc {i : Nat} (h : i ≤ 1099511627776) : wrap64 ((i : Int) + 1) = ((i + 1 : Nat) : Int) := by
  rw [w64 (by omega) (by omega)]
  omega
theorem rd_nat (l : List Int) (i : Nat) : rd l (i : Int) = l.getD i 0 := by simp [rd]
theorem getD_drop (l : List Int) (i : Nat) (h : i < l.length) : l.drop i = l.getD i 0 :: l.drop (i + 1) := by
  rw [List.drop_eq_getElem_cons h]
  simp [List.getD_eq_getElem?_getD, List.getElem?_eq_getElem h]
theorem getD_take (l : List Int) (i : Nat) (h : i < l.length) : l.take (i + 1) = l.take i ++ [l.getD i 0] := by
  rw [List.take_succ_eq_append_getElem h]
  simp [List.getD_eq_getElem?_getD, List.getElem?_eq_getElem h]
theorem set_mid (p q : List Int) (u v : Int) (i : Nat) (h : p.length = i) : (p ++ u :: q).set i v = p ++ v :: q := by
  subst h
  simp [List.set_append_right]
theorem bind_id {α : Type} {g : Nat → Option α} {r : α} (h : Ev g r) : Ev (fun n => (g n).bind fun x => some x) r := by
  obtain ⟨K, h⟩ := h
  exact ⟨K, fun k hk => by simp [h k hk]⟩
theorem ev_pos {α : Type} {c : Prop} [Decidable c] {f g : Nat → Option α} {r : α} (h : c) (k : Ev f r) : Ev (fun n => if c then f n else g n) r := Ev.congr (fun n => if_pos h) k
theorem ev_neg {α : Type} {c : Prop} [Decidable c] {f g : Nat → Option α} {r : α} (h : ¬ c) (k : Ev g r) : Ev (fun n => if c then f n else g n) r := Ev.congr (fun n => if_neg h) k
theorem ev_eq {α β : Type} {g : Option α} {f : Nat → α → Option β} {a : α} {r : β} (h : g = some a) (k : Ev (fun n => f n a) r) : Ev (fun n => g.bind (f n)) r := by
  subst h
  exact k
theorem td {v : Int} (h : 0 ≤ v) (c : Int) : Int.tdiv v c = v / c := Int.tdiv_eq_ediv_of_nonneg h
theorem tm {v : Int} (h : 0 ≤ v) (c : Int) : Int.tmod v c = v % c := Int.tmod_eq_emod_of_nonneg h

theorem eqIntS_l0 (a : List Int) (hn : a.length ≤ 1099511627776) :
    ∀ d i : Nat, i + d = a.length → Ev (fun k => laws_eqIntS.l0 k a a i) true
  | 0, i, h => by
    refine Ev.step (f := fun _ => some true) (fun k => ?_) (Ev.now _)
    simp only [laws_eqIntS.l0]
    rw [if_neg (by omega)]
  | d + 1, i, h => by
    refine Ev.step (f := fun k => laws_eqIntS.l0 k a a ((i + 1 : Nat) : Int)) (fun k => ?_) (eqIntS_l0 a hn d (i + 1) (by omega))
    simp only [laws_eqIntS.l0]
    rw [if_pos (by omega), if_pos (by omega), if_pos (by omega), if_pos trivial, wsucc (by omega)]
theorem eqIntS_ev (a : List Int) (hn : a.length ≤ 1099511627776) : Ev (fun k => laws_eqIntS.f k a a) true := by
  refine Ev.congr (f := fun k => laws_eqIntS.l0 k a a 0) (fun k => ?_) (eqIntS_l0 a hn a.length 0 (by omega))
  unfold laws_eqIntS.f
  rw [if_pos rfl]

theorem toIntS_l0 (a : List Int) (hn : a.length ≤ 1099511627776) :
    ∀ d i : Nat, i + d = a.length → Ev (fun k => laws_toIntS.l0 k a (a.take i ++ List.replicate d 0) i) a
  | 0, i, h => by
    refine Ev.step (f := fun _ => some a) (fun k => ?_) (Ev.now _)
    simp only [laws_toIntS.l0]
    rw [if_neg (by omega)]
    simp [List.take_of_length_le (show a.length ≤ i by omega)]
  | d + 1, i, h => by
    refine Ev.step (f := fun k => laws_toIntS.l0 k a (a.take (i + 1) ++ List.replicate d 0) ((i + 1 : Nat) : Int)) (fun k => ?_) (toIntS_l0 a hn d (i + 1) (by omega))
    simp only [laws_toIntS.l0]
    rw [if_pos (by omega), if_pos (by omega), if_pos (by simp; omega), wsucc (by omega), rd_nat, List.replicate_succ, Int.toNat_natCast, set_mid _ _ _ _ _ (by simp; omega), getD_take a i (by omega)]
    simp
theorem toIntS_ev (a : List Int) (hn : a.length ≤ 1099511627776) : Ev (fun k => laws_toIntS.f k a) a := by
  refine Ev.congr (f := fun k => laws_toIntS.l0 k a (a.take 0 ++ List.replicate a.length 0) 0) (fun k => ?_) (toIntS_l0 a hn a.length 0 (by omega))
  unfold laws_toIntS.f
  rw [if_pos (by omega), if_pos (by omega)]
  simp

/-- A right tone curve: 17 values from 0 to 255 that never fall. -/
def curve (a : List Int) : Prop := a.length = 17 ∧ rd a 0 = 0 ∧ rd a 16 = 255 ∧ ∀ i : Nat, i < 16 → rd a i ≤ rd a ((i + 1 : Nat) : Int)
instance (a : List Int) : Decidable (curve a) := by
  unfold curve
  infer_instance
theorem curve_mk {a : List Int} (h0 : a.length = 17) (h1 : rd a 0 = 0) (h2 : rd a 16 = 255) (h3 : ∀ i : Nat, 1 ≤ i → i ≤ 16 → rd a ((i - 1 : Nat) : Int) ≤ rd a i) : curve a :=
  ⟨h0, h1, h2, fun i hi => h3 (i + 1) (by omega) (by omega)⟩
theorem curve_step {a : List Int} (h : curve a) (i : Nat) (h1 : 1 ≤ i) (h2 : i ≤ 16) : rd a ((i - 1 : Nat) : Int) ≤ rd a i := by
  have := h.2.2.2 (i - 1) (by omega)
  rwa [show i - 1 + 1 = i by omega] at this
theorem curve_le {a : List Int} (h : curve a) : ∀ j i : Nat, i ≤ j → j ≤ 16 → rd a i ≤ rd a j := by
  intro j
  induction j with
  | zero => intro i h1 h2; obtain rfl : i = 0 := by omega
            exact Int.le_refl _
  | succ j ih =>
    intro i h1 h2
    by_cases e : i = j + 1
    · subst e
      exact Int.le_refl _
    · have h3 := ih i (by omega) (by omega)
      have h4 := h.2.2.2 j (by omega)
      omega
theorem curve_in {a : List Int} (h : curve a) (i : Nat) (hi : i ≤ 16) : 0 ≤ rd a i ∧ rd a i ≤ 255 := by
  have h1 := curve_le h i 0 (by omega) hi
  have h2 := curve_le h 16 i hi (by omega)
  have h3 := h.2.1
  have h4 := h.2.2.1
  have e0 : rd a ((0 : Nat) : Int) = rd a 0 := rfl
  have e1 : rd a ((16 : Nat) : Int) = rd a 16 := rfl
  omega

/-- What a right curve gives at a value from 0 to 256. -/
def tone (a : List Int) (v : Int) : Int := if v = 256 then 255 else rd a (v / 16) + (v % 16 * (rd a (v / 16 + 1) - rd a (v / 16))) / 16
theorem curve_int {a : List Int} (h : curve a) {i : Int} (h0 : 0 ≤ i) (h1 : i ≤ 16) : 0 ≤ rd a i ∧ rd a i ≤ 255 := by
  obtain ⟨n, rfl⟩ : ∃ n : Nat, i = n := ⟨i.toNat, by omega⟩
  exact curve_in h n (by omega)
theorem curve_up {a : List Int} (h : curve a) {i j : Int} (h0 : 0 ≤ i) (hij : i ≤ j) (h1 : j ≤ 16) : rd a i ≤ rd a j := by
  obtain ⟨n, rfl⟩ : ∃ n : Nat, i = n := ⟨i.toNat, by omega⟩
  obtain ⟨m, rfl⟩ : ∃ m : Nat, j = m := ⟨j.toNat, by omega⟩
  exact curve_le h m n (by omega) (by omega)
theorem part_bound {r d : Int} (h0 : 0 ≤ r) (h1 : r < 16) (h2 : 0 ≤ d) (h3 : d ≤ 255) : 0 ≤ r * d ∧ r * d ≤ 3825 ∧ r * d ≤ 15 * d := by
  have h4 : r * d ≤ 15 * d := Int.mul_le_mul_of_nonneg_right (by omega) h2
  have h5 : 0 ≤ r * d := Int.mul_nonneg h0 h2
  omega
/-- The program's sum at a value below 256: no sum wraps. -/
theorem tone_expr {a : List Int} (h : curve a) {v : Int} (h0 : 0 ≤ v) (h1 : v < 256) :
    wrap64 (Int.tdiv v 16) = v / 16 ∧ wrap64 ((wrap64 (Int.tdiv v 16)) + 1) = v / 16 + 1 ∧
    wrap64 ((rd a (wrap64 (Int.tdiv v 16))) + (wrap64 (Int.tdiv (wrap64 ((Int.tmod v 16) * (wrap64 ((rd a (wrap64 ((wrap64 (Int.tdiv v 16)) + 1))) - (rd a (wrap64 (Int.tdiv v 16))))))) 16))) = tone a v := by
  have e1 : wrap64 (Int.tdiv v 16) = v / 16 := by rw [td h0, w64 (by omega) (by omega)]
  have e2 : wrap64 ((wrap64 (Int.tdiv v 16)) + 1) = v / 16 + 1 := by rw [e1, w64 (by omega) (by omega)]
  refine ⟨e1, e2, ?_⟩
  rw [e2, e1, tm h0]
  have b1 := curve_int h (i := v / 16) (by omega) (by omega)
  have b2 := curve_int h (i := v / 16 + 1) (by omega) (by omega)
  have b3 := curve_up h (i := v / 16) (j := v / 16 + 1) (by omega) (by omega) (by omega)
  unfold tone
  rw [if_neg (by omega)]
  generalize rd a (v / 16) = x at *
  generalize rd a (v / 16 + 1) = y at *
  rw [w64 (n := y - x) (by omega) (by omega)]
  have b4 := part_bound (r := v % 16) (d := y - x) (by omega) (by omega) (by omega) (by omega)
  generalize (v % 16) * (y - x) = z at *
  rw [w64 (n := z) (by omega) (by omega), td (by omega), w64 (n := z / 16) (by omega) (by omega), w64 (by omega) (by omega)]
theorem tone_in {a : List Int} (h : curve a) {v : Int} (h0 : 0 ≤ v) (h1 : v < 256) : rd a (v / 16) ≤ tone a v ∧ tone a v ≤ rd a (v / 16 + 1) := by
  have b1 := curve_int h (i := v / 16) (by omega) (by omega)
  have b2 := curve_int h (i := v / 16 + 1) (by omega) (by omega)
  have b3 := curve_up h (i := v / 16) (j := v / 16 + 1) (by omega) (by omega) (by omega)
  unfold tone
  rw [if_neg (by omega)]
  generalize rd a (v / 16) = x at *
  generalize rd a (v / 16 + 1) = y at *
  have b4 := part_bound (r := v % 16) (d := y - x) (by omega) (by omega) (by omega) (by omega)
  generalize (v % 16) * (y - x) = z at *
  omega
theorem tone_bound {a : List Int} (h : curve a) {v : Int} (h0 : 0 ≤ v) (h1 : v ≤ 256) : 0 ≤ tone a v ∧ tone a v ≤ 255 := by
  by_cases e : v = 256
  · unfold tone
    rw [if_pos e]
    omega
  · have b0 := tone_in h h0 (by omega)
    have b1 := curve_int h (i := v / 16) (by omega) (by omega)
    have b2 := curve_int h (i := v / 16 + 1) (by omega) (by omega)
    omega
theorem tone_up {a : List Int} (h : curve a) {v : Int} (h0 : 0 ≤ v) (h1 : v < 256) : tone a v ≤ tone a (v + 1) := by
  have b := tone_in h h0 h1
  by_cases e : v + 1 = 256
  · have : tone a (v + 1) = 255 := by
      unfold tone
      rw [if_pos e]
    have b2 := curve_int h (i := v / 16 + 1) (by omega) (by omega)
    omega
  · by_cases q : (v + 1) / 16 = v / 16
    · have b3 := curve_up h (i := v / 16) (j := v / 16 + 1) (by omega) (by omega) (by omega)
      unfold tone
      rw [if_neg (by omega), if_neg e, q]
      have h3 : v % 16 * (rd a (v / 16 + 1) - rd a (v / 16)) ≤ (v + 1) % 16 * (rd a (v / 16 + 1) - rd a (v / 16)) := Int.mul_le_mul_of_nonneg_right (by omega) (by omega)
      omega
    · have b4 := tone_in h (v := v + 1) (by omega) (by omega)
      rw [show (v + 1) / 16 = v / 16 + 1 by omega] at b4
      omega

theorem impl_CurveOk_l0 (a : List Int) (hl : a.length = 17) (c0 : rd a 0 = 0) (c1 : rd a 16 = 255) :
    ∀ d i : Nat, i + d = 17 → (∀ j : Nat, 1 ≤ j → j < i → rd a ((j - 1 : Nat) : Int) ≤ rd a j) → Ev (fun k => impl_CurveOk.l0 k a a (a.length : Int) i) (decide (curve a))
  | 0, i, h, hj => by
    refine Ev.step (f := fun _ => some true) (fun k => ?_) ?_
    · simp only [impl_CurveOk.l0]
      rw [if_neg (by omega)]
    · rw [decide_eq_true (curve_mk hl c0 c1 fun j h1 h2 => hj j h1 (by omega))]
      exact Ev.now _
  | d + 1, i, h, hj => by
    by_cases w : rd a i ≥ 0 ∧ rd a i ≤ 255
    · by_cases i0 : i = 0
      · subst i0
        refine Ev.step (f := fun k => impl_CurveOk.l0 k a a (a.length : Int) ((0 + 1 : Nat) : Int)) (fun k => ?_) (impl_CurveOk_l0 a hl c0 c1 d (0 + 1) (by omega) (fun j h1 h2 => by omega))
        simp only [impl_CurveOk.l0, impl_within.f]
        rw [if_pos (by omega), if_pos (by omega), if_pos (by omega), if_pos w.1, Option.bind_some, if_pos (decide_eq_true w.2), if_neg (by omega), wsucc (by omega)]
      · have e : wrap64 ((i : Int) - 1) = ((i - 1 : Nat) : Int) := by
          rw [w64 (by omega) (by omega)]
          omega
        by_cases c : rd a i < rd a ((i - 1 : Nat) : Int)
        · refine Ev.step (f := fun _ => some false) (fun k => ?_) ?_
          · simp only [impl_CurveOk.l0, impl_within.f]
            rw [if_pos (by omega), if_pos (by omega), if_pos (by omega), if_pos w.1, Option.bind_some, if_pos (decide_eq_true w.2), if_pos (by omega), e, if_pos (by omega), if_pos (by omega), if_pos c]
          · rw [decide_eq_false (show ¬ curve a from fun h3 => by have := curve_step h3 i (by omega) (by omega); omega)]
            exact Ev.now _
        · refine Ev.step (f := fun k => impl_CurveOk.l0 k a a (a.length : Int) ((i + 1 : Nat) : Int)) (fun k => ?_) (impl_CurveOk_l0 a hl c0 c1 d (i + 1) (by omega) (fun j h1 h2 => ?_))
          · simp only [impl_CurveOk.l0, impl_within.f]
            rw [if_pos (by omega), if_pos (by omega), if_pos (by omega), if_pos w.1, Option.bind_some, if_pos (decide_eq_true w.2), if_pos (by omega), e, if_pos (by omega), if_pos (by omega), if_neg c, wsucc (by omega)]
          · by_cases e : j = i
            · subst e
              omega
            · exact hj j h1 (by omega)
    · refine Ev.step (f := fun _ => some false) (fun k => ?_) ?_
      · simp only [impl_CurveOk.l0, impl_within.f]
        rw [if_pos (by omega), if_pos (by omega), if_pos (by omega)]
        by_cases c : rd a i ≥ 0
        · rw [if_pos c]
          simp [show ¬ rd a i ≤ 255 by omega]
        · rw [if_neg c]
          simp
      · rw [decide_eq_false (show ¬ curve a from fun h3 => by have := curve_in h3 i (by omega); omega)]
        exact Ev.now _
theorem impl_CurveOk_ev (a : List Int) (hn : a.length ≤ 1099511627776) : Ev (fun k => impl_CurveOk.f k a) (decide (curve a)) := by
  have no : ∀ h : ¬ curve a, Ev (fun k => impl_CurveOk.j0 k a true) (decide (curve a)) := by
    intro h
    rw [decide_eq_false h]
    exact Ev.step (f := fun _ => some false) (fun k => by simp only [impl_CurveOk.j0]; rw [if_pos trivial]) (Ev.now _)
  unfold impl_CurveOk.f
  by_cases hl : (a.length : Int) = 17
  · refine Ev.congr (fun k => if_pos hl) ?_
    refine Ev.congr (fun k => if_pos (by omega)) ?_
    by_cases h0 : rd a 0 = 0
    · refine Ev.congr (fun k => if_pos h0) ?_
      refine Ev.congr (fun k => if_pos (by omega)) ?_
      by_cases h1 : rd a 16 = 255
      · refine Ev.step (f := fun k => impl_CurveOk.l0 k a a (a.length : Int) 0) (fun k => ?_) (impl_CurveOk_l0 a (by omega) h0 h1 17 0 (by omega) (fun j _ _ => by omega))
        simp only [impl_CurveOk.j0]
        rw [if_neg (by simp [h1])]
      · rw [show (rd a 16 != 255) = true by simp [h1]]
        exact no fun h => h1 h.2.2.1
    · refine Ev.congr (fun k => if_neg h0) ?_
      exact no fun h => h0 h.2.1
  · refine Ev.congr (fun k => if_neg hl) ?_
    exact no fun h => hl (by rw [h.1]; rfl)

theorem within_eq (a b c : Int) : impl_within.f a b c = some (decide (b ≤ a ∧ a ≤ c)) := by
  unfold impl_within.f
  by_cases h : a ≥ b
  · rw [if_pos h]
    simp [show b ≤ a from h]
  · rw [if_neg h]
    simp [show ¬ b ≤ a from h]

theorem impl_ToneAt_ev (a : List Int) (v : Int) (hn : a.length ≤ 1099511627776) : Ev (fun k => impl_ToneAt.f k a v) (if curve a ∧ 0 ≤ v ∧ v ≤ 256 then tone a v else -1) := by
  unfold impl_ToneAt.f
  refine (impl_CurveOk_ev a hn).bind ?_
  have no : Ev (fun k => impl_ToneAt.j0 k a v true) (-1) := Ev.step (f := fun _ => some (-1)) (fun k => by simp only [impl_ToneAt.j0]; rw [if_pos trivial]) (Ev.now _)
  by_cases h : curve a
  · refine ev_pos (decide_eq_true h) ?_
    refine ev_eq (within_eq _ _ _) ?_
    by_cases hv : 0 ≤ v ∧ v ≤ 256
    · rw [if_pos ⟨h, hv⟩, decide_eq_true hv]
      by_cases e : v = 256
      · refine Ev.step (f := fun _ => some (tone a v)) (fun k => ?_) (Ev.now _)
        simp only [impl_ToneAt.j0]
        rw [if_neg (by simp), if_pos e, if_pos (by have := h.1; omega), h.2.2.1]
        unfold tone
        rw [if_pos e]
      · obtain ⟨e1, e2, e3⟩ := tone_expr h hv.1 (show v < 256 by omega)
        refine Ev.step (f := fun _ => some (tone a v)) (fun k => ?_) (Ev.now _)
        simp only [impl_ToneAt.j0]
        rw [if_neg (by simp), if_neg e, e3, e2, e1]
        have := h.1
        rw [if_pos (by omega), if_pos (by omega), if_pos (by omega), if_pos (by omega)]
    · rw [if_neg (fun q => hv q.2), decide_eq_false hv]
      exact no
  · rw [if_neg (fun q => h q.1)]
    exact ev_neg (by simp [h]) no

/-- The first value from n on, at most d further, that gives at least t. -/
def firstAt (a : List Int) (t : Int) : Nat → Nat → Nat
  | 0, n => n
  | d + 1, n => if tone a n ≥ t then n else firstAt a t d (n + 1)
theorem firstAt_le (a : List Int) (t : Int) : ∀ d n, n ≤ firstAt a t d n ∧ firstAt a t d n ≤ n + d
  | 0, n => ⟨Nat.le_refl _, Nat.le_refl _⟩
  | d + 1, n => by
    unfold firstAt
    split
    · omega
    · have := firstAt_le a t d (n + 1)
      omega
theorem firstAt_below (a : List Int) (t : Int) : ∀ d n m, n ≤ m → m < firstAt a t d n → tone a m < t
  | 0, n, m, h1, h2 => by
    simp only [firstAt] at h2
    omega
  | d + 1, n, m, h1, h2 => by
    unfold firstAt at h2
    split at h2
    · omega
    · by_cases e : m = n
      · subst e
        omega
      · exact firstAt_below a t d (n + 1) m (by omega) h2
theorem firstAt_at (a : List Int) (t : Int) : ∀ d n, tone a ((n + d : Nat) : Int) ≥ t → tone a (firstAt a t d n) ≥ t
  | 0, n, h => h
  | d + 1, n, h => by
    unfold firstAt
    split
    · assumption
    · exact firstAt_at a t d (n + 1) (by rw [show n + 1 + d = n + (d + 1) by omega]; exact h)
theorem impl_PrintFor_l0 (a : List Int) (t : Int) (h : curve a) (ht : t ≤ 255) :
    ∀ d n : Nat, n + d = 256 → Ev (fun k => impl_PrintFor.l0 k a t n) (firstAt a t d n)
  | 0, n, hd => by
    obtain rfl : n = 256 := by omega
    refine Ev.step (f := fun k => (impl_ToneAt.f k a ((256 : Nat) : Int)).bind fun t133 => (if t133 ≥ t then (some ((256 : Nat) : Int)) else (impl_PrintFor.l0 k a t (wrap64 (((256 : Nat) : Int) + 1))))) (fun k => ?_) ?_
    · simp only [impl_PrintFor.l0]
      rw [if_pos (by omega)]
    · refine (impl_ToneAt_ev a _ (by have := h.1; omega)).bind ?_
      rw [if_pos ⟨h, by omega, by omega⟩]
      refine ev_pos ?_ (Ev.now _)
      unfold tone
      rw [if_pos (by omega)]
      omega
  | d + 1, n, hd => by
    refine Ev.step (f := fun k => (impl_ToneAt.f k a (n : Int)).bind fun t133 => (if t133 ≥ t then (some (n : Int)) else (impl_PrintFor.l0 k a t (wrap64 ((n : Int) + 1))))) (fun k => ?_) ?_
    · simp only [impl_PrintFor.l0]
      rw [if_pos (by omega)]
    · refine (impl_ToneAt_ev a _ (by have := h.1; omega)).bind ?_
      rw [if_pos ⟨h, by omega, by omega⟩]
      unfold firstAt
      by_cases c : tone a n ≥ t
      · rw [if_pos c]
        exact ev_pos c (Ev.now _)
      · rw [if_neg c, wsucc (by omega)]
        exact ev_neg c (impl_PrintFor_l0 a t h ht d (n + 1) (by omega))
theorem impl_PrintFor_ev (a : List Int) (t : Int) (hn : a.length ≤ 1099511627776) : Ev (fun k => impl_PrintFor.f k a t) (if curve a ∧ 0 ≤ t ∧ t ≤ 255 then (firstAt a t 256 0 : Int) else -1) := by
  unfold impl_PrintFor.f
  refine (impl_CurveOk_ev a hn).bind ?_
  have no : Ev (fun k => impl_PrintFor.j0 k a t true) (-1) := Ev.step (f := fun _ => some (-1)) (fun k => by simp only [impl_PrintFor.j0]; rw [if_pos trivial]) (Ev.now _)
  by_cases h : curve a
  · refine ev_pos (decide_eq_true h) ?_
    refine ev_eq (within_eq _ _ _) ?_
    by_cases hv : 0 ≤ t ∧ t ≤ 255
    · rw [if_pos ⟨h, hv⟩, decide_eq_true hv]
      refine Ev.step (f := fun k => impl_PrintFor.l0 k a t 0) (fun k => ?_) (impl_PrintFor_l0 a t h hv.2 256 0 (by omega))
      simp only [impl_PrintFor.j0]
      rw [if_neg (by simp)]
    · rw [if_neg (fun q => hv q.2), decide_eq_false hv]
      exact no
  · rw [if_neg (fun q => h q.1)]
    exact ev_neg (by simp [h]) no

theorem spec_CurveOk_l0 (a : List Int) (hl : a.length = 17) (c0 : rd a 0 = 0) (c1 : rd a 16 = 255) :
    ∀ d i : Nat, i + d = 17 → 1 ≤ i → (∀ j : Nat, 1 ≤ j → j < i → rd a ((j - 1 : Nat) : Int) ≤ rd a j) → Ev (fun k => spec_CurveOk.l0 k a i) (decide (curve a))
  | 0, i, h, hi, hj => by
    refine Ev.step (f := fun _ => some true) (fun k => ?_) ?_
    · simp only [spec_CurveOk.l0]
      rw [if_neg (by omega)]
    · rw [decide_eq_true (curve_mk hl c0 c1 fun j h1 h2 => hj j h1 (by omega))]
      exact Ev.now _
  | d + 1, i, h, hi, hj => by
    have e : wrap64 ((i : Int) - 1) = ((i - 1 : Nat) : Int) := by
      rw [w64 (by omega) (by omega)]
      omega
    by_cases c : rd a i < rd a ((i - 1 : Nat) : Int)
    · refine Ev.step (f := fun _ => some false) (fun k => ?_) ?_
      · simp only [spec_CurveOk.l0]
        rw [if_pos (by omega), if_pos (by omega), if_pos (by omega), e, if_pos (by omega), if_pos (by omega), if_pos c]
      · rw [decide_eq_false (show ¬ curve a from fun h3 => by have := curve_step h3 i hi (by omega); omega)]
        exact Ev.now _
    · refine Ev.step (f := fun k => spec_CurveOk.l0 k a ((i + 1 : Nat) : Int)) (fun k => ?_) (spec_CurveOk_l0 a hl c0 c1 d (i + 1) (by omega) (by omega) (fun j h1 h2 => ?_))
      · simp only [spec_CurveOk.l0]
        rw [if_pos (by omega), if_pos (by omega), if_pos (by omega), e, if_pos (by omega), if_pos (by omega), if_neg c, wsucc (by omega)]
      · by_cases e : j = i
        · subst e
          omega
        · exact hj j h1 (by omega)
theorem spec_CurveOk_ev (a : List Int) (hn : a.length ≤ 1099511627776) : Ev (fun k => spec_CurveOk.f k a) (decide (curve a)) := by
  have no : ∀ h : ¬ curve a, Ev (fun k => spec_CurveOk.j0 k a true) (decide (curve a)) := by
    intro h
    rw [decide_eq_false h]
    exact Ev.step (f := fun _ => some false) (fun k => by simp only [spec_CurveOk.j0]; rw [if_pos trivial]) (Ev.now _)
  unfold spec_CurveOk.f
  by_cases hl : (a.length : Int) = 17
  · refine Ev.congr (fun k => if_pos hl) ?_
    refine Ev.congr (fun k => if_pos (by omega)) ?_
    by_cases h0 : rd a 0 = 0
    · refine Ev.congr (fun k => if_pos h0) ?_
      refine Ev.congr (fun k => if_pos (by omega)) ?_
      by_cases h1 : rd a 16 = 255
      · refine Ev.step (f := fun k => spec_CurveOk.l0 k a 1) (fun k => ?_) (spec_CurveOk_l0 a (by omega) h0 h1 16 1 (by omega) (by omega) (fun j _ _ => by omega))
        simp only [spec_CurveOk.j0]
        rw [if_neg (by simp [h1])]
      · rw [show (rd a 16 != 255) = true by simp [h1]]
        exact no fun h => h1 h.2.2.1
    · refine Ev.congr (fun k => if_neg h0) ?_
      exact no fun h => h0 h.2.1
  · refine Ev.congr (fun k => if_neg hl) ?_
    exact no fun h => hl (by rw [h.1]; rfl)

theorem l01In_eq (a b c : Int) : spec_l01In.f a b c = some (decide (b ≤ a ∧ a ≤ c)) := by
  unfold spec_l01In.f
  by_cases h : a ≥ b
  · rw [if_pos h]
    simp [show b ≤ a from h]
  · rw [if_neg h]
    simp [show ¬ b ≤ a from h]

theorem spec_ToneAt_ev (a : List Int) (v : Int) (hn : a.length ≤ 1099511627776) : Ev (fun k => spec_ToneAt.f k a v) (if curve a ∧ 0 ≤ v ∧ v ≤ 256 then tone a v else -1) := by
  unfold spec_ToneAt.f
  refine (spec_CurveOk_ev a hn).bind ?_
  have no : Ev (fun k => spec_ToneAt.j0 k a v true) (-1) := Ev.step (f := fun _ => some (-1)) (fun k => by simp only [spec_ToneAt.j0]; rw [if_pos trivial]) (Ev.now _)
  by_cases h : curve a
  · refine ev_pos (decide_eq_true h) ?_
    refine ev_eq (l01In_eq _ _ _) ?_
    by_cases hv : 0 ≤ v ∧ v ≤ 256
    · rw [if_pos ⟨h, hv⟩, decide_eq_true hv]
      by_cases e : v = 256
      · refine Ev.step (f := fun _ => some (tone a v)) (fun k => ?_) (Ev.now _)
        simp only [spec_ToneAt.j0]
        rw [if_neg (by simp), if_pos e]
        unfold tone
        rw [if_pos e]
      · obtain ⟨e1, e2, e3⟩ := tone_expr h hv.1 (show v < 256 by omega)
        refine Ev.step (f := fun _ => some (tone a v)) (fun k => ?_) (Ev.now _)
        simp only [spec_ToneAt.j0]
        rw [if_neg (by simp), if_neg e, e3, e2, e1]
        have := h.1
        rw [if_pos (by omega), if_pos (by omega), if_pos (by omega), if_pos (by omega)]
    · rw [if_neg (fun q => hv q.2), decide_eq_false hv]
      exact no
  · rw [if_neg (fun q => h q.1)]
    exact ev_neg (by simp [h]) no

theorem spec_PrintFor_l0 (a : List Int) (t : Int) (h : curve a) (ht : t ≤ 255) :
    ∀ d n : Nat, n + d = 256 → Ev (fun k => spec_PrintFor.l0 k a t n) (firstAt a t d n)
  | 0, n, hd => by
    obtain rfl : n = 256 := by omega
    refine Ev.step (f := fun k => (spec_ToneAt.f k a ((256 : Nat) : Int)).bind fun t133 => (if t133 < t then (spec_PrintFor.l0 k a t (wrap64 (((256 : Nat) : Int) + 1))) else (some ((256 : Nat) : Int)))) (fun k => ?_) ?_
    · simp only [spec_PrintFor.l0]
    · refine (spec_ToneAt_ev a _ (by have := h.1; omega)).bind ?_
      rw [if_pos ⟨h, by omega, by omega⟩]
      refine ev_neg ?_ (Ev.now _)
      unfold tone
      rw [if_pos (by omega)]
      omega
  | d + 1, n, hd => by
    refine Ev.step (f := fun k => (spec_ToneAt.f k a (n : Int)).bind fun t133 => (if t133 < t then (spec_PrintFor.l0 k a t (wrap64 ((n : Int) + 1))) else (some (n : Int)))) (fun k => ?_) ?_
    · simp only [spec_PrintFor.l0]
    · refine (spec_ToneAt_ev a _ (by have := h.1; omega)).bind ?_
      rw [if_pos ⟨h, by omega, by omega⟩]
      unfold firstAt
      by_cases c : tone a n ≥ t
      · rw [if_pos c]
        exact ev_neg (by omega) (Ev.now _)
      · rw [if_neg c, wsucc (by omega)]
        exact ev_pos (by omega) (spec_PrintFor_l0 a t h ht d (n + 1) (by omega))
theorem spec_PrintFor_ev (a : List Int) (t : Int) (hn : a.length ≤ 1099511627776) : Ev (fun k => spec_PrintFor.f k a t) (if curve a ∧ 0 ≤ t ∧ t ≤ 255 then (firstAt a t 256 0 : Int) else -1) := by
  unfold spec_PrintFor.f
  refine (spec_CurveOk_ev a hn).bind ?_
  have no : Ev (fun k => spec_PrintFor.j0 k a t true) (-1) := Ev.step (f := fun _ => some (-1)) (fun k => by simp only [spec_PrintFor.j0]; rw [if_pos trivial]) (Ev.now _)
  by_cases h : curve a
  · refine ev_pos (decide_eq_true h) ?_
    refine ev_eq (l01In_eq _ _ _) ?_
    by_cases hv : 0 ≤ t ∧ t ≤ 255
    · rw [if_pos ⟨h, hv⟩, decide_eq_true hv]
      refine Ev.step (f := fun k => spec_PrintFor.l0 k a t 0) (fun k => ?_) (spec_PrintFor_l0 a t h hv.2 256 0 (by omega))
      simp only [spec_PrintFor.j0]
      rw [if_neg (by simp)]
    · rw [if_neg (fun q => hv q.2), decide_eq_false hv]
      exact no
  · rw [if_neg (fun q => h q.1)]
    exact ev_neg (by simp [h]) no

theorem FnExactPrintFor : laws_FnExactPrintFor.Pure := by
  intro l v hm hb hw _
  refine Ev.rounds ?_
  unfold laws_FnExactPrintFor.f
  by_cases hl : (l.length : Int) > 1048576
  · exact ev_pos hl (Ev.now _)
  refine ev_neg hl ?_
  refine (toIntS_ev l (by omega)).bind ?_
  refine (spec_PrintFor_ev l v (by omega)).bind ?_
  refine (toIntS_ev l (by omega)).bind ?_
  refine (impl_PrintFor_ev l v (by omega)).bind ?_
  refine ev_pos rfl ?_
  refine (toIntS_ev l (by omega)).bind ?_
  refine (eqIntS_ev l (by omega)).bind ?_
  exact ev_pos rfl (Ev.now _)

end Go.Proofs.Ytnbobpbdclbjlaa.Pure
