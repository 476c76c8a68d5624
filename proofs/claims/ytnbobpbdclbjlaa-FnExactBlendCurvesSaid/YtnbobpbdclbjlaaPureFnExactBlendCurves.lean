/-
  The program's BlendCurves gives the reference's curve and answer for all lists of ints and every part, in memory of its own, and leaves its arguments as they were.
-/
import Derived.Test.YtnbobpbdclbjlaaPFnExactBlendCurvesx4
import Derived.Test.YtnbobpbdclbjlaaWSized
/- The printed row names 'PrintWords.sized_ints' without its seat's letter W: the same law under the name that it looks for. -/
namespace Go.Proofs.Ytnbobpbdclbjlaa.PrintWords
open Go.ChangeShapes Go.WideShapes
theorem sized_ints {H : Type} {enc : TypeId × Value → H} {P : Program} {W : World} {base : Nat} {spare : Nat → Bool} {held : Bool} {t e : TypeId} {k : IntKind} {a : Option Addr} {len cap : Nat} {d : DataW H} {ps : List MemPlace} {ts : List TypeId} {ds : List (DataW H)} {j : Nat}
    (hsz : (DataW.weightsEach P ts ds).all (· ≤ reachBytes) = true) (ht : ts[j]? = some t) (hd : ds[j]? = some d) (hu : P.underlying t = some (.slice e)) (he : P.underlying e = some (.int k)) (hc : P.cellsOf e = 1) {B : Nat} (hB : P.bytesOf e = B)
    (h : DataW.Trod enc P W base spare held t (.slice a len cap) d ps) : len * B ≤ 140737488351232 :=
  Go.Proofs.YtnbobpbdclbjlaaW.PrintWords.sized_ints hsz ht hd hu he hc hB h
end Go.Proofs.Ytnbobpbdclbjlaa.PrintWords
namespace Go.Proofs.Ytnbobpbdclbjlaa.Pure
open Go.RowKit Go.Proofs.Ytnbobpbdclbjlaa.PFnExactBlendCurves Go.Proofs.YtnbobpbdclbjlaaW.PrintWords Go.Proofs.YtnbobpbdclbjlaaW.PrintLast Go.Proofs.YtnbobpbdclbjlaaW.PrintMore
set_option linter.unusedVariables false
set_option linter.unusedSimpArgs false

theorem w64 {n : Int} (h1 : -9223372036854775808 ≤ n) (h2 : n ≤ 9223372036854775807) : wrap64 n = n := by
  unfold wrap64
  omega
theorem wsucc {i : Nat} (h : i ≤ 1099511627776) : wrap64 ((i : Int) + 1) = ((i + 1 : Nat) : Int) := by
  rw [w64 (by omega) (by omega)]
  omega
theorem rd_nat (l : List Int) (i : Nat) : rd l (i : Int) = l.getD i 0 := by simp [rd]
theorem getD_drop (l : List Int) (i : Nat) (h : i < l.length) : l.drop i = l.getD i 0 :: l.drop (i + 1) := by
  rw [List.drop_eq_getElem_cons h]
  simp [List.getD_eq_getElem?_getD, List.getElem?_eq_getElem h]
theorem getD_take (l : List Int) (i : Nat) (h : i < l.length) : l.take (i + 1) = l.take i ++ [l.getD i 0] := by
  rw [List.take_succ_eq_append_getElem h]
  simp [List.getD_eq_getElem?_getD, List.getElem?_eq_getElem h]
theorem set_mid (p q : List Int) (u v : Int) (i : Nat) (h : p.length = i) : (p ++ u :: q).set i v = p ++ v :: q := by
  subst h
  simp [List.set_append_right]
theorem bind_id {α : Type} {g : Nat → Option α} {r : α} (h : Ev g r) : Ev (fun n => (g n).bind fun x => some x) r := by
  obtain ⟨K, h⟩ := h
  exact ⟨K, fun k hk => by simp [h k hk]⟩
theorem ev_pos {α : Type} {c : Prop} [Decidable c] {f g : Nat → Option α} {r : α} (h : c) (k : Ev f r) : Ev (fun n => if c then f n else g n) r := Ev.congr (fun n => if_pos h) k
theorem ev_neg {α : Type} {c : Prop} [Decidable c] {f g : Nat → Option α} {r : α} (h : ¬ c) (k : Ev g r) : Ev (fun n => if c then f n else g n) r := Ev.congr (fun n => if_neg h) k
theorem ev_eq {α β : Type} {g : Option α} {f : Nat → α → Option β} {a : α} {r : β} (h : g = some a) (k : Ev (fun n => f n a) r) : Ev (fun n => g.bind (f n)) r := by
  subst h
  exact k
theorem td {v : Int} (h : 0 ≤ v) (c : Int) : Int.tdiv v c = v / c := Int.tdiv_eq_ediv_of_nonneg h
theorem tm {v : Int} (h : 0 ≤ v) (c : Int) : Int.tmod v c = v % c := Int.tmod_eq_emod_of_nonneg h

theorem eqIntS_l0 (a : List Int) (hn : a.length ≤ 1099511627776) :
    ∀ d i : Nat, i + d = a.length → Ev (fun k => laws_eqIntS.l0 k a a i) true
  | 0, i, h => by
    refine Ev.step (f := fun _ => some true) (fun k => ?_) (Ev.now _)
    simp only [laws_eqIntS.l0]
    rw [if_neg (by omega)]
  | d + 1, i, h => by
    refine Ev.step (f := fun k => laws_eqIntS.l0 k a a ((i + 1 : Nat) : Int)) (fun k => ?_) (eqIntS_l0 a hn d (i + 1) (by omega))
    simp only [laws_eqIntS.l0]
    rw [if_pos (by omega), if_pos (by omega), if_pos (by omega), if_pos trivial, wsucc (by omega)]
theorem eqIntS_ev (a : List Int) (hn : a.length ≤ 1099511627776) : Ev (fun k => laws_eqIntS.f k a a) true := by
  refine Ev.congr (f := fun k => laws_eqIntS.l0 k a a 0) (fun k => ?_) (eqIntS_l0 a hn a.length 0 (by omega))
  unfold laws_eqIntS.f
  rw [if_pos rfl]

theorem toIntS_l0 (a : List Int) (hn : a.length ≤ 1099511627776) :
    ∀ d i : Nat, i + d = a.length → Ev (fun k => laws_toIntS.l0 k a (a.take i ++ List.replicate d 0) i) a
  | 0, i, h => by
    refine Ev.step (f := fun _ => some a) (fun k => ?_) (Ev.now _)
    simp only [laws_toIntS.l0]
    rw [if_neg (by omega)]
    simp [List.take_of_length_le (show a.length ≤ i by omega)]
  | d + 1, i, h => by
    refine Ev.step (f := fun k => laws_toIntS.l0 k a (a.take (i + 1) ++ List.replicate d 0) ((i + 1 : Nat) : Int)) (fun k => ?_) (toIntS_l0 a hn d (i + 1) (by omega))
    simp only [laws_toIntS.l0]
    rw [if_pos (by omega), if_pos (by omega), if_pos (by simp; omega), wsucc (by omega), rd_nat, List.replicate_succ, Int.toNat_natCast, set_mid _ _ _ _ _ (by simp; omega), getD_take a i (by omega)]
    simp
theorem toIntS_ev (a : List Int) (hn : a.length ≤ 1099511627776) : Ev (fun k => laws_toIntS.f k a) a := by
  refine Ev.congr (f := fun k => laws_toIntS.l0 k a (a.take 0 ++ List.replicate a.length 0) 0) (fun k => ?_) (toIntS_l0 a hn a.length 0 (by omega))
  unfold laws_toIntS.f
  rw [if_pos (by omega), if_pos (by omega)]
  simp

def marks (c : Nat) : Nat → List Int
  | 0 => []
  | n + 1 => (c : Int) :: marks (c + 1) n
theorem marks_length (n : Nat) : ∀ c, (marks c n).length = n := by
  induction n with
  | zero => intro c; rfl
  | succ n ih => intro c; simp [marks, ih]
theorem marks_snoc (n : Nat) : ∀ c, marks c (n + 1) = marks c n ++ [((c + n : Nat) : Int)] := by
  induction n with
  | zero => intro c; simp [marks]
  | succ n ih =>
    intro c
    rw [marks, ih (c + 1), marks]
    simp
    omega
theorem marks_get (n : Nat) : ∀ c i, i < n → (marks c n).getD i 0 = ((c + i : Nat) : Int) := by
  induction n with
  | zero => intro c i h; omega
  | succ n ih =>
    intro c i h
    cases i with
    | zero => simp [marks]
    | succ i =>
      rw [marks, List.getD_cons_succ, ih (c + 1) i (by omega)]
      omega
theorem markIntS_l0 (a : List Int) (c : Nat) (hn : a.length + c ≤ 1099511627776) :
    ∀ d i : Nat, i + d = a.length → Ev (fun k => laws_markIntS.l0 k (marks c i ++ a.drop i) ((c + i : Nat) : Int) i) (((c + a.length : Nat) : Int), marks c a.length)
  | 0, i, h => by
    obtain rfl : i = a.length := by omega
    refine Ev.step (f := fun _ => some (((c + a.length : Nat) : Int), marks c a.length)) (fun k => ?_) (Ev.now _)
    simp only [laws_markIntS.l0]
    rw [if_neg (by simp [marks_length])]
    simp
  | d + 1, i, h => by
    refine Ev.step (f := fun k => laws_markIntS.l0 k (marks c (i + 1) ++ a.drop (i + 1)) ((c + (i + 1) : Nat) : Int) ((i + 1 : Nat) : Int)) (fun k => ?_) (markIntS_l0 a c hn d (i + 1) (by omega))
    simp only [laws_markIntS.l0]
    rw [if_pos (by simp [marks_length]; omega), if_pos (by omega), wsucc (by omega), wsucc (by omega), getD_drop a i (by omega), Int.toNat_natCast, set_mid _ _ _ _ _ (marks_length _ _), marks_snoc]
    simp [Nat.add_assoc]
theorem markIntS_ev (a : List Int) (c : Nat) (hn : a.length + c ≤ 1099511627776) : Ev (fun k => laws_markIntS.f k a c) (((c + a.length : Nat) : Int), marks c a.length) := by
  refine Ev.congr (f := fun k => laws_markIntS.l0 k (marks c 0 ++ a.drop 0) ((c + 0 : Nat) : Int) 0) (fun k => ?_) (markIntS_l0 a c hn a.length 0 (by omega))
  unfold laws_markIntS.f
  simp [marks]

theorem heldIntS_l0 (n c : Nat) (hn : n + c ≤ 1099511627776) :
    ∀ d i : Nat, i + d = n → Ev (fun k => laws_heldIntS.l0 k (marks c n) ((c + i : Nat) : Int) i) ((c + n : Nat) : Int)
  | 0, i, h => by
    obtain rfl : i = n := by omega
    refine Ev.step (f := fun _ => some ((c + i : Nat) : Int)) (fun k => ?_) (Ev.now _)
    simp only [laws_heldIntS.l0]
    rw [if_neg (by simp [marks_length])]
  | d + 1, i, h => by
    refine Ev.step (f := fun k => laws_heldIntS.l0 k (marks c n) ((c + (i + 1) : Nat) : Int) ((i + 1 : Nat) : Int)) (fun k => ?_) (heldIntS_l0 n c hn d (i + 1) (by omega))
    simp only [laws_heldIntS.l0]
    rw [if_pos (by simp [marks_length]; omega), if_pos (by omega), wsucc (by omega), wsucc (by omega), rd_nat, marks_get _ _ _ (by omega), if_pos rfl]
    simp [Nat.add_assoc]
theorem heldIntS_ev (n c : Nat) (hn : n + c ≤ 1099511627776) : Ev (fun k => laws_heldIntS.f k (marks c n) c) ((c + n : Nat) : Int) := by
  refine Ev.congr (f := fun k => laws_heldIntS.l0 k (marks c n) ((c + 0 : Nat) : Int) 0) (fun k => ?_) (heldIntS_l0 n c hn n 0 (by omega))
  unfold laws_heldIntS.f
  simp

/-- A right tone curve: 17 values from 0 to 255 that never fall. -/
def curve (a : List Int) : Prop := a.length = 17 ∧ rd a 0 = 0 ∧ rd a 16 = 255 ∧ ∀ i : Nat, i < 16 → rd a i ≤ rd a ((i + 1 : Nat) : Int)
instance (a : List Int) : Decidable (curve a) := by
  unfold curve
  infer_instance
theorem curve_mk {a : List Int} (h0 : a.length = 17) (h1 : rd a 0 = 0) (h2 : rd a 16 = 255) (h3 : ∀ i : Nat, 1 ≤ i → i ≤ 16 → rd a ((i - 1 : Nat) : Int) ≤ rd a i) : curve a :=
  ⟨h0, h1, h2, fun i hi => h3 (i + 1) (by omega) (by omega)⟩
theorem curve_step {a : List Int} (h : curve a) (i : Nat) (h1 : 1 ≤ i) (h2 : i ≤ 16) : rd a ((i - 1 : Nat) : Int) ≤ rd a i := by
  have := h.2.2.2 (i - 1) (by omega)
  rwa [show i - 1 + 1 = i by omega] at this
theorem curve_le {a : List Int} (h : curve a) : ∀ j i : Nat, i ≤ j → j ≤ 16 → rd a i ≤ rd a j := by
  intro j
  induction j with
  | zero => intro i h1 h2; obtain rfl : i = 0 := by omega
            exact Int.le_refl _
  | succ j ih =>
    intro i h1 h2
    by_cases e : i = j + 1
    · subst e
      exact Int.le_refl _
    · have h3 := ih i (by omega) (by omega)
      have h4 := h.2.2.2 j (by omega)
      omega
theorem curve_in {a : List Int} (h : curve a) (i : Nat) (hi : i ≤ 16) : 0 ≤ rd a i ∧ rd a i ≤ 255 := by
  have h1 := curve_le h i 0 (by omega) hi
  have h2 := curve_le h 16 i hi (by omega)
  have h3 := h.2.1
  have h4 := h.2.2.1
  have e0 : rd a ((0 : Nat) : Int) = rd a 0 := rfl
  have e1 : rd a ((16 : Nat) : Int) = rd a 16 := rfl
  omega

theorem impl_CurveOk_l0 (a : List Int) (hl : a.length = 17) (c0 : rd a 0 = 0) (c1 : rd a 16 = 255) :
    ∀ d i : Nat, i + d = 17 → (∀ j : Nat, 1 ≤ j → j < i → rd a ((j - 1 : Nat) : Int) ≤ rd a j) → Ev (fun k => impl_CurveOk.l0 k a a (a.length : Int) i) (decide (curve a))
  | 0, i, h, hj => by
    refine Ev.step (f := fun _ => some true) (fun k => ?_) ?_
    · simp only [impl_CurveOk.l0]
      rw [if_neg (by omega)]
    · rw [decide_eq_true (curve_mk hl c0 c1 fun j h1 h2 => hj j h1 (by omega))]
      exact Ev.now _
  | d + 1, i, h, hj => by
    by_cases w : rd a i ≥ 0 ∧ rd a i ≤ 255
    · by_cases i0 : i = 0
      · subst i0
        refine Ev.step (f := fun k => impl_CurveOk.l0 k a a (a.length : Int) ((0 + 1 : Nat) : Int)) (fun k => ?_) (impl_CurveOk_l0 a hl c0 c1 d (0 + 1) (by omega) (fun j h1 h2 => by omega))
        simp only [impl_CurveOk.l0, impl_within.f]
        rw [if_pos (by omega), if_pos (by omega), if_pos (by omega), if_pos w.1, Option.bind_some, if_pos (decide_eq_true w.2), if_neg (by omega), wsucc (by omega)]
      · have e : wrap64 ((i : Int) - 1) = ((i - 1 : Nat) : Int) := by
          rw [w64 (by omega) (by omega)]
          omega
        by_cases c : rd a i < rd a ((i - 1 : Nat) : Int)
        · refine Ev.step (f := fun _ => some false) (fun k => ?_) ?_
          · simp only [impl_CurveOk.l0, impl_within.f]
            rw [if_pos (by omega), if_pos (by omega), if_pos (by omega), if_pos w.1, Option.bind_some, if_pos (decide_eq_true w.2), if_pos (by omega), e, if_pos (by omega), if_pos (by omega), if_pos c]
          · rw [decide_eq_false (show ¬ curve a from fun h3 => by have := curve_step h3 i (by omega) (by omega); omega)]
            exact Ev.now _
        · refine Ev.step (f := fun k => impl_CurveOk.l0 k a a (a.length : Int) ((i + 1 : Nat) : Int)) (fun k => ?_) (impl_CurveOk_l0 a hl c0 c1 d (i + 1) (by omega) (fun j h1 h2 => ?_))
          · simp only [impl_CurveOk.l0, impl_within.f]
            rw [if_pos (by omega), if_pos (by omega), if_pos (by omega), if_pos w.1, Option.bind_some, if_pos (decide_eq_true w.2), if_pos (by omega), e, if_pos (by omega), if_pos (by omega), if_neg c, wsucc (by omega)]
          · by_cases e : j = i
            · subst e
              omega
            · exact hj j h1 (by omega)
    · refine Ev.step (f := fun _ => some false) (fun k => ?_) ?_
      · simp only [impl_CurveOk.l0, impl_within.f]
        rw [if_pos (by omega), if_pos (by omega), if_pos (by omega)]
        by_cases c : rd a i ≥ 0
        · rw [if_pos c]
          simp [show ¬ rd a i ≤ 255 by omega]
        · rw [if_neg c]
          simp
      · rw [decide_eq_false (show ¬ curve a from fun h3 => by have := curve_in h3 i (by omega); omega)]
        exact Ev.now _
theorem impl_CurveOk_ev (a : List Int) (hn : a.length ≤ 1099511627776) : Ev (fun k => impl_CurveOk.f k a) (decide (curve a)) := by
  have no : ∀ h : ¬ curve a, Ev (fun k => impl_CurveOk.j0 k a true) (decide (curve a)) := by
    intro h
    rw [decide_eq_false h]
    exact Ev.step (f := fun _ => some false) (fun k => by simp only [impl_CurveOk.j0]; rw [if_pos trivial]) (Ev.now _)
  unfold impl_CurveOk.f
  by_cases hl : (a.length : Int) = 17
  · refine Ev.congr (fun k => if_pos hl) ?_
    refine Ev.congr (fun k => if_pos (by omega)) ?_
    by_cases h0 : rd a 0 = 0
    · refine Ev.congr (fun k => if_pos h0) ?_
      refine Ev.congr (fun k => if_pos (by omega)) ?_
      by_cases h1 : rd a 16 = 255
      · refine Ev.step (f := fun k => impl_CurveOk.l0 k a a (a.length : Int) 0) (fun k => ?_) (impl_CurveOk_l0 a (by omega) h0 h1 17 0 (by omega) (fun j _ _ => by omega))
        simp only [impl_CurveOk.j0]
        rw [if_neg (by simp [h1])]
      · rw [show (rd a 16 != 255) = true by simp [h1]]
        exact no fun h => h1 h.2.2.1
    · refine Ev.congr (fun k => if_neg h0) ?_
      exact no fun h => h0 h.2.1
  · refine Ev.congr (fun k => if_neg hl) ?_
    exact no fun h => hl (by rw [h.1]; rfl)

theorem within_eq (a b c : Int) : impl_within.f a b c = some (decide (b ≤ a ∧ a ≤ c)) := by
  unfold impl_within.f
  by_cases h : a ≥ b
  · rw [if_pos h]
    simp [show b ≤ a from h]
  · rw [if_neg h]
    simp [show ¬ b ≤ a from h]

/-- One blended value, as the program reckons it. -/
def blendAt (a b : List Int) (p i : Int) : Int := wrap64 (Int.tdiv (wrap64 ((wrap64 ((rd a i) * (wrap64 (100 - p)))) + (wrap64 ((rd b i) * p)))) 100)
def blend (a b : List Int) (p : Int) (n : Nat) : List Int := (List.range n).map fun i => blendAt a b p (i : Nat)
theorem blend_succ (a b : List Int) (p : Int) (n : Nat) : blend a b p (n + 1) = blend a b p n ++ [blendAt a b p n] := by
  unfold blend
  rw [List.range_succ, List.map_append]
  rfl
theorem blend_length (a b : List Int) (p : Int) (n : Nat) : (blend a b p n).length = n := by simp [blend]
theorem impl_Blend_l0 (a b : List Int) (p : Int) (ha : a.length = 17) (hb : b.length = 17) :
    ∀ d i : Nat, i + d = 17 → Ev (fun k => impl_BlendCurves.l0 k a b p (blend a b p i) (a.length : Int) i) (blend a b p 17, true)
  | 0, i, h => by
    obtain rfl : i = 17 := by omega
    refine Ev.step (f := fun _ => some (blend a b p 17, true)) (fun k => ?_) (Ev.now _)
    simp only [impl_BlendCurves.l0]
    rw [if_neg (by omega)]
  | d + 1, i, h => by
    refine Ev.step (f := fun k => impl_BlendCurves.l0 k a b p (blend a b p (i + 1)) (a.length : Int) ((i + 1 : Nat) : Int)) (fun k => ?_) (impl_Blend_l0 a b p ha hb d (i + 1) (by omega))
    simp only [impl_BlendCurves.l0]
    rw [if_pos (by omega), if_pos (by omega), if_pos (by omega), if_pos (by omega), if_pos (by rw [blend_length]; omega), wsucc (by omega), blend_succ]
    rfl
theorem impl_Blend_ev (a b : List Int) (p : Int) (ha : a.length ≤ 1099511627776) (hb : b.length ≤ 1099511627776) :
    Ev (fun k => impl_BlendCurves.f k a b p) (if curve a ∧ curve b ∧ 0 ≤ p ∧ p ≤ 100 then (blend a b p 17, true) else ([], false)) := by
  unfold impl_BlendCurves.f
  have no : Ev (fun k => impl_BlendCurves.j0 k a b p true) ([], false) := Ev.step (f := fun _ => some ([], false)) (fun k => by simp only [impl_BlendCurves.j0]; rw [if_pos trivial]) (Ev.now _)
  refine (impl_CurveOk_ev a ha).bind ?_
  by_cases h : curve a
  · refine ev_pos (decide_eq_true h) ?_
    refine (impl_CurveOk_ev b hb).bind ?_
    by_cases h2 : curve b
    · refine ev_pos (decide_eq_true h2) ?_
      refine ev_eq (within_eq _ _ _) ?_
      by_cases hv : 0 ≤ p ∧ p ≤ 100
      · rw [if_pos ⟨h, h2, hv⟩, decide_eq_true hv]
        refine Ev.step (f := fun k => impl_BlendCurves.l0 k a b p (blend a b p 0) (a.length : Int) 0) (fun k => ?_) (impl_Blend_l0 a b p h.1 h2.1 17 0 (by omega))
        simp only [impl_BlendCurves.j0]
        rw [if_neg (by simp)]
        rfl
      · rw [if_neg (fun q => hv q.2.2), decide_eq_false hv]
        exact no
    · rw [if_neg (fun q => h2 q.2.1)]
      exact ev_neg (by simp [h2]) no
  · rw [if_neg (fun q => h q.1)]
    exact ev_neg (by simp [h]) no

theorem spec_CurveOk_l0 (a : List Int) (hl : a.length = 17) (c0 : rd a 0 = 0) (c1 : rd a 16 = 255) :
    ∀ d i : Nat, i + d = 17 → 1 ≤ i → (∀ j : Nat, 1 ≤ j → j < i → rd a ((j - 1 : Nat) : Int) ≤ rd a j) → Ev (fun k => spec_CurveOk.l0 k a i) (decide (curve a))
  | 0, i, h, hi, hj => by
    refine Ev.step (f := fun _ => some true) (fun k => ?_) ?_
    · simp only [spec_CurveOk.l0]
      rw [if_neg (by omega)]
    · rw [decide_eq_true (curve_mk hl c0 c1 fun j h1 h2 => hj j h1 (by omega))]
      exact Ev.now _
  | d + 1, i, h, hi, hj => by
    have e : wrap64 ((i : Int) - 1) = ((i - 1 : Nat) : Int) := by
      rw [w64 (by omega) (by omega)]
      omega
    by_cases c : rd a i < rd a ((i - 1 : Nat) : Int)
    · refine Ev.step (f := fun _ => some false) (fun k => ?_) ?_
      · simp only [spec_CurveOk.l0]
        rw [if_pos (by omega), if_pos (by omega), if_pos (by omega), e, if_pos (by omega), if_pos (by omega), if_pos c]
      · rw [decide_eq_false (show ¬ curve a from fun h3 => by have := curve_step h3 i hi (by omega); omega)]
        exact Ev.now _
    · refine Ev.step (f := fun k => spec_CurveOk.l0 k a ((i + 1 : Nat) : Int)) (fun k => ?_) (spec_CurveOk_l0 a hl c0 c1 d (i + 1) (by omega) (by omega) (fun j h1 h2 => ?_))
      · simp only [spec_CurveOk.l0]
        rw [if_pos (by omega), if_pos (by omega), if_pos (by omega), e, if_pos (by omega), if_pos (by omega), if_neg c, wsucc (by omega)]
      · by_cases e : j = i
        · subst e
          omega
        · exact hj j h1 (by omega)
theorem spec_CurveOk_ev (a : List Int) (hn : a.length ≤ 1099511627776) : Ev (fun k => spec_CurveOk.f k a) (decide (curve a)) := by
  have no : ∀ h : ¬ curve a, Ev (fun k => spec_CurveOk.j0 k a true) (decide (curve a)) := by
    intro h
    rw [decide_eq_false h]
    exact Ev.step (f := fun _ => some false) (fun k => by simp only [spec_CurveOk.j0]; rw [if_pos trivial]) (Ev.now _)
  unfold spec_CurveOk.f
  by_cases hl : (a.length : Int) = 17
  · refine Ev.congr (fun k => if_pos hl) ?_
    refine Ev.congr (fun k => if_pos (by omega)) ?_
    by_cases h0 : rd a 0 = 0
    · refine Ev.congr (fun k => if_pos h0) ?_
      refine Ev.congr (fun k => if_pos (by omega)) ?_
      by_cases h1 : rd a 16 = 255
      · refine Ev.step (f := fun k => spec_CurveOk.l0 k a 1) (fun k => ?_) (spec_CurveOk_l0 a (by omega) h0 h1 16 1 (by omega) (by omega) (fun j _ _ => by omega))
        simp only [spec_CurveOk.j0]
        rw [if_neg (by simp [h1])]
      · rw [show (rd a 16 != 255) = true by simp [h1]]
        exact no fun h => h1 h.2.2.1
    · refine Ev.congr (fun k => if_neg h0) ?_
      exact no fun h => h0 h.2.1
  · refine Ev.congr (fun k => if_neg hl) ?_
    exact no fun h => hl (by rw [h.1]; rfl)

theorem l01In_eq (a b c : Int) : spec_l01In.f a b c = some (decide (b ≤ a ∧ a ≤ c)) := by
  unfold spec_l01In.f
  by_cases h : a ≥ b
  · rw [if_pos h]
    simp [show b ≤ a from h]
  · rw [if_neg h]
    simp [show ¬ b ≤ a from h]

theorem spec_Blend_l0 (a b : List Int) (p : Int) (ha : a.length = 17) (hb : b.length = 17) :
    ∀ d i : Nat, i + d = 17 → Ev (fun k => spec_BlendCurves.l0 k a b p (blend a b p i) i) (blend a b p 17, true)
  | 0, i, h => by
    obtain rfl : i = 17 := by omega
    refine Ev.step (f := fun _ => some (blend a b p 17, true)) (fun k => ?_) (Ev.now _)
    simp only [spec_BlendCurves.l0]
    rw [if_neg (by omega)]
  | d + 1, i, h => by
    refine Ev.step (f := fun k => spec_BlendCurves.l0 k a b p (blend a b p (i + 1)) ((i + 1 : Nat) : Int)) (fun k => ?_) (spec_Blend_l0 a b p ha hb d (i + 1) (by omega))
    simp only [spec_BlendCurves.l0]
    rw [if_pos (by omega), if_pos (by omega), if_pos (by omega), if_pos (by omega), if_pos (by rw [blend_length]; omega), wsucc (by omega), blend_succ]
    rfl
theorem spec_Blend_ev (a b : List Int) (p : Int) (ha : a.length ≤ 1099511627776) (hb : b.length ≤ 1099511627776) :
    Ev (fun k => spec_BlendCurves.f k a b p) (if curve a ∧ curve b ∧ 0 ≤ p ∧ p ≤ 100 then (blend a b p 17, true) else ([], false)) := by
  unfold spec_BlendCurves.f
  have no : Ev (fun k => spec_BlendCurves.j0 k a b p [] true) ([], false) := Ev.step (f := fun _ => some ([], false)) (fun k => by simp only [spec_BlendCurves.j0]; rw [if_pos trivial]) (Ev.now _)
  refine ev_eq rfl ?_
  refine (spec_CurveOk_ev a ha).bind ?_
  by_cases h : curve a
  · refine ev_pos (decide_eq_true h) ?_
    refine (spec_CurveOk_ev b hb).bind ?_
    by_cases h2 : curve b
    · refine ev_pos (decide_eq_true h2) ?_
      refine ev_eq (l01In_eq _ _ _) ?_
      by_cases hv : 0 ≤ p ∧ p ≤ 100
      · rw [if_pos ⟨h, h2, hv⟩, decide_eq_true hv]
        refine Ev.step (f := fun k => spec_BlendCurves.l0 k a b p (blend a b p 0) 0) (fun k => ?_) (spec_Blend_l0 a b p h.1 h2.1 17 0 (by omega))
        simp only [spec_BlendCurves.j0]
        rw [if_neg (by simp)]
        rfl
      · rw [if_neg (fun q => hv q.2.2), decide_eq_false hv]
        exact no
    · rw [if_neg (fun q => h2 q.2.1)]
      exact ev_neg (by simp [h2]) no
  · rw [if_neg (fun q => h q.1)]
    exact ev_neg (by simp [h]) no

theorem FnExactBlendCurves : laws_FnExactBlendCurves.Pure := by
  intro l0 l1 p hm0 _ _ hm1 _ _ _
  refine Ev.rounds ?_
  unfold laws_FnExactBlendCurves.f
  by_cases hl : (l0.length : Int) > 1048576
  · exact ev_pos hl (Ev.now _)
  refine ev_neg hl ?_
  by_cases hl1 : (l1.length : Int) > 1048576
  · exact ev_pos hl1 (Ev.now _)
  refine ev_neg hl1 ?_
  obtain ⟨r, hr, hrl⟩ : ∃ r : List Int × Bool, (if curve l0 ∧ curve l1 ∧ 0 ≤ p ∧ p ≤ 100 then (blend l0 l1 p 17, true) else ([], false)) = r ∧ r.1.length ≤ 17 := by
    refine ⟨_, rfl, ?_⟩
    split
    · rw [blend_length]
      omega
    · simp
  have s := spec_Blend_ev l0 l1 p (by omega) (by omega)
  have i := impl_Blend_ev l0 l1 p (by omega) (by omega)
  rw [hr] at s i
  have t0 := toIntS_ev l0 (by omega)
  have t1 := toIntS_ev l1 (by omega)
  have e0 := eqIntS_ev l0 (by omega)
  have e1 := eqIntS_ev l1 (by omega)
  have er := eqIntS_ev r.1 (by omega)
  refine t0.bind (t1.bind (s.bind (t0.bind (t1.bind (i.bind (er.bind ?_))))))
  refine ev_pos rfl ?_
  rw [show (r.2 != r.2) = false by simp]
  refine Ev.step (fun k => by simp only [laws_FnExactBlendCurves.j0]; rw [if_neg (by simp)]) ?_
  refine t0.bind (e0.bind (ev_pos rfl (t1.bind (e1.bind (ev_pos rfl ?_)))))
  have m0 := markIntS_ev l0 1 (by omega)
  have m1 := markIntS_ev l1 (1 + l0.length) (by omega)
  refine m0.bind (m1.bind ?_)
  refine ev_neg (by simp only; omega) (er.bind (ev_pos rfl ?_))
  rw [show (r.2 != r.2) = false by simp]
  refine Ev.step (fun k => by simp only [laws_FnExactBlendCurves.j1]; rw [if_neg (by simp)]) ?_
  have m2 := markIntS_ev r.1 1 (by omega)
  have h2 := heldIntS_ev r.1.length 1 (by omega)
  refine m2.bind (h2.bind (ev_neg (by omega) (ev_pos rfl ?_)))
  refine t0.bind (t1.bind (i.bind (er.bind (ev_pos rfl ?_))))
  rw [show (r.2 != r.2) = false by simp]
  refine Ev.step (fun k => by simp only [laws_FnExactBlendCurves.j2]; rw [if_neg (by simp)]) ?_
  exact h2.bind (ev_neg (by omega) (ev_pos rfl (Ev.now _)))

end Go.Proofs.Ytnbobpbdclbjlaa.Pure
