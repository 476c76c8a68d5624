/-
  The program's ScreenRow gives the reference's dots for every list of ints and every row, in memory of its own, and leaves the list as it was.
-/
import Derived.Test.YtnbobpbdclbjlaaPFnExactScreenRowx2
import Derived.Test.YtnbobpbdclbjlaaWSized
/- The printed row names 'PrintWords.sized_ints' without its seat's letter W: the same law under the name that it looks for. -/
namespace Go.Proofs.Ytnbobpbdclbjlaa.PrintWords
open Go.ChangeShapes Go.WideShapes
theorem sized_ints {H : Type} {enc : TypeId × Value → H} {P : Program} {W : World} {base : Nat} {spare : Nat → Bool} {held : Bool} {t e : TypeId} {k : IntKind} {a : Option Addr} {len cap : Nat} {d : DataW H} {ps : List MemPlace} {ts : List TypeId} {ds : List (DataW H)} {j : Nat}
    (hsz : (DataW.weightsEach P ts ds).all (· ≤ reachBytes) = true) (ht : ts[j]? = some t) (hd : ds[j]? = some d) (hu : P.underlying t = some (.slice e)) (he : P.underlying e = some (.int k)) (hc : P.cellsOf e = 1) {B : Nat} (hB : P.bytesOf e = B)
    (h : DataW.Trod enc P W base spare held t (.slice a len cap) d ps) : len * B ≤ 140737488351232 :=
  Go.Proofs.YtnbobpbdclbjlaaW.PrintWords.sized_ints hsz ht hd hu he hc hB h
end Go.Proofs.Ytnbobpbdclbjlaa.PrintWords
namespace Go.Proofs.Ytnbobpbdclbjlaa.Pure
open Go.RowKit Go.Proofs.Ytnbobpbdclbjlaa.PFnExactScreenRow Go.Proofs.YtnbobpbdclbjlaaW.PrintWords Go.Proofs.YtnbobpbdclbjlaaW.PrintLast Go.Proofs.YtnbobpbdclbjlaaW.PrintMore
set_option linter.unusedVariables false
set_option linter.unusedSimpArgs false

theorem w64 {n : Int} (h1 : -9223372036854775808 ≤ n) (h2 : n ≤ 9223372036854775807) : wrap64 n = n := by
  unfold wrap64
  omega
theorem wsucc {i : Nat} (h : i ≤ 1099511627776) : wrap64 ((i : Int) + 1) = ((i + 1 : Nat) : Int) := by
  rw [w64 (by omega) (by omega)]
  omega
theorem rd_nat (l : List Int) (i : Nat) : rd l (i : Int) = l.getD i 0 := by simp [rd]
theorem getD_drop (l : List Int) (i : Nat) (h : i < l.length) : l.drop i = l.getD i 0 :: l.drop (i + 1) := by
  rw [List.drop_eq_getElem_cons h]
  simp [List.getD_eq_getElem?_getD, List.getElem?_eq_getElem h]
theorem getD_take (l : List Int) (i : Nat) (h : i < l.length) : l.take (i + 1) = l.take i ++ [l.getD i 0] := by
  rw [List.take_succ_eq_append_getElem h]
  simp [List.getD_eq_getElem?_getD, List.getElem?_eq_getElem h]
theorem set_mid (p q : List Int) (u v : Int) (i : Nat) (h : p.length = i) : (p ++ u :: q).set i v = p ++ v :: q := by
  subst h
  simp [List.set_append_right]
theorem bind_id {α : Type} {g : Nat → Option α} {r : α} (h : Ev g r) : Ev (fun n => (g n).bind fun x => some x) r := by
  obtain ⟨K, h⟩ := h
  exact ⟨K, fun k hk => by simp [h k hk]⟩
theorem ev_pos {α : Type} {c : Prop} [Decidable c] {f g : Nat → Option α} {r : α} (h : c) (k : Ev f r) : Ev (fun n => if c then f n else g n) r := Ev.congr (fun n => if_pos h) k
theorem ev_neg {α : Type} {c : Prop} [Decidable c] {f g : Nat → Option α} {r : α} (h : ¬ c) (k : Ev g r) : Ev (fun n => if c then f n else g n) r := Ev.congr (fun n => if_neg h) k
theorem ev_eq {α β : Type} {g : Option α} {f : Nat → α → Option β} {a : α} {r : β} (h : g = some a) (k : Ev (fun n => f n a) r) : Ev (fun n => g.bind (f n)) r := by
  subst h
  exact k
theorem td {v : Int} (h : 0 ≤ v) (c : Int) : Int.tdiv v c = v / c := Int.tdiv_eq_ediv_of_nonneg h
theorem tm {v : Int} (h : 0 ≤ v) (c : Int) : Int.tmod v c = v % c := Int.tmod_eq_emod_of_nonneg h

theorem eqIntS_l0 (a : List Int) (hn : a.length ≤ 1099511627776) :
    ∀ d i : Nat, i + d = a.length → Ev (fun k => laws_eqIntS.l0 k a a i) true
  | 0, i, h => by
    refine Ev.step (f := fun _ => some true) (fun k => ?_) (Ev.now _)
    simp only [laws_eqIntS.l0]
    rw [if_neg (by omega)]
  | d + 1, i, h => by
    refine Ev.step (f := fun k => laws_eqIntS.l0 k a a ((i + 1 : Nat) : Int)) (fun k => ?_) (eqIntS_l0 a hn d (i + 1) (by omega))
    simp only [laws_eqIntS.l0]
    rw [if_pos (by omega), if_pos (by omega), if_pos (by omega), if_pos trivial, wsucc (by omega)]
theorem eqIntS_ev (a : List Int) (hn : a.length ≤ 1099511627776) : Ev (fun k => laws_eqIntS.f k a a) true := by
  refine Ev.congr (f := fun k => laws_eqIntS.l0 k a a 0) (fun k => ?_) (eqIntS_l0 a hn a.length 0 (by omega))
  unfold laws_eqIntS.f
  rw [if_pos rfl]

theorem toIntS_l0 (a : List Int) (hn : a.length ≤ 1099511627776) :
    ∀ d i : Nat, i + d = a.length → Ev (fun k => laws_toIntS.l0 k a (a.take i ++ List.replicate d 0) i) a
  | 0, i, h => by
    refine Ev.step (f := fun _ => some a) (fun k => ?_) (Ev.now _)
    simp only [laws_toIntS.l0]
    rw [if_neg (by omega)]
    simp [List.take_of_length_le (show a.length ≤ i by omega)]
  | d + 1, i, h => by
    refine Ev.step (f := fun k => laws_toIntS.l0 k a (a.take (i + 1) ++ List.replicate d 0) ((i + 1 : Nat) : Int)) (fun k => ?_) (toIntS_l0 a hn d (i + 1) (by omega))
    simp only [laws_toIntS.l0]
    rw [if_pos (by omega), if_pos (by omega), if_pos (by simp; omega), wsucc (by omega), rd_nat, List.replicate_succ, Int.toNat_natCast, set_mid _ _ _ _ _ (by simp; omega), getD_take a i (by omega)]
    simp
theorem toIntS_ev (a : List Int) (hn : a.length ≤ 1099511627776) : Ev (fun k => laws_toIntS.f k a) a := by
  refine Ev.congr (f := fun k => laws_toIntS.l0 k a (a.take 0 ++ List.replicate a.length 0) 0) (fun k => ?_) (toIntS_l0 a hn a.length 0 (by omega))
  unfold laws_toIntS.f
  rw [if_pos (by omega), if_pos (by omega)]
  simp

def marks (c : Nat) : Nat → List Int
  | 0 => []
  | n + 1 => (c : Int) :: marks (c + 1) n
theorem marks_length (n : Nat) : ∀ c, (marks c n).length = n := by
  induction n with
  | zero => intro c; rfl
  | succ n ih => intro c; simp [marks, ih]
theorem marks_snoc (n : Nat) : ∀ c, marks c (n + 1) = marks c n ++ [((c + n : Nat) : Int)] := by
  induction n with
  | zero => intro c; simp [marks]
  | succ n ih =>
    intro c
    rw [marks, ih (c + 1), marks]
    simp
    omega
theorem marks_get (n : Nat) : ∀ c i, i < n → (marks c n).getD i 0 = ((c + i : Nat) : Int) := by
  induction n with
  | zero => intro c i h; omega
  | succ n ih =>
    intro c i h
    cases i with
    | zero => simp [marks]
    | succ i =>
      rw [marks, List.getD_cons_succ, ih (c + 1) i (by omega)]
      omega
theorem markIntS_l0 (a : List Int) (c : Nat) (hn : a.length + c ≤ 1099511627776) :
    ∀ d i : Nat, i + d = a.length → Ev (fun k => laws_markIntS.l0 k (marks c i ++ a.drop i) ((c + i : Nat) : Int) i) (((c + a.length : Nat) : Int), marks c a.length)
  | 0, i, h => by
    obtain rfl : i = a.length := by omega
    refine Ev.step (f := fun _ => some (((c + a.length : Nat) : Int), marks c a.length)) (fun k => ?_) (Ev.now _)
    simp only [laws_markIntS.l0]
    rw [if_neg (by simp [marks_length])]
    simp
  | d + 1, i, h => by
    refine Ev.step (f := fun k => laws_markIntS.l0 k (marks c (i + 1) ++ a.drop (i + 1)) ((c + (i + 1) : Nat) : Int) ((i + 1 : Nat) : Int)) (fun k => ?_) (markIntS_l0 a c hn d (i + 1) (by omega))
    simp only [laws_markIntS.l0]
    rw [if_pos (by simp [marks_length]; omega), if_pos (by omega), wsucc (by omega), wsucc (by omega), getD_drop a i (by omega), Int.toNat_natCast, set_mid _ _ _ _ _ (marks_length _ _), marks_snoc]
    simp [Nat.add_assoc]
theorem markIntS_ev (a : List Int) (c : Nat) (hn : a.length + c ≤ 1099511627776) : Ev (fun k => laws_markIntS.f k a c) (((c + a.length : Nat) : Int), marks c a.length) := by
  refine Ev.congr (f := fun k => laws_markIntS.l0 k (marks c 0 ++ a.drop 0) ((c + 0 : Nat) : Int) 0) (fun k => ?_) (markIntS_l0 a c hn a.length 0 (by omega))
  unfold laws_markIntS.f
  simp [marks]

theorem heldIntS_l0 (n c : Nat) (hn : n + c ≤ 1099511627776) :
    ∀ d i : Nat, i + d = n → Ev (fun k => laws_heldIntS.l0 k (marks c n) ((c + i : Nat) : Int) i) ((c + n : Nat) : Int)
  | 0, i, h => by
    obtain rfl : i = n := by omega
    refine Ev.step (f := fun _ => some ((c + i : Nat) : Int)) (fun k => ?_) (Ev.now _)
    simp only [laws_heldIntS.l0]
    rw [if_neg (by simp [marks_length])]
  | d + 1, i, h => by
    refine Ev.step (f := fun k => laws_heldIntS.l0 k (marks c n) ((c + (i + 1) : Nat) : Int) ((i + 1 : Nat) : Int)) (fun k => ?_) (heldIntS_l0 n c hn d (i + 1) (by omega))
    simp only [laws_heldIntS.l0]
    rw [if_pos (by simp [marks_length]; omega), if_pos (by omega), wsucc (by omega), wsucc (by omega), rd_nat, marks_get _ _ _ (by omega), if_pos rfl]
    simp [Nat.add_assoc]
theorem heldIntS_ev (n c : Nat) (hn : n + c ≤ 1099511627776) : Ev (fun k => laws_heldIntS.f k (marks c n) c) ((c + n : Nat) : Int) := by
  refine Ev.congr (f := fun k => laws_heldIntS.l0 k (marks c n) ((c + 0 : Nat) : Int) 0) (fun k => ?_) (heldIntS_l0 n c hn n 0 (by omega))
  unfold laws_heldIntS.f
  simp

def tab : List Int := [0, 8, 2, 10, 12, 4, 14, 6, 3, 11, 1, 9, 15, 7, 13, 5]
theorem tab_in : ∀ n : Nat, n < 16 → 0 ≤ rd tab (n : Int) ∧ rd tab (n : Int) ≤ 15 := by decide +kernel
/-- The threshold at a place; -1 outside. -/
def thr (x y : Int) : Int := if x < 0 then -1 else if y < 0 then -1 else 16 * rd tab (4 * (y % 4) + x % 4) + 8
theorem tab_int {i : Int} (h0 : 0 ≤ i) (h1 : i < 16) : 0 ≤ rd tab i ∧ rd tab i ≤ 15 := by
  obtain ⟨n, rfl⟩ : ∃ n : Nat, i = n := ⟨i.toNat, by omega⟩
  exact tab_in n (by omega)
theorem thr_in {x y : Int} (hx : 0 ≤ x) (hy : 0 ≤ y) : 8 ≤ thr x y ∧ thr x y ≤ 248 := by
  have := tab_int (i := 4 * (y % 4) + x % 4) (by omega) (by omega)
  unfold thr
  rw [if_neg (by omega), if_neg (by omega)]
  omega
theorem impl_ThresholdAt_eq (x y : Int) : impl_ThresholdAt.f x y = some (thr x y) := by
  unfold impl_ThresholdAt.f thr
  by_cases hx : x < 0
  · rw [if_pos hx, if_pos hx]
  · rw [if_neg hx, if_neg hx]
    by_cases hy : y < 0
    · rw [if_pos hy, if_pos hy]
    · rw [if_neg hy, if_neg hy]
      rfl

/-- Is there a dot? -/
def dot (v x y : Int) : Int := if x < 0 ∨ y < 0 ∨ v ≤ thr x y then 0 else 1
theorem dot_in (v x y : Int) : 0 ≤ dot v x y ∧ dot v x y ≤ 1 := by
  unfold dot
  split <;> omega
theorem impl_ScreenDot_eq (v x y : Int) : impl_ScreenDot.f v x y = some (dot v x y) := by
  unfold impl_ScreenDot.f dot
  rw [impl_ThresholdAt_eq]
  by_cases hx : x < 0
  · simp [hx]
  · by_cases hy : y < 0
    · simp [hy]
    · by_cases hv : v ≤ thr x y
      · simp [hx, hy, hv]
      · simp [hx, hy, hv]

/-- The dots of a row from place x on. -/
def screened (y : Int) : List Int → Nat → List Int
  | [], _ => []
  | v :: vs, x => dot v (x : Nat) y :: screened y vs (x + 1)
theorem screened_length (y : Int) : ∀ (l : List Int) (x : Nat), (screened y l x).length = l.length
  | [], _ => rfl
  | v :: vs, x => by simp [screened, screened_length y vs]

theorem impl_Row_l0 (a : List Int) (y : Int) (hn : a.length ≤ 1099511627776) : ∀ (d i : Nat) (acc : List Int), i + d = a.length → acc.length = i → Ev (fun k => impl_ScreenRow.l0 k y acc a (a.length : Int) i) (acc ++ screened y (a.drop i) i)
  | 0, i, acc, h, hl => by
    refine Ev.step (f := fun _ => some acc) (fun k => ?_) ?_
    · simp only [impl_ScreenRow.l0]
      rw [if_neg (by omega)]
    · rw [List.drop_of_length_le (by omega)]
      simp only [screened, List.append_nil]
      exact Ev.now _
  | d + 1, i, acc, h, hl => by
    rw [getD_drop a i (by omega), ← rd_nat]
    simp only [screened]
    rw [List.append_cons]
    refine Ev.step (fun k => ?_) (impl_Row_l0 a y hn d (i + 1) (acc ++ [dot (rd a i) (i : Nat) y]) (by omega) (by simp; omega))
    simp only [impl_ScreenRow.l0, impl_ScreenDot_eq, Option.bind_some]
    rw [if_pos (by omega), if_pos (by omega), if_pos (by omega), if_pos (by omega), wsucc (by omega)]
theorem impl_Row_ev (a : List Int) (y : Int) (hn : a.length ≤ 1099511627776) : Ev (fun k => impl_ScreenRow.f k a y) (screened y a 0) :=
  impl_Row_l0 a y hn a.length 0 [] (by omega) rfl

theorem spec_ThresholdAt_eq (x y : Int) : spec_ThresholdAt.f x y = some (thr x y) := by
  unfold spec_ThresholdAt.f thr
  by_cases hx : x < 0
  · rw [if_pos hx, if_pos hx]
  · rw [if_neg hx, if_neg hx]
    by_cases hy : y < 0
    · rw [if_pos hy, if_pos hy]
    · rw [if_neg hy, if_neg hy]
      have t := tab_int (i := 4 * (y % 4) + x % 4) (by omega) (by omega)
      show (if 0 ≤ _ then _ else none) = _
      rw [tm (show 0 ≤ y by omega), tm (show 0 ≤ x by omega), w64 (n := y % 4 * 4) (by omega) (by omega), w64 (n := y % 4 * 4 + x % 4) (by omega) (by omega), show y % 4 * 4 + x % 4 = 4 * (y % 4) + x % 4 by omega, if_pos (by omega), if_pos (by simp; omega)]
      show some (wrap64 (wrap64 (16 * rd tab _) + 8)) = _
      rw [w64 (n := 16 * rd tab (4 * (y % 4) + x % 4)) (by omega) (by omega), w64 (by omega) (by omega)]

theorem spec_ScreenDot_eq (v x y : Int) : spec_ScreenDot.f v x y = some (dot v x y) := by
  unfold spec_ScreenDot.f dot
  rw [spec_ThresholdAt_eq]
  simp only [Option.bind_some]
  by_cases hx : x < 0
  · rw [if_pos (Or.inl hx)]
    have : thr x y = -1 := by
      unfold thr
      rw [if_pos hx]
    rw [this, if_neg (by omega)]
  · by_cases hy : y < 0
    · rw [if_pos (Or.inr (Or.inl hy))]
      have : thr x y = -1 := by
        unfold thr
        rw [if_neg hx, if_pos hy]
      rw [this, if_neg (by omega)]
    · have := thr_in (x := x) (y := y) (by omega) (by omega)
      rw [if_pos (by omega)]
      by_cases hv : v ≤ thr x y
      · rw [if_pos (Or.inr (Or.inr hv)), if_neg (by omega)]
      · rw [if_pos (by omega), if_neg (by omega)]

theorem spec_Row_l0 (a : List Int) (y : Int) (hn : a.length ≤ 1099511627776) : ∀ (d i : Nat) (acc : List Int), i + d = a.length → acc.length = i → Ev (fun k => spec_ScreenRow.l0 k a y acc i) (acc ++ screened y (a.drop i) i)
  | 0, i, acc, h, hl => by
    refine Ev.step (f := fun _ => some acc) (fun k => ?_) ?_
    · simp only [spec_ScreenRow.l0]
      rw [if_neg (by omega)]
    · rw [List.drop_of_length_le (by omega)]
      simp only [screened, List.append_nil]
      exact Ev.now _
  | d + 1, i, acc, h, hl => by
    rw [getD_drop a i (by omega), ← rd_nat]
    simp only [screened]
    rw [List.append_cons]
    refine Ev.step (fun k => ?_) (spec_Row_l0 a y hn d (i + 1) (acc ++ [dot (rd a i) (i : Nat) y]) (by omega) (by simp; omega))
    simp only [spec_ScreenRow.l0, spec_ScreenDot_eq, Option.bind_some]
    rw [if_pos (by omega), if_pos (by omega), if_pos (by omega), wsucc (by omega)]
theorem spec_Row_ev (a : List Int) (y : Int) (hn : a.length ≤ 1099511627776) : Ev (fun k => spec_ScreenRow.f k a y) (screened y a 0) :=
  spec_Row_l0 a y hn a.length 0 [] (by omega) rfl

theorem FnExactScreenRow : laws_FnExactScreenRow.Pure := by
  intro l y hm _ _ _
  refine Ev.rounds ?_
  unfold laws_FnExactScreenRow.f
  by_cases hl : (l.length : Int) > 1048576
  · exact ev_pos hl (Ev.now _)
  refine ev_neg hl ?_
  have s := spec_Row_ev l y (by omega)
  have i := impl_Row_ev l y (by omega)
  have hr := screened_length y l 0
  generalize screened y l 0 = r at *
  have t0 := toIntS_ev l (by omega)
  have e0 := eqIntS_ev l (by omega)
  have er := eqIntS_ev r (by omega)
  refine t0.bind (s.bind (t0.bind (i.bind (er.bind (ev_pos rfl (t0.bind (e0.bind (ev_pos rfl ?_))))))))
  have m0 := markIntS_ev l 1 (by omega)
  refine m0.bind (ev_neg (by simp only; omega) (er.bind ?_))
  refine Ev.step (fun k => by simp only [laws_FnExactScreenRow.j0]; rw [if_neg (by simp)]) ?_
  have m2 := markIntS_ev r 1 (by omega)
  have h2 := heldIntS_ev r.length 1 (by omega)
  refine m2.bind (h2.bind (ev_neg (by omega) (ev_pos rfl ?_)))
  refine t0.bind (i.bind (er.bind (ev_pos rfl ?_)))
  exact h2.bind (ev_neg (by omega) (ev_pos rfl (Ev.now _)))

end Go.Proofs.Ytnbobpbdclbjlaa.Pure
