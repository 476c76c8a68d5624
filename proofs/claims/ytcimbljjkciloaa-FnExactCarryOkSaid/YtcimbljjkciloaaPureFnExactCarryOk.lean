/-
  The program's CarryOk answers as the reference's does for every list of ints, and leaves the list as it was.
-/
import Derived.Test.YtcimbljjkciloaaPFnExactCarryOkx1
import Derived.Test.YtcimbljjkciloaaWSized
/- The printed row names 'PrintWords.sized_ints' without its seat's letter W: the same law under the name that it looks for. -/
namespace Go.Proofs.Ytcimbljjkciloaa.PrintWords
open Go.ChangeShapes Go.WideShapes
theorem sized_ints {H : Type} {enc : TypeId × Value → H} {P : Program} {W : World} {base : Nat} {spare : Nat → Bool} {held : Bool} {t e : TypeId} {k : IntKind} {a : Option Addr} {len cap : Nat} {d : DataW H} {ps : List MemPlace} {ts : List TypeId} {ds : List (DataW H)} {j : Nat}
    (hsz : (DataW.weightsEach P ts ds).all (· ≤ reachBytes) = true) (ht : ts[j]? = some t) (hd : ds[j]? = some d) (hu : P.underlying t = some (.slice e)) (he : P.underlying e = some (.int k)) (hc : P.cellsOf e = 1) {B : Nat} (hB : P.bytesOf e = B)
    (h : DataW.Trod enc P W base spare held t (.slice a len cap) d ps) : len * B ≤ 140737488351232 :=
  Go.Proofs.YtcimbljjkciloaaW.PrintWords.sized_ints hsz ht hd hu he hc hB h
end Go.Proofs.Ytcimbljjkciloaa.PrintWords
namespace Go.Proofs.Ytcimbljjkciloaa.Pure
open Go.RowKit Go.Proofs.Ytcimbljjkciloaa.PFnExactCarryOk Go.Proofs.YtcimbljjkciloaaW.PrintWords Go.Proofs.YtcimbljjkciloaaW.PrintLast Go.Proofs.YtcimbljjkciloaaW.PrintMore
set_option linter.unusedVariables false
set_option linter.unusedSimpArgs false

theorem w64 {n : Int} (h1 : -9223372036854775808 ≤ n) (h2 : n ≤ 9223372036854775807) : wrap64 n = n := by
  unfold wrap64
  omega
theorem wsucc {i : Nat} (h : i ≤ 1099511627776) : wrap64 ((i : Int) + 1) = ((i + 1 : Nat) : Int) := by
  rw [w64 (by omega) (by omega)]
  omega
theorem rd_nat (l : List Int) (i : Nat) : rd l (i : Int) = l.getD i 0 := by simp [rd]
theorem getD_drop (l : List Int) (i : Nat) (h : i < l.length) : l.drop i = l.getD i 0 :: l.drop (i + 1) := by
  rw [List.drop_eq_getElem_cons h]
  simp [List.getD_eq_getElem?_getD, List.getElem?_eq_getElem h]
theorem getD_take (l : List Int) (i : Nat) (h : i < l.length) : l.take (i + 1) = l.take i ++ [l.getD i 0] := by
  rw [List.take_succ_eq_append_getElem h]
  simp [List.getD_eq_getElem?_getD, List.getElem?_eq_getElem h]
theorem set_mid (p q : List Int) (u v : Int) (i : Nat) (h : p.length = i) : (p ++ u :: q).set i v = p ++ v :: q := by
  subst h
  simp [List.set_append_right]
theorem bind_id {α : Type} {g : Nat → Option α} {r : α} (h : Ev g r) : Ev (fun n => (g n).bind fun x => some x) r := by
  obtain ⟨K, h⟩ := h
  exact ⟨K, fun k hk => by simp [h k hk]⟩

theorem eqIntS_l0 (a : List Int) (hn : a.length ≤ 1099511627776) :
    ∀ d i : Nat, i + d = a.length → Ev (fun k => laws_eqIntS.l0 k a a i) true
  | 0, i, h => by
    refine Ev.step (f := fun _ => some true) (fun k => ?_) (Ev.now _)
    simp only [laws_eqIntS.l0]
    rw [if_neg (by omega)]
  | d + 1, i, h => by
    refine Ev.step (f := fun k => laws_eqIntS.l0 k a a ((i + 1 : Nat) : Int)) (fun k => ?_) (eqIntS_l0 a hn d (i + 1) (by omega))
    simp only [laws_eqIntS.l0]
    rw [if_pos (by omega), if_pos (by omega), if_pos (by omega), if_pos trivial, wsucc (by omega)]
theorem eqIntS_ev (a : List Int) (hn : a.length ≤ 1099511627776) : Ev (fun k => laws_eqIntS.f k a a) true := by
  refine Ev.congr (f := fun k => laws_eqIntS.l0 k a a 0) (fun k => ?_) (eqIntS_l0 a hn a.length 0 (by omega))
  unfold laws_eqIntS.f
  rw [if_pos rfl]

theorem toIntS_l0 (a : List Int) (hn : a.length ≤ 1099511627776) :
    ∀ d i : Nat, i + d = a.length → Ev (fun k => laws_toIntS.l0 k a (a.take i ++ List.replicate d 0) i) a
  | 0, i, h => by
    refine Ev.step (f := fun _ => some a) (fun k => ?_) (Ev.now _)
    simp only [laws_toIntS.l0]
    rw [if_neg (by omega)]
    simp [List.take_of_length_le (show a.length ≤ i by omega)]
  | d + 1, i, h => by
    refine Ev.step (f := fun k => laws_toIntS.l0 k a (a.take (i + 1) ++ List.replicate d 0) ((i + 1 : Nat) : Int)) (fun k => ?_) (toIntS_l0 a hn d (i + 1) (by omega))
    simp only [laws_toIntS.l0]
    rw [if_pos (by omega), if_pos (by omega), if_pos (by simp; omega), wsucc (by omega), rd_nat, List.replicate_succ, Int.toNat_natCast, set_mid _ _ _ _ _ (by simp; omega), getD_take a i (by omega)]
    simp
theorem toIntS_ev (a : List Int) (hn : a.length ≤ 1099511627776) : Ev (fun k => laws_toIntS.f k a) a := by
  refine Ev.congr (f := fun k => laws_toIntS.l0 k a (a.take 0 ++ List.replicate a.length 0) 0) (fun k => ?_) (toIntS_l0 a hn a.length 0 (by omega))
  unfold laws_toIntS.f
  rw [if_pos (by omega), if_pos (by omega)]
  simp

theorem carry_both (a : List Int) (hn : a.length ≤ 1099511627776) :
    ∀ d i : Nat, i + d = a.length → ∃ b, Ev (fun k => spec_CarryOk.l0 k a i) (b && ((a.length : Int) == 32)) ∧ Ev (fun k => impl_CarryOk.l0 k a (a.length : Int) i) b
  | 0, i, h => by
    refine ⟨true, Ev.step (f := fun _ => some ((a.length : Int) == 32)) (fun k => ?_) (by rw [Bool.true_and]; exact Ev.now _), Ev.step (f := fun _ => some true) (fun k => ?_) (Ev.now _)⟩
    · simp only [spec_CarryOk.l0]
      rw [if_neg (by omega)]
    · simp only [impl_CarryOk.l0]
      rw [if_neg (by omega)]
  | d + 1, i, h => by
    obtain ⟨b, h1, h2⟩ := carry_both a hn d (i + 1) (by omega)
    by_cases c : rd a i ≥ -20000 ∧ rd a i ≤ 20000
    · refine ⟨b, Ev.step (fun k => ?_) h1, Ev.step (fun k => ?_) h2⟩
      · simp only [spec_CarryOk.l0, spec_l01In.f]
        rw [if_pos (by omega), if_pos (by omega), if_pos c.1, wsucc (by omega)]
        simp [c.2]
      · simp only [impl_CarryOk.l0, impl_within.f]
        rw [if_pos (by omega), if_pos (by omega), if_pos (by omega), if_pos c.1, wsucc (by omega)]
        simp [c.2]
    · refine ⟨false, Ev.step (f := fun _ => some false) (fun k => ?_) (by rw [Bool.false_and]; exact Ev.now _), Ev.step (f := fun _ => some false) (fun k => ?_) (Ev.now _)⟩
      · simp only [spec_CarryOk.l0, spec_l01In.f]
        rw [if_pos (by omega), if_pos (by omega)]
        by_cases c1 : rd a i ≥ -20000
        · rw [if_pos c1]
          simp [show ¬ rd a i ≤ 20000 by omega]
        · rw [if_neg c1]
          simp
      · simp only [impl_CarryOk.l0, impl_within.f]
        rw [if_pos (by omega), if_pos (by omega), if_pos (by omega)]
        by_cases c1 : rd a i ≥ -20000
        · rw [if_pos c1]
          simp [show ¬ rd a i ≤ 20000 by omega]
        · rw [if_neg c1]
          simp
theorem FnExactCarryOk : laws_FnExactCarryOk.Pure := by
  intro l hm hb hw
  refine Ev.rounds ?_
  unfold laws_FnExactCarryOk.f
  by_cases hl : (l.length : Int) > 1048576
  · exact Ev.congr (fun k => if_pos hl) (Ev.now _)
  refine Ev.congr (fun k => if_neg hl) ?_
  obtain ⟨b, h1, h2⟩ := carry_both l (by omega) l.length 0 (by omega)
  have h3 : Ev (fun k => impl_CarryOk.f k l) (b && ((l.length : Int) == 32)) := by
    by_cases c : (l.length : Int) = 32
    · refine Ev.congr (f := fun k => impl_CarryOk.l0 k l (l.length : Int) 0) (fun k => ?_) ?_
      · unfold impl_CarryOk.f
        rw [if_pos c]
      · rw [show (b && ((l.length : Int) == 32)) = b by simp [c]]
        exact h2
    · refine Ev.congr (f := fun k => some false) (fun k => ?_) ?_
      · unfold impl_CarryOk.f
        rw [if_neg c]
      · rw [show (b && ((l.length : Int) == 32)) = false by simp [c]]
        exact Ev.now _
  refine (toIntS_ev l (by omega)).bind ?_
  refine Ev.bind (g := fun k => spec_CarryOk.f k l) h1 ?_
  refine (toIntS_ev l (by omega)).bind ?_
  refine h3.bind ?_
  refine Ev.congr (fun k => if_neg (by simp)) ?_
  refine (toIntS_ev l (by omega)).bind ?_
  refine (eqIntS_ev l (by omega)).bind ?_
  exact Ev.congr (fun k => if_pos rfl) (Ev.now _)

end Go.Proofs.Ytcimbljjkciloaa.Pure
