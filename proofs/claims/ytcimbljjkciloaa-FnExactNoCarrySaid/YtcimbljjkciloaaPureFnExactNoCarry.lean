/-
  The program's NoCarry gives 32 zeros, as the reference does, in memory of its own.
-/
import Derived.Test.YtcimbljjkciloaaPFnExactNoCarryx1
import Derived.Test.YtcimbljjkciloaaWSized
/- The printed row names 'PrintWords.sized_ints' without its seat's letter W: the same law under the name that it looks for. -/
namespace Go.Proofs.Ytcimbljjkciloaa.PrintWords
open Go.ChangeShapes Go.WideShapes
theorem sized_ints {H : Type} {enc : TypeId × Value → H} {P : Program} {W : World} {base : Nat} {spare : Nat → Bool} {held : Bool} {t e : TypeId} {k : IntKind} {a : Option Addr} {len cap : Nat} {d : DataW H} {ps : List MemPlace} {ts : List TypeId} {ds : List (DataW H)} {j : Nat}
    (hsz : (DataW.weightsEach P ts ds).all (· ≤ reachBytes) = true) (ht : ts[j]? = some t) (hd : ds[j]? = some d) (hu : P.underlying t = some (.slice e)) (he : P.underlying e = some (.int k)) (hc : P.cellsOf e = 1) {B : Nat} (hB : P.bytesOf e = B)
    (h : DataW.Trod enc P W base spare held t (.slice a len cap) d ps) : len * B ≤ 140737488351232 :=
  Go.Proofs.YtcimbljjkciloaaW.PrintWords.sized_ints hsz ht hd hu he hc hB h
end Go.Proofs.Ytcimbljjkciloaa.PrintWords
namespace Go.Proofs.Ytcimbljjkciloaa.Pure
open Go.RowKit Go.Proofs.Ytcimbljjkciloaa.PFnExactNoCarry Go.Proofs.YtcimbljjkciloaaW.PrintWords Go.Proofs.YtcimbljjkciloaaW.PrintLast Go.Proofs.YtcimbljjkciloaaW.PrintMore
set_option linter.unusedVariables false
set_option linter.unusedSimpArgs false

theorem w64 {n : Int} (h1 : -9223372036854775808 ≤ n) (h2 : n ≤ 9223372036854775807) : wrap64 n = n := by
  unfold wrap64
  omega
theorem wsucc {i : Nat} (h : i ≤ 1099511627776) : wrap64 ((i : Int) + 1) = ((i + 1 : Nat) : Int) := by
  rw [w64 (by omega) (by omega)]
  omega
theorem rd_nat (l : List Int) (i : Nat) : rd l (i : Int) = l.getD i 0 := by simp [rd]
theorem getD_drop (l : List Int) (i : Nat) (h : i < l.length) : l.drop i = l.getD i 0 :: l.drop (i + 1) := by
  rw [List.drop_eq_getElem_cons h]
  simp [List.getD_eq_getElem?_getD, List.getElem?_eq_getElem h]
theorem getD_take (l : List Int) (i : Nat) (h : i < l.length) : l.take (i + 1) = l.take i ++ [l.getD i 0] := by
  rw [List.take_succ_eq_append_getElem h]
  simp [List.getD_eq_getElem?_getD, List.getElem?_eq_getElem h]
theorem set_mid (p q : List Int) (u v : Int) (i : Nat) (h : p.length = i) : (p ++ u :: q).set i v = p ++ v :: q := by
  subst h
  simp [List.set_append_right]
theorem bind_id {α : Type} {g : Nat → Option α} {r : α} (h : Ev g r) : Ev (fun n => (g n).bind fun x => some x) r := by
  obtain ⟨K, h⟩ := h
  exact ⟨K, fun k hk => by simp [h k hk]⟩

theorem eqIntS_l0 (a : List Int) (hn : a.length ≤ 1099511627776) :
    ∀ d i : Nat, i + d = a.length → Ev (fun k => laws_eqIntS.l0 k a a i) true
  | 0, i, h => by
    refine Ev.step (f := fun _ => some true) (fun k => ?_) (Ev.now _)
    simp only [laws_eqIntS.l0]
    rw [if_neg (by omega)]
  | d + 1, i, h => by
    refine Ev.step (f := fun k => laws_eqIntS.l0 k a a ((i + 1 : Nat) : Int)) (fun k => ?_) (eqIntS_l0 a hn d (i + 1) (by omega))
    simp only [laws_eqIntS.l0]
    rw [if_pos (by omega), if_pos (by omega), if_pos (by omega), if_pos trivial, wsucc (by omega)]
theorem eqIntS_ev (a : List Int) (hn : a.length ≤ 1099511627776) : Ev (fun k => laws_eqIntS.f k a a) true := by
  refine Ev.congr (f := fun k => laws_eqIntS.l0 k a a 0) (fun k => ?_) (eqIntS_l0 a hn a.length 0 (by omega))
  unfold laws_eqIntS.f
  rw [if_pos rfl]

def marks (c : Nat) : Nat → List Int
  | 0 => []
  | n + 1 => (c : Int) :: marks (c + 1) n
theorem marks_length (n : Nat) : ∀ c, (marks c n).length = n := by
  induction n with
  | zero => intro c; rfl
  | succ n ih => intro c; simp [marks, ih]
theorem marks_snoc (n : Nat) : ∀ c, marks c (n + 1) = marks c n ++ [((c + n : Nat) : Int)] := by
  induction n with
  | zero => intro c; simp [marks]
  | succ n ih =>
    intro c
    rw [marks, ih (c + 1), marks]
    simp
    omega
theorem marks_get (n : Nat) : ∀ c i, i < n → (marks c n).getD i 0 = ((c + i : Nat) : Int) := by
  induction n with
  | zero => intro c i h; omega
  | succ n ih =>
    intro c i h
    cases i with
    | zero => simp [marks]
    | succ i =>
      rw [marks, List.getD_cons_succ, ih (c + 1) i (by omega)]
      omega
theorem markIntS_l0 (a : List Int) (c : Nat) (hn : a.length + c ≤ 1099511627776) :
    ∀ d i : Nat, i + d = a.length → Ev (fun k => laws_markIntS.l0 k (marks c i ++ a.drop i) ((c + i : Nat) : Int) i) (((c + a.length : Nat) : Int), marks c a.length)
  | 0, i, h => by
    obtain rfl : i = a.length := by omega
    refine Ev.step (f := fun _ => some (((c + a.length : Nat) : Int), marks c a.length)) (fun k => ?_) (Ev.now _)
    simp only [laws_markIntS.l0]
    rw [if_neg (by simp [marks_length])]
    simp
  | d + 1, i, h => by
    refine Ev.step (f := fun k => laws_markIntS.l0 k (marks c (i + 1) ++ a.drop (i + 1)) ((c + (i + 1) : Nat) : Int) ((i + 1 : Nat) : Int)) (fun k => ?_) (markIntS_l0 a c hn d (i + 1) (by omega))
    simp only [laws_markIntS.l0]
    rw [if_pos (by simp [marks_length]; omega), if_pos (by omega), wsucc (by omega), wsucc (by omega), getD_drop a i (by omega), Int.toNat_natCast, set_mid _ _ _ _ _ (marks_length _ _), marks_snoc]
    simp [Nat.add_assoc]
theorem markIntS_ev (a : List Int) (c : Nat) (hn : a.length + c ≤ 1099511627776) : Ev (fun k => laws_markIntS.f k a c) (((c + a.length : Nat) : Int), marks c a.length) := by
  refine Ev.congr (f := fun k => laws_markIntS.l0 k (marks c 0 ++ a.drop 0) ((c + 0 : Nat) : Int) 0) (fun k => ?_) (markIntS_l0 a c hn a.length 0 (by omega))
  unfold laws_markIntS.f
  simp [marks]

theorem heldIntS_l0 (n c : Nat) (hn : n + c ≤ 1099511627776) :
    ∀ d i : Nat, i + d = n → Ev (fun k => laws_heldIntS.l0 k (marks c n) ((c + i : Nat) : Int) i) ((c + n : Nat) : Int)
  | 0, i, h => by
    obtain rfl : i = n := by omega
    refine Ev.step (f := fun _ => some ((c + i : Nat) : Int)) (fun k => ?_) (Ev.now _)
    simp only [laws_heldIntS.l0]
    rw [if_neg (by simp [marks_length])]
  | d + 1, i, h => by
    refine Ev.step (f := fun k => laws_heldIntS.l0 k (marks c n) ((c + (i + 1) : Nat) : Int) ((i + 1 : Nat) : Int)) (fun k => ?_) (heldIntS_l0 n c hn d (i + 1) (by omega))
    simp only [laws_heldIntS.l0]
    rw [if_pos (by simp [marks_length]; omega), if_pos (by omega), wsucc (by omega), wsucc (by omega), rd_nat, marks_get _ _ _ (by omega), if_pos rfl]
    simp [Nat.add_assoc]
theorem heldIntS_ev (n c : Nat) (hn : n + c ≤ 1099511627776) : Ev (fun k => laws_heldIntS.f k (marks c n) c) ((c + n : Nat) : Int) := by
  refine Ev.congr (f := fun k => laws_heldIntS.l0 k (marks c n) ((c + 0 : Nat) : Int) 0) (fun k => ?_) (heldIntS_l0 n c hn n 0 (by omega))
  unfold laws_heldIntS.f
  simp

theorem FnExactNoCarry : laws_FnExactNoCarry.Pure := by
  refine Ev.rounds ?_
  unfold laws_FnExactNoCarry.f
  refine Ev.bind (g := fun _ => spec_NoCarry.f) (a := List.replicate 32 0) (Ev.now _) ?_
  refine Ev.bind (g := fun _ => impl_NoCarry.f) (a := List.replicate 32 0) (Ev.now _) ?_
  refine (eqIntS_ev _ (by simp)).bind ?_
  refine Ev.congr (fun k => if_pos rfl) ?_
  refine (markIntS_ev (List.replicate 32 0) 1 (by simp)).bind ?_
  simp only [List.length_replicate]
  refine (heldIntS_ev 32 1 (by omega)).bind ?_
  refine Ev.congr (fun k => if_neg (by omega)) ?_
  refine Ev.congr (fun k => if_pos rfl) ?_
  refine Ev.bind (g := fun _ => impl_NoCarry.f) (a := List.replicate 32 0) (Ev.now _) ?_
  refine (eqIntS_ev _ (by simp)).bind ?_
  refine Ev.congr (fun k => if_pos rfl) ?_
  refine (heldIntS_ev 32 1 (by omega)).bind ?_
  refine Ev.congr (fun k => if_neg (by omega)) ?_
  exact Ev.congr (fun k => if_pos rfl) (Ev.now _)

end Go.Proofs.Ytcimbljjkciloaa.Pure
