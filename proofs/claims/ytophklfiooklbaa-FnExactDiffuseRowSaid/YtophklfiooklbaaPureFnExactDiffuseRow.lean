/-
  The program's DiffuseRow gives what the reference gives for all rows and carries, leaves its arguments as they were, and shares nothing with them.
-/
import Derived.Test.YtophklfiooklbaaPFnExactDiffuseRowx6
import Derived.Test.YtophklfiooklbaaWSized
/- The printed row names 'PrintWords.sized_ints' without its seat's letter W: the same law under the name that it looks for. -/
namespace Go.Proofs.Ytophklfiooklbaa.PrintWords
open Go.ChangeShapes Go.WideShapes
theorem sized_ints {H : Type} {enc : TypeId × Value → H} {P : Program} {W : World} {base : Nat} {spare : Nat → Bool} {held : Bool} {t e : TypeId} {k : IntKind} {a : Option Addr} {len cap : Nat} {d : DataW H} {ps : List MemPlace} {ts : List TypeId} {ds : List (DataW H)} {j : Nat}
    (hsz : (DataW.weightsEach P ts ds).all (· ≤ reachBytes) = true) (ht : ts[j]? = some t) (hd : ds[j]? = some d) (hu : P.underlying t = some (.slice e)) (he : P.underlying e = some (.int k)) (hc : P.cellsOf e = 1) {B : Nat} (hB : P.bytesOf e = B)
    (h : DataW.Trod enc P W base spare held t (.slice a len cap) d ps) : len * B ≤ 140737488351232 :=
  Go.Proofs.YtophklfiooklbaaW.PrintWords.sized_ints hsz ht hd hu he hc hB h
end Go.Proofs.Ytophklfiooklbaa.PrintWords
namespace Go.Proofs.Ytophklfiooklbaa.Pure
open Go.RowKit Go.Proofs.Ytophklfiooklbaa.PFnExactDiffuseRow Go.Proofs.YtophklfiooklbaaW.PrintWords Go.Proofs.YtophklfiooklbaaW.PrintLast Go.Proofs.YtophklfiooklbaaW.PrintMore
set_option linter.unusedVariables false
set_option linter.unusedSimpArgs false

theorem w64 {n : Int} (h1 : -9223372036854775808 ≤ n) (h2 : n ≤ 9223372036854775807) : wrap64 n = n := by
  unfold wrap64
  omega
theorem wsucc {i : Nat} (h : i ≤ 4611686018427387904) : wrap64 ((i : Int) + 1) = ((i + 1 : Nat) : Int) := by
  rw [w64 (by omega) (by omega)]
  omega
theorem rd_nat (l : List Int) (i : Nat) : rd l (i : Int) = l.getD i 0 := by simp [rd]
theorem getD_drop (l : List Int) (i : Nat) (h : i < l.length) : l.drop i = l.getD i 0 :: l.drop (i + 1) := by
  rw [List.drop_eq_getElem_cons h]
  simp [List.getD_eq_getElem?_getD, List.getElem?_eq_getElem h]
theorem getD_take (l : List Int) (i : Nat) (h : i < l.length) : l.take (i + 1) = l.take i ++ [l.getD i 0] := by
  rw [List.take_succ_eq_append_getElem h]
  simp [List.getD_eq_getElem?_getD, List.getElem?_eq_getElem h]
theorem set_mid (p q : List Int) (u v : Int) (i : Nat) (h : p.length = i) : (p ++ u :: q).set i v = p ++ v :: q := by
  subst h
  simp [List.set_append_right]
theorem bind_id {α : Type} {g : Nat → Option α} {r : α} (h : Ev g r) : Ev (fun n => (g n).bind fun x => some x) r := by
  obtain ⟨K, h⟩ := h
  exact ⟨K, fun k hk => by simp [h k hk]⟩
theorem ev_pos {α : Type} {c : Prop} [Decidable c] {f g : Nat → Option α} {r : α} (h : c) (k : Ev f r) : Ev (fun n => if c then f n else g n) r := Ev.congr (fun n => if_pos h) k
theorem ev_neg {α : Type} {c : Prop} [Decidable c] {f g : Nat → Option α} {r : α} (h : ¬ c) (k : Ev g r) : Ev (fun n => if c then f n else g n) r := Ev.congr (fun n => if_neg h) k
theorem ev_eq {α β : Type} {g : Option α} {f : Nat → α → Option β} {a : α} {r : β} (h : g = some a) (k : Ev (fun n => f n a) r) : Ev (fun n => g.bind (f n)) r := by
  subst h
  exact k
theorem td {v : Int} (h : 0 ≤ v) (c : Int) : Int.tdiv v c = v / c := Int.tdiv_eq_ediv_of_nonneg h
theorem tm {v : Int} (h : 0 ≤ v) (c : Int) : Int.tmod v c = v % c := Int.tmod_eq_emod_of_nonneg h

theorem eqIntS_l0 (a : List Int) (hn : a.length ≤ 1099511627776) :
    ∀ d i : Nat, i + d = a.length → Ev (fun k => laws_eqIntS.l0 k a a i) true
  | 0, i, h => by
    refine Ev.step (f := fun _ => some true) (fun k => ?_) (Ev.now _)
    simp only [laws_eqIntS.l0]
    rw [if_neg (by omega)]
  | d + 1, i, h => by
    refine Ev.step (f := fun k => laws_eqIntS.l0 k a a ((i + 1 : Nat) : Int)) (fun k => ?_) (eqIntS_l0 a hn d (i + 1) (by omega))
    simp only [laws_eqIntS.l0]
    rw [if_pos (by omega), if_pos (by omega), if_pos (by omega), if_pos trivial, wsucc (by omega)]
theorem eqIntS_ev (a : List Int) (hn : a.length ≤ 1099511627776) : Ev (fun k => laws_eqIntS.f k a a) true := by
  refine Ev.congr (f := fun k => laws_eqIntS.l0 k a a 0) (fun k => ?_) (eqIntS_l0 a hn a.length 0 (by omega))
  unfold laws_eqIntS.f
  rw [if_pos rfl]

theorem toIntS_l0 (a : List Int) (hn : a.length ≤ 1099511627776) :
    ∀ d i : Nat, i + d = a.length → Ev (fun k => laws_toIntS.l0 k a (a.take i ++ List.replicate d 0) i) a
  | 0, i, h => by
    refine Ev.step (f := fun _ => some a) (fun k => ?_) (Ev.now _)
    simp only [laws_toIntS.l0]
    rw [if_neg (by omega)]
    simp [List.take_of_length_le (show a.length ≤ i by omega)]
  | d + 1, i, h => by
    refine Ev.step (f := fun k => laws_toIntS.l0 k a (a.take (i + 1) ++ List.replicate d 0) ((i + 1 : Nat) : Int)) (fun k => ?_) (toIntS_l0 a hn d (i + 1) (by omega))
    simp only [laws_toIntS.l0]
    rw [if_pos (by omega), if_pos (by omega), if_pos (by simp; omega), wsucc (by omega), rd_nat, List.replicate_succ, Int.toNat_natCast, set_mid _ _ _ _ _ (by simp; omega), getD_take a i (by omega)]
    simp
theorem toIntS_ev (a : List Int) (hn : a.length ≤ 1099511627776) : Ev (fun k => laws_toIntS.f k a) a := by
  refine Ev.congr (f := fun k => laws_toIntS.l0 k a (a.take 0 ++ List.replicate a.length 0) 0) (fun k => ?_) (toIntS_l0 a hn a.length 0 (by omega))
  unfold laws_toIntS.f
  rw [if_pos (by omega), if_pos (by omega)]
  simp

def marks (c : Nat) : Nat → List Int
  | 0 => []
  | n + 1 => (c : Int) :: marks (c + 1) n
theorem marks_length (n : Nat) : ∀ c, (marks c n).length = n := by
  induction n with
  | zero => intro c; rfl
  | succ n ih => intro c; simp [marks, ih]
theorem marks_snoc (n : Nat) : ∀ c, marks c (n + 1) = marks c n ++ [((c + n : Nat) : Int)] := by
  induction n with
  | zero => intro c; simp [marks]
  | succ n ih =>
    intro c
    rw [marks, ih (c + 1), marks]
    simp
    omega
theorem marks_get (n : Nat) : ∀ c i, i < n → (marks c n).getD i 0 = ((c + i : Nat) : Int) := by
  induction n with
  | zero => intro c i h; omega
  | succ n ih =>
    intro c i h
    cases i with
    | zero => simp [marks]
    | succ i =>
      rw [marks, List.getD_cons_succ, ih (c + 1) i (by omega)]
      omega
theorem markIntS_l0 (a : List Int) (c : Nat) (hn : a.length + c ≤ 4611686018427387904) :
    ∀ d i : Nat, i + d = a.length → Ev (fun k => laws_markIntS.l0 k (marks c i ++ a.drop i) ((c + i : Nat) : Int) i) (((c + a.length : Nat) : Int), marks c a.length)
  | 0, i, h => by
    obtain rfl : i = a.length := by omega
    refine Ev.step (f := fun _ => some (((c + a.length : Nat) : Int), marks c a.length)) (fun k => ?_) (Ev.now _)
    simp only [laws_markIntS.l0]
    rw [if_neg (by simp [marks_length])]
    simp
  | d + 1, i, h => by
    refine Ev.step (f := fun k => laws_markIntS.l0 k (marks c (i + 1) ++ a.drop (i + 1)) ((c + (i + 1) : Nat) : Int) ((i + 1 : Nat) : Int)) (fun k => ?_) (markIntS_l0 a c hn d (i + 1) (by omega))
    simp only [laws_markIntS.l0]
    rw [if_pos (by simp [marks_length]; omega), if_pos (by omega), wsucc (by omega), wsucc (by omega), getD_drop a i (by omega), Int.toNat_natCast, set_mid _ _ _ _ _ (marks_length _ _), marks_snoc]
    simp [Nat.add_assoc]
theorem markIntS_ev (a : List Int) (c : Nat) (hn : a.length + c ≤ 4611686018427387904) : Ev (fun k => laws_markIntS.f k a c) (((c + a.length : Nat) : Int), marks c a.length) := by
  refine Ev.congr (f := fun k => laws_markIntS.l0 k (marks c 0 ++ a.drop 0) ((c + 0 : Nat) : Int) 0) (fun k => ?_) (markIntS_l0 a c hn a.length 0 (by omega))
  unfold laws_markIntS.f
  simp [marks]

theorem heldIntS_l0 (n c : Nat) (hn : n + c ≤ 4611686018427387904) :
    ∀ d i : Nat, i + d = n → Ev (fun k => laws_heldIntS.l0 k (marks c n) ((c + i : Nat) : Int) i) ((c + n : Nat) : Int)
  | 0, i, h => by
    obtain rfl : i = n := by omega
    refine Ev.step (f := fun _ => some ((c + i : Nat) : Int)) (fun k => ?_) (Ev.now _)
    simp only [laws_heldIntS.l0]
    rw [if_neg (by simp [marks_length])]
  | d + 1, i, h => by
    refine Ev.step (f := fun k => laws_heldIntS.l0 k (marks c n) ((c + (i + 1) : Nat) : Int) ((i + 1 : Nat) : Int)) (fun k => ?_) (heldIntS_l0 n c hn d (i + 1) (by omega))
    simp only [laws_heldIntS.l0]
    rw [if_pos (by simp [marks_length]; omega), if_pos (by omega), wsucc (by omega), wsucc (by omega), rd_nat, marks_get _ _ _ (by omega), if_pos rfl]
    simp [Nat.add_assoc]
theorem heldIntS_ev (n c : Nat) (hn : n + c ≤ 4611686018427387904) : Ev (fun k => laws_heldIntS.f k (marks c n) c) ((c + n : Nat) : Int) := by
  refine Ev.congr (f := fun k => laws_heldIntS.l0 k (marks c n) ((c + 0 : Nat) : Int) 0) (fun k => ?_) (heldIntS_l0 n c hn n 0 (by omega))
  unfold laws_heldIntS.f
  simp

/-! Error diffusion of one row, told dot by dot: what is passed on (dP), the rest (dR), the bit (dB), the carry (dC). -/
def dRest (t : Int) : Int := if t ≥ 128 then t - 255 else t
def dBit (t : Int) : Int := if t ≥ 128 then 1 else 0
def dPass (r : Int) : Int := r - 3 * r / 16 - 5 * r / 16 - r / 16
def dP (row carry : List Int) : Nat → Int
  | 0 => 0
  | x + 1 => dPass (dRest (rd row x + rd carry x + dP row carry x))
def dT (row carry : List Int) (x : Nat) : Int := rd row x + rd carry x + dP row carry x
def dR (row carry : List Int) (x : Nat) : Int := dRest (dT row carry x)
def dB (row carry : List Int) (x : Nat) : Int := dBit (dT row carry x)
def upL (l : List Int) (i v : Int) : List Int := l.set i.toNat (rd l i + v)
def dC (row carry : List Int) : Nat → List Int
  | 0 => List.replicate 32 0
  | x + 1 => upL (upL (upL (dC row carry x) (mx 0 ((x : Int) - 1)) (3 * dR row carry x / 16)) x (5 * dR row carry x / 16)) (mn 31 ((x : Int) + 1)) (dR row carry x / 16)
def dBits (row carry : List Int) (n : Nat) : List Int := (List.range n).map (dB row carry)
def dEnd (row carry : List Int) : List Int := upL (dC row carry 32) 31 (dP row carry 32)
/-- A row that is diffused, and a carry, as the program asks them. -/
def rowV (r : List Int) : Prop := r.length = 32 ∧ ∀ i : Nat, i < r.length → 0 ≤ rd r i ∧ rd r i ≤ 255
def carV (B : Int) (c : List Int) : Prop := c.length = 32 ∧ ∀ i : Nat, i < c.length → -B ≤ rd c i ∧ rd c i ≤ B
instance (r : List Int) : Decidable (rowV r) := by
  unfold rowV
  infer_instance
instance (B : Int) (r : List Int) : Decidable (carV B r) := by
  unfold carV
  infer_instance
theorem dP_in {row carry : List Int} {B : Int} (hB : 0 ≤ B) (hr : rowV row) (hc : carV B carry) : ∀ x : Nat, x ≤ 32 → -(B + 105) ≤ dP row carry x ∧ dP row carry x ≤ B + 105
  | 0, _ => by
    simp only [dP]
    omega
  | x + 1, h => by
    have ih := dP_in hB hr hc x (by omega)
    have h1 := hr.2 x (by rw [hr.1]; omega)
    have h2 := hc.2 x (by rw [hc.1]; omega)
    simp only [dP, dPass, dRest]
    split <;> omega
theorem dR_in {row carry : List Int} {B : Int} (hB : 0 ≤ B) (hr : rowV row) (hc : carV B carry) {x : Nat} (h : x < 32) : -(2 * B + 232) ≤ dR row carry x ∧ dR row carry x ≤ 2 * B + 232 := by
  have ih := dP_in hB hr hc x (by omega)
  have h1 := hr.2 x (by rw [hr.1]; omega)
  have h2 := hc.2 x (by rw [hc.1]; omega)
  have key : ∀ t : Int, -(2 * B + 105) ≤ t ∧ t ≤ 2 * B + 360 → -(2 * B + 232) ≤ dRest t ∧ dRest t ≤ 2 * B + 232 := fun t ht => by
    unfold dRest
    split <;> omega
  exact key _ (by unfold dT; omega)
theorem upL_length (l : List Int) (i v : Int) : (upL l i v).length = l.length := by simp [upL]
theorem dC_length (row carry : List Int) : ∀ x : Nat, (dC row carry x).length = 32
  | 0 => by simp [dC]
  | x + 1 => by simp only [dC, upL_length, dC_length row carry x]
theorem rd_upL (l : List Int) (i v j : Int) (hi : 0 ≤ i) (hl : i < l.length) (hj : 0 ≤ j) : rd (upL l i v) j = if j = i then rd l i + v else rd l j := by
  unfold upL rd
  simp only [List.getD_eq_getElem?_getD]
  by_cases c : j = i
  · subst c
    rw [if_pos rfl, List.getElem?_set_self (by omega)]
    rfl
  · rw [if_neg c, List.getElem?_set_ne (by omega)]
/-- Roughly. -/
theorem upL_in {l : List Int} {M V i v : Int} (h : ∀ j : Int, 0 ≤ j → -M ≤ rd l j ∧ rd l j ≤ M) (hi : 0 ≤ i) (hl : i < l.length) (hv : -V ≤ v ∧ v ≤ V) (j : Int) (hj : 0 ≤ j) : -(M + V) ≤ rd (upL l i v) j ∧ rd (upL l i v) j ≤ M + V := by
  rw [rd_upL l i v j hi hl hj]
  have h1 := h j hj
  have h2 := h i hi
  split <;> omega
theorem mx_pre (x : Nat) : 0 ≤ mx 0 ((x : Int) - 1) ∧ (x < 32 → mx 0 ((x : Int) - 1) < 32) := by
  unfold mx
  split <;> omega
theorem mn_post (x : Nat) : 0 ≤ mn 31 ((x : Int) + 1) ∧ mn 31 ((x : Int) + 1) < 32 := by
  unfold mn
  split <;> omega
theorem dC_in {row carry : List Int} {B : Int} (hB : 0 ≤ B) (hr : rowV row) (hc : carV B carry) : ∀ x : Nat, x ≤ 32 → ∀ j : Int, 0 ≤ j → -((2 * B + 300) * x) ≤ rd (dC row carry x) j ∧ rd (dC row carry x) j ≤ (2 * B + 300) * x
  | 0, _, j, hj => by
    have : rd (dC row carry 0) j = 0 := by
      simp only [dC, rd, List.getD_eq_getElem?_getD, List.getElem?_replicate]
      split <;> rfl
    rw [this]
    simp
  | x + 1, h, j, hj => by
    have ih := dC_in hB hr hc x (by omega)
    have hR := dR_in hB hr hc (x := x) (by omega)
    have hl := dC_length row carry x
    have m1 := mx_pre x
    have m2 := mn_post x
    have a1 := upL_in (V := 3 * (2 * B + 232) / 16 + 1) ih m1.1 (by rw [hl]; have := m1.2 (by omega); omega) (v := 3 * dR row carry x / 16) (by omega)
    have a2 := upL_in (V := 5 * (2 * B + 232) / 16 + 1) (i := x) a1 (by omega) (by rw [upL_length, hl]; omega) (v := 5 * dR row carry x / 16) (by omega)
    have a3 := upL_in (V := (2 * B + 232) / 16 + 1) a2 m2.1 (by rw [upL_length, upL_length, hl]; exact m2.2) (v := dR row carry x / 16) (by omega) j hj
    simp only [dC]
    have e : (2 * B + 300) * ((x + 1 : Nat) : Int) = (2 * B + 300) * x + (2 * B + 300) := by rw [Int.natCast_add, Int.mul_add]; simp
    rw [e]
    omega
theorem dBits_snoc (row carry : List Int) (x : Nat) : dBits row carry (x + 1) = dBits row carry x ++ [dB row carry x] := by simp [dBits, List.range_succ]
theorem dBits_length (row carry : List Int) (n : Nat) : (dBits row carry n).length = n := by simp [dBits]
theorem dEnd_length (row carry : List Int) : (dEnd row carry).length = 32 := by rw [dEnd, upL_length, dC_length]
/-- What a row's diffusion gives. -/
def difOk (row carry : List Int) : Prop := carV 20000 carry ∧ rowV row
instance (row carry : List Int) : Decidable (difOk row carry) := by
  unfold difOk
  infer_instance
def difV (row carry : List Int) : List Int × List Int × Bool := if difOk row carry then (dBits row carry 32, dEnd row carry, true) else ([], [], false)
theorem difV_short (row carry : List Int) : (difV row carry).1.length ≤ 32 ∧ (difV row carry).2.1.length ≤ 32 := by
  unfold difV
  split
  · simp [dBits_length, dEnd_length]
  · simp

theorem upL_def (l : List Int) (i v : Int) : l.set i.toNat (rd l i + v) = upL l i v := rfl
/-- Nothing wraps in a step. -/
theorem dif_w {row carry : List Int} (h : difOk row carry) {x : Nat} (hx : x < 32) :
    wrap64 (rd row x + rd carry x) = rd row x + rd carry x ∧ wrap64 (rd row x + rd carry x + dP row carry x) = dT row carry x ∧ (-100000 ≤ dR row carry x ∧ dR row carry x ≤ 100000) ∧ wrap64 ((x : Int) - 1) = (x : Int) - 1 ∧
    wrap64 (rd (dC row carry x) (mx 0 ((x : Int) - 1)) + 3 * dR row carry x / 16) = rd (dC row carry x) (mx 0 ((x : Int) - 1)) + 3 * dR row carry x / 16 ∧
    wrap64 (rd (upL (dC row carry x) (mx 0 ((x : Int) - 1)) (3 * dR row carry x / 16)) x + 5 * dR row carry x / 16) = rd (upL (dC row carry x) (mx 0 ((x : Int) - 1)) (3 * dR row carry x / 16)) x + 5 * dR row carry x / 16 ∧
    wrap64 (rd (upL (upL (dC row carry x) (mx 0 ((x : Int) - 1)) (3 * dR row carry x / 16)) x (5 * dR row carry x / 16)) (mn 31 ((x : Int) + 1)) + dR row carry x / 16) = rd (upL (upL (dC row carry x) (mx 0 ((x : Int) - 1)) (3 * dR row carry x / 16)) x (5 * dR row carry x / 16)) (mn 31 ((x : Int) + 1)) + dR row carry x / 16 := by
  obtain ⟨hc, hr⟩ := h
  have h1 := hr.2 x (by rw [hr.1]; omega)
  have h2 := hc.2 x (by rw [hc.1]; omega)
  have hp := dP_in (by omega) hr hc x (by omega)
  have hR := dR_in (by omega) hr hc hx
  have hl := dC_length row carry x
  have m1 := mx_pre x
  have m2 := mn_post x
  have m3 := m1.2 hx
  have a0 := dC_in (by omega) hr hc x (by omega)
  have a1 := upL_in (V := 20000) a0 m1.1 (by rw [hl]; omega) (v := 3 * dR row carry x / 16) (by omega)
  have a2 := upL_in (V := 20000) (i := x) a1 (by omega) (by rw [upL_length, hl]; omega) (v := 5 * dR row carry x / 16) (by omega)
  have b0 := a0 (mx 0 ((x : Int) - 1)) m1.1
  have b1 := a1 x (by omega)
  have b2 := a2 (mn 31 ((x : Int) + 1)) m2.1
  refine ⟨w64 (by omega) (by omega), ?_, by omega, w64 (by omega) (by omega), w64 (by omega) (by omega), w64 (by omega) (by omega), w64 (by omega) (by omega)⟩
  unfold dT
  exact w64 (by omega) (by omega)
theorem dif_end {row carry : List Int} (h : difOk row carry) : wrap64 (rd (dC row carry 32) 31 + dP row carry 32) = rd (dC row carry 32) 31 + dP row carry 32 := by
  obtain ⟨hc, hr⟩ := h
  have hp := dP_in (by omega) hr hc 32 (by omega)
  have a0 := dC_in (by omega) hr hc 32 (by omega) 31 (by omega)
  exact w64 (by omega) (by omega)
theorem dC_succ (row carry : List Int) (x : Nat) : dC row carry (x + 1) = upL (upL (upL (dC row carry x) (mx 0 ((x : Int) - 1)) (3 * dR row carry x / 16)) x (5 * dR row carry x / 16)) (mn 31 ((x : Int) + 1)) (dR row carry x / 16) := rfl
theorem dP_succ (row carry : List Int) (x : Nat) : dP row carry (x + 1) = dR row carry x - 3 * dR row carry x / 16 - 5 * dR row carry x / 16 - dR row carry x / 16 := rfl
theorem dR_pos {row carry : List Int} {x : Nat} (c : dT row carry x ≥ 128) : dR row carry x = dT row carry x - 255 ∧ dB row carry x = 1 := by
  unfold dR dB dRest dBit
  rw [if_pos c, if_pos c]
  exact ⟨rfl, rfl⟩
theorem dR_neg {row carry : List Int} {x : Nat} (c : ¬ dT row carry x ≥ 128) : dR row carry x = dT row carry x ∧ dB row carry x = 0 := by
  unfold dR dB dRest dBit
  rw [if_neg c, if_neg c]
  exact ⟨rfl, rfl⟩
/-- What a step asks. -/
theorem dif_side {row carry : List Int} (h : difOk row carry) {x : Nat} (hx : x < 32) :
    (0 : Int) ≤ x ∧ (x : Int) < 32 ∧ (x : Int) < (row.length : Int) ∧ (x : Int) < (carry.length : Int) ∧ wrap64 ((x : Int) + 1) = (x : Int) + 1 ∧ 0 ≤ mx 0 ((x : Int) - 1) ∧ mx 0 ((x : Int) - 1) < ((dC row carry x).length : Int) ∧ (x : Int) < ((dC row carry x).length : Int) ∧ 0 ≤ mn 31 ((x : Int) + 1) ∧ mn 31 ((x : Int) + 1) < ((dC row carry x).length : Int) := by
  have hc := h.1.1
  have hr := h.2.1
  have hl := dC_length row carry x
  have m1 := mx_pre x
  have m3 := m1.2 hx
  have m2 := mn_post x
  exact ⟨by omega, by omega, by omega, by omega, w64 (by omega) (by omega), m1.1, by omega, by omega, m2.1, by omega⟩
theorem dif_rest {R : Int} (h : -100000 ≤ R ∧ R ≤ 100000) : wrap64 (R - 3 * R / 16) = R - 3 * R / 16 ∧ wrap64 (R - 3 * R / 16 - 5 * R / 16) = R - 3 * R / 16 - 5 * R / 16 ∧ wrap64 (R - 3 * R / 16 - 5 * R / 16 - R / 16) = R - 3 * R / 16 - 5 * R / 16 - R / 16 ∧ wrap64 (3 * R) = 3 * R ∧ wrap64 (5 * R) = 5 * R :=
  ⟨w64 (by omega) (by omega), w64 (by omega) (by omega), w64 (by omega) (by omega), w64 (by omega) (by omega), w64 (by omega) (by omega)⟩
theorem dif_rest2 {row carry : List Int} {x : Nat} (h : -100000 ≤ dR row carry x ∧ dR row carry x ≤ 100000) (c : dT row carry x ≥ 128) : wrap64 (dT row carry x - 255) = dR row carry x := by
  have e := (dR_pos c).1
  rw [e] at h ⊢
  exact w64 (by omega) (by omega)

theorem within_eq (a b c : Int) : impl_within.f a b c = some (decide (b ≤ a ∧ a ≤ c)) := by
  unfold impl_within.f
  by_cases h : a ≥ b
  · rw [if_pos h]
    simp [show b ≤ a from h]
  · rw [if_neg h]
    simp [show ¬ b ≤ a from h]

theorem impl_CarryOk_l0 (a : List Int) (hn : a.length = 32) :
    ∀ d i : Nat, i + d = a.length → (∀ j : Nat, j < i → -20000 ≤ rd a j ∧ rd a j ≤ 20000) → Ev (fun k => impl_CarryOk.l0 k a (a.length : Int) i) (decide (carV 20000 a))
  | 0, i, h, hj => by
    refine Ev.step (f := fun _ => some true) (fun k => ?_) ?_
    · simp only [impl_CarryOk.l0]
      rw [if_neg (by omega)]
    · rw [decide_eq_true (show carV 20000 a from ⟨hn, fun j h1 => hj j (by omega)⟩)]
      exact Ev.now _
  | d + 1, i, h, hj => by
    by_cases c : -20000 ≤ rd a i ∧ rd a i ≤ 20000
    · refine Ev.step (f := fun k => impl_CarryOk.l0 k a (a.length : Int) ((i + 1 : Nat) : Int)) (fun k => ?_) (impl_CarryOk_l0 a hn d (i + 1) (by omega) (fun j h1 => ?_))
      · simp only [impl_CarryOk.l0, within_eq, Option.bind_some]
        rw [if_pos (by omega), if_pos (by omega), if_pos (by omega), if_pos (decide_eq_true c), wsucc (by omega)]
      · by_cases e : j = i
        · subst e
          exact c
        · exact hj j (by omega)
    · refine Ev.step (f := fun _ => some false) (fun k => ?_) ?_
      · simp only [impl_CarryOk.l0, within_eq, Option.bind_some]
        rw [if_pos (by omega), if_pos (by omega), if_pos (by omega), if_neg (by simp only [decide_eq_true_eq]; exact c)]
      · rw [decide_eq_false (show ¬ carV 20000 a from fun h3 => c (h3.2 i (by omega)))]
        exact Ev.now _
theorem impl_CarryOk_ev (a : List Int) : Ev (fun k => impl_CarryOk.f k a) (decide (carV 20000 a)) := by
  unfold impl_CarryOk.f
  by_cases c : (a.length : Int) = 32
  · exact ev_pos c (impl_CarryOk_l0 a (by omega) a.length 0 (by omega) (fun j h => by omega))
  · rw [decide_eq_false (show ¬ carV 20000 a from fun h => by have := h.1; omega)]
    exact ev_neg c (Ev.now _)

theorem impl_rowV_l0 (a : List Int) (hn : a.length = 32) :
    ∀ d i : Nat, i + d = a.length → (∀ j : Nat, j < i → 0 ≤ rd a j ∧ rd a j ≤ 255) → Ev (fun k => impl_rowOk.l0 k a (a.length : Int) i) (decide (rowV a))
  | 0, i, h, hj => by
    refine Ev.step (f := fun _ => some true) (fun k => ?_) ?_
    · simp only [impl_rowOk.l0]
      rw [if_neg (by omega)]
    · rw [decide_eq_true (show rowV a from ⟨hn, fun j h1 => hj j (by omega)⟩)]
      exact Ev.now _
  | d + 1, i, h, hj => by
    by_cases c : 0 ≤ rd a i ∧ rd a i ≤ 255
    · refine Ev.step (f := fun k => impl_rowOk.l0 k a (a.length : Int) ((i + 1 : Nat) : Int)) (fun k => ?_) (impl_rowV_l0 a hn d (i + 1) (by omega) (fun j h1 => ?_))
      · simp only [impl_rowOk.l0, within_eq, Option.bind_some]
        rw [if_pos (by omega), if_pos (by omega), if_pos (by omega), if_pos (decide_eq_true c), wsucc (by omega)]
      · by_cases e : j = i
        · subst e
          exact c
        · exact hj j (by omega)
    · refine Ev.step (f := fun _ => some false) (fun k => ?_) ?_
      · simp only [impl_rowOk.l0, within_eq, Option.bind_some]
        rw [if_pos (by omega), if_pos (by omega), if_pos (by omega), if_neg (by simp only [decide_eq_true_eq]; exact c)]
      · rw [decide_eq_false (show ¬ rowV a from fun h3 => c (h3.2 i (by omega)))]
        exact Ev.now _
theorem impl_rowV_ev (a : List Int) : Ev (fun k => impl_rowOk.f k a) (decide (rowV a)) := by
  unfold impl_rowOk.f
  by_cases c : (a.length : Int) = 32
  · exact ev_pos c (impl_rowV_l0 a (by omega) a.length 0 (by omega) (fun j h => by omega))
  · rw [decide_eq_false (show ¬ rowV a from fun h => by have := h.1; omega)]
    exact ev_neg c (Ev.now _)

theorem down_eq {a : Int} (h : -1000000 ≤ a ∧ a ≤ 1000000) : impl_down.f a 16 = some (a / 16) := by
  unfold impl_down.f
  rw [if_neg (by omega)]
  by_cases c0 : 0 ≤ a
  · rw [td c0, tm c0, w64 (n := a / 16) (by omega) (by omega)]
    by_cases c1 : a % 16 = 0
    · rw [if_pos c1]
    · rw [if_neg c1, if_neg (by simp; omega)]
  · obtain ⟨n, rfl⟩ : ∃ n : Int, a = -n := ⟨-a, by omega⟩
    rw [Int.neg_tdiv, Int.neg_tmod, td (by omega), tm (by omega), w64 (n := -(n / 16)) (by omega) (by omega)]
    by_cases c1 : -(n % 16) = 0
    · rw [if_pos c1, show -(n / 16) = -n / 16 by omega]
    · rw [if_neg c1, if_pos (by simp; omega), w64 (by omega) (by omega), show -(n / 16) - 1 = -n / 16 by omega]
theorem impl_Dif_l0 (row carry : List Int) (h : difOk row carry) : ∀ d x : Nat, x + d = 32 → Ev (fun k => impl_DiffuseRow.l0 k carry (dP row carry x) row 32 x (dBits row carry x ++ List.replicate d 0) (dC row carry x)) (dBits row carry 32, dEnd row carry, true)
  | 0, x, hd => by
    obtain rfl : x = 32 := by omega
    refine Ev.step (f := fun _ => some (dBits row carry 32, dEnd row carry, true)) (fun k => ?_) (Ev.now _)
    have hl := dC_length row carry 32
    have de : (dC row carry 32).set (31 : Int).toNat (rd (dC row carry 32) 31 + dP row carry 32) = dEnd row carry := rfl
    simp only [impl_DiffuseRow.l0, dif_end h, List.replicate_zero, List.append_nil]
    rw [if_neg (by omega), if_pos (by omega)]
    first | done | rw [de]
  | d + 1, x, hd => by
    obtain ⟨w1, w2, hR, w4, u1, u2, u3⟩ := dif_w h (x := x) (by omega)
    obtain ⟨s0, s1, s2, s3, w5, s4, s5, s6, s7, s8⟩ := dif_side h (x := x) (by omega)
    obtain ⟨p1, p2, p3, v1, v2⟩ := dif_rest hR
    have d1 := down_eq (a := 3 * dR row carry x) (by clear u1 u2 u3 w1 w2 w4; omega)
    have d2 := down_eq (a := 5 * dR row carry x) (by clear u1 u2 u3 w1 w2 w4; omega)
    have d3 := down_eq (a := dR row carry x) (by clear u1 u2 u3 w1 w2 w4; omega)
    have ex : ((x + 1 : Nat) : Int) = (x : Int) + 1 := rfl
    have ih := impl_Dif_l0 row carry h d (x + 1) (by clear u1 u2 u3 w1 w2 w4; omega)
    rw [dBits_snoc, dC_succ, List.append_assoc, List.singleton_append, ex, dP_succ] at ih
    by_cases c : dT row carry x ≥ 128
    · have w3 := dif_rest2 hR c
      rw [(dR_pos c).2] at ih
      refine Ev.step (fun k => ?_) ih
      simp only [impl_DiffuseRow.l0, Option.bind_some, w1, w2, if_pos c, w3, w4, w5, v1, v2, d1, d2, d3, u1, upL_def, u2, u3, p1, p2, p3]
      rw [if_pos s1, if_pos s0, if_pos s2, if_pos s3, if_pos (by simp only [List.length_append, dBits_length, List.length_replicate]; clear u1 u2 u3 w1 w2 w4; omega), if_pos s4, if_pos s5, if_pos s6, if_pos s7, if_pos s8, List.replicate_succ, Int.toNat_natCast, set_mid _ _ _ _ _ (dBits_length _ _ _)]
    · have e1 := (dR_neg c).1
      rw [(dR_neg c).2] at ih
      refine Ev.step (fun k => ?_) ih
      rw [← e1] at w2
      have c' : ¬ dR row carry x ≥ 128 := by rw [e1]; exact c
      simp only [impl_DiffuseRow.l0, Option.bind_some, w1, w2, w4, w5, v1, v2, d1, d2, d3, u1, upL_def, u2, u3, p1, p2, p3]
      rw [if_pos s1, if_pos s0, if_pos s2, if_pos s3, if_neg c', if_pos s4, if_pos s5, if_pos s6, if_pos s7, if_pos s8, List.replicate_succ]
theorem impl_Dif_ev (row carry : List Int) : Ev (fun k => impl_DiffuseRow.f k row carry) (difV row carry) := by
  have stop : Ev (fun k => impl_DiffuseRow.j0 k row carry true) (([], [], false) : List Int × List Int × Bool) := by
    refine Ev.step (f := fun _ => some ([], [], false)) (fun k => ?_) (Ev.now _)
    simp only [impl_DiffuseRow.j0]
    rfl
  unfold impl_DiffuseRow.f difV
  refine (impl_CarryOk_ev carry).bind ?_
  by_cases c1 : carV 20000 carry
  · refine ev_pos (decide_eq_true c1) ((impl_rowV_ev row).bind ?_)
    by_cases c2 : rowV row
    · rw [if_pos (c := difOk row carry) ⟨c1, c2⟩, decide_eq_true c2]
      have e := impl_Dif_l0 row carry ⟨c1, c2⟩ 32 0 (by omega)
      refine Ev.step (fun k => ?_) e
      simp only [impl_DiffuseRow.j0]
      rw [c2.1]
      rfl
    · rw [if_neg (c := difOk row carry) (fun q => c2 q.2), decide_eq_false c2]
      exact stop
  · rw [if_neg (c := difOk row carry) (fun q => c1 q.1)]
    exact ev_neg (by simp [c1]) stop

theorem l01In_eq (a b c : Int) : spec_l01In.f a b c = some (decide (b ≤ a ∧ a ≤ c)) := by
  unfold spec_l01In.f
  by_cases h : a ≥ b
  · rw [if_pos h]
    simp [show b ≤ a from h]
  · rw [if_neg h]
    simp [show ¬ b ≤ a from h]

theorem spec_CarryOk_l0 (a : List Int) (hn : a.length ≤ 1099511627776) :
    ∀ d i : Nat, i + d = a.length → (∀ j : Nat, j < i → -20000 ≤ rd a j ∧ rd a j ≤ 20000) → Ev (fun k => spec_CarryOk.l0 k a i) (decide (carV 20000 a))
  | 0, i, h, hj => by
    refine Ev.step (f := fun _ => some ((a.length : Int) == 32)) (fun k => ?_) ?_
    · simp only [spec_CarryOk.l0]
      rw [if_neg (by omega)]
    · rw [show ((a.length : Int) == 32) = decide (carV 20000 a) from by
        rw [Bool.eq_iff_iff]
        simp only [beq_iff_eq, decide_eq_true_eq]
        exact ⟨fun q => ⟨by omega, fun j h1 => hj j (by omega)⟩, fun q => by rw [q.1]; rfl⟩]
      exact Ev.now _
  | d + 1, i, h, hj => by
    by_cases c : -20000 ≤ rd a i ∧ rd a i ≤ 20000
    · refine Ev.step (f := fun k => spec_CarryOk.l0 k a ((i + 1 : Nat) : Int)) (fun k => ?_) (spec_CarryOk_l0 a hn d (i + 1) (by omega) (fun j h1 => ?_))
      · simp only [spec_CarryOk.l0, l01In_eq, Option.bind_some]
        rw [if_pos (by omega), if_pos (by omega), if_pos (decide_eq_true c), wsucc (by omega)]
      · by_cases e : j = i
        · subst e
          exact c
        · exact hj j (by omega)
    · refine Ev.step (f := fun _ => some false) (fun k => ?_) ?_
      · simp only [spec_CarryOk.l0, l01In_eq, Option.bind_some]
        rw [if_pos (by omega), if_pos (by omega), if_neg (by simp only [decide_eq_true_eq]; exact c)]
      · rw [decide_eq_false (show ¬ carV 20000 a from fun h3 => c (h3.2 i (by omega)))]
        exact Ev.now _
theorem spec_CarryOk_ev (a : List Int) (hn : a.length ≤ 1099511627776) : Ev (fun k => spec_CarryOk.f k a) (decide (carV 20000 a)) :=
  spec_CarryOk_l0 a hn a.length 0 (by omega) (fun j h => by omega)
theorem spec_rowV_l0 (a : List Int) (hn : a.length ≤ 1099511627776) :
    ∀ d i : Nat, i + d = a.length → (∀ j : Nat, j < i → 0 ≤ rd a j ∧ rd a j ≤ 255) → Ev (fun k => spec_l11Row.l0 k a i) (decide (rowV a))
  | 0, i, h, hj => by
    refine Ev.step (f := fun _ => some ((a.length : Int) == 32)) (fun k => ?_) ?_
    · simp only [spec_l11Row.l0]
      rw [if_neg (by omega)]
    · rw [show ((a.length : Int) == 32) = decide (rowV a) from by
        rw [Bool.eq_iff_iff]
        simp only [beq_iff_eq, decide_eq_true_eq]
        exact ⟨fun q => ⟨by omega, fun j h1 => hj j (by omega)⟩, fun q => by rw [q.1]; rfl⟩]
      exact Ev.now _
  | d + 1, i, h, hj => by
    by_cases c : 0 ≤ rd a i ∧ rd a i ≤ 255
    · refine Ev.step (f := fun k => spec_l11Row.l0 k a ((i + 1 : Nat) : Int)) (fun k => ?_) (spec_rowV_l0 a hn d (i + 1) (by omega) (fun j h1 => ?_))
      · simp only [spec_l11Row.l0, l01In_eq, Option.bind_some]
        rw [if_pos (by omega), if_pos (by omega), if_pos (decide_eq_true c), wsucc (by omega)]
      · by_cases e : j = i
        · subst e
          exact c
        · exact hj j (by omega)
    · refine Ev.step (f := fun _ => some false) (fun k => ?_) ?_
      · simp only [spec_l11Row.l0, l01In_eq, Option.bind_some]
        rw [if_pos (by omega), if_pos (by omega), if_neg (by simp only [decide_eq_true_eq]; exact c)]
      · rw [decide_eq_false (show ¬ rowV a from fun h3 => c (h3.2 i (by omega)))]
        exact Ev.now _
theorem spec_rowV_ev (a : List Int) (hn : a.length ≤ 1099511627776) : Ev (fun k => spec_l11Row.f k a) (decide (rowV a)) :=
  spec_rowV_l0 a hn a.length 0 (by omega) (fun j h => by omega)

theorem part_eq {a n : Int} (h : -200000 ≤ a ∧ a ≤ 200000) (hn : n = 1 ∨ n = 3 ∨ n = 5) : spec_l21Part.f a n = some (n * a / 16) := by
  unfold spec_l21Part.f
  rcases hn with rfl | rfl | rfl
  · rw [w64 (n := a * 1) (by omega) (by omega), w64 (n := a * 1 + 1600000) (by omega) (by omega), td (by omega), w64 (n := (a * 1 + 1600000) / 16) (by omega) (by omega), w64 (by omega) (by omega), show (a * 1 + 1600000) / 16 - 100000 = 1 * a / 16 by omega]
  · rw [w64 (n := a * 3) (by omega) (by omega), w64 (n := a * 3 + 1600000) (by omega) (by omega), td (by omega), w64 (n := (a * 3 + 1600000) / 16) (by omega) (by omega), w64 (by omega) (by omega), show (a * 3 + 1600000) / 16 - 100000 = 3 * a / 16 by omega]
  · rw [w64 (n := a * 5) (by omega) (by omega), w64 (n := a * 5 + 1600000) (by omega) (by omega), td (by omega), w64 (n := (a * 5 + 1600000) / 16) (by omega) (by omega), w64 (by omega) (by omega), show (a * 5 + 1600000) / 16 - 100000 = 5 * a / 16 by omega]
theorem spec_Dif_l0 (row carry : List Int) (h : difOk row carry) : ∀ d x : Nat, x + d = 32 → Ev (fun k => spec_DiffuseRow.l0 k row carry (dP row carry x) x (dBits row carry x) (dC row carry x)) (dBits row carry 32, dEnd row carry, true)
  | 0, x, hd => by
    obtain rfl : x = 32 := by omega
    refine Ev.step (f := fun _ => some (dBits row carry 32, dEnd row carry, true)) (fun k => ?_) (Ev.now _)
    have hl := dC_length row carry 32
    have de : (dC row carry 32).set (31 : Int).toNat (rd (dC row carry 32) 31 + dP row carry 32) = dEnd row carry := rfl
    simp only [spec_DiffuseRow.l0, dif_end h]
    rw [if_neg (by omega), if_pos (by omega)]
    first | done | rw [de]
  | d + 1, x, hd => by
    obtain ⟨w1, w2, hR, w4, u1, u2, u3⟩ := dif_w h (x := x) (by omega)
    obtain ⟨s0, s1, s2, s3, w5, s4, s5, s6, s7, s8⟩ := dif_side h (x := x) (by omega)
    obtain ⟨p1, p2, p3, v1, v2⟩ := dif_rest hR
    have d1 := part_eq (a := dR row carry x) (n := 3) (by clear u1 u2 u3 w1 w2 w4; omega) (.inr (.inl rfl))
    have d2 := part_eq (a := dR row carry x) (n := 5) (by clear u1 u2 u3 w1 w2 w4; omega) (.inr (.inr rfl))
    have d3 := part_eq (a := dR row carry x) (n := 1) (by clear u1 u2 u3 w1 w2 w4; omega) (.inl rfl)
    rw [Int.one_mul] at d3
    have ex : ((x + 1 : Nat) : Int) = (x : Int) + 1 := rfl
    have ih := spec_Dif_l0 row carry h d (x + 1) (by clear u1 u2 u3 w1 w2 w4; omega)
    rw [dBits_snoc, dC_succ, ex, dP_succ] at ih
    by_cases c : dT row carry x ≥ 128
    · have w3 : wrap64 (dT row carry x - (255 * 1)) = dR row carry x := dif_rest2 hR c
      rw [(dR_pos c).2] at ih
      refine Ev.step (fun k => ?_) ih
      simp only [spec_DiffuseRow.l0, Option.bind_some, w1, w2, if_pos c, w3, w4, w5, d1, d2, d3, u1, upL_def, u2, u3, p1, p2, p3]
      rw [if_pos s1, if_pos s0, if_pos s2, if_pos s3, if_pos (by rw [dBits_length]; clear u1 u2 u3 w1 w2 w4; omega), if_pos s4, if_pos s5, if_pos s6, if_pos s7, if_pos s8]
    · have e1 := (dR_neg c).1
      have w3 : wrap64 (dT row carry x - (255 * 0)) = dR row carry x := by rw [e1] at hR ⊢; exact (w64 (by omega) (by omega)).trans (by omega)
      rw [(dR_neg c).2] at ih
      refine Ev.step (fun k => ?_) ih
      simp only [spec_DiffuseRow.l0, Option.bind_some, w1, w2, if_neg c, w3, w4, w5, d1, d2, d3, u1, upL_def, u2, u3, p1, p2, p3]
      rw [if_pos s1, if_pos s0, if_pos s2, if_pos s3, if_pos (by rw [dBits_length]; clear u1 u2 u3 w1 w2 w4; omega), if_pos s4, if_pos s5, if_pos s6, if_pos s7, if_pos s8]
theorem spec_Dif_ev (row carry : List Int) (h1 : row.length ≤ 1099511627776) (h2 : carry.length ≤ 1099511627776) : Ev (fun k => spec_DiffuseRow.f k row carry) (difV row carry) := by
  have stop : Ev (fun k => spec_DiffuseRow.j0 k row carry true) (([], [], false) : List Int × List Int × Bool) := by
    refine Ev.step (f := fun _ => some ([], [], false)) (fun k => ?_) (Ev.now _)
    simp only [spec_DiffuseRow.j0]
    rfl
  unfold spec_DiffuseRow.f difV
  refine (spec_CarryOk_ev carry h2).bind ?_
  by_cases c1 : carV 20000 carry
  · refine ev_pos (decide_eq_true c1) ((spec_rowV_ev row h1).bind ?_)
    by_cases c2 : rowV row
    · rw [if_pos (c := difOk row carry) ⟨c1, c2⟩, decide_eq_true c2]
      have e := spec_Dif_l0 row carry ⟨c1, c2⟩ 32 0 (by omega)
      refine Ev.step (fun k => ?_) e
      simp only [spec_DiffuseRow.j0]
      rfl
    · rw [if_neg (c := difOk row carry) (fun q => c2 q.2), decide_eq_false c2]
      exact stop
  · rw [if_neg (c := difOk row carry) (fun q => c1 q.1)]
    exact ev_neg (by simp [c1]) stop

theorem eqDif_ev (a b : List Int) (h1 : a.length ≤ 32) (h2 : b.length ≤ 32) : Ev (fun k => laws_eqDiffused.f k a b a b) true := by
  unfold laws_eqDiffused.f
  exact (eqIntS_ev a (by omega)).bind (ev_pos rfl ((eqIntS_ev b (by omega)).bind (ev_pos rfl (Ev.now _))))
theorem markDif_ev (a b : List Int) (h1 : a.length ≤ 32) (h2 : b.length ≤ 32) : Ev (fun k => laws_markDiffused.f k a b 1) (((1 + a.length + b.length : Nat) : Int), marks 1 a.length, marks (1 + a.length) b.length) := by
  unfold laws_markDiffused.f
  exact (markIntS_ev a 1 (by omega)).bind ((markIntS_ev b (1 + a.length) (by omega)).bind (Ev.now _))
theorem heldDif_ev (a b : List Int) (h1 : a.length ≤ 32) (h2 : b.length ≤ 32) : Ev (fun k => laws_heldDiffused.f k (marks 1 a.length) (marks (1 + a.length) b.length) 1) ((1 + a.length + b.length : Nat) : Int) := by
  unfold laws_heldDiffused.f
  exact (heldIntS_ev a.length 1 (by omega)).bind (ev_neg (by omega) ((heldIntS_ev b.length (1 + a.length) (by omega)).bind (ev_neg (by omega) (Ev.now _))))
theorem FnExactDiffuseRow : laws_FnExactDiffuseRow.Pure := by
  intro a b hm hb hw hm2 hb2 hw2
  refine Ev.rounds ?_
  unfold laws_FnExactDiffuseRow.f
  by_cases hl : (a.length : Int) > 1048576
  · exact ev_pos hl (Ev.now _)
  refine ev_neg hl ?_
  by_cases hl2 : (b.length : Int) > 1048576
  · exact ev_pos hl2 (Ev.now _)
  refine ev_neg hl2 ?_
  have t1 := toIntS_ev a (by omega)
  have t2 := toIntS_ev b (by omega)
  have e1 := spec_Dif_ev a b (by omega) (by omega)
  have e2 := impl_Dif_ev a b
  have hs := difV_short a b
  generalize difV a b = V at e1 e2 hs
  obtain ⟨u, v, w⟩ := V
  have hu : u.length ≤ 32 := hs.1
  have hv : v.length ≤ 32 := hs.2
  have eq := eqDif_ev u v hu hv
  have held := heldDif_ev u v hu hv
  have j2 : Ev (fun k => laws_FnExactDiffuseRow.j2 k ((1 + u.length + v.length : Nat) : Int) (w != w) (marks 1 u.length) (marks (1 + u.length) v.length)) true := by
    refine Ev.step (f := fun k => (laws_heldDiffused.f k (marks 1 u.length) (marks (1 + u.length) v.length) 1).bind fun t => if t < 0 then some false else if t = ((1 + u.length + v.length : Nat) : Int) then some true else some false) (fun k => ?_) (held.bind (ev_neg (by omega) (ev_pos rfl (Ev.now _))))
    simp only [laws_FnExactDiffuseRow.j2]
    rw [if_neg (by simp)]
  have j1 : Ev (fun k => laws_FnExactDiffuseRow.j1 k a b w (w != w) u v u v) true := by
    refine Ev.step (f := fun k => (laws_markDiffused.f k u v 1).bind fun bt => (laws_heldDiffused.f k bt.2.1 bt.2.2 1).bind fun t => if t < 0 then some false else if t = bt.1 then (laws_toIntS.f k a).bind fun t2 => (laws_toIntS.f k b).bind fun t3 => (impl_DiffuseRow.f k t2 t3).bind fun bt2 => (laws_eqDiffused.f k bt2.1 bt2.2.1 u v).bind fun t4 => if t4 = true then laws_FnExactDiffuseRow.j2 k bt.1 (bt2.2.2 != w) bt.2.1 bt.2.2 else laws_FnExactDiffuseRow.j2 k bt.1 true bt.2.1 bt.2.2 else some false) (fun k => ?_) ((markDif_ev u v hu hv).bind (held.bind (ev_neg (by omega) (ev_pos rfl (t1.bind (t2.bind (e2.bind (eq.bind (ev_pos rfl j2)))))))))
    simp only [laws_FnExactDiffuseRow.j1]
    rw [if_neg (by simp)]
  have j0 : Ev (fun k => laws_FnExactDiffuseRow.j0 k a b w a b w (w != w) u v u v) true := by
    refine Ev.step (f := fun k => (laws_toIntS.f k a).bind fun t => (laws_eqIntS.f k a t).bind fun t => if t = true then (laws_toIntS.f k b).bind fun t => (laws_eqIntS.f k b t).bind fun t => if t = true then (laws_markIntS.f k a 1).bind fun bt => (laws_markIntS.f k b bt.1).bind fun bt2 => if bt2.1 < 0 then laws_FnExactDiffuseRow.j1 k a b w true u v u v else (laws_eqDiffused.f k u v u v).bind fun t => if t = true then laws_FnExactDiffuseRow.j1 k a b w (w != w) u v u v else laws_FnExactDiffuseRow.j1 k a b w true u v u v else some false else some false) (fun k => ?_) (t1.bind ((eqIntS_ev a (by omega)).bind (ev_pos rfl (t2.bind ((eqIntS_ev b (by omega)).bind (ev_pos rfl ((markIntS_ev a 1 (by omega)).bind ((markIntS_ev b (1 + a.length) (by omega)).bind (ev_neg (by omega) (eq.bind (ev_pos rfl j1)))))))))))
    simp only [laws_FnExactDiffuseRow.j0]
    rw [if_neg (by simp)]
  exact t1.bind (t2.bind (e1.bind (t1.bind (t2.bind (e2.bind (eq.bind (ev_pos rfl j0)))))))

end Go.Proofs.Ytophklfiooklbaa.Pure
