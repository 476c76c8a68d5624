/-
  For every code the law of diffusion returns true: rows that are diffused in two parts have the same bits as at once, and a white row has all its bits.
-/
import Derived.Test.YtophklfiooklbaaPFnDiffusionx6
import Derived.Test.YtophklfiooklbaaWSized
/- The printed row names 'PrintWords.sized_ints' without its seat's letter W: the same law under the name that it looks for. -/
namespace Go.Proofs.Ytophklfiooklbaa.PrintWords
open Go.ChangeShapes Go.WideShapes
theorem sized_ints {H : Type} {enc : TypeId × Value → H} {P : Program} {W : World} {base : Nat} {spare : Nat → Bool} {held : Bool} {t e : TypeId} {k : IntKind} {a : Option Addr} {len cap : Nat} {d : DataW H} {ps : List MemPlace} {ts : List TypeId} {ds : List (DataW H)} {j : Nat}
    (hsz : (DataW.weightsEach P ts ds).all (· ≤ reachBytes) = true) (ht : ts[j]? = some t) (hd : ds[j]? = some d) (hu : P.underlying t = some (.slice e)) (he : P.underlying e = some (.int k)) (hc : P.cellsOf e = 1) {B : Nat} (hB : P.bytesOf e = B)
    (h : DataW.Trod enc P W base spare held t (.slice a len cap) d ps) : len * B ≤ 140737488351232 :=
  Go.Proofs.YtophklfiooklbaaW.PrintWords.sized_ints hsz ht hd hu he hc hB h
end Go.Proofs.Ytophklfiooklbaa.PrintWords
namespace Go.Proofs.Ytophklfiooklbaa.Pure
open Go.RowKit Go.Proofs.Ytophklfiooklbaa.PFnDiffusion Go.Proofs.YtophklfiooklbaaW.PrintWords Go.Proofs.YtophklfiooklbaaW.PrintLast Go.Proofs.YtophklfiooklbaaW.PrintMore
set_option linter.unusedVariables false
set_option linter.unusedSimpArgs false

theorem w64 {n : Int} (h1 : -9223372036854775808 ≤ n) (h2 : n ≤ 9223372036854775807) : wrap64 n = n := by
  unfold wrap64
  omega
theorem wsucc {i : Nat} (h : i ≤ 4611686018427387904) : wrap64 ((i : Int) + 1) = ((i + 1 : Nat) : Int) := by
  rw [w64 (by omega) (by omega)]
  omega
theorem rd_nat (l : List Int) (i : Nat) : rd l (i : Int) = l.getD i 0 := by simp [rd]
theorem getD_drop (l : List Int) (i : Nat) (h : i < l.length) : l.drop i = l.getD i 0 :: l.drop (i + 1) := by
  rw [List.drop_eq_getElem_cons h]
  simp [List.getD_eq_getElem?_getD, List.getElem?_eq_getElem h]
theorem getD_take (l : List Int) (i : Nat) (h : i < l.length) : l.take (i + 1) = l.take i ++ [l.getD i 0] := by
  rw [List.take_succ_eq_append_getElem h]
  simp [List.getD_eq_getElem?_getD, List.getElem?_eq_getElem h]
theorem set_mid (p q : List Int) (u v : Int) (i : Nat) (h : p.length = i) : (p ++ u :: q).set i v = p ++ v :: q := by
  subst h
  simp [List.set_append_right]
theorem bind_id {α : Type} {g : Nat → Option α} {r : α} (h : Ev g r) : Ev (fun n => (g n).bind fun x => some x) r := by
  obtain ⟨K, h⟩ := h
  exact ⟨K, fun k hk => by simp [h k hk]⟩
theorem ev_pos {α : Type} {c : Prop} [Decidable c] {f g : Nat → Option α} {r : α} (h : c) (k : Ev f r) : Ev (fun n => if c then f n else g n) r := Ev.congr (fun n => if_pos h) k
theorem ev_neg {α : Type} {c : Prop} [Decidable c] {f g : Nat → Option α} {r : α} (h : ¬ c) (k : Ev g r) : Ev (fun n => if c then f n else g n) r := Ev.congr (fun n => if_neg h) k
theorem ev_eq {α β : Type} {g : Option α} {f : Nat → α → Option β} {a : α} {r : β} (h : g = some a) (k : Ev (fun n => f n a) r) : Ev (fun n => g.bind (f n)) r := by
  subst h
  exact k
theorem td {v : Int} (h : 0 ≤ v) (c : Int) : Int.tdiv v c = v / c := Int.tdiv_eq_ediv_of_nonneg h
theorem tm {v : Int} (h : 0 ≤ v) (c : Int) : Int.tmod v c = v % c := Int.tmod_eq_emod_of_nonneg h

theorem and255 (n : Int) : Go.bits .and .i64 n 255 = n % 256 := by
  have h255 : (BitVec.ofInt 64 255).toNat = 2 ^ 8 - 1 := by decide
  have key : (BitVec.ofInt 64 n &&& BitVec.ofInt 64 255).toNat = (n % ((2 ^ 64 : Nat) : Int)).toNat % 2 ^ 8 := by
    rw [BitVec.toNat_and, BitVec.toNat_ofInt, h255, Nat.and_two_pow_sub_one_eq_mod]
  show IntKind.i64.wrap ((BitVec.ofInt 64 n &&& BitVec.ofInt 64 255).toNat : Nat) = n % 256
  rw [key, IntKind.wrap_i64]
  omega
theorem l01New_l0 (l : List Int) (hn : l.length ≤ 1099511627776) : ∀ d i : Nat, i + d = l.length → ∀ h : Int, ∃ h', Ev (fun k => spec_l01New.l0 k l h i) (l, 0, h')
  | 0, i, hd, h => by
    refine ⟨h, Ev.step (f := fun _ => some (l, 0, h)) (fun k => ?_) (Ev.now _)⟩
    simp only [spec_l01New.l0]
    rw [if_neg (by omega)]
  | d + 1, i, hd, h => by
    by_cases c : (i : Int) < 4000
    · obtain ⟨h', e⟩ := l01New_l0 l hn d (i + 1) (by omega) (Go.bits .and .i64 (wrap64 ((wrap64 ((wrap64 (h * 131)) + (wrap64 (rd l i)))) + 7)) 1073741823)
      refine ⟨h', Ev.step (fun k => ?_) e⟩
      simp only [spec_l01New.l0]
      rw [if_pos (by omega), if_pos c, if_pos (by omega), wsucc (by omega)]
    · refine ⟨h, Ev.step (f := fun _ => some (l, 0, h)) (fun k => ?_) (Ev.now _)⟩
      simp only [spec_l01New.l0]
      rw [if_pos (by omega), if_neg c]
theorem l01New_ev (l : List Int) (hn : l.length ≤ 1099511627776) : ∃ h, Ev (fun k => spec_l01New.f k l) (l, 0, h) :=
  l01New_l0 l hn l.length 0 (by omega) _
/-- A cursor that can be read from. -/
def cur (l : List Int) (i : Int) : Prop := l.length ≤ 1099511627776 ∧ 0 ≤ i
theorem l01Byte_ex {l : List Int} {i : Int} (h : Int) (hc : cur l i) : ∃ x i' h', spec_l01Byte.f l i h = some (x, i', h') ∧ cur l i' ∧ 0 ≤ x ∧ x ≤ 255 := by
  obtain ⟨hl, h0⟩ := hc
  unfold spec_l01Byte.f
  by_cases c : i < (l.length : Int)
  · rw [if_pos c, if_pos h0, w64 (n := i + 1) (by omega) (by omega)]
    refine ⟨_, _, _, rfl, ⟨hl, by omega⟩, ?_⟩
    simp only [and255]
    omega
  · rw [if_neg c]
    refine ⟨_, _, _, rfl, ⟨hl, h0⟩, ?_⟩
    simp only [and255]
    omega

theorem l01Below_ex {l : List Int} {i : Int} (h : Int) (hc : cur l i) {n : Int} (hn : 0 < n) (hn2 : n ≤ 1000000) : ∃ x i' h', spec_l01Below.f l i h n = some (x, i', h') ∧ cur l i' ∧ 0 ≤ x ∧ x < n := by
  unfold spec_l01Below.f
  rw [if_neg (by omega)]
  by_cases c : n ≤ 256
  · rw [if_pos c]
    obtain ⟨x, i1, h1, e, hc1, b0, b1⟩ := l01Byte_ex h hc
    rw [e]
    simp only [Option.bind_some]
    rw [if_neg (by omega), tm b0]
    exact ⟨_, _, _, rfl, hc1, Int.emod_nonneg _ (by omega), Int.emod_lt_of_pos _ hn⟩
  · rw [if_neg c]
    obtain ⟨x, i1, h1, e1, hc1, b0, b1⟩ := l01Byte_ex h hc
    rw [e1]
    simp only [Option.bind_some]
    obtain ⟨y, i2, h2, e2, hc2, c0, c1⟩ := l01Byte_ex h1 hc1
    rw [e2]
    simp only [Option.bind_some]
    obtain ⟨z, i3, h3, e3, hc3, d0, d1⟩ := l01Byte_ex h2 hc2
    rw [e3]
    simp only [Option.bind_some]
    obtain ⟨u, i4, h4, e4, hc4, f0, f1⟩ := l01Byte_ex h3 hc3
    rw [e4]
    simp only [Option.bind_some]
    rw [if_neg (by omega), w64 (n := x * 16777216) (by omega) (by omega), w64 (n := y * 65536) (by omega) (by omega), w64 (n := z * 256) (by omega) (by omega), w64 (n := x * 16777216 + y * 65536) (by omega) (by omega), w64 (n := x * 16777216 + y * 65536 + z * 256) (by omega) (by omega), w64 (n := x * 16777216 + y * 65536 + z * 256 + u) (by omega) (by omega), tm (by omega)]
    exact ⟨_, _, _, rfl, hc4, Int.emod_nonneg _ (by omega), Int.emod_lt_of_pos _ hn⟩

theorem l01PickInt_ex {l : List Int} {i : Int} (h : Int) (hc : cur l i) (xs : List Int) (hn : 0 < xs.length) (hn2 : xs.length ≤ 1000) : ∃ x i' h', spec_l01PickInt.f l i h xs = some (x, i', h') ∧ cur l i' ∧ x ∈ xs := by
  unfold spec_l01PickInt.f
  obtain ⟨x, i1, h1, e, hc1, b0, b1⟩ := l01Below_ex h hc (n := (xs.length : Int)) (by omega) (by omega)
  rw [e]
  simp only [Option.bind_some]
  rw [if_pos b0, if_pos b1]
  refine ⟨_, _, _, rfl, hc1, ?_⟩
  unfold rd
  rw [List.getD_eq_getElem?_getD, List.getElem?_eq_getElem (show x.toNat < xs.length by omega)]
  simp

theorem rd_mem2 (l : List Int) (i : Nat) (h : i < l.length) : rd l i ∈ l := by
  rw [rd_nat, List.getD_eq_getElem?_getD, List.getElem?_eq_getElem h]
  simp
theorem l01Once_ex {l : List Int} {i : Int} (h : Int) (hc : cur l i) {n : Int} (hn : 0 < n) (hn2 : n ≤ 1000000) : ∃ b i' h', spec_l01Once.f l i h n = some (b, i', h') ∧ cur l i' := by
  unfold spec_l01Once.f
  obtain ⟨x, i1, h1, e, hc1, _, _⟩ := l01Below_ex h hc hn hn2
  rw [e]
  exact ⟨_, _, _, rfl, hc1⟩

/-! Error diffusion of one row, told dot by dot: what is passed on (dP), the rest (dR), the bit (dB), the carry (dC). -/
def dRest (t : Int) : Int := if t ≥ 128 then t - 255 else t
def dBit (t : Int) : Int := if t ≥ 128 then 1 else 0
def dPass (r : Int) : Int := r - 3 * r / 16 - 5 * r / 16 - r / 16
def dP (row carry : List Int) : Nat → Int
  | 0 => 0
  | x + 1 => dPass (dRest (rd row x + rd carry x + dP row carry x))
def dT (row carry : List Int) (x : Nat) : Int := rd row x + rd carry x + dP row carry x
def dR (row carry : List Int) (x : Nat) : Int := dRest (dT row carry x)
def dB (row carry : List Int) (x : Nat) : Int := dBit (dT row carry x)
def upL (l : List Int) (i v : Int) : List Int := l.set i.toNat (rd l i + v)
def dC (row carry : List Int) : Nat → List Int
  | 0 => List.replicate 32 0
  | x + 1 => upL (upL (upL (dC row carry x) (mx 0 ((x : Int) - 1)) (3 * dR row carry x / 16)) x (5 * dR row carry x / 16)) (mn 31 ((x : Int) + 1)) (dR row carry x / 16)
def dBits (row carry : List Int) (n : Nat) : List Int := (List.range n).map (dB row carry)
def dEnd (row carry : List Int) : List Int := upL (dC row carry 32) 31 (dP row carry 32)
/-- A row that is diffused, and a carry, as the program asks them. -/
def rowV (r : List Int) : Prop := r.length = 32 ∧ ∀ i : Nat, i < r.length → 0 ≤ rd r i ∧ rd r i ≤ 255
def carV (B : Int) (c : List Int) : Prop := c.length = 32 ∧ ∀ i : Nat, i < c.length → -B ≤ rd c i ∧ rd c i ≤ B
instance (r : List Int) : Decidable (rowV r) := by
  unfold rowV
  infer_instance
instance (B : Int) (r : List Int) : Decidable (carV B r) := by
  unfold carV
  infer_instance
theorem dP_in {row carry : List Int} {B : Int} (hB : 0 ≤ B) (hr : rowV row) (hc : carV B carry) : ∀ x : Nat, x ≤ 32 → -(B + 105) ≤ dP row carry x ∧ dP row carry x ≤ B + 105
  | 0, _ => by
    simp only [dP]
    omega
  | x + 1, h => by
    have ih := dP_in hB hr hc x (by omega)
    have h1 := hr.2 x (by rw [hr.1]; omega)
    have h2 := hc.2 x (by rw [hc.1]; omega)
    simp only [dP, dPass, dRest]
    split <;> omega
theorem dR_in {row carry : List Int} {B : Int} (hB : 0 ≤ B) (hr : rowV row) (hc : carV B carry) {x : Nat} (h : x < 32) : -(2 * B + 232) ≤ dR row carry x ∧ dR row carry x ≤ 2 * B + 232 := by
  have ih := dP_in hB hr hc x (by omega)
  have h1 := hr.2 x (by rw [hr.1]; omega)
  have h2 := hc.2 x (by rw [hc.1]; omega)
  have key : ∀ t : Int, -(2 * B + 105) ≤ t ∧ t ≤ 2 * B + 360 → -(2 * B + 232) ≤ dRest t ∧ dRest t ≤ 2 * B + 232 := fun t ht => by
    unfold dRest
    split <;> omega
  exact key _ (by unfold dT; omega)
theorem upL_length (l : List Int) (i v : Int) : (upL l i v).length = l.length := by simp [upL]
theorem dC_length (row carry : List Int) : ∀ x : Nat, (dC row carry x).length = 32
  | 0 => by simp [dC]
  | x + 1 => by simp only [dC, upL_length, dC_length row carry x]
theorem rd_upL (l : List Int) (i v j : Int) (hi : 0 ≤ i) (hl : i < l.length) (hj : 0 ≤ j) : rd (upL l i v) j = if j = i then rd l i + v else rd l j := by
  unfold upL rd
  simp only [List.getD_eq_getElem?_getD]
  by_cases c : j = i
  · subst c
    rw [if_pos rfl, List.getElem?_set_self (by omega)]
    rfl
  · rw [if_neg c, List.getElem?_set_ne (by omega)]
/-- Roughly. -/
theorem upL_in {l : List Int} {M V i v : Int} (h : ∀ j : Int, 0 ≤ j → -M ≤ rd l j ∧ rd l j ≤ M) (hi : 0 ≤ i) (hl : i < l.length) (hv : -V ≤ v ∧ v ≤ V) (j : Int) (hj : 0 ≤ j) : -(M + V) ≤ rd (upL l i v) j ∧ rd (upL l i v) j ≤ M + V := by
  rw [rd_upL l i v j hi hl hj]
  have h1 := h j hj
  have h2 := h i hi
  split <;> omega
theorem mx_pre (x : Nat) : 0 ≤ mx 0 ((x : Int) - 1) ∧ (x < 32 → mx 0 ((x : Int) - 1) < 32) := by
  unfold mx
  split <;> omega
theorem mn_post (x : Nat) : 0 ≤ mn 31 ((x : Int) + 1) ∧ mn 31 ((x : Int) + 1) < 32 := by
  unfold mn
  split <;> omega
theorem dC_in {row carry : List Int} {B : Int} (hB : 0 ≤ B) (hr : rowV row) (hc : carV B carry) : ∀ x : Nat, x ≤ 32 → ∀ j : Int, 0 ≤ j → -((2 * B + 300) * x) ≤ rd (dC row carry x) j ∧ rd (dC row carry x) j ≤ (2 * B + 300) * x
  | 0, _, j, hj => by
    have : rd (dC row carry 0) j = 0 := by
      simp only [dC, rd, List.getD_eq_getElem?_getD, List.getElem?_replicate]
      split <;> rfl
    rw [this]
    simp
  | x + 1, h, j, hj => by
    have ih := dC_in hB hr hc x (by omega)
    have hR := dR_in hB hr hc (x := x) (by omega)
    have hl := dC_length row carry x
    have m1 := mx_pre x
    have m2 := mn_post x
    have a1 := upL_in (V := 3 * (2 * B + 232) / 16 + 1) ih m1.1 (by rw [hl]; have := m1.2 (by omega); omega) (v := 3 * dR row carry x / 16) (by omega)
    have a2 := upL_in (V := 5 * (2 * B + 232) / 16 + 1) (i := x) a1 (by omega) (by rw [upL_length, hl]; omega) (v := 5 * dR row carry x / 16) (by omega)
    have a3 := upL_in (V := (2 * B + 232) / 16 + 1) a2 m2.1 (by rw [upL_length, upL_length, hl]; exact m2.2) (v := dR row carry x / 16) (by omega) j hj
    simp only [dC]
    have e : (2 * B + 300) * ((x + 1 : Nat) : Int) = (2 * B + 300) * x + (2 * B + 300) := by rw [Int.natCast_add, Int.mul_add]; simp
    rw [e]
    omega
theorem dBits_snoc (row carry : List Int) (x : Nat) : dBits row carry (x + 1) = dBits row carry x ++ [dB row carry x] := by simp [dBits, List.range_succ]
theorem dBits_length (row carry : List Int) (n : Nat) : (dBits row carry n).length = n := by simp [dBits]
theorem dEnd_length (row carry : List Int) : (dEnd row carry).length = 32 := by rw [dEnd, upL_length, dC_length]
/-- What a row's diffusion gives. -/
def difOk (row carry : List Int) : Prop := carV 20000 carry ∧ rowV row
instance (row carry : List Int) : Decidable (difOk row carry) := by
  unfold difOk
  infer_instance
def difV (row carry : List Int) : List Int × List Int × Bool := if difOk row carry then (dBits row carry 32, dEnd row carry, true) else ([], [], false)
theorem difV_short (row carry : List Int) : (difV row carry).1.length ≤ 32 ∧ (difV row carry).2.1.length ≤ 32 := by
  unfold difV
  split
  · simp [dBits_length, dEnd_length]
  · simp

/-- A row of 32 values from 0 to hi. -/
def rowP (hi : Int) (r : List Int) : Prop := r.length = 32 ∧ ∀ i : Nat, i < r.length → 0 ≤ rd r i ∧ rd r i ≤ hi
/-- At most 32 such rows. -/
def mat (hi : Int) (m : List (List Int)) : Prop := m.length ≤ 32 ∧ ∀ j : Nat, j < m.length → rowP hi (rd_L2 m j)
instance (hi : Int) (r : List Int) : Decidable (rowP hi r) := by
  unfold rowP
  infer_instance
instance (hi : Int) (m : List (List Int)) : Decidable (mat hi m) := by
  unfold mat
  infer_instance
theorem rowP_mono {a b : Int} (h : a ≤ b) {r : List Int} (hr : rowP a r) : rowP b r := ⟨hr.1, fun i hi => ⟨(hr.2 i hi).1, by have := (hr.2 i hi).2; omega⟩⟩
theorem mat_mono {a b : Int} (h : a ≤ b) {m : List (List Int)} (hm : mat a m) : mat b m := ⟨hm.1, fun j hj => rowP_mono h (hm.2 j hj)⟩
/-- Rows that are not too long to be counted. -/
def small (m : List (List Int)) : Prop := m.length ≤ 1099511627776 ∧ ∀ j : Nat, j < m.length → (rd_L2 m j).length ≤ 1099511627776

/-- Rows whose lengths, and their number, are at most 1048576. -/
def tiny (m : List (List Int)) : Prop := m.length ≤ 1048576 ∧ ∀ j : Nat, j < m.length → (rd_L2 m j).length ≤ 1048576
theorem tiny_small {m : List (List Int)} (h : tiny m) : small m := ⟨by have := h.1; omega, fun j hj => by have := h.2 j hj; omega⟩
theorem rows_mem {m : List (List Int)} {j : Nat} (hj : j < m.length) : rd_L2 m j = m[j] := by
  unfold rd_L2
  rw [Int.toNat_natCast, List.getD_eq_getElem?_getD, List.getElem?_eq_getElem hj]
  rfl
theorem set_midL (p q : List (List Int)) (u v : List Int) (i : Nat) (h : p.length = i) : (p ++ u :: q).set i v = p ++ v :: q := by
  subst h
  simp [List.set_append_right]

/-- Rows of 32 values, told dot by dot. -/
def tabRow (F : Nat → Nat → Int) (y n : Nat) : List Int := (List.range n).map (F y)
def tab (F : Nat → Nat → Int) (n : Nat) : List (List Int) := (List.range n).map fun y => tabRow F y 32
theorem tabRow_snoc (F : Nat → Nat → Int) (y n : Nat) : tabRow F y (n + 1) = tabRow F y n ++ [F y n] := by simp [tabRow, List.range_succ]
theorem tabRow_length (F : Nat → Nat → Int) (y n : Nat) : (tabRow F y n).length = n := by simp [tabRow]
theorem tab_snoc (F : Nat → Nat → Int) (n : Nat) : tab F (n + 1) = tab F n ++ [tabRow F n 32] := by simp [tab, List.range_succ]
theorem tab_length (F : Nat → Nat → Int) (n : Nat) : (tab F n).length = n := by simp [tab]
theorem tab_row (F : Nat → Nat → Int) {n y : Nat} (h : y < n) : rd_L2 (tab F n) y = tabRow F y 32 := by
  rw [rows_mem (by rw [tab_length]; exact h)]
  simp [tab]
theorem tabRow_get (F : Nat → Nat → Int) (y : Nat) {n x : Nat} (h : x < n) : rd (tabRow F y n) x = F y x := by
  rw [rd_nat, List.getD_eq_getElem?_getD, List.getElem?_eq_getElem (by rw [tabRow_length]; exact h)]
  simp [tabRow]
theorem rows_mid (p q : List (List Int)) (u : List Int) (i : Nat) (h : p.length = i) : rd_L2 (p ++ u :: q) i = u := by
  subst h
  simp [rd_L2]
theorem dots_mid (p q : List Int) (u : Int) (i : Nat) (h : p.length = i) : rd (p ++ u :: q) i = u := by
  subst h
  simp [rd_nat]
theorem rows_drop (m : List (List Int)) {i : Nat} (h : i < m.length) : m.drop i = rd_L2 m i :: m.drop (i + 1) := by
  rw [List.drop_eq_getElem_cons h, rows_mem h]
theorem dots_drop (r : List Int) {i : Nat} (h : i < r.length) : r.drop i = rd r i :: r.drop (i + 1) := by
  rw [getD_drop r i h, rd_nat]
theorem tab_small (F : Nat → Nat → Int) (n : Nat) (h : n ≤ 32) : small (tab F n) := by
  refine ⟨by rw [tab_length]; omega, fun j hj => ?_⟩
  rw [tab_length] at hj
  rw [tab_row F hj, tabRow_length]
  omega
theorem tab_total (F : Nat → Nat → Int) (n : Nat) (h : n ≤ 32) : True := trivial
theorem small_total {m : List (List Int)} (h : m.length ≤ 32) (h2 : ∀ j : Nat, j < m.length → (rd_L2 m j).length ≤ 32) : m.length ≤ 1048576 ∧ ∀ j : Nat, j < m.length → (rd_L2 m j).length ≤ 1048576 := ⟨by omega, fun j hj => by have := h2 j hj; omega⟩
theorem tab_tiny (F : Nat → Nat → Int) (n : Nat) (h : n ≤ 32) : tiny (tab F n) := by
  refine ⟨by rw [tab_length]; omega, fun j hj => ?_⟩
  rw [tab_length] at hj
  rw [tab_row F hj, tabRow_length]
  omega
theorem mat_dot {hi : Int} {m : List (List Int)} (h : mat hi m) {y x : Nat} (hy : y < m.length) (hx : x < 32) : 0 ≤ rd (rd_L2 m y) x ∧ rd (rd_L2 m y) x ≤ hi := (h.2 y hy).2 x (by rw [(h.2 y hy).1]; exact hx)
theorem tab_mat (F : Nat → Nat → Int) (n : Nat) (hi : Int) (h : n ≤ 32) (hF : ∀ y x, y < n → x < 32 → 0 ≤ F y x ∧ F y x ≤ hi) : mat hi (tab F n) := by
  refine ⟨by rw [tab_length]; exact h, fun j hj => ?_⟩
  rw [tab_length] at hj
  rw [tab_row F hj]
  refine ⟨tabRow_length _ _ _, fun i h1 => ?_⟩
  rw [tabRow_length] at h1
  rw [tabRow_get F j h1]
  exact hF j i hj h1

theorem l11Rows_l1 (l : List Int) (m n : Nat) (out : List (List Int)) (ho : out.length ≤ 1000) (Q : List (List Int) → Prop)
    (next : ∀ (row : List Int) (i h : Int), row.length = 32 → (∀ x ∈ row, 0 ≤ x ∧ x ≤ 255) → cur l i → ∃ r i' h', Ev (fun k => spec_l11Rows.l0 k (out ++ [row]) m (wrap64 ((n : Int) + 1)) l i h) (r, i', h') ∧ Q r) :
    ∀ (d : Nat) (row : List Int) (v i h : Int), row.length + d = 32 → (∀ x ∈ row, 0 ≤ x ∧ x ≤ 255) → 0 ≤ v → v ≤ 255 → cur l i → ∃ r i' h', Ev (fun k => spec_l11Rows.l1 k out m n row v l i h) (r, i', h') ∧ Q r
  | 0, row, v, i, h, hd, hr, v0, v1, hc => by
    obtain ⟨r, i', h', e, hq⟩ := next row i h (by omega) hr hc
    refine ⟨r, i', h', Ev.step (fun k => ?_) e, hq⟩
    simp only [spec_l11Rows.l1]
    rw [if_neg (by omega), if_pos (by omega)]
  | d + 1, row, v, i, h, hd, hr, v0, v1, hc => by
    have snoc : ∀ u : Int, 0 ≤ u → u ≤ 255 → ∀ x ∈ row ++ [u], 0 ≤ x ∧ x ≤ 255 := fun u u0 u1 x hx => by
      rcases List.mem_append.1 hx with hx | hx
      · exact hr x hx
      · rw [List.mem_singleton.1 hx]
        exact ⟨u0, u1⟩
    obtain ⟨b, i1, h1, e1, c1⟩ := l01Once_ex h hc (n := 5) (by omega) (by omega)
    cases b with
    | true =>
      obtain ⟨u, i2, h2, e2, c2, u0, u1⟩ := l01Below_ex h1 c1 (n := 256) (by omega) (by omega)
      obtain ⟨p, i3, h3, e3, c3, hp⟩ := l01PickInt_ex h2 c2 [0, 255, 128, u] (by simp) (by simp)
      have hp2 : 0 ≤ p ∧ p ≤ 255 := by
        simp only [List.mem_cons, List.not_mem_nil, or_false] at hp
        omega
      obtain ⟨r, i', h', e, hq⟩ := l11Rows_l1 l m n out ho Q next d (row ++ [p]) p i3 h3 (by simp; omega) (snoc p hp2.1 hp2.2) hp2.1 hp2.2 c3
      refine ⟨r, i', h', Ev.step (fun k => ?_) e, hq⟩
      simp only [spec_l11Rows.l1]
      rw [if_pos (by omega), e1]
      simp only [Option.bind_some, if_true]
      rw [e2]
      simp only [Option.bind_some]
      rw [e3]
      simp only [Option.bind_some]
      rw [if_pos (by omega)]
    | false =>
      obtain ⟨r, i', h', e, hq⟩ := l11Rows_l1 l m n out ho Q next d (row ++ [v]) v i1 h1 (by simp; omega) (snoc v v0 v1) v0 v1 c1
      refine ⟨r, i', h', Ev.step (fun k => ?_) e, hq⟩
      simp only [spec_l11Rows.l1]
      rw [if_pos (by omega), e1]
      simp only [Option.bind_some]
      rw [if_neg (by simp), if_pos (by omega)]
theorem l11Rows_l0 (l : List Int) (m : Nat) (hm : m ≤ 1000) : ∀ (d n : Nat) (out : List (List Int)) (i h : Int), n + d = m → cur l i → out.length = n → (∀ r ∈ out, rowV r) →
    ∃ r i' h', Ev (fun k => spec_l11Rows.l0 k out m n l i h) (r, i', h') ∧ (r.length = m ∧ ∀ x ∈ r, rowV x)
  | 0, n, out, i, h, hd, hc, hl, ho => by
    refine ⟨out, i, h, Ev.step (f := fun _ => some (out, i, h)) (fun k => ?_) (Ev.now _), by omega, ho⟩
    simp only [spec_l11Rows.l0]
    rw [if_neg (by omega)]
  | d + 1, n, out, i, h, hd, hc, hl, ho => by
    obtain ⟨v, i1, h1, e1, c1, v0, v1⟩ := l01Below_ex h hc (n := 256) (by omega) (by omega)
    obtain ⟨r, i', h', e, hq⟩ := l11Rows_l1 l m n out (by omega) (fun r => r.length = m ∧ ∀ x ∈ r, rowV x) (fun row i2 h2 hr1 hr2 hc2 => by
      have := l11Rows_l0 l m hm d (n + 1) (out ++ [row]) i2 h2 (by omega) hc2 (by simp [hl]) (fun x hx => by
        rcases List.mem_append.1 hx with hx | hx
        · exact ho x hx
        · rw [List.mem_singleton.1 hx]
          exact ⟨hr1, fun j hj => hr2 _ (rd_mem2 row j hj)⟩)
      rw [wsucc (by omega)]
      exact this) 32 [] v i1 h1 rfl (by simp) v0 (by omega) c1
    refine ⟨r, i', h', Ev.step (fun k => ?_) e, hq⟩
    simp only [spec_l11Rows.l0]
    rw [if_pos (by omega), e1]
    rfl
theorem drawRows_ev (l : List Int) (hn : l.length ≤ 1099511627776) : ∃ r : List (List Int), Ev (fun k => spec_DrawRows.f k l) r ∧ r.length ≤ 6 ∧ ∀ x ∈ r, rowV x := by
  obtain ⟨h, e⟩ := l01New_ev l hn
  obtain ⟨m, i1, h1, e1, c1, m0, m1⟩ := l01Below_ex (l := l) (i := 0) h ⟨hn, by omega⟩ (n := 7) (by omega) (by omega)
  obtain ⟨r, i2, h2, e2, hl, hr⟩ := l11Rows_l0 l m.toNat (by omega) m.toNat 0 [] i1 h1 (by omega) c1 rfl (by simp)
  refine ⟨r, ?_, by omega, hr⟩
  unfold spec_DrawRows.f
  refine e.bind (Ev.bind (a := (r, i2, h2)) ?_ (Ev.now _))
  unfold spec_l11Rows.f
  rw [w64 (n := 6 + 1) (by omega) (by omega)]
  refine ev_eq e1 ?_
  rw [show ((m.toNat : Nat) : Int) = m by omega] at e2
  exact e2

theorem drawPlaces_l0 (l : List Int) : ∀ (d n : Nat) (ps : List Int) (i h : Int), n + d = 12 → cur l i → ps.length = n → (∀ x ∈ ps, 0 ≤ x ∧ x < 10000) →
    ∃ r : List Int, Ev (fun k => spec_DrawPlaces.l0 k ps n l i h) r ∧ r.length = 12 ∧ ∀ x ∈ r, 0 ≤ x ∧ x < 10000
  | 0, n, ps, i, h, hd, hc, hl, hp => by
    refine ⟨ps, Ev.step (f := fun _ => some ps) (fun k => ?_) (Ev.now _), by omega, hp⟩
    simp only [spec_DrawPlaces.l0]
    rw [if_neg (by omega)]
  | d + 1, n, ps, i, h, hd, hc, hl, hp => by
    obtain ⟨x, i1, h1, e, hc1, b0, b1⟩ := l01Below_ex h hc (n := 10000) (by omega) (by omega)
    obtain ⟨r, e2, e3⟩ := drawPlaces_l0 l d (n + 1) (ps ++ [x]) i1 h1 (by omega) hc1 (by simp; omega) (fun y hy => by
      rcases List.mem_append.1 hy with hy | hy
      · exact hp y hy
      · rw [List.mem_singleton.1 hy]
        exact ⟨b0, b1⟩)
    refine ⟨r, Ev.step (fun k => ?_) e2, e3⟩
    simp only [spec_DrawPlaces.l0]
    rw [if_pos (by omega), e]
    simp only [Option.bind_some]
    rw [if_pos (by omega), wsucc (by omega)]
theorem drawPlaces_ev (l : List Int) (hn : l.length ≤ 1099511627776) : ∃ r : List Int, Ev (fun k => spec_DrawPlaces.f k l) r ∧ r.length = 12 ∧ ∀ i : Nat, i < 12 → 0 ≤ rd r i ∧ rd r i < 10000 := by
  obtain ⟨h, e⟩ := l01New_ev l hn
  obtain ⟨r, e2, hl, hr⟩ := drawPlaces_l0 l 12 0 [] 0 h (by omega) ⟨hn, by omega⟩ rfl (by simp)
  refine ⟨r, ?_, hl, fun i hi => hr _ ?_⟩
  · unfold spec_DrawPlaces.f
    exact e.bind e2
  · rw [rd_nat, List.getD_eq_getElem?_getD, List.getElem?_eq_getElem (show i < r.length by omega)]
    simp

theorem upL_def (l : List Int) (i v : Int) : l.set i.toNat (rd l i + v) = upL l i v := rfl
/-- Nothing wraps in a step. -/
theorem dif_w {row carry : List Int} (h : difOk row carry) {x : Nat} (hx : x < 32) :
    wrap64 (rd row x + rd carry x) = rd row x + rd carry x ∧ wrap64 (rd row x + rd carry x + dP row carry x) = dT row carry x ∧ (-100000 ≤ dR row carry x ∧ dR row carry x ≤ 100000) ∧ wrap64 ((x : Int) - 1) = (x : Int) - 1 ∧
    wrap64 (rd (dC row carry x) (mx 0 ((x : Int) - 1)) + 3 * dR row carry x / 16) = rd (dC row carry x) (mx 0 ((x : Int) - 1)) + 3 * dR row carry x / 16 ∧
    wrap64 (rd (upL (dC row carry x) (mx 0 ((x : Int) - 1)) (3 * dR row carry x / 16)) x + 5 * dR row carry x / 16) = rd (upL (dC row carry x) (mx 0 ((x : Int) - 1)) (3 * dR row carry x / 16)) x + 5 * dR row carry x / 16 ∧
    wrap64 (rd (upL (upL (dC row carry x) (mx 0 ((x : Int) - 1)) (3 * dR row carry x / 16)) x (5 * dR row carry x / 16)) (mn 31 ((x : Int) + 1)) + dR row carry x / 16) = rd (upL (upL (dC row carry x) (mx 0 ((x : Int) - 1)) (3 * dR row carry x / 16)) x (5 * dR row carry x / 16)) (mn 31 ((x : Int) + 1)) + dR row carry x / 16 := by
  obtain ⟨hc, hr⟩ := h
  have h1 := hr.2 x (by rw [hr.1]; omega)
  have h2 := hc.2 x (by rw [hc.1]; omega)
  have hp := dP_in (by omega) hr hc x (by omega)
  have hR := dR_in (by omega) hr hc hx
  have hl := dC_length row carry x
  have m1 := mx_pre x
  have m2 := mn_post x
  have m3 := m1.2 hx
  have a0 := dC_in (by omega) hr hc x (by omega)
  have a1 := upL_in (V := 20000) a0 m1.1 (by rw [hl]; omega) (v := 3 * dR row carry x / 16) (by omega)
  have a2 := upL_in (V := 20000) (i := x) a1 (by omega) (by rw [upL_length, hl]; omega) (v := 5 * dR row carry x / 16) (by omega)
  have b0 := a0 (mx 0 ((x : Int) - 1)) m1.1
  have b1 := a1 x (by omega)
  have b2 := a2 (mn 31 ((x : Int) + 1)) m2.1
  refine ⟨w64 (by omega) (by omega), ?_, by omega, w64 (by omega) (by omega), w64 (by omega) (by omega), w64 (by omega) (by omega), w64 (by omega) (by omega)⟩
  unfold dT
  exact w64 (by omega) (by omega)
theorem dif_end {row carry : List Int} (h : difOk row carry) : wrap64 (rd (dC row carry 32) 31 + dP row carry 32) = rd (dC row carry 32) 31 + dP row carry 32 := by
  obtain ⟨hc, hr⟩ := h
  have hp := dP_in (by omega) hr hc 32 (by omega)
  have a0 := dC_in (by omega) hr hc 32 (by omega) 31 (by omega)
  exact w64 (by omega) (by omega)
theorem dC_succ (row carry : List Int) (x : Nat) : dC row carry (x + 1) = upL (upL (upL (dC row carry x) (mx 0 ((x : Int) - 1)) (3 * dR row carry x / 16)) x (5 * dR row carry x / 16)) (mn 31 ((x : Int) + 1)) (dR row carry x / 16) := rfl
theorem dP_succ (row carry : List Int) (x : Nat) : dP row carry (x + 1) = dR row carry x - 3 * dR row carry x / 16 - 5 * dR row carry x / 16 - dR row carry x / 16 := rfl
theorem dR_pos {row carry : List Int} {x : Nat} (c : dT row carry x ≥ 128) : dR row carry x = dT row carry x - 255 ∧ dB row carry x = 1 := by
  unfold dR dB dRest dBit
  rw [if_pos c, if_pos c]
  exact ⟨rfl, rfl⟩
theorem dR_neg {row carry : List Int} {x : Nat} (c : ¬ dT row carry x ≥ 128) : dR row carry x = dT row carry x ∧ dB row carry x = 0 := by
  unfold dR dB dRest dBit
  rw [if_neg c, if_neg c]
  exact ⟨rfl, rfl⟩
/-- What a step asks. -/
theorem dif_side {row carry : List Int} (h : difOk row carry) {x : Nat} (hx : x < 32) :
    (0 : Int) ≤ x ∧ (x : Int) < 32 ∧ (x : Int) < (row.length : Int) ∧ (x : Int) < (carry.length : Int) ∧ wrap64 ((x : Int) + 1) = (x : Int) + 1 ∧ 0 ≤ mx 0 ((x : Int) - 1) ∧ mx 0 ((x : Int) - 1) < ((dC row carry x).length : Int) ∧ (x : Int) < ((dC row carry x).length : Int) ∧ 0 ≤ mn 31 ((x : Int) + 1) ∧ mn 31 ((x : Int) + 1) < ((dC row carry x).length : Int) := by
  have hc := h.1.1
  have hr := h.2.1
  have hl := dC_length row carry x
  have m1 := mx_pre x
  have m3 := m1.2 hx
  have m2 := mn_post x
  exact ⟨by omega, by omega, by omega, by omega, w64 (by omega) (by omega), m1.1, by omega, by omega, m2.1, by omega⟩
theorem dif_rest {R : Int} (h : -100000 ≤ R ∧ R ≤ 100000) : wrap64 (R - 3 * R / 16) = R - 3 * R / 16 ∧ wrap64 (R - 3 * R / 16 - 5 * R / 16) = R - 3 * R / 16 - 5 * R / 16 ∧ wrap64 (R - 3 * R / 16 - 5 * R / 16 - R / 16) = R - 3 * R / 16 - 5 * R / 16 - R / 16 ∧ wrap64 (3 * R) = 3 * R ∧ wrap64 (5 * R) = 5 * R :=
  ⟨w64 (by omega) (by omega), w64 (by omega) (by omega), w64 (by omega) (by omega), w64 (by omega) (by omega), w64 (by omega) (by omega)⟩
theorem dif_rest2 {row carry : List Int} {x : Nat} (h : -100000 ≤ dR row carry x ∧ dR row carry x ≤ 100000) (c : dT row carry x ≥ 128) : wrap64 (dT row carry x - 255) = dR row carry x := by
  have e := (dR_pos c).1
  rw [e] at h ⊢
  exact w64 (by omega) (by omega)

theorem within_eq (a b c : Int) : impl_within.f a b c = some (decide (b ≤ a ∧ a ≤ c)) := by
  unfold impl_within.f
  by_cases h : a ≥ b
  · rw [if_pos h]
    simp [show b ≤ a from h]
  · rw [if_neg h]
    simp [show ¬ b ≤ a from h]

theorem impl_CarryOk_l0 (a : List Int) (hn : a.length = 32) :
    ∀ d i : Nat, i + d = a.length → (∀ j : Nat, j < i → -20000 ≤ rd a j ∧ rd a j ≤ 20000) → Ev (fun k => impl_CarryOk.l0 k a (a.length : Int) i) (decide (carV 20000 a))
  | 0, i, h, hj => by
    refine Ev.step (f := fun _ => some true) (fun k => ?_) ?_
    · simp only [impl_CarryOk.l0]
      rw [if_neg (by omega)]
    · rw [decide_eq_true (show carV 20000 a from ⟨hn, fun j h1 => hj j (by omega)⟩)]
      exact Ev.now _
  | d + 1, i, h, hj => by
    by_cases c : -20000 ≤ rd a i ∧ rd a i ≤ 20000
    · refine Ev.step (f := fun k => impl_CarryOk.l0 k a (a.length : Int) ((i + 1 : Nat) : Int)) (fun k => ?_) (impl_CarryOk_l0 a hn d (i + 1) (by omega) (fun j h1 => ?_))
      · simp only [impl_CarryOk.l0, within_eq, Option.bind_some]
        rw [if_pos (by omega), if_pos (by omega), if_pos (by omega), if_pos (decide_eq_true c), wsucc (by omega)]
      · by_cases e : j = i
        · subst e
          exact c
        · exact hj j (by omega)
    · refine Ev.step (f := fun _ => some false) (fun k => ?_) ?_
      · simp only [impl_CarryOk.l0, within_eq, Option.bind_some]
        rw [if_pos (by omega), if_pos (by omega), if_pos (by omega), if_neg (by simp only [decide_eq_true_eq]; exact c)]
      · rw [decide_eq_false (show ¬ carV 20000 a from fun h3 => c (h3.2 i (by omega)))]
        exact Ev.now _
theorem impl_CarryOk_ev (a : List Int) : Ev (fun k => impl_CarryOk.f k a) (decide (carV 20000 a)) := by
  unfold impl_CarryOk.f
  by_cases c : (a.length : Int) = 32
  · exact ev_pos c (impl_CarryOk_l0 a (by omega) a.length 0 (by omega) (fun j h => by omega))
  · rw [decide_eq_false (show ¬ carV 20000 a from fun h => by have := h.1; omega)]
    exact ev_neg c (Ev.now _)

theorem impl_rowV_l0 (a : List Int) (hn : a.length = 32) :
    ∀ d i : Nat, i + d = a.length → (∀ j : Nat, j < i → 0 ≤ rd a j ∧ rd a j ≤ 255) → Ev (fun k => impl_rowOk.l0 k a (a.length : Int) i) (decide (rowV a))
  | 0, i, h, hj => by
    refine Ev.step (f := fun _ => some true) (fun k => ?_) ?_
    · simp only [impl_rowOk.l0]
      rw [if_neg (by omega)]
    · rw [decide_eq_true (show rowV a from ⟨hn, fun j h1 => hj j (by omega)⟩)]
      exact Ev.now _
  | d + 1, i, h, hj => by
    by_cases c : 0 ≤ rd a i ∧ rd a i ≤ 255
    · refine Ev.step (f := fun k => impl_rowOk.l0 k a (a.length : Int) ((i + 1 : Nat) : Int)) (fun k => ?_) (impl_rowV_l0 a hn d (i + 1) (by omega) (fun j h1 => ?_))
      · simp only [impl_rowOk.l0, within_eq, Option.bind_some]
        rw [if_pos (by omega), if_pos (by omega), if_pos (by omega), if_pos (decide_eq_true c), wsucc (by omega)]
      · by_cases e : j = i
        · subst e
          exact c
        · exact hj j (by omega)
    · refine Ev.step (f := fun _ => some false) (fun k => ?_) ?_
      · simp only [impl_rowOk.l0, within_eq, Option.bind_some]
        rw [if_pos (by omega), if_pos (by omega), if_pos (by omega), if_neg (by simp only [decide_eq_true_eq]; exact c)]
      · rw [decide_eq_false (show ¬ rowV a from fun h3 => c (h3.2 i (by omega)))]
        exact Ev.now _
theorem impl_rowV_ev (a : List Int) : Ev (fun k => impl_rowOk.f k a) (decide (rowV a)) := by
  unfold impl_rowOk.f
  by_cases c : (a.length : Int) = 32
  · exact ev_pos c (impl_rowV_l0 a (by omega) a.length 0 (by omega) (fun j h => by omega))
  · rw [decide_eq_false (show ¬ rowV a from fun h => by have := h.1; omega)]
    exact ev_neg c (Ev.now _)

theorem down_eq {a : Int} (h : -1000000 ≤ a ∧ a ≤ 1000000) : impl_down.f a 16 = some (a / 16) := by
  unfold impl_down.f
  rw [if_neg (by omega)]
  by_cases c0 : 0 ≤ a
  · rw [td c0, tm c0, w64 (n := a / 16) (by omega) (by omega)]
    by_cases c1 : a % 16 = 0
    · rw [if_pos c1]
    · rw [if_neg c1, if_neg (by simp; omega)]
  · obtain ⟨n, rfl⟩ : ∃ n : Int, a = -n := ⟨-a, by omega⟩
    rw [Int.neg_tdiv, Int.neg_tmod, td (by omega), tm (by omega), w64 (n := -(n / 16)) (by omega) (by omega)]
    by_cases c1 : -(n % 16) = 0
    · rw [if_pos c1, show -(n / 16) = -n / 16 by omega]
    · rw [if_neg c1, if_pos (by simp; omega), w64 (by omega) (by omega), show -(n / 16) - 1 = -n / 16 by omega]
theorem impl_Dif_l0 (row carry : List Int) (h : difOk row carry) : ∀ d x : Nat, x + d = 32 → Ev (fun k => impl_DiffuseRow.l0 k carry (dP row carry x) row 32 x (dBits row carry x ++ List.replicate d 0) (dC row carry x)) (dBits row carry 32, dEnd row carry, true)
  | 0, x, hd => by
    obtain rfl : x = 32 := by omega
    refine Ev.step (f := fun _ => some (dBits row carry 32, dEnd row carry, true)) (fun k => ?_) (Ev.now _)
    have hl := dC_length row carry 32
    have de : (dC row carry 32).set (31 : Int).toNat (rd (dC row carry 32) 31 + dP row carry 32) = dEnd row carry := rfl
    simp only [impl_DiffuseRow.l0, dif_end h, List.replicate_zero, List.append_nil]
    rw [if_neg (by omega), if_pos (by omega)]
    first | done | rw [de]
  | d + 1, x, hd => by
    obtain ⟨w1, w2, hR, w4, u1, u2, u3⟩ := dif_w h (x := x) (by omega)
    obtain ⟨s0, s1, s2, s3, w5, s4, s5, s6, s7, s8⟩ := dif_side h (x := x) (by omega)
    obtain ⟨p1, p2, p3, v1, v2⟩ := dif_rest hR
    have d1 := down_eq (a := 3 * dR row carry x) (by clear u1 u2 u3 w1 w2 w4; omega)
    have d2 := down_eq (a := 5 * dR row carry x) (by clear u1 u2 u3 w1 w2 w4; omega)
    have d3 := down_eq (a := dR row carry x) (by clear u1 u2 u3 w1 w2 w4; omega)
    have ex : ((x + 1 : Nat) : Int) = (x : Int) + 1 := rfl
    have ih := impl_Dif_l0 row carry h d (x + 1) (by clear u1 u2 u3 w1 w2 w4; omega)
    rw [dBits_snoc, dC_succ, List.append_assoc, List.singleton_append, ex, dP_succ] at ih
    by_cases c : dT row carry x ≥ 128
    · have w3 := dif_rest2 hR c
      rw [(dR_pos c).2] at ih
      refine Ev.step (fun k => ?_) ih
      simp only [impl_DiffuseRow.l0, Option.bind_some, w1, w2, if_pos c, w3, w4, w5, v1, v2, d1, d2, d3, u1, upL_def, u2, u3, p1, p2, p3]
      rw [if_pos s1, if_pos s0, if_pos s2, if_pos s3, if_pos (by simp only [List.length_append, dBits_length, List.length_replicate]; clear u1 u2 u3 w1 w2 w4; omega), if_pos s4, if_pos s5, if_pos s6, if_pos s7, if_pos s8, List.replicate_succ, Int.toNat_natCast, set_mid _ _ _ _ _ (dBits_length _ _ _)]
    · have e1 := (dR_neg c).1
      rw [(dR_neg c).2] at ih
      refine Ev.step (fun k => ?_) ih
      rw [← e1] at w2
      have c' : ¬ dR row carry x ≥ 128 := by rw [e1]; exact c
      simp only [impl_DiffuseRow.l0, Option.bind_some, w1, w2, w4, w5, v1, v2, d1, d2, d3, u1, upL_def, u2, u3, p1, p2, p3]
      rw [if_pos s1, if_pos s0, if_pos s2, if_pos s3, if_neg c', if_pos s4, if_pos s5, if_pos s6, if_pos s7, if_pos s8, List.replicate_succ]
theorem impl_Dif_ev (row carry : List Int) : Ev (fun k => impl_DiffuseRow.f k row carry) (difV row carry) := by
  have stop : Ev (fun k => impl_DiffuseRow.j0 k row carry true) (([], [], false) : List Int × List Int × Bool) := by
    refine Ev.step (f := fun _ => some ([], [], false)) (fun k => ?_) (Ev.now _)
    simp only [impl_DiffuseRow.j0]
    rfl
  unfold impl_DiffuseRow.f difV
  refine (impl_CarryOk_ev carry).bind ?_
  by_cases c1 : carV 20000 carry
  · refine ev_pos (decide_eq_true c1) ((impl_rowV_ev row).bind ?_)
    by_cases c2 : rowV row
    · rw [if_pos (c := difOk row carry) ⟨c1, c2⟩, decide_eq_true c2]
      have e := impl_Dif_l0 row carry ⟨c1, c2⟩ 32 0 (by omega)
      refine Ev.step (fun k => ?_) e
      simp only [impl_DiffuseRow.j0]
      rw [c2.1]
      rfl
    · rw [if_neg (c := difOk row carry) (fun q => c2 q.2), decide_eq_false c2]
      exact stop
  · rw [if_neg (c := difOk row carry) (fun q => c1 q.1)]
    exact ev_neg (by simp [c1]) stop

/-- Rows that are diffused one after another. -/
def difGo : List (List Int) → List (List Int) → List Int → List (List Int) × List Int × Bool
  | [], out, now => (out, now, true)
  | r :: q, out, now => if difOk r now then difGo q (out ++ [dBits r now 32]) (dEnd r now) else ([], [], false)
theorem difGo_short : ∀ (q out : List (List Int)) (c : List Int), (∀ r ∈ out, r.length ≤ 32) → c.length ≤ 1048576 → (difGo q out c).1.length ≤ out.length + q.length ∧ (∀ r ∈ (difGo q out c).1, r.length ≤ 32) ∧ (difGo q out c).2.1.length ≤ 1048576
  | [], out, c, h, hc => ⟨by simp [difGo], by simpa [difGo] using h, by simpa [difGo] using hc⟩
  | r :: q, out, c, h, hc => by
    by_cases ok : difOk r c
    · have e : difGo (r :: q) out c = difGo q (out ++ [dBits r c 32]) (dEnd r c) := by simp only [difGo]; rw [if_pos ok]
      rw [e]
      have ih := difGo_short q (out ++ [dBits r c 32]) (dEnd r c) (fun s hs => by
        rcases List.mem_append.1 hs with hs | hs
        · exact h s hs
        · rw [List.mem_singleton.1 hs, dBits_length]
          omega) (by rw [dEnd_length]; omega)
      refine ⟨?_, ih.2⟩
      have := ih.1
      simp only [List.length_append, List.length_cons, List.length_nil] at this ⊢
      omega
    · have e : difGo (r :: q) out c = ([], [], false) := by simp only [difGo]; rw [if_neg ok]
      rw [e]
      simp

theorem impl_DifRows_l0 (m : List (List Int)) (hm : m.length ≤ 1048576) : ∀ (q p out : List (List Int)) (c : List Int), m = p ++ q → out.length = p.length → Ev (fun k => impl_DiffuseRows.l0 k c out m (m.length : Int) (p.length : Nat)) (difGo q out c)
  | [], p, out, c, h, ho => by
    subst h
    refine Ev.step (f := fun _ => some (out, c, true)) (fun k => ?_) (Ev.now _)
    simp only [impl_DiffuseRows.l0, List.append_nil]
    rw [if_neg (by omega)]
  | r :: q, p, out, c, h, ho => by
    have hl : m.length = p.length + (q.length + 1) := by rw [h]; simp
    have e : rd_L2 m (p.length : Nat) = r := by rw [h]; exact rows_mid p q r _ rfl
    have hd := impl_Dif_ev r c
    unfold difV at hd
    by_cases ok : difOk r c
    · rw [if_pos ok] at hd
      have ih := impl_DifRows_l0 m hm q (p ++ [r]) (out ++ [dBits r c 32]) (dEnd r c) (by rw [h]; simp) (by simp [ho])
      rw [show difGo (r :: q) out c = difGo q (out ++ [dBits r c 32]) (dEnd r c) by simp only [difGo]; rw [if_pos ok]]
      generalize dBits r c 32 = u at hd ih ⊢
      generalize dEnd r c = v at hd ih ⊢
      generalize difGo q (out ++ [u]) v = V at ih ⊢
      refine Ev.step (f := fun k => (impl_DiffuseRow.f k r c).bind fun t => if t.2.2 = true then impl_DiffuseRows.l0 k t.2.1 (out ++ [t.1]) m (m.length : Int) ((p ++ [r]).length : Nat) else some ([], [], false)) (fun k => ?_) (hd.bind (ev_pos (c := (true : Bool) = true) rfl ih))
      simp only [impl_DiffuseRows.l0]
      rw [if_pos (by omega), if_pos (by omega), if_pos (by omega), e, wsucc (by omega)]
      simp only [if_pos (show out.length < 5864062014805 by omega), List.length_append, List.length_cons, List.length_nil]
    · rw [if_neg ok] at hd
      rw [show difGo (r :: q) out c = ([], [], false) by simp only [difGo]; rw [if_neg ok]]
      refine Ev.step (f := fun k => (impl_DiffuseRow.f k r c).bind fun t => if t.2.2 = true then impl_DiffuseRows.l0 k t.2.1 (out ++ [t.1]) m (m.length : Int) ((p ++ [r]).length : Nat) else some ([], [], false)) (fun k => ?_) (hd.bind (ev_neg (c := (false : Bool) = true) Bool.false_ne_true (Ev.now _)))
      simp only [impl_DiffuseRows.l0]
      rw [if_pos (by omega), if_pos (by omega), if_pos (by omega), e, wsucc (by omega)]
      simp only [if_pos (show out.length < 5864062014805 by omega), List.length_append, List.length_cons, List.length_nil]
theorem impl_DifRows_ev (m : List (List Int)) (c : List Int) (hm : m.length ≤ 1048576) (hc : c.length ≤ 1048576) : Ev (fun k => impl_DiffuseRows.f k m c) (difGo m [] c) := by
  have e : slices_Clone_int_int.f c = some c := by
    unfold slices_Clone_int_int.f
    rw [if_pos (by omega)]
  have := impl_DifRows_l0 m hm m [] [] c rfl rfl
  unfold impl_DiffuseRows.f
  rw [e]
  exact this

/-! The carry's bounds, finely: a carry within B gives a carry within 2 * B + 300. -/
theorem dC_zero (row carry : List Int) (j : Int) : rd (dC row carry 0) j = 0 := by
  simp only [dC, rd, List.getD_eq_getElem?_getD, List.getElem?_replicate]
  split <;> rfl
theorem rd_upL2 (l : List Int) (i v j : Int) (hi : 0 ≤ i) (hl : i < l.length) (hj : 0 ≤ j) : rd (upL l i v) j = rd l j + if j = i then v else 0 := by
  rw [rd_upL l i v j hi hl hj]
  by_cases c : j = i
  · rw [if_pos c, if_pos c, c]
  · rw [if_neg c, if_neg c, Int.add_zero]
theorem fine_step {B R cj j x : Int} (hB : 0 ≤ B) (hR : -(2 * B + 232) ≤ R ∧ R ≤ 2 * B + 232) (hx : 0 ≤ x ∧ x ≤ 31 ∧ 0 ≤ j ∧ j < 32) (i1 : j + 1 < x → -(2 * B + 300) ≤ cj ∧ cj ≤ 2 * B + 300) (i2 : j + 1 = x → -(B + 118) ≤ cj ∧ cj ≤ B + 118) (i3 : j = x → -(B + 128) ≤ 8 * cj ∧ 8 * cj ≤ B + 128) (i4 : j > x → cj = 0) (z : x = 0 → cj = 0) :
    (j + 1 < x + 1 → -(2 * B + 300) ≤ cj + (if j + 1 = x ∨ (j = 0 ∧ x = 0) then 3 * R / 16 else 0) + (if j = x then 5 * R / 16 else 0) + (if j = x + 1 ∨ (j = 31 ∧ x = 31) then R / 16 else 0) ∧ cj + (if j + 1 = x ∨ (j = 0 ∧ x = 0) then 3 * R / 16 else 0) + (if j = x then 5 * R / 16 else 0) + (if j = x + 1 ∨ (j = 31 ∧ x = 31) then R / 16 else 0) ≤ 2 * B + 300) ∧
    (j + 1 = x + 1 → -(B + 118) ≤ cj + (if j + 1 = x ∨ (j = 0 ∧ x = 0) then 3 * R / 16 else 0) + (if j = x then 5 * R / 16 else 0) + (if j = x + 1 ∨ (j = 31 ∧ x = 31) then R / 16 else 0) ∧ cj + (if j + 1 = x ∨ (j = 0 ∧ x = 0) then 3 * R / 16 else 0) + (if j = x then 5 * R / 16 else 0) + (if j = x + 1 ∨ (j = 31 ∧ x = 31) then R / 16 else 0) ≤ B + 118) ∧
    (j = x + 1 → -(B + 128) ≤ 8 * (cj + (if j + 1 = x ∨ (j = 0 ∧ x = 0) then 3 * R / 16 else 0) + (if j = x then 5 * R / 16 else 0) + (if j = x + 1 ∨ (j = 31 ∧ x = 31) then R / 16 else 0)) ∧ 8 * (cj + (if j + 1 = x ∨ (j = 0 ∧ x = 0) then 3 * R / 16 else 0) + (if j = x then 5 * R / 16 else 0) + (if j = x + 1 ∨ (j = 31 ∧ x = 31) then R / 16 else 0)) ≤ B + 128) ∧
    (j > x + 1 → cj + (if j + 1 = x ∨ (j = 0 ∧ x = 0) then 3 * R / 16 else 0) + (if j = x then 5 * R / 16 else 0) + (if j = x + 1 ∨ (j = 31 ∧ x = 31) then R / 16 else 0) = 0) := by
  have k : j + 1 < x ∨ j + 1 = x ∨ j = x ∨ j = x + 1 ∨ j > x + 1 := by omega
  rcases k with k | k | k | k | k
  · have a := i1 k
    rw [if_neg (c := j + 1 = x ∨ _) (by omega), if_neg (c := j = x) (by omega), if_neg (c := j = x + 1 ∨ _) (by omega)]
    omega
  · have a := i2 k
    rw [if_pos (c := j + 1 = x ∨ _) (by omega), if_neg (c := j = x) (by omega), if_neg (c := j = x + 1 ∨ _) (by omega)]
    omega
  · have a := i3 k
    rw [if_pos (c := j = x) k]
    clear i1 i2 i3 i4
    by_cases k0 : x = 0
    · have b := z k0
      rw [if_pos (c := j + 1 = x ∨ _) (by omega), if_neg (c := j = x + 1 ∨ _) (by omega)]
      omega
    · rw [if_neg (c := j + 1 = x ∨ _) (by omega)]
      split <;> omega
  · have a := i4 (by omega)
    rw [if_neg (c := j + 1 = x ∨ _) (by omega), if_neg (c := j = x) (by omega), if_pos (c := j = x + 1 ∨ _) (by omega)]
    omega
  · have a := i4 (by omega)
    rw [if_neg (c := j + 1 = x ∨ _) (by omega), if_neg (c := j = x) (by omega), if_neg (c := j = x + 1 ∨ _) (by omega)]
    omega
theorem dC_fine {row carry : List Int} {B : Int} (hB : 0 ≤ B) (hr : rowV row) (hc : carV B carry) : ∀ x : Nat, x ≤ 32 → ∀ j : Int, 0 ≤ j → j < 32 →
    (j + 1 < x → -(2 * B + 300) ≤ rd (dC row carry x) j ∧ rd (dC row carry x) j ≤ 2 * B + 300) ∧ (j + 1 = x → -(B + 118) ≤ rd (dC row carry x) j ∧ rd (dC row carry x) j ≤ B + 118) ∧
    (j = x → -(B + 128) ≤ 8 * rd (dC row carry x) j ∧ 8 * rd (dC row carry x) j ≤ B + 128) ∧ (j > x → rd (dC row carry x) j = 0)
  | 0, _, j, hj, _ => by
    rw [dC_zero]
    refine ⟨fun h => ?_, fun h => ?_, fun h => ?_, fun h => rfl⟩ <;> omega
  | x + 1, h, j, hj, hj2 => by
    have hR := dR_in hB hr hc (x := x) (by omega)
    have hl := dC_length row carry x
    have m1 := mx_pre x
    have m2 := mn_post x
    have m3 := m1.2 (by omega)
    have ih := dC_fine hB hr hc x (by omega)
    have i1 := ih j hj hj2
    have e : rd (dC row carry (x + 1)) j = rd (upL (upL (upL (dC row carry x) (mx 0 ((x : Int) - 1)) (3 * dR row carry x / 16)) x (5 * dR row carry x / 16)) (mn 31 ((x : Int) + 1)) (dR row carry x / 16)) j := rfl
    rw [e, rd_upL2 _ _ _ _ m2.1 (by rw [upL_length, upL_length, hl]; exact m2.2) hj, rd_upL2 _ _ _ _ (by omega) (by rw [upL_length, hl]; omega) hj, rd_upL2 _ _ _ _ m1.1 (by rw [hl]; exact m3) hj]
    have z : x = 0 → rd (dC row carry x) j = 0 := fun h => by
      subst h
      exact dC_zero row carry j
    clear ih e hr hc m1 m2 m3 hl
    generalize rd (dC row carry x) j = cj at *
    generalize dR row carry x = R at *
    unfold mx mn
    have a1 : (if j = (if (0 : Int) < (x : Int) - 1 then (x : Int) - 1 else 0) then 3 * R / 16 else 0) = if j + 1 = x ∨ (j = 0 ∧ (x : Int) = 0) then 3 * R / 16 else 0 := by
      split <;> split <;> split <;> omega
    have a2 : (if j = (if (x : Int) + 1 < 31 then (x : Int) + 1 else 31) then R / 16 else 0) = if j = x + 1 ∨ (j = 31 ∧ (x : Int) = 31) then R / 16 else 0 := by
      split <;> split <;> split <;> omega
    rw [a1, a2]
    clear a1 a2
    obtain ⟨i1, i2, i3, i4⟩ := i1
    rw [show ((x + 1 : Nat) : Int) = (x : Int) + 1 by omega]
    exact fine_step hB hR (by omega) i1 i2 i3 i4 (fun q => z (by omega))
theorem dEnd_in {row carry : List Int} {B : Int} (hB : 0 ≤ B) (hr : rowV row) (hc : carV B carry) : carV (2 * B + 300) (dEnd row carry) := by
  refine ⟨dEnd_length row carry, fun i hi => ?_⟩
  rw [dEnd_length] at hi
  have hp := dP_in hB hr hc 32 (by omega)
  have f1 := dC_fine hB hr hc 32 (by omega) i (by omega) (by omega)
  have f2 := dC_fine hB hr hc 32 (by omega) 31 (by omega) (by omega)
  unfold dEnd
  rw [rd_upL _ _ _ _ (by omega) (by rw [dC_length]; omega) (by omega)]
  generalize rd (dC row carry 32) i = c1 at *
  generalize rd (dC row carry 32) 31 = c2 at *
  generalize dP row carry 32 = p at *
  split <;> omega
theorem carV_mono {B C : Int} (h : B ≤ C) {c : List Int} (hc : carV B c) : carV C c := ⟨hc.1, fun i hi => by have := hc.2 i hi; omega⟩
/-- What a carry is within, after n rows from none. -/
def bnd : Nat → Int
  | 0 => 0
  | n + 1 => 2 * bnd n + 300
theorem bnd_pos : ∀ n, 0 ≤ bnd n
  | 0 => by simp [bnd]
  | n + 1 => by
    have := bnd_pos n
    simp only [bnd]
    omega
theorem bnd_six {n : Nat} (h : n ≤ 6) : bnd n ≤ 20000 := by
  have e : n = 0 ∨ n = 1 ∨ n = 2 ∨ n = 3 ∨ n = 4 ∨ n = 5 ∨ n = 6 := by omega
  rcases e with rfl | rfl | rfl | rfl | rfl | rfl | rfl <;> decide
theorem noCar : carV 0 (List.replicate 32 0) := by
  refine ⟨by simp, fun i hi => ?_⟩
  have : rd (List.replicate 32 0) i = 0 := by
    simp only [rd, List.getD_eq_getElem?_getD, List.getElem?_replicate]
    split <;> rfl
  rw [this]
  omega

def difB : List (List Int) → List Int → List (List Int)
  | [], _ => []
  | r :: q, c => dBits r c 32 :: difB q (dEnd r c)
def difE : List (List Int) → List Int → List Int
  | [], c => c
  | r :: q, c => difE q (dEnd r c)
theorem difB_length : ∀ (q : List (List Int)) (c : List Int), (difB q c).length = q.length
  | [], _ => rfl
  | r :: q, c => by simp [difB, difB_length q]
theorem difB_append : ∀ (p q : List (List Int)) (c : List Int), difB (p ++ q) c = difB p c ++ difB q (difE p c)
  | [], _, _ => rfl
  | r :: p, q, c => by simp [difB, difE, difB_append p q]
theorem difE_append : ∀ (p q : List (List Int)) (c : List Int), difE (p ++ q) c = difE q (difE p c)
  | [], _, _ => rfl
  | r :: p, q, c => by simp [difE, difE_append p q]
/-- Few rows from a small carry: all is well. -/
theorem difGo_ok : ∀ (q out : List (List Int)) (c : List Int) (n : Nat), (∀ r ∈ q, rowV r) → carV (bnd n) c → n + q.length ≤ 6 → difGo q out c = (out ++ difB q c, difE q c, true) ∧ carV (bnd (n + q.length)) (difE q c)
  | [], out, c, n, _, hc, _ => by
    simp only [difGo, difB, difE, List.append_nil, List.length_nil, Nat.add_zero]
    exact ⟨trivial, hc⟩
  | r :: q, out, c, n, hr, hc, hn => by
    simp only [List.length_cons] at hn
    have h1 := hr r List.mem_cons_self
    have ok : difOk r c := ⟨carV_mono (bnd_six (by omega)) hc, h1⟩
    have hE : carV (bnd (n + 1)) (dEnd r c) := dEnd_in (bnd_pos n) h1 hc
    have ih := difGo_ok q (out ++ [dBits r c 32]) (dEnd r c) (n + 1) (fun r hr2 => hr r (List.mem_cons_of_mem _ hr2)) hE (by omega)
    refine ⟨?_, ?_⟩
    · simp only [difGo]
      rw [if_pos ok, ih.1]
      simp [difB, difE]
    · have e : n + (r :: q).length = n + 1 + q.length := by simp only [List.length_cons]; omega
      rw [e]
      exact ih.2
/-! Sums. -/
def psum (f : Nat → Int) : Nat → Int
  | 0 => 0
  | n + 1 => psum f n + f n
theorem psum_congr {f g : Nat → Int} : ∀ n, (∀ i, i < n → f i = g i) → psum f n = psum g n
  | 0, _ => rfl
  | n + 1, h => by
    simp only [psum]
    rw [psum_congr n (fun i hi => h i (by omega)), h n (by omega)]
theorem psum_in {f : Nat → Int} {M : Int} : ∀ n : Nat, (∀ i, i < n → -M ≤ f i ∧ f i ≤ M) → -(M * n) ≤ psum f n ∧ psum f n ≤ M * n
  | 0, _ => by simp [psum]
  | n + 1, h => by
    have ih := psum_in n (fun i hi => h i (by omega))
    have h1 := h n (by omega)
    have e : M * ((n + 1 : Nat) : Int) = M * n + M := by rw [Int.natCast_add, Int.mul_add]; simp
    rw [e]
    simp only [psum]
    omega
/-- The sum of a list of 32. -/
def sum32 (l : List Int) : Int := psum (fun i => rd l i) 32
theorem psum_up (l : List Int) (i v : Int) (hi : 0 ≤ i) (hl : i < l.length) : ∀ n : Nat, psum (fun j => rd (upL l i v) j) n = psum (fun j => rd l j) n + (if i < n then v else 0)
  | 0 => by
    simp only [psum]
    rw [if_neg (by omega)]
    rfl
  | n + 1 => by
    have ih := psum_up l i v hi hl n
    simp only [psum]
    rw [ih, rd_upL l i v n hi hl (by omega)]
    by_cases c : (n : Int) = i
    · subst c
      rw [if_pos rfl, if_neg (by omega), if_pos (by omega)]
      omega
    · rw [if_neg c]
      by_cases c2 : i < (n : Int)
      · rw [if_pos c2, if_pos (by omega)]
        omega
      · rw [if_neg c2, if_neg (by omega)]
        omega
theorem sum32_up (l : List Int) (i v : Int) (hi : 0 ≤ i) (h2 : i < 32) (hl : l.length = 32) : sum32 (upL l i v) = sum32 l + v := by
  unfold sum32
  rw [psum_up l i v hi (by omega) 32, if_pos (by omega)]
theorem dR_bit (row carry : List Int) (x : Nat) : dR row carry x = dT row carry x - 255 * dB row carry x := by
  unfold dR dB dRest dBit
  split <;> omega
theorem dC_sum (row carry : List Int) : ∀ x : Nat, x ≤ 32 → psum (fun i => rd row i) x + psum (fun i => rd carry i) x = 255 * psum (dB row carry) x + sum32 (dC row carry x) + dP row carry x
  | 0, _ => by
    have e : sum32 (dC row carry 0) = 0 := by
      unfold sum32
      rw [psum_congr (g := fun _ => 0) 32 (fun i _ => dC_zero row carry i)]
      decide
    rw [e]
    simp [psum, dP]
  | x + 1, h => by
    have ih := dC_sum row carry x (by omega)
    have hl := dC_length row carry x
    have m1 := mx_pre x
    have m2 := mn_post x
    have e : dC row carry (x + 1) = upL (upL (upL (dC row carry x) (mx 0 ((x : Int) - 1)) (3 * dR row carry x / 16)) x (5 * dR row carry x / 16)) (mn 31 ((x : Int) + 1)) (dR row carry x / 16) := rfl
    have e2 : dP row carry (x + 1) = dR row carry x - 3 * dR row carry x / 16 - 5 * dR row carry x / 16 - dR row carry x / 16 := rfl
    have e3 := dR_bit row carry x
    have e4 : dT row carry x = rd row x + rd carry x + dP row carry x := rfl
    rw [e, e2, sum32_up _ _ _ m2.1 m2.2 (by rw [upL_length, upL_length, hl]), sum32_up _ _ _ (by omega) (by omega) (by rw [upL_length, hl]), sum32_up _ _ _ m1.1 (m1.2 (by omega)) hl]
    simp only [psum]
    generalize 3 * dR row carry x / 16 = u1
    generalize 5 * dR row carry x / 16 = u2
    generalize dR row carry x / 16 = u3
    omega
theorem dBits_get (row carry : List Int) {x n : Nat} (h : x < n) : rd (dBits row carry n) x = dB row carry x := by
  rw [rd_nat, List.getD_eq_getElem?_getD, List.getElem?_eq_getElem (by rw [dBits_length]; exact h)]
  simp [dBits]
theorem dEnd_sum (row carry : List Int) : sum32 row + sum32 carry = 255 * sum32 (dBits row carry 32) + sum32 (dEnd row carry) := by
  have h := dC_sum row carry 32 (by omega)
  have e : sum32 (dBits row carry 32) = psum (dB row carry) 32 := psum_congr 32 (fun i hi => dBits_get row carry hi)
  rw [e, dEnd, sum32_up _ _ _ (by omega) (by omega) (dC_length row carry 32)]
  unfold sum32 at *
  omega
theorem dB_in (row carry : List Int) (x : Nat) : dB row carry x = 0 ∨ dB row carry x = 1 := by
  unfold dB dBit
  split <;> omega
def rsum : List (List Int) → Int
  | [] => 0
  | r :: q => sum32 r + rsum q
theorem difAll_sum : ∀ (q : List (List Int)) (c : List Int), rsum q + sum32 c = 255 * rsum (difB q c) + sum32 (difE q c)
  | [], c => by simp [rsum, difB, difE]
  | r :: q, c => by
    have h := dEnd_sum r c
    have ih := difAll_sum q (dEnd r c)
    simp only [rsum, difB, difE]
    omega

theorem impl_SumOf_l0 (a : List Int) (ha : a.length = 32) (hb : ∀ i : Nat, i < 32 → -20000 ≤ rd a i ∧ rd a i ≤ 20000) : ∀ d i : Nat, i + d = 32 → Ev (fun k => impl_SumOf.l0 k (psum (fun j => rd a j) i) a (a.length : Int) i) (sum32 a)
  | 0, i, h => by
    obtain rfl : i = 32 := by omega
    refine Ev.step (f := fun _ => some (sum32 a)) (fun k => ?_) (Ev.now _)
    simp only [impl_SumOf.l0]
    rw [if_neg (by omega)]
    rfl
  | d + 1, i, h => by
    have b := psum_in (f := fun j => rd a j) (M := 20000) i (fun j hj => hb j (by omega))
    have c := hb i (by omega)
    refine Ev.step (fun k => ?_) (impl_SumOf_l0 a ha hb d (i + 1) (by omega))
    simp only [impl_SumOf.l0]
    rw [if_pos (by omega), if_pos (by omega), if_pos (by omega), wsucc (by omega), w64 (by omega) (by omega)]
    rfl
theorem impl_SumOf_ev (a : List Int) (ha : a.length = 32) (hb : ∀ i : Nat, i < 32 → -20000 ≤ rd a i ∧ rd a i ≤ 20000) : Ev (fun k => impl_SumOf.f k a) (sum32 a) := by
  have := impl_SumOf_l0 a ha hb 32 0 (by omega)
  unfold impl_SumOf.f
  exact this
theorem sum32_in {a : List Int} {M : Int} (hb : ∀ i : Nat, i < 32 → -M ≤ rd a i ∧ rd a i ≤ M) : -(M * 32) ≤ sum32 a ∧ sum32 a ≤ M * 32 := psum_in 32 hb
def bitRow (a : List Int) : Prop := a.length = 32 ∧ ∀ i : Nat, i < 32 → rd a i = 0 ∨ rd a i = 1
theorem difB_bits : ∀ (q : List (List Int)) (c : List Int), ∀ r ∈ difB q c, bitRow r
  | [], _, r, h => by simp [difB] at h
  | s :: q, c, r, h => by
    simp only [difB, List.mem_cons] at h
    rcases h with h | h
    · subst h
      exact ⟨dBits_length _ _ _, fun i hi => by rw [dBits_get _ _ hi]; exact dB_in _ _ _⟩
    · exact difB_bits q _ r h

theorem slicesEqual_l0 (a : List Int) (hn : a.length ≤ 1099511627776) : ∀ d i : Nat, i + d = a.length → Ev (fun k => slices_Equal_int_int.l0 k a a (a.length : Int) i) true
  | 0, i, h => by
    refine Ev.step (f := fun _ => some true) (fun k => ?_) (Ev.now _)
    simp only [slices_Equal_int_int.l0]
    rw [if_neg (by omega)]
  | d + 1, i, h => by
    refine Ev.step (fun k => ?_) (slicesEqual_l0 a hn d (i + 1) (by omega))
    simp only [slices_Equal_int_int.l0]
    rw [if_pos (by omega), if_pos (by omega), if_pos (by omega), if_pos (by omega), if_pos trivial, wsucc (by omega)]
theorem slicesEqual_ev (a : List Int) (hn : a.length ≤ 1099511627776) : Ev (fun k => impl_SameRows_f.f k a a) true := by
  unfold impl_SameRows_f.f slices_Equal_int_int.f
  exact Ev.bind (a := true) (ev_pos rfl (slicesEqual_l0 a hn a.length 0 (by omega))) (Ev.now _)
theorem sameRows_l0 (m : List (List Int)) (hs : small m) : ∀ d i : Nat, i + d = m.length → Ev (fun k => slices_EqualFunc_SameRows.l0 k m m (m.length : Int) i) true
  | 0, i, h => by
    refine Ev.step (f := fun _ => some true) (fun k => ?_) (Ev.now _)
    simp only [slices_EqualFunc_SameRows.l0]
    rw [if_neg (by omega)]
  | d + 1, i, h => by
    have h1 := hs.1
    have h2 := hs.2 i (by omega)
    refine Ev.step (f := fun k => (impl_SameRows_f.f k (rd_L2 m i) (rd_L2 m i)).bind fun t => if t = true then slices_EqualFunc_SameRows.l0 k m m (m.length : Int) ((i + 1 : Nat) : Int) else some false) (fun k => ?_) ((slicesEqual_ev _ h2).bind (ev_pos rfl (sameRows_l0 m hs d (i + 1) (by omega))))
    simp only [slices_EqualFunc_SameRows.l0]
    rw [if_pos (by omega), if_pos (by omega), if_pos (by omega), if_pos (by omega), wsucc (by omega)]
theorem sameRows_ev (m : List (List Int)) (hs : small m) : Ev (fun k => impl_SameRows.f k m m) true := by
  unfold impl_SameRows.f slices_EqualFunc_SameRows.f
  exact Ev.bind (a := true) (ev_pos rfl (sameRows_l0 m hs m.length 0 (by omega))) (Ev.now _)

theorem sameInts_l0 (a : List Int) (hn : a.length ≤ 1099511627776) :
    ∀ d i : Nat, i + d = a.length → Ev (fun k => laws_sameInts.l0 k a a i) true
  | 0, i, h => by
    refine Ev.step (f := fun _ => some true) (fun k => ?_) (Ev.now _)
    simp only [laws_sameInts.l0]
    rw [if_neg (by omega)]
  | d + 1, i, h => by
    refine Ev.step (f := fun k => laws_sameInts.l0 k a a ((i + 1 : Nat) : Int)) (fun k => ?_) (sameInts_l0 a hn d (i + 1) (by omega))
    simp only [laws_sameInts.l0]
    rw [if_pos (by omega), if_pos (by omega), if_pos (by omega), if_pos trivial, wsucc (by omega)]
theorem sameInts_ev (a : List Int) (hn : a.length ≤ 1099511627776) : Ev (fun k => laws_sameInts.f k a a) true := by
  unfold laws_sameInts.f
  exact ev_pos rfl (sameInts_l0 a hn a.length 0 (by omega))

theorem white0_ev : Ev (fun k => spec_White0.f k) (List.replicate 32 255) :=
  Ev.of (fun k => spec_White0.mono k) (k := 60) (by decide +kernel)
theorem white_row : rowV (List.replicate 32 255) := by decide +kernel
theorem white_bits : sum32 (dBits (List.replicate 32 255) (List.replicate 32 0) 32) = 32 := by decide +kernel
theorem difB_row : ∀ (q : List (List Int)) (c : List Int), ∀ r ∈ difB q c, r.length = 32
  | [], _, r, h => by simp [difB] at h
  | s :: q, c, r, h => by
    simp only [difB, List.mem_cons] at h
    rcases h with h | h
    · rw [h, dBits_length]
    · exact difB_row q _ r h
theorem FnDiffusion : laws_FnDiffusion.Pure := by
  intro l hm hb hw
  refine Ev.rounds ?_
  unfold laws_FnDiffusion.f
  refine ev_eq (g := laws_big.f l) rfl ?_
  by_cases hl : (l.length : Int) > 1048576
  · exact ev_pos (decide_eq_true hl) (Ev.now _)
  refine ev_neg (by simpa using hl) ?_
  obtain ⟨r, e, hn, hr⟩ := drawRows_ev l (by omega)
  obtain ⟨p, ep, hp, hpi⟩ := drawPlaces_ev l (by omega)
  have g0 := hpi 0 (by omega)
  have hz : impl_NoCarry.f = some (List.replicate 32 0) := by
    unfold impl_NoCarry.f
    rw [if_pos (by omega)]
  have w1 : wrap64 ((r.length : Int) + 1) = ((r.length + 1 : Nat) : Int) := wsucc (by omega)
  obtain ⟨m, hm1, hm2⟩ : ∃ m : Nat, Int.tmod (rd p 0) ((r.length + 1 : Nat) : Int) = (m : Int) ∧ m ≤ r.length := by
    have t : Int.tmod (rd p 0) ((r.length + 1 : Nat) : Int) = rd p 0 % ((r.length + 1 : Nat) : Int) := tm g0.1 _
    have b0 := Int.emod_nonneg (rd p 0) (b := ((r.length + 1 : Nat) : Int)) (by omega)
    have b1 := Int.emod_lt_of_pos (rd p 0) (b := ((r.length + 1 : Nat) : Int)) (by omega)
    refine ⟨(rd p 0 % ((r.length + 1 : Nat) : Int)).toNat, by rw [t]; omega, by omega⟩
  have hsplit : r.take m ++ r.drop m = r := List.take_append_drop m r
  -- at once
  have e1 := impl_DifRows_ev r (List.replicate 32 0) (by omega) (by simp)
  obtain ⟨ok1, hc1⟩ := difGo_ok r [] (List.replicate 32 0) 0 hr (by exact noCar) (by omega)
  rw [ok1, List.nil_append] at e1
  -- the first part
  have lt : (r.take m).length = m := by rw [List.length_take]; omega
  have ld : (r.drop m).length = r.length - m := List.length_drop
  have e2 := impl_DifRows_ev (r.take m) (List.replicate 32 0) (by omega) (by simp)
  obtain ⟨ok2, hc2⟩ := difGo_ok (r.take m) [] (List.replicate 32 0) 0 (fun x hx => hr x (List.mem_of_mem_take hx)) (by exact noCar) (by omega)
  rw [ok2, List.nil_append] at e2
  rw [Nat.zero_add, lt] at hc2
  -- the second
  have e3 := impl_DifRows_ev (r.drop m) (difE (r.take m) (List.replicate 32 0)) (by omega) (by rw [hc2.1]; omega)
  obtain ⟨ok3, hc3⟩ := difGo_ok (r.drop m) [] (difE (r.take m) (List.replicate 32 0)) m (fun x hx => hr x (List.mem_of_mem_drop hx)) hc2 (by omega)
  rw [ok3, List.nil_append] at e3
  have hB : difB (r.take m) (List.replicate 32 0) ++ difB (r.drop m) (difE (r.take m) (List.replicate 32 0)) = difB r (List.replicate 32 0) := by rw [← difB_append, hsplit]
  have hE : difE (r.drop m) (difE (r.take m) (List.replicate 32 0)) = difE r (List.replicate 32 0) := by rw [← difE_append, hsplit]
  rw [hE] at e3
  have lB := difB_length r (List.replicate 32 0)
  have l2 := difB_length (r.take m) (List.replicate 32 0)
  have l3 := difB_length (r.drop m) (difE (r.take m) (List.replicate 32 0))
  have hBs : small (difB r (List.replicate 32 0)) := ⟨by omega, fun j hj => by
    rw [rows_mem hj, difB_row r _ _ (List.getElem_mem hj)]
    omega⟩
  rw [Nat.zero_add] at hc1
  -- the white row
  have e4 := impl_Dif_ev (List.replicate 32 255) (List.replicate 32 0)
  have ok4 : difOk (List.replicate 32 255) (List.replicate 32 0) := ⟨carV_mono (by omega) noCar, white_row⟩
  unfold difV at e4
  rw [if_pos ok4] at e4
  have e5 := impl_SumOf_ev (dBits (List.replicate 32 255) (List.replicate 32 0) 32) (dBits_length _ _ _) (fun i hi => by
    have := dB_in (List.replicate 32 255) (List.replicate 32 0) i
    rw [dBits_get _ _ hi]
    omega)
  rw [white_bits] at e5
  have sr := sameRows_ev (difB r (List.replicate 32 0)) hBs
  have si := sameInts_ev (difE r (List.replicate 32 0)) (by rw [hc1.1]; omega)
  generalize dBits (List.replicate 32 255) (List.replicate 32 0) 32 = WB at e4 e5
  generalize dEnd (List.replicate 32 255) (List.replicate 32 0) = WE at e4
  generalize difB (r.drop m) (difE (r.take m) (List.replicate 32 0)) = B3 at *
  generalize difE (r.take m) (List.replicate 32 0) = C2 at *
  generalize difB (r.take m) (List.replicate 32 0) = B2 at *
  generalize difE r (List.replicate 32 0) = C1 at *
  generalize difB r (List.replicate 32 0) = B1 at *
  refine e.bind (ep.bind (ev_pos (by omega) ?_))
  simp only [w1, hm1]
  refine ev_neg (by omega) (ev_eq hz (e1.bind (ev_pos (by omega) (ev_pos (by omega) (ev_eq hz ?_)))))
  rw [Int.toNat_natCast]
  refine e2.bind (e3.bind (white0_ev.bind (ev_eq hz (e4.bind (ev_pos rfl (ev_pos rfl (ev_pos rfl (ev_pos rfl (e5.bind (ev_pos rfl ?_))))))))))
  have k1 : ([] : List (List Int)).length + B2.length < 5864062014805 := by simp; omega
  have k2 : B2.length + B3.length < 5864062014805 := by omega
  simp only [Option.bind_some, List.nil_append, if_pos k1, if_pos k2, hB]
  exact sr.bind (ev_pos rfl (si.bind (Ev.now _)))

end Go.Proofs.Ytophklfiooklbaa.Pure
