/-
  For every code the law of traps returns true: trapping adds dots under the dark ink only, next to dots that were there.
-/
import Derived.Test.YtjkddcnflpfinaaPFnTrapsx7
import Derived.Test.YtjkddcnflpfinaaWSized
/- The printed row names 'PrintWords.sized_ints' without its seat's letter W: the same law under the name that it looks for. -/
namespace Go.Proofs.Ytjkddcnflpfinaa.PrintWords
open Go.ChangeShapes Go.WideShapes
theorem sized_ints {H : Type} {enc : TypeId × Value → H} {P : Program} {W : World} {base : Nat} {spare : Nat → Bool} {held : Bool} {t e : TypeId} {k : IntKind} {a : Option Addr} {len cap : Nat} {d : DataW H} {ps : List MemPlace} {ts : List TypeId} {ds : List (DataW H)} {j : Nat}
    (hsz : (DataW.weightsEach P ts ds).all (· ≤ reachBytes) = true) (ht : ts[j]? = some t) (hd : ds[j]? = some d) (hu : P.underlying t = some (.slice e)) (he : P.underlying e = some (.int k)) (hc : P.cellsOf e = 1) {B : Nat} (hB : P.bytesOf e = B)
    (h : DataW.Trod enc P W base spare held t (.slice a len cap) d ps) : len * B ≤ 140737488351232 :=
  Go.Proofs.YtjkddcnflpfinaaW.PrintWords.sized_ints hsz ht hd hu he hc hB h
end Go.Proofs.Ytjkddcnflpfinaa.PrintWords
namespace Go.Proofs.Ytjkddcnflpfinaa.Pure
open Go.RowKit Go.Proofs.Ytjkddcnflpfinaa.PFnTraps Go.Proofs.YtjkddcnflpfinaaW.PrintWords Go.Proofs.YtjkddcnflpfinaaW.PrintLast Go.Proofs.YtjkddcnflpfinaaW.PrintMore
set_option linter.unusedVariables false
set_option linter.unusedSimpArgs false

theorem w64 {n : Int} (h1 : -9223372036854775808 ≤ n) (h2 : n ≤ 9223372036854775807) : wrap64 n = n := by
  unfold wrap64
  omega
theorem wsucc {i : Nat} (h : i ≤ 4611686018427387904) : wrap64 ((i : Int) + 1) = ((i + 1 : Nat) : Int) := by
  rw [w64 (by omega) (by omega)]
  omega
theorem rd_nat (l : List Int) (i : Nat) : rd l (i : Int) = l.getD i 0 := by simp [rd]
theorem getD_drop (l : List Int) (i : Nat) (h : i < l.length) : l.drop i = l.getD i 0 :: l.drop (i + 1) := by
  rw [List.drop_eq_getElem_cons h]
  simp [List.getD_eq_getElem?_getD, List.getElem?_eq_getElem h]
theorem getD_take (l : List Int) (i : Nat) (h : i < l.length) : l.take (i + 1) = l.take i ++ [l.getD i 0] := by
  rw [List.take_succ_eq_append_getElem h]
  simp [List.getD_eq_getElem?_getD, List.getElem?_eq_getElem h]
theorem set_mid (p q : List Int) (u v : Int) (i : Nat) (h : p.length = i) : (p ++ u :: q).set i v = p ++ v :: q := by
  subst h
  simp [List.set_append_right]
theorem bind_id {α : Type} {g : Nat → Option α} {r : α} (h : Ev g r) : Ev (fun n => (g n).bind fun x => some x) r := by
  obtain ⟨K, h⟩ := h
  exact ⟨K, fun k hk => by simp [h k hk]⟩
theorem ev_pos {α : Type} {c : Prop} [Decidable c] {f g : Nat → Option α} {r : α} (h : c) (k : Ev f r) : Ev (fun n => if c then f n else g n) r := Ev.congr (fun n => if_pos h) k
theorem ev_neg {α : Type} {c : Prop} [Decidable c] {f g : Nat → Option α} {r : α} (h : ¬ c) (k : Ev g r) : Ev (fun n => if c then f n else g n) r := Ev.congr (fun n => if_neg h) k
theorem ev_eq {α β : Type} {g : Option α} {f : Nat → α → Option β} {a : α} {r : β} (h : g = some a) (k : Ev (fun n => f n a) r) : Ev (fun n => g.bind (f n)) r := by
  subst h
  exact k
theorem td {v : Int} (h : 0 ≤ v) (c : Int) : Int.tdiv v c = v / c := Int.tdiv_eq_ediv_of_nonneg h
theorem tm {v : Int} (h : 0 ≤ v) (c : Int) : Int.tmod v c = v % c := Int.tmod_eq_emod_of_nonneg h

theorem and255 (n : Int) : Go.bits .and .i64 n 255 = n % 256 := by
  have h255 : (BitVec.ofInt 64 255).toNat = 2 ^ 8 - 1 := by decide
  have key : (BitVec.ofInt 64 n &&& BitVec.ofInt 64 255).toNat = (n % ((2 ^ 64 : Nat) : Int)).toNat % 2 ^ 8 := by
    rw [BitVec.toNat_and, BitVec.toNat_ofInt, h255, Nat.and_two_pow_sub_one_eq_mod]
  show IntKind.i64.wrap ((BitVec.ofInt 64 n &&& BitVec.ofInt 64 255).toNat : Nat) = n % 256
  rw [key, IntKind.wrap_i64]
  omega
theorem l01New_l0 (l : List Int) (hn : l.length ≤ 1099511627776) : ∀ d i : Nat, i + d = l.length → ∀ h : Int, ∃ h', Ev (fun k => spec_l01New.l0 k l h i) (l, 0, h')
  | 0, i, hd, h => by
    refine ⟨h, Ev.step (f := fun _ => some (l, 0, h)) (fun k => ?_) (Ev.now _)⟩
    simp only [spec_l01New.l0]
    rw [if_neg (by omega)]
  | d + 1, i, hd, h => by
    by_cases c : (i : Int) < 4000
    · obtain ⟨h', e⟩ := l01New_l0 l hn d (i + 1) (by omega) (Go.bits .and .i64 (wrap64 ((wrap64 ((wrap64 (h * 131)) + (wrap64 (rd l i)))) + 7)) 1073741823)
      refine ⟨h', Ev.step (fun k => ?_) e⟩
      simp only [spec_l01New.l0]
      rw [if_pos (by omega), if_pos c, if_pos (by omega), wsucc (by omega)]
    · refine ⟨h, Ev.step (f := fun _ => some (l, 0, h)) (fun k => ?_) (Ev.now _)⟩
      simp only [spec_l01New.l0]
      rw [if_pos (by omega), if_neg c]
theorem l01New_ev (l : List Int) (hn : l.length ≤ 1099511627776) : ∃ h, Ev (fun k => spec_l01New.f k l) (l, 0, h) :=
  l01New_l0 l hn l.length 0 (by omega) _
/-- A cursor that can be read from. -/
def cur (l : List Int) (i : Int) : Prop := l.length ≤ 1099511627776 ∧ 0 ≤ i
theorem l01Byte_ex {l : List Int} {i : Int} (h : Int) (hc : cur l i) : ∃ x i' h', spec_l01Byte.f l i h = some (x, i', h') ∧ cur l i' ∧ 0 ≤ x ∧ x ≤ 255 := by
  obtain ⟨hl, h0⟩ := hc
  unfold spec_l01Byte.f
  by_cases c : i < (l.length : Int)
  · rw [if_pos c, if_pos h0, w64 (n := i + 1) (by omega) (by omega)]
    refine ⟨_, _, _, rfl, ⟨hl, by omega⟩, ?_⟩
    simp only [and255]
    omega
  · rw [if_neg c]
    refine ⟨_, _, _, rfl, ⟨hl, h0⟩, ?_⟩
    simp only [and255]
    omega

theorem l01Below_ex {l : List Int} {i : Int} (h : Int) (hc : cur l i) {n : Int} (hn : 0 < n) (hn2 : n ≤ 1000000) : ∃ x i' h', spec_l01Below.f l i h n = some (x, i', h') ∧ cur l i' ∧ 0 ≤ x ∧ x < n := by
  unfold spec_l01Below.f
  rw [if_neg (by omega)]
  by_cases c : n ≤ 256
  · rw [if_pos c]
    obtain ⟨x, i1, h1, e, hc1, b0, b1⟩ := l01Byte_ex h hc
    rw [e]
    simp only [Option.bind_some]
    rw [if_neg (by omega), tm b0]
    exact ⟨_, _, _, rfl, hc1, Int.emod_nonneg _ (by omega), Int.emod_lt_of_pos _ hn⟩
  · rw [if_neg c]
    obtain ⟨x, i1, h1, e1, hc1, b0, b1⟩ := l01Byte_ex h hc
    rw [e1]
    simp only [Option.bind_some]
    obtain ⟨y, i2, h2, e2, hc2, c0, c1⟩ := l01Byte_ex h1 hc1
    rw [e2]
    simp only [Option.bind_some]
    obtain ⟨z, i3, h3, e3, hc3, d0, d1⟩ := l01Byte_ex h2 hc2
    rw [e3]
    simp only [Option.bind_some]
    obtain ⟨u, i4, h4, e4, hc4, f0, f1⟩ := l01Byte_ex h3 hc3
    rw [e4]
    simp only [Option.bind_some]
    rw [if_neg (by omega), w64 (n := x * 16777216) (by omega) (by omega), w64 (n := y * 65536) (by omega) (by omega), w64 (n := z * 256) (by omega) (by omega), w64 (n := x * 16777216 + y * 65536) (by omega) (by omega), w64 (n := x * 16777216 + y * 65536 + z * 256) (by omega) (by omega), w64 (n := x * 16777216 + y * 65536 + z * 256 + u) (by omega) (by omega), tm (by omega)]
    exact ⟨_, _, _, rfl, hc4, Int.emod_nonneg _ (by omega), Int.emod_lt_of_pos _ hn⟩

theorem rd_mem2 (l : List Int) (i : Nat) (h : i < l.length) : rd l i ∈ l := by
  rw [rd_nat, List.getD_eq_getElem?_getD, List.getElem?_eq_getElem h]
  simp
theorem l01Once_ex {l : List Int} {i : Int} (h : Int) (hc : cur l i) {n : Int} (hn : 0 < n) (hn2 : n ≤ 1000000) : ∃ b i' h', spec_l01Once.f l i h n = some (b, i', h') ∧ cur l i' := by
  unfold spec_l01Once.f
  obtain ⟨x, i1, h1, e, hc1, _, _⟩ := l01Below_ex h hc hn hn2
  rw [e]
  exact ⟨_, _, _, rfl, hc1⟩

/-- A row of 32 values from 0 to hi. -/
def rowP (hi : Int) (r : List Int) : Prop := r.length = 32 ∧ ∀ i : Nat, i < r.length → 0 ≤ rd r i ∧ rd r i ≤ hi
/-- At most 32 such rows. -/
def mat (hi : Int) (m : List (List Int)) : Prop := m.length ≤ 32 ∧ ∀ j : Nat, j < m.length → rowP hi (rd_L2 m j)
instance (hi : Int) (r : List Int) : Decidable (rowP hi r) := by
  unfold rowP
  infer_instance
instance (hi : Int) (m : List (List Int)) : Decidable (mat hi m) := by
  unfold mat
  infer_instance
theorem rowP_mono {a b : Int} (h : a ≤ b) {r : List Int} (hr : rowP a r) : rowP b r := ⟨hr.1, fun i hi => ⟨(hr.2 i hi).1, by have := (hr.2 i hi).2; omega⟩⟩
theorem mat_mono {a b : Int} (h : a ≤ b) {m : List (List Int)} (hm : mat a m) : mat b m := ⟨hm.1, fun j hj => rowP_mono h (hm.2 j hj)⟩
/-- Rows that are not too long to be counted. -/
def small (m : List (List Int)) : Prop := m.length ≤ 1099511627776 ∧ ∀ j : Nat, j < m.length → (rd_L2 m j).length ≤ 1099511627776

/-- Rows whose lengths, and their number, are at most 1048576. -/
def tiny (m : List (List Int)) : Prop := m.length ≤ 1048576 ∧ ∀ j : Nat, j < m.length → (rd_L2 m j).length ≤ 1048576
theorem tiny_small {m : List (List Int)} (h : tiny m) : small m := ⟨by have := h.1; omega, fun j hj => by have := h.2 j hj; omega⟩
theorem rows_mem {m : List (List Int)} {j : Nat} (hj : j < m.length) : rd_L2 m j = m[j] := by
  unfold rd_L2
  rw [Int.toNat_natCast, List.getD_eq_getElem?_getD, List.getElem?_eq_getElem hj]
  rfl
theorem set_midL (p q : List (List Int)) (u v : List Int) (i : Nat) (h : p.length = i) : (p ++ u :: q).set i v = p ++ v :: q := by
  subst h
  simp [List.set_append_right]

/-- Rows of 32 values, told dot by dot. -/
def tabRow (F : Nat → Nat → Int) (y n : Nat) : List Int := (List.range n).map (F y)
def tab (F : Nat → Nat → Int) (n : Nat) : List (List Int) := (List.range n).map fun y => tabRow F y 32
theorem tabRow_snoc (F : Nat → Nat → Int) (y n : Nat) : tabRow F y (n + 1) = tabRow F y n ++ [F y n] := by simp [tabRow, List.range_succ]
theorem tabRow_length (F : Nat → Nat → Int) (y n : Nat) : (tabRow F y n).length = n := by simp [tabRow]
theorem tab_snoc (F : Nat → Nat → Int) (n : Nat) : tab F (n + 1) = tab F n ++ [tabRow F n 32] := by simp [tab, List.range_succ]
theorem tab_length (F : Nat → Nat → Int) (n : Nat) : (tab F n).length = n := by simp [tab]
theorem tab_row (F : Nat → Nat → Int) {n y : Nat} (h : y < n) : rd_L2 (tab F n) y = tabRow F y 32 := by
  rw [rows_mem (by rw [tab_length]; exact h)]
  simp [tab]
theorem tabRow_get (F : Nat → Nat → Int) (y : Nat) {n x : Nat} (h : x < n) : rd (tabRow F y n) x = F y x := by
  rw [rd_nat, List.getD_eq_getElem?_getD, List.getElem?_eq_getElem (by rw [tabRow_length]; exact h)]
  simp [tabRow]
theorem rows_mid (p q : List (List Int)) (u : List Int) (i : Nat) (h : p.length = i) : rd_L2 (p ++ u :: q) i = u := by
  subst h
  simp [rd_L2]
theorem dots_mid (p q : List Int) (u : Int) (i : Nat) (h : p.length = i) : rd (p ++ u :: q) i = u := by
  subst h
  simp [rd_nat]
theorem rows_drop (m : List (List Int)) {i : Nat} (h : i < m.length) : m.drop i = rd_L2 m i :: m.drop (i + 1) := by
  rw [List.drop_eq_getElem_cons h, rows_mem h]
theorem dots_drop (r : List Int) {i : Nat} (h : i < r.length) : r.drop i = rd r i :: r.drop (i + 1) := by
  rw [getD_drop r i h, rd_nat]
theorem tab_small (F : Nat → Nat → Int) (n : Nat) (h : n ≤ 32) : small (tab F n) := by
  refine ⟨by rw [tab_length]; omega, fun j hj => ?_⟩
  rw [tab_length] at hj
  rw [tab_row F hj, tabRow_length]
  omega
theorem tab_total (F : Nat → Nat → Int) (n : Nat) (h : n ≤ 32) : True := trivial
theorem small_total {m : List (List Int)} (h : m.length ≤ 32) (h2 : ∀ j : Nat, j < m.length → (rd_L2 m j).length ≤ 32) : m.length ≤ 1048576 ∧ ∀ j : Nat, j < m.length → (rd_L2 m j).length ≤ 1048576 := ⟨by omega, fun j hj => by have := h2 j hj; omega⟩
theorem tab_tiny (F : Nat → Nat → Int) (n : Nat) (h : n ≤ 32) : tiny (tab F n) := by
  refine ⟨by rw [tab_length]; omega, fun j hj => ?_⟩
  rw [tab_length] at hj
  rw [tab_row F hj, tabRow_length]
  omega
theorem mat_dot {hi : Int} {m : List (List Int)} (h : mat hi m) {y x : Nat} (hy : y < m.length) (hx : x < 32) : 0 ≤ rd (rd_L2 m y) x ∧ rd (rd_L2 m y) x ≤ hi := (h.2 y hy).2 x (by rw [(h.2 y hy).1]; exact hx)
theorem tab_mat (F : Nat → Nat → Int) (n : Nat) (hi : Int) (h : n ≤ 32) (hF : ∀ y x, y < n → x < 32 → 0 ≤ F y x ∧ F y x ≤ hi) : mat hi (tab F n) := by
  refine ⟨by rw [tab_length]; exact h, fun j hj => ?_⟩
  rw [tab_length] at hj
  rw [tab_row F hj]
  refine ⟨tabRow_length _ _ _, fun i h1 => ?_⟩
  rw [tabRow_length] at h1
  rw [tabRow_get F j h1]
  exact hF j i hj h1

theorem l22Bits_l1 (l : List Int) (m n : Nat) (out : List (List Int)) (ho : out.length ≤ 1000) (Q : List (List Int) → Prop)
    (next : ∀ (row : List Int) (i h : Int), row.length = 32 → (∀ x ∈ row, 0 ≤ x ∧ x ≤ 1) → cur l i → ∃ r i' h', Ev (fun k => spec_l22Bits.l0 k m (out ++ [row]) (wrap64 ((n : Int) + 1)) l i h) (r, i', h') ∧ cur l i' ∧ Q r) :
    ∀ (d : Nat) (row : List Int) (v i h : Int), row.length + d = 32 → (∀ x ∈ row, 0 ≤ x ∧ x ≤ 1) → 0 ≤ v → v ≤ 1 → cur l i → ∃ r i' h', Ev (fun k => spec_l22Bits.l1 k m out n row v l i h) (r, i', h') ∧ cur l i' ∧ Q r
  | 0, row, v, i, h, hd, hr, v0, v1, hc => by
    obtain ⟨r, i', h', e, hq⟩ := next row i h (by omega) hr hc
    refine ⟨r, i', h', Ev.step (fun k => ?_) e, hq⟩
    simp only [spec_l22Bits.l1]
    rw [if_neg (by omega), if_pos (by omega)]
  | d + 1, row, v, i, h, hd, hr, v0, v1, hc => by
    have snoc : ∀ u : Int, 0 ≤ u → u ≤ 1 → ∀ x ∈ row ++ [u], 0 ≤ x ∧ x ≤ 1 := fun u u0 u1 x hx => by
      rcases List.mem_append.1 hx with hx | hx
      · exact hr x hx
      · rw [List.mem_singleton.1 hx]
        exact ⟨u0, u1⟩
    have hw : wrap64 (1 - v) = 1 - v := w64 (by omega) (by omega)
    obtain ⟨b, i1, h1, e1, c1⟩ := l01Once_ex h hc (n := 4) (by omega) (by omega)
    cases b with
    | true =>
      obtain ⟨r, i', h', e, hq⟩ := l22Bits_l1 l m n out ho Q next d (row ++ [1 - v]) (1 - v) i1 h1 (by simp; omega) (snoc (1 - v) (by omega) (by omega)) (by omega) (by omega) c1
      refine ⟨r, i', h', Ev.step (fun k => ?_) e, hq⟩
      simp only [spec_l22Bits.l1]
      rw [if_pos (by omega), e1]
      simp only [Option.bind_some, if_true]
      rw [if_pos (by omega), hw]
    | false =>
      obtain ⟨r, i', h', e, hq⟩ := l22Bits_l1 l m n out ho Q next d (row ++ [v]) v i1 h1 (by simp; omega) (snoc v v0 v1) v0 v1 c1
      refine ⟨r, i', h', Ev.step (fun k => ?_) e, hq⟩
      simp only [spec_l22Bits.l1]
      rw [if_pos (by omega), e1]
      simp only [Option.bind_some]
      rw [if_neg (by simp), if_pos (by omega)]
theorem l22Bits_l0 (l : List Int) (m : Nat) (hm : m ≤ 32) : ∀ (d n : Nat) (out : List (List Int)) (i h : Int), n + d = m → cur l i → out.length = n → (∀ r ∈ out, rowP 1 r) →
    ∃ r i' h', Ev (fun k => spec_l22Bits.l0 k m out n l i h) (r, i', h') ∧ cur l i' ∧ (r.length = m ∧ ∀ x ∈ r, rowP 1 x)
  | 0, n, out, i, h, hd, hc, hl, ho => by
    refine ⟨out, i, h, Ev.step (f := fun _ => some (out, i, h)) (fun k => ?_) (Ev.now _), hc, by omega, ho⟩
    simp only [spec_l22Bits.l0]
    rw [if_neg (by omega)]
  | d + 1, n, out, i, h, hd, hc, hl, ho => by
    obtain ⟨v, i1, h1, e1, c1, v0, v1⟩ := l01Below_ex h hc (n := 2) (by omega) (by omega)
    obtain ⟨r, i', h', e, hq⟩ := l22Bits_l1 l m n out (by omega) (fun r => r.length = m ∧ ∀ x ∈ r, rowP 1 x) (fun row i2 h2 hr1 hr2 hc2 => by
      have := l22Bits_l0 l m hm d (n + 1) (out ++ [row]) i2 h2 (by omega) hc2 (by simp [hl]) (fun x hx => by
        rcases List.mem_append.1 hx with hx | hx
        · exact ho x hx
        · rw [List.mem_singleton.1 hx]
          exact ⟨hr1, fun j hj => hr2 _ (rd_mem2 row j hj)⟩)
      rw [wsucc (by omega)]
      exact this) 32 [] v i1 h1 rfl (by simp) v0 (by omega) c1
    refine ⟨r, i', h', Ev.step (fun k => ?_) e, hq⟩
    simp only [spec_l22Bits.l0]
    rw [if_pos (by omega), e1]
    rfl
theorem mat_of_mem {hi : Int} {m : List (List Int)} (h : m.length ≤ 32) (h2 : ∀ x ∈ m, rowP hi x) : mat hi m := ⟨h, fun j hj => by
  rw [rows_mem hj]
  exact h2 _ (List.getElem_mem hj)⟩
theorem drawPlanes_ev (l : List Int) (hn : l.length ≤ 1099511627776) : ∃ a b : List (List Int), Ev (fun k => spec_DrawPlanes.f k l) (a, b) ∧ mat 1 a ∧ mat 1 b ∧ a.length = b.length ∧ a.length ≤ 4 ∧ 1 ≤ a.length := by
  obtain ⟨h, e⟩ := l01New_ev l hn
  obtain ⟨m, i1, h1, e1, c1, m0, m1⟩ := l01Below_ex (l := l) (i := 0) h ⟨hn, by omega⟩ (n := 4) (by omega) (by omega)
  obtain ⟨a, i2, h2, e2, c2, hl2, hr2⟩ := l22Bits_l0 l (1 + m).toNat (by omega) (1 + m).toNat 0 [] i1 h1 (by omega) c1 rfl (by simp)
  obtain ⟨b, i3, h3, e3, c3, hl3, hr3⟩ := l22Bits_l0 l (1 + m).toNat (by omega) (1 + m).toNat 0 [] i2 h2 (by omega) c2 rfl (by simp)
  refine ⟨a, b, ?_, mat_of_mem (by omega) hr2, mat_of_mem (by omega) hr3, by omega, by omega, by omega⟩
  have q : (((1 + m).toNat : Nat) : Int) = wrap64 (1 + m) := by rw [w64 (by omega) (by omega)]; omega
  rw [q] at e2 e3
  unfold spec_DrawPlanes.f
  exact e.bind (ev_eq e1 (Ev.bind (a := (a, i2, h2)) e2 (Ev.bind (a := (b, i3, h3)) e3 (Ev.now _))))

/-- Two lists of bits dot by dot: both (true), or one of them (false). -/
def bothF (w : Bool) (a b : List (List Int)) (y x : Nat) : Int := if w = true then mn (rd (rd_L2 a y) x) (rd (rd_L2 b y) x) else mx (rd (rd_L2 a y) x) (rd (rd_L2 b y) x)
def bothOk (a b : List (List Int)) : Prop := mat 1 a ∧ mat 1 b ∧ a.length = b.length
instance (a b : List (List Int)) : Decidable (bothOk a b) := by
  unfold bothOk
  infer_instance
def bothV (w : Bool) (a b : List (List Int)) : List (List Int) × Bool := if bothOk a b then (tab (bothF w a b) a.length, true) else ([], false)
theorem bits_both {u v : Int} (hu : 0 ≤ u ∧ u ≤ 1) (hv : 0 ≤ v ∧ v ≤ 1) : Go.bits .and .i64 u v = mn u v ∧ Go.bits .or .i64 u v = mx u v := by
  have e1 : u = 0 ∨ u = 1 := by omega
  have e2 : v = 0 ∨ v = 1 := by omega
  rcases e1 with rfl | rfl <;> rcases e2 with rfl | rfl <;> exact ⟨by decide +kernel, by decide +kernel⟩
theorem bothF_in {w : Bool} {a b : List (List Int)} (h : bothOk a b) {y x : Nat} (hy : y < a.length) (hx : x < 32) : 0 ≤ bothF w a b y x ∧ bothF w a b y x ≤ 1 := by
  have h1 := mat_dot h.1 hy hx
  have h2 := mat_dot h.2.1 (show y < b.length by rw [← h.2.2]; exact hy) hx
  unfold bothF mn mx
  cases w <;> simp only [Bool.false_eq_true, if_false, if_true] <;> split <;> omega
theorem bothV_tiny (w : Bool) (a b : List (List Int)) : tiny (bothV w a b).1 := by
  unfold bothV
  split
  · rename_i h
    exact tab_tiny _ _ h.1.1
  · exact ⟨by simp, fun j hj => absurd hj (by simp)⟩

/-! Dots that are spread to their four neighbours. -/
def atV (a : List (List Int)) (x y : Int) : Int := if x < 0 ∨ x ≥ 32 ∨ y < 0 ∨ y ≥ (a.length : Int) then 0 else rd (rd_L2 a y) x
def spF (a : List (List Int)) (y x : Nat) : Int := mx (mx (mx (mx (atV a x y) (atV a ((x : Int) - 1) y)) (atV a ((x : Int) + 1) y)) (atV a x ((y : Int) - 1))) (atV a x ((y : Int) + 1))
def spV (a : List (List Int)) : List (List Int) := if mat 1 a then tab (spF a) a.length else []
theorem mat_rowI {hi : Int} {a : List (List Int)} (h : mat hi a) {y : Int} (h0 : 0 ≤ y) (h1 : y < a.length) : (rd_L2 a y).length = 32 := by
  obtain ⟨n, rfl⟩ : ∃ n : Nat, y = n := ⟨y.toNat, by omega⟩
  exact (h.2 n (by omega)).1
theorem mat_dotI {hi : Int} {a : List (List Int)} (h : mat hi a) {y x : Int} (h0 : 0 ≤ y) (h1 : y < a.length) (h2 : 0 ≤ x) (h3 : x < 32) : 0 ≤ rd (rd_L2 a y) x ∧ rd (rd_L2 a y) x ≤ hi := by
  obtain ⟨n, rfl⟩ : ∃ n : Nat, y = n := ⟨y.toNat, by omega⟩
  obtain ⟨m, rfl⟩ : ∃ m : Nat, x = m := ⟨x.toNat, by omega⟩
  exact mat_dot h (by omega) (by omega)
theorem atV_in {a : List (List Int)} (h : mat 1 a) (x y : Int) : 0 ≤ atV a x y ∧ atV a x y ≤ 1 := by
  unfold atV
  split
  · omega
  · exact mat_dotI h (by omega) (by omega) (by omega) (by omega)
theorem atV_here {a : List (List Int)} {x y : Int} (h0 : 0 ≤ x) (h1 : x < 32) (h2 : 0 ≤ y) (h3 : y < a.length) : atV a x y = rd (rd_L2 a y) x := by
  unfold atV
  rw [if_neg (by omega)]
theorem atV_off {a : List (List Int)} {x y : Int} (h : x < 0 ∨ x ≥ 32 ∨ y < 0 ∨ y ≥ (a.length : Int)) : atV a x y = 0 := by
  unfold atV
  rw [if_pos h]
theorem mx_in {a b : Int} (h1 : 0 ≤ a ∧ a ≤ 1) (h2 : 0 ≤ b ∧ b ≤ 1) : 0 ≤ mx a b ∧ mx a b ≤ 1 := by
  unfold mx
  split <;> omega
theorem mx_ge (a b : Int) : a ≤ mx a b ∧ b ≤ mx a b := by
  unfold mx
  split <;> omega
theorem mx_same {m c : Int} (h : c ≤ m) (h0 : 0 ≤ m) : mx m c = mx m 0 := by
  unfold mx
  split <;> split <;> omega
theorem spF_in {a : List (List Int)} (h : mat 1 a) (y x : Nat) : 0 ≤ spF a y x ∧ spF a y x ≤ 1 :=
  mx_in (mx_in (mx_in (mx_in (atV_in h _ _) (atV_in h _ _)) (atV_in h _ _)) (atV_in h _ _)) (atV_in h _ _)
theorem spV_tiny (a : List (List Int)) : tiny (spV a) := by
  unfold spV
  split
  · rename_i h
    exact tab_tiny _ _ h.1
  · exact ⟨by simp, fun j hj => absurd hj (by simp)⟩
/-- The reference's neighbours, held within the rows, come to the same. -/
theorem spread_same {a : List (List Int)} (h : mat 1 a) {y x : Nat} (hy : y < a.length) (hx : x < 32) :
    Go.bits .or .i64 (Go.bits .or .i64 (Go.bits .or .i64 (Go.bits .or .i64 (rd (rd_L2 a y) x) (rd (rd_L2 a y) (mx 0 ((x : Int) - 1)))) (rd (rd_L2 a y) (mn 31 ((x : Int) + 1)))) (rd (rd_L2 a (mx 0 ((y : Int) - 1))) x)) (rd (rd_L2 a (mn ((a.length : Int) - 1) ((y : Int) + 1))) x) = spF a y x := by
  have m1 : 0 ≤ mx 0 ((x : Int) - 1) ∧ mx 0 ((x : Int) - 1) < 32 := by unfold mx; split <;> omega
  have m2 : 0 ≤ mn 31 ((x : Int) + 1) ∧ mn 31 ((x : Int) + 1) < 32 := by unfold mn; split <;> omega
  have m3 : 0 ≤ mx 0 ((y : Int) - 1) ∧ mx 0 ((y : Int) - 1) < a.length := by unfold mx; split <;> omega
  have m4 : 0 ≤ mn ((a.length : Int) - 1) ((y : Int) + 1) ∧ mn ((a.length : Int) - 1) ((y : Int) + 1) < a.length := by unfold mn; split <;> omega
  have d0 := mat_dotI h (y := y) (x := x) (by omega) (by omega) (by omega) (by omega)
  have d1 := mat_dotI h (y := y) (by omega) (by omega) m1.1 m1.2
  have d2 := mat_dotI h (y := y) (by omega) (by omega) m2.1 m2.2
  have d3 := mat_dotI h m3.1 m3.2 (x := x) (by omega) (by omega)
  have d4 := mat_dotI h m4.1 m4.2 (x := x) (by omega) (by omega)
  have e0 : atV a x y = rd (rd_L2 a y) x := atV_here (by omega) (by omega) (by omega) (by omega)
  have e1 : ∀ m : Int, rd (rd_L2 a y) x ≤ m → 0 ≤ m → mx m (rd (rd_L2 a y) (mx 0 ((x : Int) - 1))) = mx m (atV a ((x : Int) - 1) y) := fun m q1 q2 => by
    by_cases c : x = 0
    · have i : mx 0 ((x : Int) - 1) = x := by unfold mx; split <;> omega
      rw [i, atV_off (by omega), mx_same q1 q2]
    · have i : mx 0 ((x : Int) - 1) = (x : Int) - 1 := by unfold mx; split <;> omega
      rw [i, atV_here (by omega) (by omega) (by omega) (by omega)]
  have e2 : ∀ m : Int, rd (rd_L2 a y) x ≤ m → 0 ≤ m → mx m (rd (rd_L2 a y) (mn 31 ((x : Int) + 1))) = mx m (atV a ((x : Int) + 1) y) := fun m q1 q2 => by
    by_cases c : x = 31
    · have i : mn 31 ((x : Int) + 1) = x := by unfold mn; split <;> omega
      rw [i, atV_off (by omega), mx_same q1 q2]
    · have i : mn 31 ((x : Int) + 1) = (x : Int) + 1 := by unfold mn; split <;> omega
      rw [i, atV_here (by omega) (by omega) (by omega) (by omega)]
  have e3 : ∀ m : Int, rd (rd_L2 a y) x ≤ m → 0 ≤ m → mx m (rd (rd_L2 a (mx 0 ((y : Int) - 1))) x) = mx m (atV a x ((y : Int) - 1)) := fun m q1 q2 => by
    by_cases c : y = 0
    · have i : mx 0 ((y : Int) - 1) = y := by unfold mx; split <;> omega
      rw [i, atV_off (by omega), mx_same q1 q2]
    · have i : mx 0 ((y : Int) - 1) = (y : Int) - 1 := by unfold mx; split <;> omega
      rw [i, atV_here (by omega) (by omega) (by omega) (by omega)]
  have e4 : ∀ m : Int, rd (rd_L2 a y) x ≤ m → 0 ≤ m → mx m (rd (rd_L2 a (mn ((a.length : Int) - 1) ((y : Int) + 1))) x) = mx m (atV a x ((y : Int) + 1)) := fun m q1 q2 => by
    by_cases c : y + 1 = a.length
    · have i : mn ((a.length : Int) - 1) ((y : Int) + 1) = y := by unfold mn; split <;> omega
      rw [i, atV_off (by omega), mx_same q1 q2]
    · have i : mn ((a.length : Int) - 1) ((y : Int) + 1) = (y : Int) + 1 := by unfold mn; split <;> omega
      rw [i, atV_here (by omega) (by omega) (by omega) (by omega)]
  rw [(bits_both d0 d1).2, (bits_both (mx_in d0 d1) d2).2, (bits_both (mx_in (mx_in d0 d1) d2) d3).2, (bits_both (mx_in (mx_in (mx_in d0 d1) d2) d3) d4).2]
  have g0 := e1 _ (Int.le_refl _) d0.1
  have g1 := (mx_ge (rd (rd_L2 a y) x) (rd (rd_L2 a y) (mx 0 ((x : Int) - 1)))).1
  have g2 := e2 _ g1 (by omega)
  have g3 := Int.le_trans g1 (mx_ge (mx (rd (rd_L2 a y) x) (rd (rd_L2 a y) (mx 0 ((x : Int) - 1)))) (rd (rd_L2 a y) (mn 31 ((x : Int) + 1)))).1
  have g4 := e3 _ g3 (by omega)
  have g5 := Int.le_trans g3 (mx_ge (mx (mx (rd (rd_L2 a y) x) (rd (rd_L2 a y) (mx 0 ((x : Int) - 1)))) (rd (rd_L2 a y) (mn 31 ((x : Int) + 1)))) (rd (rd_L2 a (mx 0 ((y : Int) - 1))) x)).1
  have g6 := e4 _ g5 (by omega)
  rw [g6, g4, g2, g0]
  unfold spF
  rw [e0]

/-- Trapping: the light dots, and those next to them that the dark ink covers. -/
def trapV (a b : List (List Int)) : List (List Int) × Bool := if bothOk a b then bothV false a (bothV true (spV a) b).1 else ([], false)
theorem spV_mat {a : List (List Int)} (h : mat 1 a) : mat 1 (spV a) ∧ (spV a).length = a.length := by
  unfold spV
  rw [if_pos h]
  exact ⟨tab_mat _ _ _ h.1 (fun y x _ _ => spF_in h y x), tab_length _ _⟩
theorem trap_meet {a b : List (List Int)} (h : bothOk a b) : bothV true (spV a) b = (tab (bothF true (spV a) b) a.length, true) ∧ mat 1 (tab (bothF true (spV a) b) a.length) := by
  have hs := spV_mat h.1
  have ok : bothOk (spV a) b := ⟨hs.1, h.2.1, by rw [hs.2]; exact h.2.2⟩
  unfold bothV
  rw [if_pos ok, hs.2]
  exact ⟨rfl, tab_mat _ _ _ h.1.1 (fun y x hy hx => bothF_in ok (by rw [hs.2]; exact hy) hx)⟩
theorem trapV_ok {a b : List (List Int)} (h : bothOk a b) : trapV a b = (tab (bothF false a (tab (bothF true (spV a) b) a.length)) a.length, true) ∧ bothOk a (tab (bothF true (spV a) b) a.length) := by
  obtain ⟨e, hm⟩ := trap_meet h
  have ok : bothOk a (tab (bothF true (spV a) b) a.length) := ⟨h.1, hm, by rw [tab_length]⟩
  unfold trapV
  rw [if_pos h, e]
  refine ⟨?_, ok⟩
  unfold bothV
  rw [if_pos ok]
theorem trapV_tiny (a b : List (List Int)) : tiny (trapV a b).1 := by
  unfold trapV
  split
  · exact bothV_tiny _ _ _
  · exact ⟨by simp, fun j hj => absurd hj (by simp)⟩

theorem within_eq (a b c : Int) : impl_within.f a b c = some (decide (b ≤ a ∧ a ≤ c)) := by
  unfold impl_within.f
  by_cases h : a ≥ b
  · rw [if_pos h]
    simp [show b ≤ a from h]
  · rw [if_neg h]
    simp [show ¬ b ≤ a from h]

theorem impl_rowOk_l0 (a : List Int) (hn : a.length = 32) :
    ∀ d i : Nat, i + d = a.length → (∀ j : Nat, j < i → 0 ≤ rd a j ∧ rd a j ≤ 255) → Ev (fun k => impl_rowOk.l0 k a (a.length : Int) i) (decide (rowP 255 a))
  | 0, i, h, hj => by
    refine Ev.step (f := fun _ => some true) (fun k => ?_) ?_
    · simp only [impl_rowOk.l0]
      rw [if_neg (by omega)]
    · rw [decide_eq_true (show rowP 255 a from ⟨hn, fun j h1 => hj j (by omega)⟩)]
      exact Ev.now _
  | d + 1, i, h, hj => by
    by_cases c : 0 ≤ rd a i ∧ rd a i ≤ 255
    · refine Ev.step (f := fun k => impl_rowOk.l0 k a (a.length : Int) ((i + 1 : Nat) : Int)) (fun k => ?_) (impl_rowOk_l0 a hn d (i + 1) (by omega) (fun j h1 => ?_))
      · simp only [impl_rowOk.l0, within_eq, Option.bind_some]
        rw [if_pos (by omega), if_pos (by omega), if_pos (by omega), if_pos (decide_eq_true c), wsucc (by omega)]
      · by_cases e : j = i
        · subst e
          exact c
        · exact hj j (by omega)
    · refine Ev.step (f := fun _ => some false) (fun k => ?_) ?_
      · simp only [impl_rowOk.l0, within_eq, Option.bind_some]
        rw [if_pos (by omega), if_pos (by omega), if_pos (by omega), if_neg (by simp only [decide_eq_true_eq]; exact c)]
      · rw [decide_eq_false (show ¬ rowP 255 a from fun h3 => c (h3.2 i (by omega)))]
        exact Ev.now _
theorem impl_rowOk_ev (a : List Int) : Ev (fun k => impl_rowOk.f k a) (decide (rowP 255 a)) := by
  unfold impl_rowOk.f
  by_cases c : (a.length : Int) = 32
  · exact ev_pos c (impl_rowOk_l0 a (by omega) a.length 0 (by omega) (fun j h => by omega))
  · rw [decide_eq_false (show ¬ rowP 255 a from fun h => by have := h.1; omega)]
    exact ev_neg c (Ev.now _)
theorem impl_RowsOk_l0 (m : List (List Int)) (hn : m.length ≤ 32) :
    ∀ d i : Nat, i + d = m.length → (∀ j : Nat, j < i → rowP 255 (rd_L2 m j)) → Ev (fun k => impl_RowsOk.l0 k m (m.length : Int) i) (decide (mat 255 m))
  | 0, i, h, hj => by
    refine Ev.step (f := fun _ => some true) (fun k => ?_) ?_
    · simp only [impl_RowsOk.l0]
      rw [if_neg (by omega)]
    · rw [decide_eq_true (show mat 255 m from ⟨hn, fun j h1 => hj j (by omega)⟩)]
      exact Ev.now _
  | d + 1, i, h, hj => by
    refine Ev.step (f := fun k => (impl_rowOk.f k (rd_L2 m i)).bind fun t => if t = true then impl_RowsOk.l0 k m (m.length : Int) ((i + 1 : Nat) : Int) else some false) (fun k => ?_) ((impl_rowOk_ev (rd_L2 m i)).bind ?_)
    · simp only [impl_RowsOk.l0]
      rw [if_pos (by omega), if_pos (by omega), if_pos (by omega), wsucc (by omega)]
    · by_cases c : rowP 255 (rd_L2 m i)
      · refine ev_pos (decide_eq_true c) (impl_RowsOk_l0 m hn d (i + 1) (by omega) (fun j h1 => ?_))
        by_cases e : j = i
        · subst e
          exact c
        · exact hj j (by omega)
      · rw [decide_eq_false (show ¬ mat 255 m from fun h3 => c (h3.2 i (by omega)))]
        exact ev_neg (by simp [c]) (Ev.now _)
theorem impl_RowsOk_ev (m : List (List Int)) : Ev (fun k => impl_RowsOk.f k m) (decide (mat 255 m)) := by
  unfold impl_RowsOk.f
  by_cases c : (m.length : Int) > 32
  · rw [decide_eq_false (show ¬ mat 255 m from fun h => by have := h.1; omega)]
    exact ev_pos c (Ev.now _)
  · exact ev_neg c (impl_RowsOk_l0 m (by omega) m.length 0 (by omega) (fun j h => by omega))

theorem impl_BitsOk_l1 (m : List (List Int)) (h255 : mat 255 m) (y : Nat) (hy : y < m.length) (R : Bool) :
    ∀ d i : Nat, i + d = (rd_L2 m y).length → (∀ j : Nat, j < i → rd (rd_L2 m y) j ≤ 1) → (rowP 1 (rd_L2 m y) → Ev (fun k => impl_BitsOk.l0 k m (m.length : Int) (wrap64 ((y : Int) + 1))) R) → (¬ rowP 1 (rd_L2 m y) → R = false) →
      Ev (fun k => impl_BitsOk.l1 k m (m.length : Int) y (rd_L2 m y) ((rd_L2 m y).length : Int) i) R
  | 0, i, h, hj, h1, h2 => by
    have hr := h255.2 y hy
    refine Ev.step (fun k => ?_) (h1 ⟨hr.1, fun j hj2 => ⟨(hr.2 j hj2).1, hj j (by omega)⟩⟩)
    simp only [impl_BitsOk.l1]
    rw [if_neg (by omega)]
  | d + 1, i, h, hj, h1, h2 => by
    have hr := h255.2 y hy
    have hl := hr.1
    by_cases c : rd (rd_L2 m y) i > 1
    · rw [h2 fun q => by have := (q.2 i (by omega)).2; omega]
      refine Ev.step (f := fun _ => some false) (fun k => ?_) (Ev.now _)
      simp only [impl_BitsOk.l1]
      rw [if_pos (by omega), if_pos (by omega), if_pos (by omega), if_pos c]
    · refine Ev.step (fun k => ?_) (impl_BitsOk_l1 m h255 y hy R d (i + 1) (by omega) (fun j hj2 => ?_) h1 h2)
      · simp only [impl_BitsOk.l1]
        rw [if_pos (by omega), if_pos (by omega), if_pos (by omega), if_neg c, wsucc (by omega)]
      · by_cases e : j = i
        · subst e
          omega
        · exact hj j (by omega)
theorem impl_BitsOk_l0 (m : List (List Int)) (h255 : mat 255 m) : ∀ d i : Nat, i + d = m.length → (∀ j : Nat, j < i → rowP 1 (rd_L2 m j)) → Ev (fun k => impl_BitsOk.l0 k m (m.length : Int) i) (decide (mat 1 m))
  | 0, i, h, hj => by
    have hn := h255.1
    refine Ev.step (f := fun _ => some true) (fun k => ?_) ?_
    · simp only [impl_BitsOk.l0]
      rw [if_neg (by omega)]
    · rw [decide_eq_true (show mat 1 m from ⟨hn, fun j h1 => hj j (by omega)⟩)]
      exact Ev.now _
  | d + 1, i, h, hj => by
    have hn := h255.1
    refine Ev.step (f := fun k => impl_BitsOk.l1 k m (m.length : Int) i (rd_L2 m i) ((rd_L2 m i).length : Int) 0) (fun k => ?_) (impl_BitsOk_l1 m h255 i (by omega) _ (rd_L2 m i).length 0 (by omega) (fun j h1 => by omega) (fun hr => ?_) (fun hr => decide_eq_false fun q => hr (q.2 i (by omega))))
    · simp only [impl_BitsOk.l0]
      rw [if_pos (by omega), if_pos (by omega), if_pos (by omega)]
    · rw [wsucc (by omega)]
      refine impl_BitsOk_l0 m h255 d (i + 1) (by omega) (fun j h1 => ?_)
      by_cases e : j = i
      · subst e
        exact hr
      · exact hj j (by omega)
theorem impl_BitsOk_ev (m : List (List Int)) : Ev (fun k => impl_BitsOk.f k m) (decide (mat 1 m)) := by
  unfold impl_BitsOk.f
  refine (impl_RowsOk_ev m).bind ?_
  by_cases c : mat 255 m
  · exact ev_pos (decide_eq_true c) (impl_BitsOk_l0 m c m.length 0 (by omega) (fun j h => by omega))
  · rw [decide_eq_false (show ¬ mat 1 m from fun h => c (mat_mono (by omega) h))]
    exact ev_neg (by simp [c]) (Ev.now _)

theorem impl_copyRows_l0 (m : List (List Int)) (hs : small m) (hm : m.length ≤ 1048576) : ∀ d i : Nat, i + d = m.length → Ev (fun k => impl_copyRows.l0 k (m.take i) m (m.length : Int) i) m
  | 0, i, h => by
    refine Ev.step (f := fun _ => some m) (fun k => ?_) (Ev.now _)
    simp only [impl_copyRows.l0]
    rw [if_neg (by omega), List.take_of_length_le (show m.length ≤ i by omega)]
  | d + 1, i, h => by
    have hl := hs.2 i (by omega)
    refine Ev.step (fun k => ?_) (impl_copyRows_l0 m hs hm d (i + 1) (by omega))
    have e : slices_Clone_int_int.f (rd_L2 m i) = some (rd_L2 m i) := by
      unfold slices_Clone_int_int.f
      rw [if_pos (by omega)]
    simp only [impl_copyRows.l0, e, Option.bind_some]
    rw [if_pos (by omega), if_pos (by omega), if_pos (by omega), if_pos (by rw [List.length_take]; omega), wsucc (by omega), List.take_succ_eq_append_getElem (show i < m.length by omega), rows_mem (by omega)]
theorem impl_copyRows_ev (m : List (List Int)) (hs : tiny m) : Ev (fun k => impl_copyRows.f k m) m := by
  have := impl_copyRows_l0 m (tiny_small hs) hs.1 m.length 0 (by omega)
  unfold impl_copyRows.f
  simpa using this

theorem spread_at {a : List (List Int)} (h : mat 1 a) (x y : Int) : impl_SpreadBits_f.f x y a = some (atV a x y) := by
  unfold impl_SpreadBits_f.f
  by_cases c1 : x < 0
  · rw [if_pos c1, atV_off (.inl c1)]
  · rw [if_neg c1]
    by_cases c2 : x ≥ 32
    · rw [if_pos c2, atV_off (.inr (.inl c2))]
    · rw [if_neg c2]
      by_cases c3 : y < 0
      · rw [if_pos c3, atV_off (.inr (.inr (.inl c3)))]
      · rw [if_neg c3]
        by_cases c4 : y ≥ (a.length : Int)
        · rw [if_pos c4, atV_off (.inr (.inr (.inr c4)))]
        · rw [if_neg c4, if_pos (by omega), if_pos (by omega), if_pos (by omega), if_pos (by rw [mat_rowI h (by omega) (by omega)]; omega), atV_here (by omega) (by omega) (by omega) (by omega)]
theorem impl_Spread_l1 (R : List (List Int)) (a : List (List Int)) (h : mat 1 a) (y : Nat) (hy : y < a.length) : ∀ d x : Nat, x + d = 32 → Ev (fun k => impl_SpreadBits.l0 k a (tab (spF a) y ++ tabRow (spF a) y 32 :: a.drop (y + 1)) (a.length : Int) (wrap64 ((y : Int) + 1))) R → Ev (fun k => impl_SpreadBits.l1 k a (tab (spF a) y ++ (tabRow (spF a) y x ++ (rd_L2 a y).drop x) :: a.drop (y + 1)) y (a.length : Int) y 32 x) R
  | 0, x, hd, e => by
    have hl := (h.2 y hy).1
    obtain rfl : x = 32 := by omega
    refine Ev.step (fun k => ?_) e
    simp only [impl_SpreadBits.l1]
    rw [if_neg (by omega), List.drop_of_length_le (by omega), List.append_nil]
  | d + 1, x, hd, e => by
    have hl := (h.2 y hy).1
    have hn := h.1
    have hd1 := dots_drop (rd_L2 a y) (i := x) (by omega)
    have w1 : wrap64 ((x : Int) - 1) = (x : Int) - 1 := w64 (by omega) (by omega)
    have w2 : wrap64 ((x : Int) + 1) = (x : Int) + 1 := w64 (by omega) (by omega)
    have w3 : wrap64 ((y : Int) - 1) = (y : Int) - 1 := w64 (by omega) (by omega)
    have w4 : wrap64 ((y : Int) + 1) = (y : Int) + 1 := w64 (by omega) (by omega)
    have hv : mx (mx (mx (mx (atV a x y) (atV a ((x : Int) - 1) y)) (atV a ((x : Int) + 1) y)) (atV a x ((y : Int) - 1))) (atV a x ((y : Int) + 1)) = spF a y x := rfl
    have ih := impl_Spread_l1 R a h y hy d (x + 1) (by omega) e
    have ex : ((x + 1 : Nat) : Int) = (x : Int) + 1 := rfl
    rw [ex, tabRow_snoc, List.append_assoc, List.singleton_append] at ih
    refine Ev.step (fun k => ?_) ih
    simp only [impl_SpreadBits.l1, w1, w2, w3, w4, spread_at h, Option.bind_some, hv]
    rw [if_pos (by omega), if_pos (by omega), if_pos (by simp only [List.length_append, List.length_cons, List.length_drop, tab_length]; omega), if_pos (by omega), rows_mid _ _ _ _ (tab_length _ _),
      if_pos (by simp only [List.length_append, List.length_drop, tabRow_length]; omega), Int.toNat_natCast, Int.toNat_natCast, hd1, set_mid _ _ _ _ _ (tabRow_length _ _ _), set_midL _ _ _ _ _ (tab_length _ _)]
theorem impl_Spread_l0 (a : List (List Int)) (h : mat 1 a) : ∀ d y : Nat, y + d = a.length → Ev (fun k => impl_SpreadBits.l0 k a (tab (spF a) y ++ a.drop y) (a.length : Int) y) (tab (spF a) a.length)
  | 0, y, hd => by
    obtain rfl : y = a.length := by omega
    refine Ev.step (f := fun _ => some (tab (spF a) a.length)) (fun k => ?_) (Ev.now _)
    simp only [impl_SpreadBits.l0]
    rw [if_neg (by omega), List.drop_of_length_le (by omega), List.append_nil]
  | d + 1, y, hd => by
    have hn := h.1
    have hl := (h.2 y (by omega)).1
    refine Ev.step (f := fun k => impl_SpreadBits.l1 k a (tab (spF a) y ++ (tabRow (spF a) y 0 ++ (rd_L2 a y).drop 0) :: a.drop (y + 1)) y (a.length : Int) y 32 (0 : Nat)) (fun k => ?_) (impl_Spread_l1 _ a h y (by omega) 32 0 (by omega) ?_)
    · simp only [impl_SpreadBits.l0]
      rw [if_pos (by omega), if_pos (by omega), if_pos (by simp only [List.length_append, List.length_drop, tab_length]; omega), rows_drop a (by omega), rows_mid _ _ _ _ (tab_length _ _), hl]
      rfl
    · have e : tab (spF a) y ++ tabRow (spF a) y 32 :: a.drop (y + 1) = tab (spF a) (y + 1) ++ a.drop (y + 1) := by rw [tab_snoc, List.append_assoc]; rfl
      rw [wsucc (by omega), e]
      exact impl_Spread_l0 a h d (y + 1) (by omega)
theorem impl_Spread_ev (a : List (List Int)) (ht : tiny a) : Ev (fun k => impl_SpreadBits.f k a) (spV a) := by
  unfold impl_SpreadBits.f spV
  refine (impl_BitsOk_ev a).bind ?_
  by_cases c1 : mat 1 a
  · rw [if_pos c1]
    exact ev_pos (decide_eq_true c1) ((impl_copyRows_ev a ht).bind (impl_Spread_l0 a c1 a.length 0 (by omega)))
  · rw [if_neg c1]
    exact ev_neg (by simp [c1]) (Ev.now _)

theorem impl_Meet_l1 (R : List (List Int) × Bool) (a b : List (List Int)) (h : bothOk a b) (y : Nat) (hy : y < a.length) : ∀ d x : Nat, x + d = 32 → Ev (fun k => impl_bitsOf_MeetBits.l0 k a b (tab (bothF true a b) y ++ tabRow (bothF true a b) y 32 :: a.drop (y + 1)) (a.length : Int) (wrap64 ((y : Int) + 1))) R → Ev (fun k => impl_bitsOf_MeetBits.l1 k a b (tab (bothF true a b) y ++ (tabRow (bothF true a b) y x ++ (rd_L2 a y).drop x) :: a.drop (y + 1)) y (a.length : Int) y 32 x) R
  | 0, x, hd, e => by
    have hl := (h.1.2 y hy).1
    obtain rfl : x = 32 := by omega
    refine Ev.step (fun k => ?_) e
    simp only [impl_bitsOf_MeetBits.l1]
    rw [if_neg (by omega), List.drop_of_length_le (by omega), List.append_nil]
  | d + 1, x, hd, e => by
    have hb : y < b.length := by rw [← h.2.2]; exact hy
    have hl := (h.1.2 y hy).1
    have hl2 := (h.2.1.2 y hb).1
    have hn := h.1.1
    have hd1 := dots_drop (rd_L2 a y) (i := x) (by omega)
    refine Ev.step (fun k => ?_) (impl_Meet_l1 R a b h y hy d (x + 1) (by omega) e)
    simp only [impl_bitsOf_MeetBits.l1, impl_MeetBits_f.f, Option.bind_some]
    rw [if_pos (by omega), if_pos (by omega), if_pos (by simp only [List.length_append, List.length_cons, List.length_drop, tab_length]; omega), if_pos (by omega), if_pos (by omega), if_pos (by omega), if_pos (by omega), if_pos (by omega), rows_mid _ _ _ _ (tab_length _ _),
      if_pos (by simp only [List.length_append, List.length_drop, tabRow_length]; omega), wsucc (by omega), Int.toNat_natCast, Int.toNat_natCast, hd1, set_mid _ _ _ _ _ (tabRow_length _ _ _), set_midL _ _ _ _ _ (tab_length _ _), tabRow_snoc, List.append_assoc]
    rfl
theorem impl_Meet_l0 (a b : List (List Int)) (h : bothOk a b) : ∀ d y : Nat, y + d = a.length → Ev (fun k => impl_bitsOf_MeetBits.l0 k a b (tab (bothF true a b) y ++ a.drop y) (a.length : Int) y) (tab (bothF true a b) a.length, true)
  | 0, y, hd => by
    obtain rfl : y = a.length := by omega
    refine Ev.step (f := fun _ => some (tab (bothF true a b) a.length, true)) (fun k => ?_) (Ev.now _)
    simp only [impl_bitsOf_MeetBits.l0]
    rw [if_neg (by omega), List.drop_of_length_le (by omega), List.append_nil]
  | d + 1, y, hd => by
    have hn := h.1.1
    have hl := (h.1.2 y (by omega)).1
    refine Ev.step (f := fun k => impl_bitsOf_MeetBits.l1 k a b (tab (bothF true a b) y ++ (tabRow (bothF true a b) y 0 ++ (rd_L2 a y).drop 0) :: a.drop (y + 1)) y (a.length : Int) y 32 (0 : Nat)) (fun k => ?_) (impl_Meet_l1 _ a b h y (by omega) 32 0 (by omega) ?_)
    · simp only [impl_bitsOf_MeetBits.l0]
      rw [if_pos (by omega), if_pos (by omega), if_pos (by simp only [List.length_append, List.length_drop, tab_length]; omega), rows_drop a (by omega), rows_mid _ _ _ _ (tab_length _ _), hl]
      rfl
    · have e : tab (bothF true a b) y ++ tabRow (bothF true a b) y 32 :: a.drop (y + 1) = tab (bothF true a b) (y + 1) ++ a.drop (y + 1) := by rw [tab_snoc, List.append_assoc]; rfl
      rw [wsucc (by omega), e]
      exact impl_Meet_l0 a b h d (y + 1) (by omega)
theorem impl_Meet_ev (a b : List (List Int)) (ht : tiny a) : Ev (fun k => impl_MeetBits.f k a b) (bothV true a b) := by
  have stop : Ev (fun k => impl_bitsOf_MeetBits.j0 k a b true) (([], false) : List (List Int) × Bool) := by
    refine Ev.step (f := fun _ => some ([], false)) (fun k => ?_) (Ev.now _)
    simp only [impl_bitsOf_MeetBits.j0]
    rfl
  suffices e : Ev (fun k => impl_bitsOf_MeetBits.f k a b) (bothV true a b) by
    unfold impl_MeetBits.f
    exact e.bind (Ev.now _)
  unfold impl_bitsOf_MeetBits.f
  refine (impl_BitsOk_ev a).bind ?_
  by_cases c1 : mat 1 a
  · refine ev_pos (decide_eq_true c1) ((impl_BitsOk_ev b).bind ?_)
    by_cases c2 : mat 1 b
    · refine ev_pos (decide_eq_true c2) ?_
      by_cases c3 : a.length = b.length
      · have e3 : ((a.length : Int) != (b.length : Int)) = false := by rw [c3]; simp
        unfold bothV
        rw [if_pos (c := bothOk a b) ⟨c1, c2, c3⟩, e3]
        refine Ev.step (f := fun k => (impl_copyRows.f k a).bind fun t => impl_bitsOf_MeetBits.l0 k a b t (t.length : Int) 0) (fun k => ?_) ((impl_copyRows_ev a ht).bind (impl_Meet_l0 a b ⟨c1, c2, c3⟩ a.length 0 (by omega)))
        simp only [impl_bitsOf_MeetBits.j0]
        rfl
      · have e3 : ((a.length : Int) != (b.length : Int)) = true := by simp; omega
        unfold bothV
        rw [if_neg (c := bothOk a b) (fun q => c3 q.2.2), e3]
        exact stop
    · unfold bothV
      rw [if_neg (c := bothOk a b) (fun q => c2 q.2.1)]
      exact ev_neg (by simp [c2]) stop
  · unfold bothV
    rw [if_neg (c := bothOk a b) (fun q => c1 q.1)]
    exact ev_neg (by simp [c1]) stop

theorem impl_Join_l1 (R : List (List Int) × Bool) (a b : List (List Int)) (h : bothOk a b) (y : Nat) (hy : y < a.length) : ∀ d x : Nat, x + d = 32 → Ev (fun k => impl_bitsOf_JoinBits.l0 k a b (tab (bothF false a b) y ++ tabRow (bothF false a b) y 32 :: a.drop (y + 1)) (a.length : Int) (wrap64 ((y : Int) + 1))) R → Ev (fun k => impl_bitsOf_JoinBits.l1 k a b (tab (bothF false a b) y ++ (tabRow (bothF false a b) y x ++ (rd_L2 a y).drop x) :: a.drop (y + 1)) y (a.length : Int) y 32 x) R
  | 0, x, hd, e => by
    have hl := (h.1.2 y hy).1
    obtain rfl : x = 32 := by omega
    refine Ev.step (fun k => ?_) e
    simp only [impl_bitsOf_JoinBits.l1]
    rw [if_neg (by omega), List.drop_of_length_le (by omega), List.append_nil]
  | d + 1, x, hd, e => by
    have hb : y < b.length := by rw [← h.2.2]; exact hy
    have hl := (h.1.2 y hy).1
    have hl2 := (h.2.1.2 y hb).1
    have hn := h.1.1
    have hd1 := dots_drop (rd_L2 a y) (i := x) (by omega)
    refine Ev.step (fun k => ?_) (impl_Join_l1 R a b h y hy d (x + 1) (by omega) e)
    simp only [impl_bitsOf_JoinBits.l1, impl_JoinBits_f.f, Option.bind_some]
    rw [if_pos (by omega), if_pos (by omega), if_pos (by simp only [List.length_append, List.length_cons, List.length_drop, tab_length]; omega), if_pos (by omega), if_pos (by omega), if_pos (by omega), if_pos (by omega), if_pos (by omega), rows_mid _ _ _ _ (tab_length _ _),
      if_pos (by simp only [List.length_append, List.length_drop, tabRow_length]; omega), wsucc (by omega), Int.toNat_natCast, Int.toNat_natCast, hd1, set_mid _ _ _ _ _ (tabRow_length _ _ _), set_midL _ _ _ _ _ (tab_length _ _), tabRow_snoc, List.append_assoc]
    rfl
theorem impl_Join_l0 (a b : List (List Int)) (h : bothOk a b) : ∀ d y : Nat, y + d = a.length → Ev (fun k => impl_bitsOf_JoinBits.l0 k a b (tab (bothF false a b) y ++ a.drop y) (a.length : Int) y) (tab (bothF false a b) a.length, true)
  | 0, y, hd => by
    obtain rfl : y = a.length := by omega
    refine Ev.step (f := fun _ => some (tab (bothF false a b) a.length, true)) (fun k => ?_) (Ev.now _)
    simp only [impl_bitsOf_JoinBits.l0]
    rw [if_neg (by omega), List.drop_of_length_le (by omega), List.append_nil]
  | d + 1, y, hd => by
    have hn := h.1.1
    have hl := (h.1.2 y (by omega)).1
    refine Ev.step (f := fun k => impl_bitsOf_JoinBits.l1 k a b (tab (bothF false a b) y ++ (tabRow (bothF false a b) y 0 ++ (rd_L2 a y).drop 0) :: a.drop (y + 1)) y (a.length : Int) y 32 (0 : Nat)) (fun k => ?_) (impl_Join_l1 _ a b h y (by omega) 32 0 (by omega) ?_)
    · simp only [impl_bitsOf_JoinBits.l0]
      rw [if_pos (by omega), if_pos (by omega), if_pos (by simp only [List.length_append, List.length_drop, tab_length]; omega), rows_drop a (by omega), rows_mid _ _ _ _ (tab_length _ _), hl]
      rfl
    · have e : tab (bothF false a b) y ++ tabRow (bothF false a b) y 32 :: a.drop (y + 1) = tab (bothF false a b) (y + 1) ++ a.drop (y + 1) := by rw [tab_snoc, List.append_assoc]; rfl
      rw [wsucc (by omega), e]
      exact impl_Join_l0 a b h d (y + 1) (by omega)
theorem impl_Join_ev (a b : List (List Int)) (ht : tiny a) : Ev (fun k => impl_JoinBits.f k a b) (bothV false a b) := by
  have stop : Ev (fun k => impl_bitsOf_JoinBits.j0 k a b true) (([], false) : List (List Int) × Bool) := by
    refine Ev.step (f := fun _ => some ([], false)) (fun k => ?_) (Ev.now _)
    simp only [impl_bitsOf_JoinBits.j0]
    rfl
  suffices e : Ev (fun k => impl_bitsOf_JoinBits.f k a b) (bothV false a b) by
    unfold impl_JoinBits.f
    exact e.bind (Ev.now _)
  unfold impl_bitsOf_JoinBits.f
  refine (impl_BitsOk_ev a).bind ?_
  by_cases c1 : mat 1 a
  · refine ev_pos (decide_eq_true c1) ((impl_BitsOk_ev b).bind ?_)
    by_cases c2 : mat 1 b
    · refine ev_pos (decide_eq_true c2) ?_
      by_cases c3 : a.length = b.length
      · have e3 : ((a.length : Int) != (b.length : Int)) = false := by rw [c3]; simp
        unfold bothV
        rw [if_pos (c := bothOk a b) ⟨c1, c2, c3⟩, e3]
        refine Ev.step (f := fun k => (impl_copyRows.f k a).bind fun t => impl_bitsOf_JoinBits.l0 k a b t (t.length : Int) 0) (fun k => ?_) ((impl_copyRows_ev a ht).bind (impl_Join_l0 a b ⟨c1, c2, c3⟩ a.length 0 (by omega)))
        simp only [impl_bitsOf_JoinBits.j0]
        rfl
      · have e3 : ((a.length : Int) != (b.length : Int)) = true := by simp; omega
        unfold bothV
        rw [if_neg (c := bothOk a b) (fun q => c3 q.2.2), e3]
        exact stop
    · unfold bothV
      rw [if_neg (c := bothOk a b) (fun q => c2 q.2.1)]
      exact ev_neg (by simp [c2]) stop
  · unfold bothV
    rw [if_neg (c := bothOk a b) (fun q => c1 q.1)]
    exact ev_neg (by simp [c1]) stop

theorem impl_Trap_ev (a b : List (List Int)) (ht : tiny a) : Ev (fun k => impl_TrapBits.f k a b) (trapV a b) := by
  have stop : Ev (fun k => impl_TrapBits.j0 k a b true) (([], false) : List (List Int) × Bool) := by
    refine Ev.step (f := fun _ => some ([], false)) (fun k => ?_) (Ev.now _)
    simp only [impl_TrapBits.j0]
    rfl
  unfold impl_TrapBits.f trapV
  refine (impl_BitsOk_ev a).bind ?_
  by_cases c1 : mat 1 a
  · refine ev_pos (decide_eq_true c1) ((impl_BitsOk_ev b).bind ?_)
    by_cases c2 : mat 1 b
    · refine ev_pos (decide_eq_true c2) ?_
      by_cases c3 : a.length = b.length
      · have e3 : ((a.length : Int) != (b.length : Int)) = false := by rw [c3]; simp
        rw [if_pos (c := bothOk a b) ⟨c1, c2, c3⟩, e3]
        refine Ev.step (f := fun k => (impl_SpreadBits.f k a).bind fun t => (impl_MeetBits.f k t b).bind fun u => (impl_JoinBits.f k a u.1).bind fun v => some (v.1, v.2)) (fun k => ?_) ((impl_Spread_ev a ht).bind ((impl_Meet_ev (spV a) b (spV_tiny a)).bind ((impl_Join_ev a _ ht).bind (Ev.now _))))
        simp only [impl_TrapBits.j0]
        rfl
      · have e3 : ((a.length : Int) != (b.length : Int)) = true := by simp; omega
        rw [if_neg (c := bothOk a b) (fun q => c3 q.2.2), e3]
        exact stop
    · rw [if_neg (c := bothOk a b) (fun q => c2 q.2.1)]
      exact ev_neg (by simp [c2]) stop
  · rw [if_neg (c := bothOk a b) (fun q => c1 q.1)]
    exact ev_neg (by simp [c1]) stop

/-- How often v stands in a row from place i on, d places. -/
def countRow (v : Int) (r : List Int) : Nat → Nat → Int
  | 0, _ => 0
  | d + 1, i => (if rd r i = v then 1 else 0) + countRow v r d (i + 1)
/-- How often v stands in the rows from y on, d rows. -/
def countRows (v : Int) (m : List (List Int)) : Nat → Nat → Int
  | 0, _ => 0
  | d + 1, y => countRow v (rd_L2 m y) (rd_L2 m y).length 0 + countRows v m d (y + 1)
theorem countRow_in (v : Int) (r : List Int) : ∀ d i, 0 ≤ countRow v r d i ∧ countRow v r d i ≤ d
  | 0, i => by simp [countRow]
  | d + 1, i => by
    have := countRow_in v r d (i + 1)
    unfold countRow
    split <;> omega
/-- The number of v in the rows. -/
def countOf (v : Int) (m : List (List Int)) : Int := countRows v m m.length 0

theorem impl_Count_l1 (v R : Int) (m : List (List Int)) (h : mat 255 m) (y : Nat) (hy : y < m.length) : ∀ (d i : Nat) (s : Int), i + d = (rd_L2 m y).length → 0 ≤ s → s ≤ 2000 + i → Ev (fun k => impl_CountValue.l0 k v (s + countRow v (rd_L2 m y) d i) m (m.length : Int) (wrap64 ((y : Int) + 1))) R → Ev (fun k => impl_CountValue.l1 k v s m (m.length : Int) y (rd_L2 m y) ((rd_L2 m y).length : Int) i) R
  | 0, i, s, hd, h0, h1, e => by
    refine Ev.step (fun k => ?_) e
    simp only [impl_CountValue.l1, countRow]
    rw [if_neg (by omega), Int.add_zero]
  | d + 1, i, s, hd, h0, h1, e => by
    have hl := (h.2 y hy).1
    by_cases c : rd (rd_L2 m y) i = v
    · refine Ev.step (fun k => ?_) (impl_Count_l1 v R m h y hy d (i + 1) (s + 1) (by omega) (by omega) (by omega) ?_)
      · simp only [impl_CountValue.l1]
        rw [if_pos (by omega), if_pos (by omega), if_pos (by omega), if_pos c, w64 (n := s + 1) (by omega) (by omega), wsucc (by omega)]
      · simp only [countRow] at e
        rw [if_pos c, ← Int.add_assoc] at e
        exact e
    · refine Ev.step (fun k => ?_) (impl_Count_l1 v R m h y hy d (i + 1) s (by omega) (by omega) (by omega) ?_)
      · simp only [impl_CountValue.l1]
        rw [if_pos (by omega), if_pos (by omega), if_pos (by omega), if_neg c, wsucc (by omega)]
      · simp only [countRow] at e
        rw [if_neg c, Int.zero_add] at e
        exact e
theorem impl_Count_l0 (v : Int) (m : List (List Int)) (h : mat 255 m) : ∀ (d y : Nat) (s : Int), y + d = m.length → 0 ≤ s → s ≤ 32 * y → Ev (fun k => impl_CountValue.l0 k v s m (m.length : Int) y) (s + countRows v m d y)
  | 0, y, s, hd, h0, h1 => by
    refine Ev.step (f := fun _ => some s) (fun k => ?_) (by simp only [countRows, Int.add_zero]; exact Ev.now _)
    simp only [impl_CountValue.l0]
    rw [if_neg (by omega)]
  | d + 1, y, s, hd, h0, h1 => by
    have hn := h.1
    have hl := (h.2 y (by omega)).1
    have h2 := countRow_in v (rd_L2 m y) (rd_L2 m y).length 0
    refine Ev.step (f := fun k => impl_CountValue.l1 k v s m (m.length : Int) y (rd_L2 m y) ((rd_L2 m y).length : Int) 0) (fun k => ?_) (impl_Count_l1 v _ m h y (by omega) (rd_L2 m y).length 0 s (by omega) h0 (by omega) ?_)
    · simp only [impl_CountValue.l0]
      rw [if_pos (by omega), if_pos (by omega), if_pos (by omega)]
    · rw [wsucc (by omega)]
      simp only [countRows]
      rw [← Int.add_assoc]
      exact impl_Count_l0 v m h d (y + 1) _ (by omega) (by omega) (by omega)
theorem impl_Count_ev (v : Int) (m : List (List Int)) (h : mat 255 m) : Ev (fun k => impl_CountValue.f k m v) (countOf v m) := by
  have := impl_Count_l0 v m h m.length 0 0 (by omega) (by omega) (by omega)
  rw [Int.zero_add] at this
  exact this

theorem impl_Ones_ev (m : List (List Int)) : Ev (fun k => impl_CountOnes.f k m) (if mat 1 m then countOf 1 m else 0) := by
  unfold impl_CountOnes.f
  refine (impl_BitsOk_ev m).bind ?_
  by_cases c : mat 1 m
  · rw [if_pos (c := mat 1 m) c]
    exact ev_pos (decide_eq_true c) ((impl_Count_ev 1 m (mat_mono (by omega) c)).bind (Ev.now _))
  · rw [if_neg (c := mat 1 m) c]
    exact ev_neg (by simp [c]) (Ev.now _)

theorem l01In_eq (a b c : Int) : spec_l01In.f a b c = some (decide (b ≤ a ∧ a ≤ c)) := by
  unfold spec_l01In.f
  by_cases h : a ≥ b
  · rw [if_pos h]
    simp [show b ≤ a from h]
  · rw [if_neg h]
    simp [show ¬ b ≤ a from h]

theorem spec_l11Row_l0 (a : List Int) (hn : a.length ≤ 1099511627776) :
    ∀ d i : Nat, i + d = a.length → (∀ j : Nat, j < i → 0 ≤ rd a j ∧ rd a j ≤ 255) → Ev (fun k => spec_l11Row.l0 k a i) (decide (rowP 255 a))
  | 0, i, h, hj => by
    refine Ev.step (f := fun _ => some ((a.length : Int) == 32)) (fun k => ?_) ?_
    · simp only [spec_l11Row.l0]
      rw [if_neg (by omega)]
    · rw [show ((a.length : Int) == 32) = decide (rowP 255 a) from by
        rw [Bool.eq_iff_iff]
        simp only [beq_iff_eq, decide_eq_true_eq]
        exact ⟨fun q => ⟨by omega, fun j h1 => hj j (by omega)⟩, fun q => by rw [q.1]; rfl⟩]
      exact Ev.now _
  | d + 1, i, h, hj => by
    by_cases c : 0 ≤ rd a i ∧ rd a i ≤ 255
    · refine Ev.step (f := fun k => spec_l11Row.l0 k a ((i + 1 : Nat) : Int)) (fun k => ?_) (spec_l11Row_l0 a hn d (i + 1) (by omega) (fun j h1 => ?_))
      · simp only [spec_l11Row.l0, l01In_eq, Option.bind_some]
        rw [if_pos (by omega), if_pos (by omega), if_pos (decide_eq_true c), wsucc (by omega)]
      · by_cases e : j = i
        · subst e
          exact c
        · exact hj j (by omega)
    · refine Ev.step (f := fun _ => some false) (fun k => ?_) ?_
      · simp only [spec_l11Row.l0, l01In_eq, Option.bind_some]
        rw [if_pos (by omega), if_pos (by omega), if_neg (by simp only [decide_eq_true_eq]; exact c)]
      · rw [decide_eq_false (show ¬ rowP 255 a from fun h3 => c (h3.2 i (by omega)))]
        exact Ev.now _
theorem spec_l11Row_ev (a : List Int) (hn : a.length ≤ 1099511627776) : Ev (fun k => spec_l11Row.f k a) (decide (rowP 255 a)) :=
  spec_l11Row_l0 a hn a.length 0 (by omega) (fun j h => by omega)
theorem spec_RowsOk_l0 (m : List (List Int)) (hs : small m) :
    ∀ d i : Nat, i + d = m.length → (∀ j : Nat, j < i → rowP 255 (rd_L2 m j)) → Ev (fun k => spec_RowsOk.l0 k m i) (decide (mat 255 m))
  | 0, i, h, hj => by
    refine Ev.step (f := fun _ => some (decide ((m.length : Int) ≤ 32))) (fun k => ?_) ?_
    · simp only [spec_RowsOk.l0]
      rw [if_neg (by omega)]
    · rw [show decide ((m.length : Int) ≤ 32) = decide (mat 255 m) from decide_eq_decide.mpr ⟨fun q => ⟨by omega, fun j h1 => hj j (by omega)⟩, fun q => by have := q.1; omega⟩]
      exact Ev.now _
  | d + 1, i, h, hj => by
    have hn := hs.1
    refine Ev.step (f := fun k => (spec_l11Row.f k (rd_L2 m i)).bind fun t => if t = true then spec_RowsOk.l0 k m ((i + 1 : Nat) : Int) else some false) (fun k => ?_) ((spec_l11Row_ev (rd_L2 m i) (hs.2 i (by omega))).bind ?_)
    · simp only [spec_RowsOk.l0]
      rw [if_pos (by omega), if_pos (by omega), wsucc (by omega)]
    · by_cases c : rowP 255 (rd_L2 m i)
      · refine ev_pos (decide_eq_true c) (spec_RowsOk_l0 m hs d (i + 1) (by omega) (fun j h1 => ?_))
        by_cases e : j = i
        · subst e
          exact c
        · exact hj j (by omega)
      · rw [decide_eq_false (show ¬ mat 255 m from fun h3 => c (h3.2 i (by omega)))]
        exact ev_neg (by simp [c]) (Ev.now _)
theorem spec_RowsOk_ev (m : List (List Int)) (hs : small m) : Ev (fun k => spec_RowsOk.f k m) (decide (mat 255 m)) :=
  spec_RowsOk_l0 m hs m.length 0 (by omega) (fun j h => by omega)

theorem spec_BitsOk_l1 (m : List (List Int)) (hs : small m) (y : Nat) (hy : y < m.length) (R : Bool) :
    ∀ d i : Nat, i + d = (rd_L2 m y).length → (∀ j : Nat, j < i → 0 ≤ rd (rd_L2 m y) j ∧ rd (rd_L2 m y) j ≤ 1) → ((∀ j : Nat, j < (rd_L2 m y).length → 0 ≤ rd (rd_L2 m y) j ∧ rd (rd_L2 m y) j ≤ 1) → Ev (fun k => spec_BitsOk.l0 k m (wrap64 ((y : Int) + 1))) R) → (¬ rowP 1 (rd_L2 m y) → R = false) →
      Ev (fun k => spec_BitsOk.l1 k m y i) R
  | 0, i, h, hj, h1, h2 => by
    refine Ev.step (fun k => ?_) (h1 fun j hj2 => hj j (by omega))
    simp only [spec_BitsOk.l1]
    rw [if_pos (by omega), if_pos (by omega), if_neg (by omega)]
  | d + 1, i, h, hj, h1, h2 => by
    have hl := hs.2 y hy
    by_cases c : 0 ≤ rd (rd_L2 m y) i ∧ rd (rd_L2 m y) i ≤ 1
    · refine Ev.step (fun k => ?_) (spec_BitsOk_l1 m hs y hy R d (i + 1) (by omega) (fun j hj2 => ?_) h1 h2)
      · simp only [spec_BitsOk.l1, l01In_eq, Option.bind_some]
        rw [if_pos (by omega), if_pos (by omega), if_pos (by omega), if_pos (by omega), if_pos (decide_eq_true c), wsucc (by omega)]
      · by_cases e : j = i
        · subst e
          exact c
        · exact hj j (by omega)
    · rw [h2 fun q => c (q.2 i (by omega))]
      refine Ev.step (f := fun _ => some false) (fun k => ?_) (Ev.now _)
      simp only [spec_BitsOk.l1, l01In_eq, Option.bind_some]
      rw [if_pos (by omega), if_pos (by omega), if_pos (by omega), if_pos (by omega), if_neg (by simp only [decide_eq_true_eq]; exact c)]
theorem spec_BitsOk_l0 (m : List (List Int)) (hs : small m) : ∀ d i : Nat, i + d = m.length → (∀ j : Nat, j < i → ∀ x : Nat, x < (rd_L2 m j).length → 0 ≤ rd (rd_L2 m j) x ∧ rd (rd_L2 m j) x ≤ 1) → Ev (fun k => spec_BitsOk.l0 k m i) (decide (mat 1 m))
  | 0, i, h, hj => by
    refine Ev.step (f := fun k => (spec_RowsOk.f k m).bind fun t => some t) (fun k => ?_) ((spec_RowsOk_ev m hs).bind ?_)
    · simp only [spec_BitsOk.l0]
      rw [if_neg (by omega)]
    · rw [show decide (mat 255 m) = decide (mat 1 m) from decide_eq_decide.mpr ⟨fun q => ⟨q.1, fun j h1 => ⟨(q.2 j h1).1, fun x hx => hj j (by omega) x hx⟩⟩, fun q => mat_mono (by omega) q⟩]
      exact Ev.now _
  | d + 1, i, h, hj => by
    have hn := hs.1
    refine Ev.step (f := fun k => spec_BitsOk.l1 k m i 0) (fun k => ?_) (spec_BitsOk_l1 m hs i (by omega) _ (rd_L2 m i).length 0 (by omega) (fun j h1 => by omega) (fun hr => ?_) (fun hr => decide_eq_false fun q => hr (q.2 i (by omega))))
    · simp only [spec_BitsOk.l0]
      rw [if_pos (by omega)]
    · rw [wsucc (by omega)]
      refine spec_BitsOk_l0 m hs d (i + 1) (by omega) (fun j h1 => ?_)
      by_cases e : j = i
      · subst e
        exact hr
      · exact hj j (by omega)
theorem spec_BitsOk_ev (m : List (List Int)) (hs : small m) : Ev (fun k => spec_BitsOk.f k m) (decide (mat 1 m)) :=
  spec_BitsOk_l0 m hs m.length 0 (by omega) (fun j h => by omega)

theorem tabRow_congr {F G : Nat → Nat → Int} {y n : Nat} (h : ∀ x, x < n → F y x = G y x) : tabRow F y n = tabRow G y n := by
  unfold tabRow
  exact List.map_congr_left fun x hx => h x (List.mem_range.1 hx)
theorem tab_congr {F G : Nat → Nat → Int} {n : Nat} (h : ∀ y x, y < n → x < 32 → F y x = G y x) : tab F n = tab G n := by
  unfold tab
  exact List.map_congr_left fun y hy => tabRow_congr fun x hx => h y x (List.mem_range.1 hy) hx
theorem tabRow_self {r : List Int} (F : Nat → Nat → Int) (y : Nat) (hF : ∀ x, x < r.length → F y x = rd r x) : tabRow F y r.length = r := by
  apply List.ext_getElem
  · rw [tabRow_length]
  · intro i h1 h2
    simp only [tabRow, List.getElem_map, List.getElem_range]
    rw [hF i h2, rd_nat, List.getD_eq_getElem?_getD, List.getElem?_eq_getElem h2]
    rfl
/-- Rows of 32 are told by their dots. -/
theorem tab_self {hi : Int} {m : List (List Int)} (h : mat hi m) : tab (fun y x => rd (rd_L2 m y) x) m.length = m := by
  apply List.ext_getElem
  · rw [tab_length]
  · intro i h1 h2
    have hr := (h.2 i h2).1
    have e := tabRow_self (r := rd_L2 m i) (fun y x => rd (rd_L2 m y) x) i (fun _ _ => rfl)
    rw [hr, rows_mem h2] at e
    simp only [tab, List.getElem_map, List.getElem_range]
    exact e
theorem tab_eq {hi : Int} {m : List (List Int)} (h : mat hi m) {F : Nat → Nat → Int} (hF : ∀ y x, y < m.length → x < 32 → F y x = rd (rd_L2 m y) x) : tab F m.length = m := (tab_congr hF).trans (tab_self h)
theorem tab_get (F : Nat → Nat → Int) {n y x : Nat} (hy : y < n) (hx : x < 32) : rd (rd_L2 (tab F n) y) x = F y x := by rw [tab_row F hy, tabRow_get F y hx]
theorem mat_small {hi : Int} {m : List (List Int)} (h : mat hi m) : small m := ⟨by have := h.1; omega, fun j hj => by have := (h.2 j hj).1; omega⟩
theorem mat_tiny {hi : Int} {m : List (List Int)} (h : mat hi m) : tiny m := ⟨by have := h.1; omega, fun j hj => by have := (h.2 j hj).1; omega⟩
/-- 1 where v stands, else 0. -/
def one (v : Int) (u : Int) : Int := if u = v then 1 else 0
theorem countRow_add {m j a b : List Int} : ∀ d i : Nat, (∀ x : Nat, i ≤ x → x < i + d → one 1 (rd m x) + one 1 (rd j x) = one 1 (rd a x) + one 1 (rd b x)) → countRow 1 m d i + countRow 1 j d i = countRow 1 a d i + countRow 1 b d i
  | 0, i, _ => rfl
  | d + 1, i, h => by
    have ih := countRow_add d (i + 1) (fun x h1 h2 => h x (by omega) (by omega))
    have h0 := h i (by omega) (by omega)
    unfold one at h0
    simp only [countRow]
    omega
theorem countRows_add {m j a b : List (List Int)} : ∀ d y : Nat, (∀ i, y ≤ i → i < y + d → (rd_L2 m i).length = 32 ∧ (rd_L2 j i).length = 32 ∧ (rd_L2 a i).length = 32 ∧ (rd_L2 b i).length = 32 ∧ ∀ x : Nat, x < 32 → one 1 (rd (rd_L2 m i) x) + one 1 (rd (rd_L2 j i) x) = one 1 (rd (rd_L2 a i) x) + one 1 (rd (rd_L2 b i) x)) →
    countRows 1 m d y + countRows 1 j d y = countRows 1 a d y + countRows 1 b d y
  | 0, y, _ => rfl
  | d + 1, y, h => by
    have ih := countRows_add d (y + 1) (fun i h1 h2 => h i (by omega) (by omega))
    obtain ⟨l1, l2, l3, l4, h0⟩ := h y (by omega) (by omega)
    have h1 := countRow_add (m := rd_L2 m y) (j := rd_L2 j y) (a := rd_L2 a y) (b := rd_L2 b y) 32 0 (fun x _ hx => h0 x (by omega))
    simp only [countRows, l1, l2, l3, l4]
    omega
theorem countRow_le {m a : List Int} : ∀ d i : Nat, (∀ x : Nat, i ≤ x → x < i + d → one 1 (rd m x) ≤ one 1 (rd a x)) → countRow 1 m d i ≤ countRow 1 a d i
  | 0, i, _ => Int.le_refl _
  | d + 1, i, h => by
    have ih := countRow_le d (i + 1) (fun x h1 h2 => h x (by omega) (by omega))
    have h0 := h i (by omega) (by omega)
    unfold one at h0
    simp only [countRow]
    omega
theorem countRows_le {m a : List (List Int)} : ∀ d y : Nat, (∀ i, y ≤ i → i < y + d → (rd_L2 m i).length = 32 ∧ (rd_L2 a i).length = 32 ∧ ∀ x : Nat, x < 32 → one 1 (rd (rd_L2 m i) x) ≤ one 1 (rd (rd_L2 a i) x)) →
    countRows 1 m d y ≤ countRows 1 a d y
  | 0, y, _ => Int.le_refl _
  | d + 1, y, h => by
    have ih := countRows_le d (y + 1) (fun i h1 h2 => h i (by omega) (by omega))
    obtain ⟨l1, l2, h0⟩ := h y (by omega) (by omega)
    have h1 := countRow_le (m := rd_L2 m y) (a := rd_L2 a y) 32 0 (fun x _ hx => h0 x (by omega))
    simp only [countRows, l1, l2]
    omega
theorem countOf_in {m : List (List Int)} (h : mat 1 m) : 0 ≤ countOf 1 m ∧ countOf 1 m ≤ 1024 := by
  have key : ∀ d y : Nat, y + d = m.length → 0 ≤ countRows 1 m d y ∧ countRows 1 m d y ≤ 32 * d := by
    intro d
    induction d with
    | zero => intro y _; simp [countRows]
    | succ d ih =>
      intro y hy
      have h1 := ih (y + 1) (by omega)
      have h2 := countRow_in 1 (rd_L2 m y) (rd_L2 m y).length 0
      have h3 := (h.2 y (by omega)).1
      simp only [countRows]
      omega
  have := key m.length 0 (by omega)
  have h1 := h.1
  unfold countOf
  omega

theorem spF_ge {a : List (List Int)} {y x : Nat} (hy : y < a.length) (hx : x < 32) : rd (rd_L2 a y) x ≤ spF a y x := by
  have e0 : atV a x y = rd (rd_L2 a y) x := atV_here (by omega) (by omega) (by omega) (by omega)
  rw [← e0]
  unfold spF
  exact Int.le_trans (mx_ge _ _).1 (Int.le_trans (mx_ge _ _).1 (Int.le_trans (mx_ge _ _).1 (mx_ge _ _).1))
/-- The dots of a trap. -/
def trX (a b : List (List Int)) : List (List Int) := tab (bothF false a (tab (bothF true (spV a) b) a.length)) a.length
theorem trX_dot {a b : List (List Int)} (h : bothOk a b) {y x : Nat} (hy : y < a.length) (hx : x < 32) : rd (rd_L2 (trX a b) y) x = mx (rd (rd_L2 a y) x) (mn (rd (rd_L2 (spV a) y) x) (rd (rd_L2 b y) x)) := by
  unfold trX
  rw [tab_get _ hy hx]
  have e := tab_get (bothF true (spV a) b) hy hx
  have g : bothF false a (tab (bothF true (spV a) b) a.length) y x = mx (rd (rd_L2 a y) x) (bothF true (spV a) b y x) := by
    rw [← e]
    rfl
  rw [g]
  rfl
theorem spV_dot {a : List (List Int)} (h : mat 1 a) {y x : Nat} (hy : y < a.length) (hx : x < 32) : rd (rd_L2 (spV a) y) x = spF a y x := by
  unfold spV
  rw [if_pos h, tab_get _ hy hx]
theorem traps_l1 (a b : List (List Int)) (h : bothOk a b) (hX : mat 1 (trX a b)) (y : Nat) (hy : y < a.length) : ∀ d x : Nat, x + d = 32 → Ev (fun k => laws_FnTraps.l0 k a b (trX a b) (spV a) (wrap64 ((y : Int) + 1))) true → Ev (fun k => laws_FnTraps.l1 k a b (trX a b) (spV a) y x) true
  | 0, x, hd, e => by
    refine Ev.step (fun k => ?_) e
    simp only [laws_FnTraps.l1]
    rw [if_neg (by omega)]
  | d + 1, x, hd, e => by
    have hx : x < 32 := by omega
    have hS := spV_mat h.1
    have lX : (trX a b).length = a.length := tab_length _ _
    have l1 := (h.1.2 y hy).1
    have l2 := (h.2.1.2 y (by rw [← h.2.2]; exact hy)).1
    have l3 := (hX.2 y (by rw [lX]; exact hy)).1
    have l4 := (hS.1.2 y (by rw [hS.2]; exact hy)).1
    have g1 : (0 : Int) ≤ (y : Int) := by omega
    have g2 : (y : Int) < (a.length : Int) := by omega
    have g3 : (y : Int) < (b.length : Int) := by rw [← h.2.2]; omega
    have g4 : (y : Int) < ((trX a b).length : Int) := by rw [lX]; omega
    have g5 : (y : Int) < ((spV a).length : Int) := by rw [hS.2]; omega
    have g6 : (0 : Int) ≤ (x : Int) := by omega
    have g7 : (x : Int) < 32 := by omega
    have g8 : (x : Int) < ((32 : Nat) : Int) := by omega
    have w : wrap64 ((x : Int) + 1) = ((x + 1 : Nat) : Int) := wsucc (by omega)
    have dA := mat_dot h.1 hy hx
    have dB := mat_dot h.2.1 (show y < b.length by rw [← h.2.2]; exact hy) hx
    have dS := spF_in h.1 y x
    have eS := spV_dot h.1 hy hx
    have eX := trX_dot h hy hx
    have ge := spF_ge hy hx
    have ih := traps_l1 a b h hX y hy d (x + 1) (by omega) e
    rw [eS] at eX
    refine Ev.step (fun k => ?_) ih
    simp only [laws_FnTraps.l1, l1, l2, l3, l4, w, eS, eX]
    generalize rd (rd_L2 a y) x = A at *
    generalize rd (rd_L2 b y) x = B at *
    generalize spF a y x = S at *
    rw [if_pos g7, if_pos g1, if_pos g2, if_pos g6, if_pos g8]
    clear ih eS eX l1 l2 l3 l4 w
    have cA : A = 0 ∨ A = 1 := by omega
    have cB : B = 0 ∨ B = 1 := by omega
    have cS : S = 0 ∨ S = 1 := by omega
    rcases cA with rfl | rfl
    · rw [if_neg (by decide), if_pos g5, if_pos g8]
      rcases cS with rfl | rfl
      · rw [if_neg (by decide), if_pos g4, if_pos g8]
        rcases cB with rfl | rfl <;> rfl
      · rw [if_pos rfl, if_pos g3, if_pos g8, if_pos g4, if_pos g8]
        rcases cB with rfl | rfl <;> rfl
    · rcases cS with rfl | rfl
      · omega
      · rw [if_pos rfl, if_pos g4, if_pos g8]
        rcases cB with rfl | rfl
        · rw [if_neg (by decide), if_pos g5, if_pos g8, if_pos rfl]
        · rw [if_neg (by decide), if_pos g5, if_pos g8, if_pos rfl]
theorem traps_l0 (a b : List (List Int)) (h : bothOk a b) (hX : mat 1 (trX a b)) : ∀ d y : Nat, y + d = a.length → Ev (fun k => laws_FnTraps.l0 k a b (trX a b) (spV a) y) true
  | 0, y, hd => by
    have hS := spV_mat h.1
    have lX : (trX a b).length = a.length := tab_length _ _
    have o1 := impl_Ones_ev (trX a b)
    have o2 := impl_Ones_ev a
    have o3 := impl_Ones_ev (spV a)
    rw [if_pos hX] at o1
    rw [if_pos h.1] at o2
    rw [if_pos hS.1] at o3
    have dots : ∀ i : Nat, i < a.length → ∀ x : Nat, x < 32 → one 1 (rd (rd_L2 a i) x) ≤ one 1 (rd (rd_L2 (trX a b) i) x) ∧ one 1 (rd (rd_L2 (trX a b) i) x) ≤ one 1 (rd (rd_L2 (spV a) i) x) := fun i hi x hx => by
      have dA := mat_dot h.1 hi hx
      have dB := mat_dot h.2.1 (show i < b.length by rw [← h.2.2]; exact hi) hx
      have dS := spF_in h.1 i x
      have ge := spF_ge hi hx
      rw [trX_dot h hi hx, spV_dot h.1 hi hx]
      generalize rd (rd_L2 a i) x = A at *
      generalize rd (rd_L2 b i) x = B at *
      generalize spF a i x = S at *
      have cA : A = 0 ∨ A = 1 := by omega
      have cB : B = 0 ∨ B = 1 := by omega
      have cS : S = 0 ∨ S = 1 := by omega
      rcases cA with rfl | rfl <;> rcases cB with rfl | rfl <;> rcases cS with rfl | rfl <;> first | decide | omega
    have k1 : countOf 1 a ≤ countOf 1 (trX a b) := by
      unfold countOf
      rw [lX]
      exact countRows_le a.length 0 (fun i _ hi => ⟨(h.1.2 i (by omega)).1, (hX.2 i (by omega)).1, fun x hx => (dots i (by omega) x hx).1⟩)
    have k2 : countOf 1 (trX a b) ≤ countOf 1 (spV a) := by
      unfold countOf
      rw [lX, hS.2]
      exact countRows_le a.length 0 (fun i _ hi => ⟨(hX.2 i (by omega)).1, (hS.1.2 i (by omega)).1, fun x hx => (dots i (by omega) x hx).2⟩)
    refine Ev.step (f := fun k => (impl_CountOnes.f k (trX a b)).bind fun t => (impl_CountOnes.f k a).bind fun u => if t ≥ u then (impl_CountOnes.f k (trX a b)).bind fun p => (impl_CountOnes.f k (spV a)).bind fun q => some (decide (p ≤ q)) else some false) (fun k => ?_) (o1.bind (o2.bind (ev_pos k1 (o1.bind (o3.bind ?_)))))
    · simp only [laws_FnTraps.l0]
      rw [if_neg (by omega)]
    · rw [decide_eq_true k2]
      exact Ev.now _
  | d + 1, y, hd => by
    have hn := h.1.1
    refine Ev.step (f := fun k => laws_FnTraps.l1 k a b (trX a b) (spV a) y (0 : Nat)) (fun k => ?_) (traps_l1 a b h hX y (by omega) 32 0 (by omega) ?_)
    · simp only [laws_FnTraps.l0]
      rw [if_pos (by omega)]
      rfl
    · rw [wsucc (by omega)]
      exact traps_l0 a b h hX d (y + 1) (by omega)
theorem FnTraps : laws_FnTraps.Pure := by
  intro l hm hb hw
  refine Ev.rounds ?_
  unfold laws_FnTraps.f
  refine ev_eq (g := laws_big.f l) rfl ?_
  by_cases hl : (l.length : Int) > 1048576
  · exact ev_pos (decide_eq_true hl) (Ev.now _)
  refine ev_neg (by simpa using hl) ?_
  obtain ⟨a, b, e, ha, hb, hab, hn, hn1⟩ := drawPlanes_ev l (by omega)
  have h : bothOk a b := ⟨ha, hb, hab⟩
  have et := impl_Trap_ev a b (mat_tiny ha)
  obtain ⟨tv, ok⟩ := trapV_ok h
  rw [tv] at et
  have es := impl_Spread_ev a (mat_tiny ha)
  have hS := spV_mat ha
  have hX : mat 1 (trX a b) := tab_mat _ _ _ ha.1 (fun y x hy hx => bothF_in ok hy hx)
  have lX : (trX a b).length = a.length := tab_length _ _
  have b1 := impl_BitsOk_ev (trX a b)
  have b2 := spec_BitsOk_ev (trX a b) (mat_small hX)
  have b3 := spec_BitsOk_ev (spV a) (mat_small hS.1)
  rw [decide_eq_true hX] at b1 b2
  rw [decide_eq_true hS.1] at b3
  have et : Ev (fun k => impl_TrapBits.f k a b) (trX a b, true) := et
  refine e.bind (et.bind (es.bind (ev_pos rfl (ev_pos ?_ (ev_pos ?_ (b1.bind (ev_pos rfl (b2.bind (ev_pos rfl (b3.bind ?_))))))))))
  · show ((trX a b).length : Int) = (a.length : Int)
    rw [lX]
  · show ((spV a).length : Int) = (a.length : Int)
    rw [hS.2]
  · refine Ev.step (fun k => ?_) (traps_l0 a b h hX a.length 0 (by omega))
    simp only [laws_FnTraps.j0]
    rfl

end Go.Proofs.Ytjkddcnflpfinaa.Pure
