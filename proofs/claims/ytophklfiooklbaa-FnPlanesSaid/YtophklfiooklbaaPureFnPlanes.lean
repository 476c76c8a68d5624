/-
  For every code the law of planes returns true: planes are got back from the packed rows, and dropping ink under black never needs more.
-/
import Derived.Test.YtophklfiooklbaaPFnPlanesx7
import Derived.Test.YtophklfiooklbaaWSized
/- The printed row names 'PrintWords.sized_ints' without its seat's letter W: the same law under the name that it looks for. -/
namespace Go.Proofs.Ytophklfiooklbaa.PrintWords
open Go.ChangeShapes Go.WideShapes
theorem sized_ints {H : Type} {enc : TypeId × Value → H} {P : Program} {W : World} {base : Nat} {spare : Nat → Bool} {held : Bool} {t e : TypeId} {k : IntKind} {a : Option Addr} {len cap : Nat} {d : DataW H} {ps : List MemPlace} {ts : List TypeId} {ds : List (DataW H)} {j : Nat}
    (hsz : (DataW.weightsEach P ts ds).all (· ≤ reachBytes) = true) (ht : ts[j]? = some t) (hd : ds[j]? = some d) (hu : P.underlying t = some (.slice e)) (he : P.underlying e = some (.int k)) (hc : P.cellsOf e = 1) {B : Nat} (hB : P.bytesOf e = B)
    (h : DataW.Trod enc P W base spare held t (.slice a len cap) d ps) : len * B ≤ 140737488351232 :=
  Go.Proofs.YtophklfiooklbaaW.PrintWords.sized_ints hsz ht hd hu he hc hB h
end Go.Proofs.Ytophklfiooklbaa.PrintWords
namespace Go.Proofs.Ytophklfiooklbaa.Pure
open Go.RowKit Go.Proofs.Ytophklfiooklbaa.PFnPlanes Go.Proofs.YtophklfiooklbaaW.PrintWords Go.Proofs.YtophklfiooklbaaW.PrintLast Go.Proofs.YtophklfiooklbaaW.PrintMore
set_option linter.unusedVariables false
set_option linter.unusedSimpArgs false

theorem w64 {n : Int} (h1 : -9223372036854775808 ≤ n) (h2 : n ≤ 9223372036854775807) : wrap64 n = n := by
  unfold wrap64
  omega
theorem wsucc {i : Nat} (h : i ≤ 4611686018427387904) : wrap64 ((i : Int) + 1) = ((i + 1 : Nat) : Int) := by
  rw [w64 (by omega) (by omega)]
  omega
theorem rd_nat (l : List Int) (i : Nat) : rd l (i : Int) = l.getD i 0 := by simp [rd]
theorem getD_drop (l : List Int) (i : Nat) (h : i < l.length) : l.drop i = l.getD i 0 :: l.drop (i + 1) := by
  rw [List.drop_eq_getElem_cons h]
  simp [List.getD_eq_getElem?_getD, List.getElem?_eq_getElem h]
theorem getD_take (l : List Int) (i : Nat) (h : i < l.length) : l.take (i + 1) = l.take i ++ [l.getD i 0] := by
  rw [List.take_succ_eq_append_getElem h]
  simp [List.getD_eq_getElem?_getD, List.getElem?_eq_getElem h]
theorem set_mid (p q : List Int) (u v : Int) (i : Nat) (h : p.length = i) : (p ++ u :: q).set i v = p ++ v :: q := by
  subst h
  simp [List.set_append_right]
theorem bind_id {α : Type} {g : Nat → Option α} {r : α} (h : Ev g r) : Ev (fun n => (g n).bind fun x => some x) r := by
  obtain ⟨K, h⟩ := h
  exact ⟨K, fun k hk => by simp [h k hk]⟩
theorem ev_pos {α : Type} {c : Prop} [Decidable c] {f g : Nat → Option α} {r : α} (h : c) (k : Ev f r) : Ev (fun n => if c then f n else g n) r := Ev.congr (fun n => if_pos h) k
theorem ev_neg {α : Type} {c : Prop} [Decidable c] {f g : Nat → Option α} {r : α} (h : ¬ c) (k : Ev g r) : Ev (fun n => if c then f n else g n) r := Ev.congr (fun n => if_neg h) k
theorem ev_eq {α β : Type} {g : Option α} {f : Nat → α → Option β} {a : α} {r : β} (h : g = some a) (k : Ev (fun n => f n a) r) : Ev (fun n => g.bind (f n)) r := by
  subst h
  exact k
theorem td {v : Int} (h : 0 ≤ v) (c : Int) : Int.tdiv v c = v / c := Int.tdiv_eq_ediv_of_nonneg h
theorem tm {v : Int} (h : 0 ≤ v) (c : Int) : Int.tmod v c = v % c := Int.tmod_eq_emod_of_nonneg h

theorem and255 (n : Int) : Go.bits .and .i64 n 255 = n % 256 := by
  have h255 : (BitVec.ofInt 64 255).toNat = 2 ^ 8 - 1 := by decide
  have key : (BitVec.ofInt 64 n &&& BitVec.ofInt 64 255).toNat = (n % ((2 ^ 64 : Nat) : Int)).toNat % 2 ^ 8 := by
    rw [BitVec.toNat_and, BitVec.toNat_ofInt, h255, Nat.and_two_pow_sub_one_eq_mod]
  show IntKind.i64.wrap ((BitVec.ofInt 64 n &&& BitVec.ofInt 64 255).toNat : Nat) = n % 256
  rw [key, IntKind.wrap_i64]
  omega
theorem l01New_l0 (l : List Int) (hn : l.length ≤ 1099511627776) : ∀ d i : Nat, i + d = l.length → ∀ h : Int, ∃ h', Ev (fun k => spec_l01New.l0 k l h i) (l, 0, h')
  | 0, i, hd, h => by
    refine ⟨h, Ev.step (f := fun _ => some (l, 0, h)) (fun k => ?_) (Ev.now _)⟩
    simp only [spec_l01New.l0]
    rw [if_neg (by omega)]
  | d + 1, i, hd, h => by
    by_cases c : (i : Int) < 4000
    · obtain ⟨h', e⟩ := l01New_l0 l hn d (i + 1) (by omega) (Go.bits .and .i64 (wrap64 ((wrap64 ((wrap64 (h * 131)) + (wrap64 (rd l i)))) + 7)) 1073741823)
      refine ⟨h', Ev.step (fun k => ?_) e⟩
      simp only [spec_l01New.l0]
      rw [if_pos (by omega), if_pos c, if_pos (by omega), wsucc (by omega)]
    · refine ⟨h, Ev.step (f := fun _ => some (l, 0, h)) (fun k => ?_) (Ev.now _)⟩
      simp only [spec_l01New.l0]
      rw [if_pos (by omega), if_neg c]
theorem l01New_ev (l : List Int) (hn : l.length ≤ 1099511627776) : ∃ h, Ev (fun k => spec_l01New.f k l) (l, 0, h) :=
  l01New_l0 l hn l.length 0 (by omega) _
/-- A cursor that can be read from. -/
def cur (l : List Int) (i : Int) : Prop := l.length ≤ 1099511627776 ∧ 0 ≤ i
theorem l01Byte_ex {l : List Int} {i : Int} (h : Int) (hc : cur l i) : ∃ x i' h', spec_l01Byte.f l i h = some (x, i', h') ∧ cur l i' ∧ 0 ≤ x ∧ x ≤ 255 := by
  obtain ⟨hl, h0⟩ := hc
  unfold spec_l01Byte.f
  by_cases c : i < (l.length : Int)
  · rw [if_pos c, if_pos h0, w64 (n := i + 1) (by omega) (by omega)]
    refine ⟨_, _, _, rfl, ⟨hl, by omega⟩, ?_⟩
    simp only [and255]
    omega
  · rw [if_neg c]
    refine ⟨_, _, _, rfl, ⟨hl, h0⟩, ?_⟩
    simp only [and255]
    omega

theorem l01Below_ex {l : List Int} {i : Int} (h : Int) (hc : cur l i) {n : Int} (hn : 0 < n) (hn2 : n ≤ 1000000) : ∃ x i' h', spec_l01Below.f l i h n = some (x, i', h') ∧ cur l i' ∧ 0 ≤ x ∧ x < n := by
  unfold spec_l01Below.f
  rw [if_neg (by omega)]
  by_cases c : n ≤ 256
  · rw [if_pos c]
    obtain ⟨x, i1, h1, e, hc1, b0, b1⟩ := l01Byte_ex h hc
    rw [e]
    simp only [Option.bind_some]
    rw [if_neg (by omega), tm b0]
    exact ⟨_, _, _, rfl, hc1, Int.emod_nonneg _ (by omega), Int.emod_lt_of_pos _ hn⟩
  · rw [if_neg c]
    obtain ⟨x, i1, h1, e1, hc1, b0, b1⟩ := l01Byte_ex h hc
    rw [e1]
    simp only [Option.bind_some]
    obtain ⟨y, i2, h2, e2, hc2, c0, c1⟩ := l01Byte_ex h1 hc1
    rw [e2]
    simp only [Option.bind_some]
    obtain ⟨z, i3, h3, e3, hc3, d0, d1⟩ := l01Byte_ex h2 hc2
    rw [e3]
    simp only [Option.bind_some]
    obtain ⟨u, i4, h4, e4, hc4, f0, f1⟩ := l01Byte_ex h3 hc3
    rw [e4]
    simp only [Option.bind_some]
    rw [if_neg (by omega), w64 (n := x * 16777216) (by omega) (by omega), w64 (n := y * 65536) (by omega) (by omega), w64 (n := z * 256) (by omega) (by omega), w64 (n := x * 16777216 + y * 65536) (by omega) (by omega), w64 (n := x * 16777216 + y * 65536 + z * 256) (by omega) (by omega), w64 (n := x * 16777216 + y * 65536 + z * 256 + u) (by omega) (by omega), tm (by omega)]
    exact ⟨_, _, _, rfl, hc4, Int.emod_nonneg _ (by omega), Int.emod_lt_of_pos _ hn⟩

theorem rd_mem2 (l : List Int) (i : Nat) (h : i < l.length) : rd l i ∈ l := by
  rw [rd_nat, List.getD_eq_getElem?_getD, List.getElem?_eq_getElem h]
  simp
theorem l01Once_ex {l : List Int} {i : Int} (h : Int) (hc : cur l i) {n : Int} (hn : 0 < n) (hn2 : n ≤ 1000000) : ∃ b i' h', spec_l01Once.f l i h n = some (b, i', h') ∧ cur l i' := by
  unfold spec_l01Once.f
  obtain ⟨x, i1, h1, e, hc1, _, _⟩ := l01Below_ex h hc hn hn2
  rw [e]
  exact ⟨_, _, _, rfl, hc1⟩

/-- A row of 32 values from 0 to hi. -/
def rowP (hi : Int) (r : List Int) : Prop := r.length = 32 ∧ ∀ i : Nat, i < r.length → 0 ≤ rd r i ∧ rd r i ≤ hi
/-- At most 32 such rows. -/
def mat (hi : Int) (m : List (List Int)) : Prop := m.length ≤ 32 ∧ ∀ j : Nat, j < m.length → rowP hi (rd_L2 m j)
instance (hi : Int) (r : List Int) : Decidable (rowP hi r) := by
  unfold rowP
  infer_instance
instance (hi : Int) (m : List (List Int)) : Decidable (mat hi m) := by
  unfold mat
  infer_instance
theorem rowP_mono {a b : Int} (h : a ≤ b) {r : List Int} (hr : rowP a r) : rowP b r := ⟨hr.1, fun i hi => ⟨(hr.2 i hi).1, by have := (hr.2 i hi).2; omega⟩⟩
theorem mat_mono {a b : Int} (h : a ≤ b) {m : List (List Int)} (hm : mat a m) : mat b m := ⟨hm.1, fun j hj => rowP_mono h (hm.2 j hj)⟩
/-- Rows that are not too long to be counted. -/
def small (m : List (List Int)) : Prop := m.length ≤ 1099511627776 ∧ ∀ j : Nat, j < m.length → (rd_L2 m j).length ≤ 1099511627776

/-- Rows whose lengths, and their number, are at most 1048576. -/
def tiny (m : List (List Int)) : Prop := m.length ≤ 1048576 ∧ ∀ j : Nat, j < m.length → (rd_L2 m j).length ≤ 1048576
theorem tiny_small {m : List (List Int)} (h : tiny m) : small m := ⟨by have := h.1; omega, fun j hj => by have := h.2 j hj; omega⟩
theorem rows_mem {m : List (List Int)} {j : Nat} (hj : j < m.length) : rd_L2 m j = m[j] := by
  unfold rd_L2
  rw [Int.toNat_natCast, List.getD_eq_getElem?_getD, List.getElem?_eq_getElem hj]
  rfl
theorem set_midL (p q : List (List Int)) (u v : List Int) (i : Nat) (h : p.length = i) : (p ++ u :: q).set i v = p ++ v :: q := by
  subst h
  simp [List.set_append_right]

/-- Rows of 32 values, told dot by dot. -/
def tabRow (F : Nat → Nat → Int) (y n : Nat) : List Int := (List.range n).map (F y)
def tab (F : Nat → Nat → Int) (n : Nat) : List (List Int) := (List.range n).map fun y => tabRow F y 32
theorem tabRow_snoc (F : Nat → Nat → Int) (y n : Nat) : tabRow F y (n + 1) = tabRow F y n ++ [F y n] := by simp [tabRow, List.range_succ]
theorem tabRow_length (F : Nat → Nat → Int) (y n : Nat) : (tabRow F y n).length = n := by simp [tabRow]
theorem tab_snoc (F : Nat → Nat → Int) (n : Nat) : tab F (n + 1) = tab F n ++ [tabRow F n 32] := by simp [tab, List.range_succ]
theorem tab_length (F : Nat → Nat → Int) (n : Nat) : (tab F n).length = n := by simp [tab]
theorem tab_row (F : Nat → Nat → Int) {n y : Nat} (h : y < n) : rd_L2 (tab F n) y = tabRow F y 32 := by
  rw [rows_mem (by rw [tab_length]; exact h)]
  simp [tab]
theorem tabRow_get (F : Nat → Nat → Int) (y : Nat) {n x : Nat} (h : x < n) : rd (tabRow F y n) x = F y x := by
  rw [rd_nat, List.getD_eq_getElem?_getD, List.getElem?_eq_getElem (by rw [tabRow_length]; exact h)]
  simp [tabRow]
theorem rows_mid (p q : List (List Int)) (u : List Int) (i : Nat) (h : p.length = i) : rd_L2 (p ++ u :: q) i = u := by
  subst h
  simp [rd_L2]
theorem dots_mid (p q : List Int) (u : Int) (i : Nat) (h : p.length = i) : rd (p ++ u :: q) i = u := by
  subst h
  simp [rd_nat]
theorem rows_drop (m : List (List Int)) {i : Nat} (h : i < m.length) : m.drop i = rd_L2 m i :: m.drop (i + 1) := by
  rw [List.drop_eq_getElem_cons h, rows_mem h]
theorem dots_drop (r : List Int) {i : Nat} (h : i < r.length) : r.drop i = rd r i :: r.drop (i + 1) := by
  rw [getD_drop r i h, rd_nat]
theorem tab_small (F : Nat → Nat → Int) (n : Nat) (h : n ≤ 32) : small (tab F n) := by
  refine ⟨by rw [tab_length]; omega, fun j hj => ?_⟩
  rw [tab_length] at hj
  rw [tab_row F hj, tabRow_length]
  omega
theorem tab_total (F : Nat → Nat → Int) (n : Nat) (h : n ≤ 32) : True := trivial
theorem small_total {m : List (List Int)} (h : m.length ≤ 32) (h2 : ∀ j : Nat, j < m.length → (rd_L2 m j).length ≤ 32) : m.length ≤ 1048576 ∧ ∀ j : Nat, j < m.length → (rd_L2 m j).length ≤ 1048576 := ⟨by omega, fun j hj => by have := h2 j hj; omega⟩
theorem tab_tiny (F : Nat → Nat → Int) (n : Nat) (h : n ≤ 32) : tiny (tab F n) := by
  refine ⟨by rw [tab_length]; omega, fun j hj => ?_⟩
  rw [tab_length] at hj
  rw [tab_row F hj, tabRow_length]
  omega
theorem mat_dot {hi : Int} {m : List (List Int)} (h : mat hi m) {y x : Nat} (hy : y < m.length) (hx : x < 32) : 0 ≤ rd (rd_L2 m y) x ∧ rd (rd_L2 m y) x ≤ hi := (h.2 y hy).2 x (by rw [(h.2 y hy).1]; exact hx)
theorem tab_mat (F : Nat → Nat → Int) (n : Nat) (hi : Int) (h : n ≤ 32) (hF : ∀ y x, y < n → x < 32 → 0 ≤ F y x ∧ F y x ≤ hi) : mat hi (tab F n) := by
  refine ⟨by rw [tab_length]; exact h, fun j hj => ?_⟩
  rw [tab_length] at hj
  rw [tab_row F hj]
  refine ⟨tabRow_length _ _ _, fun i h1 => ?_⟩
  rw [tabRow_length] at h1
  rw [tabRow_get F j h1]
  exact hF j i hj h1

theorem l22Bits_l1 (l : List Int) (m n : Nat) (out : List (List Int)) (ho : out.length ≤ 1000) (Q : List (List Int) → Prop)
    (next : ∀ (row : List Int) (i h : Int), row.length = 32 → (∀ x ∈ row, 0 ≤ x ∧ x ≤ 1) → cur l i → ∃ r i' h', Ev (fun k => spec_l22Bits.l0 k m (out ++ [row]) (wrap64 ((n : Int) + 1)) l i h) (r, i', h') ∧ cur l i' ∧ Q r) :
    ∀ (d : Nat) (row : List Int) (v i h : Int), row.length + d = 32 → (∀ x ∈ row, 0 ≤ x ∧ x ≤ 1) → 0 ≤ v → v ≤ 1 → cur l i → ∃ r i' h', Ev (fun k => spec_l22Bits.l1 k m out n row v l i h) (r, i', h') ∧ cur l i' ∧ Q r
  | 0, row, v, i, h, hd, hr, v0, v1, hc => by
    obtain ⟨r, i', h', e, hq⟩ := next row i h (by omega) hr hc
    refine ⟨r, i', h', Ev.step (fun k => ?_) e, hq⟩
    simp only [spec_l22Bits.l1]
    rw [if_neg (by omega), if_pos (by omega)]
  | d + 1, row, v, i, h, hd, hr, v0, v1, hc => by
    have snoc : ∀ u : Int, 0 ≤ u → u ≤ 1 → ∀ x ∈ row ++ [u], 0 ≤ x ∧ x ≤ 1 := fun u u0 u1 x hx => by
      rcases List.mem_append.1 hx with hx | hx
      · exact hr x hx
      · rw [List.mem_singleton.1 hx]
        exact ⟨u0, u1⟩
    have hw : wrap64 (1 - v) = 1 - v := w64 (by omega) (by omega)
    obtain ⟨b, i1, h1, e1, c1⟩ := l01Once_ex h hc (n := 4) (by omega) (by omega)
    cases b with
    | true =>
      obtain ⟨r, i', h', e, hq⟩ := l22Bits_l1 l m n out ho Q next d (row ++ [1 - v]) (1 - v) i1 h1 (by simp; omega) (snoc (1 - v) (by omega) (by omega)) (by omega) (by omega) c1
      refine ⟨r, i', h', Ev.step (fun k => ?_) e, hq⟩
      simp only [spec_l22Bits.l1]
      rw [if_pos (by omega), e1]
      simp only [Option.bind_some, if_true]
      rw [if_pos (by omega), hw]
    | false =>
      obtain ⟨r, i', h', e, hq⟩ := l22Bits_l1 l m n out ho Q next d (row ++ [v]) v i1 h1 (by simp; omega) (snoc v v0 v1) v0 v1 c1
      refine ⟨r, i', h', Ev.step (fun k => ?_) e, hq⟩
      simp only [spec_l22Bits.l1]
      rw [if_pos (by omega), e1]
      simp only [Option.bind_some]
      rw [if_neg (by simp), if_pos (by omega)]
theorem l22Bits_l0 (l : List Int) (m : Nat) (hm : m ≤ 32) : ∀ (d n : Nat) (out : List (List Int)) (i h : Int), n + d = m → cur l i → out.length = n → (∀ r ∈ out, rowP 1 r) →
    ∃ r i' h', Ev (fun k => spec_l22Bits.l0 k m out n l i h) (r, i', h') ∧ cur l i' ∧ (r.length = m ∧ ∀ x ∈ r, rowP 1 x)
  | 0, n, out, i, h, hd, hc, hl, ho => by
    refine ⟨out, i, h, Ev.step (f := fun _ => some (out, i, h)) (fun k => ?_) (Ev.now _), hc, by omega, ho⟩
    simp only [spec_l22Bits.l0]
    rw [if_neg (by omega)]
  | d + 1, n, out, i, h, hd, hc, hl, ho => by
    obtain ⟨v, i1, h1, e1, c1, v0, v1⟩ := l01Below_ex h hc (n := 2) (by omega) (by omega)
    obtain ⟨r, i', h', e, hq⟩ := l22Bits_l1 l m n out (by omega) (fun r => r.length = m ∧ ∀ x ∈ r, rowP 1 x) (fun row i2 h2 hr1 hr2 hc2 => by
      have := l22Bits_l0 l m hm d (n + 1) (out ++ [row]) i2 h2 (by omega) hc2 (by simp [hl]) (fun x hx => by
        rcases List.mem_append.1 hx with hx | hx
        · exact ho x hx
        · rw [List.mem_singleton.1 hx]
          exact ⟨hr1, fun j hj => hr2 _ (rd_mem2 row j hj)⟩)
      rw [wsucc (by omega)]
      exact this) 32 [] v i1 h1 rfl (by simp) v0 (by omega) c1
    refine ⟨r, i', h', Ev.step (fun k => ?_) e, hq⟩
    simp only [spec_l22Bits.l0]
    rw [if_pos (by omega), e1]
    rfl
theorem mat_of_mem {hi : Int} {m : List (List Int)} (h : m.length ≤ 32) (h2 : ∀ x ∈ m, rowP hi x) : mat hi m := ⟨h, fun j hj => by
  rw [rows_mem hj]
  exact h2 _ (List.getElem_mem hj)⟩
theorem drawPlanes_ev (l : List Int) (hn : l.length ≤ 1099511627776) : ∃ a b : List (List Int), Ev (fun k => spec_DrawPlanes.f k l) (a, b) ∧ mat 1 a ∧ mat 1 b ∧ a.length = b.length ∧ a.length ≤ 4 ∧ 1 ≤ a.length := by
  obtain ⟨h, e⟩ := l01New_ev l hn
  obtain ⟨m, i1, h1, e1, c1, m0, m1⟩ := l01Below_ex (l := l) (i := 0) h ⟨hn, by omega⟩ (n := 4) (by omega) (by omega)
  obtain ⟨a, i2, h2, e2, c2, hl2, hr2⟩ := l22Bits_l0 l (1 + m).toNat (by omega) (1 + m).toNat 0 [] i1 h1 (by omega) c1 rfl (by simp)
  obtain ⟨b, i3, h3, e3, c3, hl3, hr3⟩ := l22Bits_l0 l (1 + m).toNat (by omega) (1 + m).toNat 0 [] i2 h2 (by omega) c2 rfl (by simp)
  refine ⟨a, b, ?_, mat_of_mem (by omega) hr2, mat_of_mem (by omega) hr3, by omega, by omega, by omega⟩
  have q : (((1 + m).toNat : Nat) : Int) = wrap64 (1 + m) := by rw [w64 (by omega) (by omega)]; omega
  rw [q] at e2 e3
  unfold spec_DrawPlanes.f
  exact e.bind (ev_eq e1 (Ev.bind (a := (a, i2, h2)) e2 (Ev.bind (a := (b, i3, h3)) e3 (Ev.now _))))

/-! Four planes of bits in one. -/
def packF (a b c d : List (List Int)) (y x : Nat) : Int := rd (rd_L2 a y) x + 2 * rd (rd_L2 b y) x + 4 * rd (rd_L2 c y) x + 8 * rd (rd_L2 d y) x
def packOk (a b c d : List (List Int)) : Prop := (mat 1 a ∧ mat 1 b ∧ mat 1 c ∧ mat 1 d) ∧ a.length = b.length ∧ a.length = c.length ∧ a.length = d.length
instance (a b c d : List (List Int)) : Decidable (packOk a b c d) := by
  unfold packOk
  infer_instance
def packV (a b c d : List (List Int)) : List (List Int) × Bool := if packOk a b c d then (tab (packF a b c d) a.length, true) else ([], false)
theorem pack_w {a b c d : List (List Int)} (h : packOk a b c d) {y x : Nat} (hy : y < a.length) (hx : x < 32) :
    wrap64 ((wrap64 ((wrap64 ((rd (rd_L2 a y) x) + (wrap64 (2 * (rd (rd_L2 b y) x))))) + (wrap64 (4 * (rd (rd_L2 c y) x))))) + (wrap64 (8 * (rd (rd_L2 d y) x)))) = packF a b c d y x ∧ (0 ≤ packF a b c d y x ∧ packF a b c d y x ≤ 15) := by
  have h1 := mat_dot h.1.1 hy hx
  have h2 := mat_dot h.1.2.1 (show y < b.length by rw [← h.2.1]; exact hy) hx
  have h3 := mat_dot h.1.2.2.1 (show y < c.length by rw [← h.2.2.1]; exact hy) hx
  have h4 := mat_dot h.1.2.2.2 (show y < d.length by rw [← h.2.2.2]; exact hy) hx
  unfold packF
  generalize rd (rd_L2 a y) x = A at *
  generalize rd (rd_L2 b y) x = B at *
  generalize rd (rd_L2 c y) x = C at *
  generalize rd (rd_L2 d y) x = D at *
  rw [w64 (n := 2 * B) (by omega) (by omega), w64 (n := 4 * C) (by omega) (by omega), w64 (n := 8 * D) (by omega) (by omega), w64 (n := A + 2 * B) (by omega) (by omega), w64 (n := A + 2 * B + 4 * C) (by omega) (by omega), w64 (by omega) (by omega)]
  omega
theorem packV_tiny (a b c d : List (List Int)) : tiny (packV a b c d).1 := by
  unfold packV
  split
  · rename_i h
    exact tab_tiny _ _ h.1.1.1
  · exact ⟨by simp, fun j hj => absurd hj (by simp)⟩
/-- What a step asks. -/
theorem pack_side {a b c d : List (List Int)} (h : packOk a b c d) {y x : Nat} (hy : y < a.length) (hx : x < 32) :
    ((0 : Int) ≤ y ∧ (y : Int) < (a.length : Int) ∧ (y : Int) < (b.length : Int) ∧ (y : Int) < (c.length : Int) ∧ (y : Int) < (d.length : Int)) ∧ ((0 : Int) ≤ x ∧ (x : Int) < 32 ∧ (x : Int) < ((rd_L2 a y).length : Int) ∧ (x : Int) < ((rd_L2 b y).length : Int) ∧ (x : Int) < ((rd_L2 c y).length : Int) ∧ (x : Int) < ((rd_L2 d y).length : Int)) := by
  have l1 := (h.1.1.2 y hy).1
  have l2 := (h.1.2.1.2 y (by rw [← h.2.1]; exact hy)).1
  have l3 := (h.1.2.2.1.2 y (by rw [← h.2.2.1]; exact hy)).1
  have l4 := (h.1.2.2.2.2 y (by rw [← h.2.2.2]; exact hy)).1
  have e1 := h.2.1
  have e2 := h.2.2.1
  have e3 := h.2.2.2
  rw [l1, l2, l3, l4]
  omega

theorem within_eq (a b c : Int) : impl_within.f a b c = some (decide (b ≤ a ∧ a ≤ c)) := by
  unfold impl_within.f
  by_cases h : a ≥ b
  · rw [if_pos h]
    simp [show b ≤ a from h]
  · rw [if_neg h]
    simp [show ¬ b ≤ a from h]

theorem impl_rowOk_l0 (a : List Int) (hn : a.length = 32) :
    ∀ d i : Nat, i + d = a.length → (∀ j : Nat, j < i → 0 ≤ rd a j ∧ rd a j ≤ 255) → Ev (fun k => impl_rowOk.l0 k a (a.length : Int) i) (decide (rowP 255 a))
  | 0, i, h, hj => by
    refine Ev.step (f := fun _ => some true) (fun k => ?_) ?_
    · simp only [impl_rowOk.l0]
      rw [if_neg (by omega)]
    · rw [decide_eq_true (show rowP 255 a from ⟨hn, fun j h1 => hj j (by omega)⟩)]
      exact Ev.now _
  | d + 1, i, h, hj => by
    by_cases c : 0 ≤ rd a i ∧ rd a i ≤ 255
    · refine Ev.step (f := fun k => impl_rowOk.l0 k a (a.length : Int) ((i + 1 : Nat) : Int)) (fun k => ?_) (impl_rowOk_l0 a hn d (i + 1) (by omega) (fun j h1 => ?_))
      · simp only [impl_rowOk.l0, within_eq, Option.bind_some]
        rw [if_pos (by omega), if_pos (by omega), if_pos (by omega), if_pos (decide_eq_true c), wsucc (by omega)]
      · by_cases e : j = i
        · subst e
          exact c
        · exact hj j (by omega)
    · refine Ev.step (f := fun _ => some false) (fun k => ?_) ?_
      · simp only [impl_rowOk.l0, within_eq, Option.bind_some]
        rw [if_pos (by omega), if_pos (by omega), if_pos (by omega), if_neg (by simp only [decide_eq_true_eq]; exact c)]
      · rw [decide_eq_false (show ¬ rowP 255 a from fun h3 => c (h3.2 i (by omega)))]
        exact Ev.now _
theorem impl_rowOk_ev (a : List Int) : Ev (fun k => impl_rowOk.f k a) (decide (rowP 255 a)) := by
  unfold impl_rowOk.f
  by_cases c : (a.length : Int) = 32
  · exact ev_pos c (impl_rowOk_l0 a (by omega) a.length 0 (by omega) (fun j h => by omega))
  · rw [decide_eq_false (show ¬ rowP 255 a from fun h => by have := h.1; omega)]
    exact ev_neg c (Ev.now _)
theorem impl_RowsOk_l0 (m : List (List Int)) (hn : m.length ≤ 32) :
    ∀ d i : Nat, i + d = m.length → (∀ j : Nat, j < i → rowP 255 (rd_L2 m j)) → Ev (fun k => impl_RowsOk.l0 k m (m.length : Int) i) (decide (mat 255 m))
  | 0, i, h, hj => by
    refine Ev.step (f := fun _ => some true) (fun k => ?_) ?_
    · simp only [impl_RowsOk.l0]
      rw [if_neg (by omega)]
    · rw [decide_eq_true (show mat 255 m from ⟨hn, fun j h1 => hj j (by omega)⟩)]
      exact Ev.now _
  | d + 1, i, h, hj => by
    refine Ev.step (f := fun k => (impl_rowOk.f k (rd_L2 m i)).bind fun t => if t = true then impl_RowsOk.l0 k m (m.length : Int) ((i + 1 : Nat) : Int) else some false) (fun k => ?_) ((impl_rowOk_ev (rd_L2 m i)).bind ?_)
    · simp only [impl_RowsOk.l0]
      rw [if_pos (by omega), if_pos (by omega), if_pos (by omega), wsucc (by omega)]
    · by_cases c : rowP 255 (rd_L2 m i)
      · refine ev_pos (decide_eq_true c) (impl_RowsOk_l0 m hn d (i + 1) (by omega) (fun j h1 => ?_))
        by_cases e : j = i
        · subst e
          exact c
        · exact hj j (by omega)
      · rw [decide_eq_false (show ¬ mat 255 m from fun h3 => c (h3.2 i (by omega)))]
        exact ev_neg (by simp [c]) (Ev.now _)
theorem impl_RowsOk_ev (m : List (List Int)) : Ev (fun k => impl_RowsOk.f k m) (decide (mat 255 m)) := by
  unfold impl_RowsOk.f
  by_cases c : (m.length : Int) > 32
  · rw [decide_eq_false (show ¬ mat 255 m from fun h => by have := h.1; omega)]
    exact ev_pos c (Ev.now _)
  · exact ev_neg c (impl_RowsOk_l0 m (by omega) m.length 0 (by omega) (fun j h => by omega))

theorem impl_BitsOk_l1 (m : List (List Int)) (h255 : mat 255 m) (y : Nat) (hy : y < m.length) (R : Bool) :
    ∀ d i : Nat, i + d = (rd_L2 m y).length → (∀ j : Nat, j < i → rd (rd_L2 m y) j ≤ 1) → (rowP 1 (rd_L2 m y) → Ev (fun k => impl_BitsOk.l0 k m (m.length : Int) (wrap64 ((y : Int) + 1))) R) → (¬ rowP 1 (rd_L2 m y) → R = false) →
      Ev (fun k => impl_BitsOk.l1 k m (m.length : Int) y (rd_L2 m y) ((rd_L2 m y).length : Int) i) R
  | 0, i, h, hj, h1, h2 => by
    have hr := h255.2 y hy
    refine Ev.step (fun k => ?_) (h1 ⟨hr.1, fun j hj2 => ⟨(hr.2 j hj2).1, hj j (by omega)⟩⟩)
    simp only [impl_BitsOk.l1]
    rw [if_neg (by omega)]
  | d + 1, i, h, hj, h1, h2 => by
    have hr := h255.2 y hy
    have hl := hr.1
    by_cases c : rd (rd_L2 m y) i > 1
    · rw [h2 fun q => by have := (q.2 i (by omega)).2; omega]
      refine Ev.step (f := fun _ => some false) (fun k => ?_) (Ev.now _)
      simp only [impl_BitsOk.l1]
      rw [if_pos (by omega), if_pos (by omega), if_pos (by omega), if_pos c]
    · refine Ev.step (fun k => ?_) (impl_BitsOk_l1 m h255 y hy R d (i + 1) (by omega) (fun j hj2 => ?_) h1 h2)
      · simp only [impl_BitsOk.l1]
        rw [if_pos (by omega), if_pos (by omega), if_pos (by omega), if_neg c, wsucc (by omega)]
      · by_cases e : j = i
        · subst e
          omega
        · exact hj j (by omega)
theorem impl_BitsOk_l0 (m : List (List Int)) (h255 : mat 255 m) : ∀ d i : Nat, i + d = m.length → (∀ j : Nat, j < i → rowP 1 (rd_L2 m j)) → Ev (fun k => impl_BitsOk.l0 k m (m.length : Int) i) (decide (mat 1 m))
  | 0, i, h, hj => by
    have hn := h255.1
    refine Ev.step (f := fun _ => some true) (fun k => ?_) ?_
    · simp only [impl_BitsOk.l0]
      rw [if_neg (by omega)]
    · rw [decide_eq_true (show mat 1 m from ⟨hn, fun j h1 => hj j (by omega)⟩)]
      exact Ev.now _
  | d + 1, i, h, hj => by
    have hn := h255.1
    refine Ev.step (f := fun k => impl_BitsOk.l1 k m (m.length : Int) i (rd_L2 m i) ((rd_L2 m i).length : Int) 0) (fun k => ?_) (impl_BitsOk_l1 m h255 i (by omega) _ (rd_L2 m i).length 0 (by omega) (fun j h1 => by omega) (fun hr => ?_) (fun hr => decide_eq_false fun q => hr (q.2 i (by omega))))
    · simp only [impl_BitsOk.l0]
      rw [if_pos (by omega), if_pos (by omega), if_pos (by omega)]
    · rw [wsucc (by omega)]
      refine impl_BitsOk_l0 m h255 d (i + 1) (by omega) (fun j h1 => ?_)
      by_cases e : j = i
      · subst e
        exact hr
      · exact hj j (by omega)
theorem impl_BitsOk_ev (m : List (List Int)) : Ev (fun k => impl_BitsOk.f k m) (decide (mat 1 m)) := by
  unfold impl_BitsOk.f
  refine (impl_RowsOk_ev m).bind ?_
  by_cases c : mat 255 m
  · exact ev_pos (decide_eq_true c) (impl_BitsOk_l0 m c m.length 0 (by omega) (fun j h => by omega))
  · rw [decide_eq_false (show ¬ mat 1 m from fun h => c (mat_mono (by omega) h))]
    exact ev_neg (by simp [c]) (Ev.now _)

theorem impl_copyRows_l0 (m : List (List Int)) (hs : small m) (hm : m.length ≤ 1048576) : ∀ d i : Nat, i + d = m.length → Ev (fun k => impl_copyRows.l0 k (m.take i) m (m.length : Int) i) m
  | 0, i, h => by
    refine Ev.step (f := fun _ => some m) (fun k => ?_) (Ev.now _)
    simp only [impl_copyRows.l0]
    rw [if_neg (by omega), List.take_of_length_le (show m.length ≤ i by omega)]
  | d + 1, i, h => by
    have hl := hs.2 i (by omega)
    refine Ev.step (fun k => ?_) (impl_copyRows_l0 m hs hm d (i + 1) (by omega))
    have e : slices_Clone_int_int.f (rd_L2 m i) = some (rd_L2 m i) := by
      unfold slices_Clone_int_int.f
      rw [if_pos (by omega)]
    simp only [impl_copyRows.l0, e, Option.bind_some]
    rw [if_pos (by omega), if_pos (by omega), if_pos (by omega), if_pos (by rw [List.length_take]; omega), wsucc (by omega), List.take_succ_eq_append_getElem (show i < m.length by omega), rows_mem (by omega)]
theorem impl_copyRows_ev (m : List (List Int)) (hs : tiny m) : Ev (fun k => impl_copyRows.f k m) m := by
  have := impl_copyRows_l0 m (tiny_small hs) hs.1 m.length 0 (by omega)
  unfold impl_copyRows.f
  simpa using this

theorem impl_Pack_l1 (R : List (List Int) × Bool) (a b c d : List (List Int)) (h : packOk a b c d) (y : Nat) (hy : y < a.length) : ∀ n x : Nat, x + n = 32 → Ev (fun k => impl_PackPlanes.l0 k a b c d (tab (packF a b c d) y ++ tabRow (packF a b c d) y 32 :: a.drop (y + 1)) (a.length : Int) (wrap64 ((y : Int) + 1))) R → Ev (fun k => impl_PackPlanes.l1 k a b c d (tab (packF a b c d) y ++ (tabRow (packF a b c d) y x ++ (rd_L2 a y).drop x) :: a.drop (y + 1)) y (a.length : Int) y 32 x) R
  | 0, x, hd, e => by
    have hl := (h.1.1.2 y hy).1
    obtain rfl : x = 32 := by omega
    refine Ev.step (fun k => ?_) e
    simp only [impl_PackPlanes.l1]
    rw [if_neg (by omega), List.drop_of_length_le (by omega), List.append_nil]
  | n + 1, x, hd, e => by
    have hx : x < 32 := by omega
    have hl := (h.1.1.2 y hy).1
    have hn := h.1.1.1
    have hd1 := dots_drop (rd_L2 a y) (i := x) (by omega)
    have q1 : (y : Int) < ((tab (packF a b c d) y ++ (tabRow (packF a b c d) y x ++ (rd_L2 a y).drop x) :: a.drop (y + 1)).length : Int) := by simp only [List.length_append, List.length_cons, List.length_drop, tab_length]; omega
    have q2 : (x : Int) < ((tabRow (packF a b c d) y x ++ (rd_L2 a y).drop x).length : Int) := by simp only [List.length_append, List.length_drop, tabRow_length]; omega
    have w5 : wrap64 ((x : Int) + 1) = ((x + 1 : Nat) : Int) := wsucc (by omega)
    obtain ⟨⟨s0, s1, s2, s3, s4⟩, s5, s6, s7, s8, s9, s10⟩ := pack_side h hy hx
    have hv := (pack_w h hy hx).1
    have ih := impl_Pack_l1 R a b c d h y hy n (x + 1) (by omega) e
    rw [tabRow_snoc, List.append_assoc, List.singleton_append] at ih
    refine Ev.step (fun k => ?_) ih
    simp only [impl_PackPlanes.l1, hv, w5]
    rw [if_pos s6, if_pos s0, if_pos q1, if_pos s1, if_pos s5, if_pos s7, if_pos s2, if_pos s8, if_pos s3, if_pos s9, if_pos s4, if_pos s10, rows_mid _ _ _ _ (tab_length _ _), if_pos q2, Int.toNat_natCast, Int.toNat_natCast, hd1, set_mid _ _ _ _ _ (tabRow_length _ _ _), set_midL _ _ _ _ _ (tab_length _ _)]
theorem impl_Pack_l0 (a b c d : List (List Int)) (h : packOk a b c d) : ∀ n y : Nat, y + n = a.length → Ev (fun k => impl_PackPlanes.l0 k a b c d (tab (packF a b c d) y ++ a.drop y) (a.length : Int) y) (tab (packF a b c d) a.length, true)
  | 0, y, hd => by
    obtain rfl : y = a.length := by omega
    refine Ev.step (f := fun _ => some (tab (packF a b c d) a.length, true)) (fun k => ?_) (Ev.now _)
    simp only [impl_PackPlanes.l0]
    rw [if_neg (by omega), List.drop_of_length_le (by omega), List.append_nil]
  | n + 1, y, hd => by
    have hn := h.1.1.1
    have hl := (h.1.1.2 y (by omega)).1
    refine Ev.step (f := fun k => impl_PackPlanes.l1 k a b c d (tab (packF a b c d) y ++ (tabRow (packF a b c d) y 0 ++ (rd_L2 a y).drop 0) :: a.drop (y + 1)) y (a.length : Int) y 32 (0 : Nat)) (fun k => ?_) (impl_Pack_l1 _ a b c d h y (by omega) 32 0 (by omega) ?_)
    · simp only [impl_PackPlanes.l0]
      rw [if_pos (by omega), if_pos (by omega), if_pos (by simp only [List.length_append, List.length_drop, tab_length]; omega), rows_drop a (by omega), rows_mid _ _ _ _ (tab_length _ _), hl]
      rfl
    · have e : tab (packF a b c d) y ++ tabRow (packF a b c d) y 32 :: a.drop (y + 1) = tab (packF a b c d) (y + 1) ++ a.drop (y + 1) := by rw [tab_snoc, List.append_assoc]; rfl
      rw [wsucc (by omega), e]
      exact impl_Pack_l0 a b c d h n (y + 1) (by omega)
theorem impl_Pack_chk (c : List (List Int)) : ∀ q : List (List (List Int)), Ev (fun k => impl_PackPlanes.chk k c q) (decide (∀ p ∈ q, mat 1 p ∧ p.length = c.length))
  | [] => by
    rw [decide_eq_true (by simp)]
    exact Ev.now _
  | p :: q => by
    show Ev (fun k => (impl_BitsOk.f k p).bind fun t => if t = true then (if (p.length : Int) = (c.length : Int) then impl_PackPlanes.chk k c q else some false) else some false) _
    refine (impl_BitsOk_ev p).bind ?_
    by_cases c1 : mat 1 p
    · refine ev_pos (decide_eq_true c1) ?_
      by_cases c2 : p.length = c.length
      · refine ev_pos (by omega) ?_
        have e : decide (∀ r ∈ p :: q, mat 1 r ∧ r.length = c.length) = decide (∀ r ∈ q, mat 1 r ∧ r.length = c.length) := by
          rw [Bool.eq_iff_iff]
          simp only [decide_eq_true_eq, List.mem_cons]
          exact ⟨fun g r hr => g r (.inr hr), fun g r hr => hr.elim (fun z => z ▸ ⟨c1, c2⟩) (g r)⟩
        rw [e]
        exact impl_Pack_chk c q
      · rw [decide_eq_false (fun g => c2 (g p List.mem_cons_self).2)]
        exact ev_neg (by omega) (Ev.now _)
    · rw [decide_eq_false (p := ∀ r ∈ p :: q, mat 1 r ∧ r.length = c.length) (fun g => c1 (g p List.mem_cons_self).1)]
      exact ev_neg (by simp [c1]) (Ev.now _)
theorem impl_Pack_ev (a b c d : List (List Int)) (ht : tiny a) : Ev (fun k => impl_PackPlanes.f k a b c d) (packV a b c d) := by
  unfold impl_PackPlanes.f packV
  refine (impl_Pack_chk a [a, b, c, d]).bind ?_
  by_cases h : packOk a b c d
  · have g : ∀ p ∈ [a, b, c, d], mat 1 p ∧ p.length = a.length := by
      intro p hp
      simp only [List.mem_cons, List.not_mem_nil, or_false] at hp
      rcases hp with rfl | rfl | rfl | rfl
      · exact ⟨h.1.1, rfl⟩
      · exact ⟨h.1.2.1, h.2.1.symm⟩
      · exact ⟨h.1.2.2.1, h.2.2.1.symm⟩
      · exact ⟨h.1.2.2.2, h.2.2.2.symm⟩
    rw [if_pos h]
    refine ev_pos (decide_eq_true g) ?_
    unfold impl_PackPlanes.g
    exact (impl_copyRows_ev a ht).bind (impl_Pack_l0 a b c d h a.length 0 (by omega))
  · have g : ¬ ∀ p ∈ [a, b, c, d], mat 1 p ∧ p.length = a.length := fun q => h ⟨⟨(q a (by simp)).1, (q b (by simp)).1, (q c (by simp)).1, (q d (by simp)).1⟩, (q b (by simp)).2.symm, (q c (by simp)).2.symm, (q d (by simp)).2.symm⟩
    rw [if_neg h]
    exact ev_neg (by simp only [decide_eq_true_eq]; exact g) (Ev.now _)

theorem impl_planesOk_l1 (m : List (List Int)) (h255 : mat 255 m) (y : Nat) (hy : y < m.length) (R : Bool) :
    ∀ d i : Nat, i + d = (rd_L2 m y).length → (∀ j : Nat, j < i → rd (rd_L2 m y) j ≤ 15) → (rowP 15 (rd_L2 m y) → Ev (fun k => impl_planesOk.l0 k m (m.length : Int) (wrap64 ((y : Int) + 1))) R) → (¬ rowP 15 (rd_L2 m y) → R = false) →
      Ev (fun k => impl_planesOk.l1 k m (m.length : Int) y (rd_L2 m y) ((rd_L2 m y).length : Int) i) R
  | 0, i, h, hj, h1, h2 => by
    have hr := h255.2 y hy
    refine Ev.step (fun k => ?_) (h1 ⟨hr.1, fun j hj2 => ⟨(hr.2 j hj2).1, hj j (by omega)⟩⟩)
    simp only [impl_planesOk.l1]
    rw [if_neg (by omega)]
  | d + 1, i, h, hj, h1, h2 => by
    have hr := h255.2 y hy
    have hl := hr.1
    by_cases c : rd (rd_L2 m y) i > 15
    · rw [h2 fun q => by have := (q.2 i (by omega)).2; omega]
      refine Ev.step (f := fun _ => some false) (fun k => ?_) (Ev.now _)
      simp only [impl_planesOk.l1]
      rw [if_pos (by omega), if_pos (by omega), if_pos (by omega), if_pos c]
    · refine Ev.step (fun k => ?_) (impl_planesOk_l1 m h255 y hy R d (i + 1) (by omega) (fun j hj2 => ?_) h1 h2)
      · simp only [impl_planesOk.l1]
        rw [if_pos (by omega), if_pos (by omega), if_pos (by omega), if_neg c, wsucc (by omega)]
      · by_cases e : j = i
        · subst e
          omega
        · exact hj j (by omega)
theorem impl_planesOk_l0 (m : List (List Int)) (h255 : mat 255 m) : ∀ d i : Nat, i + d = m.length → (∀ j : Nat, j < i → rowP 15 (rd_L2 m j)) → Ev (fun k => impl_planesOk.l0 k m (m.length : Int) i) (decide (mat 15 m))
  | 0, i, h, hj => by
    have hn := h255.1
    refine Ev.step (f := fun _ => some true) (fun k => ?_) ?_
    · simp only [impl_planesOk.l0]
      rw [if_neg (by omega)]
    · rw [decide_eq_true (show mat 15 m from ⟨hn, fun j h1 => hj j (by omega)⟩)]
      exact Ev.now _
  | d + 1, i, h, hj => by
    have hn := h255.1
    refine Ev.step (f := fun k => impl_planesOk.l1 k m (m.length : Int) i (rd_L2 m i) ((rd_L2 m i).length : Int) 0) (fun k => ?_) (impl_planesOk_l1 m h255 i (by omega) _ (rd_L2 m i).length 0 (by omega) (fun j h1 => by omega) (fun hr => ?_) (fun hr => decide_eq_false fun q => hr (q.2 i (by omega))))
    · simp only [impl_planesOk.l0]
      rw [if_pos (by omega), if_pos (by omega), if_pos (by omega)]
    · rw [wsucc (by omega)]
      refine impl_planesOk_l0 m h255 d (i + 1) (by omega) (fun j h1 => ?_)
      by_cases e : j = i
      · subst e
        exact hr
      · exact hj j (by omega)
theorem impl_planesOk_ev (m : List (List Int)) : Ev (fun k => impl_planesOk.f k m) (decide (mat 15 m)) := by
  unfold impl_planesOk.f
  refine (impl_RowsOk_ev m).bind ?_
  by_cases c : mat 255 m
  · exact ev_pos (decide_eq_true c) (impl_planesOk_l0 m c m.length 0 (by omega) (fun j h => by omega))
  · rw [decide_eq_false (show ¬ mat 15 m from fun h => c (mat_mono (by omega) h))]
    exact ev_neg (by simp [c]) (Ev.now _)

def planeF (p : Int) (m : List (List Int)) (y x : Nat) : Int := Go.bits .and .i64 (shr .i64 (rd (rd_L2 m y) x) p) 1

theorem impl_Plane_l1 (R : List (List Int)) (p : Int) (hp : 0 ≤ p ∧ p ≤ 3) (m : List (List Int)) (h : mat 15 m) (y : Nat) (hy : y < m.length) : ∀ d x : Nat, x + d = 32 → Ev (fun k => impl_PlaneOf.l0 k p (tab (planeF p m) y ++ tabRow (planeF p m) y 32 :: m.drop (y + 1)) (m.length : Int) (wrap64 ((y : Int) + 1))) R → Ev (fun k => impl_PlaneOf.l1 k p (tab (planeF p m) y ++ (tabRow (planeF p m) y x ++ (rd_L2 m y).drop x) :: m.drop (y + 1)) y (m.length : Int) y 32 x) R
  | 0, x, hd, e => by
    have hl := (h.2 y hy).1
    obtain rfl : x = 32 := by omega
    refine Ev.step (fun k => ?_) e
    simp only [impl_PlaneOf.l1]
    rw [if_neg (by omega), List.drop_of_length_le (by omega), List.append_nil]
  | d + 1, x, hd, e => by
    have hl := (h.2 y hy).1
    have hn := h.1
    have hd1 := dots_drop (rd_L2 m y) (i := x) (by omega)
    refine Ev.step (fun k => ?_) (impl_Plane_l1 R p hp m h y hy d (x + 1) (by omega) e)
    simp only [impl_PlaneOf.l1]
    rw [if_pos (by omega), if_pos (by omega), if_pos (by simp only [List.length_append, List.length_cons, List.length_drop, tab_length]; omega), if_pos (by omega), rows_mid _ _ _ _ (tab_length _ _),
      if_pos (by simp only [List.length_append, List.length_drop, tabRow_length]; omega), if_pos hp.1, wsucc (by omega), Int.toNat_natCast, Int.toNat_natCast, hd1, dots_mid _ _ _ _ (tabRow_length _ _ _), set_mid _ _ _ _ _ (tabRow_length _ _ _), set_midL _ _ _ _ _ (tab_length _ _), tabRow_snoc, List.append_assoc]
    rfl
theorem impl_Plane_l0 (p : Int) (hp : 0 ≤ p ∧ p ≤ 3) (m : List (List Int)) (h : mat 15 m) : ∀ d y : Nat, y + d = m.length → Ev (fun k => impl_PlaneOf.l0 k p (tab (planeF p m) y ++ m.drop y) (m.length : Int) y) (tab (planeF p m) m.length)
  | 0, y, hd => by
    obtain rfl : y = m.length := by omega
    refine Ev.step (f := fun _ => some (tab (planeF p m) m.length)) (fun k => ?_) (Ev.now _)
    simp only [impl_PlaneOf.l0]
    rw [if_neg (by omega), List.drop_of_length_le (by omega), List.append_nil]
  | d + 1, y, hd => by
    have hn := h.1
    have hl := (h.2 y (by omega)).1
    refine Ev.step (f := fun k => impl_PlaneOf.l1 k p (tab (planeF p m) y ++ (tabRow (planeF p m) y 0 ++ (rd_L2 m y).drop 0) :: m.drop (y + 1)) y (m.length : Int) y 32 0) (fun k => ?_) (impl_Plane_l1 _ p hp m h y (by omega) 32 0 (by omega) ?_)
    · simp only [impl_PlaneOf.l0]
      rw [if_pos (by omega), if_pos (by omega), if_pos (by simp only [List.length_append, List.length_drop, tab_length]; omega), rows_drop m (by omega), rows_mid _ _ _ _ (tab_length _ _), hl]
      rfl
    · have e : tab (planeF p m) y ++ tabRow (planeF p m) y 32 :: m.drop (y + 1) = tab (planeF p m) (y + 1) ++ m.drop (y + 1) := by rw [tab_snoc, List.append_assoc]; rfl
      rw [wsucc (by omega), e]
      exact impl_Plane_l0 p hp m h d (y + 1) (by omega)
theorem impl_Plane_ev (m : List (List Int)) (p : Int) (ht : tiny m) : Ev (fun k => impl_PlaneOf.f k m p) (if mat 15 m ∧ 0 ≤ p ∧ p ≤ 3 then tab (planeF p m) m.length else []) := by
  unfold impl_PlaneOf.f
  have stop : Ev (fun k => impl_PlaneOf.j0 k m p true) ([] : List (List Int)) := by
    refine Ev.step (f := fun _ => some []) (fun k => ?_) (Ev.now _)
    simp only [impl_PlaneOf.j0]
    rfl
  simp only [within_eq, Option.bind_some]
  by_cases c0 : 0 ≤ p ∧ p ≤ 3
  · refine ev_pos (decide_eq_true c0) ((impl_planesOk_ev m).bind ?_)
    by_cases c : mat 15 m
    · rw [if_pos ⟨c, c0⟩, decide_eq_true c]
      refine Ev.step (f := fun k => (impl_copyRows.f k m).bind fun t => impl_PlaneOf.l0 k p t (t.length : Int) 0) (fun k => ?_) ((impl_copyRows_ev m ht).bind ?_)
      · simp only [impl_PlaneOf.j0]
        rfl
      · exact impl_Plane_l0 p c0 m c m.length 0 (by omega)
    · rw [if_neg (fun q => c q.1), decide_eq_false c]
      exact stop
  · rw [if_neg (fun q => c0 q.2)]
    exact ev_neg (by simp only [decide_eq_true_eq]; exact c0) stop

def dropF (m : List (List Int)) (y x : Nat) : Int := mn (rd (rd_L2 m y) x) 8

theorem impl_Drop_l1 (R : List (List Int)) (m : List (List Int)) (h : mat 15 m) (y : Nat) (hy : y < m.length) : ∀ d x : Nat, x + d = 32 → Ev (fun k => impl_DropUnder.l0 k (tab (dropF m) y ++ tabRow (dropF m) y 32 :: m.drop (y + 1)) (m.length : Int) (wrap64 ((y : Int) + 1))) R → Ev (fun k => impl_DropUnder.l1 k (tab (dropF m) y ++ (tabRow (dropF m) y x ++ (rd_L2 m y).drop x) :: m.drop (y + 1)) y (m.length : Int) y 32 x) R
  | 0, x, hd, e => by
    have hl := (h.2 y hy).1
    obtain rfl : x = 32 := by omega
    refine Ev.step (fun k => ?_) e
    simp only [impl_DropUnder.l1]
    rw [if_neg (by omega), List.drop_of_length_le (by omega), List.append_nil]
  | d + 1, x, hd, e => by
    have hl := (h.2 y hy).1
    have hn := h.1
    have hd1 := dots_drop (rd_L2 m y) (i := x) (by omega)
    refine Ev.step (fun k => ?_) (impl_Drop_l1 R m h y hy d (x + 1) (by omega) e)
    simp only [impl_DropUnder.l1]
    rw [if_pos (by omega), if_pos (by omega), if_pos (by simp only [List.length_append, List.length_cons, List.length_drop, tab_length]; omega), if_pos (by omega), rows_mid _ _ _ _ (tab_length _ _),
      if_pos (by simp only [List.length_append, List.length_drop, tabRow_length]; omega), wsucc (by omega), Int.toNat_natCast, Int.toNat_natCast, hd1, dots_mid _ _ _ _ (tabRow_length _ _ _), set_mid _ _ _ _ _ (tabRow_length _ _ _), set_midL _ _ _ _ _ (tab_length _ _), tabRow_snoc, List.append_assoc]
    rfl
theorem impl_Drop_l0 (m : List (List Int)) (h : mat 15 m) : ∀ d y : Nat, y + d = m.length → Ev (fun k => impl_DropUnder.l0 k (tab (dropF m) y ++ m.drop y) (m.length : Int) y) (tab (dropF m) m.length)
  | 0, y, hd => by
    obtain rfl : y = m.length := by omega
    refine Ev.step (f := fun _ => some (tab (dropF m) m.length)) (fun k => ?_) (Ev.now _)
    simp only [impl_DropUnder.l0]
    rw [if_neg (by omega), List.drop_of_length_le (by omega), List.append_nil]
  | d + 1, y, hd => by
    have hn := h.1
    have hl := (h.2 y (by omega)).1
    refine Ev.step (f := fun k => impl_DropUnder.l1 k (tab (dropF m) y ++ (tabRow (dropF m) y 0 ++ (rd_L2 m y).drop 0) :: m.drop (y + 1)) y (m.length : Int) y 32 0) (fun k => ?_) (impl_Drop_l1 _ m h y (by omega) 32 0 (by omega) ?_)
    · simp only [impl_DropUnder.l0]
      rw [if_pos (by omega), if_pos (by omega), if_pos (by simp only [List.length_append, List.length_drop, tab_length]; omega), rows_drop m (by omega), rows_mid _ _ _ _ (tab_length _ _), hl]
      rfl
    · have e : tab (dropF m) y ++ tabRow (dropF m) y 32 :: m.drop (y + 1) = tab (dropF m) (y + 1) ++ m.drop (y + 1) := by rw [tab_snoc, List.append_assoc]; rfl
      rw [wsucc (by omega), e]
      exact impl_Drop_l0 m h d (y + 1) (by omega)
theorem impl_Drop_ev (m : List (List Int)) (ht : tiny m) : Ev (fun k => impl_DropUnder.f k m) (if mat 15 m then tab (dropF m) m.length else []) := by
  unfold impl_DropUnder.f
  refine (impl_planesOk_ev m).bind ?_
  by_cases c : mat 15 m
  · rw [if_pos c]
    refine ev_pos (decide_eq_true c) ((impl_copyRows_ev m ht).bind ?_)
    exact impl_Drop_l0 m c m.length 0 (by omega)
  · rw [if_neg c]
    exact ev_neg (by simp [c]) (Ev.now _)

/-- f 0 + .. + f (n - 1). -/
def S (f : Nat → Int) : Nat → Int
  | 0 => 0
  | n + 1 => S f n + f n
theorem S_congr {f g : Nat → Int} : ∀ {n : Nat}, (∀ i, i < n → f i = g i) → S f n = S g n
  | 0, _ => rfl
  | n + 1, h => by
    simp only [S]
    rw [S_congr (fun i hi => h i (by omega)), h n (by omega)]
theorem S_shift (f : Nat → Int) : ∀ n : Nat, S f (n + 1) = f 0 + S (fun i => f (i + 1)) n
  | 0 => by simp [S]
  | n + 1 => by
    rw [S, S_shift f n]
    simp only [S]
    omega
theorem S_rev (f : Nat → Int) : ∀ n : Nat, S (fun i => f (n - 1 - i)) n = S f n
  | 0 => rfl
  | n + 1 => by
    rw [S_shift, S, Int.add_comm, show n + 1 - 1 - 0 = n by omega]
    congr 1
    rw [← S_rev f n]
    exact S_congr fun i _ => by rw [show n + 1 - 1 - (i + 1) = n - 1 - i by omega]
theorem S_add (f g : Nat → Int) : ∀ n : Nat, S (fun i => f i + g i) n = S f n + S g n
  | 0 => rfl
  | n + 1 => by
    simp only [S]
    rw [S_add f g n]
    omega
theorem S_zero : ∀ n : Nat, S (fun _ => 0) n = 0
  | 0 => rfl
  | n + 1 => by
    simp only [S]
    rw [S_zero n]
    rfl
theorem S_swap (F : Nat → Nat → Int) (m : Nat) : ∀ n : Nat, S (fun y => S (fun x => F x y) m) n = S (fun x => S (fun y => F x y) n) m
  | 0 => by
    simp only [S]
    rw [S_zero]
  | n + 1 => by
    simp only [S]
    rw [S_swap F m n, S_add]
theorem S_le {f g : Nat → Int} : ∀ {n : Nat}, (∀ i, i < n → f i ≤ g i) → S f n ≤ S g n
  | 0, _ => Int.le_refl _
  | n + 1, h => by
    simp only [S]
    have := S_le (n := n) (fun i hi => h i (by omega))
    have := h n (by omega)
    omega

/-- How often v stands in a row from place i on, d places. -/
def countRow (v : Int) (r : List Int) : Nat → Nat → Int
  | 0, _ => 0
  | d + 1, i => (if rd r i = v then 1 else 0) + countRow v r d (i + 1)
/-- How often v stands in the rows from y on, d rows. -/
def countRows (v : Int) (m : List (List Int)) : Nat → Nat → Int
  | 0, _ => 0
  | d + 1, y => countRow v (rd_L2 m y) (rd_L2 m y).length 0 + countRows v m d (y + 1)
theorem countRow_in (v : Int) (r : List Int) : ∀ d i, 0 ≤ countRow v r d i ∧ countRow v r d i ≤ d
  | 0, i => by simp [countRow]
  | d + 1, i => by
    have := countRow_in v r d (i + 1)
    unfold countRow
    split <;> omega
/-- The number of v in the rows. -/
def countOf (v : Int) (m : List (List Int)) : Int := countRows v m m.length 0

theorem countRow_S (v : Int) (r : List Int) : ∀ d i : Nat, countRow v r d i = S (fun j => if rd r ((i + j : Nat) : Int) = v then 1 else 0) d
  | 0, _ => rfl
  | d + 1, i => by
    rw [countRow, countRow_S v r d (i + 1), S_shift]
    simp only [Nat.add_zero]
    congr 1
    exact S_congr fun j _ => by rw [show i + 1 + j = i + (j + 1) by omega]
theorem countRows_S (v : Int) (m : List (List Int)) : ∀ d y : Nat, countRows v m d y = S (fun j => countRow v (rd_L2 m ((y + j : Nat) : Int)) (rd_L2 m ((y + j : Nat) : Int)).length 0) d
  | 0, _ => rfl
  | d + 1, y => by
    rw [countRows, countRows_S v m d (y + 1), S_shift]
    simp only [Nat.add_zero]
    congr 1
    exact S_congr fun j _ => by rw [show y + 1 + j = y + (j + 1) by omega]
/-- The ones in rows of bits are the bits' sum. -/
theorem countOf_tab (F : Nat → Nat → Int) (n : Nat) (hF : ∀ y x, y < n → x < 32 → 0 ≤ F y x ∧ F y x ≤ 1) : countOf 1 (tab F n) = S (fun y => S (fun x => F y x) 32) n := by
  unfold countOf
  rw [countRows_S, tab_length]
  refine S_congr fun y hy => ?_
  simp only [Nat.zero_add]
  rw [tab_row F hy, tabRow_length, countRow_S]
  refine S_congr fun x hx => ?_
  simp only [Nat.zero_add]
  rw [tabRow_get F y hx]
  have := hF y x hy hx
  by_cases c : F y x = 1
  · rw [if_pos c, c]
  · rw [if_neg c]
    omega

def bitAt (v p : Int) : Int := Go.bits .and .i64 (shr .i64 v p) 1
def pop (v : Int) : Int := bitAt v 0 + bitAt v 1 + bitAt v 2 + bitAt v 3
theorem cases16 {P : Int → Prop} (h : ∀ n : Nat, n < 16 → P n) {v : Int} (h0 : 0 ≤ v) (h1 : v ≤ 15) : P v := by
  have := h v.toNat (by omega)
  rwa [Int.toNat_of_nonneg h0] at this
theorem bitAt_in {v : Int} (h0 : 0 ≤ v) (h1 : v ≤ 15) (p : Nat) (hp : p < 4) : 0 ≤ bitAt v p ∧ bitAt v p ≤ 1 := by
  refine cases16 (P := fun v => 0 ≤ bitAt v p ∧ bitAt v p ≤ 1) (fun n hn => ?_) h0 h1
  have : ∀ n : Fin 16, ∀ p : Fin 4, 0 ≤ bitAt (n.val : Int) (p.val : Int) ∧ bitAt (n.val : Int) (p.val : Int) ≤ 1 := by decide +kernel
  exact this ⟨n, hn⟩ ⟨p, hp⟩
theorem onesCount_eq {v : Int} (h0 : 0 ≤ v) (h1 : v ≤ 15) : bits_OnesCount.f (IntKind.u64.wrap v) = some (pop v) := by
  refine cases16 (P := fun v => bits_OnesCount.f (IntKind.u64.wrap v) = some (pop v)) (fun n hn => ?_) h0 h1
  have : ∀ n : Fin 16, bits_OnesCount.f (IntKind.u64.wrap (n.val : Int)) = some (pop (n.val : Int)) := by decide +kernel
  exact this ⟨n, hn⟩
theorem pop_in {v : Int} (h0 : 0 ≤ v) (h1 : v ≤ 15) : 0 ≤ pop v ∧ pop v ≤ 4 := by
  have a := bitAt_in h0 h1 0 (by omega)
  have b := bitAt_in h0 h1 1 (by omega)
  have c := bitAt_in h0 h1 2 (by omega)
  have d := bitAt_in h0 h1 3 (by omega)
  unfold pop
  simp only [Int.natCast_zero, Int.natCast_one] at a b
  have c2 : 0 ≤ bitAt v 2 ∧ bitAt v 2 ≤ 1 := c
  have d2 : 0 ≤ bitAt v 3 ∧ bitAt v 3 ≤ 1 := d
  omega
/-- The dots of a row from its begin, summed. -/
def inkRow (m : List (List Int)) (y n : Nat) : Int := S (fun x => pop (rd (rd_L2 m y) x)) n
def inkOf (m : List (List Int)) (n : Nat) : Int := S (fun y => inkRow m y 32) n
theorem S_in {f : Nat → Int} {B : Int} : ∀ {n : Nat}, (∀ i, i < n → 0 ≤ f i ∧ f i ≤ B) → 0 ≤ S f n ∧ S f n ≤ n * B
  | 0, _ => by simp [S]
  | n + 1, h => by
    have h1 := S_in (n := n) (fun i hi => h i (by omega))
    have h2 := h n (by omega)
    simp only [S]
    refine ⟨by omega, ?_⟩
    rw [show ((n + 1 : Nat) : Int) * B = n * B + B by rw [Int.natCast_add, Int.add_mul]; simp]
    omega
theorem inkRow_in {m : List (List Int)} (h : mat 15 m) {y : Nat} (hy : y < m.length) {n : Nat} (hn : n ≤ 32) : 0 ≤ inkRow m y n ∧ inkRow m y n ≤ n * 4 :=
  S_in fun x hx => by
    have := mat_dot h hy (x := x) (by omega)
    exact pop_in this.1 this.2
theorem inkOf_in {m : List (List Int)} (h : mat 15 m) {n : Nat} (hn : n ≤ m.length) : 0 ≤ inkOf m n ∧ inkOf m n ≤ n * 128 :=
  S_in fun y hy => by
    have := inkRow_in h (y := y) (by omega) (n := 32) (by omega)
    omega

theorem impl_Ink_l1 (R : Int) (m : List (List Int)) (h : mat 15 m) (y : Nat) (hy : y < m.length) (s : Int) (hs : 0 ≤ s ∧ s ≤ 128 * y) : ∀ d x : Nat, x + d = 32 → Ev (fun k => impl_CountInk.l0 k (s + inkRow m y 32) m (m.length : Int) (wrap64 ((y : Int) + 1))) R → Ev (fun k => impl_CountInk.l1 k (s + inkRow m y x) m (m.length : Int) y (rd_L2 m y) 32 x) R
  | 0, x, hd, e => by
    obtain rfl : x = 32 := by omega
    refine Ev.step (fun k => ?_) e
    simp only [impl_CountInk.l1]
    rw [if_neg (by omega)]
  | d + 1, x, hd, e => by
    have hl := (h.2 y hy).1
    have hn := h.1
    have hv := mat_dot h hy (x := x) (by omega)
    have hp := pop_in hv.1 hv.2
    have hr := inkRow_in h hy (n := x) (by omega)
    refine Ev.step (fun k => ?_) (impl_Ink_l1 R m h y hy s hs d (x + 1) (by omega) e)
    simp only [impl_CountInk.l1, onesCount_eq hv.1 hv.2, Option.bind_some]
    rw [if_pos (by omega), if_pos (by omega), if_pos (by omega), wsucc (by omega), w64 (by omega) (by omega), Int.add_assoc]
    rfl
theorem impl_Ink_l0 (m : List (List Int)) (h : mat 15 m) : ∀ d y : Nat, y + d = m.length → Ev (fun k => impl_CountInk.l0 k (inkOf m y) m (m.length : Int) y) (inkOf m m.length)
  | 0, y, hd => by
    obtain rfl : y = m.length := by omega
    refine Ev.step (f := fun _ => some (inkOf m m.length)) (fun k => ?_) (Ev.now _)
    simp only [impl_CountInk.l0]
    rw [if_neg (by omega)]
  | d + 1, y, hd => by
    have hn := h.1
    have hl := (h.2 y (by omega)).1
    have hi := inkOf_in h (n := y) (by omega)
    refine Ev.step (f := fun k => impl_CountInk.l1 k (inkOf m y + inkRow m y 0) m (m.length : Int) y (rd_L2 m y) 32 0) (fun k => ?_) (impl_Ink_l1 _ m h y (by omega) (inkOf m y) (by omega) 32 0 (by omega) ?_)
    · simp only [impl_CountInk.l0]
      rw [if_pos (by omega), if_pos (by omega), if_pos (by omega), hl, show inkRow m y 0 = 0 from rfl, Int.add_zero]
      rfl
    · rw [wsucc (by omega)]
      exact impl_Ink_l0 m h d (y + 1) (by omega)
theorem impl_Ink_ev (m : List (List Int)) : Ev (fun k => impl_CountInk.f k m) (if mat 15 m then inkOf m m.length else 0) := by
  unfold impl_CountInk.f
  refine (impl_planesOk_ev m).bind ?_
  by_cases c : mat 15 m
  · rw [if_pos (c := mat 15 m) c]
    exact ev_pos (decide_eq_true c) (impl_Ink_l0 m c m.length 0 (by omega))
  · rw [if_neg (c := mat 15 m) c]
    exact ev_neg (by simp [c]) (Ev.now _)

theorem impl_Count_l1 (v R : Int) (m : List (List Int)) (h : mat 255 m) (y : Nat) (hy : y < m.length) : ∀ (d i : Nat) (s : Int), i + d = (rd_L2 m y).length → 0 ≤ s → s ≤ 2000 + i → Ev (fun k => impl_CountValue.l0 k v (s + countRow v (rd_L2 m y) d i) m (m.length : Int) (wrap64 ((y : Int) + 1))) R → Ev (fun k => impl_CountValue.l1 k v s m (m.length : Int) y (rd_L2 m y) ((rd_L2 m y).length : Int) i) R
  | 0, i, s, hd, h0, h1, e => by
    refine Ev.step (fun k => ?_) e
    simp only [impl_CountValue.l1, countRow]
    rw [if_neg (by omega), Int.add_zero]
  | d + 1, i, s, hd, h0, h1, e => by
    have hl := (h.2 y hy).1
    by_cases c : rd (rd_L2 m y) i = v
    · refine Ev.step (fun k => ?_) (impl_Count_l1 v R m h y hy d (i + 1) (s + 1) (by omega) (by omega) (by omega) ?_)
      · simp only [impl_CountValue.l1]
        rw [if_pos (by omega), if_pos (by omega), if_pos (by omega), if_pos c, w64 (n := s + 1) (by omega) (by omega), wsucc (by omega)]
      · simp only [countRow] at e
        rw [if_pos c, ← Int.add_assoc] at e
        exact e
    · refine Ev.step (fun k => ?_) (impl_Count_l1 v R m h y hy d (i + 1) s (by omega) (by omega) (by omega) ?_)
      · simp only [impl_CountValue.l1]
        rw [if_pos (by omega), if_pos (by omega), if_pos (by omega), if_neg c, wsucc (by omega)]
      · simp only [countRow] at e
        rw [if_neg c, Int.zero_add] at e
        exact e
theorem impl_Count_l0 (v : Int) (m : List (List Int)) (h : mat 255 m) : ∀ (d y : Nat) (s : Int), y + d = m.length → 0 ≤ s → s ≤ 32 * y → Ev (fun k => impl_CountValue.l0 k v s m (m.length : Int) y) (s + countRows v m d y)
  | 0, y, s, hd, h0, h1 => by
    refine Ev.step (f := fun _ => some s) (fun k => ?_) (by simp only [countRows, Int.add_zero]; exact Ev.now _)
    simp only [impl_CountValue.l0]
    rw [if_neg (by omega)]
  | d + 1, y, s, hd, h0, h1 => by
    have hn := h.1
    have hl := (h.2 y (by omega)).1
    have h2 := countRow_in v (rd_L2 m y) (rd_L2 m y).length 0
    refine Ev.step (f := fun k => impl_CountValue.l1 k v s m (m.length : Int) y (rd_L2 m y) ((rd_L2 m y).length : Int) 0) (fun k => ?_) (impl_Count_l1 v _ m h y (by omega) (rd_L2 m y).length 0 s (by omega) h0 (by omega) ?_)
    · simp only [impl_CountValue.l0]
      rw [if_pos (by omega), if_pos (by omega), if_pos (by omega)]
    · rw [wsucc (by omega)]
      simp only [countRows]
      rw [← Int.add_assoc]
      exact impl_Count_l0 v m h d (y + 1) _ (by omega) (by omega) (by omega)
theorem impl_Count_ev (v : Int) (m : List (List Int)) (h : mat 255 m) : Ev (fun k => impl_CountValue.f k m v) (countOf v m) := by
  have := impl_Count_l0 v m h m.length 0 0 (by omega) (by omega) (by omega)
  rw [Int.zero_add] at this
  exact this

theorem impl_Ones_ev (m : List (List Int)) : Ev (fun k => impl_CountOnes.f k m) (if mat 1 m then countOf 1 m else 0) := by
  unfold impl_CountOnes.f
  refine (impl_BitsOk_ev m).bind ?_
  by_cases c : mat 1 m
  · rw [if_pos (c := mat 1 m) c]
    exact ev_pos (decide_eq_true c) ((impl_Count_ev 1 m (mat_mono (by omega) c)).bind (Ev.now _))
  · rw [if_neg (c := mat 1 m) c]
    exact ev_neg (by simp [c]) (Ev.now _)

theorem slicesEqual_l0 (a : List Int) (hn : a.length ≤ 1099511627776) : ∀ d i : Nat, i + d = a.length → Ev (fun k => slices_Equal_int_int.l0 k a a (a.length : Int) i) true
  | 0, i, h => by
    refine Ev.step (f := fun _ => some true) (fun k => ?_) (Ev.now _)
    simp only [slices_Equal_int_int.l0]
    rw [if_neg (by omega)]
  | d + 1, i, h => by
    refine Ev.step (fun k => ?_) (slicesEqual_l0 a hn d (i + 1) (by omega))
    simp only [slices_Equal_int_int.l0]
    rw [if_pos (by omega), if_pos (by omega), if_pos (by omega), if_pos (by omega), if_pos trivial, wsucc (by omega)]
theorem slicesEqual_ev (a : List Int) (hn : a.length ≤ 1099511627776) : Ev (fun k => impl_SameRows_f.f k a a) true := by
  unfold impl_SameRows_f.f slices_Equal_int_int.f
  exact Ev.bind (a := true) (ev_pos rfl (slicesEqual_l0 a hn a.length 0 (by omega))) (Ev.now _)
theorem sameRows_l0 (m : List (List Int)) (hs : small m) : ∀ d i : Nat, i + d = m.length → Ev (fun k => slices_EqualFunc_SameRows.l0 k m m (m.length : Int) i) true
  | 0, i, h => by
    refine Ev.step (f := fun _ => some true) (fun k => ?_) (Ev.now _)
    simp only [slices_EqualFunc_SameRows.l0]
    rw [if_neg (by omega)]
  | d + 1, i, h => by
    have h1 := hs.1
    have h2 := hs.2 i (by omega)
    refine Ev.step (f := fun k => (impl_SameRows_f.f k (rd_L2 m i) (rd_L2 m i)).bind fun t => if t = true then slices_EqualFunc_SameRows.l0 k m m (m.length : Int) ((i + 1 : Nat) : Int) else some false) (fun k => ?_) ((slicesEqual_ev _ h2).bind (ev_pos rfl (sameRows_l0 m hs d (i + 1) (by omega))))
    simp only [slices_EqualFunc_SameRows.l0]
    rw [if_pos (by omega), if_pos (by omega), if_pos (by omega), if_pos (by omega), wsucc (by omega)]
theorem sameRows_ev (m : List (List Int)) (hs : small m) : Ev (fun k => impl_SameRows.f k m m) true := by
  unfold impl_SameRows.f slices_EqualFunc_SameRows.f
  exact Ev.bind (a := true) (ev_pos rfl (sameRows_l0 m hs m.length 0 (by omega))) (Ev.now _)

theorem tabRow_congr {F G : Nat → Nat → Int} {y n : Nat} (h : ∀ x, x < n → F y x = G y x) : tabRow F y n = tabRow G y n := by
  unfold tabRow
  exact List.map_congr_left fun x hx => h x (List.mem_range.1 hx)
theorem tab_congr {F G : Nat → Nat → Int} {n : Nat} (h : ∀ y x, y < n → x < 32 → F y x = G y x) : tab F n = tab G n := by
  unfold tab
  exact List.map_congr_left fun y hy => tabRow_congr fun x hx => h y x (List.mem_range.1 hy) hx
theorem tabRow_self {r : List Int} (F : Nat → Nat → Int) (y : Nat) (hF : ∀ x, x < r.length → F y x = rd r x) : tabRow F y r.length = r := by
  apply List.ext_getElem
  · rw [tabRow_length]
  · intro i h1 h2
    simp only [tabRow, List.getElem_map, List.getElem_range]
    rw [hF i h2, rd_nat, List.getD_eq_getElem?_getD, List.getElem?_eq_getElem h2]
    rfl
/-- Rows of 32 are told by their dots. -/
theorem tab_self {hi : Int} {m : List (List Int)} (h : mat hi m) : tab (fun y x => rd (rd_L2 m y) x) m.length = m := by
  apply List.ext_getElem
  · rw [tab_length]
  · intro i h1 h2
    have hr := (h.2 i h2).1
    have e := tabRow_self (r := rd_L2 m i) (fun y x => rd (rd_L2 m y) x) i (fun _ _ => rfl)
    rw [hr, rows_mem h2] at e
    simp only [tab, List.getElem_map, List.getElem_range]
    exact e
theorem tab_eq {hi : Int} {m : List (List Int)} (h : mat hi m) {F : Nat → Nat → Int} (hF : ∀ y x, y < m.length → x < 32 → F y x = rd (rd_L2 m y) x) : tab F m.length = m := (tab_congr hF).trans (tab_self h)
theorem tab_get (F : Nat → Nat → Int) {n y x : Nat} (hy : y < n) (hx : x < 32) : rd (rd_L2 (tab F n) y) x = F y x := by rw [tab_row F hy, tabRow_get F y hx]
theorem mat_small {hi : Int} {m : List (List Int)} (h : mat hi m) : small m := ⟨by have := h.1; omega, fun j hj => by have := (h.2 j hj).1; omega⟩
theorem mat_tiny {hi : Int} {m : List (List Int)} (h : mat hi m) : tiny m := ⟨by have := h.1; omega, fun j hj => by have := (h.2 j hj).1; omega⟩
/-- 1 where v stands, else 0. -/
def one (v : Int) (u : Int) : Int := if u = v then 1 else 0
theorem countRow_add {m j a b : List Int} : ∀ d i : Nat, (∀ x : Nat, i ≤ x → x < i + d → one 1 (rd m x) + one 1 (rd j x) = one 1 (rd a x) + one 1 (rd b x)) → countRow 1 m d i + countRow 1 j d i = countRow 1 a d i + countRow 1 b d i
  | 0, i, _ => rfl
  | d + 1, i, h => by
    have ih := countRow_add d (i + 1) (fun x h1 h2 => h x (by omega) (by omega))
    have h0 := h i (by omega) (by omega)
    unfold one at h0
    simp only [countRow]
    omega
theorem countRows_add {m j a b : List (List Int)} : ∀ d y : Nat, (∀ i, y ≤ i → i < y + d → (rd_L2 m i).length = 32 ∧ (rd_L2 j i).length = 32 ∧ (rd_L2 a i).length = 32 ∧ (rd_L2 b i).length = 32 ∧ ∀ x : Nat, x < 32 → one 1 (rd (rd_L2 m i) x) + one 1 (rd (rd_L2 j i) x) = one 1 (rd (rd_L2 a i) x) + one 1 (rd (rd_L2 b i) x)) →
    countRows 1 m d y + countRows 1 j d y = countRows 1 a d y + countRows 1 b d y
  | 0, y, _ => rfl
  | d + 1, y, h => by
    have ih := countRows_add d (y + 1) (fun i h1 h2 => h i (by omega) (by omega))
    obtain ⟨l1, l2, l3, l4, h0⟩ := h y (by omega) (by omega)
    have h1 := countRow_add (m := rd_L2 m y) (j := rd_L2 j y) (a := rd_L2 a y) (b := rd_L2 b y) 32 0 (fun x _ hx => h0 x (by omega))
    simp only [countRows, l1, l2, l3, l4]
    omega
theorem countRow_le {m a : List Int} : ∀ d i : Nat, (∀ x : Nat, i ≤ x → x < i + d → one 1 (rd m x) ≤ one 1 (rd a x)) → countRow 1 m d i ≤ countRow 1 a d i
  | 0, i, _ => Int.le_refl _
  | d + 1, i, h => by
    have ih := countRow_le d (i + 1) (fun x h1 h2 => h x (by omega) (by omega))
    have h0 := h i (by omega) (by omega)
    unfold one at h0
    simp only [countRow]
    omega
theorem countRows_le {m a : List (List Int)} : ∀ d y : Nat, (∀ i, y ≤ i → i < y + d → (rd_L2 m i).length = 32 ∧ (rd_L2 a i).length = 32 ∧ ∀ x : Nat, x < 32 → one 1 (rd (rd_L2 m i) x) ≤ one 1 (rd (rd_L2 a i) x)) →
    countRows 1 m d y ≤ countRows 1 a d y
  | 0, y, _ => Int.le_refl _
  | d + 1, y, h => by
    have ih := countRows_le d (y + 1) (fun i h1 h2 => h i (by omega) (by omega))
    obtain ⟨l1, l2, h0⟩ := h y (by omega) (by omega)
    have h1 := countRow_le (m := rd_L2 m y) (a := rd_L2 a y) 32 0 (fun x _ hx => h0 x (by omega))
    simp only [countRows, l1, l2]
    omega
theorem countOf_in {m : List (List Int)} (h : mat 1 m) : 0 ≤ countOf 1 m ∧ countOf 1 m ≤ 1024 := by
  have key : ∀ d y : Nat, y + d = m.length → 0 ≤ countRows 1 m d y ∧ countRows 1 m d y ≤ 32 * d := by
    intro d
    induction d with
    | zero => intro y _; simp [countRows]
    | succ d ih =>
      intro y hy
      have h1 := ih (y + 1) (by omega)
      have h2 := countRow_in 1 (rd_L2 m y) (rd_L2 m y).length 0
      have h3 := (h.2 y (by omega)).1
      simp only [countRows]
      omega
  have := key m.length 0 (by omega)
  have h1 := h.1
  unfold countOf
  omega

theorem bit_of {A B : Int} (hA : 0 ≤ A ∧ A ≤ 1) (hB : 0 ≤ B ∧ B ≤ 1) :
    bitAt (A + 2 * B + 4 * B + 8 * A) 0 = A ∧ bitAt (A + 2 * B + 4 * B + 8 * A) 1 = B ∧ bitAt (A + 2 * B + 4 * B + 8 * A) 2 = B ∧ bitAt (A + 2 * B + 4 * B + 8 * A) 3 = A ∧ bitAt (mn (A + 2 * B + 4 * B + 8 * A) 8) 3 = A := by
  have cA : A = 0 ∨ A = 1 := by omega
  have cB : B = 0 ∨ B = 1 := by omega
  rcases cA with rfl | rfl <;> rcases cB with rfl | rfl <;> decide +kernel
theorem pop_drop {v : Int} (h0 : 0 ≤ v) (h1 : v ≤ 15) : pop (mn v 8) ≤ pop v := by
  refine cases16 (P := fun v => pop (mn v 8) ≤ pop v) (fun n hn => ?_) h0 h1
  have : ∀ n : Fin 16, pop (mn (n.val : Int) 8) ≤ pop (n.val : Int) := by decide +kernel
  exact this ⟨n, hn⟩
theorem ones_S {m : List (List Int)} (h : mat 1 m) : countOf 1 m = S (fun y => S (fun x => rd (rd_L2 m y) x) 32) m.length := by
  have e := countOf_tab (fun y x => rd (rd_L2 m y) x) m.length (fun y x hy hx => mat_dot h hy hx)
  rw [tab_self h] at e
  exact e
theorem mn_mn (v : Int) : mn (mn v 8) 8 = mn v 8 := by
  unfold mn
  by_cases c : 8 < v
  · rw [if_pos c]
    rfl
  · rw [if_neg c, if_neg c]
theorem FnPlanes : laws_FnPlanes.Pure := by
  intro l hm hb hw
  refine Ev.rounds ?_
  unfold laws_FnPlanes.f
  refine ev_eq (g := laws_big.f l) rfl ?_
  by_cases hl : (l.length : Int) > 1048576
  · exact ev_pos (decide_eq_true hl) (Ev.now _)
  refine ev_neg (by simpa using hl) ?_
  obtain ⟨a, b, e, ha, hb, hab, hn, hn1⟩ := drawPlanes_ev l (by omega)
  have ok : packOk a b b a := ⟨⟨ha, hb, hb, ha⟩, hab, hab, rfl⟩
  have ep := impl_Pack_ev a b b a (mat_tiny ha)
  unfold packV at ep
  rw [if_pos ok] at ep
  have hdot : ∀ y x : Nat, y < a.length → x < 32 → (0 ≤ rd (rd_L2 a y) x ∧ rd (rd_L2 a y) x ≤ 1) ∧ (0 ≤ rd (rd_L2 b y) x ∧ rd (rd_L2 b y) x ≤ 1) := fun y x hy hx => ⟨mat_dot ha hy hx, mat_dot hb (by rw [← hab]; exact hy) hx⟩
  have hR : mat 15 (tab (packF a b b a) a.length) := tab_mat _ _ _ ha.1 (fun y x hy hx => (pack_w ok hy hx).2)
  have lR : (tab (packF a b b a) a.length).length = a.length := tab_length _ _
  have dR : ∀ y x : Nat, y < a.length → x < 32 → rd (rd_L2 (tab (packF a b b a) a.length) y) x = rd (rd_L2 a y) x + 2 * rd (rd_L2 b y) x + 4 * rd (rd_L2 b y) x + 8 * rd (rd_L2 a y) x := fun y x hy hx => tab_get _ hy hx
  generalize tab (packF a b b a) a.length = R at *
  have hD : mat 15 (tab (dropF R) R.length) := tab_mat _ _ _ (by rw [lR]; exact ha.1) (fun y x hy hx => by
    have := mat_dot hR hy hx
    unfold dropF mn
    split <;> omega)
  have lD : (tab (dropF R) R.length).length = a.length := by rw [tab_length, lR]
  have dD : ∀ y x : Nat, y < a.length → x < 32 → rd (rd_L2 (tab (dropF R) R.length) y) x = mn (rd (rd_L2 R y) x) 8 := fun y x hy hx => tab_get _ (by rw [lR]; exact hy) hx
  have ed := impl_Drop_ev R (mat_tiny hR)
  rw [if_pos hR] at ed
  generalize tab (dropF R) R.length = D at *
  have eD := impl_Drop_ev D (mat_tiny hD)
  rw [if_pos hD] at eD
  have sD : tab (dropF D) D.length = D := tab_eq hD (fun y x hy hx => by
    rw [lD] at hy
    unfold dropF
    rw [dD y x hy hx]
    exact mn_mn _)
  rw [sD] at eD
  have p0 := impl_Plane_ev R 0 (mat_tiny hR)
  have p1 := impl_Plane_ev R 1 (mat_tiny hR)
  have p2 := impl_Plane_ev R 2 (mat_tiny hR)
  have p3 := impl_Plane_ev R 3 (mat_tiny hR)
  have p4 := impl_Plane_ev D 3 (mat_tiny hD)
  rw [if_pos ⟨hR, by omega, by omega⟩] at p0 p1 p2 p3
  rw [if_pos ⟨hD, by omega, by omega⟩] at p4
  have s0 : tab (planeF 0 R) R.length = a := by
    rw [lR]
    refine tab_eq ha (fun y x hy hx => ?_)
    have g := (bit_of (hdot y x hy hx).1 (hdot y x hy hx).2).1
    rw [← dR y x hy hx] at g
    exact g
  have s1 : tab (planeF 1 R) R.length = b := by
    rw [lR, hab]
    refine tab_eq hb (fun y x hy hx => ?_)
    rw [← hab] at hy
    have g := (bit_of (hdot y x hy hx).1 (hdot y x hy hx).2).2.1
    rw [← dR y x hy hx] at g
    exact g
  have s2 : tab (planeF 2 R) R.length = b := by
    rw [lR, hab]
    refine tab_eq hb (fun y x hy hx => ?_)
    rw [← hab] at hy
    have g := (bit_of (hdot y x hy hx).1 (hdot y x hy hx).2).2.2.1
    rw [← dR y x hy hx] at g
    exact g
  have s3 : tab (planeF 3 R) R.length = a := by
    rw [lR]
    refine tab_eq ha (fun y x hy hx => ?_)
    have g := (bit_of (hdot y x hy hx).1 (hdot y x hy hx).2).2.2.2.1
    rw [← dR y x hy hx] at g
    exact g
  have s4 : tab (planeF 3 D) D.length = a := by
    rw [lD]
    refine tab_eq ha (fun y x hy hx => ?_)
    have g := (bit_of (hdot y x hy hx).1 (hdot y x hy hx).2).2.2.2.2
    rw [← dR y x hy hx, ← dD y x hy hx] at g
    exact g
  rw [s0] at p0
  rw [s1] at p1
  rw [s2] at p2
  rw [s3] at p3
  rw [s4] at p4
  have i1 := impl_Ink_ev R
  have i2 := impl_Ink_ev D
  rw [if_pos hR, lR] at i1
  rw [if_pos hD, lD] at i2
  have o1 := impl_Ones_ev a
  have o2 := impl_Ones_ev b
  rw [if_pos ha] at o1
  rw [if_pos hb] at o2
  have c1 := countOf_in ha
  have c2 := countOf_in hb
  have hink : inkOf R a.length = 2 * countOf 1 a + 2 * countOf 1 b := by
    rw [ones_S ha, ones_S hb, ← hab]
    have g : inkOf R a.length = S (fun y => S (fun x => (rd (rd_L2 a y) x + rd (rd_L2 b y) x) + (rd (rd_L2 a y) x + rd (rd_L2 b y) x)) 32) a.length := by
      unfold inkOf inkRow
      refine S_congr fun y hy => S_congr fun x hx => ?_
      have q := bit_of (hdot y x hy hx).1 (hdot y x hy hx).2
      rw [dR y x hy hx]
      unfold pop
      rw [q.1, q.2.1, q.2.2.1, q.2.2.2.1]
      omega
    rw [g]
    have h2 : ∀ y, S (fun x => (rd (rd_L2 a y) x + rd (rd_L2 b y) x) + (rd (rd_L2 a y) x + rd (rd_L2 b y) x)) 32 = (S (fun x => rd (rd_L2 a y) x) 32 + S (fun x => rd (rd_L2 b y) x) 32) + (S (fun x => rd (rd_L2 a y) x) 32 + S (fun x => rd (rd_L2 b y) x) 32) := fun y => by
      rw [S_add (fun x => rd (rd_L2 a y) x + rd (rd_L2 b y) x) (fun x => rd (rd_L2 a y) x + rd (rd_L2 b y) x), S_add (fun x => rd (rd_L2 a y) x) (fun x => rd (rd_L2 b y) x)]
    rw [S_congr (fun y _ => h2 y)]
    rw [S_add (fun y => S (fun x => rd (rd_L2 a y) x) 32 + S (fun x => rd (rd_L2 b y) x) 32) (fun y => S (fun x => rd (rd_L2 a y) x) 32 + S (fun x => rd (rd_L2 b y) x) 32), S_add (fun y => S (fun x => rd (rd_L2 a y) x) 32) (fun y => S (fun x => rd (rd_L2 b y) x) 32)]
    omega
  have hle : inkOf D a.length ≤ inkOf R a.length := by
    unfold inkOf inkRow
    refine S_le fun y hy => S_le fun x hx => ?_
    have q := mat_dot hR (by rw [lR]; exact hy) hx
    rw [dD y x hy hx]
    exact pop_drop q.1 q.2
  have sa := sameRows_ev a (mat_small ha)
  have sb := sameRows_ev b (mat_small hb)
  have sd := sameRows_ev D (mat_small hD)
  refine e.bind (ep.bind (ed.bind (ev_pos rfl (ev_pos (show (R.length : Int) = (a.length : Int) by rw [lR]) (p0.bind (sa.bind (ev_pos rfl (p1.bind (sb.bind (ev_pos rfl (p2.bind (sb.bind (ev_pos rfl (p3.bind (sa.bind (ev_pos rfl ?_))))))))))))))))
  refine i1.bind (o1.bind (o2.bind (ev_pos ?_ (i2.bind (i1.bind (ev_pos hle (p4.bind (sa.bind (ev_pos rfl (eD.bind (sd.bind (Ev.now _))))))))))))
  rw [w64 (n := 2 * countOf 1 a) (by omega) (by omega), w64 (n := 2 * countOf 1 b) (by omega) (by omega), w64 (by omega) (by omega)]
  exact hink

end Go.Proofs.Ytophklfiooklbaa.Pure
