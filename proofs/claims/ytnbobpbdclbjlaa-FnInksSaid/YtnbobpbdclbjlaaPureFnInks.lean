/-
  For every code the law of inks returns true: light is got back from its inks, and limited inks keep to the limit.
-/
import Derived.Test.YtnbobpbdclbjlaaPFnInksx4
import Derived.Test.YtnbobpbdclbjlaaWSized
/- The printed row names 'PrintWords.sized_ints' without its seat's letter W: the same law under the name that it looks for. -/
namespace Go.Proofs.Ytnbobpbdclbjlaa.PrintWords
open Go.ChangeShapes Go.WideShapes
theorem sized_ints {H : Type} {enc : TypeId × Value → H} {P : Program} {W : World} {base : Nat} {spare : Nat → Bool} {held : Bool} {t e : TypeId} {k : IntKind} {a : Option Addr} {len cap : Nat} {d : DataW H} {ps : List MemPlace} {ts : List TypeId} {ds : List (DataW H)} {j : Nat}
    (hsz : (DataW.weightsEach P ts ds).all (· ≤ reachBytes) = true) (ht : ts[j]? = some t) (hd : ds[j]? = some d) (hu : P.underlying t = some (.slice e)) (he : P.underlying e = some (.int k)) (hc : P.cellsOf e = 1) {B : Nat} (hB : P.bytesOf e = B)
    (h : DataW.Trod enc P W base spare held t (.slice a len cap) d ps) : len * B ≤ 140737488351232 :=
  Go.Proofs.YtnbobpbdclbjlaaW.PrintWords.sized_ints hsz ht hd hu he hc hB h
end Go.Proofs.Ytnbobpbdclbjlaa.PrintWords
namespace Go.Proofs.Ytnbobpbdclbjlaa.Pure
open Go.RowKit Go.Proofs.Ytnbobpbdclbjlaa.PFnInks Go.Proofs.YtnbobpbdclbjlaaW.PrintWords Go.Proofs.YtnbobpbdclbjlaaW.PrintLast Go.Proofs.YtnbobpbdclbjlaaW.PrintMore
set_option linter.unusedVariables false
set_option linter.unusedSimpArgs false

theorem w64 {n : Int} (h1 : -9223372036854775808 ≤ n) (h2 : n ≤ 9223372036854775807) : wrap64 n = n := by
  unfold wrap64
  omega
theorem wsucc {i : Nat} (h : i ≤ 1099511627776) : wrap64 ((i : Int) + 1) = ((i + 1 : Nat) : Int) := by
  rw [w64 (by omega) (by omega)]
  omega
theorem rd_nat (l : List Int) (i : Nat) : rd l (i : Int) = l.getD i 0 := by simp [rd]
theorem getD_drop (l : List Int) (i : Nat) (h : i < l.length) : l.drop i = l.getD i 0 :: l.drop (i + 1) := by
  rw [List.drop_eq_getElem_cons h]
  simp [List.getD_eq_getElem?_getD, List.getElem?_eq_getElem h]
theorem getD_take (l : List Int) (i : Nat) (h : i < l.length) : l.take (i + 1) = l.take i ++ [l.getD i 0] := by
  rw [List.take_succ_eq_append_getElem h]
  simp [List.getD_eq_getElem?_getD, List.getElem?_eq_getElem h]
theorem set_mid (p q : List Int) (u v : Int) (i : Nat) (h : p.length = i) : (p ++ u :: q).set i v = p ++ v :: q := by
  subst h
  simp [List.set_append_right]
theorem bind_id {α : Type} {g : Nat → Option α} {r : α} (h : Ev g r) : Ev (fun n => (g n).bind fun x => some x) r := by
  obtain ⟨K, h⟩ := h
  exact ⟨K, fun k hk => by simp [h k hk]⟩
theorem ev_pos {α : Type} {c : Prop} [Decidable c] {f g : Nat → Option α} {r : α} (h : c) (k : Ev f r) : Ev (fun n => if c then f n else g n) r := Ev.congr (fun n => if_pos h) k
theorem ev_neg {α : Type} {c : Prop} [Decidable c] {f g : Nat → Option α} {r : α} (h : ¬ c) (k : Ev g r) : Ev (fun n => if c then f n else g n) r := Ev.congr (fun n => if_neg h) k
theorem ev_eq {α β : Type} {g : Option α} {f : Nat → α → Option β} {a : α} {r : β} (h : g = some a) (k : Ev (fun n => f n a) r) : Ev (fun n => g.bind (f n)) r := by
  subst h
  exact k
theorem td {v : Int} (h : 0 ≤ v) (c : Int) : Int.tdiv v c = v / c := Int.tdiv_eq_ediv_of_nonneg h
theorem tm {v : Int} (h : 0 ≤ v) (c : Int) : Int.tmod v c = v % c := Int.tmod_eq_emod_of_nonneg h

theorem within_eq (a b c : Int) : impl_within.f a b c = some (decide (b ≤ a ∧ a ≤ c)) := by
  unfold impl_within.f
  by_cases h : a ≥ b
  · rw [if_pos h]
    simp [show b ≤ a from h]
  · rw [if_neg h]
    simp [show ¬ b ≤ a from h]

/-- Right inks. -/
def inks (a b c d : Int) : Prop := (0 ≤ a ∧ a ≤ 255) ∧ (0 ≤ b ∧ b ≤ 255) ∧ (0 ≤ c ∧ c ≤ 255) ∧ 0 ≤ d ∧ d ≤ 255
instance (a b c d : Int) : Decidable (inks a b c d) := by
  unfold inks
  infer_instance
theorem impl_InksOk_eq (a b c d : Int) : impl_InksOk.f a b c d = some (decide (inks a b c d)) := by
  unfold impl_InksOk.f inks
  simp only [within_eq, Option.bind_some]
  by_cases h1 : 0 ≤ a ∧ a ≤ 255
  · by_cases h2 : 0 ≤ b ∧ b ≤ 255
    · by_cases h3 : 0 ≤ c ∧ c ≤ 255
      · simp [h1, h2, h3]
      · simp [h1, h2, h3]
    · simp [h1, h2]
  · simp [h1]

/-- Inks held to a limit. -/
def limited (c m y k L : Int) : Int × Int × Int × Int × Bool :=
  if inks c m y k ∧ 255 ≤ L ∧ L ≤ 1020 then (if c + m + y + k ≤ L then (c, m, y, k, true) else (c * (L - k) / (c + m + y), m * (L - k) / (c + m + y), y * (L - k) / (c + m + y), k, true)) else (c, m, y, k, false)
theorem share_eq {c s L k : Int} (c0 : 0 ≤ c) (c1 : c ≤ 255) (s0 : 0 < s) (h0 : 0 ≤ L - k) (h1 : L - k ≤ 1020) : wrap64 (Int.tdiv (wrap64 (c * (L - k))) s) = c * (L - k) / s ∧ 0 ≤ c * (L - k) / s ∧ c * (L - k) / s * s ≤ c * (L - k) := by
  have m1 : 0 ≤ c * (L - k) := Int.mul_nonneg c0 h0
  have m2 : c * (L - k) ≤ 255 * 1020 := Int.mul_le_mul c1 h1 h0 (by omega)
  generalize c * (L - k) = z at *
  have d0 : 0 ≤ z / s := Int.ediv_nonneg m1 (by omega)
  have d1 : z / s ≤ z := Int.ediv_le_self s m1
  have d2 : z / s * s ≤ z := Int.ediv_mul_le z (by omega)
  rw [w64 (n := z) (by omega) (by omega), td m1, w64 (by omega) (by omega)]
  exact ⟨rfl, d0, d2⟩

theorem impl_Total_eq {c m y k : Int} (h : inks c m y k) : impl_TotalInk.f c m y k = some (c + m + y + k) := by
  unfold impl_TotalInk.f
  rw [impl_InksOk_eq, decide_eq_true h]
  obtain ⟨hc, hm, hy, hk⟩ := h
  simp only [Option.bind_some, if_true]
  rw [w64 (n := c + m) (by omega) (by omega), w64 (n := c + m + y) (by omega) (by omega), w64 (by omega) (by omega)]
theorem impl_Limit_ev (c m y k L : Int) : Ev (fun n => impl_LimitInks.f n c m y k L) (limited c m y k L) := by
  unfold impl_LimitInks.f limited
  have no : Ev (fun n => impl_LimitInks.j0 n L true c m y k) (c, m, y, k, false) := Ev.step (f := fun _ => some (c, m, y, k, false)) (fun n => by simp only [impl_LimitInks.j0]; rw [if_pos trivial]) (Ev.now _)
  refine ev_eq (impl_InksOk_eq _ _ _ _) ?_
  by_cases h : inks c m y k
  · refine ev_pos (decide_eq_true h) (ev_eq (within_eq _ _ _) ?_)
    by_cases hL : 255 ≤ L ∧ L ≤ 1020
    · rw [if_pos ⟨h, hL⟩, decide_eq_true hL]
      have ht := impl_Total_eq h
      obtain ⟨hc, hm, hy, hk⟩ := h
      by_cases q : c + m + y + k ≤ L
      · rw [if_pos q]
        refine Ev.step (f := fun _ => some (c, m, y, k, true)) (fun n => ?_) (Ev.now _)
        simp only [impl_LimitInks.j0, ht, Option.bind_some]
        rw [if_neg (by simp), if_pos q]
      · rw [if_neg q]
        refine Ev.step (f := fun _ => some _) (fun n => ?_) (Ev.now _)
        simp only [impl_LimitInks.j0, ht, Option.bind_some]
        rw [if_neg (by simp), if_neg q, w64 (n := c + m) (by omega) (by omega), w64 (n := c + m + y) (by omega) (by omega), if_neg (by omega), w64 (n := L - k) (by omega) (by omega),
          (share_eq (c := c) (s := c + m + y) (by omega) (by omega) (by omega) (by omega) (by omega)).1, (share_eq (c := m) (s := c + m + y) (by omega) (by omega) (by omega) (by omega) (by omega)).1, (share_eq (c := y) (s := c + m + y) (by omega) (by omega) (by omega) (by omega) (by omega)).1]
    · rw [if_neg (fun q => hL q.2), decide_eq_false hL]
      exact no
  · rw [if_neg (fun q => h q.1)]
    exact ev_neg (by simp [h]) no

theorem and255 (n : Int) : Go.bits .and .i64 n 255 = n % 256 := by
  have h255 : (BitVec.ofInt 64 255).toNat = 2 ^ 8 - 1 := by decide
  have key : (BitVec.ofInt 64 n &&& BitVec.ofInt 64 255).toNat = (n % ((2 ^ 64 : Nat) : Int)).toNat % 2 ^ 8 := by
    rw [BitVec.toNat_and, BitVec.toNat_ofInt, h255, Nat.and_two_pow_sub_one_eq_mod]
  show IntKind.i64.wrap ((BitVec.ofInt 64 n &&& BitVec.ofInt 64 255).toNat : Nat) = n % 256
  rw [key, IntKind.wrap_i64]
  omega
theorem l01New_l0 (l : List Int) (hn : l.length ≤ 1099511627776) : ∀ d i : Nat, i + d = l.length → ∀ h : Int, ∃ h', Ev (fun k => spec_l01New.l0 k l h i) (l, 0, h')
  | 0, i, hd, h => by
    refine ⟨h, Ev.step (f := fun _ => some (l, 0, h)) (fun k => ?_) (Ev.now _)⟩
    simp only [spec_l01New.l0]
    rw [if_neg (by omega)]
  | d + 1, i, hd, h => by
    by_cases c : (i : Int) < 4000
    · obtain ⟨h', e⟩ := l01New_l0 l hn d (i + 1) (by omega) (Go.bits .and .i64 (wrap64 ((wrap64 ((wrap64 (h * 131)) + (wrap64 (rd l i)))) + 7)) 1073741823)
      refine ⟨h', Ev.step (fun k => ?_) e⟩
      simp only [spec_l01New.l0]
      rw [if_pos (by omega), if_pos c, if_pos (by omega), wsucc (by omega)]
    · refine ⟨h, Ev.step (f := fun _ => some (l, 0, h)) (fun k => ?_) (Ev.now _)⟩
      simp only [spec_l01New.l0]
      rw [if_pos (by omega), if_neg c]
theorem l01New_ev (l : List Int) (hn : l.length ≤ 1099511627776) : ∃ h, Ev (fun k => spec_l01New.f k l) (l, 0, h) :=
  l01New_l0 l hn l.length 0 (by omega) _
/-- A cursor that can be read from. -/
def cur (l : List Int) (i : Int) : Prop := l.length ≤ 1099511627776 ∧ 0 ≤ i
theorem l01Byte_ex {l : List Int} {i : Int} (h : Int) (hc : cur l i) : ∃ x i' h', spec_l01Byte.f l i h = some (x, i', h') ∧ cur l i' ∧ 0 ≤ x ∧ x ≤ 255 := by
  obtain ⟨hl, h0⟩ := hc
  unfold spec_l01Byte.f
  by_cases c : i < (l.length : Int)
  · rw [if_pos c, if_pos h0, w64 (n := i + 1) (by omega) (by omega)]
    refine ⟨_, _, _, rfl, ⟨hl, by omega⟩, ?_⟩
    simp only [and255]
    omega
  · rw [if_neg c]
    refine ⟨_, _, _, rfl, ⟨hl, h0⟩, ?_⟩
    simp only [and255]
    omega

theorem l01Below_ex {l : List Int} {i : Int} (h : Int) (hc : cur l i) {n : Int} (hn : 0 < n) (hn2 : n ≤ 1000000) : ∃ x i' h', spec_l01Below.f l i h n = some (x, i', h') ∧ cur l i' ∧ 0 ≤ x ∧ x < n := by
  unfold spec_l01Below.f
  rw [if_neg (by omega)]
  by_cases c : n ≤ 256
  · rw [if_pos c]
    obtain ⟨x, i1, h1, e, hc1, b0, b1⟩ := l01Byte_ex h hc
    rw [e]
    simp only [Option.bind_some]
    rw [if_neg (by omega), tm b0]
    exact ⟨_, _, _, rfl, hc1, Int.emod_nonneg _ (by omega), Int.emod_lt_of_pos _ hn⟩
  · rw [if_neg c]
    obtain ⟨x, i1, h1, e1, hc1, b0, b1⟩ := l01Byte_ex h hc
    rw [e1]
    simp only [Option.bind_some]
    obtain ⟨y, i2, h2, e2, hc2, c0, c1⟩ := l01Byte_ex h1 hc1
    rw [e2]
    simp only [Option.bind_some]
    obtain ⟨z, i3, h3, e3, hc3, d0, d1⟩ := l01Byte_ex h2 hc2
    rw [e3]
    simp only [Option.bind_some]
    obtain ⟨u, i4, h4, e4, hc4, f0, f1⟩ := l01Byte_ex h3 hc3
    rw [e4]
    simp only [Option.bind_some]
    rw [if_neg (by omega), w64 (n := x * 16777216) (by omega) (by omega), w64 (n := y * 65536) (by omega) (by omega), w64 (n := z * 256) (by omega) (by omega), w64 (n := x * 16777216 + y * 65536) (by omega) (by omega), w64 (n := x * 16777216 + y * 65536 + z * 256) (by omega) (by omega), w64 (n := x * 16777216 + y * 65536 + z * 256 + u) (by omega) (by omega), tm (by omega)]
    exact ⟨_, _, _, rfl, hc4, Int.emod_nonneg _ (by omega), Int.emod_lt_of_pos _ hn⟩

theorem drawPlaces_l0 (l : List Int) : ∀ (d n : Nat) (ps : List Int) (i h : Int), n + d = 12 → cur l i → ps.length = n → (∀ x ∈ ps, 0 ≤ x ∧ x < 10000) →
    ∃ r : List Int, Ev (fun k => spec_DrawPlaces.l0 k ps n l i h) r ∧ r.length = 12 ∧ ∀ x ∈ r, 0 ≤ x ∧ x < 10000
  | 0, n, ps, i, h, hd, hc, hl, hp => by
    refine ⟨ps, Ev.step (f := fun _ => some ps) (fun k => ?_) (Ev.now _), by omega, hp⟩
    simp only [spec_DrawPlaces.l0]
    rw [if_neg (by omega)]
  | d + 1, n, ps, i, h, hd, hc, hl, hp => by
    obtain ⟨x, i1, h1, e, hc1, b0, b1⟩ := l01Below_ex h hc (n := 10000) (by omega) (by omega)
    obtain ⟨r, e2, e3⟩ := drawPlaces_l0 l d (n + 1) (ps ++ [x]) i1 h1 (by omega) hc1 (by simp; omega) (fun y hy => by
      rcases List.mem_append.1 hy with hy | hy
      · exact hp y hy
      · rw [List.mem_singleton.1 hy]
        exact ⟨b0, b1⟩)
    refine ⟨r, Ev.step (fun k => ?_) e2, e3⟩
    simp only [spec_DrawPlaces.l0]
    rw [if_pos (by omega), e]
    simp only [Option.bind_some]
    rw [if_pos (by omega), wsucc (by omega)]
theorem drawPlaces_ev (l : List Int) (hn : l.length ≤ 1099511627776) : ∃ r : List Int, Ev (fun k => spec_DrawPlaces.f k l) r ∧ r.length = 12 ∧ ∀ i : Nat, i < 12 → 0 ≤ rd r i ∧ rd r i < 10000 := by
  obtain ⟨h, e⟩ := l01New_ev l hn
  obtain ⟨r, e2, hl, hr⟩ := drawPlaces_l0 l 12 0 [] 0 h (by omega) ⟨hn, by omega⟩ rfl (by simp)
  refine ⟨r, ?_, hl, fun i hi => hr _ ?_⟩
  · unfold spec_DrawPlaces.f
    exact e.bind e2
  · rw [rd_nat, List.getD_eq_getElem?_getD, List.getElem?_eq_getElem (show i < r.length by omega)]
    simp

theorem l01PickInt_ex {l : List Int} {i : Int} (h : Int) (hc : cur l i) (xs : List Int) (hn : 0 < xs.length) (hn2 : xs.length ≤ 1000) : ∃ x i' h', spec_l01PickInt.f l i h xs = some (x, i', h') ∧ cur l i' ∧ x ∈ xs := by
  unfold spec_l01PickInt.f
  obtain ⟨x, i1, h1, e, hc1, b0, b1⟩ := l01Below_ex h hc (n := (xs.length : Int)) (by omega) (by omega)
  rw [e]
  simp only [Option.bind_some]
  rw [if_pos b0, if_pos b1]
  refine ⟨_, _, _, rfl, hc1, ?_⟩
  unfold rd
  rw [List.getD_eq_getElem?_getD, List.getElem?_eq_getElem (show x.toNat < xs.length by omega)]
  simp

theorem l18Value_ex {l : List Int} {i : Int} (h : Int) (hc : cur l i) : ∃ x i' h', spec_l18Value.f l i h = some (x, i', h') ∧ cur l i' ∧ 0 ≤ x ∧ x ≤ 255 := by
  unfold spec_l18Value.f
  obtain ⟨p, i1, h1, e1, c1, p0, p1⟩ := l01Below_ex h hc (n := 256) (by omega) (by omega)
  obtain ⟨q, i2, h2, e2, c2, q0, q1⟩ := l01Below_ex h1 c1 (n := 256) (by omega) (by omega)
  obtain ⟨x, i3, h3, e3, c3, hx⟩ := l01PickInt_ex h2 c2 [0, 255, 128, p, q] (by simp) (by simp)
  simp only [e1, e2, e3, Option.bind_some]
  refine ⟨_, _, _, rfl, c3, ?_⟩
  simp only [List.mem_cons, List.not_mem_nil, or_false] at hx
  omega
theorem drawLight_ev (l : List Int) (hn : l.length ≤ 1099511627776) : ∃ r g b : Int, Ev (fun k => spec_DrawLight.f k l) (r, g, b) ∧ (0 ≤ r ∧ r ≤ 255) ∧ (0 ≤ g ∧ g ≤ 255) ∧ 0 ≤ b ∧ b ≤ 255 := by
  obtain ⟨h, e⟩ := l01New_ev l hn
  obtain ⟨r, i1, h1, e1, c1, b1⟩ := l18Value_ex (l := l) (i := 0) h ⟨hn, by omega⟩
  obtain ⟨g, i2, h2, e2, c2, b2⟩ := l18Value_ex h1 c1
  obtain ⟨b, i3, h3, e3, c3, b3⟩ := l18Value_ex h2 c2
  refine ⟨r, g, b, ?_, b1, b2, b3⟩
  unfold spec_DrawLight.f
  exact e.bind (ev_eq e1 (ev_eq e2 (ev_eq e3 (Ev.now _))))

theorem FnInks : laws_FnInks.Pure := by
  intro l hm hb hw
  refine Ev.rounds ?_
  unfold laws_FnInks.f
  refine ev_eq (g := laws_big.f l) rfl ?_
  by_cases hl : (l.length : Int) > 1048576
  · exact ev_pos (decide_eq_true hl) (Ev.now _)
  refine ev_neg (by simpa using hl) ?_
  obtain ⟨r, g, b, el, hr, hg, hb⟩ := drawLight_ev l (by omega)
  obtain ⟨ps, ep, pl, pb⟩ := drawPlaces_ev l (by omega)
  have p0 := pb 0 (by omega)
  have p1 := pb 1 (by omega)
  have e0 : rd ps ((0 : Nat) : Int) = rd ps 0 := rfl
  have e1 : rd ps ((1 : Nat) : Int) = rd ps 1 := rfl
  rw [e0] at p0
  rw [e1] at p1
  refine el.bind (ep.bind (ev_pos (by omega) ?_))
  rw [tm p0.1, tm p1.1]
  generalize hq : rd ps 0 % 101 = q
  generalize hz : rd ps 1 % 766 = z
  rw [w64 (n := 255 + z) (by omega) (by omega)]
  generalize hL : 255 + z = L
  -- the inks
  obtain ⟨k, hk0, hkr, hkg, hkb, ek⟩ : ∃ k : Int, 0 ≤ k ∧ k ≤ 255 - r ∧ k ≤ 255 - g ∧ k ≤ 255 - b ∧ impl_ToInks.f r g b q = some (255 - r - k, 255 - g - k, 255 - b - k, k, true) := by
    obtain ⟨m, hm0, hmr, hmg, hmb, em⟩ : ∃ m : Int, 0 ≤ m ∧ m ≤ 255 - r ∧ m ≤ 255 - g ∧ m ≤ 255 - b ∧ mn (mn (255 - r) (255 - g)) (255 - b) = m := by
      refine ⟨_, ?_, ?_, ?_, ?_, rfl⟩ <;> (unfold mn; repeat' split) <;> omega
    have m1 : 0 ≤ m * q := Int.mul_nonneg hm0 (by omega)
    have m2 : m * q ≤ m * 100 := Int.mul_le_mul_of_nonneg_left (by omega) hm0
    refine ⟨m * q / 100, by omega, by omega, by omega, by omega, ?_⟩
    unfold impl_ToInks.f
    rw [impl_InksOk_eq, decide_eq_true (show inks r g b 0 from ⟨hr, hg, hb, by omega, by omega⟩), within_eq, decide_eq_true (show 0 ≤ q ∧ q ≤ 100 by omega)]
    simp only [Option.bind_some, if_true]
    rw [w64 (n := 255 - r) (by omega) (by omega), w64 (n := 255 - g) (by omega) (by omega), w64 (n := 255 - b) (by omega) (by omega), em, w64 (n := m * q) (by omega) (by omega), td m1, w64 (n := m * q / 100) (by omega) (by omega),
      w64 (n := 255 - r - m * q / 100) (by omega) (by omega), w64 (n := 255 - g - m * q / 100) (by omega) (by omega), w64 (n := 255 - b - m * q / 100) (by omega) (by omega)]
  refine ev_eq ek ?_
  have hi : inks (255 - r - k) (255 - g - k) (255 - b - k) k := ⟨by omega, by omega, by omega, by omega⟩
  generalize hC : 255 - r - k = C at *
  generalize hM : 255 - g - k = M at *
  generalize hY : 255 - b - k = Y at *
  have et : impl_ToLight.f C M Y k = some (r, g, b, true) := by
    unfold impl_ToLight.f
    rw [impl_InksOk_eq, decide_eq_true hi]
    simp only [Option.bind_some, if_true]
    rw [w64 (n := 255 - C) (by omega) (by omega), w64 (n := 255 - M) (by omega) (by omega), w64 (n := 255 - Y) (by omega) (by omega), w64 (n := 255 - C - k) (by omega) (by omega), w64 (n := 255 - M - k) (by omega) (by omega), w64 (n := 255 - Y - k) (by omega) (by omega)]
    have : mx 0 (255 - C - k) = r ∧ mx 0 (255 - M - k) = g ∧ mx 0 (255 - Y - k) = b := by
      unfold mx
      refine ⟨?_, ?_, ?_⟩ <;> split <;> omega
    rw [this.1, this.2.1, this.2.2]
  refine ev_eq et (ev_pos (by omega) ?_)
  obtain ⟨C', M', Y', elim, c0, c1, m0, m1, y0, y1, tot, same⟩ : ∃ C' M' Y' : Int, limited C M Y k L = (C', M', Y', k, true) ∧ 0 ≤ C' ∧ C' ≤ C ∧ 0 ≤ M' ∧ M' ≤ M ∧ 0 ≤ Y' ∧ Y' ≤ Y ∧ C' + M' + Y' + k ≤ L ∧ (C + M + Y + k > L ∨ (C' = C ∧ M' = M ∧ Y' = Y)) := by
    unfold limited
    rw [if_pos ⟨hi, by omega, by omega⟩]
    obtain ⟨iC, iM, iY, iK⟩ := hi
    by_cases c : C + M + Y + k ≤ L
    · rw [if_pos c]
      exact ⟨C, M, Y, rfl, by omega, by omega, by omega, by omega, by omega, by omega, c, .inr ⟨rfl, rfl, rfl⟩⟩
    · rw [if_neg c]
      obtain ⟨_, a0, a1⟩ := share_eq (c := C) (s := C + M + Y) (L := L) (k := k) (by omega) (by omega) (by omega) (by omega) (by omega)
      obtain ⟨_, b0, b1⟩ := share_eq (c := M) (s := C + M + Y) (L := L) (k := k) (by omega) (by omega) (by omega) (by omega) (by omega)
      obtain ⟨_, d0, d1⟩ := share_eq (c := Y) (s := C + M + Y) (L := L) (k := k) (by omega) (by omega) (by omega) (by omega) (by omega)
      have up : ∀ u : Int, 0 ≤ u → u * (L - k) ≤ u * (C + M + Y) := fun u hu => Int.mul_le_mul_of_nonneg_left (by omega) hu
      have u1 := up C (by omega)
      have u2 := up M (by omega)
      have u3 := up Y (by omega)
      have sum : (C * (L - k) / (C + M + Y) + M * (L - k) / (C + M + Y) + Y * (L - k) / (C + M + Y)) * (C + M + Y) ≤ (L - k) * (C + M + Y) := by
        have e : (L - k) * (C + M + Y) = C * (L - k) + M * (L - k) + Y * (L - k) := by rw [Int.mul_add, Int.mul_add, Int.mul_comm _ C, Int.mul_comm _ M, Int.mul_comm _ Y]
        rw [Int.add_mul, Int.add_mul, e]
        omega
      have le := Int.le_of_mul_le_mul_right sum (by omega)
      refine ⟨_, _, _, rfl, a0, Int.le_of_mul_le_mul_right (Int.le_trans a1 u1) (by omega), b0, Int.le_of_mul_le_mul_right (Int.le_trans b1 u2) (by omega), d0, Int.le_of_mul_le_mul_right (Int.le_trans d1 u3) (by omega), by omega, .inl (by omega)⟩
  have hlim := impl_Limit_ev C M Y k L
  rw [elim] at hlim
  have hi2 : inks C' M' Y' k := by
    obtain ⟨iC, iM, iY, iK⟩ := hi
    exact ⟨by omega, by omega, by omega, iK⟩
  refine hlim.bind (ev_pos rfl (ev_pos rfl (ev_pos rfl ?_)))
  refine ev_eq (impl_InksOk_eq _ _ _ _) (ev_pos (decide_eq_true hi) (ev_eq (impl_InksOk_eq _ _ _ _) (ev_pos (decide_eq_true hi2) ?_)))
  refine ev_pos rfl (ev_pos rfl (ev_pos rfl ?_))
  refine ev_eq (impl_Total_eq hi2) (ev_pos tot (ev_pos rfl (ev_pos c1 (ev_pos m1 (ev_pos y1 ?_)))))
  refine ev_eq (impl_Total_eq hi) ?_
  by_cases c : C + M + Y + k > L
  · exact ev_pos c (Ev.now _)
  · refine ev_neg c ?_
    rcases same with same | ⟨rfl, rfl, rfl⟩
    · exact absurd same c
    · simp only [beq_self_eq_true, Bool.and_self]
      exact Ev.now _

end Go.Proofs.Ytnbobpbdclbjlaa.Pure
