/-
  For every code the law of screens returns true: a darker value never has fewer dots, a dot lies where the value is above the threshold, and the turned threshold is one of the tile's.
-/
import Derived.Test.YtnbobpbdclbjlaaPFnScreensx3
import Derived.Test.YtnbobpbdclbjlaaWSized
/- The printed row names 'PrintWords.sized_ints' without its seat's letter W: the same law under the name that it looks for. -/
namespace Go.Proofs.Ytnbobpbdclbjlaa.PrintWords
open Go.ChangeShapes Go.WideShapes
theorem sized_ints {H : Type} {enc : TypeId × Value → H} {P : Program} {W : World} {base : Nat} {spare : Nat → Bool} {held : Bool} {t e : TypeId} {k : IntKind} {a : Option Addr} {len cap : Nat} {d : DataW H} {ps : List MemPlace} {ts : List TypeId} {ds : List (DataW H)} {j : Nat}
    (hsz : (DataW.weightsEach P ts ds).all (· ≤ reachBytes) = true) (ht : ts[j]? = some t) (hd : ds[j]? = some d) (hu : P.underlying t = some (.slice e)) (he : P.underlying e = some (.int k)) (hc : P.cellsOf e = 1) {B : Nat} (hB : P.bytesOf e = B)
    (h : DataW.Trod enc P W base spare held t (.slice a len cap) d ps) : len * B ≤ 140737488351232 :=
  Go.Proofs.YtnbobpbdclbjlaaW.PrintWords.sized_ints hsz ht hd hu he hc hB h
end Go.Proofs.Ytnbobpbdclbjlaa.PrintWords
namespace Go.Proofs.Ytnbobpbdclbjlaa.Pure
open Go.RowKit Go.Proofs.Ytnbobpbdclbjlaa.PFnScreens Go.Proofs.YtnbobpbdclbjlaaW.PrintWords Go.Proofs.YtnbobpbdclbjlaaW.PrintLast Go.Proofs.YtnbobpbdclbjlaaW.PrintMore
set_option linter.unusedVariables false
set_option linter.unusedSimpArgs false

theorem w64 {n : Int} (h1 : -9223372036854775808 ≤ n) (h2 : n ≤ 9223372036854775807) : wrap64 n = n := by
  unfold wrap64
  omega
theorem wsucc {i : Nat} (h : i ≤ 1099511627776) : wrap64 ((i : Int) + 1) = ((i + 1 : Nat) : Int) := by
  rw [w64 (by omega) (by omega)]
  omega
theorem rd_nat (l : List Int) (i : Nat) : rd l (i : Int) = l.getD i 0 := by simp [rd]
theorem getD_drop (l : List Int) (i : Nat) (h : i < l.length) : l.drop i = l.getD i 0 :: l.drop (i + 1) := by
  rw [List.drop_eq_getElem_cons h]
  simp [List.getD_eq_getElem?_getD, List.getElem?_eq_getElem h]
theorem getD_take (l : List Int) (i : Nat) (h : i < l.length) : l.take (i + 1) = l.take i ++ [l.getD i 0] := by
  rw [List.take_succ_eq_append_getElem h]
  simp [List.getD_eq_getElem?_getD, List.getElem?_eq_getElem h]
theorem set_mid (p q : List Int) (u v : Int) (i : Nat) (h : p.length = i) : (p ++ u :: q).set i v = p ++ v :: q := by
  subst h
  simp [List.set_append_right]
theorem bind_id {α : Type} {g : Nat → Option α} {r : α} (h : Ev g r) : Ev (fun n => (g n).bind fun x => some x) r := by
  obtain ⟨K, h⟩ := h
  exact ⟨K, fun k hk => by simp [h k hk]⟩
theorem ev_pos {α : Type} {c : Prop} [Decidable c] {f g : Nat → Option α} {r : α} (h : c) (k : Ev f r) : Ev (fun n => if c then f n else g n) r := Ev.congr (fun n => if_pos h) k
theorem ev_neg {α : Type} {c : Prop} [Decidable c] {f g : Nat → Option α} {r : α} (h : ¬ c) (k : Ev g r) : Ev (fun n => if c then f n else g n) r := Ev.congr (fun n => if_neg h) k
theorem ev_eq {α β : Type} {g : Option α} {f : Nat → α → Option β} {a : α} {r : β} (h : g = some a) (k : Ev (fun n => f n a) r) : Ev (fun n => g.bind (f n)) r := by
  subst h
  exact k
theorem td {v : Int} (h : 0 ≤ v) (c : Int) : Int.tdiv v c = v / c := Int.tdiv_eq_ediv_of_nonneg h
theorem tm {v : Int} (h : 0 ≤ v) (c : Int) : Int.tmod v c = v % c := Int.tmod_eq_emod_of_nonneg h

def tab : List Int := [0, 8, 2, 10, 12, 4, 14, 6, 3, 11, 1, 9, 15, 7, 13, 5]
theorem tab_in : ∀ n : Nat, n < 16 → 0 ≤ rd tab (n : Int) ∧ rd tab (n : Int) ≤ 15 := by decide +kernel
/-- The threshold at a place; -1 outside. -/
def thr (x y : Int) : Int := if x < 0 then -1 else if y < 0 then -1 else 16 * rd tab (4 * (y % 4) + x % 4) + 8
theorem tab_int {i : Int} (h0 : 0 ≤ i) (h1 : i < 16) : 0 ≤ rd tab i ∧ rd tab i ≤ 15 := by
  obtain ⟨n, rfl⟩ : ∃ n : Nat, i = n := ⟨i.toNat, by omega⟩
  exact tab_in n (by omega)
theorem thr_in {x y : Int} (hx : 0 ≤ x) (hy : 0 ≤ y) : 8 ≤ thr x y ∧ thr x y ≤ 248 := by
  have := tab_int (i := 4 * (y % 4) + x % 4) (by omega) (by omega)
  unfold thr
  rw [if_neg (by omega), if_neg (by omega)]
  omega
theorem impl_ThresholdAt_eq (x y : Int) : impl_ThresholdAt.f x y = some (thr x y) := by
  unfold impl_ThresholdAt.f thr
  by_cases hx : x < 0
  · rw [if_pos hx, if_pos hx]
  · rw [if_neg hx, if_neg hx]
    by_cases hy : y < 0
    · rw [if_pos hy, if_pos hy]
    · rw [if_neg hy, if_neg hy]
      rfl

/-- Is there a dot? -/
def dot (v x y : Int) : Int := if x < 0 ∨ y < 0 ∨ v ≤ thr x y then 0 else 1
theorem dot_in (v x y : Int) : 0 ≤ dot v x y ∧ dot v x y ≤ 1 := by
  unfold dot
  split <;> omega
theorem impl_ScreenDot_eq (v x y : Int) : impl_ScreenDot.f v x y = some (dot v x y) := by
  unfold impl_ScreenDot.f dot
  rw [impl_ThresholdAt_eq]
  by_cases hx : x < 0
  · simp [hx]
  · by_cases hy : y < 0
    · simp [hy]
    · by_cases hv : v ≤ thr x y
      · simp [hx, hy, hv]
      · simp [hx, hy, hv]

/-- The dots of row y from place x on, d places. -/
def rowDots (v : Int) (y : Nat) : Nat → Nat → Int
  | 0, _ => 0
  | d + 1, x => dot v (x : Nat) (y : Nat) + rowDots v y d (x + 1)
/-- The dots of the rows from y on, d rows. -/
def tileDots (v : Int) : Nat → Nat → Int
  | 0, _ => 0
  | d + 1, y => rowDots v y 4 0 + tileDots v d (y + 1)
theorem rowDots_in (v : Int) (y : Nat) : ∀ d x, 0 ≤ rowDots v y d x ∧ rowDots v y d x ≤ d
  | 0, x => by simp [rowDots]
  | d + 1, x => by
    have h1 := dot_in v (x : Nat) (y : Nat)
    have h2 := rowDots_in v y d (x + 1)
    unfold rowDots
    omega

theorem impl_Tile_l1 (v R : Int) (y : Nat) : ∀ (d x : Nat) (s : Int), x + d = 4 → 0 ≤ s → s ≤ 100 + x → Ev (fun k => impl_DotsInTile.l0 k v (s + rowDots v y d x) (wrap64 ((y : Int) + 1))) R → Ev (fun k => impl_DotsInTile.l1 k v s y x) R
  | 0, x, s, hd, h0, h1, h => by
    refine Ev.step (fun k => ?_) h
    simp only [impl_DotsInTile.l1, rowDots]
    rw [if_neg (by omega), Int.add_zero]
  | d + 1, x, s, hd, h0, h1, h => by
    have h2 := dot_in v (x : Nat) (y : Nat)
    refine Ev.step (fun k => ?_) (impl_Tile_l1 v R y d (x + 1) (s + dot v (x : Nat) (y : Nat)) (by omega) (by omega) (by omega) ?_)
    · simp only [impl_DotsInTile.l1, impl_ScreenDot_eq, Option.bind_some]
      rw [if_pos (by omega), w64 (n := s + dot v (x : Nat) (y : Nat)) (by omega) (by omega), wsucc (by omega)]
    · rw [Int.add_assoc]
      exact h
theorem impl_Tile_l0 (v : Int) : ∀ (d y : Nat) (s : Int), y + d = 4 → 0 ≤ s → s ≤ 4 * y → Ev (fun k => impl_DotsInTile.l0 k v s y) (s + tileDots v d y)
  | 0, y, s, hd, h0, h1 => by
    refine Ev.step (f := fun _ => some s) (fun k => ?_) (by simp only [tileDots, Int.add_zero]; exact Ev.now _)
    simp only [impl_DotsInTile.l0]
    rw [if_neg (by omega)]
  | d + 1, y, s, hd, h0, h1 => by
    have h2 := rowDots_in v y 4 0
    refine Ev.step (f := fun k => impl_DotsInTile.l1 k v s y 0) (fun k => ?_) (impl_Tile_l1 v _ y 4 0 s (by omega) h0 (by omega) ?_)
    · simp only [impl_DotsInTile.l0]
      rw [if_pos (by omega)]
    · rw [wsucc (by omega)]
      simp only [tileDots]
      rw [← Int.add_assoc]
      exact impl_Tile_l0 v d (y + 1) (s + rowDots v y 4 0) (by omega) (by omega) (by omega)
theorem impl_Tile_ev (v : Int) : Ev (fun k => impl_DotsInTile.f k v) (tileDots v 4 0) := by
  have := impl_Tile_l0 v 4 0 0 (by omega) (by omega) (by omega)
  rw [Int.zero_add] at this
  exact this

theorem tile_sum : ∀ n : Nat, n < 257 → tileDots (n : Int) 4 0 = mn 16 (((n : Int) + 7) / 16) := by decide +kernel
theorem tile_int {v : Int} (h0 : 0 ≤ v) (h1 : v < 257) : tileDots v 4 0 = mn 16 ((v + 7) / 16) := by
  obtain ⟨n, rfl⟩ : ∃ n : Nat, v = n := ⟨v.toNat, by omega⟩
  exact tile_sum n (by omega)
/-- The threshold of a tile's place. -/
theorem thr_tile (i : Nat) (hi : i < 16) : thr (Int.tmod (i : Int) 4) (wrap64 (Int.tdiv (i : Int) 4)) = 16 * rd tab i + 8 := by
  rw [tm (by omega), td (by omega), w64 (by omega) (by omega)]
  unfold thr
  rw [if_neg (by omega), if_neg (by omega), show 4 * ((i : Int) / 4 % 4) + (i : Int) % 4 % 4 = i by omega]

/-- The threshold of the turned screen. -/
def turned (x y q : Int) : Int :=
  if x < 0 ∨ y < 0 then -1 else if q = 0 then thr x y else if q = 1 then thr (3 - y % 4) (x % 4) else if q = 2 then thr (3 - x % 4) (3 - y % 4) else if q = 3 then thr (y % 4) (3 - x % 4) else -1

theorem impl_Turn_ev (x y q : Int) : Ev (fun k => impl_TurnScreen.f k x y q) (turned x y q) := by
  unfold impl_TurnScreen.f turned
  have no : Ev (fun k => impl_TurnScreen.j0 k x y q true) (-1) := Ev.step (f := fun _ => some (-1)) (fun k => by simp only [impl_TurnScreen.j0]; rw [if_pos trivial]) (Ev.now _)
  by_cases hx : x < 0
  · rw [if_pos (Or.inl hx)]
    exact ev_pos hx no
  · refine ev_neg hx ?_
    by_cases hy : y < 0
    · rw [if_pos (Or.inr hy), decide_eq_true hy]
      exact no
    · rw [if_neg (by omega), decide_eq_false hy]
      refine Ev.step (f := fun _ => some _) (fun k => ?_) (Ev.now _)
      simp only [impl_TurnScreen.j0, impl_ThresholdAt_eq, Option.bind_some]
      rw [if_neg (by simp), tm (show 0 ≤ x by omega), tm (show 0 ≤ y by omega), w64 (n := 3 - x % 4) (by omega) (by omega), w64 (n := 3 - y % 4) (by omega) (by omega)]
      by_cases h0 : q = 0
      · rw [if_pos h0, if_pos h0]
      · rw [if_neg h0, if_neg h0]
        by_cases h1 : q = 1
        · rw [if_pos h1, if_pos h1]
        · rw [if_neg h1, if_neg h1]
          by_cases h2 : q = 2
          · rw [if_pos h2, if_pos h2]
          · rw [if_neg h2, if_neg h2]
            by_cases h3 : q = 3
            · rw [if_pos h3, if_pos h3]
            · rw [if_neg h3, if_neg h3]

/-- The dots of a row from place x on. -/
def screened (y : Int) : List Int → Nat → List Int
  | [], _ => []
  | v :: vs, x => dot v (x : Nat) y :: screened y vs (x + 1)
theorem screened_length (y : Int) : ∀ (l : List Int) (x : Nat), (screened y l x).length = l.length
  | [], _ => rfl
  | v :: vs, x => by simp [screened, screened_length y vs]

theorem impl_Row_l0 (a : List Int) (y : Int) (hn : a.length ≤ 1099511627776) : ∀ (d i : Nat) (acc : List Int), i + d = a.length → acc.length = i → Ev (fun k => impl_ScreenRow.l0 k y acc a (a.length : Int) i) (acc ++ screened y (a.drop i) i)
  | 0, i, acc, h, hl => by
    refine Ev.step (f := fun _ => some acc) (fun k => ?_) ?_
    · simp only [impl_ScreenRow.l0]
      rw [if_neg (by omega)]
    · rw [List.drop_of_length_le (by omega)]
      simp only [screened, List.append_nil]
      exact Ev.now _
  | d + 1, i, acc, h, hl => by
    rw [getD_drop a i (by omega), ← rd_nat]
    simp only [screened]
    rw [List.append_cons]
    refine Ev.step (fun k => ?_) (impl_Row_l0 a y hn d (i + 1) (acc ++ [dot (rd a i) (i : Nat) y]) (by omega) (by simp; omega))
    simp only [impl_ScreenRow.l0, impl_ScreenDot_eq, Option.bind_some]
    rw [if_pos (by omega), if_pos (by omega), if_pos (by omega), if_pos (by omega), wsucc (by omega)]
theorem impl_Row_ev (a : List Int) (y : Int) (hn : a.length ≤ 1099511627776) : Ev (fun k => impl_ScreenRow.f k a y) (screened y a 0) :=
  impl_Row_l0 a y hn a.length 0 [] (by omega) rfl

theorem and255 (n : Int) : Go.bits .and .i64 n 255 = n % 256 := by
  have h255 : (BitVec.ofInt 64 255).toNat = 2 ^ 8 - 1 := by decide
  have key : (BitVec.ofInt 64 n &&& BitVec.ofInt 64 255).toNat = (n % ((2 ^ 64 : Nat) : Int)).toNat % 2 ^ 8 := by
    rw [BitVec.toNat_and, BitVec.toNat_ofInt, h255, Nat.and_two_pow_sub_one_eq_mod]
  show IntKind.i64.wrap ((BitVec.ofInt 64 n &&& BitVec.ofInt 64 255).toNat : Nat) = n % 256
  rw [key, IntKind.wrap_i64]
  omega
theorem l01New_l0 (l : List Int) (hn : l.length ≤ 1099511627776) : ∀ d i : Nat, i + d = l.length → ∀ h : Int, ∃ h', Ev (fun k => spec_l01New.l0 k l h i) (l, 0, h')
  | 0, i, hd, h => by
    refine ⟨h, Ev.step (f := fun _ => some (l, 0, h)) (fun k => ?_) (Ev.now _)⟩
    simp only [spec_l01New.l0]
    rw [if_neg (by omega)]
  | d + 1, i, hd, h => by
    by_cases c : (i : Int) < 4000
    · obtain ⟨h', e⟩ := l01New_l0 l hn d (i + 1) (by omega) (Go.bits .and .i64 (wrap64 ((wrap64 ((wrap64 (h * 131)) + (wrap64 (rd l i)))) + 7)) 1073741823)
      refine ⟨h', Ev.step (fun k => ?_) e⟩
      simp only [spec_l01New.l0]
      rw [if_pos (by omega), if_pos c, if_pos (by omega), wsucc (by omega)]
    · refine ⟨h, Ev.step (f := fun _ => some (l, 0, h)) (fun k => ?_) (Ev.now _)⟩
      simp only [spec_l01New.l0]
      rw [if_pos (by omega), if_neg c]
theorem l01New_ev (l : List Int) (hn : l.length ≤ 1099511627776) : ∃ h, Ev (fun k => spec_l01New.f k l) (l, 0, h) :=
  l01New_l0 l hn l.length 0 (by omega) _
/-- A cursor that can be read from. -/
def cur (l : List Int) (i : Int) : Prop := l.length ≤ 1099511627776 ∧ 0 ≤ i
theorem l01Byte_ex {l : List Int} {i : Int} (h : Int) (hc : cur l i) : ∃ x i' h', spec_l01Byte.f l i h = some (x, i', h') ∧ cur l i' ∧ 0 ≤ x ∧ x ≤ 255 := by
  obtain ⟨hl, h0⟩ := hc
  unfold spec_l01Byte.f
  by_cases c : i < (l.length : Int)
  · rw [if_pos c, if_pos h0, w64 (n := i + 1) (by omega) (by omega)]
    refine ⟨_, _, _, rfl, ⟨hl, by omega⟩, ?_⟩
    simp only [and255]
    omega
  · rw [if_neg c]
    refine ⟨_, _, _, rfl, ⟨hl, h0⟩, ?_⟩
    simp only [and255]
    omega

theorem l01Below_ex {l : List Int} {i : Int} (h : Int) (hc : cur l i) {n : Int} (hn : 0 < n) (hn2 : n ≤ 1000000) : ∃ x i' h', spec_l01Below.f l i h n = some (x, i', h') ∧ cur l i' ∧ 0 ≤ x ∧ x < n := by
  unfold spec_l01Below.f
  rw [if_neg (by omega)]
  by_cases c : n ≤ 256
  · rw [if_pos c]
    obtain ⟨x, i1, h1, e, hc1, b0, b1⟩ := l01Byte_ex h hc
    rw [e]
    simp only [Option.bind_some]
    rw [if_neg (by omega), tm b0]
    exact ⟨_, _, _, rfl, hc1, Int.emod_nonneg _ (by omega), Int.emod_lt_of_pos _ hn⟩
  · rw [if_neg c]
    obtain ⟨x, i1, h1, e1, hc1, b0, b1⟩ := l01Byte_ex h hc
    rw [e1]
    simp only [Option.bind_some]
    obtain ⟨y, i2, h2, e2, hc2, c0, c1⟩ := l01Byte_ex h1 hc1
    rw [e2]
    simp only [Option.bind_some]
    obtain ⟨z, i3, h3, e3, hc3, d0, d1⟩ := l01Byte_ex h2 hc2
    rw [e3]
    simp only [Option.bind_some]
    obtain ⟨u, i4, h4, e4, hc4, f0, f1⟩ := l01Byte_ex h3 hc3
    rw [e4]
    simp only [Option.bind_some]
    rw [if_neg (by omega), w64 (n := x * 16777216) (by omega) (by omega), w64 (n := y * 65536) (by omega) (by omega), w64 (n := z * 256) (by omega) (by omega), w64 (n := x * 16777216 + y * 65536) (by omega) (by omega), w64 (n := x * 16777216 + y * 65536 + z * 256) (by omega) (by omega), w64 (n := x * 16777216 + y * 65536 + z * 256 + u) (by omega) (by omega), tm (by omega)]
    exact ⟨_, _, _, rfl, hc4, Int.emod_nonneg _ (by omega), Int.emod_lt_of_pos _ hn⟩

theorem drawPlaces_l0 (l : List Int) : ∀ (d n : Nat) (ps : List Int) (i h : Int), n + d = 12 → cur l i → ps.length = n → (∀ x ∈ ps, 0 ≤ x ∧ x < 10000) →
    ∃ r : List Int, Ev (fun k => spec_DrawPlaces.l0 k ps n l i h) r ∧ r.length = 12 ∧ ∀ x ∈ r, 0 ≤ x ∧ x < 10000
  | 0, n, ps, i, h, hd, hc, hl, hp => by
    refine ⟨ps, Ev.step (f := fun _ => some ps) (fun k => ?_) (Ev.now _), by omega, hp⟩
    simp only [spec_DrawPlaces.l0]
    rw [if_neg (by omega)]
  | d + 1, n, ps, i, h, hd, hc, hl, hp => by
    obtain ⟨x, i1, h1, e, hc1, b0, b1⟩ := l01Below_ex h hc (n := 10000) (by omega) (by omega)
    obtain ⟨r, e2, e3⟩ := drawPlaces_l0 l d (n + 1) (ps ++ [x]) i1 h1 (by omega) hc1 (by simp; omega) (fun y hy => by
      rcases List.mem_append.1 hy with hy | hy
      · exact hp y hy
      · rw [List.mem_singleton.1 hy]
        exact ⟨b0, b1⟩)
    refine ⟨r, Ev.step (fun k => ?_) e2, e3⟩
    simp only [spec_DrawPlaces.l0]
    rw [if_pos (by omega), e]
    simp only [Option.bind_some]
    rw [if_pos (by omega), wsucc (by omega)]
theorem drawPlaces_ev (l : List Int) (hn : l.length ≤ 1099511627776) : ∃ r : List Int, Ev (fun k => spec_DrawPlaces.f k l) r ∧ r.length = 12 ∧ ∀ i : Nat, i < 12 → 0 ≤ rd r i ∧ rd r i < 10000 := by
  obtain ⟨h, e⟩ := l01New_ev l hn
  obtain ⟨r, e2, hl, hr⟩ := drawPlaces_l0 l 12 0 [] 0 h (by omega) ⟨hn, by omega⟩ rfl (by simp)
  refine ⟨r, ?_, hl, fun i hi => hr _ ?_⟩
  · unfold spec_DrawPlaces.f
    exact e.bind e2
  · rw [rd_nat, List.getD_eq_getElem?_getD, List.getElem?_eq_getElem (show i < r.length by omega)]
    simp

theorem screens_l0 (v x y n t a : Int) (j : Nat) (hj : j < 16) (ha : a = 16 * rd tab j + 8) (tail : Ev (fun k => laws_FnScreens.l0 k v x y n t a true ((16 : Nat) : Int)) true) :
    ∀ (d i : Nat) (b : Bool), i + d = 16 → (b = true ∨ i ≤ j) → Ev (fun k => laws_FnScreens.l0 k v x y n t a b i) true
  | 0, i, b, hd, hb => by
    obtain rfl : i = 16 := by omega
    obtain rfl : b = true := by
      rcases hb with hb | hb
      · exact hb
      · omega
    exact tail
  | d + 1, i, b, hd, hb => by
    cases b with
    | true =>
      refine Ev.step (fun k => ?_) (screens_l0 v x y n t a j hj ha tail d (i + 1) true (by omega) (.inl rfl))
      simp only [laws_FnScreens.l0]
      rw [if_pos (by omega), if_pos trivial, wsucc (by omega)]
    | false =>
      have hij : i ≤ j := by
        rcases hb with hb | hb
        · cases hb
        · exact hb
      refine Ev.step (fun k => ?_) (screens_l0 v x y n t a j hj ha tail d (i + 1) (16 * rd tab i + 8 == a) (by omega) (by
        by_cases e : i = j
        · subst e
          rw [ha]
          exact .inl (by simp)
        · exact .inr (by omega)))
      simp only [laws_FnScreens.l0, impl_ThresholdAt_eq, Option.bind_some]
      rw [if_pos (by omega), if_neg (by simp), thr_tile i (by omega), wsucc (by omega)]
theorem FnScreens : laws_FnScreens.Pure := by
  intro l hm hb hw
  refine Ev.rounds ?_
  unfold laws_FnScreens.f
  refine ev_eq (g := laws_big.f l) rfl ?_
  by_cases hl : (l.length : Int) > 1048576
  · exact ev_pos (decide_eq_true hl) (Ev.now _)
  refine ev_neg (by simpa using hl) ?_
  obtain ⟨ps, ep, pl, pb⟩ := drawPlaces_ev l (by omega)
  have p0 := pb 0 (by omega)
  have p1 := pb 1 (by omega)
  have p2 := pb 2 (by omega)
  have e0 : rd ps ((0 : Nat) : Int) = rd ps 0 := rfl
  have e1 : rd ps ((1 : Nat) : Int) = rd ps 1 := rfl
  have e2 : rd ps ((2 : Nat) : Int) = rd ps 2 := rfl
  rw [e0] at p0
  rw [e1] at p1
  rw [e2] at p2
  refine ep.bind (ev_pos (by omega) (ev_pos (by omega) (ev_pos (by omega) ?_)))
  rw [tm p0.1, tm p1.1, tm p2.1]
  generalize hv : rd ps 0 % 256 = v
  generalize hx : rd ps 1 % 40 = x
  generalize hy : rd ps 2 % 40 = y
  refine (impl_Tile_ev v).bind (ev_eq (impl_ThresholdAt_eq x y) ((impl_Turn_ev x y 1).bind ?_))
  have ht := thr_in (x := x) (y := y) (by omega) (by omega)
  have hd := tile_int (v := v) (by omega) (by omega)
  have hd1 := tile_int (v := v + 1) (by omega) (by omega)
  have ha : turned x y 1 = 16 * rd tab ((4 * (x % 4) + (3 - y % 4)).toNat : Int) + 8 := by
    unfold turned thr
    rw [if_neg (by omega), if_neg (by omega), if_pos rfl, if_neg (by omega), if_neg (by omega)]
    congr 3
    omega
  refine screens_l0 v x y _ _ _ (4 * (x % 4) + (3 - y % 4)).toNat (by omega) ha ?_ 16 0 false (by omega) (.inr (by omega))
  have hr := impl_Row_ev [v, v, v, v] y (by simp)
  simp only [screened] at hr
  have hT := impl_Turn_ev x y 0
  have hT0 : turned x y 0 = thr x y := by
    unfold turned
    rw [if_neg (by omega), if_pos rfl]
  rw [hT0] at hT
  have hS : dot v x y = if v > thr x y then 1 else 0 := by
    unfold dot
    by_cases c : v > thr x y
    · rw [if_neg (by omega), if_pos c]
    · rw [if_pos (by omega), if_neg c]
  have hB : laws_btoi.f (decide (v > thr x y)) = some (dot v x y) := by
    unfold laws_btoi.f
    rw [hS]
    by_cases c : v > thr x y
    · simp [c]
    · simp [c]
  have fin : Ev (fun k => ((impl_ScreenDot.f v x y).bind fun t161 => ((laws_btoi.f (decide (v > thr x y))).bind fun t162 => (if t161 = t162 then (if true = true then ((impl_TurnScreen.f k x y 0).bind fun t163 => (if t163 = thr x y then (if (([dot v (0 : Nat) y, dot v (0 + 1 : Nat) y, dot v (0 + 1 + 1 : Nat) y, dot v (0 + 1 + 1 + 1 : Nat) y] : List Int).length : Int) = 4 then (if 1 < (([dot v (0 : Nat) y, dot v (0 + 1 : Nat) y, dot v (0 + 1 + 1 : Nat) y, dot v (0 + 1 + 1 + 1 : Nat) y] : List Int).length : Int) then ((impl_ScreenDot.f v 1 y).bind fun t165 => (some ((rd [dot v (0 : Nat) y, dot v (0 + 1 : Nat) y, dot v (0 + 1 + 1 : Nat) y, dot v (0 + 1 + 1 + 1 : Nat) y] 1) == t165))) else (none)) else (some false)) else (some false))) else (some false)) else (some false))))) true := by
    refine ev_eq (impl_ScreenDot_eq _ _ _) (ev_eq hB (ev_pos rfl (ev_pos rfl (hT.bind (ev_pos rfl (ev_pos (by simp) (ev_pos (by simp) (ev_eq (impl_ScreenDot_eq _ _ _) ?_))))))))
    rw [show (rd [dot v (0 : Nat) y, dot v (0 + 1 : Nat) y, dot v (0 + 1 + 1 : Nat) y, dot v (0 + 1 + 1 + 1 : Nat) y] 1 == dot v 1 y) = true by simp [rd]]
    exact Ev.now _
  have hn : 0 ≤ tileDots v 4 0 ∧ tileDots v 4 0 ≤ 16 := by
    rw [hd]
    unfold mn
    split <;> omega
  by_cases c : v = 255
  · refine Ev.step (f := fun k => (impl_ScreenRow.f k (([v, v, v, v] : List Int)) y).bind fun t158 => ((impl_ScreenDot.f v x y).bind fun t161 => ((laws_btoi.f (decide (v > thr x y))).bind fun t162 => (if t161 = t162 then (if true = true then ((impl_TurnScreen.f k x y 0).bind fun t163 => (if t163 = thr x y then (if (t158.length : Int) = 4 then (if 1 < (t158.length : Int) then ((impl_ScreenDot.f v 1 y).bind fun t165 => (some ((rd t158 1) == t165))) else (none)) else (some false)) else (some false))) else (some false)) else (some false))))) (fun k => ?_) (hr.bind fin)
    simp only [laws_FnScreens.l0]
    rw [if_neg (by omega)]
    congr 1
    funext t158
    rw [if_pos hn.1, if_pos hn.2, if_pos c, if_pos (by omega), if_pos (by omega)]
  · have hv1 := impl_Tile_ev (v + 1)
    refine Ev.step (f := fun k => (impl_ScreenRow.f k (([v, v, v, v] : List Int)) y).bind fun t158 => ((impl_DotsInTile.f k (v + 1)).bind fun t166 => if t166 ≥ tileDots v 4 0 then ((impl_ScreenDot.f v x y).bind fun t161 => ((laws_btoi.f (decide (v > thr x y))).bind fun t162 => (if t161 = t162 then (if true = true then ((impl_TurnScreen.f k x y 0).bind fun t163 => (if t163 = thr x y then (if (t158.length : Int) = 4 then (if 1 < (t158.length : Int) then ((impl_ScreenDot.f v 1 y).bind fun t165 => (some ((rd t158 1) == t165))) else (none)) else (some false)) else (some false))) else (some false)) else (some false)))) else some false)) (fun k => ?_) (hr.bind (hv1.bind (ev_pos (by rw [hd, hd1]; unfold mn; split <;> split <;> omega) fin)))
    simp only [laws_FnScreens.l0]
    rw [if_neg (by omega)]
    congr 1
    funext t158
    rw [if_pos hn.1, if_pos hn.2, if_neg c, w64 (n := v + 1) (by omega) (by omega)]
    congr 1
    funext t166
    by_cases q : t166 ≥ tileDots v 4 0
    · rw [if_pos q, if_pos q, if_pos (by omega), if_pos (by omega)]
    · rw [if_neg q, if_neg q]

end Go.Proofs.Ytnbobpbdclbjlaa.Pure
