/-
  The program's CacheSize gives the reference's number for every cache, and leaves the cache as it was.
-/
import Derived.Test.YtcjkndcmeedneaaPFnExactCacheSizex3
import Derived.Test.YtcjkndcmeedneaaWSized
import Derived.Test.YtcjkndcmeedneaaOpenFnExactCacheSize
namespace Go.Proofs.Ytcjkndcmeedneaa.Pure
open Go.RowKit Go.Proofs.Ytcjkndcmeedneaa.PFnExactCacheSize Go.Proofs.YtcjkndcmeedneaaW.PrintWords Go.Proofs.YtcjkndcmeedneaaW.PrintLast Go.Proofs.YtcjkndcmeedneaaW.PrintMore Go.Proofs.Ytcjkndcmeedneaa.OpenFnExactCacheSize
set_option linter.unusedVariables false
set_option linter.unusedSimpArgs false

theorem w64 {n : Int} (h1 : -9223372036854775808 ≤ n) (h2 : n ≤ 9223372036854775807) : wrap64 n = n := by
  unfold wrap64
  omega
theorem wsucc {i : Nat} (h : i ≤ 1099511627776) : wrap64 ((i : Int) + 1) = ((i + 1 : Nat) : Int) := by
  rw [w64 (by omega) (by omega)]
  omega
theorem rd_nat (l : List Int) (i : Nat) : rd l (i : Int) = l.getD i 0 := by simp [rd]
theorem getD_drop (l : List Int) (i : Nat) (h : i < l.length) : l.drop i = l.getD i 0 :: l.drop (i + 1) := by
  rw [List.drop_eq_getElem_cons h]
  simp [List.getD_eq_getElem?_getD, List.getElem?_eq_getElem h]
theorem getD_take (l : List Int) (i : Nat) (h : i < l.length) : l.take (i + 1) = l.take i ++ [l.getD i 0] := by
  rw [List.take_succ_eq_append_getElem h]
  simp [List.getD_eq_getElem?_getD, List.getElem?_eq_getElem h]
theorem set_mid (p q : List Int) (u v : Int) (i : Nat) (h : p.length = i) : (p ++ u :: q).set i v = p ++ v :: q := by
  subst h
  simp [List.set_append_right]
theorem bind_id {α : Type} {g : Nat → Option α} {r : α} (h : Ev g r) : Ev (fun n => (g n).bind fun x => some x) r := by
  obtain ⟨K, h⟩ := h
  exact ⟨K, fun k hk => by simp [h k hk]⟩
theorem ev_pos {α : Type} {c : Prop} [Decidable c] {f g : Nat → Option α} {r : α} (h : c) (k : Ev f r) : Ev (fun n => if c then f n else g n) r := Ev.congr (fun n => if_pos h) k
theorem ev_neg {α : Type} {c : Prop} [Decidable c] {f g : Nat → Option α} {r : α} (h : ¬ c) (k : Ev g r) : Ev (fun n => if c then f n else g n) r := Ev.congr (fun n => if_neg h) k
theorem ev_eq {α β : Type} {g : Option α} {f : Nat → α → Option β} {a : α} {r : β} (h : g = some a) (k : Ev (fun n => f n a) r) : Ev (fun n => g.bind (f n)) r := by
  subst h
  exact k
theorem td {v : Int} (h : 0 ≤ v) (c : Int) : Int.tdiv v c = v / c := Int.tdiv_eq_ediv_of_nonneg h
theorem tm {v : Int} (h : 0 ≤ v) (c : Int) : Int.tmod v c = v % c := Int.tmod_eq_emod_of_nonneg h

theorem eqIntS_l0 (a : List Int) (hn : a.length ≤ 1099511627776) :
    ∀ d i : Nat, i + d = a.length → Ev (fun k => laws_eqIntS.l0 k a a i) true
  | 0, i, h => by
    refine Ev.step (f := fun _ => some true) (fun k => ?_) (Ev.now _)
    simp only [laws_eqIntS.l0]
    rw [if_neg (by omega)]
  | d + 1, i, h => by
    refine Ev.step (f := fun k => laws_eqIntS.l0 k a a ((i + 1 : Nat) : Int)) (fun k => ?_) (eqIntS_l0 a hn d (i + 1) (by omega))
    simp only [laws_eqIntS.l0]
    rw [if_pos (by omega), if_pos (by omega), if_pos (by omega), if_pos trivial, wsucc (by omega)]
theorem eqIntS_ev (a : List Int) (hn : a.length ≤ 1099511627776) : Ev (fun k => laws_eqIntS.f k a a) true := by
  refine Ev.congr (f := fun k => laws_eqIntS.l0 k a a 0) (fun k => ?_) (eqIntS_l0 a hn a.length 0 (by omega))
  unfold laws_eqIntS.f
  rw [if_pos rfl]

theorem toIntS_l0 (a : List Int) (hn : a.length ≤ 1099511627776) :
    ∀ d i : Nat, i + d = a.length → Ev (fun k => laws_toIntS.l0 k a (a.take i ++ List.replicate d 0) i) a
  | 0, i, h => by
    refine Ev.step (f := fun _ => some a) (fun k => ?_) (Ev.now _)
    simp only [laws_toIntS.l0]
    rw [if_neg (by omega)]
    simp [List.take_of_length_le (show a.length ≤ i by omega)]
  | d + 1, i, h => by
    refine Ev.step (f := fun k => laws_toIntS.l0 k a (a.take (i + 1) ++ List.replicate d 0) ((i + 1 : Nat) : Int)) (fun k => ?_) (toIntS_l0 a hn d (i + 1) (by omega))
    simp only [laws_toIntS.l0]
    rw [if_pos (by omega), if_pos (by omega), if_pos (by simp; omega), wsucc (by omega), rd_nat, List.replicate_succ, Int.toNat_natCast, set_mid _ _ _ _ _ (by simp; omega), getD_take a i (by omega)]
    simp
theorem toIntS_ev (a : List Int) (hn : a.length ≤ 1099511627776) : Ev (fun k => laws_toIntS.f k a) a := by
  refine Ev.congr (f := fun k => laws_toIntS.l0 k a (a.take 0 ++ List.replicate a.length 0) 0) (fun k => ?_) (toIntS_l0 a hn a.length 0 (by omega))
  unfold laws_toIntS.f
  rw [if_pos (by omega), if_pos (by omega)]
  simp

theorem szGlyph_eq (id w : Int) (a : List Int) (h : a.length ≤ 9223372036854775807) : laws_szGlyph.f id w a 1048576 = some (if (a.length : Int) > 1048576 then -1 else 1048576 - (a.length : Int)) := by
  unfold laws_szGlyph.f laws_szIntS.f
  rw [w64 (by omega) (by omega)]
  by_cases c : (a.length : Int) > 1048576
  · rw [if_pos (by omega), if_pos c]
    simp
  · rw [if_neg (by omega), if_neg c]
    simp only [Option.bind_some]
    rw [if_neg (by omega)]
theorem toGlyph_ev (id w : Int) (a : List Int) (hn : a.length ≤ 1099511627776) : Ev (fun k => laws_toGlyph.f k id w a) (id, w, a) := by
  unfold laws_toGlyph.f
  exact (toIntS_ev a hn).bind (Ev.now _)
theorem eqGlyph_ev (id w : Int) (a : List Int) (hn : a.length ≤ 1099511627776) : Ev (fun k => laws_eqGlyph.f k id w a id w a) true := by
  unfold laws_eqGlyph.f
  exact ev_pos rfl (ev_pos rfl ((eqIntS_ev a hn).bind (ev_pos rfl (Ev.now _))))

theorem szGlyphS_l0 (g : List S33) (hg : ∀ x ∈ g, x.f2.length ≤ 9223372036854775807) (hn : g.length ≤ 1099511627776) : ∀ (d i : Nat) (left : Int), i + d = g.length → 0 ≤ left → left ≤ 1048576 →
    ∃ r, Ev (fun k => laws_szGlyphS.l0 k g left i) r ∧ (r < 0 ∨ (0 ≤ r ∧ r ≤ 1048576 ∧ ∀ j : Nat, i ≤ j → j < g.length → (g.getD j z33).f2.length ≤ 1048576))
  | 0, i, left, hd, h0, h1 => by
    refine ⟨left, Ev.step (f := fun _ => some left) (fun k => ?_) (Ev.now _), .inr ⟨h0, h1, fun j _ _ => by omega⟩⟩
    simp only [laws_szGlyphS.l0]
    rw [if_neg (by omega)]
  | d + 1, i, left, hd, h0, h1 => by
    have hm : (rd_T33 g i) ∈ g := by
      unfold rd_T33
      rw [Int.toNat_natCast, List.getD_eq_getElem?_getD, List.getElem?_eq_getElem (show i < g.length by omega)]
      simp
    have hl := hg _ hm
    have e : laws_szGlyph.f (rd_T33 g i).f0 (rd_T33 g i).f1 (rd_T33 g i).f2 left = some (if left - ((rd_T33 g i).f2.length : Int) < 0 then -1 else left - ((rd_T33 g i).f2.length : Int)) := by
      unfold laws_szGlyph.f laws_szIntS.f
      rw [w64 (by omega) (by omega)]
      by_cases c : left - ((rd_T33 g i).f2.length : Int) < 0
      · rw [if_pos c, if_pos c]
        simp
      · rw [if_neg c, if_neg c]
        simp only [Option.bind_some]
        rw [if_neg c]
    by_cases c : left - ((rd_T33 g i).f2.length : Int) < 0
    · rw [if_pos c] at e
      refine ⟨-1, Ev.step (f := fun _ => some (-1)) (fun k => ?_) (Ev.now _), .inl (by omega)⟩
      simp only [laws_szGlyphS.l0, e, Option.bind_some]
      rw [if_pos (by omega), if_pos (by omega), if_pos (by omega)]
    · rw [if_neg c] at e
      obtain ⟨r, h2, h3⟩ := szGlyphS_l0 g hg hn d (i + 1) (left - ((rd_T33 g i).f2.length : Int)) (by omega) (by omega) (by omega)
      refine ⟨r, Ev.step (fun k => ?_) h2, ?_⟩
      · simp only [laws_szGlyphS.l0, e, Option.bind_some]
        rw [if_pos (by omega), if_pos (by omega), if_neg c, wsucc (by omega)]
      · rcases h3 with h3 | ⟨h3, h4, h5⟩
        · exact .inl h3
        · refine .inr ⟨h3, h4, fun j hj1 hj2 => ?_⟩
          by_cases q : j = i
          · subst q
            have : rd_T33 g (j : Int) = g.getD j z33 := rfl
            rw [← this]
            omega
          · exact h5 j (by omega) hj2
/-- A glyph in the program's own type. -/
def other (x : S33) : S36 := ⟨x.f0, x.f1, x.f2⟩
theorem set_mid6 (p q : List S36) (u v : S36) (i : Nat) (h : p.length = i) : (p ++ u :: q).set i v = p ++ v :: q := by
  subst h
  simp [List.set_append_right]
theorem toGlyphS_l0 (g : List S33) (hg : ∀ j : Nat, j < g.length → (g.getD j z33).f2.length ≤ 1048576) (hn : g.length ≤ 1048576) : ∀ d i : Nat, i + d = g.length → Ev (fun k => laws_toGlyphS.l0 k g ((g.take i).map other ++ List.replicate d z36) i) (g.map other)
  | 0, i, h => by
    refine Ev.step (f := fun _ => some (g.map other)) (fun k => ?_) (Ev.now _)
    simp only [laws_toGlyphS.l0]
    rw [if_neg (by omega)]
    simp [List.take_of_length_le (show g.length ≤ i by omega)]
  | d + 1, i, h => by
    have hl := hg i (by omega)
    have hr : rd_T33 g (i : Int) = g.getD i z33 := rfl
    have ih := toGlyphS_l0 g hg hn d (i + 1) (by omega)
    have ht := toGlyph_ev (rd_T33 g i).f0 (rd_T33 g i).f1 (rd_T33 g i).f2 (by rw [hr]; omega)
    refine Ev.step (f := fun k => (laws_toGlyph.f k (rd_T33 g i).f0 (rd_T33 g i).f1 (rd_T33 g i).f2).bind fun t => laws_toGlyphS.l0 k g (((g.take i).map other ++ List.replicate (d + 1) z36).set i (⟨t.1, t.2.1, t.2.2⟩ : S36)) ((i + 1 : Nat) : Int)) (fun k => ?_) (ht.bind ?_)
    · simp only [laws_toGlyphS.l0]
      rw [if_pos (by omega), if_pos (by omega), wsucc (by omega)]
      congr 1
      funext t
      rw [if_pos (by simp; omega)]
      rfl
    · have e : ((g.take i).map other ++ List.replicate (d + 1) z36).set i (⟨(rd_T33 g i).f0, (rd_T33 g i).f1, (rd_T33 g i).f2⟩ : S36) = (g.take (i + 1)).map other ++ List.replicate d z36 := by
        rw [List.replicate_succ, set_mid6 _ _ _ _ _ (by simp; omega), List.take_succ_eq_append_getElem (show i < g.length by omega), hr, List.getD_eq_getElem?_getD, List.getElem?_eq_getElem (show i < g.length by omega), List.map_append, List.append_assoc]
        rfl
      simp only [e]
      exact ih
theorem toCache_ev (g : List S33) (p q : Int) (hg : ∀ j : Nat, j < g.length → (g.getD j z33).f2.length ≤ 1048576) (hn : g.length ≤ 1048576) : Ev (fun k => laws_toCache.f k g p q) (g.map other, p, q) := by
  unfold laws_toCache.f laws_toGlyphS.f
  refine Ev.bind (a := g.map other) (ev_pos (by omega) (ev_pos (by omega) ?_)) (Ev.now _)
  have := toGlyphS_l0 g hg hn g.length 0 (by omega)
  simpa using this
theorem eqGlyphS_l0 (a : List S36) (hg : ∀ j : Nat, j < a.length → (a.getD j z36).f2.length ≤ 1048576) (hn : a.length ≤ 1048576) : ∀ d i : Nat, i + d = a.length → Ev (fun k => laws_eqGlyphS.l0 k a a i) true
  | 0, i, h => by
    refine Ev.step (f := fun _ => some true) (fun k => ?_) (Ev.now _)
    simp only [laws_eqGlyphS.l0]
    rw [if_neg (by omega)]
  | d + 1, i, h => by
    have hl := hg i (by omega)
    have hr : rd_T36 a (i : Int) = a.getD i z36 := rfl
    refine Ev.step (f := fun k => (laws_eqGlyph.f k (rd_T36 a i).f0 (rd_T36 a i).f1 (rd_T36 a i).f2 (rd_T36 a i).f0 (rd_T36 a i).f1 (rd_T36 a i).f2).bind fun t => if t = true then laws_eqGlyphS.l0 k a a ((i + 1 : Nat) : Int) else some false) (fun k => ?_) ((eqGlyph_ev _ _ _ (by rw [hr]; omega)).bind (ev_pos rfl (eqGlyphS_l0 a hg hn d (i + 1) (by omega))))
    simp only [laws_eqGlyphS.l0]
    rw [if_pos (by omega), if_pos (by omega), if_pos (by omega), wsucc (by omega)]
theorem size_both (a : List S36) (p q : Int) (hn : a.length ≤ 1048576) : ∀ (d i : Nat) (s : Int), i + d = a.length → ∃ r, Ev (fun k => spec_CacheSize.l0 k s i a p q) r ∧ Ev (fun k => impl_CacheSize.l0 k s a (a.length : Int) i) r
  | 0, i, s, h => by
    refine ⟨s, Ev.step (f := fun _ => some s) (fun k => ?_) (Ev.now _), Ev.step (f := fun _ => some s) (fun k => ?_) (Ev.now _)⟩
    · simp only [spec_CacheSize.l0]
      rw [if_neg (by omega)]
    · simp only [impl_CacheSize.l0]
      rw [if_neg (by omega)]
  | d + 1, i, s, h => by
    obtain ⟨r, h1, h2⟩ := size_both a p q hn d (i + 1) (wrap64 (s + (((rd_T36 a i).f2).length : Int))) (by omega)
    refine ⟨r, Ev.step (fun k => ?_) h1, Ev.step (fun k => ?_) h2⟩
    · simp only [spec_CacheSize.l0]
      rw [if_pos (by omega), if_pos (by omega), wsucc (by omega)]
    · simp only [impl_CacheSize.l0]
      rw [if_pos (by omega), if_pos (by omega), if_pos (by omega), wsucc (by omega)]
theorem FnExactCacheSize : FnExactCacheSizePure := by
  intro g p q hm hw _ _
  have hm' : g.length ≤ 9223372036854775807 := hm
  refine Ev.rounds ?_
  unfold laws_FnExactCacheSize.f
  by_cases c : (g.length : Int) > 1048576
  · have e : Ev (fun k => laws_szCache.f k g p q 1048576) (-1) := by
      unfold laws_szCache.f laws_szGlyphS.f
      rw [w64 (by omega) (by omega)]
      exact Ev.bind (a := -1) (ev_pos (by omega) (Ev.now _)) (ev_pos (by omega) (Ev.now _))
    exact e.bind (ev_pos (by omega) (Ev.now _))
  obtain ⟨r, h1, h2⟩ := szGlyphS_l0 g (fun x hx => (hw x hx).2.2.1) (by omega) g.length 0 (1048576 - (g.length : Int)) (by omega) (by omega) (by omega)
  have e : Ev (fun k => laws_szCache.f k g p q 1048576) (if r < 0 then -1 else r) := by
    unfold laws_szCache.f laws_szGlyphS.f
    rw [w64 (by omega) (by omega)]
    refine Ev.bind (a := r) (ev_neg (by omega) h1) ?_
    by_cases z : r < 0
    · rw [if_pos z, if_pos z]
      exact Ev.now _
    · rw [if_neg z, if_neg z]
      exact Ev.now _
  refine e.bind ?_
  rcases h2 with h2 | ⟨h2, h3, h4⟩
  · rw [if_pos h2]
    exact ev_pos (by omega) (Ev.now _)
  rw [if_neg (show ¬ r < 0 by omega)]
  refine ev_neg (by omega) ?_
  have t := toCache_ev g p q (fun j hj => h4 j (by omega) hj) (by omega)
  obtain ⟨v, s, i⟩ := size_both (g.map other) p q (by simp; omega) (g.map other).length 0 0 (by omega)
  have eq : Ev (fun k => laws_eqCache.f k (g.map other) p q (g.map other) p q) true := by
    unfold laws_eqCache.f laws_eqGlyphS.f
    refine Ev.bind (a := true) (ev_pos rfl (eqGlyphS_l0 (g.map other) (fun j hj => ?_) (by simp; omega) (g.map other).length 0 (by omega))) (ev_pos rfl (ev_pos rfl (ev_pos rfl (Ev.now _))))
    have hj' : j < g.length := by simpa using hj
    have := h4 j (by omega) hj'
    rw [List.getD_eq_getElem?_getD, List.getElem?_eq_getElem hj'] at this
    rw [List.getD_eq_getElem?_getD, List.getElem?_map, List.getElem?_eq_getElem hj']
    exact this
  refine t.bind (Ev.bind (a := v) s (t.bind (Ev.bind (a := v) i (ev_pos rfl ?_))))
  exact t.bind (eq.bind (ev_pos rfl (Ev.now _)))

end Go.Proofs.Ytcjkndcmeedneaa.Pure
