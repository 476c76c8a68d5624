/-
  How the arguments of FnExactPlaceGlyph read: the kinds of its parameters, opened. (Written by row.py, a program of this session.)
-/
import Derived.Test.YtjkddcnflpfinaaRows
import Derived.Test.YtjkddcnflpfinaaPFnExactPlaceGlyphx7
import Derived.WalkKit
import Derived.ProofKit
import Derived.OpenShut
import Derived.ChangeOld
import Derived.Below
import Derived.SizedLaws
import Derived.Deep.Slices
namespace Go.Proofs.Ytjkddcnflpfinaa.OpenFnExactPlaceGlyph
open Go.ChangeShapes Go.WideShapes Go.ChangeAt Go.RowKit Go.Proofs.Ytjkddcnflpfinaa.PFnExactPlaceGlyph Go.Proofs.YtjkddcnflpfinaaW.PrintWords Go.Proofs.YtjkddcnflpfinaaW.PrintLast Go.Proofs.YtjkddcnflpfinaaW.PrintMore
set_option linter.unusedVariables false
set_option linter.unusedSimpArgs false
/-- A kind at a type: whatever reads at the type is a value of the kind. -/
def Opens {α : Type} (P : Program) (W : World) (d : Kd α) (t : TypeId) (Wf : α → Prop) : Prop :=
  ∀ (H : Type) (enc : TypeId × Value → H) (held : Bool) (fuel : Nat) (cs : List Value) (y : DataW H × List MemPlace), DataW.trod enc P W 0 (fun _ => true) held fuel t cs = some y → ∃ x, d.K W x cs ∧ Wf x
theorem opens_int {P : Program} {W : World} {t : TypeId} {k : IntKind} (ht : P.underlying t = some (.int k)) : Opens P W (Kd.int k) t (fun n => (Lit.int k n).wf = true) := by
  intro H enc held fuel cs y h
  obtain ⟨n, rfl, _, hw⟩ := DataW.trod_int ht h
  exact ⟨n, rfl, hw⟩
theorem opens_slice {α : Type} [Inhabited α] {P : Program} {W : World} {t e : TypeId} {d : Kd α} {Wf : α → Prop} (ht : P.underlying t = some (.slice e)) (hc : P.cellsOf e = d.sz) (ho : Opens P W d e Wf) :
    Opens P W (Kd.slice e d) t (fun xs => xs.length ≤ maxLen ∧ ∀ x ∈ xs, Wf x) := by
  intro H enc held fuel cs y h
  rcases DataW.trod_slice ht h with ⟨rfl, _⟩ | ⟨a, len, cap, elems, rest, n, _, rfl, _, _, hl, hm, hlen, hel, _, _⟩
  · exact ⟨[], ⟨none, 0, rfl, Nat.le_refl _, rfl, by simp, fun h => absurd h (by simp)⟩, by simp, fun x hx => by simp at hx⟩
  · have each : ∀ i, i < len → ∃ x, ∃ c, c.length = d.sz ∧ d.K W x c ∧ (∀ j u, c[j]? = some u → W.cell? (a.add (i * d.sz + j)) = some u) ∧ Wf x := by
      intro i hi
      have h1 := hel i hi
      rw [List.getElem?_eq_getElem (show i < elems.length by omega), Option.bind_eq_some_iff] at h1
      obtain ⟨c, h2, h3⟩ := h1
      obtain ⟨_, h4, h5⟩ := World.cells?_some h2
      obtain ⟨x, hx, hw⟩ := ho H enc held _ _ _ h3
      refine ⟨x, c, h4.trans hc, hx, fun j u hj => ?_, hw⟩
      have hjl : j < c.length := (List.getElem?_eq_some_iff.1 hj).1
      rw [← hc, ← Addr.add_add, h5 j (by omega), hj]
    obtain ⟨f, hf⟩ := Go.Deep.choose_lt each
    refine ⟨(List.range len).map f, ⟨some a, cap, by simp, by simpa using hl, by simp, by unfold maxLen at hm; simp; omega, fun _ => ⟨a, rfl, fun j p hj => ?_⟩⟩, by simp; omega, fun x hx => ?_⟩
    · rw [List.getElem?_map, Option.map_eq_some_iff] at hj
      obtain ⟨i, hi, rfl⟩ := hj
      obtain ⟨hi1, hi2⟩ := List.getElem?_eq_some_iff.1 hi
      simp at hi1 hi2
      subst hi2
      obtain ⟨c, h1, h2, h3, _⟩ := hf j hi1
      exact ⟨c, h1, h2, h3⟩
    · obtain ⟨i, hi, rfl⟩ := List.mem_map.1 hx
      obtain ⟨_, _, _, _, h4⟩ := hf i (List.mem_range.1 hi)
      exact h4

theorem opens3 (W : World) : Opens Try.prog W (Kd.int .i64) 3 (fun x => (Lit.int .i64 x).wf = true) := opens_int Try.underlying3

theorem opens33 (W : World) : Opens Try.prog W (Kd.slice 3 (Kd.int .i64)) 33 (fun x => x.length ≤ maxLen ∧ ∀ xe ∈ x, (Lit.int .i64 xe).wf = true) := opens_slice Try.underlying33 (by kernel_rfl) (opens3 W)

theorem opens24_top (W : World) : Opens Try.prog W (Kd.slice 33 (Kd.slice 3 (Kd.int .i64))) 24 (fun x => x.length ≤ maxLen ∧ ∀ xe ∈ x, xe.length ≤ maxLen ∧ ∀ xee ∈ xe, (Lit.int .i64 xee).wf = true) := opens_slice Try.underlying24 (by kernel_rfl) (opens33 W)
theorem opens42_top (W : World) : Opens Try.prog W (Kd.pair (Kd.int .i64) (Kd.pair (Kd.int .i64) (Kd.slice 3 (Kd.int .i64)))) 42 (fun x => ((Lit.int .i64 x.1).wf = true) ∧ ((Lit.int .i64 x.2.1).wf = true) ∧ (x.2.2.length ≤ maxLen ∧ ∀ x_2_2e ∈ x.2.2, (Lit.int .i64 x_2_2e).wf = true)) := by
  intro H enc held fuel cs y h
  obtain ⟨xs, n, _, rfl, hl, hlen, hf⟩ := DataW.trod_struct Try.underlying42 h
  have hm : cs.length = 3 := hl.trans (by kernel_rfl)
  match cs, hm, xs, hlen with
  | [c0, c1, c2], _, [y0, y1, y2], _ =>
  have e0 : DataW.trod enc Try.prog W 0 (fun _ => true) held n 3 [c0] = some y0 := by
    have q := hf 0 _ rfl
    have c : Try.prog.cellsOf 3 = 1 := by kernel_rfl
    simpa [c] using q
  obtain ⟨x0, k0, w0⟩ := opens3 W H enc held _ _ _ e0
  have e1 : DataW.trod enc Try.prog W 0 (fun _ => true) held n 3 [c1] = some y1 := by
    have q := hf 1 _ rfl
    have c : Try.prog.cellsOf 3 = 1 := by kernel_rfl
    simpa [c] using q
  obtain ⟨x1, k1, w1⟩ := opens3 W H enc held _ _ _ e1
  have e2 : DataW.trod enc Try.prog W 0 (fun _ => true) held n 33 [c2] = some y2 := by
    have q := hf 2 _ rfl
    have c : Try.prog.cellsOf 33 = 1 := by kernel_rfl
    simpa [c] using q
  obtain ⟨x2, k2, w2⟩ := opens33 W H enc held _ _ _ e2
  exact ⟨⟨x0, x1, x2⟩, ⟨[c0], [c1, c2], rfl, k0, ⟨[c1], [c2], rfl, k1, k2⟩⟩, ⟨w0, w1, w2⟩⟩
theorem opens3_top (W : World) : Opens Try.prog W (Kd.int .i64) 3 (fun x => (Lit.int .i64 x).wf = true) := opens_int Try.underlying3
/-- THE PURE STATEMENT of FnExactPlaceGlyph: over numbers and lists. -/
def FnExactPlaceGlyphPure : Prop := ∀ (l0 : List (List Int)) (a1_0 : Int) (a1_1 : Int) (l1_2 : List Int) (a2 : Int) (a3 : Int), l0.length ≤ maxLen → (∀ x ∈ l0, x.length ≤ maxLen ∧ ∀ xe ∈ x, (Lit.int .i64 xe).wf = true) → (Lit.int .i64 a1_0).wf = true → (Lit.int .i64 a1_1).wf = true → l1_2.length ≤ maxLen → (∀ x ∈ l1_2, (Lit.int .i64 x).wf = true) → (Lit.int .i64 a2).wf = true → (Lit.int .i64 a3).wf = true → ∃ k, laws_FnExactPlaceGlyph.f k l0 a1_0 a1_1 l1_2 a2 a3 = some true
end Go.Proofs.Ytjkddcnflpfinaa.OpenFnExactPlaceGlyph
