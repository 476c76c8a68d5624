/-
  How the arguments of FnExactCacheSize read: the kinds of its parameters, opened. (Written by row.py, a program of this session.)
-/
import Derived.Test.YtcjkndcmeedneaaRows
import Derived.Test.YtcjkndcmeedneaaPFnExactCacheSizex3
import Derived.WalkKit
import Derived.ProofKit
import Derived.OpenShut
import Derived.ChangeOld
import Derived.Below
import Derived.SizedLaws
import Derived.Deep.Slices
namespace Go.Proofs.Ytcjkndcmeedneaa.OpenFnExactCacheSize
open Go.ChangeShapes Go.WideShapes Go.ChangeAt Go.RowKit Go.Proofs.Ytcjkndcmeedneaa.PFnExactCacheSize Go.Proofs.YtcjkndcmeedneaaW.PrintWords Go.Proofs.YtcjkndcmeedneaaW.PrintLast Go.Proofs.YtcjkndcmeedneaaW.PrintMore
set_option linter.unusedVariables false
set_option linter.unusedSimpArgs false
/-- A kind at a type: whatever reads at the type is a value of the kind. -/
def Opens {α : Type} (P : Program) (W : World) (d : Kd α) (t : TypeId) (Wf : α → Prop) : Prop :=
  ∀ (H : Type) (enc : TypeId × Value → H) (held : Bool) (fuel : Nat) (cs : List Value) (y : DataW H × List MemPlace), DataW.trod enc P W 0 (fun _ => true) held fuel t cs = some y → ∃ x, d.K W x cs ∧ Wf x
theorem opens_int {P : Program} {W : World} {t : TypeId} {k : IntKind} (ht : P.underlying t = some (.int k)) : Opens P W (Kd.int k) t (fun n => (Lit.int k n).wf = true) := by
  intro H enc held fuel cs y h
  obtain ⟨n, rfl, _, hw⟩ := DataW.trod_int ht h
  exact ⟨n, rfl, hw⟩
theorem opens_slice {α : Type} [Inhabited α] {P : Program} {W : World} {t e : TypeId} {d : Kd α} {Wf : α → Prop} (ht : P.underlying t = some (.slice e)) (hc : P.cellsOf e = d.sz) (ho : Opens P W d e Wf) :
    Opens P W (Kd.slice e d) t (fun xs => xs.length ≤ maxLen ∧ ∀ x ∈ xs, Wf x) := by
  intro H enc held fuel cs y h
  rcases DataW.trod_slice ht h with ⟨rfl, _⟩ | ⟨a, len, cap, elems, rest, n, _, rfl, _, _, hl, hm, hlen, hel, _, _⟩
  · exact ⟨[], ⟨none, 0, rfl, Nat.le_refl _, rfl, by simp, fun h => absurd h (by simp)⟩, by simp, fun x hx => by simp at hx⟩
  · have each : ∀ i, i < len → ∃ x, ∃ c, c.length = d.sz ∧ d.K W x c ∧ (∀ j u, c[j]? = some u → W.cell? (a.add (i * d.sz + j)) = some u) ∧ Wf x := by
      intro i hi
      have h1 := hel i hi
      rw [List.getElem?_eq_getElem (show i < elems.length by omega), Option.bind_eq_some_iff] at h1
      obtain ⟨c, h2, h3⟩ := h1
      obtain ⟨_, h4, h5⟩ := World.cells?_some h2
      obtain ⟨x, hx, hw⟩ := ho H enc held _ _ _ h3
      refine ⟨x, c, h4.trans hc, hx, fun j u hj => ?_, hw⟩
      have hjl : j < c.length := (List.getElem?_eq_some_iff.1 hj).1
      rw [← hc, ← Addr.add_add, h5 j (by omega), hj]
    obtain ⟨f, hf⟩ := Go.Deep.choose_lt each
    refine ⟨(List.range len).map f, ⟨some a, cap, by simp, by simpa using hl, by simp, by unfold maxLen at hm; simp; omega, fun _ => ⟨a, rfl, fun j p hj => ?_⟩⟩, by simp; omega, fun x hx => ?_⟩
    · rw [List.getElem?_map, Option.map_eq_some_iff] at hj
      obtain ⟨i, hi, rfl⟩ := hj
      obtain ⟨hi1, hi2⟩ := List.getElem?_eq_some_iff.1 hi
      simp at hi1 hi2
      subst hi2
      obtain ⟨c, h1, h2, h3, _⟩ := hf j hi1
      exact ⟨c, h1, h2, h3⟩
    · obtain ⟨i, hi, rfl⟩ := List.mem_map.1 hx
      obtain ⟨_, _, _, _, h4⟩ := hf i (List.mem_range.1 hi)
      exact h4

theorem opens3 (W : World) : Opens Try.prog W (Kd.int .i64) 3 (fun x => (Lit.int .i64 x).wf = true) := opens_int Try.underlying3

theorem opens24 (W : World) : Opens Try.prog W (Kd.slice 3 (Kd.int .i64)) 24 (fun x => x.length ≤ maxLen ∧ ∀ xe ∈ x, (Lit.int .i64 xe).wf = true) := opens_slice Try.underlying24 (by kernel_rfl) (opens3 W)
theorem opens33 (W : World) : Opens Try.prog W k33 33 (fun x => ((Lit.int .i64 x.f0).wf = true) ∧ ((Lit.int .i64 x.f1).wf = true) ∧ (x.f2.length ≤ maxLen ∧ ∀ x_f2e ∈ x.f2, (Lit.int .i64 x_f2e).wf = true)) := by
  intro H enc held fuel cs y h
  obtain ⟨xs, n, _, rfl, hl, hlen, hf⟩ := DataW.trod_struct Try.underlying33 h
  have hm : cs.length = 3 := hl.trans (by kernel_rfl)
  match cs, hm, xs, hlen with
  | [c0, c1, c2], _, [y0, y1, y2], _ =>
  have e0 : DataW.trod enc Try.prog W 0 (fun _ => true) held n 3 [c0] = some y0 := by
    have q := hf 0 _ rfl
    have c : Try.prog.cellsOf 3 = 1 := by kernel_rfl
    simpa [c] using q
  obtain ⟨x0, k0, w0⟩ := opens3 W H enc held _ _ _ e0
  have e1 : DataW.trod enc Try.prog W 0 (fun _ => true) held n 3 [c1] = some y1 := by
    have q := hf 1 _ rfl
    have c : Try.prog.cellsOf 3 = 1 := by kernel_rfl
    simpa [c] using q
  obtain ⟨x1, k1, w1⟩ := opens3 W H enc held _ _ _ e1
  have e2 : DataW.trod enc Try.prog W 0 (fun _ => true) held n 24 [c2] = some y2 := by
    have q := hf 2 _ rfl
    have c : Try.prog.cellsOf 24 = 1 := by kernel_rfl
    simpa [c] using q
  obtain ⟨x2, k2, w2⟩ := opens24 W H enc held _ _ _ e2
  exact ⟨⟨x0, x1, x2⟩, ⟨[c0], [c1, c2], rfl, k0, ⟨[c1], [c2], rfl, k1, k2⟩⟩, ⟨w0, w1, w2⟩⟩
instance inst54 : Inhabited (S33) := ⟨z33⟩

theorem opens54 (W : World) : Opens Try.prog W (Kd.slice 33 k33) 54 (fun x => x.length ≤ maxLen ∧ ∀ xe ∈ x, ((Lit.int .i64 xe.f0).wf = true) ∧ ((Lit.int .i64 xe.f1).wf = true) ∧ (xe.f2.length ≤ maxLen ∧ ∀ xe_f2e ∈ xe.f2, (Lit.int .i64 xe_f2e).wf = true)) := opens_slice Try.underlying54 (by kernel_rfl) (opens33 W)
theorem opens56_top (W : World) : Opens Try.prog W (Kd.pair (Kd.slice 33 k33) (Kd.pair (Kd.int .i64) (Kd.int .i64))) 56 (fun x => (x.1.length ≤ maxLen ∧ ∀ x_1e ∈ x.1, ((Lit.int .i64 x_1e.f0).wf = true) ∧ ((Lit.int .i64 x_1e.f1).wf = true) ∧ (x_1e.f2.length ≤ maxLen ∧ ∀ x_1e_f2e ∈ x_1e.f2, (Lit.int .i64 x_1e_f2e).wf = true)) ∧ ((Lit.int .i64 x.2.1).wf = true) ∧ ((Lit.int .i64 x.2.2).wf = true)) := by
  intro H enc held fuel cs y h
  obtain ⟨xs, n, _, rfl, hl, hlen, hf⟩ := DataW.trod_struct Try.underlying56 h
  have hm : cs.length = 3 := hl.trans (by kernel_rfl)
  match cs, hm, xs, hlen with
  | [c0, c1, c2], _, [y0, y1, y2], _ =>
  have e0 : DataW.trod enc Try.prog W 0 (fun _ => true) held n 54 [c0] = some y0 := by
    have q := hf 0 _ rfl
    have c : Try.prog.cellsOf 54 = 1 := by kernel_rfl
    simpa [c] using q
  obtain ⟨x0, k0, w0⟩ := opens54 W H enc held _ _ _ e0
  have e1 : DataW.trod enc Try.prog W 0 (fun _ => true) held n 3 [c1] = some y1 := by
    have q := hf 1 _ rfl
    have c : Try.prog.cellsOf 3 = 1 := by kernel_rfl
    simpa [c] using q
  obtain ⟨x1, k1, w1⟩ := opens3 W H enc held _ _ _ e1
  have e2 : DataW.trod enc Try.prog W 0 (fun _ => true) held n 3 [c2] = some y2 := by
    have q := hf 2 _ rfl
    have c : Try.prog.cellsOf 3 = 1 := by kernel_rfl
    simpa [c] using q
  obtain ⟨x2, k2, w2⟩ := opens3 W H enc held _ _ _ e2
  exact ⟨⟨x0, x1, x2⟩, ⟨[c0], [c1, c2], rfl, k0, ⟨[c1], [c2], rfl, k1, k2⟩⟩, ⟨w0, w1, w2⟩⟩
/-- THE PURE STATEMENT of FnExactCacheSize: over numbers and lists. -/
def FnExactCacheSizePure : Prop := ∀ (l0_0 : List S33) (a0_1 : Int) (a0_2 : Int), l0_0.length ≤ maxLen → (∀ x ∈ l0_0, ((Lit.int .i64 x.f0).wf = true) ∧ ((Lit.int .i64 x.f1).wf = true) ∧ (x.f2.length ≤ maxLen ∧ ∀ x_f2e ∈ x.f2, (Lit.int .i64 x_f2e).wf = true)) → (Lit.int .i64 a0_1).wf = true → (Lit.int .i64 a0_2).wf = true → ∃ k, laws_FnExactCacheSize.f k l0_0 a0_1 a0_2 = some true
end Go.Proofs.Ytcjkndcmeedneaa.OpenFnExactCacheSize
