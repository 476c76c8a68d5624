/-
  How the arguments of FnExactPackPlanes read: the kinds of its parameters, opened. (Written by row.py, a program of this session.)
-/
import Derived.Test.YtophklfiooklbaaRows
import Derived.Test.YtophklfiooklbaaPFnExactPackPlanesx6
import Derived.WalkKit
import Derived.ProofKit
import Derived.OpenShut
import Derived.ChangeOld
import Derived.Below
import Derived.SizedLaws
import Derived.Deep.Slices
namespace Go.Proofs.Ytophklfiooklbaa.OpenFnExactPackPlanes
open Go.ChangeShapes Go.WideShapes Go.ChangeAt Go.RowKit Go.Proofs.Ytophklfiooklbaa.PFnExactPackPlanes Go.Proofs.YtophklfiooklbaaW.PrintWords Go.Proofs.YtophklfiooklbaaW.PrintLast Go.Proofs.YtophklfiooklbaaW.PrintMore
set_option linter.unusedVariables false
set_option linter.unusedSimpArgs false
/-- A kind at a type: whatever reads at the type is a value of the kind. -/
def Opens {α : Type} (P : Program) (W : World) (d : Kd α) (t : TypeId) (Wf : α → Prop) : Prop :=
  ∀ (H : Type) (enc : TypeId × Value → H) (held : Bool) (fuel : Nat) (cs : List Value) (y : DataW H × List MemPlace), DataW.trod enc P W 0 (fun _ => true) held fuel t cs = some y → ∃ x, d.K W x cs ∧ Wf x
theorem opens_int {P : Program} {W : World} {t : TypeId} {k : IntKind} (ht : P.underlying t = some (.int k)) : Opens P W (Kd.int k) t (fun n => (Lit.int k n).wf = true) := by
  intro H enc held fuel cs y h
  obtain ⟨n, rfl, _, hw⟩ := DataW.trod_int ht h
  exact ⟨n, rfl, hw⟩
theorem opens_slice {α : Type} [Inhabited α] {P : Program} {W : World} {t e : TypeId} {d : Kd α} {Wf : α → Prop} (ht : P.underlying t = some (.slice e)) (hc : P.cellsOf e = d.sz) (ho : Opens P W d e Wf) :
    Opens P W (Kd.slice e d) t (fun xs => xs.length ≤ maxLen ∧ ∀ x ∈ xs, Wf x) := by
  intro H enc held fuel cs y h
  rcases DataW.trod_slice ht h with ⟨rfl, _⟩ | ⟨a, len, cap, elems, rest, n, _, rfl, _, _, hl, hm, hlen, hel, _, _⟩
  · exact ⟨[], ⟨none, 0, rfl, Nat.le_refl _, rfl, by simp, fun h => absurd h (by simp)⟩, by simp, fun x hx => by simp at hx⟩
  · have each : ∀ i, i < len → ∃ x, ∃ c, c.length = d.sz ∧ d.K W x c ∧ (∀ j u, c[j]? = some u → W.cell? (a.add (i * d.sz + j)) = some u) ∧ Wf x := by
      intro i hi
      have h1 := hel i hi
      rw [List.getElem?_eq_getElem (show i < elems.length by omega), Option.bind_eq_some_iff] at h1
      obtain ⟨c, h2, h3⟩ := h1
      obtain ⟨_, h4, h5⟩ := World.cells?_some h2
      obtain ⟨x, hx, hw⟩ := ho H enc held _ _ _ h3
      refine ⟨x, c, h4.trans hc, hx, fun j u hj => ?_, hw⟩
      have hjl : j < c.length := (List.getElem?_eq_some_iff.1 hj).1
      rw [← hc, ← Addr.add_add, h5 j (by omega), hj]
    obtain ⟨f, hf⟩ := Go.Deep.choose_lt each
    refine ⟨(List.range len).map f, ⟨some a, cap, by simp, by simpa using hl, by simp, by unfold maxLen at hm; simp; omega, fun _ => ⟨a, rfl, fun j p hj => ?_⟩⟩, by simp; omega, fun x hx => ?_⟩
    · rw [List.getElem?_map, Option.map_eq_some_iff] at hj
      obtain ⟨i, hi, rfl⟩ := hj
      obtain ⟨hi1, hi2⟩ := List.getElem?_eq_some_iff.1 hi
      simp at hi1 hi2
      subst hi2
      obtain ⟨c, h1, h2, h3, _⟩ := hf j hi1
      exact ⟨c, h1, h2, h3⟩
    · obtain ⟨i, hi, rfl⟩ := List.mem_map.1 hx
      obtain ⟨_, _, _, _, h4⟩ := hf i (List.mem_range.1 hi)
      exact h4

theorem opens3 (W : World) : Opens Try.prog W (Kd.int .i64) 3 (fun x => (Lit.int .i64 x).wf = true) := opens_int Try.underlying3

theorem opens26 (W : World) : Opens Try.prog W (Kd.slice 3 (Kd.int .i64)) 26 (fun x => x.length ≤ maxLen ∧ ∀ xe ∈ x, (Lit.int .i64 xe).wf = true) := opens_slice Try.underlying26 (by kernel_rfl) (opens3 W)

theorem opens24_top (W : World) : Opens Try.prog W (Kd.slice 26 (Kd.slice 3 (Kd.int .i64))) 24 (fun x => x.length ≤ maxLen ∧ ∀ xe ∈ x, xe.length ≤ maxLen ∧ ∀ xee ∈ xe, (Lit.int .i64 xee).wf = true) := opens_slice Try.underlying24 (by kernel_rfl) (opens26 W)
/-- THE PURE STATEMENT of FnExactPackPlanes: over numbers and lists. -/
def FnExactPackPlanesPure : Prop := ∀ (l0 : List (List Int)) (l1 : List (List Int)) (l2 : List (List Int)) (l3 : List (List Int)), l0.length ≤ maxLen → (∀ x ∈ l0, x.length ≤ maxLen ∧ ∀ xe ∈ x, (Lit.int .i64 xe).wf = true) → l1.length ≤ maxLen → (∀ x ∈ l1, x.length ≤ maxLen ∧ ∀ xe ∈ x, (Lit.int .i64 xe).wf = true) → l2.length ≤ maxLen → (∀ x ∈ l2, x.length ≤ maxLen ∧ ∀ xe ∈ x, (Lit.int .i64 xe).wf = true) → l3.length ≤ maxLen → (∀ x ∈ l3, x.length ≤ maxLen ∧ ∀ xe ∈ x, (Lit.int .i64 xe).wf = true) → ∃ k, laws_FnExactPackPlanes.f k l0 l1 l2 l3 = some true
end Go.Proofs.Ytophklfiooklbaa.OpenFnExactPackPlanes
