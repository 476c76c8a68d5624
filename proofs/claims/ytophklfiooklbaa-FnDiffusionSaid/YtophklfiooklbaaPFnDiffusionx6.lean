-- Written by a program of this session (myprint.py: the kit's print.py, changed), out of the translation.
import Derived.Test.YtophklfiooklbaaPFnDiffusionx0
import Derived.Test.YtophklfiooklbaaPFnDiffusionx1
import Derived.Test.YtophklfiooklbaaPFnDiffusionx2
import Derived.Test.YtophklfiooklbaaPFnDiffusionx3
import Derived.Test.YtophklfiooklbaaPFnDiffusionx4
import Derived.Test.YtophklfiooklbaaPFnDiffusionx5
namespace Go.Proofs.Ytophklfiooklbaa.PFnDiffusion
open Go.RowKit Go.Proofs.YtophklfiooklbaaW.PrintWords Go.Proofs.YtophklfiooklbaaW.PrintLast Go.Proofs.YtophklfiooklbaaW.PrintMore
attribute [local go_sem] max2_int min2_int max_two min_two max_three min_three max_four min_four   -- for this text's walks alone
set_option linter.unusedVariables false
set_option linter.unusedSimpArgs false

def spec_White0.f (k : Nat) : Option (List Int) := (spec_WhiteRows.f k 1).bind fun t => if 0 < (t.length : Int) then some (rd_L2 t 0) else none
theorem spec_White0.mono : ∀ k, LeO (spec_White0.f k) (spec_White0.f (k + 1)) := fun k => LeO.bind (spec_WhiteRows.mono _ _) (fun _ => LeO.ite (LeO.refl _) (LeO.refl _))
/-! ### laws_FnDiffusion: function 3 -/
def laws_FnDiffusion.f (k : Nat) (l0 : List Int) : Option (Bool) := (laws_big.f l0).bind fun t257 => (if t257 = true then (some true) else ((spec_DrawRows.f k l0).bind fun t258 => ((spec_DrawPlaces.f k l0).bind fun t261 => (if 0 < (t261.length : Int) then (if (wrap64 ((t258.length : Int) + 1)) = 0 then (none) else ((impl_NoCarry.f).bind fun t265 => ((impl_DiffuseRows.f k t258 t265).bind fun bt268 => (if 0 ≤ (Int.tmod (rd t261 0) (wrap64 ((t258.length : Int) + 1))) then (if (Int.tmod (rd t261 0) (wrap64 ((t258.length : Int) + 1))) ≤ (t258.length : Int) then ((impl_NoCarry.f).bind fun t280 => ((impl_DiffuseRows.f k (t258.take ((Int.tmod (rd t261 0) (wrap64 ((t258.length : Int) + 1))) : Int).toNat) t280).bind fun bt283 => ((impl_DiffuseRows.f k (t258.drop ((Int.tmod (rd t261 0) (wrap64 ((t258.length : Int) + 1))) : Int).toNat) bt283.2.1).bind fun bt295 => ((spec_White0.f k).bind fun t302 => ((impl_NoCarry.f).bind fun t305 => ((impl_DiffuseRow.f k t302 t305).bind fun bt308 => (if bt268.2.2 = true then (if bt283.2.2 = true then (if bt295.2.2 = true then (if bt308.2.2 = true then ((impl_SumOf.f k bt308.1).bind fun t316 => (if t316 = 32 then ((some (([] : List (List Int)) : List (List Int))).bind fun y317 => (if y317.length + bt283.1.length < 5864062014805 then ((some (y317 ++ bt283.1 : List (List Int))).bind fun y320 => (if y320.length + bt295.1.length < 5864062014805 then ((impl_SameRows.f k bt268.1 (y320 ++ bt295.1)).bind fun t326 => (if t326 = true then ((laws_sameInts.f k bt268.2.1 bt295.2.1).bind fun t327 => (some t327)) else (some false))) else (none))) else (none))) else (some false))) else (some false)) else (some false)) else (some false)) else (some false)))))))) else (none)) else (none))))) else (none)))))
theorem laws_FnDiffusion.mono : ∀ a0 k, LeO (laws_FnDiffusion.f k a0) (laws_FnDiffusion.f (k + 1) a0) := by
 intro a0 k
 unfold laws_FnDiffusion.f
 repeat' first
   | (with_reducible exact spec_White0.mono _)
   | (with_reducible exact impl_DiffuseRow.mono _ _ _)
   | (with_reducible exact impl_DiffuseRows.mono _ _ _)
   | (with_reducible exact impl_SameRows.mono _ _ _)
   | (with_reducible exact impl_SumOf.mono _ _)
   | (with_reducible exact laws_sameInts.mono _ _ _)
   | (with_reducible exact spec_DrawPlaces.mono _ _)
   | (with_reducible exact spec_DrawRows.mono _ _)
   | (with_reducible exact LeO.refl _)
   | (with_reducible exact LeO.none _)
   | (with_reducible refine LeO.ite ?_ ?_)
   | (with_reducible refine LeO.bind ?_ (fun _ => ?_))
   | exact impl_DiffuseRow.mono _ _ _
   | exact impl_DiffuseRows.mono _ _ _
   | exact impl_SameRows.mono _ _ _
   | exact impl_SumOf.mono _ _
   | exact laws_sameInts.mono _ _ _
   | exact spec_DrawPlaces.mono _ _
   | exact spec_DrawRows.mono _ _
   | exact LeO.none _
   | refine LeO.ite ?_ ?_
   | refine LeO.bind ?_ (fun _ => ?_)
def laws_FnDiffusion.T7 : Bool × List (List Nat × List Nat) := (true, [([], []), ([], []), ([0, 1], [0, 1]), ([], []), ([2, 3, 3], [2, 3]), ([4], [4]), ([5], [5]), ([5], [5]), ([5], [5]), ([6, 4, 0, 1, 2, 3, 4, 5, 6], [6]), ([7, 9, 0, 1, 2, 3, 4, 5, 6, 7, 9], [7]), ([8, 10, 0, 1, 2, 3, 4, 5, 6, 7, 8, 9, 10], [8])])
def laws_FnDiffusion.B7 : List Nat := [0, 0, 3, 0, 15, 31, 63, 63, 63, 127, 767, 2047]
theorem laws_FnDiffusion.tab7 : rtab .any (opsOf Try.f3 7) = laws_FnDiffusion.T7 := by kernel_rfl
theorem laws_FnDiffusion.bits7 : waitsOk laws_FnDiffusion.T7.2 laws_FnDiffusion.B7 = true := by kernel_rfl
def laws_FnDiffusion.T9 : Bool × List (List Nat × List Nat) := (true, [([], []), ([0], [0]), ([1], [1]), ([0], []), ([2, 3, 3], [2, 3]), ([4], [4]), ([5], [5]), ([5], [5]), ([], []), ([8, 6, 4, 0, 1, 2, 3, 4, 5, 6, 8], [6, 8]), ([7, 9, 0, 1, 2, 3, 4, 5, 6, 7, 8, 9], [7])])
def laws_FnDiffusion.B9 : List Nat := [0, 1, 3, 1, 15, 31, 63, 63, 0, 383, 1023]
theorem laws_FnDiffusion.tab9 : rtab .any (opsOf Try.f3 9) = laws_FnDiffusion.T9 := by kernel_rfl
theorem laws_FnDiffusion.bits9 : waitsOk laws_FnDiffusion.T9.2 laws_FnDiffusion.B9 = true := by kernel_rfl
theorem laws_FnDiffusion.switch_ {P : Program} {md : Region.Mode} {ops : Array Oper} {Q : Exit → Act → World → Prop} {S S' : World → Prop} {ds : List Nat} (hS : ∀ w, S w) : ∀ (fuel : Nat) (l : Array Bool) (a : Act) (w : World), wpAnyLast P md ops Q S' ds fuel l a w → wpAnyLast P md ops Q S ds fuel l a w
 | 0, _, _, _, h => h
 | fuel + 1, _, _, _, h => ⟨h.1, fun i hi => wpOp_mono (fun a' w' h' => ⟨fun _ _ => hS w', laws_FnDiffusion.switch_ hS fuel _ a' w' h'.2⟩) (h.2 i hi)⟩
theorem laws_FnDiffusion.join2_ {P : Program} {md : Region.Mode} {ops : Array Oper} {Q : Exit → Act → World → Prop} {S : World → Prop} {ds : List Nat} {σ : Type} (S2 : σ → World → Prop) {fuel : Nat} {l : Array Bool} {a : Act} {w : World} (fuel' : Nat) (l' : Array Bool) (ns : σ → List (Tmp × Value)) (F : σ → World → Prop)
  (hcont : ∀ s w', F s w' → wpAnyLast P md ops Q (S2 s) ds fuel' l' (putAll a (ns s)) w')
  (h : (∀ s w', F s w' → wpAnyLast P md ops Q (S2 s) ds fuel' l' (putAll a (ns s)) w') → wpAnyLast P md ops Q S ds fuel l a w) : wpAnyLast P md ops Q S ds fuel l a w := h hcont
theorem laws_FnDiffusion.box0 {w : World} {g : Nat} {t : TypeId} {a b : Value} (h : w.heap[g]? = some (.cells #[a, b] t (0, 0))) (u v : Value) : ((w.setCell ⟨g, 0, none⟩ u).setCell ⟨g, 1, none⟩ v).cell? ⟨g, 0, none⟩ = some u := by
  have h0 : w.cell? ⟨g, 0, none⟩ = some a := (blk_cell h 0).trans rfl
  have h1 := World.cell?_setCell_same w _ u h0
  exact (World.cell?_setCell_other _ _ _ _ (by simp)).trans h1
theorem laws_FnDiffusion.cell_set {w : World} {p a : Addr} {u v : Value} (h : w.cell? a = some v) (hne : a.block ≠ p.block) : (w.setCell p u).cell? a = some v := by
 have e := Below.heap_setCell w p u a.block hne
 simpa [World.cell?, e] using h
set_option maxHeartbeats 8000000 in
set_option maxRecDepth 100000 in
theorem laws_FnDiffusion.calls (k : Nat) (A0 : Option Addr) (c0 : Nat) (l0 : List Int) (w : World) (hr0 : Kd.C (Kd.int .u8) w A0 l0.length l0) (hc0 : l0.length ≤ c0) (h : laws_FnDiffusion.f k l0 = some true) :
  Calls Try.prog 3 #[.slice A0 l0.length c0] w fun e w' => e = .returned (.bool true) ∧ Below w.heap.size w w' := by
 have hu32 := Try.underlying32
 have HR0 := Aside0.mk hr0
 have HC0 := Aside0.mk hc0
 clear hr0 hc0
 have HB := Aside0.mk (Below.refl w.heap.size w)
 have H : ((laws_big.f l0).bind fun t257 => (if t257 = true then (some true) else ((spec_DrawRows.f k l0).bind fun t258 => ((spec_DrawPlaces.f k l0).bind fun t261 => (if 0 < (t261.length : Int) then (if (wrap64 ((t258.length : Int) + 1)) = 0 then (none) else ((impl_NoCarry.f).bind fun t265 => ((impl_DiffuseRows.f k t258 t265).bind fun bt268 => (if 0 ≤ (Int.tmod (rd t261 0) (wrap64 ((t258.length : Int) + 1))) then (if (Int.tmod (rd t261 0) (wrap64 ((t258.length : Int) + 1))) ≤ (t258.length : Int) then ((impl_NoCarry.f).bind fun t280 => ((impl_DiffuseRows.f k (t258.take ((Int.tmod (rd t261 0) (wrap64 ((t258.length : Int) + 1))) : Int).toNat) t280).bind fun bt283 => ((impl_DiffuseRows.f k (t258.drop ((Int.tmod (rd t261 0) (wrap64 ((t258.length : Int) + 1))) : Int).toNat) bt283.2.1).bind fun bt295 => ((spec_White0.f k).bind fun t302 => ((impl_NoCarry.f).bind fun t305 => ((impl_DiffuseRow.f k t302 t305).bind fun bt308 => (if bt268.2.2 = true then (if bt283.2.2 = true then (if bt295.2.2 = true then (if bt308.2.2 = true then ((impl_SumOf.f k bt308.1).bind fun t316 => (if t316 = 32 then ((some (([] : List (List Int)) : List (List Int))).bind fun y317 => (if y317.length + bt283.1.length < 5864062014805 then ((some (y317 ++ bt283.1 : List (List Int))).bind fun y320 => (if y320.length + bt295.1.length < 5864062014805 then ((impl_SameRows.f k bt268.1 (y320 ++ bt295.1)).bind fun t326 => (if t326 = true then ((laws_sameInts.f k bt268.2.1 bt295.2.1).bind fun t327 => (some t327)) else (some false))) else (none))) else (none))) else (some false))) else (some false)) else (some false)) else (some false)) else (some false)))))))) else (none)) else (none))))) else (none)))))) = some true := h
 clear h
 replace H := Option.bind_eq_some_iff.mp H
 obtain ⟨t257, A20, H⟩ := H
 replace H : (if t257 = true then (some true) else ((spec_DrawRows.f k l0).bind fun t258 => ((spec_DrawPlaces.f k l0).bind fun t261 => (if 0 < (t261.length : Int) then (if (wrap64 ((t258.length : Int) + 1)) = 0 then (none) else ((impl_NoCarry.f).bind fun t265 => ((impl_DiffuseRows.f k t258 t265).bind fun bt268 => (if 0 ≤ (Int.tmod (rd t261 0) (wrap64 ((t258.length : Int) + 1))) then (if (Int.tmod (rd t261 0) (wrap64 ((t258.length : Int) + 1))) ≤ (t258.length : Int) then ((impl_NoCarry.f).bind fun t280 => ((impl_DiffuseRows.f k (t258.take ((Int.tmod (rd t261 0) (wrap64 ((t258.length : Int) + 1))) : Int).toNat) t280).bind fun bt283 => ((impl_DiffuseRows.f k (t258.drop ((Int.tmod (rd t261 0) (wrap64 ((t258.length : Int) + 1))) : Int).toNat) bt283.2.1).bind fun bt295 => ((spec_White0.f k).bind fun t302 => ((impl_NoCarry.f).bind fun t305 => ((impl_DiffuseRow.f k t302 t305).bind fun bt308 => (if bt268.2.2 = true then (if bt283.2.2 = true then (if bt295.2.2 = true then (if bt308.2.2 = true then ((impl_SumOf.f k bt308.1).bind fun t316 => (if t316 = 32 then ((some (([] : List (List Int)) : List (List Int))).bind fun y317 => (if y317.length + bt283.1.length < 5864062014805 then ((some (y317 ++ bt283.1 : List (List Int))).bind fun y320 => (if y320.length + bt295.1.length < 5864062014805 then ((impl_SameRows.f k bt268.1 (y320 ++ bt295.1)).bind fun t326 => (if t326 = true then ((laws_sameInts.f k bt268.2.1 bt295.2.1).bind fun t327 => (some t327)) else (some false))) else (none))) else (none))) else (some false))) else (some false)) else (some false)) else (some false)) else (some false)))))))) else (none)) else (none))))) else (none))))) = some true := H
 have A2 := Aside0.mk A20
 clear A20
 by_cases c3 : t257 = true
 ·subst c3
  have H1 : (some true) = some true := by rw [if_pos rfl] at H; first | done | exact H
  clear H
  have H := H1
  clear H1
  have HRT := Option.some.inj H; clear H
  go_enter Try.func3, Try.ntmps3
  go_wp2_with (first | ((with_reducible refine gate_callee (f := 14) rfl ?_); refine goesL_ (some 18) rfl rfl Try.func14 (by kernel_rfl) rfl #[.slice A0 l0.length c0] rfl (by (try simp only [List.map_toArray, List.map_cons, List.map_nil]); first | done | rfl | (simp only [List.length_drop, List.length_take]; rfl)) ?_; (with_reducible refine (laws_big.calls _ _ l0 true _ ?side1 ?side2 A2.out).mono ?_); (case side1 => repeat (first | exact HR0.out | (with_reducible refine Kd.C_alloc ?_ _) | (with_reducible refine Kd.C_drewN ?_ _) | (with_reducible refine Kd.C_drew ?_))); (case side2 => exact HC0.out); rintro e w' ⟨rfl, ⟨nd, rfl⟩⟩; refine ⟨_, rfl, ?_⟩))
  go_ret
  exact ⟨by first | rfl | (simpa using HRT) | (simp only [Bool.and_eq_true, beq_iff_eq] at HRT; simp [HRT]) | (simp [errW_none, errW_some] <;> rfl) | (simp [*, errW_none, errW_some] <;> rfl), by repeat (first | (with_reducible first | exact HB.out | apply below_alloc | apply pw_below_drewN | apply below_drew1) | exact HB.out)⟩
 ·replace c3 := Bool.eq_false_iff.mpr c3
  subst c3
  have H1 : ((spec_DrawRows.f k l0).bind fun t258 => ((spec_DrawPlaces.f k l0).bind fun t261 => (if 0 < (t261.length : Int) then (if (wrap64 ((t258.length : Int) + 1)) = 0 then (none) else ((impl_NoCarry.f).bind fun t265 => ((impl_DiffuseRows.f k t258 t265).bind fun bt268 => (if 0 ≤ (Int.tmod (rd t261 0) (wrap64 ((t258.length : Int) + 1))) then (if (Int.tmod (rd t261 0) (wrap64 ((t258.length : Int) + 1))) ≤ (t258.length : Int) then ((impl_NoCarry.f).bind fun t280 => ((impl_DiffuseRows.f k (t258.take ((Int.tmod (rd t261 0) (wrap64 ((t258.length : Int) + 1))) : Int).toNat) t280).bind fun bt283 => ((impl_DiffuseRows.f k (t258.drop ((Int.tmod (rd t261 0) (wrap64 ((t258.length : Int) + 1))) : Int).toNat) bt283.2.1).bind fun bt295 => ((spec_White0.f k).bind fun t302 => ((impl_NoCarry.f).bind fun t305 => ((impl_DiffuseRow.f k t302 t305).bind fun bt308 => (if bt268.2.2 = true then (if bt283.2.2 = true then (if bt295.2.2 = true then (if bt308.2.2 = true then ((impl_SumOf.f k bt308.1).bind fun t316 => (if t316 = 32 then ((some (([] : List (List Int)) : List (List Int))).bind fun y317 => (if y317.length + bt283.1.length < 5864062014805 then ((some (y317 ++ bt283.1 : List (List Int))).bind fun y320 => (if y320.length + bt295.1.length < 5864062014805 then ((impl_SameRows.f k bt268.1 (y320 ++ bt295.1)).bind fun t326 => (if t326 = true then ((laws_sameInts.f k bt268.2.1 bt295.2.1).bind fun t327 => (some t327)) else (some false))) else (none))) else (none))) else (some false))) else (some false)) else (some false)) else (some false)) else (some false)))))))) else (none)) else (none))))) else (none)))) = some true := by rw [if_neg (show ¬ (false = true) by decide)] at H; first | done | exact H
  clear H
  have H := H1
  clear H1
  replace H := Option.bind_eq_some_iff.mp H
  obtain ⟨t258, A40, H⟩ := H
  replace H : ((spec_DrawPlaces.f k l0).bind fun t261 => (if 0 < (t261.length : Int) then (if (wrap64 ((t258.length : Int) + 1)) = 0 then (none) else ((impl_NoCarry.f).bind fun t265 => ((impl_DiffuseRows.f k t258 t265).bind fun bt268 => (if 0 ≤ (Int.tmod (rd t261 0) (wrap64 ((t258.length : Int) + 1))) then (if (Int.tmod (rd t261 0) (wrap64 ((t258.length : Int) + 1))) ≤ (t258.length : Int) then ((impl_NoCarry.f).bind fun t280 => ((impl_DiffuseRows.f k (t258.take ((Int.tmod (rd t261 0) (wrap64 ((t258.length : Int) + 1))) : Int).toNat) t280).bind fun bt283 => ((impl_DiffuseRows.f k (t258.drop ((Int.tmod (rd t261 0) (wrap64 ((t258.length : Int) + 1))) : Int).toNat) bt283.2.1).bind fun bt295 => ((spec_White0.f k).bind fun t302 => ((impl_NoCarry.f).bind fun t305 => ((impl_DiffuseRow.f k t302 t305).bind fun bt308 => (if bt268.2.2 = true then (if bt283.2.2 = true then (if bt295.2.2 = true then (if bt308.2.2 = true then ((impl_SumOf.f k bt308.1).bind fun t316 => (if t316 = 32 then ((some (([] : List (List Int)) : List (List Int))).bind fun y317 => (if y317.length + bt283.1.length < 5864062014805 then ((some (y317 ++ bt283.1 : List (List Int))).bind fun y320 => (if y320.length + bt295.1.length < 5864062014805 then ((impl_SameRows.f k bt268.1 (y320 ++ bt295.1)).bind fun t326 => (if t326 = true then ((laws_sameInts.f k bt268.2.1 bt295.2.1).bind fun t327 => (some t327)) else (some false))) else (none))) else (none))) else (some false))) else (some false)) else (some false)) else (some false)) else (some false)))))))) else (none)) else (none))))) else (none))) = some true := H
  have A4 := Aside0.mk A40
  clear A40
  replace H := Option.bind_eq_some_iff.mp H
  obtain ⟨t261, A50, H⟩ := H
  replace H : (if 0 < (t261.length : Int) then (if (wrap64 ((t258.length : Int) + 1)) = 0 then (none) else ((impl_NoCarry.f).bind fun t265 => ((impl_DiffuseRows.f k t258 t265).bind fun bt268 => (if 0 ≤ (Int.tmod (rd t261 0) (wrap64 ((t258.length : Int) + 1))) then (if (Int.tmod (rd t261 0) (wrap64 ((t258.length : Int) + 1))) ≤ (t258.length : Int) then ((impl_NoCarry.f).bind fun t280 => ((impl_DiffuseRows.f k (t258.take ((Int.tmod (rd t261 0) (wrap64 ((t258.length : Int) + 1))) : Int).toNat) t280).bind fun bt283 => ((impl_DiffuseRows.f k (t258.drop ((Int.tmod (rd t261 0) (wrap64 ((t258.length : Int) + 1))) : Int).toNat) bt283.2.1).bind fun bt295 => ((spec_White0.f k).bind fun t302 => ((impl_NoCarry.f).bind fun t305 => ((impl_DiffuseRow.f k t302 t305).bind fun bt308 => (if bt268.2.2 = true then (if bt283.2.2 = true then (if bt295.2.2 = true then (if bt308.2.2 = true then ((impl_SumOf.f k bt308.1).bind fun t316 => (if t316 = 32 then ((some (([] : List (List Int)) : List (List Int))).bind fun y317 => (if y317.length + bt283.1.length < 5864062014805 then ((some (y317 ++ bt283.1 : List (List Int))).bind fun y320 => (if y320.length + bt295.1.length < 5864062014805 then ((impl_SameRows.f k bt268.1 (y320 ++ bt295.1)).bind fun t326 => (if t326 = true then ((laws_sameInts.f k bt268.2.1 bt295.2.1).bind fun t327 => (some t327)) else (some false))) else (none))) else (none))) else (some false))) else (some false)) else (some false)) else (some false)) else (some false)))))))) else (none)) else (none))))) else (none)) = some true := H
  have A5 := Aside0.mk A50
  clear A50
  by_cases c6 : 0 < (t261.length : Int)
  ·rw [if_pos c6] at H
   have c6b0 : decide (0 < (t261.length : Int)) = true := decide_eq_true c6
   have c6b1 : decide (0 < t261.length) = true := decide_eq_true (by omega)
   clear c6
   by_cases c7 : (wrap64 ((t258.length : Int) + 1)) = 0
   ·rw [if_pos c7] at H
    exact absurd H (by simp)
   ·rw [if_neg c7] at H
    have c7b0 : ((wrap64 ((t258.length : Int) + 1)) == 0) = false := beq_eq_false_iff_ne.mpr c7
    have c7b1 : ((wrap64 ((t258.length : Int) + 1)) != 0) = true := bne_iff_ne.mpr c7
    replace H := Option.bind_eq_some_iff.mp H
    obtain ⟨t265, A80, H⟩ := H
    replace H : ((impl_DiffuseRows.f k t258 t265).bind fun bt268 => (if 0 ≤ (Int.tmod (rd t261 0) (wrap64 ((t258.length : Int) + 1))) then (if (Int.tmod (rd t261 0) (wrap64 ((t258.length : Int) + 1))) ≤ (t258.length : Int) then ((impl_NoCarry.f).bind fun t280 => ((impl_DiffuseRows.f k (t258.take ((Int.tmod (rd t261 0) (wrap64 ((t258.length : Int) + 1))) : Int).toNat) t280).bind fun bt283 => ((impl_DiffuseRows.f k (t258.drop ((Int.tmod (rd t261 0) (wrap64 ((t258.length : Int) + 1))) : Int).toNat) bt283.2.1).bind fun bt295 => ((spec_White0.f k).bind fun t302 => ((impl_NoCarry.f).bind fun t305 => ((impl_DiffuseRow.f k t302 t305).bind fun bt308 => (if bt268.2.2 = true then (if bt283.2.2 = true then (if bt295.2.2 = true then (if bt308.2.2 = true then ((impl_SumOf.f k bt308.1).bind fun t316 => (if t316 = 32 then ((some (([] : List (List Int)) : List (List Int))).bind fun y317 => (if y317.length + bt283.1.length < 5864062014805 then ((some (y317 ++ bt283.1 : List (List Int))).bind fun y320 => (if y320.length + bt295.1.length < 5864062014805 then ((impl_SameRows.f k bt268.1 (y320 ++ bt295.1)).bind fun t326 => (if t326 = true then ((laws_sameInts.f k bt268.2.1 bt295.2.1).bind fun t327 => (some t327)) else (some false))) else (none))) else (none))) else (some false))) else (some false)) else (some false)) else (some false)) else (some false)))))))) else (none)) else (none))) = some true := H
    have A8 := Aside0.mk A80
    clear A80
    replace H := Option.bind_eq_some_iff.mp H
    obtain ⟨⟨t268, t269, t270⟩, A90, H⟩ := H
    replace H : (if 0 ≤ (Int.tmod (rd t261 0) (wrap64 ((t258.length : Int) + 1))) then (if (Int.tmod (rd t261 0) (wrap64 ((t258.length : Int) + 1))) ≤ (t258.length : Int) then ((impl_NoCarry.f).bind fun t280 => ((impl_DiffuseRows.f k (t258.take ((Int.tmod (rd t261 0) (wrap64 ((t258.length : Int) + 1))) : Int).toNat) t280).bind fun bt283 => ((impl_DiffuseRows.f k (t258.drop ((Int.tmod (rd t261 0) (wrap64 ((t258.length : Int) + 1))) : Int).toNat) bt283.2.1).bind fun bt295 => ((spec_White0.f k).bind fun t302 => ((impl_NoCarry.f).bind fun t305 => ((impl_DiffuseRow.f k t302 t305).bind fun bt308 => (if t270 = true then (if bt283.2.2 = true then (if bt295.2.2 = true then (if bt308.2.2 = true then ((impl_SumOf.f k bt308.1).bind fun t316 => (if t316 = 32 then ((some (([] : List (List Int)) : List (List Int))).bind fun y317 => (if y317.length + bt283.1.length < 5864062014805 then ((some (y317 ++ bt283.1 : List (List Int))).bind fun y320 => (if y320.length + bt295.1.length < 5864062014805 then ((impl_SameRows.f k t268 (y320 ++ bt295.1)).bind fun t326 => (if t326 = true then ((laws_sameInts.f k t269 bt295.2.1).bind fun t327 => (some t327)) else (some false))) else (none))) else (none))) else (some false))) else (some false)) else (some false)) else (some false)) else (some false)))))))) else (none)) else (none)) = some true := H
    have A9 := Aside0.mk A90
    clear A90
    obtain ⟨ji10, hji10⟩ : ∃ j_ : Int, (Int.tmod (rd t261 0) (wrap64 ((t258.length : Int) + 1))) = j_ := ⟨_, rfl⟩
    replace H : (if 0 ≤ (ji10) then (if (ji10) ≤ (t258.length : Int) then ((impl_NoCarry.f).bind fun t280 => ((impl_DiffuseRows.f k (t258.take ((ji10) : Int).toNat) t280).bind fun bt283 => ((impl_DiffuseRows.f k (t258.drop ((ji10) : Int).toNat) bt283.2.1).bind fun bt295 => ((spec_White0.f k).bind fun t302 => ((impl_NoCarry.f).bind fun t305 => ((impl_DiffuseRow.f k t302 t305).bind fun bt308 => (if t270 = true then (if bt283.2.2 = true then (if bt295.2.2 = true then (if bt308.2.2 = true then ((impl_SumOf.f k bt308.1).bind fun t316 => (if t316 = 32 then ((some (([] : List (List Int)) : List (List Int))).bind fun y317 => (if y317.length + bt283.1.length < 5864062014805 then ((some (y317 ++ bt283.1 : List (List Int))).bind fun y320 => (if y320.length + bt295.1.length < 5864062014805 then ((impl_SameRows.f k t268 (y320 ++ bt295.1)).bind fun t326 => (if t326 = true then ((laws_sameInts.f k t269 bt295.2.1).bind fun t327 => (some t327)) else (some false))) else (none))) else (none))) else (some false))) else (some false)) else (some false)) else (some false)) else (some false)))))))) else (none)) else (none)) = some true := by first | (rw [hji10] at H; exact H) | (simp only [hji10] at H ⊢; exact H)
    (try rw [hji10] at A2)
    (try rw [hji10] at A4)
    (try rw [hji10] at A5)
    (try rw [hji10] at A8)
    (try rw [hji10] at A9)
    by_cases c11 : 0 ≤ (ji10)
    ·rw [if_pos c11] at H
     have c11b0 := eq_true c11
     have c11b1 : decide (0 ≤ (ji10)) = true := decide_eq_true c11
     clear c11
     by_cases c12 : (ji10) ≤ (t258.length : Int)
     ·rw [if_pos c12] at H
      have c12b0 := eq_true c12
      have c12b1 : decide ((ji10) ≤ (t258.length : Int)) = true := decide_eq_true c12
      clear c12
      obtain ⟨y275, hy275⟩ : ∃ y_ : List (List Int), y_ = (t258.take ((ji10) : Int).toNat) := ⟨_, rfl⟩
      replace H : ((impl_NoCarry.f).bind fun t280 => ((impl_DiffuseRows.f k y275 t280).bind fun bt283 => ((impl_DiffuseRows.f k (t258.drop ((ji10) : Int).toNat) bt283.2.1).bind fun bt295 => ((spec_White0.f k).bind fun t302 => ((impl_NoCarry.f).bind fun t305 => ((impl_DiffuseRow.f k t302 t305).bind fun bt308 => (if t270 = true then (if bt283.2.2 = true then (if bt295.2.2 = true then (if bt308.2.2 = true then ((impl_SumOf.f k bt308.1).bind fun t316 => (if t316 = 32 then ((some (([] : List (List Int)) : List (List Int))).bind fun y317 => (if y317.length + bt283.1.length < 5864062014805 then ((some (y317 ++ bt283.1 : List (List Int))).bind fun y320 => (if y320.length + bt295.1.length < 5864062014805 then ((impl_SameRows.f k t268 (y320 ++ bt295.1)).bind fun t326 => (if t326 = true then ((laws_sameInts.f k t269 bt295.2.1).bind fun t327 => (some t327)) else (some false))) else (none))) else (none))) else (some false))) else (some false)) else (some false)) else (some false)) else (some false)))))))) = some true := by first | (rw [hy275]; with_reducible exact H) | (have H2_ := (Option.bind_some _ _).symm.trans H; rw [hy275]; with_reducible exact H2_) | (have H2_ := (Option.bind_some _ _).symm.trans H; with_reducible exact H2_) | with_reducible exact H | (rw [hy275]; exact H) | exact H
      have Ny275 := Aside0.mk hy275
      clear hy275
      replace H := Option.bind_eq_some_iff.mp H
      obtain ⟨t280, A130, H⟩ := H
      replace H : ((impl_DiffuseRows.f k y275 t280).bind fun bt283 => ((impl_DiffuseRows.f k (t258.drop ((ji10) : Int).toNat) bt283.2.1).bind fun bt295 => ((spec_White0.f k).bind fun t302 => ((impl_NoCarry.f).bind fun t305 => ((impl_DiffuseRow.f k t302 t305).bind fun bt308 => (if t270 = true then (if bt283.2.2 = true then (if bt295.2.2 = true then (if bt308.2.2 = true then ((impl_SumOf.f k bt308.1).bind fun t316 => (if t316 = 32 then ((some (([] : List (List Int)) : List (List Int))).bind fun y317 => (if y317.length + bt283.1.length < 5864062014805 then ((some (y317 ++ bt283.1 : List (List Int))).bind fun y320 => (if y320.length + bt295.1.length < 5864062014805 then ((impl_SameRows.f k t268 (y320 ++ bt295.1)).bind fun t326 => (if t326 = true then ((laws_sameInts.f k t269 bt295.2.1).bind fun t327 => (some t327)) else (some false))) else (none))) else (none))) else (some false))) else (some false)) else (some false)) else (some false)) else (some false))))))) = some true := H
      have A13 := Aside0.mk A130
      clear A130
      replace H := Option.bind_eq_some_iff.mp H
      obtain ⟨⟨t283, t284, t285⟩, A140, H⟩ := H
      replace H : ((impl_DiffuseRows.f k (t258.drop ((ji10) : Int).toNat) t284).bind fun bt295 => ((spec_White0.f k).bind fun t302 => ((impl_NoCarry.f).bind fun t305 => ((impl_DiffuseRow.f k t302 t305).bind fun bt308 => (if t270 = true then (if t285 = true then (if bt295.2.2 = true then (if bt308.2.2 = true then ((impl_SumOf.f k bt308.1).bind fun t316 => (if t316 = 32 then ((some (([] : List (List Int)) : List (List Int))).bind fun y317 => (if y317.length + t283.length < 5864062014805 then ((some (y317 ++ t283 : List (List Int))).bind fun y320 => (if y320.length + bt295.1.length < 5864062014805 then ((impl_SameRows.f k t268 (y320 ++ bt295.1)).bind fun t326 => (if t326 = true then ((laws_sameInts.f k t269 bt295.2.1).bind fun t327 => (some t327)) else (some false))) else (none))) else (none))) else (some false))) else (some false)) else (some false)) else (some false)) else (some false)))))) = some true := H
      have A14 := Aside0.mk A140
      clear A140
      have c15b0 := eq_true (of_decide_eq_true (by first | (with_reducible assumption) | assumption) : 0 ≤ (ji10))
      have c16b0 := eq_true (of_decide_eq_true (by first | (with_reducible assumption) | assumption) : (ji10) ≤ (t258.length : Int))
      obtain ⟨y290, hy290⟩ : ∃ y_ : List (List Int), y_ = (t258.drop ((ji10) : Int).toNat) := ⟨_, rfl⟩
      replace H : ((impl_DiffuseRows.f k y290 t284).bind fun bt295 => ((spec_White0.f k).bind fun t302 => ((impl_NoCarry.f).bind fun t305 => ((impl_DiffuseRow.f k t302 t305).bind fun bt308 => (if t270 = true then (if t285 = true then (if bt295.2.2 = true then (if bt308.2.2 = true then ((impl_SumOf.f k bt308.1).bind fun t316 => (if t316 = 32 then ((some (([] : List (List Int)) : List (List Int))).bind fun y317 => (if y317.length + t283.length < 5864062014805 then ((some (y317 ++ t283 : List (List Int))).bind fun y320 => (if y320.length + bt295.1.length < 5864062014805 then ((impl_SameRows.f k t268 (y320 ++ bt295.1)).bind fun t326 => (if t326 = true then ((laws_sameInts.f k t269 bt295.2.1).bind fun t327 => (some t327)) else (some false))) else (none))) else (none))) else (some false))) else (some false)) else (some false)) else (some false)) else (some false)))))) = some true := by first | (rw [hy290]; with_reducible exact H) | (have H2_ := (Option.bind_some _ _).symm.trans H; rw [hy290]; with_reducible exact H2_) | (have H2_ := (Option.bind_some _ _).symm.trans H; with_reducible exact H2_) | with_reducible exact H | (rw [hy290]; exact H) | exact H
      have Ny290 := Aside0.mk hy290
      clear hy290
      replace H := Option.bind_eq_some_iff.mp H
      obtain ⟨⟨t295, t296, t297⟩, A170, H⟩ := H
      replace H : ((spec_White0.f k).bind fun t302 => ((impl_NoCarry.f).bind fun t305 => ((impl_DiffuseRow.f k t302 t305).bind fun bt308 => (if t270 = true then (if t285 = true then (if t297 = true then (if bt308.2.2 = true then ((impl_SumOf.f k bt308.1).bind fun t316 => (if t316 = 32 then ((some (([] : List (List Int)) : List (List Int))).bind fun y317 => (if y317.length + t283.length < 5864062014805 then ((some (y317 ++ t283 : List (List Int))).bind fun y320 => (if y320.length + t295.length < 5864062014805 then ((impl_SameRows.f k t268 (y320 ++ t295)).bind fun t326 => (if t326 = true then ((laws_sameInts.f k t269 t296).bind fun t327 => (some t327)) else (some false))) else (none))) else (none))) else (some false))) else (some false)) else (some false)) else (some false)) else (some false))))) = some true := H
      have A17 := Aside0.mk A170
      clear A170
      replace H := Option.bind_eq_some_iff.mp H
      obtain ⟨t302, A180, H⟩ := H
      replace H : ((impl_NoCarry.f).bind fun t305 => ((impl_DiffuseRow.f k t302 t305).bind fun bt308 => (if t270 = true then (if t285 = true then (if t297 = true then (if bt308.2.2 = true then ((impl_SumOf.f k bt308.1).bind fun t316 => (if t316 = 32 then ((some (([] : List (List Int)) : List (List Int))).bind fun y317 => (if y317.length + t283.length < 5864062014805 then ((some (y317 ++ t283 : List (List Int))).bind fun y320 => (if y320.length + t295.length < 5864062014805 then ((impl_SameRows.f k t268 (y320 ++ t295)).bind fun t326 => (if t326 = true then ((laws_sameInts.f k t269 t296).bind fun t327 => (some t327)) else (some false))) else (none))) else (none))) else (some false))) else (some false)) else (some false)) else (some false)) else (some false)))) = some true := H
      have A18 := Aside0.mk A180
      clear A180
      obtain ⟨tw, AW0, cW, eW⟩ : ∃ tw, spec_WhiteRows.f k 1 = some tw ∧ 0 < (tw.length : Int) ∧ rd_L2 tw 0 = t302 := by
       obtain ⟨tw, h1_, h2_⟩ := Option.bind_eq_some_iff.mp A18.out
       by_cases c_ : 0 < (tw.length : Int)
       ·rw [if_pos c_] at h2_
        exact ⟨tw, h1_, c_, Option.some.inj h2_⟩
       ·rw [if_neg c_] at h2_
        exact absurd h2_ (by simp)
      have AW := Aside0.mk AW0
      have CW := Aside0.mk cW
      have EW := Aside0.mk eW
      clear AW0 cW eW
      replace H := Option.bind_eq_some_iff.mp H
      obtain ⟨t305, A190, H⟩ := H
      replace H : ((impl_DiffuseRow.f k t302 t305).bind fun bt308 => (if t270 = true then (if t285 = true then (if t297 = true then (if bt308.2.2 = true then ((impl_SumOf.f k bt308.1).bind fun t316 => (if t316 = 32 then ((some (([] : List (List Int)) : List (List Int))).bind fun y317 => (if y317.length + t283.length < 5864062014805 then ((some (y317 ++ t283 : List (List Int))).bind fun y320 => (if y320.length + t295.length < 5864062014805 then ((impl_SameRows.f k t268 (y320 ++ t295)).bind fun t326 => (if t326 = true then ((laws_sameInts.f k t269 t296).bind fun t327 => (some t327)) else (some false))) else (none))) else (none))) else (some false))) else (some false)) else (some false)) else (some false)) else (some false))) = some true := H
      have A19 := Aside0.mk A190
      clear A190
      replace H := Option.bind_eq_some_iff.mp H
      obtain ⟨⟨t308, t311, t314⟩, A200, H⟩ := H
      replace H : (if t270 = true then (if t285 = true then (if t297 = true then (if t314 = true then ((impl_SumOf.f k t308).bind fun t316 => (if t316 = 32 then ((some (([] : List (List Int)) : List (List Int))).bind fun y317 => (if y317.length + t283.length < 5864062014805 then ((some (y317 ++ t283 : List (List Int))).bind fun y320 => (if y320.length + t295.length < 5864062014805 then ((impl_SameRows.f k t268 (y320 ++ t295)).bind fun t326 => (if t326 = true then ((laws_sameInts.f k t269 t296).bind fun t327 => (some t327)) else (some false))) else (none))) else (none))) else (some false))) else (some false)) else (some false)) else (some false)) else (some false)) = some true := H
      have A20 := Aside0.mk A200
      clear A200
      by_cases c21 : t270 = true
      ·subst c21
       have H1 : (if t285 = true then (if t297 = true then (if t314 = true then ((impl_SumOf.f k t308).bind fun t316 => (if t316 = 32 then ((some (([] : List (List Int)) : List (List Int))).bind fun y317 => (if y317.length + t283.length < 5864062014805 then ((some (y317 ++ t283 : List (List Int))).bind fun y320 => (if y320.length + t295.length < 5864062014805 then ((impl_SameRows.f k t268 (y320 ++ t295)).bind fun t326 => (if t326 = true then ((laws_sameInts.f k t269 t296).bind fun t327 => (some t327)) else (some false))) else (none))) else (none))) else (some false))) else (some false)) else (some false)) else (some false)) = some true := by rw [if_pos rfl] at H; first | done | exact H
       clear H
       have H := H1
       clear H1
       by_cases c22 : t285 = true
       ·subst c22
        have H1 : (if t297 = true then (if t314 = true then ((impl_SumOf.f k t308).bind fun t316 => (if t316 = 32 then ((some (([] : List (List Int)) : List (List Int))).bind fun y317 => (if y317.length + t283.length < 5864062014805 then ((some (y317 ++ t283 : List (List Int))).bind fun y320 => (if y320.length + t295.length < 5864062014805 then ((impl_SameRows.f k t268 (y320 ++ t295)).bind fun t326 => (if t326 = true then ((laws_sameInts.f k t269 t296).bind fun t327 => (some t327)) else (some false))) else (none))) else (none))) else (some false))) else (some false)) else (some false)) = some true := by rw [if_pos rfl] at H; first | done | exact H
        clear H
        have H := H1
        clear H1
        by_cases c23 : t297 = true
        ·subst c23
         have H1 : (if t314 = true then ((impl_SumOf.f k t308).bind fun t316 => (if t316 = 32 then ((some (([] : List (List Int)) : List (List Int))).bind fun y317 => (if y317.length + t283.length < 5864062014805 then ((some (y317 ++ t283 : List (List Int))).bind fun y320 => (if y320.length + t295.length < 5864062014805 then ((impl_SameRows.f k t268 (y320 ++ t295)).bind fun t326 => (if t326 = true then ((laws_sameInts.f k t269 t296).bind fun t327 => (some t327)) else (some false))) else (none))) else (none))) else (some false))) else (some false)) = some true := by rw [if_pos rfl] at H; first | done | exact H
         clear H
         have H := H1
         clear H1
         by_cases c24 : t314 = true
         ·subst c24
          have H1 : ((impl_SumOf.f k t308).bind fun t316 => (if t316 = 32 then ((some (([] : List (List Int)) : List (List Int))).bind fun y317 => (if y317.length + t283.length < 5864062014805 then ((some (y317 ++ t283 : List (List Int))).bind fun y320 => (if y320.length + t295.length < 5864062014805 then ((impl_SameRows.f k t268 (y320 ++ t295)).bind fun t326 => (if t326 = true then ((laws_sameInts.f k t269 t296).bind fun t327 => (some t327)) else (some false))) else (none))) else (none))) else (some false))) = some true := by rw [if_pos rfl] at H; first | done | exact H
          clear H
          have H := H1
          clear H1
          replace H := Option.bind_eq_some_iff.mp H
          obtain ⟨t316, A250, H⟩ := H
          replace H : (if t316 = 32 then ((some (([] : List (List Int)) : List (List Int))).bind fun y317 => (if y317.length + t283.length < 5864062014805 then ((some (y317 ++ t283 : List (List Int))).bind fun y320 => (if y320.length + t295.length < 5864062014805 then ((impl_SameRows.f k t268 (y320 ++ t295)).bind fun t326 => (if t326 = true then ((laws_sameInts.f k t269 t296).bind fun t327 => (some t327)) else (some false))) else (none))) else (none))) else (some false)) = some true := H
          have A25 := Aside0.mk A250
          clear A250
          by_cases c26 : t316 = 32
          ·rw [if_pos c26] at H
           have c26b0 : (t316 == 32) = true := beq_iff_eq.mpr c26
           have c26b1 : (t316 != 32) = false := bne_eq_false_iff_eq.mpr c26
           clear c26
           obtain ⟨y317, hy317⟩ : ∃ y_ : List (List Int), y_ = (([] : List (List Int))) := ⟨_, rfl⟩
           replace H : (if y317.length + t283.length < 5864062014805 then ((some (y317 ++ t283 : List (List Int))).bind fun y320 => (if y320.length + t295.length < 5864062014805 then ((impl_SameRows.f k t268 (y320 ++ t295)).bind fun t326 => (if t326 = true then ((laws_sameInts.f k t269 t296).bind fun t327 => (some t327)) else (some false))) else (none))) else (none)) = some true := by first | (rw [hy317]; with_reducible exact H) | (have H2_ := (Option.bind_some _ _).symm.trans H; rw [hy317]; with_reducible exact H2_) | (have H2_ := (Option.bind_some _ _).symm.trans H; with_reducible exact H2_) | with_reducible exact H | (rw [hy317]; exact H) | exact H
           have Ny317 := Aside0.mk hy317
           clear hy317
           by_cases c27 : y317.length + t283.length < 5864062014805
           ·rw [if_pos c27] at H
            have LMc27 := Aside0.mk c27
            clear c27
            obtain ⟨y320, hy320⟩ : ∃ y_ : List (List Int), y_ = (y317 ++ t283) := ⟨_, rfl⟩
            replace H : (if y320.length + t295.length < 5864062014805 then ((impl_SameRows.f k t268 (y320 ++ t295)).bind fun t326 => (if t326 = true then ((laws_sameInts.f k t269 t296).bind fun t327 => (some t327)) else (some false))) else (none)) = some true := by first | (rw [hy320]; with_reducible exact H) | (have H2_ := (Option.bind_some _ _).symm.trans H; rw [hy320]; with_reducible exact H2_) | (have H2_ := (Option.bind_some _ _).symm.trans H; with_reducible exact H2_) | with_reducible exact H | (rw [hy320]; exact H) | exact H
            have Ny320 := Aside0.mk hy320
            clear hy320
            by_cases c28 : y320.length + t295.length < 5864062014805
            ·rw [if_pos c28] at H
             have LMc28 := Aside0.mk c28
             clear c28
             obtain ⟨y323, hy323⟩ : ∃ y_ : List (List Int), y_ = (y320 ++ t295) := ⟨_, rfl⟩
             replace H : ((impl_SameRows.f k t268 y323).bind fun t326 => (if t326 = true then ((laws_sameInts.f k t269 t296).bind fun t327 => (some t327)) else (some false))) = some true := by first | (rw [hy323]; with_reducible exact H) | (have H2_ := (Option.bind_some _ _).symm.trans H; rw [hy323]; with_reducible exact H2_) | (have H2_ := (Option.bind_some _ _).symm.trans H; with_reducible exact H2_) | with_reducible exact H | (rw [hy323]; exact H) | exact H
             have Ny323 := Aside0.mk hy323
             clear hy323
             replace H := Option.bind_eq_some_iff.mp H
             obtain ⟨t326, A290, H⟩ := H
             replace H : (if t326 = true then ((laws_sameInts.f k t269 t296).bind fun t327 => (some t327)) else (some false)) = some true := H
             have A29 := Aside0.mk A290
             clear A290
             by_cases c30 : t326 = true
             ·subst c30
              have H1 : ((laws_sameInts.f k t269 t296).bind fun t327 => (some t327)) = some true := by rw [if_pos rfl] at H; first | done | exact H
              clear H
              have H := H1
              clear H1
              replace H := Option.bind_eq_some_iff.mp H
              obtain ⟨t327, A310, H⟩ := H
              replace H : (some t327) = some true := H
              have A31 := Aside0.mk A310
              clear A310
              have HRT := Option.some.inj H; clear H
              go_enter Try.func3, Try.ntmps3
              try go_wp2_with (first | ((with_reducible refine gate_callee (f := 14) rfl ?_); refine goesL_ (some 18) rfl rfl Try.func14 (by kernel_rfl) rfl #[.slice A0 l0.length c0] rfl (by (try simp only [List.map_toArray, List.map_cons, List.map_nil]); first | done | rfl | (simp only [List.length_drop, List.length_take]; rfl)) ?_; (with_reducible refine (laws_big.calls _ _ l0 false _ ?side1 ?side2 A2.out).mono ?_); (case side1 => repeat (first | exact HR0.out | (with_reducible refine Kd.C_alloc ?_ _) | (with_reducible refine Kd.C_drewN ?_ _) | (with_reducible refine Kd.C_drew ?_))); (case side2 => exact HC0.out); rintro e w' ⟨rfl, ⟨nd, rfl⟩⟩; refine ⟨_, rfl, ?_⟩) | ((with_reducible refine gate_callee (f := 15) rfl ?_); refine goesL_ (some 20) rfl rfl Try.func15 (by kernel_rfl) rfl #[.slice A0 l0.length c0] rfl (by (try simp only [List.map_toArray, List.map_cons, List.map_nil]); first | done | rfl | (simp only [List.length_drop, List.length_take]; rfl)) ?_; (with_reducible refine (spec_DrawRows.calls k _ _ l0 t258 _ ?side1 ?side2 A4.out).mono ?_); (case side1 => repeat (first | exact HR0.out | (with_reducible refine Kd.C_alloc ?_ _) | (with_reducible refine Kd.C_drewN ?_ _) | (with_reducible refine Kd.C_drew ?_))); (case side2 => exact HC0.out); rintro e w32 ⟨v259, rfl, ho0, hb⟩; refine ⟨_, rfl, ?_⟩; have n0_ := Aside0.mk (Kd.N_lower (Kd.N_mono (ok' := fun k_ => True) (Kd.S_N (Kd.S_bound ho0)) (fun k_ hk_ => trivial)) (below_size (by repeat (first | (with_reducible first | exact HB.out | apply below_alloc | apply pw_below_drewN | apply below_drew1) | exact HB.out)))); have n1_ := Aside0.mk (below_step (by repeat (first | (with_reducible first | exact HB.out | apply below_alloc | apply pw_below_drewN | apply below_drew1) | exact HB.out)) hb); clear HB; have HO260 := n0_; have HB := n1_; clear n0_ n1_; (try clear hb); (try clear hb2); (try clear hk); (try clear hi); (try clear ho0)) | ((with_reducible refine gate_callee (f := 16) rfl ?_); refine goesL_ (some 22) rfl rfl Try.func16 (by kernel_rfl) rfl #[.slice A0 l0.length c0] rfl (by (try simp only [List.map_toArray, List.map_cons, List.map_nil]); first | done | rfl | (simp only [List.length_drop, List.length_take]; rfl)) ?_; (with_reducible refine (spec_DrawPlaces.calls k _ _ l0 t261 _ ?side1 ?side2 A5.out).mono ?_); (case side1 => repeat (first | exact (Kd.C_below HR0.out HB.out) | (with_reducible refine Kd.C_alloc ?_ _) | (with_reducible refine Kd.C_drewN ?_ _) | (with_reducible refine Kd.C_drew ?_))); (case side2 => exact HC0.out); rintro e w33 ⟨v262, rfl, ho0, hb⟩; refine ⟨_, rfl, ?_⟩; have n0_ := Aside0.mk (Kd.N_elder' (by (with_reducible repeat (first | apply Kd.N_alloc | apply Kd.N_drewN | apply Kd.N_drew)); exact HO260.out) (Kd.R_base ho0) hb); have n1_ := Aside0.mk (Kd.R_lower ho0 (below_size (by repeat (first | (with_reducible first | exact HB.out | apply below_alloc | apply pw_below_drewN | apply below_drew1) | exact HB.out)))); have n2_ := Aside0.mk (below_step (by repeat (first | (with_reducible first | exact HB.out | apply below_alloc | apply pw_below_drewN | apply below_drew1) | exact HB.out)) hb); clear HO260; clear HB; have HO260 := n0_; have HO263 := n1_; have HB := n2_; clear n0_ n1_ n2_; (try clear hb); (try clear hb2); (try clear hk); (try clear hi); (try clear ho0); obtain ⟨Ao34, co34, eo34⟩ := Kd.R_slice HO263.out; subst eo34; have p264 : 0 ≤ (0 : Int) := (by omega); have q264 : 0 < (t261.length : Int) := of_decide_eq_true (by first | (with_reducible assumption) | assumption); obtain ⟨ad264, e264, hx264_0⟩ := Kd.at_int (Kd.R_reads' HO263.out).2.2 0 p264 q264; cases e264; have qi264 : (0 < t261.length) = True := eq_true (by omega); (try rw [show ((0 : Int)).toNat = 0 from rfl] at hx264_0); (try rw [Addr.add_zero'] at hx264_0); replace p264 := eq_true p264; replace q264 := eq_true q264; obtain ⟨Ao35, co35, eo35⟩ := Kd.N_slice HO260.out; subst eo35) | ((with_reducible refine gate_callee (f := 18) rfl ?_); refine goesL_ (some 32) rfl rfl Try.func18 (by kernel_rfl) rfl #[] rfl (by (try simp only [List.map_toArray, List.map_cons, List.map_nil]); first | done | rfl | (simp only [List.length_drop, List.length_take]; rfl)) ?_; (with_reducible refine (impl_NoCarry.calls  t265 _ A8.out).mono ?_); rintro e w36 ⟨v266, rfl, ho0, hb⟩; refine ⟨_, rfl, ?_⟩; have n0_ := Aside0.mk (Kd.N_elder' (by (with_reducible repeat (first | apply Kd.N_alloc | apply Kd.N_drewN | apply Kd.N_drew)); exact HO260.out) (Kd.R_base ho0) hb); have n1_ := Aside0.mk (Kd.R_elder' (by (with_reducible repeat (first | apply Kd.R_alloc | apply Kd.R_drewN | apply Kd.R_drew)); exact HO263.out) (Kd.R_base ho0) hb); have n2_ := Aside0.mk (Kd.R_lower (Kd.R_new' ho0 (Kd.R_lt (by (with_reducible repeat (first | apply Kd.R_alloc | apply Kd.R_drewN | apply Kd.R_drew)); exact HO263.out))) (below_size (by repeat (first | (with_reducible first | exact HB.out | apply below_alloc | apply pw_below_drewN | apply below_drew1) | exact HB.out)))); have n3_ := Aside0.mk (below_step (by repeat (first | (with_reducible first | exact HB.out | apply below_alloc | apply pw_below_drewN | apply below_drew1) | exact HB.out)) hb); clear HO260; clear HO263; clear HB; have HO260 := n0_; have HO263 := n1_; have HO267 := n2_; have HB := n3_; clear n0_ n1_ n2_ n3_; (try clear hb); (try clear hb2); (try clear hk); (try clear hi); (try clear ho0); obtain ⟨Ao37, co37, eo37⟩ := Kd.R_slice HO267.out; subst eo37) | ((with_reducible refine gate_callee (f := 17) rfl ?_); refine goesL_ (some 33) rfl rfl Try.func17 (by kernel_rfl) rfl #[.slice Ao35 t258.length co35, .slice Ao37 t265.length co37] rfl (by (try simp only [List.map_toArray, List.map_cons, List.map_nil]); first | done | rfl | (simp only [List.length_drop, List.length_take]; rfl)) ?_; (with_reducible refine (impl_DiffuseRows.calls k _ _ t258 _ _ t265 t268 t269 true _ ?side1 ?side2 ?side3 ?side4 A9.out).mono ?_); (case side1 => repeat (first | exact (Kd.N_reads' HO260.out).2.2 | (with_reducible refine Kd.C_alloc ?_ _) | (with_reducible refine Kd.C_drewN ?_ _) | (with_reducible refine Kd.C_drew ?_))); (case side2 => exact (Kd.N_reads' HO260.out).2.1); (case side3 => repeat (first | exact (Kd.R_reads' HO267.out).2.2 | (with_reducible refine Kd.C_alloc ?_ _) | (with_reducible refine Kd.C_drewN ?_ _) | (with_reducible refine Kd.C_drew ?_))); (case side4 => exact (Kd.R_reads' HO267.out).2.1); rintro e w38 ⟨v271, v273, rfl, ho0, ho1, hb⟩; refine ⟨_, rfl, ?_⟩; have n0_ := Aside0.mk (Kd.N_mono (Kd.N_told (Kd.N_told (Kd.N_old (by (with_reducible repeat (first | apply Kd.N_alloc | apply Kd.N_drewN | apply Kd.N_drew)); exact HO260.out) hb) (by first | exact Kd.N_base ho0 | exact Kd.R_base (Kd.S_R ho0))) (Kd.R_base ho1)) (fun _ h_ => h_.1)); have n1_ := Aside0.mk (Kd.R_elder' (by (with_reducible repeat (first | apply Kd.R_alloc | apply Kd.R_drewN | apply Kd.R_drew)); exact HO263.out) (Kd.R_base ho1) hb); have n2_ := Aside0.mk (Kd.R_elder' (by (with_reducible repeat (first | apply Kd.R_alloc | apply Kd.R_drewN | apply Kd.R_drew)); exact HO267.out) (Kd.R_base ho1) hb); have n3_ := Aside0.mk (Kd.N_lower (Kd.N_mono (ok' := fun k_ => some k_ ≠ (v273 : Value).ownBlock ∧ some k_ ≠ (.slice Ao35 t258.length co35 : Value).ownBlock ∧ some k_ ≠ (.slice (some ad264) t261.length co34 : Value).ownBlock ∧ some k_ ≠ (.slice Ao37 t265.length co37 : Value).ownBlock) (Kd.S_N (Kd.S_bound ho0)) (fun k_ hk_ => ⟨hk_.1, (Kd.fresh' (Kd.N_lt (by (with_reducible repeat (first | apply Kd.N_alloc | apply Kd.N_drewN | apply Kd.N_drew)); exact HO260.out)) k_ hk_.2.1), (Kd.fresh' (Kd.R_lt (by (with_reducible repeat (first | apply Kd.R_alloc | apply Kd.R_drewN | apply Kd.R_drew)); exact HO263.out)) k_ hk_.2.1), (Kd.fresh' (Kd.R_lt (by (with_reducible repeat (first | apply Kd.R_alloc | apply Kd.R_drewN | apply Kd.R_drew)); exact HO267.out)) k_ hk_.2.1)⟩)) (below_size (by repeat (first | (with_reducible first | exact HB.out | apply below_alloc | apply pw_below_drewN | apply below_drew1) | exact HB.out)))); have n4_ := Aside0.mk (Kd.R_lower (Kd.R_new' (Kd.R_new' ho1 (Kd.R_lt (by (with_reducible repeat (first | apply Kd.R_alloc | apply Kd.R_drewN | apply Kd.R_drew)); exact HO263.out))) (Kd.R_lt (by (with_reducible repeat (first | apply Kd.R_alloc | apply Kd.R_drewN | apply Kd.R_drew)); exact HO267.out))) (below_size (by repeat (first | (with_reducible first | exact HB.out | apply below_alloc | apply pw_below_drewN | apply below_drew1) | exact HB.out)))); have n5_ := Aside0.mk (below_step (by repeat (first | (with_reducible first | exact HB.out | apply below_alloc | apply pw_below_drewN | apply below_drew1) | exact HB.out)) hb); clear HO260; clear HO263; clear HO267; clear HB; have HO260 := n0_; have HO263 := n1_; have HO267 := n2_; have HO272 := n3_; have HO274 := n4_; have HB := n5_; clear n0_ n1_ n2_ n3_ n4_ n5_; (try clear hb); (try clear hb2); (try clear hk); (try clear hi); (try clear ho0); (try clear ho1)))
              have n0_ := Aside0.mk (Kd.N_drew HO260.out)
              have n1_ := Aside0.mk (Kd.R_drew HO263.out)
              have n2_ := Aside0.mk (Kd.R_drew HO267.out)
              have n3_ := Aside0.mk (Kd.N_drew HO272.out)
              have n4_ := Aside0.mk (Kd.R_drew HO274.out)
              have n5_ := Aside0.mk (below_drew1 HB.out)
              clear HO260
              clear HO263
              clear HO267
              clear HO272
              clear HO274
              clear HB
              have HO260 := n0_
              have HO263 := n1_
              have HO267 := n2_
              have HO272 := n3_
              have HO274 := n4_
              have HB := n5_
              clear n0_ n1_ n2_ n3_ n4_ n5_
              have q40 : ((ji10) : Int) ≤ ((t258.length : Int) : Int) := of_decide_eq_true (by first | (with_reducible assumption) | assumption)
              obtain ⟨i040, hi040, _, hsz40, _⟩ := info_parts info26
              have hroom40 : t258.length ≤ co35 := (Kd.N_reads' HO260.out).2.1
              have hC40 : Kd.F (Kd.slice 3 (Kd.int .i64)) _ _ Ao35 t258.length t258 := (Kd.V_at (base := w.heap.size) (Kd.N_V HO260.out)).2.2
              have hcut40 := cut_to (P := Try.prog) 24 26 .i64 Try.underlying24 hi040 Ao35 t258.length co35 (ji10) (of_decide_eq_true (by first | (with_reducible assumption) | assumption)) q40 hroom40
              have hr40 := Kd.F_take (m := ((ji10) : Int).toNat) hC40 (by omega)
              have hy40 : y275.length = ((ji10) : Int).toNat := (by rw [Ny275.out, List.length_take]; omega)
              rw [← Ny275.out] at hr40
              rw [← hy40] at hcut40
              have HO279 := Aside0.mk (show Kd.V (Kd.slice 3 (Kd.int .i64)) 26 _ w.heap.size _ (.slice Ao35 y275.length co35) y275 from Kd.V_mk (by omega) hr40)
              have HC279 := Aside0.mk (show y275.length ≤ co35 from by omega)
              clear hr40 hC40 hroom40 hi040 hsz40
              have KY40 := Aside0.mk hy40
              clear hy40
              replace q40 := eq_true q40
              refine start_ (n := 12) (S := fun w' => True) (ds := []) #[false, false, false, false, false, false, false, false, false, false, false, false] (by kernel_rfl) rfl rfl trivial (fun hHeld => ?_); refine with_tabW laws_FnDiffusion.tab7 laws_FnDiffusion.bits7 (fun HT_ HW_ => ?_)
              generalize w38.drew = w39 at HO260 HO263 HO267 HO272 HO274 HB HO279 hHeld ⊢
              refine pure_ (i := 0) (N := some 38) (v := ?_) (a' := ?_) #[true, false, false, false, false, false, false, false, false, false, false, false] rfl rfl (any_of HT_.out (by kernel_rfl)) (fun _ _ _ h => h) (Or.inl ⟨by rfl, ?_⟩) ?_ ?_
              rotate_left
              ·intro w'
               go_simp
               with_reducible rfl
              rotate_left
              ·simp only [Act.put, List.setIfInBounds_toArray, List.set_cons_zero, List.set_cons_succ, i64_w, i32_w]
               rfl
              refine pure_ (i := 1) (N := some 39) (v := ?_) (a' := ?_) #[true, true, false, false, false, false, false, false, false, false, false, false] rfl rfl (any_of HT_.out (by kernel_rfl)) (fun _ _ _ h => h) (Or.inl ⟨by rfl, ?_⟩) ?_ ?_
              rotate_left
              ·intro w'
               go_simp
               with_reducible rfl
              rotate_left
              ·simp only [Act.put, List.setIfInBounds_toArray, List.set_cons_zero, List.set_cons_succ, i64_w, i32_w]
               rfl
              refine pure_ (i := 2) (N := some 40) (v := ?_) (a' := ?_) #[true, true, true, false, false, false, false, false, false, false, false, false] rfl rfl (any_of HT_.out (by kernel_rfl)) (fun _ _ _ h => h) (Or.inl ⟨by rfl, ?_⟩) ?_ ?_
              rotate_left
              ·intro w'
               go_simp
               with_reducible rfl
              rotate_left
              ·simp only [Act.put, List.setIfInBounds_toArray, List.set_cons_zero, List.set_cons_succ, i64_w, i32_w]
               rfl
              refine one_ (i := 3) (N := some 41) #[true, true, true, true, false, false, false, false, false, false, false, false] rfl rfl (one_of HT_.out (by kernel_rfl)) (by decide) (fun K hK => ?_)
              refine goes_ Try.func18 (by kernel_rfl) rfl #[] (by rfl) rfl rfl (by (try simp only [List.map_toArray, List.map_cons, List.map_nil]); first | done | rfl | (simp only [List.length_drop, List.length_take]; rfl)) ?_
              with_reducible refine (impl_NoCarry.calls  t280 _ A13.out).mono ?_
              rintro e w41 ⟨v281, rfl, ho0, hb⟩
              refine ⟨_, rfl, ?_⟩
              have n0_ := Aside0.mk (Kd.N_elder' (by (with_reducible repeat (first | apply Kd.N_alloc | apply Kd.N_drewN | apply Kd.N_drew)); exact HO260.out) (Kd.R_base ho0) hb)
              have n1_ := Aside0.mk (Kd.R_elder' (by (with_reducible repeat (first | apply Kd.R_alloc | apply Kd.R_drewN | apply Kd.R_drew)); exact HO263.out) (Kd.R_base ho0) hb)
              have n2_ := Aside0.mk (Kd.R_elder' (by (with_reducible repeat (first | apply Kd.R_alloc | apply Kd.R_drewN | apply Kd.R_drew)); exact HO267.out) (Kd.R_base ho0) hb)
              have n3_ := Aside0.mk (Kd.N_elder' (by (with_reducible repeat (first | apply Kd.N_alloc | apply Kd.N_drewN | apply Kd.N_drew)); exact HO272.out) (Kd.R_base ho0) hb)
              have n4_ := Aside0.mk (Kd.R_elder' (by (with_reducible repeat (first | apply Kd.R_alloc | apply Kd.R_drewN | apply Kd.R_drew)); exact HO274.out) (Kd.R_base ho0) hb)
              have n5_ := Aside0.mk (Kd.V_elder' (by (with_reducible repeat (first | apply Kd.V_alloc | apply Kd.V_drewN | apply Kd.V_drew)); exact HO279.out) (Kd.R_base ho0) hb)
              have n6_ := Aside0.mk (Kd.R_lower (Kd.R_new' (Kd.R_new' (Kd.R_new' ho0 (Kd.R_lt (by (with_reducible repeat (first | apply Kd.R_alloc | apply Kd.R_drewN | apply Kd.R_drew)); exact HO263.out))) (Kd.R_lt (by (with_reducible repeat (first | apply Kd.R_alloc | apply Kd.R_drewN | apply Kd.R_drew)); exact HO267.out))) (Kd.R_lt (by (with_reducible repeat (first | apply Kd.R_alloc | apply Kd.R_drewN | apply Kd.R_drew)); exact HO274.out))) (below_size (by repeat (first | (with_reducible first | exact HB.out | apply below_alloc | apply pw_below_drewN | apply below_drew1) | exact HB.out))))
              have n7_ := Aside0.mk (below_step (by repeat (first | (with_reducible first | exact HB.out | apply below_alloc | apply pw_below_drewN | apply below_drew1) | exact HB.out)) hb)
              clear HO260
              clear HO263
              clear HO267
              clear HO272
              clear HO274
              clear HO279
              clear HB
              have HO260 := n0_
              have HO263 := n1_
              have HO267 := n2_
              have HO272 := n3_
              have HO274 := n4_
              have HO279 := n5_
              have HO282 := n6_
              have HB := n7_
              clear n0_ n1_ n2_ n3_ n4_ n5_ n6_ n7_
              (try clear hb)
              (try clear hb2)
              (try clear hk)
              (try clear hi)
              (try clear ho0)
              obtain ⟨Ao42, co42, eo42⟩ := Kd.R_slice HO282.out
              (first | subst eo42 | (injection eo42 with f1_ f2_ f3_; have f4_ := f1_.symm; have f5_ := f3_.symm; clear f1_ f2_ f3_; subst f4_; subst f5_))
              refine hK.out _ _ trivial (fun hHeld => ?_)
              clear hK K
              refine norm_ (a' := ?_) ?_ ?_
              rotate_left
              ·show Act.put _ (some 41) _ = _
               simp only [Act.put, List.setIfInBounds_toArray, List.set_cons_zero, List.set_cons_succ, i64_w, i32_w]
               rfl
              refine one_ (i := 4) (N := some 42) #[true, true, true, true, true, false, false, false, false, false, false, false] rfl rfl (one_of HT_.out (by kernel_rfl)) (by decide) (fun K hK => ?_)
              refine goes_ Try.func17 (by kernel_rfl) rfl #[.slice Ao35 y275.length co35, .slice Ao42 t280.length co42] (by rfl) rfl rfl (by (try simp only [List.map_toArray, List.map_cons, List.map_nil]); first | done | rfl | (simp only [List.length_drop, List.length_take]; rfl)) ?_
              with_reducible refine (impl_DiffuseRows.calls k _ _ y275 _ _ t280 t283 t284 true _ ?side1 ?side2 ?side3 ?side4 A14.out).mono ?_
              (case side1 => repeat (first | exact (Kd.V_reads' HO279.out).2.2 | (with_reducible refine Kd.C_alloc ?_ _) | (with_reducible refine Kd.C_drewN ?_ _) | (with_reducible refine Kd.C_drew ?_)))
              (case side2 => exact (Kd.V_reads' HO279.out).2.1)
              (case side3 => repeat (first | exact (Kd.R_reads' HO282.out).2.2 | (with_reducible refine Kd.C_alloc ?_ _) | (with_reducible refine Kd.C_drewN ?_ _) | (with_reducible refine Kd.C_drew ?_)))
              (case side4 => exact (Kd.R_reads' HO282.out).2.1)
              rintro e w43 ⟨v286, v288, rfl, ho0, ho1, hb⟩
              refine ⟨_, rfl, ?_⟩
              have n0_ := Aside0.mk (Kd.N_mono (Kd.N_told (Kd.N_told (Kd.N_old (by (with_reducible repeat (first | apply Kd.N_alloc | apply Kd.N_drewN | apply Kd.N_drew)); exact HO260.out) hb) (by first | exact Kd.N_base ho0 | exact Kd.R_base (Kd.S_R ho0))) (Kd.R_base ho1)) (fun _ h_ => h_.1))
              have n1_ := Aside0.mk (Kd.R_elder' (by (with_reducible repeat (first | apply Kd.R_alloc | apply Kd.R_drewN | apply Kd.R_drew)); exact HO263.out) (Kd.R_base ho1) hb)
              have n2_ := Aside0.mk (Kd.R_elder' (by (with_reducible repeat (first | apply Kd.R_alloc | apply Kd.R_drewN | apply Kd.R_drew)); exact HO267.out) (Kd.R_base ho1) hb)
              have n3_ := Aside0.mk (Kd.N_mono (Kd.N_told (Kd.N_told (Kd.N_old (by (with_reducible repeat (first | apply Kd.N_alloc | apply Kd.N_drewN | apply Kd.N_drew)); exact HO272.out) hb) (by first | exact Kd.N_base ho0 | exact Kd.R_base (Kd.S_R ho0))) (Kd.R_base ho1)) (fun _ h_ => h_.1))
              have n4_ := Aside0.mk (Kd.R_elder' (by (with_reducible repeat (first | apply Kd.R_alloc | apply Kd.R_drewN | apply Kd.R_drew)); exact HO274.out) (Kd.R_base ho1) hb)
              have n5_ := Aside0.mk (Kd.V_mono (Kd.V_told (Kd.V_told (Kd.V_old (by (with_reducible repeat (first | apply Kd.V_alloc | apply Kd.V_drewN | apply Kd.V_drew)); exact HO279.out) hb) (by first | exact Kd.N_base ho0 | exact Kd.R_base (Kd.S_R ho0))) (Kd.R_base ho1)) (fun _ h_ => h_.1))
              have n6_ := Aside0.mk (Kd.R_elder' (by (with_reducible repeat (first | apply Kd.R_alloc | apply Kd.R_drewN | apply Kd.R_drew)); exact HO282.out) (Kd.R_base ho1) hb)
              have n7_ := Aside0.mk (Kd.N_lower (Kd.N_mono (ok' := fun k_ => some k_ ≠ (v288 : Value).ownBlock ∧ some k_ ≠ (.slice Ao35 t258.length co35 : Value).ownBlock ∧ some k_ ≠ (.slice (some ad264) t261.length co34 : Value).ownBlock ∧ some k_ ≠ (.slice Ao37 t265.length co37 : Value).ownBlock ∧ some k_ ≠ (v271 : Value).ownBlock ∧ some k_ ≠ (v273 : Value).ownBlock ∧ some k_ ≠ (.slice Ao42 t280.length co42 : Value).ownBlock) (Kd.S_N (Kd.S_bound ho0)) (fun k_ hk_ => ⟨hk_.1, (Kd.fresh' (Kd.N_lt (by (with_reducible repeat (first | apply Kd.N_alloc | apply Kd.N_drewN | apply Kd.N_drew)); exact HO260.out)) k_ hk_.2.1), (Kd.fresh' (Kd.R_lt (by (with_reducible repeat (first | apply Kd.R_alloc | apply Kd.R_drewN | apply Kd.R_drew)); exact HO263.out)) k_ hk_.2.1), (Kd.fresh' (Kd.R_lt (by (with_reducible repeat (first | apply Kd.R_alloc | apply Kd.R_drewN | apply Kd.R_drew)); exact HO267.out)) k_ hk_.2.1), (Kd.fresh' (Kd.N_lt (by (with_reducible repeat (first | apply Kd.N_alloc | apply Kd.N_drewN | apply Kd.N_drew)); exact HO272.out)) k_ hk_.2.1), (Kd.fresh' (Kd.R_lt (by (with_reducible repeat (first | apply Kd.R_alloc | apply Kd.R_drewN | apply Kd.R_drew)); exact HO274.out)) k_ hk_.2.1), (Kd.fresh' (Kd.R_lt (by (with_reducible repeat (first | apply Kd.R_alloc | apply Kd.R_drewN | apply Kd.R_drew)); exact HO282.out)) k_ hk_.2.1)⟩)) (below_size (by repeat (first | (with_reducible first | exact HB.out | apply below_alloc | apply pw_below_drewN | apply below_drew1) | exact HB.out))))
              have n8_ := Aside0.mk (Kd.R_lower (Kd.R_new' (Kd.R_new' (Kd.R_new' (Kd.R_new' ho1 (Kd.R_lt (by (with_reducible repeat (first | apply Kd.R_alloc | apply Kd.R_drewN | apply Kd.R_drew)); exact HO263.out))) (Kd.R_lt (by (with_reducible repeat (first | apply Kd.R_alloc | apply Kd.R_drewN | apply Kd.R_drew)); exact HO267.out))) (Kd.R_lt (by (with_reducible repeat (first | apply Kd.R_alloc | apply Kd.R_drewN | apply Kd.R_drew)); exact HO274.out))) (Kd.R_lt (by (with_reducible repeat (first | apply Kd.R_alloc | apply Kd.R_drewN | apply Kd.R_drew)); exact HO282.out))) (below_size (by repeat (first | (with_reducible first | exact HB.out | apply below_alloc | apply pw_below_drewN | apply below_drew1) | exact HB.out))))
              have n9_ := Aside0.mk (below_step (by repeat (first | (with_reducible first | exact HB.out | apply below_alloc | apply pw_below_drewN | apply below_drew1) | exact HB.out)) hb)
              clear HO260
              clear HO263
              clear HO267
              clear HO272
              clear HO274
              clear HO279
              clear HO282
              clear HB
              have HO260 := n0_
              have HO263 := n1_
              have HO267 := n2_
              have HO272 := n3_
              have HO274 := n4_
              have HO279 := n5_
              have HO282 := n6_
              have HO287 := n7_
              have HO289 := n8_
              have HB := n9_
              clear n0_ n1_ n2_ n3_ n4_ n5_ n6_ n7_ n8_ n9_
              (try clear hb)
              (try clear hb2)
              (try clear hk)
              (try clear hi)
              (try clear ho0)
              (try clear ho1)
              refine hK.out _ _ trivial (fun hHeld => ?_)
              clear hK K
              refine norm_ (a' := ?_) ?_ ?_
              rotate_left
              ·show Act.put _ (some 42) _ = _
               simp only [Act.put, List.setIfInBounds_toArray, List.set_cons_zero, List.set_cons_succ, i64_w, i32_w]
               rfl
              refine pure_ (i := 5) (N := some 37) (v := ?_) (a' := ?_) #[true, true, true, true, true, true, false, false, false, false, false, false] rfl rfl (any_of HT_.out (by kernel_rfl)) (fun _ _ _ h => h) (Or.inl ⟨by rfl, ?_⟩) ?_ ?_
              rotate_left
              ·intro w'
               go_simp
               with_reducible rfl
              rotate_left
              ·simp only [Act.put, List.setIfInBounds_toArray, List.set_cons_zero, List.set_cons_succ, i64_w, i32_w]
               rfl
              refine pure_ (i := 6) (N := some 43) (v := ?_) (a' := ?_) #[true, true, true, true, true, true, true, false, false, false, false, false] rfl rfl (any_of HT_.out (by kernel_rfl)) (fun _ _ _ h => h) (Or.inl ⟨by rfl, ?_⟩) ?_ ?_
              rotate_left
              ·intro w'
               go_simp
               with_reducible rfl
              rotate_left
              ·simp only [Act.put, List.setIfInBounds_toArray, List.set_cons_zero, List.set_cons_succ, i64_w, i32_w]
               rfl
              refine pure_ (i := 7) (N := some 44) (v := ?_) (a' := ?_) #[true, true, true, true, true, true, true, true, false, false, false, false] rfl rfl (any_of HT_.out (by kernel_rfl)) (fun _ _ _ h => h) (Or.inl ⟨by rfl, ?_⟩) ?_ ?_
              rotate_left
              ·intro w'
               go_simp
               with_reducible rfl
              rotate_left
              ·simp only [Act.put, List.setIfInBounds_toArray, List.set_cons_zero, List.set_cons_succ, i64_w, i32_w]
               rfl
              refine pure_ (i := 8) (N := some 45) (v := ?_) (a' := ?_) #[true, true, true, true, true, true, true, true, true, false, false, false] rfl rfl (any_of HT_.out (by kernel_rfl)) (fun _ _ _ h => h) (Or.inl ⟨by rfl, ?_⟩) ?_ ?_
              rotate_left
              ·intro w'
               go_simp
               with_reducible rfl
              rotate_left
              ·simp only [Act.put, List.setIfInBounds_toArray, List.set_cons_zero, List.set_cons_succ, i64_w, i32_w]
               rfl
              refine pure_ (i := 9) (N := some 9) (v := ?_) (a' := ?_) #[true, true, true, true, true, true, true, true, true, true, false, false] rfl rfl (any_of HT_.out (by kernel_rfl)) (fun _ _ _ h => h) (Or.inl ⟨by rfl, ?_⟩) ?_ ?_
              rotate_left
              ·intro w'
               go_simp
               with_reducible rfl
              rotate_left
              ·simp only [Act.put, List.setIfInBounds_toArray, List.set_cons_zero, List.set_cons_succ, i64_w, i32_w]
               rfl
              refine pure_ (i := 10) (N := some 10) (v := ?_) (a' := ?_) #[true, true, true, true, true, true, true, true, true, true, true, false] rfl rfl (any_of HT_.out (by kernel_rfl)) (fun _ _ _ h => h) (Or.inl ⟨by rfl, ?_⟩) ?_ ?_
              rotate_left
              ·intro w'
               go_simp
               with_reducible rfl
              rotate_left
              ·simp only [Act.put, List.setIfInBounds_toArray, List.set_cons_zero, List.set_cons_succ, i64_w, i32_w]
               rfl
              refine pure_ (i := 11) (N := some 11) (v := ?_) (a' := ?_) #[true, true, true, true, true, true, true, true, true, true, true, true] rfl rfl (any_of HT_.out (by kernel_rfl)) (fun _ _ _ h => h) (Or.inl ⟨by rfl, ?_⟩) ?_ ?_
              rotate_left
              ·intro w'
               go_simp
               with_reducible rfl
              rotate_left
              ·simp only [Act.put, List.setIfInBounds_toArray, List.set_cons_zero, List.set_cons_succ, i64_w, i32_w]
               rfl
              refine done_ (done_of HT_.out (by kernel_rfl)) ?_
              have q44 : ((ji10) : Int) ≤ ((t258.length : Int) : Int) := of_decide_eq_true (by first | (with_reducible assumption) | assumption)
              obtain ⟨i044, hi044, _, hsz44, _⟩ := info_parts info26
              have hroom44 : t258.length ≤ co35 := (Kd.N_reads' HO260.out).2.1
              have hC44 : Kd.F (Kd.slice 3 (Kd.int .i64)) _ _ Ao35 t258.length t258 := (Kd.V_at (base := w.heap.size) (Kd.N_V HO260.out)).2.2
              have q044 : (0 : Int) ≤ ((ji10) : Int) := of_decide_eq_true (by first | (with_reducible assumption) | assumption)
              have hcut44 := cut_from (P := Try.prog) 24 26 .i64 Try.underlying24 hi044 1 hsz44 Ao35 t258.length co35 (ji10) q044 q44
              have hr44 := Kd.F_cut (m := ((ji10) : Int).toNat) (c := co35) hC44 (by omega) hroom44
              obtain ⟨A44, hA44⟩ : ∃ A1, A1 = (if co35 = ((ji10) : Int).toNat then Ao35 else (Ao35 : Option Addr).map (·.add (((ji10) : Int).toNat * 1))) := ⟨_, rfl⟩
              obtain ⟨c44, hc44⟩ : ∃ c1, c1 = co35 - ((ji10) : Int).toNat := ⟨_, rfl⟩
              have hy44 : y290.length = t258.length - ((ji10) : Int).toNat := (by rw [Ny290.out, List.length_drop] <;> omega)
              rw [show (t258).drop ((ji10) : Int).toNat = y290 from Ny290.out.symm] at hr44
              replace hr44 : Kd.F (Kd.slice 3 (Kd.int .i64)) _ _ A44 y290.length y290 := (by rw [hA44]; exact hr44)
              rw [← hy44, ← hA44, ← hc44] at hcut44
              have HO294 := Aside0.mk (show Kd.V (Kd.slice 3 (Kd.int .i64)) 26 _ w.heap.size _ (.slice A44 y290.length c44) y290 from Kd.V_mk (by rw [hy44, hc44]; exact Nat.sub_le_sub_right hroom44 _) hr44)
              have HC294 := Aside0.mk (show y290.length ≤ c44 from by rw [hy44, hc44]; exact Nat.sub_le_sub_right hroom44 _)
              clear hr44 hC44 hroom44 hi044 hsz44 hc44
              have KY44 := Aside0.mk hy44
              have KA44 := Aside0.mk hA44
              clear hy44 hA44
              replace q44 := eq_true q44
              obtain ⟨Ao45, co45, eo45⟩ := Kd.R_slice HO289.out
              subst eo45
              try go_wp2_with (first | ((with_reducible refine gate_callee (f := 17) rfl ?_); refine goesL_ (some 51) rfl rfl Try.func17 (by kernel_rfl) rfl #[.slice A44 y290.length c44, .slice Ao45 t284.length co45] rfl (by (try simp only [List.map_toArray, List.map_cons, List.map_nil]); first | done | rfl | (simp only [List.length_drop, List.length_take]; rfl)) ?_; (with_reducible refine (impl_DiffuseRows.calls k _ _ y290 _ _ t284 t295 t296 true _ ?side1 ?side2 ?side3 ?side4 A17.out).mono ?_); (case side1 => repeat (first | exact (Kd.V_reads' HO294.out).2.2 | (with_reducible refine Kd.C_alloc ?_ _) | (with_reducible refine Kd.C_drewN ?_ _) | (with_reducible refine Kd.C_drew ?_))); (case side2 => exact (Kd.V_reads' HO294.out).2.1); (case side3 => repeat (first | exact (Kd.R_reads' HO289.out).2.2 | (with_reducible refine Kd.C_alloc ?_ _) | (with_reducible refine Kd.C_drewN ?_ _) | (with_reducible refine Kd.C_drew ?_))); (case side4 => exact (Kd.R_reads' HO289.out).2.1); rintro e w46 ⟨v298, v300, rfl, ho0, ho1, hb⟩; refine ⟨_, rfl, ?_⟩; have n0_ := Aside0.mk (Kd.N_mono (Kd.N_told (Kd.N_told (Kd.N_old (by (with_reducible repeat (first | apply Kd.N_alloc | apply Kd.N_drewN | apply Kd.N_drew)); exact HO260.out) hb) (by first | exact Kd.N_base ho0 | exact Kd.R_base (Kd.S_R ho0))) (Kd.R_base ho1)) (fun _ h_ => h_.1)); have n1_ := Aside0.mk (Kd.R_elder' (by (with_reducible repeat (first | apply Kd.R_alloc | apply Kd.R_drewN | apply Kd.R_drew)); exact HO263.out) (Kd.R_base ho1) hb); have n2_ := Aside0.mk (Kd.R_elder' (by (with_reducible repeat (first | apply Kd.R_alloc | apply Kd.R_drewN | apply Kd.R_drew)); exact HO267.out) (Kd.R_base ho1) hb); have n3_ := Aside0.mk (Kd.N_mono (Kd.N_told (Kd.N_told (Kd.N_old (by (with_reducible repeat (first | apply Kd.N_alloc | apply Kd.N_drewN | apply Kd.N_drew)); exact HO272.out) hb) (by first | exact Kd.N_base ho0 | exact Kd.R_base (Kd.S_R ho0))) (Kd.R_base ho1)) (fun _ h_ => h_.1)); have n4_ := Aside0.mk (Kd.R_elder' (by (with_reducible repeat (first | apply Kd.R_alloc | apply Kd.R_drewN | apply Kd.R_drew)); exact HO274.out) (Kd.R_base ho1) hb); have n5_ := Aside0.mk (Kd.V_mono (Kd.V_told (Kd.V_told (Kd.V_old (by (with_reducible repeat (first | apply Kd.V_alloc | apply Kd.V_drewN | apply Kd.V_drew)); exact HO279.out) hb) (by first | exact Kd.N_base ho0 | exact Kd.R_base (Kd.S_R ho0))) (Kd.R_base ho1)) (fun _ h_ => h_.1)); have n6_ := Aside0.mk (Kd.R_elder' (by (with_reducible repeat (first | apply Kd.R_alloc | apply Kd.R_drewN | apply Kd.R_drew)); exact HO282.out) (Kd.R_base ho1) hb); have n7_ := Aside0.mk (Kd.N_mono (Kd.N_told (Kd.N_told (Kd.N_old (by (with_reducible repeat (first | apply Kd.N_alloc | apply Kd.N_drewN | apply Kd.N_drew)); exact HO287.out) hb) (by first | exact Kd.N_base ho0 | exact Kd.R_base (Kd.S_R ho0))) (Kd.R_base ho1)) (fun _ h_ => h_.1)); have n8_ := Aside0.mk (Kd.R_elder' (by (with_reducible repeat (first | apply Kd.R_alloc | apply Kd.R_drewN | apply Kd.R_drew)); exact HO289.out) (Kd.R_base ho1) hb); have n9_ := Aside0.mk (Kd.V_mono (Kd.V_told (Kd.V_told (Kd.V_old (by (with_reducible repeat (first | apply Kd.V_alloc | apply Kd.V_drewN | apply Kd.V_drew)); exact HO294.out) hb) (by first | exact Kd.N_base ho0 | exact Kd.R_base (Kd.S_R ho0))) (Kd.R_base ho1)) (fun _ h_ => h_.1)); have n10_ := Aside0.mk (Kd.N_lower (Kd.N_mono (ok' := fun k_ => some k_ ≠ (v300 : Value).ownBlock ∧ some k_ ≠ (.slice Ao35 t258.length co35 : Value).ownBlock ∧ some k_ ≠ (.slice (some ad264) t261.length co34 : Value).ownBlock ∧ some k_ ≠ (.slice Ao37 t265.length co37 : Value).ownBlock ∧ some k_ ≠ (v271 : Value).ownBlock ∧ some k_ ≠ (v273 : Value).ownBlock ∧ some k_ ≠ (.slice Ao42 t280.length co42 : Value).ownBlock ∧ some k_ ≠ (v286 : Value).ownBlock ∧ some k_ ≠ (.slice Ao45 t284.length co45 : Value).ownBlock) (Kd.S_N (Kd.S_bound ho0)) (fun k_ hk_ => ⟨hk_.1, (Kd.fresh' (Kd.N_lt (by (with_reducible repeat (first | apply Kd.N_alloc | apply Kd.N_drewN | apply Kd.N_drew)); exact HO260.out)) k_ hk_.2.1), (Kd.fresh' (Kd.R_lt (by (with_reducible repeat (first | apply Kd.R_alloc | apply Kd.R_drewN | apply Kd.R_drew)); exact HO263.out)) k_ hk_.2.1), (Kd.fresh' (Kd.R_lt (by (with_reducible repeat (first | apply Kd.R_alloc | apply Kd.R_drewN | apply Kd.R_drew)); exact HO267.out)) k_ hk_.2.1), (Kd.fresh' (Kd.N_lt (by (with_reducible repeat (first | apply Kd.N_alloc | apply Kd.N_drewN | apply Kd.N_drew)); exact HO272.out)) k_ hk_.2.1), (Kd.fresh' (Kd.R_lt (by (with_reducible repeat (first | apply Kd.R_alloc | apply Kd.R_drewN | apply Kd.R_drew)); exact HO274.out)) k_ hk_.2.1), (Kd.fresh' (Kd.R_lt (by (with_reducible repeat (first | apply Kd.R_alloc | apply Kd.R_drewN | apply Kd.R_drew)); exact HO282.out)) k_ hk_.2.1), (Kd.fresh' (Kd.N_lt (by (with_reducible repeat (first | apply Kd.N_alloc | apply Kd.N_drewN | apply Kd.N_drew)); exact HO287.out)) k_ hk_.2.1), (Kd.fresh' (Kd.R_lt (by (with_reducible repeat (first | apply Kd.R_alloc | apply Kd.R_drewN | apply Kd.R_drew)); exact HO289.out)) k_ hk_.2.1)⟩)) (below_size (by repeat (first | (with_reducible first | exact HB.out | apply below_alloc | apply pw_below_drewN | apply below_drew1) | exact HB.out)))); have n11_ := Aside0.mk (Kd.R_lower (Kd.R_new' (Kd.R_new' (Kd.R_new' (Kd.R_new' (Kd.R_new' ho1 (Kd.R_lt (by (with_reducible repeat (first | apply Kd.R_alloc | apply Kd.R_drewN | apply Kd.R_drew)); exact HO263.out))) (Kd.R_lt (by (with_reducible repeat (first | apply Kd.R_alloc | apply Kd.R_drewN | apply Kd.R_drew)); exact HO267.out))) (Kd.R_lt (by (with_reducible repeat (first | apply Kd.R_alloc | apply Kd.R_drewN | apply Kd.R_drew)); exact HO274.out))) (Kd.R_lt (by (with_reducible repeat (first | apply Kd.R_alloc | apply Kd.R_drewN | apply Kd.R_drew)); exact HO282.out))) (Kd.R_lt (by (with_reducible repeat (first | apply Kd.R_alloc | apply Kd.R_drewN | apply Kd.R_drew)); exact HO289.out))) (below_size (by repeat (first | (with_reducible first | exact HB.out | apply below_alloc | apply pw_below_drewN | apply below_drew1) | exact HB.out)))); have n12_ := Aside0.mk (below_step (by repeat (first | (with_reducible first | exact HB.out | apply below_alloc | apply pw_below_drewN | apply below_drew1) | exact HB.out)) hb); clear HO260; clear HO263; clear HO267; clear HO272; clear HO274; clear HO279; clear HO282; clear HO287; clear HO289; clear HO294; clear HB; have HO260 := n0_; have HO263 := n1_; have HO267 := n2_; have HO272 := n3_; have HO274 := n4_; have HO279 := n5_; have HO282 := n6_; have HO287 := n7_; have HO289 := n8_; have HO294 := n9_; have HO299 := n10_; have HO301 := n11_; have HB := n12_; clear n0_ n1_ n2_ n3_ n4_ n5_ n6_ n7_ n8_ n9_ n10_ n11_ n12_; (try clear hb); (try clear hb2); (try clear hk); (try clear hi); (try clear ho0); (try clear ho1)))
              obtain ⟨Aa, ca, ea⟩ := Kd.N_slice HO272.out
              subst ea
              have La := Aside0.mk (Kd.N_reads' HO272.out).2.1
              have Ka := Aside0.mk (Kd.N_reads' HO272.out).2.2
              obtain ⟨Ac, cc, ec⟩ := Kd.R_slice HO274.out
              subst ec
              have Lc := Aside0.mk (Kd.R_reads' HO274.out).2.1
              have Kc := Aside0.mk (Kd.R_reads' HO274.out).2.2
              obtain ⟨Ab, cb, eb⟩ := Kd.N_slice HO287.out
              subst eb
              have Lb := Aside0.mk (Kd.N_reads' HO287.out).2.1
              have Kb := Aside0.mk (Kd.N_F (Kd.N_mono (ok' := fun k_ => k_ < w46.heap.size) (Kd.N_bound HO287.out) (fun _ h_ => h_.2)))
              obtain ⟨Ae, ce, ee⟩ := Kd.N_slice HO299.out
              subst ee
              have Le := Aside0.mk (Kd.N_reads' HO299.out).2.1
              have Ke := Aside0.mk (Kd.N_F (Kd.N_mono (ok' := fun k_ => k_ < w46.heap.size) (Kd.N_bound HO299.out) (fun _ h_ => h_.2)))
              obtain ⟨Af, cf, ef⟩ := Kd.R_slice HO301.out
              subst ef
              have Lf := Aside0.mk (Kd.R_reads' HO301.out).2.1
              have Kf := Aside0.mk (Kd.R_reads' HO301.out).2.2
              clear HO260 HO263 HO267 HO272 HO274 HO279 HO282 HO287 HO289 HO294 HO299 HO301
              clear hcut40 hcut44 hx264_0 qi264 p264 q264 q40 q44 q044 c6b0 c6b1 c7 c7b0 c7b1 hji10 c11b0 c11b1 c12b0 c12b1 c15b0 c16b0 HT_ HW_ KY40 KY44 KA44 HC279 HC294 hHeld
              have qW : ((0 : Int) < (tw.length : Int)) = True := eq_true CW.out
              have qW2 : (0 < tw.length) = True := eq_true (by have c_ := CW.out; omega)
              have qW3 : decide (0 < tw.length) = true := decide_eq_true (by have c_ := CW.out; omega)
              refine start_ (n := 11) (S := fun w' => True) (ds := [9]) #[false, false, false, false, false, false, false, false, false, false, false] (by kernel_rfl) rfl rfl trivial (fun hHeld => ?_); refine with_tabW laws_FnDiffusion.tab9 laws_FnDiffusion.bits9 (fun HT_ HW_ => ?_)
              have HBU := Aside0.mk (below_drew1 (Below.refl w46.heap.size w46))
              generalize w46.drew = wS at HBU hHeld ⊢
              refine laws_FnDiffusion.join2_ (σ := Addr × Value × Value × Value × Value × Value × Nat) (fun s_ w' => w'.cell? s_.1 = some s_.2.1) 2 #[true, true, true, true, true, true, true, true, true, false, false] (fun s_ => [(56, s_.2.2.1), (59, s_.2.2.2.1), (60, .tuple #[.agg #[s_.2.2.2.2.1, s_.2.2.2.2.2.1], .bool true]), (15, .pointer (some ⟨s_.2.2.2.2.2.2, 0, none⟩)), (57, .pointer (some s_.1)), (58, s_.2.1), (55, .tuple #[.agg #[s_.2.2.2.2.1, s_.2.2.2.2.2.1], .bool true]), (61, .agg #[s_.2.2.2.2.1, s_.2.2.2.2.2.1]), (62, .bool true)]) (fun s_ w' => Kd.R (Kd.int .i64) 3 w' w46.heap.size (fun _ => True) s_.2.2.2.2.1 t308 ∧ Kd.R (Kd.int .i64) 3 w' w46.heap.size (fun _ => True) s_.2.2.2.2.2.1 t311 ∧ w'.heap[s_.2.2.2.2.2.2]? = some (.cells #[.slice none 0 0, .slice none 0 0] 32 (0, 0)) ∧ w46.heap.size ≤ s_.2.2.2.2.2.2 ∧ Below w46.heap.size w46 w') ?_ ?_
              rotate_left
              ·intro hCont
               refine two_ (i := 0) (j := 8) (Ni := some 56) (Nj := some 15) #[true, false, false, false, false, false, false, false, false, false, false] #[false, false, false, false, false, false, false, false, true, false, false] rfl rfl rfl rfl (two_of HT_.out (by kernel_rfl)) (by decide) (by decide) (fun K hK => ?_) (fun K hK => ?_)
               ·skip
                refine goes_ Try.func20 (by kernel_rfl) rfl #[.int .i64 1] (by rfl) rfl rfl (by (try simp only [List.map_toArray, List.map_cons, List.map_nil]); first | done | rfl) ?_
                with_reducible refine (spec_WhiteRows.calls k 1 tw _ AW.out).mono ?_
                rintro e wA ⟨vW, rfl, hoW, hb⟩
                obtain ⟨AoW, coW, eoW⟩ := Kd.S_slice hoW
                subst eoW
                obtain ⟨adW, AW0, cW0, eW1, hxW, hlW, hiW⟩ := at_L2 (Kd.S_reads' hoW).2.2 (0 : Int) (Int.le_refl 0) CW.out
                cases eW1
                rw [EW.out] at hxW hlW hiW
                replace hxW : wA.cell? adW = some (.slice AW0 t302.length cW0) := by first | simpa using hxW | simpa [Addr.add] using hxW
                clear hoW
                refine ⟨_, rfl, ?_⟩
                have n_ := Aside0.mk (below_step HBU.out hb)
                clear HBU
                have HBU := n_
                clear n_
                have HI := Aside0.mk hiW
                have HL := Aside0.mk hlW
                clear hb hiW hlW hHeld
                refine hK.out _ _ trivial (fun hHeld => ?_)
                clear hK K hHeld
                refine laws_FnDiffusion.switch_ (S' := fun w' => w'.cell? adW = some (.slice AW0 t302.length cW0)) (fun _ => trivial) _ _ _ _ ?_
                have hHeld := hxW
                clear hxW
                refine norm_ (a' := ?_) ?_ ?_
                rotate_left
                ·show Act.put _ (some 56) _ = _
                 simp only [Act.put, List.setIfInBounds_toArray, List.set_cons_zero, List.set_cons_succ, i64_w, i32_w]
                 rfl
                refine pure_ (i := 1) (N := some 57) (v := ?_) (a' := ?_) #[true, true, false, false, false, false, false, false, false, false, false] rfl rfl (any_of HT_.out (by kernel_rfl)) (fun _ _ _ h => h) (Or.inl ⟨by rfl, ?_⟩) ?_ ?_
                rotate_left
                ·intro w'
                 go_simp
                 with_reducible rfl
                rotate_left
                ·simp only [Act.put, List.setIfInBounds_toArray, List.set_cons_zero, List.set_cons_succ, i64_w, i32_w]
                 rfl
                refine take_ (i := 2) (N := some 58) (v := ?_) (a' := ?_) #[true, true, true, false, false, false, false, false, false, false, false] rfl rfl (take_ofW HT_.out HW_.out (by kernel_rfl)) (fun _ _ _ h => h) (Or.inl ⟨by rfl, ?_⟩) hHeld ?_ ?_
                rotate_left
                ·intro w' s0
                 go_simp
                 with_reducible rfl
                rotate_left
                ·simp only [Act.put, List.setIfInBounds_toArray, List.set_cons_zero, List.set_cons_succ, i64_w, i32_w]
                 rfl
                refine two_ (i := 3) (j := 8) (Ni := some 59) (Nj := some 15) #[true, true, true, true, false, false, false, false, false, false, false] #[true, true, true, false, false, false, false, false, true, false, false] rfl rfl rfl rfl (two_of HT_.out (by kernel_rfl)) (by decide) (by decide) (fun K hK => ?_) (fun K hK => ?_)
                ·skip
                 refine goes_ Try.func18 (by kernel_rfl) rfl #[] (by rfl) rfl rfl (by (try simp only [List.map_toArray, List.map_cons, List.map_nil]); first | done | rfl) ?_
                 with_reducible refine (impl_NoCarry.calls t305 _ A19.out).mono ?_
                 rintro e wB ⟨v306, rfl, ho0, hb⟩
                 obtain ⟨AN, cN, eN⟩ := Kd.R_slice ho0
                 subst eN
                 have HSX_ := (hb.cell (World.block_lt_of_cell? _ _ hHeld)).trans hHeld
                 refine ⟨_, rfl, ?_⟩
                 have n_ := Aside0.mk (below_step HBU.out hb)
                 clear HBU
                 have HBU := n_
                 clear n_
                 have n_ := Aside0.mk (Kd.C_below HI.out hb)
                 clear HI
                 have HI := n_
                 clear n_
                 have RN := Aside0.mk (Kd.R_reads' ho0).2.2
                 have RM := Aside0.mk (Kd.R_reads' ho0).2.1
                 clear hb ho0 hHeld
                 refine hK.out _ _ HSX_ (fun hHeld => ?_)
                 clear hK K HSX_
                 refine norm_ (a' := ?_) ?_ ?_
                 rotate_left
                 ·show Act.put _ (some 59) _ = _
                  simp only [Act.put, List.setIfInBounds_toArray, List.set_cons_zero, List.set_cons_succ, i64_w, i32_w]
                  rfl
                 refine two_ (i := 4) (j := 8) (Ni := some 60) (Nj := some 15) #[true, true, true, true, true, false, false, false, false, false, false] #[true, true, true, true, false, false, false, false, true, false, false] rfl rfl rfl rfl (two_of HT_.out (by kernel_rfl)) (by decide) (by decide) (fun K hK => ?_) (fun K hK => ?_)
                 ·skip
                  refine goes_ Try.func19 (by kernel_rfl) rfl #[.slice AW0 t302.length cW0, .slice AN t305.length cN] (by rfl) rfl rfl (by (try simp only [List.map_toArray, List.map_cons, List.map_nil]); first | done | rfl) ?_
                  with_reducible refine (impl_DiffuseRow.calls k _ _ t302 _ _ t305 t308 t311 true _ HI.out HL.out RN.out RM.out A20.out).mono ?_
                  rintro e wC ⟨v309, v312, rfl, ho0, ho1, hb⟩
                  have HSX_ := (hb.cell (World.block_lt_of_cell? _ _ hHeld)).trans hHeld
                  refine ⟨_, rfl, ?_⟩
                  have R9 := Aside0.mk (Kd.R_lower (Kd.R_mono (ok' := fun _ => True) ho0 (fun _ _ => trivial)) HBU.out.size)
                  have R12 := Aside0.mk (Kd.R_lower (Kd.R_mono (ok' := fun _ => True) ho1 (fun _ _ => trivial)) HBU.out.size)
                  have n_ := Aside0.mk (below_step HBU.out hb)
                  clear HBU
                  have HBU := n_
                  clear n_
                  have n_ := Aside0.mk (Kd.C_below HI.out hb)
                  clear HI
                  have HI := n_
                  clear n_
                  have n_ := Aside0.mk (Kd.C_below RN.out hb)
                  clear RN
                  have RN := n_
                  clear n_
                  clear hb ho0 ho1 hHeld
                  refine hK.out _ _ HSX_ (fun hHeld => ?_)
                  clear hK K HSX_
                  refine norm_ (a' := ?_) ?_ ?_
                  rotate_left
                  ·show Act.put _ (some 60) _ = _
                   simp only [Act.put, List.setIfInBounds_toArray, List.set_cons_zero, List.set_cons_succ, i64_w, i32_w]
                   rfl
                  refine pure_ (i := 5) (N := some 55) (v := ?_) (a' := ?_) #[true, true, true, true, true, true, false, false, false, false, false] rfl rfl (any_of HT_.out (by kernel_rfl)) (fun _ _ _ h => h) (Or.inl ⟨by rfl, ?_⟩) ?_ ?_
                  rotate_left
                  ·intro w'
                   go_simp
                   with_reducible rfl
                  rotate_left
                  ·simp only [Act.put, List.setIfInBounds_toArray, List.set_cons_zero, List.set_cons_succ, i64_w, i32_w]
                   rfl
                  refine pure_ (i := 6) (N := some 61) (v := ?_) (a' := ?_) #[true, true, true, true, true, true, true, false, false, false, false] rfl rfl (any_of HT_.out (by kernel_rfl)) (fun _ _ _ h => h) (Or.inl ⟨by rfl, ?_⟩) ?_ ?_
                  rotate_left
                  ·intro w'
                   go_simp
                   with_reducible rfl
                  rotate_left
                  ·simp only [Act.put, List.setIfInBounds_toArray, List.set_cons_zero, List.set_cons_succ, i64_w, i32_w]
                   rfl
                  refine pure_ (i := 7) (N := some 62) (v := ?_) (a' := ?_) #[true, true, true, true, true, true, true, true, false, false, false] rfl rfl (any_of HT_.out (by kernel_rfl)) (fun _ _ _ h => h) (Or.inl ⟨by rfl, ?_⟩) ?_ ?_
                  rotate_left
                  ·intro w'
                   go_simp
                   with_reducible rfl
                  rotate_left
                  ·simp only [Act.put, List.setIfInBounds_toArray, List.set_cons_zero, List.set_cons_succ, i64_w, i32_w]
                   rfl
                  refine one_ (i := 8) (N := some 15) #[true, true, true, true, true, true, true, true, true, false, false] rfl rfl (one_of HT_.out (by kernel_rfl)) (by decide) (fun K hK => ?_)
                  refine box_step ?hg (N := 15) ?hd (cs := #[.slice none 0 0, .slice none 0 0]) (t := 32) ?hr ?_; (case hd => rfl); (case hg => rfl); (case hr => first | (go_simp; done) | (go_simp; rfl))
                  intro gb hgb wD hbox hb
                  have HSX_ := (hb.cell (World.block_lt_of_cell? _ _ hHeld)).trans hHeld
                  have GE := Aside0.mk (show w46.heap.size ≤ gb from by rw [hgb]; exact HBU.out.size)
                  have BK := Aside0.mk hbox
                  have n_ := Aside0.mk (below_step HBU.out hb)
                  clear HBU
                  have HBU := n_
                  clear n_
                  have n_ := Aside0.mk (Kd.C_below HI.out hb)
                  clear HI
                  have HI := n_
                  clear n_
                  have n_ := Aside0.mk (Kd.C_below RN.out hb)
                  clear RN
                  have RN := n_
                  clear n_
                  have n_ := Aside0.mk (Kd.R_below R9.out hb)
                  clear R9
                  have R9 := n_
                  clear n_
                  have n_ := Aside0.mk (Kd.R_below R12.out hb)
                  clear R12
                  have R12 := n_
                  clear n_
                  clear hb hbox hgb hHeld
                  refine hK.out _ _ HSX_ (fun hHeld => ?_)
                  clear hK K HSX_
                  refine norm_ (a' := ?_) ?_ ?_
                  rotate_left
                  ·show Act.put _ (some 15) _ = _
                   simp only [Act.put, List.setIfInBounds_toArray, List.set_cons_zero, List.set_cons_succ, i64_w, i32_w]
                   rfl
                  exact norm_ (by simp only [putAll, Act.put, List.setIfInBounds_toArray, List.set_cons_zero, List.set_cons_succ]) (hCont (adW, .slice AW0 t302.length cW0, .slice (some adW) tw.length coW, .slice AN t305.length cN, v309, v312, gb) _ ⟨R9.out, R12.out, BK.out, GE.out, HBU.out⟩)
                 ·skip
                  refine box_step ?hg (N := 15) ?hd (cs := #[.slice none 0 0, .slice none 0 0]) (t := 32) ?hr ?_; (case hd => rfl); (case hg => rfl); (case hr => first | (go_simp; done) | (go_simp; rfl))
                  intro gb hgb wD hbox hb
                  have HSX_ := (hb.cell (World.block_lt_of_cell? _ _ hHeld)).trans hHeld
                  have GE := Aside0.mk (show w46.heap.size ≤ gb from by rw [hgb]; exact HBU.out.size)
                  have BK := Aside0.mk hbox
                  have n_ := Aside0.mk (below_step HBU.out hb)
                  clear HBU
                  have HBU := n_
                  clear n_
                  have n_ := Aside0.mk (Kd.C_below HI.out hb)
                  clear HI
                  have HI := n_
                  clear n_
                  have n_ := Aside0.mk (Kd.C_below RN.out hb)
                  clear RN
                  have RN := n_
                  clear n_
                  clear hb hbox hgb hHeld
                  refine hK.out _ _ HSX_ (fun hHeld => ?_)
                  clear hK K HSX_
                  refine norm_ (a' := ?_) ?_ ?_
                  rotate_left
                  ·show Act.put _ (some 15) _ = _
                   simp only [Act.put, List.setIfInBounds_toArray, List.set_cons_zero, List.set_cons_succ, i64_w, i32_w]
                   rfl
                  refine one_ (i := 4) (N := some 60) #[true, true, true, true, true, false, false, false, true, false, false] rfl rfl (one_of HT_.out (by kernel_rfl)) (by decide) (fun K hK => ?_)
                  refine goes_ Try.func19 (by kernel_rfl) rfl #[.slice AW0 t302.length cW0, .slice AN t305.length cN] (by rfl) rfl rfl (by (try simp only [List.map_toArray, List.map_cons, List.map_nil]); first | done | rfl) ?_
                  with_reducible refine (impl_DiffuseRow.calls k _ _ t302 _ _ t305 t308 t311 true _ HI.out HL.out RN.out RM.out A20.out).mono ?_
                  rintro e wC ⟨v309, v312, rfl, ho0, ho1, hb⟩
                  have HSX_ := (hb.cell (World.block_lt_of_cell? _ _ hHeld)).trans hHeld
                  refine ⟨_, rfl, ?_⟩
                  have R9 := Aside0.mk (Kd.R_lower (Kd.R_mono (ok' := fun _ => True) ho0 (fun _ _ => trivial)) HBU.out.size)
                  have R12 := Aside0.mk (Kd.R_lower (Kd.R_mono (ok' := fun _ => True) ho1 (fun _ _ => trivial)) HBU.out.size)
                  have n_ := Aside0.mk (below_step HBU.out hb)
                  clear HBU
                  have HBU := n_
                  clear n_
                  have n_ := Aside0.mk (blk_below BK.out hb)
                  clear BK
                  have BK := n_
                  clear n_
                  have n_ := Aside0.mk (Kd.C_below HI.out hb)
                  clear HI
                  have HI := n_
                  clear n_
                  have n_ := Aside0.mk (Kd.C_below RN.out hb)
                  clear RN
                  have RN := n_
                  clear n_
                  clear hb ho0 ho1 hHeld
                  refine hK.out _ _ HSX_ (fun hHeld => ?_)
                  clear hK K HSX_
                  refine norm_ (a' := ?_) ?_ ?_
                  rotate_left
                  ·show Act.put _ (some 60) _ = _
                   simp only [Act.put, List.setIfInBounds_toArray, List.set_cons_zero, List.set_cons_succ, i64_w, i32_w]
                   rfl
                  refine pure_ (i := 5) (N := some 55) (v := ?_) (a' := ?_) #[true, true, true, true, true, true, false, false, true, false, false] rfl rfl (any_of HT_.out (by kernel_rfl)) (fun _ _ _ h => h) (Or.inl ⟨by rfl, ?_⟩) ?_ ?_
                  rotate_left
                  ·intro w'
                   go_simp
                   with_reducible rfl
                  rotate_left
                  ·simp only [Act.put, List.setIfInBounds_toArray, List.set_cons_zero, List.set_cons_succ, i64_w, i32_w]
                   rfl
                  refine pure_ (i := 6) (N := some 61) (v := ?_) (a' := ?_) #[true, true, true, true, true, true, true, false, true, false, false] rfl rfl (any_of HT_.out (by kernel_rfl)) (fun _ _ _ h => h) (Or.inl ⟨by rfl, ?_⟩) ?_ ?_
                  rotate_left
                  ·intro w'
                   go_simp
                   with_reducible rfl
                  rotate_left
                  ·simp only [Act.put, List.setIfInBounds_toArray, List.set_cons_zero, List.set_cons_succ, i64_w, i32_w]
                   rfl
                  refine pure_ (i := 7) (N := some 62) (v := ?_) (a' := ?_) #[true, true, true, true, true, true, true, true, true, false, false] rfl rfl (any_of HT_.out (by kernel_rfl)) (fun _ _ _ h => h) (Or.inl ⟨by rfl, ?_⟩) ?_ ?_
                  rotate_left
                  ·intro w'
                   go_simp
                   with_reducible rfl
                  rotate_left
                  ·simp only [Act.put, List.setIfInBounds_toArray, List.set_cons_zero, List.set_cons_succ, i64_w, i32_w]
                   rfl
                  exact norm_ (by simp only [putAll, Act.put, List.setIfInBounds_toArray, List.set_cons_zero, List.set_cons_succ]) (hCont (adW, .slice AW0 t302.length cW0, .slice (some adW) tw.length coW, .slice AN t305.length cN, v309, v312, gb) _ ⟨R9.out, R12.out, BK.out, GE.out, HBU.out⟩)
                ·skip
                 refine box_step ?hg (N := 15) ?hd (cs := #[.slice none 0 0, .slice none 0 0]) (t := 32) ?hr ?_; (case hd => rfl); (case hg => rfl); (case hr => first | (go_simp; done) | (go_simp; rfl))
                 intro gb hgb wD hbox hb
                 have HSX_ := (hb.cell (World.block_lt_of_cell? _ _ hHeld)).trans hHeld
                 have GE := Aside0.mk (show w46.heap.size ≤ gb from by rw [hgb]; exact HBU.out.size)
                 have BK := Aside0.mk hbox
                 have n_ := Aside0.mk (below_step HBU.out hb)
                 clear HBU
                 have HBU := n_
                 clear n_
                 have n_ := Aside0.mk (Kd.C_below HI.out hb)
                 clear HI
                 have HI := n_
                 clear n_
                 clear hb hbox hgb hHeld
                 refine hK.out _ _ HSX_ (fun hHeld => ?_)
                 clear hK K HSX_
                 refine norm_ (a' := ?_) ?_ ?_
                 rotate_left
                 ·show Act.put _ (some 15) _ = _
                  simp only [Act.put, List.setIfInBounds_toArray, List.set_cons_zero, List.set_cons_succ, i64_w, i32_w]
                  rfl
                 refine one_ (i := 3) (N := some 59) #[true, true, true, true, false, false, false, false, true, false, false] rfl rfl (one_of HT_.out (by kernel_rfl)) (by decide) (fun K hK => ?_)
                 refine goes_ Try.func18 (by kernel_rfl) rfl #[] (by rfl) rfl rfl (by (try simp only [List.map_toArray, List.map_cons, List.map_nil]); first | done | rfl) ?_
                 with_reducible refine (impl_NoCarry.calls t305 _ A19.out).mono ?_
                 rintro e wB ⟨v306, rfl, ho0, hb⟩
                 obtain ⟨AN, cN, eN⟩ := Kd.R_slice ho0
                 subst eN
                 have HSX_ := (hb.cell (World.block_lt_of_cell? _ _ hHeld)).trans hHeld
                 refine ⟨_, rfl, ?_⟩
                 have n_ := Aside0.mk (below_step HBU.out hb)
                 clear HBU
                 have HBU := n_
                 clear n_
                 have n_ := Aside0.mk (blk_below BK.out hb)
                 clear BK
                 have BK := n_
                 clear n_
                 have n_ := Aside0.mk (Kd.C_below HI.out hb)
                 clear HI
                 have HI := n_
                 clear n_
                 have RN := Aside0.mk (Kd.R_reads' ho0).2.2
                 have RM := Aside0.mk (Kd.R_reads' ho0).2.1
                 clear hb ho0 hHeld
                 refine hK.out _ _ HSX_ (fun hHeld => ?_)
                 clear hK K HSX_
                 refine norm_ (a' := ?_) ?_ ?_
                 rotate_left
                 ·show Act.put _ (some 59) _ = _
                  simp only [Act.put, List.setIfInBounds_toArray, List.set_cons_zero, List.set_cons_succ, i64_w, i32_w]
                  rfl
                 refine one_ (i := 4) (N := some 60) #[true, true, true, true, true, false, false, false, true, false, false] rfl rfl (one_of HT_.out (by kernel_rfl)) (by decide) (fun K hK => ?_)
                 refine goes_ Try.func19 (by kernel_rfl) rfl #[.slice AW0 t302.length cW0, .slice AN t305.length cN] (by rfl) rfl rfl (by (try simp only [List.map_toArray, List.map_cons, List.map_nil]); first | done | rfl) ?_
                 with_reducible refine (impl_DiffuseRow.calls k _ _ t302 _ _ t305 t308 t311 true _ HI.out HL.out RN.out RM.out A20.out).mono ?_
                 rintro e wC ⟨v309, v312, rfl, ho0, ho1, hb⟩
                 have HSX_ := (hb.cell (World.block_lt_of_cell? _ _ hHeld)).trans hHeld
                 refine ⟨_, rfl, ?_⟩
                 have R9 := Aside0.mk (Kd.R_lower (Kd.R_mono (ok' := fun _ => True) ho0 (fun _ _ => trivial)) HBU.out.size)
                 have R12 := Aside0.mk (Kd.R_lower (Kd.R_mono (ok' := fun _ => True) ho1 (fun _ _ => trivial)) HBU.out.size)
                 have n_ := Aside0.mk (below_step HBU.out hb)
                 clear HBU
                 have HBU := n_
                 clear n_
                 have n_ := Aside0.mk (blk_below BK.out hb)
                 clear BK
                 have BK := n_
                 clear n_
                 have n_ := Aside0.mk (Kd.C_below HI.out hb)
                 clear HI
                 have HI := n_
                 clear n_
                 have n_ := Aside0.mk (Kd.C_below RN.out hb)
                 clear RN
                 have RN := n_
                 clear n_
                 clear hb ho0 ho1 hHeld
                 refine hK.out _ _ HSX_ (fun hHeld => ?_)
                 clear hK K HSX_
                 refine norm_ (a' := ?_) ?_ ?_
                 rotate_left
                 ·show Act.put _ (some 60) _ = _
                  simp only [Act.put, List.setIfInBounds_toArray, List.set_cons_zero, List.set_cons_succ, i64_w, i32_w]
                  rfl
                 refine pure_ (i := 5) (N := some 55) (v := ?_) (a' := ?_) #[true, true, true, true, true, true, false, false, true, false, false] rfl rfl (any_of HT_.out (by kernel_rfl)) (fun _ _ _ h => h) (Or.inl ⟨by rfl, ?_⟩) ?_ ?_
                 rotate_left
                 ·intro w'
                  go_simp
                  with_reducible rfl
                 rotate_left
                 ·simp only [Act.put, List.setIfInBounds_toArray, List.set_cons_zero, List.set_cons_succ, i64_w, i32_w]
                  rfl
                 refine pure_ (i := 6) (N := some 61) (v := ?_) (a' := ?_) #[true, true, true, true, true, true, true, false, true, false, false] rfl rfl (any_of HT_.out (by kernel_rfl)) (fun _ _ _ h => h) (Or.inl ⟨by rfl, ?_⟩) ?_ ?_
                 rotate_left
                 ·intro w'
                  go_simp
                  with_reducible rfl
                 rotate_left
                 ·simp only [Act.put, List.setIfInBounds_toArray, List.set_cons_zero, List.set_cons_succ, i64_w, i32_w]
                  rfl
                 refine pure_ (i := 7) (N := some 62) (v := ?_) (a' := ?_) #[true, true, true, true, true, true, true, true, true, false, false] rfl rfl (any_of HT_.out (by kernel_rfl)) (fun _ _ _ h => h) (Or.inl ⟨by rfl, ?_⟩) ?_ ?_
                 rotate_left
                 ·intro w'
                  go_simp
                  with_reducible rfl
                 rotate_left
                 ·simp only [Act.put, List.setIfInBounds_toArray, List.set_cons_zero, List.set_cons_succ, i64_w, i32_w]
                  rfl
                 exact norm_ (by simp only [putAll, Act.put, List.setIfInBounds_toArray, List.set_cons_zero, List.set_cons_succ]) (hCont (adW, .slice AW0 t302.length cW0, .slice (some adW) tw.length coW, .slice AN t305.length cN, v309, v312, gb) _ ⟨R9.out, R12.out, BK.out, GE.out, HBU.out⟩)
               ·skip
                refine box_step ?hg (N := 15) ?hd (cs := #[.slice none 0 0, .slice none 0 0]) (t := 32) ?hr ?_; (case hd => rfl); (case hg => rfl); (case hr => first | (go_simp; done) | (go_simp; rfl))
                intro gb hgb wD hbox hb
                have HSX_ : True := trivial
                have GE := Aside0.mk (show w46.heap.size ≤ gb from by rw [hgb]; exact HBU.out.size)
                have BK := Aside0.mk hbox
                have n_ := Aside0.mk (below_step HBU.out hb)
                clear HBU
                have HBU := n_
                clear n_
                clear hb hbox hgb hHeld
                refine hK.out _ _ HSX_ (fun hHeld => ?_)
                clear hK K HSX_
                refine norm_ (a' := ?_) ?_ ?_
                rotate_left
                ·show Act.put _ (some 15) _ = _
                 simp only [Act.put, List.setIfInBounds_toArray, List.set_cons_zero, List.set_cons_succ, i64_w, i32_w]
                 rfl
                refine one_ (i := 0) (N := some 56) #[true, false, false, false, false, false, false, false, true, false, false] rfl rfl (one_of HT_.out (by kernel_rfl)) (by decide) (fun K hK => ?_)
                refine goes_ Try.func20 (by kernel_rfl) rfl #[.int .i64 1] (by rfl) rfl rfl (by (try simp only [List.map_toArray, List.map_cons, List.map_nil]); first | done | rfl) ?_
                with_reducible refine (spec_WhiteRows.calls k 1 tw _ AW.out).mono ?_
                rintro e wA ⟨vW, rfl, hoW, hb⟩
                obtain ⟨AoW, coW, eoW⟩ := Kd.S_slice hoW
                subst eoW
                obtain ⟨adW, AW0, cW0, eW1, hxW, hlW, hiW⟩ := at_L2 (Kd.S_reads' hoW).2.2 (0 : Int) (Int.le_refl 0) CW.out
                cases eW1
                rw [EW.out] at hxW hlW hiW
                replace hxW : wA.cell? adW = some (.slice AW0 t302.length cW0) := by first | simpa using hxW | simpa [Addr.add] using hxW
                clear hoW
                refine ⟨_, rfl, ?_⟩
                have n_ := Aside0.mk (below_step HBU.out hb)
                clear HBU
                have HBU := n_
                clear n_
                have n_ := Aside0.mk (blk_below BK.out hb)
                clear BK
                have BK := n_
                clear n_
                have HI := Aside0.mk hiW
                have HL := Aside0.mk hlW
                clear hb hiW hlW hHeld
                refine hK.out _ _ trivial (fun hHeld => ?_)
                clear hK K hHeld
                refine laws_FnDiffusion.switch_ (S' := fun w' => w'.cell? adW = some (.slice AW0 t302.length cW0)) (fun _ => trivial) _ _ _ _ ?_
                have hHeld := hxW
                clear hxW
                refine norm_ (a' := ?_) ?_ ?_
                rotate_left
                ·show Act.put _ (some 56) _ = _
                 simp only [Act.put, List.setIfInBounds_toArray, List.set_cons_zero, List.set_cons_succ, i64_w, i32_w]
                 rfl
                refine pure_ (i := 1) (N := some 57) (v := ?_) (a' := ?_) #[true, true, false, false, false, false, false, false, true, false, false] rfl rfl (any_of HT_.out (by kernel_rfl)) (fun _ _ _ h => h) (Or.inl ⟨by rfl, ?_⟩) ?_ ?_
                rotate_left
                ·intro w'
                 go_simp
                 with_reducible rfl
                rotate_left
                ·simp only [Act.put, List.setIfInBounds_toArray, List.set_cons_zero, List.set_cons_succ, i64_w, i32_w]
                 rfl
                refine take_ (i := 2) (N := some 58) (v := ?_) (a' := ?_) #[true, true, true, false, false, false, false, false, true, false, false] rfl rfl (take_ofW HT_.out HW_.out (by kernel_rfl)) (fun _ _ _ h => h) (Or.inl ⟨by rfl, ?_⟩) hHeld ?_ ?_
                rotate_left
                ·intro w' s0
                 go_simp
                 with_reducible rfl
                rotate_left
                ·simp only [Act.put, List.setIfInBounds_toArray, List.set_cons_zero, List.set_cons_succ, i64_w, i32_w]
                 rfl
                refine one_ (i := 3) (N := some 59) #[true, true, true, true, false, false, false, false, true, false, false] rfl rfl (one_of HT_.out (by kernel_rfl)) (by decide) (fun K hK => ?_)
                refine goes_ Try.func18 (by kernel_rfl) rfl #[] (by rfl) rfl rfl (by (try simp only [List.map_toArray, List.map_cons, List.map_nil]); first | done | rfl) ?_
                with_reducible refine (impl_NoCarry.calls t305 _ A19.out).mono ?_
                rintro e wB ⟨v306, rfl, ho0, hb⟩
                obtain ⟨AN, cN, eN⟩ := Kd.R_slice ho0
                subst eN
                have HSX_ := (hb.cell (World.block_lt_of_cell? _ _ hHeld)).trans hHeld
                refine ⟨_, rfl, ?_⟩
                have n_ := Aside0.mk (below_step HBU.out hb)
                clear HBU
                have HBU := n_
                clear n_
                have n_ := Aside0.mk (blk_below BK.out hb)
                clear BK
                have BK := n_
                clear n_
                have n_ := Aside0.mk (Kd.C_below HI.out hb)
                clear HI
                have HI := n_
                clear n_
                have RN := Aside0.mk (Kd.R_reads' ho0).2.2
                have RM := Aside0.mk (Kd.R_reads' ho0).2.1
                clear hb ho0 hHeld
                refine hK.out _ _ HSX_ (fun hHeld => ?_)
                clear hK K HSX_
                refine norm_ (a' := ?_) ?_ ?_
                rotate_left
                ·show Act.put _ (some 59) _ = _
                 simp only [Act.put, List.setIfInBounds_toArray, List.set_cons_zero, List.set_cons_succ, i64_w, i32_w]
                 rfl
                refine one_ (i := 4) (N := some 60) #[true, true, true, true, true, false, false, false, true, false, false] rfl rfl (one_of HT_.out (by kernel_rfl)) (by decide) (fun K hK => ?_)
                refine goes_ Try.func19 (by kernel_rfl) rfl #[.slice AW0 t302.length cW0, .slice AN t305.length cN] (by rfl) rfl rfl (by (try simp only [List.map_toArray, List.map_cons, List.map_nil]); first | done | rfl) ?_
                with_reducible refine (impl_DiffuseRow.calls k _ _ t302 _ _ t305 t308 t311 true _ HI.out HL.out RN.out RM.out A20.out).mono ?_
                rintro e wC ⟨v309, v312, rfl, ho0, ho1, hb⟩
                have HSX_ := (hb.cell (World.block_lt_of_cell? _ _ hHeld)).trans hHeld
                refine ⟨_, rfl, ?_⟩
                have R9 := Aside0.mk (Kd.R_lower (Kd.R_mono (ok' := fun _ => True) ho0 (fun _ _ => trivial)) HBU.out.size)
                have R12 := Aside0.mk (Kd.R_lower (Kd.R_mono (ok' := fun _ => True) ho1 (fun _ _ => trivial)) HBU.out.size)
                have n_ := Aside0.mk (below_step HBU.out hb)
                clear HBU
                have HBU := n_
                clear n_
                have n_ := Aside0.mk (blk_below BK.out hb)
                clear BK
                have BK := n_
                clear n_
                have n_ := Aside0.mk (Kd.C_below HI.out hb)
                clear HI
                have HI := n_
                clear n_
                have n_ := Aside0.mk (Kd.C_below RN.out hb)
                clear RN
                have RN := n_
                clear n_
                clear hb ho0 ho1 hHeld
                refine hK.out _ _ HSX_ (fun hHeld => ?_)
                clear hK K HSX_
                refine norm_ (a' := ?_) ?_ ?_
                rotate_left
                ·show Act.put _ (some 60) _ = _
                 simp only [Act.put, List.setIfInBounds_toArray, List.set_cons_zero, List.set_cons_succ, i64_w, i32_w]
                 rfl
                refine pure_ (i := 5) (N := some 55) (v := ?_) (a' := ?_) #[true, true, true, true, true, true, false, false, true, false, false] rfl rfl (any_of HT_.out (by kernel_rfl)) (fun _ _ _ h => h) (Or.inl ⟨by rfl, ?_⟩) ?_ ?_
                rotate_left
                ·intro w'
                 go_simp
                 with_reducible rfl
                rotate_left
                ·simp only [Act.put, List.setIfInBounds_toArray, List.set_cons_zero, List.set_cons_succ, i64_w, i32_w]
                 rfl
                refine pure_ (i := 6) (N := some 61) (v := ?_) (a' := ?_) #[true, true, true, true, true, true, true, false, true, false, false] rfl rfl (any_of HT_.out (by kernel_rfl)) (fun _ _ _ h => h) (Or.inl ⟨by rfl, ?_⟩) ?_ ?_
                rotate_left
                ·intro w'
                 go_simp
                 with_reducible rfl
                rotate_left
                ·simp only [Act.put, List.setIfInBounds_toArray, List.set_cons_zero, List.set_cons_succ, i64_w, i32_w]
                 rfl
                refine pure_ (i := 7) (N := some 62) (v := ?_) (a' := ?_) #[true, true, true, true, true, true, true, true, true, false, false] rfl rfl (any_of HT_.out (by kernel_rfl)) (fun _ _ _ h => h) (Or.inl ⟨by rfl, ?_⟩) ?_ ?_
                rotate_left
                ·intro w'
                 go_simp
                 with_reducible rfl
                rotate_left
                ·simp only [Act.put, List.setIfInBounds_toArray, List.set_cons_zero, List.set_cons_succ, i64_w, i32_w]
                 rfl
                exact norm_ (by simp only [putAll, Act.put, List.setIfInBounds_toArray, List.set_cons_zero, List.set_cons_succ]) (hCont (adW, .slice AW0 t302.length cW0, .slice (some adW) tw.length coW, .slice AN t305.length cN, v309, v312, gb) _ ⟨R9.out, R12.out, BK.out, GE.out, HBU.out⟩)
              rintro ⟨adW, v303, vW, v306, v309, v312, gb⟩ wE ⟨h0_, h1_, h2_, h3_, h4_⟩
              have R9 := Aside0.mk h0_
              have R12 := Aside0.mk h1_
              have BK := Aside0.mk h2_
              have GE := Aside0.mk h3_
              clear HBU
              have HBU := Aside0.mk h4_
              clear h0_ h1_ h2_ h3_ h4_ hHeld
              obtain ⟨A9, c9, e9⟩ := Kd.R_slice R9.out
              cases e9
              obtain ⟨A12, c12, e12⟩ := Kd.R_slice R12.out
              cases e12
              refine norm_ (a' := ?_) ?_ ?_
              rotate_left
              ·simp only [putAll, Act.put, List.setIfInBounds_toArray, List.set_cons_zero, List.set_cons_succ]
               rfl
              refine last_ (i := 9) (N := none) #[true, true, true, true, true, true, true, true, true, true, false] rfl rfl (one_of HT_.out (by kernel_rfl)) (by decide) (fun K hK => ?_)
              have hs0 : wE.cell? ⟨gb, 0, none⟩ = some (.slice none 0 0) := (blk_cell BK.out 0).trans rfl
              have hf0 := blk_frozen BK.out 0
              have hs1 : wE.cell? ⟨gb, 1, none⟩ = some (.slice none 0 0) := (blk_cell BK.out 1).trans rfl
              have hf1 := blk_frozen BK.out 1
              refine skip_ (w1 := (wE.setCell ⟨gb, 0, none⟩ (.slice A9 t308.length c9)).setCell ⟨gb, 1, none⟩ (.slice A12 t311.length c12)) (by rfl) rfl ?_ ?_
              ·first | (go_simp; done) | (go_simp; rfl)
              refine hK.out _ _ ?_
              clear hK K hs0 hf0 hs1 hf1
              have hR9 := Kd.R_far (p := ⟨gb, 1, none⟩) (Kd.R_far (p := ⟨gb, 0, none⟩) (Kd.R_types R9.out BK.out (by decide)) (fun _ hk => hk.2) (.slice A9 t308.length c9)) (fun _ hk => hk.2) (.slice A12 t311.length c12)
              have hBU := below_set (j := 1) (v := .slice A12 t311.length c12) (below_set (j := 0) (v := .slice A9 t308.length c9) HBU.out GE.out) GE.out
              have hcell : ((wE.setCell ⟨gb, 0, none⟩ (.slice A9 t308.length c9)).setCell ⟨gb, 1, none⟩ (.slice A12 t311.length c12)).cell? ⟨gb, 0, none⟩ = some (.slice A9 t308.length c9) := laws_FnDiffusion.box0 BK.out _ _
              generalize (wE.setCell ⟨gb, 0, none⟩ (.slice A9 t308.length c9)).setCell ⟨gb, 1, none⟩ (.slice A12 t311.length c12) = wF at hR9 hBU hcell ⊢
              clear R9 R12 BK GE HBU
              have K9 := Aside0.mk (Kd.R_reads' hR9).2.2
              have L9 := Aside0.mk (Kd.R_reads' hR9).2.1
              have HBU := Aside0.mk hBU
              clear hR9 hBU
              refine pure_ (i := 10) (N := some 16) (v := ?_) (a' := ?_) #[true, true, true, true, true, true, true, true, true, true, true] rfl rfl (any_of HT_.out (by kernel_rfl)) (fun _ _ _ h => h) (Or.inl ⟨by rfl, ?_⟩) ?_ ?_
              rotate_left
              ·intro w'
               go_simp
               with_reducible rfl
              rotate_left
              ·simp only [Act.put, List.setIfInBounds_toArray, List.set_cons_zero, List.set_cons_succ, i64_w, i32_w]
               rfl
              refine done_ (done_of HT_.out (by kernel_rfl)) ?_
              clear HT_ HW_ qW qW2 qW3
              have n_ := Aside0.mk (Kd.C_below Ka.out HBU.out)
              clear Ka
              have Ka := n_
              clear n_
              have n_ := Aside0.mk (Kd.C_below Kc.out HBU.out)
              clear Kc
              have Kc := n_
              clear n_
              have n_ := Aside0.mk (Kd.F_below Kb.out HBU.out)
              clear Kb
              have Kb := n_
              clear n_
              have n_ := Aside0.mk (Kd.F_below Ke.out HBU.out)
              clear Ke
              have Ke := n_
              clear n_
              have n_ := Aside0.mk (Kd.C_below Kf.out HBU.out)
              clear Kf
              have Kf := n_
              clear n_
              have n_ := Aside0.mk (below_step HB.out HBU.out)
              clear HB
              have HB := n_
              clear n_
              have US := Aside0.mk HBU.out.size
              subst HRT
              try go_wp2_with (first | (go_at_call 21; (with_reducible refine (impl_SumOf.calls k _ _ t308 t316 _ K9.out L9.out A25.out).mono ?_); rintro e w' ⟨rfl, ⟨nd, rfl⟩⟩) | ((with_reducible refine gate_dst (N := 81) rfl ?_); (refine gate_guard (by rfl) ?_; dsimp only); refine Kd.N_lit (Kd.slice 3 (Kd.int .i64)) (w0 := wF) wF.heap.size 26 ?hg (N' := 81) ?hd (xs := ([] : List (List Int))) (inner := []) (ok := fun _ => True) (okp := fun _ => False) ?hr ?hp (fun _ h_ => h_.elim) trivial (pw_below_drewN (Below.refl _ _) _) (pw_below_drewN (Below.refl wF.heap.size wF) _).size (by decide) ?_; (case hd => rfl); (case hg => rfl); (case hr => first | (go_simp; done) | (go_simp; rfl)); (case hp => exact ⟨rfl, fun j p hj => by simp at hj⟩); intro v0 wG hN hB hG hat; have N0 := Aside0.mk (show Kd.N (Kd.slice 3 (Kd.int .i64)) 26 wG wF.heap.size (fun _ => True) v0 y317 from by rw [Ny317.out]; exact hN); have B0 := Aside0.mk hB; clear hN hB hG hat) | ((with_reducible refine gate_dst (N := 83) rfl ?_); (refine gate_guard (by rfl) ?_; dsimp only); refine Kd.N_append_rows (Kd.slice 3 (Kd.int .i64)) (w0 := wF) wF.heap.size rfl (.tmp 81) (.tmp 82) 24 26 (.slice none 0 0) 24 rfl Try.underlying24 info26 rfl (by decide) (by omega) v0 y317 t283 _ _ _ (fun _ => True) (fun k_ => k_ < w46.heap.size) rfl rfl N0.out (Kd.F_below Kb.out B0.out) (fun k_ hk_ => ⟨trivial, fun e_ => Nat.lt_irrefl _ (Nat.lt_of_lt_of_le hk_ (Nat.le_trans US.out (Kd.N_base N0.out k_ e_.symm)))⟩) (fun _ _ => trivial) B0.out B0.out.size (by have := LMc27.out; omega) ?_; intro v1 wH hN hB hG hat; have N1 := Aside0.mk (show Kd.N (Kd.slice 3 (Kd.int .i64)) 26 wH wF.heap.size (fun _ => True) v1 y320 from by rw [Ny320.out]; exact hN); have B1 := Aside0.mk hB; clear hN hB hG hat) | ((with_reducible refine gate_dst (N := 85) rfl ?_); (refine gate_guard (by rfl) ?_; dsimp only); refine Kd.N_append_rows (Kd.slice 3 (Kd.int .i64)) (w0 := wF) wF.heap.size rfl (.tmp 83) (.tmp 84) 24 26 (.slice none 0 0) 24 rfl Try.underlying24 info26 rfl (by decide) (by omega) v1 y320 t295 _ _ _ (fun _ => True) (fun k_ => k_ < w46.heap.size) rfl rfl N1.out (Kd.F_below Ke.out B1.out) (fun k_ hk_ => ⟨trivial, fun e_ => Nat.lt_irrefl _ (Nat.lt_of_lt_of_le hk_ (Nat.le_trans US.out (Kd.N_base N1.out k_ e_.symm)))⟩) (fun _ _ => trivial) B1.out B1.out.size (by have := LMc28.out; omega) ?_; intro v2 wI hN hB hG hat; have N2 := Aside0.mk (show Kd.N (Kd.slice 3 (Kd.int .i64)) 26 wI wF.heap.size (fun _ => True) v2 y323 from by rw [Ny323.out]; exact hN); have B2 := Aside0.mk hB; clear hN hB hG hat; obtain ⟨A2_, c2_, e2_⟩ := Kd.N_slice N2.out; subst e2_) | (go_at_call 22; (with_reducible refine (impl_SameRows.calls k _ _ t268 _ _ y323 true _ (Kd.C_below Ka.out B2.out) La.out (Kd.N_reads' N2.out).2.2 (Kd.N_reads' N2.out).2.1 A29.out).mono ?_); rintro e w' ⟨rfl, ⟨nd2, rfl⟩⟩) | (go_at_call 23; (with_reducible refine (laws_sameInts.calls k _ _ t269 _ _ t296 true _ (Kd.C_drewN (Kd.C_below Kc.out B2.out) _) Lc.out (Kd.C_drewN (Kd.C_below Kf.out B2.out) _) Lf.out A31.out).mono ?_); rintro e w' ⟨rfl, ⟨nd3, rfl⟩⟩))
              go_ret
              exact ⟨rfl, below_step HB.out (pw_below_drewN B2.out _)⟩
             ·replace c30 := Bool.eq_false_iff.mpr c30
              subst c30
              have H1 : (some false) = some true := by rw [if_neg (show ¬ (false = true) by decide)] at H; first | done | exact H
              clear H
              have H := H1
              clear H1
              exact absurd H (by simp)
            ·rw [if_neg c28] at H
             exact absurd H (by simp)
           ·rw [if_neg c27] at H
            exact absurd H (by simp)
          ·rw [if_neg c26] at H
           have c26b0 : (t316 == 32) = false := beq_eq_false_iff_ne.mpr c26
           have c26b1 : (t316 != 32) = true := bne_iff_ne.mpr c26
           exact absurd H (by simp)
         ·replace c24 := Bool.eq_false_iff.mpr c24
          subst c24
          have H1 : (some false) = some true := by rw [if_neg (show ¬ (false = true) by decide)] at H; first | done | exact H
          clear H
          have H := H1
          clear H1
          exact absurd H (by simp)
        ·replace c23 := Bool.eq_false_iff.mpr c23
         subst c23
         have H1 : (some false) = some true := by rw [if_neg (show ¬ (false = true) by decide)] at H; first | done | exact H
         clear H
         have H := H1
         clear H1
         exact absurd H (by simp)
       ·replace c22 := Bool.eq_false_iff.mpr c22
        subst c22
        have H1 : (some false) = some true := by rw [if_neg (show ¬ (false = true) by decide)] at H; first | done | exact H
        clear H
        have H := H1
        clear H1
        exact absurd H (by simp)
      ·replace c21 := Bool.eq_false_iff.mpr c21
       subst c21
       have H1 : (some false) = some true := by rw [if_neg (show ¬ (false = true) by decide)] at H; first | done | exact H
       clear H
       have H := H1
       clear H1
       exact absurd H (by simp)
     ·rw [if_neg c12] at H
      exact absurd H (by simp)
    ·rw [if_neg c11] at H
     exact absurd H (by simp)
  ·rw [if_neg c6] at H
   exact absurd H (by simp)

/-- THE ONE PURE STATEMENT of laws_FnDiffusion: yours. -/
def laws_FnDiffusion.Pure : Prop := ∀ (l0 : List Int), l0.length ≤ maxLen → l0.length * 1 ≤ 140737488351232 → (∀ x ∈ l0, (Lit.int .u8 x).wf = true) → ∃ k, laws_FnDiffusion.f k l0 = some true
theorem laws_FnDiffusion.walk (P : laws_FnDiffusion.Pure) (a0 : Option Addr) (len0 cap0 : Nat) (z0 : List Int) (w : World) (w0 : (a0 = none ∧ len0 = 0 ∧ cap0 = 0 ∧ z0 = []) ∨ ∃ x, a0 = some x ∧ len0 ≤ cap0 ∧ cap0 ≤ maxLen ∧ z0.length = cap0 ∧ (∀ i, i < z0.length → w.cell? (x.add i) = some (.int .u8 (z0.getD i 0))) ∧ ∀ n ∈ z0, (Lit.int .u8 n).wf = true) (y0 : len0 * 1 ≤ 140737488351232) :
  Calls Try.prog 3 #[.slice a0 len0 cap0] w fun e w' => e = .returned (.bool true) ∧ Below w.heap.size w w' := by
 obtain ⟨l0, rfl, hr0, hm0, hw0, hc0⟩ := ReadsInt.ofRowC w0
 obtain ⟨k, h⟩ := P l0 hm0 y0 hw0
 refine (laws_FnDiffusion.calls k _ _ l0 w (Kd.C_of_reads (d := (0 : Int)) (h1 := fun _ => rfl) hr0) hc0 h).mono ?_
 rintro e w' ⟨rfl, hd⟩
 exact ⟨rfl, hd⟩

end Go.Proofs.Ytophklfiooklbaa.PFnDiffusion
