-- Written by a program of this session (myprint.py: the kit's print.py, changed), out of the translation.
import Derived.Test.YtjkddcnflpfinaaPFnTrapsx0
import Derived.Test.YtjkddcnflpfinaaPFnTrapsx1
import Derived.Test.YtjkddcnflpfinaaPFnTrapsx2
import Derived.Test.YtjkddcnflpfinaaPFnTrapsx5
import Derived.Test.YtjkddcnflpfinaaPFnTrapsx6
namespace Go.Proofs.Ytjkddcnflpfinaa.PFnTraps
open Go.RowKit Go.Proofs.YtjkddcnflpfinaaW.PrintWords Go.Proofs.YtjkddcnflpfinaaW.PrintLast Go.Proofs.YtjkddcnflpfinaaW.PrintMore
attribute [local go_sem] max2_int min2_int max_two min_two max_three min_three max_four min_four   -- for this text's walks alone
set_option linter.unusedVariables false
set_option linter.unusedSimpArgs false

/-! ### laws_FnTraps: function 4 -/
mutual
def laws_FnTraps.j0 : Nat → List (List Int) → List (List Int) → List (List Int) → List (List Int) → Bool → Option (Bool)
  | 0, _, _, _, _, _ => none
  | k + 1, x3, x4, x5, x7, x56 => if x56 = true then (some false) else (laws_FnTraps.l0 k x3 x4 x5 x7 0)
def laws_FnTraps.l0 : Nat → List (List Int) → List (List Int) → List (List Int) → List (List Int) → Int → Option (Bool)
  | 0, _, _, _, _, _ => none
  | k + 1, x3, x4, x5, x7, x8 => if x8 < (x3.length : Int) then (laws_FnTraps.l1 k x3 x4 x5 x7 x8 0) else ((impl_CountOnes.f k x5).bind fun t292 => ((impl_CountOnes.f k x3).bind fun t293 => (if t292 ≥ t293 then ((impl_CountOnes.f k x5).bind fun t294 => ((impl_CountOnes.f k x7).bind fun t295 => (some (decide (t294 ≤ t295))))) else (some false))))
def laws_FnTraps.l1 : Nat → List (List Int) → List (List Int) → List (List Int) → List (List Int) → Int → Int → Option (Bool)
  | 0, _, _, _, _, _, _ => none
  | k + 1, x3, x4, x5, x7, x8, x9 => if x9 < 32 then (if 0 ≤ x8 then (if x8 < (x3.length : Int) then (if 0 ≤ x9 then (if x9 < ((rd_L2 x3 x8).length : Int) then (if (rd (rd_L2 x3 x8) x9) = 1 then (if x8 < (x5.length : Int) then (if x9 < ((rd_L2 x5 x8).length : Int) then (if (((rd (rd_L2 x5 x8) x9) == 1) != true) = true then (some false) else (if x8 < (x7.length : Int) then (if x9 < ((rd_L2 x7 x8).length : Int) then (if (rd (rd_L2 x7 x8) x9) = 1 then (laws_FnTraps.l1 k x3 x4 x5 x7 x8 (wrap64 (x9 + 1))) else (some false)) else (none)) else (none))) else (none)) else (none)) else (if x8 < (x7.length : Int) then (if x9 < ((rd_L2 x7 x8).length : Int) then (if (rd (rd_L2 x7 x8) x9) = 1 then (if x8 < (x4.length : Int) then (if x9 < ((rd_L2 x4 x8).length : Int) then (if x8 < (x5.length : Int) then (if x9 < ((rd_L2 x5 x8).length : Int) then (if (((rd (rd_L2 x5 x8) x9) == 1) != ((rd (rd_L2 x4 x8) x9) == 1)) = true then (some false) else (laws_FnTraps.l1 k x3 x4 x5 x7 x8 (wrap64 (x9 + 1)))) else (none)) else (none)) else (none)) else (none)) else (if x8 < (x5.length : Int) then (if x9 < ((rd_L2 x5 x8).length : Int) then (if (((rd (rd_L2 x5 x8) x9) == 1) != false) = true then (some false) else (laws_FnTraps.l1 k x3 x4 x5 x7 x8 (wrap64 (x9 + 1)))) else (none)) else (none))) else (none)) else (none))) else (none)) else (none)) else (none)) else (none)) else (laws_FnTraps.l0 k x3 x4 x5 x7 (wrap64 (x8 + 1)))
end
def laws_FnTraps.f (k : Nat) (l0 : List Int) : Option (Bool) := (laws_big.f l0).bind fun t255 => (if t255 = true then (some true) else ((spec_DrawPlanes.f k l0).bind fun bt256 => ((impl_TrapBits.f k bt256.1 bt256.2).bind fun bt262 => ((impl_SpreadBits.f k bt256.1).bind fun t266 => (if bt262.2 = true then (if (bt262.1.length : Int) = (bt256.1.length : Int) then (if (t266.length : Int) = (bt256.1.length : Int) then ((impl_BitsOk.f k bt262.1).bind fun t269 => (if t269 = true then ((spec_BitsOk.f k bt262.1).bind fun t270 => (if t270 = true then ((spec_BitsOk.f k t266).bind fun t271 => (laws_FnTraps.j0 k bt256.1 bt256.2 bt262.1 t266 (!t271))) else (laws_FnTraps.j0 k bt256.1 bt256.2 bt262.1 t266 true))) else (laws_FnTraps.j0 k bt256.1 bt256.2 bt262.1 t266 true))) else (laws_FnTraps.j0 k bt256.1 bt256.2 bt262.1 t266 true)) else (laws_FnTraps.j0 k bt256.1 bt256.2 bt262.1 t266 true)) else (laws_FnTraps.j0 k bt256.1 bt256.2 bt262.1 t266 true))))))
theorem laws_FnTraps.mono_l : ∀ k, (∀ y0 y1 y2 y3 y4, LeO (laws_FnTraps.j0 k y0 y1 y2 y3 y4) (laws_FnTraps.j0 (k + 1) y0 y1 y2 y3 y4)) ∧ (∀ y0 y1 y2 y3 y4, LeO (laws_FnTraps.l0 k y0 y1 y2 y3 y4) (laws_FnTraps.l0 (k + 1) y0 y1 y2 y3 y4)) ∧ (∀ y0 y1 y2 y3 y4 y5, LeO (laws_FnTraps.l1 k y0 y1 y2 y3 y4 y5) (laws_FnTraps.l1 (k + 1) y0 y1 y2 y3 y4 y5))
  | 0 => ⟨fun _ _ _ _ _ r h => by simp [laws_FnTraps.j0] at h, fun _ _ _ _ _ r h => by simp [laws_FnTraps.l0] at h, fun _ _ _ _ _ _ r h => by simp [laws_FnTraps.l1] at h⟩
  | k + 1 => by
    obtain ⟨ih0, ih1, ih2⟩ := laws_FnTraps.mono_l k
    refine ⟨?_, ?_, ?_⟩
    · intro y0 y1 y2 y3 y4
      unfold laws_FnTraps.j0
      repeat' first
      | (with_reducible exact ih0 _ _ _ _ _)
      | (with_reducible exact ih1 _ _ _ _ _)
      | (with_reducible exact ih2 _ _ _ _ _ _)
      | (with_reducible exact impl_BitsOk.mono _ _)
      | (with_reducible exact impl_CountOnes.mono _ _)
      | (with_reducible exact impl_SpreadBits.mono _ _)
      | (with_reducible exact impl_TrapBits.mono _ _ _)
      | (with_reducible exact spec_BitsOk.mono _ _)
      | (with_reducible exact spec_DrawPlanes.mono _ _)
      | (with_reducible exact LeO.refl _)
      | (with_reducible exact LeO.none _)
      | (with_reducible refine LeO.ite ?_ ?_)
      | (with_reducible refine LeO.bind ?_ (fun _ => ?_))
      | exact ih0 _ _ _ _ _
      | exact ih1 _ _ _ _ _
      | exact ih2 _ _ _ _ _ _
      | exact impl_BitsOk.mono _ _
      | exact impl_CountOnes.mono _ _
      | exact impl_SpreadBits.mono _ _
      | exact impl_TrapBits.mono _ _ _
      | exact spec_BitsOk.mono _ _
      | exact spec_DrawPlanes.mono _ _
      | exact LeO.none _
      | refine LeO.ite ?_ ?_
      | refine LeO.bind ?_ (fun _ => ?_)
    · intro y0 y1 y2 y3 y4
      unfold laws_FnTraps.l0
      repeat' first
      | (with_reducible exact ih0 _ _ _ _ _)
      | (with_reducible exact ih1 _ _ _ _ _)
      | (with_reducible exact ih2 _ _ _ _ _ _)
      | (with_reducible exact impl_BitsOk.mono _ _)
      | (with_reducible exact impl_CountOnes.mono _ _)
      | (with_reducible exact impl_SpreadBits.mono _ _)
      | (with_reducible exact impl_TrapBits.mono _ _ _)
      | (with_reducible exact spec_BitsOk.mono _ _)
      | (with_reducible exact spec_DrawPlanes.mono _ _)
      | (with_reducible exact LeO.refl _)
      | (with_reducible exact LeO.none _)
      | (with_reducible refine LeO.ite ?_ ?_)
      | (with_reducible refine LeO.bind ?_ (fun _ => ?_))
      | exact ih0 _ _ _ _ _
      | exact ih1 _ _ _ _ _
      | exact ih2 _ _ _ _ _ _
      | exact impl_BitsOk.mono _ _
      | exact impl_CountOnes.mono _ _
      | exact impl_SpreadBits.mono _ _
      | exact impl_TrapBits.mono _ _ _
      | exact spec_BitsOk.mono _ _
      | exact spec_DrawPlanes.mono _ _
      | exact LeO.none _
      | refine LeO.ite ?_ ?_
      | refine LeO.bind ?_ (fun _ => ?_)
    · intro y0 y1 y2 y3 y4 y5
      unfold laws_FnTraps.l1
      repeat' first
      | (with_reducible exact ih0 _ _ _ _ _)
      | (with_reducible exact ih1 _ _ _ _ _)
      | (with_reducible exact ih2 _ _ _ _ _ _)
      | (with_reducible exact impl_BitsOk.mono _ _)
      | (with_reducible exact impl_CountOnes.mono _ _)
      | (with_reducible exact impl_SpreadBits.mono _ _)
      | (with_reducible exact impl_TrapBits.mono _ _ _)
      | (with_reducible exact spec_BitsOk.mono _ _)
      | (with_reducible exact spec_DrawPlanes.mono _ _)
      | (with_reducible exact LeO.refl _)
      | (with_reducible exact LeO.none _)
      | (with_reducible refine LeO.ite ?_ ?_)
      | (with_reducible refine LeO.bind ?_ (fun _ => ?_))
      | exact ih0 _ _ _ _ _
      | exact ih1 _ _ _ _ _
      | exact ih2 _ _ _ _ _ _
      | exact impl_BitsOk.mono _ _
      | exact impl_CountOnes.mono _ _
      | exact impl_SpreadBits.mono _ _
      | exact impl_TrapBits.mono _ _ _
      | exact spec_BitsOk.mono _ _
      | exact spec_DrawPlanes.mono _ _
      | exact LeO.none _
      | refine LeO.ite ?_ ?_
      | refine LeO.bind ?_ (fun _ => ?_)
theorem laws_FnTraps.mono : ∀ a0 k, LeO (laws_FnTraps.f k a0) (laws_FnTraps.f (k + 1) a0) := by
  intro a0 k
  obtain ⟨ih0, ih1, ih2⟩ := laws_FnTraps.mono_l k
  unfold laws_FnTraps.f
  repeat' first
      | (with_reducible exact ih0 _ _ _ _ _)
      | (with_reducible exact ih1 _ _ _ _ _)
      | (with_reducible exact ih2 _ _ _ _ _ _)
      | (with_reducible exact impl_BitsOk.mono _ _)
      | (with_reducible exact impl_CountOnes.mono _ _)
      | (with_reducible exact impl_SpreadBits.mono _ _)
      | (with_reducible exact impl_TrapBits.mono _ _ _)
      | (with_reducible exact spec_BitsOk.mono _ _)
      | (with_reducible exact spec_DrawPlanes.mono _ _)
      | (with_reducible exact LeO.refl _)
      | (with_reducible exact LeO.none _)
      | (with_reducible refine LeO.ite ?_ ?_)
      | (with_reducible refine LeO.bind ?_ (fun _ => ?_))
      | exact ih0 _ _ _ _ _
      | exact ih1 _ _ _ _ _
      | exact ih2 _ _ _ _ _ _
      | exact impl_BitsOk.mono _ _
      | exact impl_CountOnes.mono _ _
      | exact impl_SpreadBits.mono _ _
      | exact impl_TrapBits.mono _ _ _
      | exact spec_BitsOk.mono _ _
      | exact spec_DrawPlanes.mono _ _
      | exact LeO.none _
      | refine LeO.ite ?_ ?_
      | refine LeO.bind ?_ (fun _ => ?_)
set_option maxHeartbeats 8000000 in
set_option maxRecDepth 100000 in
theorem laws_FnTraps.calls (k : Nat) (A0 : Option Addr) (c0 : Nat) (l0 : List Int) (w : World) (hr0 : Kd.C (Kd.int .u8) w A0 l0.length l0) (hc0 : l0.length ≤ c0) (h : laws_FnTraps.f k l0 = some true) :
    Calls Try.prog 4 #[.slice A0 l0.length c0] w fun e w' => e = .returned (.bool true) ∧ Below w.heap.size w w' := by
  have HR0 := Aside0.mk hr0
  have HC0 := Aside0.mk hc0
  clear hr0 hc0
  have HB := Aside0.mk (Below.refl w.heap.size w)
  have H : ((laws_big.f l0).bind fun t255 => (if t255 = true then (some true) else ((spec_DrawPlanes.f k l0).bind fun bt256 => ((impl_TrapBits.f k bt256.1 bt256.2).bind fun bt262 => ((impl_SpreadBits.f k bt256.1).bind fun t266 => (if bt262.2 = true then (if (bt262.1.length : Int) = (bt256.1.length : Int) then (if (t266.length : Int) = (bt256.1.length : Int) then ((impl_BitsOk.f k bt262.1).bind fun t269 => (if t269 = true then ((spec_BitsOk.f k bt262.1).bind fun t270 => (if t270 = true then ((spec_BitsOk.f k t266).bind fun t271 => (laws_FnTraps.j0 k bt256.1 bt256.2 bt262.1 t266 (!t271))) else (laws_FnTraps.j0 k bt256.1 bt256.2 bt262.1 t266 true))) else (laws_FnTraps.j0 k bt256.1 bt256.2 bt262.1 t266 true))) else (laws_FnTraps.j0 k bt256.1 bt256.2 bt262.1 t266 true)) else (laws_FnTraps.j0 k bt256.1 bt256.2 bt262.1 t266 true)) else (laws_FnTraps.j0 k bt256.1 bt256.2 bt262.1 t266 true))))))) = some true := h
  clear h
  replace H := Option.bind_eq_some_iff.mp H
  obtain ⟨t255, A20, H⟩ := H
  replace H : (if t255 = true then (some true) else ((spec_DrawPlanes.f k l0).bind fun bt256 => ((impl_TrapBits.f k bt256.1 bt256.2).bind fun bt262 => ((impl_SpreadBits.f k bt256.1).bind fun t266 => (if bt262.2 = true then (if (bt262.1.length : Int) = (bt256.1.length : Int) then (if (t266.length : Int) = (bt256.1.length : Int) then ((impl_BitsOk.f k bt262.1).bind fun t269 => (if t269 = true then ((spec_BitsOk.f k bt262.1).bind fun t270 => (if t270 = true then ((spec_BitsOk.f k t266).bind fun t271 => (laws_FnTraps.j0 k bt256.1 bt256.2 bt262.1 t266 (!t271))) else (laws_FnTraps.j0 k bt256.1 bt256.2 bt262.1 t266 true))) else (laws_FnTraps.j0 k bt256.1 bt256.2 bt262.1 t266 true))) else (laws_FnTraps.j0 k bt256.1 bt256.2 bt262.1 t266 true)) else (laws_FnTraps.j0 k bt256.1 bt256.2 bt262.1 t266 true)) else (laws_FnTraps.j0 k bt256.1 bt256.2 bt262.1 t266 true)))))) = some true := H
  have A2 := Aside0.mk A20
  clear A20
  by_cases c3 : t255 = true
  · subst c3
    have H1 : (some true) = some true := by rw [if_pos rfl] at H; first | done | exact H
    clear H
    have H := H1
    clear H1
    have HRT := Option.some.inj H; clear H
    go_enter Try.func4, Try.ntmps4
    go_wp2_with (first | ((with_reducible refine gate_callee (f := 11) rfl ?_); refine goesL_ (some 12) rfl rfl Try.func11 (by kernel_rfl) rfl #[.slice A0 l0.length c0] rfl (by (try simp only [List.map_toArray, List.map_cons, List.map_nil]); first | done | rfl | (simp only [List.length_drop, List.length_take]; rfl)) ?_; (with_reducible refine (laws_big.calls _ _ l0 true _ ?side1 ?side2 A2.out).mono ?_); (case side1 => repeat (first | exact HR0.out | (with_reducible refine Kd.C_alloc ?_ _) | (with_reducible refine Kd.C_drewN ?_ _) | (with_reducible refine Kd.C_drew ?_))); (case side2 => exact HC0.out); rintro e w' ⟨rfl, ⟨nd, rfl⟩⟩; refine ⟨_, rfl, ?_⟩))
    go_ret
    exact ⟨by first | rfl | (simpa using HRT) | (simp only [Bool.and_eq_true, beq_iff_eq] at HRT; simp [HRT]) | (simp [errW_none, errW_some] <;> rfl) | (simp [*, errW_none, errW_some] <;> rfl), by repeat (first | (with_reducible first | exact HB.out | apply below_alloc | apply pw_below_drewN | apply below_drew1) | exact HB.out)⟩
  · replace c3 := Bool.eq_false_iff.mpr c3
    subst c3
    have H1 : ((spec_DrawPlanes.f k l0).bind fun bt256 => ((impl_TrapBits.f k bt256.1 bt256.2).bind fun bt262 => ((impl_SpreadBits.f k bt256.1).bind fun t266 => (if bt262.2 = true then (if (bt262.1.length : Int) = (bt256.1.length : Int) then (if (t266.length : Int) = (bt256.1.length : Int) then ((impl_BitsOk.f k bt262.1).bind fun t269 => (if t269 = true then ((spec_BitsOk.f k bt262.1).bind fun t270 => (if t270 = true then ((spec_BitsOk.f k t266).bind fun t271 => (laws_FnTraps.j0 k bt256.1 bt256.2 bt262.1 t266 (!t271))) else (laws_FnTraps.j0 k bt256.1 bt256.2 bt262.1 t266 true))) else (laws_FnTraps.j0 k bt256.1 bt256.2 bt262.1 t266 true))) else (laws_FnTraps.j0 k bt256.1 bt256.2 bt262.1 t266 true)) else (laws_FnTraps.j0 k bt256.1 bt256.2 bt262.1 t266 true)) else (laws_FnTraps.j0 k bt256.1 bt256.2 bt262.1 t266 true))))) = some true := by rw [if_neg (show ¬ (false = true) by decide)] at H; first | done | exact H
    clear H
    have H := H1
    clear H1
    replace H := Option.bind_eq_some_iff.mp H
    obtain ⟨⟨t256, t257⟩, A40, H⟩ := H
    replace H : ((impl_TrapBits.f k t256 t257).bind fun bt262 => ((impl_SpreadBits.f k t256).bind fun t266 => (if bt262.2 = true then (if (bt262.1.length : Int) = (t256.length : Int) then (if (t266.length : Int) = (t256.length : Int) then ((impl_BitsOk.f k bt262.1).bind fun t269 => (if t269 = true then ((spec_BitsOk.f k bt262.1).bind fun t270 => (if t270 = true then ((spec_BitsOk.f k t266).bind fun t271 => (laws_FnTraps.j0 k t256 t257 bt262.1 t266 (!t271))) else (laws_FnTraps.j0 k t256 t257 bt262.1 t266 true))) else (laws_FnTraps.j0 k t256 t257 bt262.1 t266 true))) else (laws_FnTraps.j0 k t256 t257 bt262.1 t266 true)) else (laws_FnTraps.j0 k t256 t257 bt262.1 t266 true)) else (laws_FnTraps.j0 k t256 t257 bt262.1 t266 true)))) = some true := H
    have A4 := Aside0.mk A40
    clear A40
    replace H := Option.bind_eq_some_iff.mp H
    obtain ⟨⟨t262, t263⟩, A50, H⟩ := H
    replace H : ((impl_SpreadBits.f k t256).bind fun t266 => (if t263 = true then (if (t262.length : Int) = (t256.length : Int) then (if (t266.length : Int) = (t256.length : Int) then ((impl_BitsOk.f k t262).bind fun t269 => (if t269 = true then ((spec_BitsOk.f k t262).bind fun t270 => (if t270 = true then ((spec_BitsOk.f k t266).bind fun t271 => (laws_FnTraps.j0 k t256 t257 t262 t266 (!t271))) else (laws_FnTraps.j0 k t256 t257 t262 t266 true))) else (laws_FnTraps.j0 k t256 t257 t262 t266 true))) else (laws_FnTraps.j0 k t256 t257 t262 t266 true)) else (laws_FnTraps.j0 k t256 t257 t262 t266 true)) else (laws_FnTraps.j0 k t256 t257 t262 t266 true))) = some true := H
    have A5 := Aside0.mk A50
    clear A50
    replace H := Option.bind_eq_some_iff.mp H
    obtain ⟨t266, A60, H⟩ := H
    replace H : (if t263 = true then (if (t262.length : Int) = (t256.length : Int) then (if (t266.length : Int) = (t256.length : Int) then ((impl_BitsOk.f k t262).bind fun t269 => (if t269 = true then ((spec_BitsOk.f k t262).bind fun t270 => (if t270 = true then ((spec_BitsOk.f k t266).bind fun t271 => (laws_FnTraps.j0 k t256 t257 t262 t266 (!t271))) else (laws_FnTraps.j0 k t256 t257 t262 t266 true))) else (laws_FnTraps.j0 k t256 t257 t262 t266 true))) else (laws_FnTraps.j0 k t256 t257 t262 t266 true)) else (laws_FnTraps.j0 k t256 t257 t262 t266 true)) else (laws_FnTraps.j0 k t256 t257 t262 t266 true)) = some true := H
    have A6 := Aside0.mk A60
    clear A60
    have HC7 := Aside0.mk H
    clear H
    go_enter Try.func4, Try.ntmps4
    go_upto_region 6 with (first | ((with_reducible refine gate_callee (f := 11) rfl ?_); refine goesL_ (some 12) rfl rfl Try.func11 (by kernel_rfl) rfl #[.slice A0 l0.length c0] rfl (by (try simp only [List.map_toArray, List.map_cons, List.map_nil]); first | done | rfl | (simp only [List.length_drop, List.length_take]; rfl)) ?_; (with_reducible refine (laws_big.calls _ _ l0 false _ ?side1 ?side2 A2.out).mono ?_); (case side1 => repeat (first | exact HR0.out | (with_reducible refine Kd.C_alloc ?_ _) | (with_reducible refine Kd.C_drewN ?_ _) | (with_reducible refine Kd.C_drew ?_))); (case side2 => exact HC0.out); rintro e w' ⟨rfl, ⟨nd, rfl⟩⟩; refine ⟨_, rfl, ?_⟩) | ((with_reducible refine gate_callee (f := 12) rfl ?_); refine goesL_ (some 15) rfl rfl Try.func12 (by kernel_rfl) rfl #[.slice A0 l0.length c0] rfl (by (try simp only [List.map_toArray, List.map_cons, List.map_nil]); first | done | rfl | (simp only [List.length_drop, List.length_take]; rfl)) ?_; (with_reducible refine (spec_DrawPlanes.calls k _ _ l0 t256 t257 _ ?side1 ?side2 A4.out).mono ?_); (case side1 => repeat (first | exact HR0.out | (with_reducible refine Kd.C_alloc ?_ _) | (with_reducible refine Kd.C_drewN ?_ _) | (with_reducible refine Kd.C_drew ?_))); (case side2 => exact HC0.out); rintro e w8 ⟨v258, v260, rfl, ho0, ho1, hb⟩; refine ⟨_, rfl, ?_⟩; have n0_ := Aside0.mk (Kd.S_lower ho0 (below_size (by repeat (first | (with_reducible first | exact HB.out | apply below_alloc | apply pw_below_drewN | apply below_drew1) | exact HB.out)))); have n1_ := Aside0.mk (Kd.S_lower ho1 (below_size (by repeat (first | (with_reducible first | exact HB.out | apply below_alloc | apply pw_below_drewN | apply below_drew1) | exact HB.out)))); have n2_ := Aside0.mk (below_step (by repeat (first | (with_reducible first | exact HB.out | apply below_alloc | apply pw_below_drewN | apply below_drew1) | exact HB.out)) hb); clear HB; have HO259 := n0_; have HO261 := n1_; have HB := n2_; clear n0_ n1_ n2_; (try clear hb); (try clear hb2); (try clear hk); (try clear hi); (try clear ho0); (try clear ho1); obtain ⟨Ao9, co9, eo9⟩ := Kd.S_slice HO259.out; subst eo9; obtain ⟨Ao10, co10, eo10⟩ := Kd.S_slice HO261.out; subst eo10) | ((with_reducible refine gate_callee (f := 17) rfl ?_); refine goesL_ (some 21) rfl rfl Try.func17 (by kernel_rfl) rfl #[.slice Ao9 t256.length co9, .slice Ao10 t257.length co10] rfl (by (try simp only [List.map_toArray, List.map_cons, List.map_nil]); first | done | rfl | (simp only [List.length_drop, List.length_take]; rfl)) ?_; (with_reducible refine (impl_TrapBits.calls k _ _ t256 _ _ t257 t262 t263 _ ?side1 ?side2 ?side3 ?side4 A5.out).mono ?_); (case side1 => repeat (first | exact (Kd.S_reads' HO259.out).2.2 | (with_reducible refine Kd.C_alloc ?_ _) | (with_reducible refine Kd.C_drewN ?_ _) | (with_reducible refine Kd.C_drew ?_))); (case side2 => exact (Kd.S_reads' HO259.out).2.1); (case side3 => repeat (first | exact (Kd.S_reads' HO261.out).2.2 | (with_reducible refine Kd.C_alloc ?_ _) | (with_reducible refine Kd.C_drewN ?_ _) | (with_reducible refine Kd.C_drew ?_))); (case side4 => exact (Kd.S_reads' HO261.out).2.1); rintro e w11 ⟨v264, rfl, ho0, hb⟩; refine ⟨_, rfl, ?_⟩; have n0_ := Aside0.mk (Kd.S_elder' (by (with_reducible repeat (first | apply Kd.S_alloc | apply Kd.S_drewN | apply Kd.S_drew)); exact HO259.out) (Kd.S_base ho0) hb); have n1_ := Aside0.mk (Kd.S_elder' (by (with_reducible repeat (first | apply Kd.S_alloc | apply Kd.S_drewN | apply Kd.S_drew)); exact HO261.out) (Kd.S_base ho0) hb); have n2_ := Aside0.mk (Kd.S_lower (Kd.S_new' (Kd.S_new' ho0 (Kd.S_lt (by (with_reducible repeat (first | apply Kd.S_alloc | apply Kd.S_drewN | apply Kd.S_drew)); exact HO259.out))) (Kd.S_lt (by (with_reducible repeat (first | apply Kd.S_alloc | apply Kd.S_drewN | apply Kd.S_drew)); exact HO261.out))) (below_size (by repeat (first | (with_reducible first | exact HB.out | apply below_alloc | apply pw_below_drewN | apply below_drew1) | exact HB.out)))); have n3_ := Aside0.mk (below_step (by repeat (first | (with_reducible first | exact HB.out | apply below_alloc | apply pw_below_drewN | apply below_drew1) | exact HB.out)) hb); clear HO259; clear HO261; clear HB; have HO259 := n0_; have HO261 := n1_; have HO265 := n2_; have HB := n3_; clear n0_ n1_ n2_ n3_; (try clear hb); (try clear hb2); (try clear hk); (try clear hi); (try clear ho0)) | ((with_reducible refine gate_callee (f := 18) rfl ?_); refine goesL_ (some 25) rfl rfl Try.func18 (by kernel_rfl) rfl #[.slice Ao9 t256.length co9] rfl (by (try simp only [List.map_toArray, List.map_cons, List.map_nil]); first | done | rfl | (simp only [List.length_drop, List.length_take]; rfl)) ?_; (with_reducible refine (impl_SpreadBits.calls k _ _ t256 t266 _ ?side1 ?side2 A6.out).mono ?_); (case side1 => repeat (first | exact (Kd.S_reads' HO259.out).2.2 | (with_reducible refine Kd.C_alloc ?_ _) | (with_reducible refine Kd.C_drewN ?_ _) | (with_reducible refine Kd.C_drew ?_))); (case side2 => exact (Kd.S_reads' HO259.out).2.1); rintro e w12 ⟨v267, rfl, ho0, hb⟩; refine ⟨_, rfl, ?_⟩; have n0_ := Aside0.mk (Kd.S_elder' (by (with_reducible repeat (first | apply Kd.S_alloc | apply Kd.S_drewN | apply Kd.S_drew)); exact HO259.out) (Kd.S_base ho0) hb); have n1_ := Aside0.mk (Kd.S_elder' (by (with_reducible repeat (first | apply Kd.S_alloc | apply Kd.S_drewN | apply Kd.S_drew)); exact HO261.out) (Kd.S_base ho0) hb); have n2_ := Aside0.mk (Kd.S_elder' (by (with_reducible repeat (first | apply Kd.S_alloc | apply Kd.S_drewN | apply Kd.S_drew)); exact HO265.out) (Kd.S_base ho0) hb); have n3_ := Aside0.mk (Kd.S_lower (Kd.S_new' (Kd.S_new' (Kd.S_new' ho0 (Kd.S_lt (by (with_reducible repeat (first | apply Kd.S_alloc | apply Kd.S_drewN | apply Kd.S_drew)); exact HO259.out))) (Kd.S_lt (by (with_reducible repeat (first | apply Kd.S_alloc | apply Kd.S_drewN | apply Kd.S_drew)); exact HO261.out))) (Kd.S_lt (by (with_reducible repeat (first | apply Kd.S_alloc | apply Kd.S_drewN | apply Kd.S_drew)); exact HO265.out))) (below_size (by repeat (first | (with_reducible first | exact HB.out | apply below_alloc | apply pw_below_drewN | apply below_drew1) | exact HB.out)))); have n4_ := Aside0.mk (below_step (by repeat (first | (with_reducible first | exact HB.out | apply below_alloc | apply pw_below_drewN | apply below_drew1) | exact HB.out)) hb); clear HO259; clear HO261; clear HO265; clear HB; have HO259 := n0_; have HO261 := n1_; have HO265 := n2_; have HO268 := n3_; have HB := n4_; clear n0_ n1_ n2_ n3_ n4_; (try clear hb); (try clear hb2); (try clear hk); (try clear hi); (try clear ho0)))
    (try simp only [Act.put, List.setIfInBounds_toArray, List.set_cons_zero, List.set_cons_succ])
    go_cut [56] (fun v56 wc => ∃ (kq : Nat) (x56_6 : Bool), v56 = .bool x56_6 ∧ Aside0 (laws_FnTraps.j0 kq t256 t257 t262 t266 x56_6 = some true) ∧ Aside0 (kq ≤ k) ∧ Aside0 (Kd.S (Kd.slice 3 (Kd.int .i64)) 33 wc w.heap.size (fun k_ => some k_ ≠ ((.slice Ao10 t257.length co10) : Value).ownBlock ∧ some k_ ≠ (v264 : Value).ownBlock ∧ some k_ ≠ (v267 : Value).ownBlock) (.slice Ao9 t256.length co9) t256) ∧ Aside0 (Kd.S (Kd.slice 3 (Kd.int .i64)) 33 wc w.heap.size (fun k_ => some k_ ≠ ((.slice Ao9 t256.length co9) : Value).ownBlock ∧ some k_ ≠ (v264 : Value).ownBlock ∧ some k_ ≠ (v267 : Value).ownBlock) (.slice Ao10 t257.length co10) t257) ∧ Aside0 (Kd.S (Kd.slice 3 (Kd.int .i64)) 33 wc w.heap.size (fun k_ => some k_ ≠ ((.slice Ao9 t256.length co9) : Value).ownBlock ∧ some k_ ≠ ((.slice Ao10 t257.length co10) : Value).ownBlock ∧ some k_ ≠ (v267 : Value).ownBlock) v264 t262) ∧ Aside0 (Kd.S (Kd.slice 3 (Kd.int .i64)) 33 wc w.heap.size (fun k_ => some k_ ≠ ((.slice Ao9 t256.length co9) : Value).ownBlock ∧ some k_ ≠ ((.slice Ao10 t257.length co10) : Value).ownBlock ∧ some k_ ≠ (v264 : Value).ownBlock) v267 t266) ∧ Aside0 (Below w.heap.size w wc))
    case first =>
      have H := HC7.out
      clear HC7
      by_cases c13 : t263 = true
      · subst c13
        have H1 : (if (t262.length : Int) = (t256.length : Int) then (if (t266.length : Int) = (t256.length : Int) then ((impl_BitsOk.f k t262).bind fun t269 => (if t269 = true then ((spec_BitsOk.f k t262).bind fun t270 => (if t270 = true then ((spec_BitsOk.f k t266).bind fun t271 => (laws_FnTraps.j0 k t256 t257 t262 t266 (!t271))) else (laws_FnTraps.j0 k t256 t257 t262 t266 true))) else (laws_FnTraps.j0 k t256 t257 t262 t266 true))) else (laws_FnTraps.j0 k t256 t257 t262 t266 true)) else (laws_FnTraps.j0 k t256 t257 t262 t266 true)) = some true := by rw [if_pos rfl] at H; first | done | exact H
        clear H
        have H := H1
        clear H1
        by_cases c14 : (t262.length : Int) = (t256.length : Int)
        · rw [if_pos c14] at H
          have c14b0 : ((t262.length : Int) == (t256.length : Int)) = true := beq_iff_eq.mpr c14
          have c14b1 : ((t262.length : Int) != (t256.length : Int)) = false := bne_eq_false_iff_eq.mpr c14
          have c14b2 : (t262.length == t256.length) = true := by first | simpa using c14 | (simp at c14 ⊢; omega)
          clear c14
          (first | rw [c14b0] | (simp only [i64_w, i32_w]; rw [c14b0]) | skip)
          by_cases c15 : (t266.length : Int) = (t256.length : Int)
          · rw [if_pos c15] at H
            have c15b0 : ((t266.length : Int) == (t256.length : Int)) = true := beq_iff_eq.mpr c15
            have c15b1 : ((t266.length : Int) != (t256.length : Int)) = false := bne_eq_false_iff_eq.mpr c15
            have c15b2 : (t266.length == t256.length) = true := by first | simpa using c15 | (simp at c15 ⊢; omega)
            clear c15
            replace H := Option.bind_eq_some_iff.mp H
            obtain ⟨t269, A160, H⟩ := H
            replace H : (if t269 = true then ((spec_BitsOk.f k t262).bind fun t270 => (if t270 = true then ((spec_BitsOk.f k t266).bind fun t271 => (laws_FnTraps.j0 k t256 t257 t262 t266 (!t271))) else (laws_FnTraps.j0 k t256 t257 t262 t266 true))) else (laws_FnTraps.j0 k t256 t257 t262 t266 true)) = some true := H
            have A16 := Aside0.mk A160
            clear A160
            by_cases c17 : t269 = true
            · subst c17
              have H1 : ((spec_BitsOk.f k t262).bind fun t270 => (if t270 = true then ((spec_BitsOk.f k t266).bind fun t271 => (laws_FnTraps.j0 k t256 t257 t262 t266 (!t271))) else (laws_FnTraps.j0 k t256 t257 t262 t266 true))) = some true := by rw [if_pos rfl] at H; first | done | exact H
              clear H
              have H := H1
              clear H1
              replace H := Option.bind_eq_some_iff.mp H
              obtain ⟨t270, A180, H⟩ := H
              replace H : (if t270 = true then ((spec_BitsOk.f k t266).bind fun t271 => (laws_FnTraps.j0 k t256 t257 t262 t266 (!t271))) else (laws_FnTraps.j0 k t256 t257 t262 t266 true)) = some true := H
              have A18 := Aside0.mk A180
              clear A180
              by_cases c19 : t270 = true
              · subst c19
                have H1 : ((spec_BitsOk.f k t266).bind fun t271 => (laws_FnTraps.j0 k t256 t257 t262 t266 (!t271))) = some true := by rw [if_pos rfl] at H; first | done | exact H
                clear H
                have H := H1
                clear H1
                replace H := Option.bind_eq_some_iff.mp H
                obtain ⟨t271, A200, H⟩ := H
                replace H : (laws_FnTraps.j0 k t256 t257 t262 t266 (!t271)) = some true := H
                have A20 := Aside0.mk A200
                clear A200
                have H' := Aside0.mk H
                clear H
                obtain ⟨Ao21, co21, eo21⟩ := Kd.S_slice HO265.out
                subst eo21
                obtain ⟨Ao22, co22, eo22⟩ := Kd.S_slice HO268.out
                subst eo22
                go_wp2_with (first | (go_at_call 19; (with_reducible refine (impl_BitsOk.calls k _ _ t262 true _ ?side1 ?side2 A16.out).mono ?_); (case side1 => repeat (first | exact (Kd.S_reads' HO265.out).2.2 | (with_reducible refine Kd.C_alloc ?_ _) | (with_reducible refine Kd.C_drewN ?_ _) | (with_reducible refine Kd.C_drew ?_))); (case side2 => exact (Kd.S_reads' HO265.out).2.1); rintro e w' ⟨rfl, ⟨nd, rfl⟩⟩) | (go_at_call 20; (with_reducible refine (spec_BitsOk.calls k _ _ t262 true _ ?side1 ?side2 A18.out).mono ?_); (case side1 => repeat (first | exact (Kd.S_reads' HO265.out).2.2 | (with_reducible refine Kd.C_alloc ?_ _) | (with_reducible refine Kd.C_drewN ?_ _) | (with_reducible refine Kd.C_drew ?_))); (case side2 => exact (Kd.S_reads' HO265.out).2.1); rintro e w' ⟨rfl, ⟨nd, rfl⟩⟩) | (go_at_call 20; (with_reducible refine (spec_BitsOk.calls k _ _ t266 t271 _ ?side1 ?side2 A20.out).mono ?_); (case side1 => repeat (first | exact (Kd.S_reads' HO268.out).2.2 | (with_reducible refine Kd.C_alloc ?_ _) | (with_reducible refine Kd.C_drewN ?_ _) | (with_reducible refine Kd.C_drew ?_))); (case side2 => exact (Kd.S_reads' HO268.out).2.1); rintro e w' ⟨rfl, ⟨nd, rfl⟩⟩))
                go_meet
                case rel => exact ⟨_, (!t271), (by first | rfl | (simp; done) | (simp [*]; done)), H', ⟨by first | omega | exact Nat.le_refl _⟩, ⟨by (with_reducible repeat (first | apply Kd.S_alloc | apply Kd.S_drewN | apply Kd.S_drew)); exact Kd.S_mono HO259.out (fun _ hk => ⟨hk.1.1, ⟨hk.1.2, hk.2⟩⟩)⟩, ⟨by (with_reducible repeat (first | apply Kd.S_alloc | apply Kd.S_drewN | apply Kd.S_drew)); exact Kd.S_mono HO261.out (fun _ hk => ⟨hk.1.1, ⟨hk.1.2, hk.2⟩⟩)⟩, ⟨by (with_reducible repeat (first | apply Kd.S_alloc | apply Kd.S_drewN | apply Kd.S_drew)); exact Kd.S_mono HO265.out (fun _ hk => ⟨hk.1.1.2, ⟨hk.1.2, hk.2⟩⟩)⟩, ⟨by (with_reducible repeat (first | apply Kd.S_alloc | apply Kd.S_drewN | apply Kd.S_drew)); exact Kd.S_mono HO268.out (fun _ hk => ⟨hk.1.1.2, ⟨hk.1.2, hk.2⟩⟩)⟩, ⟨by repeat (first | (with_reducible first | exact HB.out | apply below_alloc | apply pw_below_drewN | apply below_drew1) | exact HB.out)⟩⟩
              · replace c19 := Bool.eq_false_iff.mpr c19
                subst c19
                have H1 : (laws_FnTraps.j0 k t256 t257 t262 t266 true) = some true := by rw [if_neg (show ¬ (false = true) by decide)] at H; first | done | exact H
                clear H
                have H := H1
                clear H1
                have H' := Aside0.mk H
                clear H
                obtain ⟨Ao23, co23, eo23⟩ := Kd.S_slice HO265.out
                subst eo23
                obtain ⟨Ao24, co24, eo24⟩ := Kd.S_slice HO268.out
                subst eo24
                go_wp2_with (first | (go_at_call 19; (with_reducible refine (impl_BitsOk.calls k _ _ t262 true _ ?side1 ?side2 A16.out).mono ?_); (case side1 => repeat (first | exact (Kd.S_reads' HO265.out).2.2 | (with_reducible refine Kd.C_alloc ?_ _) | (with_reducible refine Kd.C_drewN ?_ _) | (with_reducible refine Kd.C_drew ?_))); (case side2 => exact (Kd.S_reads' HO265.out).2.1); rintro e w' ⟨rfl, ⟨nd, rfl⟩⟩) | (go_at_call 20; (with_reducible refine (spec_BitsOk.calls k _ _ t262 false _ ?side1 ?side2 A18.out).mono ?_); (case side1 => repeat (first | exact (Kd.S_reads' HO265.out).2.2 | (with_reducible refine Kd.C_alloc ?_ _) | (with_reducible refine Kd.C_drewN ?_ _) | (with_reducible refine Kd.C_drew ?_))); (case side2 => exact (Kd.S_reads' HO265.out).2.1); rintro e w' ⟨rfl, ⟨nd, rfl⟩⟩))
                go_meet
                case rel => exact ⟨_, (true), (by first | rfl | (simp; done) | (simp [*]; done)), H', ⟨by first | omega | exact Nat.le_refl _⟩, ⟨by (with_reducible repeat (first | apply Kd.S_alloc | apply Kd.S_drewN | apply Kd.S_drew)); exact Kd.S_mono HO259.out (fun _ hk => ⟨hk.1.1, ⟨hk.1.2, hk.2⟩⟩)⟩, ⟨by (with_reducible repeat (first | apply Kd.S_alloc | apply Kd.S_drewN | apply Kd.S_drew)); exact Kd.S_mono HO261.out (fun _ hk => ⟨hk.1.1, ⟨hk.1.2, hk.2⟩⟩)⟩, ⟨by (with_reducible repeat (first | apply Kd.S_alloc | apply Kd.S_drewN | apply Kd.S_drew)); exact Kd.S_mono HO265.out (fun _ hk => ⟨hk.1.1.2, ⟨hk.1.2, hk.2⟩⟩)⟩, ⟨by (with_reducible repeat (first | apply Kd.S_alloc | apply Kd.S_drewN | apply Kd.S_drew)); exact Kd.S_mono HO268.out (fun _ hk => ⟨hk.1.1.2, ⟨hk.1.2, hk.2⟩⟩)⟩, ⟨by repeat (first | (with_reducible first | exact HB.out | apply below_alloc | apply pw_below_drewN | apply below_drew1) | exact HB.out)⟩⟩
            · replace c17 := Bool.eq_false_iff.mpr c17
              subst c17
              have H1 : (laws_FnTraps.j0 k t256 t257 t262 t266 true) = some true := by rw [if_neg (show ¬ (false = true) by decide)] at H; first | done | exact H
              clear H
              have H := H1
              clear H1
              have H' := Aside0.mk H
              clear H
              obtain ⟨Ao25, co25, eo25⟩ := Kd.S_slice HO265.out
              subst eo25
              obtain ⟨Ao26, co26, eo26⟩ := Kd.S_slice HO268.out
              subst eo26
              go_wp2_with (first | (go_at_call 19; (with_reducible refine (impl_BitsOk.calls k _ _ t262 false _ ?side1 ?side2 A16.out).mono ?_); (case side1 => repeat (first | exact (Kd.S_reads' HO265.out).2.2 | (with_reducible refine Kd.C_alloc ?_ _) | (with_reducible refine Kd.C_drewN ?_ _) | (with_reducible refine Kd.C_drew ?_))); (case side2 => exact (Kd.S_reads' HO265.out).2.1); rintro e w' ⟨rfl, ⟨nd, rfl⟩⟩))
              go_meet
              case rel => exact ⟨_, (true), (by first | rfl | (simp; done) | (simp [*]; done)), H', ⟨by first | omega | exact Nat.le_refl _⟩, ⟨by (with_reducible repeat (first | apply Kd.S_alloc | apply Kd.S_drewN | apply Kd.S_drew)); exact Kd.S_mono HO259.out (fun _ hk => ⟨hk.1.1, ⟨hk.1.2, hk.2⟩⟩)⟩, ⟨by (with_reducible repeat (first | apply Kd.S_alloc | apply Kd.S_drewN | apply Kd.S_drew)); exact Kd.S_mono HO261.out (fun _ hk => ⟨hk.1.1, ⟨hk.1.2, hk.2⟩⟩)⟩, ⟨by (with_reducible repeat (first | apply Kd.S_alloc | apply Kd.S_drewN | apply Kd.S_drew)); exact Kd.S_mono HO265.out (fun _ hk => ⟨hk.1.1.2, ⟨hk.1.2, hk.2⟩⟩)⟩, ⟨by (with_reducible repeat (first | apply Kd.S_alloc | apply Kd.S_drewN | apply Kd.S_drew)); exact Kd.S_mono HO268.out (fun _ hk => ⟨hk.1.1.2, ⟨hk.1.2, hk.2⟩⟩)⟩, ⟨by repeat (first | (with_reducible first | exact HB.out | apply below_alloc | apply pw_below_drewN | apply below_drew1) | exact HB.out)⟩⟩
          · rw [if_neg c15] at H
            have c15b0 : ((t266.length : Int) == (t256.length : Int)) = false := beq_eq_false_iff_ne.mpr c15
            have c15b1 : ((t266.length : Int) != (t256.length : Int)) = true := bne_iff_ne.mpr c15
            have c15b2 : (t266.length == t256.length) = false := by first | simpa using c15 | (simp at c15 ⊢; omega)
            have H' := Aside0.mk H
            clear H
            obtain ⟨Ao27, co27, eo27⟩ := Kd.S_slice HO265.out
            subst eo27
            obtain ⟨Ao28, co28, eo28⟩ := Kd.S_slice HO268.out
            subst eo28
            go_wp2
            go_meet
            case rel => exact ⟨_, (true), (by first | rfl | (simp; done) | (simp [*]; done)), H', ⟨by first | omega | exact Nat.le_refl _⟩, ⟨by (with_reducible repeat (first | apply Kd.S_alloc | apply Kd.S_drewN | apply Kd.S_drew)); exact Kd.S_mono HO259.out (fun _ hk => ⟨hk.1.1, ⟨hk.1.2, hk.2⟩⟩)⟩, ⟨by (with_reducible repeat (first | apply Kd.S_alloc | apply Kd.S_drewN | apply Kd.S_drew)); exact Kd.S_mono HO261.out (fun _ hk => ⟨hk.1.1, ⟨hk.1.2, hk.2⟩⟩)⟩, ⟨by (with_reducible repeat (first | apply Kd.S_alloc | apply Kd.S_drewN | apply Kd.S_drew)); exact Kd.S_mono HO265.out (fun _ hk => ⟨hk.1.1.2, ⟨hk.1.2, hk.2⟩⟩)⟩, ⟨by (with_reducible repeat (first | apply Kd.S_alloc | apply Kd.S_drewN | apply Kd.S_drew)); exact Kd.S_mono HO268.out (fun _ hk => ⟨hk.1.1.2, ⟨hk.1.2, hk.2⟩⟩)⟩, ⟨by repeat (first | (with_reducible first | exact HB.out | apply below_alloc | apply pw_below_drewN | apply below_drew1) | exact HB.out)⟩⟩
        · rw [if_neg c14] at H
          have c14b0 : ((t262.length : Int) == (t256.length : Int)) = false := beq_eq_false_iff_ne.mpr c14
          have c14b1 : ((t262.length : Int) != (t256.length : Int)) = true := bne_iff_ne.mpr c14
          have c14b2 : (t262.length == t256.length) = false := by first | simpa using c14 | (simp at c14 ⊢; omega)
          (first | rw [c14b0] | (simp only [i64_w, i32_w]; rw [c14b0]) | skip)
          have H' := Aside0.mk H
          clear H
          obtain ⟨Ao29, co29, eo29⟩ := Kd.S_slice HO265.out
          subst eo29
          go_wp2
          go_meet
          case rel => exact ⟨_, (true), (by first | rfl | (simp; done) | (simp [*]; done)), H', ⟨by first | omega | exact Nat.le_refl _⟩, ⟨by (with_reducible repeat (first | apply Kd.S_alloc | apply Kd.S_drewN | apply Kd.S_drew)); exact Kd.S_mono HO259.out (fun _ hk => ⟨hk.1.1, ⟨hk.1.2, hk.2⟩⟩)⟩, ⟨by (with_reducible repeat (first | apply Kd.S_alloc | apply Kd.S_drewN | apply Kd.S_drew)); exact Kd.S_mono HO261.out (fun _ hk => ⟨hk.1.1, ⟨hk.1.2, hk.2⟩⟩)⟩, ⟨by (with_reducible repeat (first | apply Kd.S_alloc | apply Kd.S_drewN | apply Kd.S_drew)); exact Kd.S_mono HO265.out (fun _ hk => ⟨hk.1.1.2, ⟨hk.1.2, hk.2⟩⟩)⟩, ⟨by (with_reducible repeat (first | apply Kd.S_alloc | apply Kd.S_drewN | apply Kd.S_drew)); exact Kd.S_mono HO268.out (fun _ hk => ⟨hk.1.1.2, ⟨hk.1.2, hk.2⟩⟩)⟩, ⟨by repeat (first | (with_reducible first | exact HB.out | apply below_alloc | apply pw_below_drewN | apply below_drew1) | exact HB.out)⟩⟩
      · replace c13 := Bool.eq_false_iff.mpr c13
        subst c13
        have H1 : (laws_FnTraps.j0 k t256 t257 t262 t266 true) = some true := by rw [if_neg (show ¬ (false = true) by decide)] at H; first | done | exact H
        clear H
        have H := H1
        clear H1
        have H' := Aside0.mk H
        clear H
        go_wp2
        go_meet
        case rel => exact ⟨_, (true), (by first | rfl | (simp; done) | (simp [*]; done)), H', ⟨by first | omega | exact Nat.le_refl _⟩, ⟨by (with_reducible repeat (first | apply Kd.S_alloc | apply Kd.S_drewN | apply Kd.S_drew)); exact Kd.S_mono HO259.out (fun _ hk => ⟨hk.1.1, ⟨hk.1.2, hk.2⟩⟩)⟩, ⟨by (with_reducible repeat (first | apply Kd.S_alloc | apply Kd.S_drewN | apply Kd.S_drew)); exact Kd.S_mono HO261.out (fun _ hk => ⟨hk.1.1, ⟨hk.1.2, hk.2⟩⟩)⟩, ⟨by (with_reducible repeat (first | apply Kd.S_alloc | apply Kd.S_drewN | apply Kd.S_drew)); exact Kd.S_mono HO265.out (fun _ hk => ⟨hk.1.1.2, ⟨hk.1.2, hk.2⟩⟩)⟩, ⟨by (with_reducible repeat (first | apply Kd.S_alloc | apply Kd.S_drewN | apply Kd.S_drew)); exact Kd.S_mono HO268.out (fun _ hk => ⟨hk.1.1.2, ⟨hk.1.2, hk.2⟩⟩)⟩, ⟨by repeat (first | (with_reducible first | exact HB.out | apply below_alloc | apply pw_below_drewN | apply below_drew1) | exact HB.out)⟩⟩
    case rest =>
      clear HC7
      try clear c1
      try clear p2
      try clear c3
      try clear c4
      try clear c11
      try clear c12
      try clear c13
      try clear c14
      try clear c14b0
      try clear c14b1
      try clear c14b2
      try clear c15
      try clear c15b0
      try clear c15b1
      try clear c15b2
      try clear c17
      try clear c18
      try clear c19
      obtain ⟨kq, x56_6, rfl, HA, HJ6, HO_3, HO_4, HO_5, HO_7, HB⟩ := hcut
      cases kq with
      | zero => exact absurd HA.out (by simp [laws_FnTraps.j0])
      | succ kj6 =>
        have H := HA.out
        clear HA
        simp only [laws_FnTraps.j0] at H
        by_cases c30 : x56_6 = true
        · subst c30
          have H1 : (some false) = some true := by rw [if_pos rfl] at H; first | done | exact H
          clear H
          have H := H1
          clear H1
          exact absurd H (by simp)
        · replace c30 := Bool.eq_false_iff.mpr c30
          subst c30
          have H1 : (laws_FnTraps.l0 kj6 t256 t257 t262 t266 0) = some true := by rw [if_neg (show ¬ (false = true) by decide)] at H; first | done | exact H
          clear H
          have H := H1
          clear H1
          have H' := Aside0.mk H
          clear H
          go_wp2
          go_loopg [8] kj6 (fun kq v8 w' => ∃ (x8_2 : Int), v8 = .int .i64 x8_2 ∧ Aside0 (laws_FnTraps.l0 kq t256 t257 t262 t266 x8_2 = some true) ∧ Aside0 (kq ≤ kj6) ∧ Aside0 (Kd.S (Kd.slice 3 (Kd.int .i64)) 33 w' w.heap.size (fun k_ => some k_ ≠ ((.slice Ao10 t257.length co10) : Value).ownBlock ∧ some k_ ≠ (v264 : Value).ownBlock ∧ some k_ ≠ (v267 : Value).ownBlock) (.slice Ao9 t256.length co9) t256) ∧ Aside0 (Kd.S (Kd.slice 3 (Kd.int .i64)) 33 w' w.heap.size (fun k_ => some k_ ≠ ((.slice Ao9 t256.length co9) : Value).ownBlock ∧ some k_ ≠ (v264 : Value).ownBlock ∧ some k_ ≠ (v267 : Value).ownBlock) (.slice Ao10 t257.length co10) t257) ∧ Aside0 (Kd.S (Kd.slice 3 (Kd.int .i64)) 33 w' w.heap.size (fun k_ => some k_ ≠ ((.slice Ao9 t256.length co9) : Value).ownBlock ∧ some k_ ≠ ((.slice Ao10 t257.length co10) : Value).ownBlock ∧ some k_ ≠ (v267 : Value).ownBlock) v264 t262) ∧ Aside0 (Kd.S (Kd.slice 3 (Kd.int .i64)) 33 w' w.heap.size (fun k_ => some k_ ≠ ((.slice Ao9 t256.length co9) : Value).ownBlock ∧ some k_ ≠ ((.slice Ao10 t257.length co10) : Value).ownBlock ∧ some k_ ≠ (v264 : Value).ownBlock) v267 t266) ∧ Aside0 (Below w.heap.size w w'))
          case atStart => exact ⟨(0), (by first | rfl | (simp; done) | (simp [*]; done)), H', ⟨Nat.le_refl _⟩, ⟨by (with_reducible repeat (first | apply Kd.S_alloc | apply Kd.S_drewN | apply Kd.S_drew)); exact HO_3.out⟩, ⟨by (with_reducible repeat (first | apply Kd.S_alloc | apply Kd.S_drewN | apply Kd.S_drew)); exact HO_4.out⟩, ⟨by (with_reducible repeat (first | apply Kd.S_alloc | apply Kd.S_drewN | apply Kd.S_drew)); exact HO_5.out⟩, ⟨by (with_reducible repeat (first | apply Kd.S_alloc | apply Kd.S_drewN | apply Kd.S_drew)); exact HO_7.out⟩, ⟨by repeat (first | (with_reducible first | exact HB.out | apply below_alloc | apply pw_below_drewN | apply below_drew1) | exact HB.out)⟩⟩
          case round =>
            clear H'
            try clear c1
            try clear p2
            try clear c3
            try clear c4
            try clear c11
            try clear c12
            try clear c13
            try clear c14
            try clear c14b0
            try clear c14b1
            try clear c14b2
            try clear c15
            try clear c15b0
            try clear c15b1
            try clear c15b2
            try clear c17
            try clear c18
            try clear c19
            try clear c30
            try clear p2
            obtain ⟨x8_2, rfl, HA, HK2, HO_3, HO_4, HO_5, HO_7, HB⟩ := hrel
            cases gk with
            | zero => exact absurd HA.out (by simp [laws_FnTraps.l0])
            | succ k2 =>
              have H := HA.out
              clear HA
              simp only [laws_FnTraps.l0] at H
              by_cases c31 : x8_2 < (t256.length : Int)
              · rw [if_pos c31] at H
                have c31b0 : decide (x8_2 < (t256.length : Int)) = true := decide_eq_true c31
                clear c31
                have H' := Aside0.mk H
                clear H
                go_wp2
                go_loopg [9] k2 (fun kq v9 w' => ∃ (x9_3 : Int), v9 = .int .i64 x9_3 ∧ Aside0 (laws_FnTraps.l1 kq t256 t257 t262 t266 x8_2 x9_3 = some true) ∧ Aside0 (kq ≤ k2) ∧ Aside0 (Kd.S (Kd.slice 3 (Kd.int .i64)) 33 w' w.heap.size (fun k_ => some k_ ≠ ((.slice Ao10 t257.length co10) : Value).ownBlock ∧ some k_ ≠ (v264 : Value).ownBlock ∧ some k_ ≠ (v267 : Value).ownBlock) (.slice Ao9 t256.length co9) t256) ∧ Aside0 (Kd.S (Kd.slice 3 (Kd.int .i64)) 33 w' w.heap.size (fun k_ => some k_ ≠ ((.slice Ao9 t256.length co9) : Value).ownBlock ∧ some k_ ≠ (v264 : Value).ownBlock ∧ some k_ ≠ (v267 : Value).ownBlock) (.slice Ao10 t257.length co10) t257) ∧ Aside0 (Kd.S (Kd.slice 3 (Kd.int .i64)) 33 w' w.heap.size (fun k_ => some k_ ≠ ((.slice Ao9 t256.length co9) : Value).ownBlock ∧ some k_ ≠ ((.slice Ao10 t257.length co10) : Value).ownBlock ∧ some k_ ≠ (v267 : Value).ownBlock) v264 t262) ∧ Aside0 (Kd.S (Kd.slice 3 (Kd.int .i64)) 33 w' w.heap.size (fun k_ => some k_ ≠ ((.slice Ao9 t256.length co9) : Value).ownBlock ∧ some k_ ≠ ((.slice Ao10 t257.length co10) : Value).ownBlock ∧ some k_ ≠ (v264 : Value).ownBlock) v267 t266) ∧ Aside0 (Below w.heap.size w w'))
                case atStart => exact ⟨(0), (by first | rfl | (simp; done) | (simp [*]; done)), H', ⟨Nat.le_refl _⟩, ⟨by (with_reducible repeat (first | apply Kd.S_alloc | apply Kd.S_drewN | apply Kd.S_drew)); exact HO_3.out⟩, ⟨by (with_reducible repeat (first | apply Kd.S_alloc | apply Kd.S_drewN | apply Kd.S_drew)); exact HO_4.out⟩, ⟨by (with_reducible repeat (first | apply Kd.S_alloc | apply Kd.S_drewN | apply Kd.S_drew)); exact HO_5.out⟩, ⟨by (with_reducible repeat (first | apply Kd.S_alloc | apply Kd.S_drewN | apply Kd.S_drew)); exact HO_7.out⟩, ⟨by repeat (first | (with_reducible first | exact HB.out | apply below_alloc | apply pw_below_drewN | apply below_drew1) | exact HB.out)⟩⟩
                case round =>
                  clear H'
                  try clear c1
                  try clear p2
                  try clear c3
                  try clear c4
                  try clear c11
                  try clear c12
                  try clear c13
                  try clear c14
                  try clear c14b0
                  try clear c14b1
                  try clear c14b2
                  try clear c15
                  try clear c15b0
                  try clear c15b1
                  try clear c15b2
                  try clear c17
                  try clear c18
                  try clear c19
                  try clear c30
                  try clear c31
                  try clear c31b0
                  try clear p2
                  obtain ⟨x9_3, rfl, HA, HK3, HO_3, HO_4, HO_5, HO_7, HB⟩ := hrel
                  cases gk with
                  | zero => exact absurd HA.out (by simp [laws_FnTraps.l1])
                  | succ k3 =>
                    have H := HA.out
                    clear HA
                    simp only [laws_FnTraps.l1] at H
                    by_cases c32 : x9_3 < 32
                    · rw [if_pos c32] at H
                      have c32b0 : decide (x9_3 < 32) = true := decide_eq_true c32
                      clear c32
                      by_cases c33 : 0 ≤ x8_2
                      · rw [if_pos c33] at H
                        have c33b0 : decide (0 ≤ x8_2) = true := decide_eq_true c33
                        clear c33
                        by_cases c34 : x8_2 < (t256.length : Int)
                        · rw [if_pos c34] at H
                          have c34b0 : decide (x8_2 < (t256.length : Int)) = true := decide_eq_true c34
                          clear c34
                          by_cases c35 : 0 ≤ x9_3
                          · rw [if_pos c35] at H
                            have c35b0 : decide (0 ≤ x9_3) = true := decide_eq_true c35
                            clear c35
                            by_cases c36 : x9_3 < ((rd_L2 t256 x8_2).length : Int)
                            · rw [if_pos c36] at H
                              have c36b0 : decide (x9_3 < ((rd_L2 t256 x8_2).length : Int)) = true := decide_eq_true c36
                              clear c36
                              by_cases c37 : (rd (rd_L2 t256 x8_2) x9_3) = 1
                              · rw [if_pos c37] at H
                                have c37b0 : ((rd (rd_L2 t256 x8_2) x9_3) == 1) = true := beq_iff_eq.mpr c37
                                have c37b1 : ((rd (rd_L2 t256 x8_2) x9_3) != 1) = false := bne_eq_false_iff_eq.mpr c37
                                clear c37
                                by_cases c38 : x8_2 < (t262.length : Int)
                                · rw [if_pos c38] at H
                                  have c38b0 : decide (x8_2 < (t262.length : Int)) = true := decide_eq_true c38
                                  clear c38
                                  by_cases c39 : x9_3 < ((rd_L2 t262 x8_2).length : Int)
                                  · rw [if_pos c39] at H
                                    have c39b0 : decide (x9_3 < ((rd_L2 t262 x8_2).length : Int)) = true := decide_eq_true c39
                                    clear c39
                                    by_cases c40 : (((rd (rd_L2 t262 x8_2) x9_3) == 1) != true) = true
                                    · rw [if_pos c40] at H
                                      have c40b0 : (((rd (rd_L2 t262 x8_2) x9_3) == 1) != true) = true := c40
                                      (try (have c40b1 : decide (((rd (rd_L2 t262 x8_2) x9_3) == 1) = true) = false := by simpa using c40))
                                      (try (have c40b2 : (((rd (rd_L2 t262 x8_2) x9_3) == 1) == true) = false := by simpa using c40))
                                      (try (have c40b3 : ¬ (((rd (rd_L2 t262 x8_2) x9_3) == 1) = true) := by simpa using c40))
                                      clear c40
                                      exact absurd H (by simp)
                                    · rw [if_neg c40] at H
                                      have c40b0 : (((rd (rd_L2 t262 x8_2) x9_3) == 1) != true) = false := by simpa using c40
                                      (try (have c40b1 : decide (((rd (rd_L2 t262 x8_2) x9_3) == 1) = true) = true := by simpa using c40))
                                      (try (have c40b2 : (((rd (rd_L2 t262 x8_2) x9_3) == 1) == true) = true := by simpa using c40))
                                      clear c40
                                      by_cases c41 : x8_2 < (t266.length : Int)
                                      · rw [if_pos c41] at H
                                        have c41b0 : decide (x8_2 < (t266.length : Int)) = true := decide_eq_true c41
                                        clear c41
                                        by_cases c42 : x9_3 < ((rd_L2 t266 x8_2).length : Int)
                                        · rw [if_pos c42] at H
                                          have c42b0 : decide (x9_3 < ((rd_L2 t266 x8_2).length : Int)) = true := decide_eq_true c42
                                          clear c42
                                          by_cases c43 : (rd (rd_L2 t266 x8_2) x9_3) = 1
                                          · rw [if_pos c43] at H
                                            have c43b0 : ((rd (rd_L2 t266 x8_2) x9_3) == 1) = true := beq_iff_eq.mpr c43
                                            have c43b1 : ((rd (rd_L2 t266 x8_2) x9_3) != 1) = false := bne_eq_false_iff_eq.mpr c43
                                            clear c43
                                            have H' := Aside0.mk H
                                            clear H
                                            have p272 : 0 ≤ (x8_2 : Int) := of_decide_eq_true (by first | (with_reducible assumption) | assumption)
                                            have q272 : x8_2 < (t256.length : Int) := of_decide_eq_true (by first | (with_reducible assumption) | assumption)
                                            obtain ⟨ad272, A272_0, c272_0, e272, hx272_0, hl272_0, hi272_0⟩ := at_L2 (Kd.S_reads' HO_3.out).2.2 x8_2 p272 q272
                                            cases e272
                                            obtain ⟨ce272, hce272, hMe272, hcc272⟩ := Kd.S_get HO_3.out [] x8_2 p272 (by first | exact q272 | exact of_decide_eq_true (by first | (with_reducible assumption) | assumption) | (have e_ := (Kd.S_reads' HO_3.out).1; omega))
                                            obtain ⟨ve272_0, rfl, ge272_0⟩ := hMe272
                                            have hv272_0 := hcc272 0 _ rfl
                                            rw [Nat.add_zero, show ((Kd.slice 3 (Kd.int .i64))).sz = 1 from rfl, Nat.mul_one] at hv272_0
                                            replace hv272_0 := Option.some.inj (hv272_0.symm.trans hx272_0)
                                            rw [hv272_0] at ge272_0
                                            have HL272_0 := Aside0.mk (show Kd.R (Kd.int .i64) 3 _ _ _ _ (rd_L2 t256 x8_2) from ge272_0)
                                            clear hv272_0 ge272_0
                                            clear hcc272 hce272
                                            have HR272_0 := Aside0.mk hi272_0
                                            have HC272_0 := Aside0.mk hl272_0
                                            clear hi272_0 hl272_0
                                            replace p272 := eq_true p272
                                            replace q272 := eq_true q272
                                            have p273 : 0 ≤ (x9_3 : Int) := of_decide_eq_true (by first | (with_reducible assumption) | assumption)
                                            have q273 : x9_3 < ((rd_L2 t256 x8_2).length : Int) := of_decide_eq_true (by first | (with_reducible assumption) | assumption)
                                            obtain ⟨ad273, e273, hx273_0⟩ := Kd.at_int (by repeat (first | (with_reducible exact HR272_0.out) | (with_reducible refine Kd.C_alloc ?_ _) | (with_reducible refine Kd.C_drewN ?_ _) | (with_reducible refine Kd.C_drew ?_) | exact HR272_0.out)) x9_3 p273 q273
                                            cases e273
                                            replace p273 := eq_true p273
                                            replace q273 := eq_true q273
                                            obtain ⟨Ao44, co44, eo44⟩ := Kd.S_slice HO_5.out
                                            subst eo44
                                            have p274 : 0 ≤ (x8_2 : Int) := of_decide_eq_true (by first | (with_reducible assumption) | assumption)
                                            have q274 : x8_2 < (t262.length : Int) := of_decide_eq_true (by first | (with_reducible assumption) | assumption)
                                            obtain ⟨ad274, A274_0, c274_0, e274, hx274_0, hl274_0, hi274_0⟩ := at_L2 (Kd.S_reads' HO_5.out).2.2 x8_2 p274 q274
                                            cases e274
                                            obtain ⟨ce274, hce274, hMe274, hcc274⟩ := Kd.S_get HO_5.out [] x8_2 p274 (by first | exact q274 | exact of_decide_eq_true (by first | (with_reducible assumption) | assumption) | (have e_ := (Kd.S_reads' HO_5.out).1; omega))
                                            obtain ⟨ve274_0, rfl, ge274_0⟩ := hMe274
                                            have hv274_0 := hcc274 0 _ rfl
                                            rw [Nat.add_zero, show ((Kd.slice 3 (Kd.int .i64))).sz = 1 from rfl, Nat.mul_one] at hv274_0
                                            replace hv274_0 := Option.some.inj (hv274_0.symm.trans hx274_0)
                                            rw [hv274_0] at ge274_0
                                            have HL274_0 := Aside0.mk (show Kd.R (Kd.int .i64) 3 _ _ _ _ (rd_L2 t262 x8_2) from ge274_0)
                                            clear hv274_0 ge274_0
                                            clear hcc274 hce274
                                            have HR274_0 := Aside0.mk hi274_0
                                            have HC274_0 := Aside0.mk hl274_0
                                            clear hi274_0 hl274_0
                                            replace p274 := eq_true p274
                                            replace q274 := eq_true q274
                                            have p275 : 0 ≤ (x9_3 : Int) := of_decide_eq_true (by first | (with_reducible assumption) | assumption)
                                            have q275 : x9_3 < ((rd_L2 t262 x8_2).length : Int) := of_decide_eq_true (by first | (with_reducible assumption) | assumption)
                                            obtain ⟨ad275, e275, hx275_0⟩ := Kd.at_int (by repeat (first | (with_reducible exact HR274_0.out) | (with_reducible refine Kd.C_alloc ?_ _) | (with_reducible refine Kd.C_drewN ?_ _) | (with_reducible refine Kd.C_drew ?_) | exact HR274_0.out)) x9_3 p275 q275
                                            cases e275
                                            replace p275 := eq_true p275
                                            replace q275 := eq_true q275
                                            have p276 : 0 ≤ (x8_2 : Int) := of_decide_eq_true (by first | (with_reducible assumption) | assumption)
                                            have q276 : x8_2 < (t256.length : Int) := of_decide_eq_true (by first | (with_reducible assumption) | assumption)
                                            obtain ⟨ad276, A276_0, c276_0, e276, hx276_0, hl276_0, hi276_0⟩ := at_L2 (Kd.S_reads' HO_3.out).2.2 x8_2 p276 q276
                                            obtain rfl : ad272 = ad276 := (by injection e276)
                                            obtain ⟨ce276, hce276, hMe276, hcc276⟩ := Kd.S_get HO_3.out [] x8_2 p276 (by first | exact q276 | exact of_decide_eq_true (by first | (with_reducible assumption) | assumption) | (have e_ := (Kd.S_reads' HO_3.out).1; omega))
                                            obtain ⟨ve276_0, rfl, ge276_0⟩ := hMe276
                                            have hv276_0 := hcc276 0 _ rfl
                                            rw [Nat.add_zero, show ((Kd.slice 3 (Kd.int .i64))).sz = 1 from rfl, Nat.mul_one] at hv276_0
                                            replace hv276_0 := Option.some.inj (hv276_0.symm.trans hx276_0)
                                            rw [hv276_0] at ge276_0
                                            have HL276_0 := Aside0.mk (show Kd.R (Kd.int .i64) 3 _ _ _ _ (rd_L2 t256 x8_2) from ge276_0)
                                            clear hv276_0 ge276_0
                                            clear hcc276 hce276
                                            have HR276_0 := Aside0.mk hi276_0
                                            have HC276_0 := Aside0.mk hl276_0
                                            clear hi276_0 hl276_0
                                            replace p276 := eq_true p276
                                            replace q276 := eq_true q276
                                            have ea_ := Option.some.inj (hx272_0.symm.trans hx276_0)
                                            injection ea_ with ea_ en_ ec_
                                            subst ea_
                                            subst ec_
                                            clear en_
                                            have p277 : 0 ≤ (x9_3 : Int) := of_decide_eq_true (by first | (with_reducible assumption) | assumption)
                                            have q277 : x9_3 < ((rd_L2 t256 x8_2).length : Int) := of_decide_eq_true (by first | (with_reducible assumption) | assumption)
                                            obtain ⟨ad277, e277, hx277_0⟩ := Kd.at_int (by repeat (first | (with_reducible exact HR276_0.out) | (with_reducible refine Kd.C_alloc ?_ _) | (with_reducible refine Kd.C_drewN ?_ _) | (with_reducible refine Kd.C_drew ?_) | exact HR276_0.out)) x9_3 p277 q277
                                            cases e277
                                            replace p277 := eq_true p277
                                            replace q277 := eq_true q277
                                            obtain ⟨Ao45, co45, eo45⟩ := Kd.S_slice HO_7.out
                                            subst eo45
                                            have p278 : 0 ≤ (x8_2 : Int) := of_decide_eq_true (by first | (with_reducible assumption) | assumption)
                                            have q278 : x8_2 < (t266.length : Int) := of_decide_eq_true (by first | (with_reducible assumption) | assumption)
                                            obtain ⟨ad278, A278_0, c278_0, e278, hx278_0, hl278_0, hi278_0⟩ := at_L2 (Kd.S_reads' HO_7.out).2.2 x8_2 p278 q278
                                            cases e278
                                            obtain ⟨ce278, hce278, hMe278, hcc278⟩ := Kd.S_get HO_7.out [] x8_2 p278 (by first | exact q278 | exact of_decide_eq_true (by first | (with_reducible assumption) | assumption) | (have e_ := (Kd.S_reads' HO_7.out).1; omega))
                                            obtain ⟨ve278_0, rfl, ge278_0⟩ := hMe278
                                            have hv278_0 := hcc278 0 _ rfl
                                            rw [Nat.add_zero, show ((Kd.slice 3 (Kd.int .i64))).sz = 1 from rfl, Nat.mul_one] at hv278_0
                                            replace hv278_0 := Option.some.inj (hv278_0.symm.trans hx278_0)
                                            rw [hv278_0] at ge278_0
                                            have HL278_0 := Aside0.mk (show Kd.R (Kd.int .i64) 3 _ _ _ _ (rd_L2 t266 x8_2) from ge278_0)
                                            clear hv278_0 ge278_0
                                            clear hcc278 hce278
                                            have HR278_0 := Aside0.mk hi278_0
                                            have HC278_0 := Aside0.mk hl278_0
                                            clear hi278_0 hl278_0
                                            replace p278 := eq_true p278
                                            replace q278 := eq_true q278
                                            have p279 : 0 ≤ (x9_3 : Int) := of_decide_eq_true (by first | (with_reducible assumption) | assumption)
                                            have q279 : x9_3 < ((rd_L2 t266 x8_2).length : Int) := of_decide_eq_true (by first | (with_reducible assumption) | assumption)
                                            obtain ⟨ad279, e279, hx279_0⟩ := Kd.at_int (by repeat (first | (with_reducible exact HR278_0.out) | (with_reducible refine Kd.C_alloc ?_ _) | (with_reducible refine Kd.C_drewN ?_ _) | (with_reducible refine Kd.C_drew ?_) | exact HR278_0.out)) x9_3 p279 q279
                                            cases e279
                                            replace p279 := eq_true p279
                                            replace q279 := eq_true q279
                                            go_wp2
                                            go_roundg k3
                                            case measure => have := HJ6.out; have := HK2.out; have := HK3.out; omega
                                            case rel => exact ⟨(wrap64 (x9_3 + 1)), (by first | rfl | (simp; done) | (simp [*]; done)), H', ⟨by have := HJ6.out; have := HK2.out; have := HK3.out; omega⟩, ⟨by (with_reducible repeat (first | apply Kd.S_alloc | apply Kd.S_drewN | apply Kd.S_drew)); exact HO_3.out⟩, ⟨by (with_reducible repeat (first | apply Kd.S_alloc | apply Kd.S_drewN | apply Kd.S_drew)); exact HO_4.out⟩, ⟨by (with_reducible repeat (first | apply Kd.S_alloc | apply Kd.S_drewN | apply Kd.S_drew)); exact HO_5.out⟩, ⟨by (with_reducible repeat (first | apply Kd.S_alloc | apply Kd.S_drewN | apply Kd.S_drew)); exact HO_7.out⟩, ⟨by repeat (first | (with_reducible first | exact HB.out | apply below_alloc | apply pw_below_drewN | apply below_drew1) | exact HB.out)⟩⟩
                                          · rw [if_neg c43] at H
                                            have c43b0 : ((rd (rd_L2 t266 x8_2) x9_3) == 1) = false := beq_eq_false_iff_ne.mpr c43
                                            have c43b1 : ((rd (rd_L2 t266 x8_2) x9_3) != 1) = true := bne_iff_ne.mpr c43
                                            exact absurd H (by simp)
                                        · rw [if_neg c42] at H
                                          exact absurd H (by simp)
                                      · rw [if_neg c41] at H
                                        exact absurd H (by simp)
                                  · rw [if_neg c39] at H
                                    exact absurd H (by simp)
                                · rw [if_neg c38] at H
                                  exact absurd H (by simp)
                              · rw [if_neg c37] at H
                                have c37b0 : ((rd (rd_L2 t256 x8_2) x9_3) == 1) = false := beq_eq_false_iff_ne.mpr c37
                                have c37b1 : ((rd (rd_L2 t256 x8_2) x9_3) != 1) = true := bne_iff_ne.mpr c37
                                by_cases c46 : x8_2 < (t266.length : Int)
                                · rw [if_pos c46] at H
                                  have c46b0 : decide (x8_2 < (t266.length : Int)) = true := decide_eq_true c46
                                  clear c46
                                  by_cases c47 : x9_3 < ((rd_L2 t266 x8_2).length : Int)
                                  · rw [if_pos c47] at H
                                    have c47b0 : decide (x9_3 < ((rd_L2 t266 x8_2).length : Int)) = true := decide_eq_true c47
                                    clear c47
                                    by_cases c48 : (rd (rd_L2 t266 x8_2) x9_3) = 1
                                    · rw [if_pos c48] at H
                                      have c48b0 : ((rd (rd_L2 t266 x8_2) x9_3) == 1) = true := beq_iff_eq.mpr c48
                                      have c48b1 : ((rd (rd_L2 t266 x8_2) x9_3) != 1) = false := bne_eq_false_iff_eq.mpr c48
                                      clear c48
                                      by_cases c49 : x8_2 < (t257.length : Int)
                                      · rw [if_pos c49] at H
                                        have c49b0 : decide (x8_2 < (t257.length : Int)) = true := decide_eq_true c49
                                        clear c49
                                        by_cases c50 : x9_3 < ((rd_L2 t257 x8_2).length : Int)
                                        · rw [if_pos c50] at H
                                          have c50b0 : decide (x9_3 < ((rd_L2 t257 x8_2).length : Int)) = true := decide_eq_true c50
                                          clear c50
                                          by_cases c51 : x8_2 < (t262.length : Int)
                                          · rw [if_pos c51] at H
                                            have c51b0 : decide (x8_2 < (t262.length : Int)) = true := decide_eq_true c51
                                            clear c51
                                            by_cases c52 : x9_3 < ((rd_L2 t262 x8_2).length : Int)
                                            · rw [if_pos c52] at H
                                              have c52b0 : decide (x9_3 < ((rd_L2 t262 x8_2).length : Int)) = true := decide_eq_true c52
                                              clear c52
                                              by_cases c53 : (((rd (rd_L2 t262 x8_2) x9_3) == 1) != ((rd (rd_L2 t257 x8_2) x9_3) == 1)) = true
                                              · rw [if_pos c53] at H
                                                have c53b0 : (((rd (rd_L2 t262 x8_2) x9_3) == 1) != ((rd (rd_L2 t257 x8_2) x9_3) == 1)) = true := c53
                                                (try (have c53b1 : decide (((rd (rd_L2 t262 x8_2) x9_3) == 1) = ((rd (rd_L2 t257 x8_2) x9_3) == 1)) = false := by simpa using c53))
                                                (try (have c53b2 : (((rd (rd_L2 t262 x8_2) x9_3) == 1) == ((rd (rd_L2 t257 x8_2) x9_3) == 1)) = false := by simpa using c53))
                                                (try (have c53b3 : ¬ (((rd (rd_L2 t262 x8_2) x9_3) == 1) = ((rd (rd_L2 t257 x8_2) x9_3) == 1)) := by simpa using c53))
                                                clear c53
                                                exact absurd H (by simp)
                                              · rw [if_neg c53] at H
                                                have c53b0 : (((rd (rd_L2 t262 x8_2) x9_3) == 1) != ((rd (rd_L2 t257 x8_2) x9_3) == 1)) = false := by simpa using c53
                                                (try (have c53b1 : decide (((rd (rd_L2 t262 x8_2) x9_3) == 1) = ((rd (rd_L2 t257 x8_2) x9_3) == 1)) = true := by simpa using c53))
                                                (try (have c53b2 : (((rd (rd_L2 t262 x8_2) x9_3) == 1) == ((rd (rd_L2 t257 x8_2) x9_3) == 1)) = true := by simpa using c53))
                                                clear c53
                                                have H' := Aside0.mk H
                                                clear H
                                                have p272 : 0 ≤ (x8_2 : Int) := of_decide_eq_true (by first | (with_reducible assumption) | assumption)
                                                have q272 : x8_2 < (t256.length : Int) := of_decide_eq_true (by first | (with_reducible assumption) | assumption)
                                                obtain ⟨ad272, A272_0, c272_0, e272, hx272_0, hl272_0, hi272_0⟩ := at_L2 (Kd.S_reads' HO_3.out).2.2 x8_2 p272 q272
                                                cases e272
                                                obtain ⟨ce272, hce272, hMe272, hcc272⟩ := Kd.S_get HO_3.out [] x8_2 p272 (by first | exact q272 | exact of_decide_eq_true (by first | (with_reducible assumption) | assumption) | (have e_ := (Kd.S_reads' HO_3.out).1; omega))
                                                obtain ⟨ve272_0, rfl, ge272_0⟩ := hMe272
                                                have hv272_0 := hcc272 0 _ rfl
                                                rw [Nat.add_zero, show ((Kd.slice 3 (Kd.int .i64))).sz = 1 from rfl, Nat.mul_one] at hv272_0
                                                replace hv272_0 := Option.some.inj (hv272_0.symm.trans hx272_0)
                                                rw [hv272_0] at ge272_0
                                                have HL272_0 := Aside0.mk (show Kd.R (Kd.int .i64) 3 _ _ _ _ (rd_L2 t256 x8_2) from ge272_0)
                                                clear hv272_0 ge272_0
                                                clear hcc272 hce272
                                                have HR272_0 := Aside0.mk hi272_0
                                                have HC272_0 := Aside0.mk hl272_0
                                                clear hi272_0 hl272_0
                                                replace p272 := eq_true p272
                                                replace q272 := eq_true q272
                                                have p273 : 0 ≤ (x9_3 : Int) := of_decide_eq_true (by first | (with_reducible assumption) | assumption)
                                                have q273 : x9_3 < ((rd_L2 t256 x8_2).length : Int) := of_decide_eq_true (by first | (with_reducible assumption) | assumption)
                                                obtain ⟨ad273, e273, hx273_0⟩ := Kd.at_int (by repeat (first | (with_reducible exact HR272_0.out) | (with_reducible refine Kd.C_alloc ?_ _) | (with_reducible refine Kd.C_drewN ?_ _) | (with_reducible refine Kd.C_drew ?_) | exact HR272_0.out)) x9_3 p273 q273
                                                cases e273
                                                replace p273 := eq_true p273
                                                replace q273 := eq_true q273
                                                obtain ⟨Ao54, co54, eo54⟩ := Kd.S_slice HO_7.out
                                                subst eo54
                                                have p280 : 0 ≤ (x8_2 : Int) := of_decide_eq_true (by first | (with_reducible assumption) | assumption)
                                                have q280 : x8_2 < (t266.length : Int) := of_decide_eq_true (by first | (with_reducible assumption) | assumption)
                                                obtain ⟨ad280, A280_0, c280_0, e280, hx280_0, hl280_0, hi280_0⟩ := at_L2 (Kd.S_reads' HO_7.out).2.2 x8_2 p280 q280
                                                cases e280
                                                obtain ⟨ce280, hce280, hMe280, hcc280⟩ := Kd.S_get HO_7.out [] x8_2 p280 (by first | exact q280 | exact of_decide_eq_true (by first | (with_reducible assumption) | assumption) | (have e_ := (Kd.S_reads' HO_7.out).1; omega))
                                                obtain ⟨ve280_0, rfl, ge280_0⟩ := hMe280
                                                have hv280_0 := hcc280 0 _ rfl
                                                rw [Nat.add_zero, show ((Kd.slice 3 (Kd.int .i64))).sz = 1 from rfl, Nat.mul_one] at hv280_0
                                                replace hv280_0 := Option.some.inj (hv280_0.symm.trans hx280_0)
                                                rw [hv280_0] at ge280_0
                                                have HL280_0 := Aside0.mk (show Kd.R (Kd.int .i64) 3 _ _ _ _ (rd_L2 t266 x8_2) from ge280_0)
                                                clear hv280_0 ge280_0
                                                clear hcc280 hce280
                                                have HR280_0 := Aside0.mk hi280_0
                                                have HC280_0 := Aside0.mk hl280_0
                                                clear hi280_0 hl280_0
                                                replace p280 := eq_true p280
                                                replace q280 := eq_true q280
                                                have p281 : 0 ≤ (x9_3 : Int) := of_decide_eq_true (by first | (with_reducible assumption) | assumption)
                                                have q281 : x9_3 < ((rd_L2 t266 x8_2).length : Int) := of_decide_eq_true (by first | (with_reducible assumption) | assumption)
                                                obtain ⟨ad281, e281, hx281_0⟩ := Kd.at_int (by repeat (first | (with_reducible exact HR280_0.out) | (with_reducible refine Kd.C_alloc ?_ _) | (with_reducible refine Kd.C_drewN ?_ _) | (with_reducible refine Kd.C_drew ?_) | exact HR280_0.out)) x9_3 p281 q281
                                                cases e281
                                                replace p281 := eq_true p281
                                                replace q281 := eq_true q281
                                                have p282 : 0 ≤ (x8_2 : Int) := of_decide_eq_true (by first | (with_reducible assumption) | assumption)
                                                have q282 : x8_2 < (t257.length : Int) := of_decide_eq_true (by first | (with_reducible assumption) | assumption)
                                                obtain ⟨ad282, A282_0, c282_0, e282, hx282_0, hl282_0, hi282_0⟩ := at_L2 (Kd.S_reads' HO_4.out).2.2 x8_2 p282 q282
                                                cases e282
                                                obtain ⟨ce282, hce282, hMe282, hcc282⟩ := Kd.S_get HO_4.out [] x8_2 p282 (by first | exact q282 | exact of_decide_eq_true (by first | (with_reducible assumption) | assumption) | (have e_ := (Kd.S_reads' HO_4.out).1; omega))
                                                obtain ⟨ve282_0, rfl, ge282_0⟩ := hMe282
                                                have hv282_0 := hcc282 0 _ rfl
                                                rw [Nat.add_zero, show ((Kd.slice 3 (Kd.int .i64))).sz = 1 from rfl, Nat.mul_one] at hv282_0
                                                replace hv282_0 := Option.some.inj (hv282_0.symm.trans hx282_0)
                                                rw [hv282_0] at ge282_0
                                                have HL282_0 := Aside0.mk (show Kd.R (Kd.int .i64) 3 _ _ _ _ (rd_L2 t257 x8_2) from ge282_0)
                                                clear hv282_0 ge282_0
                                                clear hcc282 hce282
                                                have HR282_0 := Aside0.mk hi282_0
                                                have HC282_0 := Aside0.mk hl282_0
                                                clear hi282_0 hl282_0
                                                replace p282 := eq_true p282
                                                replace q282 := eq_true q282
                                                have p283 : 0 ≤ (x9_3 : Int) := of_decide_eq_true (by first | (with_reducible assumption) | assumption)
                                                have q283 : x9_3 < ((rd_L2 t257 x8_2).length : Int) := of_decide_eq_true (by first | (with_reducible assumption) | assumption)
                                                obtain ⟨ad283, e283, hx283_0⟩ := Kd.at_int (by repeat (first | (with_reducible exact HR282_0.out) | (with_reducible refine Kd.C_alloc ?_ _) | (with_reducible refine Kd.C_drewN ?_ _) | (with_reducible refine Kd.C_drew ?_) | exact HR282_0.out)) x9_3 p283 q283
                                                cases e283
                                                replace p283 := eq_true p283
                                                replace q283 := eq_true q283
                                                obtain ⟨Ao55, co55, eo55⟩ := Kd.S_slice HO_5.out
                                                subst eo55
                                                have p284 : 0 ≤ (x8_2 : Int) := of_decide_eq_true (by first | (with_reducible assumption) | assumption)
                                                have q284 : x8_2 < (t262.length : Int) := of_decide_eq_true (by first | (with_reducible assumption) | assumption)
                                                obtain ⟨ad284, A284_0, c284_0, e284, hx284_0, hl284_0, hi284_0⟩ := at_L2 (Kd.S_reads' HO_5.out).2.2 x8_2 p284 q284
                                                cases e284
                                                obtain ⟨ce284, hce284, hMe284, hcc284⟩ := Kd.S_get HO_5.out [] x8_2 p284 (by first | exact q284 | exact of_decide_eq_true (by first | (with_reducible assumption) | assumption) | (have e_ := (Kd.S_reads' HO_5.out).1; omega))
                                                obtain ⟨ve284_0, rfl, ge284_0⟩ := hMe284
                                                have hv284_0 := hcc284 0 _ rfl
                                                rw [Nat.add_zero, show ((Kd.slice 3 (Kd.int .i64))).sz = 1 from rfl, Nat.mul_one] at hv284_0
                                                replace hv284_0 := Option.some.inj (hv284_0.symm.trans hx284_0)
                                                rw [hv284_0] at ge284_0
                                                have HL284_0 := Aside0.mk (show Kd.R (Kd.int .i64) 3 _ _ _ _ (rd_L2 t262 x8_2) from ge284_0)
                                                clear hv284_0 ge284_0
                                                clear hcc284 hce284
                                                have HR284_0 := Aside0.mk hi284_0
                                                have HC284_0 := Aside0.mk hl284_0
                                                clear hi284_0 hl284_0
                                                replace p284 := eq_true p284
                                                replace q284 := eq_true q284
                                                have p285 : 0 ≤ (x9_3 : Int) := of_decide_eq_true (by first | (with_reducible assumption) | assumption)
                                                have q285 : x9_3 < ((rd_L2 t262 x8_2).length : Int) := of_decide_eq_true (by first | (with_reducible assumption) | assumption)
                                                obtain ⟨ad285, e285, hx285_0⟩ := Kd.at_int (by repeat (first | (with_reducible exact HR284_0.out) | (with_reducible refine Kd.C_alloc ?_ _) | (with_reducible refine Kd.C_drewN ?_ _) | (with_reducible refine Kd.C_drew ?_) | exact HR284_0.out)) x9_3 p285 q285
                                                cases e285
                                                replace p285 := eq_true p285
                                                replace q285 := eq_true q285
                                                have p286 : 0 ≤ (x8_2 : Int) := of_decide_eq_true (by first | (with_reducible assumption) | assumption)
                                                have q286 : x8_2 < (t256.length : Int) := of_decide_eq_true (by first | (with_reducible assumption) | assumption)
                                                obtain ⟨ad286, A286_0, c286_0, e286, hx286_0, hl286_0, hi286_0⟩ := at_L2 (Kd.S_reads' HO_3.out).2.2 x8_2 p286 q286
                                                obtain rfl : ad272 = ad286 := (by injection e286)
                                                obtain ⟨ce286, hce286, hMe286, hcc286⟩ := Kd.S_get HO_3.out [] x8_2 p286 (by first | exact q286 | exact of_decide_eq_true (by first | (with_reducible assumption) | assumption) | (have e_ := (Kd.S_reads' HO_3.out).1; omega))
                                                obtain ⟨ve286_0, rfl, ge286_0⟩ := hMe286
                                                have hv286_0 := hcc286 0 _ rfl
                                                rw [Nat.add_zero, show ((Kd.slice 3 (Kd.int .i64))).sz = 1 from rfl, Nat.mul_one] at hv286_0
                                                replace hv286_0 := Option.some.inj (hv286_0.symm.trans hx286_0)
                                                rw [hv286_0] at ge286_0
                                                have HL286_0 := Aside0.mk (show Kd.R (Kd.int .i64) 3 _ _ _ _ (rd_L2 t256 x8_2) from ge286_0)
                                                clear hv286_0 ge286_0
                                                clear hcc286 hce286
                                                have HR286_0 := Aside0.mk hi286_0
                                                have HC286_0 := Aside0.mk hl286_0
                                                clear hi286_0 hl286_0
                                                replace p286 := eq_true p286
                                                replace q286 := eq_true q286
                                                have ea_ := Option.some.inj (hx272_0.symm.trans hx286_0)
                                                injection ea_ with ea_ en_ ec_
                                                subst ea_
                                                subst ec_
                                                clear en_
                                                have p287 : 0 ≤ (x9_3 : Int) := of_decide_eq_true (by first | (with_reducible assumption) | assumption)
                                                have q287 : x9_3 < ((rd_L2 t256 x8_2).length : Int) := of_decide_eq_true (by first | (with_reducible assumption) | assumption)
                                                obtain ⟨ad287, e287, hx287_0⟩ := Kd.at_int (by repeat (first | (with_reducible exact HR286_0.out) | (with_reducible refine Kd.C_alloc ?_ _) | (with_reducible refine Kd.C_drewN ?_ _) | (with_reducible refine Kd.C_drew ?_) | exact HR286_0.out)) x9_3 p287 q287
                                                cases e287
                                                replace p287 := eq_true p287
                                                replace q287 := eq_true q287
                                                go_wp2
                                                go_roundg k3
                                                case measure => have := HJ6.out; have := HK2.out; have := HK3.out; omega
                                                case rel => exact ⟨(wrap64 (x9_3 + 1)), (by first | rfl | (simp; done) | (simp [*]; done)), H', ⟨by have := HJ6.out; have := HK2.out; have := HK3.out; omega⟩, ⟨by (with_reducible repeat (first | apply Kd.S_alloc | apply Kd.S_drewN | apply Kd.S_drew)); exact HO_3.out⟩, ⟨by (with_reducible repeat (first | apply Kd.S_alloc | apply Kd.S_drewN | apply Kd.S_drew)); exact HO_4.out⟩, ⟨by (with_reducible repeat (first | apply Kd.S_alloc | apply Kd.S_drewN | apply Kd.S_drew)); exact HO_5.out⟩, ⟨by (with_reducible repeat (first | apply Kd.S_alloc | apply Kd.S_drewN | apply Kd.S_drew)); exact HO_7.out⟩, ⟨by repeat (first | (with_reducible first | exact HB.out | apply below_alloc | apply pw_below_drewN | apply below_drew1) | exact HB.out)⟩⟩
                                            · rw [if_neg c52] at H
                                              exact absurd H (by simp)
                                          · rw [if_neg c51] at H
                                            exact absurd H (by simp)
                                        · rw [if_neg c50] at H
                                          exact absurd H (by simp)
                                      · rw [if_neg c49] at H
                                        exact absurd H (by simp)
                                    · rw [if_neg c48] at H
                                      have c48b0 : ((rd (rd_L2 t266 x8_2) x9_3) == 1) = false := beq_eq_false_iff_ne.mpr c48
                                      have c48b1 : ((rd (rd_L2 t266 x8_2) x9_3) != 1) = true := bne_iff_ne.mpr c48
                                      by_cases c56 : x8_2 < (t262.length : Int)
                                      · rw [if_pos c56] at H
                                        have c56b0 : decide (x8_2 < (t262.length : Int)) = true := decide_eq_true c56
                                        clear c56
                                        by_cases c57 : x9_3 < ((rd_L2 t262 x8_2).length : Int)
                                        · rw [if_pos c57] at H
                                          have c57b0 : decide (x9_3 < ((rd_L2 t262 x8_2).length : Int)) = true := decide_eq_true c57
                                          clear c57
                                          by_cases c58 : (((rd (rd_L2 t262 x8_2) x9_3) == 1) != false) = true
                                          · rw [if_pos c58] at H
                                            have c58b0 : (((rd (rd_L2 t262 x8_2) x9_3) == 1) != false) = true := c58
                                            (try (have c58b1 : decide (((rd (rd_L2 t262 x8_2) x9_3) == 1) = false) = false := by simpa using c58))
                                            (try (have c58b2 : (((rd (rd_L2 t262 x8_2) x9_3) == 1) == false) = false := by simpa using c58))
                                            (try (have c58b3 : ¬ (((rd (rd_L2 t262 x8_2) x9_3) == 1) = false) := by simpa using c58))
                                            clear c58
                                            exact absurd H (by simp)
                                          · rw [if_neg c58] at H
                                            have c58b0 : (((rd (rd_L2 t262 x8_2) x9_3) == 1) != false) = false := by simpa using c58
                                            (try (have c58b1 : decide (((rd (rd_L2 t262 x8_2) x9_3) == 1) = false) = true := by simpa using c58))
                                            (try (have c58b2 : (((rd (rd_L2 t262 x8_2) x9_3) == 1) == false) = true := by simpa using c58))
                                            clear c58
                                            have H' := Aside0.mk H
                                            clear H
                                            have p272 : 0 ≤ (x8_2 : Int) := of_decide_eq_true (by first | (with_reducible assumption) | assumption)
                                            have q272 : x8_2 < (t256.length : Int) := of_decide_eq_true (by first | (with_reducible assumption) | assumption)
                                            obtain ⟨ad272, A272_0, c272_0, e272, hx272_0, hl272_0, hi272_0⟩ := at_L2 (Kd.S_reads' HO_3.out).2.2 x8_2 p272 q272
                                            cases e272
                                            obtain ⟨ce272, hce272, hMe272, hcc272⟩ := Kd.S_get HO_3.out [] x8_2 p272 (by first | exact q272 | exact of_decide_eq_true (by first | (with_reducible assumption) | assumption) | (have e_ := (Kd.S_reads' HO_3.out).1; omega))
                                            obtain ⟨ve272_0, rfl, ge272_0⟩ := hMe272
                                            have hv272_0 := hcc272 0 _ rfl
                                            rw [Nat.add_zero, show ((Kd.slice 3 (Kd.int .i64))).sz = 1 from rfl, Nat.mul_one] at hv272_0
                                            replace hv272_0 := Option.some.inj (hv272_0.symm.trans hx272_0)
                                            rw [hv272_0] at ge272_0
                                            have HL272_0 := Aside0.mk (show Kd.R (Kd.int .i64) 3 _ _ _ _ (rd_L2 t256 x8_2) from ge272_0)
                                            clear hv272_0 ge272_0
                                            clear hcc272 hce272
                                            have HR272_0 := Aside0.mk hi272_0
                                            have HC272_0 := Aside0.mk hl272_0
                                            clear hi272_0 hl272_0
                                            replace p272 := eq_true p272
                                            replace q272 := eq_true q272
                                            have p273 : 0 ≤ (x9_3 : Int) := of_decide_eq_true (by first | (with_reducible assumption) | assumption)
                                            have q273 : x9_3 < ((rd_L2 t256 x8_2).length : Int) := of_decide_eq_true (by first | (with_reducible assumption) | assumption)
                                            obtain ⟨ad273, e273, hx273_0⟩ := Kd.at_int (by repeat (first | (with_reducible exact HR272_0.out) | (with_reducible refine Kd.C_alloc ?_ _) | (with_reducible refine Kd.C_drewN ?_ _) | (with_reducible refine Kd.C_drew ?_) | exact HR272_0.out)) x9_3 p273 q273
                                            cases e273
                                            replace p273 := eq_true p273
                                            replace q273 := eq_true q273
                                            obtain ⟨Ao59, co59, eo59⟩ := Kd.S_slice HO_7.out
                                            subst eo59
                                            have p280 : 0 ≤ (x8_2 : Int) := of_decide_eq_true (by first | (with_reducible assumption) | assumption)
                                            have q280 : x8_2 < (t266.length : Int) := of_decide_eq_true (by first | (with_reducible assumption) | assumption)
                                            obtain ⟨ad280, A280_0, c280_0, e280, hx280_0, hl280_0, hi280_0⟩ := at_L2 (Kd.S_reads' HO_7.out).2.2 x8_2 p280 q280
                                            cases e280
                                            obtain ⟨ce280, hce280, hMe280, hcc280⟩ := Kd.S_get HO_7.out [] x8_2 p280 (by first | exact q280 | exact of_decide_eq_true (by first | (with_reducible assumption) | assumption) | (have e_ := (Kd.S_reads' HO_7.out).1; omega))
                                            obtain ⟨ve280_0, rfl, ge280_0⟩ := hMe280
                                            have hv280_0 := hcc280 0 _ rfl
                                            rw [Nat.add_zero, show ((Kd.slice 3 (Kd.int .i64))).sz = 1 from rfl, Nat.mul_one] at hv280_0
                                            replace hv280_0 := Option.some.inj (hv280_0.symm.trans hx280_0)
                                            rw [hv280_0] at ge280_0
                                            have HL280_0 := Aside0.mk (show Kd.R (Kd.int .i64) 3 _ _ _ _ (rd_L2 t266 x8_2) from ge280_0)
                                            clear hv280_0 ge280_0
                                            clear hcc280 hce280
                                            have HR280_0 := Aside0.mk hi280_0
                                            have HC280_0 := Aside0.mk hl280_0
                                            clear hi280_0 hl280_0
                                            replace p280 := eq_true p280
                                            replace q280 := eq_true q280
                                            have p281 : 0 ≤ (x9_3 : Int) := of_decide_eq_true (by first | (with_reducible assumption) | assumption)
                                            have q281 : x9_3 < ((rd_L2 t266 x8_2).length : Int) := of_decide_eq_true (by first | (with_reducible assumption) | assumption)
                                            obtain ⟨ad281, e281, hx281_0⟩ := Kd.at_int (by repeat (first | (with_reducible exact HR280_0.out) | (with_reducible refine Kd.C_alloc ?_ _) | (with_reducible refine Kd.C_drewN ?_ _) | (with_reducible refine Kd.C_drew ?_) | exact HR280_0.out)) x9_3 p281 q281
                                            cases e281
                                            replace p281 := eq_true p281
                                            replace q281 := eq_true q281
                                            obtain ⟨Ao60, co60, eo60⟩ := Kd.S_slice HO_5.out
                                            subst eo60
                                            have p288 : 0 ≤ (x8_2 : Int) := of_decide_eq_true (by first | (with_reducible assumption) | assumption)
                                            have q288 : x8_2 < (t262.length : Int) := of_decide_eq_true (by first | (with_reducible assumption) | assumption)
                                            obtain ⟨ad288, A288_0, c288_0, e288, hx288_0, hl288_0, hi288_0⟩ := at_L2 (Kd.S_reads' HO_5.out).2.2 x8_2 p288 q288
                                            cases e288
                                            obtain ⟨ce288, hce288, hMe288, hcc288⟩ := Kd.S_get HO_5.out [] x8_2 p288 (by first | exact q288 | exact of_decide_eq_true (by first | (with_reducible assumption) | assumption) | (have e_ := (Kd.S_reads' HO_5.out).1; omega))
                                            obtain ⟨ve288_0, rfl, ge288_0⟩ := hMe288
                                            have hv288_0 := hcc288 0 _ rfl
                                            rw [Nat.add_zero, show ((Kd.slice 3 (Kd.int .i64))).sz = 1 from rfl, Nat.mul_one] at hv288_0
                                            replace hv288_0 := Option.some.inj (hv288_0.symm.trans hx288_0)
                                            rw [hv288_0] at ge288_0
                                            have HL288_0 := Aside0.mk (show Kd.R (Kd.int .i64) 3 _ _ _ _ (rd_L2 t262 x8_2) from ge288_0)
                                            clear hv288_0 ge288_0
                                            clear hcc288 hce288
                                            have HR288_0 := Aside0.mk hi288_0
                                            have HC288_0 := Aside0.mk hl288_0
                                            clear hi288_0 hl288_0
                                            replace p288 := eq_true p288
                                            replace q288 := eq_true q288
                                            have p289 : 0 ≤ (x9_3 : Int) := of_decide_eq_true (by first | (with_reducible assumption) | assumption)
                                            have q289 : x9_3 < ((rd_L2 t262 x8_2).length : Int) := of_decide_eq_true (by first | (with_reducible assumption) | assumption)
                                            obtain ⟨ad289, e289, hx289_0⟩ := Kd.at_int (by repeat (first | (with_reducible exact HR288_0.out) | (with_reducible refine Kd.C_alloc ?_ _) | (with_reducible refine Kd.C_drewN ?_ _) | (with_reducible refine Kd.C_drew ?_) | exact HR288_0.out)) x9_3 p289 q289
                                            cases e289
                                            replace p289 := eq_true p289
                                            replace q289 := eq_true q289
                                            have p290 : 0 ≤ (x8_2 : Int) := of_decide_eq_true (by first | (with_reducible assumption) | assumption)
                                            have q290 : x8_2 < (t256.length : Int) := of_decide_eq_true (by first | (with_reducible assumption) | assumption)
                                            obtain ⟨ad290, A290_0, c290_0, e290, hx290_0, hl290_0, hi290_0⟩ := at_L2 (Kd.S_reads' HO_3.out).2.2 x8_2 p290 q290
                                            obtain rfl : ad272 = ad290 := (by injection e290)
                                            obtain ⟨ce290, hce290, hMe290, hcc290⟩ := Kd.S_get HO_3.out [] x8_2 p290 (by first | exact q290 | exact of_decide_eq_true (by first | (with_reducible assumption) | assumption) | (have e_ := (Kd.S_reads' HO_3.out).1; omega))
                                            obtain ⟨ve290_0, rfl, ge290_0⟩ := hMe290
                                            have hv290_0 := hcc290 0 _ rfl
                                            rw [Nat.add_zero, show ((Kd.slice 3 (Kd.int .i64))).sz = 1 from rfl, Nat.mul_one] at hv290_0
                                            replace hv290_0 := Option.some.inj (hv290_0.symm.trans hx290_0)
                                            rw [hv290_0] at ge290_0
                                            have HL290_0 := Aside0.mk (show Kd.R (Kd.int .i64) 3 _ _ _ _ (rd_L2 t256 x8_2) from ge290_0)
                                            clear hv290_0 ge290_0
                                            clear hcc290 hce290
                                            have HR290_0 := Aside0.mk hi290_0
                                            have HC290_0 := Aside0.mk hl290_0
                                            clear hi290_0 hl290_0
                                            replace p290 := eq_true p290
                                            replace q290 := eq_true q290
                                            have ea_ := Option.some.inj (hx272_0.symm.trans hx290_0)
                                            injection ea_ with ea_ en_ ec_
                                            subst ea_
                                            subst ec_
                                            clear en_
                                            have p291 : 0 ≤ (x9_3 : Int) := of_decide_eq_true (by first | (with_reducible assumption) | assumption)
                                            have q291 : x9_3 < ((rd_L2 t256 x8_2).length : Int) := of_decide_eq_true (by first | (with_reducible assumption) | assumption)
                                            obtain ⟨ad291, e291, hx291_0⟩ := Kd.at_int (by repeat (first | (with_reducible exact HR290_0.out) | (with_reducible refine Kd.C_alloc ?_ _) | (with_reducible refine Kd.C_drewN ?_ _) | (with_reducible refine Kd.C_drew ?_) | exact HR290_0.out)) x9_3 p291 q291
                                            cases e291
                                            replace p291 := eq_true p291
                                            replace q291 := eq_true q291
                                            go_wp2
                                            go_roundg k3
                                            case measure => have := HJ6.out; have := HK2.out; have := HK3.out; omega
                                            case rel => exact ⟨(wrap64 (x9_3 + 1)), (by first | rfl | (simp; done) | (simp [*]; done)), H', ⟨by have := HJ6.out; have := HK2.out; have := HK3.out; omega⟩, ⟨by (with_reducible repeat (first | apply Kd.S_alloc | apply Kd.S_drewN | apply Kd.S_drew)); exact HO_3.out⟩, ⟨by (with_reducible repeat (first | apply Kd.S_alloc | apply Kd.S_drewN | apply Kd.S_drew)); exact HO_4.out⟩, ⟨by (with_reducible repeat (first | apply Kd.S_alloc | apply Kd.S_drewN | apply Kd.S_drew)); exact HO_5.out⟩, ⟨by (with_reducible repeat (first | apply Kd.S_alloc | apply Kd.S_drewN | apply Kd.S_drew)); exact HO_7.out⟩, ⟨by repeat (first | (with_reducible first | exact HB.out | apply below_alloc | apply pw_below_drewN | apply below_drew1) | exact HB.out)⟩⟩
                                        · rw [if_neg c57] at H
                                          exact absurd H (by simp)
                                      · rw [if_neg c56] at H
                                        exact absurd H (by simp)
                                  · rw [if_neg c47] at H
                                    exact absurd H (by simp)
                                · rw [if_neg c46] at H
                                  exact absurd H (by simp)
                            · rw [if_neg c36] at H
                              exact absurd H (by simp)
                          · rw [if_neg c35] at H
                            exact absurd H (by simp)
                        · rw [if_neg c34] at H
                          exact absurd H (by simp)
                      · rw [if_neg c33] at H
                        exact absurd H (by simp)
                    · rw [if_neg c32] at H
                      have c32b0 : decide (x9_3 < 32) = false := decide_eq_false c32
                      clear c32
                      have H' := Aside0.mk H
                      clear H
                      go_wp2
                      go_roundg k3
                      case measure => have := HJ6.out; have := HK2.out; have := HK3.out; omega
                      case rel => exact ⟨(wrap64 (x8_2 + 1)), (by first | rfl | (simp; done) | (simp [*]; done)), H', ⟨by have := HJ6.out; have := HK2.out; have := HK3.out; omega⟩, ⟨by (with_reducible repeat (first | apply Kd.S_alloc | apply Kd.S_drewN | apply Kd.S_drew)); exact HO_3.out⟩, ⟨by (with_reducible repeat (first | apply Kd.S_alloc | apply Kd.S_drewN | apply Kd.S_drew)); exact HO_4.out⟩, ⟨by (with_reducible repeat (first | apply Kd.S_alloc | apply Kd.S_drewN | apply Kd.S_drew)); exact HO_5.out⟩, ⟨by (with_reducible repeat (first | apply Kd.S_alloc | apply Kd.S_drewN | apply Kd.S_drew)); exact HO_7.out⟩, ⟨by repeat (first | (with_reducible first | exact HB.out | apply below_alloc | apply pw_below_drewN | apply below_drew1) | exact HB.out)⟩⟩
              · rw [if_neg c31] at H
                have c31b0 : decide (x8_2 < (t256.length : Int)) = false := decide_eq_false c31
                clear c31
                replace H := Option.bind_eq_some_iff.mp H
                obtain ⟨t292, A610, H⟩ := H
                replace H : ((impl_CountOnes.f k2 t256).bind fun t293 => (if t292 ≥ t293 then ((impl_CountOnes.f k2 t262).bind fun t294 => ((impl_CountOnes.f k2 t266).bind fun t295 => (some (decide (t294 ≤ t295))))) else (some false))) = some true := H
                have A61 := Aside0.mk A610
                clear A610
                replace H := Option.bind_eq_some_iff.mp H
                obtain ⟨t293, A620, H⟩ := H
                replace H : (if t292 ≥ t293 then ((impl_CountOnes.f k2 t262).bind fun t294 => ((impl_CountOnes.f k2 t266).bind fun t295 => (some (decide (t294 ≤ t295))))) else (some false)) = some true := H
                have A62 := Aside0.mk A620
                clear A620
                by_cases c63 : t292 ≥ t293
                · rw [if_pos c63] at H
                  have c63b0 : decide (t293 ≤ t292) = true := decide_eq_true c63
                  clear c63
                  replace H := Option.bind_eq_some_iff.mp H
                  obtain ⟨t294, A640, H⟩ := H
                  replace H : ((impl_CountOnes.f k2 t266).bind fun t295 => (some (decide (t294 ≤ t295)))) = some true := H
                  have A64 := Aside0.mk A640
                  clear A640
                  replace H := Option.bind_eq_some_iff.mp H
                  obtain ⟨t295, A650, H⟩ := H
                  replace H : (some (decide (t294 ≤ t295))) = some true := H
                  have A65 := Aside0.mk A650
                  clear A650
                  have HRT := Option.some.inj H; clear H
                  obtain ⟨Ao66, co66, eo66⟩ := Kd.S_slice HO_5.out
                  subst eo66
                  go_wp2_with (first | ((with_reducible refine gate_callee (f := 15) rfl ?_); refine goesL_ (some 126) rfl rfl Try.func15 (by kernel_rfl) rfl #[.slice Ao66 t262.length co66] rfl (by (try simp only [List.map_toArray, List.map_cons, List.map_nil]); first | done | rfl | (simp only [List.length_drop, List.length_take]; rfl)) ?_; (with_reducible refine (impl_CountOnes.calls k2 _ _ t262 t292 _ ?side1 ?side2 A61.out).mono ?_); (case side1 => repeat (first | exact (Kd.S_reads' HO_5.out).2.2 | (with_reducible refine Kd.C_alloc ?_ _) | (with_reducible refine Kd.C_drewN ?_ _) | (with_reducible refine Kd.C_drew ?_))); (case side2 => exact (Kd.S_reads' HO_5.out).2.1); rintro e w' ⟨rfl, ⟨nd, rfl⟩⟩; refine ⟨_, rfl, ?_⟩) | ((with_reducible refine gate_callee (f := 15) rfl ?_); refine goesL_ (some 128) rfl rfl Try.func15 (by kernel_rfl) rfl #[.slice Ao9 t256.length co9] rfl (by (try simp only [List.map_toArray, List.map_cons, List.map_nil]); first | done | rfl | (simp only [List.length_drop, List.length_take]; rfl)) ?_; (with_reducible refine (impl_CountOnes.calls k2 _ _ t256 t293 _ ?side1 ?side2 A62.out).mono ?_); (case side1 => repeat (first | exact (Kd.S_reads' HO_3.out).2.2 | (with_reducible refine Kd.C_alloc ?_ _) | (with_reducible refine Kd.C_drewN ?_ _) | (with_reducible refine Kd.C_drew ?_))); (case side2 => exact (Kd.S_reads' HO_3.out).2.1); rintro e w' ⟨rfl, ⟨nd, rfl⟩⟩; refine ⟨_, rfl, ?_⟩) | (go_at_call 15; (with_reducible refine (impl_CountOnes.calls k2 _ _ t262 t294 _ ?side1 ?side2 A64.out).mono ?_); (case side1 => repeat (first | exact (Kd.S_reads' HO_5.out).2.2 | (with_reducible refine Kd.C_alloc ?_ _) | (with_reducible refine Kd.C_drewN ?_ _) | (with_reducible refine Kd.C_drew ?_))); (case side2 => exact (Kd.S_reads' HO_5.out).2.1); rintro e w' ⟨rfl, ⟨nd, rfl⟩⟩; obtain ⟨Ao67, co67, eo67⟩ := Kd.S_slice HO_7.out; subst eo67) | (go_at_call 15; (with_reducible refine (impl_CountOnes.calls k2 _ _ t266 t295 _ ?side1 ?side2 A65.out).mono ?_); (case side1 => repeat (first | exact (Kd.S_reads' HO_7.out).2.2 | (with_reducible refine Kd.C_alloc ?_ _) | (with_reducible refine Kd.C_drewN ?_ _) | (with_reducible refine Kd.C_drew ?_))); (case side2 => exact (Kd.S_reads' HO_7.out).2.1); rintro e w' ⟨rfl, ⟨nd, rfl⟩⟩))
                  go_ret
                  exact ⟨by first | rfl | (simpa using HRT) | (simp only [Bool.and_eq_true, beq_iff_eq] at HRT; simp [HRT]) | (simp [errW_none, errW_some] <;> rfl) | (simp [*, errW_none, errW_some] <;> rfl), by repeat (first | (with_reducible first | exact HB.out | apply below_alloc | apply pw_below_drewN | apply below_drew1) | exact HB.out)⟩
                · rw [if_neg c63] at H
                  have c63b0 : decide (t293 ≤ t292) = false := decide_eq_false c63
                  clear c63
                  exact absurd H (by simp)

/-- THE ONE PURE STATEMENT of laws_FnTraps: yours. -/
def laws_FnTraps.Pure : Prop := ∀ (l0 : List Int), l0.length ≤ maxLen → l0.length * 1 ≤ 140737488351232 → (∀ x ∈ l0, (Lit.int .u8 x).wf = true) → ∃ k, laws_FnTraps.f k l0 = some true
theorem laws_FnTraps.walk (P : laws_FnTraps.Pure) (a0 : Option Addr) (len0 cap0 : Nat) (z0 : List Int) (w : World) (w0 : (a0 = none ∧ len0 = 0 ∧ cap0 = 0 ∧ z0 = []) ∨ ∃ x, a0 = some x ∧ len0 ≤ cap0 ∧ cap0 ≤ maxLen ∧ z0.length = cap0 ∧ (∀ i, i < z0.length → w.cell? (x.add i) = some (.int .u8 (z0.getD i 0))) ∧ ∀ n ∈ z0, (Lit.int .u8 n).wf = true) (y0 : len0 * 1 ≤ 140737488351232) :
    Calls Try.prog 4 #[.slice a0 len0 cap0] w fun e w' => e = .returned (.bool true) ∧ Below w.heap.size w w' := by
  obtain ⟨l0, rfl, hr0, hm0, hw0, hc0⟩ := ReadsInt.ofRowC w0
  obtain ⟨k, h⟩ := P l0 hm0 y0 hw0
  refine (laws_FnTraps.calls k _ _ l0 w (Kd.C_of_reads (d := (0 : Int)) (h1 := fun _ => rfl) hr0) hc0 h).mono ?_
  rintro e w' ⟨rfl, hd⟩
  exact ⟨rfl, hd⟩

end Go.Proofs.Ytjkddcnflpfinaa.PFnTraps
