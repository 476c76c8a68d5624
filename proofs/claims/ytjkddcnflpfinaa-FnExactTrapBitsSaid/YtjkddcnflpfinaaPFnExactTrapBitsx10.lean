-- Written by a program of this session (myprint.py: the kit's print.py, changed), out of the translation.
import Derived.Test.YtjkddcnflpfinaaPFnExactTrapBitsx0
import Derived.Test.YtjkddcnflpfinaaPFnExactTrapBitsx5
import Derived.Test.YtjkddcnflpfinaaPFnExactTrapBitsx6
import Derived.Test.YtjkddcnflpfinaaPFnExactTrapBitsx8
import Derived.Test.YtjkddcnflpfinaaPFnExactTrapBitsx9
namespace Go.Proofs.Ytjkddcnflpfinaa.PFnExactTrapBits
open Go.RowKit Go.Proofs.YtjkddcnflpfinaaW.PrintWords Go.Proofs.YtjkddcnflpfinaaW.PrintLast Go.Proofs.YtjkddcnflpfinaaW.PrintMore
attribute [local go_sem] max2_int min2_int max_two min_two max_three min_three max_four min_four   -- for this text's walks alone
set_option linter.unusedVariables false
set_option linter.unusedSimpArgs false

/-! ### spec_JoinBits: function 27 -/
def spec_JoinBits.f (k : Nat) (l0 : List (List Int)) (l1 : List (List Int)) : Option ((List (List Int)) × Bool) := (spec_l22Both.f k l0 l1 false).bind fun bt257 => (some (bt257.1, bt257.2))
theorem spec_JoinBits.mono : ∀ a0 a1 k, LeO (spec_JoinBits.f k a0 a1) (spec_JoinBits.f (k + 1) a0 a1) := by
  intro a0 a1 k
  unfold spec_JoinBits.f
  repeat' first
      | (with_reducible exact spec_l22Both.mono _ _ _ _)
      | (with_reducible exact LeO.refl _)
      | (with_reducible exact LeO.none _)
      | (with_reducible refine LeO.ite ?_ ?_)
      | (with_reducible refine LeO.bind ?_ (fun _ => ?_))
      | exact spec_l22Both.mono _ _ _ _
      | exact LeO.none _
      | refine LeO.ite ?_ ?_
      | refine LeO.bind ?_ (fun _ => ?_)
set_option maxHeartbeats 8000000 in
set_option maxRecDepth 100000 in
theorem spec_JoinBits.calls (k : Nat) (A0 : Option Addr) (c0 : Nat) (l0 : List (List Int)) (A1 : Option Addr) (c1 : Nat) (l1 : List (List Int)) (r1 : List (List Int)) (r2 : Bool) (w : World) (hr0 : Kd.C (Kd.slice 3 (Kd.int .i64)) w A0 l0.length l0) (hc0 : l0.length ≤ c0) (hr1 : Kd.C (Kd.slice 3 (Kd.int .i64)) w A1 l1.length l1) (hc1 : l1.length ≤ c1) (h : spec_JoinBits.f k l0 l1 = some (r1, r2)) :
    Calls Try.prog 27 #[.slice A0 l0.length c0, .slice A1 l1.length c1] w fun e w' => ∃ v0_ : Value, e = .returned (.tuple #[v0_, .bool r2]) ∧ Kd.S (Kd.slice 3 (Kd.int .i64)) 33 w' w.heap.size (fun _ => True) v0_ r1 ∧ Below w.heap.size w w' := by
  have HR0 := Aside0.mk hr0
  have HC0 := Aside0.mk hc0
  clear hr0 hc0
  have HR1 := Aside0.mk hr1
  have HC1 := Aside0.mk hc1
  clear hr1 hc1
  have HB := Aside0.mk (Below.refl w.heap.size w)
  have H : ((spec_l22Both.f k l0 l1 false).bind fun bt257 => (some (bt257.1, bt257.2))) = some (r1, r2) := h
  clear h
  replace H := Option.bind_eq_some_iff.mp H
  obtain ⟨⟨t257, t258⟩, A30, H⟩ := H
  replace H : (some (t257, t258)) = some (r1, r2) := H
  have A3 := Aside0.mk A30
  clear A30
  simp only [Option.some.injEq, Prod.mk.injEq] at H
  obtain ⟨rfl, rfl⟩ := H
  go_enter Try.func27, Try.ntmps27
  go_wp2_with (first | ((with_reducible refine gate_callee (f := 60) rfl ?_); refine goesL_ (some 8) rfl rfl Try.func60 (by kernel_rfl) rfl #[.slice A0 l0.length c0, .slice A1 l1.length c1, .bool false] rfl (by (try simp only [List.map_toArray, List.map_cons, List.map_nil]); first | done | rfl | (simp only [List.length_drop, List.length_take]; rfl)) ?_; (with_reducible refine (spec_l22Both.calls k _ _ l0 _ _ l1 false t257 t258 _ ?side1 ?side2 ?side3 ?side4 A3.out).mono ?_); (case side1 => repeat (first | exact HR0.out | (with_reducible refine Kd.C_alloc ?_ _) | (with_reducible refine Kd.C_drewN ?_ _) | (with_reducible refine Kd.C_drew ?_))); (case side2 => exact HC0.out); (case side3 => repeat (first | exact HR1.out | (with_reducible refine Kd.C_alloc ?_ _) | (with_reducible refine Kd.C_drewN ?_ _) | (with_reducible refine Kd.C_drew ?_))); (case side4 => exact HC1.out); rintro e w4 ⟨v259, rfl, ho0, hb⟩; refine ⟨_, rfl, ?_⟩; have n0_ := Aside0.mk (Kd.S_lower ho0 (below_size (by repeat (first | (with_reducible first | exact HB.out | apply below_alloc | apply pw_below_drewN | apply below_drew1) | exact HB.out)))); have n1_ := Aside0.mk (below_step (by repeat (first | (with_reducible first | exact HB.out | apply below_alloc | apply pw_below_drewN | apply below_drew1) | exact HB.out)) hb); clear HB; have HO260 := n0_; have HB := n1_; clear n0_ n1_; (try clear hb); (try clear hb2); (try clear hk); (try clear hi); (try clear ho0)))
  go_ret2
  exact ⟨_, by first | rfl | (simp [errW_none, errW_some] <;> rfl) | (simp [*, errW_none, errW_some] <;> rfl), by (with_reducible repeat (first | apply Kd.S_alloc | apply Kd.S_drewN | apply Kd.S_drew)); exact HO260.out, by repeat (first | (with_reducible first | exact HB.out | apply below_alloc | apply pw_below_drewN | apply below_drew1) | exact HB.out)⟩

/-! ### spec_MeetBits: function 28 -/
def spec_MeetBits.f (k : Nat) (l0 : List (List Int)) (l1 : List (List Int)) : Option ((List (List Int)) × Bool) := (spec_l22Both.f k l0 l1 true).bind fun bt261 => (some (bt261.1, bt261.2))
theorem spec_MeetBits.mono : ∀ a0 a1 k, LeO (spec_MeetBits.f k a0 a1) (spec_MeetBits.f (k + 1) a0 a1) := by
  intro a0 a1 k
  unfold spec_MeetBits.f
  repeat' first
      | (with_reducible exact spec_l22Both.mono _ _ _ _)
      | (with_reducible exact LeO.refl _)
      | (with_reducible exact LeO.none _)
      | (with_reducible refine LeO.ite ?_ ?_)
      | (with_reducible refine LeO.bind ?_ (fun _ => ?_))
      | exact spec_l22Both.mono _ _ _ _
      | exact LeO.none _
      | refine LeO.ite ?_ ?_
      | refine LeO.bind ?_ (fun _ => ?_)
set_option maxHeartbeats 8000000 in
set_option maxRecDepth 100000 in
theorem spec_MeetBits.calls (k : Nat) (A0 : Option Addr) (c0 : Nat) (l0 : List (List Int)) (A1 : Option Addr) (c1 : Nat) (l1 : List (List Int)) (r1 : List (List Int)) (r2 : Bool) (w : World) (hr0 : Kd.C (Kd.slice 3 (Kd.int .i64)) w A0 l0.length l0) (hc0 : l0.length ≤ c0) (hr1 : Kd.C (Kd.slice 3 (Kd.int .i64)) w A1 l1.length l1) (hc1 : l1.length ≤ c1) (h : spec_MeetBits.f k l0 l1 = some (r1, r2)) :
    Calls Try.prog 28 #[.slice A0 l0.length c0, .slice A1 l1.length c1] w fun e w' => ∃ v0_ : Value, e = .returned (.tuple #[v0_, .bool r2]) ∧ Kd.S (Kd.slice 3 (Kd.int .i64)) 33 w' w.heap.size (fun _ => True) v0_ r1 ∧ Below w.heap.size w w' := by
  have HR0 := Aside0.mk hr0
  have HC0 := Aside0.mk hc0
  clear hr0 hc0
  have HR1 := Aside0.mk hr1
  have HC1 := Aside0.mk hc1
  clear hr1 hc1
  have HB := Aside0.mk (Below.refl w.heap.size w)
  have H : ((spec_l22Both.f k l0 l1 true).bind fun bt261 => (some (bt261.1, bt261.2))) = some (r1, r2) := h
  clear h
  replace H := Option.bind_eq_some_iff.mp H
  obtain ⟨⟨t261, t262⟩, A30, H⟩ := H
  replace H : (some (t261, t262)) = some (r1, r2) := H
  have A3 := Aside0.mk A30
  clear A30
  simp only [Option.some.injEq, Prod.mk.injEq] at H
  obtain ⟨rfl, rfl⟩ := H
  go_enter Try.func28, Try.ntmps28
  go_wp2_with (first | ((with_reducible refine gate_callee (f := 60) rfl ?_); refine goesL_ (some 8) rfl rfl Try.func60 (by kernel_rfl) rfl #[.slice A0 l0.length c0, .slice A1 l1.length c1, .bool true] rfl (by (try simp only [List.map_toArray, List.map_cons, List.map_nil]); first | done | rfl | (simp only [List.length_drop, List.length_take]; rfl)) ?_; (with_reducible refine (spec_l22Both.calls k _ _ l0 _ _ l1 true t261 t262 _ ?side1 ?side2 ?side3 ?side4 A3.out).mono ?_); (case side1 => repeat (first | exact HR0.out | (with_reducible refine Kd.C_alloc ?_ _) | (with_reducible refine Kd.C_drewN ?_ _) | (with_reducible refine Kd.C_drew ?_))); (case side2 => exact HC0.out); (case side3 => repeat (first | exact HR1.out | (with_reducible refine Kd.C_alloc ?_ _) | (with_reducible refine Kd.C_drewN ?_ _) | (with_reducible refine Kd.C_drew ?_))); (case side4 => exact HC1.out); rintro e w4 ⟨v263, rfl, ho0, hb⟩; refine ⟨_, rfl, ?_⟩; have n0_ := Aside0.mk (Kd.S_lower ho0 (below_size (by repeat (first | (with_reducible first | exact HB.out | apply below_alloc | apply pw_below_drewN | apply below_drew1) | exact HB.out)))); have n1_ := Aside0.mk (below_step (by repeat (first | (with_reducible first | exact HB.out | apply below_alloc | apply pw_below_drewN | apply below_drew1) | exact HB.out)) hb); clear HB; have HO264 := n0_; have HB := n1_; clear n0_ n1_; (try clear hb); (try clear hb2); (try clear hk); (try clear hi); (try clear ho0)))
  go_ret2
  exact ⟨_, by first | rfl | (simp [errW_none, errW_some] <;> rfl) | (simp [*, errW_none, errW_some] <;> rfl), by (with_reducible repeat (first | apply Kd.S_alloc | apply Kd.S_drewN | apply Kd.S_drew)); exact HO264.out, by repeat (first | (with_reducible first | exact HB.out | apply below_alloc | apply pw_below_drewN | apply below_drew1) | exact HB.out)⟩

/-! ### spec_TrapBits: function 34 -/
def spec_TrapBits.f (k : Nat) (l0 : List (List Int)) (l1 : List (List Int)) : Option ((List (List Int)) × Bool) := (spec_SpreadBits.f k l0).bind fun t265 => ((spec_MeetBits.f k t265 l1).bind fun bt268 => (if bt268.2 = true then ((spec_JoinBits.f k l0 bt268.1).bind fun bt272 => (some (bt272.1, bt272.2))) else (some ((([] : List (List Int))), false))))
theorem spec_TrapBits.mono : ∀ a0 a1 k, LeO (spec_TrapBits.f k a0 a1) (spec_TrapBits.f (k + 1) a0 a1) := by
  intro a0 a1 k
  unfold spec_TrapBits.f
  repeat' first
      | (with_reducible exact spec_JoinBits.mono _ _ _)
      | (with_reducible exact spec_MeetBits.mono _ _ _)
      | (with_reducible exact spec_SpreadBits.mono _ _)
      | (with_reducible exact LeO.refl _)
      | (with_reducible exact LeO.none _)
      | (with_reducible refine LeO.ite ?_ ?_)
      | (with_reducible refine LeO.bind ?_ (fun _ => ?_))
      | exact spec_JoinBits.mono _ _ _
      | exact spec_MeetBits.mono _ _ _
      | exact spec_SpreadBits.mono _ _
      | exact LeO.none _
      | refine LeO.ite ?_ ?_
      | refine LeO.bind ?_ (fun _ => ?_)
set_option maxHeartbeats 8000000 in
set_option maxRecDepth 100000 in
theorem spec_TrapBits.calls (k : Nat) (A0 : Option Addr) (c0 : Nat) (l0 : List (List Int)) (A1 : Option Addr) (c1 : Nat) (l1 : List (List Int)) (r1 : List (List Int)) (r2 : Bool) (w : World) (hr0 : Kd.C (Kd.slice 3 (Kd.int .i64)) w A0 l0.length l0) (hc0 : l0.length ≤ c0) (hr1 : Kd.C (Kd.slice 3 (Kd.int .i64)) w A1 l1.length l1) (hc1 : l1.length ≤ c1) (h : spec_TrapBits.f k l0 l1 = some (r1, r2)) :
    Calls Try.prog 34 #[.slice A0 l0.length c0, .slice A1 l1.length c1] w fun e w' => ∃ v0_ : Value, e = .returned (.tuple #[v0_, .bool r2]) ∧ Kd.S (Kd.slice 3 (Kd.int .i64)) 33 w' w.heap.size (fun _ => True) v0_ r1 ∧ Below w.heap.size w w' := by
  have HR0 := Aside0.mk hr0
  have HC0 := Aside0.mk hc0
  clear hr0 hc0
  have HR1 := Aside0.mk hr1
  have HC1 := Aside0.mk hc1
  clear hr1 hc1
  have HB := Aside0.mk (Below.refl w.heap.size w)
  have H : ((spec_SpreadBits.f k l0).bind fun t265 => ((spec_MeetBits.f k t265 l1).bind fun bt268 => (if bt268.2 = true then ((spec_JoinBits.f k l0 bt268.1).bind fun bt272 => (some (bt272.1, bt272.2))) else (some ((([] : List (List Int))), false))))) = some (r1, r2) := h
  clear h
  replace H := Option.bind_eq_some_iff.mp H
  obtain ⟨t265, A30, H⟩ := H
  replace H : ((spec_MeetBits.f k t265 l1).bind fun bt268 => (if bt268.2 = true then ((spec_JoinBits.f k l0 bt268.1).bind fun bt272 => (some (bt272.1, bt272.2))) else (some ((([] : List (List Int))), false)))) = some (r1, r2) := H
  have A3 := Aside0.mk A30
  clear A30
  replace H := Option.bind_eq_some_iff.mp H
  obtain ⟨⟨t268, t269⟩, A40, H⟩ := H
  replace H : (if t269 = true then ((spec_JoinBits.f k l0 t268).bind fun bt272 => (some (bt272.1, bt272.2))) else (some ((([] : List (List Int))), false))) = some (r1, r2) := H
  have A4 := Aside0.mk A40
  clear A40
  by_cases c5 : t269 = true
  · subst c5
    have H1 : ((spec_JoinBits.f k l0 t268).bind fun bt272 => (some (bt272.1, bt272.2))) = some (r1, r2) := by rw [if_pos rfl] at H; exact H
    clear H
    have H := H1
    clear H1
    replace H := Option.bind_eq_some_iff.mp H
    obtain ⟨⟨t272, t273⟩, A60, H⟩ := H
    replace H : (some (t272, t273)) = some (r1, r2) := H
    have A6 := Aside0.mk A60
    clear A60
    simp only [Option.some.injEq, Prod.mk.injEq] at H
    obtain ⟨rfl, rfl⟩ := H
    go_enter Try.func34, Try.ntmps34
    go_wp2_with (first | ((with_reducible refine gate_callee (f := 22) rfl ?_); refine goesL_ (some 10) rfl rfl Try.func22 (by kernel_rfl) rfl #[.slice A0 l0.length c0] rfl (by (try simp only [List.map_toArray, List.map_cons, List.map_nil]); first | done | rfl | (simp only [List.length_drop, List.length_take]; rfl)) ?_; (with_reducible refine (spec_SpreadBits.calls k _ _ l0 t265 _ ?side1 ?side2 A3.out).mono ?_); (case side1 => repeat (first | exact HR0.out | (with_reducible refine Kd.C_alloc ?_ _) | (with_reducible refine Kd.C_drewN ?_ _) | (with_reducible refine Kd.C_drew ?_))); (case side2 => exact HC0.out); rintro e w7 ⟨v266, rfl, ho0, hb⟩; refine ⟨_, rfl, ?_⟩; have n0_ := Aside0.mk (Kd.S_lower ho0 (below_size (by repeat (first | (with_reducible first | exact HB.out | apply below_alloc | apply pw_below_drewN | apply below_drew1) | exact HB.out)))); have n1_ := Aside0.mk (below_step (by repeat (first | (with_reducible first | exact HB.out | apply below_alloc | apply pw_below_drewN | apply below_drew1) | exact HB.out)) hb); clear HB; have HO267 := n0_; have HB := n1_; clear n0_ n1_; (try clear hb); (try clear hb2); (try clear hk); (try clear hi); (try clear ho0); obtain ⟨Ao8, co8, eo8⟩ := Kd.S_slice HO267.out; subst eo8) | ((with_reducible refine gate_callee (f := 28) rfl ?_); refine goesL_ (some 12) rfl rfl Try.func28 (by kernel_rfl) rfl #[.slice Ao8 t265.length co8, .slice A1 l1.length c1] rfl (by (try simp only [List.map_toArray, List.map_cons, List.map_nil]); first | done | rfl | (simp only [List.length_drop, List.length_take]; rfl)) ?_; (with_reducible refine (spec_MeetBits.calls k _ _ t265 _ _ l1 t268 true _ ?side1 ?side2 ?side3 ?side4 A4.out).mono ?_); (case side1 => repeat (first | exact (Kd.S_reads' HO267.out).2.2 | (with_reducible refine Kd.C_alloc ?_ _) | (with_reducible refine Kd.C_drewN ?_ _) | (with_reducible refine Kd.C_drew ?_))); (case side2 => exact (Kd.S_reads' HO267.out).2.1); (case side3 => repeat (first | exact (Kd.C_below HR1.out HB.out) | (with_reducible refine Kd.C_alloc ?_ _) | (with_reducible refine Kd.C_drewN ?_ _) | (with_reducible refine Kd.C_drew ?_))); (case side4 => exact HC1.out); rintro e w9 ⟨v270, rfl, ho0, hb⟩; refine ⟨_, rfl, ?_⟩; have n0_ := Aside0.mk (Kd.S_elder' (by (with_reducible repeat (first | apply Kd.S_alloc | apply Kd.S_drewN | apply Kd.S_drew)); exact HO267.out) (Kd.S_base ho0) hb); have n1_ := Aside0.mk (Kd.S_lower (Kd.S_new' ho0 (Kd.S_lt (by (with_reducible repeat (first | apply Kd.S_alloc | apply Kd.S_drewN | apply Kd.S_drew)); exact HO267.out))) (below_size (by repeat (first | (with_reducible first | exact HB.out | apply below_alloc | apply pw_below_drewN | apply below_drew1) | exact HB.out)))); have n2_ := Aside0.mk (below_step (by repeat (first | (with_reducible first | exact HB.out | apply below_alloc | apply pw_below_drewN | apply below_drew1) | exact HB.out)) hb); clear HO267; clear HB; have HO267 := n0_; have HO271 := n1_; have HB := n2_; clear n0_ n1_ n2_; (try clear hb); (try clear hb2); (try clear hk); (try clear hi); (try clear ho0); obtain ⟨Ao10, co10, eo10⟩ := Kd.S_slice HO271.out; subst eo10) | ((with_reducible refine gate_callee (f := 27) rfl ?_); refine goesL_ (some 20) rfl rfl Try.func27 (by kernel_rfl) rfl #[.slice A0 l0.length c0, .slice Ao10 t268.length co10] rfl (by (try simp only [List.map_toArray, List.map_cons, List.map_nil]); first | done | rfl | (simp only [List.length_drop, List.length_take]; rfl)) ?_; (with_reducible refine (spec_JoinBits.calls k _ _ l0 _ _ t268 t272 t273 _ ?side1 ?side2 ?side3 ?side4 A6.out).mono ?_); (case side1 => repeat (first | exact (Kd.C_below HR0.out HB.out) | (with_reducible refine Kd.C_alloc ?_ _) | (with_reducible refine Kd.C_drewN ?_ _) | (with_reducible refine Kd.C_drew ?_))); (case side2 => exact HC0.out); (case side3 => repeat (first | exact (Kd.S_reads' HO271.out).2.2 | (with_reducible refine Kd.C_alloc ?_ _) | (with_reducible refine Kd.C_drewN ?_ _) | (with_reducible refine Kd.C_drew ?_))); (case side4 => exact (Kd.S_reads' HO271.out).2.1); rintro e w11 ⟨v274, rfl, ho0, hb⟩; refine ⟨_, rfl, ?_⟩; have n0_ := Aside0.mk (Kd.S_elder' (by (with_reducible repeat (first | apply Kd.S_alloc | apply Kd.S_drewN | apply Kd.S_drew)); exact HO267.out) (Kd.S_base ho0) hb); have n1_ := Aside0.mk (Kd.S_elder' (by (with_reducible repeat (first | apply Kd.S_alloc | apply Kd.S_drewN | apply Kd.S_drew)); exact HO271.out) (Kd.S_base ho0) hb); have n2_ := Aside0.mk (Kd.S_lower (Kd.S_new' (Kd.S_new' ho0 (Kd.S_lt (by (with_reducible repeat (first | apply Kd.S_alloc | apply Kd.S_drewN | apply Kd.S_drew)); exact HO267.out))) (Kd.S_lt (by (with_reducible repeat (first | apply Kd.S_alloc | apply Kd.S_drewN | apply Kd.S_drew)); exact HO271.out))) (below_size (by repeat (first | (with_reducible first | exact HB.out | apply below_alloc | apply pw_below_drewN | apply below_drew1) | exact HB.out)))); have n3_ := Aside0.mk (below_step (by repeat (first | (with_reducible first | exact HB.out | apply below_alloc | apply pw_below_drewN | apply below_drew1) | exact HB.out)) hb); clear HO267; clear HO271; clear HB; have HO267 := n0_; have HO271 := n1_; have HO275 := n2_; have HB := n3_; clear n0_ n1_ n2_ n3_; (try clear hb); (try clear hb2); (try clear hk); (try clear hi); (try clear ho0)))
    go_ret2
    exact ⟨_, by first | rfl | (simp [errW_none, errW_some] <;> rfl) | (simp [*, errW_none, errW_some] <;> rfl), by (with_reducible repeat (first | apply Kd.S_alloc | apply Kd.S_drewN | apply Kd.S_drew)); exact Kd.S_mono HO275.out (fun _ hk => trivial), by repeat (first | (with_reducible first | exact HB.out | apply below_alloc | apply pw_below_drewN | apply below_drew1) | exact HB.out)⟩
  · replace c5 := Bool.eq_false_iff.mpr c5
    subst c5
    have H1 : (some ((([] : List (List Int))), false)) = some (r1, r2) := by rw [if_neg (show ¬ (false = true) by decide)] at H; exact H
    clear H
    have H := H1
    clear H1
    obtain ⟨y276, hy276⟩ : ∃ y_ : List (List Int), y_ = (([] : List (List Int))) := ⟨_, rfl⟩
    replace H : (some (y276, false)) = some (r1, r2) := by first | (rw [hy276]; with_reducible exact H) | (have H2_ := (Option.bind_some _ _).symm.trans H; rw [hy276]; with_reducible exact H2_) | (have H2_ := (Option.bind_some _ _).symm.trans H; with_reducible exact H2_) | with_reducible exact H | (rw [hy276]; exact H) | exact H
    have Ny276 := Aside0.mk hy276
    clear hy276
    simp only [Option.some.injEq, Prod.mk.injEq] at H
    obtain ⟨rfl, rfl⟩ := H
    go_enter Try.func34, Try.ntmps34
    go_wp2_with (first | ((with_reducible refine gate_callee (f := 22) rfl ?_); refine goesL_ (some 10) rfl rfl Try.func22 (by kernel_rfl) rfl #[.slice A0 l0.length c0] rfl (by (try simp only [List.map_toArray, List.map_cons, List.map_nil]); first | done | rfl | (simp only [List.length_drop, List.length_take]; rfl)) ?_; (with_reducible refine (spec_SpreadBits.calls k _ _ l0 t265 _ ?side1 ?side2 A3.out).mono ?_); (case side1 => repeat (first | exact HR0.out | (with_reducible refine Kd.C_alloc ?_ _) | (with_reducible refine Kd.C_drewN ?_ _) | (with_reducible refine Kd.C_drew ?_))); (case side2 => exact HC0.out); rintro e w12 ⟨v266, rfl, ho0, hb⟩; refine ⟨_, rfl, ?_⟩; have n0_ := Aside0.mk (Kd.S_lower ho0 (below_size (by repeat (first | (with_reducible first | exact HB.out | apply below_alloc | apply pw_below_drewN | apply below_drew1) | exact HB.out)))); have n1_ := Aside0.mk (below_step (by repeat (first | (with_reducible first | exact HB.out | apply below_alloc | apply pw_below_drewN | apply below_drew1) | exact HB.out)) hb); clear HB; have HO267 := n0_; have HB := n1_; clear n0_ n1_; (try clear hb); (try clear hb2); (try clear hk); (try clear hi); (try clear ho0); obtain ⟨Ao13, co13, eo13⟩ := Kd.S_slice HO267.out; subst eo13) | ((with_reducible refine gate_callee (f := 28) rfl ?_); refine goesL_ (some 12) rfl rfl Try.func28 (by kernel_rfl) rfl #[.slice Ao13 t265.length co13, .slice A1 l1.length c1] rfl (by (try simp only [List.map_toArray, List.map_cons, List.map_nil]); first | done | rfl | (simp only [List.length_drop, List.length_take]; rfl)) ?_; (with_reducible refine (spec_MeetBits.calls k _ _ t265 _ _ l1 t268 false _ ?side1 ?side2 ?side3 ?side4 A4.out).mono ?_); (case side1 => repeat (first | exact (Kd.S_reads' HO267.out).2.2 | (with_reducible refine Kd.C_alloc ?_ _) | (with_reducible refine Kd.C_drewN ?_ _) | (with_reducible refine Kd.C_drew ?_))); (case side2 => exact (Kd.S_reads' HO267.out).2.1); (case side3 => repeat (first | exact (Kd.C_below HR1.out HB.out) | (with_reducible refine Kd.C_alloc ?_ _) | (with_reducible refine Kd.C_drewN ?_ _) | (with_reducible refine Kd.C_drew ?_))); (case side4 => exact HC1.out); rintro e w14 ⟨v270, rfl, ho0, hb⟩; refine ⟨_, rfl, ?_⟩; have n0_ := Aside0.mk (Kd.S_elder' (by (with_reducible repeat (first | apply Kd.S_alloc | apply Kd.S_drewN | apply Kd.S_drew)); exact HO267.out) (Kd.S_base ho0) hb); have n1_ := Aside0.mk (Kd.S_lower (Kd.S_new' ho0 (Kd.S_lt (by (with_reducible repeat (first | apply Kd.S_alloc | apply Kd.S_drewN | apply Kd.S_drew)); exact HO267.out))) (below_size (by repeat (first | (with_reducible first | exact HB.out | apply below_alloc | apply pw_below_drewN | apply below_drew1) | exact HB.out)))); have n2_ := Aside0.mk (below_step (by repeat (first | (with_reducible first | exact HB.out | apply below_alloc | apply pw_below_drewN | apply below_drew1) | exact HB.out)) hb); clear HO267; clear HB; have HO267 := n0_; have HO271 := n1_; have HB := n2_; clear n0_ n1_ n2_; (try clear hb); (try clear hb2); (try clear hk); (try clear hi); (try clear ho0)) | ((with_reducible refine gate_dst (N := 17) rfl ?_); refine Kd.S_lit (Kd.slice 3 (Kd.int .i64)) _ 33 ?hg (N := 17) ?hd (xs := ([] : List (List Int))) (inner := []) (ok := fun _ => True) (okp := fun _ => True) ?hr ?hp (fun _ hk => hk) trivial (Below.refl _ _) (Nat.le_refl _) (by simp) ?_; (case hd => rfl); (case hg => rfl); (case hr => first | (go_simp; done) | (go_simp; rfl)); (case hp => exact (Reps.none _ _)); intro v277 w15 ho16 hb hg_ hnew_; clear hg_ hnew_; (first | rw [← Ny276.out] at ho16 | (simp only [Int.reduceToNat] at ho16; rw [← Ny276.out] at ho16)); have n0_ := Aside0.mk (Kd.S_elder' (by (with_reducible repeat (first | apply Kd.S_alloc | apply Kd.S_drewN | apply Kd.S_drew)); exact HO267.out) (Kd.S_base ho16) hb); have n1_ := Aside0.mk (Kd.S_elder' (by (with_reducible repeat (first | apply Kd.S_alloc | apply Kd.S_drewN | apply Kd.S_drew)); exact HO271.out) (Kd.S_base ho16) hb); have n2_ := Aside0.mk (Kd.S_lower (Kd.S_new' (Kd.S_new' ho16 (Kd.S_lt (by (with_reducible repeat (first | apply Kd.S_alloc | apply Kd.S_drewN | apply Kd.S_drew)); exact HO267.out))) (Kd.S_lt (by (with_reducible repeat (first | apply Kd.S_alloc | apply Kd.S_drewN | apply Kd.S_drew)); exact HO271.out))) (below_size (by repeat (first | (with_reducible first | exact HB.out | apply below_alloc | apply pw_below_drewN | apply below_drew1) | exact HB.out)))); have n3_ := Aside0.mk (below_step (by repeat (first | (with_reducible first | exact HB.out | apply below_alloc | apply pw_below_drewN | apply below_drew1) | exact HB.out)) hb); clear HO267; clear HO271; clear HB; have HO267 := n0_; have HO271 := n1_; have HO278 := n2_; have HB := n3_; clear n0_ n1_ n2_ n3_; clear hb ho16))
    go_ret2
    exact ⟨_, by first | rfl | (simp [errW_none, errW_some] <;> rfl) | (simp [*, errW_none, errW_some] <;> rfl), by (with_reducible repeat (first | apply Kd.S_alloc | apply Kd.S_drewN | apply Kd.S_drew)); exact Kd.S_mono HO278.out (fun _ hk => trivial), by repeat (first | (with_reducible first | exact HB.out | apply below_alloc | apply pw_below_drewN | apply below_drew1) | exact HB.out)⟩

/-! ### laws_FnExactTrapBits: function 9 -/
theorem laws_FnExactTrapBits.oneS {α : Type} {d : Kd α} {e b top : Nat} {v : Value} {xs : List α} {W w1 : World} (h : Kd.S d e w1 W.heap.size (fun _ => True) v xs) (hb : Below W.heap.size W w1) (hB : b ≤ W.heap.size) (hT : top ≤ W.heap.size) : ∃ lo hi, top ≤ lo ∧ lo ≤ hi ∧ hi ≤ w1.heap.size ∧ Kd.S d e w1 b (fun k_ => lo ≤ k_ ∧ k_ < hi) v xs :=
  ⟨W.heap.size, w1.heap.size, hT, hb.size, Nat.le_refl _, Kd.S_lower (Kd.S_mono (Kd.S_bound h) (fun _ hk => ⟨hk.2.1, hk.2.2.1⟩)) hB⟩
theorem laws_FnExactTrapBits.oneR {α : Type} {d : Kd α} {e b top : Nat} {v : Value} {xs : List α} {W w1 : World} (h : d.R e w1 W.heap.size (fun _ => True) v xs) (hb : Below W.heap.size W w1) (hB : b ≤ W.heap.size) (hT : top ≤ W.heap.size) : ∃ lo hi, top ≤ lo ∧ lo ≤ hi ∧ hi ≤ w1.heap.size ∧ d.R e w1 b (fun k_ => lo ≤ k_ ∧ k_ < hi) v xs :=
  ⟨W.heap.size, w1.heap.size, hT, hb.size, Nat.le_refl _, Kd.R_lower (Kd.R_mono (Kd.R_bound h) (fun _ hk => ⟨hk.2.1, hk.2.2.1⟩)) hB⟩
theorem laws_FnExactTrapBits.two {α : Type} {d : Kd α} {e e2 b top : Nat} {v v2 : Value} {xs : List α} {ys : List Int} {W w1 : World} (h : Kd.S d e w1 W.heap.size (fun k_ => some k_ ≠ v2.ownBlock) v xs) (h2 : Kd.R (Kd.int .i64) e2 w1 W.heap.size (fun _ => True) v2 ys) (hb : Below W.heap.size W w1) (hB : b ≤ W.heap.size) (hT : top ≤ W.heap.size) : ∃ lo hi, top ≤ lo ∧ lo ≤ hi ∧ hi ≤ w1.heap.size ∧ Kd.S d e w1 b (fun k_ => (lo ≤ k_ ∧ k_ < hi) ∧ some k_ ≠ v2.ownBlock) v xs ∧ Kd.R (Kd.int .i64) e2 w1 b (fun k_ => (lo ≤ k_ ∧ k_ < hi) ∧ some k_ = v2.ownBlock) v2 ys :=
  ⟨W.heap.size, w1.heap.size, hT, hb.size, Nat.le_refl _, Kd.S_lower (Kd.S_mono (Kd.S_bound h) (fun _ hk => ⟨⟨hk.2.1, hk.2.2.1⟩, hk.1⟩)) hB, Kd.R_lower (Kd.R_mono (Kd.R_bound (Kd.R_tight rfl h2)) (fun _ hk => ⟨⟨hk.2.1, hk.2.2.1⟩, hk.1⟩)) hB⟩
def laws_FnExactTrapBits.f (k : Nat) (l0 : List (List Int)) (l1 : List (List Int)) : Option Bool := (laws_szIntSS.f k l0 1048576).bind fun t701 => (if t701 < 0 then (some true) else ((laws_szIntSS.f k l1 t701).bind fun t702 => (if t702 < 0 then (some true) else ((laws_toIntSS.f k l0).bind fun t703 => ((laws_toIntSS.f k l1).bind fun t709 => ((spec_TrapBits.f k t703 t709).bind fun b789 => (let t715 := b789.1; let t721 := b789.2; (laws_toIntSS.f k l0).bind fun t722 => ((laws_toIntSS.f k l1).bind fun t728 => ((impl_TrapBits.f k t722 t728).bind fun b792 => (let t734 := b792.1; let t740 := b792.2; (laws_eqIntSS.f k t734 t715).bind fun t741 => (if t741 = true then (if (t740 != t721) = true then (some false) else ((laws_toIntSS.f k l0).bind fun t742 => ((laws_eqIntSS.f k t722 t742).bind fun t748 => (if t748 = true then ((laws_toIntSS.f k l1).bind fun t749 => ((laws_eqIntSS.f k t728 t749).bind fun t755 => (if t755 = true then ((laws_markIntSS.f k t722 1).bind fun b798 => (let t756 := b798.1; let t757 := b798.2; (laws_markIntSS.f k t728 t756).bind fun b799 => (let t758 := b799.1; let t759 := b799.2; if t758 < 0 then (some false) else ((laws_eqIntSS.f k t734 t715).bind fun t760 => (if t760 = true then (if (t740 != t721) = true then (some false) else ((laws_markIntSS.f k t734 1).bind fun b801 => (let t761 := b801.1; let t762 := b801.2; (laws_heldIntSS.f k t762 1).bind fun t763 => (if t763 < 0 then (some false) else (if t763 = t761 then ((laws_toIntSS.f k l0).bind fun t764 => ((laws_toIntSS.f k l1).bind fun t770 => ((impl_TrapBits.f k t764 t770).bind fun b805 => (let t776 := b805.1; let t782 := b805.2; (laws_eqIntSS.f k t776 t715).bind fun t783 => (if t783 = true then (if (t782 != t721) = true then (some false) else ((laws_heldIntSS.f k t762 1).bind fun t784 => (if t784 < 0 then (some false) else (if t784 = t761 then (some true) else (some false))))) else (some false)))))) else (some false)))))) else (some false)))))) else (some false)))) else (some false))))) else (some false))))))))))))
set_option maxHeartbeats 16000000 in
set_option maxRecDepth 100000 in
theorem laws_FnExactTrapBits.calls (k : Nat) (A0 : Option Addr) (c0 : Nat) (l0 : List (List Int)) (A1 : Option Addr) (c1 : Nat) (l1 : List (List Int)) (w : World) (hr0 : Kd.C (Kd.slice 3 (Kd.int .i64)) w A0 l0.length l0) (hc0 : l0.length ≤ c0) (hr1 : Kd.C (Kd.slice 3 (Kd.int .i64)) w A1 l1.length l1) (hc1 : l1.length ≤ c1) (h : laws_FnExactTrapBits.f k l0 l1 = some true) :
    Calls Try.prog 9 #[.slice A0 l0.length c0, .slice A1 l1.length c1] w fun e w' => e = .returned (.bool true) ∧ Below w.heap.size w w' := by
  have HR0 := Aside0.mk hr0
  have HC0 := Aside0.mk hc0
  clear hr0 hc0
  have HR1 := Aside0.mk hr1
  have HC1 := Aside0.mk hc1
  clear hr1 hc1
  have HB := Aside0.mk (Below.refl w.heap.size w)
  unfold laws_FnExactTrapBits.f at h
  have H := h
  clear h
  obtain ⟨t701, A0_, H⟩ := Option.bind_eq_some_iff.mp H
  try dsimp only at H
  have AX0 := Aside0.mk A0_
  clear A0_
  by_cases c1 : t701 < 0
  · rw [if_pos c1] at H
    have c1b0 : decide (t701 < 0) = true := decide_eq_true (by omega)
    clear c1
    clear H
    go_enter Try.func9, Try.ntmps9
    go_wp2_with (first | ((with_reducible refine gate_callee (f := 21) rfl ?_); refine goesL_ (some 19) rfl rfl Try.func21 (by kernel_rfl) rfl #[.slice A0 l0.length c0, .int .i64 1048576] rfl (by (try simp only [List.map_toArray, List.map_cons, List.map_nil]); first | done | rfl | (simp only [List.length_drop, List.length_take]; rfl)) ?_; (with_reducible refine (laws_szIntSS.calls k _ _ l0 1048576 t701 _ ?side1 ?side2 AX0.out).mono ?_); (case side1 => repeat (first | exact (Kd.C_below HR0.out (by repeat (first | (with_reducible first | exact HB.out | apply below_alloc | apply pw_below_drewN | apply below_drew1) | exact HB.out))) | (with_reducible refine Kd.C_alloc ?_ _) | (with_reducible refine Kd.C_drewN ?_ _) | (with_reducible refine Kd.C_drew ?_))); (case side2 => exact HC0.out); rintro e w' ⟨rfl, ⟨nd, rfl⟩⟩; refine ⟨_, rfl, ?_⟩))
    go_ret
    exact ⟨by first | rfl | (simp; done) | (simp [*]; done), by exact (by repeat (first | (with_reducible first | exact HB.out | apply below_alloc | apply pw_below_drewN | apply below_drew1) | exact HB.out))⟩
  · rw [if_neg c1] at H
    have c1b0 : decide (t701 < 0) = false := decide_eq_false (by omega)
    clear c1
    obtain ⟨t702, A0_, H⟩ := Option.bind_eq_some_iff.mp H
    try dsimp only at H
    have AX2 := Aside0.mk A0_
    clear A0_
    by_cases c3 : t702 < 0
    · rw [if_pos c3] at H
      have c3b0 : decide (t702 < 0) = true := decide_eq_true (by omega)
      clear c3
      clear H
      go_enter Try.func9, Try.ntmps9
      go_wp2_with (first | ((with_reducible refine gate_callee (f := 21) rfl ?_); refine goesL_ (some 19) rfl rfl Try.func21 (by kernel_rfl) rfl #[.slice A0 l0.length c0, .int .i64 1048576] rfl (by (try simp only [List.map_toArray, List.map_cons, List.map_nil]); first | done | rfl | (simp only [List.length_drop, List.length_take]; rfl)) ?_; (with_reducible refine (laws_szIntSS.calls k _ _ l0 1048576 t701 _ ?side1 ?side2 AX0.out).mono ?_); (case side1 => repeat (first | exact (Kd.C_below HR0.out (by repeat (first | (with_reducible first | exact HB.out | apply below_alloc | apply pw_below_drewN | apply below_drew1) | exact HB.out))) | (with_reducible refine Kd.C_alloc ?_ _) | (with_reducible refine Kd.C_drewN ?_ _) | (with_reducible refine Kd.C_drew ?_))); (case side2 => exact HC0.out); rintro e w' ⟨rfl, ⟨nd, rfl⟩⟩; refine ⟨_, rfl, ?_⟩) | ((with_reducible refine gate_callee (f := 21) rfl ?_); refine goesL_ (some 24) rfl rfl Try.func21 (by kernel_rfl) rfl #[.slice A1 l1.length c1, .int .i64 t701] rfl (by (try simp only [List.map_toArray, List.map_cons, List.map_nil]); first | done | rfl | (simp only [List.length_drop, List.length_take]; rfl)) ?_; (with_reducible refine (laws_szIntSS.calls k _ _ l1 t701 t702 _ ?side1 ?side2 AX2.out).mono ?_); (case side1 => repeat (first | exact (Kd.C_below HR1.out (by repeat (first | (with_reducible first | exact HB.out | apply below_alloc | apply pw_below_drewN | apply below_drew1) | exact HB.out))) | (with_reducible refine Kd.C_alloc ?_ _) | (with_reducible refine Kd.C_drewN ?_ _) | (with_reducible refine Kd.C_drew ?_))); (case side2 => exact HC1.out); rintro e w' ⟨rfl, ⟨nd, rfl⟩⟩; refine ⟨_, rfl, ?_⟩))
      go_ret
      exact ⟨by first | rfl | (simp; done) | (simp [*]; done), by exact (by repeat (first | (with_reducible first | exact HB.out | apply below_alloc | apply pw_below_drewN | apply below_drew1) | exact HB.out))⟩
    · rw [if_neg c3] at H
      have c3b0 : decide (t702 < 0) = false := decide_eq_false (by omega)
      clear c3
      obtain ⟨t703, A0_, H⟩ := Option.bind_eq_some_iff.mp H
      try dsimp only at H
      have AX4 := Aside0.mk A0_
      clear A0_
      obtain ⟨t709, A0_, H⟩ := Option.bind_eq_some_iff.mp H
      try dsimp only at H
      have AX5 := Aside0.mk A0_
      clear A0_
      obtain ⟨⟨t715, t721⟩, A0_, H⟩ := Option.bind_eq_some_iff.mp H
      try dsimp only at H
      have AX6 := Aside0.mk A0_
      clear A0_
      obtain ⟨t722, A0_, H⟩ := Option.bind_eq_some_iff.mp H
      try dsimp only at H
      have AX7 := Aside0.mk A0_
      clear A0_
      obtain ⟨t728, A0_, H⟩ := Option.bind_eq_some_iff.mp H
      try dsimp only at H
      have AX8 := Aside0.mk A0_
      clear A0_
      obtain ⟨⟨t734, t740⟩, A0_, H⟩ := Option.bind_eq_some_iff.mp H
      try dsimp only at H
      have AX9 := Aside0.mk A0_
      clear A0_
      obtain ⟨t741, A0_, H⟩ := Option.bind_eq_some_iff.mp H
      try dsimp only at H
      have AX10 := Aside0.mk A0_
      clear A0_
      by_cases c11 : t741 = true
      · rw [if_pos c11] at H
        subst c11
        by_cases c12 : (t740 != t721) = true
        · rw [if_pos c12] at H
          exact absurd H (by simp)
        · rw [if_neg c12] at H
          replace c12 := Bool.eq_false_iff.mpr c12
          have c12b1 : (t740 == t721) = true := beq_iff_eq.mpr (bne_eq_false_iff_eq.mp c12)
          obtain ⟨t742, A0_, H⟩ := Option.bind_eq_some_iff.mp H
          try dsimp only at H
          have AX13 := Aside0.mk A0_
          clear A0_
          obtain ⟨t748, A0_, H⟩ := Option.bind_eq_some_iff.mp H
          try dsimp only at H
          have AX14 := Aside0.mk A0_
          clear A0_
          by_cases c15 : t748 = true
          · rw [if_pos c15] at H
            subst c15
            obtain ⟨t749, A0_, H⟩ := Option.bind_eq_some_iff.mp H
            try dsimp only at H
            have AX16 := Aside0.mk A0_
            clear A0_
            obtain ⟨t755, A0_, H⟩ := Option.bind_eq_some_iff.mp H
            try dsimp only at H
            have AX17 := Aside0.mk A0_
            clear A0_
            by_cases c18 : t755 = true
            · rw [if_pos c18] at H
              subst c18
              obtain ⟨⟨t756, t757⟩, A0_, H⟩ := Option.bind_eq_some_iff.mp H
              try dsimp only at H
              have AX19 := Aside0.mk A0_
              clear A0_
              obtain ⟨⟨t758, t759⟩, A0_, H⟩ := Option.bind_eq_some_iff.mp H
              try dsimp only at H
              have AX20 := Aside0.mk A0_
              clear A0_
              by_cases c21 : t758 < 0
              · rw [if_pos c21] at H
                exact absurd H (by simp)
              · rw [if_neg c21] at H
                have c21b0 : decide (t758 < 0) = false := decide_eq_false c21
                clear c21
                obtain ⟨t760, A0_, H⟩ := Option.bind_eq_some_iff.mp H
                try dsimp only at H
                have AX22 := Aside0.mk A0_
                clear A0_
                by_cases c23 : t760 = true
                · rw [if_pos c23] at H
                  subst c23
                  by_cases c24 : (t740 != t721) = true
                  · rw [if_pos c24] at H
                    exact absurd H (by simp)
                  · rw [if_neg c24] at H
                    replace c24 := Bool.eq_false_iff.mpr c24
                    have c24b1 : (t740 == t721) = true := beq_iff_eq.mpr (bne_eq_false_iff_eq.mp c24)
                    obtain ⟨⟨t761, t762⟩, A0_, H⟩ := Option.bind_eq_some_iff.mp H
                    try dsimp only at H
                    have AX25 := Aside0.mk A0_
                    clear A0_
                    obtain ⟨t763, A0_, H⟩ := Option.bind_eq_some_iff.mp H
                    try dsimp only at H
                    have AX26 := Aside0.mk A0_
                    clear A0_
                    by_cases c27 : t763 < 0
                    · rw [if_pos c27] at H
                      exact absurd H (by simp)
                    · rw [if_neg c27] at H
                      have c27b0 : decide (t763 < 0) = false := decide_eq_false c27
                      clear c27
                      by_cases c28 : t763 = t761
                      · rw [if_pos c28] at H
                        have c28b0 : (t763 == t761) = true := beq_iff_eq.mpr c28
                        have c28b1 : (t763 != t761) = false := bne_eq_false_iff_eq.mpr c28
                        clear c28
                        obtain ⟨t764, A0_, H⟩ := Option.bind_eq_some_iff.mp H
                        try dsimp only at H
                        have AX29 := Aside0.mk A0_
                        clear A0_
                        obtain ⟨t770, A0_, H⟩ := Option.bind_eq_some_iff.mp H
                        try dsimp only at H
                        have AX30 := Aside0.mk A0_
                        clear A0_
                        obtain ⟨⟨t776, t782⟩, A0_, H⟩ := Option.bind_eq_some_iff.mp H
                        try dsimp only at H
                        have AX31 := Aside0.mk A0_
                        clear A0_
                        obtain ⟨t783, A0_, H⟩ := Option.bind_eq_some_iff.mp H
                        try dsimp only at H
                        have AX32 := Aside0.mk A0_
                        clear A0_
                        by_cases c33 : t783 = true
                        · rw [if_pos c33] at H
                          subst c33
                          by_cases c34 : (t782 != t721) = true
                          · rw [if_pos c34] at H
                            exact absurd H (by simp)
                          · rw [if_neg c34] at H
                            replace c34 := Bool.eq_false_iff.mpr c34
                            have c34b1 : (t782 == t721) = true := beq_iff_eq.mpr (bne_eq_false_iff_eq.mp c34)
                            obtain ⟨t784, A0_, H⟩ := Option.bind_eq_some_iff.mp H
                            try dsimp only at H
                            have AX35 := Aside0.mk A0_
                            clear A0_
                            by_cases c36 : t784 < 0
                            · rw [if_pos c36] at H
                              exact absurd H (by simp)
                            · rw [if_neg c36] at H
                              have c36b0 : decide (t784 < 0) = false := decide_eq_false c36
                              clear c36
                              by_cases c37 : t784 = t761
                              · rw [if_pos c37] at H
                                have c37b0 : (t784 == t761) = true := beq_iff_eq.mpr c37
                                have c37b1 : (t784 != t761) = false := bne_eq_false_iff_eq.mpr c37
                                clear c37
                                clear H
                                go_enter Try.func9, Try.ntmps9
                                go_wp2_with (first | ((with_reducible refine gate_callee (f := 21) rfl ?_); refine goesL_ (some 19) rfl rfl Try.func21 (by kernel_rfl) rfl #[.slice A0 l0.length c0, .int .i64 1048576] rfl (by (try simp only [List.map_toArray, List.map_cons, List.map_nil]); first | done | rfl | (simp only [List.length_drop, List.length_take]; rfl)) ?_; (with_reducible refine (laws_szIntSS.calls k _ _ l0 1048576 t701 _ ?side1 ?side2 AX0.out).mono ?_); (case side1 => repeat (first | exact (Kd.C_below HR0.out (by repeat (first | (with_reducible first | exact HB.out | apply below_alloc | apply pw_below_drewN | apply below_drew1) | exact HB.out))) | (with_reducible refine Kd.C_alloc ?_ _) | (with_reducible refine Kd.C_drewN ?_ _) | (with_reducible refine Kd.C_drew ?_))); (case side2 => exact HC0.out); rintro e w' ⟨rfl, ⟨nd, rfl⟩⟩; refine ⟨_, rfl, ?_⟩) | ((with_reducible refine gate_callee (f := 21) rfl ?_); refine goesL_ (some 24) rfl rfl Try.func21 (by kernel_rfl) rfl #[.slice A1 l1.length c1, .int .i64 t701] rfl (by (try simp only [List.map_toArray, List.map_cons, List.map_nil]); first | done | rfl | (simp only [List.length_drop, List.length_take]; rfl)) ?_; (with_reducible refine (laws_szIntSS.calls k _ _ l1 t701 t702 _ ?side1 ?side2 AX2.out).mono ?_); (case side1 => repeat (first | exact (Kd.C_below HR1.out (by repeat (first | (with_reducible first | exact HB.out | apply below_alloc | apply pw_below_drewN | apply below_drew1) | exact HB.out))) | (with_reducible refine Kd.C_alloc ?_ _) | (with_reducible refine Kd.C_drewN ?_ _) | (with_reducible refine Kd.C_drew ?_))); (case side2 => exact HC1.out); rintro e w' ⟨rfl, ⟨nd, rfl⟩⟩; refine ⟨_, rfl, ?_⟩) | ((with_reducible refine gate_callee (f := 23) rfl ?_); refine goesL_ (some 29) rfl rfl Try.func23 (by kernel_rfl) rfl #[.slice A0 l0.length c0] rfl (by (try simp only [List.map_toArray, List.map_cons, List.map_nil]); first | done | rfl | (simp only [List.length_drop, List.length_take]; rfl)) ?_; (with_reducible refine (laws_toIntSS.calls k _ _ l0 t703 _ ?side1 ?side2 AX4.out).mono ?_); (case side1 => repeat (first | exact (Kd.C_below HR0.out (by repeat (first | (with_reducible first | exact HB.out | apply below_alloc | apply pw_below_drewN | apply below_drew1) | exact HB.out))) | (with_reducible refine Kd.C_alloc ?_ _) | (with_reducible refine Kd.C_drewN ?_ _) | (with_reducible refine Kd.C_drew ?_))); (case side2 => exact HC0.out); rintro e w1004 ⟨v704, rfl, ho0, hb⟩; refine ⟨_, rfl, ?_⟩; have n0_ := Aside0.mk (below_step (by repeat (first | (with_reducible first | exact HB.out | apply below_alloc | apply pw_below_drewN | apply below_drew1) | exact HB.out)) hb); obtain ⟨lo706, hi707, o0_, o1_, o2_, ho0_⟩ := laws_FnExactTrapBits.oneS ho0 hb (below_size (by repeat (first | (with_reducible first | exact HB.out | apply below_alloc | apply pw_below_drewN | apply below_drew1) | exact HB.out))) (show 0 ≤ _ from Nat.zero_le _); clear HB; have HB := n0_; clear n0_; have F705 := Aside0.mk ho0_; have O708 := Aside0.mk (And.intro o0_ o1_); have HT4 := Aside0.mk o2_; clear o0_ o1_ o2_ ho0_ ho0 hb; obtain ⟨AoF705, coF705, eoF705⟩ := Kd.S_slice F705.out; subst eoF705) | ((with_reducible refine gate_callee (f := 23) rfl ?_); refine goesL_ (some 31) rfl rfl Try.func23 (by kernel_rfl) rfl #[.slice A1 l1.length c1] rfl (by (try simp only [List.map_toArray, List.map_cons, List.map_nil]); first | done | rfl | (simp only [List.length_drop, List.length_take]; rfl)) ?_; (with_reducible refine (laws_toIntSS.calls k _ _ l1 t709 _ ?side1 ?side2 AX5.out).mono ?_); (case side1 => repeat (first | exact (Kd.C_below HR1.out (by repeat (first | (with_reducible first | exact HB.out | apply below_alloc | apply pw_below_drewN | apply below_drew1) | exact HB.out))) | (with_reducible refine Kd.C_alloc ?_ _) | (with_reducible refine Kd.C_drewN ?_ _) | (with_reducible refine Kd.C_drew ?_))); (case side2 => exact HC1.out); rintro e w1005 ⟨v710, rfl, ho0, hb⟩; refine ⟨_, rfl, ?_⟩; have n0_ := Aside0.mk (Kd.S_below (by (with_reducible repeat (first | apply Kd.S_alloc | apply Kd.S_drewN | apply Kd.S_drew)); exact F705.out) hb); have n1_ := Aside0.mk (below_step (by repeat (first | (with_reducible first | exact HB.out | apply below_alloc | apply pw_below_drewN | apply below_drew1) | exact HB.out)) hb); obtain ⟨lo712, hi713, o0_, o1_, o2_, ho0_⟩ := laws_FnExactTrapBits.oneS ho0 hb (below_size (by repeat (first | (with_reducible first | exact HB.out | apply below_alloc | apply pw_below_drewN | apply below_drew1) | exact HB.out))) (show hi707 ≤ _ from HT4.out); clear F705 HB; have F705 := n0_; have HB := n1_; clear n0_ n1_; have F711 := Aside0.mk ho0_; have O714 := Aside0.mk (And.intro o0_ o1_); have HT5 := Aside0.mk o2_; clear o0_ o1_ o2_ ho0_ ho0 hb; obtain ⟨AoF711, coF711, eoF711⟩ := Kd.S_slice F711.out; subst eoF711) | ((with_reducible refine gate_callee (f := 34) rfl ?_); refine goesL_ (some 32) rfl rfl Try.func34 (by kernel_rfl) rfl #[.slice AoF705 t703.length coF705, .slice AoF711 t709.length coF711] rfl (by (try simp only [List.map_toArray, List.map_cons, List.map_nil]); first | done | rfl | (simp only [List.length_drop, List.length_take]; rfl)) ?_; (with_reducible refine (spec_TrapBits.calls k _ _ t703 _ _ t709 t715 t721 _ ?side1 ?side2 ?side3 ?side4 AX6.out).mono ?_); (case side1 => repeat (first | exact (Kd.S_reads' F705.out).2.2 | (with_reducible refine Kd.C_alloc ?_ _) | (with_reducible refine Kd.C_drewN ?_ _) | (with_reducible refine Kd.C_drew ?_))); (case side2 => first | exact (Kd.S_reads' F705.out).2.1 | (have e_ := (Kd.S_reads' F705.out).1; have e2_ := (Kd.S_reads' F705.out).2.1; omega)); (case side3 => repeat (first | exact (Kd.S_reads' F711.out).2.2 | (with_reducible refine Kd.C_alloc ?_ _) | (with_reducible refine Kd.C_drewN ?_ _) | (with_reducible refine Kd.C_drew ?_))); (case side4 => first | exact (Kd.S_reads' F711.out).2.1 | (have e_ := (Kd.S_reads' F711.out).1; have e2_ := (Kd.S_reads' F711.out).2.1; omega)); rintro e w1006 ⟨v716, rfl, ho0, hb⟩; refine ⟨_, rfl, ?_⟩; have n0_ := Aside0.mk (Kd.S_below (by (with_reducible repeat (first | apply Kd.S_alloc | apply Kd.S_drewN | apply Kd.S_drew)); exact F705.out) hb); have n1_ := Aside0.mk (Kd.S_below (by (with_reducible repeat (first | apply Kd.S_alloc | apply Kd.S_drewN | apply Kd.S_drew)); exact F711.out) hb); have n2_ := Aside0.mk (below_step (by repeat (first | (with_reducible first | exact HB.out | apply below_alloc | apply pw_below_drewN | apply below_drew1) | exact HB.out)) hb); obtain ⟨lo718, hi719, o0_, o1_, o2_, ho0_⟩ := laws_FnExactTrapBits.oneS ho0 hb (below_size (by repeat (first | (with_reducible first | exact HB.out | apply below_alloc | apply pw_below_drewN | apply below_drew1) | exact HB.out))) (show hi713 ≤ _ from HT5.out); clear F705 F711 HB; have F705 := n0_; have F711 := n1_; have HB := n2_; clear n0_ n1_ n2_; have F717 := Aside0.mk ho0_; have O720 := Aside0.mk (And.intro o0_ o1_); have HT6 := Aside0.mk o2_; clear o0_ o1_ o2_ ho0_ ho0 hb; obtain ⟨AoF717, coF717, eoF717⟩ := Kd.S_slice F717.out; subst eoF717) | ((with_reducible refine gate_callee (f := 23) rfl ?_); refine goesL_ (some 36) rfl rfl Try.func23 (by kernel_rfl) rfl #[.slice A0 l0.length c0] rfl (by (try simp only [List.map_toArray, List.map_cons, List.map_nil]); first | done | rfl | (simp only [List.length_drop, List.length_take]; rfl)) ?_; (with_reducible refine (laws_toIntSS.calls k _ _ l0 t722 _ ?side1 ?side2 AX7.out).mono ?_); (case side1 => repeat (first | exact (Kd.C_below HR0.out (by repeat (first | (with_reducible first | exact HB.out | apply below_alloc | apply pw_below_drewN | apply below_drew1) | exact HB.out))) | (with_reducible refine Kd.C_alloc ?_ _) | (with_reducible refine Kd.C_drewN ?_ _) | (with_reducible refine Kd.C_drew ?_))); (case side2 => exact HC0.out); rintro e w1007 ⟨v723, rfl, ho0, hb⟩; refine ⟨_, rfl, ?_⟩; have n0_ := Aside0.mk (Kd.S_below (by (with_reducible repeat (first | apply Kd.S_alloc | apply Kd.S_drewN | apply Kd.S_drew)); exact F717.out) hb); have n1_ := Aside0.mk (below_step (by repeat (first | (with_reducible first | exact HB.out | apply below_alloc | apply pw_below_drewN | apply below_drew1) | exact HB.out)) hb); obtain ⟨lo725, hi726, o0_, o1_, o2_, ho0_⟩ := laws_FnExactTrapBits.oneS ho0 hb (below_size (by repeat (first | (with_reducible first | exact HB.out | apply below_alloc | apply pw_below_drewN | apply below_drew1) | exact HB.out))) (show hi719 ≤ _ from HT6.out); clear F705 F711 F717 HB; have F717 := n0_; have HB := n1_; clear n0_ n1_; have F724 := Aside0.mk ho0_; have O727 := Aside0.mk (And.intro o0_ o1_); have HT7 := Aside0.mk o2_; clear o0_ o1_ o2_ ho0_ ho0 hb; obtain ⟨AoF724, coF724, eoF724⟩ := Kd.S_slice F724.out; subst eoF724) | ((with_reducible refine gate_callee (f := 23) rfl ?_); refine goesL_ (some 38) rfl rfl Try.func23 (by kernel_rfl) rfl #[.slice A1 l1.length c1] rfl (by (try simp only [List.map_toArray, List.map_cons, List.map_nil]); first | done | rfl | (simp only [List.length_drop, List.length_take]; rfl)) ?_; (with_reducible refine (laws_toIntSS.calls k _ _ l1 t728 _ ?side1 ?side2 AX8.out).mono ?_); (case side1 => repeat (first | exact (Kd.C_below HR1.out (by repeat (first | (with_reducible first | exact HB.out | apply below_alloc | apply pw_below_drewN | apply below_drew1) | exact HB.out))) | (with_reducible refine Kd.C_alloc ?_ _) | (with_reducible refine Kd.C_drewN ?_ _) | (with_reducible refine Kd.C_drew ?_))); (case side2 => exact HC1.out); rintro e w1008 ⟨v729, rfl, ho0, hb⟩; refine ⟨_, rfl, ?_⟩; have n0_ := Aside0.mk (Kd.S_below (by (with_reducible repeat (first | apply Kd.S_alloc | apply Kd.S_drewN | apply Kd.S_drew)); exact F717.out) hb); have n1_ := Aside0.mk (Kd.S_below (by (with_reducible repeat (first | apply Kd.S_alloc | apply Kd.S_drewN | apply Kd.S_drew)); exact F724.out) hb); have n2_ := Aside0.mk (below_step (by repeat (first | (with_reducible first | exact HB.out | apply below_alloc | apply pw_below_drewN | apply below_drew1) | exact HB.out)) hb); obtain ⟨lo731, hi732, o0_, o1_, o2_, ho0_⟩ := laws_FnExactTrapBits.oneS ho0 hb (below_size (by repeat (first | (with_reducible first | exact HB.out | apply below_alloc | apply pw_below_drewN | apply below_drew1) | exact HB.out))) (show hi726 ≤ _ from HT7.out); clear F717 F724 HB; have F717 := n0_; have F724 := n1_; have HB := n2_; clear n0_ n1_ n2_; have F730 := Aside0.mk ho0_; have O733 := Aside0.mk (And.intro o0_ o1_); have HT8 := Aside0.mk o2_; clear o0_ o1_ o2_ ho0_ ho0 hb; obtain ⟨AoF730, coF730, eoF730⟩ := Kd.S_slice F730.out; subst eoF730) | ((with_reducible refine gate_callee (f := 17) rfl ?_); refine goesL_ (some 42) rfl rfl Try.func17 (by kernel_rfl) rfl #[.slice AoF724 t722.length coF724, .slice AoF730 t728.length coF730] rfl (by (try simp only [List.map_toArray, List.map_cons, List.map_nil]); first | done | rfl | (simp only [List.length_drop, List.length_take]; rfl)) ?_; (with_reducible refine (impl_TrapBits.calls k _ _ t722 _ _ t728 t734 t740 _ ?side1 ?side2 ?side3 ?side4 AX9.out).mono ?_); (case side1 => repeat (first | exact (Kd.S_reads' F724.out).2.2 | (with_reducible refine Kd.C_alloc ?_ _) | (with_reducible refine Kd.C_drewN ?_ _) | (with_reducible refine Kd.C_drew ?_))); (case side2 => first | exact (Kd.S_reads' F724.out).2.1 | (have e_ := (Kd.S_reads' F724.out).1; have e2_ := (Kd.S_reads' F724.out).2.1; omega)); (case side3 => repeat (first | exact (Kd.S_reads' F730.out).2.2 | (with_reducible refine Kd.C_alloc ?_ _) | (with_reducible refine Kd.C_drewN ?_ _) | (with_reducible refine Kd.C_drew ?_))); (case side4 => first | exact (Kd.S_reads' F730.out).2.1 | (have e_ := (Kd.S_reads' F730.out).1; have e2_ := (Kd.S_reads' F730.out).2.1; omega)); rintro e w1009 ⟨v735, rfl, ho0, hb⟩; refine ⟨_, rfl, ?_⟩; have n0_ := Aside0.mk (Kd.S_below (by (with_reducible repeat (first | apply Kd.S_alloc | apply Kd.S_drewN | apply Kd.S_drew)); exact F717.out) hb); have n1_ := Aside0.mk (Kd.S_below (by (with_reducible repeat (first | apply Kd.S_alloc | apply Kd.S_drewN | apply Kd.S_drew)); exact F724.out) hb); have n2_ := Aside0.mk (Kd.S_below (by (with_reducible repeat (first | apply Kd.S_alloc | apply Kd.S_drewN | apply Kd.S_drew)); exact F730.out) hb); have n3_ := Aside0.mk (below_step (by repeat (first | (with_reducible first | exact HB.out | apply below_alloc | apply pw_below_drewN | apply below_drew1) | exact HB.out)) hb); obtain ⟨lo737, hi738, o0_, o1_, o2_, ho0_⟩ := laws_FnExactTrapBits.oneS ho0 hb (below_size (by repeat (first | (with_reducible first | exact HB.out | apply below_alloc | apply pw_below_drewN | apply below_drew1) | exact HB.out))) (show hi732 ≤ _ from HT8.out); clear F717 F724 F730 HB; have F717 := n0_; have F724 := n1_; have F730 := n2_; have HB := n3_; clear n0_ n1_ n2_ n3_; have F736 := Aside0.mk ho0_; have O739 := Aside0.mk (And.intro o0_ o1_); have HT9 := Aside0.mk o2_; clear o0_ o1_ o2_ ho0_ ho0 hb; obtain ⟨AoF736, coF736, eoF736⟩ := Kd.S_slice F736.out; subst eoF736) | ((with_reducible refine gate_callee (f := 24) rfl ?_); refine goesL_ (some 47) rfl rfl Try.func24 (by kernel_rfl) rfl #[.slice AoF736 t734.length coF736, .slice AoF717 t715.length coF717] rfl (by (try simp only [List.map_toArray, List.map_cons, List.map_nil]); first | done | rfl | (simp only [List.length_drop, List.length_take]; rfl)) ?_; (with_reducible refine (laws_eqIntSS.calls k _ _ t734 _ _ t715 true _ ?side1 ?side2 ?side3 ?side4 AX10.out).mono ?_); (case side1 => repeat (first | exact (Kd.S_reads' F736.out).2.2 | (with_reducible refine Kd.C_alloc ?_ _) | (with_reducible refine Kd.C_drewN ?_ _) | (with_reducible refine Kd.C_drew ?_))); (case side2 => first | exact (Kd.S_reads' F736.out).2.1 | (have e_ := (Kd.S_reads' F736.out).1; have e2_ := (Kd.S_reads' F736.out).2.1; omega)); (case side3 => repeat (first | exact (Kd.S_reads' F717.out).2.2 | (with_reducible refine Kd.C_alloc ?_ _) | (with_reducible refine Kd.C_drewN ?_ _) | (with_reducible refine Kd.C_drew ?_))); (case side4 => first | exact (Kd.S_reads' F717.out).2.1 | (have e_ := (Kd.S_reads' F717.out).1; have e2_ := (Kd.S_reads' F717.out).2.1; omega)); rintro e w' ⟨rfl, ⟨nd, rfl⟩⟩; refine ⟨_, rfl, ?_⟩) | ((with_reducible refine gate_callee (f := 23) rfl ?_); refine goesL_ (some 56) rfl rfl Try.func23 (by kernel_rfl) rfl #[.slice A0 l0.length c0] rfl (by (try simp only [List.map_toArray, List.map_cons, List.map_nil]); first | done | rfl | (simp only [List.length_drop, List.length_take]; rfl)) ?_; (with_reducible refine (laws_toIntSS.calls k _ _ l0 t742 _ ?side1 ?side2 AX13.out).mono ?_); (case side1 => repeat (first | exact (Kd.C_below HR0.out (by repeat (first | (with_reducible first | exact HB.out | apply below_alloc | apply pw_below_drewN | apply below_drew1) | exact HB.out))) | (with_reducible refine Kd.C_alloc ?_ _) | (with_reducible refine Kd.C_drewN ?_ _) | (with_reducible refine Kd.C_drew ?_))); (case side2 => exact HC0.out); rintro e w1013 ⟨v743, rfl, ho0, hb⟩; refine ⟨_, rfl, ?_⟩; have n0_ := Aside0.mk (Kd.S_below (by (with_reducible repeat (first | apply Kd.S_alloc | apply Kd.S_drewN | apply Kd.S_drew)); exact F717.out) hb); have n1_ := Aside0.mk (Kd.S_below (by (with_reducible repeat (first | apply Kd.S_alloc | apply Kd.S_drewN | apply Kd.S_drew)); exact F724.out) hb); have n2_ := Aside0.mk (Kd.S_below (by (with_reducible repeat (first | apply Kd.S_alloc | apply Kd.S_drewN | apply Kd.S_drew)); exact F730.out) hb); have n3_ := Aside0.mk (Kd.S_below (by (with_reducible repeat (first | apply Kd.S_alloc | apply Kd.S_drewN | apply Kd.S_drew)); exact F736.out) hb); have n4_ := Aside0.mk (below_step (by repeat (first | (with_reducible first | exact HB.out | apply below_alloc | apply pw_below_drewN | apply below_drew1) | exact HB.out)) hb); obtain ⟨lo745, hi746, o0_, o1_, o2_, ho0_⟩ := laws_FnExactTrapBits.oneS ho0 hb (below_size (by repeat (first | (with_reducible first | exact HB.out | apply below_alloc | apply pw_below_drewN | apply below_drew1) | exact HB.out))) (show hi738 ≤ _ from HT9.out); clear F717 F724 F730 F736 HB; have F717 := n0_; have F724 := n1_; have F730 := n2_; have F736 := n3_; have HB := n4_; clear n0_ n1_ n2_ n3_ n4_; have F744 := Aside0.mk ho0_; have O747 := Aside0.mk (And.intro o0_ o1_); have HT13 := Aside0.mk o2_; clear o0_ o1_ o2_ ho0_ ho0 hb; obtain ⟨AoF744, coF744, eoF744⟩ := Kd.S_slice F744.out; subst eoF744) | ((with_reducible refine gate_callee (f := 24) rfl ?_); refine goesL_ (some 57) rfl rfl Try.func24 (by kernel_rfl) rfl #[.slice AoF724 t722.length coF724, .slice AoF744 t742.length coF744] rfl (by (try simp only [List.map_toArray, List.map_cons, List.map_nil]); first | done | rfl | (simp only [List.length_drop, List.length_take]; rfl)) ?_; (with_reducible refine (laws_eqIntSS.calls k _ _ t722 _ _ t742 true _ ?side1 ?side2 ?side3 ?side4 AX14.out).mono ?_); (case side1 => repeat (first | exact (Kd.S_reads' F724.out).2.2 | (with_reducible refine Kd.C_alloc ?_ _) | (with_reducible refine Kd.C_drewN ?_ _) | (with_reducible refine Kd.C_drew ?_))); (case side2 => first | exact (Kd.S_reads' F724.out).2.1 | (have e_ := (Kd.S_reads' F724.out).1; have e2_ := (Kd.S_reads' F724.out).2.1; omega)); (case side3 => repeat (first | exact (Kd.S_reads' F744.out).2.2 | (with_reducible refine Kd.C_alloc ?_ _) | (with_reducible refine Kd.C_drewN ?_ _) | (with_reducible refine Kd.C_drew ?_))); (case side4 => first | exact (Kd.S_reads' F744.out).2.1 | (have e_ := (Kd.S_reads' F744.out).1; have e2_ := (Kd.S_reads' F744.out).2.1; omega)); rintro e w' ⟨rfl, ⟨nd, rfl⟩⟩; refine ⟨_, rfl, ?_⟩) | ((with_reducible refine gate_callee (f := 23) rfl ?_); refine goesL_ (some 61) rfl rfl Try.func23 (by kernel_rfl) rfl #[.slice A1 l1.length c1] rfl (by (try simp only [List.map_toArray, List.map_cons, List.map_nil]); first | done | rfl | (simp only [List.length_drop, List.length_take]; rfl)) ?_; (with_reducible refine (laws_toIntSS.calls k _ _ l1 t749 _ ?side1 ?side2 AX16.out).mono ?_); (case side1 => repeat (first | exact (Kd.C_below HR1.out (by repeat (first | (with_reducible first | exact HB.out | apply below_alloc | apply pw_below_drewN | apply below_drew1) | exact HB.out))) | (with_reducible refine Kd.C_alloc ?_ _) | (with_reducible refine Kd.C_drewN ?_ _) | (with_reducible refine Kd.C_drew ?_))); (case side2 => exact HC1.out); rintro e w1016 ⟨v750, rfl, ho0, hb⟩; refine ⟨_, rfl, ?_⟩; have n0_ := Aside0.mk (Kd.S_below (by (with_reducible repeat (first | apply Kd.S_alloc | apply Kd.S_drewN | apply Kd.S_drew)); exact F717.out) hb); have n1_ := Aside0.mk (Kd.S_below (by (with_reducible repeat (first | apply Kd.S_alloc | apply Kd.S_drewN | apply Kd.S_drew)); exact F724.out) hb); have n2_ := Aside0.mk (Kd.S_below (by (with_reducible repeat (first | apply Kd.S_alloc | apply Kd.S_drewN | apply Kd.S_drew)); exact F730.out) hb); have n3_ := Aside0.mk (Kd.S_below (by (with_reducible repeat (first | apply Kd.S_alloc | apply Kd.S_drewN | apply Kd.S_drew)); exact F736.out) hb); have n4_ := Aside0.mk (below_step (by repeat (first | (with_reducible first | exact HB.out | apply below_alloc | apply pw_below_drewN | apply below_drew1) | exact HB.out)) hb); obtain ⟨lo752, hi753, o0_, o1_, o2_, ho0_⟩ := laws_FnExactTrapBits.oneS ho0 hb (below_size (by repeat (first | (with_reducible first | exact HB.out | apply below_alloc | apply pw_below_drewN | apply below_drew1) | exact HB.out))) (show hi746 ≤ _ from HT13.out); clear F717 F724 F730 F736 F744 HB; have F717 := n0_; have F724 := n1_; have F730 := n2_; have F736 := n3_; have HB := n4_; clear n0_ n1_ n2_ n3_ n4_; have F751 := Aside0.mk ho0_; have O754 := Aside0.mk (And.intro o0_ o1_); have HT16 := Aside0.mk o2_; clear o0_ o1_ o2_ ho0_ ho0 hb; obtain ⟨AoF751, coF751, eoF751⟩ := Kd.S_slice F751.out; subst eoF751) | ((with_reducible refine gate_callee (f := 24) rfl ?_); refine goesL_ (some 62) rfl rfl Try.func24 (by kernel_rfl) rfl #[.slice AoF730 t728.length coF730, .slice AoF751 t749.length coF751] rfl (by (try simp only [List.map_toArray, List.map_cons, List.map_nil]); first | done | rfl | (simp only [List.length_drop, List.length_take]; rfl)) ?_; (with_reducible refine (laws_eqIntSS.calls k _ _ t728 _ _ t749 true _ ?side1 ?side2 ?side3 ?side4 AX17.out).mono ?_); (case side1 => repeat (first | exact (Kd.S_reads' F730.out).2.2 | (with_reducible refine Kd.C_alloc ?_ _) | (with_reducible refine Kd.C_drewN ?_ _) | (with_reducible refine Kd.C_drew ?_))); (case side2 => first | exact (Kd.S_reads' F730.out).2.1 | (have e_ := (Kd.S_reads' F730.out).1; have e2_ := (Kd.S_reads' F730.out).2.1; omega)); (case side3 => repeat (first | exact (Kd.S_reads' F751.out).2.2 | (with_reducible refine Kd.C_alloc ?_ _) | (with_reducible refine Kd.C_drewN ?_ _) | (with_reducible refine Kd.C_drew ?_))); (case side4 => first | exact (Kd.S_reads' F751.out).2.1 | (have e_ := (Kd.S_reads' F751.out).1; have e2_ := (Kd.S_reads' F751.out).2.1; omega)); rintro e w' ⟨rfl, ⟨nd, rfl⟩⟩; refine ⟨_, rfl, ?_⟩) | ((with_reducible refine gate_callee (f := 25) rfl ?_); refine goesL_ (some 66) rfl rfl Try.func25 (by kernel_rfl) rfl #[.slice AoF724 t722.length coF724, .int .i64 1] rfl (by (try simp only [List.map_toArray, List.map_cons, List.map_nil]); first | done | rfl | (simp only [List.length_drop, List.length_take]; rfl)) ?_; (with_reducible refine (laws_markIntSS.calls k (fun k_ => lo725 ≤ k_ ∧ k_ < hi726) (.slice AoF724 t722.length coF724) t722 1 t756 t757 w _ ?side1 ?side2 AX19.out).mono ?_); (case side1 => exact (by repeat (first | (with_reducible first | exact HB.out | apply below_alloc | apply pw_below_drewN | apply below_drew1) | exact HB.out))); (case side2 => exact (by (with_reducible repeat (first | apply Kd.S_alloc | apply Kd.S_drewN | apply Kd.S_drew)); exact F724.out)); rintro e w1019 ⟨rfl, ho0, hb, hk⟩; refine ⟨_, rfl, ?_⟩; have n0_ := Aside0.mk (Kd.S_kept (by (with_reducible repeat (first | apply Kd.S_alloc | apply Kd.S_drewN | apply Kd.S_drew)); exact F717.out) hk (fun k_ (h1_ : lo718 ≤ k_ ∧ k_ < hi719) (h2_ : lo725 ≤ k_ ∧ k_ < hi726) => by have := O708.out; have := O714.out; have := O720.out; have := O727.out; have := O733.out; have := O739.out; have := O747.out; have := O754.out; first | omega | exact h1_.2 h2_.2 | exact h2_.2 h1_.2)); have n1_ := Aside0.mk (Kd.S_kept (by (with_reducible repeat (first | apply Kd.S_alloc | apply Kd.S_drewN | apply Kd.S_drew)); exact F730.out) hk (fun k_ (h1_ : lo731 ≤ k_ ∧ k_ < hi732) (h2_ : lo725 ≤ k_ ∧ k_ < hi726) => by have := O708.out; have := O714.out; have := O720.out; have := O727.out; have := O733.out; have := O739.out; have := O747.out; have := O754.out; first | omega | exact h1_.2 h2_.2 | exact h2_.2 h1_.2)); have n2_ := Aside0.mk (Kd.S_kept (by (with_reducible repeat (first | apply Kd.S_alloc | apply Kd.S_drewN | apply Kd.S_drew)); exact F736.out) hk (fun k_ (h1_ : lo737 ≤ k_ ∧ k_ < hi738) (h2_ : lo725 ≤ k_ ∧ k_ < hi726) => by have := O708.out; have := O714.out; have := O720.out; have := O727.out; have := O733.out; have := O739.out; have := O747.out; have := O754.out; first | omega | exact h1_.2 h2_.2 | exact h2_.2 h1_.2)); have n3_ := Aside0.mk (ho0); have n4_ := Aside0.mk (hb); have HT19 := Aside0.mk (Nat.le_trans (show hi753 ≤ _ from HT16.out) hk.1); clear F717 F724 F730 F736 F751 HB; have F717 := n0_; have F730 := n1_; have F736 := n2_; have F724 := n3_; have HB := n4_; clear n0_ n1_ n2_ n3_ n4_ ho0 hb hk) | ((with_reducible refine gate_callee (f := 25) rfl ?_); refine goesL_ (some 69) rfl rfl Try.func25 (by kernel_rfl) rfl #[.slice AoF730 t728.length coF730, .int .i64 t756] rfl (by (try simp only [List.map_toArray, List.map_cons, List.map_nil]); first | done | rfl | (simp only [List.length_drop, List.length_take]; rfl)) ?_; (with_reducible refine (laws_markIntSS.calls k (fun k_ => lo731 ≤ k_ ∧ k_ < hi732) (.slice AoF730 t728.length coF730) t728 t756 t758 t759 w _ ?side1 ?side2 AX20.out).mono ?_); (case side1 => exact (by repeat (first | (with_reducible first | exact HB.out | apply below_alloc | apply pw_below_drewN | apply below_drew1) | exact HB.out))); (case side2 => exact (by (with_reducible repeat (first | apply Kd.S_alloc | apply Kd.S_drewN | apply Kd.S_drew)); exact F730.out)); rintro e w1020 ⟨rfl, ho0, hb, hk⟩; refine ⟨_, rfl, ?_⟩; have n0_ := Aside0.mk (Kd.S_kept (by (with_reducible repeat (first | apply Kd.S_alloc | apply Kd.S_drewN | apply Kd.S_drew)); exact F717.out) hk (fun k_ (h1_ : lo718 ≤ k_ ∧ k_ < hi719) (h2_ : lo731 ≤ k_ ∧ k_ < hi732) => by have := O708.out; have := O714.out; have := O720.out; have := O727.out; have := O733.out; have := O739.out; have := O747.out; have := O754.out; first | omega | exact h1_.2 h2_.2 | exact h2_.2 h1_.2)); have n1_ := Aside0.mk (Kd.S_kept (by (with_reducible repeat (first | apply Kd.S_alloc | apply Kd.S_drewN | apply Kd.S_drew)); exact F736.out) hk (fun k_ (h1_ : lo737 ≤ k_ ∧ k_ < hi738) (h2_ : lo731 ≤ k_ ∧ k_ < hi732) => by have := O708.out; have := O714.out; have := O720.out; have := O727.out; have := O733.out; have := O739.out; have := O747.out; have := O754.out; first | omega | exact h1_.2 h2_.2 | exact h2_.2 h1_.2)); have n2_ := Aside0.mk (ho0); have n3_ := Aside0.mk (hb); have HT20 := Aside0.mk (Nat.le_trans (show hi753 ≤ _ from HT19.out) hk.1); clear F717 F724 F730 F736 HB; have F717 := n0_; have F736 := n1_; have F730 := n2_; have HB := n3_; clear n0_ n1_ n2_ n3_ ho0 hb hk) | (go_at_call 24; (with_reducible refine (laws_eqIntSS.calls k _ _ t734 _ _ t715 true _ ?side1 ?side2 ?side3 ?side4 AX22.out).mono ?_); (case side1 => repeat (first | exact (Kd.S_reads' F736.out).2.2 | (with_reducible refine Kd.C_alloc ?_ _) | (with_reducible refine Kd.C_drewN ?_ _) | (with_reducible refine Kd.C_drew ?_))); (case side2 => first | exact (Kd.S_reads' F736.out).2.1 | (have e_ := (Kd.S_reads' F736.out).1; have e2_ := (Kd.S_reads' F736.out).2.1; omega)); (case side3 => repeat (first | exact (Kd.S_reads' F717.out).2.2 | (with_reducible refine Kd.C_alloc ?_ _) | (with_reducible refine Kd.C_drewN ?_ _) | (with_reducible refine Kd.C_drew ?_))); (case side4 => first | exact (Kd.S_reads' F717.out).2.1 | (have e_ := (Kd.S_reads' F717.out).1; have e2_ := (Kd.S_reads' F717.out).2.1; omega)); rintro e w' ⟨rfl, ⟨nd, rfl⟩⟩) | ((with_reducible refine gate_callee (f := 25) rfl ?_); refine goesL_ (some 85) rfl rfl Try.func25 (by kernel_rfl) rfl #[.slice AoF736 t734.length coF736, .int .i64 1] rfl (by (try simp only [List.map_toArray, List.map_cons, List.map_nil]); first | done | rfl | (simp only [List.length_drop, List.length_take]; rfl)) ?_; (with_reducible refine (laws_markIntSS.calls k (fun k_ => lo737 ≤ k_ ∧ k_ < hi738) (.slice AoF736 t734.length coF736) t734 1 t761 t762 w _ ?side1 ?side2 AX25.out).mono ?_); (case side1 => exact (by repeat (first | (with_reducible first | exact HB.out | apply below_alloc | apply pw_below_drewN | apply below_drew1) | exact HB.out))); (case side2 => exact (by (with_reducible repeat (first | apply Kd.S_alloc | apply Kd.S_drewN | apply Kd.S_drew)); exact F736.out)); rintro e w1025 ⟨rfl, ho0, hb, hk⟩; refine ⟨_, rfl, ?_⟩; have n0_ := Aside0.mk (Kd.S_kept (by (with_reducible repeat (first | apply Kd.S_alloc | apply Kd.S_drewN | apply Kd.S_drew)); exact F717.out) hk (fun k_ (h1_ : lo718 ≤ k_ ∧ k_ < hi719) (h2_ : lo737 ≤ k_ ∧ k_ < hi738) => by have := O708.out; have := O714.out; have := O720.out; have := O727.out; have := O733.out; have := O739.out; have := O747.out; have := O754.out; first | omega | exact h1_.2 h2_.2 | exact h2_.2 h1_.2)); have n1_ := Aside0.mk (ho0); have n2_ := Aside0.mk (hb); have HT25 := Aside0.mk (Nat.le_trans (show hi753 ≤ _ from HT20.out) hk.1); clear F717 F730 F736 HB; have F717 := n0_; have F736 := n1_; have HB := n2_; clear n0_ n1_ n2_ ho0 hb hk) | ((with_reducible refine gate_callee (f := 26) rfl ?_); refine goesL_ (some 88) rfl rfl Try.func26 (by kernel_rfl) rfl #[.slice AoF736 t762.length coF736, .int .i64 1] rfl (by (try simp only [List.map_toArray, List.map_cons, List.map_nil]); first | done | (rw [show t762.length = t734.length from (Kd.S_reads' F736.out).1.symm] <;> rfl) | rfl | (simp only [List.length_drop, List.length_take]; rfl)) ?_; (with_reducible refine (laws_heldIntSS.calls k _ _ t762 1 t763 _ ?side1 ?side2 AX26.out).mono ?_); (case side1 => repeat (first | exact (Kd.S_reads' F736.out).2.2 | (with_reducible refine Kd.C_alloc ?_ _) | (with_reducible refine Kd.C_drewN ?_ _) | (with_reducible refine Kd.C_drew ?_))); (case side2 => first | exact (Kd.S_reads' F736.out).2.1 | (have e_ := (Kd.S_reads' F736.out).1; have e2_ := (Kd.S_reads' F736.out).2.1; omega)); rintro e w' ⟨rfl, ⟨nd, rfl⟩⟩; refine ⟨_, rfl, ?_⟩) | ((with_reducible refine gate_callee (f := 23) rfl ?_); refine goesL_ (some 96) rfl rfl Try.func23 (by kernel_rfl) rfl #[.slice A0 l0.length c0] rfl (by (try simp only [List.map_toArray, List.map_cons, List.map_nil]); first | done | rfl | (simp only [List.length_drop, List.length_take]; rfl)) ?_; (with_reducible refine (laws_toIntSS.calls k _ _ l0 t764 _ ?side1 ?side2 AX29.out).mono ?_); (case side1 => repeat (first | exact (Kd.C_below HR0.out (by repeat (first | (with_reducible first | exact HB.out | apply below_alloc | apply pw_below_drewN | apply below_drew1) | exact HB.out))) | (with_reducible refine Kd.C_alloc ?_ _) | (with_reducible refine Kd.C_drewN ?_ _) | (with_reducible refine Kd.C_drew ?_))); (case side2 => exact HC0.out); rintro e w1029 ⟨v765, rfl, ho0, hb⟩; refine ⟨_, rfl, ?_⟩; have n0_ := Aside0.mk (Kd.S_below (by (with_reducible repeat (first | apply Kd.S_alloc | apply Kd.S_drewN | apply Kd.S_drew)); exact F717.out) hb); have n1_ := Aside0.mk (Kd.S_below (by (with_reducible repeat (first | apply Kd.S_alloc | apply Kd.S_drewN | apply Kd.S_drew)); exact F736.out) hb); have n2_ := Aside0.mk (below_step (by repeat (first | (with_reducible first | exact HB.out | apply below_alloc | apply pw_below_drewN | apply below_drew1) | exact HB.out)) hb); obtain ⟨lo767, hi768, o0_, o1_, o2_, ho0_⟩ := laws_FnExactTrapBits.oneS ho0 hb (below_size (by repeat (first | (with_reducible first | exact HB.out | apply below_alloc | apply pw_below_drewN | apply below_drew1) | exact HB.out))) (show hi753 ≤ _ from HT25.out); clear F717 F736 HB; have F717 := n0_; have F736 := n1_; have HB := n2_; clear n0_ n1_ n2_; have F766 := Aside0.mk ho0_; have O769 := Aside0.mk (And.intro o0_ o1_); have HT29 := Aside0.mk o2_; clear o0_ o1_ o2_ ho0_ ho0 hb; obtain ⟨AoF766, coF766, eoF766⟩ := Kd.S_slice F766.out; subst eoF766) | ((with_reducible refine gate_callee (f := 23) rfl ?_); refine goesL_ (some 98) rfl rfl Try.func23 (by kernel_rfl) rfl #[.slice A1 l1.length c1] rfl (by (try simp only [List.map_toArray, List.map_cons, List.map_nil]); first | done | rfl | (simp only [List.length_drop, List.length_take]; rfl)) ?_; (with_reducible refine (laws_toIntSS.calls k _ _ l1 t770 _ ?side1 ?side2 AX30.out).mono ?_); (case side1 => repeat (first | exact (Kd.C_below HR1.out (by repeat (first | (with_reducible first | exact HB.out | apply below_alloc | apply pw_below_drewN | apply below_drew1) | exact HB.out))) | (with_reducible refine Kd.C_alloc ?_ _) | (with_reducible refine Kd.C_drewN ?_ _) | (with_reducible refine Kd.C_drew ?_))); (case side2 => exact HC1.out); rintro e w1030 ⟨v771, rfl, ho0, hb⟩; refine ⟨_, rfl, ?_⟩; have n0_ := Aside0.mk (Kd.S_below (by (with_reducible repeat (first | apply Kd.S_alloc | apply Kd.S_drewN | apply Kd.S_drew)); exact F717.out) hb); have n1_ := Aside0.mk (Kd.S_below (by (with_reducible repeat (first | apply Kd.S_alloc | apply Kd.S_drewN | apply Kd.S_drew)); exact F736.out) hb); have n2_ := Aside0.mk (Kd.S_below (by (with_reducible repeat (first | apply Kd.S_alloc | apply Kd.S_drewN | apply Kd.S_drew)); exact F766.out) hb); have n3_ := Aside0.mk (below_step (by repeat (first | (with_reducible first | exact HB.out | apply below_alloc | apply pw_below_drewN | apply below_drew1) | exact HB.out)) hb); obtain ⟨lo773, hi774, o0_, o1_, o2_, ho0_⟩ := laws_FnExactTrapBits.oneS ho0 hb (below_size (by repeat (first | (with_reducible first | exact HB.out | apply below_alloc | apply pw_below_drewN | apply below_drew1) | exact HB.out))) (show hi768 ≤ _ from HT29.out); clear F717 F736 F766 HB; have F717 := n0_; have F736 := n1_; have F766 := n2_; have HB := n3_; clear n0_ n1_ n2_ n3_; have F772 := Aside0.mk ho0_; have O775 := Aside0.mk (And.intro o0_ o1_); have HT30 := Aside0.mk o2_; clear o0_ o1_ o2_ ho0_ ho0 hb; obtain ⟨AoF772, coF772, eoF772⟩ := Kd.S_slice F772.out; subst eoF772) | ((with_reducible refine gate_callee (f := 17) rfl ?_); refine goesL_ (some 99) rfl rfl Try.func17 (by kernel_rfl) rfl #[.slice AoF766 t764.length coF766, .slice AoF772 t770.length coF772] rfl (by (try simp only [List.map_toArray, List.map_cons, List.map_nil]); first | done | rfl | (simp only [List.length_drop, List.length_take]; rfl)) ?_; (with_reducible refine (impl_TrapBits.calls k _ _ t764 _ _ t770 t776 t782 _ ?side1 ?side2 ?side3 ?side4 AX31.out).mono ?_); (case side1 => repeat (first | exact (Kd.S_reads' F766.out).2.2 | (with_reducible refine Kd.C_alloc ?_ _) | (with_reducible refine Kd.C_drewN ?_ _) | (with_reducible refine Kd.C_drew ?_))); (case side2 => first | exact (Kd.S_reads' F766.out).2.1 | (have e_ := (Kd.S_reads' F766.out).1; have e2_ := (Kd.S_reads' F766.out).2.1; omega)); (case side3 => repeat (first | exact (Kd.S_reads' F772.out).2.2 | (with_reducible refine Kd.C_alloc ?_ _) | (with_reducible refine Kd.C_drewN ?_ _) | (with_reducible refine Kd.C_drew ?_))); (case side4 => first | exact (Kd.S_reads' F772.out).2.1 | (have e_ := (Kd.S_reads' F772.out).1; have e2_ := (Kd.S_reads' F772.out).2.1; omega)); rintro e w1031 ⟨v777, rfl, ho0, hb⟩; refine ⟨_, rfl, ?_⟩; have n0_ := Aside0.mk (Kd.S_below (by (with_reducible repeat (first | apply Kd.S_alloc | apply Kd.S_drewN | apply Kd.S_drew)); exact F717.out) hb); have n1_ := Aside0.mk (Kd.S_below (by (with_reducible repeat (first | apply Kd.S_alloc | apply Kd.S_drewN | apply Kd.S_drew)); exact F736.out) hb); have n2_ := Aside0.mk (Kd.S_below (by (with_reducible repeat (first | apply Kd.S_alloc | apply Kd.S_drewN | apply Kd.S_drew)); exact F766.out) hb); have n3_ := Aside0.mk (Kd.S_below (by (with_reducible repeat (first | apply Kd.S_alloc | apply Kd.S_drewN | apply Kd.S_drew)); exact F772.out) hb); have n4_ := Aside0.mk (below_step (by repeat (first | (with_reducible first | exact HB.out | apply below_alloc | apply pw_below_drewN | apply below_drew1) | exact HB.out)) hb); obtain ⟨lo779, hi780, o0_, o1_, o2_, ho0_⟩ := laws_FnExactTrapBits.oneS ho0 hb (below_size (by repeat (first | (with_reducible first | exact HB.out | apply below_alloc | apply pw_below_drewN | apply below_drew1) | exact HB.out))) (show hi774 ≤ _ from HT30.out); clear F717 F736 F766 F772 HB; have F717 := n0_; have F736 := n1_; have F766 := n2_; have F772 := n3_; have HB := n4_; clear n0_ n1_ n2_ n3_ n4_; have F778 := Aside0.mk ho0_; have O781 := Aside0.mk (And.intro o0_ o1_); have HT31 := Aside0.mk o2_; clear o0_ o1_ o2_ ho0_ ho0 hb; obtain ⟨AoF778, coF778, eoF778⟩ := Kd.S_slice F778.out; subst eoF778) | ((with_reducible refine gate_callee (f := 24) rfl ?_); refine goesL_ (some 104) rfl rfl Try.func24 (by kernel_rfl) rfl #[.slice AoF778 t776.length coF778, .slice AoF717 t715.length coF717] rfl (by (try simp only [List.map_toArray, List.map_cons, List.map_nil]); first | done | rfl | (simp only [List.length_drop, List.length_take]; rfl)) ?_; (with_reducible refine (laws_eqIntSS.calls k _ _ t776 _ _ t715 true _ ?side1 ?side2 ?side3 ?side4 AX32.out).mono ?_); (case side1 => repeat (first | exact (Kd.S_reads' F778.out).2.2 | (with_reducible refine Kd.C_alloc ?_ _) | (with_reducible refine Kd.C_drewN ?_ _) | (with_reducible refine Kd.C_drew ?_))); (case side2 => first | exact (Kd.S_reads' F778.out).2.1 | (have e_ := (Kd.S_reads' F778.out).1; have e2_ := (Kd.S_reads' F778.out).2.1; omega)); (case side3 => repeat (first | exact (Kd.S_reads' F717.out).2.2 | (with_reducible refine Kd.C_alloc ?_ _) | (with_reducible refine Kd.C_drewN ?_ _) | (with_reducible refine Kd.C_drew ?_))); (case side4 => first | exact (Kd.S_reads' F717.out).2.1 | (have e_ := (Kd.S_reads' F717.out).1; have e2_ := (Kd.S_reads' F717.out).2.1; omega)); rintro e w' ⟨rfl, ⟨nd, rfl⟩⟩; refine ⟨_, rfl, ?_⟩) | ((with_reducible refine gate_callee (f := 26) rfl ?_); refine goesL_ (some 113) rfl rfl Try.func26 (by kernel_rfl) rfl #[.slice AoF736 t762.length coF736, .int .i64 1] rfl (by (try simp only [List.map_toArray, List.map_cons, List.map_nil]); first | done | (rw [show t762.length = t734.length from (Kd.S_reads' F736.out).1.symm] <;> rfl) | rfl | (simp only [List.length_drop, List.length_take]; rfl)) ?_; (with_reducible refine (laws_heldIntSS.calls k _ _ t762 1 t784 _ ?side1 ?side2 AX35.out).mono ?_); (case side1 => repeat (first | exact (Kd.S_reads' F736.out).2.2 | (with_reducible refine Kd.C_alloc ?_ _) | (with_reducible refine Kd.C_drewN ?_ _) | (with_reducible refine Kd.C_drew ?_))); (case side2 => first | exact (Kd.S_reads' F736.out).2.1 | (have e_ := (Kd.S_reads' F736.out).1; have e2_ := (Kd.S_reads' F736.out).2.1; omega)); rintro e w' ⟨rfl, ⟨nd, rfl⟩⟩; refine ⟨_, rfl, ?_⟩))
                                go_ret
                                exact ⟨by first | rfl | (simp; done) | (simp [*]; done), by exact (by repeat (first | (with_reducible first | exact HB.out | apply below_alloc | apply pw_below_drewN | apply below_drew1) | exact HB.out))⟩
                              · rw [if_neg c37] at H
                                exact absurd H (by simp)
                        · rw [if_neg c33] at H
                          exact absurd H (by simp)
                      · rw [if_neg c28] at H
                        exact absurd H (by simp)
                · rw [if_neg c23] at H
                  exact absurd H (by simp)
            · rw [if_neg c18] at H
              exact absurd H (by simp)
          · rw [if_neg c15] at H
            exact absurd H (by simp)
      · rw [if_neg c11] at H
        exact absurd H (by simp)

end Go.Proofs.Ytjkddcnflpfinaa.PFnExactTrapBits
