-- Written by a program of this session (myprint.py: the kit's print.py, changed), out of the translation.
import Derived.Test.YtophklfiooklbaaPFnDiffusionx0
import Derived.Test.YtophklfiooklbaaPFnDiffusionx2
namespace Go.Proofs.Ytophklfiooklbaa.PFnDiffusion
open Go.RowKit Go.Proofs.YtophklfiooklbaaW.PrintWords Go.Proofs.YtophklfiooklbaaW.PrintLast Go.Proofs.YtophklfiooklbaaW.PrintMore
attribute [local go_sem] max2_int min2_int max_two min_two max_three min_three max_four min_four   -- for this text's walks alone
set_option linter.unusedVariables false
set_option linter.unusedSimpArgs false

/-! ### impl_DiffuseRow: function 19 -/
mutual
def impl_DiffuseRow.j0 : Nat → List Int → List Int → Bool → Option (List Int × List Int × Bool)
  | 0, _, _, _ => none
  | k + 1, x0, x1, x21 => if x21 = true then (some (([] : List Int), ([] : List Int), false)) else (if 32 ≤ 35184372088832 then (impl_DiffuseRow.l0 k x1 0 x0 (x0.length : Int) 0 (List.replicate 32 0) (List.replicate 32 0)) else (none))
def impl_DiffuseRow.l0 : Nat → List Int → Int → List Int → Int → Int → List Int → List Int → Option (List Int × List Int × Bool)
  | 0, _, _, _, _, _, _, _ => none
  | k + 1, x1, x7, x26, x27, x28, x198000, x198001 => if x28 < x27 then (if 0 ≤ x28 then (if x28 < (x26.length : Int) then (if x28 < (x1.length : Int) then (if (wrap64 ((wrap64 ((rd x26 x28) + (rd x1 x28))) + x7)) ≥ 128 then (if x28 < (x198000.length : Int) then ((impl_down.f (wrap64 (3 * (wrap64 ((wrap64 ((wrap64 ((rd x26 x28) + (rd x1 x28))) + x7)) - 255)))) 16).bind fun t203 => ((impl_down.f (wrap64 (5 * (wrap64 ((wrap64 ((wrap64 ((rd x26 x28) + (rd x1 x28))) + x7)) - 255)))) 16).bind fun t204 => ((impl_down.f (wrap64 ((wrap64 ((wrap64 ((rd x26 x28) + (rd x1 x28))) + x7)) - 255)) 16).bind fun t205 => (if 0 ≤ (mx 0 (wrap64 (x28 - 1))) then (if (mx 0 (wrap64 (x28 - 1))) < (x198001.length : Int) then ((some (x198001.set ((mx 0 (wrap64 (x28 - 1))) : Int).toNat (wrap64 ((rd x198001 (mx 0 (wrap64 (x28 - 1)))) + t203)) : List Int)).bind fun y207 => (if x28 < (x198001.length : Int) then ((some (y207.set (x28 : Int).toNat (wrap64 ((rd y207 x28) + t204)) : List Int)).bind fun y209 => (if 0 ≤ (mn 31 (wrap64 (x28 + 1))) then (if (mn 31 (wrap64 (x28 + 1))) < (x198001.length : Int) then (impl_DiffuseRow.l0 k x1 (wrap64 ((wrap64 ((wrap64 ((wrap64 ((wrap64 ((wrap64 ((rd x26 x28) + (rd x1 x28))) + x7)) - 255)) - t203)) - t204)) - t205)) x26 x27 (wrap64 (x28 + 1)) (x198000.set (x28 : Int).toNat 1) (y209.set ((mn 31 (wrap64 (x28 + 1))) : Int).toNat (wrap64 ((rd y209 (mn 31 (wrap64 (x28 + 1)))) + t205)))) else (none)) else (none))) else (none))) else (none)) else (none))))) else (none)) else ((impl_down.f (wrap64 (3 * (wrap64 ((wrap64 ((rd x26 x28) + (rd x1 x28))) + x7)))) 16).bind fun t212 => ((impl_down.f (wrap64 (5 * (wrap64 ((wrap64 ((rd x26 x28) + (rd x1 x28))) + x7)))) 16).bind fun t213 => ((impl_down.f (wrap64 ((wrap64 ((rd x26 x28) + (rd x1 x28))) + x7)) 16).bind fun t214 => (if 0 ≤ (mx 0 (wrap64 (x28 - 1))) then (if (mx 0 (wrap64 (x28 - 1))) < (x198001.length : Int) then ((some (x198001.set ((mx 0 (wrap64 (x28 - 1))) : Int).toNat (wrap64 ((rd x198001 (mx 0 (wrap64 (x28 - 1)))) + t212)) : List Int)).bind fun y216 => (if x28 < (x198001.length : Int) then ((some (y216.set (x28 : Int).toNat (wrap64 ((rd y216 x28) + t213)) : List Int)).bind fun y218 => (if 0 ≤ (mn 31 (wrap64 (x28 + 1))) then (if (mn 31 (wrap64 (x28 + 1))) < (x198001.length : Int) then (impl_DiffuseRow.l0 k x1 (wrap64 ((wrap64 ((wrap64 ((wrap64 ((wrap64 ((rd x26 x28) + (rd x1 x28))) + x7)) - t212)) - t213)) - t214)) x26 x27 (wrap64 (x28 + 1)) x198000 (y218.set ((mn 31 (wrap64 (x28 + 1))) : Int).toNat (wrap64 ((rd y218 (mn 31 (wrap64 (x28 + 1)))) + t214)))) else (none)) else (none))) else (none))) else (none)) else (none)))))) else (none)) else (none)) else (none)) else (if 31 < (x198001.length : Int) then (some (x198000, (x198001.set (31 : Int).toNat (wrap64 ((rd x198001 31) + x7))), true)) else (none))
end
def impl_DiffuseRow.f (k : Nat) (l0 : List Int) (l1 : List Int) : Option (List Int × List Int × Bool) := (impl_CarryOk.f k l1).bind fun t189 => (if t189 = true then ((impl_rowOk.f k l0).bind fun t190 => (impl_DiffuseRow.j0 k l0 l1 (!t190))) else (impl_DiffuseRow.j0 k l0 l1 true))
theorem impl_DiffuseRow.mono_l : ∀ k, (∀ y0 y1 y2, LeO (impl_DiffuseRow.j0 k y0 y1 y2) (impl_DiffuseRow.j0 (k + 1) y0 y1 y2)) ∧ (∀ y0 y1 y2 y3 y4 y5 y6, LeO (impl_DiffuseRow.l0 k y0 y1 y2 y3 y4 y5 y6) (impl_DiffuseRow.l0 (k + 1) y0 y1 y2 y3 y4 y5 y6))
  | 0 => ⟨fun _ _ _ r h => by simp [impl_DiffuseRow.j0] at h, fun _ _ _ _ _ _ _ r h => by simp [impl_DiffuseRow.l0] at h⟩
  | k + 1 => by
    obtain ⟨ih0, ih1⟩ := impl_DiffuseRow.mono_l k
    refine ⟨?_, ?_⟩
    · intro y0 y1 y2
      unfold impl_DiffuseRow.j0
      repeat' first
      | (with_reducible exact ih0 _ _ _)
      | (with_reducible exact ih1 _ _ _ _ _ _ _)
      | (with_reducible exact impl_CarryOk.mono _ _)
      | (with_reducible exact impl_rowOk.mono _ _)
      | (with_reducible exact LeO.refl _)
      | (with_reducible exact LeO.none _)
      | (with_reducible refine LeO.ite ?_ ?_)
      | (with_reducible refine LeO.bind ?_ (fun _ => ?_))
      | exact ih0 _ _ _
      | exact ih1 _ _ _ _ _ _ _
      | exact impl_CarryOk.mono _ _
      | exact impl_rowOk.mono _ _
      | exact LeO.none _
      | refine LeO.ite ?_ ?_
      | refine LeO.bind ?_ (fun _ => ?_)
    · intro y0 y1 y2 y3 y4 y5 y6
      unfold impl_DiffuseRow.l0
      repeat' first
      | (with_reducible exact ih0 _ _ _)
      | (with_reducible exact ih1 _ _ _ _ _ _ _)
      | (with_reducible exact impl_CarryOk.mono _ _)
      | (with_reducible exact impl_rowOk.mono _ _)
      | (with_reducible exact LeO.refl _)
      | (with_reducible exact LeO.none _)
      | (with_reducible refine LeO.ite ?_ ?_)
      | (with_reducible refine LeO.bind ?_ (fun _ => ?_))
      | exact ih0 _ _ _
      | exact ih1 _ _ _ _ _ _ _
      | exact impl_CarryOk.mono _ _
      | exact impl_rowOk.mono _ _
      | exact LeO.none _
      | refine LeO.ite ?_ ?_
      | refine LeO.bind ?_ (fun _ => ?_)
theorem impl_DiffuseRow.mono : ∀ a0 a1 k, LeO (impl_DiffuseRow.f k a0 a1) (impl_DiffuseRow.f (k + 1) a0 a1) := by
  intro a0 a1 k
  obtain ⟨ih0, ih1⟩ := impl_DiffuseRow.mono_l k
  unfold impl_DiffuseRow.f
  repeat' first
      | (with_reducible exact ih0 _ _ _)
      | (with_reducible exact ih1 _ _ _ _ _ _ _)
      | (with_reducible exact impl_CarryOk.mono _ _)
      | (with_reducible exact impl_rowOk.mono _ _)
      | (with_reducible exact LeO.refl _)
      | (with_reducible exact LeO.none _)
      | (with_reducible refine LeO.ite ?_ ?_)
      | (with_reducible refine LeO.bind ?_ (fun _ => ?_))
      | exact ih0 _ _ _
      | exact ih1 _ _ _ _ _ _ _
      | exact impl_CarryOk.mono _ _
      | exact impl_rowOk.mono _ _
      | exact LeO.none _
      | refine LeO.ite ?_ ?_
      | refine LeO.bind ?_ (fun _ => ?_)
set_option maxHeartbeats 8000000 in
set_option maxRecDepth 100000 in
theorem impl_DiffuseRow.calls (k : Nat) (A0 : Option Addr) (c0 : Nat) (l0 : List Int) (A1 : Option Addr) (c1 : Nat) (l1 : List Int) (r1 : List Int) (r2 : List Int) (r3 : Bool) (w : World) (hr0 : Kd.C (Kd.int .i64) w A0 l0.length l0) (hc0 : l0.length ≤ c0) (hr1 : Kd.C (Kd.int .i64) w A1 l1.length l1) (hc1 : l1.length ≤ c1) (h : impl_DiffuseRow.f k l0 l1 = some (r1, r2, r3)) :
    Calls Try.prog 19 #[.slice A0 l0.length c0, .slice A1 l1.length c1] w fun e w' => ∃ v0_ v1_ : Value, e = .returned (.tuple #[.agg #[v0_, v1_], .bool r3]) ∧ Kd.R (Kd.int .i64) 3 w' w.heap.size (fun k_ => some k_ ≠ (v1_ : Value).ownBlock) v0_ r1 ∧ Kd.R (Kd.int .i64) 3 w' w.heap.size (fun k_ => some k_ ≠ (v0_ : Value).ownBlock) v1_ r2 ∧ Below w.heap.size w w' := by
  have hu32 := Try.underlying32
  have HR0 := Aside0.mk hr0
  have HC0 := Aside0.mk hc0
  clear hr0 hc0
  have HR1 := Aside0.mk hr1
  have HC1 := Aside0.mk hc1
  clear hr1 hc1
  have HB := Aside0.mk (Below.refl w.heap.size w)
  have H : ((impl_CarryOk.f k l1).bind fun t189 => (if t189 = true then ((impl_rowOk.f k l0).bind fun t190 => (impl_DiffuseRow.j0 k l0 l1 (!t190))) else (impl_DiffuseRow.j0 k l0 l1 true))) = some (r1, r2, r3) := h
  clear h
  have HC3 := Aside0.mk H
  clear H
  go_enter Try.func19, Try.ntmps19
  go_upto_region 1 with (first | ((with_reducible refine gate_dst (N := 4) rfl ?_); refine box_event ?hg (N := 4) ?hd (cs := #[.slice none 0 0, .slice none 0 0]) (t := 32) ?hr ?_; (case hd => rfl); (case hg => rfl); (case hr => first | (go_simp; done) | (go_simp; rfl)); intro gb188 hg w4 hbox hb; have n0_ := Aside0.mk (below_step (by repeat (first | (with_reducible first | exact HB.out | apply below_alloc | apply pw_below_drewN | apply below_drew1) | exact HB.out)) hb); have n1_ := Aside0.mk (hbox); have n2_ := Aside0.mk ((by rw [hg]; exact (below_size (by repeat (first | (with_reducible first | exact HB.out | apply below_alloc | apply pw_below_drewN | apply below_drew1) | exact HB.out))) : w.heap.size ≤ gb188)); have n3_ := Aside0.mk ((by rw [hg]; exact (below_size (by repeat (first | (with_reducible first | exact HB.out | apply below_alloc | apply pw_below_drewN | apply below_drew1) | exact HB.out))) : w.heap.size ≤ gb188)); clear HB; have HB := n0_; have BK188 := n1_; have GW188 := n2_; have GE188 := n3_; clear n0_ n1_ n2_ n3_; clear hb hbox hg))
  (try simp only [Act.put, List.setIfInBounds_toArray, List.set_cons_zero, List.set_cons_succ])
  go_cut [21] (fun v21 wc => ∃ (kq : Nat) (x21_2 : Bool), v21 = .bool x21_2 ∧ Aside0 (impl_DiffuseRow.j0 kq l0 l1 x21_2 = some (r1, r2, r3)) ∧ Aside0 (kq ≤ k) ∧ Aside0 (wc.heap[gb188]? = some (.cells #[(.slice none 0 0), (.slice none 0 0)] 32 (0, 0))) ∧ Aside0 (Below w.heap.size w wc))
  case first =>
    have H := HC3.out
    clear HC3
    replace H := Option.bind_eq_some_iff.mp H
    obtain ⟨t189, A50, H⟩ := H
    replace H : (if t189 = true then ((impl_rowOk.f k l0).bind fun t190 => (impl_DiffuseRow.j0 k l0 l1 (!t190))) else (impl_DiffuseRow.j0 k l0 l1 true)) = some (r1, r2, r3) := H
    have A5 := Aside0.mk A50
    clear A50
    by_cases c6 : t189 = true
    · subst c6
      have H1 : ((impl_rowOk.f k l0).bind fun t190 => (impl_DiffuseRow.j0 k l0 l1 (!t190))) = some (r1, r2, r3) := by rw [if_pos rfl] at H; exact H
      clear H
      have H := H1
      clear H1
      replace H := Option.bind_eq_some_iff.mp H
      obtain ⟨t190, A70, H⟩ := H
      replace H : (impl_DiffuseRow.j0 k l0 l1 (!t190)) = some (r1, r2, r3) := H
      have A7 := Aside0.mk A70
      clear A70
      have H' := Aside0.mk H
      clear H
      go_wp2_with (first | ((with_reducible refine gate_callee (f := 29) rfl ?_); refine goesL_ (some 15) rfl rfl Try.func29 (by kernel_rfl) rfl #[.slice A1 l1.length c1] rfl (by (try simp only [List.map_toArray, List.map_cons, List.map_nil]); first | done | rfl | (simp only [List.length_drop, List.length_take]; rfl)) ?_; (with_reducible refine (impl_CarryOk.calls k _ _ l1 true _ ?side1 ?side2 A5.out).mono ?_); (case side1 => repeat (first | exact (Kd.C_below HR1.out HB.out) | (with_reducible refine Kd.C_alloc ?_ _) | (with_reducible refine Kd.C_drewN ?_ _) | (with_reducible refine Kd.C_drew ?_))); (case side2 => exact HC1.out); rintro e w' ⟨rfl, ⟨nd, rfl⟩⟩; refine ⟨_, rfl, ?_⟩) | (go_at_call 56; (with_reducible refine (impl_rowOk.calls k _ _ l0 t190 _ ?side1 ?side2 A7.out).mono ?_); (case side1 => repeat (first | exact (Kd.C_below HR0.out (by repeat (first | (with_reducible first | exact HB.out | apply below_alloc | apply pw_below_drewN | apply below_drew1 | refine below_set ?_ GE188.out) | exact HB.out))) | (with_reducible refine Kd.C_alloc ?_ _) | (with_reducible refine Kd.C_drewN ?_ _) | (with_reducible refine Kd.C_drew ?_))); (case side2 => exact HC0.out); rintro e w' ⟨rfl, ⟨nd, rfl⟩⟩))
      go_meet
      case rel => exact ⟨_, (!t190), (by first | rfl | (simp; done) | (simp [*]; done)), H', ⟨by first | omega | exact Nat.le_refl _⟩, ⟨by (with_reducible repeat (first | refine blk_drewN ?_ _ | refine blk_drew ?_ | refine blk_alloc ?_ _)); exact BK188.out⟩, ⟨by repeat (first | (with_reducible first | exact HB.out | apply below_alloc | apply pw_below_drewN | apply below_drew1 | refine below_set ?_ GE188.out) | exact HB.out)⟩⟩
    · replace c6 := Bool.eq_false_iff.mpr c6
      subst c6
      have H1 : (impl_DiffuseRow.j0 k l0 l1 true) = some (r1, r2, r3) := by rw [if_neg (show ¬ (false = true) by decide)] at H; exact H
      clear H
      have H := H1
      clear H1
      have H' := Aside0.mk H
      clear H
      go_wp2_with (first | ((with_reducible refine gate_callee (f := 29) rfl ?_); refine goesL_ (some 15) rfl rfl Try.func29 (by kernel_rfl) rfl #[.slice A1 l1.length c1] rfl (by (try simp only [List.map_toArray, List.map_cons, List.map_nil]); first | done | rfl | (simp only [List.length_drop, List.length_take]; rfl)) ?_; (with_reducible refine (impl_CarryOk.calls k _ _ l1 false _ ?side1 ?side2 A5.out).mono ?_); (case side1 => repeat (first | exact (Kd.C_below HR1.out HB.out) | (with_reducible refine Kd.C_alloc ?_ _) | (with_reducible refine Kd.C_drewN ?_ _) | (with_reducible refine Kd.C_drew ?_))); (case side2 => exact HC1.out); rintro e w' ⟨rfl, ⟨nd, rfl⟩⟩; refine ⟨_, rfl, ?_⟩))
      go_meet
      case rel => exact ⟨_, (true), (by first | rfl | (simp; done) | (simp [*]; done)), H', ⟨by first | omega | exact Nat.le_refl _⟩, ⟨by (with_reducible repeat (first | refine blk_drewN ?_ _ | refine blk_drew ?_ | refine blk_alloc ?_ _)); exact BK188.out⟩, ⟨by repeat (first | (with_reducible first | exact HB.out | apply below_alloc | apply pw_below_drewN | apply below_drew1 | refine below_set ?_ GE188.out) | exact HB.out)⟩⟩
  case rest =>
    clear HC3
    try clear c1
    try clear c2
    try clear p2
    try clear c6
    obtain ⟨kq, x21_2, rfl, HA, HJ2, BK188, HB⟩ := hcut
    cases kq with
    | zero => exact absurd HA.out (by simp [impl_DiffuseRow.j0])
    | succ kj2 =>
      have H := HA.out
      clear HA
      simp only [impl_DiffuseRow.j0] at H
      by_cases c8 : x21_2 = true
      · subst c8
        have H1 : (some (([] : List Int), ([] : List Int), false)) = some (r1, r2, r3) := by rw [if_pos rfl] at H; exact H
        clear H
        have H := H1
        clear H1
        simp only [Option.some.injEq, Prod.mk.injEq] at H
        obtain ⟨rfl, rfl, rfl⟩ := H
        have hcz9_0 : wc.cell? ⟨gb188, 0, none⟩ = some (.slice none 0 0) := (blk_cell BK188.out 0).trans rfl
        have hcz9_1 : wc.cell? ⟨gb188, 1, none⟩ = some (.slice none 0 0) := (blk_cell BK188.out 1).trans rfl
        have hfz9_0 := blk_frozen BK188.out 0
        have hfz9_1 := blk_frozen BK188.out 1
        go_wp2
        refine bodyPost_ret (results_ct rfl _ _ gb188 32 #[.slice none 0 0, .slice none 0 0] (0, 0) _ rfl (by (with_reducible repeat (first | refine blk_drewN ?_ _ | refine blk_drew ?_ | refine blk_alloc ?_ _)); refine blk_put (cs := #[.slice none 0 0, .slice none 0 0]) ?_ 1 _ rfl; (with_reducible repeat (first | refine blk_drewN ?_ _ | refine blk_drew ?_ | refine blk_alloc ?_ _)); refine blk_put (cs := #[.slice none 0 0, .slice none 0 0]) ?_ 0 _ rfl; (with_reducible repeat (first | refine blk_drewN ?_ _ | refine blk_drew ?_ | refine blk_alloc ?_ _)); exact BK188.out) Try.underlying32 rfl (by kernel_rfl)) rfl ?_
        exact ⟨_, _, by first | rfl | (simp [errW_none, errW_some] <;> rfl) | (simp [*, errW_none, errW_some] <;> rfl), by first | exact Kd.R_nil _ _ _ _ _ | exact Kd.N_nil _ _ _ _ _ | exact Kd.V_nil _ _ _ _ _ | exact Kd.Q_nil _ _ _ _ _ | exact Kd.S_nil _ _ _ _ _, by first | exact Kd.R_nil _ _ _ _ _ | exact Kd.N_nil _ _ _ _ _ | exact Kd.V_nil _ _ _ _ _ | exact Kd.Q_nil _ _ _ _ _ | exact Kd.S_nil _ _ _ _ _, by repeat (first | (with_reducible first | exact HB.out | apply below_alloc | apply pw_below_drewN | apply below_drew1 | refine below_set ?_ GE188.out) | exact HB.out)⟩
      · replace c8 := Bool.eq_false_iff.mpr c8
        subst c8
        have H1 : (if 32 ≤ 35184372088832 then (impl_DiffuseRow.l0 kj2 l1 0 l0 (l0.length : Int) 0 (List.replicate 32 0) (List.replicate 32 0)) else (none)) = some (r1, r2, r3) := by rw [if_neg (show ¬ (false = true) by decide)] at H; exact H
        clear H
        have H := H1
        clear H1
        by_cases c10 : 32 ≤ 35184372088832
        · rw [if_pos c10] at H
          have c10b0 := eq_true c10
          have c10b1 : decide (32 ≤ 35184372088832) = true := decide_eq_true c10
          clear c10
          obtain ⟨y191, hy191⟩ : ∃ y_ : List Int, y_ = (List.replicate 32 0) := ⟨_, rfl⟩
          replace H : (impl_DiffuseRow.l0 kj2 l1 0 l0 (l0.length : Int) 0 y191 (List.replicate 32 0)) = some (r1, r2, r3) := by first | (rw [hy191]; with_reducible exact H) | (have H2_ := (Option.bind_some _ _).symm.trans H; rw [hy191]; with_reducible exact H2_) | (have H2_ := (Option.bind_some _ _).symm.trans H; with_reducible exact H2_) | with_reducible exact H | (rw [hy191]; exact H) | exact H
          have Ny191 := Aside0.mk hy191
          clear hy191
          obtain ⟨y194, hy194⟩ : ∃ y_ : List Int, y_ = (List.replicate 32 0) := ⟨_, rfl⟩
          replace H : (impl_DiffuseRow.l0 kj2 l1 0 l0 (l0.length : Int) 0 y191 y194) = some (r1, r2, r3) := by first | (rw [hy194]; with_reducible exact H) | (have H2_ := (Option.bind_some _ _).symm.trans H; rw [hy194]; with_reducible exact H2_) | (have H2_ := (Option.bind_some _ _).symm.trans H; with_reducible exact H2_) | with_reducible exact H | (rw [hy194]; exact H) | exact H
          have Ny194 := Aside0.mk hy194
          clear hy194
          have H' := Aside0.mk H
          clear H
          try go_wp2
          have n0_ := Aside0.mk (blk_drew BK188.out)
          have n1_ := Aside0.mk (below_drew1 HB.out)
          clear BK188
          clear HB
          have BK188 := n0_
          have HB := n1_
          clear n0_ n1_
          refine start_ (n := 5) (S := fun w' => True) (ds := []) #[false, false, false, false, false] (by kernel_rfl) rfl rfl trivial (fun hHeld => ?_)
          generalize wc.drew = w11 at BK188 HB hHeld ⊢
          refine join_ (σ := Value × Value × Nat) 1 #[true, true, true, true, false] (fun s_ => [(23, s_.1), (24, s_.2.1), (6, .pointer (some ⟨s_.2.2, 0, none⟩)), (25, .agg #[s_.1, s_.2.1])]) (fun s_ w' => (Kd.R (Kd.int .i64) 3 w' w.heap.size (fun k_ => some k_ ≠ (s_.2.1 : Value).ownBlock) s_.1 y191) ∧ (Kd.R (Kd.int .i64) 3 w' w.heap.size (fun k_ => some k_ ≠ (s_.1 : Value).ownBlock) s_.2.1 y194) ∧ (w'.heap[gb188]? = some (.cells #[.slice none 0 0, .slice none 0 0] 32 (0, 0))) ∧ (w'.heap[s_.2.2]? = some (.cells #[.slice none 0 0, .slice none 0 0] 32 (0, 0))) ∧ (w.heap.size ≤ s_.2.2) ∧ (w.heap.size ≤ s_.2.2) ∧ (gb188 ≠ s_.2.2) ∧ (s_.2.2 ≠ gb188) ∧ (Below w.heap.size w w')) ?_ ?_
          rotate_left
          · intro hJ0_1_3
            refine join_ (σ := Value × Value) 2 #[true, true, true, false, false] (fun s_ => [(23, s_.1), (24, s_.2), (25, .agg #[s_.1, s_.2])]) (fun s_ w' => (Kd.R (Kd.int .i64) 3 w' w.heap.size (fun k_ => some k_ ≠ (s_.2 : Value).ownBlock) s_.1 y191) ∧ (Kd.R (Kd.int .i64) 3 w' w.heap.size (fun k_ => some k_ ≠ (s_.1 : Value).ownBlock) s_.2 y194) ∧ (w'.heap[gb188]? = some (.cells #[.slice none 0 0, .slice none 0 0] 32 (0, 0))) ∧ (Below w.heap.size w w')) ?_ ?_
            rotate_left
            · intro hJ0_1
              refine join_ (σ := Value × Nat) 3 #[true, false, false, true, false] (fun s_ => [(23, s_.1), (6, .pointer (some ⟨s_.2, 0, none⟩))]) (fun s_ w' => (Kd.R (Kd.int .i64) 3 w' w.heap.size (fun _ => True) s_.1 y191) ∧ (w'.heap[gb188]? = some (.cells #[.slice none 0 0, .slice none 0 0] 32 (0, 0))) ∧ (w'.heap[s_.2]? = some (.cells #[.slice none 0 0, .slice none 0 0] 32 (0, 0))) ∧ (w.heap.size ≤ s_.2) ∧ (w.heap.size ≤ s_.2) ∧ (gb188 ≠ s_.2) ∧ (s_.2 ≠ gb188) ∧ (Below w.heap.size w w')) ?_ ?_
              rotate_left
              · intro hJ0_3
                refine join_ (σ := Value × Nat) 3 #[false, true, false, true, false] (fun s_ => [(24, s_.1), (6, .pointer (some ⟨s_.2, 0, none⟩))]) (fun s_ w' => (Kd.R (Kd.int .i64) 3 w' w.heap.size (fun _ => True) s_.1 y194) ∧ (w'.heap[gb188]? = some (.cells #[.slice none 0 0, .slice none 0 0] 32 (0, 0))) ∧ (w'.heap[s_.2]? = some (.cells #[.slice none 0 0, .slice none 0 0] 32 (0, 0))) ∧ (w.heap.size ≤ s_.2) ∧ (w.heap.size ≤ s_.2) ∧ (gb188 ≠ s_.2) ∧ (s_.2 ≠ gb188) ∧ (Below w.heap.size w w')) ?_ ?_
                rotate_left
                · intro hJ1_3
                  refine join_ (σ := Value) 4 #[true, false, false, false, false] (fun s_ => [(23, s_)]) (fun s_ w' => (Kd.R (Kd.int .i64) 3 w' w.heap.size (fun _ => True) s_ y191) ∧ (w'.heap[gb188]? = some (.cells #[.slice none 0 0, .slice none 0 0] 32 (0, 0))) ∧ (Below w.heap.size w w')) ?_ ?_
                  rotate_left
                  · intro hJ0
                    refine join_ (σ := Value) 4 #[false, true, false, false, false] (fun s_ => [(24, s_)]) (fun s_ w' => (Kd.R (Kd.int .i64) 3 w' w.heap.size (fun _ => True) s_ y194) ∧ (w'.heap[gb188]? = some (.cells #[.slice none 0 0, .slice none 0 0] 32 (0, 0))) ∧ (Below w.heap.size w w')) ?_ ?_
                    rotate_left
                    · intro hJ1
                      refine join_ (σ := Nat) 4 #[false, false, false, true, false] (fun s_ => [(6, .pointer (some ⟨s_, 0, none⟩))]) (fun s_ w' => (w'.heap[gb188]? = some (.cells #[.slice none 0 0, .slice none 0 0] 32 (0, 0))) ∧ (w'.heap[s_]? = some (.cells #[.slice none 0 0, .slice none 0 0] 32 (0, 0))) ∧ (w.heap.size ≤ s_) ∧ (w.heap.size ≤ s_) ∧ (gb188 ≠ s_) ∧ (s_ ≠ gb188) ∧ (Below w.heap.size w w')) ?_ ?_
                      rotate_left
                      · intro hJ3
                        refine three_ (i := 0) (j := 1) (k := 3) (Ni := some 23) (Nj := some 24) (Nk := some 6) #[true, false, false, false, false] #[false, true, false, false, false] #[false, false, false, true, false] rfl rfl rfl rfl rfl rfl (by kernel_rfl) (by decide) (by decide) (by decide) (fun K hK => ?_) (fun K hK => ?_) (fun K hK => ?_)
                        · skip
                          refine Kd.R_make_step (Kd.int .i64) _ 3 (by rfl) (N := 23) rfl 26 _ _ rfl 32 rfl rfl Try.underlying26 (.int .i64 0) 8 info3 rfl (by decide) (by omega) 0 (ok := fun _ => True) (okp := fun _ => True) rfl (fun _ hk => hk) trivial (by omega) (by omega) (Below.refl _ _) (Nat.le_refl _) ?_
                          intro v192 w12 ho13 hb hg_ hnew_
                          clear hg_ hnew_
                          (first | rw [← Ny191.out] at ho13 | (simp only [Int.reduceToNat] at ho13; rw [← Ny191.out] at ho13))
                          have n0_ := Aside0.mk (Kd.R_lower ho13 (below_size (by repeat (first | (with_reducible first | exact HB.out | apply below_alloc | apply pw_below_drewN | apply below_drew1 | refine below_set ?_ GE188.out) | exact HB.out))))
                          have n1_ := Aside0.mk (blk_below (g := gb188) (o := .cells #[.slice none 0 0, .slice none 0 0] 32 (0, 0)) (by (with_reducible repeat (first | refine blk_drewN ?_ _ | refine blk_drew ?_ | refine blk_alloc ?_ _)); exact BK188.out) hb)
                          have n2_ := Aside0.mk (below_step (by repeat (first | (with_reducible first | exact HB.out | apply below_alloc | apply pw_below_drewN | apply below_drew1 | refine below_set ?_ GE188.out) | exact HB.out)) hb)
                          clear BK188
                          clear HB
                          have HO193 := n0_
                          have BK188 := n1_
                          have HB := n2_
                          clear n0_ n1_ n2_
                          clear hb ho13
                          refine hK.out _ _ trivial (fun hHeld => ?_)
                          clear hK K
                          refine norm_ (a' := ?_) ?_ ?_
                          rotate_left
                          · show Act.put _ (some 23) _ = _
                            simp only [Act.put, List.setIfInBounds_toArray, List.set_cons_zero, List.set_cons_succ, i64_w, i32_w]
                            rfl
                          exact norm_ (by first | (simp only [putAll, Act.put, List.setIfInBounds_toArray, List.set_cons_zero, List.set_cons_succ]; done) | (simp only [putAll, Act.put, List.setIfInBounds_toArray, List.set_cons_zero, List.set_cons_succ]; rfl)) (hJ0 (v192) _ ⟨(by (with_reducible repeat (first | apply Kd.R_alloc | apply Kd.R_drewN | apply Kd.R_drew)); exact HO193.out), (by (with_reducible repeat (first | refine blk_drewN ?_ _ | refine blk_drew ?_ | refine blk_alloc ?_ _)); exact BK188.out), (by repeat (first | (with_reducible first | exact HB.out | apply below_alloc | apply pw_below_drewN | apply below_drew1 | refine below_set ?_ GE188.out) | exact HB.out))⟩)
                        · skip
                          refine Kd.R_make_step (Kd.int .i64) _ 3 (by rfl) (N := 24) rfl 26 _ _ rfl 32 rfl rfl Try.underlying26 (.int .i64 0) 8 info3 rfl (by decide) (by omega) 0 (ok := fun _ => True) (okp := fun _ => True) rfl (fun _ hk => hk) trivial (by omega) (by omega) (Below.refl _ _) (Nat.le_refl _) ?_
                          intro v195 w12 ho13 hb hg_ hnew_
                          clear hg_ hnew_
                          (first | rw [← Ny194.out] at ho13 | (simp only [Int.reduceToNat] at ho13; rw [← Ny194.out] at ho13))
                          have n0_ := Aside0.mk (Kd.R_lower ho13 (below_size (by repeat (first | (with_reducible first | exact HB.out | apply below_alloc | apply pw_below_drewN | apply below_drew1 | refine below_set ?_ GE188.out) | exact HB.out))))
                          have n1_ := Aside0.mk (blk_below (g := gb188) (o := .cells #[.slice none 0 0, .slice none 0 0] 32 (0, 0)) (by (with_reducible repeat (first | refine blk_drewN ?_ _ | refine blk_drew ?_ | refine blk_alloc ?_ _)); exact BK188.out) hb)
                          have n2_ := Aside0.mk (below_step (by repeat (first | (with_reducible first | exact HB.out | apply below_alloc | apply pw_below_drewN | apply below_drew1 | refine below_set ?_ GE188.out) | exact HB.out)) hb)
                          clear BK188
                          clear HB
                          have HO196 := n0_
                          have BK188 := n1_
                          have HB := n2_
                          clear n0_ n1_ n2_
                          clear hb ho13
                          refine hK.out _ _ trivial (fun hHeld => ?_)
                          clear hK K
                          refine norm_ (a' := ?_) ?_ ?_
                          rotate_left
                          · show Act.put _ (some 24) _ = _
                            simp only [Act.put, List.setIfInBounds_toArray, List.set_cons_zero, List.set_cons_succ, i64_w, i32_w]
                            rfl
                          exact norm_ (by first | (simp only [putAll, Act.put, List.setIfInBounds_toArray, List.set_cons_zero, List.set_cons_succ]; done) | (simp only [putAll, Act.put, List.setIfInBounds_toArray, List.set_cons_zero, List.set_cons_succ]; rfl)) (hJ1 (v195) _ ⟨(by (with_reducible repeat (first | apply Kd.R_alloc | apply Kd.R_drewN | apply Kd.R_drew)); exact HO196.out), (by (with_reducible repeat (first | refine blk_drewN ?_ _ | refine blk_drew ?_ | refine blk_alloc ?_ _)); exact BK188.out), (by repeat (first | (with_reducible first | exact HB.out | apply below_alloc | apply pw_below_drewN | apply below_drew1 | refine below_set ?_ GE188.out) | exact HB.out))⟩)
                        · skip
                          refine box_step ?hg (N := 6) ?hd (cs := #[.slice none 0 0, .slice none 0 0]) (t := 32) ?hr ?_; (case hd => rfl); (case hg => rfl); (case hr => first | (go_simp; done) | (go_simp; rfl))
                          intro gb197 hg w12 hbox hb
                          have n0_ := Aside0.mk (blk_below (g := gb188) (o := .cells #[.slice none 0 0, .slice none 0 0] 32 (0, 0)) (by (with_reducible repeat (first | refine blk_drewN ?_ _ | refine blk_drew ?_ | refine blk_alloc ?_ _)); exact BK188.out) hb)
                          have n1_ := Aside0.mk (below_step (by repeat (first | (with_reducible first | exact HB.out | apply below_alloc | apply pw_below_drewN | apply below_drew1 | refine below_set ?_ GE188.out) | exact HB.out)) hb)
                          have n2_ := Aside0.mk (hbox)
                          have n3_ := Aside0.mk ((by rw [hg]; exact (below_size (by repeat (first | (with_reducible first | exact HB.out | apply below_alloc | apply pw_below_drewN | apply below_drew1 | refine below_set ?_ GE188.out) | exact HB.out))) : w.heap.size ≤ gb197))
                          have n4_ := Aside0.mk ((by rw [hg]; exact (below_size (by repeat (first | (with_reducible first | exact HB.out | apply below_alloc | apply pw_below_drewN | apply below_drew1 | refine below_set ?_ GE188.out) | exact HB.out))) : w.heap.size ≤ gb197))
                          have n5_ := Aside0.mk ((by rw [hg]; exact Nat.ne_of_lt (blk_lt (g := gb188) (o := .cells #[.slice none 0 0, .slice none 0 0] 32 (0, 0)) (by (with_reducible repeat (first | refine blk_drewN ?_ _ | refine blk_drew ?_ | refine blk_alloc ?_ _)); exact BK188.out)) : gb188 ≠ gb197))
                          have n6_ := Aside0.mk ((by rw [hg]; exact Nat.ne_of_gt (blk_lt (g := gb188) (o := .cells #[.slice none 0 0, .slice none 0 0] 32 (0, 0)) (by (with_reducible repeat (first | refine blk_drewN ?_ _ | refine blk_drew ?_ | refine blk_alloc ?_ _)); exact BK188.out)) : gb197 ≠ gb188))
                          clear BK188
                          clear HB
                          have BK188 := n0_
                          have HB := n1_
                          have BK197 := n2_
                          have GW197 := n3_
                          have GE197 := n4_
                          have NB188_197 := n5_
                          have NB197_188 := n6_
                          clear n0_ n1_ n2_ n3_ n4_ n5_ n6_
                          clear hb hbox hg
                          refine hK.out _ _ trivial (fun hHeld => ?_)
                          clear hK K
                          refine norm_ (a' := ?_) ?_ ?_
                          rotate_left
                          · show Act.put _ (some 6) _ = _
                            simp only [Act.put, List.setIfInBounds_toArray, List.set_cons_zero, List.set_cons_succ, i64_w, i32_w]
                            rfl
                          exact norm_ (by first | (simp only [putAll, Act.put, List.setIfInBounds_toArray, List.set_cons_zero, List.set_cons_succ]; done) | (simp only [putAll, Act.put, List.setIfInBounds_toArray, List.set_cons_zero, List.set_cons_succ]; rfl)) (hJ3 (gb197) _ ⟨(by (with_reducible repeat (first | refine blk_drewN ?_ _ | refine blk_drew ?_ | refine blk_alloc ?_ _)); exact BK188.out), (by (with_reducible repeat (first | refine blk_drewN ?_ _ | refine blk_drew ?_ | refine blk_alloc ?_ _)); exact BK197.out), GW197.out, GE197.out, NB188_197.out, NB197_188.out, (by repeat (first | (with_reducible first | exact HB.out | apply below_alloc | apply pw_below_drewN | apply below_drew1 | refine below_set ?_ GE188.out | refine below_set ?_ GE197.out) | exact HB.out))⟩)
                      · skip
                        rintro gb197 w13 ⟨h0_, h1_, h2_, h3_, h4_, h5_, h6_⟩
                        have n0_ : Aside0 (w13.heap[gb188]? = some (.cells #[.slice none 0 0, .slice none 0 0] 32 (0, 0))) := ⟨h0_⟩
                        have n1_ : Aside0 (w13.heap[gb197]? = some (.cells #[.slice none 0 0, .slice none 0 0] 32 (0, 0))) := ⟨h1_⟩
                        have n2_ : Aside0 (w.heap.size ≤ gb197) := ⟨h2_⟩
                        have n3_ : Aside0 (w.heap.size ≤ gb197) := ⟨h3_⟩
                        have n4_ : Aside0 (gb188 ≠ gb197) := ⟨h4_⟩
                        have n5_ : Aside0 (gb197 ≠ gb188) := ⟨h5_⟩
                        have n6_ : Aside0 (Below w.heap.size w w13) := ⟨h6_⟩
                        clear BK188
                        clear HB
                        clear h0_ h1_ h2_ h3_ h4_ h5_ h6_
                        have BK188 := n0_
                        have BK197 := n1_
                        have GW197 := n2_
                        have GE197 := n3_
                        have NB188_197 := n4_
                        have NB197_188 := n5_
                        have HB := n6_
                        clear n0_ n1_ n2_ n3_ n4_ n5_ n6_
                        have hHeld := trivial
                        refine norm_ (a' := ?_) ?_ ?_
                        rotate_left
                        · simp only [putAll, Act.put, List.setIfInBounds_toArray, List.set_cons_zero, List.set_cons_succ]
                          rfl
                        refine two_ (i := 0) (j := 1) (Ni := some 23) (Nj := some 24) #[true, false, false, true, false] #[false, true, false, true, false] rfl rfl rfl rfl (by kernel_rfl) (by decide) (by decide) (fun K hK => ?_) (fun K hK => ?_)
                        · skip
                          refine Kd.R_make_step (Kd.int .i64) _ 3 (by rfl) (N := 23) rfl 26 _ _ rfl 32 rfl rfl Try.underlying26 (.int .i64 0) 8 info3 rfl (by decide) (by omega) 0 (ok := fun _ => True) (okp := fun _ => True) rfl (fun _ hk => hk) trivial (by omega) (by omega) (Below.refl _ _) (Nat.le_refl _) ?_
                          intro v192 w14 ho15 hb hg_ hnew_
                          clear hg_ hnew_
                          (first | rw [← Ny191.out] at ho15 | (simp only [Int.reduceToNat] at ho15; rw [← Ny191.out] at ho15))
                          have n0_ := Aside0.mk (Kd.R_lower ho15 (below_size (by repeat (first | (with_reducible first | exact HB.out | apply below_alloc | apply pw_below_drewN | apply below_drew1 | refine below_set ?_ GE188.out | refine below_set ?_ GE197.out) | exact HB.out))))
                          have n1_ := Aside0.mk (blk_below (g := gb188) (o := .cells #[.slice none 0 0, .slice none 0 0] 32 (0, 0)) (by (with_reducible repeat (first | refine blk_drewN ?_ _ | refine blk_drew ?_ | refine blk_alloc ?_ _)); exact BK188.out) hb)
                          have n2_ := Aside0.mk (blk_below (g := gb197) (o := .cells #[.slice none 0 0, .slice none 0 0] 32 (0, 0)) (by (with_reducible repeat (first | refine blk_drewN ?_ _ | refine blk_drew ?_ | refine blk_alloc ?_ _)); exact BK197.out) hb)
                          have n3_ := Aside0.mk (below_step (by repeat (first | (with_reducible first | exact HB.out | apply below_alloc | apply pw_below_drewN | apply below_drew1 | refine below_set ?_ GE188.out | refine below_set ?_ GE197.out) | exact HB.out)) hb)
                          clear BK188
                          clear BK197
                          clear HB
                          have HO193 := n0_
                          have BK188 := n1_
                          have BK197 := n2_
                          have HB := n3_
                          clear n0_ n1_ n2_ n3_
                          clear hb ho15
                          refine hK.out _ _ trivial (fun hHeld => ?_)
                          clear hK K
                          refine norm_ (a' := ?_) ?_ ?_
                          rotate_left
                          · show Act.put _ (some 23) _ = _
                            simp only [Act.put, List.setIfInBounds_toArray, List.set_cons_zero, List.set_cons_succ, i64_w, i32_w]
                            rfl
                          exact norm_ (by first | (simp only [putAll, Act.put, List.setIfInBounds_toArray, List.set_cons_zero, List.set_cons_succ]; done) | (simp only [putAll, Act.put, List.setIfInBounds_toArray, List.set_cons_zero, List.set_cons_succ]; rfl)) (hJ0_3 (v192, gb197) _ ⟨(by (with_reducible repeat (first | apply Kd.R_alloc | apply Kd.R_drewN | apply Kd.R_drew)); exact HO193.out), (by (with_reducible repeat (first | refine blk_drewN ?_ _ | refine blk_drew ?_ | refine blk_alloc ?_ _)); exact BK188.out), (by (with_reducible repeat (first | refine blk_drewN ?_ _ | refine blk_drew ?_ | refine blk_alloc ?_ _)); exact BK197.out), GW197.out, GE197.out, NB188_197.out, NB197_188.out, (by repeat (first | (with_reducible first | exact HB.out | apply below_alloc | apply pw_below_drewN | apply below_drew1 | refine below_set ?_ GE188.out | refine below_set ?_ GE197.out) | exact HB.out))⟩)
                        · skip
                          refine Kd.R_make_step (Kd.int .i64) _ 3 (by rfl) (N := 24) rfl 26 _ _ rfl 32 rfl rfl Try.underlying26 (.int .i64 0) 8 info3 rfl (by decide) (by omega) 0 (ok := fun _ => True) (okp := fun _ => True) rfl (fun _ hk => hk) trivial (by omega) (by omega) (Below.refl _ _) (Nat.le_refl _) ?_
                          intro v195 w14 ho15 hb hg_ hnew_
                          clear hg_ hnew_
                          (first | rw [← Ny194.out] at ho15 | (simp only [Int.reduceToNat] at ho15; rw [← Ny194.out] at ho15))
                          have n0_ := Aside0.mk (Kd.R_lower ho15 (below_size (by repeat (first | (with_reducible first | exact HB.out | apply below_alloc | apply pw_below_drewN | apply below_drew1 | refine below_set ?_ GE188.out | refine below_set ?_ GE197.out) | exact HB.out))))
                          have n1_ := Aside0.mk (blk_below (g := gb188) (o := .cells #[.slice none 0 0, .slice none 0 0] 32 (0, 0)) (by (with_reducible repeat (first | refine blk_drewN ?_ _ | refine blk_drew ?_ | refine blk_alloc ?_ _)); exact BK188.out) hb)
                          have n2_ := Aside0.mk (blk_below (g := gb197) (o := .cells #[.slice none 0 0, .slice none 0 0] 32 (0, 0)) (by (with_reducible repeat (first | refine blk_drewN ?_ _ | refine blk_drew ?_ | refine blk_alloc ?_ _)); exact BK197.out) hb)
                          have n3_ := Aside0.mk (below_step (by repeat (first | (with_reducible first | exact HB.out | apply below_alloc | apply pw_below_drewN | apply below_drew1 | refine below_set ?_ GE188.out | refine below_set ?_ GE197.out) | exact HB.out)) hb)
                          clear BK188
                          clear BK197
                          clear HB
                          have HO196 := n0_
                          have BK188 := n1_
                          have BK197 := n2_
                          have HB := n3_
                          clear n0_ n1_ n2_ n3_
                          clear hb ho15
                          refine hK.out _ _ trivial (fun hHeld => ?_)
                          clear hK K
                          refine norm_ (a' := ?_) ?_ ?_
                          rotate_left
                          · show Act.put _ (some 24) _ = _
                            simp only [Act.put, List.setIfInBounds_toArray, List.set_cons_zero, List.set_cons_succ, i64_w, i32_w]
                            rfl
                          exact norm_ (by first | (simp only [putAll, Act.put, List.setIfInBounds_toArray, List.set_cons_zero, List.set_cons_succ]; done) | (simp only [putAll, Act.put, List.setIfInBounds_toArray, List.set_cons_zero, List.set_cons_succ]; rfl)) (hJ1_3 (v195, gb197) _ ⟨(by (with_reducible repeat (first | apply Kd.R_alloc | apply Kd.R_drewN | apply Kd.R_drew)); exact HO196.out), (by (with_reducible repeat (first | refine blk_drewN ?_ _ | refine blk_drew ?_ | refine blk_alloc ?_ _)); exact BK188.out), (by (with_reducible repeat (first | refine blk_drewN ?_ _ | refine blk_drew ?_ | refine blk_alloc ?_ _)); exact BK197.out), GW197.out, GE197.out, NB188_197.out, NB197_188.out, (by repeat (first | (with_reducible first | exact HB.out | apply below_alloc | apply pw_below_drewN | apply below_drew1 | refine below_set ?_ GE188.out | refine below_set ?_ GE197.out) | exact HB.out))⟩)
                    · skip
                      rintro v195 w14 ⟨h0_, h1_, h2_⟩
                      have n0_ : Aside0 (Kd.R (Kd.int .i64) 3 w14 w.heap.size (fun _ => True) v195 y194) := ⟨h0_⟩
                      have n1_ : Aside0 (w14.heap[gb188]? = some (.cells #[.slice none 0 0, .slice none 0 0] 32 (0, 0))) := ⟨h1_⟩
                      have n2_ : Aside0 (Below w.heap.size w w14) := ⟨h2_⟩
                      clear BK188
                      clear HB
                      clear h0_ h1_ h2_
                      have HO196 := n0_
                      have BK188 := n1_
                      have HB := n2_
                      clear n0_ n1_ n2_
                      have hHeld := trivial
                      refine norm_ (a' := ?_) ?_ ?_
                      rotate_left
                      · simp only [putAll, Act.put, List.setIfInBounds_toArray, List.set_cons_zero, List.set_cons_succ]
                        rfl
                      refine two_ (i := 0) (j := 3) (Ni := some 23) (Nj := some 6) #[true, true, false, false, false] #[false, true, false, true, false] rfl rfl rfl rfl (by kernel_rfl) (by decide) (by decide) (fun K hK => ?_) (fun K hK => ?_)
                      · skip
                        refine Kd.R_make_step (Kd.int .i64) _ 3 (by rfl) (N := 23) rfl 26 _ _ rfl 32 rfl rfl Try.underlying26 (.int .i64 0) 8 info3 rfl (by decide) (by omega) 0 (ok := fun _ => True) (okp := fun _ => True) rfl (fun _ hk => hk) trivial (by omega) (by omega) (Below.refl _ _) (Nat.le_refl _) ?_
                        intro v192 w15 ho16 hb hg_ hnew_
                        clear hg_ hnew_
                        (first | rw [← Ny191.out] at ho16 | (simp only [Int.reduceToNat] at ho16; rw [← Ny191.out] at ho16))
                        have n0_ := Aside0.mk (Kd.R_elder' (by (with_reducible repeat (first | apply Kd.R_alloc | apply Kd.R_drewN | apply Kd.R_drew)); exact HO196.out) (Kd.R_base ho16) hb)
                        have n1_ := Aside0.mk (Kd.R_lower (Kd.R_new' ho16 (Kd.R_lt (by (with_reducible repeat (first | apply Kd.R_alloc | apply Kd.R_drewN | apply Kd.R_drew)); exact HO196.out))) (below_size (by repeat (first | (with_reducible first | exact HB.out | apply below_alloc | apply pw_below_drewN | apply below_drew1 | refine below_set ?_ GE188.out) | exact HB.out))))
                        have n2_ := Aside0.mk (blk_below (g := gb188) (o := .cells #[.slice none 0 0, .slice none 0 0] 32 (0, 0)) (by (with_reducible repeat (first | refine blk_drewN ?_ _ | refine blk_drew ?_ | refine blk_alloc ?_ _)); exact BK188.out) hb)
                        have n3_ := Aside0.mk (below_step (by repeat (first | (with_reducible first | exact HB.out | apply below_alloc | apply pw_below_drewN | apply below_drew1 | refine below_set ?_ GE188.out) | exact HB.out)) hb)
                        clear HO196
                        clear BK188
                        clear HB
                        have HO196 := n0_
                        have HO193 := n1_
                        have BK188 := n2_
                        have HB := n3_
                        clear n0_ n1_ n2_ n3_
                        clear hb ho16
                        obtain ⟨Ao17, co17, eo17⟩ := Kd.R_slice HO196.out
                        (first | subst eo17 | (injection eo17 with f1_ f2_ f3_; have f4_ := f1_.symm; have f5_ := f3_.symm; clear f1_ f2_ f3_; subst f4_; subst f5_))
                        obtain ⟨Ao18, co18, eo18⟩ := Kd.R_slice HO193.out
                        (first | subst eo18 | (injection eo18 with f1_ f2_ f3_; have f4_ := f1_.symm; have f5_ := f3_.symm; clear f1_ f2_ f3_; subst f4_; subst f5_))
                        refine hK.out _ _ trivial (fun hHeld => ?_)
                        clear hK K
                        refine norm_ (a' := ?_) ?_ ?_
                        rotate_left
                        · show Act.put _ (some 23) _ = _
                          simp only [Act.put, List.setIfInBounds_toArray, List.set_cons_zero, List.set_cons_succ, i64_w, i32_w]
                          rfl
                        refine pure_ (i := 2) (N := some 25) (v := ?_) (a' := ?_) #[true, true, true, false, false] rfl rfl (by kernel_rfl) (fun _ _ _ h => h) (Or.inl ⟨by rfl, ?_⟩) ?_ ?_
                        rotate_left
                        · intro w'
                          go_simp
                          with_reducible rfl
                        rotate_left
                        · simp only [Act.put, List.setIfInBounds_toArray, List.set_cons_zero, List.set_cons_succ, i64_w, i32_w]
                          rfl
                        exact norm_ (by first | (simp only [putAll, Act.put, List.setIfInBounds_toArray, List.set_cons_zero, List.set_cons_succ]; done) | (simp only [putAll, Act.put, List.setIfInBounds_toArray, List.set_cons_zero, List.set_cons_succ]; rfl)) (hJ0_1 (.slice Ao18 y191.length co18, .slice Ao17 y194.length co17) _ ⟨(by (with_reducible repeat (first | apply Kd.R_alloc | apply Kd.R_drewN | apply Kd.R_drew)); exact Kd.R_mono HO193.out (fun _ hk => by first | exact hk.2 | exact hk | exact trivial | exact hk.1 | exact hk.2 | exact hk.1.1 | exact hk.1.2)), (by (with_reducible repeat (first | apply Kd.R_alloc | apply Kd.R_drewN | apply Kd.R_drew)); exact Kd.R_mono HO196.out (fun _ hk => by first | exact hk.2 | exact hk | exact trivial | exact hk.1 | exact hk.2 | exact hk.1.1 | exact hk.1.2)), (by (with_reducible repeat (first | refine blk_drewN ?_ _ | refine blk_drew ?_ | refine blk_alloc ?_ _)); exact BK188.out), (by repeat (first | (with_reducible first | exact HB.out | apply below_alloc | apply pw_below_drewN | apply below_drew1 | refine below_set ?_ GE188.out) | exact HB.out))⟩)
                      · skip
                        refine box_step ?hg (N := 6) ?hd (cs := #[.slice none 0 0, .slice none 0 0]) (t := 32) ?hr ?_; (case hd => rfl); (case hg => rfl); (case hr => first | (go_simp; done) | (go_simp; rfl))
                        intro gb197 hg w15 hbox hb
                        have n0_ := Aside0.mk (Kd.R_below (by (with_reducible repeat (first | apply Kd.R_alloc | apply Kd.R_drewN | apply Kd.R_drew)); exact HO196.out) hb)
                        have n1_ := Aside0.mk (blk_below (g := gb188) (o := .cells #[.slice none 0 0, .slice none 0 0] 32 (0, 0)) (by (with_reducible repeat (first | refine blk_drewN ?_ _ | refine blk_drew ?_ | refine blk_alloc ?_ _)); exact BK188.out) hb)
                        have n2_ := Aside0.mk (below_step (by repeat (first | (with_reducible first | exact HB.out | apply below_alloc | apply pw_below_drewN | apply below_drew1 | refine below_set ?_ GE188.out) | exact HB.out)) hb)
                        have n3_ := Aside0.mk (hbox)
                        have n4_ := Aside0.mk ((by rw [hg]; exact (below_size (by repeat (first | (with_reducible first | exact HB.out | apply below_alloc | apply pw_below_drewN | apply below_drew1 | refine below_set ?_ GE188.out) | exact HB.out))) : w.heap.size ≤ gb197))
                        have n5_ := Aside0.mk ((by rw [hg]; exact (below_size (by repeat (first | (with_reducible first | exact HB.out | apply below_alloc | apply pw_below_drewN | apply below_drew1 | refine below_set ?_ GE188.out) | exact HB.out))) : w.heap.size ≤ gb197))
                        have n6_ := Aside0.mk ((by rw [hg]; exact Nat.ne_of_lt (blk_lt (g := gb188) (o := .cells #[.slice none 0 0, .slice none 0 0] 32 (0, 0)) (by (with_reducible repeat (first | refine blk_drewN ?_ _ | refine blk_drew ?_ | refine blk_alloc ?_ _)); exact BK188.out)) : gb188 ≠ gb197))
                        have n7_ := Aside0.mk ((by rw [hg]; exact Nat.ne_of_gt (blk_lt (g := gb188) (o := .cells #[.slice none 0 0, .slice none 0 0] 32 (0, 0)) (by (with_reducible repeat (first | refine blk_drewN ?_ _ | refine blk_drew ?_ | refine blk_alloc ?_ _)); exact BK188.out)) : gb197 ≠ gb188))
                        clear HO196
                        clear BK188
                        clear HB
                        have HO196 := n0_
                        have BK188 := n1_
                        have HB := n2_
                        have BK197 := n3_
                        have GW197 := n4_
                        have GE197 := n5_
                        have NB188_197 := n6_
                        have NB197_188 := n7_
                        clear n0_ n1_ n2_ n3_ n4_ n5_ n6_ n7_
                        clear hb hbox hg
                        refine hK.out _ _ trivial (fun hHeld => ?_)
                        clear hK K
                        refine norm_ (a' := ?_) ?_ ?_
                        rotate_left
                        · show Act.put _ (some 6) _ = _
                          simp only [Act.put, List.setIfInBounds_toArray, List.set_cons_zero, List.set_cons_succ, i64_w, i32_w]
                          rfl
                        exact norm_ (by first | (simp only [putAll, Act.put, List.setIfInBounds_toArray, List.set_cons_zero, List.set_cons_succ]; done) | (simp only [putAll, Act.put, List.setIfInBounds_toArray, List.set_cons_zero, List.set_cons_succ]; rfl)) (hJ1_3 (v195, gb197) _ ⟨(by (with_reducible repeat (first | apply Kd.R_alloc | apply Kd.R_drewN | apply Kd.R_drew)); exact HO196.out), (by (with_reducible repeat (first | refine blk_drewN ?_ _ | refine blk_drew ?_ | refine blk_alloc ?_ _)); exact BK188.out), (by (with_reducible repeat (first | refine blk_drewN ?_ _ | refine blk_drew ?_ | refine blk_alloc ?_ _)); exact BK197.out), GW197.out, GE197.out, NB188_197.out, NB197_188.out, (by repeat (first | (with_reducible first | exact HB.out | apply below_alloc | apply pw_below_drewN | apply below_drew1 | refine below_set ?_ GE188.out | refine below_set ?_ GE197.out) | exact HB.out))⟩)
                  · skip
                    rintro v192 w14 ⟨h0_, h1_, h2_⟩
                    have n0_ : Aside0 (Kd.R (Kd.int .i64) 3 w14 w.heap.size (fun _ => True) v192 y191) := ⟨h0_⟩
                    have n1_ : Aside0 (w14.heap[gb188]? = some (.cells #[.slice none 0 0, .slice none 0 0] 32 (0, 0))) := ⟨h1_⟩
                    have n2_ : Aside0 (Below w.heap.size w w14) := ⟨h2_⟩
                    clear BK188
                    clear HB
                    clear h0_ h1_ h2_
                    have HO193 := n0_
                    have BK188 := n1_
                    have HB := n2_
                    clear n0_ n1_ n2_
                    have hHeld := trivial
                    refine norm_ (a' := ?_) ?_ ?_
                    rotate_left
                    · simp only [putAll, Act.put, List.setIfInBounds_toArray, List.set_cons_zero, List.set_cons_succ]
                      rfl
                    refine two_ (i := 1) (j := 3) (Ni := some 24) (Nj := some 6) #[true, true, false, false, false] #[true, false, false, true, false] rfl rfl rfl rfl (by kernel_rfl) (by decide) (by decide) (fun K hK => ?_) (fun K hK => ?_)
                    · skip
                      refine Kd.R_make_step (Kd.int .i64) _ 3 (by rfl) (N := 24) rfl 26 _ _ rfl 32 rfl rfl Try.underlying26 (.int .i64 0) 8 info3 rfl (by decide) (by omega) 0 (ok := fun _ => True) (okp := fun _ => True) rfl (fun _ hk => hk) trivial (by omega) (by omega) (Below.refl _ _) (Nat.le_refl _) ?_
                      intro v195 w15 ho16 hb hg_ hnew_
                      clear hg_ hnew_
                      (first | rw [← Ny194.out] at ho16 | (simp only [Int.reduceToNat] at ho16; rw [← Ny194.out] at ho16))
                      have n0_ := Aside0.mk (Kd.R_elder' (by (with_reducible repeat (first | apply Kd.R_alloc | apply Kd.R_drewN | apply Kd.R_drew)); exact HO193.out) (Kd.R_base ho16) hb)
                      have n1_ := Aside0.mk (Kd.R_lower (Kd.R_new' ho16 (Kd.R_lt (by (with_reducible repeat (first | apply Kd.R_alloc | apply Kd.R_drewN | apply Kd.R_drew)); exact HO193.out))) (below_size (by repeat (first | (with_reducible first | exact HB.out | apply below_alloc | apply pw_below_drewN | apply below_drew1 | refine below_set ?_ GE188.out) | exact HB.out))))
                      have n2_ := Aside0.mk (blk_below (g := gb188) (o := .cells #[.slice none 0 0, .slice none 0 0] 32 (0, 0)) (by (with_reducible repeat (first | refine blk_drewN ?_ _ | refine blk_drew ?_ | refine blk_alloc ?_ _)); exact BK188.out) hb)
                      have n3_ := Aside0.mk (below_step (by repeat (first | (with_reducible first | exact HB.out | apply below_alloc | apply pw_below_drewN | apply below_drew1 | refine below_set ?_ GE188.out) | exact HB.out)) hb)
                      clear HO193
                      clear BK188
                      clear HB
                      have HO193 := n0_
                      have HO196 := n1_
                      have BK188 := n2_
                      have HB := n3_
                      clear n0_ n1_ n2_ n3_
                      clear hb ho16
                      obtain ⟨Ao17, co17, eo17⟩ := Kd.R_slice HO196.out
                      (first | subst eo17 | (injection eo17 with f1_ f2_ f3_; have f4_ := f1_.symm; have f5_ := f3_.symm; clear f1_ f2_ f3_; subst f4_; subst f5_))
                      obtain ⟨Ao18, co18, eo18⟩ := Kd.R_slice HO193.out
                      (first | subst eo18 | (injection eo18 with f1_ f2_ f3_; have f4_ := f1_.symm; have f5_ := f3_.symm; clear f1_ f2_ f3_; subst f4_; subst f5_))
                      refine hK.out _ _ trivial (fun hHeld => ?_)
                      clear hK K
                      refine norm_ (a' := ?_) ?_ ?_
                      rotate_left
                      · show Act.put _ (some 24) _ = _
                        simp only [Act.put, List.setIfInBounds_toArray, List.set_cons_zero, List.set_cons_succ, i64_w, i32_w]
                        rfl
                      refine pure_ (i := 2) (N := some 25) (v := ?_) (a' := ?_) #[true, true, true, false, false] rfl rfl (by kernel_rfl) (fun _ _ _ h => h) (Or.inl ⟨by rfl, ?_⟩) ?_ ?_
                      rotate_left
                      · intro w'
                        go_simp
                        with_reducible rfl
                      rotate_left
                      · simp only [Act.put, List.setIfInBounds_toArray, List.set_cons_zero, List.set_cons_succ, i64_w, i32_w]
                        rfl
                      exact norm_ (by first | (simp only [putAll, Act.put, List.setIfInBounds_toArray, List.set_cons_zero, List.set_cons_succ]; done) | (simp only [putAll, Act.put, List.setIfInBounds_toArray, List.set_cons_zero, List.set_cons_succ]; rfl)) (hJ0_1 (.slice Ao18 y191.length co18, .slice Ao17 y194.length co17) _ ⟨(by (with_reducible repeat (first | apply Kd.R_alloc | apply Kd.R_drewN | apply Kd.R_drew)); exact Kd.R_mono HO193.out (fun _ hk => by first | exact hk.2 | exact hk | exact trivial | exact hk.1 | exact hk.2 | exact hk.1.1 | exact hk.1.2)), (by (with_reducible repeat (first | apply Kd.R_alloc | apply Kd.R_drewN | apply Kd.R_drew)); exact Kd.R_mono HO196.out (fun _ hk => by first | exact hk.2 | exact hk | exact trivial | exact hk.1 | exact hk.2 | exact hk.1.1 | exact hk.1.2)), (by (with_reducible repeat (first | refine blk_drewN ?_ _ | refine blk_drew ?_ | refine blk_alloc ?_ _)); exact BK188.out), (by repeat (first | (with_reducible first | exact HB.out | apply below_alloc | apply pw_below_drewN | apply below_drew1 | refine below_set ?_ GE188.out) | exact HB.out))⟩)
                    · skip
                      refine box_step ?hg (N := 6) ?hd (cs := #[.slice none 0 0, .slice none 0 0]) (t := 32) ?hr ?_; (case hd => rfl); (case hg => rfl); (case hr => first | (go_simp; done) | (go_simp; rfl))
                      intro gb197 hg w15 hbox hb
                      have n0_ := Aside0.mk (Kd.R_below (by (with_reducible repeat (first | apply Kd.R_alloc | apply Kd.R_drewN | apply Kd.R_drew)); exact HO193.out) hb)
                      have n1_ := Aside0.mk (blk_below (g := gb188) (o := .cells #[.slice none 0 0, .slice none 0 0] 32 (0, 0)) (by (with_reducible repeat (first | refine blk_drewN ?_ _ | refine blk_drew ?_ | refine blk_alloc ?_ _)); exact BK188.out) hb)
                      have n2_ := Aside0.mk (below_step (by repeat (first | (with_reducible first | exact HB.out | apply below_alloc | apply pw_below_drewN | apply below_drew1 | refine below_set ?_ GE188.out) | exact HB.out)) hb)
                      have n3_ := Aside0.mk (hbox)
                      have n4_ := Aside0.mk ((by rw [hg]; exact (below_size (by repeat (first | (with_reducible first | exact HB.out | apply below_alloc | apply pw_below_drewN | apply below_drew1 | refine below_set ?_ GE188.out) | exact HB.out))) : w.heap.size ≤ gb197))
                      have n5_ := Aside0.mk ((by rw [hg]; exact (below_size (by repeat (first | (with_reducible first | exact HB.out | apply below_alloc | apply pw_below_drewN | apply below_drew1 | refine below_set ?_ GE188.out) | exact HB.out))) : w.heap.size ≤ gb197))
                      have n6_ := Aside0.mk ((by rw [hg]; exact Nat.ne_of_lt (blk_lt (g := gb188) (o := .cells #[.slice none 0 0, .slice none 0 0] 32 (0, 0)) (by (with_reducible repeat (first | refine blk_drewN ?_ _ | refine blk_drew ?_ | refine blk_alloc ?_ _)); exact BK188.out)) : gb188 ≠ gb197))
                      have n7_ := Aside0.mk ((by rw [hg]; exact Nat.ne_of_gt (blk_lt (g := gb188) (o := .cells #[.slice none 0 0, .slice none 0 0] 32 (0, 0)) (by (with_reducible repeat (first | refine blk_drewN ?_ _ | refine blk_drew ?_ | refine blk_alloc ?_ _)); exact BK188.out)) : gb197 ≠ gb188))
                      clear HO193
                      clear BK188
                      clear HB
                      have HO193 := n0_
                      have BK188 := n1_
                      have HB := n2_
                      have BK197 := n3_
                      have GW197 := n4_
                      have GE197 := n5_
                      have NB188_197 := n6_
                      have NB197_188 := n7_
                      clear n0_ n1_ n2_ n3_ n4_ n5_ n6_ n7_
                      clear hb hbox hg
                      refine hK.out _ _ trivial (fun hHeld => ?_)
                      clear hK K
                      refine norm_ (a' := ?_) ?_ ?_
                      rotate_left
                      · show Act.put _ (some 6) _ = _
                        simp only [Act.put, List.setIfInBounds_toArray, List.set_cons_zero, List.set_cons_succ, i64_w, i32_w]
                        rfl
                      exact norm_ (by first | (simp only [putAll, Act.put, List.setIfInBounds_toArray, List.set_cons_zero, List.set_cons_succ]; done) | (simp only [putAll, Act.put, List.setIfInBounds_toArray, List.set_cons_zero, List.set_cons_succ]; rfl)) (hJ0_3 (v192, gb197) _ ⟨(by (with_reducible repeat (first | apply Kd.R_alloc | apply Kd.R_drewN | apply Kd.R_drew)); exact HO193.out), (by (with_reducible repeat (first | refine blk_drewN ?_ _ | refine blk_drew ?_ | refine blk_alloc ?_ _)); exact BK188.out), (by (with_reducible repeat (first | refine blk_drewN ?_ _ | refine blk_drew ?_ | refine blk_alloc ?_ _)); exact BK197.out), GW197.out, GE197.out, NB188_197.out, NB197_188.out, (by repeat (first | (with_reducible first | exact HB.out | apply below_alloc | apply pw_below_drewN | apply below_drew1 | refine below_set ?_ GE188.out | refine below_set ?_ GE197.out) | exact HB.out))⟩)
                · skip
                  rintro ⟨v195, gb197⟩ w15 ⟨h0_, h1_, h2_, h3_, h4_, h5_, h6_, h7_⟩
                  have n0_ : Aside0 (Kd.R (Kd.int .i64) 3 w15 w.heap.size (fun _ => True) v195 y194) := ⟨h0_⟩
                  have n1_ : Aside0 (w15.heap[gb188]? = some (.cells #[.slice none 0 0, .slice none 0 0] 32 (0, 0))) := ⟨h1_⟩
                  have n2_ : Aside0 (w15.heap[gb197]? = some (.cells #[.slice none 0 0, .slice none 0 0] 32 (0, 0))) := ⟨h2_⟩
                  have n3_ : Aside0 (w.heap.size ≤ gb197) := ⟨h3_⟩
                  have n4_ : Aside0 (w.heap.size ≤ gb197) := ⟨h4_⟩
                  have n5_ : Aside0 (gb188 ≠ gb197) := ⟨h5_⟩
                  have n6_ : Aside0 (gb197 ≠ gb188) := ⟨h6_⟩
                  have n7_ : Aside0 (Below w.heap.size w w15) := ⟨h7_⟩
                  clear BK188
                  clear HB
                  clear h0_ h1_ h2_ h3_ h4_ h5_ h6_ h7_
                  have HO196 := n0_
                  have BK188 := n1_
                  have BK197 := n2_
                  have GW197 := n3_
                  have GE197 := n4_
                  have NB188_197 := n5_
                  have NB197_188 := n6_
                  have HB := n7_
                  clear n0_ n1_ n2_ n3_ n4_ n5_ n6_ n7_
                  have hHeld := trivial
                  refine norm_ (a' := ?_) ?_ ?_
                  rotate_left
                  · simp only [putAll, Act.put, List.setIfInBounds_toArray, List.set_cons_zero, List.set_cons_succ]
                    rfl
                  refine one_ (i := 0) (N := some 23) #[true, true, false, true, false] rfl rfl (by kernel_rfl) (by decide) (fun K hK => ?_)
                  refine Kd.R_make_step (Kd.int .i64) _ 3 (by rfl) (N := 23) rfl 26 _ _ rfl 32 rfl rfl Try.underlying26 (.int .i64 0) 8 info3 rfl (by decide) (by omega) 0 (ok := fun _ => True) (okp := fun _ => True) rfl (fun _ hk => hk) trivial (by omega) (by omega) (Below.refl _ _) (Nat.le_refl _) ?_
                  intro v192 w16 ho17 hb hg_ hnew_
                  clear hg_ hnew_
                  (first | rw [← Ny191.out] at ho17 | (simp only [Int.reduceToNat] at ho17; rw [← Ny191.out] at ho17))
                  have n0_ := Aside0.mk (Kd.R_elder' (by (with_reducible repeat (first | apply Kd.R_alloc | apply Kd.R_drewN | apply Kd.R_drew)); exact HO196.out) (Kd.R_base ho17) hb)
                  have n1_ := Aside0.mk (Kd.R_lower (Kd.R_new' ho17 (Kd.R_lt (by (with_reducible repeat (first | apply Kd.R_alloc | apply Kd.R_drewN | apply Kd.R_drew)); exact HO196.out))) (below_size (by repeat (first | (with_reducible first | exact HB.out | apply below_alloc | apply pw_below_drewN | apply below_drew1 | refine below_set ?_ GE188.out | refine below_set ?_ GE197.out) | exact HB.out))))
                  have n2_ := Aside0.mk (blk_below (g := gb188) (o := .cells #[.slice none 0 0, .slice none 0 0] 32 (0, 0)) (by (with_reducible repeat (first | refine blk_drewN ?_ _ | refine blk_drew ?_ | refine blk_alloc ?_ _)); exact BK188.out) hb)
                  have n3_ := Aside0.mk (blk_below (g := gb197) (o := .cells #[.slice none 0 0, .slice none 0 0] 32 (0, 0)) (by (with_reducible repeat (first | refine blk_drewN ?_ _ | refine blk_drew ?_ | refine blk_alloc ?_ _)); exact BK197.out) hb)
                  have n4_ := Aside0.mk (below_step (by repeat (first | (with_reducible first | exact HB.out | apply below_alloc | apply pw_below_drewN | apply below_drew1 | refine below_set ?_ GE188.out | refine below_set ?_ GE197.out) | exact HB.out)) hb)
                  clear HO196
                  clear BK188
                  clear BK197
                  clear HB
                  have HO196 := n0_
                  have HO193 := n1_
                  have BK188 := n2_
                  have BK197 := n3_
                  have HB := n4_
                  clear n0_ n1_ n2_ n3_ n4_
                  clear hb ho17
                  obtain ⟨Ao18, co18, eo18⟩ := Kd.R_slice HO196.out
                  (first | subst eo18 | (injection eo18 with f1_ f2_ f3_; have f4_ := f1_.symm; have f5_ := f3_.symm; clear f1_ f2_ f3_; subst f4_; subst f5_))
                  obtain ⟨Ao19, co19, eo19⟩ := Kd.R_slice HO193.out
                  (first | subst eo19 | (injection eo19 with f1_ f2_ f3_; have f4_ := f1_.symm; have f5_ := f3_.symm; clear f1_ f2_ f3_; subst f4_; subst f5_))
                  refine hK.out _ _ trivial (fun hHeld => ?_)
                  clear hK K
                  refine norm_ (a' := ?_) ?_ ?_
                  rotate_left
                  · show Act.put _ (some 23) _ = _
                    simp only [Act.put, List.setIfInBounds_toArray, List.set_cons_zero, List.set_cons_succ, i64_w, i32_w]
                    rfl
                  refine pure_ (i := 2) (N := some 25) (v := ?_) (a' := ?_) #[true, true, true, true, false] rfl rfl (by kernel_rfl) (fun _ _ _ h => h) (Or.inl ⟨by rfl, ?_⟩) ?_ ?_
                  rotate_left
                  · intro w'
                    go_simp
                    with_reducible rfl
                  rotate_left
                  · simp only [Act.put, List.setIfInBounds_toArray, List.set_cons_zero, List.set_cons_succ, i64_w, i32_w]
                    rfl
                  exact norm_ (by first | (simp only [putAll, Act.put, List.setIfInBounds_toArray, List.set_cons_zero, List.set_cons_succ]; done) | (simp only [putAll, Act.put, List.setIfInBounds_toArray, List.set_cons_zero, List.set_cons_succ]; rfl)) (hJ0_1_3 (.slice Ao19 y191.length co19, .slice Ao18 y194.length co18, gb197) _ ⟨(by (with_reducible repeat (first | apply Kd.R_alloc | apply Kd.R_drewN | apply Kd.R_drew)); exact Kd.R_mono HO193.out (fun _ hk => by first | exact hk.2 | exact hk | exact trivial | exact hk.1 | exact hk.2 | exact hk.1.1 | exact hk.1.2)), (by (with_reducible repeat (first | apply Kd.R_alloc | apply Kd.R_drewN | apply Kd.R_drew)); exact Kd.R_mono HO196.out (fun _ hk => by first | exact hk.2 | exact hk | exact trivial | exact hk.1 | exact hk.2 | exact hk.1.1 | exact hk.1.2)), (by (with_reducible repeat (first | refine blk_drewN ?_ _ | refine blk_drew ?_ | refine blk_alloc ?_ _)); exact BK188.out), (by (with_reducible repeat (first | refine blk_drewN ?_ _ | refine blk_drew ?_ | refine blk_alloc ?_ _)); exact BK197.out), GW197.out, GE197.out, NB188_197.out, NB197_188.out, (by repeat (first | (with_reducible first | exact HB.out | apply below_alloc | apply pw_below_drewN | apply below_drew1 | refine below_set ?_ GE188.out | refine below_set ?_ GE197.out) | exact HB.out))⟩)
              · skip
                rintro ⟨v192, gb197⟩ w15 ⟨h0_, h1_, h2_, h3_, h4_, h5_, h6_, h7_⟩
                have n0_ : Aside0 (Kd.R (Kd.int .i64) 3 w15 w.heap.size (fun _ => True) v192 y191) := ⟨h0_⟩
                have n1_ : Aside0 (w15.heap[gb188]? = some (.cells #[.slice none 0 0, .slice none 0 0] 32 (0, 0))) := ⟨h1_⟩
                have n2_ : Aside0 (w15.heap[gb197]? = some (.cells #[.slice none 0 0, .slice none 0 0] 32 (0, 0))) := ⟨h2_⟩
                have n3_ : Aside0 (w.heap.size ≤ gb197) := ⟨h3_⟩
                have n4_ : Aside0 (w.heap.size ≤ gb197) := ⟨h4_⟩
                have n5_ : Aside0 (gb188 ≠ gb197) := ⟨h5_⟩
                have n6_ : Aside0 (gb197 ≠ gb188) := ⟨h6_⟩
                have n7_ : Aside0 (Below w.heap.size w w15) := ⟨h7_⟩
                clear BK188
                clear HB
                clear h0_ h1_ h2_ h3_ h4_ h5_ h6_ h7_
                have HO193 := n0_
                have BK188 := n1_
                have BK197 := n2_
                have GW197 := n3_
                have GE197 := n4_
                have NB188_197 := n5_
                have NB197_188 := n6_
                have HB := n7_
                clear n0_ n1_ n2_ n3_ n4_ n5_ n6_ n7_
                have hHeld := trivial
                refine norm_ (a' := ?_) ?_ ?_
                rotate_left
                · simp only [putAll, Act.put, List.setIfInBounds_toArray, List.set_cons_zero, List.set_cons_succ]
                  rfl
                refine one_ (i := 1) (N := some 24) #[true, true, false, true, false] rfl rfl (by kernel_rfl) (by decide) (fun K hK => ?_)
                refine Kd.R_make_step (Kd.int .i64) _ 3 (by rfl) (N := 24) rfl 26 _ _ rfl 32 rfl rfl Try.underlying26 (.int .i64 0) 8 info3 rfl (by decide) (by omega) 0 (ok := fun _ => True) (okp := fun _ => True) rfl (fun _ hk => hk) trivial (by omega) (by omega) (Below.refl _ _) (Nat.le_refl _) ?_
                intro v195 w16 ho17 hb hg_ hnew_
                clear hg_ hnew_
                (first | rw [← Ny194.out] at ho17 | (simp only [Int.reduceToNat] at ho17; rw [← Ny194.out] at ho17))
                have n0_ := Aside0.mk (Kd.R_elder' (by (with_reducible repeat (first | apply Kd.R_alloc | apply Kd.R_drewN | apply Kd.R_drew)); exact HO193.out) (Kd.R_base ho17) hb)
                have n1_ := Aside0.mk (Kd.R_lower (Kd.R_new' ho17 (Kd.R_lt (by (with_reducible repeat (first | apply Kd.R_alloc | apply Kd.R_drewN | apply Kd.R_drew)); exact HO193.out))) (below_size (by repeat (first | (with_reducible first | exact HB.out | apply below_alloc | apply pw_below_drewN | apply below_drew1 | refine below_set ?_ GE188.out | refine below_set ?_ GE197.out) | exact HB.out))))
                have n2_ := Aside0.mk (blk_below (g := gb188) (o := .cells #[.slice none 0 0, .slice none 0 0] 32 (0, 0)) (by (with_reducible repeat (first | refine blk_drewN ?_ _ | refine blk_drew ?_ | refine blk_alloc ?_ _)); exact BK188.out) hb)
                have n3_ := Aside0.mk (blk_below (g := gb197) (o := .cells #[.slice none 0 0, .slice none 0 0] 32 (0, 0)) (by (with_reducible repeat (first | refine blk_drewN ?_ _ | refine blk_drew ?_ | refine blk_alloc ?_ _)); exact BK197.out) hb)
                have n4_ := Aside0.mk (below_step (by repeat (first | (with_reducible first | exact HB.out | apply below_alloc | apply pw_below_drewN | apply below_drew1 | refine below_set ?_ GE188.out | refine below_set ?_ GE197.out) | exact HB.out)) hb)
                clear HO193
                clear BK188
                clear BK197
                clear HB
                have HO193 := n0_
                have HO196 := n1_
                have BK188 := n2_
                have BK197 := n3_
                have HB := n4_
                clear n0_ n1_ n2_ n3_ n4_
                clear hb ho17
                obtain ⟨Ao18, co18, eo18⟩ := Kd.R_slice HO196.out
                (first | subst eo18 | (injection eo18 with f1_ f2_ f3_; have f4_ := f1_.symm; have f5_ := f3_.symm; clear f1_ f2_ f3_; subst f4_; subst f5_))
                obtain ⟨Ao19, co19, eo19⟩ := Kd.R_slice HO193.out
                (first | subst eo19 | (injection eo19 with f1_ f2_ f3_; have f4_ := f1_.symm; have f5_ := f3_.symm; clear f1_ f2_ f3_; subst f4_; subst f5_))
                refine hK.out _ _ trivial (fun hHeld => ?_)
                clear hK K
                refine norm_ (a' := ?_) ?_ ?_
                rotate_left
                · show Act.put _ (some 24) _ = _
                  simp only [Act.put, List.setIfInBounds_toArray, List.set_cons_zero, List.set_cons_succ, i64_w, i32_w]
                  rfl
                refine pure_ (i := 2) (N := some 25) (v := ?_) (a' := ?_) #[true, true, true, true, false] rfl rfl (by kernel_rfl) (fun _ _ _ h => h) (Or.inl ⟨by rfl, ?_⟩) ?_ ?_
                rotate_left
                · intro w'
                  go_simp
                  with_reducible rfl
                rotate_left
                · simp only [Act.put, List.setIfInBounds_toArray, List.set_cons_zero, List.set_cons_succ, i64_w, i32_w]
                  rfl
                exact norm_ (by first | (simp only [putAll, Act.put, List.setIfInBounds_toArray, List.set_cons_zero, List.set_cons_succ]; done) | (simp only [putAll, Act.put, List.setIfInBounds_toArray, List.set_cons_zero, List.set_cons_succ]; rfl)) (hJ0_1_3 (.slice Ao19 y191.length co19, .slice Ao18 y194.length co18, gb197) _ ⟨(by (with_reducible repeat (first | apply Kd.R_alloc | apply Kd.R_drewN | apply Kd.R_drew)); exact Kd.R_mono HO193.out (fun _ hk => by first | exact hk.2 | exact hk | exact trivial | exact hk.1 | exact hk.2 | exact hk.1.1 | exact hk.1.2)), (by (with_reducible repeat (first | apply Kd.R_alloc | apply Kd.R_drewN | apply Kd.R_drew)); exact Kd.R_mono HO196.out (fun _ hk => by first | exact hk.2 | exact hk | exact trivial | exact hk.1 | exact hk.2 | exact hk.1.1 | exact hk.1.2)), (by (with_reducible repeat (first | refine blk_drewN ?_ _ | refine blk_drew ?_ | refine blk_alloc ?_ _)); exact BK188.out), (by (with_reducible repeat (first | refine blk_drewN ?_ _ | refine blk_drew ?_ | refine blk_alloc ?_ _)); exact BK197.out), GW197.out, GE197.out, NB188_197.out, NB197_188.out, (by repeat (first | (with_reducible first | exact HB.out | apply below_alloc | apply pw_below_drewN | apply below_drew1 | refine below_set ?_ GE188.out | refine below_set ?_ GE197.out) | exact HB.out))⟩)
            · skip
              rintro ⟨v192, v195⟩ w18 ⟨h0_, h1_, h2_, h3_⟩
              have n0_ : Aside0 (Kd.R (Kd.int .i64) 3 w18 w.heap.size (fun k_ => some k_ ≠ (v195 : Value).ownBlock) v192 y191) := ⟨h0_⟩
              have n1_ : Aside0 (Kd.R (Kd.int .i64) 3 w18 w.heap.size (fun k_ => some k_ ≠ (v192 : Value).ownBlock) v195 y194) := ⟨h1_⟩
              have n2_ : Aside0 (w18.heap[gb188]? = some (.cells #[.slice none 0 0, .slice none 0 0] 32 (0, 0))) := ⟨h2_⟩
              have n3_ : Aside0 (Below w.heap.size w w18) := ⟨h3_⟩
              clear BK188
              clear HB
              clear h0_ h1_ h2_ h3_
              have HO193 := n0_
              have HO196 := n1_
              have BK188 := n2_
              have HB := n3_
              clear n0_ n1_ n2_ n3_
              have hHeld := trivial
              obtain ⟨Ao19, co19, eo19⟩ := Kd.R_slice HO196.out
              (first | subst eo19 | (injection eo19 with f1_ f2_ f3_; have f4_ := f1_.symm; have f5_ := f3_.symm; clear f1_ f2_ f3_; subst f4_; subst f5_))
              obtain ⟨Ao20, co20, eo20⟩ := Kd.R_slice HO193.out
              (first | subst eo20 | (injection eo20 with f1_ f2_ f3_; have f4_ := f1_.symm; have f5_ := f3_.symm; clear f1_ f2_ f3_; subst f4_; subst f5_))
              refine norm_ (a' := ?_) ?_ ?_
              rotate_left
              · simp only [putAll, Act.put, List.setIfInBounds_toArray, List.set_cons_zero, List.set_cons_succ]
                rfl
              refine one_ (i := 3) (N := some 6) #[true, true, true, true, false] rfl rfl (by kernel_rfl) (by decide) (fun K hK => ?_)
              refine box_step ?hg (N := 6) ?hd (cs := #[.slice none 0 0, .slice none 0 0]) (t := 32) ?hr ?_; (case hd => rfl); (case hg => rfl); (case hr => first | (go_simp; done) | (go_simp; rfl))
              intro gb197 hg w21 hbox hb
              have n0_ := Aside0.mk (Kd.R_below (by (with_reducible repeat (first | apply Kd.R_alloc | apply Kd.R_drewN | apply Kd.R_drew)); exact HO193.out) hb)
              have n1_ := Aside0.mk (Kd.R_below (by (with_reducible repeat (first | apply Kd.R_alloc | apply Kd.R_drewN | apply Kd.R_drew)); exact HO196.out) hb)
              have n2_ := Aside0.mk (blk_below (g := gb188) (o := .cells #[.slice none 0 0, .slice none 0 0] 32 (0, 0)) (by (with_reducible repeat (first | refine blk_drewN ?_ _ | refine blk_drew ?_ | refine blk_alloc ?_ _)); exact BK188.out) hb)
              have n3_ := Aside0.mk (below_step (by repeat (first | (with_reducible first | exact HB.out | apply below_alloc | apply pw_below_drewN | apply below_drew1 | refine below_set ?_ GE188.out) | exact HB.out)) hb)
              have n4_ := Aside0.mk (hbox)
              have n5_ := Aside0.mk ((by rw [hg]; exact (below_size (by repeat (first | (with_reducible first | exact HB.out | apply below_alloc | apply pw_below_drewN | apply below_drew1 | refine below_set ?_ GE188.out) | exact HB.out))) : w.heap.size ≤ gb197))
              have n6_ := Aside0.mk ((by rw [hg]; exact (below_size (by repeat (first | (with_reducible first | exact HB.out | apply below_alloc | apply pw_below_drewN | apply below_drew1 | refine below_set ?_ GE188.out) | exact HB.out))) : w.heap.size ≤ gb197))
              have n7_ := Aside0.mk ((by rw [hg]; exact Nat.ne_of_lt (blk_lt (g := gb188) (o := .cells #[.slice none 0 0, .slice none 0 0] 32 (0, 0)) (by (with_reducible repeat (first | refine blk_drewN ?_ _ | refine blk_drew ?_ | refine blk_alloc ?_ _)); exact BK188.out)) : gb188 ≠ gb197))
              have n8_ := Aside0.mk ((by rw [hg]; exact Nat.ne_of_gt (blk_lt (g := gb188) (o := .cells #[.slice none 0 0, .slice none 0 0] 32 (0, 0)) (by (with_reducible repeat (first | refine blk_drewN ?_ _ | refine blk_drew ?_ | refine blk_alloc ?_ _)); exact BK188.out)) : gb197 ≠ gb188))
              clear HO193
              clear HO196
              clear BK188
              clear HB
              have HO193 := n0_
              have HO196 := n1_
              have BK188 := n2_
              have HB := n3_
              have BK197 := n4_
              have GW197 := n5_
              have GE197 := n6_
              have NB188_197 := n7_
              have NB197_188 := n8_
              clear n0_ n1_ n2_ n3_ n4_ n5_ n6_ n7_ n8_
              clear hb hbox hg
              refine hK.out _ _ trivial (fun hHeld => ?_)
              clear hK K
              refine norm_ (a' := ?_) ?_ ?_
              rotate_left
              · show Act.put _ (some 6) _ = _
                simp only [Act.put, List.setIfInBounds_toArray, List.set_cons_zero, List.set_cons_succ, i64_w, i32_w]
                rfl
              exact norm_ (by first | (simp only [putAll, Act.put, List.setIfInBounds_toArray, List.set_cons_zero, List.set_cons_succ]; done) | (simp only [putAll, Act.put, List.setIfInBounds_toArray, List.set_cons_zero, List.set_cons_succ]; rfl)) (hJ0_1_3 (.slice Ao20 y191.length co20, .slice Ao19 y194.length co19, gb197) _ ⟨(by (with_reducible repeat (first | apply Kd.R_alloc | apply Kd.R_drewN | apply Kd.R_drew)); exact HO193.out), (by (with_reducible repeat (first | apply Kd.R_alloc | apply Kd.R_drewN | apply Kd.R_drew)); exact HO196.out), (by (with_reducible repeat (first | refine blk_drewN ?_ _ | refine blk_drew ?_ | refine blk_alloc ?_ _)); exact BK188.out), (by (with_reducible repeat (first | refine blk_drewN ?_ _ | refine blk_drew ?_ | refine blk_alloc ?_ _)); exact BK197.out), GW197.out, GE197.out, NB188_197.out, NB197_188.out, (by repeat (first | (with_reducible first | exact HB.out | apply below_alloc | apply pw_below_drewN | apply below_drew1 | refine below_set ?_ GE188.out | refine below_set ?_ GE197.out) | exact HB.out))⟩)
          rintro ⟨v192, v195, gb197⟩ w19 ⟨h0_, h1_, h2_, h3_, h4_, h5_, h6_, h7_, h8_⟩
          have n0_ : Aside0 (Kd.R (Kd.int .i64) 3 w19 w.heap.size (fun k_ => some k_ ≠ (v195 : Value).ownBlock) v192 y191) := ⟨h0_⟩
          have n1_ : Aside0 (Kd.R (Kd.int .i64) 3 w19 w.heap.size (fun k_ => some k_ ≠ (v192 : Value).ownBlock) v195 y194) := ⟨h1_⟩
          have n2_ : Aside0 (w19.heap[gb188]? = some (.cells #[.slice none 0 0, .slice none 0 0] 32 (0, 0))) := ⟨h2_⟩
          have n3_ : Aside0 (w19.heap[gb197]? = some (.cells #[.slice none 0 0, .slice none 0 0] 32 (0, 0))) := ⟨h3_⟩
          have n4_ : Aside0 (w.heap.size ≤ gb197) := ⟨h4_⟩
          have n5_ : Aside0 (w.heap.size ≤ gb197) := ⟨h5_⟩
          have n6_ : Aside0 (gb188 ≠ gb197) := ⟨h6_⟩
          have n7_ : Aside0 (gb197 ≠ gb188) := ⟨h7_⟩
          have n8_ : Aside0 (Below w.heap.size w w19) := ⟨h8_⟩
          clear BK188
          clear HB
          clear h0_ h1_ h2_ h3_ h4_ h5_ h6_ h7_ h8_
          have HO193 := n0_
          have HO196 := n1_
          have BK188 := n2_
          have BK197 := n3_
          have GW197 := n4_
          have GE197 := n5_
          have NB188_197 := n6_
          have NB197_188 := n7_
          have HB := n8_
          clear n0_ n1_ n2_ n3_ n4_ n5_ n6_ n7_ n8_
          have hHeld := trivial
          obtain ⟨Ao20, co20, eo20⟩ := Kd.R_slice HO196.out
          (first | subst eo20 | (injection eo20 with f1_ f2_ f3_; have f4_ := f1_.symm; have f5_ := f3_.symm; clear f1_ f2_ f3_; subst f4_; subst f5_))
          obtain ⟨Ao21, co21, eo21⟩ := Kd.R_slice HO193.out
          (first | subst eo21 | (injection eo21 with f1_ f2_ f3_; have f4_ := f1_.symm; have f5_ := f3_.symm; clear f1_ f2_ f3_; subst f4_; subst f5_))
          refine norm_ (a' := ?_) ?_ ?_
          rotate_left
          · simp only [putAll, Act.put, List.setIfInBounds_toArray, List.set_cons_zero, List.set_cons_succ]
            rfl
          refine one_ (i := 4) (N := none) #[true, true, true, true, true] rfl rfl (by kernel_rfl) (by decide) (fun K hK => ?_)
          have hs22 : w19.cell? ⟨gb197, 0, none⟩ = some (.slice none 0 0) := (blk_cell BK197.out 0).trans rfl
          have hfs22 := blk_frozen BK197.out 0
          have hns22_0 := NB188_197.out
          have hms22_0 := NB197_188.out
          have hs23 : w19.cell? ⟨gb197, 1, none⟩ = some (.slice none 0 0) := (blk_cell BK197.out 1).trans rfl
          have hfs23 := blk_frozen BK197.out 1
          have hns23_0 := NB188_197.out
          have hms23_0 := NB197_188.out
          refine skip_ (w1 := ?_) (by rfl) rfl ?_ ?_
          rotate_left
          · go_simp
            rfl
          refine hK.out _ _ trivial (fun hHeld => ?_)
          clear hK K
          refine done_ (by kernel_rfl) ?_
          try go_wp2
          go_loopg [7, 28] kj2 (fun kq v7 v28 w' => ∃ (x7_2 : Int) (x28_2 : Int) (x198000_2 : List Int) (x198001_2 : List Int) (u198000 : Value) (u198001 : Value), v7 = .int .i64 x7_2 ∧ v28 = .int .i64 x28_2 ∧ Aside0 (impl_DiffuseRow.l0 kq l1 x7_2 l0 (l0.length : Int) x28_2 x198000_2 x198001_2 = some (r1, r2, r3)) ∧ Aside0 (kq ≤ kj2) ∧ Aside0 (Kd.R (Kd.int .i64) 3 w' w.heap.size (fun k_ => some k_ ≠ (u198001 : Value).ownBlock) u198000 x198000_2) ∧ Aside0 (Kd.R (Kd.int .i64) 3 w' w.heap.size (fun k_ => some k_ ≠ (u198000 : Value).ownBlock) u198001 x198001_2) ∧ Aside0 (w'.heap[gb188]? = some (.cells #[(.slice none 0 0), (.slice none 0 0)] 32 (0, 0))) ∧ Aside0 (w'.heap[gb197]? = some (.cells #[u198000, u198001] 32 (0, 0))) ∧ Aside0 (Below w.heap.size w w'))
          case atStart => exact ⟨(0), (0), (y191), (y194), (.slice Ao21 y191.length co21), (.slice Ao20 y194.length co20), (by first | rfl | (simp; done) | (simp [*]; done)), (by first | rfl | (simp; done) | (simp [*]; done)), H', ⟨Nat.le_refl _⟩, ⟨by (with_reducible repeat (first | apply Kd.R_alloc | apply Kd.R_drewN | apply Kd.R_drew)); exact Kd.R_mono (Kd.R_far (p := ⟨gb197, 1, none⟩) (Kd.R_far (p := ⟨gb197, 0, none⟩) (Kd.R_types HO193.out BK197.out (by decide)) (fun _ hk => by first | exact hk.2 | exact hk | exact trivial | exact hk.1 | exact hk.2 | exact hk.1.1 | exact hk.1.2) (.slice Ao21 y191.length co21)) (fun _ hk => by first | exact hk.2 | exact hk | exact trivial | exact hk.1 | exact hk.2 | exact hk.1.1 | exact hk.1.2) (.slice Ao20 y194.length co20)) (fun _ hk => by first | exact hk.1 | exact hk | exact trivial | exact hk.1 | exact hk.2 | exact hk.1.1 | exact hk.1.2)⟩, ⟨by (with_reducible repeat (first | apply Kd.R_alloc | apply Kd.R_drewN | apply Kd.R_drew)); exact Kd.R_mono (Kd.R_far (p := ⟨gb197, 1, none⟩) (Kd.R_far (p := ⟨gb197, 0, none⟩) (Kd.R_types HO196.out BK197.out (by decide)) (fun _ hk => by first | exact hk.2 | exact hk | exact trivial | exact hk.1 | exact hk.2 | exact hk.1.1 | exact hk.1.2) (.slice Ao21 y191.length co21)) (fun _ hk => by first | exact hk.2 | exact hk | exact trivial | exact hk.1 | exact hk.2 | exact hk.1.1 | exact hk.1.2) (.slice Ao20 y194.length co20)) (fun _ hk => by first | exact hk.1 | exact hk | exact trivial | exact hk.1 | exact hk.2 | exact hk.1.1 | exact hk.1.2)⟩, ⟨by (with_reducible repeat (first | refine blk_drewN ?_ _ | refine blk_drew ?_ | refine blk_alloc ?_ _)); refine blk_far ?_ NB188_197.out _; (with_reducible repeat (first | refine blk_drewN ?_ _ | refine blk_drew ?_ | refine blk_alloc ?_ _)); refine blk_far ?_ NB188_197.out _; (with_reducible repeat (first | refine blk_drewN ?_ _ | refine blk_drew ?_ | refine blk_alloc ?_ _)); exact BK188.out⟩, ⟨by (with_reducible repeat (first | refine blk_drewN ?_ _ | refine blk_drew ?_ | refine blk_alloc ?_ _)); refine blk_put (cs := #[.slice Ao21 y191.length co21, .slice none 0 0]) ?_ 1 _ rfl; (with_reducible repeat (first | refine blk_drewN ?_ _ | refine blk_drew ?_ | refine blk_alloc ?_ _)); refine blk_put (cs := #[.slice none 0 0, .slice none 0 0]) ?_ 0 _ rfl; (with_reducible repeat (first | refine blk_drewN ?_ _ | refine blk_drew ?_ | refine blk_alloc ?_ _)); exact BK197.out⟩, ⟨by repeat (first | (with_reducible first | exact HB.out | apply below_alloc | apply pw_below_drewN | apply below_drew1 | refine below_set ?_ GE188.out | refine below_set ?_ GE197.out) | exact HB.out)⟩⟩
          case round =>
            clear H'
            try clear p2
            obtain ⟨x7_2, x28_2, x198000_2, x198001_2, u198000, u198001, rfl, rfl, HA, HK2, HO_198000, HO_198001, BK188, BK197, HB⟩ := hrel
            cases gk with
            | zero => exact absurd HA.out (by simp [impl_DiffuseRow.l0])
            | succ k2 =>
              have H := HA.out
              clear HA
              simp only [impl_DiffuseRow.l0] at H
              by_cases c24 : x28_2 < (l0.length : Int)
              · rw [if_pos c24] at H
                have c24b0 : decide (x28_2 < (l0.length : Int)) = true := decide_eq_true c24
                clear c24
                by_cases c25 : 0 ≤ x28_2
                · rw [if_pos c25] at H
                  have c25b0 : decide (0 ≤ x28_2) = true := decide_eq_true c25
                  clear c25
                  by_cases c26 : x28_2 < (l0.length : Int)
                  · rw [if_pos c26] at H
                    have c26b0 : decide (x28_2 < (l0.length : Int)) = true := decide_eq_true c26
                    clear c26
                    by_cases c27 : x28_2 < (l1.length : Int)
                    · rw [if_pos c27] at H
                      have c27b0 : decide (x28_2 < (l1.length : Int)) = true := decide_eq_true c27
                      clear c27
                      by_cases c28 : (wrap64 ((wrap64 ((rd l0 x28_2) + (rd l1 x28_2))) + x7_2)) ≥ 128
                      · rw [if_pos c28] at H
                        have c28b0 : decide (128 ≤ (wrap64 ((wrap64 ((rd l0 x28_2) + (rd l1 x28_2))) + x7_2))) = true := decide_eq_true c28
                        clear c28
                        by_cases c29 : x28_2 < (x198000_2.length : Int)
                        · rw [if_pos c29] at H
                          have c29b0 : decide (x28_2 < (x198000_2.length : Int)) = true := decide_eq_true c29
                          clear c29
                          obtain ⟨y202, hy202⟩ : ∃ y_ : List Int, y_ = (x198000_2.set (x28_2 : Int).toNat 1) := ⟨_, rfl⟩
                          replace H : ((impl_down.f (wrap64 (3 * (wrap64 ((wrap64 ((wrap64 ((rd l0 x28_2) + (rd l1 x28_2))) + x7_2)) - 255)))) 16).bind fun t203 => ((impl_down.f (wrap64 (5 * (wrap64 ((wrap64 ((wrap64 ((rd l0 x28_2) + (rd l1 x28_2))) + x7_2)) - 255)))) 16).bind fun t204 => ((impl_down.f (wrap64 ((wrap64 ((wrap64 ((rd l0 x28_2) + (rd l1 x28_2))) + x7_2)) - 255)) 16).bind fun t205 => (if 0 ≤ (mx 0 (wrap64 (x28_2 - 1))) then (if (mx 0 (wrap64 (x28_2 - 1))) < (x198001_2.length : Int) then ((some (x198001_2.set ((mx 0 (wrap64 (x28_2 - 1))) : Int).toNat (wrap64 ((rd x198001_2 (mx 0 (wrap64 (x28_2 - 1)))) + t203)) : List Int)).bind fun y207 => (if x28_2 < (x198001_2.length : Int) then ((some (y207.set (x28_2 : Int).toNat (wrap64 ((rd y207 x28_2) + t204)) : List Int)).bind fun y209 => (if 0 ≤ (mn 31 (wrap64 (x28_2 + 1))) then (if (mn 31 (wrap64 (x28_2 + 1))) < (x198001_2.length : Int) then (impl_DiffuseRow.l0 k2 l1 (wrap64 ((wrap64 ((wrap64 ((wrap64 ((wrap64 ((wrap64 ((rd l0 x28_2) + (rd l1 x28_2))) + x7_2)) - 255)) - t203)) - t204)) - t205)) l0 (l0.length : Int) (wrap64 (x28_2 + 1)) y202 (y209.set ((mn 31 (wrap64 (x28_2 + 1))) : Int).toNat (wrap64 ((rd y209 (mn 31 (wrap64 (x28_2 + 1)))) + t205)))) else (none)) else (none))) else (none))) else (none)) else (none))))) = some (r1, r2, r3) := by first | (rw [hy202]; with_reducible exact H) | (have H2_ := (Option.bind_some _ _).symm.trans H; rw [hy202]; with_reducible exact H2_) | (have H2_ := (Option.bind_some _ _).symm.trans H; with_reducible exact H2_) | with_reducible exact H | (rw [hy202]; exact H) | exact H
                          have Ny202 := Aside0.mk hy202
                          clear hy202
                          replace H := Option.bind_eq_some_iff.mp H
                          obtain ⟨t203, A310, H⟩ := H
                          replace H : ((impl_down.f (wrap64 (5 * (wrap64 ((wrap64 ((wrap64 ((rd l0 x28_2) + (rd l1 x28_2))) + x7_2)) - 255)))) 16).bind fun t204 => ((impl_down.f (wrap64 ((wrap64 ((wrap64 ((rd l0 x28_2) + (rd l1 x28_2))) + x7_2)) - 255)) 16).bind fun t205 => (if 0 ≤ (mx 0 (wrap64 (x28_2 - 1))) then (if (mx 0 (wrap64 (x28_2 - 1))) < (x198001_2.length : Int) then ((some (x198001_2.set ((mx 0 (wrap64 (x28_2 - 1))) : Int).toNat (wrap64 ((rd x198001_2 (mx 0 (wrap64 (x28_2 - 1)))) + t203)) : List Int)).bind fun y207 => (if x28_2 < (x198001_2.length : Int) then ((some (y207.set (x28_2 : Int).toNat (wrap64 ((rd y207 x28_2) + t204)) : List Int)).bind fun y209 => (if 0 ≤ (mn 31 (wrap64 (x28_2 + 1))) then (if (mn 31 (wrap64 (x28_2 + 1))) < (x198001_2.length : Int) then (impl_DiffuseRow.l0 k2 l1 (wrap64 ((wrap64 ((wrap64 ((wrap64 ((wrap64 ((wrap64 ((rd l0 x28_2) + (rd l1 x28_2))) + x7_2)) - 255)) - t203)) - t204)) - t205)) l0 (l0.length : Int) (wrap64 (x28_2 + 1)) y202 (y209.set ((mn 31 (wrap64 (x28_2 + 1))) : Int).toNat (wrap64 ((rd y209 (mn 31 (wrap64 (x28_2 + 1)))) + t205)))) else (none)) else (none))) else (none))) else (none)) else (none)))) = some (r1, r2, r3) := H
                          have A31 := Aside0.mk A310
                          clear A310
                          replace H := Option.bind_eq_some_iff.mp H
                          obtain ⟨t204, A320, H⟩ := H
                          replace H : ((impl_down.f (wrap64 ((wrap64 ((wrap64 ((rd l0 x28_2) + (rd l1 x28_2))) + x7_2)) - 255)) 16).bind fun t205 => (if 0 ≤ (mx 0 (wrap64 (x28_2 - 1))) then (if (mx 0 (wrap64 (x28_2 - 1))) < (x198001_2.length : Int) then ((some (x198001_2.set ((mx 0 (wrap64 (x28_2 - 1))) : Int).toNat (wrap64 ((rd x198001_2 (mx 0 (wrap64 (x28_2 - 1)))) + t203)) : List Int)).bind fun y207 => (if x28_2 < (x198001_2.length : Int) then ((some (y207.set (x28_2 : Int).toNat (wrap64 ((rd y207 x28_2) + t204)) : List Int)).bind fun y209 => (if 0 ≤ (mn 31 (wrap64 (x28_2 + 1))) then (if (mn 31 (wrap64 (x28_2 + 1))) < (x198001_2.length : Int) then (impl_DiffuseRow.l0 k2 l1 (wrap64 ((wrap64 ((wrap64 ((wrap64 ((wrap64 ((wrap64 ((rd l0 x28_2) + (rd l1 x28_2))) + x7_2)) - 255)) - t203)) - t204)) - t205)) l0 (l0.length : Int) (wrap64 (x28_2 + 1)) y202 (y209.set ((mn 31 (wrap64 (x28_2 + 1))) : Int).toNat (wrap64 ((rd y209 (mn 31 (wrap64 (x28_2 + 1)))) + t205)))) else (none)) else (none))) else (none))) else (none)) else (none))) = some (r1, r2, r3) := H
                          have A32 := Aside0.mk A320
                          clear A320
                          replace H := Option.bind_eq_some_iff.mp H
                          obtain ⟨t205, A330, H⟩ := H
                          replace H : (if 0 ≤ (mx 0 (wrap64 (x28_2 - 1))) then (if (mx 0 (wrap64 (x28_2 - 1))) < (x198001_2.length : Int) then ((some (x198001_2.set ((mx 0 (wrap64 (x28_2 - 1))) : Int).toNat (wrap64 ((rd x198001_2 (mx 0 (wrap64 (x28_2 - 1)))) + t203)) : List Int)).bind fun y207 => (if x28_2 < (x198001_2.length : Int) then ((some (y207.set (x28_2 : Int).toNat (wrap64 ((rd y207 x28_2) + t204)) : List Int)).bind fun y209 => (if 0 ≤ (mn 31 (wrap64 (x28_2 + 1))) then (if (mn 31 (wrap64 (x28_2 + 1))) < (x198001_2.length : Int) then (impl_DiffuseRow.l0 k2 l1 (wrap64 ((wrap64 ((wrap64 ((wrap64 ((wrap64 ((wrap64 ((rd l0 x28_2) + (rd l1 x28_2))) + x7_2)) - 255)) - t203)) - t204)) - t205)) l0 (l0.length : Int) (wrap64 (x28_2 + 1)) y202 (y209.set ((mn 31 (wrap64 (x28_2 + 1))) : Int).toNat (wrap64 ((rd y209 (mn 31 (wrap64 (x28_2 + 1)))) + t205)))) else (none)) else (none))) else (none))) else (none)) else (none)) = some (r1, r2, r3) := H
                          have A33 := Aside0.mk A330
                          clear A330
                          obtain ⟨ji34, hji34⟩ : ∃ j_ : Int, (mx 0 (wrap64 (x28_2 - 1))) = j_ := ⟨_, rfl⟩
                          replace H : (if 0 ≤ (ji34) then (if (ji34) < (x198001_2.length : Int) then ((some (x198001_2.set ((ji34) : Int).toNat (wrap64 ((rd x198001_2 (ji34)) + t203)) : List Int)).bind fun y207 => (if x28_2 < (x198001_2.length : Int) then ((some (y207.set (x28_2 : Int).toNat (wrap64 ((rd y207 x28_2) + t204)) : List Int)).bind fun y209 => (if 0 ≤ (mn 31 (wrap64 (x28_2 + 1))) then (if (mn 31 (wrap64 (x28_2 + 1))) < (x198001_2.length : Int) then (impl_DiffuseRow.l0 k2 l1 (wrap64 ((wrap64 ((wrap64 ((wrap64 ((wrap64 ((wrap64 ((rd l0 x28_2) + (rd l1 x28_2))) + x7_2)) - 255)) - t203)) - t204)) - t205)) l0 (l0.length : Int) (wrap64 (x28_2 + 1)) y202 (y209.set ((mn 31 (wrap64 (x28_2 + 1))) : Int).toNat (wrap64 ((rd y209 (mn 31 (wrap64 (x28_2 + 1)))) + t205)))) else (none)) else (none))) else (none))) else (none)) else (none)) = some (r1, r2, r3) := by first | (rw [hji34] at H; exact H) | (simp only [hji34] at H ⊢; exact H)
                          (try rw [hji34] at A31)
                          (try rw [hji34] at A32)
                          (try rw [hji34] at A33)
                          have hji34_ : (if 0 < (wrap64 (x28_2 - 1)) then (wrap64 (x28_2 - 1)) else 0) = ji34 := hji34
                          by_cases c35 : 0 ≤ (ji34)
                          · rw [if_pos c35] at H
                            have c35b0 : decide (0 ≤ (ji34)) = true := decide_eq_true c35
                            clear c35
                            by_cases c36 : (ji34) < (x198001_2.length : Int)
                            · rw [if_pos c36] at H
                              have c36b0 : decide ((ji34) < (x198001_2.length : Int)) = true := decide_eq_true c36
                              clear c36
                              obtain ⟨y207, hy207⟩ : ∃ y_ : List Int, y_ = (x198001_2.set ((ji34) : Int).toNat (wrap64 ((rd x198001_2 (ji34)) + t203))) := ⟨_, rfl⟩
                              replace H : (if x28_2 < (x198001_2.length : Int) then ((some (y207.set (x28_2 : Int).toNat (wrap64 ((rd y207 x28_2) + t204)) : List Int)).bind fun y209 => (if 0 ≤ (mn 31 (wrap64 (x28_2 + 1))) then (if (mn 31 (wrap64 (x28_2 + 1))) < (x198001_2.length : Int) then (impl_DiffuseRow.l0 k2 l1 (wrap64 ((wrap64 ((wrap64 ((wrap64 ((wrap64 ((wrap64 ((rd l0 x28_2) + (rd l1 x28_2))) + x7_2)) - 255)) - t203)) - t204)) - t205)) l0 (l0.length : Int) (wrap64 (x28_2 + 1)) y202 (y209.set ((mn 31 (wrap64 (x28_2 + 1))) : Int).toNat (wrap64 ((rd y209 (mn 31 (wrap64 (x28_2 + 1)))) + t205)))) else (none)) else (none))) else (none)) = some (r1, r2, r3) := by first | (rw [hy207]; with_reducible exact H) | (have H2_ := (Option.bind_some _ _).symm.trans H; rw [hy207]; with_reducible exact H2_) | (have H2_ := (Option.bind_some _ _).symm.trans H; with_reducible exact H2_) | with_reducible exact H | (rw [hy207]; exact H) | exact H
                              have Ny207 := Aside0.mk hy207
                              clear hy207
                              by_cases c38 : x28_2 < (x198001_2.length : Int)
                              · rw [if_pos c38] at H
                                have c38b0 : decide (x28_2 < (x198001_2.length : Int)) = true := decide_eq_true c38
                                clear c38
                                obtain ⟨y209, hy209⟩ : ∃ y_ : List Int, y_ = (y207.set (x28_2 : Int).toNat (wrap64 ((rd y207 x28_2) + t204))) := ⟨_, rfl⟩
                                replace H : (if 0 ≤ (mn 31 (wrap64 (x28_2 + 1))) then (if (mn 31 (wrap64 (x28_2 + 1))) < (x198001_2.length : Int) then (impl_DiffuseRow.l0 k2 l1 (wrap64 ((wrap64 ((wrap64 ((wrap64 ((wrap64 ((wrap64 ((rd l0 x28_2) + (rd l1 x28_2))) + x7_2)) - 255)) - t203)) - t204)) - t205)) l0 (l0.length : Int) (wrap64 (x28_2 + 1)) y202 (y209.set ((mn 31 (wrap64 (x28_2 + 1))) : Int).toNat (wrap64 ((rd y209 (mn 31 (wrap64 (x28_2 + 1)))) + t205)))) else (none)) else (none)) = some (r1, r2, r3) := by first | (rw [hy209]; with_reducible exact H) | (have H2_ := (Option.bind_some _ _).symm.trans H; rw [hy209]; with_reducible exact H2_) | (have H2_ := (Option.bind_some _ _).symm.trans H; with_reducible exact H2_) | with_reducible exact H | (rw [hy209]; exact H) | exact H
                                have Ny209 := Aside0.mk hy209
                                clear hy209
                                obtain ⟨ji40, hji40⟩ : ∃ j_ : Int, (mn 31 (wrap64 (x28_2 + 1))) = j_ := ⟨_, rfl⟩
                                replace H : (if 0 ≤ (ji40) then (if (ji40) < (x198001_2.length : Int) then (impl_DiffuseRow.l0 k2 l1 (wrap64 ((wrap64 ((wrap64 ((wrap64 ((wrap64 ((wrap64 ((rd l0 x28_2) + (rd l1 x28_2))) + x7_2)) - 255)) - t203)) - t204)) - t205)) l0 (l0.length : Int) (wrap64 (x28_2 + 1)) y202 (y209.set ((ji40) : Int).toNat (wrap64 ((rd y209 (ji40)) + t205)))) else (none)) else (none)) = some (r1, r2, r3) := by first | (rw [hji40] at H; exact H) | (simp only [hji40] at H ⊢; exact H)
                                (try rw [hji40] at A31)
                                (try rw [hji40] at A32)
                                (try rw [hji40] at A33)
                                have hji40_ : (if (wrap64 (x28_2 + 1)) < 31 then (wrap64 (x28_2 + 1)) else 31) = ji40 := hji40
                                by_cases c41 : 0 ≤ (ji40)
                                · rw [if_pos c41] at H
                                  have c41b0 : decide (0 ≤ (ji40)) = true := decide_eq_true c41
                                  clear c41
                                  by_cases c42 : (ji40) < (x198001_2.length : Int)
                                  · rw [if_pos c42] at H
                                    have c42b0 : decide ((ji40) < (x198001_2.length : Int)) = true := decide_eq_true c42
                                    clear c42
                                    obtain ⟨y211, hy211⟩ : ∃ y_ : List Int, y_ = (y209.set ((ji40) : Int).toNat (wrap64 ((rd y209 (ji40)) + t205))) := ⟨_, rfl⟩
                                    replace H : (impl_DiffuseRow.l0 k2 l1 (wrap64 ((wrap64 ((wrap64 ((wrap64 ((wrap64 ((wrap64 ((rd l0 x28_2) + (rd l1 x28_2))) + x7_2)) - 255)) - t203)) - t204)) - t205)) l0 (l0.length : Int) (wrap64 (x28_2 + 1)) y202 y211) = some (r1, r2, r3) := by first | (rw [hy211]; with_reducible exact H) | (have H2_ := (Option.bind_some _ _).symm.trans H; rw [hy211]; with_reducible exact H2_) | (have H2_ := (Option.bind_some _ _).symm.trans H; with_reducible exact H2_) | with_reducible exact H | (rw [hy211]; exact H) | exact H
                                    have Ny211 := Aside0.mk hy211
                                    clear hy211
                                    have H' := Aside0.mk H
                                    clear H
                                    have p200 : 0 ≤ (x28_2 : Int) := of_decide_eq_true (by first | (with_reducible assumption) | assumption)
                                    have q200 : x28_2 < (l0.length : Int) := of_decide_eq_true (by first | (with_reducible assumption) | assumption)
                                    obtain ⟨ad200, e200, hx200_0⟩ := Kd.at_int HR0.out x28_2 p200 q200
                                    cases e200
                                    replace hx200_0 := (HB.out.cell (World.block_lt_of_cell? w _ hx200_0)).trans hx200_0
                                    replace p200 := eq_true p200
                                    replace q200 := eq_true q200
                                    have p201 : 0 ≤ (x28_2 : Int) := of_decide_eq_true (by first | (with_reducible assumption) | assumption)
                                    have q201 : x28_2 < (l1.length : Int) := of_decide_eq_true (by first | (with_reducible assumption) | assumption)
                                    obtain ⟨ad201, e201, hx201_0⟩ := Kd.at_int HR1.out x28_2 p201 q201
                                    cases e201
                                    replace hx201_0 := (HB.out.cell (World.block_lt_of_cell? w _ hx201_0)).trans hx201_0
                                    replace p201 := eq_true p201
                                    replace q201 := eq_true q201
                                    have hnb44 := NB197_188.out
                                    have hnc44 := NB188_197.out
                                    have hcz45_0 : wr.cell? ⟨gb197, 0, none⟩ = some (u198000) := (blk_cell BK197.out 0).trans rfl
                                    have hcz45_1 : wr.cell? ⟨gb197, 1, none⟩ = some (u198001) := (blk_cell BK197.out 1).trans rfl
                                    have hfz45_0 := blk_frozen BK197.out 0
                                    have hfz45_1 := blk_frozen BK197.out 1
                                    have p30 : 0 ≤ (x28_2 : Int) := of_decide_eq_true (by first | (with_reducible assumption) | assumption)
                                    have q30 : (x28_2 : Int) < ((x198000_2.length : Int) : Int) := of_decide_eq_true (by first | (with_reducible assumption) | assumption)
                                    obtain ⟨go30, co30, eo30, gb30, gl30, cl30, HG30⟩ := Kd.R_form HO_198000.out (by omega)
                                    (first | cases eo30 | (injection eo30 with ea_ en_ ec_; (first | subst ea_ | (injection ea_ with ea_; subst ea_)); subst ec_; clear en_))
                                    have GB30 := Aside0.mk gb30
                                    have GG30 := Aside0.mk HG30
                                    clear gb30 gl30 HG30
                                    obtain ⟨hx30_0, hf30_0⟩ := Kd.R_celln 0 HO_198000.out (x28_2 : Int) p30 q30
                                    replace p30 := eq_true p30
                                    replace q30 := eq_true q30
                                    have HP46 := Kd.R_putg HO_198000.out (x28_2 : Int) 1
                                    go_wp2_with (first | ((with_reducible refine gate_store (t := 3) (p := 46) rfl ?_); refine store_event (t := 3) (p := 46) (v := ?vo_w47) (w1 := (wr.setCell ⟨go30, (x28_2 : Int).toNat, none⟩ (.int .i64 1))) ?hg ?ho ?hn ?hr ?_; (case ho => rfl); (case hg => rfl); (case hn => rfl); (case hr => first | (go_simp; done) | (go_simp; rfl) | (obtain ⟨Az_, cz_, ez_⟩ := Kd.R_slice HO_198000.out; simp only [ez_]; first | (go_simp; done) | (go_simp; rfl)) | (obtain ⟨Az_, cz_, ez_⟩ := Kd.R_slice HO_198001.out; simp only [ez_]; first | (go_simp; done) | (go_simp; rfl))); intro w47 hw; have hg : wr.grownBy w47 (some go30) := (by rw [hw]; exact HP46.2); have hp_ : Kd.R (Kd.int .i64) 3 w47 w.heap.size (fun k_ => some k_ ≠ (u198001 : Value).ownBlock) (.slice (some ⟨go30, 0, none⟩) x198000_2.length co30) y202 := (by rw [hw, Ny202.out]; exact HP46.1); clear HP46; have n0_ := Aside0.mk (hp_); have n1_ := Aside0.mk (Kd.R_after (v := (.slice (some ⟨go30, 0, none⟩) x198000_2.length co30)) (v1 := (.slice (some ⟨go30, 0, none⟩) x198000_2.length co30)) (ok := (fun _ => True)) (by (with_reducible repeat (first | apply Kd.R_alloc | apply Kd.R_drewN | apply Kd.R_drew)); exact Kd.R_mono HO_198001.out (fun _ hk => ⟨trivial, hk⟩)) hg (.inl rfl)); have n2_ := Aside0.mk (blk_grown (g := gb188) (o := .cells #[.slice none 0 0, .slice none 0 0] 32 (0, 0)) (by (with_reducible repeat (first | refine blk_drewN ?_ _ | refine blk_drew ?_ | refine blk_alloc ?_ _)); exact BK188.out) hg (Kd.R_ne HO_198000.out BK188.out (by decide))); have n3_ := Aside0.mk (blk_grown (g := gb197) (o := .cells #[.slice (some ⟨go30, 0, none⟩) x198000_2.length co30, u198001] 32 (0, 0)) (by (with_reducible repeat (first | refine blk_drewN ?_ _ | refine blk_drew ?_ | refine blk_alloc ?_ _)); exact BK197.out) hg (Kd.R_ne HO_198000.out BK197.out (by decide))); have n4_ := Aside0.mk ((by rw [hw]; exact below_set (HB.out) GB30.out : Below w.heap.size w w47)); clear HO_198000; clear HO_198001; clear BK188; clear BK197; clear HB; have HO_198000 := n0_; have HO_198001 := n1_; have BK188 := n2_; have BK197 := n3_; have HB := n4_; clear n0_ n1_ n2_ n3_ n4_; clear hg hw hp_) | ((with_reducible refine gate_callee (f := 57) rfl ?_); refine goesL_ (some 51) rfl rfl Try.func57 (by kernel_rfl) rfl #[.int .i64 (wrap64 (3 * (wrap64 ((wrap64 ((wrap64 ((rd l0 x28_2) + (rd l1 x28_2))) + x7_2)) - 255)))), .int .i64 16] rfl (by (try simp only [List.map_toArray, List.map_cons, List.map_nil]); first | done | rfl | (simp only [List.length_drop, List.length_take]; rfl)) ?_; (with_reducible refine (impl_down.calls (wrap64 (3 * (wrap64 ((wrap64 ((wrap64 ((rd l0 x28_2) + (rd l1 x28_2))) + x7_2)) - 255)))) 16 t203 _ A31.out).mono ?_); rintro e w' ⟨rfl, ⟨nd, rfl⟩⟩; refine ⟨_, rfl, ?_⟩; (try (rw [drewN_self w47]; generalize hq_ : World.drewN w47 _ = w47; have n0_ : Aside0 (Kd.R (Kd.int .i64) 3 w47 w.heap.size (fun k_ => some k_ ≠ (u198001 : Value).ownBlock) (.slice (some ⟨go30, 0, none⟩) x198000_2.length co30) y202) := ⟨by rw [← hq_]; exact (by (with_reducible repeat (first | apply Kd.R_alloc | apply Kd.R_drewN | apply Kd.R_drew)); exact HO_198000.out)⟩; have n1_ : Aside0 (Kd.R (Kd.int .i64) 3 w47 w.heap.size (fun k_ => some k_ ≠ (.slice (some ⟨go30, 0, none⟩) x198000_2.length co30 : Value).ownBlock) u198001 x198001_2) := ⟨by rw [← hq_]; exact (by (with_reducible repeat (first | apply Kd.R_alloc | apply Kd.R_drewN | apply Kd.R_drew)); exact Kd.R_mono HO_198001.out (fun _ hk => by first | exact hk.2 | exact hk | exact trivial | exact hk.1 | exact hk.2 | exact hk.1.1 | exact hk.1.2))⟩; have n2_ : Aside0 (w47.heap[gb188]? = some (.cells #[.slice none 0 0, .slice none 0 0] 32 (0, 0))) := ⟨by rw [← hq_]; exact (by (with_reducible repeat (first | refine blk_drewN ?_ _ | refine blk_drew ?_ | refine blk_alloc ?_ _)); exact BK188.out)⟩; have n3_ : Aside0 (w47.heap[gb197]? = some (.cells #[.slice (some ⟨go30, 0, none⟩) x198000_2.length co30, u198001] 32 (0, 0))) := ⟨by rw [← hq_]; exact (by (with_reducible repeat (first | refine blk_drewN ?_ _ | refine blk_drew ?_ | refine blk_alloc ?_ _)); exact BK197.out)⟩; have n4_ : Aside0 (Below w.heap.size w w47) := ⟨by rw [← hq_]; exact (by repeat (first | (with_reducible first | exact HB.out | apply below_alloc | apply pw_below_drewN | apply below_drew1 | refine below_set ?_ GE188.out | refine below_set ?_ GE197.out) | exact HB.out))⟩; clear HO_198000 HO_198001 BK188 BK197 HB hq_; have HO_198000 := n0_; have HO_198001 := n1_; have BK188 := n2_; have BK197 := n3_; have HB := n4_; clear n0_ n1_ n2_ n3_ n4_))) | ((with_reducible refine gate_callee (f := 57) rfl ?_); refine goesL_ (some 54) rfl rfl Try.func57 (by kernel_rfl) rfl #[.int .i64 (wrap64 (5 * (wrap64 ((wrap64 ((wrap64 ((rd l0 x28_2) + (rd l1 x28_2))) + x7_2)) - 255)))), .int .i64 16] rfl (by (try simp only [List.map_toArray, List.map_cons, List.map_nil]); first | done | rfl | (simp only [List.length_drop, List.length_take]; rfl)) ?_; (with_reducible refine (impl_down.calls (wrap64 (5 * (wrap64 ((wrap64 ((wrap64 ((rd l0 x28_2) + (rd l1 x28_2))) + x7_2)) - 255)))) 16 t204 _ A32.out).mono ?_); rintro e w' ⟨rfl, ⟨nd, rfl⟩⟩; refine ⟨_, rfl, ?_⟩; (try (rw [drewN_self w47]; generalize hq_ : World.drewN w47 _ = w47; have n0_ : Aside0 (Kd.R (Kd.int .i64) 3 w47 w.heap.size (fun k_ => some k_ ≠ (u198001 : Value).ownBlock) (.slice (some ⟨go30, 0, none⟩) x198000_2.length co30) y202) := ⟨by rw [← hq_]; exact (by (with_reducible repeat (first | apply Kd.R_alloc | apply Kd.R_drewN | apply Kd.R_drew)); exact HO_198000.out)⟩; have n1_ : Aside0 (Kd.R (Kd.int .i64) 3 w47 w.heap.size (fun k_ => some k_ ≠ (.slice (some ⟨go30, 0, none⟩) x198000_2.length co30 : Value).ownBlock) u198001 x198001_2) := ⟨by rw [← hq_]; exact (by (with_reducible repeat (first | apply Kd.R_alloc | apply Kd.R_drewN | apply Kd.R_drew)); exact Kd.R_mono HO_198001.out (fun _ hk => by first | exact hk.2 | exact hk | exact trivial | exact hk.1 | exact hk.2 | exact hk.1.1 | exact hk.1.2))⟩; have n2_ : Aside0 (w47.heap[gb188]? = some (.cells #[.slice none 0 0, .slice none 0 0] 32 (0, 0))) := ⟨by rw [← hq_]; exact (by (with_reducible repeat (first | refine blk_drewN ?_ _ | refine blk_drew ?_ | refine blk_alloc ?_ _)); exact BK188.out)⟩; have n3_ : Aside0 (w47.heap[gb197]? = some (.cells #[.slice (some ⟨go30, 0, none⟩) x198000_2.length co30, u198001] 32 (0, 0))) := ⟨by rw [← hq_]; exact (by (with_reducible repeat (first | refine blk_drewN ?_ _ | refine blk_drew ?_ | refine blk_alloc ?_ _)); exact BK197.out)⟩; have n4_ : Aside0 (Below w.heap.size w w47) := ⟨by rw [← hq_]; exact (by repeat (first | (with_reducible first | exact HB.out | apply below_alloc | apply pw_below_drewN | apply below_drew1 | refine below_set ?_ GE188.out | refine below_set ?_ GE197.out) | exact HB.out))⟩; clear HO_198000 HO_198001 BK188 BK197 HB hq_; have HO_198000 := n0_; have HO_198001 := n1_; have BK188 := n2_; have BK197 := n3_; have HB := n4_; clear n0_ n1_ n2_ n3_ n4_))) | ((with_reducible refine gate_callee (f := 57) rfl ?_); refine goesL_ (some 56) rfl rfl Try.func57 (by kernel_rfl) rfl #[.int .i64 (wrap64 ((wrap64 ((wrap64 ((rd l0 x28_2) + (rd l1 x28_2))) + x7_2)) - 255)), .int .i64 16] rfl (by (try simp only [List.map_toArray, List.map_cons, List.map_nil]); first | done | rfl | (simp only [List.length_drop, List.length_take]; rfl)) ?_; (with_reducible refine (impl_down.calls (wrap64 ((wrap64 ((wrap64 ((rd l0 x28_2) + (rd l1 x28_2))) + x7_2)) - 255)) 16 t205 _ A33.out).mono ?_); rintro e w' ⟨rfl, ⟨nd, rfl⟩⟩; refine ⟨_, rfl, ?_⟩; (try (rw [drewN_self w47]; generalize hq_ : World.drewN w47 _ = w47; have n0_ : Aside0 (Kd.R (Kd.int .i64) 3 w47 w.heap.size (fun k_ => some k_ ≠ (u198001 : Value).ownBlock) (.slice (some ⟨go30, 0, none⟩) x198000_2.length co30) y202) := ⟨by rw [← hq_]; exact (by (with_reducible repeat (first | apply Kd.R_alloc | apply Kd.R_drewN | apply Kd.R_drew)); exact HO_198000.out)⟩; have n1_ : Aside0 (Kd.R (Kd.int .i64) 3 w47 w.heap.size (fun k_ => some k_ ≠ (.slice (some ⟨go30, 0, none⟩) x198000_2.length co30 : Value).ownBlock) u198001 x198001_2) := ⟨by rw [← hq_]; exact (by (with_reducible repeat (first | apply Kd.R_alloc | apply Kd.R_drewN | apply Kd.R_drew)); exact Kd.R_mono HO_198001.out (fun _ hk => by first | exact hk.2 | exact hk | exact trivial | exact hk.1 | exact hk.2 | exact hk.1.1 | exact hk.1.2))⟩; have n2_ : Aside0 (w47.heap[gb188]? = some (.cells #[.slice none 0 0, .slice none 0 0] 32 (0, 0))) := ⟨by rw [← hq_]; exact (by (with_reducible repeat (first | refine blk_drewN ?_ _ | refine blk_drew ?_ | refine blk_alloc ?_ _)); exact BK188.out)⟩; have n3_ : Aside0 (w47.heap[gb197]? = some (.cells #[.slice (some ⟨go30, 0, none⟩) x198000_2.length co30, u198001] 32 (0, 0))) := ⟨by rw [← hq_]; exact (by (with_reducible repeat (first | refine blk_drewN ?_ _ | refine blk_drew ?_ | refine blk_alloc ?_ _)); exact BK197.out)⟩; have n4_ : Aside0 (Below w.heap.size w w47) := ⟨by rw [← hq_]; exact (by repeat (first | (with_reducible first | exact HB.out | apply below_alloc | apply pw_below_drewN | apply below_drew1 | refine below_set ?_ GE188.out | refine below_set ?_ GE197.out) | exact HB.out))⟩; clear HO_198000 HO_198001 BK188 BK197 HB hq_; have HO_198000 := n0_; have HO_198001 := n1_; have BK188 := n2_; have BK197 := n3_; have HB := n4_; clear n0_ n1_ n2_ n3_ n4_)); have hcz48_0 : w47.cell? ⟨gb197, 0, none⟩ = some (.slice (some ⟨go30, 0, none⟩) x198000_2.length co30) := (blk_cell BK197.out 0).trans rfl; have hcz48_1 : w47.cell? ⟨gb197, 1, none⟩ = some (u198001) := (blk_cell BK197.out 1).trans rfl; have hfz48_0 := blk_frozen BK197.out 0; have hfz48_1 := blk_frozen BK197.out 1; obtain ⟨Ao49, co49, eo49⟩ := Kd.R_slice HO_198001.out; subst eo49; have p206 : 0 ≤ ((ji34) : Int) := of_decide_eq_true (by first | (with_reducible assumption) | assumption); have q206 : (ji34) < (x198001_2.length : Int) := of_decide_eq_true (by first | (with_reducible assumption) | assumption); obtain ⟨ad206, e206, hx206_0⟩ := Kd.at_int (Kd.R_reads' HO_198001.out).2.2 (ji34) p206 q206; cases e206; replace p206 := eq_true p206; replace q206 := eq_true q206; have p37 : 0 ≤ ((ji34) : Int) := of_decide_eq_true (by first | (with_reducible assumption) | assumption); have q37 : ((ji34) : Int) < ((x198001_2.length : Int) : Int) := of_decide_eq_true (by first | (with_reducible assumption) | assumption); obtain ⟨go37, co37, eo37, gb37, gl37, cl37, HG37⟩ := Kd.R_form HO_198001.out (by omega); (first | cases eo37 | (injection eo37 with ea_ en_ ec_; (first | subst ea_ | (injection ea_ with ea_; subst ea_)); subst ec_; clear en_)); have GB37 := Aside0.mk gb37; have GG37 := Aside0.mk HG37; clear gb37 gl37 HG37; (first | simp only [add_plain] at hx206_0 | skip); obtain ⟨hx37_0, hf37_0⟩ := Kd.R_celln 0 HO_198001.out ((ji34) : Int) p37 q37; replace p37 := eq_true p37; replace q37 := eq_true q37; have n_ := Aside0.mk (Kd.R_mono (ok' := (fun k_ => some k_ ≠ (.slice (some ⟨go30, 0, none⟩) x198000_2.length co30 : Value).ownBlock)) HO_198001.out (fun k_ hk => by first | exact hk.2 | exact hk | exact trivial | exact hk.1 | exact hk.2 | exact hk.1.1 | exact hk.1.2)); clear HO_198001; have HO_198001 := n_; clear n_; obtain ⟨hy50_, hz50_⟩ := Kd.R_celln 0 HO_198001.out ((ji34) : Int) (of_decide_eq_true (by first | (with_reducible assumption) | assumption)) (of_decide_eq_true (by first | (with_reducible assumption) | assumption)); have HP50 := Kd.R_putg HO_198001.out ((ji34) : Int) (wrap64 ((rd x198001_2 (ji34)) + t203))) | ((with_reducible refine gate_store (t := 3) (p := 66) rfl ?_); refine store_event (t := 3) (p := 66) (v := ?vo_w51) (w1 := (w47.setCell ⟨go37, ((ji34) : Int).toNat, none⟩ (.int .i64 (wrap64 ((rd x198001_2 (ji34)) + t203))))) ?hg ?ho ?hn ?hr ?_; (case ho => rfl); (case hg => rfl); (case hn => rfl); (case hr => first | (go_simp; done) | (go_simp; rfl) | (obtain ⟨Az_, cz_, ez_⟩ := Kd.R_slice HO_198000.out; simp only [ez_]; first | (go_simp; done) | (go_simp; rfl)) | (obtain ⟨Az_, cz_, ez_⟩ := Kd.R_slice HO_198001.out; simp only [ez_]; first | (go_simp; done) | (go_simp; rfl))); intro w51 hw; have hg : w47.grownBy w51 (some go37) := (by rw [hw]; exact HP50.2); have hp_ : Kd.R (Kd.int .i64) 3 w51 w.heap.size (fun k_ => some k_ ≠ (.slice (some ⟨go30, 0, none⟩) x198000_2.length co30 : Value).ownBlock) (.slice (some ⟨go37, 0, none⟩) x198001_2.length co49) y207 := (by rw [hw, Ny207.out]; exact HP50.1); clear HP50; have n0_ := Aside0.mk (Kd.R_after (v := (.slice (some ⟨go37, 0, none⟩) x198001_2.length co49)) (v1 := (.slice (some ⟨go37, 0, none⟩) x198001_2.length co49)) (ok := (fun _ => True)) (by (with_reducible repeat (first | apply Kd.R_alloc | apply Kd.R_drewN | apply Kd.R_drew)); exact Kd.R_mono HO_198000.out (fun _ hk => ⟨trivial, hk⟩)) hg (.inl rfl)); have n1_ := Aside0.mk (hp_); have n2_ := Aside0.mk (blk_grown (g := gb188) (o := .cells #[.slice none 0 0, .slice none 0 0] 32 (0, 0)) (by (with_reducible repeat (first | refine blk_drewN ?_ _ | refine blk_drew ?_ | refine blk_alloc ?_ _)); exact BK188.out) hg (Kd.R_ne HO_198001.out BK188.out (by decide))); have n3_ := Aside0.mk (blk_grown (g := gb197) (o := .cells #[.slice (some ⟨go30, 0, none⟩) x198000_2.length co30, .slice (some ⟨go37, 0, none⟩) x198001_2.length co49] 32 (0, 0)) (by (with_reducible repeat (first | refine blk_drewN ?_ _ | refine blk_drew ?_ | refine blk_alloc ?_ _)); exact BK197.out) hg (Kd.R_ne HO_198001.out BK197.out (by decide))); have n4_ := Aside0.mk ((by rw [hw]; exact below_set (HB.out) GB37.out : Below w.heap.size w w51)); clear HO_198000; clear HO_198001; clear BK188; clear BK197; clear HB; have HO_198000 := n0_; have HO_198001 := n1_; have BK188 := n2_; have BK197 := n3_; have HB := n4_; clear n0_ n1_ n2_ n3_ n4_; clear hg hw hp_; have hcz52_0 : w51.cell? ⟨gb197, 0, none⟩ = some (.slice (some ⟨go30, 0, none⟩) x198000_2.length co30) := (blk_cell BK197.out 0).trans rfl; have hcz52_1 : w51.cell? ⟨gb197, 1, none⟩ = some (.slice (some ⟨go37, 0, none⟩) x198001_2.length co49) := (blk_cell BK197.out 1).trans rfl; have hfz52_0 := blk_frozen BK197.out 0; have hfz52_1 := blk_frozen BK197.out 1; have p208 : 0 ≤ (x28_2 : Int) := of_decide_eq_true (by first | (with_reducible assumption) | assumption); have q208 : x28_2 < (y207.length : Int) := (by have h_ : (x28_2 : Int) < ((x198001_2.length : Int) : Int) := of_decide_eq_true (by first | (with_reducible assumption) | assumption); first | (have e_ := (Kd.R_reads' HO_198001.out).1; omega) | simpa only [Ny207.out, List.length_set] using h_); have ql208 : ((x28_2 : Int) < ((x198001_2.length : Int) : Int)) = True := eq_true (of_decide_eq_true (by first | (with_reducible assumption) | assumption)); obtain ⟨ad208, e208, hx208_0⟩ := Kd.at_int (Kd.R_reads' HO_198001.out).2.2 x28_2 p208 q208; obtain rfl : (⟨go37, 0, none⟩ : Addr) = ad208 := (by injection e208); (first | simp only [add_plain] at hx208_0 | simp only [add_at] at hx208_0 | simp only [Addr.add, Nat.zero_add] at hx208_0 | skip); replace p208 := eq_true p208; replace q208 := eq_true q208; have p39 : 0 ≤ (x28_2 : Int) := of_decide_eq_true (by first | (with_reducible assumption) | assumption); have q39 : (x28_2 : Int) < ((x198001_2.length : Int) : Int) := of_decide_eq_true (by first | (with_reducible assumption) | assumption); obtain ⟨hx39_0, hf39_0⟩ := Kd.R_celln 0 HO_198001.out (x28_2 : Int) p39 q39; replace p39 := eq_true p39; replace q39 := eq_true q39; obtain ⟨hy53_, hz53_⟩ := Kd.R_celln 0 HO_198001.out (x28_2 : Int) (of_decide_eq_true (by first | (with_reducible assumption) | assumption)) (of_decide_eq_true (by first | (with_reducible assumption) | assumption)); have HP53 := Kd.R_putg HO_198001.out (x28_2 : Int) (wrap64 ((rd y207 x28_2) + t204))) | ((with_reducible refine gate_store (t := 3) (p := 74) rfl ?_); refine store_event (t := 3) (p := 74) (v := ?vo_w54) (w1 := (w51.setCell ⟨go37, (x28_2 : Int).toNat, none⟩ (.int .i64 (wrap64 ((rd y207 x28_2) + t204))))) ?hg ?ho ?hn ?hr ?_; (case ho => rfl); (case hg => rfl); (case hn => rfl); (case hr => first | (go_simp; done) | (go_simp; rfl) | (obtain ⟨Az_, cz_, ez_⟩ := Kd.R_slice HO_198000.out; simp only [ez_]; first | (go_simp; done) | (go_simp; rfl)) | (obtain ⟨Az_, cz_, ez_⟩ := Kd.R_slice HO_198001.out; simp only [ez_]; first | (go_simp; done) | (go_simp; rfl))); intro w54 hw; have hg : w51.grownBy w54 (some go37) := (by rw [hw]; exact HP53.2); have hp_ : Kd.R (Kd.int .i64) 3 w54 w.heap.size (fun k_ => some k_ ≠ (.slice (some ⟨go30, 0, none⟩) x198000_2.length co30 : Value).ownBlock) (.slice (some ⟨go37, 0, none⟩) x198001_2.length co49) y209 := (by rw [hw, Ny209.out]; exact HP53.1); clear HP53; have n0_ := Aside0.mk (Kd.R_after (v := (.slice (some ⟨go37, 0, none⟩) x198001_2.length co49)) (v1 := (.slice (some ⟨go37, 0, none⟩) x198001_2.length co49)) (ok := (fun _ => True)) (by (with_reducible repeat (first | apply Kd.R_alloc | apply Kd.R_drewN | apply Kd.R_drew)); exact HO_198000.out) hg (.inl rfl)); have n1_ := Aside0.mk (hp_); have n2_ := Aside0.mk (blk_grown (g := gb188) (o := .cells #[.slice none 0 0, .slice none 0 0] 32 (0, 0)) (by (with_reducible repeat (first | refine blk_drewN ?_ _ | refine blk_drew ?_ | refine blk_alloc ?_ _)); exact BK188.out) hg (Kd.R_ne HO_198001.out BK188.out (by decide))); have n3_ := Aside0.mk (blk_grown (g := gb197) (o := .cells #[.slice (some ⟨go30, 0, none⟩) x198000_2.length co30, .slice (some ⟨go37, 0, none⟩) x198001_2.length co49] 32 (0, 0)) (by (with_reducible repeat (first | refine blk_drewN ?_ _ | refine blk_drew ?_ | refine blk_alloc ?_ _)); exact BK197.out) hg (Kd.R_ne HO_198001.out BK197.out (by decide))); have n4_ := Aside0.mk ((by rw [hw]; exact below_set (HB.out) GB37.out : Below w.heap.size w w54)); clear HO_198000; clear HO_198001; clear BK188; clear BK197; clear HB; have HO_198000 := n0_; have HO_198001 := n1_; have BK188 := n2_; have BK197 := n3_; have HB := n4_; clear n0_ n1_ n2_ n3_ n4_; clear hg hw hp_; have hcz55_0 : w54.cell? ⟨gb197, 0, none⟩ = some (.slice (some ⟨go30, 0, none⟩) x198000_2.length co30) := (blk_cell BK197.out 0).trans rfl; have hcz55_1 : w54.cell? ⟨gb197, 1, none⟩ = some (.slice (some ⟨go37, 0, none⟩) x198001_2.length co49) := (blk_cell BK197.out 1).trans rfl; have hfz55_0 := blk_frozen BK197.out 0; have hfz55_1 := blk_frozen BK197.out 1; have p210 : 0 ≤ ((ji40) : Int) := of_decide_eq_true (by first | (with_reducible assumption) | assumption); have q210 : (ji40) < (y209.length : Int) := (by have h_ : ((ji40) : Int) < ((x198001_2.length : Int) : Int) := of_decide_eq_true (by first | (with_reducible assumption) | assumption); first | (have e_ := (Kd.R_reads' HO_198001.out).1; omega) | simpa only [Ny207.out, Ny209.out, List.length_set] using h_); have ql210 : (((ji40) : Int) < ((x198001_2.length : Int) : Int)) = True := eq_true (of_decide_eq_true (by first | (with_reducible assumption) | assumption)); obtain ⟨ad210, e210, hx210_0⟩ := Kd.at_int (Kd.R_reads' HO_198001.out).2.2 (ji40) p210 q210; obtain rfl : (⟨go37, 0, none⟩ : Addr) = ad210 := (by injection e210); (first | simp only [add_plain] at hx210_0 | simp only [add_at] at hx210_0 | simp only [Addr.add, Nat.zero_add] at hx210_0 | skip); replace p210 := eq_true p210; replace q210 := eq_true q210; have p43 : 0 ≤ ((ji40) : Int) := of_decide_eq_true (by first | (with_reducible assumption) | assumption); have q43 : ((ji40) : Int) < ((x198001_2.length : Int) : Int) := of_decide_eq_true (by first | (with_reducible assumption) | assumption); obtain ⟨hx43_0, hf43_0⟩ := Kd.R_celln 0 HO_198001.out ((ji40) : Int) p43 q43; replace p43 := eq_true p43; replace q43 := eq_true q43; obtain ⟨hy56_, hz56_⟩ := Kd.R_celln 0 HO_198001.out ((ji40) : Int) (of_decide_eq_true (by first | (with_reducible assumption) | assumption)) (of_decide_eq_true (by first | (with_reducible assumption) | assumption)); have HP56 := Kd.R_putg HO_198001.out ((ji40) : Int) (wrap64 ((rd y209 (ji40)) + t205))) | ((with_reducible refine gate_store (t := 3) (p := 84) rfl ?_); refine store_event (t := 3) (p := 84) (v := ?vo_w57) (w1 := (w54.setCell ⟨go37, ((ji40) : Int).toNat, none⟩ (.int .i64 (wrap64 ((rd y209 (ji40)) + t205))))) ?hg ?ho ?hn ?hr ?_; (case ho => rfl); (case hg => rfl); (case hn => rfl); (case hr => first | (go_simp; done) | (go_simp; rfl) | (obtain ⟨Az_, cz_, ez_⟩ := Kd.R_slice HO_198000.out; simp only [ez_]; first | (go_simp; done) | (go_simp; rfl)) | (obtain ⟨Az_, cz_, ez_⟩ := Kd.R_slice HO_198001.out; simp only [ez_]; first | (go_simp; done) | (go_simp; rfl))); intro w57 hw; have hg : w54.grownBy w57 (some go37) := (by rw [hw]; exact HP56.2); have hp_ : Kd.R (Kd.int .i64) 3 w57 w.heap.size (fun k_ => some k_ ≠ (.slice (some ⟨go30, 0, none⟩) x198000_2.length co30 : Value).ownBlock) (.slice (some ⟨go37, 0, none⟩) x198001_2.length co49) y211 := (by rw [hw, Ny211.out]; exact HP56.1); clear HP56; have n0_ := Aside0.mk (Kd.R_after (v := (.slice (some ⟨go37, 0, none⟩) x198001_2.length co49)) (v1 := (.slice (some ⟨go37, 0, none⟩) x198001_2.length co49)) (ok := (fun _ => True)) (by (with_reducible repeat (first | apply Kd.R_alloc | apply Kd.R_drewN | apply Kd.R_drew)); exact HO_198000.out) hg (.inl rfl)); have n1_ := Aside0.mk (hp_); have n2_ := Aside0.mk (blk_grown (g := gb188) (o := .cells #[.slice none 0 0, .slice none 0 0] 32 (0, 0)) (by (with_reducible repeat (first | refine blk_drewN ?_ _ | refine blk_drew ?_ | refine blk_alloc ?_ _)); exact BK188.out) hg (Kd.R_ne HO_198001.out BK188.out (by decide))); have n3_ := Aside0.mk (blk_grown (g := gb197) (o := .cells #[.slice (some ⟨go30, 0, none⟩) x198000_2.length co30, .slice (some ⟨go37, 0, none⟩) x198001_2.length co49] 32 (0, 0)) (by (with_reducible repeat (first | refine blk_drewN ?_ _ | refine blk_drew ?_ | refine blk_alloc ?_ _)); exact BK197.out) hg (Kd.R_ne HO_198001.out BK197.out (by decide))); have n4_ := Aside0.mk ((by rw [hw]; exact below_set (HB.out) GB37.out : Below w.heap.size w w57)); clear HO_198000; clear HO_198001; clear BK188; clear BK197; clear HB; have HO_198000 := n0_; have HO_198001 := n1_; have BK188 := n2_; have BK197 := n3_; have HB := n4_; clear n0_ n1_ n2_ n3_ n4_; clear hg hw hp_))
                                    go_roundg k2
                                    case measure => have := HJ2.out; have := HK2.out; omega
                                    case rel => exact ⟨(wrap64 ((wrap64 ((wrap64 ((wrap64 ((wrap64 ((wrap64 ((rd l0 x28_2) + (rd l1 x28_2))) + x7_2)) - 255)) - t203)) - t204)) - t205)), (wrap64 (x28_2 + 1)), (y202), (y211), (.slice (some ⟨go30, 0, none⟩) x198000_2.length co30), (.slice (some ⟨go37, 0, none⟩) x198001_2.length co49), (by first | rfl | (simp; done) | (simp [*]; done)), (by first | rfl | (simp; done) | (simp [*]; done)), H', ⟨by have := HJ2.out; have := HK2.out; omega⟩, ⟨by (with_reducible repeat (first | apply Kd.R_alloc | apply Kd.R_drewN | apply Kd.R_drew)); exact Kd.R_mono HO_198000.out (fun _ hk => by first | exact hk.2 | exact hk | exact trivial | exact hk.1 | exact hk.2 | exact hk.1.1 | exact hk.1.2)⟩, ⟨by (with_reducible repeat (first | apply Kd.R_alloc | apply Kd.R_drewN | apply Kd.R_drew)); exact HO_198001.out⟩, ⟨by (with_reducible repeat (first | refine blk_drewN ?_ _ | refine blk_drew ?_ | refine blk_alloc ?_ _)); exact BK188.out⟩, ⟨by (with_reducible repeat (first | refine blk_drewN ?_ _ | refine blk_drew ?_ | refine blk_alloc ?_ _)); exact BK197.out⟩, ⟨by repeat (first | (with_reducible first | exact HB.out | apply below_alloc | apply pw_below_drewN | apply below_drew1 | refine below_set ?_ GE188.out | refine below_set ?_ GE197.out) | exact HB.out)⟩⟩
                                  · rw [if_neg c42] at H
                                    exact absurd H (by simp)
                                · rw [if_neg c41] at H
                                  exact absurd H (by simp)
                              · rw [if_neg c38] at H
                                exact absurd H (by simp)
                            · rw [if_neg c36] at H
                              exact absurd H (by simp)
                          · rw [if_neg c35] at H
                            exact absurd H (by simp)
                        · rw [if_neg c29] at H
                          exact absurd H (by simp)
                      · rw [if_neg c28] at H
                        have c28b0 : decide (128 ≤ (wrap64 ((wrap64 ((rd l0 x28_2) + (rd l1 x28_2))) + x7_2))) = false := decide_eq_false c28
                        clear c28
                        replace H := Option.bind_eq_some_iff.mp H
                        obtain ⟨t212, A580, H⟩ := H
                        replace H : ((impl_down.f (wrap64 (5 * (wrap64 ((wrap64 ((rd l0 x28_2) + (rd l1 x28_2))) + x7_2)))) 16).bind fun t213 => ((impl_down.f (wrap64 ((wrap64 ((rd l0 x28_2) + (rd l1 x28_2))) + x7_2)) 16).bind fun t214 => (if 0 ≤ (mx 0 (wrap64 (x28_2 - 1))) then (if (mx 0 (wrap64 (x28_2 - 1))) < (x198001_2.length : Int) then ((some (x198001_2.set ((mx 0 (wrap64 (x28_2 - 1))) : Int).toNat (wrap64 ((rd x198001_2 (mx 0 (wrap64 (x28_2 - 1)))) + t212)) : List Int)).bind fun y216 => (if x28_2 < (x198001_2.length : Int) then ((some (y216.set (x28_2 : Int).toNat (wrap64 ((rd y216 x28_2) + t213)) : List Int)).bind fun y218 => (if 0 ≤ (mn 31 (wrap64 (x28_2 + 1))) then (if (mn 31 (wrap64 (x28_2 + 1))) < (x198001_2.length : Int) then (impl_DiffuseRow.l0 k2 l1 (wrap64 ((wrap64 ((wrap64 ((wrap64 ((wrap64 ((rd l0 x28_2) + (rd l1 x28_2))) + x7_2)) - t212)) - t213)) - t214)) l0 (l0.length : Int) (wrap64 (x28_2 + 1)) x198000_2 (y218.set ((mn 31 (wrap64 (x28_2 + 1))) : Int).toNat (wrap64 ((rd y218 (mn 31 (wrap64 (x28_2 + 1)))) + t214)))) else (none)) else (none))) else (none))) else (none)) else (none)))) = some (r1, r2, r3) := H
                        have A58 := Aside0.mk A580
                        clear A580
                        replace H := Option.bind_eq_some_iff.mp H
                        obtain ⟨t213, A590, H⟩ := H
                        replace H : ((impl_down.f (wrap64 ((wrap64 ((rd l0 x28_2) + (rd l1 x28_2))) + x7_2)) 16).bind fun t214 => (if 0 ≤ (mx 0 (wrap64 (x28_2 - 1))) then (if (mx 0 (wrap64 (x28_2 - 1))) < (x198001_2.length : Int) then ((some (x198001_2.set ((mx 0 (wrap64 (x28_2 - 1))) : Int).toNat (wrap64 ((rd x198001_2 (mx 0 (wrap64 (x28_2 - 1)))) + t212)) : List Int)).bind fun y216 => (if x28_2 < (x198001_2.length : Int) then ((some (y216.set (x28_2 : Int).toNat (wrap64 ((rd y216 x28_2) + t213)) : List Int)).bind fun y218 => (if 0 ≤ (mn 31 (wrap64 (x28_2 + 1))) then (if (mn 31 (wrap64 (x28_2 + 1))) < (x198001_2.length : Int) then (impl_DiffuseRow.l0 k2 l1 (wrap64 ((wrap64 ((wrap64 ((wrap64 ((wrap64 ((rd l0 x28_2) + (rd l1 x28_2))) + x7_2)) - t212)) - t213)) - t214)) l0 (l0.length : Int) (wrap64 (x28_2 + 1)) x198000_2 (y218.set ((mn 31 (wrap64 (x28_2 + 1))) : Int).toNat (wrap64 ((rd y218 (mn 31 (wrap64 (x28_2 + 1)))) + t214)))) else (none)) else (none))) else (none))) else (none)) else (none))) = some (r1, r2, r3) := H
                        have A59 := Aside0.mk A590
                        clear A590
                        replace H := Option.bind_eq_some_iff.mp H
                        obtain ⟨t214, A600, H⟩ := H
                        replace H : (if 0 ≤ (mx 0 (wrap64 (x28_2 - 1))) then (if (mx 0 (wrap64 (x28_2 - 1))) < (x198001_2.length : Int) then ((some (x198001_2.set ((mx 0 (wrap64 (x28_2 - 1))) : Int).toNat (wrap64 ((rd x198001_2 (mx 0 (wrap64 (x28_2 - 1)))) + t212)) : List Int)).bind fun y216 => (if x28_2 < (x198001_2.length : Int) then ((some (y216.set (x28_2 : Int).toNat (wrap64 ((rd y216 x28_2) + t213)) : List Int)).bind fun y218 => (if 0 ≤ (mn 31 (wrap64 (x28_2 + 1))) then (if (mn 31 (wrap64 (x28_2 + 1))) < (x198001_2.length : Int) then (impl_DiffuseRow.l0 k2 l1 (wrap64 ((wrap64 ((wrap64 ((wrap64 ((wrap64 ((rd l0 x28_2) + (rd l1 x28_2))) + x7_2)) - t212)) - t213)) - t214)) l0 (l0.length : Int) (wrap64 (x28_2 + 1)) x198000_2 (y218.set ((mn 31 (wrap64 (x28_2 + 1))) : Int).toNat (wrap64 ((rd y218 (mn 31 (wrap64 (x28_2 + 1)))) + t214)))) else (none)) else (none))) else (none))) else (none)) else (none)) = some (r1, r2, r3) := H
                        have A60 := Aside0.mk A600
                        clear A600
                        obtain ⟨ji61, hji61⟩ : ∃ j_ : Int, (mx 0 (wrap64 (x28_2 - 1))) = j_ := ⟨_, rfl⟩
                        replace H : (if 0 ≤ (ji61) then (if (ji61) < (x198001_2.length : Int) then ((some (x198001_2.set ((ji61) : Int).toNat (wrap64 ((rd x198001_2 (ji61)) + t212)) : List Int)).bind fun y216 => (if x28_2 < (x198001_2.length : Int) then ((some (y216.set (x28_2 : Int).toNat (wrap64 ((rd y216 x28_2) + t213)) : List Int)).bind fun y218 => (if 0 ≤ (mn 31 (wrap64 (x28_2 + 1))) then (if (mn 31 (wrap64 (x28_2 + 1))) < (x198001_2.length : Int) then (impl_DiffuseRow.l0 k2 l1 (wrap64 ((wrap64 ((wrap64 ((wrap64 ((wrap64 ((rd l0 x28_2) + (rd l1 x28_2))) + x7_2)) - t212)) - t213)) - t214)) l0 (l0.length : Int) (wrap64 (x28_2 + 1)) x198000_2 (y218.set ((mn 31 (wrap64 (x28_2 + 1))) : Int).toNat (wrap64 ((rd y218 (mn 31 (wrap64 (x28_2 + 1)))) + t214)))) else (none)) else (none))) else (none))) else (none)) else (none)) = some (r1, r2, r3) := by first | (rw [hji61] at H; exact H) | (simp only [hji61] at H ⊢; exact H)
                        (try rw [hji61] at A58)
                        (try rw [hji61] at A59)
                        (try rw [hji61] at A60)
                        have hji61_ : (if 0 < (wrap64 (x28_2 - 1)) then (wrap64 (x28_2 - 1)) else 0) = ji61 := hji61
                        by_cases c62 : 0 ≤ (ji61)
                        · rw [if_pos c62] at H
                          have c62b0 : decide (0 ≤ (ji61)) = true := decide_eq_true c62
                          clear c62
                          by_cases c63 : (ji61) < (x198001_2.length : Int)
                          · rw [if_pos c63] at H
                            have c63b0 : decide ((ji61) < (x198001_2.length : Int)) = true := decide_eq_true c63
                            clear c63
                            obtain ⟨y216, hy216⟩ : ∃ y_ : List Int, y_ = (x198001_2.set ((ji61) : Int).toNat (wrap64 ((rd x198001_2 (ji61)) + t212))) := ⟨_, rfl⟩
                            replace H : (if x28_2 < (x198001_2.length : Int) then ((some (y216.set (x28_2 : Int).toNat (wrap64 ((rd y216 x28_2) + t213)) : List Int)).bind fun y218 => (if 0 ≤ (mn 31 (wrap64 (x28_2 + 1))) then (if (mn 31 (wrap64 (x28_2 + 1))) < (x198001_2.length : Int) then (impl_DiffuseRow.l0 k2 l1 (wrap64 ((wrap64 ((wrap64 ((wrap64 ((wrap64 ((rd l0 x28_2) + (rd l1 x28_2))) + x7_2)) - t212)) - t213)) - t214)) l0 (l0.length : Int) (wrap64 (x28_2 + 1)) x198000_2 (y218.set ((mn 31 (wrap64 (x28_2 + 1))) : Int).toNat (wrap64 ((rd y218 (mn 31 (wrap64 (x28_2 + 1)))) + t214)))) else (none)) else (none))) else (none)) = some (r1, r2, r3) := by first | (rw [hy216]; with_reducible exact H) | (have H2_ := (Option.bind_some _ _).symm.trans H; rw [hy216]; with_reducible exact H2_) | (have H2_ := (Option.bind_some _ _).symm.trans H; with_reducible exact H2_) | with_reducible exact H | (rw [hy216]; exact H) | exact H
                            have Ny216 := Aside0.mk hy216
                            clear hy216
                            by_cases c65 : x28_2 < (x198001_2.length : Int)
                            · rw [if_pos c65] at H
                              have c65b0 : decide (x28_2 < (x198001_2.length : Int)) = true := decide_eq_true c65
                              clear c65
                              obtain ⟨y218, hy218⟩ : ∃ y_ : List Int, y_ = (y216.set (x28_2 : Int).toNat (wrap64 ((rd y216 x28_2) + t213))) := ⟨_, rfl⟩
                              replace H : (if 0 ≤ (mn 31 (wrap64 (x28_2 + 1))) then (if (mn 31 (wrap64 (x28_2 + 1))) < (x198001_2.length : Int) then (impl_DiffuseRow.l0 k2 l1 (wrap64 ((wrap64 ((wrap64 ((wrap64 ((wrap64 ((rd l0 x28_2) + (rd l1 x28_2))) + x7_2)) - t212)) - t213)) - t214)) l0 (l0.length : Int) (wrap64 (x28_2 + 1)) x198000_2 (y218.set ((mn 31 (wrap64 (x28_2 + 1))) : Int).toNat (wrap64 ((rd y218 (mn 31 (wrap64 (x28_2 + 1)))) + t214)))) else (none)) else (none)) = some (r1, r2, r3) := by first | (rw [hy218]; with_reducible exact H) | (have H2_ := (Option.bind_some _ _).symm.trans H; rw [hy218]; with_reducible exact H2_) | (have H2_ := (Option.bind_some _ _).symm.trans H; with_reducible exact H2_) | with_reducible exact H | (rw [hy218]; exact H) | exact H
                              have Ny218 := Aside0.mk hy218
                              clear hy218
                              obtain ⟨ji67, hji67⟩ : ∃ j_ : Int, (mn 31 (wrap64 (x28_2 + 1))) = j_ := ⟨_, rfl⟩
                              replace H : (if 0 ≤ (ji67) then (if (ji67) < (x198001_2.length : Int) then (impl_DiffuseRow.l0 k2 l1 (wrap64 ((wrap64 ((wrap64 ((wrap64 ((wrap64 ((rd l0 x28_2) + (rd l1 x28_2))) + x7_2)) - t212)) - t213)) - t214)) l0 (l0.length : Int) (wrap64 (x28_2 + 1)) x198000_2 (y218.set ((ji67) : Int).toNat (wrap64 ((rd y218 (ji67)) + t214)))) else (none)) else (none)) = some (r1, r2, r3) := by first | (rw [hji67] at H; exact H) | (simp only [hji67] at H ⊢; exact H)
                              (try rw [hji67] at A58)
                              (try rw [hji67] at A59)
                              (try rw [hji67] at A60)
                              have hji67_ : (if (wrap64 (x28_2 + 1)) < 31 then (wrap64 (x28_2 + 1)) else 31) = ji67 := hji67
                              by_cases c68 : 0 ≤ (ji67)
                              · rw [if_pos c68] at H
                                have c68b0 : decide (0 ≤ (ji67)) = true := decide_eq_true c68
                                clear c68
                                by_cases c69 : (ji67) < (x198001_2.length : Int)
                                · rw [if_pos c69] at H
                                  have c69b0 : decide ((ji67) < (x198001_2.length : Int)) = true := decide_eq_true c69
                                  clear c69
                                  obtain ⟨y220, hy220⟩ : ∃ y_ : List Int, y_ = (y218.set ((ji67) : Int).toNat (wrap64 ((rd y218 (ji67)) + t214))) := ⟨_, rfl⟩
                                  replace H : (impl_DiffuseRow.l0 k2 l1 (wrap64 ((wrap64 ((wrap64 ((wrap64 ((wrap64 ((rd l0 x28_2) + (rd l1 x28_2))) + x7_2)) - t212)) - t213)) - t214)) l0 (l0.length : Int) (wrap64 (x28_2 + 1)) x198000_2 y220) = some (r1, r2, r3) := by first | (rw [hy220]; with_reducible exact H) | (have H2_ := (Option.bind_some _ _).symm.trans H; rw [hy220]; with_reducible exact H2_) | (have H2_ := (Option.bind_some _ _).symm.trans H; with_reducible exact H2_) | with_reducible exact H | (rw [hy220]; exact H) | exact H
                                  have Ny220 := Aside0.mk hy220
                                  clear hy220
                                  have H' := Aside0.mk H
                                  clear H
                                  have p200 : 0 ≤ (x28_2 : Int) := of_decide_eq_true (by first | (with_reducible assumption) | assumption)
                                  have q200 : x28_2 < (l0.length : Int) := of_decide_eq_true (by first | (with_reducible assumption) | assumption)
                                  obtain ⟨ad200, e200, hx200_0⟩ := Kd.at_int HR0.out x28_2 p200 q200
                                  cases e200
                                  replace hx200_0 := (HB.out.cell (World.block_lt_of_cell? w _ hx200_0)).trans hx200_0
                                  replace p200 := eq_true p200
                                  replace q200 := eq_true q200
                                  have p201 : 0 ≤ (x28_2 : Int) := of_decide_eq_true (by first | (with_reducible assumption) | assumption)
                                  have q201 : x28_2 < (l1.length : Int) := of_decide_eq_true (by first | (with_reducible assumption) | assumption)
                                  obtain ⟨ad201, e201, hx201_0⟩ := Kd.at_int HR1.out x28_2 p201 q201
                                  cases e201
                                  replace hx201_0 := (HB.out.cell (World.block_lt_of_cell? w _ hx201_0)).trans hx201_0
                                  replace p201 := eq_true p201
                                  replace q201 := eq_true q201
                                  go_wp2_with (first | ((with_reducible refine gate_callee (f := 57) rfl ?_); refine goesL_ (some 51) rfl rfl Try.func57 (by kernel_rfl) rfl #[.int .i64 (wrap64 (3 * (wrap64 ((wrap64 ((rd l0 x28_2) + (rd l1 x28_2))) + x7_2)))), .int .i64 16] rfl (by (try simp only [List.map_toArray, List.map_cons, List.map_nil]); first | done | rfl | (simp only [List.length_drop, List.length_take]; rfl)) ?_; (with_reducible refine (impl_down.calls (wrap64 (3 * (wrap64 ((wrap64 ((rd l0 x28_2) + (rd l1 x28_2))) + x7_2)))) 16 t212 _ A58.out).mono ?_); rintro e w' ⟨rfl, ⟨nd, rfl⟩⟩; refine ⟨_, rfl, ?_⟩; (try (rw [drewN_self wr]; generalize hq_ : World.drewN wr _ = wr; have n0_ : Aside0 (Kd.R (Kd.int .i64) 3 wr w.heap.size (fun k_ => some k_ ≠ (u198001 : Value).ownBlock) u198000 x198000_2) := ⟨by rw [← hq_]; exact (by (with_reducible repeat (first | apply Kd.R_alloc | apply Kd.R_drewN | apply Kd.R_drew)); exact HO_198000.out)⟩; have n1_ : Aside0 (Kd.R (Kd.int .i64) 3 wr w.heap.size (fun k_ => some k_ ≠ (u198000 : Value).ownBlock) u198001 x198001_2) := ⟨by rw [← hq_]; exact (by (with_reducible repeat (first | apply Kd.R_alloc | apply Kd.R_drewN | apply Kd.R_drew)); exact HO_198001.out)⟩; have n2_ : Aside0 (wr.heap[gb188]? = some (.cells #[.slice none 0 0, .slice none 0 0] 32 (0, 0))) := ⟨by rw [← hq_]; exact (by (with_reducible repeat (first | refine blk_drewN ?_ _ | refine blk_drew ?_ | refine blk_alloc ?_ _)); exact BK188.out)⟩; have n3_ : Aside0 (wr.heap[gb197]? = some (.cells #[u198000, u198001] 32 (0, 0))) := ⟨by rw [← hq_]; exact (by (with_reducible repeat (first | refine blk_drewN ?_ _ | refine blk_drew ?_ | refine blk_alloc ?_ _)); exact BK197.out)⟩; have n4_ : Aside0 (Below w.heap.size w wr) := ⟨by rw [← hq_]; exact (by repeat (first | (with_reducible first | exact HB.out | apply below_alloc | apply pw_below_drewN | apply below_drew1 | refine below_set ?_ GE188.out | refine below_set ?_ GE197.out) | exact HB.out))⟩; clear HO_198000 HO_198001 BK188 BK197 HB hq_; have HO_198000 := n0_; have HO_198001 := n1_; have BK188 := n2_; have BK197 := n3_; have HB := n4_; clear n0_ n1_ n2_ n3_ n4_))) | ((with_reducible refine gate_callee (f := 57) rfl ?_); refine goesL_ (some 54) rfl rfl Try.func57 (by kernel_rfl) rfl #[.int .i64 (wrap64 (5 * (wrap64 ((wrap64 ((rd l0 x28_2) + (rd l1 x28_2))) + x7_2)))), .int .i64 16] rfl (by (try simp only [List.map_toArray, List.map_cons, List.map_nil]); first | done | rfl | (simp only [List.length_drop, List.length_take]; rfl)) ?_; (with_reducible refine (impl_down.calls (wrap64 (5 * (wrap64 ((wrap64 ((rd l0 x28_2) + (rd l1 x28_2))) + x7_2)))) 16 t213 _ A59.out).mono ?_); rintro e w' ⟨rfl, ⟨nd, rfl⟩⟩; refine ⟨_, rfl, ?_⟩; (try (rw [drewN_self wr]; generalize hq_ : World.drewN wr _ = wr; have n0_ : Aside0 (Kd.R (Kd.int .i64) 3 wr w.heap.size (fun k_ => some k_ ≠ (u198001 : Value).ownBlock) u198000 x198000_2) := ⟨by rw [← hq_]; exact (by (with_reducible repeat (first | apply Kd.R_alloc | apply Kd.R_drewN | apply Kd.R_drew)); exact HO_198000.out)⟩; have n1_ : Aside0 (Kd.R (Kd.int .i64) 3 wr w.heap.size (fun k_ => some k_ ≠ (u198000 : Value).ownBlock) u198001 x198001_2) := ⟨by rw [← hq_]; exact (by (with_reducible repeat (first | apply Kd.R_alloc | apply Kd.R_drewN | apply Kd.R_drew)); exact HO_198001.out)⟩; have n2_ : Aside0 (wr.heap[gb188]? = some (.cells #[.slice none 0 0, .slice none 0 0] 32 (0, 0))) := ⟨by rw [← hq_]; exact (by (with_reducible repeat (first | refine blk_drewN ?_ _ | refine blk_drew ?_ | refine blk_alloc ?_ _)); exact BK188.out)⟩; have n3_ : Aside0 (wr.heap[gb197]? = some (.cells #[u198000, u198001] 32 (0, 0))) := ⟨by rw [← hq_]; exact (by (with_reducible repeat (first | refine blk_drewN ?_ _ | refine blk_drew ?_ | refine blk_alloc ?_ _)); exact BK197.out)⟩; have n4_ : Aside0 (Below w.heap.size w wr) := ⟨by rw [← hq_]; exact (by repeat (first | (with_reducible first | exact HB.out | apply below_alloc | apply pw_below_drewN | apply below_drew1 | refine below_set ?_ GE188.out | refine below_set ?_ GE197.out) | exact HB.out))⟩; clear HO_198000 HO_198001 BK188 BK197 HB hq_; have HO_198000 := n0_; have HO_198001 := n1_; have BK188 := n2_; have BK197 := n3_; have HB := n4_; clear n0_ n1_ n2_ n3_ n4_))) | ((with_reducible refine gate_callee (f := 57) rfl ?_); refine goesL_ (some 56) rfl rfl Try.func57 (by kernel_rfl) rfl #[.int .i64 (wrap64 ((wrap64 ((rd l0 x28_2) + (rd l1 x28_2))) + x7_2)), .int .i64 16] rfl (by (try simp only [List.map_toArray, List.map_cons, List.map_nil]); first | done | rfl | (simp only [List.length_drop, List.length_take]; rfl)) ?_; (with_reducible refine (impl_down.calls (wrap64 ((wrap64 ((rd l0 x28_2) + (rd l1 x28_2))) + x7_2)) 16 t214 _ A60.out).mono ?_); rintro e w' ⟨rfl, ⟨nd, rfl⟩⟩; refine ⟨_, rfl, ?_⟩; (try (rw [drewN_self wr]; generalize hq_ : World.drewN wr _ = wr; have n0_ : Aside0 (Kd.R (Kd.int .i64) 3 wr w.heap.size (fun k_ => some k_ ≠ (u198001 : Value).ownBlock) u198000 x198000_2) := ⟨by rw [← hq_]; exact (by (with_reducible repeat (first | apply Kd.R_alloc | apply Kd.R_drewN | apply Kd.R_drew)); exact HO_198000.out)⟩; have n1_ : Aside0 (Kd.R (Kd.int .i64) 3 wr w.heap.size (fun k_ => some k_ ≠ (u198000 : Value).ownBlock) u198001 x198001_2) := ⟨by rw [← hq_]; exact (by (with_reducible repeat (first | apply Kd.R_alloc | apply Kd.R_drewN | apply Kd.R_drew)); exact HO_198001.out)⟩; have n2_ : Aside0 (wr.heap[gb188]? = some (.cells #[.slice none 0 0, .slice none 0 0] 32 (0, 0))) := ⟨by rw [← hq_]; exact (by (with_reducible repeat (first | refine blk_drewN ?_ _ | refine blk_drew ?_ | refine blk_alloc ?_ _)); exact BK188.out)⟩; have n3_ : Aside0 (wr.heap[gb197]? = some (.cells #[u198000, u198001] 32 (0, 0))) := ⟨by rw [← hq_]; exact (by (with_reducible repeat (first | refine blk_drewN ?_ _ | refine blk_drew ?_ | refine blk_alloc ?_ _)); exact BK197.out)⟩; have n4_ : Aside0 (Below w.heap.size w wr) := ⟨by rw [← hq_]; exact (by repeat (first | (with_reducible first | exact HB.out | apply below_alloc | apply pw_below_drewN | apply below_drew1 | refine below_set ?_ GE188.out | refine below_set ?_ GE197.out) | exact HB.out))⟩; clear HO_198000 HO_198001 BK188 BK197 HB hq_; have HO_198000 := n0_; have HO_198001 := n1_; have BK188 := n2_; have BK197 := n3_; have HB := n4_; clear n0_ n1_ n2_ n3_ n4_)); have hnb71 := NB197_188.out; have hnc71 := NB188_197.out; have hcz72_0 : wr.cell? ⟨gb197, 0, none⟩ = some (u198000) := (blk_cell BK197.out 0).trans rfl; have hcz72_1 : wr.cell? ⟨gb197, 1, none⟩ = some (u198001) := (blk_cell BK197.out 1).trans rfl; have hfz72_0 := blk_frozen BK197.out 0; have hfz72_1 := blk_frozen BK197.out 1; obtain ⟨Ao73, co73, eo73⟩ := Kd.R_slice HO_198001.out; subst eo73; have p215 : 0 ≤ ((ji61) : Int) := of_decide_eq_true (by first | (with_reducible assumption) | assumption); have q215 : (ji61) < (x198001_2.length : Int) := of_decide_eq_true (by first | (with_reducible assumption) | assumption); obtain ⟨ad215, e215, hx215_0⟩ := Kd.at_int (Kd.R_reads' HO_198001.out).2.2 (ji61) p215 q215; cases e215; replace p215 := eq_true p215; replace q215 := eq_true q215; have p64 : 0 ≤ ((ji61) : Int) := of_decide_eq_true (by first | (with_reducible assumption) | assumption); have q64 : ((ji61) : Int) < ((x198001_2.length : Int) : Int) := of_decide_eq_true (by first | (with_reducible assumption) | assumption); obtain ⟨go64, co64, eo64, gb64, gl64, cl64, HG64⟩ := Kd.R_form HO_198001.out (by omega); (first | cases eo64 | (injection eo64 with ea_ en_ ec_; (first | subst ea_ | (injection ea_ with ea_; subst ea_)); subst ec_; clear en_)); have GB64 := Aside0.mk gb64; have GG64 := Aside0.mk HG64; clear gb64 gl64 HG64; (first | simp only [add_plain] at hx215_0 | skip); obtain ⟨hx64_0, hf64_0⟩ := Kd.R_celln 0 HO_198001.out ((ji61) : Int) p64 q64; replace p64 := eq_true p64; replace q64 := eq_true q64; obtain ⟨hy74_, hz74_⟩ := Kd.R_celln 0 HO_198001.out ((ji61) : Int) (of_decide_eq_true (by first | (with_reducible assumption) | assumption)) (of_decide_eq_true (by first | (with_reducible assumption) | assumption)); have HP74 := Kd.R_putg HO_198001.out ((ji61) : Int) (wrap64 ((rd x198001_2 (ji61)) + t212))) | ((with_reducible refine gate_store (t := 3) (p := 66) rfl ?_); refine store_event (t := 3) (p := 66) (v := ?vo_w75) (w1 := (wr.setCell ⟨go64, ((ji61) : Int).toNat, none⟩ (.int .i64 (wrap64 ((rd x198001_2 (ji61)) + t212))))) ?hg ?ho ?hn ?hr ?_; (case ho => rfl); (case hg => rfl); (case hn => rfl); (case hr => first | (go_simp; done) | (go_simp; rfl) | (obtain ⟨Az_, cz_, ez_⟩ := Kd.R_slice HO_198000.out; simp only [ez_]; first | (go_simp; done) | (go_simp; rfl)) | (obtain ⟨Az_, cz_, ez_⟩ := Kd.R_slice HO_198001.out; simp only [ez_]; first | (go_simp; done) | (go_simp; rfl))); intro w75 hw; have hg : wr.grownBy w75 (some go64) := (by rw [hw]; exact HP74.2); have hp_ : Kd.R (Kd.int .i64) 3 w75 w.heap.size (fun k_ => some k_ ≠ (u198000 : Value).ownBlock) (.slice (some ⟨go64, 0, none⟩) x198001_2.length co73) y216 := (by rw [hw, Ny216.out]; exact HP74.1); clear HP74; have n0_ := Aside0.mk (Kd.R_after (v := (.slice (some ⟨go64, 0, none⟩) x198001_2.length co73)) (v1 := (.slice (some ⟨go64, 0, none⟩) x198001_2.length co73)) (ok := (fun _ => True)) (by (with_reducible repeat (first | apply Kd.R_alloc | apply Kd.R_drewN | apply Kd.R_drew)); exact Kd.R_mono HO_198000.out (fun _ hk => ⟨trivial, hk⟩)) hg (.inl rfl)); have n1_ := Aside0.mk (hp_); have n2_ := Aside0.mk (blk_grown (g := gb188) (o := .cells #[.slice none 0 0, .slice none 0 0] 32 (0, 0)) (by (with_reducible repeat (first | refine blk_drewN ?_ _ | refine blk_drew ?_ | refine blk_alloc ?_ _)); exact BK188.out) hg (Kd.R_ne HO_198001.out BK188.out (by decide))); have n3_ := Aside0.mk (blk_grown (g := gb197) (o := .cells #[u198000, .slice (some ⟨go64, 0, none⟩) x198001_2.length co73] 32 (0, 0)) (by (with_reducible repeat (first | refine blk_drewN ?_ _ | refine blk_drew ?_ | refine blk_alloc ?_ _)); exact BK197.out) hg (Kd.R_ne HO_198001.out BK197.out (by decide))); have n4_ := Aside0.mk ((by rw [hw]; exact below_set (HB.out) GB64.out : Below w.heap.size w w75)); clear HO_198000; clear HO_198001; clear BK188; clear BK197; clear HB; have HO_198000 := n0_; have HO_198001 := n1_; have BK188 := n2_; have BK197 := n3_; have HB := n4_; clear n0_ n1_ n2_ n3_ n4_; clear hg hw hp_; have hcz76_0 : w75.cell? ⟨gb197, 0, none⟩ = some (u198000) := (blk_cell BK197.out 0).trans rfl; have hcz76_1 : w75.cell? ⟨gb197, 1, none⟩ = some (.slice (some ⟨go64, 0, none⟩) x198001_2.length co73) := (blk_cell BK197.out 1).trans rfl; have hfz76_0 := blk_frozen BK197.out 0; have hfz76_1 := blk_frozen BK197.out 1; have p217 : 0 ≤ (x28_2 : Int) := of_decide_eq_true (by first | (with_reducible assumption) | assumption); have q217 : x28_2 < (y216.length : Int) := (by have h_ : (x28_2 : Int) < ((x198001_2.length : Int) : Int) := of_decide_eq_true (by first | (with_reducible assumption) | assumption); first | (have e_ := (Kd.R_reads' HO_198001.out).1; omega) | simpa only [Ny216.out, List.length_set] using h_); have ql217 : ((x28_2 : Int) < ((x198001_2.length : Int) : Int)) = True := eq_true (of_decide_eq_true (by first | (with_reducible assumption) | assumption)); obtain ⟨ad217, e217, hx217_0⟩ := Kd.at_int (Kd.R_reads' HO_198001.out).2.2 x28_2 p217 q217; obtain rfl : (⟨go64, 0, none⟩ : Addr) = ad217 := (by injection e217); (first | simp only [add_plain] at hx217_0 | simp only [add_at] at hx217_0 | simp only [Addr.add, Nat.zero_add] at hx217_0 | skip); replace p217 := eq_true p217; replace q217 := eq_true q217; have p66 : 0 ≤ (x28_2 : Int) := of_decide_eq_true (by first | (with_reducible assumption) | assumption); have q66 : (x28_2 : Int) < ((x198001_2.length : Int) : Int) := of_decide_eq_true (by first | (with_reducible assumption) | assumption); obtain ⟨hx66_0, hf66_0⟩ := Kd.R_celln 0 HO_198001.out (x28_2 : Int) p66 q66; replace p66 := eq_true p66; replace q66 := eq_true q66; obtain ⟨hy77_, hz77_⟩ := Kd.R_celln 0 HO_198001.out (x28_2 : Int) (of_decide_eq_true (by first | (with_reducible assumption) | assumption)) (of_decide_eq_true (by first | (with_reducible assumption) | assumption)); have HP77 := Kd.R_putg HO_198001.out (x28_2 : Int) (wrap64 ((rd y216 x28_2) + t213))) | ((with_reducible refine gate_store (t := 3) (p := 74) rfl ?_); refine store_event (t := 3) (p := 74) (v := ?vo_w78) (w1 := (w75.setCell ⟨go64, (x28_2 : Int).toNat, none⟩ (.int .i64 (wrap64 ((rd y216 x28_2) + t213))))) ?hg ?ho ?hn ?hr ?_; (case ho => rfl); (case hg => rfl); (case hn => rfl); (case hr => first | (go_simp; done) | (go_simp; rfl) | (obtain ⟨Az_, cz_, ez_⟩ := Kd.R_slice HO_198000.out; simp only [ez_]; first | (go_simp; done) | (go_simp; rfl)) | (obtain ⟨Az_, cz_, ez_⟩ := Kd.R_slice HO_198001.out; simp only [ez_]; first | (go_simp; done) | (go_simp; rfl))); intro w78 hw; have hg : w75.grownBy w78 (some go64) := (by rw [hw]; exact HP77.2); have hp_ : Kd.R (Kd.int .i64) 3 w78 w.heap.size (fun k_ => some k_ ≠ (u198000 : Value).ownBlock) (.slice (some ⟨go64, 0, none⟩) x198001_2.length co73) y218 := (by rw [hw, Ny218.out]; exact HP77.1); clear HP77; have n0_ := Aside0.mk (Kd.R_after (v := (.slice (some ⟨go64, 0, none⟩) x198001_2.length co73)) (v1 := (.slice (some ⟨go64, 0, none⟩) x198001_2.length co73)) (ok := (fun _ => True)) (by (with_reducible repeat (first | apply Kd.R_alloc | apply Kd.R_drewN | apply Kd.R_drew)); exact HO_198000.out) hg (.inl rfl)); have n1_ := Aside0.mk (hp_); have n2_ := Aside0.mk (blk_grown (g := gb188) (o := .cells #[.slice none 0 0, .slice none 0 0] 32 (0, 0)) (by (with_reducible repeat (first | refine blk_drewN ?_ _ | refine blk_drew ?_ | refine blk_alloc ?_ _)); exact BK188.out) hg (Kd.R_ne HO_198001.out BK188.out (by decide))); have n3_ := Aside0.mk (blk_grown (g := gb197) (o := .cells #[u198000, .slice (some ⟨go64, 0, none⟩) x198001_2.length co73] 32 (0, 0)) (by (with_reducible repeat (first | refine blk_drewN ?_ _ | refine blk_drew ?_ | refine blk_alloc ?_ _)); exact BK197.out) hg (Kd.R_ne HO_198001.out BK197.out (by decide))); have n4_ := Aside0.mk ((by rw [hw]; exact below_set (HB.out) GB64.out : Below w.heap.size w w78)); clear HO_198000; clear HO_198001; clear BK188; clear BK197; clear HB; have HO_198000 := n0_; have HO_198001 := n1_; have BK188 := n2_; have BK197 := n3_; have HB := n4_; clear n0_ n1_ n2_ n3_ n4_; clear hg hw hp_; have hcz79_0 : w78.cell? ⟨gb197, 0, none⟩ = some (u198000) := (blk_cell BK197.out 0).trans rfl; have hcz79_1 : w78.cell? ⟨gb197, 1, none⟩ = some (.slice (some ⟨go64, 0, none⟩) x198001_2.length co73) := (blk_cell BK197.out 1).trans rfl; have hfz79_0 := blk_frozen BK197.out 0; have hfz79_1 := blk_frozen BK197.out 1; have p219 : 0 ≤ ((ji67) : Int) := of_decide_eq_true (by first | (with_reducible assumption) | assumption); have q219 : (ji67) < (y218.length : Int) := (by have h_ : ((ji67) : Int) < ((x198001_2.length : Int) : Int) := of_decide_eq_true (by first | (with_reducible assumption) | assumption); first | (have e_ := (Kd.R_reads' HO_198001.out).1; omega) | simpa only [Ny216.out, Ny218.out, List.length_set] using h_); have ql219 : (((ji67) : Int) < ((x198001_2.length : Int) : Int)) = True := eq_true (of_decide_eq_true (by first | (with_reducible assumption) | assumption)); obtain ⟨ad219, e219, hx219_0⟩ := Kd.at_int (Kd.R_reads' HO_198001.out).2.2 (ji67) p219 q219; obtain rfl : (⟨go64, 0, none⟩ : Addr) = ad219 := (by injection e219); (first | simp only [add_plain] at hx219_0 | simp only [add_at] at hx219_0 | simp only [Addr.add, Nat.zero_add] at hx219_0 | skip); replace p219 := eq_true p219; replace q219 := eq_true q219; have p70 : 0 ≤ ((ji67) : Int) := of_decide_eq_true (by first | (with_reducible assumption) | assumption); have q70 : ((ji67) : Int) < ((x198001_2.length : Int) : Int) := of_decide_eq_true (by first | (with_reducible assumption) | assumption); obtain ⟨hx70_0, hf70_0⟩ := Kd.R_celln 0 HO_198001.out ((ji67) : Int) p70 q70; replace p70 := eq_true p70; replace q70 := eq_true q70; obtain ⟨hy80_, hz80_⟩ := Kd.R_celln 0 HO_198001.out ((ji67) : Int) (of_decide_eq_true (by first | (with_reducible assumption) | assumption)) (of_decide_eq_true (by first | (with_reducible assumption) | assumption)); have HP80 := Kd.R_putg HO_198001.out ((ji67) : Int) (wrap64 ((rd y218 (ji67)) + t214))) | ((with_reducible refine gate_store (t := 3) (p := 84) rfl ?_); refine store_event (t := 3) (p := 84) (v := ?vo_w81) (w1 := (w78.setCell ⟨go64, ((ji67) : Int).toNat, none⟩ (.int .i64 (wrap64 ((rd y218 (ji67)) + t214))))) ?hg ?ho ?hn ?hr ?_; (case ho => rfl); (case hg => rfl); (case hn => rfl); (case hr => first | (go_simp; done) | (go_simp; rfl) | (obtain ⟨Az_, cz_, ez_⟩ := Kd.R_slice HO_198000.out; simp only [ez_]; first | (go_simp; done) | (go_simp; rfl)) | (obtain ⟨Az_, cz_, ez_⟩ := Kd.R_slice HO_198001.out; simp only [ez_]; first | (go_simp; done) | (go_simp; rfl))); intro w81 hw; have hg : w78.grownBy w81 (some go64) := (by rw [hw]; exact HP80.2); have hp_ : Kd.R (Kd.int .i64) 3 w81 w.heap.size (fun k_ => some k_ ≠ (u198000 : Value).ownBlock) (.slice (some ⟨go64, 0, none⟩) x198001_2.length co73) y220 := (by rw [hw, Ny220.out]; exact HP80.1); clear HP80; have n0_ := Aside0.mk (Kd.R_after (v := (.slice (some ⟨go64, 0, none⟩) x198001_2.length co73)) (v1 := (.slice (some ⟨go64, 0, none⟩) x198001_2.length co73)) (ok := (fun _ => True)) (by (with_reducible repeat (first | apply Kd.R_alloc | apply Kd.R_drewN | apply Kd.R_drew)); exact HO_198000.out) hg (.inl rfl)); have n1_ := Aside0.mk (hp_); have n2_ := Aside0.mk (blk_grown (g := gb188) (o := .cells #[.slice none 0 0, .slice none 0 0] 32 (0, 0)) (by (with_reducible repeat (first | refine blk_drewN ?_ _ | refine blk_drew ?_ | refine blk_alloc ?_ _)); exact BK188.out) hg (Kd.R_ne HO_198001.out BK188.out (by decide))); have n3_ := Aside0.mk (blk_grown (g := gb197) (o := .cells #[u198000, .slice (some ⟨go64, 0, none⟩) x198001_2.length co73] 32 (0, 0)) (by (with_reducible repeat (first | refine blk_drewN ?_ _ | refine blk_drew ?_ | refine blk_alloc ?_ _)); exact BK197.out) hg (Kd.R_ne HO_198001.out BK197.out (by decide))); have n4_ := Aside0.mk ((by rw [hw]; exact below_set (HB.out) GB64.out : Below w.heap.size w w81)); clear HO_198000; clear HO_198001; clear BK188; clear BK197; clear HB; have HO_198000 := n0_; have HO_198001 := n1_; have BK188 := n2_; have BK197 := n3_; have HB := n4_; clear n0_ n1_ n2_ n3_ n4_; clear hg hw hp_))
                                  go_roundg k2
                                  case measure => have := HJ2.out; have := HK2.out; omega
                                  case rel => exact ⟨(wrap64 ((wrap64 ((wrap64 ((wrap64 ((wrap64 ((rd l0 x28_2) + (rd l1 x28_2))) + x7_2)) - t212)) - t213)) - t214)), (wrap64 (x28_2 + 1)), (x198000_2), (y220), (u198000), (.slice (some ⟨go64, 0, none⟩) x198001_2.length co73), (by first | rfl | (simp; done) | (simp [*]; done)), (by first | rfl | (simp; done) | (simp [*]; done)), H', ⟨by have := HJ2.out; have := HK2.out; omega⟩, ⟨by (with_reducible repeat (first | apply Kd.R_alloc | apply Kd.R_drewN | apply Kd.R_drew)); exact Kd.R_mono HO_198000.out (fun _ hk => by first | exact hk.2 | exact hk | exact trivial | exact hk.1 | exact hk.2 | exact hk.1.1 | exact hk.1.2)⟩, ⟨by (with_reducible repeat (first | apply Kd.R_alloc | apply Kd.R_drewN | apply Kd.R_drew)); exact HO_198001.out⟩, ⟨by (with_reducible repeat (first | refine blk_drewN ?_ _ | refine blk_drew ?_ | refine blk_alloc ?_ _)); exact BK188.out⟩, ⟨by (with_reducible repeat (first | refine blk_drewN ?_ _ | refine blk_drew ?_ | refine blk_alloc ?_ _)); exact BK197.out⟩, ⟨by repeat (first | (with_reducible first | exact HB.out | apply below_alloc | apply pw_below_drewN | apply below_drew1 | refine below_set ?_ GE188.out | refine below_set ?_ GE197.out) | exact HB.out)⟩⟩
                                · rw [if_neg c69] at H
                                  exact absurd H (by simp)
                              · rw [if_neg c68] at H
                                exact absurd H (by simp)
                            · rw [if_neg c65] at H
                              exact absurd H (by simp)
                          · rw [if_neg c63] at H
                            exact absurd H (by simp)
                        · rw [if_neg c62] at H
                          exact absurd H (by simp)
                    · rw [if_neg c27] at H
                      exact absurd H (by simp)
                  · rw [if_neg c26] at H
                    exact absurd H (by simp)
                · rw [if_neg c25] at H
                  exact absurd H (by simp)
              · rw [if_neg c24] at H
                have c24b0 : decide (x28_2 < (l0.length : Int)) = false := decide_eq_false c24
                clear c24
                by_cases c82 : 31 < (x198001_2.length : Int)
                · rw [if_pos c82] at H
                  have c82b0 : decide (31 < (x198001_2.length : Int)) = true := decide_eq_true c82
                  have c82b1 : decide (31 < x198001_2.length) = true := decide_eq_true (by omega)
                  clear c82
                  obtain ⟨y199, hy199⟩ : ∃ y_ : List Int, y_ = (x198001_2.set (31 : Int).toNat (wrap64 ((rd x198001_2 31) + x7_2))) := ⟨_, rfl⟩
                  replace H : (some (x198000_2, y199, true)) = some (r1, r2, r3) := by first | (rw [hy199]; with_reducible exact H) | (have H2_ := (Option.bind_some _ _).symm.trans H; rw [hy199]; with_reducible exact H2_) | (have H2_ := (Option.bind_some _ _).symm.trans H; with_reducible exact H2_) | with_reducible exact H | (rw [hy199]; exact H) | exact H
                  have Ny199 := Aside0.mk hy199
                  clear hy199
                  simp only [Option.some.injEq, Prod.mk.injEq] at H
                  obtain ⟨rfl, rfl, rfl⟩ := H
                  have hnb84 := NB197_188.out
                  have hnc84 := NB188_197.out
                  have hcz85_0 : wr.cell? ⟨gb197, 0, none⟩ = some (u198000) := (blk_cell BK197.out 0).trans rfl
                  have hcz85_1 : wr.cell? ⟨gb197, 1, none⟩ = some (u198001) := (blk_cell BK197.out 1).trans rfl
                  have hfz85_0 := blk_frozen BK197.out 0
                  have hfz85_1 := blk_frozen BK197.out 1
                  obtain ⟨Ao86, co86, eo86⟩ := Kd.R_slice HO_198001.out
                  subst eo86
                  have p198 : 0 ≤ (31 : Int) := (by omega)
                  have q198 : 31 < (x198001_2.length : Int) := of_decide_eq_true (by first | (with_reducible assumption) | assumption)
                  (try (obtain ⟨Az198, cz198, ez198⟩ := Kd.R_slice HO_198001.out; subst ez198))
                  obtain ⟨ad198, e198, hx198_0⟩ := Kd.at_int (Kd.R_reads' HO_198001.out).2.2 31 p198 q198
                  cases e198
                  (try simp only [show (31 : Int).toNat = 31 from rfl, Nat.reduceMul, Nat.reduceEqDiff, Go.Addr.add, ↓reduceIte] at hx198_0)
                  have qi198 : (31 < x198001_2.length) = True := eq_true (by omega)
                  (try rw [show ((31 : Int)).toNat = 31 from rfl] at hx198_0)
                  replace p198 := eq_true p198
                  replace q198 := eq_true q198
                  have p83 : 0 ≤ (31 : Int) := (by omega)
                  have q83 : (31 : Int) < ((x198001_2.length : Int) : Int) := of_decide_eq_true (by first | (with_reducible assumption) | assumption)
                  have qi83 : (31 < x198001_2.length) = True := eq_true (by omega)
                  obtain ⟨go83, co83, eo83, gb83, gl83, cl83, HG83⟩ := Kd.R_form HO_198001.out (by omega)
                  (first | cases eo83 | (injection eo83 with ea_ en_ ec_; (first | subst ea_ | (injection ea_ with ea_; subst ea_)); subst ec_; clear en_))
                  have GB83 := Aside0.mk gb83
                  have GG83 := Aside0.mk HG83
                  clear gb83 gl83 HG83
                  (first | simp only [add_plain] at hx198_0 | skip)
                  obtain ⟨hx83_0, hf83_0⟩ := Kd.R_celln 0 HO_198001.out (31 : Int) p83 q83
                  (try rw [show ((31 : Int)).toNat = 31 from rfl] at hx83_0)
                  (try simp only [Nat.reduceMul, Nat.zero_mul, Nat.zero_add, Nat.reduceAdd] at hx83_0)
                  (try rw [show ((31 : Int)).toNat = 31 from rfl] at hf83_0)
                  (try simp only [Nat.reduceMul, Nat.zero_mul, Nat.zero_add, Nat.reduceAdd] at hf83_0)
                  replace p83 := eq_true p83
                  replace q83 := eq_true q83
                  have HP87 := Kd.R_putg HO_198001.out (31 : Int) (wrap64 ((rd x198001_2 31) + x7_2))
                  go_wp2_with (first | ((with_reducible refine gate_store (t := 3) (p := 99) rfl ?_); refine store_event (t := 3) (p := 99) (v := ?vo_w88) (w1 := (wr.setCell ⟨go83, (31 : Int).toNat, none⟩ (.int .i64 (wrap64 ((rd x198001_2 31) + x7_2))))) ?hg ?ho ?hn ?hr ?_; (case ho => rfl); (case hg => rfl); (case hn => rfl); (case hr => first | (go_simp; done) | (go_simp; rfl) | (obtain ⟨Az_, cz_, ez_⟩ := Kd.R_slice HO_198000.out; simp only [ez_]; first | (go_simp; done) | (go_simp; rfl)) | (obtain ⟨Az_, cz_, ez_⟩ := Kd.R_slice HO_198001.out; simp only [ez_]; first | (go_simp; done) | (go_simp; rfl))); intro w88 hw; have hg : wr.grownBy w88 (some go83) := (by rw [hw]; exact HP87.2); have hp_ : Kd.R (Kd.int .i64) 3 w88 w.heap.size (fun k_ => some k_ ≠ (u198000 : Value).ownBlock) (.slice (some ⟨go83, 0, none⟩) x198001_2.length co86) y199 := (by rw [hw, Ny199.out]; exact HP87.1); clear HP87; have n0_ := Aside0.mk (Kd.R_after (v := (.slice (some ⟨go83, 0, none⟩) x198001_2.length co86)) (v1 := (.slice (some ⟨go83, 0, none⟩) x198001_2.length co86)) (ok := (fun _ => True)) (by (with_reducible repeat (first | apply Kd.R_alloc | apply Kd.R_drewN | apply Kd.R_drew)); exact Kd.R_mono HO_198000.out (fun _ hk => ⟨trivial, hk⟩)) hg (.inl rfl)); have n1_ := Aside0.mk (hp_); have n2_ := Aside0.mk (blk_grown (g := gb188) (o := .cells #[.slice none 0 0, .slice none 0 0] 32 (0, 0)) (by (with_reducible repeat (first | refine blk_drewN ?_ _ | refine blk_drew ?_ | refine blk_alloc ?_ _)); exact BK188.out) hg (Kd.R_ne HO_198001.out BK188.out (by decide))); have n3_ := Aside0.mk (blk_grown (g := gb197) (o := .cells #[u198000, .slice (some ⟨go83, 0, none⟩) x198001_2.length co86] 32 (0, 0)) (by (with_reducible repeat (first | refine blk_drewN ?_ _ | refine blk_drew ?_ | refine blk_alloc ?_ _)); exact BK197.out) hg (Kd.R_ne HO_198001.out BK197.out (by decide))); have n4_ := Aside0.mk ((by rw [hw]; exact below_set (HB.out) GB83.out : Below w.heap.size w w88)); clear HO_198000; clear HO_198001; clear BK188; clear BK197; clear HB; have HO_198000 := n0_; have HO_198001 := n1_; have BK188 := n2_; have BK197 := n3_; have HB := n4_; clear n0_ n1_ n2_ n3_ n4_; clear hg hw hp_; have hcz89_0 : w88.cell? ⟨gb197, 0, none⟩ = some (u198000) := (blk_cell BK197.out 0).trans rfl; have hcz89_1 : w88.cell? ⟨gb197, 1, none⟩ = some (.slice (some ⟨go83, 0, none⟩) x198001_2.length co86) := (blk_cell BK197.out 1).trans rfl; have hfz89_0 := blk_frozen BK197.out 0; have hfz89_1 := blk_frozen BK197.out 1; obtain ⟨Ao90, co90, eo90⟩ := Kd.R_slice HO_198000.out; subst eo90; have hcz91_0 : w88.cell? ⟨gb188, 0, none⟩ = some (.slice none 0 0) := (blk_cell BK188.out 0).trans rfl; have hcz91_1 : w88.cell? ⟨gb188, 1, none⟩ = some (.slice none 0 0) := (blk_cell BK188.out 1).trans rfl; have hfz91_0 := blk_frozen BK188.out 0; have hfz91_1 := blk_frozen BK188.out 1))
                  refine bodyPost_ret (results_ct rfl _ _ gb188 32 #[.slice Ao90 x198000_2.length co90, .slice (some ⟨go83, 0, none⟩) x198001_2.length co86] (0, 0) _ rfl (by (with_reducible repeat (first | refine blk_drewN ?_ _ | refine blk_drew ?_ | refine blk_alloc ?_ _)); refine blk_put (cs := #[.slice Ao90 x198000_2.length co90, .slice none 0 0]) ?_ 1 _ rfl; (with_reducible repeat (first | refine blk_drewN ?_ _ | refine blk_drew ?_ | refine blk_alloc ?_ _)); refine blk_put (cs := #[.slice none 0 0, .slice none 0 0]) ?_ 0 _ rfl; (with_reducible repeat (first | refine blk_drewN ?_ _ | refine blk_drew ?_ | refine blk_alloc ?_ _)); exact BK188.out) Try.underlying32 rfl (by kernel_rfl)) rfl ?_
                  exact ⟨_, _, by first | rfl | (simp [errW_none, errW_some] <;> rfl) | (simp [*, errW_none, errW_some] <;> rfl), by (with_reducible repeat (first | apply Kd.R_alloc | apply Kd.R_drewN | apply Kd.R_drew)); exact Kd.R_mono (Kd.R_far (p := ⟨gb188, 1, none⟩) (Kd.R_far (p := ⟨gb188, 0, none⟩) (Kd.R_types HO_198000.out BK188.out (by decide)) (fun _ hk => by first | exact hk.2 | exact hk | exact trivial | exact hk.1 | exact hk.2 | exact hk.1.1 | exact hk.1.2) (.slice Ao90 x198000_2.length co90)) (fun _ hk => by first | exact hk.2 | exact hk | exact trivial | exact hk.1 | exact hk.2 | exact hk.1.1 | exact hk.1.2) (.slice (some ⟨go83, 0, none⟩) x198001_2.length co86)) (fun _ hk => by first | exact hk.1.2 | exact hk | exact trivial | exact hk.1 | exact hk.2 | exact hk.1.1 | exact hk.1.2), by (with_reducible repeat (first | apply Kd.R_alloc | apply Kd.R_drewN | apply Kd.R_drew)); exact Kd.R_mono (Kd.R_far (p := ⟨gb188, 1, none⟩) (Kd.R_far (p := ⟨gb188, 0, none⟩) (Kd.R_types HO_198001.out BK188.out (by decide)) (fun _ hk => by first | exact hk.2 | exact hk | exact trivial | exact hk.1 | exact hk.2 | exact hk.1.1 | exact hk.1.2) (.slice Ao90 x198000_2.length co90)) (fun _ hk => by first | exact hk.2 | exact hk | exact trivial | exact hk.1 | exact hk.2 | exact hk.1.1 | exact hk.1.2) (.slice (some ⟨go83, 0, none⟩) x198001_2.length co86)) (fun _ hk => by first | exact hk.1 | exact hk | exact trivial | exact hk.1 | exact hk.2 | exact hk.1.1 | exact hk.1.2), by repeat (first | (with_reducible first | exact HB.out | apply below_alloc | apply pw_below_drewN | apply below_drew1 | refine below_set ?_ GE188.out | refine below_set ?_ GE197.out) | exact HB.out)⟩
                · rw [if_neg c82] at H
                  exact absurd H (by simp)
        · rw [if_neg c10] at H
          exact absurd H (by simp)

end Go.Proofs.Ytophklfiooklbaa.PFnDiffusion
