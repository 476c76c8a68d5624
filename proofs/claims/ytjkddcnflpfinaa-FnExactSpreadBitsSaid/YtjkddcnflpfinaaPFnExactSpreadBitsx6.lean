-- Written by a program of this session (myprint.py: the kit's print.py, changed), out of the translation.
import Derived.Test.YtjkddcnflpfinaaPFnExactSpreadBitsx0
import Derived.Test.YtjkddcnflpfinaaPFnExactSpreadBitsx2
import Derived.Test.YtjkddcnflpfinaaPFnExactSpreadBitsx4
import Derived.Test.YtjkddcnflpfinaaPFnExactSpreadBitsx5
namespace Go.Proofs.Ytjkddcnflpfinaa.PFnExactSpreadBits
open Go.RowKit Go.Proofs.YtjkddcnflpfinaaW.PrintWords Go.Proofs.YtjkddcnflpfinaaW.PrintLast Go.Proofs.YtjkddcnflpfinaaW.PrintMore
attribute [local go_sem] max2_int min2_int max_two min_two max_three min_three max_four min_four   -- for this text's walks alone
set_option linter.unusedVariables false
set_option linter.unusedSimpArgs false

/-! ### laws_heldIntS: function 59 -/
def laws_heldIntS.l0 : Nat → List Int → Int → Int → Option (Int)
  | 0, _, _, _ => none
  | k + 1, x0, x1, x5 => if x5 < (x0.length : Int) then (if 0 ≤ x5 then (if (rd x0 x5) = x1 then (laws_heldIntS.l0 k x0 (wrap64 (x1 + 1)) (wrap64 (x5 + 1))) else (some (-1))) else (none)) else (some x1)
def laws_heldIntS.f (k : Nat) (l0 : List Int) (a1 : Int) : Option (Int) := laws_heldIntS.l0 k l0 a1 0
theorem laws_heldIntS.mono_l : ∀ k, (∀ y0 y1 y2, LeO (laws_heldIntS.l0 k y0 y1 y2) (laws_heldIntS.l0 (k + 1) y0 y1 y2))
  | 0 => fun _ _ _ r h => by simp [laws_heldIntS.l0] at h
  | k + 1 => by
    have ih0 := laws_heldIntS.mono_l k
    · intro y0 y1 y2
      unfold laws_heldIntS.l0
      repeat' first
      | (with_reducible exact ih0 _ _ _)
      | (with_reducible exact LeO.refl _)
      | (with_reducible exact LeO.none _)
      | (with_reducible refine LeO.ite ?_ ?_)
      | (with_reducible refine LeO.bind ?_ (fun _ => ?_))
      | exact ih0 _ _ _
      | exact LeO.none _
      | refine LeO.ite ?_ ?_
      | refine LeO.bind ?_ (fun _ => ?_)
theorem laws_heldIntS.mono : ∀ a0 a1 k, LeO (laws_heldIntS.f k a0 a1) (laws_heldIntS.f (k + 1) a0 a1) := by
  intro a0 a1 k
  have ih0 := laws_heldIntS.mono_l k
  unfold laws_heldIntS.f
  repeat' first
      | (with_reducible exact ih0 _ _ _)
      | (with_reducible exact LeO.refl _)
      | (with_reducible exact LeO.none _)
      | (with_reducible refine LeO.ite ?_ ?_)
      | (with_reducible refine LeO.bind ?_ (fun _ => ?_))
      | exact ih0 _ _ _
      | exact LeO.none _
      | refine LeO.ite ?_ ?_
      | refine LeO.bind ?_ (fun _ => ?_)
set_option maxHeartbeats 8000000 in
set_option maxRecDepth 100000 in
theorem laws_heldIntS.calls (k : Nat) (A0 : Option Addr) (c0 : Nat) (l0 : List Int) (a1 : Int) (r : Int) (w : World) (hr0 : Kd.C (Kd.int .i64) w A0 l0.length l0) (hc0 : l0.length ≤ c0) (h : laws_heldIntS.f k l0 a1 = some r) :
    Calls Try.prog 59 #[.slice A0 l0.length c0, .int .i64 a1] w fun e w' => e = .returned (.int .i64 r) ∧ Drawn0 w w' := by
  have HR0 := Aside0.mk hr0
  have HC0 := Aside0.mk hc0
  clear hr0 hc0
  have H : (laws_heldIntS.l0 k l0 a1 0) = some r := h
  clear h
  have H' := Aside0.mk H
  clear H
  go_enter Try.func59, Try.ntmps59
  go_wp2
  go_loopg [1, 5] k (fun kq v1 v5 w' => ∃ (x1_1 : Int) (x5_1 : Int), v1 = .int .i64 x1_1 ∧ v5 = .int .i64 x5_1 ∧ Aside0 (laws_heldIntS.l0 kq l0 x1_1 x5_1 = some r) ∧ Aside0 (kq ≤ k) ∧ Drawn0 w w')
  case atStart => exact ⟨(a1), (0), (by first | rfl | (simp; done) | (simp [*]; done)), (by first | rfl | (simp; done) | (simp [*]; done)), H', ⟨Nat.le_refl _⟩, by repeat (first | exact Drawn0.refl _ | apply Drawn0.step)⟩
  case round =>
    clear H'
    try clear p2
    obtain ⟨x1_1, x5_1, rfl, rfl, HA, HK1, ⟨m1, rfl⟩⟩ := hrel
    cases gk with
    | zero => exact absurd HA.out (by simp [laws_heldIntS.l0])
    | succ k1 =>
      have H := HA.out
      clear HA
      simp only [laws_heldIntS.l0] at H
      by_cases c3 : x5_1 < (l0.length : Int)
      · rw [if_pos c3] at H
        have c3b0 : decide (x5_1 < (l0.length : Int)) = true := decide_eq_true c3
        clear c3
        by_cases c4 : 0 ≤ x5_1
        · rw [if_pos c4] at H
          have c4b0 : decide (0 ≤ x5_1) = true := decide_eq_true c4
          clear c4
          by_cases c5 : (rd l0 x5_1) = x1_1
          · rw [if_pos c5] at H
            have c5b0 : ((rd l0 x5_1) == x1_1) = true := beq_iff_eq.mpr c5
            have c5b1 : ((rd l0 x5_1) != x1_1) = false := bne_eq_false_iff_eq.mpr c5
            clear c5
            have H' := Aside0.mk H
            clear H
            have p182 : 0 ≤ (x5_1 : Int) := of_decide_eq_true (by first | (with_reducible assumption) | assumption)
            have q182 : x5_1 < (l0.length : Int) := of_decide_eq_true (by first | (with_reducible assumption) | assumption)
            obtain ⟨ad182, e182, hx182_0⟩ := Kd.at_int HR0.out x5_1 p182 q182
            cases e182
            replace p182 := eq_true p182
            replace q182 := eq_true q182
            go_wp2
            go_roundg k1
            case measure => have := HK1.out; omega
            case rel => exact ⟨(wrap64 (x1_1 + 1)), (wrap64 (x5_1 + 1)), (by first | rfl | (simp; done) | (simp [*]; done)), (by first | rfl | (simp; done) | (simp [*]; done)), H', ⟨by have := HK1.out; omega⟩, by repeat (first | exact Drawn0.refl _ | apply Drawn0.step)⟩
          · rw [if_neg c5] at H
            have c5b0 : ((rd l0 x5_1) == x1_1) = false := beq_eq_false_iff_ne.mpr c5
            have c5b1 : ((rd l0 x5_1) != x1_1) = true := bne_iff_ne.mpr c5
            obtain rfl := Option.some.inj H
            have p182 : 0 ≤ (x5_1 : Int) := of_decide_eq_true (by first | (with_reducible assumption) | assumption)
            have q182 : x5_1 < (l0.length : Int) := of_decide_eq_true (by first | (with_reducible assumption) | assumption)
            obtain ⟨ad182, e182, hx182_0⟩ := Kd.at_int HR0.out x5_1 p182 q182
            cases e182
            replace p182 := eq_true p182
            replace q182 := eq_true q182
            go_wp2
            go_ret
            exact ⟨by first | rfl | (simp; done) | (simp [*]; done), by repeat (first | exact Drawn0.refl _ | apply Drawn0.step)⟩
        · rw [if_neg c4] at H
          exact absurd H (by simp)
      · rw [if_neg c3] at H
        have c3b0 : decide (x5_1 < (l0.length : Int)) = false := decide_eq_false c3
        clear c3
        obtain rfl := Option.some.inj H
        go_wp2
        go_ret
        exact ⟨by first | rfl | (simp; done) | (simp [*]; done), by repeat (first | exact Drawn0.refl _ | apply Drawn0.step)⟩

/-! ### laws_heldIntSS: function 26 -/
def laws_heldIntSS.l0 : Nat → List (List Int) → Int → Int → Option (Int)
  | 0, _, _, _ => none
  | k + 1, x0, x1, x5 => if x5 < (x0.length : Int) then (if 0 ≤ x5 then ((laws_heldIntS.f k (rd_L1 x0 x5) x1).bind fun t184 => (if t184 < 0 then (some (-1)) else (laws_heldIntSS.l0 k x0 t184 (wrap64 (x5 + 1))))) else (none)) else (some x1)
def laws_heldIntSS.f (k : Nat) (l0 : List (List Int)) (a1 : Int) : Option (Int) := laws_heldIntSS.l0 k l0 a1 0
theorem laws_heldIntSS.mono_l : ∀ k, (∀ y0 y1 y2, LeO (laws_heldIntSS.l0 k y0 y1 y2) (laws_heldIntSS.l0 (k + 1) y0 y1 y2))
  | 0 => fun _ _ _ r h => by simp [laws_heldIntSS.l0] at h
  | k + 1 => by
    have ih0 := laws_heldIntSS.mono_l k
    · intro y0 y1 y2
      unfold laws_heldIntSS.l0
      repeat' first
      | (with_reducible exact ih0 _ _ _)
      | (with_reducible exact laws_heldIntS.mono _ _ _)
      | (with_reducible exact LeO.refl _)
      | (with_reducible exact LeO.none _)
      | (with_reducible refine LeO.ite ?_ ?_)
      | (with_reducible refine LeO.bind ?_ (fun _ => ?_))
      | exact ih0 _ _ _
      | exact laws_heldIntS.mono _ _ _
      | exact LeO.none _
      | refine LeO.ite ?_ ?_
      | refine LeO.bind ?_ (fun _ => ?_)
theorem laws_heldIntSS.mono : ∀ a0 a1 k, LeO (laws_heldIntSS.f k a0 a1) (laws_heldIntSS.f (k + 1) a0 a1) := by
  intro a0 a1 k
  have ih0 := laws_heldIntSS.mono_l k
  unfold laws_heldIntSS.f
  repeat' first
      | (with_reducible exact ih0 _ _ _)
      | (with_reducible exact laws_heldIntS.mono _ _ _)
      | (with_reducible exact LeO.refl _)
      | (with_reducible exact LeO.none _)
      | (with_reducible refine LeO.ite ?_ ?_)
      | (with_reducible refine LeO.bind ?_ (fun _ => ?_))
      | exact ih0 _ _ _
      | exact laws_heldIntS.mono _ _ _
      | exact LeO.none _
      | refine LeO.ite ?_ ?_
      | refine LeO.bind ?_ (fun _ => ?_)
set_option maxHeartbeats 8000000 in
set_option maxRecDepth 100000 in
theorem laws_heldIntSS.calls (k : Nat) (A0 : Option Addr) (c0 : Nat) (l0 : List (List Int)) (a1 : Int) (r : Int) (w : World) (hr0 : Kd.C (Kd.slice 3 (Kd.int .i64)) w A0 l0.length l0) (hc0 : l0.length ≤ c0) (h : laws_heldIntSS.f k l0 a1 = some r) :
    Calls Try.prog 26 #[.slice A0 l0.length c0, .int .i64 a1] w fun e w' => e = .returned (.int .i64 r) ∧ Drawn0 w w' := by
  have HR0 := Aside0.mk hr0
  have HC0 := Aside0.mk hc0
  clear hr0 hc0
  have H : (laws_heldIntSS.l0 k l0 a1 0) = some r := h
  clear h
  have H' := Aside0.mk H
  clear H
  go_enter Try.func26, Try.ntmps26
  go_wp2
  go_loopg [1, 5] k (fun kq v1 v5 w' => ∃ (x1_1 : Int) (x5_1 : Int), v1 = .int .i64 x1_1 ∧ v5 = .int .i64 x5_1 ∧ Aside0 (laws_heldIntSS.l0 kq l0 x1_1 x5_1 = some r) ∧ Aside0 (kq ≤ k) ∧ Drawn0 w w')
  case atStart => exact ⟨(a1), (0), (by first | rfl | (simp; done) | (simp [*]; done)), (by first | rfl | (simp; done) | (simp [*]; done)), H', ⟨Nat.le_refl _⟩, by repeat (first | exact Drawn0.refl _ | apply Drawn0.step)⟩
  case round =>
    clear H'
    try clear c2
    try clear p2
    obtain ⟨x1_1, x5_1, rfl, rfl, HA, HK1, ⟨m1, rfl⟩⟩ := hrel
    cases gk with
    | zero => exact absurd HA.out (by simp [laws_heldIntSS.l0])
    | succ k1 =>
      have H := HA.out
      clear HA
      simp only [laws_heldIntSS.l0] at H
      by_cases c3 : x5_1 < (l0.length : Int)
      · rw [if_pos c3] at H
        have c3b0 : decide (x5_1 < (l0.length : Int)) = true := decide_eq_true c3
        clear c3
        by_cases c4 : 0 ≤ x5_1
        · rw [if_pos c4] at H
          have c4b0 : decide (0 ≤ x5_1) = true := decide_eq_true c4
          clear c4
          replace H := Option.bind_eq_some_iff.mp H
          obtain ⟨t184, A50, H⟩ := H
          replace H : (if t184 < 0 then (some (-1)) else (laws_heldIntSS.l0 k1 l0 t184 (wrap64 (x5_1 + 1)))) = some r := H
          have A5 := Aside0.mk A50
          clear A50
          by_cases c6 : t184 < 0
          · rw [if_pos c6] at H
            have c6b0 : decide (t184 < 0) = true := decide_eq_true c6
            clear c6
            obtain rfl := Option.some.inj H
            have p183 : 0 ≤ (x5_1 : Int) := of_decide_eq_true (by first | (with_reducible assumption) | assumption)
            have q183 : x5_1 < (l0.length : Int) := of_decide_eq_true (by first | (with_reducible assumption) | assumption)
            obtain ⟨ad183, A183_0, c183_0, e183, hx183_0, hl183_0, hi183_0⟩ := at_L1 HR0.out x5_1 p183 q183
            cases e183
            have HR183_0 := Aside0.mk hi183_0
            have HC183_0 := Aside0.mk hl183_0
            clear hi183_0 hl183_0
            replace p183 := eq_true p183
            replace q183 := eq_true q183
            go_wp2_with (first | ((with_reducible refine gate_callee (f := 59) rfl ?_); refine goesL_ (some 17) rfl rfl Try.func59 (by kernel_rfl) rfl #[.slice A183_0 (rd_L1 l0 x5_1).length c183_0, .int .i64 x1_1] rfl (by (try simp only [List.map_toArray, List.map_cons, List.map_nil]); first | done | rfl | (simp only [List.length_drop, List.length_take]; rfl)) ?_; (with_reducible refine (laws_heldIntS.calls k1 _ _ (rd_L1 l0 x5_1) x1_1 t184 _ ?side1 ?side2 A5.out).mono ?_); (case side1 => repeat (first | exact HR183_0.out | (with_reducible refine Kd.C_alloc ?_ _) | (with_reducible refine Kd.C_drewN ?_ _) | (with_reducible refine Kd.C_drew ?_))); (case side2 => exact HC183_0.out); rintro e w' ⟨rfl, ⟨nd, rfl⟩⟩; refine ⟨_, rfl, ?_⟩))
            go_ret
            exact ⟨by first | rfl | (simp; done) | (simp [*]; done), by repeat (first | exact Drawn0.refl _ | apply Drawn0.step)⟩
          · rw [if_neg c6] at H
            have c6b0 : decide (t184 < 0) = false := decide_eq_false c6
            clear c6
            have H' := Aside0.mk H
            clear H
            have p183 : 0 ≤ (x5_1 : Int) := of_decide_eq_true (by first | (with_reducible assumption) | assumption)
            have q183 : x5_1 < (l0.length : Int) := of_decide_eq_true (by first | (with_reducible assumption) | assumption)
            obtain ⟨ad183, A183_0, c183_0, e183, hx183_0, hl183_0, hi183_0⟩ := at_L1 HR0.out x5_1 p183 q183
            cases e183
            have HR183_0 := Aside0.mk hi183_0
            have HC183_0 := Aside0.mk hl183_0
            clear hi183_0 hl183_0
            replace p183 := eq_true p183
            replace q183 := eq_true q183
            go_wp2_with (first | ((with_reducible refine gate_callee (f := 59) rfl ?_); refine goesL_ (some 17) rfl rfl Try.func59 (by kernel_rfl) rfl #[.slice A183_0 (rd_L1 l0 x5_1).length c183_0, .int .i64 x1_1] rfl (by (try simp only [List.map_toArray, List.map_cons, List.map_nil]); first | done | rfl | (simp only [List.length_drop, List.length_take]; rfl)) ?_; (with_reducible refine (laws_heldIntS.calls k1 _ _ (rd_L1 l0 x5_1) x1_1 t184 _ ?side1 ?side2 A5.out).mono ?_); (case side1 => repeat (first | exact HR183_0.out | (with_reducible refine Kd.C_alloc ?_ _) | (with_reducible refine Kd.C_drewN ?_ _) | (with_reducible refine Kd.C_drew ?_))); (case side2 => exact HC183_0.out); rintro e w' ⟨rfl, ⟨nd, rfl⟩⟩; refine ⟨_, rfl, ?_⟩))
            go_roundg k1
            case measure => have := HK1.out; omega
            case rel => exact ⟨(t184), (wrap64 (x5_1 + 1)), (by first | rfl | (simp; done) | (simp [*]; done)), (by first | rfl | (simp; done) | (simp [*]; done)), H', ⟨by have := HK1.out; omega⟩, by repeat (first | exact Drawn0.refl _ | apply Drawn0.step)⟩
        · rw [if_neg c4] at H
          exact absurd H (by simp)
      · rw [if_neg c3] at H
        have c3b0 : decide (x5_1 < (l0.length : Int)) = false := decide_eq_false c3
        clear c3
        obtain rfl := Option.some.inj H
        go_wp2
        go_ret
        exact ⟨by first | rfl | (simp; done) | (simp [*]; done), by repeat (first | exact Drawn0.refl _ | apply Drawn0.step)⟩

/-! ### laws_FnExactSpreadBits: function 5 -/
theorem laws_FnExactSpreadBits.oneS {α : Type} {d : Kd α} {e b top : Nat} {v : Value} {xs : List α} {W w1 : World} (h : Kd.S d e w1 W.heap.size (fun _ => True) v xs) (hb : Below W.heap.size W w1) (hB : b ≤ W.heap.size) (hT : top ≤ W.heap.size) : ∃ lo hi, top ≤ lo ∧ lo ≤ hi ∧ hi ≤ w1.heap.size ∧ Kd.S d e w1 b (fun k_ => lo ≤ k_ ∧ k_ < hi) v xs :=
  ⟨W.heap.size, w1.heap.size, hT, hb.size, Nat.le_refl _, Kd.S_lower (Kd.S_mono (Kd.S_bound h) (fun _ hk => ⟨hk.2.1, hk.2.2.1⟩)) hB⟩
theorem laws_FnExactSpreadBits.oneR {α : Type} {d : Kd α} {e b top : Nat} {v : Value} {xs : List α} {W w1 : World} (h : d.R e w1 W.heap.size (fun _ => True) v xs) (hb : Below W.heap.size W w1) (hB : b ≤ W.heap.size) (hT : top ≤ W.heap.size) : ∃ lo hi, top ≤ lo ∧ lo ≤ hi ∧ hi ≤ w1.heap.size ∧ d.R e w1 b (fun k_ => lo ≤ k_ ∧ k_ < hi) v xs :=
  ⟨W.heap.size, w1.heap.size, hT, hb.size, Nat.le_refl _, Kd.R_lower (Kd.R_mono (Kd.R_bound h) (fun _ hk => ⟨hk.2.1, hk.2.2.1⟩)) hB⟩
theorem laws_FnExactSpreadBits.two {α : Type} {d : Kd α} {e e2 b top : Nat} {v v2 : Value} {xs : List α} {ys : List Int} {W w1 : World} (h : Kd.S d e w1 W.heap.size (fun k_ => some k_ ≠ v2.ownBlock) v xs) (h2 : Kd.R (Kd.int .i64) e2 w1 W.heap.size (fun _ => True) v2 ys) (hb : Below W.heap.size W w1) (hB : b ≤ W.heap.size) (hT : top ≤ W.heap.size) : ∃ lo hi, top ≤ lo ∧ lo ≤ hi ∧ hi ≤ w1.heap.size ∧ Kd.S d e w1 b (fun k_ => (lo ≤ k_ ∧ k_ < hi) ∧ some k_ ≠ v2.ownBlock) v xs ∧ Kd.R (Kd.int .i64) e2 w1 b (fun k_ => (lo ≤ k_ ∧ k_ < hi) ∧ some k_ = v2.ownBlock) v2 ys :=
  ⟨W.heap.size, w1.heap.size, hT, hb.size, Nat.le_refl _, Kd.S_lower (Kd.S_mono (Kd.S_bound h) (fun _ hk => ⟨⟨hk.2.1, hk.2.2.1⟩, hk.1⟩)) hB, Kd.R_lower (Kd.R_mono (Kd.R_bound (Kd.R_tight rfl h2)) (fun _ hk => ⟨⟨hk.2.1, hk.2.2.1⟩, hk.1⟩)) hB⟩
def laws_FnExactSpreadBits.f (k : Nat) (l0 : List (List Int)) : Option Bool := (laws_szIntSS.f k l0 1048576).bind fun t701 => (if t701 < 0 then (some true) else ((laws_toIntSS.f k l0).bind fun t702 => ((spec_SpreadBits.f k t702).bind fun t708 => ((laws_toIntSS.f k l0).bind fun t714 => ((impl_SpreadBits.f k t714).bind fun t720 => ((laws_eqIntSS.f k t720 t708).bind fun t726 => (if t726 = true then ((laws_toIntSS.f k l0).bind fun t727 => ((laws_eqIntSS.f k t714 t727).bind fun t733 => (if t733 = true then ((laws_markIntSS.f k t714 1).bind fun b762 => (let t734 := b762.1; let t735 := b762.2; if t734 < 0 then (some false) else ((laws_eqIntSS.f k t720 t708).bind fun t736 => (if t736 = true then ((laws_markIntSS.f k t720 1).bind fun b764 => (let t737 := b764.1; let t738 := b764.2; (laws_heldIntSS.f k t738 1).bind fun t739 => (if t739 < 0 then (some false) else (if t739 = t737 then ((laws_toIntSS.f k l0).bind fun t740 => ((impl_SpreadBits.f k t740).bind fun t746 => ((laws_eqIntSS.f k t746 t708).bind fun t752 => (if t752 = true then ((laws_heldIntSS.f k t738 1).bind fun t753 => (if t753 < 0 then (some false) else (if t753 = t737 then (some true) else (some false)))) else (some false))))) else (some false))))) else (some false))))) else (some false)))) else (some false))))))))
set_option maxHeartbeats 16000000 in
set_option maxRecDepth 100000 in
theorem laws_FnExactSpreadBits.calls (k : Nat) (A0 : Option Addr) (c0 : Nat) (l0 : List (List Int)) (w : World) (hr0 : Kd.C (Kd.slice 3 (Kd.int .i64)) w A0 l0.length l0) (hc0 : l0.length ≤ c0) (h : laws_FnExactSpreadBits.f k l0 = some true) :
    Calls Try.prog 5 #[.slice A0 l0.length c0] w fun e w' => e = .returned (.bool true) ∧ Below w.heap.size w w' := by
  have HR0 := Aside0.mk hr0
  have HC0 := Aside0.mk hc0
  clear hr0 hc0
  have HB := Aside0.mk (Below.refl w.heap.size w)
  unfold laws_FnExactSpreadBits.f at h
  have H := h
  clear h
  obtain ⟨t701, A0_, H⟩ := Option.bind_eq_some_iff.mp H
  try dsimp only at H
  have AX0 := Aside0.mk A0_
  clear A0_
  by_cases c1 : t701 < 0
  · rw [if_pos c1] at H
    have c1b0 : decide (t701 < 0) = true := decide_eq_true (by omega)
    clear c1
    clear H
    go_enter Try.func5, Try.ntmps5
    go_wp2_with (first | ((with_reducible refine gate_callee (f := 21) rfl ?_); refine goesL_ (some 13) rfl rfl Try.func21 (by kernel_rfl) rfl #[.slice A0 l0.length c0, .int .i64 1048576] rfl (by (try simp only [List.map_toArray, List.map_cons, List.map_nil]); first | done | rfl | (simp only [List.length_drop, List.length_take]; rfl)) ?_; (with_reducible refine (laws_szIntSS.calls k _ _ l0 1048576 t701 _ ?side1 ?side2 AX0.out).mono ?_); (case side1 => repeat (first | exact (Kd.C_below HR0.out (by repeat (first | (with_reducible first | exact HB.out | apply below_alloc | apply pw_below_drewN | apply below_drew1) | exact HB.out))) | (with_reducible refine Kd.C_alloc ?_ _) | (with_reducible refine Kd.C_drewN ?_ _) | (with_reducible refine Kd.C_drew ?_))); (case side2 => exact HC0.out); rintro e w' ⟨rfl, ⟨nd, rfl⟩⟩; refine ⟨_, rfl, ?_⟩))
    go_ret
    exact ⟨by first | rfl | (simp; done) | (simp [*]; done), by exact (by repeat (first | (with_reducible first | exact HB.out | apply below_alloc | apply pw_below_drewN | apply below_drew1) | exact HB.out))⟩
  · rw [if_neg c1] at H
    have c1b0 : decide (t701 < 0) = false := decide_eq_false (by omega)
    clear c1
    obtain ⟨t702, A0_, H⟩ := Option.bind_eq_some_iff.mp H
    try dsimp only at H
    have AX2 := Aside0.mk A0_
    clear A0_
    obtain ⟨t708, A0_, H⟩ := Option.bind_eq_some_iff.mp H
    try dsimp only at H
    have AX3 := Aside0.mk A0_
    clear A0_
    obtain ⟨t714, A0_, H⟩ := Option.bind_eq_some_iff.mp H
    try dsimp only at H
    have AX4 := Aside0.mk A0_
    clear A0_
    obtain ⟨t720, A0_, H⟩ := Option.bind_eq_some_iff.mp H
    try dsimp only at H
    have AX5 := Aside0.mk A0_
    clear A0_
    obtain ⟨t726, A0_, H⟩ := Option.bind_eq_some_iff.mp H
    try dsimp only at H
    have AX6 := Aside0.mk A0_
    clear A0_
    by_cases c7 : t726 = true
    · rw [if_pos c7] at H
      subst c7
      obtain ⟨t727, A0_, H⟩ := Option.bind_eq_some_iff.mp H
      try dsimp only at H
      have AX8 := Aside0.mk A0_
      clear A0_
      obtain ⟨t733, A0_, H⟩ := Option.bind_eq_some_iff.mp H
      try dsimp only at H
      have AX9 := Aside0.mk A0_
      clear A0_
      by_cases c10 : t733 = true
      · rw [if_pos c10] at H
        subst c10
        obtain ⟨⟨t734, t735⟩, A0_, H⟩ := Option.bind_eq_some_iff.mp H
        try dsimp only at H
        have AX11 := Aside0.mk A0_
        clear A0_
        by_cases c12 : t734 < 0
        · rw [if_pos c12] at H
          exact absurd H (by simp)
        · rw [if_neg c12] at H
          have c12b0 : decide (t734 < 0) = false := decide_eq_false c12
          clear c12
          obtain ⟨t736, A0_, H⟩ := Option.bind_eq_some_iff.mp H
          try dsimp only at H
          have AX13 := Aside0.mk A0_
          clear A0_
          by_cases c14 : t736 = true
          · rw [if_pos c14] at H
            subst c14
            obtain ⟨⟨t737, t738⟩, A0_, H⟩ := Option.bind_eq_some_iff.mp H
            try dsimp only at H
            have AX15 := Aside0.mk A0_
            clear A0_
            obtain ⟨t739, A0_, H⟩ := Option.bind_eq_some_iff.mp H
            try dsimp only at H
            have AX16 := Aside0.mk A0_
            clear A0_
            by_cases c17 : t739 < 0
            · rw [if_pos c17] at H
              exact absurd H (by simp)
            · rw [if_neg c17] at H
              have c17b0 : decide (t739 < 0) = false := decide_eq_false c17
              clear c17
              by_cases c18 : t739 = t737
              · rw [if_pos c18] at H
                have c18b0 : (t739 == t737) = true := beq_iff_eq.mpr c18
                have c18b1 : (t739 != t737) = false := bne_eq_false_iff_eq.mpr c18
                clear c18
                obtain ⟨t740, A0_, H⟩ := Option.bind_eq_some_iff.mp H
                try dsimp only at H
                have AX19 := Aside0.mk A0_
                clear A0_
                obtain ⟨t746, A0_, H⟩ := Option.bind_eq_some_iff.mp H
                try dsimp only at H
                have AX20 := Aside0.mk A0_
                clear A0_
                obtain ⟨t752, A0_, H⟩ := Option.bind_eq_some_iff.mp H
                try dsimp only at H
                have AX21 := Aside0.mk A0_
                clear A0_
                by_cases c22 : t752 = true
                · rw [if_pos c22] at H
                  subst c22
                  obtain ⟨t753, A0_, H⟩ := Option.bind_eq_some_iff.mp H
                  try dsimp only at H
                  have AX23 := Aside0.mk A0_
                  clear A0_
                  by_cases c24 : t753 < 0
                  · rw [if_pos c24] at H
                    exact absurd H (by simp)
                  · rw [if_neg c24] at H
                    have c24b0 : decide (t753 < 0) = false := decide_eq_false c24
                    clear c24
                    by_cases c25 : t753 = t737
                    · rw [if_pos c25] at H
                      have c25b0 : (t753 == t737) = true := beq_iff_eq.mpr c25
                      have c25b1 : (t753 != t737) = false := bne_eq_false_iff_eq.mpr c25
                      clear c25
                      clear H
                      go_enter Try.func5, Try.ntmps5
                      go_wp2_with (first | ((with_reducible refine gate_callee (f := 21) rfl ?_); refine goesL_ (some 13) rfl rfl Try.func21 (by kernel_rfl) rfl #[.slice A0 l0.length c0, .int .i64 1048576] rfl (by (try simp only [List.map_toArray, List.map_cons, List.map_nil]); first | done | rfl | (simp only [List.length_drop, List.length_take]; rfl)) ?_; (with_reducible refine (laws_szIntSS.calls k _ _ l0 1048576 t701 _ ?side1 ?side2 AX0.out).mono ?_); (case side1 => repeat (first | exact (Kd.C_below HR0.out (by repeat (first | (with_reducible first | exact HB.out | apply below_alloc | apply pw_below_drewN | apply below_drew1) | exact HB.out))) | (with_reducible refine Kd.C_alloc ?_ _) | (with_reducible refine Kd.C_drewN ?_ _) | (with_reducible refine Kd.C_drew ?_))); (case side2 => exact HC0.out); rintro e w' ⟨rfl, ⟨nd, rfl⟩⟩; refine ⟨_, rfl, ?_⟩) | ((with_reducible refine gate_callee (f := 23) rfl ?_); refine goesL_ (some 17) rfl rfl Try.func23 (by kernel_rfl) rfl #[.slice A0 l0.length c0] rfl (by (try simp only [List.map_toArray, List.map_cons, List.map_nil]); first | done | rfl | (simp only [List.length_drop, List.length_take]; rfl)) ?_; (with_reducible refine (laws_toIntSS.calls k _ _ l0 t702 _ ?side1 ?side2 AX2.out).mono ?_); (case side1 => repeat (first | exact (Kd.C_below HR0.out (by repeat (first | (with_reducible first | exact HB.out | apply below_alloc | apply pw_below_drewN | apply below_drew1) | exact HB.out))) | (with_reducible refine Kd.C_alloc ?_ _) | (with_reducible refine Kd.C_drewN ?_ _) | (with_reducible refine Kd.C_drew ?_))); (case side2 => exact HC0.out); rintro e w1002 ⟨v703, rfl, ho0, hb⟩; refine ⟨_, rfl, ?_⟩; have n0_ := Aside0.mk (below_step (by repeat (first | (with_reducible first | exact HB.out | apply below_alloc | apply pw_below_drewN | apply below_drew1) | exact HB.out)) hb); obtain ⟨lo705, hi706, o0_, o1_, o2_, ho0_⟩ := laws_FnExactSpreadBits.oneS ho0 hb (below_size (by repeat (first | (with_reducible first | exact HB.out | apply below_alloc | apply pw_below_drewN | apply below_drew1) | exact HB.out))) (show 0 ≤ _ from Nat.zero_le _); clear HB; have HB := n0_; clear n0_; have F704 := Aside0.mk ho0_; have O707 := Aside0.mk (And.intro o0_ o1_); have HT2 := Aside0.mk o2_; clear o0_ o1_ o2_ ho0_ ho0 hb; obtain ⟨AoF704, coF704, eoF704⟩ := Kd.S_slice F704.out; subst eoF704) | ((with_reducible refine gate_callee (f := 22) rfl ?_); refine goesL_ (some 18) rfl rfl Try.func22 (by kernel_rfl) rfl #[.slice AoF704 t702.length coF704] rfl (by (try simp only [List.map_toArray, List.map_cons, List.map_nil]); first | done | rfl | (simp only [List.length_drop, List.length_take]; rfl)) ?_; (with_reducible refine (spec_SpreadBits.calls k _ _ t702 t708 _ ?side1 ?side2 AX3.out).mono ?_); (case side1 => repeat (first | exact (Kd.S_reads' F704.out).2.2 | (with_reducible refine Kd.C_alloc ?_ _) | (with_reducible refine Kd.C_drewN ?_ _) | (with_reducible refine Kd.C_drew ?_))); (case side2 => first | exact (Kd.S_reads' F704.out).2.1 | (have e_ := (Kd.S_reads' F704.out).1; have e2_ := (Kd.S_reads' F704.out).2.1; omega)); rintro e w1003 ⟨v709, rfl, ho0, hb⟩; refine ⟨_, rfl, ?_⟩; have n0_ := Aside0.mk (Kd.S_below (by (with_reducible repeat (first | apply Kd.S_alloc | apply Kd.S_drewN | apply Kd.S_drew)); exact F704.out) hb); have n1_ := Aside0.mk (below_step (by repeat (first | (with_reducible first | exact HB.out | apply below_alloc | apply pw_below_drewN | apply below_drew1) | exact HB.out)) hb); obtain ⟨lo711, hi712, o0_, o1_, o2_, ho0_⟩ := laws_FnExactSpreadBits.oneS ho0 hb (below_size (by repeat (first | (with_reducible first | exact HB.out | apply below_alloc | apply pw_below_drewN | apply below_drew1) | exact HB.out))) (show hi706 ≤ _ from HT2.out); clear F704 HB; have F704 := n0_; have HB := n1_; clear n0_ n1_; have F710 := Aside0.mk ho0_; have O713 := Aside0.mk (And.intro o0_ o1_); have HT3 := Aside0.mk o2_; clear o0_ o1_ o2_ ho0_ ho0 hb; obtain ⟨AoF710, coF710, eoF710⟩ := Kd.S_slice F710.out; subst eoF710) | ((with_reducible refine gate_callee (f := 23) rfl ?_); refine goesL_ (some 20) rfl rfl Try.func23 (by kernel_rfl) rfl #[.slice A0 l0.length c0] rfl (by (try simp only [List.map_toArray, List.map_cons, List.map_nil]); first | done | rfl | (simp only [List.length_drop, List.length_take]; rfl)) ?_; (with_reducible refine (laws_toIntSS.calls k _ _ l0 t714 _ ?side1 ?side2 AX4.out).mono ?_); (case side1 => repeat (first | exact (Kd.C_below HR0.out (by repeat (first | (with_reducible first | exact HB.out | apply below_alloc | apply pw_below_drewN | apply below_drew1) | exact HB.out))) | (with_reducible refine Kd.C_alloc ?_ _) | (with_reducible refine Kd.C_drewN ?_ _) | (with_reducible refine Kd.C_drew ?_))); (case side2 => exact HC0.out); rintro e w1004 ⟨v715, rfl, ho0, hb⟩; refine ⟨_, rfl, ?_⟩; have n0_ := Aside0.mk (Kd.S_below (by (with_reducible repeat (first | apply Kd.S_alloc | apply Kd.S_drewN | apply Kd.S_drew)); exact F710.out) hb); have n1_ := Aside0.mk (below_step (by repeat (first | (with_reducible first | exact HB.out | apply below_alloc | apply pw_below_drewN | apply below_drew1) | exact HB.out)) hb); obtain ⟨lo717, hi718, o0_, o1_, o2_, ho0_⟩ := laws_FnExactSpreadBits.oneS ho0 hb (below_size (by repeat (first | (with_reducible first | exact HB.out | apply below_alloc | apply pw_below_drewN | apply below_drew1) | exact HB.out))) (show hi712 ≤ _ from HT3.out); clear F704 F710 HB; have F710 := n0_; have HB := n1_; clear n0_ n1_; have F716 := Aside0.mk ho0_; have O719 := Aside0.mk (And.intro o0_ o1_); have HT4 := Aside0.mk o2_; clear o0_ o1_ o2_ ho0_ ho0 hb; obtain ⟨AoF716, coF716, eoF716⟩ := Kd.S_slice F716.out; subst eoF716) | ((with_reducible refine gate_callee (f := 18) rfl ?_); refine goesL_ (some 22) rfl rfl Try.func18 (by kernel_rfl) rfl #[.slice AoF716 t714.length coF716] rfl (by (try simp only [List.map_toArray, List.map_cons, List.map_nil]); first | done | rfl | (simp only [List.length_drop, List.length_take]; rfl)) ?_; (with_reducible refine (impl_SpreadBits.calls k _ _ t714 t720 _ ?side1 ?side2 AX5.out).mono ?_); (case side1 => repeat (first | exact (Kd.S_reads' F716.out).2.2 | (with_reducible refine Kd.C_alloc ?_ _) | (with_reducible refine Kd.C_drewN ?_ _) | (with_reducible refine Kd.C_drew ?_))); (case side2 => first | exact (Kd.S_reads' F716.out).2.1 | (have e_ := (Kd.S_reads' F716.out).1; have e2_ := (Kd.S_reads' F716.out).2.1; omega)); rintro e w1005 ⟨v721, rfl, ho0, hb⟩; refine ⟨_, rfl, ?_⟩; have n0_ := Aside0.mk (Kd.S_below (by (with_reducible repeat (first | apply Kd.S_alloc | apply Kd.S_drewN | apply Kd.S_drew)); exact F710.out) hb); have n1_ := Aside0.mk (Kd.S_below (by (with_reducible repeat (first | apply Kd.S_alloc | apply Kd.S_drewN | apply Kd.S_drew)); exact F716.out) hb); have n2_ := Aside0.mk (below_step (by repeat (first | (with_reducible first | exact HB.out | apply below_alloc | apply pw_below_drewN | apply below_drew1) | exact HB.out)) hb); obtain ⟨lo723, hi724, o0_, o1_, o2_, ho0_⟩ := laws_FnExactSpreadBits.oneS ho0 hb (below_size (by repeat (first | (with_reducible first | exact HB.out | apply below_alloc | apply pw_below_drewN | apply below_drew1) | exact HB.out))) (show hi718 ≤ _ from HT4.out); clear F710 F716 HB; have F710 := n0_; have F716 := n1_; have HB := n2_; clear n0_ n1_ n2_; have F722 := Aside0.mk ho0_; have O725 := Aside0.mk (And.intro o0_ o1_); have HT5 := Aside0.mk o2_; clear o0_ o1_ o2_ ho0_ ho0 hb; obtain ⟨AoF722, coF722, eoF722⟩ := Kd.S_slice F722.out; subst eoF722) | ((with_reducible refine gate_callee (f := 24) rfl ?_); refine goesL_ (some 25) rfl rfl Try.func24 (by kernel_rfl) rfl #[.slice AoF722 t720.length coF722, .slice AoF710 t708.length coF710] rfl (by (try simp only [List.map_toArray, List.map_cons, List.map_nil]); first | done | rfl | (simp only [List.length_drop, List.length_take]; rfl)) ?_; (with_reducible refine (laws_eqIntSS.calls k _ _ t720 _ _ t708 true _ ?side1 ?side2 ?side3 ?side4 AX6.out).mono ?_); (case side1 => repeat (first | exact (Kd.S_reads' F722.out).2.2 | (with_reducible refine Kd.C_alloc ?_ _) | (with_reducible refine Kd.C_drewN ?_ _) | (with_reducible refine Kd.C_drew ?_))); (case side2 => first | exact (Kd.S_reads' F722.out).2.1 | (have e_ := (Kd.S_reads' F722.out).1; have e2_ := (Kd.S_reads' F722.out).2.1; omega)); (case side3 => repeat (first | exact (Kd.S_reads' F710.out).2.2 | (with_reducible refine Kd.C_alloc ?_ _) | (with_reducible refine Kd.C_drewN ?_ _) | (with_reducible refine Kd.C_drew ?_))); (case side4 => first | exact (Kd.S_reads' F710.out).2.1 | (have e_ := (Kd.S_reads' F710.out).1; have e2_ := (Kd.S_reads' F710.out).2.1; omega)); rintro e w' ⟨rfl, ⟨nd, rfl⟩⟩; refine ⟨_, rfl, ?_⟩) | ((with_reducible refine gate_callee (f := 23) rfl ?_); refine goesL_ (some 29) rfl rfl Try.func23 (by kernel_rfl) rfl #[.slice A0 l0.length c0] rfl (by (try simp only [List.map_toArray, List.map_cons, List.map_nil]); first | done | rfl | (simp only [List.length_drop, List.length_take]; rfl)) ?_; (with_reducible refine (laws_toIntSS.calls k _ _ l0 t727 _ ?side1 ?side2 AX8.out).mono ?_); (case side1 => repeat (first | exact (Kd.C_below HR0.out (by repeat (first | (with_reducible first | exact HB.out | apply below_alloc | apply pw_below_drewN | apply below_drew1) | exact HB.out))) | (with_reducible refine Kd.C_alloc ?_ _) | (with_reducible refine Kd.C_drewN ?_ _) | (with_reducible refine Kd.C_drew ?_))); (case side2 => exact HC0.out); rintro e w1008 ⟨v728, rfl, ho0, hb⟩; refine ⟨_, rfl, ?_⟩; have n0_ := Aside0.mk (Kd.S_below (by (with_reducible repeat (first | apply Kd.S_alloc | apply Kd.S_drewN | apply Kd.S_drew)); exact F710.out) hb); have n1_ := Aside0.mk (Kd.S_below (by (with_reducible repeat (first | apply Kd.S_alloc | apply Kd.S_drewN | apply Kd.S_drew)); exact F716.out) hb); have n2_ := Aside0.mk (Kd.S_below (by (with_reducible repeat (first | apply Kd.S_alloc | apply Kd.S_drewN | apply Kd.S_drew)); exact F722.out) hb); have n3_ := Aside0.mk (below_step (by repeat (first | (with_reducible first | exact HB.out | apply below_alloc | apply pw_below_drewN | apply below_drew1) | exact HB.out)) hb); obtain ⟨lo730, hi731, o0_, o1_, o2_, ho0_⟩ := laws_FnExactSpreadBits.oneS ho0 hb (below_size (by repeat (first | (with_reducible first | exact HB.out | apply below_alloc | apply pw_below_drewN | apply below_drew1) | exact HB.out))) (show hi724 ≤ _ from HT5.out); clear F710 F716 F722 HB; have F710 := n0_; have F716 := n1_; have F722 := n2_; have HB := n3_; clear n0_ n1_ n2_ n3_; have F729 := Aside0.mk ho0_; have O732 := Aside0.mk (And.intro o0_ o1_); have HT8 := Aside0.mk o2_; clear o0_ o1_ o2_ ho0_ ho0 hb; obtain ⟨AoF729, coF729, eoF729⟩ := Kd.S_slice F729.out; subst eoF729) | ((with_reducible refine gate_callee (f := 24) rfl ?_); refine goesL_ (some 30) rfl rfl Try.func24 (by kernel_rfl) rfl #[.slice AoF716 t714.length coF716, .slice AoF729 t727.length coF729] rfl (by (try simp only [List.map_toArray, List.map_cons, List.map_nil]); first | done | rfl | (simp only [List.length_drop, List.length_take]; rfl)) ?_; (with_reducible refine (laws_eqIntSS.calls k _ _ t714 _ _ t727 true _ ?side1 ?side2 ?side3 ?side4 AX9.out).mono ?_); (case side1 => repeat (first | exact (Kd.S_reads' F716.out).2.2 | (with_reducible refine Kd.C_alloc ?_ _) | (with_reducible refine Kd.C_drewN ?_ _) | (with_reducible refine Kd.C_drew ?_))); (case side2 => first | exact (Kd.S_reads' F716.out).2.1 | (have e_ := (Kd.S_reads' F716.out).1; have e2_ := (Kd.S_reads' F716.out).2.1; omega)); (case side3 => repeat (first | exact (Kd.S_reads' F729.out).2.2 | (with_reducible refine Kd.C_alloc ?_ _) | (with_reducible refine Kd.C_drewN ?_ _) | (with_reducible refine Kd.C_drew ?_))); (case side4 => first | exact (Kd.S_reads' F729.out).2.1 | (have e_ := (Kd.S_reads' F729.out).1; have e2_ := (Kd.S_reads' F729.out).2.1; omega)); rintro e w' ⟨rfl, ⟨nd, rfl⟩⟩; refine ⟨_, rfl, ?_⟩) | ((with_reducible refine gate_callee (f := 25) rfl ?_); refine goesL_ (some 34) rfl rfl Try.func25 (by kernel_rfl) rfl #[.slice AoF716 t714.length coF716, .int .i64 1] rfl (by (try simp only [List.map_toArray, List.map_cons, List.map_nil]); first | done | rfl | (simp only [List.length_drop, List.length_take]; rfl)) ?_; (with_reducible refine (laws_markIntSS.calls k (fun k_ => lo717 ≤ k_ ∧ k_ < hi718) (.slice AoF716 t714.length coF716) t714 1 t734 t735 w _ ?side1 ?side2 AX11.out).mono ?_); (case side1 => exact (by repeat (first | (with_reducible first | exact HB.out | apply below_alloc | apply pw_below_drewN | apply below_drew1) | exact HB.out))); (case side2 => exact (by (with_reducible repeat (first | apply Kd.S_alloc | apply Kd.S_drewN | apply Kd.S_drew)); exact F716.out)); rintro e w1011 ⟨rfl, ho0, hb, hk⟩; refine ⟨_, rfl, ?_⟩; have n0_ := Aside0.mk (Kd.S_kept (by (with_reducible repeat (first | apply Kd.S_alloc | apply Kd.S_drewN | apply Kd.S_drew)); exact F710.out) hk (fun k_ (h1_ : lo711 ≤ k_ ∧ k_ < hi712) (h2_ : lo717 ≤ k_ ∧ k_ < hi718) => by have := O707.out; have := O713.out; have := O719.out; have := O725.out; have := O732.out; first | omega | exact h1_.2 h2_.2 | exact h2_.2 h1_.2)); have n1_ := Aside0.mk (Kd.S_kept (by (with_reducible repeat (first | apply Kd.S_alloc | apply Kd.S_drewN | apply Kd.S_drew)); exact F722.out) hk (fun k_ (h1_ : lo723 ≤ k_ ∧ k_ < hi724) (h2_ : lo717 ≤ k_ ∧ k_ < hi718) => by have := O707.out; have := O713.out; have := O719.out; have := O725.out; have := O732.out; first | omega | exact h1_.2 h2_.2 | exact h2_.2 h1_.2)); have n2_ := Aside0.mk (ho0); have n3_ := Aside0.mk (hb); have HT11 := Aside0.mk (Nat.le_trans (show hi731 ≤ _ from HT8.out) hk.1); clear F710 F716 F722 F729 HB; have F710 := n0_; have F722 := n1_; have F716 := n2_; have HB := n3_; clear n0_ n1_ n2_ n3_ ho0 hb hk) | (go_at_call 24; (with_reducible refine (laws_eqIntSS.calls k _ _ t720 _ _ t708 true _ ?side1 ?side2 ?side3 ?side4 AX13.out).mono ?_); (case side1 => repeat (first | exact (Kd.S_reads' F722.out).2.2 | (with_reducible refine Kd.C_alloc ?_ _) | (with_reducible refine Kd.C_drewN ?_ _) | (with_reducible refine Kd.C_drew ?_))); (case side2 => first | exact (Kd.S_reads' F722.out).2.1 | (have e_ := (Kd.S_reads' F722.out).1; have e2_ := (Kd.S_reads' F722.out).2.1; omega)); (case side3 => repeat (first | exact (Kd.S_reads' F710.out).2.2 | (with_reducible refine Kd.C_alloc ?_ _) | (with_reducible refine Kd.C_drewN ?_ _) | (with_reducible refine Kd.C_drew ?_))); (case side4 => first | exact (Kd.S_reads' F710.out).2.1 | (have e_ := (Kd.S_reads' F710.out).1; have e2_ := (Kd.S_reads' F710.out).2.1; omega)); rintro e w' ⟨rfl, ⟨nd, rfl⟩⟩) | ((with_reducible refine gate_callee (f := 25) rfl ?_); refine goesL_ (some 45) rfl rfl Try.func25 (by kernel_rfl) rfl #[.slice AoF722 t720.length coF722, .int .i64 1] rfl (by (try simp only [List.map_toArray, List.map_cons, List.map_nil]); first | done | rfl | (simp only [List.length_drop, List.length_take]; rfl)) ?_; (with_reducible refine (laws_markIntSS.calls k (fun k_ => lo723 ≤ k_ ∧ k_ < hi724) (.slice AoF722 t720.length coF722) t720 1 t737 t738 w _ ?side1 ?side2 AX15.out).mono ?_); (case side1 => exact (by repeat (first | (with_reducible first | exact HB.out | apply below_alloc | apply pw_below_drewN | apply below_drew1) | exact HB.out))); (case side2 => exact (by (with_reducible repeat (first | apply Kd.S_alloc | apply Kd.S_drewN | apply Kd.S_drew)); exact F722.out)); rintro e w1015 ⟨rfl, ho0, hb, hk⟩; refine ⟨_, rfl, ?_⟩; have n0_ := Aside0.mk (Kd.S_kept (by (with_reducible repeat (first | apply Kd.S_alloc | apply Kd.S_drewN | apply Kd.S_drew)); exact F710.out) hk (fun k_ (h1_ : lo711 ≤ k_ ∧ k_ < hi712) (h2_ : lo723 ≤ k_ ∧ k_ < hi724) => by have := O707.out; have := O713.out; have := O719.out; have := O725.out; have := O732.out; first | omega | exact h1_.2 h2_.2 | exact h2_.2 h1_.2)); have n1_ := Aside0.mk (ho0); have n2_ := Aside0.mk (hb); have HT15 := Aside0.mk (Nat.le_trans (show hi731 ≤ _ from HT11.out) hk.1); clear F710 F716 F722 HB; have F710 := n0_; have F722 := n1_; have HB := n2_; clear n0_ n1_ n2_ ho0 hb hk) | ((with_reducible refine gate_callee (f := 26) rfl ?_); refine goesL_ (some 48) rfl rfl Try.func26 (by kernel_rfl) rfl #[.slice AoF722 t738.length coF722, .int .i64 1] rfl (by (try simp only [List.map_toArray, List.map_cons, List.map_nil]); first | done | (rw [show t738.length = t720.length from (Kd.S_reads' F722.out).1.symm] <;> rfl) | rfl | (simp only [List.length_drop, List.length_take]; rfl)) ?_; (with_reducible refine (laws_heldIntSS.calls k _ _ t738 1 t739 _ ?side1 ?side2 AX16.out).mono ?_); (case side1 => repeat (first | exact (Kd.S_reads' F722.out).2.2 | (with_reducible refine Kd.C_alloc ?_ _) | (with_reducible refine Kd.C_drewN ?_ _) | (with_reducible refine Kd.C_drew ?_))); (case side2 => first | exact (Kd.S_reads' F722.out).2.1 | (have e_ := (Kd.S_reads' F722.out).1; have e2_ := (Kd.S_reads' F722.out).2.1; omega)); rintro e w' ⟨rfl, ⟨nd, rfl⟩⟩; refine ⟨_, rfl, ?_⟩) | ((with_reducible refine gate_callee (f := 23) rfl ?_); refine goesL_ (some 55) rfl rfl Try.func23 (by kernel_rfl) rfl #[.slice A0 l0.length c0] rfl (by (try simp only [List.map_toArray, List.map_cons, List.map_nil]); first | done | rfl | (simp only [List.length_drop, List.length_take]; rfl)) ?_; (with_reducible refine (laws_toIntSS.calls k _ _ l0 t740 _ ?side1 ?side2 AX19.out).mono ?_); (case side1 => repeat (first | exact (Kd.C_below HR0.out (by repeat (first | (with_reducible first | exact HB.out | apply below_alloc | apply pw_below_drewN | apply below_drew1) | exact HB.out))) | (with_reducible refine Kd.C_alloc ?_ _) | (with_reducible refine Kd.C_drewN ?_ _) | (with_reducible refine Kd.C_drew ?_))); (case side2 => exact HC0.out); rintro e w1019 ⟨v741, rfl, ho0, hb⟩; refine ⟨_, rfl, ?_⟩; have n0_ := Aside0.mk (Kd.S_below (by (with_reducible repeat (first | apply Kd.S_alloc | apply Kd.S_drewN | apply Kd.S_drew)); exact F710.out) hb); have n1_ := Aside0.mk (Kd.S_below (by (with_reducible repeat (first | apply Kd.S_alloc | apply Kd.S_drewN | apply Kd.S_drew)); exact F722.out) hb); have n2_ := Aside0.mk (below_step (by repeat (first | (with_reducible first | exact HB.out | apply below_alloc | apply pw_below_drewN | apply below_drew1) | exact HB.out)) hb); obtain ⟨lo743, hi744, o0_, o1_, o2_, ho0_⟩ := laws_FnExactSpreadBits.oneS ho0 hb (below_size (by repeat (first | (with_reducible first | exact HB.out | apply below_alloc | apply pw_below_drewN | apply below_drew1) | exact HB.out))) (show hi731 ≤ _ from HT15.out); clear F710 F722 HB; have F710 := n0_; have F722 := n1_; have HB := n2_; clear n0_ n1_ n2_; have F742 := Aside0.mk ho0_; have O745 := Aside0.mk (And.intro o0_ o1_); have HT19 := Aside0.mk o2_; clear o0_ o1_ o2_ ho0_ ho0 hb; obtain ⟨AoF742, coF742, eoF742⟩ := Kd.S_slice F742.out; subst eoF742) | ((with_reducible refine gate_callee (f := 18) rfl ?_); refine goesL_ (some 56) rfl rfl Try.func18 (by kernel_rfl) rfl #[.slice AoF742 t740.length coF742] rfl (by (try simp only [List.map_toArray, List.map_cons, List.map_nil]); first | done | rfl | (simp only [List.length_drop, List.length_take]; rfl)) ?_; (with_reducible refine (impl_SpreadBits.calls k _ _ t740 t746 _ ?side1 ?side2 AX20.out).mono ?_); (case side1 => repeat (first | exact (Kd.S_reads' F742.out).2.2 | (with_reducible refine Kd.C_alloc ?_ _) | (with_reducible refine Kd.C_drewN ?_ _) | (with_reducible refine Kd.C_drew ?_))); (case side2 => first | exact (Kd.S_reads' F742.out).2.1 | (have e_ := (Kd.S_reads' F742.out).1; have e2_ := (Kd.S_reads' F742.out).2.1; omega)); rintro e w1020 ⟨v747, rfl, ho0, hb⟩; refine ⟨_, rfl, ?_⟩; have n0_ := Aside0.mk (Kd.S_below (by (with_reducible repeat (first | apply Kd.S_alloc | apply Kd.S_drewN | apply Kd.S_drew)); exact F710.out) hb); have n1_ := Aside0.mk (Kd.S_below (by (with_reducible repeat (first | apply Kd.S_alloc | apply Kd.S_drewN | apply Kd.S_drew)); exact F722.out) hb); have n2_ := Aside0.mk (Kd.S_below (by (with_reducible repeat (first | apply Kd.S_alloc | apply Kd.S_drewN | apply Kd.S_drew)); exact F742.out) hb); have n3_ := Aside0.mk (below_step (by repeat (first | (with_reducible first | exact HB.out | apply below_alloc | apply pw_below_drewN | apply below_drew1) | exact HB.out)) hb); obtain ⟨lo749, hi750, o0_, o1_, o2_, ho0_⟩ := laws_FnExactSpreadBits.oneS ho0 hb (below_size (by repeat (first | (with_reducible first | exact HB.out | apply below_alloc | apply pw_below_drewN | apply below_drew1) | exact HB.out))) (show hi744 ≤ _ from HT19.out); clear F710 F722 F742 HB; have F710 := n0_; have F722 := n1_; have F742 := n2_; have HB := n3_; clear n0_ n1_ n2_ n3_; have F748 := Aside0.mk ho0_; have O751 := Aside0.mk (And.intro o0_ o1_); have HT20 := Aside0.mk o2_; clear o0_ o1_ o2_ ho0_ ho0 hb; obtain ⟨AoF748, coF748, eoF748⟩ := Kd.S_slice F748.out; subst eoF748) | ((with_reducible refine gate_callee (f := 24) rfl ?_); refine goesL_ (some 59) rfl rfl Try.func24 (by kernel_rfl) rfl #[.slice AoF748 t746.length coF748, .slice AoF710 t708.length coF710] rfl (by (try simp only [List.map_toArray, List.map_cons, List.map_nil]); first | done | rfl | (simp only [List.length_drop, List.length_take]; rfl)) ?_; (with_reducible refine (laws_eqIntSS.calls k _ _ t746 _ _ t708 true _ ?side1 ?side2 ?side3 ?side4 AX21.out).mono ?_); (case side1 => repeat (first | exact (Kd.S_reads' F748.out).2.2 | (with_reducible refine Kd.C_alloc ?_ _) | (with_reducible refine Kd.C_drewN ?_ _) | (with_reducible refine Kd.C_drew ?_))); (case side2 => first | exact (Kd.S_reads' F748.out).2.1 | (have e_ := (Kd.S_reads' F748.out).1; have e2_ := (Kd.S_reads' F748.out).2.1; omega)); (case side3 => repeat (first | exact (Kd.S_reads' F710.out).2.2 | (with_reducible refine Kd.C_alloc ?_ _) | (with_reducible refine Kd.C_drewN ?_ _) | (with_reducible refine Kd.C_drew ?_))); (case side4 => first | exact (Kd.S_reads' F710.out).2.1 | (have e_ := (Kd.S_reads' F710.out).1; have e2_ := (Kd.S_reads' F710.out).2.1; omega)); rintro e w' ⟨rfl, ⟨nd, rfl⟩⟩; refine ⟨_, rfl, ?_⟩) | ((with_reducible refine gate_callee (f := 26) rfl ?_); refine goesL_ (some 63) rfl rfl Try.func26 (by kernel_rfl) rfl #[.slice AoF722 t738.length coF722, .int .i64 1] rfl (by (try simp only [List.map_toArray, List.map_cons, List.map_nil]); first | done | (rw [show t738.length = t720.length from (Kd.S_reads' F722.out).1.symm] <;> rfl) | rfl | (simp only [List.length_drop, List.length_take]; rfl)) ?_; (with_reducible refine (laws_heldIntSS.calls k _ _ t738 1 t753 _ ?side1 ?side2 AX23.out).mono ?_); (case side1 => repeat (first | exact (Kd.S_reads' F722.out).2.2 | (with_reducible refine Kd.C_alloc ?_ _) | (with_reducible refine Kd.C_drewN ?_ _) | (with_reducible refine Kd.C_drew ?_))); (case side2 => first | exact (Kd.S_reads' F722.out).2.1 | (have e_ := (Kd.S_reads' F722.out).1; have e2_ := (Kd.S_reads' F722.out).2.1; omega)); rintro e w' ⟨rfl, ⟨nd, rfl⟩⟩; refine ⟨_, rfl, ?_⟩))
                      go_ret
                      exact ⟨by first | rfl | (simp; done) | (simp [*]; done), by exact (by repeat (first | (with_reducible first | exact HB.out | apply below_alloc | apply pw_below_drewN | apply below_drew1) | exact HB.out))⟩
                    · rw [if_neg c25] at H
                      exact absurd H (by simp)
                · rw [if_neg c22] at H
                  exact absurd H (by simp)
              · rw [if_neg c18] at H
                exact absurd H (by simp)
          · rw [if_neg c14] at H
            exact absurd H (by simp)
      · rw [if_neg c10] at H
        exact absurd H (by simp)
    · rw [if_neg c7] at H
      exact absurd H (by simp)

end Go.Proofs.Ytjkddcnflpfinaa.PFnExactSpreadBits
