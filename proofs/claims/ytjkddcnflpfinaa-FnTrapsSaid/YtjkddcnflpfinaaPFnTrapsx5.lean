-- Written by a program of this session (myprint.py: the kit's print.py, changed), out of the translation.
import Derived.Test.YtjkddcnflpfinaaPFnTrapsx0
import Derived.Test.YtjkddcnflpfinaaPFnTrapsx2
namespace Go.Proofs.Ytjkddcnflpfinaa.PFnTraps
open Go.RowKit Go.Proofs.YtjkddcnflpfinaaW.PrintWords Go.Proofs.YtjkddcnflpfinaaW.PrintLast Go.Proofs.YtjkddcnflpfinaaW.PrintMore
attribute [local go_sem] max2_int min2_int max_two min_two max_three min_three max_four min_four   -- for this text's walks alone
set_option linter.unusedVariables false
set_option linter.unusedSimpArgs false

/-! ### impl_SpreadBits_f: function 50 -/
def impl_SpreadBits_f.f (a0 : Int) (a1 : Int) (l2 : List (List Int)) : Option (Int) := if a0 < 0 then (some 0) else (if a0 ≥ 32 then (some 0) else (if a1 < 0 then (some 0) else (if a1 ≥ (l2.length : Int) then (some 0) else (if 0 ≤ a1 then (if a1 < (l2.length : Int) then (if 0 ≤ a0 then (if a0 < ((rd_L2 l2 a1).length : Int) then (some (rd (rd_L2 l2 a1) a0)) else (none)) else (none)) else (none)) else (none)))))
set_option maxHeartbeats 8000000 in
set_option maxRecDepth 100000 in
theorem impl_SpreadBits_f.calls (gb2 : Nat) (a0 : Int) (a1 : Int) (A2 : Option Addr) (c2 : Nat) (l2 : List (List Int)) (r : Int) (w : World) (hr2 : Kd.C (Kd.slice 3 (Kd.int .i64)) w A2 l2.length l2) (hc2 : l2.length ≤ c2) (hbx : w.heap[gb2]? = some (.cells #[.slice A2 l2.length c2] 24 (0, 0))) (h : impl_SpreadBits_f.f a0 a1 l2 = some r) :
    Calls Try.prog 50 #[.int .i64 a0, .int .i64 a1, .pointer (some ⟨gb2, 0, none⟩)] w fun e w' => e = .returned (.int .i64 r) ∧ Drawn0 w w' := by
  have hbxc : w.cell? ⟨gb2, 0, none⟩ = some (.slice A2 l2.length c2) := (blk_cell hbx 0).trans rfl
  have HBX2 := Aside0.mk hbx
  clear hbx
  have HR2 := Aside0.mk hr2
  have HC2 := Aside0.mk hc2
  clear hr2 hc2
  have H : (if a0 < 0 then (some 0) else (if a0 ≥ 32 then (some 0) else (if a1 < 0 then (some 0) else (if a1 ≥ (l2.length : Int) then (some 0) else (if 0 ≤ a1 then (if a1 < (l2.length : Int) then (if 0 ≤ a0 then (if a0 < ((rd_L2 l2 a1).length : Int) then (some (rd (rd_L2 l2 a1) a0)) else (none)) else (none)) else (none)) else (none)))))) = some r := h
  clear h
  by_cases c4 : a0 < 0
  · rw [if_pos c4] at H
    have c4b0 : decide (a0 < 0) = true := decide_eq_true c4
    clear c4
    obtain rfl := Option.some.inj H
    go_enter Try.func50, Try.ntmps50
    go_wp2
    go_ret
    exact ⟨by first | rfl | (simp; done) | (simp [*]; done), by repeat (first | exact Drawn0.refl _ | apply Drawn0.step)⟩
  · rw [if_neg c4] at H
    have c4b0 : decide (a0 < 0) = false := decide_eq_false c4
    clear c4
    by_cases c5 : a0 ≥ 32
    · rw [if_pos c5] at H
      have c5b0 : decide (32 ≤ a0) = true := decide_eq_true c5
      clear c5
      obtain rfl := Option.some.inj H
      go_enter Try.func50, Try.ntmps50
      go_wp2
      go_ret
      exact ⟨by first | rfl | (simp; done) | (simp [*]; done), by repeat (first | exact Drawn0.refl _ | apply Drawn0.step)⟩
    · rw [if_neg c5] at H
      have c5b0 : decide (32 ≤ a0) = false := decide_eq_false c5
      clear c5
      by_cases c6 : a1 < 0
      · rw [if_pos c6] at H
        have c6b0 : decide (a1 < 0) = true := decide_eq_true c6
        clear c6
        obtain rfl := Option.some.inj H
        go_enter Try.func50, Try.ntmps50
        go_wp2
        go_ret
        exact ⟨by first | rfl | (simp; done) | (simp [*]; done), by repeat (first | exact Drawn0.refl _ | apply Drawn0.step)⟩
      · rw [if_neg c6] at H
        have c6b0 : decide (a1 < 0) = false := decide_eq_false c6
        clear c6
        by_cases c7 : a1 ≥ (l2.length : Int)
        · rw [if_pos c7] at H
          have c7b0 : decide ((l2.length : Int) ≤ a1) = true := decide_eq_true c7
          clear c7
          obtain rfl := Option.some.inj H
          go_enter Try.func50, Try.ntmps50
          go_wp2
          go_ret
          exact ⟨by first | rfl | (simp; done) | (simp [*]; done), by repeat (first | exact Drawn0.refl _ | apply Drawn0.step)⟩
        · rw [if_neg c7] at H
          have c7b0 : decide ((l2.length : Int) ≤ a1) = false := decide_eq_false c7
          clear c7
          by_cases c8 : 0 ≤ a1
          · rw [if_pos c8] at H
            have c8b0 : decide (0 ≤ a1) = true := decide_eq_true c8
            clear c8
            by_cases c9 : a1 < (l2.length : Int)
            · rw [if_pos c9] at H
              have c9b0 : decide (a1 < (l2.length : Int)) = true := decide_eq_true c9
              clear c9
              by_cases c10 : 0 ≤ a0
              · rw [if_pos c10] at H
                have c10b0 : decide (0 ≤ a0) = true := decide_eq_true c10
                clear c10
                by_cases c11 : a0 < ((rd_L2 l2 a1).length : Int)
                · rw [if_pos c11] at H
                  have c11b0 : decide (a0 < ((rd_L2 l2 a1).length : Int)) = true := decide_eq_true c11
                  clear c11
                  obtain rfl := Option.some.inj H
                  have p217 : 0 ≤ (a1 : Int) := of_decide_eq_true (by first | (with_reducible assumption) | assumption)
                  have q217 : a1 < (l2.length : Int) := of_decide_eq_true (by first | (with_reducible assumption) | assumption)
                  obtain ⟨ad217, A217_0, c217_0, e217, hx217_0, hl217_0, hi217_0⟩ := at_L2 HR2.out a1 p217 q217
                  cases e217
                  have HR217_0 := Aside0.mk hi217_0
                  have HC217_0 := Aside0.mk hl217_0
                  clear hi217_0 hl217_0
                  replace p217 := eq_true p217
                  replace q217 := eq_true q217
                  have p218 : 0 ≤ (a0 : Int) := of_decide_eq_true (by first | (with_reducible assumption) | assumption)
                  have q218 : a0 < ((rd_L2 l2 a1).length : Int) := of_decide_eq_true (by first | (with_reducible assumption) | assumption)
                  obtain ⟨ad218, e218, hx218_0⟩ := Kd.at_int HR217_0.out a0 p218 q218
                  cases e218
                  replace p218 := eq_true p218
                  replace q218 := eq_true q218
                  go_enter Try.func50, Try.ntmps50
                  go_wp2
                  go_ret
                  exact ⟨by first | rfl | (simp; done) | (simp [*]; done), by repeat (first | exact Drawn0.refl _ | apply Drawn0.step)⟩
                · rw [if_neg c11] at H
                  exact absurd H (by simp)
              · rw [if_neg c10] at H
                exact absurd H (by simp)
            · rw [if_neg c9] at H
              exact absurd H (by simp)
          · rw [if_neg c8] at H
            exact absurd H (by simp)

theorem impl_SpreadBits.goesV_ {P : Program} {ops : Array Oper} {Q : Exit → Act → World → Prop} {oi : Oper} {N : Option Tmp} {a : Act} {w : World} {K : Act → World → Prop} {f : FuncId} {fn : Func} {c : Operand} {cap : Array Value} {as_ : Array Operand} {ts : Array TypeId} (hf : P.funcs[f]? = some fn) (hname : (fn.name == "runtime.NumGoroutine") = false) (hb : fn.body.isSome = true) (args : Array Value)
    (hw : Region.wanted oi (yielded ops a.tmps) = true) (hN : oi.dst = N) (hop : oi.op = .call { callee := .value c, args := as_, argTypes := ts }) (hc : a.eval c = .func (.func f) #[] cap) (hargs : as_.map a.eval ++ cap = args)
    (h : Calls P f args w fun e w' => ∃ v, e = .returned v ∧ K (a.put N v) w') : if Region.wanted oi (yielded ops a.tmps) = true then Oper.wp P oi a w K Q else K (a.put N undef) w := by
  refine call_ f args hw hN ?_ h
  have he := enters_ hf hname hb args w
  unfold execOp
  simp [hop, resolve, Deferred.ofValue, invoke, hc, hargs, he]
theorem impl_SpreadBits.gateV_ {P : Program} {ops : Array Oper} {rest : List Oper} {o : Oper} {a : Act} {Q : Exit → Act → World → Prop} {W : World} {d : Tmp} {as_ : Array Operand} {ts : Array TypeId} (_ho : o.op = .call { callee := .value (.tmp d), args := as_, argTypes := ts }) (h : wpList P ops Q (o :: rest) a W) : wpList P ops Q (o :: rest) a W := h
theorem impl_SpreadBits.goesLV_ {P : Program} {ops : Array Oper} {Q : Exit → Act → World → Prop} {rest : List Oper} {oi : Oper} {a : Act} {w : World} (N : Option Tmp) (hd : oi.dst = N) (hg : oi.guard = none) {f : FuncId} {fn : Func} {c : Operand} {cap : Array Value} {as_ : Array Operand} {ts : Array TypeId} (hf : P.funcs[f]? = some fn) (hname : (fn.name == "runtime.NumGoroutine") = false) (hb : fn.body.isSome = true) (args : Array Value)
    (hop : oi.op = .call { callee := .value c, args := as_, argTypes := ts }) (hc : a.eval c = .func (.func f) #[] cap) (hargs : as_.map a.eval ++ cap = args)
    (h : Calls P f args w fun e w' => ∃ v, e = .returned v ∧ wpList P ops Q rest (a.put N v) w') : wpList P ops Q (oi :: rest) a w := by
  refine wpList_plain hg fun K hK => ?_
  have he := enters_ hf hname hb args w
  have hrun : (execOp a.eval oi).run P w = .ok (.enter f args) w := by
    unfold execOp
    simp [hop, resolve, Deferred.ofValue, invoke, hc, hargs, he]
  unfold Oper.wp
  rw [hrun, Oper.upon_enter]
  refine h.mono fun e w'' hh => ?_
  obtain ⟨v, rfl, hk⟩ := hh
  subst hd
  exact hK _ _ hk
/-! ### impl_SpreadBits: function 18 -/
mutual
def impl_SpreadBits.l0 : Nat → List (List Int) → List (List Int) → Int → Int → Option ((List (List Int)))
  | 0, _, _, _, _ => none
  | k + 1, x1, x4, x14, x15 => if x15 < x14 then (if 0 ≤ x15 then (if x15 < (x4.length : Int) then (impl_SpreadBits.l1 k x1 x4 x15 x14 x15 ((rd_L2 x4 x15).length : Int) 0) else (none)) else (none)) else (some x4)
def impl_SpreadBits.l1 : Nat → List (List Int) → List (List Int) → Int → Int → Int → Int → Int → Option ((List (List Int)))
  | 0, _, _, _, _, _, _, _ => none
  | k + 1, x1, x4, x5, x14, x15, x22, x23 => if x23 < x22 then (if 0 ≤ x5 then (if x5 < (x4.length : Int) then ((impl_SpreadBits_f.f x23 x5 x1).bind fun t225 => ((impl_SpreadBits_f.f (wrap64 (x23 - 1)) x5 x1).bind fun t226 => ((impl_SpreadBits_f.f (wrap64 (x23 + 1)) x5 x1).bind fun t227 => ((impl_SpreadBits_f.f x23 (wrap64 (x5 - 1)) x1).bind fun t228 => ((impl_SpreadBits_f.f x23 (wrap64 (x5 + 1)) x1).bind fun t229 => (if 0 ≤ x23 then (if x23 < ((rd_L2 x4 x5).length : Int) then (impl_SpreadBits.l1 k x1 (x4.set (x5 : Int).toNat ((rd_L2 x4 x5).set (x23 : Int).toNat (mx (mx (mx (mx t225 t226) t227) t228) t229))) x5 x14 x15 x22 (wrap64 (x23 + 1))) else (none)) else (none))))))) else (none)) else (none)) else (impl_SpreadBits.l0 k x1 x4 x14 (wrap64 (x15 + 1)))
end
def impl_SpreadBits.f (k : Nat) (l0 : List (List Int)) : Option ((List (List Int))) := (impl_BitsOk.f k l0).bind fun t219 => (if t219 = true then ((impl_copyRows.f k l0).bind fun t220 => (impl_SpreadBits.l0 k l0 t220 (t220.length : Int) 0)) else (some ([] : List (List Int))))
theorem impl_SpreadBits.mono_l : ∀ k, (∀ y0 y1 y2 y3, LeO (impl_SpreadBits.l0 k y0 y1 y2 y3) (impl_SpreadBits.l0 (k + 1) y0 y1 y2 y3)) ∧ (∀ y0 y1 y2 y3 y4 y5 y6, LeO (impl_SpreadBits.l1 k y0 y1 y2 y3 y4 y5 y6) (impl_SpreadBits.l1 (k + 1) y0 y1 y2 y3 y4 y5 y6))
  | 0 => ⟨fun _ _ _ _ r h => by simp [impl_SpreadBits.l0] at h, fun _ _ _ _ _ _ _ r h => by simp [impl_SpreadBits.l1] at h⟩
  | k + 1 => by
    obtain ⟨ih0, ih1⟩ := impl_SpreadBits.mono_l k
    refine ⟨?_, ?_⟩
    · intro y0 y1 y2 y3
      unfold impl_SpreadBits.l0
      repeat' first
      | (with_reducible exact ih0 _ _ _ _)
      | (with_reducible exact ih1 _ _ _ _ _ _ _)
      | (with_reducible exact impl_BitsOk.mono _ _)
      | (with_reducible exact impl_copyRows.mono _ _)
      | (with_reducible exact LeO.refl _)
      | (with_reducible exact LeO.none _)
      | (with_reducible refine LeO.ite ?_ ?_)
      | (with_reducible refine LeO.bind ?_ (fun _ => ?_))
      | exact ih0 _ _ _ _
      | exact ih1 _ _ _ _ _ _ _
      | exact impl_BitsOk.mono _ _
      | exact impl_copyRows.mono _ _
      | exact LeO.none _
      | refine LeO.ite ?_ ?_
      | refine LeO.bind ?_ (fun _ => ?_)
    · intro y0 y1 y2 y3 y4 y5 y6
      unfold impl_SpreadBits.l1
      repeat' first
      | (with_reducible exact ih0 _ _ _ _)
      | (with_reducible exact ih1 _ _ _ _ _ _ _)
      | (with_reducible exact impl_BitsOk.mono _ _)
      | (with_reducible exact impl_copyRows.mono _ _)
      | (with_reducible exact LeO.refl _)
      | (with_reducible exact LeO.none _)
      | (with_reducible refine LeO.ite ?_ ?_)
      | (with_reducible refine LeO.bind ?_ (fun _ => ?_))
      | exact ih0 _ _ _ _
      | exact ih1 _ _ _ _ _ _ _
      | exact impl_BitsOk.mono _ _
      | exact impl_copyRows.mono _ _
      | exact LeO.none _
      | refine LeO.ite ?_ ?_
      | refine LeO.bind ?_ (fun _ => ?_)
theorem impl_SpreadBits.mono : ∀ a0 k, LeO (impl_SpreadBits.f k a0) (impl_SpreadBits.f (k + 1) a0) := by
  intro a0 k
  obtain ⟨ih0, ih1⟩ := impl_SpreadBits.mono_l k
  unfold impl_SpreadBits.f
  repeat' first
      | (with_reducible exact ih0 _ _ _ _)
      | (with_reducible exact ih1 _ _ _ _ _ _ _)
      | (with_reducible exact impl_BitsOk.mono _ _)
      | (with_reducible exact impl_copyRows.mono _ _)
      | (with_reducible exact LeO.refl _)
      | (with_reducible exact LeO.none _)
      | (with_reducible refine LeO.ite ?_ ?_)
      | (with_reducible refine LeO.bind ?_ (fun _ => ?_))
      | exact ih0 _ _ _ _
      | exact ih1 _ _ _ _ _ _ _
      | exact impl_BitsOk.mono _ _
      | exact impl_copyRows.mono _ _
      | exact LeO.none _
      | refine LeO.ite ?_ ?_
      | refine LeO.bind ?_ (fun _ => ?_)
def impl_SpreadBits.T11 : Bool × List (List Nat × List Nat) := (true, [([], []), ([], []), ([0, 1], [0, 1]), ([2], [2]), ([], []), ([], []), ([], []), ([], []), ([5, 6, 7], [5, 6, 7]), ([], []), ([], []), ([10], [10]), ([], []), ([9, 11, 12, 8], [9, 11, 12]), ([], []), ([], []), ([15], [15]), ([], []), ([14, 16, 17, 13], [14, 16, 17]), ([], []), ([], []), ([], []), ([21], [21]), ([19, 20, 22, 18], [19, 20, 22]), ([], []), ([], []), ([], []), ([26], [26]), ([24, 25, 27, 23], [24, 25, 27]), ([8, 13, 18, 23, 28], [8, 13, 18, 23, 28]), ([3, 4, 0, 1, 2, 3, 4, 5, 6, 7, 8, 9, 10, 11, 12, 13, 14, 15, 16, 17, 18, 19, 20, 21, 22, 23, 24, 25, 26, 27, 28, 29], [3, 4]), ([30, 29, 28, 0, 1, 2, 3, 4, 5, 6, 7, 8, 9, 10, 11, 12, 13, 14, 15, 16, 17, 18, 19, 20, 21, 22, 23, 24, 25, 26, 27, 28, 29], [29, 30])])
def impl_SpreadBits.B11 : List Nat := [0, 0, 3, 7, 0, 0, 0, 0, 224, 0, 0, 1024, 0, 8160, 0, 0, 32768, 0, 262112, 0, 0, 0, 2097152, 8388576, 0, 0, 0, 67108864, 268435424, 536870880, 1073741823, 2147483647]
theorem impl_SpreadBits.tab11 : rtab .any (opsOf Try.f18 11) = impl_SpreadBits.T11 := by kernel_rfl
theorem impl_SpreadBits.bits11 : waitsOk impl_SpreadBits.T11.2 impl_SpreadBits.B11 = true := by kernel_rfl
theorem impl_SpreadBits.max5 {P : Program} {w : World} (ats : Array TypeId) (ty : TypeId) (a b c d e : Int) : (Builtin.max_ ats ty #[.int .i64 a, .int .i64 b, .int .i64 c, .int .i64 d, .int .i64 e]).run P w = .ok (.int .i64 (mx (mx (mx (mx a b) c) d) e)) w := by
  simp only [Builtin.max_, List.foldlM_cons, List.foldlM_nil, max2_int, pure_bind]
  rfl
set_option maxHeartbeats 8000000 in
set_option maxRecDepth 100000 in
theorem impl_SpreadBits.calls (k : Nat) (A0 : Option Addr) (c0 : Nat) (l0 : List (List Int)) (r : List (List Int)) (w : World) (hr0 : Kd.C (Kd.slice 3 (Kd.int .i64)) w A0 l0.length l0) (hc0 : l0.length ≤ c0) (h : impl_SpreadBits.f k l0 = some r) :
    Calls Try.prog 18 #[.slice A0 l0.length c0] w fun e w' => ∃ v0_ : Value, e = .returned (v0_) ∧ Kd.S (Kd.slice 3 (Kd.int .i64)) 33 w' w.heap.size (fun _ => True) v0_ r ∧ Below w.heap.size w w' := by
  have HR0 := Aside0.mk hr0
  have HC0 := Aside0.mk hc0
  clear hr0 hc0
  have HB := Aside0.mk (Below.refl w.heap.size w)
  have H : ((impl_BitsOk.f k l0).bind fun t219 => (if t219 = true then ((impl_copyRows.f k l0).bind fun t220 => (impl_SpreadBits.l0 k l0 t220 (t220.length : Int) 0)) else (some ([] : List (List Int))))) = some r := h
  clear h
  replace H := Option.bind_eq_some_iff.mp H
  obtain ⟨t219, A20, H⟩ := H
  replace H : (if t219 = true then ((impl_copyRows.f k l0).bind fun t220 => (impl_SpreadBits.l0 k l0 t220 (t220.length : Int) 0)) else (some ([] : List (List Int)))) = some r := H
  have A2 := Aside0.mk A20
  clear A20
  by_cases c3 : t219 = true
  · subst c3
    have H1 : ((impl_copyRows.f k l0).bind fun t220 => (impl_SpreadBits.l0 k l0 t220 (t220.length : Int) 0)) = some r := by rw [if_pos rfl] at H; exact H
    clear H
    have H := H1
    clear H1
    replace H := Option.bind_eq_some_iff.mp H
    obtain ⟨t220, A40, H⟩ := H
    replace H : (impl_SpreadBits.l0 k l0 t220 (t220.length : Int) 0) = some r := H
    have A4 := Aside0.mk A40
    clear A40
    have H' := Aside0.mk H
    clear H
    go_enter Try.func18, Try.ntmps18
    go_wp2_with (first | ((with_reducible refine gate_dst (N := 1) rfl ?_); refine box_event ?hg (N := 1) ?hd (cs := #[.slice A0 l0.length c0]) (t := 24) ?hr ?_; (case hd => rfl); (case hg => rfl); (case hr => first | (go_simp; done) | (go_simp; rfl)); intro gbx hg w1_ hbox hb; have HBX := Aside0.mk hb; have BKX := Aside0.mk hbox; have hcx : w1_.cell? ⟨gbx, 0, none⟩ = some (.slice A0 l0.length c0) := (blk_cell hbox 0).trans rfl; have HR0n := Aside0.mk (Kd.C_below HR0.out hb); clear HR0; have HR0 := HR0n; clear HR0n; clear HB; have HB := Aside0.mk (Below.refl w1_.heap.size w1_); clear hb hbox hg) | ((with_reducible refine gate_callee (f := 19) rfl ?_); refine goesL_ (some 8) rfl rfl Try.func19 (by kernel_rfl) rfl #[.slice A0 l0.length c0] rfl (by (try simp only [List.map_toArray, List.map_cons, List.map_nil]); first | done | rfl | (simp only [List.length_drop, List.length_take]; rfl)) ?_; (with_reducible refine (impl_BitsOk.calls k _ _ l0 true _ ?side1 ?side2 A2.out).mono ?_); (case side1 => repeat (first | exact HR0.out | (with_reducible refine Kd.C_alloc ?_ _) | (with_reducible refine Kd.C_drewN ?_ _) | (with_reducible refine Kd.C_drew ?_))); (case side2 => exact HC0.out); rintro e w' ⟨rfl, ⟨nd, rfl⟩⟩; refine ⟨_, rfl, ?_⟩) | ((with_reducible refine gate_callee (f := 51) rfl ?_); refine goesL_ (some 12) rfl rfl Try.func51 (by kernel_rfl) rfl #[.slice A0 l0.length c0] rfl (by (try simp only [List.map_toArray, List.map_cons, List.map_nil]); first | done | rfl | (simp only [List.length_drop, List.length_take]; rfl)) ?_; (with_reducible refine (impl_copyRows.calls k _ _ l0 t220 _ ?side1 ?side2 A4.out).mono ?_); (case side1 => repeat (first | exact HR0.out | (with_reducible refine Kd.C_alloc ?_ _) | (with_reducible refine Kd.C_drewN ?_ _) | (with_reducible refine Kd.C_drew ?_))); (case side2 => exact HC0.out); rintro e w5 ⟨v221, rfl, ho0, hb⟩; refine ⟨_, rfl, ?_⟩; have n0_ := Aside0.mk (Kd.S_lower ho0 (below_size (by repeat (first | (with_reducible first | exact HB.out | apply below_alloc | apply pw_below_drewN | apply below_drew1) | exact HB.out)))); have n1_ := Aside0.mk (below_step (by repeat (first | (with_reducible first | exact HB.out | apply below_alloc | apply pw_below_drewN | apply below_drew1) | exact HB.out)) hb); clear HB; have HO222 := n0_; have HB := n1_; clear n0_ n1_; (try clear hb); (try clear hb2); (try clear hk); (try clear hi); (try clear ho0); obtain ⟨Ao6, co6, eo6⟩ := Kd.S_slice HO222.out; subst eo6))
    go_loopg [15] k (fun kq v15 w' => ∃ (x4_1 : List (List Int)) (x15_1 : Int), v15 = .int .i64 x15_1 ∧ Aside0 (impl_SpreadBits.l0 kq l0 x4_1 (t220.length : Int) x15_1 = some r) ∧ Aside0 (kq ≤ k) ∧ Aside0 (Kd.S (Kd.slice 3 (Kd.int .i64)) 33 w' w1_.heap.size (fun _ => True) (.slice Ao6 t220.length co6) x4_1) ∧ Aside0 (Below w1_.heap.size w1_ w'))
    case atStart => exact ⟨(t220), (0), (by first | rfl | (simp; done) | (simp [*]; done)), H', ⟨Nat.le_refl _⟩, ⟨by (with_reducible repeat (first | apply Kd.S_alloc | apply Kd.S_drewN | apply Kd.S_drew)); exact HO222.out⟩, ⟨by repeat (first | (with_reducible first | exact HB.out | apply below_alloc | apply pw_below_drewN | apply below_drew1) | exact HB.out)⟩⟩
    case round =>
      clear H'
      try clear c1
      try clear p2
      try clear c3
      try clear c5
      obtain ⟨x4_1, x15_1, rfl, HA, HK1, HO_4, HB⟩ := hrel
      have hl4_1 := (Kd.S_reads' HO_4.out).1
      rw [hl4_1] at HO_4
      (try simp only [hl4_1])
      cases gk with
      | zero => exact absurd HA.out (by simp [impl_SpreadBits.l0])
      | succ k1 =>
        have H := HA.out
        clear HA
        simp only [impl_SpreadBits.l0] at H
        by_cases c7 : x15_1 < (t220.length : Int)
        · rw [if_pos c7] at H
          have c7b0 : decide (x15_1 < (t220.length : Int)) = true := decide_eq_true c7
          clear c7
          by_cases c8 : 0 ≤ x15_1
          · rw [if_pos c8] at H
            have c8b0 : decide (0 ≤ x15_1) = true := decide_eq_true c8
            clear c8
            by_cases c9 : x15_1 < (x4_1.length : Int)
            · rw [if_pos c9] at H
              have c9b0 : decide (x15_1 < (x4_1.length : Int)) = true := decide_eq_true c9
              clear c9
              have H' := Aside0.mk H
              clear H
              have p223 : 0 ≤ (x15_1 : Int) := of_decide_eq_true (by first | (with_reducible assumption) | assumption)
              have q223 : x15_1 < (x4_1.length : Int) := of_decide_eq_true (by first | (with_reducible assumption) | assumption)
              obtain ⟨ad223, A223_0, c223_0, e223, hx223_0, hl223_0, hi223_0⟩ := at_L2 (Kd.S_reads' HO_4.out).2.2 x15_1 p223 q223
              cases e223
              obtain ⟨ce223, hce223, hMe223, hcc223⟩ := Kd.S_get HO_4.out [] x15_1 p223 (by first | exact q223 | exact of_decide_eq_true (by first | (with_reducible assumption) | assumption) | (have e_ := (Kd.S_reads' HO_4.out).1; omega))
              obtain ⟨ve223_0, rfl, ge223_0⟩ := hMe223
              have hv223_0 := hcc223 0 _ rfl
              rw [Nat.add_zero, show ((Kd.slice 3 (Kd.int .i64))).sz = 1 from rfl, Nat.mul_one] at hv223_0
              replace hv223_0 := Option.some.inj (hv223_0.symm.trans hx223_0)
              rw [hv223_0] at ge223_0
              have HL223_0 := Aside0.mk (show Kd.R (Kd.int .i64) 3 _ _ _ _ (rd_L2 x4_1 x15_1) from ge223_0)
              clear hv223_0 ge223_0
              have HX223_0 := Aside0.mk hx223_0
              clear hcc223 hce223
              have HR223_0 := Aside0.mk hi223_0
              have HC223_0 := Aside0.mk hl223_0
              clear hi223_0 hl223_0
              replace p223 := eq_true p223
              replace q223 := eq_true q223
              go_wp2
              go_loopg [23] k1 (fun kq v23 w' => ∃ (x4_2 : List (List Int)) (x23_2 : Int), v23 = .int .i64 x23_2 ∧ Aside0 (impl_SpreadBits.l1 kq l0 x4_2 x15_1 (t220.length : Int) x15_1 ((rd_L2 x4_1 x15_1).length : Int) x23_2 = some r) ∧ Aside0 (kq ≤ k1) ∧ Aside0 (Kd.S (Kd.slice 3 (Kd.int .i64)) 33 w' w1_.heap.size (fun _ => True) (.slice (some ad223) x4_1.length co6) x4_2) ∧ Aside0 (Below w1_.heap.size w1_ w'))
              case atStart => exact ⟨(x4_1), (0), (by first | rfl | (simp; done) | (simp [*]; done)), H', ⟨Nat.le_refl _⟩, ⟨by (try simp only [hl4_1]); (with_reducible repeat (first | apply Kd.S_alloc | apply Kd.S_drewN | apply Kd.S_drew)); exact HO_4.out⟩, ⟨by repeat (first | (with_reducible first | exact HB.out | apply below_alloc | apply pw_below_drewN | apply below_drew1) | exact HB.out)⟩⟩
              case round =>
                clear H'
                try clear c1
                try clear c2
                try clear p2
                try clear q2
                try clear hx2
                try clear c3
                try clear c5
                try clear c7
                try clear c7b0
                try clear c8
                try clear c8b0
                try clear c9
                try clear c9b0
                try clear hx223_0
                try clear p2
                try clear p223
                try clear q223
                obtain ⟨x4_2, x23_2, rfl, HA, HK2, HO_4, HB⟩ := hrel
                have hl4_2 := (Kd.S_reads' HO_4.out).1
                rw [hl4_2] at HO_4
                (try simp only [hl4_2])
                cases gk with
                | zero => exact absurd HA.out (by simp [impl_SpreadBits.l1])
                | succ k2 =>
                  have H := HA.out
                  clear HA
                  simp only [impl_SpreadBits.l1] at H
                  by_cases c10 : x23_2 < ((rd_L2 x4_1 x15_1).length : Int)
                  · rw [if_pos c10] at H
                    have c10b0 : decide (x23_2 < ((rd_L2 x4_1 x15_1).length : Int)) = true := decide_eq_true c10
                    clear c10
                    by_cases c11 : 0 ≤ x15_1
                    · rw [if_pos c11] at H
                      have c11b0 : decide (0 ≤ x15_1) = true := decide_eq_true c11
                      clear c11
                      by_cases c12 : x15_1 < (x4_2.length : Int)
                      · rw [if_pos c12] at H
                        have c12b0 : decide (x15_1 < (x4_2.length : Int)) = true := decide_eq_true c12
                        clear c12
                        replace H := Option.bind_eq_some_iff.mp H
                        obtain ⟨t225, A130, H⟩ := H
                        replace H : ((impl_SpreadBits_f.f (wrap64 (x23_2 - 1)) x15_1 l0).bind fun t226 => ((impl_SpreadBits_f.f (wrap64 (x23_2 + 1)) x15_1 l0).bind fun t227 => ((impl_SpreadBits_f.f x23_2 (wrap64 (x15_1 - 1)) l0).bind fun t228 => ((impl_SpreadBits_f.f x23_2 (wrap64 (x15_1 + 1)) l0).bind fun t229 => (if 0 ≤ x23_2 then (if x23_2 < ((rd_L2 x4_2 x15_1).length : Int) then (impl_SpreadBits.l1 k2 l0 (x4_2.set (x15_1 : Int).toNat ((rd_L2 x4_2 x15_1).set (x23_2 : Int).toNat (mx (mx (mx (mx t225 t226) t227) t228) t229))) x15_1 (t220.length : Int) x15_1 ((rd_L2 x4_1 x15_1).length : Int) (wrap64 (x23_2 + 1))) else (none)) else (none)))))) = some r := H
                        have A13 := Aside0.mk A130
                        clear A130
                        replace H := Option.bind_eq_some_iff.mp H
                        obtain ⟨t226, A140, H⟩ := H
                        replace H : ((impl_SpreadBits_f.f (wrap64 (x23_2 + 1)) x15_1 l0).bind fun t227 => ((impl_SpreadBits_f.f x23_2 (wrap64 (x15_1 - 1)) l0).bind fun t228 => ((impl_SpreadBits_f.f x23_2 (wrap64 (x15_1 + 1)) l0).bind fun t229 => (if 0 ≤ x23_2 then (if x23_2 < ((rd_L2 x4_2 x15_1).length : Int) then (impl_SpreadBits.l1 k2 l0 (x4_2.set (x15_1 : Int).toNat ((rd_L2 x4_2 x15_1).set (x23_2 : Int).toNat (mx (mx (mx (mx t225 t226) t227) t228) t229))) x15_1 (t220.length : Int) x15_1 ((rd_L2 x4_1 x15_1).length : Int) (wrap64 (x23_2 + 1))) else (none)) else (none))))) = some r := H
                        have A14 := Aside0.mk A140
                        clear A140
                        replace H := Option.bind_eq_some_iff.mp H
                        obtain ⟨t227, A150, H⟩ := H
                        replace H : ((impl_SpreadBits_f.f x23_2 (wrap64 (x15_1 - 1)) l0).bind fun t228 => ((impl_SpreadBits_f.f x23_2 (wrap64 (x15_1 + 1)) l0).bind fun t229 => (if 0 ≤ x23_2 then (if x23_2 < ((rd_L2 x4_2 x15_1).length : Int) then (impl_SpreadBits.l1 k2 l0 (x4_2.set (x15_1 : Int).toNat ((rd_L2 x4_2 x15_1).set (x23_2 : Int).toNat (mx (mx (mx (mx t225 t226) t227) t228) t229))) x15_1 (t220.length : Int) x15_1 ((rd_L2 x4_1 x15_1).length : Int) (wrap64 (x23_2 + 1))) else (none)) else (none)))) = some r := H
                        have A15 := Aside0.mk A150
                        clear A150
                        replace H := Option.bind_eq_some_iff.mp H
                        obtain ⟨t228, A160, H⟩ := H
                        replace H : ((impl_SpreadBits_f.f x23_2 (wrap64 (x15_1 + 1)) l0).bind fun t229 => (if 0 ≤ x23_2 then (if x23_2 < ((rd_L2 x4_2 x15_1).length : Int) then (impl_SpreadBits.l1 k2 l0 (x4_2.set (x15_1 : Int).toNat ((rd_L2 x4_2 x15_1).set (x23_2 : Int).toNat (mx (mx (mx (mx t225 t226) t227) t228) t229))) x15_1 (t220.length : Int) x15_1 ((rd_L2 x4_1 x15_1).length : Int) (wrap64 (x23_2 + 1))) else (none)) else (none))) = some r := H
                        have A16 := Aside0.mk A160
                        clear A160
                        replace H := Option.bind_eq_some_iff.mp H
                        obtain ⟨t229, A170, H⟩ := H
                        replace H : (if 0 ≤ x23_2 then (if x23_2 < ((rd_L2 x4_2 x15_1).length : Int) then (impl_SpreadBits.l1 k2 l0 (x4_2.set (x15_1 : Int).toNat ((rd_L2 x4_2 x15_1).set (x23_2 : Int).toNat (mx (mx (mx (mx t225 t226) t227) t228) t229))) x15_1 (t220.length : Int) x15_1 ((rd_L2 x4_1 x15_1).length : Int) (wrap64 (x23_2 + 1))) else (none)) else (none)) = some r := H
                        have A17 := Aside0.mk A170
                        clear A170
                        obtain ⟨ji18, hji18⟩ : ∃ j_ : Int, (mx t225 t226) = j_ := ⟨_, rfl⟩
                        replace H : (if 0 ≤ x23_2 then (if x23_2 < ((rd_L2 x4_2 x15_1).length : Int) then (impl_SpreadBits.l1 k2 l0 (x4_2.set (x15_1 : Int).toNat ((rd_L2 x4_2 x15_1).set (x23_2 : Int).toNat (mx (mx (mx (ji18) t227) t228) t229))) x15_1 (t220.length : Int) x15_1 ((rd_L2 x4_1 x15_1).length : Int) (wrap64 (x23_2 + 1))) else (none)) else (none)) = some r := by first | (rw [hji18] at H; exact H) | (simp only [hji18] at H ⊢; exact H)
                        (try rw [hji18] at A13)
                        (try rw [hji18] at A14)
                        (try rw [hji18] at A15)
                        (try rw [hji18] at A16)
                        (try rw [hji18] at A17)
                        have hji18_ : (if t225 < t226 then t226 else t225) = ji18 := hji18
                        obtain ⟨ji19, hji19⟩ : ∃ j_ : Int, (mx (ji18) t227) = j_ := ⟨_, rfl⟩
                        replace H : (if 0 ≤ x23_2 then (if x23_2 < ((rd_L2 x4_2 x15_1).length : Int) then (impl_SpreadBits.l1 k2 l0 (x4_2.set (x15_1 : Int).toNat ((rd_L2 x4_2 x15_1).set (x23_2 : Int).toNat (mx (mx (ji19) t228) t229))) x15_1 (t220.length : Int) x15_1 ((rd_L2 x4_1 x15_1).length : Int) (wrap64 (x23_2 + 1))) else (none)) else (none)) = some r := by first | (rw [hji19] at H; exact H) | (simp only [hji19] at H ⊢; exact H)
                        (try rw [hji19] at A13)
                        (try rw [hji19] at A14)
                        (try rw [hji19] at A15)
                        (try rw [hji19] at A16)
                        (try rw [hji19] at A17)
                        have hji19_ : (if (ji18) < t227 then t227 else (ji18)) = ji19 := hji19
                        obtain ⟨ji20, hji20⟩ : ∃ j_ : Int, (mx (ji19) t228) = j_ := ⟨_, rfl⟩
                        replace H : (if 0 ≤ x23_2 then (if x23_2 < ((rd_L2 x4_2 x15_1).length : Int) then (impl_SpreadBits.l1 k2 l0 (x4_2.set (x15_1 : Int).toNat ((rd_L2 x4_2 x15_1).set (x23_2 : Int).toNat (mx (ji20) t229))) x15_1 (t220.length : Int) x15_1 ((rd_L2 x4_1 x15_1).length : Int) (wrap64 (x23_2 + 1))) else (none)) else (none)) = some r := by first | (rw [hji20] at H; exact H) | (simp only [hji20] at H ⊢; exact H)
                        (try rw [hji20] at A13)
                        (try rw [hji20] at A14)
                        (try rw [hji20] at A15)
                        (try rw [hji20] at A16)
                        (try rw [hji20] at A17)
                        have hji20_ : (if (ji19) < t228 then t228 else (ji19)) = ji20 := hji20
                        obtain ⟨ji21, hji21⟩ : ∃ j_ : Int, (mx (ji20) t229) = j_ := ⟨_, rfl⟩
                        replace H : (if 0 ≤ x23_2 then (if x23_2 < ((rd_L2 x4_2 x15_1).length : Int) then (impl_SpreadBits.l1 k2 l0 (x4_2.set (x15_1 : Int).toNat ((rd_L2 x4_2 x15_1).set (x23_2 : Int).toNat (ji21))) x15_1 (t220.length : Int) x15_1 ((rd_L2 x4_1 x15_1).length : Int) (wrap64 (x23_2 + 1))) else (none)) else (none)) = some r := by first | (rw [hji21] at H; exact H) | (simp only [hji21] at H ⊢; exact H)
                        (try rw [hji21] at A13)
                        (try rw [hji21] at A14)
                        (try rw [hji21] at A15)
                        (try rw [hji21] at A16)
                        (try rw [hji21] at A17)
                        have hji21_ : (if (ji20) < t229 then t229 else (ji20)) = ji21 := hji21
                        by_cases c22 : 0 ≤ x23_2
                        · rw [if_pos c22] at H
                          have c22b0 : decide (0 ≤ x23_2) = true := decide_eq_true c22
                          clear c22
                          by_cases c23 : x23_2 < ((rd_L2 x4_2 x15_1).length : Int)
                          · rw [if_pos c23] at H
                            have c23b0 : decide (x23_2 < ((rd_L2 x4_2 x15_1).length : Int)) = true := decide_eq_true c23
                            clear c23
                            obtain ⟨y230, hy230⟩ : ∃ y_ : List Int, y_ = ((rd_L2 x4_2 x15_1).set (x23_2 : Int).toNat (ji21)) := ⟨_, rfl⟩
                            replace H : (impl_SpreadBits.l1 k2 l0 (x4_2.set (x15_1 : Int).toNat y230) x15_1 (t220.length : Int) x15_1 ((rd_L2 x4_1 x15_1).length : Int) (wrap64 (x23_2 + 1))) = some r := by first | (rw [hy230]; with_reducible exact H) | (have H2_ := (Option.bind_some _ _).symm.trans H; rw [hy230]; with_reducible exact H2_) | (have H2_ := (Option.bind_some _ _).symm.trans H; with_reducible exact H2_) | with_reducible exact H | (rw [hy230]; exact H) | exact H
                            have Ny230 := Aside0.mk hy230
                            clear hy230
                            obtain ⟨y232, hy232⟩ : ∃ y_ : List (List Int), y_ = (x4_2.set (x15_1 : Int).toNat y230) := ⟨_, rfl⟩
                            replace H : (impl_SpreadBits.l1 k2 l0 y232 x15_1 (t220.length : Int) x15_1 ((rd_L2 x4_1 x15_1).length : Int) (wrap64 (x23_2 + 1))) = some r := by first | (rw [hy232]; with_reducible exact H) | (have H2_ := (Option.bind_some _ _).symm.trans H; rw [hy232]; with_reducible exact H2_) | (have H2_ := (Option.bind_some _ _).symm.trans H; with_reducible exact H2_) | with_reducible exact H | (rw [hy232]; exact H) | exact H
                            have Ny232 := Aside0.mk hy232
                            clear hy232
                            have H' := Aside0.mk H
                            clear H
                            try go_wp2
                            have n0_ := Aside0.mk (Kd.S_drew HO_4.out)
                            have n1_ := Aside0.mk (below_drew1 HB.out)
                            clear HO_4
                            clear HB
                            have HO_4 := n0_
                            have HB := n1_
                            clear n0_ n1_
                            have p224 : 0 ≤ (x15_1 : Int) := of_decide_eq_true (by first | (with_reducible assumption) | assumption)
                            have q224 : x15_1 < (x4_2.length : Int) := of_decide_eq_true (by first | (with_reducible assumption) | assumption)
                            obtain ⟨ad224, A224_0, c224_0, e224, hx224_0, hl224_0, hi224_0⟩ := at_L2 (Kd.S_reads' HO_4.out).2.2 x15_1 p224 q224
                            obtain rfl : ad223 = ad224 := (by injection e224)
                            obtain ⟨ce224, hce224, hMe224, hcc224⟩ := Kd.S_get HO_4.out [] x15_1 p224 (by first | exact q224 | exact of_decide_eq_true (by first | (with_reducible assumption) | assumption) | (have e_ := (Kd.S_reads' HO_4.out).1; omega))
                            obtain ⟨ve224_0, rfl, ge224_0⟩ := hMe224
                            have hv224_0 := hcc224 0 _ rfl
                            rw [Nat.add_zero, show ((Kd.slice 3 (Kd.int .i64))).sz = 1 from rfl, Nat.mul_one] at hv224_0
                            replace hv224_0 := Option.some.inj (hv224_0.symm.trans hx224_0)
                            rw [hv224_0] at ge224_0
                            have HL224_0 := Aside0.mk (show Kd.R (Kd.int .i64) 3 _ _ _ _ (rd_L2 x4_2 x15_1) from ge224_0)
                            clear hv224_0 ge224_0
                            have HX224_0 := Aside0.mk hx224_0
                            clear hcc224 hce224
                            have HR224_0 := Aside0.mk hi224_0
                            have HC224_0 := Aside0.mk hl224_0
                            clear hi224_0 hl224_0
                            replace p224 := eq_true p224
                            replace q224 := eq_true q224
                            refine start_ (n := 32) (S := fun w' => w'.cell? (ad223.add (x15_1).toNat) = some (.slice A224_0 (rd_L2 x4_2 x15_1).length c224_0)) (ds := [31]) #[false, false, false, false, false, false, false, false, false, false, false, false, false, false, false, false, false, false, false, false, false, false, false, false, false, false, false, false, false, false, false, false] (by kernel_rfl) rfl rfl (hx224_0) (fun hHeld => ?_); refine with_tabW impl_SpreadBits.tab11 impl_SpreadBits.bits11 (fun HT_ HW_ => ?_)
                            generalize wr.drew = w25 at HO_4 HB HL224_0 HR224_0 HX224_0 hx224_0 hHeld ⊢
                            refine pure_ (i := 0) (N := some 26) (v := ?_) (a' := ?_) #[true, false, false, false, false, false, false, false, false, false, false, false, false, false, false, false, false, false, false, false, false, false, false, false, false, false, false, false, false, false, false, false] rfl rfl (any_of HT_.out (by kernel_rfl)) (fun _ _ _ h => h) (Or.inl ⟨by rfl, ?_⟩) ?_ ?_
                            rotate_left
                            · intro w'
                              go_simp
                              with_reducible rfl
                            rotate_left
                            · simp only [Act.put, List.setIfInBounds_toArray, List.set_cons_zero, List.set_cons_succ, i64_w, i32_w]
                              rfl
                            refine pure_ (i := 1) (N := some 27) (v := ?_) (a' := ?_) #[true, true, false, false, false, false, false, false, false, false, false, false, false, false, false, false, false, false, false, false, false, false, false, false, false, false, false, false, false, false, false, false] rfl rfl (any_of HT_.out (by kernel_rfl)) (fun _ _ _ h => h) (Or.inl ⟨by rfl, ?_⟩) ?_ ?_
                            rotate_left
                            · intro w'
                              go_simp
                              with_reducible rfl
                            rotate_left
                            · simp only [Act.put, List.setIfInBounds_toArray, List.set_cons_zero, List.set_cons_succ, i64_w, i32_w]
                              rfl
                            refine pure_ (i := 2) (N := some 28) (v := ?_) (a' := ?_) #[true, true, true, false, false, false, false, false, false, false, false, false, false, false, false, false, false, false, false, false, false, false, false, false, false, false, false, false, false, false, false, false] rfl rfl (any_of HT_.out (by kernel_rfl)) (fun _ _ _ h => h) (Or.inl ⟨by rfl, ?_⟩) ?_ ?_
                            rotate_left
                            · intro w'
                              go_simp
                              with_reducible rfl
                            rotate_left
                            · simp only [Act.put, List.setIfInBounds_toArray, List.set_cons_zero, List.set_cons_succ, i64_w, i32_w]
                              rfl
                            refine pure_ (i := 4) (N := some 30) (v := ?_) (a' := ?_) #[true, true, true, false, true, false, false, false, false, false, false, false, false, false, false, false, false, false, false, false, false, false, false, false, false, false, false, false, false, false, false, false] rfl rfl (any_of HT_.out (by kernel_rfl)) (fun _ _ _ h => h) (Or.inl ⟨by rfl, ?_⟩) ?_ ?_
                            rotate_left
                            · intro w'
                              go_simp
                              with_reducible rfl
                            rotate_left
                            · simp only [Act.put, List.setIfInBounds_toArray, List.set_cons_zero, List.set_cons_succ, i64_w, i32_w]
                              rfl
                            refine pure_ (i := 5) (N := some 31) (v := ?_) (a' := ?_) #[true, true, true, false, true, true, false, false, false, false, false, false, false, false, false, false, false, false, false, false, false, false, false, false, false, false, false, false, false, false, false, false] rfl rfl (any_of HT_.out (by kernel_rfl)) (fun _ _ _ h => h) (Or.inl ⟨by rfl, ?_⟩) ?_ ?_
                            rotate_left
                            · intro w'
                              go_simp
                              with_reducible rfl
                            rotate_left
                            · simp only [Act.put, List.setIfInBounds_toArray, List.set_cons_zero, List.set_cons_succ, i64_w, i32_w]
                              rfl
                            refine pure_ (i := 6) (N := some 32) (v := ?_) (a' := ?_) #[true, true, true, false, true, true, true, false, false, false, false, false, false, false, false, false, false, false, false, false, false, false, false, false, false, false, false, false, false, false, false, false] rfl rfl (any_of HT_.out (by kernel_rfl)) (fun _ _ _ h => h) (Or.inl ⟨by rfl, ?_⟩) ?_ ?_
                            rotate_left
                            · intro w'
                              go_simp
                              with_reducible rfl
                            rotate_left
                            · simp only [Act.put, List.setIfInBounds_toArray, List.set_cons_zero, List.set_cons_succ, i64_w, i32_w]
                              rfl
                            refine pure_ (i := 7) (N := some 33) (v := ?_) (a' := ?_) #[true, true, true, false, true, true, true, true, false, false, false, false, false, false, false, false, false, false, false, false, false, false, false, false, false, false, false, false, false, false, false, false] rfl rfl (any_of HT_.out (by kernel_rfl)) (fun _ _ _ h => h) (Or.inl ⟨by rfl, ?_⟩) ?_ ?_
                            rotate_left
                            · intro w'
                              go_simp
                              with_reducible rfl
                            rotate_left
                            · simp only [Act.put, List.setIfInBounds_toArray, List.set_cons_zero, List.set_cons_succ, i64_w, i32_w]
                              rfl
                            refine pure_ (i := 9) (N := some 35) (v := ?_) (a' := ?_) #[true, true, true, false, true, true, true, true, false, true, false, false, false, false, false, false, false, false, false, false, false, false, false, false, false, false, false, false, false, false, false, false] rfl rfl (any_of HT_.out (by kernel_rfl)) (fun _ _ _ h => h) (Or.inl ⟨by rfl, ?_⟩) ?_ ?_
                            rotate_left
                            · intro w'
                              go_simp
                              with_reducible rfl
                            rotate_left
                            · simp only [Act.put, List.setIfInBounds_toArray, List.set_cons_zero, List.set_cons_succ, i64_w, i32_w]
                              rfl
                            refine pure_ (i := 10) (N := some 36) (v := ?_) (a' := ?_) #[true, true, true, false, true, true, true, true, false, true, true, false, false, false, false, false, false, false, false, false, false, false, false, false, false, false, false, false, false, false, false, false] rfl rfl (any_of HT_.out (by kernel_rfl)) (fun _ _ _ h => h) (Or.inl ⟨by rfl, ?_⟩) ?_ ?_
                            rotate_left
                            · intro w'
                              go_simp
                              with_reducible rfl
                            rotate_left
                            · simp only [Act.put, List.setIfInBounds_toArray, List.set_cons_zero, List.set_cons_succ, i64_w, i32_w]
                              rfl
                            refine pure_ (i := 11) (N := some 37) (v := ?_) (a' := ?_) #[true, true, true, false, true, true, true, true, false, true, true, true, false, false, false, false, false, false, false, false, false, false, false, false, false, false, false, false, false, false, false, false] rfl rfl (any_of HT_.out (by kernel_rfl)) (fun _ _ _ h => h) (Or.inl ⟨by rfl, ?_⟩) ?_ ?_
                            rotate_left
                            · intro w'
                              go_simp
                              with_reducible rfl
                            rotate_left
                            · simp only [Act.put, List.setIfInBounds_toArray, List.set_cons_zero, List.set_cons_succ, i64_w, i32_w]
                              rfl
                            refine pure_ (i := 12) (N := some 38) (v := ?_) (a' := ?_) #[true, true, true, false, true, true, true, true, false, true, true, true, true, false, false, false, false, false, false, false, false, false, false, false, false, false, false, false, false, false, false, false] rfl rfl (any_of HT_.out (by kernel_rfl)) (fun _ _ _ h => h) (Or.inl ⟨by rfl, ?_⟩) ?_ ?_
                            rotate_left
                            · intro w'
                              go_simp
                              with_reducible rfl
                            rotate_left
                            · simp only [Act.put, List.setIfInBounds_toArray, List.set_cons_zero, List.set_cons_succ, i64_w, i32_w]
                              rfl
                            refine pure_ (i := 14) (N := some 40) (v := ?_) (a' := ?_) #[true, true, true, false, true, true, true, true, false, true, true, true, true, false, true, false, false, false, false, false, false, false, false, false, false, false, false, false, false, false, false, false] rfl rfl (any_of HT_.out (by kernel_rfl)) (fun _ _ _ h => h) (Or.inl ⟨by rfl, ?_⟩) ?_ ?_
                            rotate_left
                            · intro w'
                              go_simp
                              with_reducible rfl
                            rotate_left
                            · simp only [Act.put, List.setIfInBounds_toArray, List.set_cons_zero, List.set_cons_succ, i64_w, i32_w]
                              rfl
                            refine pure_ (i := 15) (N := some 41) (v := ?_) (a' := ?_) #[true, true, true, false, true, true, true, true, false, true, true, true, true, false, true, true, false, false, false, false, false, false, false, false, false, false, false, false, false, false, false, false] rfl rfl (any_of HT_.out (by kernel_rfl)) (fun _ _ _ h => h) (Or.inl ⟨by rfl, ?_⟩) ?_ ?_
                            rotate_left
                            · intro w'
                              go_simp
                              with_reducible rfl
                            rotate_left
                            · simp only [Act.put, List.setIfInBounds_toArray, List.set_cons_zero, List.set_cons_succ, i64_w, i32_w]
                              rfl
                            refine pure_ (i := 16) (N := some 42) (v := ?_) (a' := ?_) #[true, true, true, false, true, true, true, true, false, true, true, true, true, false, true, true, true, false, false, false, false, false, false, false, false, false, false, false, false, false, false, false] rfl rfl (any_of HT_.out (by kernel_rfl)) (fun _ _ _ h => h) (Or.inl ⟨by rfl, ?_⟩) ?_ ?_
                            rotate_left
                            · intro w'
                              go_simp
                              with_reducible rfl
                            rotate_left
                            · simp only [Act.put, List.setIfInBounds_toArray, List.set_cons_zero, List.set_cons_succ, i64_w, i32_w]
                              rfl
                            refine pure_ (i := 17) (N := some 43) (v := ?_) (a' := ?_) #[true, true, true, false, true, true, true, true, false, true, true, true, true, false, true, true, true, true, false, false, false, false, false, false, false, false, false, false, false, false, false, false] rfl rfl (any_of HT_.out (by kernel_rfl)) (fun _ _ _ h => h) (Or.inl ⟨by rfl, ?_⟩) ?_ ?_
                            rotate_left
                            · intro w'
                              go_simp
                              with_reducible rfl
                            rotate_left
                            · simp only [Act.put, List.setIfInBounds_toArray, List.set_cons_zero, List.set_cons_succ, i64_w, i32_w]
                              rfl
                            refine pure_ (i := 19) (N := some 45) (v := ?_) (a' := ?_) #[true, true, true, false, true, true, true, true, false, true, true, true, true, false, true, true, true, true, false, true, false, false, false, false, false, false, false, false, false, false, false, false] rfl rfl (any_of HT_.out (by kernel_rfl)) (fun _ _ _ h => h) (Or.inl ⟨by rfl, ?_⟩) ?_ ?_
                            rotate_left
                            · intro w'
                              go_simp
                              with_reducible rfl
                            rotate_left
                            · simp only [Act.put, List.setIfInBounds_toArray, List.set_cons_zero, List.set_cons_succ, i64_w, i32_w]
                              rfl
                            refine pure_ (i := 20) (N := some 46) (v := ?_) (a' := ?_) #[true, true, true, false, true, true, true, true, false, true, true, true, true, false, true, true, true, true, false, true, true, false, false, false, false, false, false, false, false, false, false, false] rfl rfl (any_of HT_.out (by kernel_rfl)) (fun _ _ _ h => h) (Or.inl ⟨by rfl, ?_⟩) ?_ ?_
                            rotate_left
                            · intro w'
                              go_simp
                              with_reducible rfl
                            rotate_left
                            · simp only [Act.put, List.setIfInBounds_toArray, List.set_cons_zero, List.set_cons_succ, i64_w, i32_w]
                              rfl
                            refine pure_ (i := 21) (N := some 47) (v := ?_) (a' := ?_) #[true, true, true, false, true, true, true, true, false, true, true, true, true, false, true, true, true, true, false, true, true, true, false, false, false, false, false, false, false, false, false, false] rfl rfl (any_of HT_.out (by kernel_rfl)) (fun _ _ _ h => h) (Or.inl ⟨by rfl, ?_⟩) ?_ ?_
                            rotate_left
                            · intro w'
                              go_simp
                              with_reducible rfl
                            rotate_left
                            · simp only [Act.put, List.setIfInBounds_toArray, List.set_cons_zero, List.set_cons_succ, i64_w, i32_w]
                              rfl
                            refine pure_ (i := 22) (N := some 48) (v := ?_) (a' := ?_) #[true, true, true, false, true, true, true, true, false, true, true, true, true, false, true, true, true, true, false, true, true, true, true, false, false, false, false, false, false, false, false, false] rfl rfl (any_of HT_.out (by kernel_rfl)) (fun _ _ _ h => h) (Or.inl ⟨by rfl, ?_⟩) ?_ ?_
                            rotate_left
                            · intro w'
                              go_simp
                              with_reducible rfl
                            rotate_left
                            · simp only [Act.put, List.setIfInBounds_toArray, List.set_cons_zero, List.set_cons_succ, i64_w, i32_w]
                              rfl
                            refine pure_ (i := 24) (N := some 50) (v := ?_) (a' := ?_) #[true, true, true, false, true, true, true, true, false, true, true, true, true, false, true, true, true, true, false, true, true, true, true, false, true, false, false, false, false, false, false, false] rfl rfl (any_of HT_.out (by kernel_rfl)) (fun _ _ _ h => h) (Or.inl ⟨by rfl, ?_⟩) ?_ ?_
                            rotate_left
                            · intro w'
                              go_simp
                              with_reducible rfl
                            rotate_left
                            · simp only [Act.put, List.setIfInBounds_toArray, List.set_cons_zero, List.set_cons_succ, i64_w, i32_w]
                              rfl
                            refine pure_ (i := 25) (N := some 51) (v := ?_) (a' := ?_) #[true, true, true, false, true, true, true, true, false, true, true, true, true, false, true, true, true, true, false, true, true, true, true, false, true, true, false, false, false, false, false, false] rfl rfl (any_of HT_.out (by kernel_rfl)) (fun _ _ _ h => h) (Or.inl ⟨by rfl, ?_⟩) ?_ ?_
                            rotate_left
                            · intro w'
                              go_simp
                              with_reducible rfl
                            rotate_left
                            · simp only [Act.put, List.setIfInBounds_toArray, List.set_cons_zero, List.set_cons_succ, i64_w, i32_w]
                              rfl
                            refine pure_ (i := 26) (N := some 52) (v := ?_) (a' := ?_) #[true, true, true, false, true, true, true, true, false, true, true, true, true, false, true, true, true, true, false, true, true, true, true, false, true, true, true, false, false, false, false, false] rfl rfl (any_of HT_.out (by kernel_rfl)) (fun _ _ _ h => h) (Or.inl ⟨by rfl, ?_⟩) ?_ ?_
                            rotate_left
                            · intro w'
                              go_simp
                              with_reducible rfl
                            rotate_left
                            · simp only [Act.put, List.setIfInBounds_toArray, List.set_cons_zero, List.set_cons_succ, i64_w, i32_w]
                              rfl
                            refine pure_ (i := 27) (N := some 53) (v := ?_) (a' := ?_) #[true, true, true, false, true, true, true, true, false, true, true, true, true, false, true, true, true, true, false, true, true, true, true, false, true, true, true, true, false, false, false, false] rfl rfl (any_of HT_.out (by kernel_rfl)) (fun _ _ _ h => h) (Or.inl ⟨by rfl, ?_⟩) ?_ ?_
                            rotate_left
                            · intro w'
                              go_simp
                              with_reducible rfl
                            rotate_left
                            · simp only [Act.put, List.setIfInBounds_toArray, List.set_cons_zero, List.set_cons_succ, i64_w, i32_w]
                              rfl
                            refine take_ (i := 3) (N := some 29) (v := ?_) (a' := ?_) #[true, true, true, true, true, true, true, true, false, true, true, true, true, false, true, true, true, true, false, true, true, true, true, false, true, true, true, true, false, false, false, false] rfl rfl (take_ofW HT_.out HW_.out (by kernel_rfl)) (fun _ _ _ h => h) (Or.inl ⟨by rfl, ?_⟩) hHeld ?_ ?_
                            rotate_left
                            · intro w' s0
                              go_simp
                              with_reducible rfl
                            rotate_left
                            · simp only [Act.put, List.setIfInBounds_toArray, List.set_cons_zero, List.set_cons_succ, i64_w, i32_w]
                              rfl
                            refine one_ (i := 8) (N := some 34) #[true, true, true, true, true, true, true, true, true, true, true, true, true, false, true, true, true, true, false, true, true, true, true, false, true, true, true, true, false, false, false, false] rfl rfl (one_of HT_.out (by kernel_rfl)) (by decide) (fun K hK => ?_)
                            refine impl_SpreadBits.goesV_ Try.func50 (by kernel_rfl) rfl #[.int .i64 x23_2, .int .i64 x15_1, .pointer (some ⟨gbx, 0, none⟩)] (by rfl) rfl rfl (by first | rfl | (go_simp; done) | (go_simp; rfl)) (by (try simp only [Array.append_empty, List.append_toArray]); (try simp only [List.map_toArray, List.map_cons, List.map_nil]); first | done | rfl | (simp only [List.length_drop, List.length_take]; rfl)) ?_
                            with_reducible refine (impl_SpreadBits_f.calls gbx x23_2 x15_1 A0 c0 l0 t225 _ ?side1 ?side2 ?side3 A13.out).mono ?_
                            (case side1 => repeat (first | exact (Kd.C_below HR0.out HB.out) | (with_reducible refine Kd.C_alloc ?_ _) | (with_reducible refine Kd.C_drewN ?_ _) | (with_reducible refine Kd.C_drew ?_)))
                            (case side2 => exact HC0.out)
                            (case side3 => repeat (first | exact (blk_below BKX.out (by repeat (first | (with_reducible first | exact HB.out | apply below_alloc | apply pw_below_drewN | apply below_drew1) | exact HB.out))) | (refine blk_alloc ?_ _) | (refine blk_drewN ?_ _) | (refine blk_drew ?_)))
                            rintro e w' ⟨rfl, ⟨nd, rfl⟩⟩
                            refine ⟨_, rfl, ?_⟩
                            refine hK.out _ _ (hHeld) (fun hHeld => ?_)
                            clear hK K
                            refine norm_ (a' := ?_) ?_ ?_
                            rotate_left
                            · show Act.put _ (some 34) _ = _
                              simp only [Act.put, List.setIfInBounds_toArray, List.set_cons_zero, List.set_cons_succ, i64_w, i32_w]
                              rfl
                            refine one_ (i := 13) (N := some 39) #[true, true, true, true, true, true, true, true, true, true, true, true, true, true, true, true, true, true, false, true, true, true, true, false, true, true, true, true, false, false, false, false] rfl rfl (one_of HT_.out (by kernel_rfl)) (by decide) (fun K hK => ?_)
                            refine impl_SpreadBits.goesV_ Try.func50 (by kernel_rfl) rfl #[.int .i64 (wrap64 (x23_2 - 1)), .int .i64 x15_1, .pointer (some ⟨gbx, 0, none⟩)] (by rfl) rfl rfl (by first | rfl | (go_simp; done) | (go_simp; rfl)) (by (try simp only [Array.append_empty, List.append_toArray]); (try simp only [List.map_toArray, List.map_cons, List.map_nil]); first | done | rfl | (simp only [List.length_drop, List.length_take]; rfl)) ?_
                            with_reducible refine (impl_SpreadBits_f.calls gbx (wrap64 (x23_2 - 1)) x15_1 A0 c0 l0 t226 _ ?side1 ?side2 ?side3 A14.out).mono ?_
                            (case side1 => repeat (first | exact (Kd.C_below HR0.out (by repeat (first | (with_reducible first | exact HB.out | apply below_alloc | apply pw_below_drewN | apply below_drew1) | exact HB.out))) | (with_reducible refine Kd.C_alloc ?_ _) | (with_reducible refine Kd.C_drewN ?_ _) | (with_reducible refine Kd.C_drew ?_)))
                            (case side2 => exact HC0.out)
                            (case side3 => repeat (first | exact (blk_below BKX.out (by repeat (first | (with_reducible first | exact HB.out | apply below_alloc | apply pw_below_drewN | apply below_drew1) | exact HB.out))) | (refine blk_alloc ?_ _) | (refine blk_drewN ?_ _) | (refine blk_drew ?_)))
                            rintro e w' ⟨rfl, ⟨nd, rfl⟩⟩
                            refine ⟨_, rfl, ?_⟩
                            refine hK.out _ _ (hHeld) (fun hHeld => ?_)
                            clear hK K
                            refine norm_ (a' := ?_) ?_ ?_
                            rotate_left
                            · show Act.put _ (some 39) _ = _
                              simp only [Act.put, List.setIfInBounds_toArray, List.set_cons_zero, List.set_cons_succ, i64_w, i32_w]
                              rfl
                            refine one_ (i := 18) (N := some 44) #[true, true, true, true, true, true, true, true, true, true, true, true, true, true, true, true, true, true, true, true, true, true, true, false, true, true, true, true, false, false, false, false] rfl rfl (one_of HT_.out (by kernel_rfl)) (by decide) (fun K hK => ?_)
                            refine impl_SpreadBits.goesV_ Try.func50 (by kernel_rfl) rfl #[.int .i64 (wrap64 (x23_2 + 1)), .int .i64 x15_1, .pointer (some ⟨gbx, 0, none⟩)] (by rfl) rfl rfl (by first | rfl | (go_simp; done) | (go_simp; rfl)) (by (try simp only [Array.append_empty, List.append_toArray]); (try simp only [List.map_toArray, List.map_cons, List.map_nil]); first | done | rfl | (simp only [List.length_drop, List.length_take]; rfl)) ?_
                            with_reducible refine (impl_SpreadBits_f.calls gbx (wrap64 (x23_2 + 1)) x15_1 A0 c0 l0 t227 _ ?side1 ?side2 ?side3 A15.out).mono ?_
                            (case side1 => repeat (first | exact (Kd.C_below HR0.out (by repeat (first | (with_reducible first | exact HB.out | apply below_alloc | apply pw_below_drewN | apply below_drew1) | exact HB.out))) | (with_reducible refine Kd.C_alloc ?_ _) | (with_reducible refine Kd.C_drewN ?_ _) | (with_reducible refine Kd.C_drew ?_)))
                            (case side2 => exact HC0.out)
                            (case side3 => repeat (first | exact (blk_below BKX.out (by repeat (first | (with_reducible first | exact HB.out | apply below_alloc | apply pw_below_drewN | apply below_drew1) | exact HB.out))) | (refine blk_alloc ?_ _) | (refine blk_drewN ?_ _) | (refine blk_drew ?_)))
                            rintro e w' ⟨rfl, ⟨nd, rfl⟩⟩
                            refine ⟨_, rfl, ?_⟩
                            refine hK.out _ _ (hHeld) (fun hHeld => ?_)
                            clear hK K
                            refine norm_ (a' := ?_) ?_ ?_
                            rotate_left
                            · show Act.put _ (some 44) _ = _
                              simp only [Act.put, List.setIfInBounds_toArray, List.set_cons_zero, List.set_cons_succ, i64_w, i32_w]
                              rfl
                            refine one_ (i := 23) (N := some 49) #[true, true, true, true, true, true, true, true, true, true, true, true, true, true, true, true, true, true, true, true, true, true, true, true, true, true, true, true, false, false, false, false] rfl rfl (one_of HT_.out (by kernel_rfl)) (by decide) (fun K hK => ?_)
                            refine impl_SpreadBits.goesV_ Try.func50 (by kernel_rfl) rfl #[.int .i64 x23_2, .int .i64 (wrap64 (x15_1 - 1)), .pointer (some ⟨gbx, 0, none⟩)] (by rfl) rfl rfl (by first | rfl | (go_simp; done) | (go_simp; rfl)) (by (try simp only [Array.append_empty, List.append_toArray]); (try simp only [List.map_toArray, List.map_cons, List.map_nil]); first | done | rfl | (simp only [List.length_drop, List.length_take]; rfl)) ?_
                            with_reducible refine (impl_SpreadBits_f.calls gbx x23_2 (wrap64 (x15_1 - 1)) A0 c0 l0 t228 _ ?side1 ?side2 ?side3 A16.out).mono ?_
                            (case side1 => repeat (first | exact (Kd.C_below HR0.out (by repeat (first | (with_reducible first | exact HB.out | apply below_alloc | apply pw_below_drewN | apply below_drew1) | exact HB.out))) | (with_reducible refine Kd.C_alloc ?_ _) | (with_reducible refine Kd.C_drewN ?_ _) | (with_reducible refine Kd.C_drew ?_)))
                            (case side2 => exact HC0.out)
                            (case side3 => repeat (first | exact (blk_below BKX.out (by repeat (first | (with_reducible first | exact HB.out | apply below_alloc | apply pw_below_drewN | apply below_drew1) | exact HB.out))) | (refine blk_alloc ?_ _) | (refine blk_drewN ?_ _) | (refine blk_drew ?_)))
                            rintro e w' ⟨rfl, ⟨nd, rfl⟩⟩
                            refine ⟨_, rfl, ?_⟩
                            refine hK.out _ _ (hHeld) (fun hHeld => ?_)
                            clear hK K
                            refine norm_ (a' := ?_) ?_ ?_
                            rotate_left
                            · show Act.put _ (some 49) _ = _
                              simp only [Act.put, List.setIfInBounds_toArray, List.set_cons_zero, List.set_cons_succ, i64_w, i32_w]
                              rfl
                            refine one_ (i := 28) (N := some 54) #[true, true, true, true, true, true, true, true, true, true, true, true, true, true, true, true, true, true, true, true, true, true, true, true, true, true, true, true, true, false, false, false] rfl rfl (one_of HT_.out (by kernel_rfl)) (by decide) (fun K hK => ?_)
                            refine impl_SpreadBits.goesV_ Try.func50 (by kernel_rfl) rfl #[.int .i64 x23_2, .int .i64 (wrap64 (x15_1 + 1)), .pointer (some ⟨gbx, 0, none⟩)] (by rfl) rfl rfl (by first | rfl | (go_simp; done) | (go_simp; rfl)) (by (try simp only [Array.append_empty, List.append_toArray]); (try simp only [List.map_toArray, List.map_cons, List.map_nil]); first | done | rfl | (simp only [List.length_drop, List.length_take]; rfl)) ?_
                            with_reducible refine (impl_SpreadBits_f.calls gbx x23_2 (wrap64 (x15_1 + 1)) A0 c0 l0 t229 _ ?side1 ?side2 ?side3 A17.out).mono ?_
                            (case side1 => repeat (first | exact (Kd.C_below HR0.out (by repeat (first | (with_reducible first | exact HB.out | apply below_alloc | apply pw_below_drewN | apply below_drew1) | exact HB.out))) | (with_reducible refine Kd.C_alloc ?_ _) | (with_reducible refine Kd.C_drewN ?_ _) | (with_reducible refine Kd.C_drew ?_)))
                            (case side2 => exact HC0.out)
                            (case side3 => repeat (first | exact (blk_below BKX.out (by repeat (first | (with_reducible first | exact HB.out | apply below_alloc | apply pw_below_drewN | apply below_drew1) | exact HB.out))) | (refine blk_alloc ?_ _) | (refine blk_drewN ?_ _) | (refine blk_drew ?_)))
                            rintro e w' ⟨rfl, ⟨nd, rfl⟩⟩
                            refine ⟨_, rfl, ?_⟩
                            have p24 : 0 ≤ (x23_2 : Int) := of_decide_eq_true (by first | (with_reducible assumption) | assumption)
                            have q24 : (x23_2 : Int) < (((rd_L2 x4_2 x15_1).length : Int) : Int) := of_decide_eq_true (by first | (with_reducible assumption) | assumption)
                            obtain ⟨go24, co24, eo24, gb24, gl24, cl24, HG24⟩ := Kd.R_form HL224_0.out (by omega)
                            (first | cases eo24 | (injection eo24 with ea_ en_ ec_; (first | subst ea_ | (injection ea_ with ea_; subst ea_)); subst ec_; clear en_))
                            have GB24 := Aside0.mk gb24
                            have GG24 := Aside0.mk HG24
                            clear gb24 gl24 HG24
                            obtain ⟨hx24_0, hf24_0⟩ := Kd.R_celln 0 HL224_0.out (x23_2 : Int) p24 q24
                            replace p24 := eq_true p24
                            replace q24 := eq_true q24
                            have hq26 : (x15_1 : Int) < (x4_2.length : Int) := (by have h_ : (x15_1 : Int) < ((x4_2.length : Int) : Int) := of_decide_eq_true (by first | (with_reducible assumption) | assumption); first | exact h_ | (have e_ := (Kd.S_reads' HO_4.out).1; omega) | simpa only [List.length_set, List.length_set] using h_)
                            obtain ⟨oki26, ce26, hcl26, hM26, hcc26, hok26, hbk26⟩ := Kd.S_borrow HO_4.out [] (x15_1 : Int) (of_decide_eq_true (by first | (with_reducible assumption) | assumption)) hq26
                            obtain ⟨ve26_0, rfl, ge26_0⟩ := hM26
                            have hv26 := hcc26 0 _ rfl
                            rw [Nat.add_zero, show ((Kd.slice 3 (Kd.int .i64))).sz = 1 from rfl, Nat.mul_one] at hv26
                            replace hv26 := Option.some.inj (hv26.symm.trans HX224_0.out)
                            subst hv26
                            clear hcc26 hcl26
                            replace ge26_0 := (show Kd.R (Kd.int .i64) 3 _ _ _ _ (rd_L2 x4_2 x15_1) from ge26_0)
                            have HP26 := Kd.R_putg ge26_0 (x23_2 : Int) ji21
                            rw [← Ny230.out] at HP26
                            have HS26 := hbk26 HP26.2 (fun k_ e_ => by injection e_ with e_; subst e_; exact ge26_0.1 _ rfl) (x' := y230) (Kd.M_row HP26.1)
                            rw [← Ny232.out] at HS26
                            have HQ26 := Aside0.mk HS26
                            clear HP26 HS26 hbk26 hok26
                            refine hK.out _ _ (hHeld) (fun hHeld => ?_)
                            clear hK K
                            refine norm_ (a' := ?_) ?_ ?_
                            rotate_left
                            · show Act.put _ (some 54) _ = _
                              simp only [Act.put, List.setIfInBounds_toArray, List.set_cons_zero, List.set_cons_succ, i64_w, i32_w]
                              rfl
                            refine pure_ (i := 29) (N := some 55) (v := ?_) (a' := ?_) #[true, true, true, true, true, true, true, true, true, true, true, true, true, true, true, true, true, true, true, true, true, true, true, true, true, true, true, true, true, true, false, false] rfl rfl (any_of HT_.out (by kernel_rfl)) (fun _ _ _ h => h) (Or.inl ⟨by rfl, ?_⟩) ?_ ?_
                            rotate_left
                            · intro w'
                              go_simp
                              rw [impl_SpreadBits.max5, hji18, hji19, hji20, hji21]
                              rfl
                            rotate_left
                            · simp only [Act.put, List.setIfInBounds_toArray, List.set_cons_zero, List.set_cons_succ, i64_w, i32_w]
                              rfl
                            refine pure_ (i := 30) (N := some 56) (v := ?_) (a' := ?_) #[true, true, true, true, true, true, true, true, true, true, true, true, true, true, true, true, true, true, true, true, true, true, true, true, true, true, true, true, true, true, true, false] rfl rfl (any_of HT_.out (by kernel_rfl)) (fun _ _ _ h => h) (Or.inl ⟨by rfl, ?_⟩) ?_ ?_
                            rotate_left
                            · intro w'
                              go_simp
                              with_reducible rfl
                            rotate_left
                            · simp only [Act.put, List.setIfInBounds_toArray, List.set_cons_zero, List.set_cons_succ, i64_w, i32_w]
                              rfl
                            refine last_ (i := 31) (N := none) #[true, true, true, true, true, true, true, true, true, true, true, true, true, true, true, true, true, true, true, true, true, true, true, true, true, true, true, true, true, true, true, true] rfl rfl (one_of HT_.out (by kernel_rfl)) (by decide) (fun K hK => ?_)
                            refine skip_ (w1 := ?_) (by rfl) rfl ?_ ?_
                            rotate_left
                            · go_simp
                              rfl
                            refine hK.out _ _ ?_
                            clear hK K
                            refine done_ (done_of HT_.out (by kernel_rfl)) ?_
                            try go_wp2
                            (try simp only [← hl4_2])
                            go_roundg k2
                            case measure => have := HK1.out; have := HK2.out; omega
                            case rel => exact ⟨(y232), (wrap64 (x23_2 + 1)), (by first | rfl | (simp; done) | (simp [*]; done)), H', ⟨by have := HK1.out; have := HK2.out; omega⟩, ⟨by (try simp only [hl4_1]); (try simp only [hl4_2]); (with_reducible repeat (first | apply Kd.S_alloc | apply Kd.S_drewN | apply Kd.S_drew)); exact HQ26.out⟩, ⟨by repeat (first | (with_reducible first | exact HB.out | apply below_alloc | apply pw_below_drewN | apply below_drew1 | refine below_set ?_ GB24.out) | exact HB.out)⟩⟩
                          · rw [if_neg c23] at H
                            exact absurd H (by simp)
                        · rw [if_neg c22] at H
                          exact absurd H (by simp)
                      · rw [if_neg c12] at H
                        exact absurd H (by simp)
                    · rw [if_neg c11] at H
                      exact absurd H (by simp)
                  · rw [if_neg c10] at H
                    have c10b0 : decide (x23_2 < ((rd_L2 x4_1 x15_1).length : Int)) = false := decide_eq_false c10
                    (try simp only [hl4_1] at c10b0)
                    (try simp only [hl4_2] at c10b0)
                    clear c10
                    have H' := Aside0.mk H
                    clear H
                    go_wp2
                    (try simp only [← hl4_1, ← hl4_2])
                    go_roundg k2
                    case measure => have := HK1.out; have := HK2.out; omega
                    case rel => exact ⟨(x4_2), (wrap64 (x15_1 + 1)), (by first | rfl | (simp; done) | (simp [*]; done)), H', ⟨by have := HK1.out; have := HK2.out; omega⟩, ⟨by (try simp only [hl4_1]); (try simp only [hl4_2]); (with_reducible repeat (first | apply Kd.S_alloc | apply Kd.S_drewN | apply Kd.S_drew)); exact HO_4.out⟩, ⟨by repeat (first | (with_reducible first | exact HB.out | apply below_alloc | apply pw_below_drewN | apply below_drew1) | exact HB.out)⟩⟩
            · rw [if_neg c9] at H
              exact absurd H (by simp)
          · rw [if_neg c8] at H
            exact absurd H (by simp)
        · rw [if_neg c7] at H
          have c7b0 : decide (x15_1 < (t220.length : Int)) = false := decide_eq_false c7
          (try simp only [hl4_1] at c7b0)
          (try simp only [hl4_2] at c7b0)
          clear c7
          obtain rfl := Option.some.inj H
          go_wp2
          go_ret
          exact ⟨_, by first | rfl | (simp [errW_none, errW_some] <;> rfl) | (simp [*, errW_none, errW_some] <;> rfl), Kd.S_lower (by (with_reducible repeat (first | apply Kd.S_alloc | apply Kd.S_drewN | apply Kd.S_drew)); exact HO_4.out) (below_size HBX.out), below_step HBX.out (by repeat (first | (with_reducible first | exact HB.out | apply below_alloc | apply pw_below_drewN | apply below_drew1) | exact HB.out))⟩
  · replace c3 := Bool.eq_false_iff.mpr c3
    subst c3
    have H1 : (some ([] : List (List Int))) = some r := by rw [if_neg (show ¬ (false = true) by decide)] at H; exact H
    clear H
    have H := H1
    clear H1
    obtain rfl := Option.some.inj H
    go_enter Try.func18, Try.ntmps18
    go_wp2_with (first | ((with_reducible refine gate_dst (N := 1) rfl ?_); refine box_event ?hg (N := 1) ?hd (cs := #[.slice A0 l0.length c0]) (t := 24) ?hr ?_; (case hd => rfl); (case hg => rfl); (case hr => first | (go_simp; done) | (go_simp; rfl)); intro gbx hg w1_ hbox hb; have HBX := Aside0.mk hb; have BKX := Aside0.mk hbox; have hcx : w1_.cell? ⟨gbx, 0, none⟩ = some (.slice A0 l0.length c0) := (blk_cell hbox 0).trans rfl; have HR0n := Aside0.mk (Kd.C_below HR0.out hb); clear HR0; have HR0 := HR0n; clear HR0n; clear HB; have HB := Aside0.mk (Below.refl w1_.heap.size w1_); clear hb hbox hg) | ((with_reducible refine gate_callee (f := 19) rfl ?_); refine goesL_ (some 8) rfl rfl Try.func19 (by kernel_rfl) rfl #[.slice A0 l0.length c0] rfl (by (try simp only [List.map_toArray, List.map_cons, List.map_nil]); first | done | rfl | (simp only [List.length_drop, List.length_take]; rfl)) ?_; (with_reducible refine (impl_BitsOk.calls k _ _ l0 false _ ?side1 ?side2 A2.out).mono ?_); (case side1 => repeat (first | exact HR0.out | (with_reducible refine Kd.C_alloc ?_ _) | (with_reducible refine Kd.C_drewN ?_ _) | (with_reducible refine Kd.C_drew ?_))); (case side2 => exact HC0.out); rintro e w' ⟨rfl, ⟨nd, rfl⟩⟩; refine ⟨_, rfl, ?_⟩))
    go_ret
    exact ⟨_, by first | rfl | (simp [errW_none, errW_some] <;> rfl) | (simp [*, errW_none, errW_some] <;> rfl), Kd.S_lower (by first | exact Kd.S_nil _ _ _ _ _ | exact Kd.N_nil _ _ _ _ _ | exact Kd.V_nil _ _ _ _ _ | exact Kd.Q_nil _ _ _ _ _ | exact Kd.R_nil _ _ _ _ _) (below_size HBX.out), below_step HBX.out (by repeat (first | (with_reducible first | exact HB.out | apply below_alloc | apply pw_below_drewN | apply below_drew1) | exact HB.out))⟩

end Go.Proofs.Ytjkddcnflpfinaa.PFnTraps
