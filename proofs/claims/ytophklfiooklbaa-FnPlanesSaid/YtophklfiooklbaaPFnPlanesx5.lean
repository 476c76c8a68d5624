-- Written by a program of this session (myprint.py: the kit's print.py, changed), out of the translation.
import Derived.Test.YtophklfiooklbaaPFnPlanesx0
import Derived.Test.YtophklfiooklbaaPFnPlanesx2
namespace Go.Proofs.Ytophklfiooklbaa.PFnPlanes
open Go.RowKit Go.Proofs.YtophklfiooklbaaW.PrintWords Go.Proofs.YtophklfiooklbaaW.PrintLast Go.Proofs.YtophklfiooklbaaW.PrintMore
attribute [local go_sem] max2_int min2_int max_two min_two max_three min_three max_four min_four   -- for this text's walks alone
set_option linter.unusedVariables false
set_option linter.unusedSimpArgs false

/-! ### impl_PackPlanes: function 46 -/
mutual
def impl_PackPlanes.l0 : Nat → List (List Int) → List (List Int) → List (List Int) → List (List Int) → List (List Int) → Int → Int → Option ((List (List Int)) × Bool)
  | 0, _, _, _, _, _, _, _ => none
  | k + 1, x0, x1, x2, x3, x13, x41, x42 => if x42 < x41 then (if 0 ≤ x42 then (if x42 < (x13.length : Int) then (impl_PackPlanes.l1 k x0 x1 x2 x3 x13 x42 x41 x42 ((rd_L2 x13 x42).length : Int) 0) else (none)) else (none)) else (some (x13, true))
def impl_PackPlanes.l1 : Nat → List (List Int) → List (List Int) → List (List Int) → List (List Int) → List (List Int) → Int → Int → Int → Int → Int → Option ((List (List Int)) × Bool)
  | 0, _, _, _, _, _, _, _, _, _, _ => none
  | k + 1, x0, x1, x2, x3, x13, x14, x41, x42, x49, x50 => if x50 < x49 then (if 0 ≤ x14 then (if x14 < (x13.length : Int) then (if x14 < (x0.length : Int) then (if 0 ≤ x50 then (if x50 < ((rd_L2 x0 x14).length : Int) then (if x14 < (x1.length : Int) then (if x50 < ((rd_L2 x1 x14).length : Int) then (if x14 < (x2.length : Int) then (if x50 < ((rd_L2 x2 x14).length : Int) then (if x14 < (x3.length : Int) then (if x50 < ((rd_L2 x3 x14).length : Int) then (if x50 < ((rd_L2 x13 x14).length : Int) then (impl_PackPlanes.l1 k x0 x1 x2 x3 (x13.set (x14 : Int).toNat ((rd_L2 x13 x14).set (x50 : Int).toNat (wrap64 ((wrap64 ((wrap64 ((rd (rd_L2 x0 x14) x50) + (wrap64 (2 * (rd (rd_L2 x1 x14) x50))))) + (wrap64 (4 * (rd (rd_L2 x2 x14) x50))))) + (wrap64 (8 * (rd (rd_L2 x3 x14) x50))))))) x14 x41 x42 x49 (wrap64 (x50 + 1))) else (none)) else (none)) else (none)) else (none)) else (none)) else (none)) else (none)) else (none)) else (none)) else (none)) else (none)) else (none)) else (impl_PackPlanes.l0 k x0 x1 x2 x3 x13 x41 (wrap64 (x42 + 1)))
end
def impl_PackPlanes.g (k : Nat) (l0 : List (List Int)) (l1 : List (List Int)) (l2 : List (List Int)) (l3 : List (List Int)) : Option ((List (List Int)) × Bool) := (impl_copyRows.f k l0).bind fun t152 => (impl_PackPlanes.l0 k l0 l1 l2 l3 t152 (t152.length : Int) 0)
theorem impl_PackPlanes.mono_l : ∀ k, (∀ y0 y1 y2 y3 y4 y5 y6, LeO (impl_PackPlanes.l0 k y0 y1 y2 y3 y4 y5 y6) (impl_PackPlanes.l0 (k + 1) y0 y1 y2 y3 y4 y5 y6)) ∧ (∀ y0 y1 y2 y3 y4 y5 y6 y7 y8 y9, LeO (impl_PackPlanes.l1 k y0 y1 y2 y3 y4 y5 y6 y7 y8 y9) (impl_PackPlanes.l1 (k + 1) y0 y1 y2 y3 y4 y5 y6 y7 y8 y9))
  | 0 => ⟨fun _ _ _ _ _ _ _ r h => by simp [impl_PackPlanes.l0] at h, fun _ _ _ _ _ _ _ _ _ _ r h => by simp [impl_PackPlanes.l1] at h⟩
  | k + 1 => by
    obtain ⟨ih0, ih1⟩ := impl_PackPlanes.mono_l k
    refine ⟨?_, ?_⟩
    · intro y0 y1 y2 y3 y4 y5 y6
      unfold impl_PackPlanes.l0
      repeat' first
      | (with_reducible exact ih0 _ _ _ _ _ _ _)
      | (with_reducible exact ih1 _ _ _ _ _ _ _ _ _ _)
      | (with_reducible exact impl_copyRows.mono _ _)
      | (with_reducible exact LeO.refl _)
      | (with_reducible exact LeO.none _)
      | (with_reducible refine LeO.ite ?_ ?_)
      | (with_reducible refine LeO.bind ?_ (fun _ => ?_))
      | exact ih0 _ _ _ _ _ _ _
      | exact ih1 _ _ _ _ _ _ _ _ _ _
      | exact impl_copyRows.mono _ _
      | exact LeO.none _
      | refine LeO.ite ?_ ?_
      | refine LeO.bind ?_ (fun _ => ?_)
    · intro y0 y1 y2 y3 y4 y5 y6 y7 y8 y9
      unfold impl_PackPlanes.l1
      repeat' first
      | (with_reducible exact ih0 _ _ _ _ _ _ _)
      | (with_reducible exact ih1 _ _ _ _ _ _ _ _ _ _)
      | (with_reducible exact impl_copyRows.mono _ _)
      | (with_reducible exact LeO.refl _)
      | (with_reducible exact LeO.none _)
      | (with_reducible refine LeO.ite ?_ ?_)
      | (with_reducible refine LeO.bind ?_ (fun _ => ?_))
      | exact ih0 _ _ _ _ _ _ _
      | exact ih1 _ _ _ _ _ _ _ _ _ _
      | exact impl_copyRows.mono _ _
      | exact LeO.none _
      | refine LeO.ite ?_ ?_
      | refine LeO.bind ?_ (fun _ => ?_)
theorem impl_PackPlanes.gmono : ∀ a0 a1 a2 a3 k, LeO (impl_PackPlanes.g k a0 a1 a2 a3) (impl_PackPlanes.g (k + 1) a0 a1 a2 a3) := by
  intro a0 a1 a2 a3 k
  obtain ⟨ih0, ih1⟩ := impl_PackPlanes.mono_l k
  unfold impl_PackPlanes.g
  repeat' first
      | (with_reducible exact ih0 _ _ _ _ _ _ _)
      | (with_reducible exact ih1 _ _ _ _ _ _ _ _ _ _)
      | (with_reducible exact impl_copyRows.mono _ _)
      | (with_reducible exact LeO.refl _)
      | (with_reducible exact LeO.none _)
      | (with_reducible refine LeO.ite ?_ ?_)
      | (with_reducible refine LeO.bind ?_ (fun _ => ?_))
      | exact ih0 _ _ _ _ _ _ _
      | exact ih1 _ _ _ _ _ _ _ _ _ _
      | exact impl_copyRows.mono _ _
      | exact LeO.none _
      | refine LeO.ite ?_ ?_
      | refine LeO.bind ?_ (fun _ => ?_)
def impl_PackPlanes.T15 : Bool × List (List Nat × List Nat) := (true, [([], []), ([], []), ([0, 1], [0, 1]), ([2], [2]), ([], []), ([], []), ([], []), ([5, 6], [5, 6]), ([7], [7]), ([], []), ([8, 9], [8, 9]), ([10], [10]), ([], []), ([], []), ([12, 13], [12, 13]), ([14], [14]), ([], []), ([15, 16], [15, 16]), ([17], [17]), ([18], [18]), ([11, 19], [11, 19]), ([], []), ([], []), ([21, 22], [21, 22]), ([23], [23]), ([], []), ([24, 25], [24, 25]), ([26], [26]), ([27], [27]), ([20, 28], [20, 28]), ([], []), ([], []), ([30, 31], [30, 31]), ([32], [32]), ([], []), ([33, 34], [33, 34]), ([35], [35]), ([36], [36]), ([29, 37], [29, 37]), ([3, 4, 0, 1, 2, 3, 4, 5, 6, 7, 8, 9, 10, 11, 12, 13, 14, 15, 16, 17, 18, 19, 20, 21, 22, 23, 24, 25, 26, 27, 28, 29, 30, 31, 32, 33, 34, 35, 36, 37, 38], [3, 4]), ([39, 38, 0, 1, 2, 3, 4, 5, 6, 7, 8, 9, 10, 11, 12, 13, 14, 15, 16, 17, 18, 19, 20, 21, 22, 23, 24, 25, 26, 27, 28, 29, 30, 31, 32, 33, 34, 35, 36, 37, 38], [38, 39])])
def impl_PackPlanes.B15 : List Nat := [0, 0, 3, 7, 0, 0, 0, 96, 224, 0, 992, 2016, 0, 0, 12288, 28672, 0, 126976, 258048, 520192, 1048544, 0, 0, 6291456, 14680064, 0, 65011712, 132120576, 266338304, 536870880, 0, 0, 3221225472, 7516192768, 0, 33285996544, 67645734912, 136365211648, 274877906912, 549755813887, 1099511627775]
theorem impl_PackPlanes.tab15 : rtab .any (opsOf Try.f46 15) = impl_PackPlanes.T15 := by kernel_rfl
theorem impl_PackPlanes.bits15 : waitsOk impl_PackPlanes.T15.2 impl_PackPlanes.B15 = true := by kernel_rfl
def impl_PackPlanes.chk (k : Nat) (c : List (List Int)) : List (List (List Int)) → Option Bool
  | [] => some true
  | p :: q => (impl_BitsOk.f k p).bind fun t => if t = true then (if (p.length : Int) = (c.length : Int) then impl_PackPlanes.chk k c q else some false) else some false
theorem impl_PackPlanes.chk_mono (k : Nat) (c : List (List Int)) : ∀ q : List (List (List Int)), LeO (impl_PackPlanes.chk k c q) (impl_PackPlanes.chk (k + 1) c q)
  | [] => LeO.refl _
  | p :: q => by
    simp only [impl_PackPlanes.chk]
    exact LeO.bind (impl_BitsOk.mono _ _) (fun _ => LeO.ite (LeO.ite (impl_PackPlanes.chk_mono k c q) (LeO.refl _)) (LeO.refl _))
def impl_PackPlanes.f (k : Nat) (l0 : List (List Int)) (l1 : List (List Int)) (l2 : List (List Int)) (l3 : List (List Int)) : Option ((List (List Int)) × Bool) := (impl_PackPlanes.chk k l0 [l0, l1, l2, l3]).bind fun t => if t = true then impl_PackPlanes.g k l0 l1 l2 l3 else some (([] : List (List Int)), false)
theorem impl_PackPlanes.mono : ∀ a0 a1 a2 a3 k, LeO (impl_PackPlanes.f k a0 a1 a2 a3) (impl_PackPlanes.f (k + 1) a0 a1 a2 a3) := fun a0 a1 a2 a3 k => LeO.bind (impl_PackPlanes.chk_mono k a0 _) (fun _ => LeO.ite (impl_PackPlanes.gmono _ _ _ _ _) (LeO.refl _))
theorem impl_PackPlanes.lit_event {P : Program} {ops : Array Oper} {rest : List Oper} {o : Oper} {a : Act} {Q : Exit → Act → World → Prop} {W : World} (hgd : o.guard = none) {N : Tmp} (_hd : o.dst = some N) {cs : Array Value} {t : TypeId} {n : Nat}
    (hrun : (execOp a.eval o).run P W = .ok (.value (.slice (some ⟨W.heap.size, 0, none⟩) n n)) (W.alloc (.cells cs t (0, 0))))
    (h : ∀ g, g = W.heap.size → ∀ w1, w1.heap[g]? = some (.cells cs t (0, 0)) → Below W.heap.size W w1 → wpList P ops Q rest (a.put o.dst (.slice (some ⟨g, 0, none⟩) n n)) w1) : wpList P ops Q (o :: rest) a W :=
  Kd.event_run hgd hrun (h _ rfl _ (blk_new W _) (below_alloc (Below.refl _ _) _))
set_option maxHeartbeats 8000000 in
set_option maxRecDepth 100000 in
theorem impl_PackPlanes.calls (k : Nat) (A0 : Option Addr) (c0 : Nat) (l0 : List (List Int)) (A1 : Option Addr) (c1 : Nat) (l1 : List (List Int)) (A2 : Option Addr) (c2 : Nat) (l2 : List (List Int)) (A3 : Option Addr) (c3 : Nat) (l3 : List (List Int)) (r1 : List (List Int)) (r2 : Bool) (w : World) (hr0 : Kd.C (Kd.slice 3 (Kd.int .i64)) w A0 l0.length l0) (hc0 : l0.length ≤ c0) (hr1 : Kd.C (Kd.slice 3 (Kd.int .i64)) w A1 l1.length l1) (hc1 : l1.length ≤ c1) (hr2 : Kd.C (Kd.slice 3 (Kd.int .i64)) w A2 l2.length l2) (hc2 : l2.length ≤ c2) (hr3 : Kd.C (Kd.slice 3 (Kd.int .i64)) w A3 l3.length l3) (hc3 : l3.length ≤ c3) (h : impl_PackPlanes.f k l0 l1 l2 l3 = some (r1, r2)) :
    Calls Try.prog 46 #[.slice A0 l0.length c0, .slice A1 l1.length c1, .slice A2 l2.length c2, .slice A3 l3.length c3] w fun e w' => ∃ v0_ : Value, e = .returned (.tuple #[v0_, .bool r2]) ∧ Kd.S (Kd.slice 3 (Kd.int .i64)) 26 w' w.heap.size (fun _ => True) v0_ r1 ∧ Below w.heap.size w w' := by
  have HR0 := Aside0.mk hr0
  have HC0 := Aside0.mk hc0
  clear hr0 hc0
  have HR1 := Aside0.mk hr1
  have HC1 := Aside0.mk hc1
  clear hr1 hc1
  have HR2 := Aside0.mk hr2
  have HC2 := Aside0.mk hc2
  clear hr2 hc2
  have HR3 := Aside0.mk hr3
  have HC3 := Aside0.mk hc3
  clear hr3 hc3
  have HB := Aside0.mk (Below.refl w.heap.size w)
  have H : ((impl_PackPlanes.chk k l0 [l0, l1, l2, l3]).bind fun t => if t = true then impl_PackPlanes.g k l0 l1 l2 l3 else some (([] : List (List Int)), false)) = some (r1, r2) := h
  clear h
  obtain ⟨tq, AQ0, H⟩ := Option.bind_eq_some_iff.mp H
  have AQ := Aside0.mk AQ0
  clear AQ0
  cases tq with
  | true =>
    replace H : impl_PackPlanes.g k l0 l1 l2 l3 = some (r1, r2) := by rw [if_pos rfl] at H; exact H
    have H : ((impl_copyRows.f k l0).bind fun t152 => (impl_PackPlanes.l0 k l0 l1 l2 l3 t152 (t152.length : Int) 0)) = some (r1, r2) := H
    replace H := Option.bind_eq_some_iff.mp H
    obtain ⟨t152, A50, H⟩ := H
    replace H : (impl_PackPlanes.l0 k l0 l1 l2 l3 t152 (t152.length : Int) 0) = some (r1, r2) := H
    have A5 := Aside0.mk A50
    clear A50
    have H' := Aside0.mk H
    clear H
    go_enter Try.func46, Try.ntmps46
    go_wp2_with (first | ((with_reducible refine gate_dst (N := 20) rfl ?_); refine impl_PackPlanes.lit_event ?hg (N := 20) ?hd (cs := #[.slice A0 l0.length c0, .slice A1 l1.length c1, .slice A2 l2.length c2, .slice A3 l3.length c3]) (t := 24) (n := 4) ?hr ?_; (case hd => rfl); (case hg => rfl); (case hr => first | (go_simp; done) | (go_simp; rfl)); intro gbx hg w1_ hbox hb; have HBX := Aside0.mk hb; have BKX := Aside0.mk hbox; have HR0n := Aside0.mk (Kd.C_below HR0.out hb); clear HR0; have HR0 := HR0n; clear HR0n; have HR1n := Aside0.mk (Kd.C_below HR1.out hb); clear HR1; have HR1 := HR1n; clear HR1n; have HR2n := Aside0.mk (Kd.C_below HR2.out hb); clear HR2; have HR2 := HR2n; clear HR2n; have HR3n := Aside0.mk (Kd.C_below HR3.out hb); clear HR3; have HR3 := HR3n; clear HR3n; clear HB; have HB := Aside0.mk (Below.refl w1_.heap.size w1_); clear hb hbox hg))
    go_loopg [23] 5 (fun kq v23 w' => ∃ (x23 : Int), v23 = .int .i64 x23 ∧ Aside0 (impl_PackPlanes.chk k l0 ([l0, l1, l2, l3].drop x23.toNat) = some true) ∧ Aside0 (0 ≤ x23 ∧ x23 ≤ 4 ∧ (kq : Int) + x23 = 5) ∧ Drawn0 w1_ w')
    case atStart => exact ⟨0, (by first | rfl | (simp; done) | (simp [*]; done)), AQ, ⟨by omega⟩, by repeat (first | exact Drawn0.refl _ | apply Drawn0.step)⟩
    case round =>
      obtain ⟨x23, rfl, HA, HK0, ⟨mz, rfl⟩⟩ := hrel
      clear AQ
      cases gk with
      | zero => exact absurd HK0.out (by omega)
      | succ kz =>
        by_cases cE : x23 < 4
        · obtain ⟨p, pA, pc, hx0, hC0, hc0_, hlist⟩ : ∃ (p : List (List Int)) (pA : Option Addr) (pc : Nat), w1_.cell? (⟨gbx, x23.toNat, none⟩ : Addr) = some (.slice pA p.length pc) ∧ Kd.C (Kd.slice 3 (Kd.int .i64)) w1_ pA p.length p ∧ p.length ≤ pc ∧ [l0, l1, l2, l3].drop x23.toNat = p :: [l0, l1, l2, l3].drop (x23.toNat + 1) := by
            have hz : x23 = 0 ∨ x23 = 1 ∨ x23 = 2 ∨ x23 = 3 := by have := HK0.out; omega
            rcases hz with rfl | rfl | rfl | rfl
            · exact ⟨l0, A0, c0, (blk_cell BKX.out 0).trans rfl, HR0.out, HC0.out, rfl⟩
            · exact ⟨l1, A1, c1, (blk_cell BKX.out 1).trans rfl, HR1.out, HC1.out, rfl⟩
            · exact ⟨l2, A2, c2, (blk_cell BKX.out 2).trans rfl, HR2.out, HC2.out, rfl⟩
            · exact ⟨l3, A3, c3, (blk_cell BKX.out 3).trans rfl, HR3.out, HC3.out, rfl⟩
          have hC := Aside0.mk hC0
          have hc := Aside0.mk hc0_
          clear hC0 hc0_
          have pz0 : 0 ≤ x23 := HK0.out.1
          have cEb0 : decide (x23 < 4) = true := decide_eq_true cE
          have cEb1 : decide (x23 < ((4 : Nat) : Int)) = true := decide_eq_true cE
          have hw23 : wrap64 (x23 + 1) = x23 + 1 := by unfold wrap64; omega
          have pz := eq_true pz0
          have qz : (x23 < 4) = True := eq_true cE
          have qz1 : (x23 < ((4 : Nat) : Int)) = True := eq_true cE
          have H := HA.out
          rw [hlist] at H
          simp only [impl_PackPlanes.chk] at H
          obtain ⟨tb, AT0, H⟩ := Option.bind_eq_some_iff.mp H
          have AT := Aside0.mk AT0
          clear AT0
          have HE := Aside0.mk cE
          have HN := Aside0.mk (show (x23 + 1).toNat = x23.toNat + 1 by omega)
          clear cE pz0 hlist
          cases tb with
          | false =>
            exact absurd H (by simp)
          | true =>
            rw [if_pos rfl] at H
            by_cases cl : (p.length : Int) = (l0.length : Int)
            · rw [if_pos cl] at H
              have clb : ((p.length : Int) != (l0.length : Int)) = false := bne_eq_false_iff_eq.mpr cl
              have clb2 : ((p.length : Int) == (l0.length : Int)) = true := beq_iff_eq.mpr cl
              clear cl
              have H' := Aside0.mk H
              clear H
              go_wp2_with (first | ((with_reducible refine gate_callee (f := 27) rfl ?_); refine goesL_ (some 28) rfl rfl Try.func27 (by kernel_rfl) rfl #[.slice pA p.length pc] rfl (by (try simp only [List.map_toArray, List.map_cons, List.map_nil]); first | done | rfl) ?_; (with_reducible refine (impl_BitsOk.calls k _ _ p true _ ?side1 ?side2 AT.out).mono ?_); (case side1 => repeat (first | exact hC.out | (with_reducible refine Kd.C_alloc ?_ _) | (with_reducible refine Kd.C_drewN ?_ _) | (with_reducible refine Kd.C_drew ?_))); (case side2 => exact hc.out); rintro e w' ⟨rfl, ⟨nd, rfl⟩⟩; refine ⟨_, rfl, ?_⟩))
              go_roundg kz
              case measure => omega
              case rel => exact ⟨wrap64 (x23 + 1), (by first | rfl | (simp; done) | (simp [*]; done)), ⟨by rw [hw23, HN.out]; exact H'.out⟩, ⟨by rw [hw23]; have := HK0.out; have := HE.out; omega⟩, by repeat (first | exact Drawn0.refl _ | apply Drawn0.step)⟩
            · rw [if_neg cl] at H
              exact absurd H (by simp)
        · have x4 : x23 = 4 := by have := HK0.out; omega
          subst x4
          clear HA HK0 cE
          go_wp2_with (first | ((with_reducible refine gate_callee (f := 73) rfl ?_); refine goesL_ (some 39) rfl rfl Try.func73 (by kernel_rfl) rfl #[.slice A0 l0.length c0] rfl (by (try simp only [List.map_toArray, List.map_cons, List.map_nil]); first | done | rfl | (simp only [List.length_drop, List.length_take]; rfl)) ?_; (with_reducible refine (impl_copyRows.calls k _ _ l0 t152 _ ?side1 ?side2 A5.out).mono ?_); (case side1 => repeat (first | exact HR0.out | (with_reducible refine Kd.C_alloc ?_ _) | (with_reducible refine Kd.C_drewN ?_ _) | (with_reducible refine Kd.C_drew ?_))); (case side2 => exact HC0.out); rintro e w6 ⟨v153, rfl, ho0, hb⟩; refine ⟨_, rfl, ?_⟩; have n0_ := Aside0.mk (Kd.S_lower ho0 (below_size (by repeat (first | (with_reducible first | exact HB.out | apply below_alloc | apply pw_below_drewN | apply below_drew1) | exact HB.out)))); have n1_ := Aside0.mk (below_step (by repeat (first | (with_reducible first | exact HB.out | apply below_alloc | apply pw_below_drewN | apply below_drew1) | exact HB.out)) hb); clear HB; have HO154 := n0_; have HB := n1_; clear n0_ n1_; (try clear hb); (try clear hb2); (try clear hk); (try clear hi); (try clear ho0); obtain ⟨Ao7, co7, eo7⟩ := Kd.S_slice HO154.out; subst eo7))
          go_loopg [42] k (fun kq v42 w' => ∃ (x13_1 : List (List Int)) (x42_1 : Int), v42 = .int .i64 x42_1 ∧ Aside0 (impl_PackPlanes.l0 kq l0 l1 l2 l3 x13_1 (t152.length : Int) x42_1 = some (r1, r2)) ∧ Aside0 (kq ≤ k) ∧ Aside0 (Kd.S (Kd.slice 3 (Kd.int .i64)) 26 w' w1_.heap.size (fun _ => True) (.slice Ao7 t152.length co7) x13_1) ∧ Aside0 (Below w1_.heap.size w1_ w'))
          case atStart => exact ⟨(t152), (0), (by first | rfl | (simp; done) | (simp [*]; done)), H', ⟨Nat.le_refl _⟩, ⟨by (with_reducible repeat (first | apply Kd.S_alloc | apply Kd.S_drewN | apply Kd.S_drew)); exact HO154.out⟩, ⟨by repeat (first | (with_reducible first | exact HB.out | apply below_alloc | apply pw_below_drewN | apply below_drew1) | exact HB.out)⟩⟩
          case round =>
            clear H'
            try clear c1
            try clear c2
            try clear p2
            try clear c3
            try clear c4
            try clear c7
            obtain ⟨x13_1, x42_1, rfl, HA, HK1, HO_13, HB⟩ := hrel
            have hl13_1 := (Kd.S_reads' HO_13.out).1
            rw [hl13_1] at HO_13
            (try simp only [hl13_1])
            cases gk with
            | zero => exact absurd HA.out (by simp [impl_PackPlanes.l0])
            | succ k1 =>
              have H := HA.out
              clear HA
              simp only [impl_PackPlanes.l0] at H
              by_cases c8 : x42_1 < (t152.length : Int)
              · rw [if_pos c8] at H
                have c8b0 : decide (x42_1 < (t152.length : Int)) = true := decide_eq_true c8
                clear c8
                by_cases c9 : 0 ≤ x42_1
                · rw [if_pos c9] at H
                  have c9b0 : decide (0 ≤ x42_1) = true := decide_eq_true c9
                  clear c9
                  by_cases c10 : x42_1 < (x13_1.length : Int)
                  · rw [if_pos c10] at H
                    have c10b0 : decide (x42_1 < (x13_1.length : Int)) = true := decide_eq_true c10
                    clear c10
                    have H' := Aside0.mk H
                    clear H
                    have p155 : 0 ≤ (x42_1 : Int) := of_decide_eq_true (by first | (with_reducible assumption) | assumption)
                    have q155 : x42_1 < (x13_1.length : Int) := of_decide_eq_true (by first | (with_reducible assumption) | assumption)
                    obtain ⟨ad155, A155_0, c155_0, e155, hx155_0, hl155_0, hi155_0⟩ := at_L2 (Kd.S_reads' HO_13.out).2.2 x42_1 p155 q155
                    cases e155
                    obtain ⟨ce155, hce155, hMe155, hcc155⟩ := Kd.S_get HO_13.out [] x42_1 p155 (by first | exact q155 | exact of_decide_eq_true (by first | (with_reducible assumption) | assumption) | (have e_ := (Kd.S_reads' HO_13.out).1; omega))
                    obtain ⟨ve155_0, rfl, ge155_0⟩ := hMe155
                    have hv155_0 := hcc155 0 _ rfl
                    rw [Nat.add_zero, show ((Kd.slice 3 (Kd.int .i64))).sz = 1 from rfl, Nat.mul_one] at hv155_0
                    replace hv155_0 := Option.some.inj (hv155_0.symm.trans hx155_0)
                    rw [hv155_0] at ge155_0
                    have HL155_0 := Aside0.mk (show Kd.R (Kd.int .i64) 3 _ _ _ _ (rd_L2 x13_1 x42_1) from ge155_0)
                    clear hv155_0 ge155_0
                    have HX155_0 := Aside0.mk hx155_0
                    clear hcc155 hce155
                    have HR155_0 := Aside0.mk hi155_0
                    have HC155_0 := Aside0.mk hl155_0
                    clear hi155_0 hl155_0
                    replace p155 := eq_true p155
                    replace q155 := eq_true q155
                    go_wp2
                    go_loopg [50] k1 (fun kq v50 w' => ∃ (x13_2 : List (List Int)) (x50_2 : Int), v50 = .int .i64 x50_2 ∧ Aside0 (impl_PackPlanes.l1 kq l0 l1 l2 l3 x13_2 x42_1 (t152.length : Int) x42_1 ((rd_L2 x13_1 x42_1).length : Int) x50_2 = some (r1, r2)) ∧ Aside0 (kq ≤ k1) ∧ Aside0 (Kd.S (Kd.slice 3 (Kd.int .i64)) 26 w' w1_.heap.size (fun _ => True) (.slice (some ad155) x13_1.length co7) x13_2) ∧ Aside0 (Below w1_.heap.size w1_ w'))
                    case atStart => exact ⟨(x13_1), (0), (by first | rfl | (simp; done) | (simp [*]; done)), H', ⟨Nat.le_refl _⟩, ⟨by (try simp only [hl13_1]); (with_reducible repeat (first | apply Kd.S_alloc | apply Kd.S_drewN | apply Kd.S_drew)); exact HO_13.out⟩, ⟨by repeat (first | (with_reducible first | exact HB.out | apply below_alloc | apply pw_below_drewN | apply below_drew1) | exact HB.out)⟩⟩
                    case round =>
                      clear H'
                      try clear c1
                      try clear p1
                      try clear q1
                      try clear hx1
                      try clear c2
                      try clear p2
                      try clear c3
                      try clear c4
                      try clear c7
                      try clear c8
                      try clear c8b0
                      try clear c9
                      try clear c9b0
                      try clear c10
                      try clear c10b0
                      try clear hx155_0
                      try clear p155
                      try clear p2
                      try clear q155
                      obtain ⟨x13_2, x50_2, rfl, HA, HK2, HO_13, HB⟩ := hrel
                      have hl13_2 := (Kd.S_reads' HO_13.out).1
                      rw [hl13_2] at HO_13
                      (try simp only [hl13_2])
                      cases gk with
                      | zero => exact absurd HA.out (by simp [impl_PackPlanes.l1])
                      | succ k2 =>
                        have H := HA.out
                        clear HA
                        simp only [impl_PackPlanes.l1] at H
                        by_cases c11 : x50_2 < ((rd_L2 x13_1 x42_1).length : Int)
                        · rw [if_pos c11] at H
                          have c11b0 : decide (x50_2 < ((rd_L2 x13_1 x42_1).length : Int)) = true := decide_eq_true c11
                          clear c11
                          by_cases c12 : 0 ≤ x42_1
                          · rw [if_pos c12] at H
                            have c12b0 : decide (0 ≤ x42_1) = true := decide_eq_true c12
                            clear c12
                            by_cases c13 : x42_1 < (x13_2.length : Int)
                            · rw [if_pos c13] at H
                              have c13b0 : decide (x42_1 < (x13_2.length : Int)) = true := decide_eq_true c13
                              clear c13
                              by_cases c14 : x42_1 < (l0.length : Int)
                              · rw [if_pos c14] at H
                                have c14b0 : decide (x42_1 < (l0.length : Int)) = true := decide_eq_true c14
                                clear c14
                                by_cases c15 : 0 ≤ x50_2
                                · rw [if_pos c15] at H
                                  have c15b0 : decide (0 ≤ x50_2) = true := decide_eq_true c15
                                  clear c15
                                  by_cases c16 : x50_2 < ((rd_L2 l0 x42_1).length : Int)
                                  · rw [if_pos c16] at H
                                    have c16b0 : decide (x50_2 < ((rd_L2 l0 x42_1).length : Int)) = true := decide_eq_true c16
                                    clear c16
                                    by_cases c17 : x42_1 < (l1.length : Int)
                                    · rw [if_pos c17] at H
                                      have c17b0 : decide (x42_1 < (l1.length : Int)) = true := decide_eq_true c17
                                      clear c17
                                      by_cases c18 : x50_2 < ((rd_L2 l1 x42_1).length : Int)
                                      · rw [if_pos c18] at H
                                        have c18b0 : decide (x50_2 < ((rd_L2 l1 x42_1).length : Int)) = true := decide_eq_true c18
                                        clear c18
                                        by_cases c19 : x42_1 < (l2.length : Int)
                                        · rw [if_pos c19] at H
                                          have c19b0 : decide (x42_1 < (l2.length : Int)) = true := decide_eq_true c19
                                          clear c19
                                          by_cases c20 : x50_2 < ((rd_L2 l2 x42_1).length : Int)
                                          · rw [if_pos c20] at H
                                            have c20b0 : decide (x50_2 < ((rd_L2 l2 x42_1).length : Int)) = true := decide_eq_true c20
                                            clear c20
                                            by_cases c21 : x42_1 < (l3.length : Int)
                                            · rw [if_pos c21] at H
                                              have c21b0 : decide (x42_1 < (l3.length : Int)) = true := decide_eq_true c21
                                              clear c21
                                              by_cases c22 : x50_2 < ((rd_L2 l3 x42_1).length : Int)
                                              · rw [if_pos c22] at H
                                                have c22b0 : decide (x50_2 < ((rd_L2 l3 x42_1).length : Int)) = true := decide_eq_true c22
                                                clear c22
                                                by_cases c23 : x50_2 < ((rd_L2 x13_2 x42_1).length : Int)
                                                · rw [if_pos c23] at H
                                                  have c23b0 : decide (x50_2 < ((rd_L2 x13_2 x42_1).length : Int)) = true := decide_eq_true c23
                                                  clear c23
                                                  obtain ⟨y165, hy165⟩ : ∃ y_ : List Int, y_ = ((rd_L2 x13_2 x42_1).set (x50_2 : Int).toNat (wrap64 ((wrap64 ((wrap64 ((rd (rd_L2 l0 x42_1) x50_2) + (wrap64 (2 * (rd (rd_L2 l1 x42_1) x50_2))))) + (wrap64 (4 * (rd (rd_L2 l2 x42_1) x50_2))))) + (wrap64 (8 * (rd (rd_L2 l3 x42_1) x50_2)))))) := ⟨_, rfl⟩
                                                  replace H : (impl_PackPlanes.l1 k2 l0 l1 l2 l3 (x13_2.set (x42_1 : Int).toNat y165) x42_1 (t152.length : Int) x42_1 ((rd_L2 x13_1 x42_1).length : Int) (wrap64 (x50_2 + 1))) = some (r1, r2) := by first | (rw [hy165]; with_reducible exact H) | (have H2_ := (Option.bind_some _ _).symm.trans H; rw [hy165]; with_reducible exact H2_) | (have H2_ := (Option.bind_some _ _).symm.trans H; with_reducible exact H2_) | with_reducible exact H | (rw [hy165]; exact H) | exact H
                                                  have Ny165 := Aside0.mk hy165
                                                  clear hy165
                                                  obtain ⟨y167, hy167⟩ : ∃ y_ : List (List Int), y_ = (x13_2.set (x42_1 : Int).toNat y165) := ⟨_, rfl⟩
                                                  replace H : (impl_PackPlanes.l1 k2 l0 l1 l2 l3 y167 x42_1 (t152.length : Int) x42_1 ((rd_L2 x13_1 x42_1).length : Int) (wrap64 (x50_2 + 1))) = some (r1, r2) := by first | (rw [hy167]; with_reducible exact H) | (have H2_ := (Option.bind_some _ _).symm.trans H; rw [hy167]; with_reducible exact H2_) | (have H2_ := (Option.bind_some _ _).symm.trans H; with_reducible exact H2_) | with_reducible exact H | (rw [hy167]; exact H) | exact H
                                                  have Ny167 := Aside0.mk hy167
                                                  clear hy167
                                                  have H' := Aside0.mk H
                                                  clear H
                                                  try go_wp2
                                                  have n0_ := Aside0.mk (Kd.S_drew HO_13.out)
                                                  have n1_ := Aside0.mk (below_drew1 HB.out)
                                                  clear HO_13
                                                  clear HB
                                                  have HO_13 := n0_
                                                  have HB := n1_
                                                  clear n0_ n1_
                                                  have p156 : 0 ≤ (x42_1 : Int) := of_decide_eq_true (by first | (with_reducible assumption) | assumption)
                                                  have q156 : x42_1 < (x13_2.length : Int) := of_decide_eq_true (by first | (with_reducible assumption) | assumption)
                                                  obtain ⟨ad156, A156_0, c156_0, e156, hx156_0, hl156_0, hi156_0⟩ := at_L2 (Kd.S_reads' HO_13.out).2.2 x42_1 p156 q156
                                                  obtain rfl : ad155 = ad156 := (by injection e156)
                                                  obtain ⟨ce156, hce156, hMe156, hcc156⟩ := Kd.S_get HO_13.out [] x42_1 p156 (by first | exact q156 | exact of_decide_eq_true (by first | (with_reducible assumption) | assumption) | (have e_ := (Kd.S_reads' HO_13.out).1; omega))
                                                  obtain ⟨ve156_0, rfl, ge156_0⟩ := hMe156
                                                  have hv156_0 := hcc156 0 _ rfl
                                                  rw [Nat.add_zero, show ((Kd.slice 3 (Kd.int .i64))).sz = 1 from rfl, Nat.mul_one] at hv156_0
                                                  replace hv156_0 := Option.some.inj (hv156_0.symm.trans hx156_0)
                                                  rw [hv156_0] at ge156_0
                                                  have HL156_0 := Aside0.mk (show Kd.R (Kd.int .i64) 3 _ _ _ _ (rd_L2 x13_2 x42_1) from ge156_0)
                                                  clear hv156_0 ge156_0
                                                  have HX156_0 := Aside0.mk hx156_0
                                                  clear hcc156 hce156
                                                  have HR156_0 := Aside0.mk hi156_0
                                                  have HC156_0 := Aside0.mk hl156_0
                                                  clear hi156_0 hl156_0
                                                  replace p156 := eq_true p156
                                                  replace q156 := eq_true q156
                                                  have p157 : 0 ≤ (x42_1 : Int) := of_decide_eq_true (by first | (with_reducible assumption) | assumption)
                                                  have q157 : x42_1 < (l0.length : Int) := of_decide_eq_true (by first | (with_reducible assumption) | assumption)
                                                  obtain ⟨ad157, A157_0, c157_0, e157, hx157_0, hl157_0, hi157_0⟩ := at_L2 HR0.out x42_1 p157 q157
                                                  have hw157_0 := hx157_0
                                                  cases e157
                                                  replace hx157_0 := (HB.out.cell (World.block_lt_of_cell? w1_ _ hx157_0)).trans hx157_0
                                                  have HR157_0 := Aside0.mk hi157_0
                                                  have HC157_0 := Aside0.mk hl157_0
                                                  clear hi157_0 hl157_0
                                                  replace p157 := eq_true p157
                                                  replace q157 := eq_true q157
                                                  have p158 : 0 ≤ (x50_2 : Int) := of_decide_eq_true (by first | (with_reducible assumption) | assumption)
                                                  have q158 : x50_2 < ((rd_L2 l0 x42_1).length : Int) := of_decide_eq_true (by first | (with_reducible assumption) | assumption)
                                                  obtain ⟨ad158, e158, hx158_0⟩ := Kd.at_int HR157_0.out x50_2 p158 q158
                                                  have hw158_0 := hx158_0
                                                  cases e158
                                                  replace hx158_0 := (HB.out.cell (World.block_lt_of_cell? w1_ _ hx158_0)).trans hx158_0
                                                  replace p158 := eq_true p158
                                                  replace q158 := eq_true q158
                                                  have p159 : 0 ≤ (x42_1 : Int) := of_decide_eq_true (by first | (with_reducible assumption) | assumption)
                                                  have q159 : x42_1 < (l1.length : Int) := of_decide_eq_true (by first | (with_reducible assumption) | assumption)
                                                  obtain ⟨ad159, A159_0, c159_0, e159, hx159_0, hl159_0, hi159_0⟩ := at_L2 HR1.out x42_1 p159 q159
                                                  have hw159_0 := hx159_0
                                                  cases e159
                                                  replace hx159_0 := (HB.out.cell (World.block_lt_of_cell? w1_ _ hx159_0)).trans hx159_0
                                                  have HR159_0 := Aside0.mk hi159_0
                                                  have HC159_0 := Aside0.mk hl159_0
                                                  clear hi159_0 hl159_0
                                                  replace p159 := eq_true p159
                                                  replace q159 := eq_true q159
                                                  have p160 : 0 ≤ (x50_2 : Int) := of_decide_eq_true (by first | (with_reducible assumption) | assumption)
                                                  have q160 : x50_2 < ((rd_L2 l1 x42_1).length : Int) := of_decide_eq_true (by first | (with_reducible assumption) | assumption)
                                                  obtain ⟨ad160, e160, hx160_0⟩ := Kd.at_int HR159_0.out x50_2 p160 q160
                                                  have hw160_0 := hx160_0
                                                  cases e160
                                                  replace hx160_0 := (HB.out.cell (World.block_lt_of_cell? w1_ _ hx160_0)).trans hx160_0
                                                  replace p160 := eq_true p160
                                                  replace q160 := eq_true q160
                                                  have p161 : 0 ≤ (x42_1 : Int) := of_decide_eq_true (by first | (with_reducible assumption) | assumption)
                                                  have q161 : x42_1 < (l2.length : Int) := of_decide_eq_true (by first | (with_reducible assumption) | assumption)
                                                  obtain ⟨ad161, A161_0, c161_0, e161, hx161_0, hl161_0, hi161_0⟩ := at_L2 HR2.out x42_1 p161 q161
                                                  have hw161_0 := hx161_0
                                                  cases e161
                                                  replace hx161_0 := (HB.out.cell (World.block_lt_of_cell? w1_ _ hx161_0)).trans hx161_0
                                                  have HR161_0 := Aside0.mk hi161_0
                                                  have HC161_0 := Aside0.mk hl161_0
                                                  clear hi161_0 hl161_0
                                                  replace p161 := eq_true p161
                                                  replace q161 := eq_true q161
                                                  have p162 : 0 ≤ (x50_2 : Int) := of_decide_eq_true (by first | (with_reducible assumption) | assumption)
                                                  have q162 : x50_2 < ((rd_L2 l2 x42_1).length : Int) := of_decide_eq_true (by first | (with_reducible assumption) | assumption)
                                                  obtain ⟨ad162, e162, hx162_0⟩ := Kd.at_int HR161_0.out x50_2 p162 q162
                                                  have hw162_0 := hx162_0
                                                  cases e162
                                                  replace hx162_0 := (HB.out.cell (World.block_lt_of_cell? w1_ _ hx162_0)).trans hx162_0
                                                  replace p162 := eq_true p162
                                                  replace q162 := eq_true q162
                                                  have p163 : 0 ≤ (x42_1 : Int) := of_decide_eq_true (by first | (with_reducible assumption) | assumption)
                                                  have q163 : x42_1 < (l3.length : Int) := of_decide_eq_true (by first | (with_reducible assumption) | assumption)
                                                  obtain ⟨ad163, A163_0, c163_0, e163, hx163_0, hl163_0, hi163_0⟩ := at_L2 HR3.out x42_1 p163 q163
                                                  have hw163_0 := hx163_0
                                                  cases e163
                                                  replace hx163_0 := (HB.out.cell (World.block_lt_of_cell? w1_ _ hx163_0)).trans hx163_0
                                                  have HR163_0 := Aside0.mk hi163_0
                                                  have HC163_0 := Aside0.mk hl163_0
                                                  clear hi163_0 hl163_0
                                                  replace p163 := eq_true p163
                                                  replace q163 := eq_true q163
                                                  have p164 : 0 ≤ (x50_2 : Int) := of_decide_eq_true (by first | (with_reducible assumption) | assumption)
                                                  have q164 : x50_2 < ((rd_L2 l3 x42_1).length : Int) := of_decide_eq_true (by first | (with_reducible assumption) | assumption)
                                                  obtain ⟨ad164, e164, hx164_0⟩ := Kd.at_int HR163_0.out x50_2 p164 q164
                                                  have hw164_0 := hx164_0
                                                  cases e164
                                                  replace hx164_0 := (HB.out.cell (World.block_lt_of_cell? w1_ _ hx164_0)).trans hx164_0
                                                  replace p164 := eq_true p164
                                                  replace q164 := eq_true q164
                                                  have p24 : 0 ≤ (x50_2 : Int) := of_decide_eq_true (by first | (with_reducible assumption) | assumption)
                                                  have q24 : (x50_2 : Int) < (((rd_L2 x13_2 x42_1).length : Int) : Int) := of_decide_eq_true (by first | (with_reducible assumption) | assumption)
                                                  obtain ⟨go24, co24, eo24, gb24, gl24, cl24, HG24⟩ := Kd.R_form HL156_0.out (by omega)
                                                  (first | cases eo24 | (injection eo24 with ea_ en_ ec_; (first | subst ea_ | (injection ea_ with ea_; subst ea_)); subst ec_; clear en_))
                                                  have GB24 := Aside0.mk gb24
                                                  have GG24 := Aside0.mk HG24
                                                  clear gb24 gl24 HG24
                                                  obtain ⟨hx24_0, hf24_0⟩ := Kd.R_celln 0 HL156_0.out (x50_2 : Int) p24 q24
                                                  replace p24 := eq_true p24
                                                  replace q24 := eq_true q24
                                                  have hq26 : (x42_1 : Int) < (x13_2.length : Int) := (by have h_ : (x42_1 : Int) < ((x13_2.length : Int) : Int) := of_decide_eq_true (by first | (with_reducible assumption) | assumption); first | exact h_ | (have e_ := (Kd.S_reads' HO_13.out).1; omega) | simpa only [List.length_set, List.length_set] using h_)
                                                  obtain ⟨oki26, ce26, hcl26, hM26, hcc26, hok26, hbk26⟩ := Kd.S_borrow HO_13.out [] (x42_1 : Int) (of_decide_eq_true (by first | (with_reducible assumption) | assumption)) hq26
                                                  obtain ⟨ve26_0, rfl, ge26_0⟩ := hM26
                                                  have hv26 := hcc26 0 _ rfl
                                                  rw [Nat.add_zero, show ((Kd.slice 3 (Kd.int .i64))).sz = 1 from rfl, Nat.mul_one] at hv26
                                                  replace hv26 := Option.some.inj (hv26.symm.trans HX156_0.out)
                                                  subst hv26
                                                  clear hcc26 hcl26
                                                  replace ge26_0 := (show Kd.R (Kd.int .i64) 3 _ _ _ _ (rd_L2 x13_2 x42_1) from ge26_0)
                                                  have HP26 := Kd.R_putg ge26_0 (x50_2 : Int) (wrap64 ((wrap64 ((wrap64 ((rd (rd_L2 l0 x42_1) x50_2) + (wrap64 (2 * (rd (rd_L2 l1 x42_1) x50_2))))) + (wrap64 (4 * (rd (rd_L2 l2 x42_1) x50_2))))) + (wrap64 (8 * (rd (rd_L2 l3 x42_1) x50_2)))))
                                                  rw [← Ny165.out] at HP26
                                                  have HS26 := hbk26 HP26.2 (fun k_ e_ => by injection e_ with e_; subst e_; exact ge26_0.1 _ rfl) (x' := y165) (Kd.M_row HP26.1)
                                                  rw [← Ny167.out] at HS26
                                                  have HQ26 := Aside0.mk HS26
                                                  clear HP26 HS26 hbk26 hok26
                                                  refine start_ (n := 41) (S := fun w' => w'.cell? (ad155.add (x42_1).toNat) = some (.slice (some ⟨go24, 0, none⟩) (rd_L2 x13_2 x42_1).length c156_0) ∧ w'.cell? (ad157.add (x42_1).toNat) = some (.slice (some ad158) (rd_L2 l0 x42_1).length c157_0) ∧ w'.cell? (ad158.add (x50_2).toNat) = some (.int .i64 (rd (rd_L2 l0 x42_1) x50_2)) ∧ w'.cell? (ad159.add (x42_1).toNat) = some (.slice (some ad160) (rd_L2 l1 x42_1).length c159_0) ∧ w'.cell? (ad160.add (x50_2).toNat) = some (.int .i64 (rd (rd_L2 l1 x42_1) x50_2)) ∧ w'.cell? (ad161.add (x42_1).toNat) = some (.slice (some ad162) (rd_L2 l2 x42_1).length c161_0) ∧ w'.cell? (ad162.add (x50_2).toNat) = some (.int .i64 (rd (rd_L2 l2 x42_1) x50_2)) ∧ w'.cell? (ad163.add (x42_1).toNat) = some (.slice (some ad164) (rd_L2 l3 x42_1).length c163_0) ∧ w'.cell? (ad164.add (x50_2).toNat) = some (.int .i64 (rd (rd_L2 l3 x42_1) x50_2))) (ds := [40]) #[false, false, false, false, false, false, false, false, false, false, false, false, false, false, false, false, false, false, false, false, false, false, false, false, false, false, false, false, false, false, false, false, false, false, false, false, false, false, false, false, false] (by kernel_rfl) rfl rfl ⟨hx156_0, ((HB.out.cell (World.block_lt_of_cell? w1_ _ hw157_0)).trans hw157_0), ((HB.out.cell (World.block_lt_of_cell? w1_ _ hw158_0)).trans hw158_0), ((HB.out.cell (World.block_lt_of_cell? w1_ _ hw159_0)).trans hw159_0), ((HB.out.cell (World.block_lt_of_cell? w1_ _ hw160_0)).trans hw160_0), ((HB.out.cell (World.block_lt_of_cell? w1_ _ hw161_0)).trans hw161_0), ((HB.out.cell (World.block_lt_of_cell? w1_ _ hw162_0)).trans hw162_0), ((HB.out.cell (World.block_lt_of_cell? w1_ _ hw163_0)).trans hw163_0), ((HB.out.cell (World.block_lt_of_cell? w1_ _ hw164_0)).trans hw164_0)⟩ (fun hHeld => ?_); refine with_tabW impl_PackPlanes.tab15 impl_PackPlanes.bits15 (fun HT_ HW_ => ?_)
                                                  generalize wr.drew = w25 at HO_13 HB GG24 HL156_0 HQ26 HR156_0 HR157_0 HR159_0 HR161_0 HR163_0 HX156_0 hf24_0 hx156_0 hx157_0 hx158_0 hx159_0 hx160_0 hx161_0 hx162_0 hx163_0 hx164_0 hx24_0 hHeld ⊢
                                                  refine pure_ (i := 0) (N := some 53) (v := ?_) (a' := ?_) #[true, false, false, false, false, false, false, false, false, false, false, false, false, false, false, false, false, false, false, false, false, false, false, false, false, false, false, false, false, false, false, false, false, false, false, false, false, false, false, false, false] rfl rfl (any_of HT_.out (by kernel_rfl)) (fun _ _ _ h => h) (Or.inl ⟨by rfl, ?_⟩) ?_ ?_
                                                  rotate_left
                                                  · intro w'
                                                    go_simp
                                                    with_reducible rfl
                                                  rotate_left
                                                  · simp only [Act.put, List.setIfInBounds_toArray, List.set_cons_zero, List.set_cons_succ, i64_w, i32_w]
                                                    rfl
                                                  refine pure_ (i := 1) (N := some 54) (v := ?_) (a' := ?_) #[true, true, false, false, false, false, false, false, false, false, false, false, false, false, false, false, false, false, false, false, false, false, false, false, false, false, false, false, false, false, false, false, false, false, false, false, false, false, false, false, false] rfl rfl (any_of HT_.out (by kernel_rfl)) (fun _ _ _ h => h) (Or.inl ⟨by rfl, ?_⟩) ?_ ?_
                                                  rotate_left
                                                  · intro w'
                                                    go_simp
                                                    with_reducible rfl
                                                  rotate_left
                                                  · simp only [Act.put, List.setIfInBounds_toArray, List.set_cons_zero, List.set_cons_succ, i64_w, i32_w]
                                                    rfl
                                                  refine pure_ (i := 2) (N := some 55) (v := ?_) (a' := ?_) #[true, true, true, false, false, false, false, false, false, false, false, false, false, false, false, false, false, false, false, false, false, false, false, false, false, false, false, false, false, false, false, false, false, false, false, false, false, false, false, false, false] rfl rfl (any_of HT_.out (by kernel_rfl)) (fun _ _ _ h => h) (Or.inl ⟨by rfl, ?_⟩) ?_ ?_
                                                  rotate_left
                                                  · intro w'
                                                    go_simp
                                                    with_reducible rfl
                                                  rotate_left
                                                  · simp only [Act.put, List.setIfInBounds_toArray, List.set_cons_zero, List.set_cons_succ, i64_w, i32_w]
                                                    rfl
                                                  refine pure_ (i := 4) (N := some 57) (v := ?_) (a' := ?_) #[true, true, true, false, true, false, false, false, false, false, false, false, false, false, false, false, false, false, false, false, false, false, false, false, false, false, false, false, false, false, false, false, false, false, false, false, false, false, false, false, false] rfl rfl (any_of HT_.out (by kernel_rfl)) (fun _ _ _ h => h) (Or.inl ⟨by rfl, ?_⟩) ?_ ?_
                                                  rotate_left
                                                  · intro w'
                                                    go_simp
                                                    with_reducible rfl
                                                  rotate_left
                                                  · simp only [Act.put, List.setIfInBounds_toArray, List.set_cons_zero, List.set_cons_succ, i64_w, i32_w]
                                                    rfl
                                                  refine pure_ (i := 5) (N := some 58) (v := ?_) (a' := ?_) #[true, true, true, false, true, true, false, false, false, false, false, false, false, false, false, false, false, false, false, false, false, false, false, false, false, false, false, false, false, false, false, false, false, false, false, false, false, false, false, false, false] rfl rfl (any_of HT_.out (by kernel_rfl)) (fun _ _ _ h => h) (Or.inl ⟨by rfl, ?_⟩) ?_ ?_
                                                  rotate_left
                                                  · intro w'
                                                    go_simp
                                                    with_reducible rfl
                                                  rotate_left
                                                  · simp only [Act.put, List.setIfInBounds_toArray, List.set_cons_zero, List.set_cons_succ, i64_w, i32_w]
                                                    rfl
                                                  refine pure_ (i := 6) (N := some 59) (v := ?_) (a' := ?_) #[true, true, true, false, true, true, true, false, false, false, false, false, false, false, false, false, false, false, false, false, false, false, false, false, false, false, false, false, false, false, false, false, false, false, false, false, false, false, false, false, false] rfl rfl (any_of HT_.out (by kernel_rfl)) (fun _ _ _ h => h) (Or.inl ⟨by rfl, ?_⟩) ?_ ?_
                                                  rotate_left
                                                  · intro w'
                                                    go_simp
                                                    with_reducible rfl
                                                  rotate_left
                                                  · simp only [Act.put, List.setIfInBounds_toArray, List.set_cons_zero, List.set_cons_succ, i64_w, i32_w]
                                                    rfl
                                                  refine pure_ (i := 7) (N := some 60) (v := ?_) (a' := ?_) #[true, true, true, false, true, true, true, true, false, false, false, false, false, false, false, false, false, false, false, false, false, false, false, false, false, false, false, false, false, false, false, false, false, false, false, false, false, false, false, false, false] rfl rfl (any_of HT_.out (by kernel_rfl)) (fun _ _ _ h => h) (Or.inl ⟨by rfl, ?_⟩) ?_ ?_
                                                  rotate_left
                                                  · intro w'
                                                    go_simp
                                                    with_reducible rfl
                                                  rotate_left
                                                  · simp only [Act.put, List.setIfInBounds_toArray, List.set_cons_zero, List.set_cons_succ, i64_w, i32_w]
                                                    rfl
                                                  refine pure_ (i := 9) (N := some 62) (v := ?_) (a' := ?_) #[true, true, true, false, true, true, true, true, false, true, false, false, false, false, false, false, false, false, false, false, false, false, false, false, false, false, false, false, false, false, false, false, false, false, false, false, false, false, false, false, false] rfl rfl (any_of HT_.out (by kernel_rfl)) (fun _ _ _ h => h) (Or.inl ⟨by rfl, ?_⟩) ?_ ?_
                                                  rotate_left
                                                  · intro w'
                                                    go_simp
                                                    with_reducible rfl
                                                  rotate_left
                                                  · simp only [Act.put, List.setIfInBounds_toArray, List.set_cons_zero, List.set_cons_succ, i64_w, i32_w]
                                                    rfl
                                                  refine pure_ (i := 12) (N := some 65) (v := ?_) (a' := ?_) #[true, true, true, false, true, true, true, true, false, true, false, false, true, false, false, false, false, false, false, false, false, false, false, false, false, false, false, false, false, false, false, false, false, false, false, false, false, false, false, false, false] rfl rfl (any_of HT_.out (by kernel_rfl)) (fun _ _ _ h => h) (Or.inl ⟨by rfl, ?_⟩) ?_ ?_
                                                  rotate_left
                                                  · intro w'
                                                    go_simp
                                                    with_reducible rfl
                                                  rotate_left
                                                  · simp only [Act.put, List.setIfInBounds_toArray, List.set_cons_zero, List.set_cons_succ, i64_w, i32_w]
                                                    rfl
                                                  refine pure_ (i := 13) (N := some 66) (v := ?_) (a' := ?_) #[true, true, true, false, true, true, true, true, false, true, false, false, true, true, false, false, false, false, false, false, false, false, false, false, false, false, false, false, false, false, false, false, false, false, false, false, false, false, false, false, false] rfl rfl (any_of HT_.out (by kernel_rfl)) (fun _ _ _ h => h) (Or.inl ⟨by rfl, ?_⟩) ?_ ?_
                                                  rotate_left
                                                  · intro w'
                                                    go_simp
                                                    with_reducible rfl
                                                  rotate_left
                                                  · simp only [Act.put, List.setIfInBounds_toArray, List.set_cons_zero, List.set_cons_succ, i64_w, i32_w]
                                                    rfl
                                                  refine pure_ (i := 14) (N := some 67) (v := ?_) (a' := ?_) #[true, true, true, false, true, true, true, true, false, true, false, false, true, true, true, false, false, false, false, false, false, false, false, false, false, false, false, false, false, false, false, false, false, false, false, false, false, false, false, false, false] rfl rfl (any_of HT_.out (by kernel_rfl)) (fun _ _ _ h => h) (Or.inl ⟨by rfl, ?_⟩) ?_ ?_
                                                  rotate_left
                                                  · intro w'
                                                    go_simp
                                                    with_reducible rfl
                                                  rotate_left
                                                  · simp only [Act.put, List.setIfInBounds_toArray, List.set_cons_zero, List.set_cons_succ, i64_w, i32_w]
                                                    rfl
                                                  refine pure_ (i := 16) (N := some 69) (v := ?_) (a' := ?_) #[true, true, true, false, true, true, true, true, false, true, false, false, true, true, true, false, true, false, false, false, false, false, false, false, false, false, false, false, false, false, false, false, false, false, false, false, false, false, false, false, false] rfl rfl (any_of HT_.out (by kernel_rfl)) (fun _ _ _ h => h) (Or.inl ⟨by rfl, ?_⟩) ?_ ?_
                                                  rotate_left
                                                  · intro w'
                                                    go_simp
                                                    with_reducible rfl
                                                  rotate_left
                                                  · simp only [Act.put, List.setIfInBounds_toArray, List.set_cons_zero, List.set_cons_succ, i64_w, i32_w]
                                                    rfl
                                                  refine pure_ (i := 21) (N := some 74) (v := ?_) (a' := ?_) #[true, true, true, false, true, true, true, true, false, true, false, false, true, true, true, false, true, false, false, false, false, true, false, false, false, false, false, false, false, false, false, false, false, false, false, false, false, false, false, false, false] rfl rfl (any_of HT_.out (by kernel_rfl)) (fun _ _ _ h => h) (Or.inl ⟨by rfl, ?_⟩) ?_ ?_
                                                  rotate_left
                                                  · intro w'
                                                    go_simp
                                                    with_reducible rfl
                                                  rotate_left
                                                  · simp only [Act.put, List.setIfInBounds_toArray, List.set_cons_zero, List.set_cons_succ, i64_w, i32_w]
                                                    rfl
                                                  refine pure_ (i := 22) (N := some 75) (v := ?_) (a' := ?_) #[true, true, true, false, true, true, true, true, false, true, false, false, true, true, true, false, true, false, false, false, false, true, true, false, false, false, false, false, false, false, false, false, false, false, false, false, false, false, false, false, false] rfl rfl (any_of HT_.out (by kernel_rfl)) (fun _ _ _ h => h) (Or.inl ⟨by rfl, ?_⟩) ?_ ?_
                                                  rotate_left
                                                  · intro w'
                                                    go_simp
                                                    with_reducible rfl
                                                  rotate_left
                                                  · simp only [Act.put, List.setIfInBounds_toArray, List.set_cons_zero, List.set_cons_succ, i64_w, i32_w]
                                                    rfl
                                                  refine pure_ (i := 23) (N := some 76) (v := ?_) (a' := ?_) #[true, true, true, false, true, true, true, true, false, true, false, false, true, true, true, false, true, false, false, false, false, true, true, true, false, false, false, false, false, false, false, false, false, false, false, false, false, false, false, false, false] rfl rfl (any_of HT_.out (by kernel_rfl)) (fun _ _ _ h => h) (Or.inl ⟨by rfl, ?_⟩) ?_ ?_
                                                  rotate_left
                                                  · intro w'
                                                    go_simp
                                                    with_reducible rfl
                                                  rotate_left
                                                  · simp only [Act.put, List.setIfInBounds_toArray, List.set_cons_zero, List.set_cons_succ, i64_w, i32_w]
                                                    rfl
                                                  refine pure_ (i := 25) (N := some 78) (v := ?_) (a' := ?_) #[true, true, true, false, true, true, true, true, false, true, false, false, true, true, true, false, true, false, false, false, false, true, true, true, false, true, false, false, false, false, false, false, false, false, false, false, false, false, false, false, false] rfl rfl (any_of HT_.out (by kernel_rfl)) (fun _ _ _ h => h) (Or.inl ⟨by rfl, ?_⟩) ?_ ?_
                                                  rotate_left
                                                  · intro w'
                                                    go_simp
                                                    with_reducible rfl
                                                  rotate_left
                                                  · simp only [Act.put, List.setIfInBounds_toArray, List.set_cons_zero, List.set_cons_succ, i64_w, i32_w]
                                                    rfl
                                                  refine pure_ (i := 30) (N := some 83) (v := ?_) (a' := ?_) #[true, true, true, false, true, true, true, true, false, true, false, false, true, true, true, false, true, false, false, false, false, true, true, true, false, true, false, false, false, false, true, false, false, false, false, false, false, false, false, false, false] rfl rfl (any_of HT_.out (by kernel_rfl)) (fun _ _ _ h => h) (Or.inl ⟨by rfl, ?_⟩) ?_ ?_
                                                  rotate_left
                                                  · intro w'
                                                    go_simp
                                                    with_reducible rfl
                                                  rotate_left
                                                  · simp only [Act.put, List.setIfInBounds_toArray, List.set_cons_zero, List.set_cons_succ, i64_w, i32_w]
                                                    rfl
                                                  refine pure_ (i := 31) (N := some 84) (v := ?_) (a' := ?_) #[true, true, true, false, true, true, true, true, false, true, false, false, true, true, true, false, true, false, false, false, false, true, true, true, false, true, false, false, false, false, true, true, false, false, false, false, false, false, false, false, false] rfl rfl (any_of HT_.out (by kernel_rfl)) (fun _ _ _ h => h) (Or.inl ⟨by rfl, ?_⟩) ?_ ?_
                                                  rotate_left
                                                  · intro w'
                                                    go_simp
                                                    with_reducible rfl
                                                  rotate_left
                                                  · simp only [Act.put, List.setIfInBounds_toArray, List.set_cons_zero, List.set_cons_succ, i64_w, i32_w]
                                                    rfl
                                                  refine pure_ (i := 32) (N := some 85) (v := ?_) (a' := ?_) #[true, true, true, false, true, true, true, true, false, true, false, false, true, true, true, false, true, false, false, false, false, true, true, true, false, true, false, false, false, false, true, true, true, false, false, false, false, false, false, false, false] rfl rfl (any_of HT_.out (by kernel_rfl)) (fun _ _ _ h => h) (Or.inl ⟨by rfl, ?_⟩) ?_ ?_
                                                  rotate_left
                                                  · intro w'
                                                    go_simp
                                                    with_reducible rfl
                                                  rotate_left
                                                  · simp only [Act.put, List.setIfInBounds_toArray, List.set_cons_zero, List.set_cons_succ, i64_w, i32_w]
                                                    rfl
                                                  refine pure_ (i := 34) (N := some 87) (v := ?_) (a' := ?_) #[true, true, true, false, true, true, true, true, false, true, false, false, true, true, true, false, true, false, false, false, false, true, true, true, false, true, false, false, false, false, true, true, true, false, true, false, false, false, false, false, false] rfl rfl (any_of HT_.out (by kernel_rfl)) (fun _ _ _ h => h) (Or.inl ⟨by rfl, ?_⟩) ?_ ?_
                                                  rotate_left
                                                  · intro w'
                                                    go_simp
                                                    with_reducible rfl
                                                  rotate_left
                                                  · simp only [Act.put, List.setIfInBounds_toArray, List.set_cons_zero, List.set_cons_succ, i64_w, i32_w]
                                                    rfl
                                                  refine take_ (i := 3) (N := some 56) (v := ?_) (a' := ?_) #[true, true, true, true, true, true, true, true, false, true, false, false, true, true, true, false, true, false, false, false, false, true, true, true, false, true, false, false, false, false, true, true, true, false, true, false, false, false, false, false, false] rfl rfl (take_ofW HT_.out HW_.out (by kernel_rfl)) (fun _ _ _ h => h) (Or.inl ⟨by rfl, ?_⟩) hHeld ?_ ?_
                                                  rotate_left
                                                  · rintro w' ⟨s0, s1, s2, s3, s4, s5, s6, s7, s8⟩
                                                    go_simp
                                                    with_reducible rfl
                                                  rotate_left
                                                  · simp only [Act.put, List.setIfInBounds_toArray, List.set_cons_zero, List.set_cons_succ, i64_w, i32_w]
                                                    rfl
                                                  refine take_ (i := 8) (N := some 61) (v := ?_) (a' := ?_) #[true, true, true, true, true, true, true, true, true, true, false, false, true, true, true, false, true, false, false, false, false, true, true, true, false, true, false, false, false, false, true, true, true, false, true, false, false, false, false, false, false] rfl rfl (take_ofW HT_.out HW_.out (by kernel_rfl)) (fun _ _ _ h => h) (Or.inl ⟨by rfl, ?_⟩) hHeld ?_ ?_
                                                  rotate_left
                                                  · rintro w' ⟨s0, s1, s2, s3, s4, s5, s6, s7, s8⟩
                                                    go_simp
                                                    with_reducible rfl
                                                  rotate_left
                                                  · simp only [Act.put, List.setIfInBounds_toArray, List.set_cons_zero, List.set_cons_succ, i64_w, i32_w]
                                                    rfl
                                                  refine pure_ (i := 10) (N := some 63) (v := ?_) (a' := ?_) #[true, true, true, true, true, true, true, true, true, true, true, false, true, true, true, false, true, false, false, false, false, true, true, true, false, true, false, false, false, false, true, true, true, false, true, false, false, false, false, false, false] rfl rfl (any_of HT_.out (by kernel_rfl)) (fun _ _ _ h => h) (Or.inl ⟨by rfl, ?_⟩) ?_ ?_
                                                  rotate_left
                                                  · intro w'
                                                    go_simp
                                                    with_reducible rfl
                                                  rotate_left
                                                  · simp only [Act.put, List.setIfInBounds_toArray, List.set_cons_zero, List.set_cons_succ, i64_w, i32_w]
                                                    rfl
                                                  refine take_ (i := 11) (N := some 64) (v := ?_) (a' := ?_) #[true, true, true, true, true, true, true, true, true, true, true, true, true, true, true, false, true, false, false, false, false, true, true, true, false, true, false, false, false, false, true, true, true, false, true, false, false, false, false, false, false] rfl rfl (take_ofW HT_.out HW_.out (by kernel_rfl)) (fun _ _ _ h => h) (Or.inl ⟨by rfl, ?_⟩) hHeld ?_ ?_
                                                  rotate_left
                                                  · rintro w' ⟨s0, s1, s2, s3, s4, s5, s6, s7, s8⟩
                                                    go_simp
                                                    with_reducible rfl
                                                  rotate_left
                                                  · simp only [Act.put, List.setIfInBounds_toArray, List.set_cons_zero, List.set_cons_succ, i64_w, i32_w]
                                                    rfl
                                                  refine take_ (i := 15) (N := some 68) (v := ?_) (a' := ?_) #[true, true, true, true, true, true, true, true, true, true, true, true, true, true, true, true, true, false, false, false, false, true, true, true, false, true, false, false, false, false, true, true, true, false, true, false, false, false, false, false, false] rfl rfl (take_ofW HT_.out HW_.out (by kernel_rfl)) (fun _ _ _ h => h) (Or.inl ⟨by rfl, ?_⟩) hHeld ?_ ?_
                                                  rotate_left
                                                  · rintro w' ⟨s0, s1, s2, s3, s4, s5, s6, s7, s8⟩
                                                    go_simp
                                                    with_reducible rfl
                                                  rotate_left
                                                  · simp only [Act.put, List.setIfInBounds_toArray, List.set_cons_zero, List.set_cons_succ, i64_w, i32_w]
                                                    rfl
                                                  refine pure_ (i := 17) (N := some 70) (v := ?_) (a' := ?_) #[true, true, true, true, true, true, true, true, true, true, true, true, true, true, true, true, true, true, false, false, false, true, true, true, false, true, false, false, false, false, true, true, true, false, true, false, false, false, false, false, false] rfl rfl (any_of HT_.out (by kernel_rfl)) (fun _ _ _ h => h) (Or.inl ⟨by rfl, ?_⟩) ?_ ?_
                                                  rotate_left
                                                  · intro w'
                                                    go_simp
                                                    with_reducible rfl
                                                  rotate_left
                                                  · simp only [Act.put, List.setIfInBounds_toArray, List.set_cons_zero, List.set_cons_succ, i64_w, i32_w]
                                                    rfl
                                                  refine take_ (i := 18) (N := some 71) (v := ?_) (a' := ?_) #[true, true, true, true, true, true, true, true, true, true, true, true, true, true, true, true, true, true, true, false, false, true, true, true, false, true, false, false, false, false, true, true, true, false, true, false, false, false, false, false, false] rfl rfl (take_ofW HT_.out HW_.out (by kernel_rfl)) (fun _ _ _ h => h) (Or.inl ⟨by rfl, ?_⟩) hHeld ?_ ?_
                                                  rotate_left
                                                  · rintro w' ⟨s0, s1, s2, s3, s4, s5, s6, s7, s8⟩
                                                    go_simp
                                                    with_reducible rfl
                                                  rotate_left
                                                  · simp only [Act.put, List.setIfInBounds_toArray, List.set_cons_zero, List.set_cons_succ, i64_w, i32_w]
                                                    rfl
                                                  refine pure_ (i := 19) (N := some 72) (v := ?_) (a' := ?_) #[true, true, true, true, true, true, true, true, true, true, true, true, true, true, true, true, true, true, true, true, false, true, true, true, false, true, false, false, false, false, true, true, true, false, true, false, false, false, false, false, false] rfl rfl (any_of HT_.out (by kernel_rfl)) (fun _ _ _ h => h) (Or.inl ⟨by rfl, ?_⟩) ?_ ?_
                                                  rotate_left
                                                  · intro w'
                                                    go_simp
                                                    with_reducible rfl
                                                  rotate_left
                                                  · simp only [Act.put, List.setIfInBounds_toArray, List.set_cons_zero, List.set_cons_succ, i64_w, i32_w]
                                                    rfl
                                                  refine pure_ (i := 20) (N := some 73) (v := ?_) (a' := ?_) #[true, true, true, true, true, true, true, true, true, true, true, true, true, true, true, true, true, true, true, true, true, true, true, true, false, true, false, false, false, false, true, true, true, false, true, false, false, false, false, false, false] rfl rfl (any_of HT_.out (by kernel_rfl)) (fun _ _ _ h => h) (Or.inl ⟨by rfl, ?_⟩) ?_ ?_
                                                  rotate_left
                                                  · intro w'
                                                    go_simp
                                                    with_reducible rfl
                                                  rotate_left
                                                  · simp only [Act.put, List.setIfInBounds_toArray, List.set_cons_zero, List.set_cons_succ, i64_w, i32_w]
                                                    rfl
                                                  refine take_ (i := 24) (N := some 77) (v := ?_) (a' := ?_) #[true, true, true, true, true, true, true, true, true, true, true, true, true, true, true, true, true, true, true, true, true, true, true, true, true, true, false, false, false, false, true, true, true, false, true, false, false, false, false, false, false] rfl rfl (take_ofW HT_.out HW_.out (by kernel_rfl)) (fun _ _ _ h => h) (Or.inl ⟨by rfl, ?_⟩) hHeld ?_ ?_
                                                  rotate_left
                                                  · rintro w' ⟨s0, s1, s2, s3, s4, s5, s6, s7, s8⟩
                                                    go_simp
                                                    with_reducible rfl
                                                  rotate_left
                                                  · simp only [Act.put, List.setIfInBounds_toArray, List.set_cons_zero, List.set_cons_succ, i64_w, i32_w]
                                                    rfl
                                                  refine pure_ (i := 26) (N := some 79) (v := ?_) (a' := ?_) #[true, true, true, true, true, true, true, true, true, true, true, true, true, true, true, true, true, true, true, true, true, true, true, true, true, true, true, false, false, false, true, true, true, false, true, false, false, false, false, false, false] rfl rfl (any_of HT_.out (by kernel_rfl)) (fun _ _ _ h => h) (Or.inl ⟨by rfl, ?_⟩) ?_ ?_
                                                  rotate_left
                                                  · intro w'
                                                    go_simp
                                                    with_reducible rfl
                                                  rotate_left
                                                  · simp only [Act.put, List.setIfInBounds_toArray, List.set_cons_zero, List.set_cons_succ, i64_w, i32_w]
                                                    rfl
                                                  refine take_ (i := 27) (N := some 80) (v := ?_) (a' := ?_) #[true, true, true, true, true, true, true, true, true, true, true, true, true, true, true, true, true, true, true, true, true, true, true, true, true, true, true, true, false, false, true, true, true, false, true, false, false, false, false, false, false] rfl rfl (take_ofW HT_.out HW_.out (by kernel_rfl)) (fun _ _ _ h => h) (Or.inl ⟨by rfl, ?_⟩) hHeld ?_ ?_
                                                  rotate_left
                                                  · rintro w' ⟨s0, s1, s2, s3, s4, s5, s6, s7, s8⟩
                                                    go_simp
                                                    with_reducible rfl
                                                  rotate_left
                                                  · simp only [Act.put, List.setIfInBounds_toArray, List.set_cons_zero, List.set_cons_succ, i64_w, i32_w]
                                                    rfl
                                                  refine pure_ (i := 28) (N := some 81) (v := ?_) (a' := ?_) #[true, true, true, true, true, true, true, true, true, true, true, true, true, true, true, true, true, true, true, true, true, true, true, true, true, true, true, true, true, false, true, true, true, false, true, false, false, false, false, false, false] rfl rfl (any_of HT_.out (by kernel_rfl)) (fun _ _ _ h => h) (Or.inl ⟨by rfl, ?_⟩) ?_ ?_
                                                  rotate_left
                                                  · intro w'
                                                    go_simp
                                                    with_reducible rfl
                                                  rotate_left
                                                  · simp only [Act.put, List.setIfInBounds_toArray, List.set_cons_zero, List.set_cons_succ, i64_w, i32_w]
                                                    rfl
                                                  refine pure_ (i := 29) (N := some 82) (v := ?_) (a' := ?_) #[true, true, true, true, true, true, true, true, true, true, true, true, true, true, true, true, true, true, true, true, true, true, true, true, true, true, true, true, true, true, true, true, true, false, true, false, false, false, false, false, false] rfl rfl (any_of HT_.out (by kernel_rfl)) (fun _ _ _ h => h) (Or.inl ⟨by rfl, ?_⟩) ?_ ?_
                                                  rotate_left
                                                  · intro w'
                                                    go_simp
                                                    with_reducible rfl
                                                  rotate_left
                                                  · simp only [Act.put, List.setIfInBounds_toArray, List.set_cons_zero, List.set_cons_succ, i64_w, i32_w]
                                                    rfl
                                                  refine take_ (i := 33) (N := some 86) (v := ?_) (a' := ?_) #[true, true, true, true, true, true, true, true, true, true, true, true, true, true, true, true, true, true, true, true, true, true, true, true, true, true, true, true, true, true, true, true, true, true, true, false, false, false, false, false, false] rfl rfl (take_ofW HT_.out HW_.out (by kernel_rfl)) (fun _ _ _ h => h) (Or.inl ⟨by rfl, ?_⟩) hHeld ?_ ?_
                                                  rotate_left
                                                  · rintro w' ⟨s0, s1, s2, s3, s4, s5, s6, s7, s8⟩
                                                    go_simp
                                                    with_reducible rfl
                                                  rotate_left
                                                  · simp only [Act.put, List.setIfInBounds_toArray, List.set_cons_zero, List.set_cons_succ, i64_w, i32_w]
                                                    rfl
                                                  refine pure_ (i := 35) (N := some 88) (v := ?_) (a' := ?_) #[true, true, true, true, true, true, true, true, true, true, true, true, true, true, true, true, true, true, true, true, true, true, true, true, true, true, true, true, true, true, true, true, true, true, true, true, false, false, false, false, false] rfl rfl (any_of HT_.out (by kernel_rfl)) (fun _ _ _ h => h) (Or.inl ⟨by rfl, ?_⟩) ?_ ?_
                                                  rotate_left
                                                  · intro w'
                                                    go_simp
                                                    with_reducible rfl
                                                  rotate_left
                                                  · simp only [Act.put, List.setIfInBounds_toArray, List.set_cons_zero, List.set_cons_succ, i64_w, i32_w]
                                                    rfl
                                                  refine take_ (i := 36) (N := some 89) (v := ?_) (a' := ?_) #[true, true, true, true, true, true, true, true, true, true, true, true, true, true, true, true, true, true, true, true, true, true, true, true, true, true, true, true, true, true, true, true, true, true, true, true, true, false, false, false, false] rfl rfl (take_ofW HT_.out HW_.out (by kernel_rfl)) (fun _ _ _ h => h) (Or.inl ⟨by rfl, ?_⟩) hHeld ?_ ?_
                                                  rotate_left
                                                  · rintro w' ⟨s0, s1, s2, s3, s4, s5, s6, s7, s8⟩
                                                    go_simp
                                                    with_reducible rfl
                                                  rotate_left
                                                  · simp only [Act.put, List.setIfInBounds_toArray, List.set_cons_zero, List.set_cons_succ, i64_w, i32_w]
                                                    rfl
                                                  refine pure_ (i := 37) (N := some 90) (v := ?_) (a' := ?_) #[true, true, true, true, true, true, true, true, true, true, true, true, true, true, true, true, true, true, true, true, true, true, true, true, true, true, true, true, true, true, true, true, true, true, true, true, true, true, false, false, false] rfl rfl (any_of HT_.out (by kernel_rfl)) (fun _ _ _ h => h) (Or.inl ⟨by rfl, ?_⟩) ?_ ?_
                                                  rotate_left
                                                  · intro w'
                                                    go_simp
                                                    with_reducible rfl
                                                  rotate_left
                                                  · simp only [Act.put, List.setIfInBounds_toArray, List.set_cons_zero, List.set_cons_succ, i64_w, i32_w]
                                                    rfl
                                                  refine pure_ (i := 38) (N := some 91) (v := ?_) (a' := ?_) #[true, true, true, true, true, true, true, true, true, true, true, true, true, true, true, true, true, true, true, true, true, true, true, true, true, true, true, true, true, true, true, true, true, true, true, true, true, true, true, false, false] rfl rfl (any_of HT_.out (by kernel_rfl)) (fun _ _ _ h => h) (Or.inl ⟨by rfl, ?_⟩) ?_ ?_
                                                  rotate_left
                                                  · intro w'
                                                    go_simp
                                                    with_reducible rfl
                                                  rotate_left
                                                  · simp only [Act.put, List.setIfInBounds_toArray, List.set_cons_zero, List.set_cons_succ, i64_w, i32_w]
                                                    rfl
                                                  refine pure_ (i := 39) (N := some 92) (v := ?_) (a' := ?_) #[true, true, true, true, true, true, true, true, true, true, true, true, true, true, true, true, true, true, true, true, true, true, true, true, true, true, true, true, true, true, true, true, true, true, true, true, true, true, true, true, false] rfl rfl (any_of HT_.out (by kernel_rfl)) (fun _ _ _ h => h) (Or.inl ⟨by rfl, ?_⟩) ?_ ?_
                                                  rotate_left
                                                  · intro w'
                                                    go_simp
                                                    with_reducible rfl
                                                  rotate_left
                                                  · simp only [Act.put, List.setIfInBounds_toArray, List.set_cons_zero, List.set_cons_succ, i64_w, i32_w]
                                                    rfl
                                                  refine last_ (i := 40) (N := none) #[true, true, true, true, true, true, true, true, true, true, true, true, true, true, true, true, true, true, true, true, true, true, true, true, true, true, true, true, true, true, true, true, true, true, true, true, true, true, true, true, true] rfl rfl (one_of HT_.out (by kernel_rfl)) (by decide) (fun K hK => ?_)
                                                  refine skip_ (w1 := ?_) (by rfl) rfl ?_ ?_
                                                  rotate_left
                                                  · go_simp
                                                    rfl
                                                  refine hK.out _ _ ?_
                                                  clear hK K
                                                  refine done_ (done_of HT_.out (by kernel_rfl)) ?_
                                                  try go_wp2
                                                  (try simp only [← hl13_2])
                                                  go_roundg k2
                                                  case measure => have := HK1.out; have := HK2.out; omega
                                                  case rel => exact ⟨(y167), (wrap64 (x50_2 + 1)), (by first | rfl | (simp; done) | (simp [*]; done)), H', ⟨by have := HK1.out; have := HK2.out; omega⟩, ⟨by (try simp only [hl13_1]); (try simp only [hl13_2]); (with_reducible repeat (first | apply Kd.S_alloc | apply Kd.S_drewN | apply Kd.S_drew)); exact HQ26.out⟩, ⟨by repeat (first | (with_reducible first | exact HB.out | apply below_alloc | apply pw_below_drewN | apply below_drew1 | refine below_set ?_ GB24.out) | exact HB.out)⟩⟩
                                                · rw [if_neg c23] at H
                                                  exact absurd H (by simp)
                                              · rw [if_neg c22] at H
                                                exact absurd H (by simp)
                                            · rw [if_neg c21] at H
                                              exact absurd H (by simp)
                                          · rw [if_neg c20] at H
                                            exact absurd H (by simp)
                                        · rw [if_neg c19] at H
                                          exact absurd H (by simp)
                                      · rw [if_neg c18] at H
                                        exact absurd H (by simp)
                                    · rw [if_neg c17] at H
                                      exact absurd H (by simp)
                                  · rw [if_neg c16] at H
                                    exact absurd H (by simp)
                                · rw [if_neg c15] at H
                                  exact absurd H (by simp)
                              · rw [if_neg c14] at H
                                exact absurd H (by simp)
                            · rw [if_neg c13] at H
                              exact absurd H (by simp)
                          · rw [if_neg c12] at H
                            exact absurd H (by simp)
                        · rw [if_neg c11] at H
                          have c11b0 : decide (x50_2 < ((rd_L2 x13_1 x42_1).length : Int)) = false := decide_eq_false c11
                          (try simp only [hl13_1] at c11b0)
                          (try simp only [hl13_2] at c11b0)
                          clear c11
                          have H' := Aside0.mk H
                          clear H
                          go_wp2
                          (try simp only [← hl13_1, ← hl13_2])
                          go_roundg k2
                          case measure => have := HK1.out; have := HK2.out; omega
                          case rel => exact ⟨(x13_2), (wrap64 (x42_1 + 1)), (by first | rfl | (simp; done) | (simp [*]; done)), H', ⟨by have := HK1.out; have := HK2.out; omega⟩, ⟨by (try simp only [hl13_1]); (try simp only [hl13_2]); (with_reducible repeat (first | apply Kd.S_alloc | apply Kd.S_drewN | apply Kd.S_drew)); exact HO_13.out⟩, ⟨by repeat (first | (with_reducible first | exact HB.out | apply below_alloc | apply pw_below_drewN | apply below_drew1) | exact HB.out)⟩⟩
                  · rw [if_neg c10] at H
                    exact absurd H (by simp)
                · rw [if_neg c9] at H
                  exact absurd H (by simp)
              · rw [if_neg c8] at H
                have c8b0 : decide (x42_1 < (t152.length : Int)) = false := decide_eq_false c8
                (try simp only [hl13_1] at c8b0)
                (try simp only [hl13_2] at c8b0)
                clear c8
                simp only [Option.some.injEq, Prod.mk.injEq] at H
                obtain ⟨rfl, rfl⟩ := H
                go_wp2
                go_ret2
                exact ⟨_, by first | rfl | (simp [errW_none, errW_some] <;> rfl) | (simp [*, errW_none, errW_some] <;> rfl), Kd.S_lower (by (with_reducible repeat (first | apply Kd.S_alloc | apply Kd.S_drewN | apply Kd.S_drew)); exact HO_13.out) (below_size HBX.out), below_step HBX.out (by repeat (first | (with_reducible first | exact HB.out | apply below_alloc | apply pw_below_drewN | apply below_drew1) | exact HB.out))⟩
  | false =>
    have HRT := Option.some.inj (show some (([] : List (List Int)), false) = some (r1, r2) by rw [if_neg (show ¬ (false = true) by decide)] at H; exact H)
    clear H
    obtain ⟨rfl, rfl⟩ := Prod.mk.inj HRT
    clear HRT
    go_enter Try.func46, Try.ntmps46
    go_wp2_with (first | ((with_reducible refine gate_dst (N := 20) rfl ?_); refine impl_PackPlanes.lit_event ?hg (N := 20) ?hd (cs := #[.slice A0 l0.length c0, .slice A1 l1.length c1, .slice A2 l2.length c2, .slice A3 l3.length c3]) (t := 24) (n := 4) ?hr ?_; (case hd => rfl); (case hg => rfl); (case hr => first | (go_simp; done) | (go_simp; rfl)); intro gbx hg w1_ hbox hb; have HBX := Aside0.mk hb; have BKX := Aside0.mk hbox; have HR0n := Aside0.mk (Kd.C_below HR0.out hb); clear HR0; have HR0 := HR0n; clear HR0n; have HR1n := Aside0.mk (Kd.C_below HR1.out hb); clear HR1; have HR1 := HR1n; clear HR1n; have HR2n := Aside0.mk (Kd.C_below HR2.out hb); clear HR2; have HR2 := HR2n; clear HR2n; have HR3n := Aside0.mk (Kd.C_below HR3.out hb); clear HR3; have HR3 := HR3n; clear HR3n; clear HB; have HB := Aside0.mk (Below.refl w1_.heap.size w1_); clear hb hbox hg))
    go_loopg [23] 5 (fun kq v23 w' => ∃ (x23 : Int), v23 = .int .i64 x23 ∧ Aside0 (impl_PackPlanes.chk k l0 ([l0, l1, l2, l3].drop x23.toNat) = some false) ∧ Aside0 (0 ≤ x23 ∧ x23 ≤ 4 ∧ (kq : Int) + x23 = 5) ∧ Drawn0 w1_ w')
    case atStart => exact ⟨0, (by first | rfl | (simp; done) | (simp [*]; done)), AQ, ⟨by omega⟩, by repeat (first | exact Drawn0.refl _ | apply Drawn0.step)⟩
    case round =>
      obtain ⟨x23, rfl, HA, HK0, ⟨mz, rfl⟩⟩ := hrel
      clear AQ
      cases gk with
      | zero => exact absurd HK0.out (by omega)
      | succ kz =>
        by_cases cE : x23 < 4
        · obtain ⟨p, pA, pc, hx0, hC0, hc0_, hlist⟩ : ∃ (p : List (List Int)) (pA : Option Addr) (pc : Nat), w1_.cell? (⟨gbx, x23.toNat, none⟩ : Addr) = some (.slice pA p.length pc) ∧ Kd.C (Kd.slice 3 (Kd.int .i64)) w1_ pA p.length p ∧ p.length ≤ pc ∧ [l0, l1, l2, l3].drop x23.toNat = p :: [l0, l1, l2, l3].drop (x23.toNat + 1) := by
            have hz : x23 = 0 ∨ x23 = 1 ∨ x23 = 2 ∨ x23 = 3 := by have := HK0.out; omega
            rcases hz with rfl | rfl | rfl | rfl
            · exact ⟨l0, A0, c0, (blk_cell BKX.out 0).trans rfl, HR0.out, HC0.out, rfl⟩
            · exact ⟨l1, A1, c1, (blk_cell BKX.out 1).trans rfl, HR1.out, HC1.out, rfl⟩
            · exact ⟨l2, A2, c2, (blk_cell BKX.out 2).trans rfl, HR2.out, HC2.out, rfl⟩
            · exact ⟨l3, A3, c3, (blk_cell BKX.out 3).trans rfl, HR3.out, HC3.out, rfl⟩
          have hC := Aside0.mk hC0
          have hc := Aside0.mk hc0_
          clear hC0 hc0_
          have pz0 : 0 ≤ x23 := HK0.out.1
          have cEb0 : decide (x23 < 4) = true := decide_eq_true cE
          have cEb1 : decide (x23 < ((4 : Nat) : Int)) = true := decide_eq_true cE
          have hw23 : wrap64 (x23 + 1) = x23 + 1 := by unfold wrap64; omega
          have pz := eq_true pz0
          have qz : (x23 < 4) = True := eq_true cE
          have qz1 : (x23 < ((4 : Nat) : Int)) = True := eq_true cE
          have H := HA.out
          rw [hlist] at H
          simp only [impl_PackPlanes.chk] at H
          obtain ⟨tb, AT0, H⟩ := Option.bind_eq_some_iff.mp H
          have AT := Aside0.mk AT0
          clear AT0
          have HE := Aside0.mk cE
          have HN := Aside0.mk (show (x23 + 1).toNat = x23.toNat + 1 by omega)
          clear cE pz0 hlist
          cases tb with
          | false =>
            clear H
            go_wp2_with (first | ((with_reducible refine gate_callee (f := 27) rfl ?_); refine goesL_ (some 28) rfl rfl Try.func27 (by kernel_rfl) rfl #[.slice pA p.length pc] rfl (by (try simp only [List.map_toArray, List.map_cons, List.map_nil]); first | done | rfl) ?_; (with_reducible refine (impl_BitsOk.calls k _ _ p false _ ?side1 ?side2 AT.out).mono ?_); (case side1 => repeat (first | exact hC.out | (with_reducible refine Kd.C_alloc ?_ _) | (with_reducible refine Kd.C_drewN ?_ _) | (with_reducible refine Kd.C_drew ?_))); (case side2 => exact hc.out); rintro e w' ⟨rfl, ⟨nd, rfl⟩⟩; refine ⟨_, rfl, ?_⟩))
            go_ret2
            exact ⟨_, by first | rfl | (simp [errW_none, errW_some] <;> rfl) | (simp [*, errW_none, errW_some] <;> rfl), Kd.S_nil _ _ _ _ _, below_step HBX.out (by repeat (first | (with_reducible first | exact HB.out | apply below_alloc | apply pw_below_drewN | apply below_drew1) | exact HB.out))⟩
          | true =>
            rw [if_pos rfl] at H
            by_cases cl : (p.length : Int) = (l0.length : Int)
            · rw [if_pos cl] at H
              have clb : ((p.length : Int) != (l0.length : Int)) = false := bne_eq_false_iff_eq.mpr cl
              have clb2 : ((p.length : Int) == (l0.length : Int)) = true := beq_iff_eq.mpr cl
              clear cl
              have H' := Aside0.mk H
              clear H
              go_wp2_with (first | ((with_reducible refine gate_callee (f := 27) rfl ?_); refine goesL_ (some 28) rfl rfl Try.func27 (by kernel_rfl) rfl #[.slice pA p.length pc] rfl (by (try simp only [List.map_toArray, List.map_cons, List.map_nil]); first | done | rfl) ?_; (with_reducible refine (impl_BitsOk.calls k _ _ p true _ ?side1 ?side2 AT.out).mono ?_); (case side1 => repeat (first | exact hC.out | (with_reducible refine Kd.C_alloc ?_ _) | (with_reducible refine Kd.C_drewN ?_ _) | (with_reducible refine Kd.C_drew ?_))); (case side2 => exact hc.out); rintro e w' ⟨rfl, ⟨nd, rfl⟩⟩; refine ⟨_, rfl, ?_⟩))
              go_roundg kz
              case measure => omega
              case rel => exact ⟨wrap64 (x23 + 1), (by first | rfl | (simp; done) | (simp [*]; done)), ⟨by rw [hw23, HN.out]; exact H'.out⟩, ⟨by rw [hw23]; have := HK0.out; have := HE.out; omega⟩, by repeat (first | exact Drawn0.refl _ | apply Drawn0.step)⟩
            · rw [if_neg cl] at H
              have clb : ((p.length : Int) != (l0.length : Int)) = true := bne_iff_ne.mpr cl
              have clb2 : ((p.length : Int) == (l0.length : Int)) = false := beq_eq_false_iff_ne.mpr cl
              clear cl H
              go_wp2_with (first | ((with_reducible refine gate_callee (f := 27) rfl ?_); refine goesL_ (some 28) rfl rfl Try.func27 (by kernel_rfl) rfl #[.slice pA p.length pc] rfl (by (try simp only [List.map_toArray, List.map_cons, List.map_nil]); first | done | rfl) ?_; (with_reducible refine (impl_BitsOk.calls k _ _ p true _ ?side1 ?side2 AT.out).mono ?_); (case side1 => repeat (first | exact hC.out | (with_reducible refine Kd.C_alloc ?_ _) | (with_reducible refine Kd.C_drewN ?_ _) | (with_reducible refine Kd.C_drew ?_))); (case side2 => exact hc.out); rintro e w' ⟨rfl, ⟨nd, rfl⟩⟩; refine ⟨_, rfl, ?_⟩))
              go_ret2
              exact ⟨_, by first | rfl | (simp [errW_none, errW_some] <;> rfl) | (simp [*, errW_none, errW_some] <;> rfl), Kd.S_nil _ _ _ _ _, below_step HBX.out (by repeat (first | (with_reducible first | exact HB.out | apply below_alloc | apply pw_below_drewN | apply below_drew1) | exact HB.out))⟩
        · have x4 : x23 = 4 := by have := HK0.out; omega
          subst x4
          exact absurd HA.out (by simp [impl_PackPlanes.chk])

end Go.Proofs.Ytophklfiooklbaa.PFnPlanes
