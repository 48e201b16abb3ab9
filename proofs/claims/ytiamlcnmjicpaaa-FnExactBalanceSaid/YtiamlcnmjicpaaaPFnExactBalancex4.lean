-- Written by a changed copy of the kit's print (this repo's wip/tools/mkprint.py, p2.py): not a file of print.sh.
import Derived.Test.YtiamlcnmjicpaaaPFnExactBalancex0
import Derived.Test.YtiamlcnmjicpaaaPFnExactBalancex3
namespace Go.Proofs.Ytiamlcnmjicpaaa.PFnExactBalance
open Go.RowKit Go.Proofs.YtiamlcnmjicpaaaW.PrintWords Go.Proofs.YtiamlcnmjicpaaaW.PrintLast Go.Proofs.YtiamlcnmjicpaaaW.PrintMore
attribute [local go_sem] max2_int min2_int max_two min_two max_three min_three max_four min_four   -- for this text's walks alone
set_option linter.unusedVariables false
set_option linter.unusedSimpArgs false

/-! ### impl_Balance: function 26 -/
mutual
def impl_Balance.l0 : Nat → Int → Int → Int → Int → Int → Int → Int → List (S125) → Int → Int → Option (Int × Int)
  | 0, _, _, _, _, _, _, _, _, _, _ => none
  | k + 1, x1, x2, x3, x4, x5, x14, x15, x25, x26, x27 => if x27 < x26 then (if 0 ≤ x27 then (if x27 < (x25.length : Int) then (if (((rd_T125 x25 x27).f3).length : Int) > 60 then (some (0, 0)) else (impl_Balance.l1 k x1 x2 x3 x4 x5 x14 x15 x25 x26 x27 ((rd_T125 x25 x27).f3) (((rd_T125 x25 x27).f3).length : Int) 0 ((rd_T125 x25 x27).f0) ((rd_T125 x25 x27).f1) ((rd_T125 x25 x27).f2) ((rd_T125 x25 x27).f3))) else (none)) else (none)) else (some (x14, x15))
def impl_Balance.l1 : Nat → Int → Int → Int → Int → Int → Int → Int → List (S125) → Int → Int → List (S127) → Int → Int → Int → Int → ByteArray → List (S127) → Option (Int × Int)
  | 0, _, _, _, _, _, _, _, _, _, _, _, _, _, _, _, _, _ => none
  | k + 1, x1, x2, x3, x4, x5, x14, x15, x25, x26, x27, x36, x37, x38, x156000, x156001, x156002, x156003 => if x38 < x37 then (if 0 ≤ x38 then (if x38 < (x36.length : Int) then ((impl_amount.f ((rd_T127 x36 x38).f3)).bind fun t158 => (if t158 = true then ((impl_amount.f ((rd_T127 x36 x38).f4)).bind fun t159 => (impl_Balance.j2 k x1 x2 x3 x4 x5 x14 x15 x25 x26 x27 x36 x37 x38 (!t159) x156000 x156001 x156002 x156003 ((rd_T127 x36 x38).f0) ((rd_T127 x36 x38).f1) ((rd_T127 x36 x38).f2) ((rd_T127 x36 x38).f3) ((rd_T127 x36 x38).f4))) else (impl_Balance.j2 k x1 x2 x3 x4 x5 x14 x15 x25 x26 x27 x36 x37 x38 true x156000 x156001 x156002 x156003 ((rd_T127 x36 x38).f0) ((rd_T127 x36 x38).f1) ((rd_T127 x36 x38).f2) ((rd_T127 x36 x38).f3) ((rd_T127 x36 x38).f4)))) else (none)) else (none)) else (impl_Balance.l0 k x1 x2 x3 x4 x5 x14 x15 x25 x26 (wrap64 (x27 + 1)))
def impl_Balance.j2 : Nat → Int → Int → Int → Int → Int → Int → Int → List (S125) → Int → Int → List (S127) → Int → Int → Bool → Int → Int → ByteArray → List (S127) → Int → Int → Int → Int → Int → Option (Int × Int)
  | 0, _, _, _, _, _, _, _, _, _, _, _, _, _, _, _, _, _, _, _, _, _, _, _ => none
  | k + 1, x1, x2, x3, x4, x5, x14, x15, x25, x26, x27, x36, x37, x38, x51, x156000, x156001, x156002, x156003, x158000, x158001, x158002, x158003, x158004 => if x51 = true then (some (0, 0)) else (if x4 ≤ x156000 then (if x156000 ≤ x5 then (if x1 = (-1) then (if x2 = (-1) then (if x3 = (-1) then (impl_Balance.l1 k x1 x2 x3 x4 x5 (wrap64 (x14 + x158003)) (wrap64 (x15 + x158004)) x25 x26 x27 x36 x37 (wrap64 (x38 + 1)) x156000 x156001 x156002 x156003) else (if x3 = x158002 then (impl_Balance.l1 k x1 x2 x3 x4 x5 (wrap64 (x14 + x158003)) (wrap64 (x15 + x158004)) x25 x26 x27 x36 x37 (wrap64 (x38 + 1)) x156000 x156001 x156002 x156003) else (impl_Balance.l1 k x1 x2 x3 x4 x5 x14 x15 x25 x26 x27 x36 x37 (wrap64 (x38 + 1)) x156000 x156001 x156002 x156003))) else (if x2 = x158001 then (if x3 = (-1) then (impl_Balance.l1 k x1 x2 x3 x4 x5 (wrap64 (x14 + x158003)) (wrap64 (x15 + x158004)) x25 x26 x27 x36 x37 (wrap64 (x38 + 1)) x156000 x156001 x156002 x156003) else (if x3 = x158002 then (impl_Balance.l1 k x1 x2 x3 x4 x5 (wrap64 (x14 + x158003)) (wrap64 (x15 + x158004)) x25 x26 x27 x36 x37 (wrap64 (x38 + 1)) x156000 x156001 x156002 x156003) else (impl_Balance.l1 k x1 x2 x3 x4 x5 x14 x15 x25 x26 x27 x36 x37 (wrap64 (x38 + 1)) x156000 x156001 x156002 x156003))) else (impl_Balance.l1 k x1 x2 x3 x4 x5 x14 x15 x25 x26 x27 x36 x37 (wrap64 (x38 + 1)) x156000 x156001 x156002 x156003))) else (if x1 = x158000 then (if x2 = (-1) then (if x3 = (-1) then (impl_Balance.l1 k x1 x2 x3 x4 x5 (wrap64 (x14 + x158003)) (wrap64 (x15 + x158004)) x25 x26 x27 x36 x37 (wrap64 (x38 + 1)) x156000 x156001 x156002 x156003) else (if x3 = x158002 then (impl_Balance.l1 k x1 x2 x3 x4 x5 (wrap64 (x14 + x158003)) (wrap64 (x15 + x158004)) x25 x26 x27 x36 x37 (wrap64 (x38 + 1)) x156000 x156001 x156002 x156003) else (impl_Balance.l1 k x1 x2 x3 x4 x5 x14 x15 x25 x26 x27 x36 x37 (wrap64 (x38 + 1)) x156000 x156001 x156002 x156003))) else (if x2 = x158001 then (if x3 = (-1) then (impl_Balance.l1 k x1 x2 x3 x4 x5 (wrap64 (x14 + x158003)) (wrap64 (x15 + x158004)) x25 x26 x27 x36 x37 (wrap64 (x38 + 1)) x156000 x156001 x156002 x156003) else (if x3 = x158002 then (impl_Balance.l1 k x1 x2 x3 x4 x5 (wrap64 (x14 + x158003)) (wrap64 (x15 + x158004)) x25 x26 x27 x36 x37 (wrap64 (x38 + 1)) x156000 x156001 x156002 x156003) else (impl_Balance.l1 k x1 x2 x3 x4 x5 x14 x15 x25 x26 x27 x36 x37 (wrap64 (x38 + 1)) x156000 x156001 x156002 x156003))) else (impl_Balance.l1 k x1 x2 x3 x4 x5 x14 x15 x25 x26 x27 x36 x37 (wrap64 (x38 + 1)) x156000 x156001 x156002 x156003))) else (impl_Balance.l1 k x1 x2 x3 x4 x5 x14 x15 x25 x26 x27 x36 x37 (wrap64 (x38 + 1)) x156000 x156001 x156002 x156003))) else (impl_Balance.l1 k x1 x2 x3 x4 x5 x14 x15 x25 x26 x27 x36 x37 (wrap64 (x38 + 1)) x156000 x156001 x156002 x156003)) else (impl_Balance.l1 k x1 x2 x3 x4 x5 x14 x15 x25 x26 x27 x36 x37 (wrap64 (x38 + 1)) x156000 x156001 x156002 x156003))
end
def impl_Balance.f (k : Nat) (l0_0 : List (S125)) (a0_1 : Int) (a1 : Int) (a2 : Int) (a3 : Int) (a4 : Int) (a5 : Int) : Option (Int × Int) := if (l0_0.length : Int) > 1000 then (some (0, 0)) else (impl_Balance.l0 k a1 a2 a3 a4 a5 0 0 l0_0 (l0_0.length : Int) 0)
theorem impl_Balance.mono_l : ∀ k, (∀ y0 y1 y2 y3 y4 y5 y6 y7 y8 y9, LeO (impl_Balance.l0 k y0 y1 y2 y3 y4 y5 y6 y7 y8 y9) (impl_Balance.l0 (k + 1) y0 y1 y2 y3 y4 y5 y6 y7 y8 y9)) ∧ (∀ y0 y1 y2 y3 y4 y5 y6 y7 y8 y9 y10 y11 y12 y13 y14 y15 y16, LeO (impl_Balance.l1 k y0 y1 y2 y3 y4 y5 y6 y7 y8 y9 y10 y11 y12 y13 y14 y15 y16) (impl_Balance.l1 (k + 1) y0 y1 y2 y3 y4 y5 y6 y7 y8 y9 y10 y11 y12 y13 y14 y15 y16)) ∧ (∀ y0 y1 y2 y3 y4 y5 y6 y7 y8 y9 y10 y11 y12 y13 y14 y15 y16 y17 y18 y19 y20 y21 y22, LeO (impl_Balance.j2 k y0 y1 y2 y3 y4 y5 y6 y7 y8 y9 y10 y11 y12 y13 y14 y15 y16 y17 y18 y19 y20 y21 y22) (impl_Balance.j2 (k + 1) y0 y1 y2 y3 y4 y5 y6 y7 y8 y9 y10 y11 y12 y13 y14 y15 y16 y17 y18 y19 y20 y21 y22))
  | 0 => ⟨fun _ _ _ _ _ _ _ _ _ _ r h => by simp [impl_Balance.l0] at h, fun _ _ _ _ _ _ _ _ _ _ _ _ _ _ _ _ _ r h => by simp [impl_Balance.l1] at h, fun _ _ _ _ _ _ _ _ _ _ _ _ _ _ _ _ _ _ _ _ _ _ _ r h => by simp [impl_Balance.j2] at h⟩
  | k + 1 => by
    obtain ⟨ih0, ih1, ih2⟩ := impl_Balance.mono_l k
    refine ⟨?_, ?_, ?_⟩
    · intro y0 y1 y2 y3 y4 y5 y6 y7 y8 y9
      unfold impl_Balance.l0
      repeat' first
      | (with_reducible exact ih0 _ _ _ _ _ _ _ _ _ _)
      | (with_reducible exact ih1 _ _ _ _ _ _ _ _ _ _ _ _ _ _ _ _ _)
      | (with_reducible exact ih2 _ _ _ _ _ _ _ _ _ _ _ _ _ _ _ _ _ _ _ _ _ _ _)
      | (with_reducible exact LeO.refl _)
      | (with_reducible exact LeO.none _)
      | (with_reducible refine LeO.ite ?_ ?_)
      | (with_reducible refine LeO.bind ?_ (fun _ => ?_))
      | exact ih0 _ _ _ _ _ _ _ _ _ _
      | exact ih1 _ _ _ _ _ _ _ _ _ _ _ _ _ _ _ _ _
      | exact ih2 _ _ _ _ _ _ _ _ _ _ _ _ _ _ _ _ _ _ _ _ _ _ _
      | exact LeO.none _
      | refine LeO.ite ?_ ?_
      | refine LeO.bind ?_ (fun _ => ?_)
    · intro y0 y1 y2 y3 y4 y5 y6 y7 y8 y9 y10 y11 y12 y13 y14 y15 y16
      unfold impl_Balance.l1
      repeat' first
      | (with_reducible exact ih0 _ _ _ _ _ _ _ _ _ _)
      | (with_reducible exact ih1 _ _ _ _ _ _ _ _ _ _ _ _ _ _ _ _ _)
      | (with_reducible exact ih2 _ _ _ _ _ _ _ _ _ _ _ _ _ _ _ _ _ _ _ _ _ _ _)
      | (with_reducible exact LeO.refl _)
      | (with_reducible exact LeO.none _)
      | (with_reducible refine LeO.ite ?_ ?_)
      | (with_reducible refine LeO.bind ?_ (fun _ => ?_))
      | exact ih0 _ _ _ _ _ _ _ _ _ _
      | exact ih1 _ _ _ _ _ _ _ _ _ _ _ _ _ _ _ _ _
      | exact ih2 _ _ _ _ _ _ _ _ _ _ _ _ _ _ _ _ _ _ _ _ _ _ _
      | exact LeO.none _
      | refine LeO.ite ?_ ?_
      | refine LeO.bind ?_ (fun _ => ?_)
    · intro y0 y1 y2 y3 y4 y5 y6 y7 y8 y9 y10 y11 y12 y13 y14 y15 y16 y17 y18 y19 y20 y21 y22
      unfold impl_Balance.j2
      repeat' first
      | (with_reducible exact ih0 _ _ _ _ _ _ _ _ _ _)
      | (with_reducible exact ih1 _ _ _ _ _ _ _ _ _ _ _ _ _ _ _ _ _)
      | (with_reducible exact ih2 _ _ _ _ _ _ _ _ _ _ _ _ _ _ _ _ _ _ _ _ _ _ _)
      | (with_reducible exact LeO.refl _)
      | (with_reducible exact LeO.none _)
      | (with_reducible refine LeO.ite ?_ ?_)
      | (with_reducible refine LeO.bind ?_ (fun _ => ?_))
      | exact ih0 _ _ _ _ _ _ _ _ _ _
      | exact ih1 _ _ _ _ _ _ _ _ _ _ _ _ _ _ _ _ _
      | exact ih2 _ _ _ _ _ _ _ _ _ _ _ _ _ _ _ _ _ _ _ _ _ _ _
      | exact LeO.none _
      | refine LeO.ite ?_ ?_
      | refine LeO.bind ?_ (fun _ => ?_)
theorem impl_Balance.mono : ∀ a0 a1 a2 a3 a4 a5 a6 k, LeO (impl_Balance.f k a0 a1 a2 a3 a4 a5 a6) (impl_Balance.f (k + 1) a0 a1 a2 a3 a4 a5 a6) := by
  intro a0 a1 a2 a3 a4 a5 a6 k
  obtain ⟨ih0, ih1, ih2⟩ := impl_Balance.mono_l k
  unfold impl_Balance.f
  repeat' first
      | (with_reducible exact ih0 _ _ _ _ _ _ _ _ _ _)
      | (with_reducible exact ih1 _ _ _ _ _ _ _ _ _ _ _ _ _ _ _ _ _)
      | (with_reducible exact ih2 _ _ _ _ _ _ _ _ _ _ _ _ _ _ _ _ _ _ _ _ _ _ _)
      | (with_reducible exact LeO.refl _)
      | (with_reducible exact LeO.none _)
      | (with_reducible refine LeO.ite ?_ ?_)
      | (with_reducible refine LeO.bind ?_ (fun _ => ?_))
      | exact ih0 _ _ _ _ _ _ _ _ _ _
      | exact ih1 _ _ _ _ _ _ _ _ _ _ _ _ _ _ _ _ _
      | exact ih2 _ _ _ _ _ _ _ _ _ _ _ _ _ _ _ _ _ _ _ _ _ _ _
      | exact LeO.none _
      | refine LeO.ite ?_ ?_
      | refine LeO.bind ?_ (fun _ => ?_)
set_option maxHeartbeats 8000000 in
set_option maxRecDepth 100000 in
theorem impl_Balance.calls (k : Nat) (A0_0 : Option Addr) (c0_0 : Nat) (l0_0 : List (S125)) (a0_1 : Int) (a1 : Int) (a2 : Int) (a3 : Int) (a4 : Int) (a5 : Int) (r1 : Int) (r2 : Int) (w : World) (hr0_0 : Kd.C k125 w A0_0 l0_0.length l0_0) (hc0_0 : l0_0.length ≤ c0_0) (h : impl_Balance.f k l0_0 a0_1 a1 a2 a3 a4 a5 = some (r1, r2)) :
    Calls Try.prog 26 #[.agg #[.slice A0_0 l0_0.length c0_0, .int .i64 a0_1], .int .i64 a1, .int .i64 a2, .int .i64 a3, .int .i64 a4, .int .i64 a5] w fun e w' => e = .returned (.tuple #[.int .i64 r1, .int .i64 r2]) ∧ Below w.heap.size w w' := by
  have hu50 := Try.underlying50
  have hu125 := Try.underlying125
  have hu127 := Try.underlying127
  have HR0_0 := Aside0.mk hr0_0
  have HC0_0 := Aside0.mk hc0_0
  clear hr0_0 hc0_0
  have HB := Aside0.mk (Below.refl w.heap.size w)
  have H : (if (l0_0.length : Int) > 1000 then (some (0, 0)) else (impl_Balance.l0 k a1 a2 a3 a4 a5 0 0 l0_0 (l0_0.length : Int) 0)) = some (r1, r2) := h
  clear h
  by_cases c7 : (l0_0.length : Int) > 1000
  · rw [if_pos c7] at H
    have c7b0 : decide (1000 < (l0_0.length : Int)) = true := decide_eq_true c7
    have c7b1 : decide (1000 < l0_0.length) = true := decide_eq_true (by omega)
    clear c7
    simp only [Option.some.injEq, Prod.mk.injEq] at H
    obtain ⟨rfl, rfl⟩ := H
    go_enter Try.func26, Try.ntmps26
    go_wp2_with (first | ((with_reducible refine gate_dst (N := 6) rfl ?_); refine box_event ?hg (N := 6) ?hd (cs := #[.slice A0_0 l0_0.length c0_0, .int .i64 a0_1]) (t := 50) ?hr ?_; (case hd => rfl); (case hg => rfl); (case hr => first | (go_simp; done) | (go_simp; rfl)); intro gb153 hg w8 hbox hb; have n0_ := Aside0.mk (below_step (by repeat (first | (with_reducible first | exact HB.out | apply below_alloc | apply pw_below_drewN | apply below_drew1) | exact HB.out)) hb); have n1_ := Aside0.mk (hbox); have n2_ := Aside0.mk ((by rw [hg]; exact (below_size (by repeat (first | (with_reducible first | exact HB.out | apply below_alloc | apply pw_below_drewN | apply below_drew1) | exact HB.out))) : w.heap.size ≤ gb153)); have n3_ := Aside0.mk ((by rw [hg]; exact (below_size (by repeat (first | (with_reducible first | exact HB.out | apply below_alloc | apply pw_below_drewN | apply below_drew1) | exact HB.out))) : w.heap.size ≤ gb153)); clear HB; have HB := n0_; have BK153 := n1_; have GW153 := n2_; have GE153 := n3_; clear n0_ n1_ n2_ n3_; clear hb hbox hg; have hcz9_0 : w8.cell? ⟨gb153, 0, none⟩ = some (.slice A0_0 l0_0.length c0_0) := (blk_cell BK153.out 0).trans rfl; have hcz9_1 : w8.cell? ⟨gb153, 1, none⟩ = some (.int .i64 a0_1) := (blk_cell BK153.out 1).trans rfl; have hfz9_0 := blk_frozen BK153.out 0; have hfz9_1 := blk_frozen BK153.out 1))
    go_ret2
    exact ⟨by first | rfl | (simp [errW_none, errW_some] <;> rfl) | (simp [*, errW_none, errW_some] <;> rfl), by repeat (first | (with_reducible first | exact HB.out | apply below_alloc | apply pw_below_drewN | apply below_drew1 | refine below_set ?_ GE153.out) | exact HB.out)⟩
  · rw [if_neg c7] at H
    have c7b0 : decide (1000 < (l0_0.length : Int)) = false := decide_eq_false c7
    have c7b1 : decide (1000 < l0_0.length) = false := decide_eq_false (by omega)
    clear c7
    have H' := Aside0.mk H
    clear H
    go_enter Try.func26, Try.ntmps26
    go_wp2_with (first | ((with_reducible refine gate_dst (N := 6) rfl ?_); refine box_event ?hg (N := 6) ?hd (cs := #[.slice A0_0 l0_0.length c0_0, .int .i64 a0_1]) (t := 50) ?hr ?_; (case hd => rfl); (case hg => rfl); (case hr => first | (go_simp; done) | (go_simp; rfl)); intro gb153 hg w10 hbox hb; have n0_ := Aside0.mk (below_step (by repeat (first | (with_reducible first | exact HB.out | apply below_alloc | apply pw_below_drewN | apply below_drew1) | exact HB.out)) hb); have n1_ := Aside0.mk (hbox); have n2_ := Aside0.mk ((by rw [hg]; exact (below_size (by repeat (first | (with_reducible first | exact HB.out | apply below_alloc | apply pw_below_drewN | apply below_drew1) | exact HB.out))) : w.heap.size ≤ gb153)); have n3_ := Aside0.mk ((by rw [hg]; exact (below_size (by repeat (first | (with_reducible first | exact HB.out | apply below_alloc | apply pw_below_drewN | apply below_drew1) | exact HB.out))) : w.heap.size ≤ gb153)); clear HB; have HB := n0_; have BK153 := n1_; have GW153 := n2_; have GE153 := n3_; clear n0_ n1_ n2_ n3_; clear hb hbox hg; have hcz11_0 : w10.cell? ⟨gb153, 0, none⟩ = some (.slice A0_0 l0_0.length c0_0) := (blk_cell BK153.out 0).trans rfl; have hcz11_1 : w10.cell? ⟨gb153, 1, none⟩ = some (.int .i64 a0_1) := (blk_cell BK153.out 1).trans rfl; have hfz11_0 := blk_frozen BK153.out 0; have hfz11_1 := blk_frozen BK153.out 1))
    go_loopg [14, 15, 27] k (fun kq v14 v15 v27 w' => ∃ (x14_1 : Int) (x15_1 : Int) (x27_1 : Int), v14 = .int .i64 x14_1 ∧ v15 = .int .i64 x15_1 ∧ v27 = .int .i64 x27_1 ∧ Aside0 (impl_Balance.l0 kq a1 a2 a3 a4 a5 x14_1 x15_1 l0_0 (l0_0.length : Int) x27_1 = some (r1, r2)) ∧ Aside0 (kq ≤ k) ∧ Aside0 (w'.heap[gb153]? = some (.cells #[(.slice A0_0 l0_0.length c0_0), .int .i64 a0_1] 50 (0, 0))) ∧ Aside0 (Below w.heap.size w w'))
    case atStart => exact ⟨(0), (0), (0), (by first | rfl | (simp; done) | (simp [*]; done)), (by first | rfl | (simp; done) | (simp [*]; done)), (by first | rfl | (simp; done) | (simp [*]; done)), H', ⟨Nat.le_refl _⟩, ⟨by (with_reducible repeat (first | refine blk_drewN ?_ _ | refine blk_drew ?_ | refine blk_alloc ?_ _)); exact BK153.out⟩, ⟨by repeat (first | (with_reducible first | exact HB.out | apply below_alloc | apply pw_below_drewN | apply below_drew1 | refine below_set ?_ GE153.out) | exact HB.out)⟩⟩
    case round =>
      clear H'
      try clear c2
      try clear p2
      try clear c7
      try clear c7b0
      try clear c7b1
      try clear hcz11_0
      try clear hcz11_1
      try clear hcz9_0
      try clear hcz9_1
      try clear hfz11_0
      try clear hfz11_1
      try clear hfz9_0
      try clear hfz9_1
      obtain ⟨x14_1, x15_1, x27_1, rfl, rfl, rfl, HA, HK1, BK153, HB⟩ := hrel
      cases gk with
      | zero => exact absurd HA.out (by simp [impl_Balance.l0])
      | succ k1 =>
        have H := HA.out
        clear HA
        simp only [impl_Balance.l0] at H
        by_cases c12 : x27_1 < (l0_0.length : Int)
        · rw [if_pos c12] at H
          have c12b0 : decide (x27_1 < (l0_0.length : Int)) = true := decide_eq_true c12
          clear c12
          by_cases c13 : 0 ≤ x27_1
          · rw [if_pos c13] at H
            have c13b0 : decide (0 ≤ x27_1) = true := decide_eq_true c13
            clear c13
            by_cases c14 : x27_1 < (l0_0.length : Int)
            · rw [if_pos c14] at H
              have c14b0 : decide (x27_1 < (l0_0.length : Int)) = true := decide_eq_true c14
              clear c14
              by_cases c15 : (((rd_T125 l0_0 x27_1).f3).length : Int) > 60
              · rw [if_pos c15] at H
                have c15b0 : decide (60 < (((rd_T125 l0_0 x27_1).f3).length : Int)) = true := decide_eq_true c15
                have c15b1 : decide (60 < ((rd_T125 l0_0 x27_1).f3).length) = true := decide_eq_true (by omega)
                clear c15
                simp only [Option.some.injEq, Prod.mk.injEq] at H
                obtain ⟨rfl, rfl⟩ := H
                have p154 : 0 ≤ (x27_1 : Int) := of_decide_eq_true (by first | (with_reducible assumption) | assumption)
                have q154 : x27_1 < (l0_0.length : Int) := of_decide_eq_true (by first | (with_reducible assumption) | assumption)
                obtain ⟨ad154, A154_3, c154_3, e154, hx154_0, hx154_1, hx154_2, hx154_3, hl154_3, hi154_3⟩ := at_T125 HR0_0.out x27_1 p154 q154
                cases e154
                replace hx154_0 := (HB.out.cell (World.block_lt_of_cell? w _ hx154_0)).trans hx154_0
                replace hx154_1 := (HB.out.cell (World.block_lt_of_cell? w _ hx154_1)).trans hx154_1
                replace hx154_2 := (HB.out.cell (World.block_lt_of_cell? w _ hx154_2)).trans hx154_2
                replace hx154_3 := (HB.out.cell (World.block_lt_of_cell? w _ hx154_3)).trans hx154_3
                have HR154_3 := Aside0.mk hi154_3
                have HC154_3 := Aside0.mk hl154_3
                clear hi154_3 hl154_3
                replace p154 := eq_true p154
                replace q154 := eq_true q154
                go_wp2_with (first | ((with_reducible refine gate_dst (N := 17) rfl ?_); refine box_event ?hg (N := 17) ?hd (cs := #[.int .i64 0, .int .i64 0, .string (⟨#[]⟩ : ByteArray), .slice none 0 0]) (t := 125) ?hr ?_; (case hd => rfl); (case hg => rfl); (case hr => first | (go_simp; done) | (go_simp; rfl)); intro gb155 hg w16 hbox hb; have n0_ := Aside0.mk (blk_below (g := gb153) (o := .cells #[.slice (some ad154) l0_0.length c0_0, .int .i64 a0_1] 50 (0, 0)) (by (with_reducible repeat (first | refine blk_drewN ?_ _ | refine blk_drew ?_ | refine blk_alloc ?_ _)); exact BK153.out) hb); have n1_ := Aside0.mk (below_step (by repeat (first | (with_reducible first | exact HB.out | apply below_alloc | apply pw_below_drewN | apply below_drew1 | refine below_set ?_ GE153.out) | exact HB.out)) hb); have n2_ := Aside0.mk (hbox); have n3_ := Aside0.mk ((by rw [hg]; exact (below_size (by repeat (first | (with_reducible first | exact HB.out | apply below_alloc | apply pw_below_drewN | apply below_drew1 | refine below_set ?_ GE153.out) | exact HB.out))) : w.heap.size ≤ gb155)); have n4_ := Aside0.mk ((by rw [hg]; exact (below_size (by repeat (first | (with_reducible first | exact HB.out | apply below_alloc | apply pw_below_drewN | apply below_drew1 | refine below_set ?_ GE153.out) | exact HB.out))) : w.heap.size ≤ gb155)); have n5_ := Aside0.mk ((by rw [hg]; exact Nat.ne_of_lt (blk_lt (g := gb153) (o := .cells #[.slice (some ad154) l0_0.length c0_0, .int .i64 a0_1] 50 (0, 0)) (by (with_reducible repeat (first | refine blk_drewN ?_ _ | refine blk_drew ?_ | refine blk_alloc ?_ _)); exact BK153.out)) : gb153 ≠ gb155)); have n6_ := Aside0.mk ((by rw [hg]; exact Nat.ne_of_gt (blk_lt (g := gb153) (o := .cells #[.slice (some ad154) l0_0.length c0_0, .int .i64 a0_1] 50 (0, 0)) (by (with_reducible repeat (first | refine blk_drewN ?_ _ | refine blk_drew ?_ | refine blk_alloc ?_ _)); exact BK153.out)) : gb155 ≠ gb153)); clear BK153; clear HB; have BK153 := n0_; have HB := n1_; have BK155 := n2_; have GW155 := n3_; have GE155 := n4_; have NB153_155 := n5_; have NB155_153 := n6_; clear n0_ n1_ n2_ n3_ n4_ n5_ n6_; clear hb hbox hg; have hnb17 := NB155_153.out; have hnc17 := NB153_155.out; have hcz18_0 : w16.cell? ⟨gb155, 0, none⟩ = some (.int .i64 0) := (blk_cell BK155.out 0).trans rfl; have hcz18_1 : w16.cell? ⟨gb155, 1, none⟩ = some (.int .i64 0) := (blk_cell BK155.out 1).trans rfl; have hcz18_2 : w16.cell? ⟨gb155, 2, none⟩ = some (.string (⟨#[]⟩ : ByteArray)) := (blk_cell BK155.out 2).trans rfl; have hcz18_3 : w16.cell? ⟨gb155, 3, none⟩ = some (.slice none 0 0) := (blk_cell BK155.out 3).trans rfl; have hfz18_0 := blk_frozen BK155.out 0; have hfz18_1 := blk_frozen BK155.out 1; have hfz18_2 := blk_frozen BK155.out 2; have hfz18_3 := blk_frozen BK155.out 3))
                go_ret2
                exact ⟨by first | rfl | (simp [errW_none, errW_some] <;> rfl) | (simp [*, errW_none, errW_some] <;> rfl), by repeat (first | (with_reducible first | exact HB.out | apply below_alloc | apply pw_below_drewN | apply below_drew1 | refine below_set ?_ GE153.out | refine below_set ?_ GE155.out) | exact HB.out)⟩
              · rw [if_neg c15] at H
                have c15b0 : decide (60 < (((rd_T125 l0_0 x27_1).f3).length : Int)) = false := decide_eq_false c15
                have c15b1 : decide (60 < ((rd_T125 l0_0 x27_1).f3).length) = false := decide_eq_false (by omega)
                clear c15
                have H' := Aside0.mk H
                clear H
                have p154 : 0 ≤ (x27_1 : Int) := of_decide_eq_true (by first | (with_reducible assumption) | assumption)
                have q154 : x27_1 < (l0_0.length : Int) := of_decide_eq_true (by first | (with_reducible assumption) | assumption)
                obtain ⟨ad154, A154_3, c154_3, e154, hx154_0, hx154_1, hx154_2, hx154_3, hl154_3, hi154_3⟩ := at_T125 HR0_0.out x27_1 p154 q154
                cases e154
                replace hx154_0 := (HB.out.cell (World.block_lt_of_cell? w _ hx154_0)).trans hx154_0
                replace hx154_1 := (HB.out.cell (World.block_lt_of_cell? w _ hx154_1)).trans hx154_1
                replace hx154_2 := (HB.out.cell (World.block_lt_of_cell? w _ hx154_2)).trans hx154_2
                replace hx154_3 := (HB.out.cell (World.block_lt_of_cell? w _ hx154_3)).trans hx154_3
                have HR154_3 := Aside0.mk hi154_3
                have HC154_3 := Aside0.mk hl154_3
                clear hi154_3 hl154_3
                replace p154 := eq_true p154
                replace q154 := eq_true q154
                go_wp2_with (first | ((with_reducible refine gate_dst (N := 17) rfl ?_); refine box_event ?hg (N := 17) ?hd (cs := #[.int .i64 0, .int .i64 0, .string (⟨#[]⟩ : ByteArray), .slice none 0 0]) (t := 125) ?hr ?_; (case hd => rfl); (case hg => rfl); (case hr => first | (go_simp; done) | (go_simp; rfl)); intro gb155 hg w19 hbox hb; have n0_ := Aside0.mk (blk_below (g := gb153) (o := .cells #[.slice (some ad154) l0_0.length c0_0, .int .i64 a0_1] 50 (0, 0)) (by (with_reducible repeat (first | refine blk_drewN ?_ _ | refine blk_drew ?_ | refine blk_alloc ?_ _)); exact BK153.out) hb); have n1_ := Aside0.mk (below_step (by repeat (first | (with_reducible first | exact HB.out | apply below_alloc | apply pw_below_drewN | apply below_drew1 | refine below_set ?_ GE153.out) | exact HB.out)) hb); have n2_ := Aside0.mk (hbox); have n3_ := Aside0.mk ((by rw [hg]; exact (below_size (by repeat (first | (with_reducible first | exact HB.out | apply below_alloc | apply pw_below_drewN | apply below_drew1 | refine below_set ?_ GE153.out) | exact HB.out))) : w.heap.size ≤ gb155)); have n4_ := Aside0.mk ((by rw [hg]; exact (below_size (by repeat (first | (with_reducible first | exact HB.out | apply below_alloc | apply pw_below_drewN | apply below_drew1 | refine below_set ?_ GE153.out) | exact HB.out))) : w.heap.size ≤ gb155)); have n5_ := Aside0.mk ((by rw [hg]; exact Nat.ne_of_lt (blk_lt (g := gb153) (o := .cells #[.slice (some ad154) l0_0.length c0_0, .int .i64 a0_1] 50 (0, 0)) (by (with_reducible repeat (first | refine blk_drewN ?_ _ | refine blk_drew ?_ | refine blk_alloc ?_ _)); exact BK153.out)) : gb153 ≠ gb155)); have n6_ := Aside0.mk ((by rw [hg]; exact Nat.ne_of_gt (blk_lt (g := gb153) (o := .cells #[.slice (some ad154) l0_0.length c0_0, .int .i64 a0_1] 50 (0, 0)) (by (with_reducible repeat (first | refine blk_drewN ?_ _ | refine blk_drew ?_ | refine blk_alloc ?_ _)); exact BK153.out)) : gb155 ≠ gb153)); clear BK153; clear HB; have BK153 := n0_; have HB := n1_; have BK155 := n2_; have GW155 := n3_; have GE155 := n4_; have NB153_155 := n5_; have NB155_153 := n6_; clear n0_ n1_ n2_ n3_ n4_ n5_ n6_; clear hb hbox hg; have hnb20 := NB155_153.out; have hnc20 := NB153_155.out; have hcz21_0 : w19.cell? ⟨gb155, 0, none⟩ = some (.int .i64 0) := (blk_cell BK155.out 0).trans rfl; have hcz21_1 : w19.cell? ⟨gb155, 1, none⟩ = some (.int .i64 0) := (blk_cell BK155.out 1).trans rfl; have hcz21_2 : w19.cell? ⟨gb155, 2, none⟩ = some (.string (⟨#[]⟩ : ByteArray)) := (blk_cell BK155.out 2).trans rfl; have hcz21_3 : w19.cell? ⟨gb155, 3, none⟩ = some (.slice none 0 0) := (blk_cell BK155.out 3).trans rfl; have hfz21_0 := blk_frozen BK155.out 0; have hfz21_1 := blk_frozen BK155.out 1; have hfz21_2 := blk_frozen BK155.out 2; have hfz21_3 := blk_frozen BK155.out 3))
                go_loopg [14, 15, 38] k1 (fun kq v14 v15 v38 w' => ∃ (x14_2 : Int) (x15_2 : Int) (x38_2 : Int), v14 = .int .i64 x14_2 ∧ v15 = .int .i64 x15_2 ∧ v38 = .int .i64 x38_2 ∧ Aside0 (impl_Balance.l1 kq a1 a2 a3 a4 a5 x14_2 x15_2 l0_0 (l0_0.length : Int) x27_1 ((rd_T125 l0_0 x27_1).f3) (((rd_T125 l0_0 x27_1).f3).length : Int) x38_2 ((rd_T125 l0_0 x27_1).f0) ((rd_T125 l0_0 x27_1).f1) ((rd_T125 l0_0 x27_1).f2) ((rd_T125 l0_0 x27_1).f3) = some (r1, r2)) ∧ Aside0 (kq ≤ k1) ∧ Aside0 (w'.heap[gb153]? = some (.cells #[(.slice (some ad154) l0_0.length c0_0), .int .i64 a0_1] 50 (0, 0))) ∧ Aside0 (w'.heap[gb155]? = some (.cells #[.int .i64 ((rd_T125 l0_0 x27_1).f0), .int .i64 ((rd_T125 l0_0 x27_1).f1), .string ((rd_T125 l0_0 x27_1).f2), (.slice A154_3 ((rd_T125 l0_0 x27_1).f3).length c154_3)] 125 (0, 0))) ∧ Aside0 (Below w.heap.size w w'))
                case atStart => exact ⟨(x14_1), (x15_1), (0), (by first | rfl | (simp; done) | (simp [*]; done)), (by first | rfl | (simp; done) | (simp [*]; done)), (by first | rfl | (simp; done) | (simp [*]; done)), H', ⟨Nat.le_refl _⟩, ⟨by (with_reducible repeat (first | refine blk_drewN ?_ _ | refine blk_drew ?_ | refine blk_alloc ?_ _)); refine blk_far ?_ NB153_155.out _; (with_reducible repeat (first | refine blk_drewN ?_ _ | refine blk_drew ?_ | refine blk_alloc ?_ _)); refine blk_far ?_ NB153_155.out _; (with_reducible repeat (first | refine blk_drewN ?_ _ | refine blk_drew ?_ | refine blk_alloc ?_ _)); refine blk_far ?_ NB153_155.out _; (with_reducible repeat (first | refine blk_drewN ?_ _ | refine blk_drew ?_ | refine blk_alloc ?_ _)); refine blk_far ?_ NB153_155.out _; (with_reducible repeat (first | refine blk_drewN ?_ _ | refine blk_drew ?_ | refine blk_alloc ?_ _)); exact BK153.out⟩, ⟨by (with_reducible repeat (first | refine blk_drewN ?_ _ | refine blk_drew ?_ | refine blk_alloc ?_ _)); refine blk_put (cs := #[.int .i64 ((rd_T125 l0_0 x27_1).f0), .int .i64 ((rd_T125 l0_0 x27_1).f1), .string ((rd_T125 l0_0 x27_1).f2), .slice none 0 0]) ?_ 3 _ rfl; (with_reducible repeat (first | refine blk_drewN ?_ _ | refine blk_drew ?_ | refine blk_alloc ?_ _)); refine blk_put (cs := #[.int .i64 ((rd_T125 l0_0 x27_1).f0), .int .i64 ((rd_T125 l0_0 x27_1).f1), .string (⟨#[]⟩ : ByteArray), .slice none 0 0]) ?_ 2 _ rfl; (with_reducible repeat (first | refine blk_drewN ?_ _ | refine blk_drew ?_ | refine blk_alloc ?_ _)); refine blk_put (cs := #[.int .i64 ((rd_T125 l0_0 x27_1).f0), .int .i64 0, .string (⟨#[]⟩ : ByteArray), .slice none 0 0]) ?_ 1 _ rfl; (with_reducible repeat (first | refine blk_drewN ?_ _ | refine blk_drew ?_ | refine blk_alloc ?_ _)); refine blk_put (cs := #[.int .i64 0, .int .i64 0, .string (⟨#[]⟩ : ByteArray), .slice none 0 0]) ?_ 0 _ rfl; (with_reducible repeat (first | refine blk_drewN ?_ _ | refine blk_drew ?_ | refine blk_alloc ?_ _)); exact BK155.out⟩, ⟨by repeat (first | (with_reducible first | exact HB.out | apply below_alloc | apply pw_below_drewN | apply below_drew1 | refine below_set ?_ GE153.out | refine below_set ?_ GE155.out) | exact HB.out)⟩⟩
                case round =>
                  clear H'
                  try clear c1
                  try clear p1
                  try clear q1
                  try clear hx1
                  try clear c2
                  try clear p2
                  try clear c7
                  try clear c7b0
                  try clear c7b1
                  try clear c12
                  try clear c12b0
                  try clear c13
                  try clear c13b0
                  try clear c14
                  try clear c14b0
                  try clear c15
                  try clear c15b0
                  try clear c15b1
                  try clear p15
                  try clear q15
                  try clear hx15
                  try clear c17
                  try clear c20
                  try clear hcz11_0
                  try clear hcz11_1
                  try clear hcz18_0
                  try clear hcz18_1
                  try clear hcz18_2
                  try clear hcz18_3
                  try clear hcz21_0
                  try clear hcz21_1
                  try clear hcz21_2
                  try clear hcz21_3
                  try clear hcz9_0
                  try clear hcz9_1
                  try clear hfz11_0
                  try clear hfz11_1
                  try clear hfz18_0
                  try clear hfz18_1
                  try clear hfz18_2
                  try clear hfz18_3
                  try clear hfz21_0
                  try clear hfz21_1
                  try clear hfz21_2
                  try clear hfz21_3
                  try clear hfz9_0
                  try clear hfz9_1
                  try clear hx154_0
                  try clear hx154_1
                  try clear hx154_2
                  try clear hx154_3
                  try clear p154
                  try clear p2
                  try clear q154
                  obtain ⟨x14_2, x15_2, x38_2, rfl, rfl, rfl, HA, HK2, BK153, BK155, HB⟩ := hrel
                  cases gk with
                  | zero => exact absurd HA.out (by simp [impl_Balance.l1])
                  | succ k2 =>
                    have H := HA.out
                    clear HA
                    simp only [impl_Balance.l1] at H
                    by_cases c22 : x38_2 < (((rd_T125 l0_0 x27_1).f3).length : Int)
                    · rw [if_pos c22] at H
                      have c22b0 : decide (x38_2 < (((rd_T125 l0_0 x27_1).f3).length : Int)) = true := decide_eq_true c22
                      clear c22
                      by_cases c23 : 0 ≤ x38_2
                      · rw [if_pos c23] at H
                        have c23b0 : decide (0 ≤ x38_2) = true := decide_eq_true c23
                        clear c23
                        by_cases c24 : x38_2 < (((rd_T125 l0_0 x27_1).f3).length : Int)
                        · rw [if_pos c24] at H
                          have c24b0 : decide (x38_2 < (((rd_T125 l0_0 x27_1).f3).length : Int)) = true := decide_eq_true c24
                          clear c24
                          have HC25 := Aside0.mk H
                          clear H
                          have p156 : 0 ≤ (x38_2 : Int) := of_decide_eq_true (by first | (with_reducible assumption) | assumption)
                          have q156 : x38_2 < (((rd_T125 l0_0 x27_1).f3).length : Int) := of_decide_eq_true (by first | (with_reducible assumption) | assumption)
                          obtain ⟨ad156, e156, hx156_0, hx156_1, hx156_2, hx156_3, hx156_4⟩ := at_T127 HR154_3.out x38_2 p156 q156
                          cases e156
                          replace hx156_0 := (HB.out.cell (World.block_lt_of_cell? w _ hx156_0)).trans hx156_0
                          replace hx156_1 := (HB.out.cell (World.block_lt_of_cell? w _ hx156_1)).trans hx156_1
                          replace hx156_2 := (HB.out.cell (World.block_lt_of_cell? w _ hx156_2)).trans hx156_2
                          replace hx156_3 := (HB.out.cell (World.block_lt_of_cell? w _ hx156_3)).trans hx156_3
                          replace hx156_4 := (HB.out.cell (World.block_lt_of_cell? w _ hx156_4)).trans hx156_4
                          replace p156 := eq_true p156
                          replace q156 := eq_true q156
                          go_upto_region 12 with (first | ((with_reducible refine gate_dst (N := 19) rfl ?_); refine box_event ?hg (N := 19) ?hd (cs := #[.int .i64 0, .int .i64 0, .int .i64 0, .int .i64 0, .int .i64 0]) (t := 127) ?hr ?_; (case hd => rfl); (case hg => rfl); (case hr => first | (go_simp; done) | (go_simp; rfl)); intro gb157 hg w26 hbox hb; have n0_ := Aside0.mk (blk_below (g := gb153) (o := .cells #[.slice (some ad154) l0_0.length c0_0, .int .i64 a0_1] 50 (0, 0)) (by (with_reducible repeat (first | refine blk_drewN ?_ _ | refine blk_drew ?_ | refine blk_alloc ?_ _)); exact BK153.out) hb); have n1_ := Aside0.mk (blk_below (g := gb155) (o := .cells #[.int .i64 ((rd_T125 l0_0 x27_1).f0), .int .i64 ((rd_T125 l0_0 x27_1).f1), .string ((rd_T125 l0_0 x27_1).f2), .slice (some ad156) ((rd_T125 l0_0 x27_1).f3).length c154_3] 125 (0, 0)) (by (with_reducible repeat (first | refine blk_drewN ?_ _ | refine blk_drew ?_ | refine blk_alloc ?_ _)); exact BK155.out) hb); have n2_ := Aside0.mk (below_step (by repeat (first | (with_reducible first | exact HB.out | apply below_alloc | apply pw_below_drewN | apply below_drew1 | refine below_set ?_ GE153.out | refine below_set ?_ GE155.out) | exact HB.out)) hb); have n3_ := Aside0.mk (hbox); have n4_ := Aside0.mk ((by rw [hg]; exact (below_size (by repeat (first | (with_reducible first | exact HB.out | apply below_alloc | apply pw_below_drewN | apply below_drew1 | refine below_set ?_ GE153.out | refine below_set ?_ GE155.out) | exact HB.out))) : w.heap.size ≤ gb157)); have n5_ := Aside0.mk ((by rw [hg]; exact (below_size (by repeat (first | (with_reducible first | exact HB.out | apply below_alloc | apply pw_below_drewN | apply below_drew1 | refine below_set ?_ GE153.out | refine below_set ?_ GE155.out) | exact HB.out))) : w.heap.size ≤ gb157)); have n6_ := Aside0.mk ((by rw [hg]; exact Nat.ne_of_lt (blk_lt (g := gb153) (o := .cells #[.slice (some ad154) l0_0.length c0_0, .int .i64 a0_1] 50 (0, 0)) (by (with_reducible repeat (first | refine blk_drewN ?_ _ | refine blk_drew ?_ | refine blk_alloc ?_ _)); exact BK153.out)) : gb153 ≠ gb157)); have n7_ := Aside0.mk ((by rw [hg]; exact Nat.ne_of_gt (blk_lt (g := gb153) (o := .cells #[.slice (some ad154) l0_0.length c0_0, .int .i64 a0_1] 50 (0, 0)) (by (with_reducible repeat (first | refine blk_drewN ?_ _ | refine blk_drew ?_ | refine blk_alloc ?_ _)); exact BK153.out)) : gb157 ≠ gb153)); have n8_ := Aside0.mk ((by rw [hg]; exact Nat.ne_of_lt (blk_lt (g := gb155) (o := .cells #[.int .i64 ((rd_T125 l0_0 x27_1).f0), .int .i64 ((rd_T125 l0_0 x27_1).f1), .string ((rd_T125 l0_0 x27_1).f2), .slice (some ad156) ((rd_T125 l0_0 x27_1).f3).length c154_3] 125 (0, 0)) (by (with_reducible repeat (first | refine blk_drewN ?_ _ | refine blk_drew ?_ | refine blk_alloc ?_ _)); exact BK155.out)) : gb155 ≠ gb157)); have n9_ := Aside0.mk ((by rw [hg]; exact Nat.ne_of_gt (blk_lt (g := gb155) (o := .cells #[.int .i64 ((rd_T125 l0_0 x27_1).f0), .int .i64 ((rd_T125 l0_0 x27_1).f1), .string ((rd_T125 l0_0 x27_1).f2), .slice (some ad156) ((rd_T125 l0_0 x27_1).f3).length c154_3] 125 (0, 0)) (by (with_reducible repeat (first | refine blk_drewN ?_ _ | refine blk_drew ?_ | refine blk_alloc ?_ _)); exact BK155.out)) : gb157 ≠ gb155)); clear BK153; clear BK155; clear HB; have BK153 := n0_; have BK155 := n1_; have HB := n2_; have BK157 := n3_; have GW157 := n4_; have GE157 := n5_; have NB153_157 := n6_; have NB157_153 := n7_; have NB155_157 := n8_; have NB157_155 := n9_; clear n0_ n1_ n2_ n3_ n4_ n5_ n6_ n7_ n8_ n9_; clear hb hbox hg; have hnb27 := NB157_153.out; have hnc27 := NB153_157.out; have hnb28 := NB157_155.out; have hnc28 := NB155_157.out; have hcz29_0 : w26.cell? ⟨gb157, 0, none⟩ = some (.int .i64 0) := (blk_cell BK157.out 0).trans rfl; have hcz29_1 : w26.cell? ⟨gb157, 1, none⟩ = some (.int .i64 0) := (blk_cell BK157.out 1).trans rfl; have hcz29_2 : w26.cell? ⟨gb157, 2, none⟩ = some (.int .i64 0) := (blk_cell BK157.out 2).trans rfl; have hcz29_3 : w26.cell? ⟨gb157, 3, none⟩ = some (.int .i64 0) := (blk_cell BK157.out 3).trans rfl; have hcz29_4 : w26.cell? ⟨gb157, 4, none⟩ = some (.int .i64 0) := (blk_cell BK157.out 4).trans rfl; have hfz29_0 := blk_frozen BK157.out 0; have hfz29_1 := blk_frozen BK157.out 1; have hfz29_2 := blk_frozen BK157.out 2; have hfz29_3 := blk_frozen BK157.out 3; have hfz29_4 := blk_frozen BK157.out 4))
                          (try simp only [Act.put, List.setIfInBounds_toArray, List.set_cons_zero, List.set_cons_succ])
                          go_cut [51] (fun v51 wc => ∃ (kq : Nat) (x51_24 : Bool), v51 = .bool x51_24 ∧ Aside0 (impl_Balance.j2 kq a1 a2 a3 a4 a5 x14_2 x15_2 l0_0 (l0_0.length : Int) x27_1 ((rd_T125 l0_0 x27_1).f3) (((rd_T125 l0_0 x27_1).f3).length : Int) x38_2 x51_24 ((rd_T125 l0_0 x27_1).f0) ((rd_T125 l0_0 x27_1).f1) ((rd_T125 l0_0 x27_1).f2) ((rd_T125 l0_0 x27_1).f3) ((rd_T127 ((rd_T125 l0_0 x27_1).f3) x38_2).f0) ((rd_T127 ((rd_T125 l0_0 x27_1).f3) x38_2).f1) ((rd_T127 ((rd_T125 l0_0 x27_1).f3) x38_2).f2) ((rd_T127 ((rd_T125 l0_0 x27_1).f3) x38_2).f3) ((rd_T127 ((rd_T125 l0_0 x27_1).f3) x38_2).f4) = some (r1, r2)) ∧ Aside0 (kq ≤ k2) ∧ Aside0 (wc.heap[gb153]? = some (.cells #[(.slice (some ad154) l0_0.length c0_0), .int .i64 a0_1] 50 (0, 0))) ∧ Aside0 (wc.heap[gb155]? = some (.cells #[.int .i64 ((rd_T125 l0_0 x27_1).f0), .int .i64 ((rd_T125 l0_0 x27_1).f1), .string ((rd_T125 l0_0 x27_1).f2), (.slice (some ad156) ((rd_T125 l0_0 x27_1).f3).length c154_3)] 125 (0, 0))) ∧ Aside0 (wc.heap[gb157]? = some (.cells #[.int .i64 ((rd_T127 ((rd_T125 l0_0 x27_1).f3) x38_2).f0), .int .i64 ((rd_T127 ((rd_T125 l0_0 x27_1).f3) x38_2).f1), .int .i64 ((rd_T127 ((rd_T125 l0_0 x27_1).f3) x38_2).f2), .int .i64 ((rd_T127 ((rd_T125 l0_0 x27_1).f3) x38_2).f3), .int .i64 ((rd_T127 ((rd_T125 l0_0 x27_1).f3) x38_2).f4)] 127 (0, 0))) ∧ Aside0 (Below w.heap.size w wc))
                          case first =>
                            have H := HC25.out
                            clear HC25
                            replace H := Option.bind_eq_some_iff.mp H
                            obtain ⟨t158, A300, H⟩ := H
                            replace H : (if t158 = true then ((impl_amount.f ((rd_T127 ((rd_T125 l0_0 x27_1).f3) x38_2).f4)).bind fun t159 => (impl_Balance.j2 k2 a1 a2 a3 a4 a5 x14_2 x15_2 l0_0 (l0_0.length : Int) x27_1 ((rd_T125 l0_0 x27_1).f3) (((rd_T125 l0_0 x27_1).f3).length : Int) x38_2 (!t159) ((rd_T125 l0_0 x27_1).f0) ((rd_T125 l0_0 x27_1).f1) ((rd_T125 l0_0 x27_1).f2) ((rd_T125 l0_0 x27_1).f3) ((rd_T127 ((rd_T125 l0_0 x27_1).f3) x38_2).f0) ((rd_T127 ((rd_T125 l0_0 x27_1).f3) x38_2).f1) ((rd_T127 ((rd_T125 l0_0 x27_1).f3) x38_2).f2) ((rd_T127 ((rd_T125 l0_0 x27_1).f3) x38_2).f3) ((rd_T127 ((rd_T125 l0_0 x27_1).f3) x38_2).f4))) else (impl_Balance.j2 k2 a1 a2 a3 a4 a5 x14_2 x15_2 l0_0 (l0_0.length : Int) x27_1 ((rd_T125 l0_0 x27_1).f3) (((rd_T125 l0_0 x27_1).f3).length : Int) x38_2 true ((rd_T125 l0_0 x27_1).f0) ((rd_T125 l0_0 x27_1).f1) ((rd_T125 l0_0 x27_1).f2) ((rd_T125 l0_0 x27_1).f3) ((rd_T127 ((rd_T125 l0_0 x27_1).f3) x38_2).f0) ((rd_T127 ((rd_T125 l0_0 x27_1).f3) x38_2).f1) ((rd_T127 ((rd_T125 l0_0 x27_1).f3) x38_2).f2) ((rd_T127 ((rd_T125 l0_0 x27_1).f3) x38_2).f3) ((rd_T127 ((rd_T125 l0_0 x27_1).f3) x38_2).f4))) = some (r1, r2) := H
                            have A30 := Aside0.mk A300
                            clear A300
                            by_cases c31 : t158 = true
                            · subst c31
                              have H1 : ((impl_amount.f ((rd_T127 ((rd_T125 l0_0 x27_1).f3) x38_2).f4)).bind fun t159 => (impl_Balance.j2 k2 a1 a2 a3 a4 a5 x14_2 x15_2 l0_0 (l0_0.length : Int) x27_1 ((rd_T125 l0_0 x27_1).f3) (((rd_T125 l0_0 x27_1).f3).length : Int) x38_2 (!t159) ((rd_T125 l0_0 x27_1).f0) ((rd_T125 l0_0 x27_1).f1) ((rd_T125 l0_0 x27_1).f2) ((rd_T125 l0_0 x27_1).f3) ((rd_T127 ((rd_T125 l0_0 x27_1).f3) x38_2).f0) ((rd_T127 ((rd_T125 l0_0 x27_1).f3) x38_2).f1) ((rd_T127 ((rd_T125 l0_0 x27_1).f3) x38_2).f2) ((rd_T127 ((rd_T125 l0_0 x27_1).f3) x38_2).f3) ((rd_T127 ((rd_T125 l0_0 x27_1).f3) x38_2).f4))) = some (r1, r2) := by rw [if_pos rfl] at H; exact H
                              clear H
                              have H := H1
                              clear H1
                              replace H := Option.bind_eq_some_iff.mp H
                              obtain ⟨t159, A320, H⟩ := H
                              replace H : (impl_Balance.j2 k2 a1 a2 a3 a4 a5 x14_2 x15_2 l0_0 (l0_0.length : Int) x27_1 ((rd_T125 l0_0 x27_1).f3) (((rd_T125 l0_0 x27_1).f3).length : Int) x38_2 (!t159) ((rd_T125 l0_0 x27_1).f0) ((rd_T125 l0_0 x27_1).f1) ((rd_T125 l0_0 x27_1).f2) ((rd_T125 l0_0 x27_1).f3) ((rd_T127 ((rd_T125 l0_0 x27_1).f3) x38_2).f0) ((rd_T127 ((rd_T125 l0_0 x27_1).f3) x38_2).f1) ((rd_T127 ((rd_T125 l0_0 x27_1).f3) x38_2).f2) ((rd_T127 ((rd_T125 l0_0 x27_1).f3) x38_2).f3) ((rd_T127 ((rd_T125 l0_0 x27_1).f3) x38_2).f4)) = some (r1, r2) := H
                              have A32 := Aside0.mk A320
                              clear A320
                              have H' := Aside0.mk H
                              clear H
                              have hnb33 := NB157_153.out
                              have hnc33 := NB153_157.out
                              have hnb34 := NB157_155.out
                              have hnc34 := NB155_157.out
                              have hcz35_0 : w26.cell? ⟨gb157, 0, none⟩ = some (.int .i64 0) := (blk_cell BK157.out 0).trans rfl
                              have hcz35_1 : w26.cell? ⟨gb157, 1, none⟩ = some (.int .i64 0) := (blk_cell BK157.out 1).trans rfl
                              have hcz35_2 : w26.cell? ⟨gb157, 2, none⟩ = some (.int .i64 0) := (blk_cell BK157.out 2).trans rfl
                              have hcz35_3 : w26.cell? ⟨gb157, 3, none⟩ = some (.int .i64 0) := (blk_cell BK157.out 3).trans rfl
                              have hcz35_4 : w26.cell? ⟨gb157, 4, none⟩ = some (.int .i64 0) := (blk_cell BK157.out 4).trans rfl
                              have hfz35_0 := blk_frozen BK157.out 0
                              have hfz35_1 := blk_frozen BK157.out 1
                              have hfz35_2 := blk_frozen BK157.out 2
                              have hfz35_3 := blk_frozen BK157.out 3
                              have hfz35_4 := blk_frozen BK157.out 4
                              go_wp2_with (first | ((with_reducible refine gate_callee (f := 84) rfl ?_); refine goesL_ (some 44) rfl rfl Try.func84 (by kernel_rfl) rfl #[.int .i64 ((rd_T127 ((rd_T125 l0_0 x27_1).f3) x38_2).f3)] rfl (by (try simp only [List.map_toArray, List.map_cons, List.map_nil]); first | done | rfl | (simp only [List.length_drop, List.length_take]; rfl)) ?_; (with_reducible refine (impl_amount.calls ((rd_T127 ((rd_T125 l0_0 x27_1).f3) x38_2).f3) true _ A30.out).mono ?_); rintro e w' ⟨rfl, ⟨nd, rfl⟩⟩; refine ⟨_, rfl, ?_⟩) | (go_at_call 84; (with_reducible refine (impl_amount.calls ((rd_T127 ((rd_T125 l0_0 x27_1).f3) x38_2).f4) t159 _ A32.out).mono ?_); rintro e w' ⟨rfl, ⟨nd, rfl⟩⟩))
                              go_meet
                              case rel => exact ⟨_, (!t159), (by first | rfl | (simp; done) | (simp [*]; done)), H', ⟨by have := HK1.out; have := HK2.out; first | omega | exact Nat.le_refl _⟩, ⟨by (with_reducible repeat (first | refine blk_drewN ?_ _ | refine blk_drew ?_ | refine blk_alloc ?_ _)); refine blk_far ?_ NB153_157.out _; (with_reducible repeat (first | refine blk_drewN ?_ _ | refine blk_drew ?_ | refine blk_alloc ?_ _)); refine blk_far ?_ NB153_157.out _; (with_reducible repeat (first | refine blk_drewN ?_ _ | refine blk_drew ?_ | refine blk_alloc ?_ _)); refine blk_far ?_ NB153_157.out _; (with_reducible repeat (first | refine blk_drewN ?_ _ | refine blk_drew ?_ | refine blk_alloc ?_ _)); refine blk_far ?_ NB153_157.out _; (with_reducible repeat (first | refine blk_drewN ?_ _ | refine blk_drew ?_ | refine blk_alloc ?_ _)); refine blk_far ?_ NB153_157.out _; (with_reducible repeat (first | refine blk_drewN ?_ _ | refine blk_drew ?_ | refine blk_alloc ?_ _)); exact BK153.out⟩, ⟨by (with_reducible repeat (first | refine blk_drewN ?_ _ | refine blk_drew ?_ | refine blk_alloc ?_ _)); refine blk_far ?_ NB155_157.out _; (with_reducible repeat (first | refine blk_drewN ?_ _ | refine blk_drew ?_ | refine blk_alloc ?_ _)); refine blk_far ?_ NB155_157.out _; (with_reducible repeat (first | refine blk_drewN ?_ _ | refine blk_drew ?_ | refine blk_alloc ?_ _)); refine blk_far ?_ NB155_157.out _; (with_reducible repeat (first | refine blk_drewN ?_ _ | refine blk_drew ?_ | refine blk_alloc ?_ _)); refine blk_far ?_ NB155_157.out _; (with_reducible repeat (first | refine blk_drewN ?_ _ | refine blk_drew ?_ | refine blk_alloc ?_ _)); refine blk_far ?_ NB155_157.out _; (with_reducible repeat (first | refine blk_drewN ?_ _ | refine blk_drew ?_ | refine blk_alloc ?_ _)); exact BK155.out⟩, ⟨by (with_reducible repeat (first | refine blk_drewN ?_ _ | refine blk_drew ?_ | refine blk_alloc ?_ _)); refine blk_put (cs := #[.int .i64 ((rd_T127 ((rd_T125 l0_0 x27_1).f3) x38_2).f0), .int .i64 ((rd_T127 ((rd_T125 l0_0 x27_1).f3) x38_2).f1), .int .i64 ((rd_T127 ((rd_T125 l0_0 x27_1).f3) x38_2).f2), .int .i64 ((rd_T127 ((rd_T125 l0_0 x27_1).f3) x38_2).f3), .int .i64 0]) ?_ 4 _ rfl; (with_reducible repeat (first | refine blk_drewN ?_ _ | refine blk_drew ?_ | refine blk_alloc ?_ _)); refine blk_put (cs := #[.int .i64 ((rd_T127 ((rd_T125 l0_0 x27_1).f3) x38_2).f0), .int .i64 ((rd_T127 ((rd_T125 l0_0 x27_1).f3) x38_2).f1), .int .i64 ((rd_T127 ((rd_T125 l0_0 x27_1).f3) x38_2).f2), .int .i64 0, .int .i64 0]) ?_ 3 _ rfl; (with_reducible repeat (first | refine blk_drewN ?_ _ | refine blk_drew ?_ | refine blk_alloc ?_ _)); refine blk_put (cs := #[.int .i64 ((rd_T127 ((rd_T125 l0_0 x27_1).f3) x38_2).f0), .int .i64 ((rd_T127 ((rd_T125 l0_0 x27_1).f3) x38_2).f1), .int .i64 0, .int .i64 0, .int .i64 0]) ?_ 2 _ rfl; (with_reducible repeat (first | refine blk_drewN ?_ _ | refine blk_drew ?_ | refine blk_alloc ?_ _)); refine blk_put (cs := #[.int .i64 ((rd_T127 ((rd_T125 l0_0 x27_1).f3) x38_2).f0), .int .i64 0, .int .i64 0, .int .i64 0, .int .i64 0]) ?_ 1 _ rfl; (with_reducible repeat (first | refine blk_drewN ?_ _ | refine blk_drew ?_ | refine blk_alloc ?_ _)); refine blk_put (cs := #[.int .i64 0, .int .i64 0, .int .i64 0, .int .i64 0, .int .i64 0]) ?_ 0 _ rfl; (with_reducible repeat (first | refine blk_drewN ?_ _ | refine blk_drew ?_ | refine blk_alloc ?_ _)); exact BK157.out⟩, ⟨by repeat (first | (with_reducible first | exact HB.out | apply below_alloc | apply pw_below_drewN | apply below_drew1 | refine below_set ?_ GE153.out | refine below_set ?_ GE155.out | refine below_set ?_ GE157.out) | exact HB.out)⟩⟩
                            · replace c31 := Bool.eq_false_iff.mpr c31
                              subst c31
                              have H1 : (impl_Balance.j2 k2 a1 a2 a3 a4 a5 x14_2 x15_2 l0_0 (l0_0.length : Int) x27_1 ((rd_T125 l0_0 x27_1).f3) (((rd_T125 l0_0 x27_1).f3).length : Int) x38_2 true ((rd_T125 l0_0 x27_1).f0) ((rd_T125 l0_0 x27_1).f1) ((rd_T125 l0_0 x27_1).f2) ((rd_T125 l0_0 x27_1).f3) ((rd_T127 ((rd_T125 l0_0 x27_1).f3) x38_2).f0) ((rd_T127 ((rd_T125 l0_0 x27_1).f3) x38_2).f1) ((rd_T127 ((rd_T125 l0_0 x27_1).f3) x38_2).f2) ((rd_T127 ((rd_T125 l0_0 x27_1).f3) x38_2).f3) ((rd_T127 ((rd_T125 l0_0 x27_1).f3) x38_2).f4)) = some (r1, r2) := by rw [if_neg (show ¬ (false = true) by decide)] at H; exact H
                              clear H
                              have H := H1
                              clear H1
                              have H' := Aside0.mk H
                              clear H
                              have hnb36 := NB157_153.out
                              have hnc36 := NB153_157.out
                              have hnb37 := NB157_155.out
                              have hnc37 := NB155_157.out
                              have hcz38_0 : w26.cell? ⟨gb157, 0, none⟩ = some (.int .i64 0) := (blk_cell BK157.out 0).trans rfl
                              have hcz38_1 : w26.cell? ⟨gb157, 1, none⟩ = some (.int .i64 0) := (blk_cell BK157.out 1).trans rfl
                              have hcz38_2 : w26.cell? ⟨gb157, 2, none⟩ = some (.int .i64 0) := (blk_cell BK157.out 2).trans rfl
                              have hcz38_3 : w26.cell? ⟨gb157, 3, none⟩ = some (.int .i64 0) := (blk_cell BK157.out 3).trans rfl
                              have hcz38_4 : w26.cell? ⟨gb157, 4, none⟩ = some (.int .i64 0) := (blk_cell BK157.out 4).trans rfl
                              have hfz38_0 := blk_frozen BK157.out 0
                              have hfz38_1 := blk_frozen BK157.out 1
                              have hfz38_2 := blk_frozen BK157.out 2
                              have hfz38_3 := blk_frozen BK157.out 3
                              have hfz38_4 := blk_frozen BK157.out 4
                              go_wp2_with (first | ((with_reducible refine gate_callee (f := 84) rfl ?_); refine goesL_ (some 44) rfl rfl Try.func84 (by kernel_rfl) rfl #[.int .i64 ((rd_T127 ((rd_T125 l0_0 x27_1).f3) x38_2).f3)] rfl (by (try simp only [List.map_toArray, List.map_cons, List.map_nil]); first | done | rfl | (simp only [List.length_drop, List.length_take]; rfl)) ?_; (with_reducible refine (impl_amount.calls ((rd_T127 ((rd_T125 l0_0 x27_1).f3) x38_2).f3) false _ A30.out).mono ?_); rintro e w' ⟨rfl, ⟨nd, rfl⟩⟩; refine ⟨_, rfl, ?_⟩))
                              go_meet
                              case rel => exact ⟨_, (true), (by first | rfl | (simp; done) | (simp [*]; done)), H', ⟨by have := HK1.out; have := HK2.out; first | omega | exact Nat.le_refl _⟩, ⟨by (with_reducible repeat (first | refine blk_drewN ?_ _ | refine blk_drew ?_ | refine blk_alloc ?_ _)); refine blk_far ?_ NB153_157.out _; (with_reducible repeat (first | refine blk_drewN ?_ _ | refine blk_drew ?_ | refine blk_alloc ?_ _)); refine blk_far ?_ NB153_157.out _; (with_reducible repeat (first | refine blk_drewN ?_ _ | refine blk_drew ?_ | refine blk_alloc ?_ _)); refine blk_far ?_ NB153_157.out _; (with_reducible repeat (first | refine blk_drewN ?_ _ | refine blk_drew ?_ | refine blk_alloc ?_ _)); refine blk_far ?_ NB153_157.out _; (with_reducible repeat (first | refine blk_drewN ?_ _ | refine blk_drew ?_ | refine blk_alloc ?_ _)); refine blk_far ?_ NB153_157.out _; (with_reducible repeat (first | refine blk_drewN ?_ _ | refine blk_drew ?_ | refine blk_alloc ?_ _)); exact BK153.out⟩, ⟨by (with_reducible repeat (first | refine blk_drewN ?_ _ | refine blk_drew ?_ | refine blk_alloc ?_ _)); refine blk_far ?_ NB155_157.out _; (with_reducible repeat (first | refine blk_drewN ?_ _ | refine blk_drew ?_ | refine blk_alloc ?_ _)); refine blk_far ?_ NB155_157.out _; (with_reducible repeat (first | refine blk_drewN ?_ _ | refine blk_drew ?_ | refine blk_alloc ?_ _)); refine blk_far ?_ NB155_157.out _; (with_reducible repeat (first | refine blk_drewN ?_ _ | refine blk_drew ?_ | refine blk_alloc ?_ _)); refine blk_far ?_ NB155_157.out _; (with_reducible repeat (first | refine blk_drewN ?_ _ | refine blk_drew ?_ | refine blk_alloc ?_ _)); refine blk_far ?_ NB155_157.out _; (with_reducible repeat (first | refine blk_drewN ?_ _ | refine blk_drew ?_ | refine blk_alloc ?_ _)); exact BK155.out⟩, ⟨by (with_reducible repeat (first | refine blk_drewN ?_ _ | refine blk_drew ?_ | refine blk_alloc ?_ _)); refine blk_put (cs := #[.int .i64 ((rd_T127 ((rd_T125 l0_0 x27_1).f3) x38_2).f0), .int .i64 ((rd_T127 ((rd_T125 l0_0 x27_1).f3) x38_2).f1), .int .i64 ((rd_T127 ((rd_T125 l0_0 x27_1).f3) x38_2).f2), .int .i64 ((rd_T127 ((rd_T125 l0_0 x27_1).f3) x38_2).f3), .int .i64 0]) ?_ 4 _ rfl; (with_reducible repeat (first | refine blk_drewN ?_ _ | refine blk_drew ?_ | refine blk_alloc ?_ _)); refine blk_put (cs := #[.int .i64 ((rd_T127 ((rd_T125 l0_0 x27_1).f3) x38_2).f0), .int .i64 ((rd_T127 ((rd_T125 l0_0 x27_1).f3) x38_2).f1), .int .i64 ((rd_T127 ((rd_T125 l0_0 x27_1).f3) x38_2).f2), .int .i64 0, .int .i64 0]) ?_ 3 _ rfl; (with_reducible repeat (first | refine blk_drewN ?_ _ | refine blk_drew ?_ | refine blk_alloc ?_ _)); refine blk_put (cs := #[.int .i64 ((rd_T127 ((rd_T125 l0_0 x27_1).f3) x38_2).f0), .int .i64 ((rd_T127 ((rd_T125 l0_0 x27_1).f3) x38_2).f1), .int .i64 0, .int .i64 0, .int .i64 0]) ?_ 2 _ rfl; (with_reducible repeat (first | refine blk_drewN ?_ _ | refine blk_drew ?_ | refine blk_alloc ?_ _)); refine blk_put (cs := #[.int .i64 ((rd_T127 ((rd_T125 l0_0 x27_1).f3) x38_2).f0), .int .i64 0, .int .i64 0, .int .i64 0, .int .i64 0]) ?_ 1 _ rfl; (with_reducible repeat (first | refine blk_drewN ?_ _ | refine blk_drew ?_ | refine blk_alloc ?_ _)); refine blk_put (cs := #[.int .i64 0, .int .i64 0, .int .i64 0, .int .i64 0, .int .i64 0]) ?_ 0 _ rfl; (with_reducible repeat (first | refine blk_drewN ?_ _ | refine blk_drew ?_ | refine blk_alloc ?_ _)); exact BK157.out⟩, ⟨by repeat (first | (with_reducible first | exact HB.out | apply below_alloc | apply pw_below_drewN | apply below_drew1 | refine below_set ?_ GE153.out | refine below_set ?_ GE155.out | refine below_set ?_ GE157.out) | exact HB.out)⟩⟩
                          case rest =>
                            clear HC25
                            try clear c1
                            try clear p1
                            try clear q1
                            try clear hx1
                            try clear c2
                            try clear p2
                            try clear c3
                            try clear c7
                            try clear c7b0
                            try clear c7b1
                            try clear c8
                            try clear c12
                            try clear c12b0
                            try clear c13
                            try clear c13b0
                            try clear c14
                            try clear c14b0
                            try clear c15
                            try clear c15b0
                            try clear c15b1
                            try clear p15
                            try clear q15
                            try clear hx15
                            try clear c17
                            try clear c20
                            try clear c22
                            try clear c22b0
                            try clear c23
                            try clear c23b0
                            try clear c24
                            try clear c24b0
                            try clear c26
                            try clear c27
                            try clear c28
                            try clear c31
                            try clear c33
                            try clear c34
                            try clear c36
                            try clear c37
                            try clear hcz11_0
                            try clear hcz11_1
                            try clear hcz18_0
                            try clear hcz18_1
                            try clear hcz18_2
                            try clear hcz18_3
                            try clear hcz21_0
                            try clear hcz21_1
                            try clear hcz21_2
                            try clear hcz21_3
                            try clear hcz29_0
                            try clear hcz29_1
                            try clear hcz29_2
                            try clear hcz29_3
                            try clear hcz29_4
                            try clear hcz35_0
                            try clear hcz35_1
                            try clear hcz35_2
                            try clear hcz35_3
                            try clear hcz35_4
                            try clear hcz38_0
                            try clear hcz38_1
                            try clear hcz38_2
                            try clear hcz38_3
                            try clear hcz38_4
                            try clear hcz9_0
                            try clear hcz9_1
                            try clear hfz11_0
                            try clear hfz11_1
                            try clear hfz18_0
                            try clear hfz18_1
                            try clear hfz18_2
                            try clear hfz18_3
                            try clear hfz21_0
                            try clear hfz21_1
                            try clear hfz21_2
                            try clear hfz21_3
                            try clear hfz29_0
                            try clear hfz29_1
                            try clear hfz29_2
                            try clear hfz29_3
                            try clear hfz29_4
                            try clear hfz35_0
                            try clear hfz35_1
                            try clear hfz35_2
                            try clear hfz35_3
                            try clear hfz35_4
                            try clear hfz38_0
                            try clear hfz38_1
                            try clear hfz38_2
                            try clear hfz38_3
                            try clear hfz38_4
                            try clear hfz9_0
                            try clear hfz9_1
                            try clear hx154_0
                            try clear hx154_1
                            try clear hx154_2
                            try clear hx154_3
                            try clear hx156_0
                            try clear hx156_1
                            try clear hx156_2
                            try clear hx156_3
                            try clear hx156_4
                            try clear p1
                            try clear p15
                            try clear p154
                            try clear p156
                            try clear p2
                            try clear q1
                            try clear q15
                            try clear q154
                            try clear q156
                            obtain ⟨kq, x51_24, rfl, HA, HJ24, BK153, BK155, BK157, HB⟩ := hcut
                            cases kq with
                            | zero => exact absurd HA.out (by simp [impl_Balance.j2])
                            | succ kj24 =>
                              have H := HA.out
                              clear HA
                              simp only [impl_Balance.j2] at H
                              by_cases c39 : x51_24 = true
                              · subst c39
                                have H1 : (some (0, 0)) = some (r1, r2) := by rw [if_pos rfl] at H; exact H
                                clear H
                                have H := H1
                                clear H1
                                simp only [Option.some.injEq, Prod.mk.injEq] at H
                                obtain ⟨rfl, rfl⟩ := H
                                go_wp2
                                go_ret2
                                exact ⟨by first | rfl | (simp [errW_none, errW_some] <;> rfl) | (simp [*, errW_none, errW_some] <;> rfl), by repeat (first | (with_reducible first | exact HB.out | apply below_alloc | apply pw_below_drewN | apply below_drew1 | refine below_set ?_ GE153.out | refine below_set ?_ GE155.out | refine below_set ?_ GE157.out) | exact HB.out)⟩
                              · replace c39 := Bool.eq_false_iff.mpr c39
                                subst c39
                                have H1 : (if a4 ≤ ((rd_T125 l0_0 x27_1).f0) then (if ((rd_T125 l0_0 x27_1).f0) ≤ a5 then (if a1 = (-1) then (if a2 = (-1) then (if a3 = (-1) then (impl_Balance.l1 kj24 a1 a2 a3 a4 a5 (wrap64 (x14_2 + ((rd_T127 ((rd_T125 l0_0 x27_1).f3) x38_2).f3))) (wrap64 (x15_2 + ((rd_T127 ((rd_T125 l0_0 x27_1).f3) x38_2).f4))) l0_0 (l0_0.length : Int) x27_1 ((rd_T125 l0_0 x27_1).f3) (((rd_T125 l0_0 x27_1).f3).length : Int) (wrap64 (x38_2 + 1)) ((rd_T125 l0_0 x27_1).f0) ((rd_T125 l0_0 x27_1).f1) ((rd_T125 l0_0 x27_1).f2) ((rd_T125 l0_0 x27_1).f3)) else (if a3 = ((rd_T127 ((rd_T125 l0_0 x27_1).f3) x38_2).f2) then (impl_Balance.l1 kj24 a1 a2 a3 a4 a5 (wrap64 (x14_2 + ((rd_T127 ((rd_T125 l0_0 x27_1).f3) x38_2).f3))) (wrap64 (x15_2 + ((rd_T127 ((rd_T125 l0_0 x27_1).f3) x38_2).f4))) l0_0 (l0_0.length : Int) x27_1 ((rd_T125 l0_0 x27_1).f3) (((rd_T125 l0_0 x27_1).f3).length : Int) (wrap64 (x38_2 + 1)) ((rd_T125 l0_0 x27_1).f0) ((rd_T125 l0_0 x27_1).f1) ((rd_T125 l0_0 x27_1).f2) ((rd_T125 l0_0 x27_1).f3)) else (impl_Balance.l1 kj24 a1 a2 a3 a4 a5 x14_2 x15_2 l0_0 (l0_0.length : Int) x27_1 ((rd_T125 l0_0 x27_1).f3) (((rd_T125 l0_0 x27_1).f3).length : Int) (wrap64 (x38_2 + 1)) ((rd_T125 l0_0 x27_1).f0) ((rd_T125 l0_0 x27_1).f1) ((rd_T125 l0_0 x27_1).f2) ((rd_T125 l0_0 x27_1).f3)))) else (if a2 = ((rd_T127 ((rd_T125 l0_0 x27_1).f3) x38_2).f1) then (if a3 = (-1) then (impl_Balance.l1 kj24 a1 a2 a3 a4 a5 (wrap64 (x14_2 + ((rd_T127 ((rd_T125 l0_0 x27_1).f3) x38_2).f3))) (wrap64 (x15_2 + ((rd_T127 ((rd_T125 l0_0 x27_1).f3) x38_2).f4))) l0_0 (l0_0.length : Int) x27_1 ((rd_T125 l0_0 x27_1).f3) (((rd_T125 l0_0 x27_1).f3).length : Int) (wrap64 (x38_2 + 1)) ((rd_T125 l0_0 x27_1).f0) ((rd_T125 l0_0 x27_1).f1) ((rd_T125 l0_0 x27_1).f2) ((rd_T125 l0_0 x27_1).f3)) else (if a3 = ((rd_T127 ((rd_T125 l0_0 x27_1).f3) x38_2).f2) then (impl_Balance.l1 kj24 a1 a2 a3 a4 a5 (wrap64 (x14_2 + ((rd_T127 ((rd_T125 l0_0 x27_1).f3) x38_2).f3))) (wrap64 (x15_2 + ((rd_T127 ((rd_T125 l0_0 x27_1).f3) x38_2).f4))) l0_0 (l0_0.length : Int) x27_1 ((rd_T125 l0_0 x27_1).f3) (((rd_T125 l0_0 x27_1).f3).length : Int) (wrap64 (x38_2 + 1)) ((rd_T125 l0_0 x27_1).f0) ((rd_T125 l0_0 x27_1).f1) ((rd_T125 l0_0 x27_1).f2) ((rd_T125 l0_0 x27_1).f3)) else (impl_Balance.l1 kj24 a1 a2 a3 a4 a5 x14_2 x15_2 l0_0 (l0_0.length : Int) x27_1 ((rd_T125 l0_0 x27_1).f3) (((rd_T125 l0_0 x27_1).f3).length : Int) (wrap64 (x38_2 + 1)) ((rd_T125 l0_0 x27_1).f0) ((rd_T125 l0_0 x27_1).f1) ((rd_T125 l0_0 x27_1).f2) ((rd_T125 l0_0 x27_1).f3)))) else (impl_Balance.l1 kj24 a1 a2 a3 a4 a5 x14_2 x15_2 l0_0 (l0_0.length : Int) x27_1 ((rd_T125 l0_0 x27_1).f3) (((rd_T125 l0_0 x27_1).f3).length : Int) (wrap64 (x38_2 + 1)) ((rd_T125 l0_0 x27_1).f0) ((rd_T125 l0_0 x27_1).f1) ((rd_T125 l0_0 x27_1).f2) ((rd_T125 l0_0 x27_1).f3)))) else (if a1 = ((rd_T127 ((rd_T125 l0_0 x27_1).f3) x38_2).f0) then (if a2 = (-1) then (if a3 = (-1) then (impl_Balance.l1 kj24 a1 a2 a3 a4 a5 (wrap64 (x14_2 + ((rd_T127 ((rd_T125 l0_0 x27_1).f3) x38_2).f3))) (wrap64 (x15_2 + ((rd_T127 ((rd_T125 l0_0 x27_1).f3) x38_2).f4))) l0_0 (l0_0.length : Int) x27_1 ((rd_T125 l0_0 x27_1).f3) (((rd_T125 l0_0 x27_1).f3).length : Int) (wrap64 (x38_2 + 1)) ((rd_T125 l0_0 x27_1).f0) ((rd_T125 l0_0 x27_1).f1) ((rd_T125 l0_0 x27_1).f2) ((rd_T125 l0_0 x27_1).f3)) else (if a3 = ((rd_T127 ((rd_T125 l0_0 x27_1).f3) x38_2).f2) then (impl_Balance.l1 kj24 a1 a2 a3 a4 a5 (wrap64 (x14_2 + ((rd_T127 ((rd_T125 l0_0 x27_1).f3) x38_2).f3))) (wrap64 (x15_2 + ((rd_T127 ((rd_T125 l0_0 x27_1).f3) x38_2).f4))) l0_0 (l0_0.length : Int) x27_1 ((rd_T125 l0_0 x27_1).f3) (((rd_T125 l0_0 x27_1).f3).length : Int) (wrap64 (x38_2 + 1)) ((rd_T125 l0_0 x27_1).f0) ((rd_T125 l0_0 x27_1).f1) ((rd_T125 l0_0 x27_1).f2) ((rd_T125 l0_0 x27_1).f3)) else (impl_Balance.l1 kj24 a1 a2 a3 a4 a5 x14_2 x15_2 l0_0 (l0_0.length : Int) x27_1 ((rd_T125 l0_0 x27_1).f3) (((rd_T125 l0_0 x27_1).f3).length : Int) (wrap64 (x38_2 + 1)) ((rd_T125 l0_0 x27_1).f0) ((rd_T125 l0_0 x27_1).f1) ((rd_T125 l0_0 x27_1).f2) ((rd_T125 l0_0 x27_1).f3)))) else (if a2 = ((rd_T127 ((rd_T125 l0_0 x27_1).f3) x38_2).f1) then (if a3 = (-1) then (impl_Balance.l1 kj24 a1 a2 a3 a4 a5 (wrap64 (x14_2 + ((rd_T127 ((rd_T125 l0_0 x27_1).f3) x38_2).f3))) (wrap64 (x15_2 + ((rd_T127 ((rd_T125 l0_0 x27_1).f3) x38_2).f4))) l0_0 (l0_0.length : Int) x27_1 ((rd_T125 l0_0 x27_1).f3) (((rd_T125 l0_0 x27_1).f3).length : Int) (wrap64 (x38_2 + 1)) ((rd_T125 l0_0 x27_1).f0) ((rd_T125 l0_0 x27_1).f1) ((rd_T125 l0_0 x27_1).f2) ((rd_T125 l0_0 x27_1).f3)) else (if a3 = ((rd_T127 ((rd_T125 l0_0 x27_1).f3) x38_2).f2) then (impl_Balance.l1 kj24 a1 a2 a3 a4 a5 (wrap64 (x14_2 + ((rd_T127 ((rd_T125 l0_0 x27_1).f3) x38_2).f3))) (wrap64 (x15_2 + ((rd_T127 ((rd_T125 l0_0 x27_1).f3) x38_2).f4))) l0_0 (l0_0.length : Int) x27_1 ((rd_T125 l0_0 x27_1).f3) (((rd_T125 l0_0 x27_1).f3).length : Int) (wrap64 (x38_2 + 1)) ((rd_T125 l0_0 x27_1).f0) ((rd_T125 l0_0 x27_1).f1) ((rd_T125 l0_0 x27_1).f2) ((rd_T125 l0_0 x27_1).f3)) else (impl_Balance.l1 kj24 a1 a2 a3 a4 a5 x14_2 x15_2 l0_0 (l0_0.length : Int) x27_1 ((rd_T125 l0_0 x27_1).f3) (((rd_T125 l0_0 x27_1).f3).length : Int) (wrap64 (x38_2 + 1)) ((rd_T125 l0_0 x27_1).f0) ((rd_T125 l0_0 x27_1).f1) ((rd_T125 l0_0 x27_1).f2) ((rd_T125 l0_0 x27_1).f3)))) else (impl_Balance.l1 kj24 a1 a2 a3 a4 a5 x14_2 x15_2 l0_0 (l0_0.length : Int) x27_1 ((rd_T125 l0_0 x27_1).f3) (((rd_T125 l0_0 x27_1).f3).length : Int) (wrap64 (x38_2 + 1)) ((rd_T125 l0_0 x27_1).f0) ((rd_T125 l0_0 x27_1).f1) ((rd_T125 l0_0 x27_1).f2) ((rd_T125 l0_0 x27_1).f3)))) else (impl_Balance.l1 kj24 a1 a2 a3 a4 a5 x14_2 x15_2 l0_0 (l0_0.length : Int) x27_1 ((rd_T125 l0_0 x27_1).f3) (((rd_T125 l0_0 x27_1).f3).length : Int) (wrap64 (x38_2 + 1)) ((rd_T125 l0_0 x27_1).f0) ((rd_T125 l0_0 x27_1).f1) ((rd_T125 l0_0 x27_1).f2) ((rd_T125 l0_0 x27_1).f3)))) else (impl_Balance.l1 kj24 a1 a2 a3 a4 a5 x14_2 x15_2 l0_0 (l0_0.length : Int) x27_1 ((rd_T125 l0_0 x27_1).f3) (((rd_T125 l0_0 x27_1).f3).length : Int) (wrap64 (x38_2 + 1)) ((rd_T125 l0_0 x27_1).f0) ((rd_T125 l0_0 x27_1).f1) ((rd_T125 l0_0 x27_1).f2) ((rd_T125 l0_0 x27_1).f3))) else (impl_Balance.l1 kj24 a1 a2 a3 a4 a5 x14_2 x15_2 l0_0 (l0_0.length : Int) x27_1 ((rd_T125 l0_0 x27_1).f3) (((rd_T125 l0_0 x27_1).f3).length : Int) (wrap64 (x38_2 + 1)) ((rd_T125 l0_0 x27_1).f0) ((rd_T125 l0_0 x27_1).f1) ((rd_T125 l0_0 x27_1).f2) ((rd_T125 l0_0 x27_1).f3))) = some (r1, r2) := by rw [if_neg (show ¬ (false = true) by decide)] at H; exact H
                                clear H
                                have H := H1
                                clear H1
                                by_cases c40 : a4 ≤ ((rd_T125 l0_0 x27_1).f0)
                                · rw [if_pos c40] at H
                                  have c40b0 : decide (a4 ≤ ((rd_T125 l0_0 x27_1).f0)) = true := decide_eq_true c40
                                  clear c40
                                  by_cases c41 : ((rd_T125 l0_0 x27_1).f0) ≤ a5
                                  · rw [if_pos c41] at H
                                    have c41b0 : decide (((rd_T125 l0_0 x27_1).f0) ≤ a5) = true := decide_eq_true c41
                                    clear c41
                                    by_cases c42 : a1 = (-1)
                                    · rw [if_pos c42] at H
                                      have c42b0 : (a1 == (-1)) = true := beq_iff_eq.mpr c42
                                      have c42b1 : (a1 != (-1)) = false := bne_eq_false_iff_eq.mpr c42
                                      clear c42
                                      by_cases c43 : a2 = (-1)
                                      · rw [if_pos c43] at H
                                        have c43b0 : (a2 == (-1)) = true := beq_iff_eq.mpr c43
                                        have c43b1 : (a2 != (-1)) = false := bne_eq_false_iff_eq.mpr c43
                                        clear c43
                                        by_cases c44 : a3 = (-1)
                                        · rw [if_pos c44] at H
                                          have c44b0 : (a3 == (-1)) = true := beq_iff_eq.mpr c44
                                          have c44b1 : (a3 != (-1)) = false := bne_eq_false_iff_eq.mpr c44
                                          clear c44
                                          have H' := Aside0.mk H
                                          clear H
                                          have hnb45 := NB155_153.out
                                          have hnc45 := NB153_155.out
                                          have hnb46 := NB155_157.out
                                          have hnc46 := NB157_155.out
                                          have hcz47_0 : wc.cell? ⟨gb155, 0, none⟩ = some (.int .i64 ((rd_T125 l0_0 x27_1).f0)) := (blk_cell BK155.out 0).trans rfl
                                          have hcz47_1 : wc.cell? ⟨gb155, 1, none⟩ = some (.int .i64 ((rd_T125 l0_0 x27_1).f1)) := (blk_cell BK155.out 1).trans rfl
                                          have hcz47_2 : wc.cell? ⟨gb155, 2, none⟩ = some (.string ((rd_T125 l0_0 x27_1).f2)) := (blk_cell BK155.out 2).trans rfl
                                          have hcz47_3 : wc.cell? ⟨gb155, 3, none⟩ = some (.slice (some ad156) ((rd_T125 l0_0 x27_1).f3).length c154_3) := (blk_cell BK155.out 3).trans rfl
                                          have hfz47_0 := blk_frozen BK155.out 0
                                          have hfz47_1 := blk_frozen BK155.out 1
                                          have hfz47_2 := blk_frozen BK155.out 2
                                          have hfz47_3 := blk_frozen BK155.out 3
                                          have hnb48 := NB157_153.out
                                          have hnc48 := NB153_157.out
                                          have hcz49_0 : wc.cell? ⟨gb157, 0, none⟩ = some (.int .i64 ((rd_T127 ((rd_T125 l0_0 x27_1).f3) x38_2).f0)) := (blk_cell BK157.out 0).trans rfl
                                          have hcz49_1 : wc.cell? ⟨gb157, 1, none⟩ = some (.int .i64 ((rd_T127 ((rd_T125 l0_0 x27_1).f3) x38_2).f1)) := (blk_cell BK157.out 1).trans rfl
                                          have hcz49_2 : wc.cell? ⟨gb157, 2, none⟩ = some (.int .i64 ((rd_T127 ((rd_T125 l0_0 x27_1).f3) x38_2).f2)) := (blk_cell BK157.out 2).trans rfl
                                          have hcz49_3 : wc.cell? ⟨gb157, 3, none⟩ = some (.int .i64 ((rd_T127 ((rd_T125 l0_0 x27_1).f3) x38_2).f3)) := (blk_cell BK157.out 3).trans rfl
                                          have hcz49_4 : wc.cell? ⟨gb157, 4, none⟩ = some (.int .i64 ((rd_T127 ((rd_T125 l0_0 x27_1).f3) x38_2).f4)) := (blk_cell BK157.out 4).trans rfl
                                          have hfz49_0 := blk_frozen BK157.out 0
                                          have hfz49_1 := blk_frozen BK157.out 1
                                          have hfz49_2 := blk_frozen BK157.out 2
                                          have hfz49_3 := blk_frozen BK157.out 3
                                          have hfz49_4 := blk_frozen BK157.out 4
                                          go_wp2
                                          go_roundg kj24
                                          case measure => have := HK1.out; have := HK2.out; have := HJ24.out; omega
                                          case rel => exact ⟨(wrap64 (x14_2 + ((rd_T127 ((rd_T125 l0_0 x27_1).f3) x38_2).f3))), (wrap64 (x15_2 + ((rd_T127 ((rd_T125 l0_0 x27_1).f3) x38_2).f4))), (wrap64 (x38_2 + 1)), (by first | rfl | (simp; done) | (simp [*]; done)), (by first | rfl | (simp; done) | (simp [*]; done)), (by first | rfl | (simp; done) | (simp [*]; done)), H', ⟨by have := HK1.out; have := HK2.out; have := HJ24.out; omega⟩, ⟨by (with_reducible repeat (first | refine blk_drewN ?_ _ | refine blk_drew ?_ | refine blk_alloc ?_ _)); exact BK153.out⟩, ⟨by (with_reducible repeat (first | refine blk_drewN ?_ _ | refine blk_drew ?_ | refine blk_alloc ?_ _)); exact BK155.out⟩, ⟨by repeat (first | (with_reducible first | exact HB.out | apply below_alloc | apply pw_below_drewN | apply below_drew1 | refine below_set ?_ GE153.out | refine below_set ?_ GE155.out | refine below_set ?_ GE157.out) | exact HB.out)⟩⟩
                                        · rw [if_neg c44] at H
                                          have c44b0 : (a3 == (-1)) = false := beq_eq_false_iff_ne.mpr c44
                                          have c44b1 : (a3 != (-1)) = true := bne_iff_ne.mpr c44
                                          by_cases c50 : a3 = ((rd_T127 ((rd_T125 l0_0 x27_1).f3) x38_2).f2)
                                          · rw [if_pos c50] at H
                                            have c50b0 : (a3 == ((rd_T127 ((rd_T125 l0_0 x27_1).f3) x38_2).f2)) = true := beq_iff_eq.mpr c50
                                            have c50b1 : (a3 != ((rd_T127 ((rd_T125 l0_0 x27_1).f3) x38_2).f2)) = false := bne_eq_false_iff_eq.mpr c50
                                            clear c50
                                            have H' := Aside0.mk H
                                            clear H
                                            have hnb51 := NB155_153.out
                                            have hnc51 := NB153_155.out
                                            have hnb52 := NB155_157.out
                                            have hnc52 := NB157_155.out
                                            have hcz53_0 : wc.cell? ⟨gb155, 0, none⟩ = some (.int .i64 ((rd_T125 l0_0 x27_1).f0)) := (blk_cell BK155.out 0).trans rfl
                                            have hcz53_1 : wc.cell? ⟨gb155, 1, none⟩ = some (.int .i64 ((rd_T125 l0_0 x27_1).f1)) := (blk_cell BK155.out 1).trans rfl
                                            have hcz53_2 : wc.cell? ⟨gb155, 2, none⟩ = some (.string ((rd_T125 l0_0 x27_1).f2)) := (blk_cell BK155.out 2).trans rfl
                                            have hcz53_3 : wc.cell? ⟨gb155, 3, none⟩ = some (.slice (some ad156) ((rd_T125 l0_0 x27_1).f3).length c154_3) := (blk_cell BK155.out 3).trans rfl
                                            have hfz53_0 := blk_frozen BK155.out 0
                                            have hfz53_1 := blk_frozen BK155.out 1
                                            have hfz53_2 := blk_frozen BK155.out 2
                                            have hfz53_3 := blk_frozen BK155.out 3
                                            have hnb54 := NB157_153.out
                                            have hnc54 := NB153_157.out
                                            have hcz55_0 : wc.cell? ⟨gb157, 0, none⟩ = some (.int .i64 ((rd_T127 ((rd_T125 l0_0 x27_1).f3) x38_2).f0)) := (blk_cell BK157.out 0).trans rfl
                                            have hcz55_1 : wc.cell? ⟨gb157, 1, none⟩ = some (.int .i64 ((rd_T127 ((rd_T125 l0_0 x27_1).f3) x38_2).f1)) := (blk_cell BK157.out 1).trans rfl
                                            have hcz55_2 : wc.cell? ⟨gb157, 2, none⟩ = some (.int .i64 ((rd_T127 ((rd_T125 l0_0 x27_1).f3) x38_2).f2)) := (blk_cell BK157.out 2).trans rfl
                                            have hcz55_3 : wc.cell? ⟨gb157, 3, none⟩ = some (.int .i64 ((rd_T127 ((rd_T125 l0_0 x27_1).f3) x38_2).f3)) := (blk_cell BK157.out 3).trans rfl
                                            have hcz55_4 : wc.cell? ⟨gb157, 4, none⟩ = some (.int .i64 ((rd_T127 ((rd_T125 l0_0 x27_1).f3) x38_2).f4)) := (blk_cell BK157.out 4).trans rfl
                                            have hfz55_0 := blk_frozen BK157.out 0
                                            have hfz55_1 := blk_frozen BK157.out 1
                                            have hfz55_2 := blk_frozen BK157.out 2
                                            have hfz55_3 := blk_frozen BK157.out 3
                                            have hfz55_4 := blk_frozen BK157.out 4
                                            go_wp2
                                            go_roundg kj24
                                            case measure => have := HK1.out; have := HK2.out; have := HJ24.out; omega
                                            case rel => exact ⟨(wrap64 (x14_2 + ((rd_T127 ((rd_T125 l0_0 x27_1).f3) x38_2).f3))), (wrap64 (x15_2 + ((rd_T127 ((rd_T125 l0_0 x27_1).f3) x38_2).f4))), (wrap64 (x38_2 + 1)), (by first | rfl | (simp; done) | (simp [*]; done)), (by first | rfl | (simp; done) | (simp [*]; done)), (by first | rfl | (simp; done) | (simp [*]; done)), H', ⟨by have := HK1.out; have := HK2.out; have := HJ24.out; omega⟩, ⟨by (with_reducible repeat (first | refine blk_drewN ?_ _ | refine blk_drew ?_ | refine blk_alloc ?_ _)); exact BK153.out⟩, ⟨by (with_reducible repeat (first | refine blk_drewN ?_ _ | refine blk_drew ?_ | refine blk_alloc ?_ _)); exact BK155.out⟩, ⟨by repeat (first | (with_reducible first | exact HB.out | apply below_alloc | apply pw_below_drewN | apply below_drew1 | refine below_set ?_ GE153.out | refine below_set ?_ GE155.out | refine below_set ?_ GE157.out) | exact HB.out)⟩⟩
                                          · rw [if_neg c50] at H
                                            have c50b0 : (a3 == ((rd_T127 ((rd_T125 l0_0 x27_1).f3) x38_2).f2)) = false := beq_eq_false_iff_ne.mpr c50
                                            have c50b1 : (a3 != ((rd_T127 ((rd_T125 l0_0 x27_1).f3) x38_2).f2)) = true := bne_iff_ne.mpr c50
                                            have H' := Aside0.mk H
                                            clear H
                                            have hnb56 := NB155_153.out
                                            have hnc56 := NB153_155.out
                                            have hnb57 := NB155_157.out
                                            have hnc57 := NB157_155.out
                                            have hcz58_0 : wc.cell? ⟨gb155, 0, none⟩ = some (.int .i64 ((rd_T125 l0_0 x27_1).f0)) := (blk_cell BK155.out 0).trans rfl
                                            have hcz58_1 : wc.cell? ⟨gb155, 1, none⟩ = some (.int .i64 ((rd_T125 l0_0 x27_1).f1)) := (blk_cell BK155.out 1).trans rfl
                                            have hcz58_2 : wc.cell? ⟨gb155, 2, none⟩ = some (.string ((rd_T125 l0_0 x27_1).f2)) := (blk_cell BK155.out 2).trans rfl
                                            have hcz58_3 : wc.cell? ⟨gb155, 3, none⟩ = some (.slice (some ad156) ((rd_T125 l0_0 x27_1).f3).length c154_3) := (blk_cell BK155.out 3).trans rfl
                                            have hfz58_0 := blk_frozen BK155.out 0
                                            have hfz58_1 := blk_frozen BK155.out 1
                                            have hfz58_2 := blk_frozen BK155.out 2
                                            have hfz58_3 := blk_frozen BK155.out 3
                                            have hnb59 := NB157_153.out
                                            have hnc59 := NB153_157.out
                                            have hcz60_0 : wc.cell? ⟨gb157, 0, none⟩ = some (.int .i64 ((rd_T127 ((rd_T125 l0_0 x27_1).f3) x38_2).f0)) := (blk_cell BK157.out 0).trans rfl
                                            have hcz60_1 : wc.cell? ⟨gb157, 1, none⟩ = some (.int .i64 ((rd_T127 ((rd_T125 l0_0 x27_1).f3) x38_2).f1)) := (blk_cell BK157.out 1).trans rfl
                                            have hcz60_2 : wc.cell? ⟨gb157, 2, none⟩ = some (.int .i64 ((rd_T127 ((rd_T125 l0_0 x27_1).f3) x38_2).f2)) := (blk_cell BK157.out 2).trans rfl
                                            have hcz60_3 : wc.cell? ⟨gb157, 3, none⟩ = some (.int .i64 ((rd_T127 ((rd_T125 l0_0 x27_1).f3) x38_2).f3)) := (blk_cell BK157.out 3).trans rfl
                                            have hcz60_4 : wc.cell? ⟨gb157, 4, none⟩ = some (.int .i64 ((rd_T127 ((rd_T125 l0_0 x27_1).f3) x38_2).f4)) := (blk_cell BK157.out 4).trans rfl
                                            have hfz60_0 := blk_frozen BK157.out 0
                                            have hfz60_1 := blk_frozen BK157.out 1
                                            have hfz60_2 := blk_frozen BK157.out 2
                                            have hfz60_3 := blk_frozen BK157.out 3
                                            have hfz60_4 := blk_frozen BK157.out 4
                                            go_wp2
                                            go_roundg kj24
                                            case measure => have := HK1.out; have := HK2.out; have := HJ24.out; omega
                                            case rel => exact ⟨(x14_2), (x15_2), (wrap64 (x38_2 + 1)), (by first | rfl | (simp; done) | (simp [*]; done)), (by first | rfl | (simp; done) | (simp [*]; done)), (by first | rfl | (simp; done) | (simp [*]; done)), H', ⟨by have := HK1.out; have := HK2.out; have := HJ24.out; omega⟩, ⟨by (with_reducible repeat (first | refine blk_drewN ?_ _ | refine blk_drew ?_ | refine blk_alloc ?_ _)); exact BK153.out⟩, ⟨by (with_reducible repeat (first | refine blk_drewN ?_ _ | refine blk_drew ?_ | refine blk_alloc ?_ _)); exact BK155.out⟩, ⟨by repeat (first | (with_reducible first | exact HB.out | apply below_alloc | apply pw_below_drewN | apply below_drew1 | refine below_set ?_ GE153.out | refine below_set ?_ GE155.out | refine below_set ?_ GE157.out) | exact HB.out)⟩⟩
                                      · rw [if_neg c43] at H
                                        have c43b0 : (a2 == (-1)) = false := beq_eq_false_iff_ne.mpr c43
                                        have c43b1 : (a2 != (-1)) = true := bne_iff_ne.mpr c43
                                        by_cases c61 : a2 = ((rd_T127 ((rd_T125 l0_0 x27_1).f3) x38_2).f1)
                                        · rw [if_pos c61] at H
                                          have c61b0 : (a2 == ((rd_T127 ((rd_T125 l0_0 x27_1).f3) x38_2).f1)) = true := beq_iff_eq.mpr c61
                                          have c61b1 : (a2 != ((rd_T127 ((rd_T125 l0_0 x27_1).f3) x38_2).f1)) = false := bne_eq_false_iff_eq.mpr c61
                                          clear c61
                                          by_cases c62 : a3 = (-1)
                                          · rw [if_pos c62] at H
                                            have c62b0 : (a3 == (-1)) = true := beq_iff_eq.mpr c62
                                            have c62b1 : (a3 != (-1)) = false := bne_eq_false_iff_eq.mpr c62
                                            clear c62
                                            have H' := Aside0.mk H
                                            clear H
                                            have hnb63 := NB155_153.out
                                            have hnc63 := NB153_155.out
                                            have hnb64 := NB155_157.out
                                            have hnc64 := NB157_155.out
                                            have hcz65_0 : wc.cell? ⟨gb155, 0, none⟩ = some (.int .i64 ((rd_T125 l0_0 x27_1).f0)) := (blk_cell BK155.out 0).trans rfl
                                            have hcz65_1 : wc.cell? ⟨gb155, 1, none⟩ = some (.int .i64 ((rd_T125 l0_0 x27_1).f1)) := (blk_cell BK155.out 1).trans rfl
                                            have hcz65_2 : wc.cell? ⟨gb155, 2, none⟩ = some (.string ((rd_T125 l0_0 x27_1).f2)) := (blk_cell BK155.out 2).trans rfl
                                            have hcz65_3 : wc.cell? ⟨gb155, 3, none⟩ = some (.slice (some ad156) ((rd_T125 l0_0 x27_1).f3).length c154_3) := (blk_cell BK155.out 3).trans rfl
                                            have hfz65_0 := blk_frozen BK155.out 0
                                            have hfz65_1 := blk_frozen BK155.out 1
                                            have hfz65_2 := blk_frozen BK155.out 2
                                            have hfz65_3 := blk_frozen BK155.out 3
                                            have hnb66 := NB157_153.out
                                            have hnc66 := NB153_157.out
                                            have hcz67_0 : wc.cell? ⟨gb157, 0, none⟩ = some (.int .i64 ((rd_T127 ((rd_T125 l0_0 x27_1).f3) x38_2).f0)) := (blk_cell BK157.out 0).trans rfl
                                            have hcz67_1 : wc.cell? ⟨gb157, 1, none⟩ = some (.int .i64 ((rd_T127 ((rd_T125 l0_0 x27_1).f3) x38_2).f1)) := (blk_cell BK157.out 1).trans rfl
                                            have hcz67_2 : wc.cell? ⟨gb157, 2, none⟩ = some (.int .i64 ((rd_T127 ((rd_T125 l0_0 x27_1).f3) x38_2).f2)) := (blk_cell BK157.out 2).trans rfl
                                            have hcz67_3 : wc.cell? ⟨gb157, 3, none⟩ = some (.int .i64 ((rd_T127 ((rd_T125 l0_0 x27_1).f3) x38_2).f3)) := (blk_cell BK157.out 3).trans rfl
                                            have hcz67_4 : wc.cell? ⟨gb157, 4, none⟩ = some (.int .i64 ((rd_T127 ((rd_T125 l0_0 x27_1).f3) x38_2).f4)) := (blk_cell BK157.out 4).trans rfl
                                            have hfz67_0 := blk_frozen BK157.out 0
                                            have hfz67_1 := blk_frozen BK157.out 1
                                            have hfz67_2 := blk_frozen BK157.out 2
                                            have hfz67_3 := blk_frozen BK157.out 3
                                            have hfz67_4 := blk_frozen BK157.out 4
                                            go_wp2
                                            go_roundg kj24
                                            case measure => have := HK1.out; have := HK2.out; have := HJ24.out; omega
                                            case rel => exact ⟨(wrap64 (x14_2 + ((rd_T127 ((rd_T125 l0_0 x27_1).f3) x38_2).f3))), (wrap64 (x15_2 + ((rd_T127 ((rd_T125 l0_0 x27_1).f3) x38_2).f4))), (wrap64 (x38_2 + 1)), (by first | rfl | (simp; done) | (simp [*]; done)), (by first | rfl | (simp; done) | (simp [*]; done)), (by first | rfl | (simp; done) | (simp [*]; done)), H', ⟨by have := HK1.out; have := HK2.out; have := HJ24.out; omega⟩, ⟨by (with_reducible repeat (first | refine blk_drewN ?_ _ | refine blk_drew ?_ | refine blk_alloc ?_ _)); exact BK153.out⟩, ⟨by (with_reducible repeat (first | refine blk_drewN ?_ _ | refine blk_drew ?_ | refine blk_alloc ?_ _)); exact BK155.out⟩, ⟨by repeat (first | (with_reducible first | exact HB.out | apply below_alloc | apply pw_below_drewN | apply below_drew1 | refine below_set ?_ GE153.out | refine below_set ?_ GE155.out | refine below_set ?_ GE157.out) | exact HB.out)⟩⟩
                                          · rw [if_neg c62] at H
                                            have c62b0 : (a3 == (-1)) = false := beq_eq_false_iff_ne.mpr c62
                                            have c62b1 : (a3 != (-1)) = true := bne_iff_ne.mpr c62
                                            by_cases c68 : a3 = ((rd_T127 ((rd_T125 l0_0 x27_1).f3) x38_2).f2)
                                            · rw [if_pos c68] at H
                                              have c68b0 : (a3 == ((rd_T127 ((rd_T125 l0_0 x27_1).f3) x38_2).f2)) = true := beq_iff_eq.mpr c68
                                              have c68b1 : (a3 != ((rd_T127 ((rd_T125 l0_0 x27_1).f3) x38_2).f2)) = false := bne_eq_false_iff_eq.mpr c68
                                              clear c68
                                              have H' := Aside0.mk H
                                              clear H
                                              have hnb69 := NB155_153.out
                                              have hnc69 := NB153_155.out
                                              have hnb70 := NB155_157.out
                                              have hnc70 := NB157_155.out
                                              have hcz71_0 : wc.cell? ⟨gb155, 0, none⟩ = some (.int .i64 ((rd_T125 l0_0 x27_1).f0)) := (blk_cell BK155.out 0).trans rfl
                                              have hcz71_1 : wc.cell? ⟨gb155, 1, none⟩ = some (.int .i64 ((rd_T125 l0_0 x27_1).f1)) := (blk_cell BK155.out 1).trans rfl
                                              have hcz71_2 : wc.cell? ⟨gb155, 2, none⟩ = some (.string ((rd_T125 l0_0 x27_1).f2)) := (blk_cell BK155.out 2).trans rfl
                                              have hcz71_3 : wc.cell? ⟨gb155, 3, none⟩ = some (.slice (some ad156) ((rd_T125 l0_0 x27_1).f3).length c154_3) := (blk_cell BK155.out 3).trans rfl
                                              have hfz71_0 := blk_frozen BK155.out 0
                                              have hfz71_1 := blk_frozen BK155.out 1
                                              have hfz71_2 := blk_frozen BK155.out 2
                                              have hfz71_3 := blk_frozen BK155.out 3
                                              have hnb72 := NB157_153.out
                                              have hnc72 := NB153_157.out
                                              have hcz73_0 : wc.cell? ⟨gb157, 0, none⟩ = some (.int .i64 ((rd_T127 ((rd_T125 l0_0 x27_1).f3) x38_2).f0)) := (blk_cell BK157.out 0).trans rfl
                                              have hcz73_1 : wc.cell? ⟨gb157, 1, none⟩ = some (.int .i64 ((rd_T127 ((rd_T125 l0_0 x27_1).f3) x38_2).f1)) := (blk_cell BK157.out 1).trans rfl
                                              have hcz73_2 : wc.cell? ⟨gb157, 2, none⟩ = some (.int .i64 ((rd_T127 ((rd_T125 l0_0 x27_1).f3) x38_2).f2)) := (blk_cell BK157.out 2).trans rfl
                                              have hcz73_3 : wc.cell? ⟨gb157, 3, none⟩ = some (.int .i64 ((rd_T127 ((rd_T125 l0_0 x27_1).f3) x38_2).f3)) := (blk_cell BK157.out 3).trans rfl
                                              have hcz73_4 : wc.cell? ⟨gb157, 4, none⟩ = some (.int .i64 ((rd_T127 ((rd_T125 l0_0 x27_1).f3) x38_2).f4)) := (blk_cell BK157.out 4).trans rfl
                                              have hfz73_0 := blk_frozen BK157.out 0
                                              have hfz73_1 := blk_frozen BK157.out 1
                                              have hfz73_2 := blk_frozen BK157.out 2
                                              have hfz73_3 := blk_frozen BK157.out 3
                                              have hfz73_4 := blk_frozen BK157.out 4
                                              go_wp2
                                              go_roundg kj24
                                              case measure => have := HK1.out; have := HK2.out; have := HJ24.out; omega
                                              case rel => exact ⟨(wrap64 (x14_2 + ((rd_T127 ((rd_T125 l0_0 x27_1).f3) x38_2).f3))), (wrap64 (x15_2 + ((rd_T127 ((rd_T125 l0_0 x27_1).f3) x38_2).f4))), (wrap64 (x38_2 + 1)), (by first | rfl | (simp; done) | (simp [*]; done)), (by first | rfl | (simp; done) | (simp [*]; done)), (by first | rfl | (simp; done) | (simp [*]; done)), H', ⟨by have := HK1.out; have := HK2.out; have := HJ24.out; omega⟩, ⟨by (with_reducible repeat (first | refine blk_drewN ?_ _ | refine blk_drew ?_ | refine blk_alloc ?_ _)); exact BK153.out⟩, ⟨by (with_reducible repeat (first | refine blk_drewN ?_ _ | refine blk_drew ?_ | refine blk_alloc ?_ _)); exact BK155.out⟩, ⟨by repeat (first | (with_reducible first | exact HB.out | apply below_alloc | apply pw_below_drewN | apply below_drew1 | refine below_set ?_ GE153.out | refine below_set ?_ GE155.out | refine below_set ?_ GE157.out) | exact HB.out)⟩⟩
                                            · rw [if_neg c68] at H
                                              have c68b0 : (a3 == ((rd_T127 ((rd_T125 l0_0 x27_1).f3) x38_2).f2)) = false := beq_eq_false_iff_ne.mpr c68
                                              have c68b1 : (a3 != ((rd_T127 ((rd_T125 l0_0 x27_1).f3) x38_2).f2)) = true := bne_iff_ne.mpr c68
                                              have H' := Aside0.mk H
                                              clear H
                                              have hnb74 := NB155_153.out
                                              have hnc74 := NB153_155.out
                                              have hnb75 := NB155_157.out
                                              have hnc75 := NB157_155.out
                                              have hcz76_0 : wc.cell? ⟨gb155, 0, none⟩ = some (.int .i64 ((rd_T125 l0_0 x27_1).f0)) := (blk_cell BK155.out 0).trans rfl
                                              have hcz76_1 : wc.cell? ⟨gb155, 1, none⟩ = some (.int .i64 ((rd_T125 l0_0 x27_1).f1)) := (blk_cell BK155.out 1).trans rfl
                                              have hcz76_2 : wc.cell? ⟨gb155, 2, none⟩ = some (.string ((rd_T125 l0_0 x27_1).f2)) := (blk_cell BK155.out 2).trans rfl
                                              have hcz76_3 : wc.cell? ⟨gb155, 3, none⟩ = some (.slice (some ad156) ((rd_T125 l0_0 x27_1).f3).length c154_3) := (blk_cell BK155.out 3).trans rfl
                                              have hfz76_0 := blk_frozen BK155.out 0
                                              have hfz76_1 := blk_frozen BK155.out 1
                                              have hfz76_2 := blk_frozen BK155.out 2
                                              have hfz76_3 := blk_frozen BK155.out 3
                                              have hnb77 := NB157_153.out
                                              have hnc77 := NB153_157.out
                                              have hcz78_0 : wc.cell? ⟨gb157, 0, none⟩ = some (.int .i64 ((rd_T127 ((rd_T125 l0_0 x27_1).f3) x38_2).f0)) := (blk_cell BK157.out 0).trans rfl
                                              have hcz78_1 : wc.cell? ⟨gb157, 1, none⟩ = some (.int .i64 ((rd_T127 ((rd_T125 l0_0 x27_1).f3) x38_2).f1)) := (blk_cell BK157.out 1).trans rfl
                                              have hcz78_2 : wc.cell? ⟨gb157, 2, none⟩ = some (.int .i64 ((rd_T127 ((rd_T125 l0_0 x27_1).f3) x38_2).f2)) := (blk_cell BK157.out 2).trans rfl
                                              have hcz78_3 : wc.cell? ⟨gb157, 3, none⟩ = some (.int .i64 ((rd_T127 ((rd_T125 l0_0 x27_1).f3) x38_2).f3)) := (blk_cell BK157.out 3).trans rfl
                                              have hcz78_4 : wc.cell? ⟨gb157, 4, none⟩ = some (.int .i64 ((rd_T127 ((rd_T125 l0_0 x27_1).f3) x38_2).f4)) := (blk_cell BK157.out 4).trans rfl
                                              have hfz78_0 := blk_frozen BK157.out 0
                                              have hfz78_1 := blk_frozen BK157.out 1
                                              have hfz78_2 := blk_frozen BK157.out 2
                                              have hfz78_3 := blk_frozen BK157.out 3
                                              have hfz78_4 := blk_frozen BK157.out 4
                                              go_wp2
                                              go_roundg kj24
                                              case measure => have := HK1.out; have := HK2.out; have := HJ24.out; omega
                                              case rel => exact ⟨(x14_2), (x15_2), (wrap64 (x38_2 + 1)), (by first | rfl | (simp; done) | (simp [*]; done)), (by first | rfl | (simp; done) | (simp [*]; done)), (by first | rfl | (simp; done) | (simp [*]; done)), H', ⟨by have := HK1.out; have := HK2.out; have := HJ24.out; omega⟩, ⟨by (with_reducible repeat (first | refine blk_drewN ?_ _ | refine blk_drew ?_ | refine blk_alloc ?_ _)); exact BK153.out⟩, ⟨by (with_reducible repeat (first | refine blk_drewN ?_ _ | refine blk_drew ?_ | refine blk_alloc ?_ _)); exact BK155.out⟩, ⟨by repeat (first | (with_reducible first | exact HB.out | apply below_alloc | apply pw_below_drewN | apply below_drew1 | refine below_set ?_ GE153.out | refine below_set ?_ GE155.out | refine below_set ?_ GE157.out) | exact HB.out)⟩⟩
                                        · rw [if_neg c61] at H
                                          have c61b0 : (a2 == ((rd_T127 ((rd_T125 l0_0 x27_1).f3) x38_2).f1)) = false := beq_eq_false_iff_ne.mpr c61
                                          have c61b1 : (a2 != ((rd_T127 ((rd_T125 l0_0 x27_1).f3) x38_2).f1)) = true := bne_iff_ne.mpr c61
                                          have H' := Aside0.mk H
                                          clear H
                                          have hnb79 := NB155_153.out
                                          have hnc79 := NB153_155.out
                                          have hnb80 := NB155_157.out
                                          have hnc80 := NB157_155.out
                                          have hcz81_0 : wc.cell? ⟨gb155, 0, none⟩ = some (.int .i64 ((rd_T125 l0_0 x27_1).f0)) := (blk_cell BK155.out 0).trans rfl
                                          have hcz81_1 : wc.cell? ⟨gb155, 1, none⟩ = some (.int .i64 ((rd_T125 l0_0 x27_1).f1)) := (blk_cell BK155.out 1).trans rfl
                                          have hcz81_2 : wc.cell? ⟨gb155, 2, none⟩ = some (.string ((rd_T125 l0_0 x27_1).f2)) := (blk_cell BK155.out 2).trans rfl
                                          have hcz81_3 : wc.cell? ⟨gb155, 3, none⟩ = some (.slice (some ad156) ((rd_T125 l0_0 x27_1).f3).length c154_3) := (blk_cell BK155.out 3).trans rfl
                                          have hfz81_0 := blk_frozen BK155.out 0
                                          have hfz81_1 := blk_frozen BK155.out 1
                                          have hfz81_2 := blk_frozen BK155.out 2
                                          have hfz81_3 := blk_frozen BK155.out 3
                                          have hnb82 := NB157_153.out
                                          have hnc82 := NB153_157.out
                                          have hcz83_0 : wc.cell? ⟨gb157, 0, none⟩ = some (.int .i64 ((rd_T127 ((rd_T125 l0_0 x27_1).f3) x38_2).f0)) := (blk_cell BK157.out 0).trans rfl
                                          have hcz83_1 : wc.cell? ⟨gb157, 1, none⟩ = some (.int .i64 ((rd_T127 ((rd_T125 l0_0 x27_1).f3) x38_2).f1)) := (blk_cell BK157.out 1).trans rfl
                                          have hcz83_2 : wc.cell? ⟨gb157, 2, none⟩ = some (.int .i64 ((rd_T127 ((rd_T125 l0_0 x27_1).f3) x38_2).f2)) := (blk_cell BK157.out 2).trans rfl
                                          have hcz83_3 : wc.cell? ⟨gb157, 3, none⟩ = some (.int .i64 ((rd_T127 ((rd_T125 l0_0 x27_1).f3) x38_2).f3)) := (blk_cell BK157.out 3).trans rfl
                                          have hcz83_4 : wc.cell? ⟨gb157, 4, none⟩ = some (.int .i64 ((rd_T127 ((rd_T125 l0_0 x27_1).f3) x38_2).f4)) := (blk_cell BK157.out 4).trans rfl
                                          have hfz83_0 := blk_frozen BK157.out 0
                                          have hfz83_1 := blk_frozen BK157.out 1
                                          have hfz83_2 := blk_frozen BK157.out 2
                                          have hfz83_3 := blk_frozen BK157.out 3
                                          have hfz83_4 := blk_frozen BK157.out 4
                                          go_wp2
                                          go_roundg kj24
                                          case measure => have := HK1.out; have := HK2.out; have := HJ24.out; omega
                                          case rel => exact ⟨(x14_2), (x15_2), (wrap64 (x38_2 + 1)), (by first | rfl | (simp; done) | (simp [*]; done)), (by first | rfl | (simp; done) | (simp [*]; done)), (by first | rfl | (simp; done) | (simp [*]; done)), H', ⟨by have := HK1.out; have := HK2.out; have := HJ24.out; omega⟩, ⟨by (with_reducible repeat (first | refine blk_drewN ?_ _ | refine blk_drew ?_ | refine blk_alloc ?_ _)); exact BK153.out⟩, ⟨by (with_reducible repeat (first | refine blk_drewN ?_ _ | refine blk_drew ?_ | refine blk_alloc ?_ _)); exact BK155.out⟩, ⟨by repeat (first | (with_reducible first | exact HB.out | apply below_alloc | apply pw_below_drewN | apply below_drew1 | refine below_set ?_ GE153.out | refine below_set ?_ GE155.out | refine below_set ?_ GE157.out) | exact HB.out)⟩⟩
                                    · rw [if_neg c42] at H
                                      have c42b0 : (a1 == (-1)) = false := beq_eq_false_iff_ne.mpr c42
                                      have c42b1 : (a1 != (-1)) = true := bne_iff_ne.mpr c42
                                      by_cases c84 : a1 = ((rd_T127 ((rd_T125 l0_0 x27_1).f3) x38_2).f0)
                                      · rw [if_pos c84] at H
                                        have c84b0 : (a1 == ((rd_T127 ((rd_T125 l0_0 x27_1).f3) x38_2).f0)) = true := beq_iff_eq.mpr c84
                                        have c84b1 : (a1 != ((rd_T127 ((rd_T125 l0_0 x27_1).f3) x38_2).f0)) = false := bne_eq_false_iff_eq.mpr c84
                                        clear c84
                                        by_cases c85 : a2 = (-1)
                                        · rw [if_pos c85] at H
                                          have c85b0 : (a2 == (-1)) = true := beq_iff_eq.mpr c85
                                          have c85b1 : (a2 != (-1)) = false := bne_eq_false_iff_eq.mpr c85
                                          clear c85
                                          by_cases c86 : a3 = (-1)
                                          · rw [if_pos c86] at H
                                            have c86b0 : (a3 == (-1)) = true := beq_iff_eq.mpr c86
                                            have c86b1 : (a3 != (-1)) = false := bne_eq_false_iff_eq.mpr c86
                                            clear c86
                                            have H' := Aside0.mk H
                                            clear H
                                            have hnb87 := NB155_153.out
                                            have hnc87 := NB153_155.out
                                            have hnb88 := NB155_157.out
                                            have hnc88 := NB157_155.out
                                            have hcz89_0 : wc.cell? ⟨gb155, 0, none⟩ = some (.int .i64 ((rd_T125 l0_0 x27_1).f0)) := (blk_cell BK155.out 0).trans rfl
                                            have hcz89_1 : wc.cell? ⟨gb155, 1, none⟩ = some (.int .i64 ((rd_T125 l0_0 x27_1).f1)) := (blk_cell BK155.out 1).trans rfl
                                            have hcz89_2 : wc.cell? ⟨gb155, 2, none⟩ = some (.string ((rd_T125 l0_0 x27_1).f2)) := (blk_cell BK155.out 2).trans rfl
                                            have hcz89_3 : wc.cell? ⟨gb155, 3, none⟩ = some (.slice (some ad156) ((rd_T125 l0_0 x27_1).f3).length c154_3) := (blk_cell BK155.out 3).trans rfl
                                            have hfz89_0 := blk_frozen BK155.out 0
                                            have hfz89_1 := blk_frozen BK155.out 1
                                            have hfz89_2 := blk_frozen BK155.out 2
                                            have hfz89_3 := blk_frozen BK155.out 3
                                            have hnb90 := NB157_153.out
                                            have hnc90 := NB153_157.out
                                            have hcz91_0 : wc.cell? ⟨gb157, 0, none⟩ = some (.int .i64 ((rd_T127 ((rd_T125 l0_0 x27_1).f3) x38_2).f0)) := (blk_cell BK157.out 0).trans rfl
                                            have hcz91_1 : wc.cell? ⟨gb157, 1, none⟩ = some (.int .i64 ((rd_T127 ((rd_T125 l0_0 x27_1).f3) x38_2).f1)) := (blk_cell BK157.out 1).trans rfl
                                            have hcz91_2 : wc.cell? ⟨gb157, 2, none⟩ = some (.int .i64 ((rd_T127 ((rd_T125 l0_0 x27_1).f3) x38_2).f2)) := (blk_cell BK157.out 2).trans rfl
                                            have hcz91_3 : wc.cell? ⟨gb157, 3, none⟩ = some (.int .i64 ((rd_T127 ((rd_T125 l0_0 x27_1).f3) x38_2).f3)) := (blk_cell BK157.out 3).trans rfl
                                            have hcz91_4 : wc.cell? ⟨gb157, 4, none⟩ = some (.int .i64 ((rd_T127 ((rd_T125 l0_0 x27_1).f3) x38_2).f4)) := (blk_cell BK157.out 4).trans rfl
                                            have hfz91_0 := blk_frozen BK157.out 0
                                            have hfz91_1 := blk_frozen BK157.out 1
                                            have hfz91_2 := blk_frozen BK157.out 2
                                            have hfz91_3 := blk_frozen BK157.out 3
                                            have hfz91_4 := blk_frozen BK157.out 4
                                            go_wp2
                                            go_roundg kj24
                                            case measure => have := HK1.out; have := HK2.out; have := HJ24.out; omega
                                            case rel => exact ⟨(wrap64 (x14_2 + ((rd_T127 ((rd_T125 l0_0 x27_1).f3) x38_2).f3))), (wrap64 (x15_2 + ((rd_T127 ((rd_T125 l0_0 x27_1).f3) x38_2).f4))), (wrap64 (x38_2 + 1)), (by first | rfl | (simp; done) | (simp [*]; done)), (by first | rfl | (simp; done) | (simp [*]; done)), (by first | rfl | (simp; done) | (simp [*]; done)), H', ⟨by have := HK1.out; have := HK2.out; have := HJ24.out; omega⟩, ⟨by (with_reducible repeat (first | refine blk_drewN ?_ _ | refine blk_drew ?_ | refine blk_alloc ?_ _)); exact BK153.out⟩, ⟨by (with_reducible repeat (first | refine blk_drewN ?_ _ | refine blk_drew ?_ | refine blk_alloc ?_ _)); exact BK155.out⟩, ⟨by repeat (first | (with_reducible first | exact HB.out | apply below_alloc | apply pw_below_drewN | apply below_drew1 | refine below_set ?_ GE153.out | refine below_set ?_ GE155.out | refine below_set ?_ GE157.out) | exact HB.out)⟩⟩
                                          · rw [if_neg c86] at H
                                            have c86b0 : (a3 == (-1)) = false := beq_eq_false_iff_ne.mpr c86
                                            have c86b1 : (a3 != (-1)) = true := bne_iff_ne.mpr c86
                                            by_cases c92 : a3 = ((rd_T127 ((rd_T125 l0_0 x27_1).f3) x38_2).f2)
                                            · rw [if_pos c92] at H
                                              have c92b0 : (a3 == ((rd_T127 ((rd_T125 l0_0 x27_1).f3) x38_2).f2)) = true := beq_iff_eq.mpr c92
                                              have c92b1 : (a3 != ((rd_T127 ((rd_T125 l0_0 x27_1).f3) x38_2).f2)) = false := bne_eq_false_iff_eq.mpr c92
                                              clear c92
                                              have H' := Aside0.mk H
                                              clear H
                                              have hnb93 := NB155_153.out
                                              have hnc93 := NB153_155.out
                                              have hnb94 := NB155_157.out
                                              have hnc94 := NB157_155.out
                                              have hcz95_0 : wc.cell? ⟨gb155, 0, none⟩ = some (.int .i64 ((rd_T125 l0_0 x27_1).f0)) := (blk_cell BK155.out 0).trans rfl
                                              have hcz95_1 : wc.cell? ⟨gb155, 1, none⟩ = some (.int .i64 ((rd_T125 l0_0 x27_1).f1)) := (blk_cell BK155.out 1).trans rfl
                                              have hcz95_2 : wc.cell? ⟨gb155, 2, none⟩ = some (.string ((rd_T125 l0_0 x27_1).f2)) := (blk_cell BK155.out 2).trans rfl
                                              have hcz95_3 : wc.cell? ⟨gb155, 3, none⟩ = some (.slice (some ad156) ((rd_T125 l0_0 x27_1).f3).length c154_3) := (blk_cell BK155.out 3).trans rfl
                                              have hfz95_0 := blk_frozen BK155.out 0
                                              have hfz95_1 := blk_frozen BK155.out 1
                                              have hfz95_2 := blk_frozen BK155.out 2
                                              have hfz95_3 := blk_frozen BK155.out 3
                                              have hnb96 := NB157_153.out
                                              have hnc96 := NB153_157.out
                                              have hcz97_0 : wc.cell? ⟨gb157, 0, none⟩ = some (.int .i64 ((rd_T127 ((rd_T125 l0_0 x27_1).f3) x38_2).f0)) := (blk_cell BK157.out 0).trans rfl
                                              have hcz97_1 : wc.cell? ⟨gb157, 1, none⟩ = some (.int .i64 ((rd_T127 ((rd_T125 l0_0 x27_1).f3) x38_2).f1)) := (blk_cell BK157.out 1).trans rfl
                                              have hcz97_2 : wc.cell? ⟨gb157, 2, none⟩ = some (.int .i64 ((rd_T127 ((rd_T125 l0_0 x27_1).f3) x38_2).f2)) := (blk_cell BK157.out 2).trans rfl
                                              have hcz97_3 : wc.cell? ⟨gb157, 3, none⟩ = some (.int .i64 ((rd_T127 ((rd_T125 l0_0 x27_1).f3) x38_2).f3)) := (blk_cell BK157.out 3).trans rfl
                                              have hcz97_4 : wc.cell? ⟨gb157, 4, none⟩ = some (.int .i64 ((rd_T127 ((rd_T125 l0_0 x27_1).f3) x38_2).f4)) := (blk_cell BK157.out 4).trans rfl
                                              have hfz97_0 := blk_frozen BK157.out 0
                                              have hfz97_1 := blk_frozen BK157.out 1
                                              have hfz97_2 := blk_frozen BK157.out 2
                                              have hfz97_3 := blk_frozen BK157.out 3
                                              have hfz97_4 := blk_frozen BK157.out 4
                                              go_wp2
                                              go_roundg kj24
                                              case measure => have := HK1.out; have := HK2.out; have := HJ24.out; omega
                                              case rel => exact ⟨(wrap64 (x14_2 + ((rd_T127 ((rd_T125 l0_0 x27_1).f3) x38_2).f3))), (wrap64 (x15_2 + ((rd_T127 ((rd_T125 l0_0 x27_1).f3) x38_2).f4))), (wrap64 (x38_2 + 1)), (by first | rfl | (simp; done) | (simp [*]; done)), (by first | rfl | (simp; done) | (simp [*]; done)), (by first | rfl | (simp; done) | (simp [*]; done)), H', ⟨by have := HK1.out; have := HK2.out; have := HJ24.out; omega⟩, ⟨by (with_reducible repeat (first | refine blk_drewN ?_ _ | refine blk_drew ?_ | refine blk_alloc ?_ _)); exact BK153.out⟩, ⟨by (with_reducible repeat (first | refine blk_drewN ?_ _ | refine blk_drew ?_ | refine blk_alloc ?_ _)); exact BK155.out⟩, ⟨by repeat (first | (with_reducible first | exact HB.out | apply below_alloc | apply pw_below_drewN | apply below_drew1 | refine below_set ?_ GE153.out | refine below_set ?_ GE155.out | refine below_set ?_ GE157.out) | exact HB.out)⟩⟩
                                            · rw [if_neg c92] at H
                                              have c92b0 : (a3 == ((rd_T127 ((rd_T125 l0_0 x27_1).f3) x38_2).f2)) = false := beq_eq_false_iff_ne.mpr c92
                                              have c92b1 : (a3 != ((rd_T127 ((rd_T125 l0_0 x27_1).f3) x38_2).f2)) = true := bne_iff_ne.mpr c92
                                              have H' := Aside0.mk H
                                              clear H
                                              have hnb98 := NB155_153.out
                                              have hnc98 := NB153_155.out
                                              have hnb99 := NB155_157.out
                                              have hnc99 := NB157_155.out
                                              have hcz100_0 : wc.cell? ⟨gb155, 0, none⟩ = some (.int .i64 ((rd_T125 l0_0 x27_1).f0)) := (blk_cell BK155.out 0).trans rfl
                                              have hcz100_1 : wc.cell? ⟨gb155, 1, none⟩ = some (.int .i64 ((rd_T125 l0_0 x27_1).f1)) := (blk_cell BK155.out 1).trans rfl
                                              have hcz100_2 : wc.cell? ⟨gb155, 2, none⟩ = some (.string ((rd_T125 l0_0 x27_1).f2)) := (blk_cell BK155.out 2).trans rfl
                                              have hcz100_3 : wc.cell? ⟨gb155, 3, none⟩ = some (.slice (some ad156) ((rd_T125 l0_0 x27_1).f3).length c154_3) := (blk_cell BK155.out 3).trans rfl
                                              have hfz100_0 := blk_frozen BK155.out 0
                                              have hfz100_1 := blk_frozen BK155.out 1
                                              have hfz100_2 := blk_frozen BK155.out 2
                                              have hfz100_3 := blk_frozen BK155.out 3
                                              have hnb101 := NB157_153.out
                                              have hnc101 := NB153_157.out
                                              have hcz102_0 : wc.cell? ⟨gb157, 0, none⟩ = some (.int .i64 ((rd_T127 ((rd_T125 l0_0 x27_1).f3) x38_2).f0)) := (blk_cell BK157.out 0).trans rfl
                                              have hcz102_1 : wc.cell? ⟨gb157, 1, none⟩ = some (.int .i64 ((rd_T127 ((rd_T125 l0_0 x27_1).f3) x38_2).f1)) := (blk_cell BK157.out 1).trans rfl
                                              have hcz102_2 : wc.cell? ⟨gb157, 2, none⟩ = some (.int .i64 ((rd_T127 ((rd_T125 l0_0 x27_1).f3) x38_2).f2)) := (blk_cell BK157.out 2).trans rfl
                                              have hcz102_3 : wc.cell? ⟨gb157, 3, none⟩ = some (.int .i64 ((rd_T127 ((rd_T125 l0_0 x27_1).f3) x38_2).f3)) := (blk_cell BK157.out 3).trans rfl
                                              have hcz102_4 : wc.cell? ⟨gb157, 4, none⟩ = some (.int .i64 ((rd_T127 ((rd_T125 l0_0 x27_1).f3) x38_2).f4)) := (blk_cell BK157.out 4).trans rfl
                                              have hfz102_0 := blk_frozen BK157.out 0
                                              have hfz102_1 := blk_frozen BK157.out 1
                                              have hfz102_2 := blk_frozen BK157.out 2
                                              have hfz102_3 := blk_frozen BK157.out 3
                                              have hfz102_4 := blk_frozen BK157.out 4
                                              go_wp2
                                              go_roundg kj24
                                              case measure => have := HK1.out; have := HK2.out; have := HJ24.out; omega
                                              case rel => exact ⟨(x14_2), (x15_2), (wrap64 (x38_2 + 1)), (by first | rfl | (simp; done) | (simp [*]; done)), (by first | rfl | (simp; done) | (simp [*]; done)), (by first | rfl | (simp; done) | (simp [*]; done)), H', ⟨by have := HK1.out; have := HK2.out; have := HJ24.out; omega⟩, ⟨by (with_reducible repeat (first | refine blk_drewN ?_ _ | refine blk_drew ?_ | refine blk_alloc ?_ _)); exact BK153.out⟩, ⟨by (with_reducible repeat (first | refine blk_drewN ?_ _ | refine blk_drew ?_ | refine blk_alloc ?_ _)); exact BK155.out⟩, ⟨by repeat (first | (with_reducible first | exact HB.out | apply below_alloc | apply pw_below_drewN | apply below_drew1 | refine below_set ?_ GE153.out | refine below_set ?_ GE155.out | refine below_set ?_ GE157.out) | exact HB.out)⟩⟩
                                        · rw [if_neg c85] at H
                                          have c85b0 : (a2 == (-1)) = false := beq_eq_false_iff_ne.mpr c85
                                          have c85b1 : (a2 != (-1)) = true := bne_iff_ne.mpr c85
                                          by_cases c103 : a2 = ((rd_T127 ((rd_T125 l0_0 x27_1).f3) x38_2).f1)
                                          · rw [if_pos c103] at H
                                            have c103b0 : (a2 == ((rd_T127 ((rd_T125 l0_0 x27_1).f3) x38_2).f1)) = true := beq_iff_eq.mpr c103
                                            have c103b1 : (a2 != ((rd_T127 ((rd_T125 l0_0 x27_1).f3) x38_2).f1)) = false := bne_eq_false_iff_eq.mpr c103
                                            clear c103
                                            by_cases c104 : a3 = (-1)
                                            · rw [if_pos c104] at H
                                              have c104b0 : (a3 == (-1)) = true := beq_iff_eq.mpr c104
                                              have c104b1 : (a3 != (-1)) = false := bne_eq_false_iff_eq.mpr c104
                                              clear c104
                                              have H' := Aside0.mk H
                                              clear H
                                              have hnb105 := NB155_153.out
                                              have hnc105 := NB153_155.out
                                              have hnb106 := NB155_157.out
                                              have hnc106 := NB157_155.out
                                              have hcz107_0 : wc.cell? ⟨gb155, 0, none⟩ = some (.int .i64 ((rd_T125 l0_0 x27_1).f0)) := (blk_cell BK155.out 0).trans rfl
                                              have hcz107_1 : wc.cell? ⟨gb155, 1, none⟩ = some (.int .i64 ((rd_T125 l0_0 x27_1).f1)) := (blk_cell BK155.out 1).trans rfl
                                              have hcz107_2 : wc.cell? ⟨gb155, 2, none⟩ = some (.string ((rd_T125 l0_0 x27_1).f2)) := (blk_cell BK155.out 2).trans rfl
                                              have hcz107_3 : wc.cell? ⟨gb155, 3, none⟩ = some (.slice (some ad156) ((rd_T125 l0_0 x27_1).f3).length c154_3) := (blk_cell BK155.out 3).trans rfl
                                              have hfz107_0 := blk_frozen BK155.out 0
                                              have hfz107_1 := blk_frozen BK155.out 1
                                              have hfz107_2 := blk_frozen BK155.out 2
                                              have hfz107_3 := blk_frozen BK155.out 3
                                              have hnb108 := NB157_153.out
                                              have hnc108 := NB153_157.out
                                              have hcz109_0 : wc.cell? ⟨gb157, 0, none⟩ = some (.int .i64 ((rd_T127 ((rd_T125 l0_0 x27_1).f3) x38_2).f0)) := (blk_cell BK157.out 0).trans rfl
                                              have hcz109_1 : wc.cell? ⟨gb157, 1, none⟩ = some (.int .i64 ((rd_T127 ((rd_T125 l0_0 x27_1).f3) x38_2).f1)) := (blk_cell BK157.out 1).trans rfl
                                              have hcz109_2 : wc.cell? ⟨gb157, 2, none⟩ = some (.int .i64 ((rd_T127 ((rd_T125 l0_0 x27_1).f3) x38_2).f2)) := (blk_cell BK157.out 2).trans rfl
                                              have hcz109_3 : wc.cell? ⟨gb157, 3, none⟩ = some (.int .i64 ((rd_T127 ((rd_T125 l0_0 x27_1).f3) x38_2).f3)) := (blk_cell BK157.out 3).trans rfl
                                              have hcz109_4 : wc.cell? ⟨gb157, 4, none⟩ = some (.int .i64 ((rd_T127 ((rd_T125 l0_0 x27_1).f3) x38_2).f4)) := (blk_cell BK157.out 4).trans rfl
                                              have hfz109_0 := blk_frozen BK157.out 0
                                              have hfz109_1 := blk_frozen BK157.out 1
                                              have hfz109_2 := blk_frozen BK157.out 2
                                              have hfz109_3 := blk_frozen BK157.out 3
                                              have hfz109_4 := blk_frozen BK157.out 4
                                              go_wp2
                                              go_roundg kj24
                                              case measure => have := HK1.out; have := HK2.out; have := HJ24.out; omega
                                              case rel => exact ⟨(wrap64 (x14_2 + ((rd_T127 ((rd_T125 l0_0 x27_1).f3) x38_2).f3))), (wrap64 (x15_2 + ((rd_T127 ((rd_T125 l0_0 x27_1).f3) x38_2).f4))), (wrap64 (x38_2 + 1)), (by first | rfl | (simp; done) | (simp [*]; done)), (by first | rfl | (simp; done) | (simp [*]; done)), (by first | rfl | (simp; done) | (simp [*]; done)), H', ⟨by have := HK1.out; have := HK2.out; have := HJ24.out; omega⟩, ⟨by (with_reducible repeat (first | refine blk_drewN ?_ _ | refine blk_drew ?_ | refine blk_alloc ?_ _)); exact BK153.out⟩, ⟨by (with_reducible repeat (first | refine blk_drewN ?_ _ | refine blk_drew ?_ | refine blk_alloc ?_ _)); exact BK155.out⟩, ⟨by repeat (first | (with_reducible first | exact HB.out | apply below_alloc | apply pw_below_drewN | apply below_drew1 | refine below_set ?_ GE153.out | refine below_set ?_ GE155.out | refine below_set ?_ GE157.out) | exact HB.out)⟩⟩
                                            · rw [if_neg c104] at H
                                              have c104b0 : (a3 == (-1)) = false := beq_eq_false_iff_ne.mpr c104
                                              have c104b1 : (a3 != (-1)) = true := bne_iff_ne.mpr c104
                                              by_cases c110 : a3 = ((rd_T127 ((rd_T125 l0_0 x27_1).f3) x38_2).f2)
                                              · rw [if_pos c110] at H
                                                have c110b0 : (a3 == ((rd_T127 ((rd_T125 l0_0 x27_1).f3) x38_2).f2)) = true := beq_iff_eq.mpr c110
                                                have c110b1 : (a3 != ((rd_T127 ((rd_T125 l0_0 x27_1).f3) x38_2).f2)) = false := bne_eq_false_iff_eq.mpr c110
                                                clear c110
                                                have H' := Aside0.mk H
                                                clear H
                                                have hnb111 := NB155_153.out
                                                have hnc111 := NB153_155.out
                                                have hnb112 := NB155_157.out
                                                have hnc112 := NB157_155.out
                                                have hcz113_0 : wc.cell? ⟨gb155, 0, none⟩ = some (.int .i64 ((rd_T125 l0_0 x27_1).f0)) := (blk_cell BK155.out 0).trans rfl
                                                have hcz113_1 : wc.cell? ⟨gb155, 1, none⟩ = some (.int .i64 ((rd_T125 l0_0 x27_1).f1)) := (blk_cell BK155.out 1).trans rfl
                                                have hcz113_2 : wc.cell? ⟨gb155, 2, none⟩ = some (.string ((rd_T125 l0_0 x27_1).f2)) := (blk_cell BK155.out 2).trans rfl
                                                have hcz113_3 : wc.cell? ⟨gb155, 3, none⟩ = some (.slice (some ad156) ((rd_T125 l0_0 x27_1).f3).length c154_3) := (blk_cell BK155.out 3).trans rfl
                                                have hfz113_0 := blk_frozen BK155.out 0
                                                have hfz113_1 := blk_frozen BK155.out 1
                                                have hfz113_2 := blk_frozen BK155.out 2
                                                have hfz113_3 := blk_frozen BK155.out 3
                                                have hnb114 := NB157_153.out
                                                have hnc114 := NB153_157.out
                                                have hcz115_0 : wc.cell? ⟨gb157, 0, none⟩ = some (.int .i64 ((rd_T127 ((rd_T125 l0_0 x27_1).f3) x38_2).f0)) := (blk_cell BK157.out 0).trans rfl
                                                have hcz115_1 : wc.cell? ⟨gb157, 1, none⟩ = some (.int .i64 ((rd_T127 ((rd_T125 l0_0 x27_1).f3) x38_2).f1)) := (blk_cell BK157.out 1).trans rfl
                                                have hcz115_2 : wc.cell? ⟨gb157, 2, none⟩ = some (.int .i64 ((rd_T127 ((rd_T125 l0_0 x27_1).f3) x38_2).f2)) := (blk_cell BK157.out 2).trans rfl
                                                have hcz115_3 : wc.cell? ⟨gb157, 3, none⟩ = some (.int .i64 ((rd_T127 ((rd_T125 l0_0 x27_1).f3) x38_2).f3)) := (blk_cell BK157.out 3).trans rfl
                                                have hcz115_4 : wc.cell? ⟨gb157, 4, none⟩ = some (.int .i64 ((rd_T127 ((rd_T125 l0_0 x27_1).f3) x38_2).f4)) := (blk_cell BK157.out 4).trans rfl
                                                have hfz115_0 := blk_frozen BK157.out 0
                                                have hfz115_1 := blk_frozen BK157.out 1
                                                have hfz115_2 := blk_frozen BK157.out 2
                                                have hfz115_3 := blk_frozen BK157.out 3
                                                have hfz115_4 := blk_frozen BK157.out 4
                                                go_wp2
                                                go_roundg kj24
                                                case measure => have := HK1.out; have := HK2.out; have := HJ24.out; omega
                                                case rel => exact ⟨(wrap64 (x14_2 + ((rd_T127 ((rd_T125 l0_0 x27_1).f3) x38_2).f3))), (wrap64 (x15_2 + ((rd_T127 ((rd_T125 l0_0 x27_1).f3) x38_2).f4))), (wrap64 (x38_2 + 1)), (by first | rfl | (simp; done) | (simp [*]; done)), (by first | rfl | (simp; done) | (simp [*]; done)), (by first | rfl | (simp; done) | (simp [*]; done)), H', ⟨by have := HK1.out; have := HK2.out; have := HJ24.out; omega⟩, ⟨by (with_reducible repeat (first | refine blk_drewN ?_ _ | refine blk_drew ?_ | refine blk_alloc ?_ _)); exact BK153.out⟩, ⟨by (with_reducible repeat (first | refine blk_drewN ?_ _ | refine blk_drew ?_ | refine blk_alloc ?_ _)); exact BK155.out⟩, ⟨by repeat (first | (with_reducible first | exact HB.out | apply below_alloc | apply pw_below_drewN | apply below_drew1 | refine below_set ?_ GE153.out | refine below_set ?_ GE155.out | refine below_set ?_ GE157.out) | exact HB.out)⟩⟩
                                              · rw [if_neg c110] at H
                                                have c110b0 : (a3 == ((rd_T127 ((rd_T125 l0_0 x27_1).f3) x38_2).f2)) = false := beq_eq_false_iff_ne.mpr c110
                                                have c110b1 : (a3 != ((rd_T127 ((rd_T125 l0_0 x27_1).f3) x38_2).f2)) = true := bne_iff_ne.mpr c110
                                                have H' := Aside0.mk H
                                                clear H
                                                have hnb116 := NB155_153.out
                                                have hnc116 := NB153_155.out
                                                have hnb117 := NB155_157.out
                                                have hnc117 := NB157_155.out
                                                have hcz118_0 : wc.cell? ⟨gb155, 0, none⟩ = some (.int .i64 ((rd_T125 l0_0 x27_1).f0)) := (blk_cell BK155.out 0).trans rfl
                                                have hcz118_1 : wc.cell? ⟨gb155, 1, none⟩ = some (.int .i64 ((rd_T125 l0_0 x27_1).f1)) := (blk_cell BK155.out 1).trans rfl
                                                have hcz118_2 : wc.cell? ⟨gb155, 2, none⟩ = some (.string ((rd_T125 l0_0 x27_1).f2)) := (blk_cell BK155.out 2).trans rfl
                                                have hcz118_3 : wc.cell? ⟨gb155, 3, none⟩ = some (.slice (some ad156) ((rd_T125 l0_0 x27_1).f3).length c154_3) := (blk_cell BK155.out 3).trans rfl
                                                have hfz118_0 := blk_frozen BK155.out 0
                                                have hfz118_1 := blk_frozen BK155.out 1
                                                have hfz118_2 := blk_frozen BK155.out 2
                                                have hfz118_3 := blk_frozen BK155.out 3
                                                have hnb119 := NB157_153.out
                                                have hnc119 := NB153_157.out
                                                have hcz120_0 : wc.cell? ⟨gb157, 0, none⟩ = some (.int .i64 ((rd_T127 ((rd_T125 l0_0 x27_1).f3) x38_2).f0)) := (blk_cell BK157.out 0).trans rfl
                                                have hcz120_1 : wc.cell? ⟨gb157, 1, none⟩ = some (.int .i64 ((rd_T127 ((rd_T125 l0_0 x27_1).f3) x38_2).f1)) := (blk_cell BK157.out 1).trans rfl
                                                have hcz120_2 : wc.cell? ⟨gb157, 2, none⟩ = some (.int .i64 ((rd_T127 ((rd_T125 l0_0 x27_1).f3) x38_2).f2)) := (blk_cell BK157.out 2).trans rfl
                                                have hcz120_3 : wc.cell? ⟨gb157, 3, none⟩ = some (.int .i64 ((rd_T127 ((rd_T125 l0_0 x27_1).f3) x38_2).f3)) := (blk_cell BK157.out 3).trans rfl
                                                have hcz120_4 : wc.cell? ⟨gb157, 4, none⟩ = some (.int .i64 ((rd_T127 ((rd_T125 l0_0 x27_1).f3) x38_2).f4)) := (blk_cell BK157.out 4).trans rfl
                                                have hfz120_0 := blk_frozen BK157.out 0
                                                have hfz120_1 := blk_frozen BK157.out 1
                                                have hfz120_2 := blk_frozen BK157.out 2
                                                have hfz120_3 := blk_frozen BK157.out 3
                                                have hfz120_4 := blk_frozen BK157.out 4
                                                go_wp2
                                                go_roundg kj24
                                                case measure => have := HK1.out; have := HK2.out; have := HJ24.out; omega
                                                case rel => exact ⟨(x14_2), (x15_2), (wrap64 (x38_2 + 1)), (by first | rfl | (simp; done) | (simp [*]; done)), (by first | rfl | (simp; done) | (simp [*]; done)), (by first | rfl | (simp; done) | (simp [*]; done)), H', ⟨by have := HK1.out; have := HK2.out; have := HJ24.out; omega⟩, ⟨by (with_reducible repeat (first | refine blk_drewN ?_ _ | refine blk_drew ?_ | refine blk_alloc ?_ _)); exact BK153.out⟩, ⟨by (with_reducible repeat (first | refine blk_drewN ?_ _ | refine blk_drew ?_ | refine blk_alloc ?_ _)); exact BK155.out⟩, ⟨by repeat (first | (with_reducible first | exact HB.out | apply below_alloc | apply pw_below_drewN | apply below_drew1 | refine below_set ?_ GE153.out | refine below_set ?_ GE155.out | refine below_set ?_ GE157.out) | exact HB.out)⟩⟩
                                          · rw [if_neg c103] at H
                                            have c103b0 : (a2 == ((rd_T127 ((rd_T125 l0_0 x27_1).f3) x38_2).f1)) = false := beq_eq_false_iff_ne.mpr c103
                                            have c103b1 : (a2 != ((rd_T127 ((rd_T125 l0_0 x27_1).f3) x38_2).f1)) = true := bne_iff_ne.mpr c103
                                            have H' := Aside0.mk H
                                            clear H
                                            have hnb121 := NB155_153.out
                                            have hnc121 := NB153_155.out
                                            have hnb122 := NB155_157.out
                                            have hnc122 := NB157_155.out
                                            have hcz123_0 : wc.cell? ⟨gb155, 0, none⟩ = some (.int .i64 ((rd_T125 l0_0 x27_1).f0)) := (blk_cell BK155.out 0).trans rfl
                                            have hcz123_1 : wc.cell? ⟨gb155, 1, none⟩ = some (.int .i64 ((rd_T125 l0_0 x27_1).f1)) := (blk_cell BK155.out 1).trans rfl
                                            have hcz123_2 : wc.cell? ⟨gb155, 2, none⟩ = some (.string ((rd_T125 l0_0 x27_1).f2)) := (blk_cell BK155.out 2).trans rfl
                                            have hcz123_3 : wc.cell? ⟨gb155, 3, none⟩ = some (.slice (some ad156) ((rd_T125 l0_0 x27_1).f3).length c154_3) := (blk_cell BK155.out 3).trans rfl
                                            have hfz123_0 := blk_frozen BK155.out 0
                                            have hfz123_1 := blk_frozen BK155.out 1
                                            have hfz123_2 := blk_frozen BK155.out 2
                                            have hfz123_3 := blk_frozen BK155.out 3
                                            have hnb124 := NB157_153.out
                                            have hnc124 := NB153_157.out
                                            have hcz125_0 : wc.cell? ⟨gb157, 0, none⟩ = some (.int .i64 ((rd_T127 ((rd_T125 l0_0 x27_1).f3) x38_2).f0)) := (blk_cell BK157.out 0).trans rfl
                                            have hcz125_1 : wc.cell? ⟨gb157, 1, none⟩ = some (.int .i64 ((rd_T127 ((rd_T125 l0_0 x27_1).f3) x38_2).f1)) := (blk_cell BK157.out 1).trans rfl
                                            have hcz125_2 : wc.cell? ⟨gb157, 2, none⟩ = some (.int .i64 ((rd_T127 ((rd_T125 l0_0 x27_1).f3) x38_2).f2)) := (blk_cell BK157.out 2).trans rfl
                                            have hcz125_3 : wc.cell? ⟨gb157, 3, none⟩ = some (.int .i64 ((rd_T127 ((rd_T125 l0_0 x27_1).f3) x38_2).f3)) := (blk_cell BK157.out 3).trans rfl
                                            have hcz125_4 : wc.cell? ⟨gb157, 4, none⟩ = some (.int .i64 ((rd_T127 ((rd_T125 l0_0 x27_1).f3) x38_2).f4)) := (blk_cell BK157.out 4).trans rfl
                                            have hfz125_0 := blk_frozen BK157.out 0
                                            have hfz125_1 := blk_frozen BK157.out 1
                                            have hfz125_2 := blk_frozen BK157.out 2
                                            have hfz125_3 := blk_frozen BK157.out 3
                                            have hfz125_4 := blk_frozen BK157.out 4
                                            go_wp2
                                            go_roundg kj24
                                            case measure => have := HK1.out; have := HK2.out; have := HJ24.out; omega
                                            case rel => exact ⟨(x14_2), (x15_2), (wrap64 (x38_2 + 1)), (by first | rfl | (simp; done) | (simp [*]; done)), (by first | rfl | (simp; done) | (simp [*]; done)), (by first | rfl | (simp; done) | (simp [*]; done)), H', ⟨by have := HK1.out; have := HK2.out; have := HJ24.out; omega⟩, ⟨by (with_reducible repeat (first | refine blk_drewN ?_ _ | refine blk_drew ?_ | refine blk_alloc ?_ _)); exact BK153.out⟩, ⟨by (with_reducible repeat (first | refine blk_drewN ?_ _ | refine blk_drew ?_ | refine blk_alloc ?_ _)); exact BK155.out⟩, ⟨by repeat (first | (with_reducible first | exact HB.out | apply below_alloc | apply pw_below_drewN | apply below_drew1 | refine below_set ?_ GE153.out | refine below_set ?_ GE155.out | refine below_set ?_ GE157.out) | exact HB.out)⟩⟩
                                      · rw [if_neg c84] at H
                                        have c84b0 : (a1 == ((rd_T127 ((rd_T125 l0_0 x27_1).f3) x38_2).f0)) = false := beq_eq_false_iff_ne.mpr c84
                                        have c84b1 : (a1 != ((rd_T127 ((rd_T125 l0_0 x27_1).f3) x38_2).f0)) = true := bne_iff_ne.mpr c84
                                        have H' := Aside0.mk H
                                        clear H
                                        have hnb126 := NB155_153.out
                                        have hnc126 := NB153_155.out
                                        have hnb127 := NB155_157.out
                                        have hnc127 := NB157_155.out
                                        have hcz128_0 : wc.cell? ⟨gb155, 0, none⟩ = some (.int .i64 ((rd_T125 l0_0 x27_1).f0)) := (blk_cell BK155.out 0).trans rfl
                                        have hcz128_1 : wc.cell? ⟨gb155, 1, none⟩ = some (.int .i64 ((rd_T125 l0_0 x27_1).f1)) := (blk_cell BK155.out 1).trans rfl
                                        have hcz128_2 : wc.cell? ⟨gb155, 2, none⟩ = some (.string ((rd_T125 l0_0 x27_1).f2)) := (blk_cell BK155.out 2).trans rfl
                                        have hcz128_3 : wc.cell? ⟨gb155, 3, none⟩ = some (.slice (some ad156) ((rd_T125 l0_0 x27_1).f3).length c154_3) := (blk_cell BK155.out 3).trans rfl
                                        have hfz128_0 := blk_frozen BK155.out 0
                                        have hfz128_1 := blk_frozen BK155.out 1
                                        have hfz128_2 := blk_frozen BK155.out 2
                                        have hfz128_3 := blk_frozen BK155.out 3
                                        have hnb129 := NB157_153.out
                                        have hnc129 := NB153_157.out
                                        have hcz130_0 : wc.cell? ⟨gb157, 0, none⟩ = some (.int .i64 ((rd_T127 ((rd_T125 l0_0 x27_1).f3) x38_2).f0)) := (blk_cell BK157.out 0).trans rfl
                                        have hcz130_1 : wc.cell? ⟨gb157, 1, none⟩ = some (.int .i64 ((rd_T127 ((rd_T125 l0_0 x27_1).f3) x38_2).f1)) := (blk_cell BK157.out 1).trans rfl
                                        have hcz130_2 : wc.cell? ⟨gb157, 2, none⟩ = some (.int .i64 ((rd_T127 ((rd_T125 l0_0 x27_1).f3) x38_2).f2)) := (blk_cell BK157.out 2).trans rfl
                                        have hcz130_3 : wc.cell? ⟨gb157, 3, none⟩ = some (.int .i64 ((rd_T127 ((rd_T125 l0_0 x27_1).f3) x38_2).f3)) := (blk_cell BK157.out 3).trans rfl
                                        have hcz130_4 : wc.cell? ⟨gb157, 4, none⟩ = some (.int .i64 ((rd_T127 ((rd_T125 l0_0 x27_1).f3) x38_2).f4)) := (blk_cell BK157.out 4).trans rfl
                                        have hfz130_0 := blk_frozen BK157.out 0
                                        have hfz130_1 := blk_frozen BK157.out 1
                                        have hfz130_2 := blk_frozen BK157.out 2
                                        have hfz130_3 := blk_frozen BK157.out 3
                                        have hfz130_4 := blk_frozen BK157.out 4
                                        go_wp2
                                        go_roundg kj24
                                        case measure => have := HK1.out; have := HK2.out; have := HJ24.out; omega
                                        case rel => exact ⟨(x14_2), (x15_2), (wrap64 (x38_2 + 1)), (by first | rfl | (simp; done) | (simp [*]; done)), (by first | rfl | (simp; done) | (simp [*]; done)), (by first | rfl | (simp; done) | (simp [*]; done)), H', ⟨by have := HK1.out; have := HK2.out; have := HJ24.out; omega⟩, ⟨by (with_reducible repeat (first | refine blk_drewN ?_ _ | refine blk_drew ?_ | refine blk_alloc ?_ _)); exact BK153.out⟩, ⟨by (with_reducible repeat (first | refine blk_drewN ?_ _ | refine blk_drew ?_ | refine blk_alloc ?_ _)); exact BK155.out⟩, ⟨by repeat (first | (with_reducible first | exact HB.out | apply below_alloc | apply pw_below_drewN | apply below_drew1 | refine below_set ?_ GE153.out | refine below_set ?_ GE155.out | refine below_set ?_ GE157.out) | exact HB.out)⟩⟩
                                  · rw [if_neg c41] at H
                                    have c41b0 : decide (((rd_T125 l0_0 x27_1).f0) ≤ a5) = false := decide_eq_false c41
                                    clear c41
                                    have H' := Aside0.mk H
                                    clear H
                                    have hnb131 := NB155_153.out
                                    have hnc131 := NB153_155.out
                                    have hnb132 := NB155_157.out
                                    have hnc132 := NB157_155.out
                                    have hcz133_0 : wc.cell? ⟨gb155, 0, none⟩ = some (.int .i64 ((rd_T125 l0_0 x27_1).f0)) := (blk_cell BK155.out 0).trans rfl
                                    have hcz133_1 : wc.cell? ⟨gb155, 1, none⟩ = some (.int .i64 ((rd_T125 l0_0 x27_1).f1)) := (blk_cell BK155.out 1).trans rfl
                                    have hcz133_2 : wc.cell? ⟨gb155, 2, none⟩ = some (.string ((rd_T125 l0_0 x27_1).f2)) := (blk_cell BK155.out 2).trans rfl
                                    have hcz133_3 : wc.cell? ⟨gb155, 3, none⟩ = some (.slice (some ad156) ((rd_T125 l0_0 x27_1).f3).length c154_3) := (blk_cell BK155.out 3).trans rfl
                                    have hfz133_0 := blk_frozen BK155.out 0
                                    have hfz133_1 := blk_frozen BK155.out 1
                                    have hfz133_2 := blk_frozen BK155.out 2
                                    have hfz133_3 := blk_frozen BK155.out 3
                                    go_wp2
                                    go_roundg kj24
                                    case measure => have := HK1.out; have := HK2.out; have := HJ24.out; omega
                                    case rel => exact ⟨(x14_2), (x15_2), (wrap64 (x38_2 + 1)), (by first | rfl | (simp; done) | (simp [*]; done)), (by first | rfl | (simp; done) | (simp [*]; done)), (by first | rfl | (simp; done) | (simp [*]; done)), H', ⟨by have := HK1.out; have := HK2.out; have := HJ24.out; omega⟩, ⟨by (with_reducible repeat (first | refine blk_drewN ?_ _ | refine blk_drew ?_ | refine blk_alloc ?_ _)); exact BK153.out⟩, ⟨by (with_reducible repeat (first | refine blk_drewN ?_ _ | refine blk_drew ?_ | refine blk_alloc ?_ _)); exact BK155.out⟩, ⟨by repeat (first | (with_reducible first | exact HB.out | apply below_alloc | apply pw_below_drewN | apply below_drew1 | refine below_set ?_ GE153.out | refine below_set ?_ GE155.out | refine below_set ?_ GE157.out) | exact HB.out)⟩⟩
                                · rw [if_neg c40] at H
                                  have c40b0 : decide (a4 ≤ ((rd_T125 l0_0 x27_1).f0)) = false := decide_eq_false c40
                                  clear c40
                                  have H' := Aside0.mk H
                                  clear H
                                  have hnb134 := NB155_153.out
                                  have hnc134 := NB153_155.out
                                  have hnb135 := NB155_157.out
                                  have hnc135 := NB157_155.out
                                  have hcz136_0 : wc.cell? ⟨gb155, 0, none⟩ = some (.int .i64 ((rd_T125 l0_0 x27_1).f0)) := (blk_cell BK155.out 0).trans rfl
                                  have hcz136_1 : wc.cell? ⟨gb155, 1, none⟩ = some (.int .i64 ((rd_T125 l0_0 x27_1).f1)) := (blk_cell BK155.out 1).trans rfl
                                  have hcz136_2 : wc.cell? ⟨gb155, 2, none⟩ = some (.string ((rd_T125 l0_0 x27_1).f2)) := (blk_cell BK155.out 2).trans rfl
                                  have hcz136_3 : wc.cell? ⟨gb155, 3, none⟩ = some (.slice (some ad156) ((rd_T125 l0_0 x27_1).f3).length c154_3) := (blk_cell BK155.out 3).trans rfl
                                  have hfz136_0 := blk_frozen BK155.out 0
                                  have hfz136_1 := blk_frozen BK155.out 1
                                  have hfz136_2 := blk_frozen BK155.out 2
                                  have hfz136_3 := blk_frozen BK155.out 3
                                  go_wp2
                                  go_roundg kj24
                                  case measure => have := HK1.out; have := HK2.out; have := HJ24.out; omega
                                  case rel => exact ⟨(x14_2), (x15_2), (wrap64 (x38_2 + 1)), (by first | rfl | (simp; done) | (simp [*]; done)), (by first | rfl | (simp; done) | (simp [*]; done)), (by first | rfl | (simp; done) | (simp [*]; done)), H', ⟨by have := HK1.out; have := HK2.out; have := HJ24.out; omega⟩, ⟨by (with_reducible repeat (first | refine blk_drewN ?_ _ | refine blk_drew ?_ | refine blk_alloc ?_ _)); exact BK153.out⟩, ⟨by (with_reducible repeat (first | refine blk_drewN ?_ _ | refine blk_drew ?_ | refine blk_alloc ?_ _)); exact BK155.out⟩, ⟨by repeat (first | (with_reducible first | exact HB.out | apply below_alloc | apply pw_below_drewN | apply below_drew1 | refine below_set ?_ GE153.out | refine below_set ?_ GE155.out | refine below_set ?_ GE157.out) | exact HB.out)⟩⟩
                        · rw [if_neg c24] at H
                          exact absurd H (by simp)
                      · rw [if_neg c23] at H
                        exact absurd H (by simp)
                    · rw [if_neg c22] at H
                      have c22b0 : decide (x38_2 < (((rd_T125 l0_0 x27_1).f3).length : Int)) = false := decide_eq_false c22
                      clear c22
                      have H' := Aside0.mk H
                      clear H
                      go_wp2
                      go_roundg k2
                      case measure => have := HK1.out; have := HK2.out; omega
                      case rel => exact ⟨(x14_2), (x15_2), (wrap64 (x27_1 + 1)), (by first | rfl | (simp; done) | (simp [*]; done)), (by first | rfl | (simp; done) | (simp [*]; done)), (by first | rfl | (simp; done) | (simp [*]; done)), H', ⟨by have := HK1.out; have := HK2.out; omega⟩, ⟨by (with_reducible repeat (first | refine blk_drewN ?_ _ | refine blk_drew ?_ | refine blk_alloc ?_ _)); exact BK153.out⟩, ⟨by repeat (first | (with_reducible first | exact HB.out | apply below_alloc | apply pw_below_drewN | apply below_drew1 | refine below_set ?_ GE153.out | refine below_set ?_ GE155.out) | exact HB.out)⟩⟩
            · rw [if_neg c14] at H
              exact absurd H (by simp)
          · rw [if_neg c13] at H
            exact absurd H (by simp)
        · rw [if_neg c12] at H
          have c12b0 : decide (x27_1 < (l0_0.length : Int)) = false := decide_eq_false c12
          clear c12
          simp only [Option.some.injEq, Prod.mk.injEq] at H
          obtain ⟨rfl, rfl⟩ := H
          go_wp2
          go_ret2
          exact ⟨by first | rfl | (simp [errW_none, errW_some] <;> rfl) | (simp [*, errW_none, errW_some] <;> rfl), by repeat (first | (with_reducible first | exact HB.out | apply below_alloc | apply pw_below_drewN | apply below_drew1 | refine below_set ?_ GE153.out) | exact HB.out)⟩

end Go.Proofs.Ytiamlcnmjicpaaa.PFnExactBalance
