-- Written by a changed copy of the kit's print (this repo's wip/tools/mkprint.py, p2.py): not a file of print.sh.
import Derived.Test.YtiamlcnmjicpaaaPFnExactBalancex0
import Derived.Test.YtiamlcnmjicpaaaPFnExactBalancex1
namespace Go.Proofs.Ytiamlcnmjicpaaa.PFnExactBalance
open Go.RowKit Go.Proofs.YtiamlcnmjicpaaaW.PrintWords Go.Proofs.YtiamlcnmjicpaaaW.PrintLast Go.Proofs.YtiamlcnmjicpaaaW.PrintMore
attribute [local go_sem] max2_int min2_int max_two min_two max_three min_three max_four min_four   -- for this text's walks alone
set_option linter.unusedVariables false
set_option linter.unusedSimpArgs false

/-! ### spec_Balance: function 24 -/
mutual
def spec_Balance.l0 : Nat → Int → Int → Int → Int → Int → Int → Int → Int → List (S125) → Int → Option (Int × Int)
  | 0, _, _, _, _, _, _, _, _, _, _ => none
  | k + 1, x1, x2, x3, x4, x5, x14, x15, x16, x109000, x109001 => if x16 < (x109000.length : Int) then (if 0 ≤ x16 then (if (((rd_T125 x109000 x16).f3).length : Int) > 60 then (some (0, 0)) else (spec_Balance.l1 k x1 x2 x3 x4 x5 x14 x15 x16 0 x109000 x109001 ((rd_T125 x109000 x16).f0) ((rd_T125 x109000 x16).f1) ((rd_T125 x109000 x16).f2) ((rd_T125 x109000 x16).f3))) else (none)) else (some (x14, x15))
def spec_Balance.l1 : Nat → Int → Int → Int → Int → Int → Int → Int → Int → Int → List (S125) → Int → Int → Int → ByteArray → List (S127) → Option (Int × Int)
  | 0, _, _, _, _, _, _, _, _, _, _, _, _, _, _, _ => none
  | k + 1, x1, x2, x3, x4, x5, x14, x15, x16, x18, x109000, x109001, x111000, x111001, x111002, x111003 => if x18 < (x111003.length : Int) then (if 0 ≤ x18 then ((spec_l1Amount.f ((rd_T127 x111003 x18).f3)).bind fun t113 => (if t113 = true then ((spec_l1Amount.f ((rd_T127 x111003 x18).f4)).bind fun t114 => (spec_Balance.j2 k x1 x2 x3 x4 x5 x14 x15 x16 x18 (!t114) x109000 x109001 x111000 x111001 x111002 x111003 ((rd_T127 x111003 x18).f0) ((rd_T127 x111003 x18).f1) ((rd_T127 x111003 x18).f2) ((rd_T127 x111003 x18).f3) ((rd_T127 x111003 x18).f4))) else (spec_Balance.j2 k x1 x2 x3 x4 x5 x14 x15 x16 x18 true x109000 x109001 x111000 x111001 x111002 x111003 ((rd_T127 x111003 x18).f0) ((rd_T127 x111003 x18).f1) ((rd_T127 x111003 x18).f2) ((rd_T127 x111003 x18).f3) ((rd_T127 x111003 x18).f4)))) else (none)) else (spec_Balance.l0 k x1 x2 x3 x4 x5 x14 x15 (wrap64 (x16 + 1)) x109000 x109001)
def spec_Balance.j2 : Nat → Int → Int → Int → Int → Int → Int → Int → Int → Int → Bool → List (S125) → Int → Int → Int → ByteArray → List (S127) → Int → Int → Int → Int → Int → Option (Int × Int)
  | 0, _, _, _, _, _, _, _, _, _, _, _, _, _, _, _, _, _, _, _, _, _ => none
  | k + 1, x1, x2, x3, x4, x5, x14, x15, x16, x18, x61, x109000, x109001, x111000, x111001, x111002, x111003, x113000, x113001, x113002, x113003, x113004 => if x61 = true then (some (0, 0)) else ((spec_l1In.f x111000 x4 x5).bind fun t115 => (if t115 = true then (if x1 = (-1) then (if x2 = (-1) then (if x3 = (-1) then (spec_Balance.l1 k x1 x2 x3 x4 x5 (wrap64 (x14 + x113003)) (wrap64 (x15 + x113004)) x16 (wrap64 (x18 + 1)) x109000 x109001 x111000 x111001 x111002 x111003) else (if x3 = x113002 then (spec_Balance.l1 k x1 x2 x3 x4 x5 (wrap64 (x14 + x113003)) (wrap64 (x15 + x113004)) x16 (wrap64 (x18 + 1)) x109000 x109001 x111000 x111001 x111002 x111003) else (spec_Balance.l1 k x1 x2 x3 x4 x5 x14 x15 x16 (wrap64 (x18 + 1)) x109000 x109001 x111000 x111001 x111002 x111003))) else (if x2 = x113001 then (if x3 = (-1) then (spec_Balance.l1 k x1 x2 x3 x4 x5 (wrap64 (x14 + x113003)) (wrap64 (x15 + x113004)) x16 (wrap64 (x18 + 1)) x109000 x109001 x111000 x111001 x111002 x111003) else (if x3 = x113002 then (spec_Balance.l1 k x1 x2 x3 x4 x5 (wrap64 (x14 + x113003)) (wrap64 (x15 + x113004)) x16 (wrap64 (x18 + 1)) x109000 x109001 x111000 x111001 x111002 x111003) else (spec_Balance.l1 k x1 x2 x3 x4 x5 x14 x15 x16 (wrap64 (x18 + 1)) x109000 x109001 x111000 x111001 x111002 x111003))) else (spec_Balance.l1 k x1 x2 x3 x4 x5 x14 x15 x16 (wrap64 (x18 + 1)) x109000 x109001 x111000 x111001 x111002 x111003))) else (if x1 = x113000 then (if x2 = (-1) then (if x3 = (-1) then (spec_Balance.l1 k x1 x2 x3 x4 x5 (wrap64 (x14 + x113003)) (wrap64 (x15 + x113004)) x16 (wrap64 (x18 + 1)) x109000 x109001 x111000 x111001 x111002 x111003) else (if x3 = x113002 then (spec_Balance.l1 k x1 x2 x3 x4 x5 (wrap64 (x14 + x113003)) (wrap64 (x15 + x113004)) x16 (wrap64 (x18 + 1)) x109000 x109001 x111000 x111001 x111002 x111003) else (spec_Balance.l1 k x1 x2 x3 x4 x5 x14 x15 x16 (wrap64 (x18 + 1)) x109000 x109001 x111000 x111001 x111002 x111003))) else (if x2 = x113001 then (if x3 = (-1) then (spec_Balance.l1 k x1 x2 x3 x4 x5 (wrap64 (x14 + x113003)) (wrap64 (x15 + x113004)) x16 (wrap64 (x18 + 1)) x109000 x109001 x111000 x111001 x111002 x111003) else (if x3 = x113002 then (spec_Balance.l1 k x1 x2 x3 x4 x5 (wrap64 (x14 + x113003)) (wrap64 (x15 + x113004)) x16 (wrap64 (x18 + 1)) x109000 x109001 x111000 x111001 x111002 x111003) else (spec_Balance.l1 k x1 x2 x3 x4 x5 x14 x15 x16 (wrap64 (x18 + 1)) x109000 x109001 x111000 x111001 x111002 x111003))) else (spec_Balance.l1 k x1 x2 x3 x4 x5 x14 x15 x16 (wrap64 (x18 + 1)) x109000 x109001 x111000 x111001 x111002 x111003))) else (spec_Balance.l1 k x1 x2 x3 x4 x5 x14 x15 x16 (wrap64 (x18 + 1)) x109000 x109001 x111000 x111001 x111002 x111003))) else (spec_Balance.l1 k x1 x2 x3 x4 x5 x14 x15 x16 (wrap64 (x18 + 1)) x109000 x109001 x111000 x111001 x111002 x111003)))
end
def spec_Balance.f (k : Nat) (l0_0 : List (S125)) (a0_1 : Int) (a1 : Int) (a2 : Int) (a3 : Int) (a4 : Int) (a5 : Int) : Option (Int × Int) := if (l0_0.length : Int) > 1000 then (some (0, 0)) else (spec_Balance.l0 k a1 a2 a3 a4 a5 0 0 0 l0_0 a0_1)
theorem spec_Balance.mono_l : ∀ k, (∀ y0 y1 y2 y3 y4 y5 y6 y7 y8 y9, LeO (spec_Balance.l0 k y0 y1 y2 y3 y4 y5 y6 y7 y8 y9) (spec_Balance.l0 (k + 1) y0 y1 y2 y3 y4 y5 y6 y7 y8 y9)) ∧ (∀ y0 y1 y2 y3 y4 y5 y6 y7 y8 y9 y10 y11 y12 y13 y14, LeO (spec_Balance.l1 k y0 y1 y2 y3 y4 y5 y6 y7 y8 y9 y10 y11 y12 y13 y14) (spec_Balance.l1 (k + 1) y0 y1 y2 y3 y4 y5 y6 y7 y8 y9 y10 y11 y12 y13 y14)) ∧ (∀ y0 y1 y2 y3 y4 y5 y6 y7 y8 y9 y10 y11 y12 y13 y14 y15 y16 y17 y18 y19 y20, LeO (spec_Balance.j2 k y0 y1 y2 y3 y4 y5 y6 y7 y8 y9 y10 y11 y12 y13 y14 y15 y16 y17 y18 y19 y20) (spec_Balance.j2 (k + 1) y0 y1 y2 y3 y4 y5 y6 y7 y8 y9 y10 y11 y12 y13 y14 y15 y16 y17 y18 y19 y20))
  | 0 => ⟨fun _ _ _ _ _ _ _ _ _ _ r h => by simp [spec_Balance.l0] at h, fun _ _ _ _ _ _ _ _ _ _ _ _ _ _ _ r h => by simp [spec_Balance.l1] at h, fun _ _ _ _ _ _ _ _ _ _ _ _ _ _ _ _ _ _ _ _ _ r h => by simp [spec_Balance.j2] at h⟩
  | k + 1 => by
    obtain ⟨ih0, ih1, ih2⟩ := spec_Balance.mono_l k
    refine ⟨?_, ?_, ?_⟩
    · intro y0 y1 y2 y3 y4 y5 y6 y7 y8 y9
      unfold spec_Balance.l0
      repeat' first
      | (with_reducible exact ih0 _ _ _ _ _ _ _ _ _ _)
      | (with_reducible exact ih1 _ _ _ _ _ _ _ _ _ _ _ _ _ _ _)
      | (with_reducible exact ih2 _ _ _ _ _ _ _ _ _ _ _ _ _ _ _ _ _ _ _ _ _)
      | (with_reducible exact LeO.refl _)
      | (with_reducible exact LeO.none _)
      | (with_reducible refine LeO.ite ?_ ?_)
      | (with_reducible refine LeO.bind ?_ (fun _ => ?_))
      | exact ih0 _ _ _ _ _ _ _ _ _ _
      | exact ih1 _ _ _ _ _ _ _ _ _ _ _ _ _ _ _
      | exact ih2 _ _ _ _ _ _ _ _ _ _ _ _ _ _ _ _ _ _ _ _ _
      | exact LeO.none _
      | refine LeO.ite ?_ ?_
      | refine LeO.bind ?_ (fun _ => ?_)
    · intro y0 y1 y2 y3 y4 y5 y6 y7 y8 y9 y10 y11 y12 y13 y14
      unfold spec_Balance.l1
      repeat' first
      | (with_reducible exact ih0 _ _ _ _ _ _ _ _ _ _)
      | (with_reducible exact ih1 _ _ _ _ _ _ _ _ _ _ _ _ _ _ _)
      | (with_reducible exact ih2 _ _ _ _ _ _ _ _ _ _ _ _ _ _ _ _ _ _ _ _ _)
      | (with_reducible exact LeO.refl _)
      | (with_reducible exact LeO.none _)
      | (with_reducible refine LeO.ite ?_ ?_)
      | (with_reducible refine LeO.bind ?_ (fun _ => ?_))
      | exact ih0 _ _ _ _ _ _ _ _ _ _
      | exact ih1 _ _ _ _ _ _ _ _ _ _ _ _ _ _ _
      | exact ih2 _ _ _ _ _ _ _ _ _ _ _ _ _ _ _ _ _ _ _ _ _
      | exact LeO.none _
      | refine LeO.ite ?_ ?_
      | refine LeO.bind ?_ (fun _ => ?_)
    · intro y0 y1 y2 y3 y4 y5 y6 y7 y8 y9 y10 y11 y12 y13 y14 y15 y16 y17 y18 y19 y20
      unfold spec_Balance.j2
      repeat' first
      | (with_reducible exact ih0 _ _ _ _ _ _ _ _ _ _)
      | (with_reducible exact ih1 _ _ _ _ _ _ _ _ _ _ _ _ _ _ _)
      | (with_reducible exact ih2 _ _ _ _ _ _ _ _ _ _ _ _ _ _ _ _ _ _ _ _ _)
      | (with_reducible exact LeO.refl _)
      | (with_reducible exact LeO.none _)
      | (with_reducible refine LeO.ite ?_ ?_)
      | (with_reducible refine LeO.bind ?_ (fun _ => ?_))
      | exact ih0 _ _ _ _ _ _ _ _ _ _
      | exact ih1 _ _ _ _ _ _ _ _ _ _ _ _ _ _ _
      | exact ih2 _ _ _ _ _ _ _ _ _ _ _ _ _ _ _ _ _ _ _ _ _
      | exact LeO.none _
      | refine LeO.ite ?_ ?_
      | refine LeO.bind ?_ (fun _ => ?_)
theorem spec_Balance.mono : ∀ a0 a1 a2 a3 a4 a5 a6 k, LeO (spec_Balance.f k a0 a1 a2 a3 a4 a5 a6) (spec_Balance.f (k + 1) a0 a1 a2 a3 a4 a5 a6) := by
  intro a0 a1 a2 a3 a4 a5 a6 k
  obtain ⟨ih0, ih1, ih2⟩ := spec_Balance.mono_l k
  unfold spec_Balance.f
  repeat' first
      | (with_reducible exact ih0 _ _ _ _ _ _ _ _ _ _)
      | (with_reducible exact ih1 _ _ _ _ _ _ _ _ _ _ _ _ _ _ _)
      | (with_reducible exact ih2 _ _ _ _ _ _ _ _ _ _ _ _ _ _ _ _ _ _ _ _ _)
      | (with_reducible exact LeO.refl _)
      | (with_reducible exact LeO.none _)
      | (with_reducible refine LeO.ite ?_ ?_)
      | (with_reducible refine LeO.bind ?_ (fun _ => ?_))
      | exact ih0 _ _ _ _ _ _ _ _ _ _
      | exact ih1 _ _ _ _ _ _ _ _ _ _ _ _ _ _ _
      | exact ih2 _ _ _ _ _ _ _ _ _ _ _ _ _ _ _ _ _ _ _ _ _
      | exact LeO.none _
      | refine LeO.ite ?_ ?_
      | refine LeO.bind ?_ (fun _ => ?_)
set_option maxHeartbeats 8000000 in
set_option maxRecDepth 100000 in
theorem spec_Balance.calls (k : Nat) (A0_0 : Option Addr) (c0_0 : Nat) (l0_0 : List (S125)) (a0_1 : Int) (a1 : Int) (a2 : Int) (a3 : Int) (a4 : Int) (a5 : Int) (r1 : Int) (r2 : Int) (w : World) (hr0_0 : Kd.C k125 w A0_0 l0_0.length l0_0) (hc0_0 : l0_0.length ≤ c0_0) (h : spec_Balance.f k l0_0 a0_1 a1 a2 a3 a4 a5 = some (r1, r2)) :
    Calls Try.prog 24 #[.agg #[.slice A0_0 l0_0.length c0_0, .int .i64 a0_1], .int .i64 a1, .int .i64 a2, .int .i64 a3, .int .i64 a4, .int .i64 a5] w fun e w' => e = .returned (.tuple #[.int .i64 r1, .int .i64 r2]) ∧ Below w.heap.size w w' := by
  have hu50 := Try.underlying50
  have hu125 := Try.underlying125
  have hu127 := Try.underlying127
  have HR0_0 := Aside0.mk hr0_0
  have HC0_0 := Aside0.mk hc0_0
  clear hr0_0 hc0_0
  have HB := Aside0.mk (Below.refl w.heap.size w)
  have H : (if (l0_0.length : Int) > 1000 then (some (0, 0)) else (spec_Balance.l0 k a1 a2 a3 a4 a5 0 0 0 l0_0 a0_1)) = some (r1, r2) := h
  clear h
  by_cases c7 : (l0_0.length : Int) > 1000
  · rw [if_pos c7] at H
    have c7b0 : decide (1000 < (l0_0.length : Int)) = true := decide_eq_true c7
    have c7b1 : decide (1000 < l0_0.length) = true := decide_eq_true (by omega)
    clear c7
    simp only [Option.some.injEq, Prod.mk.injEq] at H
    obtain ⟨rfl, rfl⟩ := H
    go_enter Try.func24, Try.ntmps24
    go_wp2_with (first | ((with_reducible refine gate_dst (N := 6) rfl ?_); refine box_event ?hg (N := 6) ?hd (cs := #[.slice A0_0 l0_0.length c0_0, .int .i64 a0_1]) (t := 50) ?hr ?_; (case hd => rfl); (case hg => rfl); (case hr => first | (go_simp; done) | (go_simp; rfl)); intro gb108 hg w8 hbox hb; have n0_ := Aside0.mk (below_step (by repeat (first | (with_reducible first | exact HB.out | apply below_alloc | apply pw_below_drewN | apply below_drew1) | exact HB.out)) hb); have n1_ := Aside0.mk (hbox); have n2_ := Aside0.mk ((by rw [hg]; exact (below_size (by repeat (first | (with_reducible first | exact HB.out | apply below_alloc | apply pw_below_drewN | apply below_drew1) | exact HB.out))) : w.heap.size ≤ gb108)); have n3_ := Aside0.mk ((by rw [hg]; exact (below_size (by repeat (first | (with_reducible first | exact HB.out | apply below_alloc | apply pw_below_drewN | apply below_drew1) | exact HB.out))) : w.heap.size ≤ gb108)); clear HB; have HB := n0_; have BK108 := n1_; have GW108 := n2_; have GE108 := n3_; clear n0_ n1_ n2_ n3_; clear hb hbox hg; have hcz9_0 : w8.cell? ⟨gb108, 0, none⟩ = some (.slice A0_0 l0_0.length c0_0) := (blk_cell BK108.out 0).trans rfl; have hcz9_1 : w8.cell? ⟨gb108, 1, none⟩ = some (.int .i64 a0_1) := (blk_cell BK108.out 1).trans rfl; have hfz9_0 := blk_frozen BK108.out 0; have hfz9_1 := blk_frozen BK108.out 1))
    go_ret2
    exact ⟨by first | rfl | (simp [errW_none, errW_some] <;> rfl) | (simp [*, errW_none, errW_some] <;> rfl), by repeat (first | (with_reducible first | exact HB.out | apply below_alloc | apply pw_below_drewN | apply below_drew1 | refine below_set ?_ GE108.out) | exact HB.out)⟩
  · rw [if_neg c7] at H
    have c7b0 : decide (1000 < (l0_0.length : Int)) = false := decide_eq_false c7
    have c7b1 : decide (1000 < l0_0.length) = false := decide_eq_false (by omega)
    clear c7
    have H' := Aside0.mk H
    clear H
    go_enter Try.func24, Try.ntmps24
    go_wp2_with (first | ((with_reducible refine gate_dst (N := 6) rfl ?_); refine box_event ?hg (N := 6) ?hd (cs := #[.slice A0_0 l0_0.length c0_0, .int .i64 a0_1]) (t := 50) ?hr ?_; (case hd => rfl); (case hg => rfl); (case hr => first | (go_simp; done) | (go_simp; rfl)); intro gb108 hg w10 hbox hb; have n0_ := Aside0.mk (below_step (by repeat (first | (with_reducible first | exact HB.out | apply below_alloc | apply pw_below_drewN | apply below_drew1) | exact HB.out)) hb); have n1_ := Aside0.mk (hbox); have n2_ := Aside0.mk ((by rw [hg]; exact (below_size (by repeat (first | (with_reducible first | exact HB.out | apply below_alloc | apply pw_below_drewN | apply below_drew1) | exact HB.out))) : w.heap.size ≤ gb108)); have n3_ := Aside0.mk ((by rw [hg]; exact (below_size (by repeat (first | (with_reducible first | exact HB.out | apply below_alloc | apply pw_below_drewN | apply below_drew1) | exact HB.out))) : w.heap.size ≤ gb108)); clear HB; have HB := n0_; have BK108 := n1_; have GW108 := n2_; have GE108 := n3_; clear n0_ n1_ n2_ n3_; clear hb hbox hg; have hcz11_0 : w10.cell? ⟨gb108, 0, none⟩ = some (.slice A0_0 l0_0.length c0_0) := (blk_cell BK108.out 0).trans rfl; have hcz11_1 : w10.cell? ⟨gb108, 1, none⟩ = some (.int .i64 a0_1) := (blk_cell BK108.out 1).trans rfl; have hfz11_0 := blk_frozen BK108.out 0; have hfz11_1 := blk_frozen BK108.out 1))
    go_loopg [14, 15, 16] k (fun kq v14 v15 v16 w' => ∃ (x14_1 : Int) (x15_1 : Int) (x16_1 : Int), v14 = .int .i64 x14_1 ∧ v15 = .int .i64 x15_1 ∧ v16 = .int .i64 x16_1 ∧ Aside0 (spec_Balance.l0 kq a1 a2 a3 a4 a5 x14_1 x15_1 x16_1 l0_0 a0_1 = some (r1, r2)) ∧ Aside0 (kq ≤ k) ∧ Aside0 (w'.heap[gb108]? = some (.cells #[(.slice A0_0 l0_0.length c0_0), .int .i64 a0_1] 50 (0, 0))) ∧ Aside0 (Below w.heap.size w w'))
    case atStart => exact ⟨(0), (0), (0), (by first | rfl | (simp; done) | (simp [*]; done)), (by first | rfl | (simp; done) | (simp [*]; done)), (by first | rfl | (simp; done) | (simp [*]; done)), H', ⟨Nat.le_refl _⟩, ⟨by (with_reducible repeat (first | refine blk_drewN ?_ _ | refine blk_drew ?_ | refine blk_alloc ?_ _)); exact BK108.out⟩, ⟨by repeat (first | (with_reducible first | exact HB.out | apply below_alloc | apply pw_below_drewN | apply below_drew1 | refine below_set ?_ GE108.out) | exact HB.out)⟩⟩
    case round =>
      clear H'
      try clear c2
      try clear p2
      try clear c7
      try clear c7b0
      try clear c7b1
      try clear hcz11_0
      try clear hcz11_1
      try clear hcz9_0
      try clear hcz9_1
      try clear hfz11_0
      try clear hfz11_1
      try clear hfz9_0
      try clear hfz9_1
      obtain ⟨x14_1, x15_1, x16_1, rfl, rfl, rfl, HA, HK1, BK108, HB⟩ := hrel
      cases gk with
      | zero => exact absurd HA.out (by simp [spec_Balance.l0])
      | succ k1 =>
        have H := HA.out
        clear HA
        simp only [spec_Balance.l0] at H
        by_cases c12 : x16_1 < (l0_0.length : Int)
        · rw [if_pos c12] at H
          have c12b0 : decide (x16_1 < (l0_0.length : Int)) = true := decide_eq_true c12
          clear c12
          by_cases c13 : 0 ≤ x16_1
          · rw [if_pos c13] at H
            have c13b0 : decide (0 ≤ x16_1) = true := decide_eq_true c13
            clear c13
            by_cases c14 : (((rd_T125 l0_0 x16_1).f3).length : Int) > 60
            · rw [if_pos c14] at H
              have c14b0 : decide (60 < (((rd_T125 l0_0 x16_1).f3).length : Int)) = true := decide_eq_true c14
              have c14b1 : decide (60 < ((rd_T125 l0_0 x16_1).f3).length) = true := decide_eq_true (by omega)
              clear c14
              simp only [Option.some.injEq, Prod.mk.injEq] at H
              obtain ⟨rfl, rfl⟩ := H
              have hcz15_0 : wr.cell? ⟨gb108, 0, none⟩ = some (.slice A0_0 l0_0.length c0_0) := (blk_cell BK108.out 0).trans rfl
              have hcz15_1 : wr.cell? ⟨gb108, 1, none⟩ = some (.int .i64 a0_1) := (blk_cell BK108.out 1).trans rfl
              have hfz15_0 := blk_frozen BK108.out 0
              have hfz15_1 := blk_frozen BK108.out 1
              have p109 : 0 ≤ (x16_1 : Int) := of_decide_eq_true (by first | (with_reducible assumption) | assumption)
              have q109 : x16_1 < (l0_0.length : Int) := of_decide_eq_true (by first | (with_reducible assumption) | assumption)
              obtain ⟨ad109, A109_3, c109_3, e109, hx109_0, hx109_1, hx109_2, hx109_3, hl109_3, hi109_3⟩ := at_T125 HR0_0.out x16_1 p109 q109
              cases e109
              replace hx109_0 := (HB.out.cell (World.block_lt_of_cell? w _ hx109_0)).trans hx109_0
              replace hx109_1 := (HB.out.cell (World.block_lt_of_cell? w _ hx109_1)).trans hx109_1
              replace hx109_2 := (HB.out.cell (World.block_lt_of_cell? w _ hx109_2)).trans hx109_2
              replace hx109_3 := (HB.out.cell (World.block_lt_of_cell? w _ hx109_3)).trans hx109_3
              have HR109_3 := Aside0.mk hi109_3
              have HC109_3 := Aside0.mk hl109_3
              clear hi109_3 hl109_3
              replace p109 := eq_true p109
              replace q109 := eq_true q109
              go_wp2_with (first | ((with_reducible refine gate_dst (N := 17) rfl ?_); refine box_event ?hg (N := 17) ?hd (cs := #[.int .i64 0, .int .i64 0, .string (⟨#[]⟩ : ByteArray), .slice none 0 0]) (t := 125) ?hr ?_; (case hd => rfl); (case hg => rfl); (case hr => first | (go_simp; done) | (go_simp; rfl)); intro gb110 hg w16 hbox hb; have n0_ := Aside0.mk (blk_below (g := gb108) (o := .cells #[.slice (some ad109) l0_0.length c0_0, .int .i64 a0_1] 50 (0, 0)) (by (with_reducible repeat (first | refine blk_drewN ?_ _ | refine blk_drew ?_ | refine blk_alloc ?_ _)); exact BK108.out) hb); have n1_ := Aside0.mk (below_step (by repeat (first | (with_reducible first | exact HB.out | apply below_alloc | apply pw_below_drewN | apply below_drew1 | refine below_set ?_ GE108.out) | exact HB.out)) hb); have n2_ := Aside0.mk (hbox); have n3_ := Aside0.mk ((by rw [hg]; exact (below_size (by repeat (first | (with_reducible first | exact HB.out | apply below_alloc | apply pw_below_drewN | apply below_drew1 | refine below_set ?_ GE108.out) | exact HB.out))) : w.heap.size ≤ gb110)); have n4_ := Aside0.mk ((by rw [hg]; exact (below_size (by repeat (first | (with_reducible first | exact HB.out | apply below_alloc | apply pw_below_drewN | apply below_drew1 | refine below_set ?_ GE108.out) | exact HB.out))) : w.heap.size ≤ gb110)); have n5_ := Aside0.mk ((by rw [hg]; exact Nat.ne_of_lt (blk_lt (g := gb108) (o := .cells #[.slice (some ad109) l0_0.length c0_0, .int .i64 a0_1] 50 (0, 0)) (by (with_reducible repeat (first | refine blk_drewN ?_ _ | refine blk_drew ?_ | refine blk_alloc ?_ _)); exact BK108.out)) : gb108 ≠ gb110)); have n6_ := Aside0.mk ((by rw [hg]; exact Nat.ne_of_gt (blk_lt (g := gb108) (o := .cells #[.slice (some ad109) l0_0.length c0_0, .int .i64 a0_1] 50 (0, 0)) (by (with_reducible repeat (first | refine blk_drewN ?_ _ | refine blk_drew ?_ | refine blk_alloc ?_ _)); exact BK108.out)) : gb110 ≠ gb108)); clear BK108; clear HB; have BK108 := n0_; have HB := n1_; have BK110 := n2_; have GW110 := n3_; have GE110 := n4_; have NB108_110 := n5_; have NB110_108 := n6_; clear n0_ n1_ n2_ n3_ n4_ n5_ n6_; clear hb hbox hg; have hnb17 := NB110_108.out; have hnc17 := NB108_110.out; have hcz18_0 : w16.cell? ⟨gb110, 0, none⟩ = some (.int .i64 0) := (blk_cell BK110.out 0).trans rfl; have hcz18_1 : w16.cell? ⟨gb110, 1, none⟩ = some (.int .i64 0) := (blk_cell BK110.out 1).trans rfl; have hcz18_2 : w16.cell? ⟨gb110, 2, none⟩ = some (.string (⟨#[]⟩ : ByteArray)) := (blk_cell BK110.out 2).trans rfl; have hcz18_3 : w16.cell? ⟨gb110, 3, none⟩ = some (.slice none 0 0) := (blk_cell BK110.out 3).trans rfl; have hfz18_0 := blk_frozen BK110.out 0; have hfz18_1 := blk_frozen BK110.out 1; have hfz18_2 := blk_frozen BK110.out 2; have hfz18_3 := blk_frozen BK110.out 3))
              go_ret2
              exact ⟨by first | rfl | (simp [errW_none, errW_some] <;> rfl) | (simp [*, errW_none, errW_some] <;> rfl), by repeat (first | (with_reducible first | exact HB.out | apply below_alloc | apply pw_below_drewN | apply below_drew1 | refine below_set ?_ GE108.out | refine below_set ?_ GE110.out) | exact HB.out)⟩
            · rw [if_neg c14] at H
              have c14b0 : decide (60 < (((rd_T125 l0_0 x16_1).f3).length : Int)) = false := decide_eq_false c14
              have c14b1 : decide (60 < ((rd_T125 l0_0 x16_1).f3).length) = false := decide_eq_false (by omega)
              clear c14
              have H' := Aside0.mk H
              clear H
              have hcz19_0 : wr.cell? ⟨gb108, 0, none⟩ = some (.slice A0_0 l0_0.length c0_0) := (blk_cell BK108.out 0).trans rfl
              have hcz19_1 : wr.cell? ⟨gb108, 1, none⟩ = some (.int .i64 a0_1) := (blk_cell BK108.out 1).trans rfl
              have hfz19_0 := blk_frozen BK108.out 0
              have hfz19_1 := blk_frozen BK108.out 1
              have p109 : 0 ≤ (x16_1 : Int) := of_decide_eq_true (by first | (with_reducible assumption) | assumption)
              have q109 : x16_1 < (l0_0.length : Int) := of_decide_eq_true (by first | (with_reducible assumption) | assumption)
              obtain ⟨ad109, A109_3, c109_3, e109, hx109_0, hx109_1, hx109_2, hx109_3, hl109_3, hi109_3⟩ := at_T125 HR0_0.out x16_1 p109 q109
              cases e109
              replace hx109_0 := (HB.out.cell (World.block_lt_of_cell? w _ hx109_0)).trans hx109_0
              replace hx109_1 := (HB.out.cell (World.block_lt_of_cell? w _ hx109_1)).trans hx109_1
              replace hx109_2 := (HB.out.cell (World.block_lt_of_cell? w _ hx109_2)).trans hx109_2
              replace hx109_3 := (HB.out.cell (World.block_lt_of_cell? w _ hx109_3)).trans hx109_3
              have HR109_3 := Aside0.mk hi109_3
              have HC109_3 := Aside0.mk hl109_3
              clear hi109_3 hl109_3
              replace p109 := eq_true p109
              replace q109 := eq_true q109
              go_wp2_with (first | ((with_reducible refine gate_dst (N := 17) rfl ?_); refine box_event ?hg (N := 17) ?hd (cs := #[.int .i64 0, .int .i64 0, .string (⟨#[]⟩ : ByteArray), .slice none 0 0]) (t := 125) ?hr ?_; (case hd => rfl); (case hg => rfl); (case hr => first | (go_simp; done) | (go_simp; rfl)); intro gb110 hg w20 hbox hb; have n0_ := Aside0.mk (blk_below (g := gb108) (o := .cells #[.slice (some ad109) l0_0.length c0_0, .int .i64 a0_1] 50 (0, 0)) (by (with_reducible repeat (first | refine blk_drewN ?_ _ | refine blk_drew ?_ | refine blk_alloc ?_ _)); exact BK108.out) hb); have n1_ := Aside0.mk (below_step (by repeat (first | (with_reducible first | exact HB.out | apply below_alloc | apply pw_below_drewN | apply below_drew1 | refine below_set ?_ GE108.out) | exact HB.out)) hb); have n2_ := Aside0.mk (hbox); have n3_ := Aside0.mk ((by rw [hg]; exact (below_size (by repeat (first | (with_reducible first | exact HB.out | apply below_alloc | apply pw_below_drewN | apply below_drew1 | refine below_set ?_ GE108.out) | exact HB.out))) : w.heap.size ≤ gb110)); have n4_ := Aside0.mk ((by rw [hg]; exact (below_size (by repeat (first | (with_reducible first | exact HB.out | apply below_alloc | apply pw_below_drewN | apply below_drew1 | refine below_set ?_ GE108.out) | exact HB.out))) : w.heap.size ≤ gb110)); have n5_ := Aside0.mk ((by rw [hg]; exact Nat.ne_of_lt (blk_lt (g := gb108) (o := .cells #[.slice (some ad109) l0_0.length c0_0, .int .i64 a0_1] 50 (0, 0)) (by (with_reducible repeat (first | refine blk_drewN ?_ _ | refine blk_drew ?_ | refine blk_alloc ?_ _)); exact BK108.out)) : gb108 ≠ gb110)); have n6_ := Aside0.mk ((by rw [hg]; exact Nat.ne_of_gt (blk_lt (g := gb108) (o := .cells #[.slice (some ad109) l0_0.length c0_0, .int .i64 a0_1] 50 (0, 0)) (by (with_reducible repeat (first | refine blk_drewN ?_ _ | refine blk_drew ?_ | refine blk_alloc ?_ _)); exact BK108.out)) : gb110 ≠ gb108)); clear BK108; clear HB; have BK108 := n0_; have HB := n1_; have BK110 := n2_; have GW110 := n3_; have GE110 := n4_; have NB108_110 := n5_; have NB110_108 := n6_; clear n0_ n1_ n2_ n3_ n4_ n5_ n6_; clear hb hbox hg; have hnb21 := NB110_108.out; have hnc21 := NB108_110.out; have hcz22_0 : w20.cell? ⟨gb110, 0, none⟩ = some (.int .i64 0) := (blk_cell BK110.out 0).trans rfl; have hcz22_1 : w20.cell? ⟨gb110, 1, none⟩ = some (.int .i64 0) := (blk_cell BK110.out 1).trans rfl; have hcz22_2 : w20.cell? ⟨gb110, 2, none⟩ = some (.string (⟨#[]⟩ : ByteArray)) := (blk_cell BK110.out 2).trans rfl; have hcz22_3 : w20.cell? ⟨gb110, 3, none⟩ = some (.slice none 0 0) := (blk_cell BK110.out 3).trans rfl; have hfz22_0 := blk_frozen BK110.out 0; have hfz22_1 := blk_frozen BK110.out 1; have hfz22_2 := blk_frozen BK110.out 2; have hfz22_3 := blk_frozen BK110.out 3))
              go_loopg [14, 15, 18] k1 (fun kq v14 v15 v18 w' => ∃ (x14_2 : Int) (x15_2 : Int) (x18_2 : Int), v14 = .int .i64 x14_2 ∧ v15 = .int .i64 x15_2 ∧ v18 = .int .i64 x18_2 ∧ Aside0 (spec_Balance.l1 kq a1 a2 a3 a4 a5 x14_2 x15_2 x16_1 x18_2 l0_0 a0_1 ((rd_T125 l0_0 x16_1).f0) ((rd_T125 l0_0 x16_1).f1) ((rd_T125 l0_0 x16_1).f2) ((rd_T125 l0_0 x16_1).f3) = some (r1, r2)) ∧ Aside0 (kq ≤ k1) ∧ Aside0 (w'.heap[gb108]? = some (.cells #[(.slice (some ad109) l0_0.length c0_0), .int .i64 a0_1] 50 (0, 0))) ∧ Aside0 (w'.heap[gb110]? = some (.cells #[.int .i64 ((rd_T125 l0_0 x16_1).f0), .int .i64 ((rd_T125 l0_0 x16_1).f1), .string ((rd_T125 l0_0 x16_1).f2), (.slice A109_3 ((rd_T125 l0_0 x16_1).f3).length c109_3)] 125 (0, 0))) ∧ Aside0 (Below w.heap.size w w'))
              case atStart => exact ⟨(x14_1), (x15_1), (0), (by first | rfl | (simp; done) | (simp [*]; done)), (by first | rfl | (simp; done) | (simp [*]; done)), (by first | rfl | (simp; done) | (simp [*]; done)), H', ⟨Nat.le_refl _⟩, ⟨by (with_reducible repeat (first | refine blk_drewN ?_ _ | refine blk_drew ?_ | refine blk_alloc ?_ _)); refine blk_far ?_ NB108_110.out _; (with_reducible repeat (first | refine blk_drewN ?_ _ | refine blk_drew ?_ | refine blk_alloc ?_ _)); refine blk_far ?_ NB108_110.out _; (with_reducible repeat (first | refine blk_drewN ?_ _ | refine blk_drew ?_ | refine blk_alloc ?_ _)); refine blk_far ?_ NB108_110.out _; (with_reducible repeat (first | refine blk_drewN ?_ _ | refine blk_drew ?_ | refine blk_alloc ?_ _)); refine blk_far ?_ NB108_110.out _; (with_reducible repeat (first | refine blk_drewN ?_ _ | refine blk_drew ?_ | refine blk_alloc ?_ _)); exact BK108.out⟩, ⟨by (with_reducible repeat (first | refine blk_drewN ?_ _ | refine blk_drew ?_ | refine blk_alloc ?_ _)); refine blk_put (cs := #[.int .i64 ((rd_T125 l0_0 x16_1).f0), .int .i64 ((rd_T125 l0_0 x16_1).f1), .string ((rd_T125 l0_0 x16_1).f2), .slice none 0 0]) ?_ 3 _ rfl; (with_reducible repeat (first | refine blk_drewN ?_ _ | refine blk_drew ?_ | refine blk_alloc ?_ _)); refine blk_put (cs := #[.int .i64 ((rd_T125 l0_0 x16_1).f0), .int .i64 ((rd_T125 l0_0 x16_1).f1), .string (⟨#[]⟩ : ByteArray), .slice none 0 0]) ?_ 2 _ rfl; (with_reducible repeat (first | refine blk_drewN ?_ _ | refine blk_drew ?_ | refine blk_alloc ?_ _)); refine blk_put (cs := #[.int .i64 ((rd_T125 l0_0 x16_1).f0), .int .i64 0, .string (⟨#[]⟩ : ByteArray), .slice none 0 0]) ?_ 1 _ rfl; (with_reducible repeat (first | refine blk_drewN ?_ _ | refine blk_drew ?_ | refine blk_alloc ?_ _)); refine blk_put (cs := #[.int .i64 0, .int .i64 0, .string (⟨#[]⟩ : ByteArray), .slice none 0 0]) ?_ 0 _ rfl; (with_reducible repeat (first | refine blk_drewN ?_ _ | refine blk_drew ?_ | refine blk_alloc ?_ _)); exact BK110.out⟩, ⟨by repeat (first | (with_reducible first | exact HB.out | apply below_alloc | apply pw_below_drewN | apply below_drew1 | refine below_set ?_ GE108.out | refine below_set ?_ GE110.out) | exact HB.out)⟩⟩
              case round =>
                clear H'
                try clear c1
                try clear p1
                try clear q1
                try clear hx1
                try clear c2
                try clear p2
                try clear c7
                try clear c7b0
                try clear c7b1
                try clear c10
                try clear p10
                try clear q10
                try clear hx10
                try clear c12
                try clear c12b0
                try clear c13
                try clear c13b0
                try clear c14
                try clear c14b0
                try clear c14b1
                try clear c17
                try clear c21
                try clear hcz11_0
                try clear hcz11_1
                try clear hcz15_0
                try clear hcz15_1
                try clear hcz18_0
                try clear hcz18_1
                try clear hcz18_2
                try clear hcz18_3
                try clear hcz19_0
                try clear hcz19_1
                try clear hcz22_0
                try clear hcz22_1
                try clear hcz22_2
                try clear hcz22_3
                try clear hcz9_0
                try clear hcz9_1
                try clear hfz11_0
                try clear hfz11_1
                try clear hfz15_0
                try clear hfz15_1
                try clear hfz18_0
                try clear hfz18_1
                try clear hfz18_2
                try clear hfz18_3
                try clear hfz19_0
                try clear hfz19_1
                try clear hfz22_0
                try clear hfz22_1
                try clear hfz22_2
                try clear hfz22_3
                try clear hfz9_0
                try clear hfz9_1
                try clear hx109_0
                try clear hx109_1
                try clear hx109_2
                try clear hx109_3
                try clear p109
                try clear p2
                try clear q109
                obtain ⟨x14_2, x15_2, x18_2, rfl, rfl, rfl, HA, HK2, BK108, BK110, HB⟩ := hrel
                cases gk with
                | zero => exact absurd HA.out (by simp [spec_Balance.l1])
                | succ k2 =>
                  have H := HA.out
                  clear HA
                  simp only [spec_Balance.l1] at H
                  by_cases c23 : x18_2 < (((rd_T125 l0_0 x16_1).f3).length : Int)
                  · rw [if_pos c23] at H
                    have c23b0 : decide (x18_2 < (((rd_T125 l0_0 x16_1).f3).length : Int)) = true := decide_eq_true c23
                    clear c23
                    by_cases c24 : 0 ≤ x18_2
                    · rw [if_pos c24] at H
                      have c24b0 : decide (0 ≤ x18_2) = true := decide_eq_true c24
                      clear c24
                      have HC25 := Aside0.mk H
                      clear H
                      have hnb26 := NB110_108.out
                      have hnc26 := NB108_110.out
                      have hcz27_0 : wr.cell? ⟨gb110, 0, none⟩ = some (.int .i64 ((rd_T125 l0_0 x16_1).f0)) := (blk_cell BK110.out 0).trans rfl
                      have hcz27_1 : wr.cell? ⟨gb110, 1, none⟩ = some (.int .i64 ((rd_T125 l0_0 x16_1).f1)) := (blk_cell BK110.out 1).trans rfl
                      have hcz27_2 : wr.cell? ⟨gb110, 2, none⟩ = some (.string ((rd_T125 l0_0 x16_1).f2)) := (blk_cell BK110.out 2).trans rfl
                      have hcz27_3 : wr.cell? ⟨gb110, 3, none⟩ = some (.slice A109_3 ((rd_T125 l0_0 x16_1).f3).length c109_3) := (blk_cell BK110.out 3).trans rfl
                      have hfz27_0 := blk_frozen BK110.out 0
                      have hfz27_1 := blk_frozen BK110.out 1
                      have hfz27_2 := blk_frozen BK110.out 2
                      have hfz27_3 := blk_frozen BK110.out 3
                      have p111 : 0 ≤ (x18_2 : Int) := of_decide_eq_true (by first | (with_reducible assumption) | assumption)
                      have q111 : x18_2 < (((rd_T125 l0_0 x16_1).f3).length : Int) := of_decide_eq_true (by first | (with_reducible assumption) | assumption)
                      obtain ⟨ad111, e111, hx111_0, hx111_1, hx111_2, hx111_3, hx111_4⟩ := at_T127 HR109_3.out x18_2 p111 q111
                      cases e111
                      replace hx111_0 := (HB.out.cell (World.block_lt_of_cell? w _ hx111_0)).trans hx111_0
                      replace hx111_1 := (HB.out.cell (World.block_lt_of_cell? w _ hx111_1)).trans hx111_1
                      replace hx111_2 := (HB.out.cell (World.block_lt_of_cell? w _ hx111_2)).trans hx111_2
                      replace hx111_3 := (HB.out.cell (World.block_lt_of_cell? w _ hx111_3)).trans hx111_3
                      replace hx111_4 := (HB.out.cell (World.block_lt_of_cell? w _ hx111_4)).trans hx111_4
                      replace p111 := eq_true p111
                      replace q111 := eq_true q111
                      go_upto_region 15 with (first | ((with_reducible refine gate_dst (N := 19) rfl ?_); refine box_event ?hg (N := 19) ?hd (cs := #[.int .i64 0, .int .i64 0, .int .i64 0, .int .i64 0, .int .i64 0]) (t := 127) ?hr ?_; (case hd => rfl); (case hg => rfl); (case hr => first | (go_simp; done) | (go_simp; rfl)); intro gb112 hg w28 hbox hb; have n0_ := Aside0.mk (blk_below (g := gb108) (o := .cells #[.slice (some ad109) l0_0.length c0_0, .int .i64 a0_1] 50 (0, 0)) (by (with_reducible repeat (first | refine blk_drewN ?_ _ | refine blk_drew ?_ | refine blk_alloc ?_ _)); exact BK108.out) hb); have n1_ := Aside0.mk (blk_below (g := gb110) (o := .cells #[.int .i64 ((rd_T125 l0_0 x16_1).f0), .int .i64 ((rd_T125 l0_0 x16_1).f1), .string ((rd_T125 l0_0 x16_1).f2), .slice (some ad111) ((rd_T125 l0_0 x16_1).f3).length c109_3] 125 (0, 0)) (by (with_reducible repeat (first | refine blk_drewN ?_ _ | refine blk_drew ?_ | refine blk_alloc ?_ _)); exact BK110.out) hb); have n2_ := Aside0.mk (below_step (by repeat (first | (with_reducible first | exact HB.out | apply below_alloc | apply pw_below_drewN | apply below_drew1 | refine below_set ?_ GE108.out | refine below_set ?_ GE110.out) | exact HB.out)) hb); have n3_ := Aside0.mk (hbox); have n4_ := Aside0.mk ((by rw [hg]; exact (below_size (by repeat (first | (with_reducible first | exact HB.out | apply below_alloc | apply pw_below_drewN | apply below_drew1 | refine below_set ?_ GE108.out | refine below_set ?_ GE110.out) | exact HB.out))) : w.heap.size ≤ gb112)); have n5_ := Aside0.mk ((by rw [hg]; exact (below_size (by repeat (first | (with_reducible first | exact HB.out | apply below_alloc | apply pw_below_drewN | apply below_drew1 | refine below_set ?_ GE108.out | refine below_set ?_ GE110.out) | exact HB.out))) : w.heap.size ≤ gb112)); have n6_ := Aside0.mk ((by rw [hg]; exact Nat.ne_of_lt (blk_lt (g := gb108) (o := .cells #[.slice (some ad109) l0_0.length c0_0, .int .i64 a0_1] 50 (0, 0)) (by (with_reducible repeat (first | refine blk_drewN ?_ _ | refine blk_drew ?_ | refine blk_alloc ?_ _)); exact BK108.out)) : gb108 ≠ gb112)); have n7_ := Aside0.mk ((by rw [hg]; exact Nat.ne_of_gt (blk_lt (g := gb108) (o := .cells #[.slice (some ad109) l0_0.length c0_0, .int .i64 a0_1] 50 (0, 0)) (by (with_reducible repeat (first | refine blk_drewN ?_ _ | refine blk_drew ?_ | refine blk_alloc ?_ _)); exact BK108.out)) : gb112 ≠ gb108)); have n8_ := Aside0.mk ((by rw [hg]; exact Nat.ne_of_lt (blk_lt (g := gb110) (o := .cells #[.int .i64 ((rd_T125 l0_0 x16_1).f0), .int .i64 ((rd_T125 l0_0 x16_1).f1), .string ((rd_T125 l0_0 x16_1).f2), .slice (some ad111) ((rd_T125 l0_0 x16_1).f3).length c109_3] 125 (0, 0)) (by (with_reducible repeat (first | refine blk_drewN ?_ _ | refine blk_drew ?_ | refine blk_alloc ?_ _)); exact BK110.out)) : gb110 ≠ gb112)); have n9_ := Aside0.mk ((by rw [hg]; exact Nat.ne_of_gt (blk_lt (g := gb110) (o := .cells #[.int .i64 ((rd_T125 l0_0 x16_1).f0), .int .i64 ((rd_T125 l0_0 x16_1).f1), .string ((rd_T125 l0_0 x16_1).f2), .slice (some ad111) ((rd_T125 l0_0 x16_1).f3).length c109_3] 125 (0, 0)) (by (with_reducible repeat (first | refine blk_drewN ?_ _ | refine blk_drew ?_ | refine blk_alloc ?_ _)); exact BK110.out)) : gb112 ≠ gb110)); clear BK108; clear BK110; clear HB; have BK108 := n0_; have BK110 := n1_; have HB := n2_; have BK112 := n3_; have GW112 := n4_; have GE112 := n5_; have NB108_112 := n6_; have NB112_108 := n7_; have NB110_112 := n8_; have NB112_110 := n9_; clear n0_ n1_ n2_ n3_ n4_ n5_ n6_ n7_ n8_ n9_; clear hb hbox hg; have hnb29 := NB112_108.out; have hnc29 := NB108_112.out; have hnb30 := NB112_110.out; have hnc30 := NB110_112.out; have hcz31_0 : w28.cell? ⟨gb112, 0, none⟩ = some (.int .i64 0) := (blk_cell BK112.out 0).trans rfl; have hcz31_1 : w28.cell? ⟨gb112, 1, none⟩ = some (.int .i64 0) := (blk_cell BK112.out 1).trans rfl; have hcz31_2 : w28.cell? ⟨gb112, 2, none⟩ = some (.int .i64 0) := (blk_cell BK112.out 2).trans rfl; have hcz31_3 : w28.cell? ⟨gb112, 3, none⟩ = some (.int .i64 0) := (blk_cell BK112.out 3).trans rfl; have hcz31_4 : w28.cell? ⟨gb112, 4, none⟩ = some (.int .i64 0) := (blk_cell BK112.out 4).trans rfl; have hfz31_0 := blk_frozen BK112.out 0; have hfz31_1 := blk_frozen BK112.out 1; have hfz31_2 := blk_frozen BK112.out 2; have hfz31_3 := blk_frozen BK112.out 3; have hfz31_4 := blk_frozen BK112.out 4))
                      (try simp only [Act.put, List.setIfInBounds_toArray, List.set_cons_zero, List.set_cons_succ])
                      go_cut [61] (fun v61 wc => ∃ (kq : Nat) (x61_24 : Bool), v61 = .bool x61_24 ∧ Aside0 (spec_Balance.j2 kq a1 a2 a3 a4 a5 x14_2 x15_2 x16_1 x18_2 x61_24 l0_0 a0_1 ((rd_T125 l0_0 x16_1).f0) ((rd_T125 l0_0 x16_1).f1) ((rd_T125 l0_0 x16_1).f2) ((rd_T125 l0_0 x16_1).f3) ((rd_T127 ((rd_T125 l0_0 x16_1).f3) x18_2).f0) ((rd_T127 ((rd_T125 l0_0 x16_1).f3) x18_2).f1) ((rd_T127 ((rd_T125 l0_0 x16_1).f3) x18_2).f2) ((rd_T127 ((rd_T125 l0_0 x16_1).f3) x18_2).f3) ((rd_T127 ((rd_T125 l0_0 x16_1).f3) x18_2).f4) = some (r1, r2)) ∧ Aside0 (kq ≤ k2) ∧ Aside0 (wc.heap[gb108]? = some (.cells #[(.slice (some ad109) l0_0.length c0_0), .int .i64 a0_1] 50 (0, 0))) ∧ Aside0 (wc.heap[gb110]? = some (.cells #[.int .i64 ((rd_T125 l0_0 x16_1).f0), .int .i64 ((rd_T125 l0_0 x16_1).f1), .string ((rd_T125 l0_0 x16_1).f2), (.slice (some ad111) ((rd_T125 l0_0 x16_1).f3).length c109_3)] 125 (0, 0))) ∧ Aside0 (wc.heap[gb112]? = some (.cells #[.int .i64 ((rd_T127 ((rd_T125 l0_0 x16_1).f3) x18_2).f0), .int .i64 ((rd_T127 ((rd_T125 l0_0 x16_1).f3) x18_2).f1), .int .i64 ((rd_T127 ((rd_T125 l0_0 x16_1).f3) x18_2).f2), .int .i64 ((rd_T127 ((rd_T125 l0_0 x16_1).f3) x18_2).f3), .int .i64 ((rd_T127 ((rd_T125 l0_0 x16_1).f3) x18_2).f4)] 127 (0, 0))) ∧ Aside0 (Below w.heap.size w wc))
                      case first =>
                        have H := HC25.out
                        clear HC25
                        replace H := Option.bind_eq_some_iff.mp H
                        obtain ⟨t113, A320, H⟩ := H
                        replace H : (if t113 = true then ((spec_l1Amount.f ((rd_T127 ((rd_T125 l0_0 x16_1).f3) x18_2).f4)).bind fun t114 => (spec_Balance.j2 k2 a1 a2 a3 a4 a5 x14_2 x15_2 x16_1 x18_2 (!t114) l0_0 a0_1 ((rd_T125 l0_0 x16_1).f0) ((rd_T125 l0_0 x16_1).f1) ((rd_T125 l0_0 x16_1).f2) ((rd_T125 l0_0 x16_1).f3) ((rd_T127 ((rd_T125 l0_0 x16_1).f3) x18_2).f0) ((rd_T127 ((rd_T125 l0_0 x16_1).f3) x18_2).f1) ((rd_T127 ((rd_T125 l0_0 x16_1).f3) x18_2).f2) ((rd_T127 ((rd_T125 l0_0 x16_1).f3) x18_2).f3) ((rd_T127 ((rd_T125 l0_0 x16_1).f3) x18_2).f4))) else (spec_Balance.j2 k2 a1 a2 a3 a4 a5 x14_2 x15_2 x16_1 x18_2 true l0_0 a0_1 ((rd_T125 l0_0 x16_1).f0) ((rd_T125 l0_0 x16_1).f1) ((rd_T125 l0_0 x16_1).f2) ((rd_T125 l0_0 x16_1).f3) ((rd_T127 ((rd_T125 l0_0 x16_1).f3) x18_2).f0) ((rd_T127 ((rd_T125 l0_0 x16_1).f3) x18_2).f1) ((rd_T127 ((rd_T125 l0_0 x16_1).f3) x18_2).f2) ((rd_T127 ((rd_T125 l0_0 x16_1).f3) x18_2).f3) ((rd_T127 ((rd_T125 l0_0 x16_1).f3) x18_2).f4))) = some (r1, r2) := H
                        have A32 := Aside0.mk A320
                        clear A320
                        by_cases c33 : t113 = true
                        · subst c33
                          have H1 : ((spec_l1Amount.f ((rd_T127 ((rd_T125 l0_0 x16_1).f3) x18_2).f4)).bind fun t114 => (spec_Balance.j2 k2 a1 a2 a3 a4 a5 x14_2 x15_2 x16_1 x18_2 (!t114) l0_0 a0_1 ((rd_T125 l0_0 x16_1).f0) ((rd_T125 l0_0 x16_1).f1) ((rd_T125 l0_0 x16_1).f2) ((rd_T125 l0_0 x16_1).f3) ((rd_T127 ((rd_T125 l0_0 x16_1).f3) x18_2).f0) ((rd_T127 ((rd_T125 l0_0 x16_1).f3) x18_2).f1) ((rd_T127 ((rd_T125 l0_0 x16_1).f3) x18_2).f2) ((rd_T127 ((rd_T125 l0_0 x16_1).f3) x18_2).f3) ((rd_T127 ((rd_T125 l0_0 x16_1).f3) x18_2).f4))) = some (r1, r2) := by rw [if_pos rfl] at H; exact H
                          clear H
                          have H := H1
                          clear H1
                          replace H := Option.bind_eq_some_iff.mp H
                          obtain ⟨t114, A340, H⟩ := H
                          replace H : (spec_Balance.j2 k2 a1 a2 a3 a4 a5 x14_2 x15_2 x16_1 x18_2 (!t114) l0_0 a0_1 ((rd_T125 l0_0 x16_1).f0) ((rd_T125 l0_0 x16_1).f1) ((rd_T125 l0_0 x16_1).f2) ((rd_T125 l0_0 x16_1).f3) ((rd_T127 ((rd_T125 l0_0 x16_1).f3) x18_2).f0) ((rd_T127 ((rd_T125 l0_0 x16_1).f3) x18_2).f1) ((rd_T127 ((rd_T125 l0_0 x16_1).f3) x18_2).f2) ((rd_T127 ((rd_T125 l0_0 x16_1).f3) x18_2).f3) ((rd_T127 ((rd_T125 l0_0 x16_1).f3) x18_2).f4)) = some (r1, r2) := H
                          have A34 := Aside0.mk A340
                          clear A340
                          have H' := Aside0.mk H
                          clear H
                          have hnb35 := NB112_108.out
                          have hnc35 := NB108_112.out
                          have hnb36 := NB112_110.out
                          have hnc36 := NB110_112.out
                          have hcz37_0 : w28.cell? ⟨gb112, 0, none⟩ = some (.int .i64 0) := (blk_cell BK112.out 0).trans rfl
                          have hcz37_1 : w28.cell? ⟨gb112, 1, none⟩ = some (.int .i64 0) := (blk_cell BK112.out 1).trans rfl
                          have hcz37_2 : w28.cell? ⟨gb112, 2, none⟩ = some (.int .i64 0) := (blk_cell BK112.out 2).trans rfl
                          have hcz37_3 : w28.cell? ⟨gb112, 3, none⟩ = some (.int .i64 0) := (blk_cell BK112.out 3).trans rfl
                          have hcz37_4 : w28.cell? ⟨gb112, 4, none⟩ = some (.int .i64 0) := (blk_cell BK112.out 4).trans rfl
                          have hfz37_0 := blk_frozen BK112.out 0
                          have hfz37_1 := blk_frozen BK112.out 1
                          have hfz37_2 := blk_frozen BK112.out 2
                          have hfz37_3 := blk_frozen BK112.out 3
                          have hfz37_4 := blk_frozen BK112.out 4
                          go_wp2_with (first | ((with_reducible refine gate_callee (f := 83) rfl ?_); refine goesL_ (some 54) rfl rfl Try.func83 (by kernel_rfl) rfl #[.int .i64 ((rd_T127 ((rd_T125 l0_0 x16_1).f3) x18_2).f3)] rfl (by (try simp only [List.map_toArray, List.map_cons, List.map_nil]); first | done | rfl | (simp only [List.length_drop, List.length_take]; rfl)) ?_; (with_reducible refine (spec_l1Amount.calls ((rd_T127 ((rd_T125 l0_0 x16_1).f3) x18_2).f3) true _ A32.out).mono ?_); rintro e w' ⟨rfl, ⟨nd, rfl⟩⟩; refine ⟨_, rfl, ?_⟩) | (go_at_call 83; (with_reducible refine (spec_l1Amount.calls ((rd_T127 ((rd_T125 l0_0 x16_1).f3) x18_2).f4) t114 _ A34.out).mono ?_); rintro e w' ⟨rfl, ⟨nd, rfl⟩⟩))
                          go_meet
                          case rel => exact ⟨_, (!t114), (by first | rfl | (simp; done) | (simp [*]; done)), H', ⟨by have := HK1.out; have := HK2.out; first | omega | exact Nat.le_refl _⟩, ⟨by (with_reducible repeat (first | refine blk_drewN ?_ _ | refine blk_drew ?_ | refine blk_alloc ?_ _)); refine blk_far ?_ NB108_112.out _; (with_reducible repeat (first | refine blk_drewN ?_ _ | refine blk_drew ?_ | refine blk_alloc ?_ _)); refine blk_far ?_ NB108_112.out _; (with_reducible repeat (first | refine blk_drewN ?_ _ | refine blk_drew ?_ | refine blk_alloc ?_ _)); refine blk_far ?_ NB108_112.out _; (with_reducible repeat (first | refine blk_drewN ?_ _ | refine blk_drew ?_ | refine blk_alloc ?_ _)); refine blk_far ?_ NB108_112.out _; (with_reducible repeat (first | refine blk_drewN ?_ _ | refine blk_drew ?_ | refine blk_alloc ?_ _)); refine blk_far ?_ NB108_112.out _; (with_reducible repeat (first | refine blk_drewN ?_ _ | refine blk_drew ?_ | refine blk_alloc ?_ _)); exact BK108.out⟩, ⟨by (with_reducible repeat (first | refine blk_drewN ?_ _ | refine blk_drew ?_ | refine blk_alloc ?_ _)); refine blk_far ?_ NB110_112.out _; (with_reducible repeat (first | refine blk_drewN ?_ _ | refine blk_drew ?_ | refine blk_alloc ?_ _)); refine blk_far ?_ NB110_112.out _; (with_reducible repeat (first | refine blk_drewN ?_ _ | refine blk_drew ?_ | refine blk_alloc ?_ _)); refine blk_far ?_ NB110_112.out _; (with_reducible repeat (first | refine blk_drewN ?_ _ | refine blk_drew ?_ | refine blk_alloc ?_ _)); refine blk_far ?_ NB110_112.out _; (with_reducible repeat (first | refine blk_drewN ?_ _ | refine blk_drew ?_ | refine blk_alloc ?_ _)); refine blk_far ?_ NB110_112.out _; (with_reducible repeat (first | refine blk_drewN ?_ _ | refine blk_drew ?_ | refine blk_alloc ?_ _)); exact BK110.out⟩, ⟨by (with_reducible repeat (first | refine blk_drewN ?_ _ | refine blk_drew ?_ | refine blk_alloc ?_ _)); refine blk_put (cs := #[.int .i64 ((rd_T127 ((rd_T125 l0_0 x16_1).f3) x18_2).f0), .int .i64 ((rd_T127 ((rd_T125 l0_0 x16_1).f3) x18_2).f1), .int .i64 ((rd_T127 ((rd_T125 l0_0 x16_1).f3) x18_2).f2), .int .i64 ((rd_T127 ((rd_T125 l0_0 x16_1).f3) x18_2).f3), .int .i64 0]) ?_ 4 _ rfl; (with_reducible repeat (first | refine blk_drewN ?_ _ | refine blk_drew ?_ | refine blk_alloc ?_ _)); refine blk_put (cs := #[.int .i64 ((rd_T127 ((rd_T125 l0_0 x16_1).f3) x18_2).f0), .int .i64 ((rd_T127 ((rd_T125 l0_0 x16_1).f3) x18_2).f1), .int .i64 ((rd_T127 ((rd_T125 l0_0 x16_1).f3) x18_2).f2), .int .i64 0, .int .i64 0]) ?_ 3 _ rfl; (with_reducible repeat (first | refine blk_drewN ?_ _ | refine blk_drew ?_ | refine blk_alloc ?_ _)); refine blk_put (cs := #[.int .i64 ((rd_T127 ((rd_T125 l0_0 x16_1).f3) x18_2).f0), .int .i64 ((rd_T127 ((rd_T125 l0_0 x16_1).f3) x18_2).f1), .int .i64 0, .int .i64 0, .int .i64 0]) ?_ 2 _ rfl; (with_reducible repeat (first | refine blk_drewN ?_ _ | refine blk_drew ?_ | refine blk_alloc ?_ _)); refine blk_put (cs := #[.int .i64 ((rd_T127 ((rd_T125 l0_0 x16_1).f3) x18_2).f0), .int .i64 0, .int .i64 0, .int .i64 0, .int .i64 0]) ?_ 1 _ rfl; (with_reducible repeat (first | refine blk_drewN ?_ _ | refine blk_drew ?_ | refine blk_alloc ?_ _)); refine blk_put (cs := #[.int .i64 0, .int .i64 0, .int .i64 0, .int .i64 0, .int .i64 0]) ?_ 0 _ rfl; (with_reducible repeat (first | refine blk_drewN ?_ _ | refine blk_drew ?_ | refine blk_alloc ?_ _)); exact BK112.out⟩, ⟨by repeat (first | (with_reducible first | exact HB.out | apply below_alloc | apply pw_below_drewN | apply below_drew1 | refine below_set ?_ GE108.out | refine below_set ?_ GE110.out | refine below_set ?_ GE112.out) | exact HB.out)⟩⟩
                        · replace c33 := Bool.eq_false_iff.mpr c33
                          subst c33
                          have H1 : (spec_Balance.j2 k2 a1 a2 a3 a4 a5 x14_2 x15_2 x16_1 x18_2 true l0_0 a0_1 ((rd_T125 l0_0 x16_1).f0) ((rd_T125 l0_0 x16_1).f1) ((rd_T125 l0_0 x16_1).f2) ((rd_T125 l0_0 x16_1).f3) ((rd_T127 ((rd_T125 l0_0 x16_1).f3) x18_2).f0) ((rd_T127 ((rd_T125 l0_0 x16_1).f3) x18_2).f1) ((rd_T127 ((rd_T125 l0_0 x16_1).f3) x18_2).f2) ((rd_T127 ((rd_T125 l0_0 x16_1).f3) x18_2).f3) ((rd_T127 ((rd_T125 l0_0 x16_1).f3) x18_2).f4)) = some (r1, r2) := by rw [if_neg (show ¬ (false = true) by decide)] at H; exact H
                          clear H
                          have H := H1
                          clear H1
                          have H' := Aside0.mk H
                          clear H
                          have hnb38 := NB112_108.out
                          have hnc38 := NB108_112.out
                          have hnb39 := NB112_110.out
                          have hnc39 := NB110_112.out
                          have hcz40_0 : w28.cell? ⟨gb112, 0, none⟩ = some (.int .i64 0) := (blk_cell BK112.out 0).trans rfl
                          have hcz40_1 : w28.cell? ⟨gb112, 1, none⟩ = some (.int .i64 0) := (blk_cell BK112.out 1).trans rfl
                          have hcz40_2 : w28.cell? ⟨gb112, 2, none⟩ = some (.int .i64 0) := (blk_cell BK112.out 2).trans rfl
                          have hcz40_3 : w28.cell? ⟨gb112, 3, none⟩ = some (.int .i64 0) := (blk_cell BK112.out 3).trans rfl
                          have hcz40_4 : w28.cell? ⟨gb112, 4, none⟩ = some (.int .i64 0) := (blk_cell BK112.out 4).trans rfl
                          have hfz40_0 := blk_frozen BK112.out 0
                          have hfz40_1 := blk_frozen BK112.out 1
                          have hfz40_2 := blk_frozen BK112.out 2
                          have hfz40_3 := blk_frozen BK112.out 3
                          have hfz40_4 := blk_frozen BK112.out 4
                          go_wp2_with (first | ((with_reducible refine gate_callee (f := 83) rfl ?_); refine goesL_ (some 54) rfl rfl Try.func83 (by kernel_rfl) rfl #[.int .i64 ((rd_T127 ((rd_T125 l0_0 x16_1).f3) x18_2).f3)] rfl (by (try simp only [List.map_toArray, List.map_cons, List.map_nil]); first | done | rfl | (simp only [List.length_drop, List.length_take]; rfl)) ?_; (with_reducible refine (spec_l1Amount.calls ((rd_T127 ((rd_T125 l0_0 x16_1).f3) x18_2).f3) false _ A32.out).mono ?_); rintro e w' ⟨rfl, ⟨nd, rfl⟩⟩; refine ⟨_, rfl, ?_⟩))
                          go_meet
                          case rel => exact ⟨_, (true), (by first | rfl | (simp; done) | (simp [*]; done)), H', ⟨by have := HK1.out; have := HK2.out; first | omega | exact Nat.le_refl _⟩, ⟨by (with_reducible repeat (first | refine blk_drewN ?_ _ | refine blk_drew ?_ | refine blk_alloc ?_ _)); refine blk_far ?_ NB108_112.out _; (with_reducible repeat (first | refine blk_drewN ?_ _ | refine blk_drew ?_ | refine blk_alloc ?_ _)); refine blk_far ?_ NB108_112.out _; (with_reducible repeat (first | refine blk_drewN ?_ _ | refine blk_drew ?_ | refine blk_alloc ?_ _)); refine blk_far ?_ NB108_112.out _; (with_reducible repeat (first | refine blk_drewN ?_ _ | refine blk_drew ?_ | refine blk_alloc ?_ _)); refine blk_far ?_ NB108_112.out _; (with_reducible repeat (first | refine blk_drewN ?_ _ | refine blk_drew ?_ | refine blk_alloc ?_ _)); refine blk_far ?_ NB108_112.out _; (with_reducible repeat (first | refine blk_drewN ?_ _ | refine blk_drew ?_ | refine blk_alloc ?_ _)); exact BK108.out⟩, ⟨by (with_reducible repeat (first | refine blk_drewN ?_ _ | refine blk_drew ?_ | refine blk_alloc ?_ _)); refine blk_far ?_ NB110_112.out _; (with_reducible repeat (first | refine blk_drewN ?_ _ | refine blk_drew ?_ | refine blk_alloc ?_ _)); refine blk_far ?_ NB110_112.out _; (with_reducible repeat (first | refine blk_drewN ?_ _ | refine blk_drew ?_ | refine blk_alloc ?_ _)); refine blk_far ?_ NB110_112.out _; (with_reducible repeat (first | refine blk_drewN ?_ _ | refine blk_drew ?_ | refine blk_alloc ?_ _)); refine blk_far ?_ NB110_112.out _; (with_reducible repeat (first | refine blk_drewN ?_ _ | refine blk_drew ?_ | refine blk_alloc ?_ _)); refine blk_far ?_ NB110_112.out _; (with_reducible repeat (first | refine blk_drewN ?_ _ | refine blk_drew ?_ | refine blk_alloc ?_ _)); exact BK110.out⟩, ⟨by (with_reducible repeat (first | refine blk_drewN ?_ _ | refine blk_drew ?_ | refine blk_alloc ?_ _)); refine blk_put (cs := #[.int .i64 ((rd_T127 ((rd_T125 l0_0 x16_1).f3) x18_2).f0), .int .i64 ((rd_T127 ((rd_T125 l0_0 x16_1).f3) x18_2).f1), .int .i64 ((rd_T127 ((rd_T125 l0_0 x16_1).f3) x18_2).f2), .int .i64 ((rd_T127 ((rd_T125 l0_0 x16_1).f3) x18_2).f3), .int .i64 0]) ?_ 4 _ rfl; (with_reducible repeat (first | refine blk_drewN ?_ _ | refine blk_drew ?_ | refine blk_alloc ?_ _)); refine blk_put (cs := #[.int .i64 ((rd_T127 ((rd_T125 l0_0 x16_1).f3) x18_2).f0), .int .i64 ((rd_T127 ((rd_T125 l0_0 x16_1).f3) x18_2).f1), .int .i64 ((rd_T127 ((rd_T125 l0_0 x16_1).f3) x18_2).f2), .int .i64 0, .int .i64 0]) ?_ 3 _ rfl; (with_reducible repeat (first | refine blk_drewN ?_ _ | refine blk_drew ?_ | refine blk_alloc ?_ _)); refine blk_put (cs := #[.int .i64 ((rd_T127 ((rd_T125 l0_0 x16_1).f3) x18_2).f0), .int .i64 ((rd_T127 ((rd_T125 l0_0 x16_1).f3) x18_2).f1), .int .i64 0, .int .i64 0, .int .i64 0]) ?_ 2 _ rfl; (with_reducible repeat (first | refine blk_drewN ?_ _ | refine blk_drew ?_ | refine blk_alloc ?_ _)); refine blk_put (cs := #[.int .i64 ((rd_T127 ((rd_T125 l0_0 x16_1).f3) x18_2).f0), .int .i64 0, .int .i64 0, .int .i64 0, .int .i64 0]) ?_ 1 _ rfl; (with_reducible repeat (first | refine blk_drewN ?_ _ | refine blk_drew ?_ | refine blk_alloc ?_ _)); refine blk_put (cs := #[.int .i64 0, .int .i64 0, .int .i64 0, .int .i64 0, .int .i64 0]) ?_ 0 _ rfl; (with_reducible repeat (first | refine blk_drewN ?_ _ | refine blk_drew ?_ | refine blk_alloc ?_ _)); exact BK112.out⟩, ⟨by repeat (first | (with_reducible first | exact HB.out | apply below_alloc | apply pw_below_drewN | apply below_drew1 | refine below_set ?_ GE108.out | refine below_set ?_ GE110.out | refine below_set ?_ GE112.out) | exact HB.out)⟩⟩
                      case rest =>
                        clear HC25
                        try clear c1
                        try clear p1
                        try clear q1
                        try clear hx1
                        try clear c2
                        try clear p2
                        try clear c3
                        try clear c7
                        try clear c7b0
                        try clear c7b1
                        try clear c8
                        try clear c10
                        try clear p10
                        try clear q10
                        try clear hx10
                        try clear p11
                        try clear q11
                        try clear hx11
                        try clear c12
                        try clear c12b0
                        try clear c13
                        try clear c13b0
                        try clear c14
                        try clear c14b0
                        try clear c14b1
                        try clear c17
                        try clear c21
                        try clear c23
                        try clear c23b0
                        try clear c24
                        try clear c24b0
                        try clear c26
                        try clear c29
                        try clear c30
                        try clear c33
                        try clear c35
                        try clear c36
                        try clear c38
                        try clear c39
                        try clear hcz11_0
                        try clear hcz11_1
                        try clear hcz15_0
                        try clear hcz15_1
                        try clear hcz18_0
                        try clear hcz18_1
                        try clear hcz18_2
                        try clear hcz18_3
                        try clear hcz19_0
                        try clear hcz19_1
                        try clear hcz22_0
                        try clear hcz22_1
                        try clear hcz22_2
                        try clear hcz22_3
                        try clear hcz27_0
                        try clear hcz27_1
                        try clear hcz27_2
                        try clear hcz27_3
                        try clear hcz31_0
                        try clear hcz31_1
                        try clear hcz31_2
                        try clear hcz31_3
                        try clear hcz31_4
                        try clear hcz37_0
                        try clear hcz37_1
                        try clear hcz37_2
                        try clear hcz37_3
                        try clear hcz37_4
                        try clear hcz40_0
                        try clear hcz40_1
                        try clear hcz40_2
                        try clear hcz40_3
                        try clear hcz40_4
                        try clear hcz9_0
                        try clear hcz9_1
                        try clear hfz11_0
                        try clear hfz11_1
                        try clear hfz15_0
                        try clear hfz15_1
                        try clear hfz18_0
                        try clear hfz18_1
                        try clear hfz18_2
                        try clear hfz18_3
                        try clear hfz19_0
                        try clear hfz19_1
                        try clear hfz22_0
                        try clear hfz22_1
                        try clear hfz22_2
                        try clear hfz22_3
                        try clear hfz27_0
                        try clear hfz27_1
                        try clear hfz27_2
                        try clear hfz27_3
                        try clear hfz31_0
                        try clear hfz31_1
                        try clear hfz31_2
                        try clear hfz31_3
                        try clear hfz31_4
                        try clear hfz37_0
                        try clear hfz37_1
                        try clear hfz37_2
                        try clear hfz37_3
                        try clear hfz37_4
                        try clear hfz40_0
                        try clear hfz40_1
                        try clear hfz40_2
                        try clear hfz40_3
                        try clear hfz40_4
                        try clear hfz9_0
                        try clear hfz9_1
                        try clear hx109_0
                        try clear hx109_1
                        try clear hx109_2
                        try clear hx109_3
                        try clear hx111_0
                        try clear hx111_1
                        try clear hx111_2
                        try clear hx111_3
                        try clear hx111_4
                        try clear p1
                        try clear p10
                        try clear p109
                        try clear p111
                        try clear p2
                        try clear q1
                        try clear q10
                        try clear q109
                        try clear q111
                        obtain ⟨kq, x61_24, rfl, HA, HJ24, BK108, BK110, BK112, HB⟩ := hcut
                        cases kq with
                        | zero => exact absurd HA.out (by simp [spec_Balance.j2])
                        | succ kj24 =>
                          have H := HA.out
                          clear HA
                          simp only [spec_Balance.j2] at H
                          by_cases c41 : x61_24 = true
                          · subst c41
                            have H1 : (some (0, 0)) = some (r1, r2) := by rw [if_pos rfl] at H; exact H
                            clear H
                            have H := H1
                            clear H1
                            simp only [Option.some.injEq, Prod.mk.injEq] at H
                            obtain ⟨rfl, rfl⟩ := H
                            go_wp2
                            go_ret2
                            exact ⟨by first | rfl | (simp [errW_none, errW_some] <;> rfl) | (simp [*, errW_none, errW_some] <;> rfl), by repeat (first | (with_reducible first | exact HB.out | apply below_alloc | apply pw_below_drewN | apply below_drew1 | refine below_set ?_ GE108.out | refine below_set ?_ GE110.out | refine below_set ?_ GE112.out) | exact HB.out)⟩
                          · replace c41 := Bool.eq_false_iff.mpr c41
                            subst c41
                            have H1 : ((spec_l1In.f ((rd_T125 l0_0 x16_1).f0) a4 a5).bind fun t115 => (if t115 = true then (if a1 = (-1) then (if a2 = (-1) then (if a3 = (-1) then (spec_Balance.l1 kj24 a1 a2 a3 a4 a5 (wrap64 (x14_2 + ((rd_T127 ((rd_T125 l0_0 x16_1).f3) x18_2).f3))) (wrap64 (x15_2 + ((rd_T127 ((rd_T125 l0_0 x16_1).f3) x18_2).f4))) x16_1 (wrap64 (x18_2 + 1)) l0_0 a0_1 ((rd_T125 l0_0 x16_1).f0) ((rd_T125 l0_0 x16_1).f1) ((rd_T125 l0_0 x16_1).f2) ((rd_T125 l0_0 x16_1).f3)) else (if a3 = ((rd_T127 ((rd_T125 l0_0 x16_1).f3) x18_2).f2) then (spec_Balance.l1 kj24 a1 a2 a3 a4 a5 (wrap64 (x14_2 + ((rd_T127 ((rd_T125 l0_0 x16_1).f3) x18_2).f3))) (wrap64 (x15_2 + ((rd_T127 ((rd_T125 l0_0 x16_1).f3) x18_2).f4))) x16_1 (wrap64 (x18_2 + 1)) l0_0 a0_1 ((rd_T125 l0_0 x16_1).f0) ((rd_T125 l0_0 x16_1).f1) ((rd_T125 l0_0 x16_1).f2) ((rd_T125 l0_0 x16_1).f3)) else (spec_Balance.l1 kj24 a1 a2 a3 a4 a5 x14_2 x15_2 x16_1 (wrap64 (x18_2 + 1)) l0_0 a0_1 ((rd_T125 l0_0 x16_1).f0) ((rd_T125 l0_0 x16_1).f1) ((rd_T125 l0_0 x16_1).f2) ((rd_T125 l0_0 x16_1).f3)))) else (if a2 = ((rd_T127 ((rd_T125 l0_0 x16_1).f3) x18_2).f1) then (if a3 = (-1) then (spec_Balance.l1 kj24 a1 a2 a3 a4 a5 (wrap64 (x14_2 + ((rd_T127 ((rd_T125 l0_0 x16_1).f3) x18_2).f3))) (wrap64 (x15_2 + ((rd_T127 ((rd_T125 l0_0 x16_1).f3) x18_2).f4))) x16_1 (wrap64 (x18_2 + 1)) l0_0 a0_1 ((rd_T125 l0_0 x16_1).f0) ((rd_T125 l0_0 x16_1).f1) ((rd_T125 l0_0 x16_1).f2) ((rd_T125 l0_0 x16_1).f3)) else (if a3 = ((rd_T127 ((rd_T125 l0_0 x16_1).f3) x18_2).f2) then (spec_Balance.l1 kj24 a1 a2 a3 a4 a5 (wrap64 (x14_2 + ((rd_T127 ((rd_T125 l0_0 x16_1).f3) x18_2).f3))) (wrap64 (x15_2 + ((rd_T127 ((rd_T125 l0_0 x16_1).f3) x18_2).f4))) x16_1 (wrap64 (x18_2 + 1)) l0_0 a0_1 ((rd_T125 l0_0 x16_1).f0) ((rd_T125 l0_0 x16_1).f1) ((rd_T125 l0_0 x16_1).f2) ((rd_T125 l0_0 x16_1).f3)) else (spec_Balance.l1 kj24 a1 a2 a3 a4 a5 x14_2 x15_2 x16_1 (wrap64 (x18_2 + 1)) l0_0 a0_1 ((rd_T125 l0_0 x16_1).f0) ((rd_T125 l0_0 x16_1).f1) ((rd_T125 l0_0 x16_1).f2) ((rd_T125 l0_0 x16_1).f3)))) else (spec_Balance.l1 kj24 a1 a2 a3 a4 a5 x14_2 x15_2 x16_1 (wrap64 (x18_2 + 1)) l0_0 a0_1 ((rd_T125 l0_0 x16_1).f0) ((rd_T125 l0_0 x16_1).f1) ((rd_T125 l0_0 x16_1).f2) ((rd_T125 l0_0 x16_1).f3)))) else (if a1 = ((rd_T127 ((rd_T125 l0_0 x16_1).f3) x18_2).f0) then (if a2 = (-1) then (if a3 = (-1) then (spec_Balance.l1 kj24 a1 a2 a3 a4 a5 (wrap64 (x14_2 + ((rd_T127 ((rd_T125 l0_0 x16_1).f3) x18_2).f3))) (wrap64 (x15_2 + ((rd_T127 ((rd_T125 l0_0 x16_1).f3) x18_2).f4))) x16_1 (wrap64 (x18_2 + 1)) l0_0 a0_1 ((rd_T125 l0_0 x16_1).f0) ((rd_T125 l0_0 x16_1).f1) ((rd_T125 l0_0 x16_1).f2) ((rd_T125 l0_0 x16_1).f3)) else (if a3 = ((rd_T127 ((rd_T125 l0_0 x16_1).f3) x18_2).f2) then (spec_Balance.l1 kj24 a1 a2 a3 a4 a5 (wrap64 (x14_2 + ((rd_T127 ((rd_T125 l0_0 x16_1).f3) x18_2).f3))) (wrap64 (x15_2 + ((rd_T127 ((rd_T125 l0_0 x16_1).f3) x18_2).f4))) x16_1 (wrap64 (x18_2 + 1)) l0_0 a0_1 ((rd_T125 l0_0 x16_1).f0) ((rd_T125 l0_0 x16_1).f1) ((rd_T125 l0_0 x16_1).f2) ((rd_T125 l0_0 x16_1).f3)) else (spec_Balance.l1 kj24 a1 a2 a3 a4 a5 x14_2 x15_2 x16_1 (wrap64 (x18_2 + 1)) l0_0 a0_1 ((rd_T125 l0_0 x16_1).f0) ((rd_T125 l0_0 x16_1).f1) ((rd_T125 l0_0 x16_1).f2) ((rd_T125 l0_0 x16_1).f3)))) else (if a2 = ((rd_T127 ((rd_T125 l0_0 x16_1).f3) x18_2).f1) then (if a3 = (-1) then (spec_Balance.l1 kj24 a1 a2 a3 a4 a5 (wrap64 (x14_2 + ((rd_T127 ((rd_T125 l0_0 x16_1).f3) x18_2).f3))) (wrap64 (x15_2 + ((rd_T127 ((rd_T125 l0_0 x16_1).f3) x18_2).f4))) x16_1 (wrap64 (x18_2 + 1)) l0_0 a0_1 ((rd_T125 l0_0 x16_1).f0) ((rd_T125 l0_0 x16_1).f1) ((rd_T125 l0_0 x16_1).f2) ((rd_T125 l0_0 x16_1).f3)) else (if a3 = ((rd_T127 ((rd_T125 l0_0 x16_1).f3) x18_2).f2) then (spec_Balance.l1 kj24 a1 a2 a3 a4 a5 (wrap64 (x14_2 + ((rd_T127 ((rd_T125 l0_0 x16_1).f3) x18_2).f3))) (wrap64 (x15_2 + ((rd_T127 ((rd_T125 l0_0 x16_1).f3) x18_2).f4))) x16_1 (wrap64 (x18_2 + 1)) l0_0 a0_1 ((rd_T125 l0_0 x16_1).f0) ((rd_T125 l0_0 x16_1).f1) ((rd_T125 l0_0 x16_1).f2) ((rd_T125 l0_0 x16_1).f3)) else (spec_Balance.l1 kj24 a1 a2 a3 a4 a5 x14_2 x15_2 x16_1 (wrap64 (x18_2 + 1)) l0_0 a0_1 ((rd_T125 l0_0 x16_1).f0) ((rd_T125 l0_0 x16_1).f1) ((rd_T125 l0_0 x16_1).f2) ((rd_T125 l0_0 x16_1).f3)))) else (spec_Balance.l1 kj24 a1 a2 a3 a4 a5 x14_2 x15_2 x16_1 (wrap64 (x18_2 + 1)) l0_0 a0_1 ((rd_T125 l0_0 x16_1).f0) ((rd_T125 l0_0 x16_1).f1) ((rd_T125 l0_0 x16_1).f2) ((rd_T125 l0_0 x16_1).f3)))) else (spec_Balance.l1 kj24 a1 a2 a3 a4 a5 x14_2 x15_2 x16_1 (wrap64 (x18_2 + 1)) l0_0 a0_1 ((rd_T125 l0_0 x16_1).f0) ((rd_T125 l0_0 x16_1).f1) ((rd_T125 l0_0 x16_1).f2) ((rd_T125 l0_0 x16_1).f3)))) else (spec_Balance.l1 kj24 a1 a2 a3 a4 a5 x14_2 x15_2 x16_1 (wrap64 (x18_2 + 1)) l0_0 a0_1 ((rd_T125 l0_0 x16_1).f0) ((rd_T125 l0_0 x16_1).f1) ((rd_T125 l0_0 x16_1).f2) ((rd_T125 l0_0 x16_1).f3)))) = some (r1, r2) := by rw [if_neg (show ¬ (false = true) by decide)] at H; exact H
                            clear H
                            have H := H1
                            clear H1
                            replace H := Option.bind_eq_some_iff.mp H
                            obtain ⟨t115, A420, H⟩ := H
                            replace H : (if t115 = true then (if a1 = (-1) then (if a2 = (-1) then (if a3 = (-1) then (spec_Balance.l1 kj24 a1 a2 a3 a4 a5 (wrap64 (x14_2 + ((rd_T127 ((rd_T125 l0_0 x16_1).f3) x18_2).f3))) (wrap64 (x15_2 + ((rd_T127 ((rd_T125 l0_0 x16_1).f3) x18_2).f4))) x16_1 (wrap64 (x18_2 + 1)) l0_0 a0_1 ((rd_T125 l0_0 x16_1).f0) ((rd_T125 l0_0 x16_1).f1) ((rd_T125 l0_0 x16_1).f2) ((rd_T125 l0_0 x16_1).f3)) else (if a3 = ((rd_T127 ((rd_T125 l0_0 x16_1).f3) x18_2).f2) then (spec_Balance.l1 kj24 a1 a2 a3 a4 a5 (wrap64 (x14_2 + ((rd_T127 ((rd_T125 l0_0 x16_1).f3) x18_2).f3))) (wrap64 (x15_2 + ((rd_T127 ((rd_T125 l0_0 x16_1).f3) x18_2).f4))) x16_1 (wrap64 (x18_2 + 1)) l0_0 a0_1 ((rd_T125 l0_0 x16_1).f0) ((rd_T125 l0_0 x16_1).f1) ((rd_T125 l0_0 x16_1).f2) ((rd_T125 l0_0 x16_1).f3)) else (spec_Balance.l1 kj24 a1 a2 a3 a4 a5 x14_2 x15_2 x16_1 (wrap64 (x18_2 + 1)) l0_0 a0_1 ((rd_T125 l0_0 x16_1).f0) ((rd_T125 l0_0 x16_1).f1) ((rd_T125 l0_0 x16_1).f2) ((rd_T125 l0_0 x16_1).f3)))) else (if a2 = ((rd_T127 ((rd_T125 l0_0 x16_1).f3) x18_2).f1) then (if a3 = (-1) then (spec_Balance.l1 kj24 a1 a2 a3 a4 a5 (wrap64 (x14_2 + ((rd_T127 ((rd_T125 l0_0 x16_1).f3) x18_2).f3))) (wrap64 (x15_2 + ((rd_T127 ((rd_T125 l0_0 x16_1).f3) x18_2).f4))) x16_1 (wrap64 (x18_2 + 1)) l0_0 a0_1 ((rd_T125 l0_0 x16_1).f0) ((rd_T125 l0_0 x16_1).f1) ((rd_T125 l0_0 x16_1).f2) ((rd_T125 l0_0 x16_1).f3)) else (if a3 = ((rd_T127 ((rd_T125 l0_0 x16_1).f3) x18_2).f2) then (spec_Balance.l1 kj24 a1 a2 a3 a4 a5 (wrap64 (x14_2 + ((rd_T127 ((rd_T125 l0_0 x16_1).f3) x18_2).f3))) (wrap64 (x15_2 + ((rd_T127 ((rd_T125 l0_0 x16_1).f3) x18_2).f4))) x16_1 (wrap64 (x18_2 + 1)) l0_0 a0_1 ((rd_T125 l0_0 x16_1).f0) ((rd_T125 l0_0 x16_1).f1) ((rd_T125 l0_0 x16_1).f2) ((rd_T125 l0_0 x16_1).f3)) else (spec_Balance.l1 kj24 a1 a2 a3 a4 a5 x14_2 x15_2 x16_1 (wrap64 (x18_2 + 1)) l0_0 a0_1 ((rd_T125 l0_0 x16_1).f0) ((rd_T125 l0_0 x16_1).f1) ((rd_T125 l0_0 x16_1).f2) ((rd_T125 l0_0 x16_1).f3)))) else (spec_Balance.l1 kj24 a1 a2 a3 a4 a5 x14_2 x15_2 x16_1 (wrap64 (x18_2 + 1)) l0_0 a0_1 ((rd_T125 l0_0 x16_1).f0) ((rd_T125 l0_0 x16_1).f1) ((rd_T125 l0_0 x16_1).f2) ((rd_T125 l0_0 x16_1).f3)))) else (if a1 = ((rd_T127 ((rd_T125 l0_0 x16_1).f3) x18_2).f0) then (if a2 = (-1) then (if a3 = (-1) then (spec_Balance.l1 kj24 a1 a2 a3 a4 a5 (wrap64 (x14_2 + ((rd_T127 ((rd_T125 l0_0 x16_1).f3) x18_2).f3))) (wrap64 (x15_2 + ((rd_T127 ((rd_T125 l0_0 x16_1).f3) x18_2).f4))) x16_1 (wrap64 (x18_2 + 1)) l0_0 a0_1 ((rd_T125 l0_0 x16_1).f0) ((rd_T125 l0_0 x16_1).f1) ((rd_T125 l0_0 x16_1).f2) ((rd_T125 l0_0 x16_1).f3)) else (if a3 = ((rd_T127 ((rd_T125 l0_0 x16_1).f3) x18_2).f2) then (spec_Balance.l1 kj24 a1 a2 a3 a4 a5 (wrap64 (x14_2 + ((rd_T127 ((rd_T125 l0_0 x16_1).f3) x18_2).f3))) (wrap64 (x15_2 + ((rd_T127 ((rd_T125 l0_0 x16_1).f3) x18_2).f4))) x16_1 (wrap64 (x18_2 + 1)) l0_0 a0_1 ((rd_T125 l0_0 x16_1).f0) ((rd_T125 l0_0 x16_1).f1) ((rd_T125 l0_0 x16_1).f2) ((rd_T125 l0_0 x16_1).f3)) else (spec_Balance.l1 kj24 a1 a2 a3 a4 a5 x14_2 x15_2 x16_1 (wrap64 (x18_2 + 1)) l0_0 a0_1 ((rd_T125 l0_0 x16_1).f0) ((rd_T125 l0_0 x16_1).f1) ((rd_T125 l0_0 x16_1).f2) ((rd_T125 l0_0 x16_1).f3)))) else (if a2 = ((rd_T127 ((rd_T125 l0_0 x16_1).f3) x18_2).f1) then (if a3 = (-1) then (spec_Balance.l1 kj24 a1 a2 a3 a4 a5 (wrap64 (x14_2 + ((rd_T127 ((rd_T125 l0_0 x16_1).f3) x18_2).f3))) (wrap64 (x15_2 + ((rd_T127 ((rd_T125 l0_0 x16_1).f3) x18_2).f4))) x16_1 (wrap64 (x18_2 + 1)) l0_0 a0_1 ((rd_T125 l0_0 x16_1).f0) ((rd_T125 l0_0 x16_1).f1) ((rd_T125 l0_0 x16_1).f2) ((rd_T125 l0_0 x16_1).f3)) else (if a3 = ((rd_T127 ((rd_T125 l0_0 x16_1).f3) x18_2).f2) then (spec_Balance.l1 kj24 a1 a2 a3 a4 a5 (wrap64 (x14_2 + ((rd_T127 ((rd_T125 l0_0 x16_1).f3) x18_2).f3))) (wrap64 (x15_2 + ((rd_T127 ((rd_T125 l0_0 x16_1).f3) x18_2).f4))) x16_1 (wrap64 (x18_2 + 1)) l0_0 a0_1 ((rd_T125 l0_0 x16_1).f0) ((rd_T125 l0_0 x16_1).f1) ((rd_T125 l0_0 x16_1).f2) ((rd_T125 l0_0 x16_1).f3)) else (spec_Balance.l1 kj24 a1 a2 a3 a4 a5 x14_2 x15_2 x16_1 (wrap64 (x18_2 + 1)) l0_0 a0_1 ((rd_T125 l0_0 x16_1).f0) ((rd_T125 l0_0 x16_1).f1) ((rd_T125 l0_0 x16_1).f2) ((rd_T125 l0_0 x16_1).f3)))) else (spec_Balance.l1 kj24 a1 a2 a3 a4 a5 x14_2 x15_2 x16_1 (wrap64 (x18_2 + 1)) l0_0 a0_1 ((rd_T125 l0_0 x16_1).f0) ((rd_T125 l0_0 x16_1).f1) ((rd_T125 l0_0 x16_1).f2) ((rd_T125 l0_0 x16_1).f3)))) else (spec_Balance.l1 kj24 a1 a2 a3 a4 a5 x14_2 x15_2 x16_1 (wrap64 (x18_2 + 1)) l0_0 a0_1 ((rd_T125 l0_0 x16_1).f0) ((rd_T125 l0_0 x16_1).f1) ((rd_T125 l0_0 x16_1).f2) ((rd_T125 l0_0 x16_1).f3)))) else (spec_Balance.l1 kj24 a1 a2 a3 a4 a5 x14_2 x15_2 x16_1 (wrap64 (x18_2 + 1)) l0_0 a0_1 ((rd_T125 l0_0 x16_1).f0) ((rd_T125 l0_0 x16_1).f1) ((rd_T125 l0_0 x16_1).f2) ((rd_T125 l0_0 x16_1).f3))) = some (r1, r2) := H
                            have A42 := Aside0.mk A420
                            clear A420
                            by_cases c43 : t115 = true
                            · subst c43
                              have H1 : (if a1 = (-1) then (if a2 = (-1) then (if a3 = (-1) then (spec_Balance.l1 kj24 a1 a2 a3 a4 a5 (wrap64 (x14_2 + ((rd_T127 ((rd_T125 l0_0 x16_1).f3) x18_2).f3))) (wrap64 (x15_2 + ((rd_T127 ((rd_T125 l0_0 x16_1).f3) x18_2).f4))) x16_1 (wrap64 (x18_2 + 1)) l0_0 a0_1 ((rd_T125 l0_0 x16_1).f0) ((rd_T125 l0_0 x16_1).f1) ((rd_T125 l0_0 x16_1).f2) ((rd_T125 l0_0 x16_1).f3)) else (if a3 = ((rd_T127 ((rd_T125 l0_0 x16_1).f3) x18_2).f2) then (spec_Balance.l1 kj24 a1 a2 a3 a4 a5 (wrap64 (x14_2 + ((rd_T127 ((rd_T125 l0_0 x16_1).f3) x18_2).f3))) (wrap64 (x15_2 + ((rd_T127 ((rd_T125 l0_0 x16_1).f3) x18_2).f4))) x16_1 (wrap64 (x18_2 + 1)) l0_0 a0_1 ((rd_T125 l0_0 x16_1).f0) ((rd_T125 l0_0 x16_1).f1) ((rd_T125 l0_0 x16_1).f2) ((rd_T125 l0_0 x16_1).f3)) else (spec_Balance.l1 kj24 a1 a2 a3 a4 a5 x14_2 x15_2 x16_1 (wrap64 (x18_2 + 1)) l0_0 a0_1 ((rd_T125 l0_0 x16_1).f0) ((rd_T125 l0_0 x16_1).f1) ((rd_T125 l0_0 x16_1).f2) ((rd_T125 l0_0 x16_1).f3)))) else (if a2 = ((rd_T127 ((rd_T125 l0_0 x16_1).f3) x18_2).f1) then (if a3 = (-1) then (spec_Balance.l1 kj24 a1 a2 a3 a4 a5 (wrap64 (x14_2 + ((rd_T127 ((rd_T125 l0_0 x16_1).f3) x18_2).f3))) (wrap64 (x15_2 + ((rd_T127 ((rd_T125 l0_0 x16_1).f3) x18_2).f4))) x16_1 (wrap64 (x18_2 + 1)) l0_0 a0_1 ((rd_T125 l0_0 x16_1).f0) ((rd_T125 l0_0 x16_1).f1) ((rd_T125 l0_0 x16_1).f2) ((rd_T125 l0_0 x16_1).f3)) else (if a3 = ((rd_T127 ((rd_T125 l0_0 x16_1).f3) x18_2).f2) then (spec_Balance.l1 kj24 a1 a2 a3 a4 a5 (wrap64 (x14_2 + ((rd_T127 ((rd_T125 l0_0 x16_1).f3) x18_2).f3))) (wrap64 (x15_2 + ((rd_T127 ((rd_T125 l0_0 x16_1).f3) x18_2).f4))) x16_1 (wrap64 (x18_2 + 1)) l0_0 a0_1 ((rd_T125 l0_0 x16_1).f0) ((rd_T125 l0_0 x16_1).f1) ((rd_T125 l0_0 x16_1).f2) ((rd_T125 l0_0 x16_1).f3)) else (spec_Balance.l1 kj24 a1 a2 a3 a4 a5 x14_2 x15_2 x16_1 (wrap64 (x18_2 + 1)) l0_0 a0_1 ((rd_T125 l0_0 x16_1).f0) ((rd_T125 l0_0 x16_1).f1) ((rd_T125 l0_0 x16_1).f2) ((rd_T125 l0_0 x16_1).f3)))) else (spec_Balance.l1 kj24 a1 a2 a3 a4 a5 x14_2 x15_2 x16_1 (wrap64 (x18_2 + 1)) l0_0 a0_1 ((rd_T125 l0_0 x16_1).f0) ((rd_T125 l0_0 x16_1).f1) ((rd_T125 l0_0 x16_1).f2) ((rd_T125 l0_0 x16_1).f3)))) else (if a1 = ((rd_T127 ((rd_T125 l0_0 x16_1).f3) x18_2).f0) then (if a2 = (-1) then (if a3 = (-1) then (spec_Balance.l1 kj24 a1 a2 a3 a4 a5 (wrap64 (x14_2 + ((rd_T127 ((rd_T125 l0_0 x16_1).f3) x18_2).f3))) (wrap64 (x15_2 + ((rd_T127 ((rd_T125 l0_0 x16_1).f3) x18_2).f4))) x16_1 (wrap64 (x18_2 + 1)) l0_0 a0_1 ((rd_T125 l0_0 x16_1).f0) ((rd_T125 l0_0 x16_1).f1) ((rd_T125 l0_0 x16_1).f2) ((rd_T125 l0_0 x16_1).f3)) else (if a3 = ((rd_T127 ((rd_T125 l0_0 x16_1).f3) x18_2).f2) then (spec_Balance.l1 kj24 a1 a2 a3 a4 a5 (wrap64 (x14_2 + ((rd_T127 ((rd_T125 l0_0 x16_1).f3) x18_2).f3))) (wrap64 (x15_2 + ((rd_T127 ((rd_T125 l0_0 x16_1).f3) x18_2).f4))) x16_1 (wrap64 (x18_2 + 1)) l0_0 a0_1 ((rd_T125 l0_0 x16_1).f0) ((rd_T125 l0_0 x16_1).f1) ((rd_T125 l0_0 x16_1).f2) ((rd_T125 l0_0 x16_1).f3)) else (spec_Balance.l1 kj24 a1 a2 a3 a4 a5 x14_2 x15_2 x16_1 (wrap64 (x18_2 + 1)) l0_0 a0_1 ((rd_T125 l0_0 x16_1).f0) ((rd_T125 l0_0 x16_1).f1) ((rd_T125 l0_0 x16_1).f2) ((rd_T125 l0_0 x16_1).f3)))) else (if a2 = ((rd_T127 ((rd_T125 l0_0 x16_1).f3) x18_2).f1) then (if a3 = (-1) then (spec_Balance.l1 kj24 a1 a2 a3 a4 a5 (wrap64 (x14_2 + ((rd_T127 ((rd_T125 l0_0 x16_1).f3) x18_2).f3))) (wrap64 (x15_2 + ((rd_T127 ((rd_T125 l0_0 x16_1).f3) x18_2).f4))) x16_1 (wrap64 (x18_2 + 1)) l0_0 a0_1 ((rd_T125 l0_0 x16_1).f0) ((rd_T125 l0_0 x16_1).f1) ((rd_T125 l0_0 x16_1).f2) ((rd_T125 l0_0 x16_1).f3)) else (if a3 = ((rd_T127 ((rd_T125 l0_0 x16_1).f3) x18_2).f2) then (spec_Balance.l1 kj24 a1 a2 a3 a4 a5 (wrap64 (x14_2 + ((rd_T127 ((rd_T125 l0_0 x16_1).f3) x18_2).f3))) (wrap64 (x15_2 + ((rd_T127 ((rd_T125 l0_0 x16_1).f3) x18_2).f4))) x16_1 (wrap64 (x18_2 + 1)) l0_0 a0_1 ((rd_T125 l0_0 x16_1).f0) ((rd_T125 l0_0 x16_1).f1) ((rd_T125 l0_0 x16_1).f2) ((rd_T125 l0_0 x16_1).f3)) else (spec_Balance.l1 kj24 a1 a2 a3 a4 a5 x14_2 x15_2 x16_1 (wrap64 (x18_2 + 1)) l0_0 a0_1 ((rd_T125 l0_0 x16_1).f0) ((rd_T125 l0_0 x16_1).f1) ((rd_T125 l0_0 x16_1).f2) ((rd_T125 l0_0 x16_1).f3)))) else (spec_Balance.l1 kj24 a1 a2 a3 a4 a5 x14_2 x15_2 x16_1 (wrap64 (x18_2 + 1)) l0_0 a0_1 ((rd_T125 l0_0 x16_1).f0) ((rd_T125 l0_0 x16_1).f1) ((rd_T125 l0_0 x16_1).f2) ((rd_T125 l0_0 x16_1).f3)))) else (spec_Balance.l1 kj24 a1 a2 a3 a4 a5 x14_2 x15_2 x16_1 (wrap64 (x18_2 + 1)) l0_0 a0_1 ((rd_T125 l0_0 x16_1).f0) ((rd_T125 l0_0 x16_1).f1) ((rd_T125 l0_0 x16_1).f2) ((rd_T125 l0_0 x16_1).f3)))) = some (r1, r2) := by rw [if_pos rfl] at H; exact H
                              clear H
                              have H := H1
                              clear H1
                              by_cases c44 : a1 = (-1)
                              · rw [if_pos c44] at H
                                have c44b0 : (a1 == (-1)) = true := beq_iff_eq.mpr c44
                                have c44b1 : (a1 != (-1)) = false := bne_eq_false_iff_eq.mpr c44
                                clear c44
                                by_cases c45 : a2 = (-1)
                                · rw [if_pos c45] at H
                                  have c45b0 : (a2 == (-1)) = true := beq_iff_eq.mpr c45
                                  have c45b1 : (a2 != (-1)) = false := bne_eq_false_iff_eq.mpr c45
                                  clear c45
                                  by_cases c46 : a3 = (-1)
                                  · rw [if_pos c46] at H
                                    have c46b0 : (a3 == (-1)) = true := beq_iff_eq.mpr c46
                                    have c46b1 : (a3 != (-1)) = false := bne_eq_false_iff_eq.mpr c46
                                    clear c46
                                    have H' := Aside0.mk H
                                    clear H
                                    have hnb47 := NB110_108.out
                                    have hnc47 := NB108_110.out
                                    have hnb48 := NB110_112.out
                                    have hnc48 := NB112_110.out
                                    have hcz49_0 : wc.cell? ⟨gb110, 0, none⟩ = some (.int .i64 ((rd_T125 l0_0 x16_1).f0)) := (blk_cell BK110.out 0).trans rfl
                                    have hcz49_1 : wc.cell? ⟨gb110, 1, none⟩ = some (.int .i64 ((rd_T125 l0_0 x16_1).f1)) := (blk_cell BK110.out 1).trans rfl
                                    have hcz49_2 : wc.cell? ⟨gb110, 2, none⟩ = some (.string ((rd_T125 l0_0 x16_1).f2)) := (blk_cell BK110.out 2).trans rfl
                                    have hcz49_3 : wc.cell? ⟨gb110, 3, none⟩ = some (.slice (some ad111) ((rd_T125 l0_0 x16_1).f3).length c109_3) := (blk_cell BK110.out 3).trans rfl
                                    have hfz49_0 := blk_frozen BK110.out 0
                                    have hfz49_1 := blk_frozen BK110.out 1
                                    have hfz49_2 := blk_frozen BK110.out 2
                                    have hfz49_3 := blk_frozen BK110.out 3
                                    go_wp2_with (first | ((with_reducible refine gate_callee (f := 70) rfl ?_); refine goesL_ (some 66) rfl rfl Try.func70 (by kernel_rfl) rfl #[.int .i64 ((rd_T125 l0_0 x16_1).f0), .int .i64 a4, .int .i64 a5] rfl (by (try simp only [List.map_toArray, List.map_cons, List.map_nil]); first | done | rfl | (simp only [List.length_drop, List.length_take]; rfl)) ?_; (with_reducible refine (spec_l1In.calls ((rd_T125 l0_0 x16_1).f0) a4 a5 true _ A42.out).mono ?_); rintro e w' ⟨rfl, ⟨nd, rfl⟩⟩; refine ⟨_, rfl, ?_⟩; have hnb50 := NB112_108.out; have hnc50 := NB108_112.out; have hcz51_0 : wc.cell? ⟨gb112, 0, none⟩ = some (.int .i64 ((rd_T127 ((rd_T125 l0_0 x16_1).f3) x18_2).f0)) := (blk_cell BK112.out 0).trans rfl; have hcz51_1 : wc.cell? ⟨gb112, 1, none⟩ = some (.int .i64 ((rd_T127 ((rd_T125 l0_0 x16_1).f3) x18_2).f1)) := (blk_cell BK112.out 1).trans rfl; have hcz51_2 : wc.cell? ⟨gb112, 2, none⟩ = some (.int .i64 ((rd_T127 ((rd_T125 l0_0 x16_1).f3) x18_2).f2)) := (blk_cell BK112.out 2).trans rfl; have hcz51_3 : wc.cell? ⟨gb112, 3, none⟩ = some (.int .i64 ((rd_T127 ((rd_T125 l0_0 x16_1).f3) x18_2).f3)) := (blk_cell BK112.out 3).trans rfl; have hcz51_4 : wc.cell? ⟨gb112, 4, none⟩ = some (.int .i64 ((rd_T127 ((rd_T125 l0_0 x16_1).f3) x18_2).f4)) := (blk_cell BK112.out 4).trans rfl; have hfz51_0 := blk_frozen BK112.out 0; have hfz51_1 := blk_frozen BK112.out 1; have hfz51_2 := blk_frozen BK112.out 2; have hfz51_3 := blk_frozen BK112.out 3; have hfz51_4 := blk_frozen BK112.out 4))
                                    go_roundg kj24
                                    case measure => have := HK1.out; have := HK2.out; have := HJ24.out; omega
                                    case rel => exact ⟨(wrap64 (x14_2 + ((rd_T127 ((rd_T125 l0_0 x16_1).f3) x18_2).f3))), (wrap64 (x15_2 + ((rd_T127 ((rd_T125 l0_0 x16_1).f3) x18_2).f4))), (wrap64 (x18_2 + 1)), (by first | rfl | (simp; done) | (simp [*]; done)), (by first | rfl | (simp; done) | (simp [*]; done)), (by first | rfl | (simp; done) | (simp [*]; done)), H', ⟨by have := HK1.out; have := HK2.out; have := HJ24.out; omega⟩, ⟨by (with_reducible repeat (first | refine blk_drewN ?_ _ | refine blk_drew ?_ | refine blk_alloc ?_ _)); exact BK108.out⟩, ⟨by (with_reducible repeat (first | refine blk_drewN ?_ _ | refine blk_drew ?_ | refine blk_alloc ?_ _)); exact BK110.out⟩, ⟨by repeat (first | (with_reducible first | exact HB.out | apply below_alloc | apply pw_below_drewN | apply below_drew1 | refine below_set ?_ GE108.out | refine below_set ?_ GE110.out | refine below_set ?_ GE112.out) | exact HB.out)⟩⟩
                                  · rw [if_neg c46] at H
                                    have c46b0 : (a3 == (-1)) = false := beq_eq_false_iff_ne.mpr c46
                                    have c46b1 : (a3 != (-1)) = true := bne_iff_ne.mpr c46
                                    by_cases c52 : a3 = ((rd_T127 ((rd_T125 l0_0 x16_1).f3) x18_2).f2)
                                    · rw [if_pos c52] at H
                                      have c52b0 : (a3 == ((rd_T127 ((rd_T125 l0_0 x16_1).f3) x18_2).f2)) = true := beq_iff_eq.mpr c52
                                      have c52b1 : (a3 != ((rd_T127 ((rd_T125 l0_0 x16_1).f3) x18_2).f2)) = false := bne_eq_false_iff_eq.mpr c52
                                      clear c52
                                      have H' := Aside0.mk H
                                      clear H
                                      have hnb53 := NB110_108.out
                                      have hnc53 := NB108_110.out
                                      have hnb54 := NB110_112.out
                                      have hnc54 := NB112_110.out
                                      have hcz55_0 : wc.cell? ⟨gb110, 0, none⟩ = some (.int .i64 ((rd_T125 l0_0 x16_1).f0)) := (blk_cell BK110.out 0).trans rfl
                                      have hcz55_1 : wc.cell? ⟨gb110, 1, none⟩ = some (.int .i64 ((rd_T125 l0_0 x16_1).f1)) := (blk_cell BK110.out 1).trans rfl
                                      have hcz55_2 : wc.cell? ⟨gb110, 2, none⟩ = some (.string ((rd_T125 l0_0 x16_1).f2)) := (blk_cell BK110.out 2).trans rfl
                                      have hcz55_3 : wc.cell? ⟨gb110, 3, none⟩ = some (.slice (some ad111) ((rd_T125 l0_0 x16_1).f3).length c109_3) := (blk_cell BK110.out 3).trans rfl
                                      have hfz55_0 := blk_frozen BK110.out 0
                                      have hfz55_1 := blk_frozen BK110.out 1
                                      have hfz55_2 := blk_frozen BK110.out 2
                                      have hfz55_3 := blk_frozen BK110.out 3
                                      go_wp2_with (first | ((with_reducible refine gate_callee (f := 70) rfl ?_); refine goesL_ (some 66) rfl rfl Try.func70 (by kernel_rfl) rfl #[.int .i64 ((rd_T125 l0_0 x16_1).f0), .int .i64 a4, .int .i64 a5] rfl (by (try simp only [List.map_toArray, List.map_cons, List.map_nil]); first | done | rfl | (simp only [List.length_drop, List.length_take]; rfl)) ?_; (with_reducible refine (spec_l1In.calls ((rd_T125 l0_0 x16_1).f0) a4 a5 true _ A42.out).mono ?_); rintro e w' ⟨rfl, ⟨nd, rfl⟩⟩; refine ⟨_, rfl, ?_⟩; have hnb56 := NB112_108.out; have hnc56 := NB108_112.out; have hcz57_0 : wc.cell? ⟨gb112, 0, none⟩ = some (.int .i64 ((rd_T127 ((rd_T125 l0_0 x16_1).f3) x18_2).f0)) := (blk_cell BK112.out 0).trans rfl; have hcz57_1 : wc.cell? ⟨gb112, 1, none⟩ = some (.int .i64 ((rd_T127 ((rd_T125 l0_0 x16_1).f3) x18_2).f1)) := (blk_cell BK112.out 1).trans rfl; have hcz57_2 : wc.cell? ⟨gb112, 2, none⟩ = some (.int .i64 ((rd_T127 ((rd_T125 l0_0 x16_1).f3) x18_2).f2)) := (blk_cell BK112.out 2).trans rfl; have hcz57_3 : wc.cell? ⟨gb112, 3, none⟩ = some (.int .i64 ((rd_T127 ((rd_T125 l0_0 x16_1).f3) x18_2).f3)) := (blk_cell BK112.out 3).trans rfl; have hcz57_4 : wc.cell? ⟨gb112, 4, none⟩ = some (.int .i64 ((rd_T127 ((rd_T125 l0_0 x16_1).f3) x18_2).f4)) := (blk_cell BK112.out 4).trans rfl; have hfz57_0 := blk_frozen BK112.out 0; have hfz57_1 := blk_frozen BK112.out 1; have hfz57_2 := blk_frozen BK112.out 2; have hfz57_3 := blk_frozen BK112.out 3; have hfz57_4 := blk_frozen BK112.out 4))
                                      go_roundg kj24
                                      case measure => have := HK1.out; have := HK2.out; have := HJ24.out; omega
                                      case rel => exact ⟨(wrap64 (x14_2 + ((rd_T127 ((rd_T125 l0_0 x16_1).f3) x18_2).f3))), (wrap64 (x15_2 + ((rd_T127 ((rd_T125 l0_0 x16_1).f3) x18_2).f4))), (wrap64 (x18_2 + 1)), (by first | rfl | (simp; done) | (simp [*]; done)), (by first | rfl | (simp; done) | (simp [*]; done)), (by first | rfl | (simp; done) | (simp [*]; done)), H', ⟨by have := HK1.out; have := HK2.out; have := HJ24.out; omega⟩, ⟨by (with_reducible repeat (first | refine blk_drewN ?_ _ | refine blk_drew ?_ | refine blk_alloc ?_ _)); exact BK108.out⟩, ⟨by (with_reducible repeat (first | refine blk_drewN ?_ _ | refine blk_drew ?_ | refine blk_alloc ?_ _)); exact BK110.out⟩, ⟨by repeat (first | (with_reducible first | exact HB.out | apply below_alloc | apply pw_below_drewN | apply below_drew1 | refine below_set ?_ GE108.out | refine below_set ?_ GE110.out | refine below_set ?_ GE112.out) | exact HB.out)⟩⟩
                                    · rw [if_neg c52] at H
                                      have c52b0 : (a3 == ((rd_T127 ((rd_T125 l0_0 x16_1).f3) x18_2).f2)) = false := beq_eq_false_iff_ne.mpr c52
                                      have c52b1 : (a3 != ((rd_T127 ((rd_T125 l0_0 x16_1).f3) x18_2).f2)) = true := bne_iff_ne.mpr c52
                                      have H' := Aside0.mk H
                                      clear H
                                      have hnb58 := NB110_108.out
                                      have hnc58 := NB108_110.out
                                      have hnb59 := NB110_112.out
                                      have hnc59 := NB112_110.out
                                      have hcz60_0 : wc.cell? ⟨gb110, 0, none⟩ = some (.int .i64 ((rd_T125 l0_0 x16_1).f0)) := (blk_cell BK110.out 0).trans rfl
                                      have hcz60_1 : wc.cell? ⟨gb110, 1, none⟩ = some (.int .i64 ((rd_T125 l0_0 x16_1).f1)) := (blk_cell BK110.out 1).trans rfl
                                      have hcz60_2 : wc.cell? ⟨gb110, 2, none⟩ = some (.string ((rd_T125 l0_0 x16_1).f2)) := (blk_cell BK110.out 2).trans rfl
                                      have hcz60_3 : wc.cell? ⟨gb110, 3, none⟩ = some (.slice (some ad111) ((rd_T125 l0_0 x16_1).f3).length c109_3) := (blk_cell BK110.out 3).trans rfl
                                      have hfz60_0 := blk_frozen BK110.out 0
                                      have hfz60_1 := blk_frozen BK110.out 1
                                      have hfz60_2 := blk_frozen BK110.out 2
                                      have hfz60_3 := blk_frozen BK110.out 3
                                      go_wp2_with (first | ((with_reducible refine gate_callee (f := 70) rfl ?_); refine goesL_ (some 66) rfl rfl Try.func70 (by kernel_rfl) rfl #[.int .i64 ((rd_T125 l0_0 x16_1).f0), .int .i64 a4, .int .i64 a5] rfl (by (try simp only [List.map_toArray, List.map_cons, List.map_nil]); first | done | rfl | (simp only [List.length_drop, List.length_take]; rfl)) ?_; (with_reducible refine (spec_l1In.calls ((rd_T125 l0_0 x16_1).f0) a4 a5 true _ A42.out).mono ?_); rintro e w' ⟨rfl, ⟨nd, rfl⟩⟩; refine ⟨_, rfl, ?_⟩; have hnb61 := NB112_108.out; have hnc61 := NB108_112.out; have hcz62_0 : wc.cell? ⟨gb112, 0, none⟩ = some (.int .i64 ((rd_T127 ((rd_T125 l0_0 x16_1).f3) x18_2).f0)) := (blk_cell BK112.out 0).trans rfl; have hcz62_1 : wc.cell? ⟨gb112, 1, none⟩ = some (.int .i64 ((rd_T127 ((rd_T125 l0_0 x16_1).f3) x18_2).f1)) := (blk_cell BK112.out 1).trans rfl; have hcz62_2 : wc.cell? ⟨gb112, 2, none⟩ = some (.int .i64 ((rd_T127 ((rd_T125 l0_0 x16_1).f3) x18_2).f2)) := (blk_cell BK112.out 2).trans rfl; have hcz62_3 : wc.cell? ⟨gb112, 3, none⟩ = some (.int .i64 ((rd_T127 ((rd_T125 l0_0 x16_1).f3) x18_2).f3)) := (blk_cell BK112.out 3).trans rfl; have hcz62_4 : wc.cell? ⟨gb112, 4, none⟩ = some (.int .i64 ((rd_T127 ((rd_T125 l0_0 x16_1).f3) x18_2).f4)) := (blk_cell BK112.out 4).trans rfl; have hfz62_0 := blk_frozen BK112.out 0; have hfz62_1 := blk_frozen BK112.out 1; have hfz62_2 := blk_frozen BK112.out 2; have hfz62_3 := blk_frozen BK112.out 3; have hfz62_4 := blk_frozen BK112.out 4))
                                      go_roundg kj24
                                      case measure => have := HK1.out; have := HK2.out; have := HJ24.out; omega
                                      case rel => exact ⟨(x14_2), (x15_2), (wrap64 (x18_2 + 1)), (by first | rfl | (simp; done) | (simp [*]; done)), (by first | rfl | (simp; done) | (simp [*]; done)), (by first | rfl | (simp; done) | (simp [*]; done)), H', ⟨by have := HK1.out; have := HK2.out; have := HJ24.out; omega⟩, ⟨by (with_reducible repeat (first | refine blk_drewN ?_ _ | refine blk_drew ?_ | refine blk_alloc ?_ _)); exact BK108.out⟩, ⟨by (with_reducible repeat (first | refine blk_drewN ?_ _ | refine blk_drew ?_ | refine blk_alloc ?_ _)); exact BK110.out⟩, ⟨by repeat (first | (with_reducible first | exact HB.out | apply below_alloc | apply pw_below_drewN | apply below_drew1 | refine below_set ?_ GE108.out | refine below_set ?_ GE110.out | refine below_set ?_ GE112.out) | exact HB.out)⟩⟩
                                · rw [if_neg c45] at H
                                  have c45b0 : (a2 == (-1)) = false := beq_eq_false_iff_ne.mpr c45
                                  have c45b1 : (a2 != (-1)) = true := bne_iff_ne.mpr c45
                                  by_cases c63 : a2 = ((rd_T127 ((rd_T125 l0_0 x16_1).f3) x18_2).f1)
                                  · rw [if_pos c63] at H
                                    have c63b0 : (a2 == ((rd_T127 ((rd_T125 l0_0 x16_1).f3) x18_2).f1)) = true := beq_iff_eq.mpr c63
                                    have c63b1 : (a2 != ((rd_T127 ((rd_T125 l0_0 x16_1).f3) x18_2).f1)) = false := bne_eq_false_iff_eq.mpr c63
                                    clear c63
                                    by_cases c64 : a3 = (-1)
                                    · rw [if_pos c64] at H
                                      have c64b0 : (a3 == (-1)) = true := beq_iff_eq.mpr c64
                                      have c64b1 : (a3 != (-1)) = false := bne_eq_false_iff_eq.mpr c64
                                      clear c64
                                      have H' := Aside0.mk H
                                      clear H
                                      have hnb65 := NB110_108.out
                                      have hnc65 := NB108_110.out
                                      have hnb66 := NB110_112.out
                                      have hnc66 := NB112_110.out
                                      have hcz67_0 : wc.cell? ⟨gb110, 0, none⟩ = some (.int .i64 ((rd_T125 l0_0 x16_1).f0)) := (blk_cell BK110.out 0).trans rfl
                                      have hcz67_1 : wc.cell? ⟨gb110, 1, none⟩ = some (.int .i64 ((rd_T125 l0_0 x16_1).f1)) := (blk_cell BK110.out 1).trans rfl
                                      have hcz67_2 : wc.cell? ⟨gb110, 2, none⟩ = some (.string ((rd_T125 l0_0 x16_1).f2)) := (blk_cell BK110.out 2).trans rfl
                                      have hcz67_3 : wc.cell? ⟨gb110, 3, none⟩ = some (.slice (some ad111) ((rd_T125 l0_0 x16_1).f3).length c109_3) := (blk_cell BK110.out 3).trans rfl
                                      have hfz67_0 := blk_frozen BK110.out 0
                                      have hfz67_1 := blk_frozen BK110.out 1
                                      have hfz67_2 := blk_frozen BK110.out 2
                                      have hfz67_3 := blk_frozen BK110.out 3
                                      go_wp2_with (first | ((with_reducible refine gate_callee (f := 70) rfl ?_); refine goesL_ (some 66) rfl rfl Try.func70 (by kernel_rfl) rfl #[.int .i64 ((rd_T125 l0_0 x16_1).f0), .int .i64 a4, .int .i64 a5] rfl (by (try simp only [List.map_toArray, List.map_cons, List.map_nil]); first | done | rfl | (simp only [List.length_drop, List.length_take]; rfl)) ?_; (with_reducible refine (spec_l1In.calls ((rd_T125 l0_0 x16_1).f0) a4 a5 true _ A42.out).mono ?_); rintro e w' ⟨rfl, ⟨nd, rfl⟩⟩; refine ⟨_, rfl, ?_⟩; have hnb68 := NB112_108.out; have hnc68 := NB108_112.out; have hcz69_0 : wc.cell? ⟨gb112, 0, none⟩ = some (.int .i64 ((rd_T127 ((rd_T125 l0_0 x16_1).f3) x18_2).f0)) := (blk_cell BK112.out 0).trans rfl; have hcz69_1 : wc.cell? ⟨gb112, 1, none⟩ = some (.int .i64 ((rd_T127 ((rd_T125 l0_0 x16_1).f3) x18_2).f1)) := (blk_cell BK112.out 1).trans rfl; have hcz69_2 : wc.cell? ⟨gb112, 2, none⟩ = some (.int .i64 ((rd_T127 ((rd_T125 l0_0 x16_1).f3) x18_2).f2)) := (blk_cell BK112.out 2).trans rfl; have hcz69_3 : wc.cell? ⟨gb112, 3, none⟩ = some (.int .i64 ((rd_T127 ((rd_T125 l0_0 x16_1).f3) x18_2).f3)) := (blk_cell BK112.out 3).trans rfl; have hcz69_4 : wc.cell? ⟨gb112, 4, none⟩ = some (.int .i64 ((rd_T127 ((rd_T125 l0_0 x16_1).f3) x18_2).f4)) := (blk_cell BK112.out 4).trans rfl; have hfz69_0 := blk_frozen BK112.out 0; have hfz69_1 := blk_frozen BK112.out 1; have hfz69_2 := blk_frozen BK112.out 2; have hfz69_3 := blk_frozen BK112.out 3; have hfz69_4 := blk_frozen BK112.out 4))
                                      go_roundg kj24
                                      case measure => have := HK1.out; have := HK2.out; have := HJ24.out; omega
                                      case rel => exact ⟨(wrap64 (x14_2 + ((rd_T127 ((rd_T125 l0_0 x16_1).f3) x18_2).f3))), (wrap64 (x15_2 + ((rd_T127 ((rd_T125 l0_0 x16_1).f3) x18_2).f4))), (wrap64 (x18_2 + 1)), (by first | rfl | (simp; done) | (simp [*]; done)), (by first | rfl | (simp; done) | (simp [*]; done)), (by first | rfl | (simp; done) | (simp [*]; done)), H', ⟨by have := HK1.out; have := HK2.out; have := HJ24.out; omega⟩, ⟨by (with_reducible repeat (first | refine blk_drewN ?_ _ | refine blk_drew ?_ | refine blk_alloc ?_ _)); exact BK108.out⟩, ⟨by (with_reducible repeat (first | refine blk_drewN ?_ _ | refine blk_drew ?_ | refine blk_alloc ?_ _)); exact BK110.out⟩, ⟨by repeat (first | (with_reducible first | exact HB.out | apply below_alloc | apply pw_below_drewN | apply below_drew1 | refine below_set ?_ GE108.out | refine below_set ?_ GE110.out | refine below_set ?_ GE112.out) | exact HB.out)⟩⟩
                                    · rw [if_neg c64] at H
                                      have c64b0 : (a3 == (-1)) = false := beq_eq_false_iff_ne.mpr c64
                                      have c64b1 : (a3 != (-1)) = true := bne_iff_ne.mpr c64
                                      by_cases c70 : a3 = ((rd_T127 ((rd_T125 l0_0 x16_1).f3) x18_2).f2)
                                      · rw [if_pos c70] at H
                                        have c70b0 : (a3 == ((rd_T127 ((rd_T125 l0_0 x16_1).f3) x18_2).f2)) = true := beq_iff_eq.mpr c70
                                        have c70b1 : (a3 != ((rd_T127 ((rd_T125 l0_0 x16_1).f3) x18_2).f2)) = false := bne_eq_false_iff_eq.mpr c70
                                        clear c70
                                        have H' := Aside0.mk H
                                        clear H
                                        have hnb71 := NB110_108.out
                                        have hnc71 := NB108_110.out
                                        have hnb72 := NB110_112.out
                                        have hnc72 := NB112_110.out
                                        have hcz73_0 : wc.cell? ⟨gb110, 0, none⟩ = some (.int .i64 ((rd_T125 l0_0 x16_1).f0)) := (blk_cell BK110.out 0).trans rfl
                                        have hcz73_1 : wc.cell? ⟨gb110, 1, none⟩ = some (.int .i64 ((rd_T125 l0_0 x16_1).f1)) := (blk_cell BK110.out 1).trans rfl
                                        have hcz73_2 : wc.cell? ⟨gb110, 2, none⟩ = some (.string ((rd_T125 l0_0 x16_1).f2)) := (blk_cell BK110.out 2).trans rfl
                                        have hcz73_3 : wc.cell? ⟨gb110, 3, none⟩ = some (.slice (some ad111) ((rd_T125 l0_0 x16_1).f3).length c109_3) := (blk_cell BK110.out 3).trans rfl
                                        have hfz73_0 := blk_frozen BK110.out 0
                                        have hfz73_1 := blk_frozen BK110.out 1
                                        have hfz73_2 := blk_frozen BK110.out 2
                                        have hfz73_3 := blk_frozen BK110.out 3
                                        go_wp2_with (first | ((with_reducible refine gate_callee (f := 70) rfl ?_); refine goesL_ (some 66) rfl rfl Try.func70 (by kernel_rfl) rfl #[.int .i64 ((rd_T125 l0_0 x16_1).f0), .int .i64 a4, .int .i64 a5] rfl (by (try simp only [List.map_toArray, List.map_cons, List.map_nil]); first | done | rfl | (simp only [List.length_drop, List.length_take]; rfl)) ?_; (with_reducible refine (spec_l1In.calls ((rd_T125 l0_0 x16_1).f0) a4 a5 true _ A42.out).mono ?_); rintro e w' ⟨rfl, ⟨nd, rfl⟩⟩; refine ⟨_, rfl, ?_⟩; have hnb74 := NB112_108.out; have hnc74 := NB108_112.out; have hcz75_0 : wc.cell? ⟨gb112, 0, none⟩ = some (.int .i64 ((rd_T127 ((rd_T125 l0_0 x16_1).f3) x18_2).f0)) := (blk_cell BK112.out 0).trans rfl; have hcz75_1 : wc.cell? ⟨gb112, 1, none⟩ = some (.int .i64 ((rd_T127 ((rd_T125 l0_0 x16_1).f3) x18_2).f1)) := (blk_cell BK112.out 1).trans rfl; have hcz75_2 : wc.cell? ⟨gb112, 2, none⟩ = some (.int .i64 ((rd_T127 ((rd_T125 l0_0 x16_1).f3) x18_2).f2)) := (blk_cell BK112.out 2).trans rfl; have hcz75_3 : wc.cell? ⟨gb112, 3, none⟩ = some (.int .i64 ((rd_T127 ((rd_T125 l0_0 x16_1).f3) x18_2).f3)) := (blk_cell BK112.out 3).trans rfl; have hcz75_4 : wc.cell? ⟨gb112, 4, none⟩ = some (.int .i64 ((rd_T127 ((rd_T125 l0_0 x16_1).f3) x18_2).f4)) := (blk_cell BK112.out 4).trans rfl; have hfz75_0 := blk_frozen BK112.out 0; have hfz75_1 := blk_frozen BK112.out 1; have hfz75_2 := blk_frozen BK112.out 2; have hfz75_3 := blk_frozen BK112.out 3; have hfz75_4 := blk_frozen BK112.out 4))
                                        go_roundg kj24
                                        case measure => have := HK1.out; have := HK2.out; have := HJ24.out; omega
                                        case rel => exact ⟨(wrap64 (x14_2 + ((rd_T127 ((rd_T125 l0_0 x16_1).f3) x18_2).f3))), (wrap64 (x15_2 + ((rd_T127 ((rd_T125 l0_0 x16_1).f3) x18_2).f4))), (wrap64 (x18_2 + 1)), (by first | rfl | (simp; done) | (simp [*]; done)), (by first | rfl | (simp; done) | (simp [*]; done)), (by first | rfl | (simp; done) | (simp [*]; done)), H', ⟨by have := HK1.out; have := HK2.out; have := HJ24.out; omega⟩, ⟨by (with_reducible repeat (first | refine blk_drewN ?_ _ | refine blk_drew ?_ | refine blk_alloc ?_ _)); exact BK108.out⟩, ⟨by (with_reducible repeat (first | refine blk_drewN ?_ _ | refine blk_drew ?_ | refine blk_alloc ?_ _)); exact BK110.out⟩, ⟨by repeat (first | (with_reducible first | exact HB.out | apply below_alloc | apply pw_below_drewN | apply below_drew1 | refine below_set ?_ GE108.out | refine below_set ?_ GE110.out | refine below_set ?_ GE112.out) | exact HB.out)⟩⟩
                                      · rw [if_neg c70] at H
                                        have c70b0 : (a3 == ((rd_T127 ((rd_T125 l0_0 x16_1).f3) x18_2).f2)) = false := beq_eq_false_iff_ne.mpr c70
                                        have c70b1 : (a3 != ((rd_T127 ((rd_T125 l0_0 x16_1).f3) x18_2).f2)) = true := bne_iff_ne.mpr c70
                                        have H' := Aside0.mk H
                                        clear H
                                        have hnb76 := NB110_108.out
                                        have hnc76 := NB108_110.out
                                        have hnb77 := NB110_112.out
                                        have hnc77 := NB112_110.out
                                        have hcz78_0 : wc.cell? ⟨gb110, 0, none⟩ = some (.int .i64 ((rd_T125 l0_0 x16_1).f0)) := (blk_cell BK110.out 0).trans rfl
                                        have hcz78_1 : wc.cell? ⟨gb110, 1, none⟩ = some (.int .i64 ((rd_T125 l0_0 x16_1).f1)) := (blk_cell BK110.out 1).trans rfl
                                        have hcz78_2 : wc.cell? ⟨gb110, 2, none⟩ = some (.string ((rd_T125 l0_0 x16_1).f2)) := (blk_cell BK110.out 2).trans rfl
                                        have hcz78_3 : wc.cell? ⟨gb110, 3, none⟩ = some (.slice (some ad111) ((rd_T125 l0_0 x16_1).f3).length c109_3) := (blk_cell BK110.out 3).trans rfl
                                        have hfz78_0 := blk_frozen BK110.out 0
                                        have hfz78_1 := blk_frozen BK110.out 1
                                        have hfz78_2 := blk_frozen BK110.out 2
                                        have hfz78_3 := blk_frozen BK110.out 3
                                        go_wp2_with (first | ((with_reducible refine gate_callee (f := 70) rfl ?_); refine goesL_ (some 66) rfl rfl Try.func70 (by kernel_rfl) rfl #[.int .i64 ((rd_T125 l0_0 x16_1).f0), .int .i64 a4, .int .i64 a5] rfl (by (try simp only [List.map_toArray, List.map_cons, List.map_nil]); first | done | rfl | (simp only [List.length_drop, List.length_take]; rfl)) ?_; (with_reducible refine (spec_l1In.calls ((rd_T125 l0_0 x16_1).f0) a4 a5 true _ A42.out).mono ?_); rintro e w' ⟨rfl, ⟨nd, rfl⟩⟩; refine ⟨_, rfl, ?_⟩; have hnb79 := NB112_108.out; have hnc79 := NB108_112.out; have hcz80_0 : wc.cell? ⟨gb112, 0, none⟩ = some (.int .i64 ((rd_T127 ((rd_T125 l0_0 x16_1).f3) x18_2).f0)) := (blk_cell BK112.out 0).trans rfl; have hcz80_1 : wc.cell? ⟨gb112, 1, none⟩ = some (.int .i64 ((rd_T127 ((rd_T125 l0_0 x16_1).f3) x18_2).f1)) := (blk_cell BK112.out 1).trans rfl; have hcz80_2 : wc.cell? ⟨gb112, 2, none⟩ = some (.int .i64 ((rd_T127 ((rd_T125 l0_0 x16_1).f3) x18_2).f2)) := (blk_cell BK112.out 2).trans rfl; have hcz80_3 : wc.cell? ⟨gb112, 3, none⟩ = some (.int .i64 ((rd_T127 ((rd_T125 l0_0 x16_1).f3) x18_2).f3)) := (blk_cell BK112.out 3).trans rfl; have hcz80_4 : wc.cell? ⟨gb112, 4, none⟩ = some (.int .i64 ((rd_T127 ((rd_T125 l0_0 x16_1).f3) x18_2).f4)) := (blk_cell BK112.out 4).trans rfl; have hfz80_0 := blk_frozen BK112.out 0; have hfz80_1 := blk_frozen BK112.out 1; have hfz80_2 := blk_frozen BK112.out 2; have hfz80_3 := blk_frozen BK112.out 3; have hfz80_4 := blk_frozen BK112.out 4))
                                        go_roundg kj24
                                        case measure => have := HK1.out; have := HK2.out; have := HJ24.out; omega
                                        case rel => exact ⟨(x14_2), (x15_2), (wrap64 (x18_2 + 1)), (by first | rfl | (simp; done) | (simp [*]; done)), (by first | rfl | (simp; done) | (simp [*]; done)), (by first | rfl | (simp; done) | (simp [*]; done)), H', ⟨by have := HK1.out; have := HK2.out; have := HJ24.out; omega⟩, ⟨by (with_reducible repeat (first | refine blk_drewN ?_ _ | refine blk_drew ?_ | refine blk_alloc ?_ _)); exact BK108.out⟩, ⟨by (with_reducible repeat (first | refine blk_drewN ?_ _ | refine blk_drew ?_ | refine blk_alloc ?_ _)); exact BK110.out⟩, ⟨by repeat (first | (with_reducible first | exact HB.out | apply below_alloc | apply pw_below_drewN | apply below_drew1 | refine below_set ?_ GE108.out | refine below_set ?_ GE110.out | refine below_set ?_ GE112.out) | exact HB.out)⟩⟩
                                  · rw [if_neg c63] at H
                                    have c63b0 : (a2 == ((rd_T127 ((rd_T125 l0_0 x16_1).f3) x18_2).f1)) = false := beq_eq_false_iff_ne.mpr c63
                                    have c63b1 : (a2 != ((rd_T127 ((rd_T125 l0_0 x16_1).f3) x18_2).f1)) = true := bne_iff_ne.mpr c63
                                    have H' := Aside0.mk H
                                    clear H
                                    have hnb81 := NB110_108.out
                                    have hnc81 := NB108_110.out
                                    have hnb82 := NB110_112.out
                                    have hnc82 := NB112_110.out
                                    have hcz83_0 : wc.cell? ⟨gb110, 0, none⟩ = some (.int .i64 ((rd_T125 l0_0 x16_1).f0)) := (blk_cell BK110.out 0).trans rfl
                                    have hcz83_1 : wc.cell? ⟨gb110, 1, none⟩ = some (.int .i64 ((rd_T125 l0_0 x16_1).f1)) := (blk_cell BK110.out 1).trans rfl
                                    have hcz83_2 : wc.cell? ⟨gb110, 2, none⟩ = some (.string ((rd_T125 l0_0 x16_1).f2)) := (blk_cell BK110.out 2).trans rfl
                                    have hcz83_3 : wc.cell? ⟨gb110, 3, none⟩ = some (.slice (some ad111) ((rd_T125 l0_0 x16_1).f3).length c109_3) := (blk_cell BK110.out 3).trans rfl
                                    have hfz83_0 := blk_frozen BK110.out 0
                                    have hfz83_1 := blk_frozen BK110.out 1
                                    have hfz83_2 := blk_frozen BK110.out 2
                                    have hfz83_3 := blk_frozen BK110.out 3
                                    go_wp2_with (first | ((with_reducible refine gate_callee (f := 70) rfl ?_); refine goesL_ (some 66) rfl rfl Try.func70 (by kernel_rfl) rfl #[.int .i64 ((rd_T125 l0_0 x16_1).f0), .int .i64 a4, .int .i64 a5] rfl (by (try simp only [List.map_toArray, List.map_cons, List.map_nil]); first | done | rfl | (simp only [List.length_drop, List.length_take]; rfl)) ?_; (with_reducible refine (spec_l1In.calls ((rd_T125 l0_0 x16_1).f0) a4 a5 true _ A42.out).mono ?_); rintro e w' ⟨rfl, ⟨nd, rfl⟩⟩; refine ⟨_, rfl, ?_⟩; have hnb84 := NB112_108.out; have hnc84 := NB108_112.out; have hcz85_0 : wc.cell? ⟨gb112, 0, none⟩ = some (.int .i64 ((rd_T127 ((rd_T125 l0_0 x16_1).f3) x18_2).f0)) := (blk_cell BK112.out 0).trans rfl; have hcz85_1 : wc.cell? ⟨gb112, 1, none⟩ = some (.int .i64 ((rd_T127 ((rd_T125 l0_0 x16_1).f3) x18_2).f1)) := (blk_cell BK112.out 1).trans rfl; have hcz85_2 : wc.cell? ⟨gb112, 2, none⟩ = some (.int .i64 ((rd_T127 ((rd_T125 l0_0 x16_1).f3) x18_2).f2)) := (blk_cell BK112.out 2).trans rfl; have hcz85_3 : wc.cell? ⟨gb112, 3, none⟩ = some (.int .i64 ((rd_T127 ((rd_T125 l0_0 x16_1).f3) x18_2).f3)) := (blk_cell BK112.out 3).trans rfl; have hcz85_4 : wc.cell? ⟨gb112, 4, none⟩ = some (.int .i64 ((rd_T127 ((rd_T125 l0_0 x16_1).f3) x18_2).f4)) := (blk_cell BK112.out 4).trans rfl; have hfz85_0 := blk_frozen BK112.out 0; have hfz85_1 := blk_frozen BK112.out 1; have hfz85_2 := blk_frozen BK112.out 2; have hfz85_3 := blk_frozen BK112.out 3; have hfz85_4 := blk_frozen BK112.out 4))
                                    go_roundg kj24
                                    case measure => have := HK1.out; have := HK2.out; have := HJ24.out; omega
                                    case rel => exact ⟨(x14_2), (x15_2), (wrap64 (x18_2 + 1)), (by first | rfl | (simp; done) | (simp [*]; done)), (by first | rfl | (simp; done) | (simp [*]; done)), (by first | rfl | (simp; done) | (simp [*]; done)), H', ⟨by have := HK1.out; have := HK2.out; have := HJ24.out; omega⟩, ⟨by (with_reducible repeat (first | refine blk_drewN ?_ _ | refine blk_drew ?_ | refine blk_alloc ?_ _)); exact BK108.out⟩, ⟨by (with_reducible repeat (first | refine blk_drewN ?_ _ | refine blk_drew ?_ | refine blk_alloc ?_ _)); exact BK110.out⟩, ⟨by repeat (first | (with_reducible first | exact HB.out | apply below_alloc | apply pw_below_drewN | apply below_drew1 | refine below_set ?_ GE108.out | refine below_set ?_ GE110.out | refine below_set ?_ GE112.out) | exact HB.out)⟩⟩
                              · rw [if_neg c44] at H
                                have c44b0 : (a1 == (-1)) = false := beq_eq_false_iff_ne.mpr c44
                                have c44b1 : (a1 != (-1)) = true := bne_iff_ne.mpr c44
                                by_cases c86 : a1 = ((rd_T127 ((rd_T125 l0_0 x16_1).f3) x18_2).f0)
                                · rw [if_pos c86] at H
                                  have c86b0 : (a1 == ((rd_T127 ((rd_T125 l0_0 x16_1).f3) x18_2).f0)) = true := beq_iff_eq.mpr c86
                                  have c86b1 : (a1 != ((rd_T127 ((rd_T125 l0_0 x16_1).f3) x18_2).f0)) = false := bne_eq_false_iff_eq.mpr c86
                                  clear c86
                                  by_cases c87 : a2 = (-1)
                                  · rw [if_pos c87] at H
                                    have c87b0 : (a2 == (-1)) = true := beq_iff_eq.mpr c87
                                    have c87b1 : (a2 != (-1)) = false := bne_eq_false_iff_eq.mpr c87
                                    clear c87
                                    by_cases c88 : a3 = (-1)
                                    · rw [if_pos c88] at H
                                      have c88b0 : (a3 == (-1)) = true := beq_iff_eq.mpr c88
                                      have c88b1 : (a3 != (-1)) = false := bne_eq_false_iff_eq.mpr c88
                                      clear c88
                                      have H' := Aside0.mk H
                                      clear H
                                      have hnb89 := NB110_108.out
                                      have hnc89 := NB108_110.out
                                      have hnb90 := NB110_112.out
                                      have hnc90 := NB112_110.out
                                      have hcz91_0 : wc.cell? ⟨gb110, 0, none⟩ = some (.int .i64 ((rd_T125 l0_0 x16_1).f0)) := (blk_cell BK110.out 0).trans rfl
                                      have hcz91_1 : wc.cell? ⟨gb110, 1, none⟩ = some (.int .i64 ((rd_T125 l0_0 x16_1).f1)) := (blk_cell BK110.out 1).trans rfl
                                      have hcz91_2 : wc.cell? ⟨gb110, 2, none⟩ = some (.string ((rd_T125 l0_0 x16_1).f2)) := (blk_cell BK110.out 2).trans rfl
                                      have hcz91_3 : wc.cell? ⟨gb110, 3, none⟩ = some (.slice (some ad111) ((rd_T125 l0_0 x16_1).f3).length c109_3) := (blk_cell BK110.out 3).trans rfl
                                      have hfz91_0 := blk_frozen BK110.out 0
                                      have hfz91_1 := blk_frozen BK110.out 1
                                      have hfz91_2 := blk_frozen BK110.out 2
                                      have hfz91_3 := blk_frozen BK110.out 3
                                      go_wp2_with (first | ((with_reducible refine gate_callee (f := 70) rfl ?_); refine goesL_ (some 66) rfl rfl Try.func70 (by kernel_rfl) rfl #[.int .i64 ((rd_T125 l0_0 x16_1).f0), .int .i64 a4, .int .i64 a5] rfl (by (try simp only [List.map_toArray, List.map_cons, List.map_nil]); first | done | rfl | (simp only [List.length_drop, List.length_take]; rfl)) ?_; (with_reducible refine (spec_l1In.calls ((rd_T125 l0_0 x16_1).f0) a4 a5 true _ A42.out).mono ?_); rintro e w' ⟨rfl, ⟨nd, rfl⟩⟩; refine ⟨_, rfl, ?_⟩; have hnb92 := NB112_108.out; have hnc92 := NB108_112.out; have hcz93_0 : wc.cell? ⟨gb112, 0, none⟩ = some (.int .i64 ((rd_T127 ((rd_T125 l0_0 x16_1).f3) x18_2).f0)) := (blk_cell BK112.out 0).trans rfl; have hcz93_1 : wc.cell? ⟨gb112, 1, none⟩ = some (.int .i64 ((rd_T127 ((rd_T125 l0_0 x16_1).f3) x18_2).f1)) := (blk_cell BK112.out 1).trans rfl; have hcz93_2 : wc.cell? ⟨gb112, 2, none⟩ = some (.int .i64 ((rd_T127 ((rd_T125 l0_0 x16_1).f3) x18_2).f2)) := (blk_cell BK112.out 2).trans rfl; have hcz93_3 : wc.cell? ⟨gb112, 3, none⟩ = some (.int .i64 ((rd_T127 ((rd_T125 l0_0 x16_1).f3) x18_2).f3)) := (blk_cell BK112.out 3).trans rfl; have hcz93_4 : wc.cell? ⟨gb112, 4, none⟩ = some (.int .i64 ((rd_T127 ((rd_T125 l0_0 x16_1).f3) x18_2).f4)) := (blk_cell BK112.out 4).trans rfl; have hfz93_0 := blk_frozen BK112.out 0; have hfz93_1 := blk_frozen BK112.out 1; have hfz93_2 := blk_frozen BK112.out 2; have hfz93_3 := blk_frozen BK112.out 3; have hfz93_4 := blk_frozen BK112.out 4))
                                      go_roundg kj24
                                      case measure => have := HK1.out; have := HK2.out; have := HJ24.out; omega
                                      case rel => exact ⟨(wrap64 (x14_2 + ((rd_T127 ((rd_T125 l0_0 x16_1).f3) x18_2).f3))), (wrap64 (x15_2 + ((rd_T127 ((rd_T125 l0_0 x16_1).f3) x18_2).f4))), (wrap64 (x18_2 + 1)), (by first | rfl | (simp; done) | (simp [*]; done)), (by first | rfl | (simp; done) | (simp [*]; done)), (by first | rfl | (simp; done) | (simp [*]; done)), H', ⟨by have := HK1.out; have := HK2.out; have := HJ24.out; omega⟩, ⟨by (with_reducible repeat (first | refine blk_drewN ?_ _ | refine blk_drew ?_ | refine blk_alloc ?_ _)); exact BK108.out⟩, ⟨by (with_reducible repeat (first | refine blk_drewN ?_ _ | refine blk_drew ?_ | refine blk_alloc ?_ _)); exact BK110.out⟩, ⟨by repeat (first | (with_reducible first | exact HB.out | apply below_alloc | apply pw_below_drewN | apply below_drew1 | refine below_set ?_ GE108.out | refine below_set ?_ GE110.out | refine below_set ?_ GE112.out) | exact HB.out)⟩⟩
                                    · rw [if_neg c88] at H
                                      have c88b0 : (a3 == (-1)) = false := beq_eq_false_iff_ne.mpr c88
                                      have c88b1 : (a3 != (-1)) = true := bne_iff_ne.mpr c88
                                      by_cases c94 : a3 = ((rd_T127 ((rd_T125 l0_0 x16_1).f3) x18_2).f2)
                                      · rw [if_pos c94] at H
                                        have c94b0 : (a3 == ((rd_T127 ((rd_T125 l0_0 x16_1).f3) x18_2).f2)) = true := beq_iff_eq.mpr c94
                                        have c94b1 : (a3 != ((rd_T127 ((rd_T125 l0_0 x16_1).f3) x18_2).f2)) = false := bne_eq_false_iff_eq.mpr c94
                                        clear c94
                                        have H' := Aside0.mk H
                                        clear H
                                        have hnb95 := NB110_108.out
                                        have hnc95 := NB108_110.out
                                        have hnb96 := NB110_112.out
                                        have hnc96 := NB112_110.out
                                        have hcz97_0 : wc.cell? ⟨gb110, 0, none⟩ = some (.int .i64 ((rd_T125 l0_0 x16_1).f0)) := (blk_cell BK110.out 0).trans rfl
                                        have hcz97_1 : wc.cell? ⟨gb110, 1, none⟩ = some (.int .i64 ((rd_T125 l0_0 x16_1).f1)) := (blk_cell BK110.out 1).trans rfl
                                        have hcz97_2 : wc.cell? ⟨gb110, 2, none⟩ = some (.string ((rd_T125 l0_0 x16_1).f2)) := (blk_cell BK110.out 2).trans rfl
                                        have hcz97_3 : wc.cell? ⟨gb110, 3, none⟩ = some (.slice (some ad111) ((rd_T125 l0_0 x16_1).f3).length c109_3) := (blk_cell BK110.out 3).trans rfl
                                        have hfz97_0 := blk_frozen BK110.out 0
                                        have hfz97_1 := blk_frozen BK110.out 1
                                        have hfz97_2 := blk_frozen BK110.out 2
                                        have hfz97_3 := blk_frozen BK110.out 3
                                        go_wp2_with (first | ((with_reducible refine gate_callee (f := 70) rfl ?_); refine goesL_ (some 66) rfl rfl Try.func70 (by kernel_rfl) rfl #[.int .i64 ((rd_T125 l0_0 x16_1).f0), .int .i64 a4, .int .i64 a5] rfl (by (try simp only [List.map_toArray, List.map_cons, List.map_nil]); first | done | rfl | (simp only [List.length_drop, List.length_take]; rfl)) ?_; (with_reducible refine (spec_l1In.calls ((rd_T125 l0_0 x16_1).f0) a4 a5 true _ A42.out).mono ?_); rintro e w' ⟨rfl, ⟨nd, rfl⟩⟩; refine ⟨_, rfl, ?_⟩; have hnb98 := NB112_108.out; have hnc98 := NB108_112.out; have hcz99_0 : wc.cell? ⟨gb112, 0, none⟩ = some (.int .i64 ((rd_T127 ((rd_T125 l0_0 x16_1).f3) x18_2).f0)) := (blk_cell BK112.out 0).trans rfl; have hcz99_1 : wc.cell? ⟨gb112, 1, none⟩ = some (.int .i64 ((rd_T127 ((rd_T125 l0_0 x16_1).f3) x18_2).f1)) := (blk_cell BK112.out 1).trans rfl; have hcz99_2 : wc.cell? ⟨gb112, 2, none⟩ = some (.int .i64 ((rd_T127 ((rd_T125 l0_0 x16_1).f3) x18_2).f2)) := (blk_cell BK112.out 2).trans rfl; have hcz99_3 : wc.cell? ⟨gb112, 3, none⟩ = some (.int .i64 ((rd_T127 ((rd_T125 l0_0 x16_1).f3) x18_2).f3)) := (blk_cell BK112.out 3).trans rfl; have hcz99_4 : wc.cell? ⟨gb112, 4, none⟩ = some (.int .i64 ((rd_T127 ((rd_T125 l0_0 x16_1).f3) x18_2).f4)) := (blk_cell BK112.out 4).trans rfl; have hfz99_0 := blk_frozen BK112.out 0; have hfz99_1 := blk_frozen BK112.out 1; have hfz99_2 := blk_frozen BK112.out 2; have hfz99_3 := blk_frozen BK112.out 3; have hfz99_4 := blk_frozen BK112.out 4))
                                        go_roundg kj24
                                        case measure => have := HK1.out; have := HK2.out; have := HJ24.out; omega
                                        case rel => exact ⟨(wrap64 (x14_2 + ((rd_T127 ((rd_T125 l0_0 x16_1).f3) x18_2).f3))), (wrap64 (x15_2 + ((rd_T127 ((rd_T125 l0_0 x16_1).f3) x18_2).f4))), (wrap64 (x18_2 + 1)), (by first | rfl | (simp; done) | (simp [*]; done)), (by first | rfl | (simp; done) | (simp [*]; done)), (by first | rfl | (simp; done) | (simp [*]; done)), H', ⟨by have := HK1.out; have := HK2.out; have := HJ24.out; omega⟩, ⟨by (with_reducible repeat (first | refine blk_drewN ?_ _ | refine blk_drew ?_ | refine blk_alloc ?_ _)); exact BK108.out⟩, ⟨by (with_reducible repeat (first | refine blk_drewN ?_ _ | refine blk_drew ?_ | refine blk_alloc ?_ _)); exact BK110.out⟩, ⟨by repeat (first | (with_reducible first | exact HB.out | apply below_alloc | apply pw_below_drewN | apply below_drew1 | refine below_set ?_ GE108.out | refine below_set ?_ GE110.out | refine below_set ?_ GE112.out) | exact HB.out)⟩⟩
                                      · rw [if_neg c94] at H
                                        have c94b0 : (a3 == ((rd_T127 ((rd_T125 l0_0 x16_1).f3) x18_2).f2)) = false := beq_eq_false_iff_ne.mpr c94
                                        have c94b1 : (a3 != ((rd_T127 ((rd_T125 l0_0 x16_1).f3) x18_2).f2)) = true := bne_iff_ne.mpr c94
                                        have H' := Aside0.mk H
                                        clear H
                                        have hnb100 := NB110_108.out
                                        have hnc100 := NB108_110.out
                                        have hnb101 := NB110_112.out
                                        have hnc101 := NB112_110.out
                                        have hcz102_0 : wc.cell? ⟨gb110, 0, none⟩ = some (.int .i64 ((rd_T125 l0_0 x16_1).f0)) := (blk_cell BK110.out 0).trans rfl
                                        have hcz102_1 : wc.cell? ⟨gb110, 1, none⟩ = some (.int .i64 ((rd_T125 l0_0 x16_1).f1)) := (blk_cell BK110.out 1).trans rfl
                                        have hcz102_2 : wc.cell? ⟨gb110, 2, none⟩ = some (.string ((rd_T125 l0_0 x16_1).f2)) := (blk_cell BK110.out 2).trans rfl
                                        have hcz102_3 : wc.cell? ⟨gb110, 3, none⟩ = some (.slice (some ad111) ((rd_T125 l0_0 x16_1).f3).length c109_3) := (blk_cell BK110.out 3).trans rfl
                                        have hfz102_0 := blk_frozen BK110.out 0
                                        have hfz102_1 := blk_frozen BK110.out 1
                                        have hfz102_2 := blk_frozen BK110.out 2
                                        have hfz102_3 := blk_frozen BK110.out 3
                                        go_wp2_with (first | ((with_reducible refine gate_callee (f := 70) rfl ?_); refine goesL_ (some 66) rfl rfl Try.func70 (by kernel_rfl) rfl #[.int .i64 ((rd_T125 l0_0 x16_1).f0), .int .i64 a4, .int .i64 a5] rfl (by (try simp only [List.map_toArray, List.map_cons, List.map_nil]); first | done | rfl | (simp only [List.length_drop, List.length_take]; rfl)) ?_; (with_reducible refine (spec_l1In.calls ((rd_T125 l0_0 x16_1).f0) a4 a5 true _ A42.out).mono ?_); rintro e w' ⟨rfl, ⟨nd, rfl⟩⟩; refine ⟨_, rfl, ?_⟩; have hnb103 := NB112_108.out; have hnc103 := NB108_112.out; have hcz104_0 : wc.cell? ⟨gb112, 0, none⟩ = some (.int .i64 ((rd_T127 ((rd_T125 l0_0 x16_1).f3) x18_2).f0)) := (blk_cell BK112.out 0).trans rfl; have hcz104_1 : wc.cell? ⟨gb112, 1, none⟩ = some (.int .i64 ((rd_T127 ((rd_T125 l0_0 x16_1).f3) x18_2).f1)) := (blk_cell BK112.out 1).trans rfl; have hcz104_2 : wc.cell? ⟨gb112, 2, none⟩ = some (.int .i64 ((rd_T127 ((rd_T125 l0_0 x16_1).f3) x18_2).f2)) := (blk_cell BK112.out 2).trans rfl; have hcz104_3 : wc.cell? ⟨gb112, 3, none⟩ = some (.int .i64 ((rd_T127 ((rd_T125 l0_0 x16_1).f3) x18_2).f3)) := (blk_cell BK112.out 3).trans rfl; have hcz104_4 : wc.cell? ⟨gb112, 4, none⟩ = some (.int .i64 ((rd_T127 ((rd_T125 l0_0 x16_1).f3) x18_2).f4)) := (blk_cell BK112.out 4).trans rfl; have hfz104_0 := blk_frozen BK112.out 0; have hfz104_1 := blk_frozen BK112.out 1; have hfz104_2 := blk_frozen BK112.out 2; have hfz104_3 := blk_frozen BK112.out 3; have hfz104_4 := blk_frozen BK112.out 4))
                                        go_roundg kj24
                                        case measure => have := HK1.out; have := HK2.out; have := HJ24.out; omega
                                        case rel => exact ⟨(x14_2), (x15_2), (wrap64 (x18_2 + 1)), (by first | rfl | (simp; done) | (simp [*]; done)), (by first | rfl | (simp; done) | (simp [*]; done)), (by first | rfl | (simp; done) | (simp [*]; done)), H', ⟨by have := HK1.out; have := HK2.out; have := HJ24.out; omega⟩, ⟨by (with_reducible repeat (first | refine blk_drewN ?_ _ | refine blk_drew ?_ | refine blk_alloc ?_ _)); exact BK108.out⟩, ⟨by (with_reducible repeat (first | refine blk_drewN ?_ _ | refine blk_drew ?_ | refine blk_alloc ?_ _)); exact BK110.out⟩, ⟨by repeat (first | (with_reducible first | exact HB.out | apply below_alloc | apply pw_below_drewN | apply below_drew1 | refine below_set ?_ GE108.out | refine below_set ?_ GE110.out | refine below_set ?_ GE112.out) | exact HB.out)⟩⟩
                                  · rw [if_neg c87] at H
                                    have c87b0 : (a2 == (-1)) = false := beq_eq_false_iff_ne.mpr c87
                                    have c87b1 : (a2 != (-1)) = true := bne_iff_ne.mpr c87
                                    by_cases c105 : a2 = ((rd_T127 ((rd_T125 l0_0 x16_1).f3) x18_2).f1)
                                    · rw [if_pos c105] at H
                                      have c105b0 : (a2 == ((rd_T127 ((rd_T125 l0_0 x16_1).f3) x18_2).f1)) = true := beq_iff_eq.mpr c105
                                      have c105b1 : (a2 != ((rd_T127 ((rd_T125 l0_0 x16_1).f3) x18_2).f1)) = false := bne_eq_false_iff_eq.mpr c105
                                      clear c105
                                      by_cases c106 : a3 = (-1)
                                      · rw [if_pos c106] at H
                                        have c106b0 : (a3 == (-1)) = true := beq_iff_eq.mpr c106
                                        have c106b1 : (a3 != (-1)) = false := bne_eq_false_iff_eq.mpr c106
                                        clear c106
                                        have H' := Aside0.mk H
                                        clear H
                                        have hnb107 := NB110_108.out
                                        have hnc107 := NB108_110.out
                                        have hnb108 := NB110_112.out
                                        have hnc108 := NB112_110.out
                                        have hcz109_0 : wc.cell? ⟨gb110, 0, none⟩ = some (.int .i64 ((rd_T125 l0_0 x16_1).f0)) := (blk_cell BK110.out 0).trans rfl
                                        have hcz109_1 : wc.cell? ⟨gb110, 1, none⟩ = some (.int .i64 ((rd_T125 l0_0 x16_1).f1)) := (blk_cell BK110.out 1).trans rfl
                                        have hcz109_2 : wc.cell? ⟨gb110, 2, none⟩ = some (.string ((rd_T125 l0_0 x16_1).f2)) := (blk_cell BK110.out 2).trans rfl
                                        have hcz109_3 : wc.cell? ⟨gb110, 3, none⟩ = some (.slice (some ad111) ((rd_T125 l0_0 x16_1).f3).length c109_3) := (blk_cell BK110.out 3).trans rfl
                                        have hfz109_0 := blk_frozen BK110.out 0
                                        have hfz109_1 := blk_frozen BK110.out 1
                                        have hfz109_2 := blk_frozen BK110.out 2
                                        have hfz109_3 := blk_frozen BK110.out 3
                                        go_wp2_with (first | ((with_reducible refine gate_callee (f := 70) rfl ?_); refine goesL_ (some 66) rfl rfl Try.func70 (by kernel_rfl) rfl #[.int .i64 ((rd_T125 l0_0 x16_1).f0), .int .i64 a4, .int .i64 a5] rfl (by (try simp only [List.map_toArray, List.map_cons, List.map_nil]); first | done | rfl | (simp only [List.length_drop, List.length_take]; rfl)) ?_; (with_reducible refine (spec_l1In.calls ((rd_T125 l0_0 x16_1).f0) a4 a5 true _ A42.out).mono ?_); rintro e w' ⟨rfl, ⟨nd, rfl⟩⟩; refine ⟨_, rfl, ?_⟩; have hnb110 := NB112_108.out; have hnc110 := NB108_112.out; have hcz111_0 : wc.cell? ⟨gb112, 0, none⟩ = some (.int .i64 ((rd_T127 ((rd_T125 l0_0 x16_1).f3) x18_2).f0)) := (blk_cell BK112.out 0).trans rfl; have hcz111_1 : wc.cell? ⟨gb112, 1, none⟩ = some (.int .i64 ((rd_T127 ((rd_T125 l0_0 x16_1).f3) x18_2).f1)) := (blk_cell BK112.out 1).trans rfl; have hcz111_2 : wc.cell? ⟨gb112, 2, none⟩ = some (.int .i64 ((rd_T127 ((rd_T125 l0_0 x16_1).f3) x18_2).f2)) := (blk_cell BK112.out 2).trans rfl; have hcz111_3 : wc.cell? ⟨gb112, 3, none⟩ = some (.int .i64 ((rd_T127 ((rd_T125 l0_0 x16_1).f3) x18_2).f3)) := (blk_cell BK112.out 3).trans rfl; have hcz111_4 : wc.cell? ⟨gb112, 4, none⟩ = some (.int .i64 ((rd_T127 ((rd_T125 l0_0 x16_1).f3) x18_2).f4)) := (blk_cell BK112.out 4).trans rfl; have hfz111_0 := blk_frozen BK112.out 0; have hfz111_1 := blk_frozen BK112.out 1; have hfz111_2 := blk_frozen BK112.out 2; have hfz111_3 := blk_frozen BK112.out 3; have hfz111_4 := blk_frozen BK112.out 4))
                                        go_roundg kj24
                                        case measure => have := HK1.out; have := HK2.out; have := HJ24.out; omega
                                        case rel => exact ⟨(wrap64 (x14_2 + ((rd_T127 ((rd_T125 l0_0 x16_1).f3) x18_2).f3))), (wrap64 (x15_2 + ((rd_T127 ((rd_T125 l0_0 x16_1).f3) x18_2).f4))), (wrap64 (x18_2 + 1)), (by first | rfl | (simp; done) | (simp [*]; done)), (by first | rfl | (simp; done) | (simp [*]; done)), (by first | rfl | (simp; done) | (simp [*]; done)), H', ⟨by have := HK1.out; have := HK2.out; have := HJ24.out; omega⟩, ⟨by (with_reducible repeat (first | refine blk_drewN ?_ _ | refine blk_drew ?_ | refine blk_alloc ?_ _)); exact BK108.out⟩, ⟨by (with_reducible repeat (first | refine blk_drewN ?_ _ | refine blk_drew ?_ | refine blk_alloc ?_ _)); exact BK110.out⟩, ⟨by repeat (first | (with_reducible first | exact HB.out | apply below_alloc | apply pw_below_drewN | apply below_drew1 | refine below_set ?_ GE108.out | refine below_set ?_ GE110.out | refine below_set ?_ GE112.out) | exact HB.out)⟩⟩
                                      · rw [if_neg c106] at H
                                        have c106b0 : (a3 == (-1)) = false := beq_eq_false_iff_ne.mpr c106
                                        have c106b1 : (a3 != (-1)) = true := bne_iff_ne.mpr c106
                                        by_cases c112 : a3 = ((rd_T127 ((rd_T125 l0_0 x16_1).f3) x18_2).f2)
                                        · rw [if_pos c112] at H
                                          have c112b0 : (a3 == ((rd_T127 ((rd_T125 l0_0 x16_1).f3) x18_2).f2)) = true := beq_iff_eq.mpr c112
                                          have c112b1 : (a3 != ((rd_T127 ((rd_T125 l0_0 x16_1).f3) x18_2).f2)) = false := bne_eq_false_iff_eq.mpr c112
                                          clear c112
                                          have H' := Aside0.mk H
                                          clear H
                                          have hnb113 := NB110_108.out
                                          have hnc113 := NB108_110.out
                                          have hnb114 := NB110_112.out
                                          have hnc114 := NB112_110.out
                                          have hcz115_0 : wc.cell? ⟨gb110, 0, none⟩ = some (.int .i64 ((rd_T125 l0_0 x16_1).f0)) := (blk_cell BK110.out 0).trans rfl
                                          have hcz115_1 : wc.cell? ⟨gb110, 1, none⟩ = some (.int .i64 ((rd_T125 l0_0 x16_1).f1)) := (blk_cell BK110.out 1).trans rfl
                                          have hcz115_2 : wc.cell? ⟨gb110, 2, none⟩ = some (.string ((rd_T125 l0_0 x16_1).f2)) := (blk_cell BK110.out 2).trans rfl
                                          have hcz115_3 : wc.cell? ⟨gb110, 3, none⟩ = some (.slice (some ad111) ((rd_T125 l0_0 x16_1).f3).length c109_3) := (blk_cell BK110.out 3).trans rfl
                                          have hfz115_0 := blk_frozen BK110.out 0
                                          have hfz115_1 := blk_frozen BK110.out 1
                                          have hfz115_2 := blk_frozen BK110.out 2
                                          have hfz115_3 := blk_frozen BK110.out 3
                                          go_wp2_with (first | ((with_reducible refine gate_callee (f := 70) rfl ?_); refine goesL_ (some 66) rfl rfl Try.func70 (by kernel_rfl) rfl #[.int .i64 ((rd_T125 l0_0 x16_1).f0), .int .i64 a4, .int .i64 a5] rfl (by (try simp only [List.map_toArray, List.map_cons, List.map_nil]); first | done | rfl | (simp only [List.length_drop, List.length_take]; rfl)) ?_; (with_reducible refine (spec_l1In.calls ((rd_T125 l0_0 x16_1).f0) a4 a5 true _ A42.out).mono ?_); rintro e w' ⟨rfl, ⟨nd, rfl⟩⟩; refine ⟨_, rfl, ?_⟩; have hnb116 := NB112_108.out; have hnc116 := NB108_112.out; have hcz117_0 : wc.cell? ⟨gb112, 0, none⟩ = some (.int .i64 ((rd_T127 ((rd_T125 l0_0 x16_1).f3) x18_2).f0)) := (blk_cell BK112.out 0).trans rfl; have hcz117_1 : wc.cell? ⟨gb112, 1, none⟩ = some (.int .i64 ((rd_T127 ((rd_T125 l0_0 x16_1).f3) x18_2).f1)) := (blk_cell BK112.out 1).trans rfl; have hcz117_2 : wc.cell? ⟨gb112, 2, none⟩ = some (.int .i64 ((rd_T127 ((rd_T125 l0_0 x16_1).f3) x18_2).f2)) := (blk_cell BK112.out 2).trans rfl; have hcz117_3 : wc.cell? ⟨gb112, 3, none⟩ = some (.int .i64 ((rd_T127 ((rd_T125 l0_0 x16_1).f3) x18_2).f3)) := (blk_cell BK112.out 3).trans rfl; have hcz117_4 : wc.cell? ⟨gb112, 4, none⟩ = some (.int .i64 ((rd_T127 ((rd_T125 l0_0 x16_1).f3) x18_2).f4)) := (blk_cell BK112.out 4).trans rfl; have hfz117_0 := blk_frozen BK112.out 0; have hfz117_1 := blk_frozen BK112.out 1; have hfz117_2 := blk_frozen BK112.out 2; have hfz117_3 := blk_frozen BK112.out 3; have hfz117_4 := blk_frozen BK112.out 4))
                                          go_roundg kj24
                                          case measure => have := HK1.out; have := HK2.out; have := HJ24.out; omega
                                          case rel => exact ⟨(wrap64 (x14_2 + ((rd_T127 ((rd_T125 l0_0 x16_1).f3) x18_2).f3))), (wrap64 (x15_2 + ((rd_T127 ((rd_T125 l0_0 x16_1).f3) x18_2).f4))), (wrap64 (x18_2 + 1)), (by first | rfl | (simp; done) | (simp [*]; done)), (by first | rfl | (simp; done) | (simp [*]; done)), (by first | rfl | (simp; done) | (simp [*]; done)), H', ⟨by have := HK1.out; have := HK2.out; have := HJ24.out; omega⟩, ⟨by (with_reducible repeat (first | refine blk_drewN ?_ _ | refine blk_drew ?_ | refine blk_alloc ?_ _)); exact BK108.out⟩, ⟨by (with_reducible repeat (first | refine blk_drewN ?_ _ | refine blk_drew ?_ | refine blk_alloc ?_ _)); exact BK110.out⟩, ⟨by repeat (first | (with_reducible first | exact HB.out | apply below_alloc | apply pw_below_drewN | apply below_drew1 | refine below_set ?_ GE108.out | refine below_set ?_ GE110.out | refine below_set ?_ GE112.out) | exact HB.out)⟩⟩
                                        · rw [if_neg c112] at H
                                          have c112b0 : (a3 == ((rd_T127 ((rd_T125 l0_0 x16_1).f3) x18_2).f2)) = false := beq_eq_false_iff_ne.mpr c112
                                          have c112b1 : (a3 != ((rd_T127 ((rd_T125 l0_0 x16_1).f3) x18_2).f2)) = true := bne_iff_ne.mpr c112
                                          have H' := Aside0.mk H
                                          clear H
                                          have hnb118 := NB110_108.out
                                          have hnc118 := NB108_110.out
                                          have hnb119 := NB110_112.out
                                          have hnc119 := NB112_110.out
                                          have hcz120_0 : wc.cell? ⟨gb110, 0, none⟩ = some (.int .i64 ((rd_T125 l0_0 x16_1).f0)) := (blk_cell BK110.out 0).trans rfl
                                          have hcz120_1 : wc.cell? ⟨gb110, 1, none⟩ = some (.int .i64 ((rd_T125 l0_0 x16_1).f1)) := (blk_cell BK110.out 1).trans rfl
                                          have hcz120_2 : wc.cell? ⟨gb110, 2, none⟩ = some (.string ((rd_T125 l0_0 x16_1).f2)) := (blk_cell BK110.out 2).trans rfl
                                          have hcz120_3 : wc.cell? ⟨gb110, 3, none⟩ = some (.slice (some ad111) ((rd_T125 l0_0 x16_1).f3).length c109_3) := (blk_cell BK110.out 3).trans rfl
                                          have hfz120_0 := blk_frozen BK110.out 0
                                          have hfz120_1 := blk_frozen BK110.out 1
                                          have hfz120_2 := blk_frozen BK110.out 2
                                          have hfz120_3 := blk_frozen BK110.out 3
                                          go_wp2_with (first | ((with_reducible refine gate_callee (f := 70) rfl ?_); refine goesL_ (some 66) rfl rfl Try.func70 (by kernel_rfl) rfl #[.int .i64 ((rd_T125 l0_0 x16_1).f0), .int .i64 a4, .int .i64 a5] rfl (by (try simp only [List.map_toArray, List.map_cons, List.map_nil]); first | done | rfl | (simp only [List.length_drop, List.length_take]; rfl)) ?_; (with_reducible refine (spec_l1In.calls ((rd_T125 l0_0 x16_1).f0) a4 a5 true _ A42.out).mono ?_); rintro e w' ⟨rfl, ⟨nd, rfl⟩⟩; refine ⟨_, rfl, ?_⟩; have hnb121 := NB112_108.out; have hnc121 := NB108_112.out; have hcz122_0 : wc.cell? ⟨gb112, 0, none⟩ = some (.int .i64 ((rd_T127 ((rd_T125 l0_0 x16_1).f3) x18_2).f0)) := (blk_cell BK112.out 0).trans rfl; have hcz122_1 : wc.cell? ⟨gb112, 1, none⟩ = some (.int .i64 ((rd_T127 ((rd_T125 l0_0 x16_1).f3) x18_2).f1)) := (blk_cell BK112.out 1).trans rfl; have hcz122_2 : wc.cell? ⟨gb112, 2, none⟩ = some (.int .i64 ((rd_T127 ((rd_T125 l0_0 x16_1).f3) x18_2).f2)) := (blk_cell BK112.out 2).trans rfl; have hcz122_3 : wc.cell? ⟨gb112, 3, none⟩ = some (.int .i64 ((rd_T127 ((rd_T125 l0_0 x16_1).f3) x18_2).f3)) := (blk_cell BK112.out 3).trans rfl; have hcz122_4 : wc.cell? ⟨gb112, 4, none⟩ = some (.int .i64 ((rd_T127 ((rd_T125 l0_0 x16_1).f3) x18_2).f4)) := (blk_cell BK112.out 4).trans rfl; have hfz122_0 := blk_frozen BK112.out 0; have hfz122_1 := blk_frozen BK112.out 1; have hfz122_2 := blk_frozen BK112.out 2; have hfz122_3 := blk_frozen BK112.out 3; have hfz122_4 := blk_frozen BK112.out 4))
                                          go_roundg kj24
                                          case measure => have := HK1.out; have := HK2.out; have := HJ24.out; omega
                                          case rel => exact ⟨(x14_2), (x15_2), (wrap64 (x18_2 + 1)), (by first | rfl | (simp; done) | (simp [*]; done)), (by first | rfl | (simp; done) | (simp [*]; done)), (by first | rfl | (simp; done) | (simp [*]; done)), H', ⟨by have := HK1.out; have := HK2.out; have := HJ24.out; omega⟩, ⟨by (with_reducible repeat (first | refine blk_drewN ?_ _ | refine blk_drew ?_ | refine blk_alloc ?_ _)); exact BK108.out⟩, ⟨by (with_reducible repeat (first | refine blk_drewN ?_ _ | refine blk_drew ?_ | refine blk_alloc ?_ _)); exact BK110.out⟩, ⟨by repeat (first | (with_reducible first | exact HB.out | apply below_alloc | apply pw_below_drewN | apply below_drew1 | refine below_set ?_ GE108.out | refine below_set ?_ GE110.out | refine below_set ?_ GE112.out) | exact HB.out)⟩⟩
                                    · rw [if_neg c105] at H
                                      have c105b0 : (a2 == ((rd_T127 ((rd_T125 l0_0 x16_1).f3) x18_2).f1)) = false := beq_eq_false_iff_ne.mpr c105
                                      have c105b1 : (a2 != ((rd_T127 ((rd_T125 l0_0 x16_1).f3) x18_2).f1)) = true := bne_iff_ne.mpr c105
                                      have H' := Aside0.mk H
                                      clear H
                                      have hnb123 := NB110_108.out
                                      have hnc123 := NB108_110.out
                                      have hnb124 := NB110_112.out
                                      have hnc124 := NB112_110.out
                                      have hcz125_0 : wc.cell? ⟨gb110, 0, none⟩ = some (.int .i64 ((rd_T125 l0_0 x16_1).f0)) := (blk_cell BK110.out 0).trans rfl
                                      have hcz125_1 : wc.cell? ⟨gb110, 1, none⟩ = some (.int .i64 ((rd_T125 l0_0 x16_1).f1)) := (blk_cell BK110.out 1).trans rfl
                                      have hcz125_2 : wc.cell? ⟨gb110, 2, none⟩ = some (.string ((rd_T125 l0_0 x16_1).f2)) := (blk_cell BK110.out 2).trans rfl
                                      have hcz125_3 : wc.cell? ⟨gb110, 3, none⟩ = some (.slice (some ad111) ((rd_T125 l0_0 x16_1).f3).length c109_3) := (blk_cell BK110.out 3).trans rfl
                                      have hfz125_0 := blk_frozen BK110.out 0
                                      have hfz125_1 := blk_frozen BK110.out 1
                                      have hfz125_2 := blk_frozen BK110.out 2
                                      have hfz125_3 := blk_frozen BK110.out 3
                                      go_wp2_with (first | ((with_reducible refine gate_callee (f := 70) rfl ?_); refine goesL_ (some 66) rfl rfl Try.func70 (by kernel_rfl) rfl #[.int .i64 ((rd_T125 l0_0 x16_1).f0), .int .i64 a4, .int .i64 a5] rfl (by (try simp only [List.map_toArray, List.map_cons, List.map_nil]); first | done | rfl | (simp only [List.length_drop, List.length_take]; rfl)) ?_; (with_reducible refine (spec_l1In.calls ((rd_T125 l0_0 x16_1).f0) a4 a5 true _ A42.out).mono ?_); rintro e w' ⟨rfl, ⟨nd, rfl⟩⟩; refine ⟨_, rfl, ?_⟩; have hnb126 := NB112_108.out; have hnc126 := NB108_112.out; have hcz127_0 : wc.cell? ⟨gb112, 0, none⟩ = some (.int .i64 ((rd_T127 ((rd_T125 l0_0 x16_1).f3) x18_2).f0)) := (blk_cell BK112.out 0).trans rfl; have hcz127_1 : wc.cell? ⟨gb112, 1, none⟩ = some (.int .i64 ((rd_T127 ((rd_T125 l0_0 x16_1).f3) x18_2).f1)) := (blk_cell BK112.out 1).trans rfl; have hcz127_2 : wc.cell? ⟨gb112, 2, none⟩ = some (.int .i64 ((rd_T127 ((rd_T125 l0_0 x16_1).f3) x18_2).f2)) := (blk_cell BK112.out 2).trans rfl; have hcz127_3 : wc.cell? ⟨gb112, 3, none⟩ = some (.int .i64 ((rd_T127 ((rd_T125 l0_0 x16_1).f3) x18_2).f3)) := (blk_cell BK112.out 3).trans rfl; have hcz127_4 : wc.cell? ⟨gb112, 4, none⟩ = some (.int .i64 ((rd_T127 ((rd_T125 l0_0 x16_1).f3) x18_2).f4)) := (blk_cell BK112.out 4).trans rfl; have hfz127_0 := blk_frozen BK112.out 0; have hfz127_1 := blk_frozen BK112.out 1; have hfz127_2 := blk_frozen BK112.out 2; have hfz127_3 := blk_frozen BK112.out 3; have hfz127_4 := blk_frozen BK112.out 4))
                                      go_roundg kj24
                                      case measure => have := HK1.out; have := HK2.out; have := HJ24.out; omega
                                      case rel => exact ⟨(x14_2), (x15_2), (wrap64 (x18_2 + 1)), (by first | rfl | (simp; done) | (simp [*]; done)), (by first | rfl | (simp; done) | (simp [*]; done)), (by first | rfl | (simp; done) | (simp [*]; done)), H', ⟨by have := HK1.out; have := HK2.out; have := HJ24.out; omega⟩, ⟨by (with_reducible repeat (first | refine blk_drewN ?_ _ | refine blk_drew ?_ | refine blk_alloc ?_ _)); exact BK108.out⟩, ⟨by (with_reducible repeat (first | refine blk_drewN ?_ _ | refine blk_drew ?_ | refine blk_alloc ?_ _)); exact BK110.out⟩, ⟨by repeat (first | (with_reducible first | exact HB.out | apply below_alloc | apply pw_below_drewN | apply below_drew1 | refine below_set ?_ GE108.out | refine below_set ?_ GE110.out | refine below_set ?_ GE112.out) | exact HB.out)⟩⟩
                                · rw [if_neg c86] at H
                                  have c86b0 : (a1 == ((rd_T127 ((rd_T125 l0_0 x16_1).f3) x18_2).f0)) = false := beq_eq_false_iff_ne.mpr c86
                                  have c86b1 : (a1 != ((rd_T127 ((rd_T125 l0_0 x16_1).f3) x18_2).f0)) = true := bne_iff_ne.mpr c86
                                  have H' := Aside0.mk H
                                  clear H
                                  have hnb128 := NB110_108.out
                                  have hnc128 := NB108_110.out
                                  have hnb129 := NB110_112.out
                                  have hnc129 := NB112_110.out
                                  have hcz130_0 : wc.cell? ⟨gb110, 0, none⟩ = some (.int .i64 ((rd_T125 l0_0 x16_1).f0)) := (blk_cell BK110.out 0).trans rfl
                                  have hcz130_1 : wc.cell? ⟨gb110, 1, none⟩ = some (.int .i64 ((rd_T125 l0_0 x16_1).f1)) := (blk_cell BK110.out 1).trans rfl
                                  have hcz130_2 : wc.cell? ⟨gb110, 2, none⟩ = some (.string ((rd_T125 l0_0 x16_1).f2)) := (blk_cell BK110.out 2).trans rfl
                                  have hcz130_3 : wc.cell? ⟨gb110, 3, none⟩ = some (.slice (some ad111) ((rd_T125 l0_0 x16_1).f3).length c109_3) := (blk_cell BK110.out 3).trans rfl
                                  have hfz130_0 := blk_frozen BK110.out 0
                                  have hfz130_1 := blk_frozen BK110.out 1
                                  have hfz130_2 := blk_frozen BK110.out 2
                                  have hfz130_3 := blk_frozen BK110.out 3
                                  go_wp2_with (first | ((with_reducible refine gate_callee (f := 70) rfl ?_); refine goesL_ (some 66) rfl rfl Try.func70 (by kernel_rfl) rfl #[.int .i64 ((rd_T125 l0_0 x16_1).f0), .int .i64 a4, .int .i64 a5] rfl (by (try simp only [List.map_toArray, List.map_cons, List.map_nil]); first | done | rfl | (simp only [List.length_drop, List.length_take]; rfl)) ?_; (with_reducible refine (spec_l1In.calls ((rd_T125 l0_0 x16_1).f0) a4 a5 true _ A42.out).mono ?_); rintro e w' ⟨rfl, ⟨nd, rfl⟩⟩; refine ⟨_, rfl, ?_⟩; have hnb131 := NB112_108.out; have hnc131 := NB108_112.out; have hcz132_0 : wc.cell? ⟨gb112, 0, none⟩ = some (.int .i64 ((rd_T127 ((rd_T125 l0_0 x16_1).f3) x18_2).f0)) := (blk_cell BK112.out 0).trans rfl; have hcz132_1 : wc.cell? ⟨gb112, 1, none⟩ = some (.int .i64 ((rd_T127 ((rd_T125 l0_0 x16_1).f3) x18_2).f1)) := (blk_cell BK112.out 1).trans rfl; have hcz132_2 : wc.cell? ⟨gb112, 2, none⟩ = some (.int .i64 ((rd_T127 ((rd_T125 l0_0 x16_1).f3) x18_2).f2)) := (blk_cell BK112.out 2).trans rfl; have hcz132_3 : wc.cell? ⟨gb112, 3, none⟩ = some (.int .i64 ((rd_T127 ((rd_T125 l0_0 x16_1).f3) x18_2).f3)) := (blk_cell BK112.out 3).trans rfl; have hcz132_4 : wc.cell? ⟨gb112, 4, none⟩ = some (.int .i64 ((rd_T127 ((rd_T125 l0_0 x16_1).f3) x18_2).f4)) := (blk_cell BK112.out 4).trans rfl; have hfz132_0 := blk_frozen BK112.out 0; have hfz132_1 := blk_frozen BK112.out 1; have hfz132_2 := blk_frozen BK112.out 2; have hfz132_3 := blk_frozen BK112.out 3; have hfz132_4 := blk_frozen BK112.out 4))
                                  go_roundg kj24
                                  case measure => have := HK1.out; have := HK2.out; have := HJ24.out; omega
                                  case rel => exact ⟨(x14_2), (x15_2), (wrap64 (x18_2 + 1)), (by first | rfl | (simp; done) | (simp [*]; done)), (by first | rfl | (simp; done) | (simp [*]; done)), (by first | rfl | (simp; done) | (simp [*]; done)), H', ⟨by have := HK1.out; have := HK2.out; have := HJ24.out; omega⟩, ⟨by (with_reducible repeat (first | refine blk_drewN ?_ _ | refine blk_drew ?_ | refine blk_alloc ?_ _)); exact BK108.out⟩, ⟨by (with_reducible repeat (first | refine blk_drewN ?_ _ | refine blk_drew ?_ | refine blk_alloc ?_ _)); exact BK110.out⟩, ⟨by repeat (first | (with_reducible first | exact HB.out | apply below_alloc | apply pw_below_drewN | apply below_drew1 | refine below_set ?_ GE108.out | refine below_set ?_ GE110.out | refine below_set ?_ GE112.out) | exact HB.out)⟩⟩
                            · replace c43 := Bool.eq_false_iff.mpr c43
                              subst c43
                              have H1 : (spec_Balance.l1 kj24 a1 a2 a3 a4 a5 x14_2 x15_2 x16_1 (wrap64 (x18_2 + 1)) l0_0 a0_1 ((rd_T125 l0_0 x16_1).f0) ((rd_T125 l0_0 x16_1).f1) ((rd_T125 l0_0 x16_1).f2) ((rd_T125 l0_0 x16_1).f3)) = some (r1, r2) := by rw [if_neg (show ¬ (false = true) by decide)] at H; exact H
                              clear H
                              have H := H1
                              clear H1
                              have H' := Aside0.mk H
                              clear H
                              have hnb133 := NB110_108.out
                              have hnc133 := NB108_110.out
                              have hnb134 := NB110_112.out
                              have hnc134 := NB112_110.out
                              have hcz135_0 : wc.cell? ⟨gb110, 0, none⟩ = some (.int .i64 ((rd_T125 l0_0 x16_1).f0)) := (blk_cell BK110.out 0).trans rfl
                              have hcz135_1 : wc.cell? ⟨gb110, 1, none⟩ = some (.int .i64 ((rd_T125 l0_0 x16_1).f1)) := (blk_cell BK110.out 1).trans rfl
                              have hcz135_2 : wc.cell? ⟨gb110, 2, none⟩ = some (.string ((rd_T125 l0_0 x16_1).f2)) := (blk_cell BK110.out 2).trans rfl
                              have hcz135_3 : wc.cell? ⟨gb110, 3, none⟩ = some (.slice (some ad111) ((rd_T125 l0_0 x16_1).f3).length c109_3) := (blk_cell BK110.out 3).trans rfl
                              have hfz135_0 := blk_frozen BK110.out 0
                              have hfz135_1 := blk_frozen BK110.out 1
                              have hfz135_2 := blk_frozen BK110.out 2
                              have hfz135_3 := blk_frozen BK110.out 3
                              go_wp2_with (first | ((with_reducible refine gate_callee (f := 70) rfl ?_); refine goesL_ (some 66) rfl rfl Try.func70 (by kernel_rfl) rfl #[.int .i64 ((rd_T125 l0_0 x16_1).f0), .int .i64 a4, .int .i64 a5] rfl (by (try simp only [List.map_toArray, List.map_cons, List.map_nil]); first | done | rfl | (simp only [List.length_drop, List.length_take]; rfl)) ?_; (with_reducible refine (spec_l1In.calls ((rd_T125 l0_0 x16_1).f0) a4 a5 false _ A42.out).mono ?_); rintro e w' ⟨rfl, ⟨nd, rfl⟩⟩; refine ⟨_, rfl, ?_⟩))
                              go_roundg kj24
                              case measure => have := HK1.out; have := HK2.out; have := HJ24.out; omega
                              case rel => exact ⟨(x14_2), (x15_2), (wrap64 (x18_2 + 1)), (by first | rfl | (simp; done) | (simp [*]; done)), (by first | rfl | (simp; done) | (simp [*]; done)), (by first | rfl | (simp; done) | (simp [*]; done)), H', ⟨by have := HK1.out; have := HK2.out; have := HJ24.out; omega⟩, ⟨by (with_reducible repeat (first | refine blk_drewN ?_ _ | refine blk_drew ?_ | refine blk_alloc ?_ _)); exact BK108.out⟩, ⟨by (with_reducible repeat (first | refine blk_drewN ?_ _ | refine blk_drew ?_ | refine blk_alloc ?_ _)); exact BK110.out⟩, ⟨by repeat (first | (with_reducible first | exact HB.out | apply below_alloc | apply pw_below_drewN | apply below_drew1 | refine below_set ?_ GE108.out | refine below_set ?_ GE110.out | refine below_set ?_ GE112.out) | exact HB.out)⟩⟩
                    · rw [if_neg c24] at H
                      exact absurd H (by simp)
                  · rw [if_neg c23] at H
                    have c23b0 : decide (x18_2 < (((rd_T125 l0_0 x16_1).f3).length : Int)) = false := decide_eq_false c23
                    clear c23
                    have H' := Aside0.mk H
                    clear H
                    have hnb136 := NB110_108.out
                    have hnc136 := NB108_110.out
                    have hcz137_0 : wr.cell? ⟨gb110, 0, none⟩ = some (.int .i64 ((rd_T125 l0_0 x16_1).f0)) := (blk_cell BK110.out 0).trans rfl
                    have hcz137_1 : wr.cell? ⟨gb110, 1, none⟩ = some (.int .i64 ((rd_T125 l0_0 x16_1).f1)) := (blk_cell BK110.out 1).trans rfl
                    have hcz137_2 : wr.cell? ⟨gb110, 2, none⟩ = some (.string ((rd_T125 l0_0 x16_1).f2)) := (blk_cell BK110.out 2).trans rfl
                    have hcz137_3 : wr.cell? ⟨gb110, 3, none⟩ = some (.slice A109_3 ((rd_T125 l0_0 x16_1).f3).length c109_3) := (blk_cell BK110.out 3).trans rfl
                    have hfz137_0 := blk_frozen BK110.out 0
                    have hfz137_1 := blk_frozen BK110.out 1
                    have hfz137_2 := blk_frozen BK110.out 2
                    have hfz137_3 := blk_frozen BK110.out 3
                    go_wp2
                    go_roundg k2
                    case measure => have := HK1.out; have := HK2.out; omega
                    case rel => exact ⟨(x14_2), (x15_2), (wrap64 (x16_1 + 1)), (by first | rfl | (simp; done) | (simp [*]; done)), (by first | rfl | (simp; done) | (simp [*]; done)), (by first | rfl | (simp; done) | (simp [*]; done)), H', ⟨by have := HK1.out; have := HK2.out; omega⟩, ⟨by (with_reducible repeat (first | refine blk_drewN ?_ _ | refine blk_drew ?_ | refine blk_alloc ?_ _)); exact BK108.out⟩, ⟨by repeat (first | (with_reducible first | exact HB.out | apply below_alloc | apply pw_below_drewN | apply below_drew1 | refine below_set ?_ GE108.out | refine below_set ?_ GE110.out) | exact HB.out)⟩⟩
          · rw [if_neg c13] at H
            exact absurd H (by simp)
        · rw [if_neg c12] at H
          have c12b0 : decide (x16_1 < (l0_0.length : Int)) = false := decide_eq_false c12
          clear c12
          simp only [Option.some.injEq, Prod.mk.injEq] at H
          obtain ⟨rfl, rfl⟩ := H
          have hcz138_0 : wr.cell? ⟨gb108, 0, none⟩ = some (.slice A0_0 l0_0.length c0_0) := (blk_cell BK108.out 0).trans rfl
          have hcz138_1 : wr.cell? ⟨gb108, 1, none⟩ = some (.int .i64 a0_1) := (blk_cell BK108.out 1).trans rfl
          have hfz138_0 := blk_frozen BK108.out 0
          have hfz138_1 := blk_frozen BK108.out 1
          go_wp2
          go_ret2
          exact ⟨by first | rfl | (simp [errW_none, errW_some] <;> rfl) | (simp [*, errW_none, errW_some] <;> rfl), by repeat (first | (with_reducible first | exact HB.out | apply below_alloc | apply pw_below_drewN | apply below_drew1 | refine below_set ?_ GE108.out) | exact HB.out)⟩

end Go.Proofs.Ytiamlcnmjicpaaa.PFnExactBalance
