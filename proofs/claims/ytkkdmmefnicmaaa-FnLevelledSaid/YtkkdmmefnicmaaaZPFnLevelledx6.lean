/- Lines by a program (a changed copy of the kit's print: this repo's wip/tools): Go functions as Lean functions, and proofs that the calls answer so. -/
import Derived.Test.YtkkdmmefnicmaaaZPFnLevelledx0
namespace Go.Proofs.Ytkkdmmefnicmaaa.PFnLevelled
open Go.RowKit Go.Proofs.YtkkdmmefnicmaaaW.PrintWords Go.Proofs.YtkkdmmefnicmaaaW.PrintLast Go.Proofs.YtkkdmmefnicmaaaW.PrintMore
attribute [local go_sem] max2_int min2_int max_two min_two max_three min_three max_four min_four   -- for this text's walks alone
set_option linter.unusedVariables false
set_option linter.unusedSimpArgs false

/-! ### impl_levels: function 84 -/
mutual
def impl_levels.l0 : Nat → List Int → List (S52) → Int → Int → Option (List Int)
 | 0, _, _, _, _ => none
 | k + 1, x3, x11, x12, x13 => if x13 < x12 then (if 0 ≤ x13 then (if x13 < (x11.length : Int) then (impl_levels.l1 k x3 x13 x11 x12 x13 ((rd_T52 x11 x13).f3) (((rd_T52 x11 x13).f3).length : Int) 0) else (none)) else (none)) else (some x3)
def impl_levels.l1 : Nat → List Int → Int → List (S52) → Int → Int → List (S54) → Int → Int → Option (List Int)
 | 0, _, _, _, _, _, _, _, _ => none
 | k + 1, x3, x4, x11, x12, x13, x19, x20, x21 => if x21 < x20 then (if 0 ≤ x21 then (if x21 < (x19.length : Int) then (if 0 ≤ ((rd_T54 x19 x21).f0) then (if ((rd_T54 x19 x21).f0) < (x3.length : Int) then (if 0 ≤ x4 then (if x4 < (x3.length : Int) then (if (rd x3 ((rd_T54 x19 x21).f0)) < (wrap64 ((rd x3 x4) + 1)) then (impl_levels.l1 k (x3.set (((rd_T54 x19 x21).f0) : Int).toNat (wrap64 ((rd x3 x4) + 1))) x4 x11 x12 x13 x19 x20 (wrap64 (x21 + 1))) else (impl_levels.l1 k x3 x4 x11 x12 x13 x19 x20 (wrap64 (x21 + 1)))) else (none)) else (none)) else (none)) else (none)) else (none)) else (none)) else (impl_levels.l0 k x3 x11 x12 (wrap64 (x13 + 1)))
end
def impl_levels.f (k : Nat) (l0 : List (S52)) : Option (List Int) := if 0 ≤ (l0.length : Int) then (if ((l0.length : Int) : Int).toNat ≤ 35184372088832 then (impl_levels.l0 k (List.replicate ((l0.length : Int) : Int).toNat 0) l0 (l0.length : Int) 0) else (none)) else (none)
theorem impl_levels.mono_l : ∀ k, (∀ y0 y1 y2 y3, LeO (impl_levels.l0 k y0 y1 y2 y3) (impl_levels.l0 (k + 1) y0 y1 y2 y3)) ∧ (∀ y0 y1 y2 y3 y4 y5 y6 y7, LeO (impl_levels.l1 k y0 y1 y2 y3 y4 y5 y6 y7) (impl_levels.l1 (k + 1) y0 y1 y2 y3 y4 y5 y6 y7))
 | 0 => ⟨fun _ _ _ _ r h => by simp [impl_levels.l0] at h, fun _ _ _ _ _ _ _ _ r h => by simp [impl_levels.l1] at h⟩
 | k + 1 => by
  obtain ⟨ih0, ih1⟩ := impl_levels.mono_l k
  refine ⟨?_, ?_⟩
  ·intro y0 y1 y2 y3
   unfold impl_levels.l0
   repeat' first
   | (with_reducible exact ih0 _ _ _ _)
   | (with_reducible exact ih1 _ _ _ _ _ _ _ _)
   | (with_reducible exact LeO.refl _)
   | (with_reducible exact LeO.none _)
   | (with_reducible refine LeO.ite ?_ ?_)
   | (with_reducible refine LeO.bind ?_ (fun _ => ?_))
   | exact ih0 _ _ _ _
   | exact ih1 _ _ _ _ _ _ _ _
   | exact LeO.none _
   | refine LeO.ite ?_ ?_
   | refine LeO.bind ?_ (fun _ => ?_)
  ·intro y0 y1 y2 y3 y4 y5 y6 y7
   unfold impl_levels.l1
   repeat' first
   | (with_reducible exact ih0 _ _ _ _)
   | (with_reducible exact ih1 _ _ _ _ _ _ _ _)
   | (with_reducible exact LeO.refl _)
   | (with_reducible exact LeO.none _)
   | (with_reducible refine LeO.ite ?_ ?_)
   | (with_reducible refine LeO.bind ?_ (fun _ => ?_))
   | exact ih0 _ _ _ _
   | exact ih1 _ _ _ _ _ _ _ _
   | exact LeO.none _
   | refine LeO.ite ?_ ?_
   | refine LeO.bind ?_ (fun _ => ?_)
theorem impl_levels.mono : ∀ a0 k, LeO (impl_levels.f k a0) (impl_levels.f (k + 1) a0) := by
 intro a0 k
 obtain ⟨ih0, ih1⟩ := impl_levels.mono_l k
 unfold impl_levels.f
 repeat' first
   | (with_reducible exact ih0 _ _ _ _)
   | (with_reducible exact ih1 _ _ _ _ _ _ _ _)
   | (with_reducible exact LeO.refl _)
   | (with_reducible exact LeO.none _)
   | (with_reducible refine LeO.ite ?_ ?_)
   | (with_reducible refine LeO.bind ?_ (fun _ => ?_))
   | exact ih0 _ _ _ _
   | exact ih1 _ _ _ _ _ _ _ _
   | exact LeO.none _
   | refine LeO.ite ?_ ?_
   | refine LeO.bind ?_ (fun _ => ?_)
def impl_levels.T8 : Bool × List (List Nat × List Nat) := (true, [([], []), ([], []), ([1], [1]), ([0, 2], [0, 2]), ([3], [3]), ([], []), ([], []), ([5, 6], [5, 6]), ([7], [7]), ([8], [8]), ([4, 9], [4, 9])])
def impl_levels.B8 : List Nat := [0, 0, 2, 7, 15, 0, 0, 96, 224, 480, 1023]
theorem impl_levels.tab8 : rtab .any (opsOf Try.f84 8) = impl_levels.T8 := by kernel_rfl
theorem impl_levels.bits8 : waitsOk impl_levels.T8.2 impl_levels.B8 = true := by kernel_rfl
def impl_levels.T9 : Bool × List (List Nat × List Nat) := (true, [([], []), ([], []), ([1], [1]), ([], []), ([], []), ([3, 4], [3, 4]), ([5], [5]), ([6], [6]), ([0, 2, 0, 1, 2, 3, 4, 5, 6, 7], [0, 2]), ([8, 7, 0, 1, 2, 3, 4, 5, 6, 7], [7, 8])])
def impl_levels.B9 : List Nat := [0, 0, 2, 0, 0, 24, 56, 120, 255, 511]
theorem impl_levels.tab9 : rtab .any (opsOf Try.f84 9) = impl_levels.T9 := by kernel_rfl
theorem impl_levels.bits9 : waitsOk impl_levels.T9.2 impl_levels.B9 = true := by kernel_rfl
set_option maxHeartbeats 8000000 in
set_option maxRecDepth 100000 in
theorem impl_levels.calls (k : Nat) (A0 : Option Addr) (c0 : Nat) (l0 : List (S52)) (r : List Int) (w : World) (hr0 : Kd.C k52 w A0 l0.length l0) (hc0 : l0.length ≤ c0) (h : impl_levels.f k l0 = some r) :
  Calls Try.prog 84 #[.slice A0 l0.length c0] w fun e w' => ∃ v0_ : Value, e = .returned (v0_) ∧ Kd.R (Kd.int .i64) 3 w' w.heap.size (fun _ => True) v0_ r ∧ Below w.heap.size w w' := by
 have hu52 := Try.underlying52
 have hu54 := Try.underlying54
 have HR0 := Aside0.mk hr0
 have HC0 := Aside0.mk hc0
 clear hr0 hc0
 have HB := Aside0.mk (Below.refl w.heap.size w)
 have H : (if 0 ≤ (l0.length : Int) then (if ((l0.length : Int) : Int).toNat ≤ 35184372088832 then (impl_levels.l0 k (List.replicate ((l0.length : Int) : Int).toNat 0) l0 (l0.length : Int) 0) else (none)) else (none)) = some r := h
 clear h
 by_cases c2 : 0 ≤ (l0.length : Int)
 case neg => rw [if_neg c2] at H; exact absurd H (by simp)
 rw [if_pos c2] at H
 have c2b0 := eq_true c2
 have c2b1 : decide (0 ≤ (l0.length : Int)) = true := decide_eq_true c2
 clear c2
 by_cases c3 : ((l0.length : Int) : Int).toNat ≤ 35184372088832
 case neg => rw [if_neg c3] at H; exact absurd H (by simp)
 rw [if_pos c3] at H
 have c3b0 := eq_true c3
 have c3b1 : decide (((l0.length : Int) : Int).toNat ≤ 35184372088832) = true := decide_eq_true c3
 clear c3
 obtain ⟨y221, hy221⟩ : ∃ y_ : List Int, y_ = (List.replicate ((l0.length : Int) : Int).toNat 0) := ⟨_, rfl⟩
 replace H : (impl_levels.l0 k y221 l0 (l0.length : Int) 0) = some r := by first | (rw [hy221]; with_reducible exact H) | (have H2_ := (Option.bind_some _ _).symm.trans H; rw [hy221]; with_reducible exact H2_) | (have H2_ := (Option.bind_some _ _).symm.trans H; with_reducible exact H2_) | with_reducible exact H | (rw [hy221]; exact H) | exact H
 have Ny221 := Aside0.mk hy221
 clear hy221
 have H' := Aside0.mk H
 clear H
 go_enter Try.func84, Try.ntmps84
 go_wp2_with (first | ((with_reducible refine qz0 (N := 10) rfl ?_); refine Kd.R_make (Kd.int .i64) _ 3 rfl (N := 10) rfl 24 _ _ rfl (l0.length : Int) rfl rfl Try.underlying24 (.int .i64 0) 8 info3 rfl (by decide) (by omega) 0 (ok := fun _ => True) (okp := fun _ => True) rfl (fun _ hk => hk) trivial (of_decide_eq_true (by first | (with_reducible assumption) | assumption)) (Nat.le_trans (Nat.mul_le_mul_right _ (of_decide_eq_true (by first | (with_reducible assumption) | assumption) : (l0.length : Int).toNat ≤ 35184372088832)) (by omega)) (Below.refl _ _) (Nat.le_refl _) ?_; intro v222 w4 ho5 hb hg_ hnew_; clear hg_ hnew_; (first | rw [← Ny221.out] at ho5 | (simp only [Int.reduceToNat] at ho5; rw [← Ny221.out] at ho5)); have n0_ := Aside0.mk (Kd.qw1 ho5 (qm0 (by repeat (first | (with_reducible first | exact HB.out | apply qc0 | apply qa0 | apply qd0) | exact HB.out)))); have n1_ := Aside0.mk (qk0 (by repeat (first | (with_reducible first | exact HB.out | apply qc0 | apply qa0 | apply qd0) | exact HB.out)) hb); clear HB; have HO223 := n0_; have HB := n1_; clear n0_ n1_; clear hb ho5))
 go_loopg [13] k (fun kq v13 w' => ∃ (x3_1 : List Int) (x13_1 : Int), v13 = .int .i64 x13_1 ∧ Aside0 (impl_levels.l0 kq x3_1 l0 (l0.length : Int) x13_1 = some r) ∧ Aside0 (kq ≤ k) ∧ Aside0 (Kd.R (Kd.int .i64) 3 w' w.heap.size (fun _ => True) v222 x3_1) ∧ Aside0 (Below w.heap.size w w'))
 case atStart => exact ⟨(y221), (0), (by first | rfl | (simp; done) | (simp [*]; done)), H', ⟨Nat.le_refl _⟩, ⟨by (with_reducible repeat (first | apply Kd.qo0 | apply Kd.qn0 | apply Kd.qt0)); exact HO223.out⟩, ⟨by repeat (first | (with_reducible first | exact HB.out | apply qc0 | apply qa0 | apply qd0) | exact HB.out)⟩⟩
 case round =>
  clear H'
  try clear c2
  try clear c2b0
  try clear c2b1
  try clear p2
  try clear c3
  try clear c3b0
  try clear c3b1
  obtain ⟨x3_1, x13_1, rfl, HA, HK1, HO_3, HB⟩ := hrel
  cases gk with
  | zero => exact absurd HA.out (by simp [impl_levels.l0])
  | succ k1 =>
   have H := HA.out
   clear HA
   simp only [impl_levels.l0] at H
   by_cases c6 : x13_1 < (l0.length : Int)
   ·rw [if_pos c6] at H
    have c6b0 : decide (x13_1 < (l0.length : Int)) = true := decide_eq_true c6
    clear c6
    by_cases c7 : 0 ≤ x13_1
    case neg => rw [if_neg c7] at H; exact absurd H (by simp)
    rw [if_pos c7] at H
    have c7b0 : decide (0 ≤ x13_1) = true := decide_eq_true c7
    clear c7
    by_cases c8 : x13_1 < (l0.length : Int)
    case neg => rw [if_neg c8] at H; exact absurd H (by simp)
    rw [if_pos c8] at H
    have c8b0 : decide (x13_1 < (l0.length : Int)) = true := decide_eq_true c8
    clear c8
    have H' := Aside0.mk H
    clear H
    have p224 : 0 ≤ (x13_1 : Int) := of_decide_eq_true (by first | (with_reducible assumption) | assumption)
    have q224 : x13_1 < (l0.length : Int) := of_decide_eq_true (by first | (with_reducible assumption) | assumption)
    obtain ⟨ad224, A224_3, c224_3, A224_4, c224_4, e224, hx224_0, hx224_1, hx224_2, hx224_3, hx224_4, hl224_3, hi224_3, hl224_4, hi224_4⟩ := at_T52 HR0.out x13_1 p224 q224
    cases e224
    replace hx224_0 := (HB.out.cell (World.block_lt_of_cell? w _ hx224_0)).trans hx224_0
    replace hx224_1 := (HB.out.cell (World.block_lt_of_cell? w _ hx224_1)).trans hx224_1
    replace hx224_2 := (HB.out.cell (World.block_lt_of_cell? w _ hx224_2)).trans hx224_2
    replace hx224_3 := (HB.out.cell (World.block_lt_of_cell? w _ hx224_3)).trans hx224_3
    replace hx224_4 := (HB.out.cell (World.block_lt_of_cell? w _ hx224_4)).trans hx224_4
    have HR224_3 := Aside0.mk hi224_3
    have HC224_3 := Aside0.mk hl224_3
    clear hi224_3 hl224_3
    have HR224_4 := Aside0.mk hi224_4
    have HC224_4 := Aside0.mk hl224_4
    clear hi224_4 hl224_4
    replace p224 := eq_true p224
    replace q224 := eq_true q224
    go_wp2_with (first | ((with_reducible refine qz0 (N := 5) rfl ?_); refine qg1 ?hg (N := 5) ?hd (cs := #[.string (⟨#[]⟩ : ByteArray), .int .i64 0, .bool false, .slice none 0 0, .slice none 0 0]) (t := 52) ?hr ?_; (case hd => rfl); (case hg => rfl); (case hr => first | (go_simp; done) | (go_simp; rfl)); intro gb225 hg w9 hbox hb; have n0_ := Aside0.mk (Kd.qs1 (by (with_reducible repeat (first | apply Kd.qo0 | apply Kd.qn0 | apply Kd.qt0)); exact HO_3.out) hb); have n1_ := Aside0.mk (qk0 (by repeat (first | (with_reducible first | exact HB.out | apply qc0 | apply qa0 | apply qd0) | exact HB.out)) hb); have n2_ := Aside0.mk (hbox); have n3_ := Aside0.mk ((by rw [hg]; exact (qm0 (by repeat (first | (with_reducible first | exact HB.out | apply qc0 | apply qa0 | apply qd0) | exact HB.out))) : w.heap.size ≤ gb225)); have n4_ := Aside0.mk ((by rw [hg]; exact (qm0 (by repeat (first | (with_reducible first | exact HB.out | apply qc0 | apply qa0 | apply qd0) | exact HB.out))) : w.heap.size ≤ gb225)); clear HO_3; clear HB; have HO_3 := n0_; have HB := n1_; have BK225 := n2_; have GW225 := n3_; have GE225 := n4_; clear n0_ n1_ n2_ n3_ n4_; clear hb hbox hg; have hcz10_0 : w9.cell? ⟨gb225, 0, none⟩ = some (.string (⟨#[]⟩ : ByteArray)) := (qe0 BK225.out 0).trans rfl; have hcz10_1 : w9.cell? ⟨gb225, 1, none⟩ = some (.int .i64 0) := (qe0 BK225.out 1).trans rfl; have hcz10_2 : w9.cell? ⟨gb225, 2, none⟩ = some (.bool false) := (qe0 BK225.out 2).trans rfl; have hcz10_3 : w9.cell? ⟨gb225, 3, none⟩ = some (.slice none 0 0) := (qe0 BK225.out 3).trans rfl; have hcz10_4 : w9.cell? ⟨gb225, 4, none⟩ = some (.slice none 0 0) := (qe0 BK225.out 4).trans rfl; have hfz10_0 := qb0 BK225.out 0; have hfz10_1 := qb0 BK225.out 1; have hfz10_2 := qb0 BK225.out 2; have hfz10_3 := qb0 BK225.out 3; have hfz10_4 := qb0 BK225.out 4))
    go_loopg [21] k1 (fun kq v21 w' => ∃ (x3_2 : List Int) (x21_2 : Int), v21 = .int .i64 x21_2 ∧ Aside0 (impl_levels.l1 kq x3_2 x13_1 l0 (l0.length : Int) x13_1 ((rd_T52 l0 x13_1).f3) (((rd_T52 l0 x13_1).f3).length : Int) x21_2 = some r) ∧ Aside0 (kq ≤ k1) ∧ Aside0 (Kd.R (Kd.int .i64) 3 w' w.heap.size (fun _ => True) v222 x3_2) ∧ Aside0 (w'.heap[gb225]? = some (.cells #[.string ((rd_T52 l0 x13_1).f0), .int .i64 ((rd_T52 l0 x13_1).f1), .bool ((rd_T52 l0 x13_1).f2), (.slice A224_3 ((rd_T52 l0 x13_1).f3).length c224_3), (.slice A224_4 ((rd_T52 l0 x13_1).f4).length c224_4)] 52 (0, 0))) ∧ Aside0 (Below w.heap.size w w'))
    case atStart => exact ⟨(x3_1), (0), (by first | rfl | (simp; done) | (simp [*]; done)), H', ⟨Nat.le_refl _⟩, ⟨by (with_reducible repeat (first | apply Kd.qo0 | apply Kd.qn0 | apply Kd.qt0)); exact Kd.R_mono (Kd.R_far (p := ⟨gb225, 4, none⟩) (Kd.R_far (p := ⟨gb225, 3, none⟩) (Kd.R_far (p := ⟨gb225, 2, none⟩) (Kd.R_far (p := ⟨gb225, 1, none⟩) (Kd.R_far (p := ⟨gb225, 0, none⟩) (Kd.qx1 HO_3.out BK225.out (by decide)) (fun _ hk => hk.2) (.string ((rd_T52 l0 x13_1).f0))) (fun _ hk => hk.2) (.int .i64 ((rd_T52 l0 x13_1).f1))) (fun _ hk => hk.2) (.bool ((rd_T52 l0 x13_1).f2))) (fun _ hk => hk.2) (.slice A224_3 ((rd_T52 l0 x13_1).f3).length c224_3)) (fun _ hk => hk.2) (.slice A224_4 ((rd_T52 l0 x13_1).f4).length c224_4)) (fun _ hk => trivial)⟩, ⟨by (with_reducible repeat (first | refine qg0 ?_ _ | refine qh0 ?_ | refine qf0 ?_ _)); refine ql0 (cs := #[.string ((rd_T52 l0 x13_1).f0), .int .i64 ((rd_T52 l0 x13_1).f1), .bool ((rd_T52 l0 x13_1).f2), .slice A224_3 ((rd_T52 l0 x13_1).f3).length c224_3, .slice none 0 0]) ?_ 4 _ rfl; (with_reducible repeat (first | refine qg0 ?_ _ | refine qh0 ?_ | refine qf0 ?_ _)); refine ql0 (cs := #[.string ((rd_T52 l0 x13_1).f0), .int .i64 ((rd_T52 l0 x13_1).f1), .bool ((rd_T52 l0 x13_1).f2), .slice none 0 0, .slice none 0 0]) ?_ 3 _ rfl; (with_reducible repeat (first | refine qg0 ?_ _ | refine qh0 ?_ | refine qf0 ?_ _)); refine ql0 (cs := #[.string ((rd_T52 l0 x13_1).f0), .int .i64 ((rd_T52 l0 x13_1).f1), .bool false, .slice none 0 0, .slice none 0 0]) ?_ 2 _ rfl; (with_reducible repeat (first | refine qg0 ?_ _ | refine qh0 ?_ | refine qf0 ?_ _)); refine ql0 (cs := #[.string ((rd_T52 l0 x13_1).f0), .int .i64 0, .bool false, .slice none 0 0, .slice none 0 0]) ?_ 1 _ rfl; (with_reducible repeat (first | refine qg0 ?_ _ | refine qh0 ?_ | refine qf0 ?_ _)); refine ql0 (cs := #[.string (⟨#[]⟩ : ByteArray), .int .i64 0, .bool false, .slice none 0 0, .slice none 0 0]) ?_ 0 _ rfl; (with_reducible repeat (first | refine qg0 ?_ _ | refine qh0 ?_ | refine qf0 ?_ _)); exact BK225.out⟩, ⟨by repeat (first | (with_reducible first | exact HB.out | apply qc0 | apply qa0 | apply qd0 | refine qi0 ?_ GE225.out) | exact HB.out)⟩⟩
    case round =>
     clear H'
     try clear c2
     try clear c2b0
     try clear c2b1
     try clear p2
     try clear q2
     try clear hx2
     try clear c3
     try clear c3b0
     try clear c3b1
     try clear c6
     try clear c6b0
     try clear c7
     try clear c7b0
     try clear c8
     try clear c8b0
     try clear hcz10_0
     try clear hcz10_1
     try clear hcz10_2
     try clear hcz10_3
     try clear hcz10_4
     try clear hfz10_0
     try clear hfz10_1
     try clear hfz10_2
     try clear hfz10_3
     try clear hfz10_4
     try clear hx224_0
     try clear hx224_1
     try clear hx224_2
     try clear hx224_3
     try clear hx224_4
     try clear p2
     try clear p224
     try clear q224
     obtain ⟨x3_2, x21_2, rfl, HA, HK2, HO_3, BK225, HB⟩ := hrel
     cases gk with
     | zero => exact absurd HA.out (by simp [impl_levels.l1])
     | succ k2 =>
      have H := HA.out
      clear HA
      simp only [impl_levels.l1] at H
      by_cases c11 : x21_2 < (((rd_T52 l0 x13_1).f3).length : Int)
      ·rw [if_pos c11] at H
       have c11b0 : decide (x21_2 < (((rd_T52 l0 x13_1).f3).length : Int)) = true := decide_eq_true c11
       clear c11
       by_cases c12 : 0 ≤ x21_2
       case neg => rw [if_neg c12] at H; exact absurd H (by simp)
       rw [if_pos c12] at H
       have c12b0 : decide (0 ≤ x21_2) = true := decide_eq_true c12
       clear c12
       by_cases c13 : x21_2 < (((rd_T52 l0 x13_1).f3).length : Int)
       case neg => rw [if_neg c13] at H; exact absurd H (by simp)
       rw [if_pos c13] at H
       have c13b0 : decide (x21_2 < (((rd_T52 l0 x13_1).f3).length : Int)) = true := decide_eq_true c13
       clear c13
       by_cases c14 : 0 ≤ ((rd_T54 ((rd_T52 l0 x13_1).f3) x21_2).f0)
       case neg => rw [if_neg c14] at H; exact absurd H (by simp)
       rw [if_pos c14] at H
       have c14b0 : decide (0 ≤ ((rd_T54 ((rd_T52 l0 x13_1).f3) x21_2).f0)) = true := decide_eq_true c14
       clear c14
       by_cases c15 : ((rd_T54 ((rd_T52 l0 x13_1).f3) x21_2).f0) < (x3_2.length : Int)
       case neg => rw [if_neg c15] at H; exact absurd H (by simp)
       rw [if_pos c15] at H
       have c15b0 : decide (((rd_T54 ((rd_T52 l0 x13_1).f3) x21_2).f0) < (x3_2.length : Int)) = true := decide_eq_true c15
       clear c15
       by_cases c16 : 0 ≤ x13_1
       case neg => rw [if_neg c16] at H; exact absurd H (by simp)
       rw [if_pos c16] at H
       have c16b0 : decide (0 ≤ x13_1) = true := decide_eq_true c16
       clear c16
       by_cases c17 : x13_1 < (x3_2.length : Int)
       case neg => rw [if_neg c17] at H; exact absurd H (by simp)
       rw [if_pos c17] at H
       have c17b0 : decide (x13_1 < (x3_2.length : Int)) = true := decide_eq_true c17
       clear c17
       by_cases c18 : (rd x3_2 ((rd_T54 ((rd_T52 l0 x13_1).f3) x21_2).f0)) < (wrap64 ((rd x3_2 x13_1) + 1))
       ·rw [if_pos c18] at H
        have c18b0 : decide ((rd x3_2 ((rd_T54 ((rd_T52 l0 x13_1).f3) x21_2).f0)) < (wrap64 ((rd x3_2 x13_1) + 1))) = true := decide_eq_true c18
        clear c18
        obtain ⟨y231, hy231⟩ : ∃ y_ : List Int, y_ = (x3_2.set (((rd_T54 ((rd_T52 l0 x13_1).f3) x21_2).f0) : Int).toNat (wrap64 ((rd x3_2 x13_1) + 1))) := ⟨_, rfl⟩
        replace H : (impl_levels.l1 k2 y231 x13_1 l0 (l0.length : Int) x13_1 ((rd_T52 l0 x13_1).f3) (((rd_T52 l0 x13_1).f3).length : Int) (wrap64 (x21_2 + 1))) = some r := by first | (rw [hy231]; with_reducible exact H) | (have H2_ := (Option.bind_some _ _).symm.trans H; rw [hy231]; with_reducible exact H2_) | (have H2_ := (Option.bind_some _ _).symm.trans H; with_reducible exact H2_) | with_reducible exact H | (rw [hy231]; exact H) | exact H
        have Ny231 := Aside0.mk hy231
        clear hy231
        have H' := Aside0.mk H
        clear H
        have p226 : 0 ≤ (x21_2 : Int) := of_decide_eq_true (by first | (with_reducible assumption) | assumption)
        have q226 : x21_2 < (((rd_T52 l0 x13_1).f3).length : Int) := of_decide_eq_true (by first | (with_reducible assumption) | assumption)
        obtain ⟨ad226, e226, hx226_0, hx226_1, hx226_2, hx226_3, hx226_4, hx226_5⟩ := at_T54 HR224_3.out x21_2 p226 q226
        cases e226
        replace hx226_0 := (HB.out.cell (World.block_lt_of_cell? w _ hx226_0)).trans hx226_0
        replace hx226_1 := (HB.out.cell (World.block_lt_of_cell? w _ hx226_1)).trans hx226_1
        replace hx226_2 := (HB.out.cell (World.block_lt_of_cell? w _ hx226_2)).trans hx226_2
        replace hx226_3 := (HB.out.cell (World.block_lt_of_cell? w _ hx226_3)).trans hx226_3
        replace hx226_4 := (HB.out.cell (World.block_lt_of_cell? w _ hx226_4)).trans hx226_4
        replace hx226_5 := (HB.out.cell (World.block_lt_of_cell? w _ hx226_5)).trans hx226_5
        replace p226 := eq_true p226
        replace q226 := eq_true q226
        try go_wp2_with (first | ((with_reducible refine qz0 (N := 7) rfl ?_); refine qg1 ?hg (N := 7) ?hd (cs := #[.int .i64 0, .int .i64 0, .int .i64 0, .int .i64 0, .int .i64 0, .int .i64 0]) (t := 54) ?hr ?_; (case hd => rfl); (case hg => rfl); (case hr => first | (go_simp; done) | (go_simp; rfl)); intro gb227 hg w20 hbox hb; have n0_ := Aside0.mk (Kd.qs1 (by (with_reducible repeat (first | apply Kd.qo0 | apply Kd.qn0 | apply Kd.qt0)); exact HO_3.out) hb); have n1_ := Aside0.mk (qh1 (g := gb225) (o := .cells #[.string ((rd_T52 l0 x13_1).f0), .int .i64 ((rd_T52 l0 x13_1).f1), .bool ((rd_T52 l0 x13_1).f2), .slice (some ad226) ((rd_T52 l0 x13_1).f3).length c224_3, .slice A224_4 ((rd_T52 l0 x13_1).f4).length c224_4] 52 (0, 0)) (by (with_reducible repeat (first | refine qg0 ?_ _ | refine qh0 ?_ | refine qf0 ?_ _)); exact BK225.out) hb); have n2_ := Aside0.mk (qk0 (by repeat (first | (with_reducible first | exact HB.out | apply qc0 | apply qa0 | apply qd0 | refine qi0 ?_ GE225.out) | exact HB.out)) hb); have n3_ := Aside0.mk (hbox); have n4_ := Aside0.mk ((by rw [hg]; exact (qm0 (by repeat (first | (with_reducible first | exact HB.out | apply qc0 | apply qa0 | apply qd0 | refine qi0 ?_ GE225.out) | exact HB.out))) : w.heap.size ≤ gb227)); have n5_ := Aside0.mk ((by rw [hg]; exact (qm0 (by repeat (first | (with_reducible first | exact HB.out | apply qc0 | apply qa0 | apply qd0 | refine qi0 ?_ GE225.out) | exact HB.out))) : w.heap.size ≤ gb227)); have n6_ := Aside0.mk ((by rw [hg]; exact Nat.ne_of_lt (qz1 (g := gb225) (o := .cells #[.string ((rd_T52 l0 x13_1).f0), .int .i64 ((rd_T52 l0 x13_1).f1), .bool ((rd_T52 l0 x13_1).f2), .slice (some ad226) ((rd_T52 l0 x13_1).f3).length c224_3, .slice A224_4 ((rd_T52 l0 x13_1).f4).length c224_4] 52 (0, 0)) (by (with_reducible repeat (first | refine qg0 ?_ _ | refine qh0 ?_ | refine qf0 ?_ _)); exact BK225.out)) : gb225 ≠ gb227)); have n7_ := Aside0.mk ((by rw [hg]; exact Nat.ne_of_gt (qz1 (g := gb225) (o := .cells #[.string ((rd_T52 l0 x13_1).f0), .int .i64 ((rd_T52 l0 x13_1).f1), .bool ((rd_T52 l0 x13_1).f2), .slice (some ad226) ((rd_T52 l0 x13_1).f3).length c224_3, .slice A224_4 ((rd_T52 l0 x13_1).f4).length c224_4] 52 (0, 0)) (by (with_reducible repeat (first | refine qg0 ?_ _ | refine qh0 ?_ | refine qf0 ?_ _)); exact BK225.out)) : gb227 ≠ gb225)); clear HO_3; clear BK225; clear HB; have HO_3 := n0_; have BK225 := n1_; have HB := n2_; have BK227 := n3_; have GW227 := n4_; have GE227 := n5_; have NB225_227 := n6_; have NB227_225 := n7_; clear n0_ n1_ n2_ n3_ n4_ n5_ n6_ n7_; clear hb hbox hg; have hnb21 := NB227_225.out; have hnc21 := NB225_227.out; have hcz22_0 : w20.cell? ⟨gb227, 0, none⟩ = some (.int .i64 0) := (qe0 BK227.out 0).trans rfl; have hcz22_1 : w20.cell? ⟨gb227, 1, none⟩ = some (.int .i64 0) := (qe0 BK227.out 1).trans rfl; have hcz22_2 : w20.cell? ⟨gb227, 2, none⟩ = some (.int .i64 0) := (qe0 BK227.out 2).trans rfl; have hcz22_3 : w20.cell? ⟨gb227, 3, none⟩ = some (.int .i64 0) := (qe0 BK227.out 3).trans rfl; have hcz22_4 : w20.cell? ⟨gb227, 4, none⟩ = some (.int .i64 0) := (qe0 BK227.out 4).trans rfl; have hcz22_5 : w20.cell? ⟨gb227, 5, none⟩ = some (.int .i64 0) := (qe0 BK227.out 5).trans rfl; have hfz22_0 := qb0 BK227.out 0; have hfz22_1 := qb0 BK227.out 1; have hfz22_2 := qb0 BK227.out 2; have hfz22_3 := qb0 BK227.out 3; have hfz22_4 := qb0 BK227.out 4; have hfz22_5 := qb0 BK227.out 5))
        have n0_ : Aside0 (Kd.R (Kd.int .i64) 3 ((((((w20.setCell ⟨gb227, 0, none⟩ (.int .i64 ((rd_T54 ((rd_T52 l0 x13_1).f3) x21_2).f0))).setCell ⟨gb227, 1, none⟩ (.int .i64 ((rd_T54 ((rd_T52 l0 x13_1).f3) x21_2).f1))).setCell ⟨gb227, 2, none⟩ (.int .i64 ((rd_T54 ((rd_T52 l0 x13_1).f3) x21_2).f2))).setCell ⟨gb227, 3, none⟩ (.int .i64 ((rd_T54 ((rd_T52 l0 x13_1).f3) x21_2).f3))).setCell ⟨gb227, 4, none⟩ (.int .i64 ((rd_T54 ((rd_T52 l0 x13_1).f3) x21_2).f4))).setCell ⟨gb227, 5, none⟩ (.int .i64 ((rd_T54 ((rd_T52 l0 x13_1).f3) x21_2).f5))) w.heap.size (fun _ => True) v222 x3_2) := ⟨by (with_reducible repeat (first | apply Kd.qo0 | apply Kd.qn0 | apply Kd.qt0)); exact Kd.R_mono (Kd.R_far (p := ⟨gb227, 5, none⟩) (Kd.R_far (p := ⟨gb227, 4, none⟩) (Kd.R_far (p := ⟨gb227, 3, none⟩) (Kd.R_far (p := ⟨gb227, 2, none⟩) (Kd.R_far (p := ⟨gb227, 1, none⟩) (Kd.R_far (p := ⟨gb227, 0, none⟩) (Kd.qx1 HO_3.out BK227.out (by decide)) (fun _ hk => hk.2) (.int .i64 ((rd_T54 ((rd_T52 l0 x13_1).f3) x21_2).f0))) (fun _ hk => hk.2) (.int .i64 ((rd_T54 ((rd_T52 l0 x13_1).f3) x21_2).f1))) (fun _ hk => hk.2) (.int .i64 ((rd_T54 ((rd_T52 l0 x13_1).f3) x21_2).f2))) (fun _ hk => hk.2) (.int .i64 ((rd_T54 ((rd_T52 l0 x13_1).f3) x21_2).f3))) (fun _ hk => hk.2) (.int .i64 ((rd_T54 ((rd_T52 l0 x13_1).f3) x21_2).f4))) (fun _ hk => hk.2) (.int .i64 ((rd_T54 ((rd_T52 l0 x13_1).f3) x21_2).f5))) (fun _ hk => trivial)⟩
        have n1_ : Aside0 (((((((w20.setCell ⟨gb227, 0, none⟩ (.int .i64 ((rd_T54 ((rd_T52 l0 x13_1).f3) x21_2).f0))).setCell ⟨gb227, 1, none⟩ (.int .i64 ((rd_T54 ((rd_T52 l0 x13_1).f3) x21_2).f1))).setCell ⟨gb227, 2, none⟩ (.int .i64 ((rd_T54 ((rd_T52 l0 x13_1).f3) x21_2).f2))).setCell ⟨gb227, 3, none⟩ (.int .i64 ((rd_T54 ((rd_T52 l0 x13_1).f3) x21_2).f3))).setCell ⟨gb227, 4, none⟩ (.int .i64 ((rd_T54 ((rd_T52 l0 x13_1).f3) x21_2).f4))).setCell ⟨gb227, 5, none⟩ (.int .i64 ((rd_T54 ((rd_T52 l0 x13_1).f3) x21_2).f5))).heap[gb225]? = some (.cells #[.string ((rd_T52 l0 x13_1).f0), .int .i64 ((rd_T52 l0 x13_1).f1), .bool ((rd_T52 l0 x13_1).f2), .slice (some ad226) ((rd_T52 l0 x13_1).f3).length c224_3, .slice A224_4 ((rd_T52 l0 x13_1).f4).length c224_4] 52 (0, 0))) := ⟨by (with_reducible repeat (first | refine qg0 ?_ _ | refine qh0 ?_ | refine qf0 ?_ _)); refine qe1 ?_ NB225_227.out _; (with_reducible repeat (first | refine qg0 ?_ _ | refine qh0 ?_ | refine qf0 ?_ _)); refine qe1 ?_ NB225_227.out _; (with_reducible repeat (first | refine qg0 ?_ _ | refine qh0 ?_ | refine qf0 ?_ _)); refine qe1 ?_ NB225_227.out _; (with_reducible repeat (first | refine qg0 ?_ _ | refine qh0 ?_ | refine qf0 ?_ _)); refine qe1 ?_ NB225_227.out _; (with_reducible repeat (first | refine qg0 ?_ _ | refine qh0 ?_ | refine qf0 ?_ _)); refine qe1 ?_ NB225_227.out _; (with_reducible repeat (first | refine qg0 ?_ _ | refine qh0 ?_ | refine qf0 ?_ _)); refine qe1 ?_ NB225_227.out _; (with_reducible repeat (first | refine qg0 ?_ _ | refine qh0 ?_ | refine qf0 ?_ _)); exact BK225.out⟩
        have n2_ : Aside0 (((((((w20.setCell ⟨gb227, 0, none⟩ (.int .i64 ((rd_T54 ((rd_T52 l0 x13_1).f3) x21_2).f0))).setCell ⟨gb227, 1, none⟩ (.int .i64 ((rd_T54 ((rd_T52 l0 x13_1).f3) x21_2).f1))).setCell ⟨gb227, 2, none⟩ (.int .i64 ((rd_T54 ((rd_T52 l0 x13_1).f3) x21_2).f2))).setCell ⟨gb227, 3, none⟩ (.int .i64 ((rd_T54 ((rd_T52 l0 x13_1).f3) x21_2).f3))).setCell ⟨gb227, 4, none⟩ (.int .i64 ((rd_T54 ((rd_T52 l0 x13_1).f3) x21_2).f4))).setCell ⟨gb227, 5, none⟩ (.int .i64 ((rd_T54 ((rd_T52 l0 x13_1).f3) x21_2).f5))).heap[gb227]? = some (.cells #[.int .i64 ((rd_T54 ((rd_T52 l0 x13_1).f3) x21_2).f0), .int .i64 ((rd_T54 ((rd_T52 l0 x13_1).f3) x21_2).f1), .int .i64 ((rd_T54 ((rd_T52 l0 x13_1).f3) x21_2).f2), .int .i64 ((rd_T54 ((rd_T52 l0 x13_1).f3) x21_2).f3), .int .i64 ((rd_T54 ((rd_T52 l0 x13_1).f3) x21_2).f4), .int .i64 ((rd_T54 ((rd_T52 l0 x13_1).f3) x21_2).f5)] 54 (0, 0))) := ⟨by (with_reducible repeat (first | refine qg0 ?_ _ | refine qh0 ?_ | refine qf0 ?_ _)); refine ql0 (cs := #[.int .i64 ((rd_T54 ((rd_T52 l0 x13_1).f3) x21_2).f0), .int .i64 ((rd_T54 ((rd_T52 l0 x13_1).f3) x21_2).f1), .int .i64 ((rd_T54 ((rd_T52 l0 x13_1).f3) x21_2).f2), .int .i64 ((rd_T54 ((rd_T52 l0 x13_1).f3) x21_2).f3), .int .i64 ((rd_T54 ((rd_T52 l0 x13_1).f3) x21_2).f4), .int .i64 0]) ?_ 5 _ rfl; (with_reducible repeat (first | refine qg0 ?_ _ | refine qh0 ?_ | refine qf0 ?_ _)); refine ql0 (cs := #[.int .i64 ((rd_T54 ((rd_T52 l0 x13_1).f3) x21_2).f0), .int .i64 ((rd_T54 ((rd_T52 l0 x13_1).f3) x21_2).f1), .int .i64 ((rd_T54 ((rd_T52 l0 x13_1).f3) x21_2).f2), .int .i64 ((rd_T54 ((rd_T52 l0 x13_1).f3) x21_2).f3), .int .i64 0, .int .i64 0]) ?_ 4 _ rfl; (with_reducible repeat (first | refine qg0 ?_ _ | refine qh0 ?_ | refine qf0 ?_ _)); refine ql0 (cs := #[.int .i64 ((rd_T54 ((rd_T52 l0 x13_1).f3) x21_2).f0), .int .i64 ((rd_T54 ((rd_T52 l0 x13_1).f3) x21_2).f1), .int .i64 ((rd_T54 ((rd_T52 l0 x13_1).f3) x21_2).f2), .int .i64 0, .int .i64 0, .int .i64 0]) ?_ 3 _ rfl; (with_reducible repeat (first | refine qg0 ?_ _ | refine qh0 ?_ | refine qf0 ?_ _)); refine ql0 (cs := #[.int .i64 ((rd_T54 ((rd_T52 l0 x13_1).f3) x21_2).f0), .int .i64 ((rd_T54 ((rd_T52 l0 x13_1).f3) x21_2).f1), .int .i64 0, .int .i64 0, .int .i64 0, .int .i64 0]) ?_ 2 _ rfl; (with_reducible repeat (first | refine qg0 ?_ _ | refine qh0 ?_ | refine qf0 ?_ _)); refine ql0 (cs := #[.int .i64 ((rd_T54 ((rd_T52 l0 x13_1).f3) x21_2).f0), .int .i64 0, .int .i64 0, .int .i64 0, .int .i64 0, .int .i64 0]) ?_ 1 _ rfl; (with_reducible repeat (first | refine qg0 ?_ _ | refine qh0 ?_ | refine qf0 ?_ _)); refine ql0 (cs := #[.int .i64 0, .int .i64 0, .int .i64 0, .int .i64 0, .int .i64 0, .int .i64 0]) ?_ 0 _ rfl; (with_reducible repeat (first | refine qg0 ?_ _ | refine qh0 ?_ | refine qf0 ?_ _)); exact BK227.out⟩
        have n3_ : Aside0 (Below w.heap.size w ((((((w20.setCell ⟨gb227, 0, none⟩ (.int .i64 ((rd_T54 ((rd_T52 l0 x13_1).f3) x21_2).f0))).setCell ⟨gb227, 1, none⟩ (.int .i64 ((rd_T54 ((rd_T52 l0 x13_1).f3) x21_2).f1))).setCell ⟨gb227, 2, none⟩ (.int .i64 ((rd_T54 ((rd_T52 l0 x13_1).f3) x21_2).f2))).setCell ⟨gb227, 3, none⟩ (.int .i64 ((rd_T54 ((rd_T52 l0 x13_1).f3) x21_2).f3))).setCell ⟨gb227, 4, none⟩ (.int .i64 ((rd_T54 ((rd_T52 l0 x13_1).f3) x21_2).f4))).setCell ⟨gb227, 5, none⟩ (.int .i64 ((rd_T54 ((rd_T52 l0 x13_1).f3) x21_2).f5)))) := ⟨by repeat (first | (with_reducible first | exact HB.out | apply qc0 | apply qa0 | apply qd0 | refine qi0 ?_ GE225.out | refine qi0 ?_ GE227.out) | exact HB.out)⟩
        (try clear HO_3)
        (try clear BK225)
        (try clear BK227)
        (try clear HB)
        generalize ((((((w20.setCell ⟨gb227, 0, none⟩ (.int .i64 ((rd_T54 ((rd_T52 l0 x13_1).f3) x21_2).f0))).setCell ⟨gb227, 1, none⟩ (.int .i64 ((rd_T54 ((rd_T52 l0 x13_1).f3) x21_2).f1))).setCell ⟨gb227, 2, none⟩ (.int .i64 ((rd_T54 ((rd_T52 l0 x13_1).f3) x21_2).f2))).setCell ⟨gb227, 3, none⟩ (.int .i64 ((rd_T54 ((rd_T52 l0 x13_1).f3) x21_2).f3))).setCell ⟨gb227, 4, none⟩ (.int .i64 ((rd_T54 ((rd_T52 l0 x13_1).f3) x21_2).f4))).setCell ⟨gb227, 5, none⟩ (.int .i64 ((rd_T54 ((rd_T52 l0 x13_1).f3) x21_2).f5))) = w23 at n0_ n1_ n2_ n3_ ⊢
        have HO_3 := n0_
        have BK225 := n1_
        have BK227 := n2_
        have HB := n3_
        clear n0_ n1_ n2_ n3_
        have n0_ := Aside0.mk (Kd.qt0 HO_3.out)
        have n1_ := Aside0.mk (qh0 BK225.out)
        have n2_ := Aside0.mk (qh0 BK227.out)
        have n3_ := Aside0.mk (qd0 HB.out)
        clear HO_3
        clear BK225
        clear BK227
        clear HB
        have HO_3 := n0_
        have BK225 := n1_
        have BK227 := n2_
        have HB := n3_
        clear n0_ n1_ n2_ n3_
        obtain ⟨Ao25, co25, eo25⟩ := Kd.qm1 HO_3.out
        (first | subst eo25 | (injection eo25 with f1_ f2_ f3_; have f4_ := f1_.symm; have f5_ := f3_.symm; clear f1_ f2_ f3_; subst f4_; subst f5_))
        have p228 : 0 ≤ (((rd_T54 ((rd_T52 l0 x13_1).f3) x21_2).f0) : Int) := of_decide_eq_true (by first | (with_reducible assumption) | assumption)
        have q228 : ((rd_T54 ((rd_T52 l0 x13_1).f3) x21_2).f0) < (x3_2.length : Int) := of_decide_eq_true (by first | (with_reducible assumption) | assumption)
        obtain ⟨ad228, e228, hx228_0⟩ := Kd.qq1 (Kd.qv0 HO_3.out).2.2 ((rd_T54 ((rd_T52 l0 x13_1).f3) x21_2).f0) p228 q228
        cases e228
        replace p228 := eq_true p228
        replace q228 := eq_true q228
        have p229 : 0 ≤ (x13_1 : Int) := of_decide_eq_true (by first | (with_reducible assumption) | assumption)
        have q229 : x13_1 < (x3_2.length : Int) := of_decide_eq_true (by first | (with_reducible assumption) | assumption)
        obtain ⟨ad229, e229, hx229_0⟩ := Kd.qq1 (Kd.qv0 HO_3.out).2.2 x13_1 p229 q229
        obtain rfl : ad228 = ad229 := (by injection e229)
        replace p229 := eq_true p229
        replace q229 := eq_true q229
        refine start_ (n := 11) (S := fun w' => w'.cell? ⟨gb227, 0, none⟩ = some (.int .i64 ((rd_T54 ((rd_T52 l0 x13_1).f3) x21_2).f0)) ∧ w'.cell? ⟨gb227, 1, none⟩ = some (.int .i64 ((rd_T54 ((rd_T52 l0 x13_1).f3) x21_2).f1)) ∧ w'.cell? ⟨gb227, 2, none⟩ = some (.int .i64 ((rd_T54 ((rd_T52 l0 x13_1).f3) x21_2).f2)) ∧ w'.cell? ⟨gb227, 3, none⟩ = some (.int .i64 ((rd_T54 ((rd_T52 l0 x13_1).f3) x21_2).f3)) ∧ w'.cell? ⟨gb227, 4, none⟩ = some (.int .i64 ((rd_T54 ((rd_T52 l0 x13_1).f3) x21_2).f4)) ∧ w'.cell? ⟨gb227, 5, none⟩ = some (.int .i64 ((rd_T54 ((rd_T52 l0 x13_1).f3) x21_2).f5)) ∧ w'.cell? (ad228.add (((rd_T54 ((rd_T52 l0 x13_1).f3) x21_2).f0)).toNat) = some (.int .i64 (rd x3_2 ((rd_T54 ((rd_T52 l0 x13_1).f3) x21_2).f0))) ∧ w'.cell? (ad228.add (x13_1).toNat) = some (.int .i64 (rd x3_2 x13_1))) (ds := []) #[false, false, false, false, false, false, false, false, false, false, false] (by kernel_rfl) rfl rfl ⟨(qe0 BK227.out 0).trans rfl, (qe0 BK227.out 1).trans rfl, (qe0 BK227.out 2).trans rfl, (qe0 BK227.out 3).trans rfl, (qe0 BK227.out 4).trans rfl, (qe0 BK227.out 5).trans rfl, hx228_0, hx229_0⟩ (fun hHeld => ?_); refine with_tabW impl_levels.tab8 impl_levels.bits8 (fun HT_ HW_ => ?_)
        generalize w23.drew = w24 at HO_3 BK225 BK227 HB hx228_0 hx229_0 hHeld ⊢
        refine pure_ (i := 0) (N := some 25) (v := ?_) (a' := ?_) #[true, false, false, false, false, false, false, false, false, false, false] rfl rfl (qf1 HT_.out (by kernel_rfl)) (fun _ _ _ h => h) (Or.inl ⟨by rfl, ?_⟩) ?_ ?_
        rotate_left
        ·intro w'
         go_simp
         with_reducible rfl
        rotate_left
        ·simp only [Act.put, List.setIfInBounds_toArray, List.set_cons_zero, List.set_cons_succ, i64_w, i32_w]
         rfl
        refine pure_ (i := 1) (N := some 26) (v := ?_) (a' := ?_) #[true, true, false, false, false, false, false, false, false, false, false] rfl rfl (qf1 HT_.out (by kernel_rfl)) (fun _ _ _ h => h) (Or.inl ⟨by rfl, ?_⟩) ?_ ?_
        rotate_left
        ·intro w'
         go_simp
         with_reducible rfl
        rotate_left
        ·simp only [Act.put, List.setIfInBounds_toArray, List.set_cons_zero, List.set_cons_succ, i64_w, i32_w]
         rfl
        refine pure_ (i := 5) (N := some 30) (v := ?_) (a' := ?_) #[true, true, false, false, false, true, false, false, false, false, false] rfl rfl (qf1 HT_.out (by kernel_rfl)) (fun _ _ _ h => h) (Or.inl ⟨by rfl, ?_⟩) ?_ ?_
        rotate_left
        ·intro w'
         go_simp
         with_reducible rfl
        rotate_left
        ·simp only [Act.put, List.setIfInBounds_toArray, List.set_cons_zero, List.set_cons_succ, i64_w, i32_w]
         rfl
        refine pure_ (i := 6) (N := some 31) (v := ?_) (a' := ?_) #[true, true, false, false, false, true, true, false, false, false, false] rfl rfl (qf1 HT_.out (by kernel_rfl)) (fun _ _ _ h => h) (Or.inl ⟨by rfl, ?_⟩) ?_ ?_
        rotate_left
        ·intro w'
         go_simp
         with_reducible rfl
        rotate_left
        ·simp only [Act.put, List.setIfInBounds_toArray, List.set_cons_zero, List.set_cons_succ, i64_w, i32_w]
         rfl
        refine pure_ (i := 7) (N := some 32) (v := ?_) (a' := ?_) #[true, true, false, false, false, true, true, true, false, false, false] rfl rfl (qf1 HT_.out (by kernel_rfl)) (fun _ _ _ h => h) (Or.inl ⟨by rfl, ?_⟩) ?_ ?_
        rotate_left
        ·intro w'
         go_simp
         with_reducible rfl
        rotate_left
        ·simp only [Act.put, List.setIfInBounds_toArray, List.set_cons_zero, List.set_cons_succ, i64_w, i32_w]
         rfl
        refine take_ (i := 2) (N := some 27) (v := ?_) (a' := ?_) #[true, true, true, false, false, true, true, true, false, false, false] rfl rfl (take_ofW HT_.out HW_.out (by kernel_rfl)) (fun _ _ _ h => h) (Or.inl ⟨by rfl, ?_⟩) hHeld ?_ ?_
        rotate_left
        ·rintro w' ⟨s0, s1, s2, s3, s4, s5, s6, s7⟩
         go_simp
         with_reducible rfl
        rotate_left
        ·simp only [Act.put, List.setIfInBounds_toArray, List.set_cons_zero, List.set_cons_succ, i64_w, i32_w]
         rfl
        refine pure_ (i := 3) (N := some 28) (v := ?_) (a' := ?_) #[true, true, true, true, false, true, true, true, false, false, false] rfl rfl (qf1 HT_.out (by kernel_rfl)) (fun _ _ _ h => h) (Or.inl ⟨by rfl, ?_⟩) ?_ ?_
        rotate_left
        ·intro w'
         go_simp
         with_reducible rfl
        rotate_left
        ·simp only [Act.put, List.setIfInBounds_toArray, List.set_cons_zero, List.set_cons_succ, i64_w, i32_w]
         rfl
        refine take_ (i := 4) (N := some 29) (v := ?_) (a' := ?_) #[true, true, true, true, true, true, true, true, false, false, false] rfl rfl (take_ofW HT_.out HW_.out (by kernel_rfl)) (fun _ _ _ h => h) (Or.inl ⟨by rfl, ?_⟩) hHeld ?_ ?_
        rotate_left
        ·rintro w' ⟨s0, s1, s2, s3, s4, s5, s6, s7⟩
         go_simp
         with_reducible rfl
        rotate_left
        ·simp only [Act.put, List.setIfInBounds_toArray, List.set_cons_zero, List.set_cons_succ, i64_w, i32_w]
         rfl
        refine take_ (i := 8) (N := some 33) (v := ?_) (a' := ?_) #[true, true, true, true, true, true, true, true, true, false, false] rfl rfl (take_ofW HT_.out HW_.out (by kernel_rfl)) (fun _ _ _ h => h) (Or.inl ⟨by rfl, ?_⟩) hHeld ?_ ?_
        rotate_left
        ·rintro w' ⟨s0, s1, s2, s3, s4, s5, s6, s7⟩
         go_simp
         with_reducible rfl
        rotate_left
        ·simp only [Act.put, List.setIfInBounds_toArray, List.set_cons_zero, List.set_cons_succ, i64_w, i32_w]
         rfl
        refine pure_ (i := 9) (N := some 34) (v := ?_) (a' := ?_) #[true, true, true, true, true, true, true, true, true, true, false] rfl rfl (qf1 HT_.out (by kernel_rfl)) (fun _ _ _ h => h) (Or.inl ⟨by rfl, ?_⟩) ?_ ?_
        rotate_left
        ·intro w'
         go_simp
         with_reducible rfl
        rotate_left
        ·simp only [Act.put, List.setIfInBounds_toArray, List.set_cons_zero, List.set_cons_succ, i64_w, i32_w]
         rfl
        refine pure_ (i := 10) (N := some 35) (v := ?_) (a' := ?_) #[true, true, true, true, true, true, true, true, true, true, true] rfl rfl (qf1 HT_.out (by kernel_rfl)) (fun _ _ _ h => h) (Or.inl ⟨by rfl, ?_⟩) ?_ ?_
        rotate_left
        ·intro w'
         go_simp
         with_reducible rfl
        rotate_left
        ·simp only [Act.put, List.setIfInBounds_toArray, List.set_cons_zero, List.set_cons_succ, i64_w, i32_w]
         rfl
        refine done_ (done_of HT_.out (by kernel_rfl)) ?_
        try go_wp2
        have n0_ := Aside0.mk (Kd.qt0 HO_3.out)
        have n1_ := Aside0.mk (qh0 BK225.out)
        have n2_ := Aside0.mk (qh0 BK227.out)
        have n3_ := Aside0.mk (qd0 HB.out)
        clear HO_3
        clear BK225
        clear BK227
        clear HB
        have HO_3 := n0_
        have BK225 := n1_
        have BK227 := n2_
        have HB := n3_
        clear n0_ n1_ n2_ n3_
        have p230 : 0 ≤ (x13_1 : Int) := of_decide_eq_true (by first | (with_reducible assumption) | assumption)
        have q230 : x13_1 < (x3_2.length : Int) := of_decide_eq_true (by first | (with_reducible assumption) | assumption)
        obtain ⟨ad230, e230, hx230_0⟩ := Kd.qq1 (Kd.qv0 HO_3.out).2.2 x13_1 p230 q230
        obtain rfl : ad228 = ad230 := (by injection e230)
        replace p230 := eq_true p230
        replace q230 := eq_true q230
        have p19 : 0 ≤ (((rd_T54 ((rd_T52 l0 x13_1).f3) x21_2).f0) : Int) := of_decide_eq_true (by first | (with_reducible assumption) | assumption)
        have q19 : (((rd_T54 ((rd_T52 l0 x13_1).f3) x21_2).f0) : Int) < ((x3_2.length : Int) : Int) := of_decide_eq_true (by first | (with_reducible assumption) | assumption)
        obtain ⟨go19, co19, eo19, gb19, gl19, cl19, HG19⟩ := Kd.R_form HO_3.out (by omega)
        (first | cases eo19 | (injection eo19 with ea_ en_ ec_; (first | subst ea_ | (injection ea_ with ea_; subst ea_)); subst ec_; clear en_))
        have GB19 := Aside0.mk gb19
        have GG19 := Aside0.mk HG19
        clear gb19 gl19 HG19
        (first | simp only [add_plain] at hx228_0 | skip)
        (first | simp only [add_plain] at hx229_0 | skip)
        (first | simp only [add_plain] at hx230_0 | skip)
        obtain ⟨hx19_0, hf19_0⟩ := Kd.qv1 0 HO_3.out (((rd_T54 ((rd_T52 l0 x13_1).f3) x21_2).f0) : Int) p19 q19
        replace p19 := eq_true p19
        replace q19 := eq_true q19
        have HP27 := Kd.R_putn HO_3.out (((rd_T54 ((rd_T52 l0 x13_1).f3) x21_2).f0) : Int) (wrap64 ((rd x3_2 x13_1) + 1))
        rw [← Ny231.out] at HP27
        have HQ27 := Aside0.mk HP27
        clear HP27
        refine start_ (n := 10) (S := fun w' => w'.cell? ⟨gb227, 0, none⟩ = some (.int .i64 ((rd_T54 ((rd_T52 l0 x13_1).f3) x21_2).f0)) ∧ w'.cell? ⟨gb227, 1, none⟩ = some (.int .i64 ((rd_T54 ((rd_T52 l0 x13_1).f3) x21_2).f1)) ∧ w'.cell? ⟨gb227, 2, none⟩ = some (.int .i64 ((rd_T54 ((rd_T52 l0 x13_1).f3) x21_2).f2)) ∧ w'.cell? ⟨gb227, 3, none⟩ = some (.int .i64 ((rd_T54 ((rd_T52 l0 x13_1).f3) x21_2).f3)) ∧ w'.cell? ⟨gb227, 4, none⟩ = some (.int .i64 ((rd_T54 ((rd_T52 l0 x13_1).f3) x21_2).f4)) ∧ w'.cell? ⟨gb227, 5, none⟩ = some (.int .i64 ((rd_T54 ((rd_T52 l0 x13_1).f3) x21_2).f5)) ∧ w'.cell? ⟨go19, (x13_1).toNat, none⟩ = some (.int .i64 (rd x3_2 x13_1))) (ds := [9]) #[false, false, false, false, false, false, false, false, false, false] (by kernel_rfl) rfl rfl ⟨(qe0 BK227.out 0).trans rfl, (qe0 BK227.out 1).trans rfl, (qe0 BK227.out 2).trans rfl, (qe0 BK227.out 3).trans rfl, (qe0 BK227.out 4).trans rfl, (qe0 BK227.out 5).trans rfl, hx230_0⟩ (fun hHeld => ?_); refine with_tabW impl_levels.tab9 impl_levels.bits9 (fun HT_ HW_ => ?_)
        generalize w24.drew = w26 at HO_3 BK225 BK227 HB GG19 HQ27 hf19_0 hx19_0 hx228_0 hx229_0 hx230_0 hHeld ⊢
        refine pure_ (i := 0) (N := some 36) (v := ?_) (a' := ?_) #[true, false, false, false, false, false, false, false, false, false] rfl rfl (qf1 HT_.out (by kernel_rfl)) (fun _ _ _ h => h) (Or.inl ⟨by rfl, ?_⟩) ?_ ?_
        rotate_left
        ·intro w'
         go_simp
         with_reducible rfl
        rotate_left
        ·simp only [Act.put, List.setIfInBounds_toArray, List.set_cons_zero, List.set_cons_succ, i64_w, i32_w]
         rfl
        refine pure_ (i := 1) (N := some 37) (v := ?_) (a' := ?_) #[true, true, false, false, false, false, false, false, false, false] rfl rfl (qf1 HT_.out (by kernel_rfl)) (fun _ _ _ h => h) (Or.inl ⟨by rfl, ?_⟩) ?_ ?_
        rotate_left
        ·intro w'
         go_simp
         with_reducible rfl
        rotate_left
        ·simp only [Act.put, List.setIfInBounds_toArray, List.set_cons_zero, List.set_cons_succ, i64_w, i32_w]
         rfl
        refine pure_ (i := 3) (N := some 39) (v := ?_) (a' := ?_) #[true, true, false, true, false, false, false, false, false, false] rfl rfl (qf1 HT_.out (by kernel_rfl)) (fun _ _ _ h => h) (Or.inl ⟨by rfl, ?_⟩) ?_ ?_
        rotate_left
        ·intro w'
         go_simp
         with_reducible rfl
        rotate_left
        ·simp only [Act.put, List.setIfInBounds_toArray, List.set_cons_zero, List.set_cons_succ, i64_w, i32_w]
         rfl
        refine pure_ (i := 4) (N := some 40) (v := ?_) (a' := ?_) #[true, true, false, true, true, false, false, false, false, false] rfl rfl (qf1 HT_.out (by kernel_rfl)) (fun _ _ _ h => h) (Or.inl ⟨by rfl, ?_⟩) ?_ ?_
        rotate_left
        ·intro w'
         go_simp
         with_reducible rfl
        rotate_left
        ·simp only [Act.put, List.setIfInBounds_toArray, List.set_cons_zero, List.set_cons_succ, i64_w, i32_w]
         rfl
        refine pure_ (i := 5) (N := some 41) (v := ?_) (a' := ?_) #[true, true, false, true, true, true, false, false, false, false] rfl rfl (qf1 HT_.out (by kernel_rfl)) (fun _ _ _ h => h) (Or.inl ⟨by rfl, ?_⟩) ?_ ?_
        rotate_left
        ·intro w'
         go_simp
         with_reducible rfl
        rotate_left
        ·simp only [Act.put, List.setIfInBounds_toArray, List.set_cons_zero, List.set_cons_succ, i64_w, i32_w]
         rfl
        refine take_ (i := 2) (N := some 38) (v := ?_) (a' := ?_) #[true, true, true, true, true, true, false, false, false, false] rfl rfl (take_ofW HT_.out HW_.out (by kernel_rfl)) (fun _ _ _ h => h) (Or.inl ⟨by rfl, ?_⟩) hHeld ?_ ?_
        rotate_left
        ·rintro w' ⟨s0, s1, s2, s3, s4, s5, s6⟩
         go_simp
         with_reducible rfl
        rotate_left
        ·simp only [Act.put, List.setIfInBounds_toArray, List.set_cons_zero, List.set_cons_succ, i64_w, i32_w]
         rfl
        refine take_ (i := 6) (N := some 42) (v := ?_) (a' := ?_) #[true, true, true, true, true, true, true, false, false, false] rfl rfl (take_ofW HT_.out HW_.out (by kernel_rfl)) (fun _ _ _ h => h) (Or.inl ⟨by rfl, ?_⟩) hHeld ?_ ?_
        rotate_left
        ·rintro w' ⟨s0, s1, s2, s3, s4, s5, s6⟩
         go_simp
         with_reducible rfl
        rotate_left
        ·simp only [Act.put, List.setIfInBounds_toArray, List.set_cons_zero, List.set_cons_succ, i64_w, i32_w]
         rfl
        refine pure_ (i := 7) (N := some 43) (v := ?_) (a' := ?_) #[true, true, true, true, true, true, true, true, false, false] rfl rfl (qf1 HT_.out (by kernel_rfl)) (fun _ _ _ h => h) (Or.inl ⟨by rfl, ?_⟩) ?_ ?_
        rotate_left
        ·intro w'
         go_simp
         with_reducible rfl
        rotate_left
        ·simp only [Act.put, List.setIfInBounds_toArray, List.set_cons_zero, List.set_cons_succ, i64_w, i32_w]
         rfl
        refine pure_ (i := 8) (N := some 44) (v := ?_) (a' := ?_) #[true, true, true, true, true, true, true, true, true, false] rfl rfl (qf1 HT_.out (by kernel_rfl)) (fun _ _ _ h => h) (Or.inl ⟨by rfl, ?_⟩) ?_ ?_
        rotate_left
        ·intro w'
         go_simp
         with_reducible rfl
        rotate_left
        ·simp only [Act.put, List.setIfInBounds_toArray, List.set_cons_zero, List.set_cons_succ, i64_w, i32_w]
         rfl
        refine last_ (i := 9) (N := none) #[true, true, true, true, true, true, true, true, true, true] rfl rfl (one_of HT_.out (by kernel_rfl)) (by decide) (fun K hK => ?_)
        refine skip_ (w1 := ?_) (by rfl) rfl ?_ ?_
        rotate_left
        ·go_simp
         rfl
        refine hK.out _ _ ?_
        clear hK K
        refine done_ (done_of HT_.out (by kernel_rfl)) ?_
        try go_wp2
        go_roundg k2
        case measure => have := HK1.out; have := HK2.out; omega
        case rel => exact ⟨(y231), (wrap64 (x21_2 + 1)), (by first | rfl | (simp; done) | (simp [*]; done)), H', ⟨by have := HK1.out; have := HK2.out; omega⟩, ⟨by (with_reducible repeat (first | apply Kd.qo0 | apply Kd.qn0 | apply Kd.qt0)); exact HQ27.out⟩, ⟨by (with_reducible repeat (first | refine qg0 ?_ _ | refine qh0 ?_ | refine qf0 ?_ _)); refine qe1 ?_ (by have h_ := Kd.R_ne HO_3.out BK225.out (by decide); intro e_; exact h_ (by rw [e_]; rfl)) _; (with_reducible repeat (first | refine qg0 ?_ _ | refine qh0 ?_ | refine qf0 ?_ _)); exact BK225.out⟩, ⟨by repeat (first | (with_reducible first | exact HB.out | apply qc0 | apply qa0 | apply qd0 | refine qi0 ?_ GB19.out | refine qi0 ?_ GE225.out | refine qi0 ?_ GE227.out) | exact HB.out)⟩⟩
       rw [if_neg c18] at H
       have c18b0 : decide ((rd x3_2 ((rd_T54 ((rd_T52 l0 x13_1).f3) x21_2).f0)) < (wrap64 ((rd x3_2 x13_1) + 1))) = false := decide_eq_false c18
       clear c18
       have H' := Aside0.mk H
       clear H
       have p226 : 0 ≤ (x21_2 : Int) := of_decide_eq_true (by first | (with_reducible assumption) | assumption)
       have q226 : x21_2 < (((rd_T52 l0 x13_1).f3).length : Int) := of_decide_eq_true (by first | (with_reducible assumption) | assumption)
       obtain ⟨ad226, e226, hx226_0, hx226_1, hx226_2, hx226_3, hx226_4, hx226_5⟩ := at_T54 HR224_3.out x21_2 p226 q226
       cases e226
       replace hx226_0 := (HB.out.cell (World.block_lt_of_cell? w _ hx226_0)).trans hx226_0
       replace hx226_1 := (HB.out.cell (World.block_lt_of_cell? w _ hx226_1)).trans hx226_1
       replace hx226_2 := (HB.out.cell (World.block_lt_of_cell? w _ hx226_2)).trans hx226_2
       replace hx226_3 := (HB.out.cell (World.block_lt_of_cell? w _ hx226_3)).trans hx226_3
       replace hx226_4 := (HB.out.cell (World.block_lt_of_cell? w _ hx226_4)).trans hx226_4
       replace hx226_5 := (HB.out.cell (World.block_lt_of_cell? w _ hx226_5)).trans hx226_5
       replace p226 := eq_true p226
       replace q226 := eq_true q226
       try go_wp2_with (first | ((with_reducible refine qz0 (N := 7) rfl ?_); refine qg1 ?hg (N := 7) ?hd (cs := #[.int .i64 0, .int .i64 0, .int .i64 0, .int .i64 0, .int .i64 0, .int .i64 0]) (t := 54) ?hr ?_; (case hd => rfl); (case hg => rfl); (case hr => first | (go_simp; done) | (go_simp; rfl)); intro gb227 hg w28 hbox hb; have n0_ := Aside0.mk (Kd.qs1 (by (with_reducible repeat (first | apply Kd.qo0 | apply Kd.qn0 | apply Kd.qt0)); exact HO_3.out) hb); have n1_ := Aside0.mk (qh1 (g := gb225) (o := .cells #[.string ((rd_T52 l0 x13_1).f0), .int .i64 ((rd_T52 l0 x13_1).f1), .bool ((rd_T52 l0 x13_1).f2), .slice (some ad226) ((rd_T52 l0 x13_1).f3).length c224_3, .slice A224_4 ((rd_T52 l0 x13_1).f4).length c224_4] 52 (0, 0)) (by (with_reducible repeat (first | refine qg0 ?_ _ | refine qh0 ?_ | refine qf0 ?_ _)); exact BK225.out) hb); have n2_ := Aside0.mk (qk0 (by repeat (first | (with_reducible first | exact HB.out | apply qc0 | apply qa0 | apply qd0 | refine qi0 ?_ GE225.out) | exact HB.out)) hb); have n3_ := Aside0.mk (hbox); have n4_ := Aside0.mk ((by rw [hg]; exact (qm0 (by repeat (first | (with_reducible first | exact HB.out | apply qc0 | apply qa0 | apply qd0 | refine qi0 ?_ GE225.out) | exact HB.out))) : w.heap.size ≤ gb227)); have n5_ := Aside0.mk ((by rw [hg]; exact (qm0 (by repeat (first | (with_reducible first | exact HB.out | apply qc0 | apply qa0 | apply qd0 | refine qi0 ?_ GE225.out) | exact HB.out))) : w.heap.size ≤ gb227)); have n6_ := Aside0.mk ((by rw [hg]; exact Nat.ne_of_lt (qz1 (g := gb225) (o := .cells #[.string ((rd_T52 l0 x13_1).f0), .int .i64 ((rd_T52 l0 x13_1).f1), .bool ((rd_T52 l0 x13_1).f2), .slice (some ad226) ((rd_T52 l0 x13_1).f3).length c224_3, .slice A224_4 ((rd_T52 l0 x13_1).f4).length c224_4] 52 (0, 0)) (by (with_reducible repeat (first | refine qg0 ?_ _ | refine qh0 ?_ | refine qf0 ?_ _)); exact BK225.out)) : gb225 ≠ gb227)); have n7_ := Aside0.mk ((by rw [hg]; exact Nat.ne_of_gt (qz1 (g := gb225) (o := .cells #[.string ((rd_T52 l0 x13_1).f0), .int .i64 ((rd_T52 l0 x13_1).f1), .bool ((rd_T52 l0 x13_1).f2), .slice (some ad226) ((rd_T52 l0 x13_1).f3).length c224_3, .slice A224_4 ((rd_T52 l0 x13_1).f4).length c224_4] 52 (0, 0)) (by (with_reducible repeat (first | refine qg0 ?_ _ | refine qh0 ?_ | refine qf0 ?_ _)); exact BK225.out)) : gb227 ≠ gb225)); clear HO_3; clear BK225; clear HB; have HO_3 := n0_; have BK225 := n1_; have HB := n2_; have BK227 := n3_; have GW227 := n4_; have GE227 := n5_; have NB225_227 := n6_; have NB227_225 := n7_; clear n0_ n1_ n2_ n3_ n4_ n5_ n6_ n7_; clear hb hbox hg; have hnb29 := NB227_225.out; have hnc29 := NB225_227.out; have hcz30_0 : w28.cell? ⟨gb227, 0, none⟩ = some (.int .i64 0) := (qe0 BK227.out 0).trans rfl; have hcz30_1 : w28.cell? ⟨gb227, 1, none⟩ = some (.int .i64 0) := (qe0 BK227.out 1).trans rfl; have hcz30_2 : w28.cell? ⟨gb227, 2, none⟩ = some (.int .i64 0) := (qe0 BK227.out 2).trans rfl; have hcz30_3 : w28.cell? ⟨gb227, 3, none⟩ = some (.int .i64 0) := (qe0 BK227.out 3).trans rfl; have hcz30_4 : w28.cell? ⟨gb227, 4, none⟩ = some (.int .i64 0) := (qe0 BK227.out 4).trans rfl; have hcz30_5 : w28.cell? ⟨gb227, 5, none⟩ = some (.int .i64 0) := (qe0 BK227.out 5).trans rfl; have hfz30_0 := qb0 BK227.out 0; have hfz30_1 := qb0 BK227.out 1; have hfz30_2 := qb0 BK227.out 2; have hfz30_3 := qb0 BK227.out 3; have hfz30_4 := qb0 BK227.out 4; have hfz30_5 := qb0 BK227.out 5))
       have n0_ : Aside0 (Kd.R (Kd.int .i64) 3 ((((((w28.setCell ⟨gb227, 0, none⟩ (.int .i64 ((rd_T54 ((rd_T52 l0 x13_1).f3) x21_2).f0))).setCell ⟨gb227, 1, none⟩ (.int .i64 ((rd_T54 ((rd_T52 l0 x13_1).f3) x21_2).f1))).setCell ⟨gb227, 2, none⟩ (.int .i64 ((rd_T54 ((rd_T52 l0 x13_1).f3) x21_2).f2))).setCell ⟨gb227, 3, none⟩ (.int .i64 ((rd_T54 ((rd_T52 l0 x13_1).f3) x21_2).f3))).setCell ⟨gb227, 4, none⟩ (.int .i64 ((rd_T54 ((rd_T52 l0 x13_1).f3) x21_2).f4))).setCell ⟨gb227, 5, none⟩ (.int .i64 ((rd_T54 ((rd_T52 l0 x13_1).f3) x21_2).f5))) w.heap.size (fun _ => True) v222 x3_2) := ⟨by (with_reducible repeat (first | apply Kd.qo0 | apply Kd.qn0 | apply Kd.qt0)); exact Kd.R_mono (Kd.R_far (p := ⟨gb227, 5, none⟩) (Kd.R_far (p := ⟨gb227, 4, none⟩) (Kd.R_far (p := ⟨gb227, 3, none⟩) (Kd.R_far (p := ⟨gb227, 2, none⟩) (Kd.R_far (p := ⟨gb227, 1, none⟩) (Kd.R_far (p := ⟨gb227, 0, none⟩) (Kd.qx1 HO_3.out BK227.out (by decide)) (fun _ hk => hk.2) (.int .i64 ((rd_T54 ((rd_T52 l0 x13_1).f3) x21_2).f0))) (fun _ hk => hk.2) (.int .i64 ((rd_T54 ((rd_T52 l0 x13_1).f3) x21_2).f1))) (fun _ hk => hk.2) (.int .i64 ((rd_T54 ((rd_T52 l0 x13_1).f3) x21_2).f2))) (fun _ hk => hk.2) (.int .i64 ((rd_T54 ((rd_T52 l0 x13_1).f3) x21_2).f3))) (fun _ hk => hk.2) (.int .i64 ((rd_T54 ((rd_T52 l0 x13_1).f3) x21_2).f4))) (fun _ hk => hk.2) (.int .i64 ((rd_T54 ((rd_T52 l0 x13_1).f3) x21_2).f5))) (fun _ hk => trivial)⟩
       have n1_ : Aside0 (((((((w28.setCell ⟨gb227, 0, none⟩ (.int .i64 ((rd_T54 ((rd_T52 l0 x13_1).f3) x21_2).f0))).setCell ⟨gb227, 1, none⟩ (.int .i64 ((rd_T54 ((rd_T52 l0 x13_1).f3) x21_2).f1))).setCell ⟨gb227, 2, none⟩ (.int .i64 ((rd_T54 ((rd_T52 l0 x13_1).f3) x21_2).f2))).setCell ⟨gb227, 3, none⟩ (.int .i64 ((rd_T54 ((rd_T52 l0 x13_1).f3) x21_2).f3))).setCell ⟨gb227, 4, none⟩ (.int .i64 ((rd_T54 ((rd_T52 l0 x13_1).f3) x21_2).f4))).setCell ⟨gb227, 5, none⟩ (.int .i64 ((rd_T54 ((rd_T52 l0 x13_1).f3) x21_2).f5))).heap[gb225]? = some (.cells #[.string ((rd_T52 l0 x13_1).f0), .int .i64 ((rd_T52 l0 x13_1).f1), .bool ((rd_T52 l0 x13_1).f2), .slice (some ad226) ((rd_T52 l0 x13_1).f3).length c224_3, .slice A224_4 ((rd_T52 l0 x13_1).f4).length c224_4] 52 (0, 0))) := ⟨by (with_reducible repeat (first | refine qg0 ?_ _ | refine qh0 ?_ | refine qf0 ?_ _)); refine qe1 ?_ NB225_227.out _; (with_reducible repeat (first | refine qg0 ?_ _ | refine qh0 ?_ | refine qf0 ?_ _)); refine qe1 ?_ NB225_227.out _; (with_reducible repeat (first | refine qg0 ?_ _ | refine qh0 ?_ | refine qf0 ?_ _)); refine qe1 ?_ NB225_227.out _; (with_reducible repeat (first | refine qg0 ?_ _ | refine qh0 ?_ | refine qf0 ?_ _)); refine qe1 ?_ NB225_227.out _; (with_reducible repeat (first | refine qg0 ?_ _ | refine qh0 ?_ | refine qf0 ?_ _)); refine qe1 ?_ NB225_227.out _; (with_reducible repeat (first | refine qg0 ?_ _ | refine qh0 ?_ | refine qf0 ?_ _)); refine qe1 ?_ NB225_227.out _; (with_reducible repeat (first | refine qg0 ?_ _ | refine qh0 ?_ | refine qf0 ?_ _)); exact BK225.out⟩
       have n2_ : Aside0 (((((((w28.setCell ⟨gb227, 0, none⟩ (.int .i64 ((rd_T54 ((rd_T52 l0 x13_1).f3) x21_2).f0))).setCell ⟨gb227, 1, none⟩ (.int .i64 ((rd_T54 ((rd_T52 l0 x13_1).f3) x21_2).f1))).setCell ⟨gb227, 2, none⟩ (.int .i64 ((rd_T54 ((rd_T52 l0 x13_1).f3) x21_2).f2))).setCell ⟨gb227, 3, none⟩ (.int .i64 ((rd_T54 ((rd_T52 l0 x13_1).f3) x21_2).f3))).setCell ⟨gb227, 4, none⟩ (.int .i64 ((rd_T54 ((rd_T52 l0 x13_1).f3) x21_2).f4))).setCell ⟨gb227, 5, none⟩ (.int .i64 ((rd_T54 ((rd_T52 l0 x13_1).f3) x21_2).f5))).heap[gb227]? = some (.cells #[.int .i64 ((rd_T54 ((rd_T52 l0 x13_1).f3) x21_2).f0), .int .i64 ((rd_T54 ((rd_T52 l0 x13_1).f3) x21_2).f1), .int .i64 ((rd_T54 ((rd_T52 l0 x13_1).f3) x21_2).f2), .int .i64 ((rd_T54 ((rd_T52 l0 x13_1).f3) x21_2).f3), .int .i64 ((rd_T54 ((rd_T52 l0 x13_1).f3) x21_2).f4), .int .i64 ((rd_T54 ((rd_T52 l0 x13_1).f3) x21_2).f5)] 54 (0, 0))) := ⟨by (with_reducible repeat (first | refine qg0 ?_ _ | refine qh0 ?_ | refine qf0 ?_ _)); refine ql0 (cs := #[.int .i64 ((rd_T54 ((rd_T52 l0 x13_1).f3) x21_2).f0), .int .i64 ((rd_T54 ((rd_T52 l0 x13_1).f3) x21_2).f1), .int .i64 ((rd_T54 ((rd_T52 l0 x13_1).f3) x21_2).f2), .int .i64 ((rd_T54 ((rd_T52 l0 x13_1).f3) x21_2).f3), .int .i64 ((rd_T54 ((rd_T52 l0 x13_1).f3) x21_2).f4), .int .i64 0]) ?_ 5 _ rfl; (with_reducible repeat (first | refine qg0 ?_ _ | refine qh0 ?_ | refine qf0 ?_ _)); refine ql0 (cs := #[.int .i64 ((rd_T54 ((rd_T52 l0 x13_1).f3) x21_2).f0), .int .i64 ((rd_T54 ((rd_T52 l0 x13_1).f3) x21_2).f1), .int .i64 ((rd_T54 ((rd_T52 l0 x13_1).f3) x21_2).f2), .int .i64 ((rd_T54 ((rd_T52 l0 x13_1).f3) x21_2).f3), .int .i64 0, .int .i64 0]) ?_ 4 _ rfl; (with_reducible repeat (first | refine qg0 ?_ _ | refine qh0 ?_ | refine qf0 ?_ _)); refine ql0 (cs := #[.int .i64 ((rd_T54 ((rd_T52 l0 x13_1).f3) x21_2).f0), .int .i64 ((rd_T54 ((rd_T52 l0 x13_1).f3) x21_2).f1), .int .i64 ((rd_T54 ((rd_T52 l0 x13_1).f3) x21_2).f2), .int .i64 0, .int .i64 0, .int .i64 0]) ?_ 3 _ rfl; (with_reducible repeat (first | refine qg0 ?_ _ | refine qh0 ?_ | refine qf0 ?_ _)); refine ql0 (cs := #[.int .i64 ((rd_T54 ((rd_T52 l0 x13_1).f3) x21_2).f0), .int .i64 ((rd_T54 ((rd_T52 l0 x13_1).f3) x21_2).f1), .int .i64 0, .int .i64 0, .int .i64 0, .int .i64 0]) ?_ 2 _ rfl; (with_reducible repeat (first | refine qg0 ?_ _ | refine qh0 ?_ | refine qf0 ?_ _)); refine ql0 (cs := #[.int .i64 ((rd_T54 ((rd_T52 l0 x13_1).f3) x21_2).f0), .int .i64 0, .int .i64 0, .int .i64 0, .int .i64 0, .int .i64 0]) ?_ 1 _ rfl; (with_reducible repeat (first | refine qg0 ?_ _ | refine qh0 ?_ | refine qf0 ?_ _)); refine ql0 (cs := #[.int .i64 0, .int .i64 0, .int .i64 0, .int .i64 0, .int .i64 0, .int .i64 0]) ?_ 0 _ rfl; (with_reducible repeat (first | refine qg0 ?_ _ | refine qh0 ?_ | refine qf0 ?_ _)); exact BK227.out⟩
       have n3_ : Aside0 (Below w.heap.size w ((((((w28.setCell ⟨gb227, 0, none⟩ (.int .i64 ((rd_T54 ((rd_T52 l0 x13_1).f3) x21_2).f0))).setCell ⟨gb227, 1, none⟩ (.int .i64 ((rd_T54 ((rd_T52 l0 x13_1).f3) x21_2).f1))).setCell ⟨gb227, 2, none⟩ (.int .i64 ((rd_T54 ((rd_T52 l0 x13_1).f3) x21_2).f2))).setCell ⟨gb227, 3, none⟩ (.int .i64 ((rd_T54 ((rd_T52 l0 x13_1).f3) x21_2).f3))).setCell ⟨gb227, 4, none⟩ (.int .i64 ((rd_T54 ((rd_T52 l0 x13_1).f3) x21_2).f4))).setCell ⟨gb227, 5, none⟩ (.int .i64 ((rd_T54 ((rd_T52 l0 x13_1).f3) x21_2).f5)))) := ⟨by repeat (first | (with_reducible first | exact HB.out | apply qc0 | apply qa0 | apply qd0 | refine qi0 ?_ GE225.out | refine qi0 ?_ GE227.out) | exact HB.out)⟩
       (try clear HO_3)
       (try clear BK225)
       (try clear BK227)
       (try clear HB)
       generalize ((((((w28.setCell ⟨gb227, 0, none⟩ (.int .i64 ((rd_T54 ((rd_T52 l0 x13_1).f3) x21_2).f0))).setCell ⟨gb227, 1, none⟩ (.int .i64 ((rd_T54 ((rd_T52 l0 x13_1).f3) x21_2).f1))).setCell ⟨gb227, 2, none⟩ (.int .i64 ((rd_T54 ((rd_T52 l0 x13_1).f3) x21_2).f2))).setCell ⟨gb227, 3, none⟩ (.int .i64 ((rd_T54 ((rd_T52 l0 x13_1).f3) x21_2).f3))).setCell ⟨gb227, 4, none⟩ (.int .i64 ((rd_T54 ((rd_T52 l0 x13_1).f3) x21_2).f4))).setCell ⟨gb227, 5, none⟩ (.int .i64 ((rd_T54 ((rd_T52 l0 x13_1).f3) x21_2).f5))) = w31 at n0_ n1_ n2_ n3_ ⊢
       have HO_3 := n0_
       have BK225 := n1_
       have BK227 := n2_
       have HB := n3_
       clear n0_ n1_ n2_ n3_
       have n0_ := Aside0.mk (Kd.qt0 HO_3.out)
       have n1_ := Aside0.mk (qh0 BK225.out)
       have n2_ := Aside0.mk (qh0 BK227.out)
       have n3_ := Aside0.mk (qd0 HB.out)
       clear HO_3
       clear BK225
       clear BK227
       clear HB
       have HO_3 := n0_
       have BK225 := n1_
       have BK227 := n2_
       have HB := n3_
       clear n0_ n1_ n2_ n3_
       obtain ⟨Ao33, co33, eo33⟩ := Kd.qm1 HO_3.out
       (first | subst eo33 | (injection eo33 with f1_ f2_ f3_; have f4_ := f1_.symm; have f5_ := f3_.symm; clear f1_ f2_ f3_; subst f4_; subst f5_))
       have p228 : 0 ≤ (((rd_T54 ((rd_T52 l0 x13_1).f3) x21_2).f0) : Int) := of_decide_eq_true (by first | (with_reducible assumption) | assumption)
       have q228 : ((rd_T54 ((rd_T52 l0 x13_1).f3) x21_2).f0) < (x3_2.length : Int) := of_decide_eq_true (by first | (with_reducible assumption) | assumption)
       obtain ⟨ad228, e228, hx228_0⟩ := Kd.qq1 (Kd.qv0 HO_3.out).2.2 ((rd_T54 ((rd_T52 l0 x13_1).f3) x21_2).f0) p228 q228
       cases e228
       replace p228 := eq_true p228
       replace q228 := eq_true q228
       have p229 : 0 ≤ (x13_1 : Int) := of_decide_eq_true (by first | (with_reducible assumption) | assumption)
       have q229 : x13_1 < (x3_2.length : Int) := of_decide_eq_true (by first | (with_reducible assumption) | assumption)
       obtain ⟨ad229, e229, hx229_0⟩ := Kd.qq1 (Kd.qv0 HO_3.out).2.2 x13_1 p229 q229
       obtain rfl : ad228 = ad229 := (by injection e229)
       replace p229 := eq_true p229
       replace q229 := eq_true q229
       refine start_ (n := 11) (S := fun w' => w'.cell? ⟨gb227, 0, none⟩ = some (.int .i64 ((rd_T54 ((rd_T52 l0 x13_1).f3) x21_2).f0)) ∧ w'.cell? ⟨gb227, 1, none⟩ = some (.int .i64 ((rd_T54 ((rd_T52 l0 x13_1).f3) x21_2).f1)) ∧ w'.cell? ⟨gb227, 2, none⟩ = some (.int .i64 ((rd_T54 ((rd_T52 l0 x13_1).f3) x21_2).f2)) ∧ w'.cell? ⟨gb227, 3, none⟩ = some (.int .i64 ((rd_T54 ((rd_T52 l0 x13_1).f3) x21_2).f3)) ∧ w'.cell? ⟨gb227, 4, none⟩ = some (.int .i64 ((rd_T54 ((rd_T52 l0 x13_1).f3) x21_2).f4)) ∧ w'.cell? ⟨gb227, 5, none⟩ = some (.int .i64 ((rd_T54 ((rd_T52 l0 x13_1).f3) x21_2).f5)) ∧ w'.cell? (ad228.add (((rd_T54 ((rd_T52 l0 x13_1).f3) x21_2).f0)).toNat) = some (.int .i64 (rd x3_2 ((rd_T54 ((rd_T52 l0 x13_1).f3) x21_2).f0))) ∧ w'.cell? (ad228.add (x13_1).toNat) = some (.int .i64 (rd x3_2 x13_1))) (ds := []) #[false, false, false, false, false, false, false, false, false, false, false] (by kernel_rfl) rfl rfl ⟨(qe0 BK227.out 0).trans rfl, (qe0 BK227.out 1).trans rfl, (qe0 BK227.out 2).trans rfl, (qe0 BK227.out 3).trans rfl, (qe0 BK227.out 4).trans rfl, (qe0 BK227.out 5).trans rfl, hx228_0, hx229_0⟩ (fun hHeld => ?_); refine with_tabW impl_levels.tab8 impl_levels.bits8 (fun HT_ HW_ => ?_)
       generalize w31.drew = w32 at HO_3 BK225 BK227 HB hx228_0 hx229_0 hHeld ⊢
       refine pure_ (i := 0) (N := some 25) (v := ?_) (a' := ?_) #[true, false, false, false, false, false, false, false, false, false, false] rfl rfl (qf1 HT_.out (by kernel_rfl)) (fun _ _ _ h => h) (Or.inl ⟨by rfl, ?_⟩) ?_ ?_
       rotate_left
       ·intro w'
        go_simp
        with_reducible rfl
       rotate_left
       ·simp only [Act.put, List.setIfInBounds_toArray, List.set_cons_zero, List.set_cons_succ, i64_w, i32_w]
        rfl
       refine pure_ (i := 1) (N := some 26) (v := ?_) (a' := ?_) #[true, true, false, false, false, false, false, false, false, false, false] rfl rfl (qf1 HT_.out (by kernel_rfl)) (fun _ _ _ h => h) (Or.inl ⟨by rfl, ?_⟩) ?_ ?_
       rotate_left
       ·intro w'
        go_simp
        with_reducible rfl
       rotate_left
       ·simp only [Act.put, List.setIfInBounds_toArray, List.set_cons_zero, List.set_cons_succ, i64_w, i32_w]
        rfl
       refine pure_ (i := 5) (N := some 30) (v := ?_) (a' := ?_) #[true, true, false, false, false, true, false, false, false, false, false] rfl rfl (qf1 HT_.out (by kernel_rfl)) (fun _ _ _ h => h) (Or.inl ⟨by rfl, ?_⟩) ?_ ?_
       rotate_left
       ·intro w'
        go_simp
        with_reducible rfl
       rotate_left
       ·simp only [Act.put, List.setIfInBounds_toArray, List.set_cons_zero, List.set_cons_succ, i64_w, i32_w]
        rfl
       refine pure_ (i := 6) (N := some 31) (v := ?_) (a' := ?_) #[true, true, false, false, false, true, true, false, false, false, false] rfl rfl (qf1 HT_.out (by kernel_rfl)) (fun _ _ _ h => h) (Or.inl ⟨by rfl, ?_⟩) ?_ ?_
       rotate_left
       ·intro w'
        go_simp
        with_reducible rfl
       rotate_left
       ·simp only [Act.put, List.setIfInBounds_toArray, List.set_cons_zero, List.set_cons_succ, i64_w, i32_w]
        rfl
       refine pure_ (i := 7) (N := some 32) (v := ?_) (a' := ?_) #[true, true, false, false, false, true, true, true, false, false, false] rfl rfl (qf1 HT_.out (by kernel_rfl)) (fun _ _ _ h => h) (Or.inl ⟨by rfl, ?_⟩) ?_ ?_
       rotate_left
       ·intro w'
        go_simp
        with_reducible rfl
       rotate_left
       ·simp only [Act.put, List.setIfInBounds_toArray, List.set_cons_zero, List.set_cons_succ, i64_w, i32_w]
        rfl
       refine take_ (i := 2) (N := some 27) (v := ?_) (a' := ?_) #[true, true, true, false, false, true, true, true, false, false, false] rfl rfl (take_ofW HT_.out HW_.out (by kernel_rfl)) (fun _ _ _ h => h) (Or.inl ⟨by rfl, ?_⟩) hHeld ?_ ?_
       rotate_left
       ·rintro w' ⟨s0, s1, s2, s3, s4, s5, s6, s7⟩
        go_simp
        with_reducible rfl
       rotate_left
       ·simp only [Act.put, List.setIfInBounds_toArray, List.set_cons_zero, List.set_cons_succ, i64_w, i32_w]
        rfl
       refine pure_ (i := 3) (N := some 28) (v := ?_) (a' := ?_) #[true, true, true, true, false, true, true, true, false, false, false] rfl rfl (qf1 HT_.out (by kernel_rfl)) (fun _ _ _ h => h) (Or.inl ⟨by rfl, ?_⟩) ?_ ?_
       rotate_left
       ·intro w'
        go_simp
        with_reducible rfl
       rotate_left
       ·simp only [Act.put, List.setIfInBounds_toArray, List.set_cons_zero, List.set_cons_succ, i64_w, i32_w]
        rfl
       refine take_ (i := 4) (N := some 29) (v := ?_) (a' := ?_) #[true, true, true, true, true, true, true, true, false, false, false] rfl rfl (take_ofW HT_.out HW_.out (by kernel_rfl)) (fun _ _ _ h => h) (Or.inl ⟨by rfl, ?_⟩) hHeld ?_ ?_
       rotate_left
       ·rintro w' ⟨s0, s1, s2, s3, s4, s5, s6, s7⟩
        go_simp
        with_reducible rfl
       rotate_left
       ·simp only [Act.put, List.setIfInBounds_toArray, List.set_cons_zero, List.set_cons_succ, i64_w, i32_w]
        rfl
       refine take_ (i := 8) (N := some 33) (v := ?_) (a' := ?_) #[true, true, true, true, true, true, true, true, true, false, false] rfl rfl (take_ofW HT_.out HW_.out (by kernel_rfl)) (fun _ _ _ h => h) (Or.inl ⟨by rfl, ?_⟩) hHeld ?_ ?_
       rotate_left
       ·rintro w' ⟨s0, s1, s2, s3, s4, s5, s6, s7⟩
        go_simp
        with_reducible rfl
       rotate_left
       ·simp only [Act.put, List.setIfInBounds_toArray, List.set_cons_zero, List.set_cons_succ, i64_w, i32_w]
        rfl
       refine pure_ (i := 9) (N := some 34) (v := ?_) (a' := ?_) #[true, true, true, true, true, true, true, true, true, true, false] rfl rfl (qf1 HT_.out (by kernel_rfl)) (fun _ _ _ h => h) (Or.inl ⟨by rfl, ?_⟩) ?_ ?_
       rotate_left
       ·intro w'
        go_simp
        with_reducible rfl
       rotate_left
       ·simp only [Act.put, List.setIfInBounds_toArray, List.set_cons_zero, List.set_cons_succ, i64_w, i32_w]
        rfl
       refine pure_ (i := 10) (N := some 35) (v := ?_) (a' := ?_) #[true, true, true, true, true, true, true, true, true, true, true] rfl rfl (qf1 HT_.out (by kernel_rfl)) (fun _ _ _ h => h) (Or.inl ⟨by rfl, ?_⟩) ?_ ?_
       rotate_left
       ·intro w'
        go_simp
        with_reducible rfl
       rotate_left
       ·simp only [Act.put, List.setIfInBounds_toArray, List.set_cons_zero, List.set_cons_succ, i64_w, i32_w]
        rfl
       refine done_ (done_of HT_.out (by kernel_rfl)) ?_
       try go_wp2
       go_roundg k2
       case measure => have := HK1.out; have := HK2.out; omega
       case rel => exact ⟨(x3_2), (wrap64 (x21_2 + 1)), (by first | rfl | (simp; done) | (simp [*]; done)), H', ⟨by have := HK1.out; have := HK2.out; omega⟩, ⟨by (with_reducible repeat (first | apply Kd.qo0 | apply Kd.qn0 | apply Kd.qt0)); exact HO_3.out⟩, ⟨by (with_reducible repeat (first | refine qg0 ?_ _ | refine qh0 ?_ | refine qf0 ?_ _)); exact BK225.out⟩, ⟨by repeat (first | (with_reducible first | exact HB.out | apply qc0 | apply qa0 | apply qd0 | refine qi0 ?_ GE225.out | refine qi0 ?_ GE227.out) | exact HB.out)⟩⟩
      rw [if_neg c11] at H
      have c11b0 : decide (x21_2 < (((rd_T52 l0 x13_1).f3).length : Int)) = false := decide_eq_false c11
      clear c11
      have H' := Aside0.mk H
      clear H
      go_wp2
      go_roundg k2
      case measure => have := HK1.out; have := HK2.out; omega
      case rel => exact ⟨(x3_2), (wrap64 (x13_1 + 1)), (by first | rfl | (simp; done) | (simp [*]; done)), H', ⟨by have := HK1.out; have := HK2.out; omega⟩, ⟨by (with_reducible repeat (first | apply Kd.qo0 | apply Kd.qn0 | apply Kd.qt0)); exact HO_3.out⟩, ⟨by repeat (first | (with_reducible first | exact HB.out | apply qc0 | apply qa0 | apply qd0 | refine qi0 ?_ GE225.out) | exact HB.out)⟩⟩
   rw [if_neg c6] at H
   have c6b0 : decide (x13_1 < (l0.length : Int)) = false := decide_eq_false c6
   clear c6
   obtain rfl := Option.some.inj H
   go_wp2
   go_ret
   exact ⟨_, by first | rfl | (simp [errW_none, errW_some] <;> rfl) | (simp [*, errW_none, errW_some] <;> rfl), by (with_reducible repeat (first | apply Kd.qo0 | apply Kd.qn0 | apply Kd.qt0)); exact HO_3.out, by repeat (first | (with_reducible first | exact HB.out | apply qc0 | apply qa0 | apply qd0) | exact HB.out)⟩

/-! ### impl_between: function 100 -/
def impl_between.f (a0 : Int) (a1 : Int) (a2 : Int) : Option (Bool) := if a0 ≥ a1 then (some (decide (a0 ≤ a2))) else (some false)
set_option maxHeartbeats 8000000 in
set_option maxRecDepth 100000 in
theorem impl_between.calls (a0 : Int) (a1 : Int) (a2 : Int) (r : Bool) (w : World) (h : impl_between.f a0 a1 a2 = some r) :
  Calls Try.prog 100 #[.int .i64 a0, .int .i64 a1, .int .i64 a2] w fun e w' => e = .returned (.bool r) ∧ Drawn0 w w' := by
 have H : (if a0 ≥ a1 then (some (decide (a0 ≤ a2))) else (some false)) = some r := h
 clear h
 by_cases c4 : a0 ≥ a1
 ·rw [if_pos c4] at H
  have c4b0 : decide (a1 ≤ a0) = true := decide_eq_true c4
  clear c4
  obtain rfl := Option.some.inj H
  go_enter Try.func100, Try.ntmps100
  go_wp2
  go_ret
  exact ⟨by first | rfl | (simp; done) | (simp [*]; done), by repeat (first | exact Drawn0.refl _ | apply Drawn0.step)⟩
 rw [if_neg c4] at H
 have c4b0 : decide (a1 ≤ a0) = false := decide_eq_false c4
 clear c4
 obtain rfl := Option.some.inj H
 go_enter Try.func100, Try.ntmps100
 go_wp2
 go_ret
 exact ⟨by first | rfl | (simp; done) | (simp [*]; done), by repeat (first | exact Drawn0.refl _ | apply Drawn0.step)⟩

/-! ### impl_isDay: function 98 -/
def impl_isDay.f (a0 : Int) : Option (Bool) := (impl_between.f a0 0 40000).bind fun t232 => (some t232)
set_option maxHeartbeats 8000000 in
set_option maxRecDepth 100000 in
theorem impl_isDay.calls (a0 : Int) (r : Bool) (w : World) (h : impl_isDay.f a0 = some r) :
  Calls Try.prog 98 #[.int .i64 a0] w fun e w' => e = .returned (.bool r) ∧ Drawn0 w w' := by
 have H : ((impl_between.f a0 0 40000).bind fun t232 => (some t232)) = some r := h
 clear h
 replace H := Option.bind_eq_some_iff.mp H
 obtain ⟨t232, A20, H⟩ := H
 replace H : (some t232) = some r := H
 have A2 := Aside0.mk A20
 clear A20
 obtain rfl := Option.some.inj H
 go_enter Try.func98, Try.ntmps98
 go_wp2_with (first | ((with_reducible refine qs0 (f := 100) rfl ?_); refine qk1 (some 4) rfl rfl Try.func100 (by kernel_rfl) rfl #[.int .i64 a0, .int .i64 0, .int .i64 40000] rfl (by (try simp only [List.map_toArray, List.map_cons, List.map_nil]); first | done | rfl | (simp only [List.length_drop, List.length_take]; rfl)) ?_; (with_reducible refine (impl_between.calls a0 0 40000 t232 _ A2.out).mono ?_); rintro e w' ⟨rfl, ⟨nd, rfl⟩⟩; refine ⟨_, rfl, ?_⟩))
 go_ret
 exact ⟨by first | rfl | (simp; done) | (simp [*]; done), by repeat (first | exact Drawn0.refl _ | apply Drawn0.step)⟩

end Go.Proofs.Ytkkdmmefnicmaaa.PFnLevelled
