/- Lines by a program (a changed copy of the kit's print: this repo's wip/tools): Go functions as Lean functions, and proofs that the calls answer so. -/
import Derived.Test.YtkkdmmefnicmaaaZPFnChainedx0
import Derived.Test.YtkkdmmefnicmaaaZPFnChainedx1
import Derived.Test.YtkkdmmefnicmaaaZPFnChainedx2
import Derived.Test.YtkkdmmefnicmaaaZPFnChainedx6
namespace Go.Proofs.Ytkkdmmefnicmaaa.PFnChained
open Go.RowKit Go.Proofs.YtkkdmmefnicmaaaW.PrintWords Go.Proofs.YtkkdmmefnicmaaaW.PrintLast Go.Proofs.YtkkdmmefnicmaaaW.PrintMore
/-- Closing blocks told once. -/
theorem z7_0 {P : Prop} (h : P := by repeat (first | (with_reducible first | exact HI0.out | apply IsS186.alloc | apply IsS186.drewN | apply IsS186.drew | apply IsS186.set_1 | apply IsS186.set_2 | refine IsS186.far ?_ NB0_235.out _ | refine IsS186.far ?_ NB0_236.out _ | refine IsS186.far ?_ NB0_249.out _) | exact HI0.out)) : P := h
theorem z7_1 {P : Prop} (h : P := by repeat (first | (with_reducible first | exact HK.out | apply qc0.set_ | apply qf1 | apply qh1 | apply qg1 | refine qp1 ?_ GW235.out _ | refine qp1 ?_ GW236.out _ | refine qp1 ?_ GW249.out _) | exact HK.out)) : P := h
theorem z7_2 {P : Prop} (h : P := by repeat (first | (with_reducible first | exact HB.out | apply qj0 | apply qh0 | apply qi0 | refine qk0 ?_ (IsS186.ge HI0.out) | refine qk0 ?_ GE235.out | refine qk0 ?_ GE236.out | refine qk0 ?_ GE249.out) | exact HB.out)) : P := h
theorem z7_3 {P : Prop} (h : P := by (with_reducible repeat (first | refine qe0 ?_ _ | refine qf0 ?_ | refine qd0 ?_ _)); exact BK235.out) : P := h
theorem z7_4 {P : Prop} (h : P := by (try simp only [List.map_toArray, List.map_cons, List.map_nil]); first | done | rfl | (simp only [List.length_drop, List.length_take]; rfl)) : P := h
theorem z7_5 {P : Prop} (h : P := by (with_reducible repeat (first | refine qe0 ?_ _ | refine qf0 ?_ | refine qd0 ?_ _)); exact BK236.out) : P := h
theorem z7_6 {P : Prop} (h : P := by (with_reducible repeat (first | refine qe0 ?_ _ | refine qf0 ?_ | refine qd0 ?_ _)); exact BK249.out) : P := h
theorem z7_7 {P : Prop} (h : P := by (with_reducible repeat (first | refine qe0 ?_ _ | refine qf0 ?_ | refine qd0 ?_ _)); refine blk_far ?_ NB235_249.out _; (with_reducible repeat (first | refine qe0 ?_ _ | refine qf0 ?_ | refine qd0 ?_ _)); exact BK235.out) : P := h
theorem z7_8 {P : Prop} (h : P := by (with_reducible repeat (first | refine qe0 ?_ _ | refine qf0 ?_ | refine qd0 ?_ _)); refine blk_far ?_ NB236_249.out _; (with_reducible repeat (first | refine qe0 ?_ _ | refine qf0 ?_ | refine qd0 ?_ _)); exact BK236.out) : P := h
theorem z7_9 {P : Prop} (h : P := by repeat (first | (with_reducible first | exact HI0.out | apply IsS186.alloc | apply IsS186.drewN | apply IsS186.drew | apply IsS186.set_1 | apply IsS186.set_2 | refine IsS186.far ?_ NB0_235.out _ | refine IsS186.far ?_ NB0_236.out _) | exact HI0.out)) : P := h
theorem z7_10 {P : Prop} (h : P := by repeat (first | (with_reducible first | exact HK.out | apply qc0.set_ | apply qf1 | apply qh1 | apply qg1) | exact HK.out)) : P := h
theorem z7_11 {P : Prop} (h : P := by repeat (first | (with_reducible first | exact HI0.out | apply IsS186.alloc | apply IsS186.drewN | apply IsS186.drew | apply IsS186.set_1 | apply IsS186.set_2) | exact HI0.out)) : P := h
theorem z7_12 {P : Prop} (h : P := by (with_reducible repeat (first | apply Kd.qr0 | apply Kd.qp0 | apply Kd.qu0)); exact HO_250003.out) : P := h
theorem z7_13 {P : Prop} (h : P := by repeat (first | (with_reducible first | exact HK.out | apply qc0.set_ | apply qf1 | apply qh1 | apply qg1 | refine qp1 ?_ GW235.out _ | refine qp1 ?_ GW236.out _) | exact HK.out)) : P := h
theorem z7_14 {P : Prop} (h : P := by repeat (first | (with_reducible first | exact HB.out | apply qj0 | apply qh0 | apply qi0 | refine qk0 ?_ (IsS186.ge HI0.out)) | exact HB.out)) : P := h
theorem z7_15 {P : Prop} (h : P := by repeat (first | (with_reducible first | exact HB.out | apply qj0 | apply qh0 | apply qi0 | refine qk0 ?_ (IsS186.ge HI0.out) | refine qk0 ?_ GE235.out | refine qk0 ?_ GE236.out) | exact HB.out)) : P := h
theorem z7_16 {P : Prop} (h : P := by repeat (first | (with_reducible first | exact HB.out | apply qj0 | apply qh0 | apply qi0) | exact HB.out)) : P := h
theorem z7_17 {P : Prop} (h : P := by (with_reducible repeat (first | refine qe0 ?_ _ | refine qf0 ?_ | refine qd0 ?_ _)); refine qo0 (cs := #[.int .i64 t237, .int .i64 t240, .string t246, u250003]) ?_ 3 _ rfl; (with_reducible repeat (first | refine qe0 ?_ _ | refine qf0 ?_ | refine qd0 ?_ _)); exact BK249.out) : P := h
theorem z7_18 {P : Prop} (h : P := by repeat (first | (with_reducible first | exact HI0.out | apply IsS186.alloc | apply IsS186.drewN | apply IsS186.drew | apply IsS186.set_1 | apply IsS186.set_2 | refine IsS186.far ?_ NB0_235.out _) | exact HI0.out)) : P := h
theorem z7_19 {P : Prop} (h : P := by (with_reducible repeat (first | apply Kd.qr0 | apply Kd.qp0 | apply Kd.qu0)); exact HO276.out) : P := h
theorem z7_20 {P : Prop} (h : P := by first | rfl | (simp [errW_none, errW_some] <;> rfl) | (simp [*, errW_none, errW_some] <;> rfl)) : P := h
theorem z7_21 {P : Prop} (h : P := by rw [hg]; exact (qx0 (w := w) (g := g) (row := none) (by repeat (first | (with_reducible first | exact HK.out | apply qc0.set_ | apply qf1 | apply qh1 | apply qg1 | refine qp1 ?_ GW235.out _ | refine qp1 ?_ GW236.out _) | exact HK.out)))) : P := h
theorem z7_22 {P : Prop} (h : P := by first | rfl | (simp; done) | (simp [*]; done)) : P := h
theorem z7_23 {P : Prop} (h : P := by repeat (first | (with_reducible first | exact HK.out | apply qc0.set_ | apply qf1 | apply qh1 | apply qg1 | refine qp1 ?_ GW235.out _) | exact HK.out)) : P := h
theorem z7_24 {P : Prop} (h : P := by rw [hg]; exact Nat.ne_of_lt (blk_lt (g := gb235) (o := .cells #[.slice A1_0 l1_0.length c1_0, .int .i64 a1_1, .int .i64 a1_2] 174 (0, 0)) (by (with_reducible repeat (first | refine qe0 ?_ _ | refine qf0 ?_ | refine qd0 ?_ _)); exact BK235.out))) : P := h
theorem z7_25 {P : Prop} (h : P := by rw [hg]; exact Nat.ne_of_gt (blk_lt (g := gb235) (o := .cells #[.slice A1_0 l1_0.length c1_0, .int .i64 a1_1, .int .i64 a1_2] 174 (0, 0)) (by (with_reducible repeat (first | refine qe0 ?_ _ | refine qf0 ?_ | refine qd0 ?_ _)); exact BK235.out))) : P := h
theorem z7_26 {P : Prop} (h : P := by rw [hg]; exact (qx0 (w := w) (g := g) (row := none) (by repeat (first | (with_reducible first | exact HK.out | apply qc0.set_ | apply qf1 | apply qh1 | apply qg1 | refine qp1 ?_ GW235.out _) | exact HK.out)))) : P := h
theorem z7_27 {P : Prop} (h : P := by decide) : P := h
theorem z7_28 {P : Prop} (h : P := by rw [hg]; exact (qx0 (w := w) (g := g) (row := none) (by repeat (first | (with_reducible first | exact HK.out | apply qc0.set_ | apply qf1 | apply qh1 | apply qg1) | exact HK.out)))) : P := h
theorem z7_29 {P : Prop} (h : P := by repeat (first | exact (Kd.C_below HR0.out HB.out) | (with_reducible refine Kd.qx1 ?_ _) | (with_reducible refine Kd.qw1 ?_ _) | (with_reducible refine Kd.qg2 ?_))) : P := h
theorem z7_30 {P : Prop} (h : P := by kernel_rfl) : P := h
theorem z7_31 {P : Prop} (h : P := by first | (go_simp; done) | (go_simp; rfl)) : P := h
theorem z7_32 {P : Prop} (h : P := by first | (with_reducible assumption) | assumption) : P := h
attribute [local go_sem] max2_int min2_int max_two min_two max_three min_three max_four min_four   -- for this text's walks alone
set_option linter.unusedVariables false
set_option linter.unusedSimpArgs false

/-! ### spec_Leaf: function 165 -/
mutual
def spec_Leaf.j0 : Nat → List (S209) → Int → Bool → Option (Bool)
 | 0, _, _, _ => none
 | k + 1, x0, x1, x16 => if x16 = true then (some false) else (spec_Leaf.l0 k x0 x1 0)
def spec_Leaf.l0 : Nat → List (S209) → Int → Int → Option (Bool)
 | 0, _, _, _ => none
 | k + 1, x0, x1, x5 => if x5 < (x0.length : Int) then (if 0 ≤ x5 then (if ((rd_T209 x0 x5).f1) = x1 then (some false) else (spec_Leaf.l0 k x0 x1 (wrap64 (x5 + 1)))) else (none)) else (some true)
end
def spec_Leaf.f (k : Nat) (l0 : List (S209)) (a1 : Int) : Option (Bool) := (spec_ChartOk.f k l0).bind fun t228 => (if t228 = true then ((spec_l1In.f a1 0 (wrap64 ((l0.length : Int) - 1))).bind fun t229 => (spec_Leaf.j0 k l0 a1 (!t229))) else (spec_Leaf.j0 k l0 a1 true))
theorem spec_Leaf.mono_l : ∀ k, (∀ y0 y1 y2, LeO (spec_Leaf.j0 k y0 y1 y2) (spec_Leaf.j0 (k + 1) y0 y1 y2)) ∧ (∀ y0 y1 y2, LeO (spec_Leaf.l0 k y0 y1 y2) (spec_Leaf.l0 (k + 1) y0 y1 y2))
 | 0 => ⟨fun _ _ _ r h => by simp [spec_Leaf.j0] at h, fun _ _ _ r h => by simp [spec_Leaf.l0] at h⟩
 | k + 1 => by
  obtain ⟨ih0, ih1⟩ := spec_Leaf.mono_l k
  refine ⟨?_, ?_⟩
  ·intro y0 y1 y2
   unfold spec_Leaf.j0
   repeat' first
   | (with_reducible exact ih0 _ _ _)
   | (with_reducible exact ih1 _ _ _)
   | (with_reducible exact spec_ChartOk.mono _ _)
   | (with_reducible exact LeO.refl _)
   | (with_reducible exact LeO.none _)
   | (with_reducible refine LeO.ite ?_ ?_)
   | (with_reducible refine LeO.bind ?_ (fun _ => ?_))
   | exact ih0 _ _ _
   | exact ih1 _ _ _
   | exact spec_ChartOk.mono _ _
   | exact LeO.none _
   | refine LeO.ite ?_ ?_
   | refine LeO.bind ?_ (fun _ => ?_)
  ·intro y0 y1 y2
   unfold spec_Leaf.l0
   repeat' first
   | (with_reducible exact ih0 _ _ _)
   | (with_reducible exact ih1 _ _ _)
   | (with_reducible exact spec_ChartOk.mono _ _)
   | (with_reducible exact LeO.refl _)
   | (with_reducible exact LeO.none _)
   | (with_reducible refine LeO.ite ?_ ?_)
   | (with_reducible refine LeO.bind ?_ (fun _ => ?_))
   | exact ih0 _ _ _
   | exact ih1 _ _ _
   | exact spec_ChartOk.mono _ _
   | exact LeO.none _
   | refine LeO.ite ?_ ?_
   | refine LeO.bind ?_ (fun _ => ?_)
theorem spec_Leaf.mono : ∀ a0 a1 k, LeO (spec_Leaf.f k a0 a1) (spec_Leaf.f (k + 1) a0 a1) := by
 intro a0 a1 k
 obtain ⟨ih0, ih1⟩ := spec_Leaf.mono_l k
 unfold spec_Leaf.f
 repeat' first
   | (with_reducible exact ih0 _ _ _)
   | (with_reducible exact ih1 _ _ _)
   | (with_reducible exact spec_ChartOk.mono _ _)
   | (with_reducible exact LeO.refl _)
   | (with_reducible exact LeO.none _)
   | (with_reducible refine LeO.ite ?_ ?_)
   | (with_reducible refine LeO.bind ?_ (fun _ => ?_))
   | exact ih0 _ _ _
   | exact ih1 _ _ _
   | exact spec_ChartOk.mono _ _
   | exact LeO.none _
   | refine LeO.ite ?_ ?_
   | refine LeO.bind ?_ (fun _ => ?_)
set_option maxHeartbeats 8000000 in
set_option maxRecDepth 100000 in
theorem spec_Leaf.calls (k : Nat) (A0 : Option Addr) (c0 : Nat) (l0 : List (S209)) (a1 : Int) (r : Bool) (w : World) (hr0 : Kd.C k209 w A0 l0.length l0) (hc0 : l0.length ≤ c0) (h : spec_Leaf.f k l0 a1 = some r) :
  Calls Try.prog 165 #[.slice A0 l0.length c0, .int .i64 a1] w fun e w' => e = .returned (.bool r) ∧ Below w.heap.size w w' := by
 have HR0 := Aside0.mk hr0
 have HC0 := Aside0.mk hc0
 clear hr0 hc0
 have HB := Aside0.mk (Below.refl w.heap.size w)
 have H : ((spec_ChartOk.f k l0).bind fun t228 => (if t228 = true then ((spec_l1In.f a1 0 (wrap64 ((l0.length : Int) - 1))).bind fun t229 => (spec_Leaf.j0 k l0 a1 (!t229))) else (spec_Leaf.j0 k l0 a1 true))) = some r := h
 clear h
 have HC3 := Aside0.mk H
 clear H
 go_enter Try.func165, Try.ntmps165
 go_upto_region 1 with (fail)
 go_cut [16] (fun v16 wc => ∃ (kq : Nat) (x16_2 : Bool), v16 = .bool x16_2 ∧ Aside0 (spec_Leaf.j0 kq l0 a1 x16_2 = some r) ∧ Aside0 (kq ≤ k) ∧ Aside0 (Below w.heap.size w wc))
 case first =>
  have H := HC3.out
  clear HC3
  replace H := Option.bind_eq_some_iff.mp H
  obtain ⟨t228, A40, H⟩ := H
  replace H : (if t228 = true then ((spec_l1In.f a1 0 (wrap64 ((l0.length : Int) - 1))).bind fun t229 => (spec_Leaf.j0 k l0 a1 (!t229))) else (spec_Leaf.j0 k l0 a1 true)) = some r := H
  have A4 := Aside0.mk A40
  clear A40
  by_cases c5 : t228 = true
  ·subst c5
   have H1 : ((spec_l1In.f a1 0 (wrap64 ((l0.length : Int) - 1))).bind fun t229 => (spec_Leaf.j0 k l0 a1 (!t229))) = some r := by rw [if_pos rfl] at H; exact H
   clear H
   have H := H1
   clear H1
   replace H := Option.bind_eq_some_iff.mp H
   obtain ⟨t229, A60, H⟩ := H
   replace H : (spec_Leaf.j0 k l0 a1 (!t229)) = some r := H
   have A6 := Aside0.mk A60
   clear A60
   have H' := Aside0.mk H
   clear H
   go_wp2_with (first | ((with_reducible refine qg0 (f := 166) rfl ?_); refine qt0 (some 7) rfl rfl Try.func166 z7_30 rfl #[.slice A0 l0.length c0] rfl z7_4 ?_; (with_reducible refine (spec_ChartOk.calls k _ _ l0 true _ ?side1 ?side2 A4.out).mono ?_); (case side1 => exact z7_29); (case side2 => exact HC0.out); rintro e w7 ⟨rfl, hb⟩; refine ⟨_, rfl, ?_⟩; have n0_ := Aside0.mk (ql0 z7_16 hb); clear HB; have HB := n0_; clear n0_; (try clear hb); (try clear hb2); (try clear hk); (try clear hi)) | (go_at_call 79; (with_reducible refine (spec_l1In.calls a1 0 (wrap64 ((l0.length : Int) - 1)) t229 _ A6.out).mono ?_); rintro e w' ⟨rfl, ⟨nd, rfl⟩⟩))
   go_meet
   case rel => exact ⟨_, (!t229), z7_22, H', ⟨by first | omega | exact Nat.le_refl _⟩, ⟨z7_16⟩⟩
  replace c5 := Bool.eq_false_iff.mpr c5
  subst c5
  have H1 : (spec_Leaf.j0 k l0 a1 true) = some r := by rw [if_neg (show ¬ (false = true) from z7_27)] at H; exact H
  clear H
  have H := H1
  clear H1
  have H' := Aside0.mk H
  clear H
  go_wp2_with (first | ((with_reducible refine qg0 (f := 166) rfl ?_); refine qt0 (some 7) rfl rfl Try.func166 z7_30 rfl #[.slice A0 l0.length c0] rfl z7_4 ?_; (with_reducible refine (spec_ChartOk.calls k _ _ l0 false _ ?side1 ?side2 A4.out).mono ?_); (case side1 => exact z7_29); (case side2 => exact HC0.out); rintro e w8 ⟨rfl, hb⟩; refine ⟨_, rfl, ?_⟩; have n0_ := Aside0.mk (ql0 z7_16 hb); clear HB; have HB := n0_; clear n0_; (try clear hb); (try clear hb2); (try clear hk); (try clear hi)))
  go_meet
  case rel => exact ⟨_, (true), z7_22, H', ⟨by first | omega | exact Nat.le_refl _⟩, ⟨z7_16⟩⟩
 case rest =>
  clear HC3
  try clear c1
  try clear p2
  try clear c5
  try clear p6
  obtain ⟨kq, x16_2, rfl, HA, HJ2, HB⟩ := hcut
  cases kq with
  | zero => exact absurd HA.out (by simp [spec_Leaf.j0])
  | succ kj2 =>
   have H := HA.out
   clear HA
   simp only [spec_Leaf.j0] at H
   by_cases c9 : x16_2 = true
   ·subst c9
    have H1 : (some false) = some r := by rw [if_pos rfl] at H; exact H
    clear H
    have H := H1
    clear H1
    obtain rfl := Option.some.inj H
    go_wp2
    go_ret
    exact ⟨z7_20, z7_16⟩
   replace c9 := Bool.eq_false_iff.mpr c9
   subst c9
   have H1 : (spec_Leaf.l0 kj2 l0 a1 0) = some r := by rw [if_neg (show ¬ (false = true) from z7_27)] at H; exact H
   clear H
   have H := H1
   clear H1
   have H' := Aside0.mk H
   clear H
   go_wp2
   go_loopg [5] kj2 (fun kq v5 w' => ∃ (x5_2 : Int), v5 = .int .i64 x5_2 ∧ Aside0 (spec_Leaf.l0 kq l0 a1 x5_2 = some r) ∧ Aside0 (kq ≤ kj2) ∧ Aside0 (Below w.heap.size w w'))
   case atStart => exact ⟨(0), z7_22, H', ⟨Nat.le_refl _⟩, ⟨z7_16⟩⟩
   case round =>
    clear H'
    try clear c1
    try clear p2
    try clear c5
    try clear p6
    try clear c9
    try clear p2
    try clear p6
    obtain ⟨x5_2, rfl, HA, HK2, HB⟩ := hrel
    cases gk with
    | zero => exact absurd HA.out (by simp [spec_Leaf.l0])
    | succ k2 =>
     have H := HA.out
     clear HA
     simp only [spec_Leaf.l0] at H
     by_cases c10 : x5_2 < (l0.length : Int)
     ·rw [if_pos c10] at H
      have c10b0 : decide (x5_2 < (l0.length : Int)) = true := decide_eq_true c10
      clear c10
      by_cases c11 : 0 ≤ x5_2
      case neg => rw [if_neg c11] at H; exact absurd H (by simp)
      rw [if_pos c11] at H
      have c11b0 : decide (0 ≤ x5_2) = true := decide_eq_true c11
      clear c11
      by_cases c12 : ((rd_T209 l0 x5_2).f1) = a1
      ·rw [if_pos c12] at H
       have c12b0 : (((rd_T209 l0 x5_2).f1) == a1) = true := beq_iff_eq.mpr c12
       have c12b1 : (((rd_T209 l0 x5_2).f1) != a1) = false := bne_eq_false_iff_eq.mpr c12
       clear c12
       obtain rfl := Option.some.inj H
       have p230 : 0 ≤ (x5_2 : Int) := of_decide_eq_true z7_32
       have q230 : x5_2 < (l0.length : Int) := of_decide_eq_true z7_32
       obtain ⟨ad230, e230, hx230_0, hx230_1, hx230_2⟩ := at_T209 HR0.out x5_2 p230 q230
       cases e230
       replace hx230_0 := (HB.out.cell (World.block_lt_of_cell? w _ hx230_0)).trans hx230_0
       replace hx230_1 := (HB.out.cell (World.block_lt_of_cell? w _ hx230_1)).trans hx230_1
       replace hx230_2 := (HB.out.cell (World.block_lt_of_cell? w _ hx230_2)).trans hx230_2
       replace p230 := eq_true p230
       replace q230 := eq_true q230
       go_wp2
       go_ret
       exact ⟨z7_20, z7_16⟩
      rw [if_neg c12] at H
      have c12b0 : (((rd_T209 l0 x5_2).f1) == a1) = false := beq_eq_false_iff_ne.mpr c12
      have c12b1 : (((rd_T209 l0 x5_2).f1) != a1) = true := bne_iff_ne.mpr c12
      have H' := Aside0.mk H
      clear H
      have p230 : 0 ≤ (x5_2 : Int) := of_decide_eq_true z7_32
      have q230 : x5_2 < (l0.length : Int) := of_decide_eq_true z7_32
      obtain ⟨ad230, e230, hx230_0, hx230_1, hx230_2⟩ := at_T209 HR0.out x5_2 p230 q230
      cases e230
      replace hx230_0 := (HB.out.cell (World.block_lt_of_cell? w _ hx230_0)).trans hx230_0
      replace hx230_1 := (HB.out.cell (World.block_lt_of_cell? w _ hx230_1)).trans hx230_1
      replace hx230_2 := (HB.out.cell (World.block_lt_of_cell? w _ hx230_2)).trans hx230_2
      replace p230 := eq_true p230
      replace q230 := eq_true q230
      go_wp2
      go_roundg k2
      case measure => have := HJ2.out; have := HK2.out; omega
      case rel => exact ⟨(wrap64 (x5_2 + 1)), z7_22, H', ⟨by have := HJ2.out; have := HK2.out; omega⟩, ⟨z7_16⟩⟩
     rw [if_neg c10] at H
     have c10b0 : decide (x5_2 < (l0.length : Int)) = false := decide_eq_false c10
     clear c10
     obtain rfl := Option.some.inj H
     go_wp2
     go_ret
     exact ⟨z7_20, z7_16⟩

/-! ### spec_l5DrawLeaf: function 163 -/
def spec_l5DrawLeaf.l0 : Nat → List (S209) → Int → Int → List Int → Int → Int → Option (Int × Int × Int)
 | 0, _, _, _, _, _, _ => none
 | k + 1, x1, x5, x6, x1000, x1001, x1002 => if x6 < (x1.length : Int) then (if (x1.length : Int) = 0 then (none) else ((spec_Leaf.f k x1 (Int.tmod (wrap64 (x5 + x6)) (x1.length : Int))).bind fun t234 => (if t234 = true then (some (Int.tmod (wrap64 (x5 + x6)) (x1.length : Int), x1001, x1002)) else (spec_l5DrawLeaf.l0 k x1 x5 (wrap64 (x6 + 1)) x1000 x1001 x1002)))) else (some (x5, x1001, x1002))
def spec_l5DrawLeaf.f (k : Nat) (s0_0 : List Int) (s0_1 : Int) (s0_2 : Int) (l1 : List (S209)) : Option (Int × Int × Int) := (spec_l1Below.f s0_0 s0_1 s0_2 (l1.length : Int)).bind fun bt231 => (spec_l5DrawLeaf.l0 k l1 bt231.1 0 s0_0 bt231.2.1 bt231.2.2)
theorem spec_l5DrawLeaf.mono_l : ∀ k, (∀ y0 y1 y2 y3 y4 y5, LeO (spec_l5DrawLeaf.l0 k y0 y1 y2 y3 y4 y5) (spec_l5DrawLeaf.l0 (k + 1) y0 y1 y2 y3 y4 y5))
 | 0 => fun _ _ _ _ _ _ r h => by simp [spec_l5DrawLeaf.l0] at h
 | k + 1 => by
  have ih0 := spec_l5DrawLeaf.mono_l k
  ·intro y0 y1 y2 y3 y4 y5
   unfold spec_l5DrawLeaf.l0
   repeat' first
   | (with_reducible exact ih0 _ _ _ _ _ _)
   | (with_reducible exact spec_Leaf.mono _ _ _)
   | (with_reducible exact LeO.refl _)
   | (with_reducible exact LeO.none _)
   | (with_reducible refine LeO.ite ?_ ?_)
   | (with_reducible refine LeO.bind ?_ (fun _ => ?_))
   | exact ih0 _ _ _ _ _ _
   | exact spec_Leaf.mono _ _ _
   | exact LeO.none _
   | refine LeO.ite ?_ ?_
   | refine LeO.bind ?_ (fun _ => ?_)
theorem spec_l5DrawLeaf.mono : ∀ a0 a1 a2 a3 k, LeO (spec_l5DrawLeaf.f k a0 a1 a2 a3) (spec_l5DrawLeaf.f (k + 1) a0 a1 a2 a3) := by
 intro a0 a1 a2 a3 k
 have ih0 := spec_l5DrawLeaf.mono_l k
 unfold spec_l5DrawLeaf.f
 repeat' first
   | (with_reducible exact ih0 _ _ _ _ _ _)
   | (with_reducible exact spec_Leaf.mono _ _ _)
   | (with_reducible exact LeO.refl _)
   | (with_reducible exact LeO.none _)
   | (with_reducible refine LeO.ite ?_ ?_)
   | (with_reducible refine LeO.bind ?_ (fun _ => ?_))
   | exact ih0 _ _ _ _ _ _
   | exact spec_Leaf.mono _ _ _
   | exact LeO.none _
   | refine LeO.ite ?_ ?_
   | refine LeO.bind ?_ (fun _ => ?_)
set_option maxHeartbeats 8000000 in
set_option maxRecDepth 100000 in
theorem spec_l5DrawLeaf.calls (k : Nat) (g : Nat) (s0_0 : List Int) (s0_1 : Int) (s0_2 : Int) (A1 : Option Addr) (c1 : Nat) (l1 : List (S209)) (r1 : Int) (r2 : Int) (r3 : Int) (w0 w : World) (hI : IsS186 w0 w g s0_0 s0_1 s0_2) (hB : Below w0.heap.size w0 w) (hr1 : ∀ W_, qc0 w W_ g none → Kd.C k209 W_ A1 l1.length l1) (hc1 : l1.length ≤ c1) (h : spec_l5DrawLeaf.f k s0_0 s0_1 s0_2 l1 = some (r1, r2, r3)) :
  Calls Try.prog 163 #[.pointer (some ⟨g, 0, none⟩), .slice A1 l1.length c1] w fun e w' => e = .returned (.int .i64 r1) ∧ IsS186 w0 w' g s0_0 r2 r3 ∧ Below w0.heap.size w0 w' ∧ qc0 w w' g none := by
 have HR1 := Aside0.mk hr1
 have HC1 := Aside0.mk hc1
 clear hr1 hc1
 have HI0 := Aside0.mk hI
 have HK := Aside0.mk (qc0.refl w g none)
 have HL := Aside0.mk hB.size
 clear hI
 have HW0 := Aside0.mk hB.size
 have HB := Aside0.mk hB
 clear hB
 have H : ((spec_l1Below.f s0_0 s0_1 s0_2 (l1.length : Int)).bind fun bt231 => (spec_l5DrawLeaf.l0 k l1 bt231.1 0 s0_0 bt231.2.1 bt231.2.2)) = some (r1, r2, r3) := h
 clear h
 replace H := Option.bind_eq_some_iff.mp H
 obtain ⟨⟨t231, t232, t233⟩, A30, H⟩ := H
 replace H : (spec_l5DrawLeaf.l0 k l1 t231 0 s0_0 t232 t233) = some (r1, r2, r3) := H
 have A3 := Aside0.mk A30
 clear A30
 have H' := Aside0.mk H
 clear H
 go_enter Try.func163, Try.ntmps163
 go_wp2_with (first | ((with_reducible refine qg0 (f := 61) rfl ?_); refine qt0 (some 11) rfl rfl Try.func61 z7_30 rfl #[.pointer (some ⟨g, 0, none⟩), .int .i64 (l1.length : Int)] rfl z7_4 ?_; (with_reducible refine (spec_l1Below.calls g s0_0 s0_1 s0_2 (l1.length : Int) t231 t232 t233 w0 _ ?side1 ?side2 A3.out).mono ?_); (case side1 => exact z7_11); (case side2 => exact z7_14); rintro e w4 ⟨rfl, hi, hb, hk⟩; refine ⟨_, rfl, ?_⟩; have n0_ := Aside0.mk (qc0.trans z7_10 hk (.inl rfl)); have n1_ := Aside0.mk (hb); have n2_ := Aside0.mk (hi); clear HK; clear HB; clear HI0; have HK := n0_; have HB := n1_; have HI0 := n2_; clear n0_ n1_ n2_; (try clear hb); (try clear hb2); (try clear hk); (try clear hi)))
 go_loopg [6] k (fun kq v6 w' => ∃ (x6_1 : Int), v6 = .int .i64 x6_1 ∧ Aside0 (spec_l5DrawLeaf.l0 kq l1 t231 x6_1 s0_0 t232 t233 = some (r1, r2, r3)) ∧ Aside0 (kq ≤ k) ∧ Aside0 (IsS186 w0 w' g s0_0 t232 t233) ∧ Aside0 (qc0 w w' g none) ∧ Aside0 (Below w0.heap.size w0 w'))
 case atStart => exact ⟨(0), z7_22, H', ⟨Nat.le_refl _⟩, ⟨z7_11⟩, ⟨z7_10⟩, ⟨z7_14⟩⟩
 case round =>
  clear H'
  try clear c1
  try clear p2
  obtain ⟨x6_1, rfl, HA, HK1, HI0, HK, HB⟩ := hrel
  cases gk with
  | zero => exact absurd HA.out (by simp [spec_l5DrawLeaf.l0])
  | succ k1 =>
   have H := HA.out
   clear HA
   simp only [spec_l5DrawLeaf.l0] at H
   by_cases c5 : x6_1 < (l1.length : Int)
   ·rw [if_pos c5] at H
    have c5b0 : decide (x6_1 < (l1.length : Int)) = true := decide_eq_true c5
    clear c5
    by_cases c6 : (l1.length : Int) = 0
    ·rw [if_pos c6] at H
     exact absurd H (by simp)
    rw [if_neg c6] at H
    have c6b0 : ((l1.length : Int) == 0) = false := beq_eq_false_iff_ne.mpr c6
    have c6b1 : ((l1.length : Int) != 0) = true := bne_iff_ne.mpr c6
    have c6b2 : ¬ (l1 = []) := fun h_ => c6 (by rw [h_]; rfl)
    replace H := Option.bind_eq_some_iff.mp H
    obtain ⟨t234, A70, H⟩ := H
    replace H : (if t234 = true then (some (Int.tmod (wrap64 (t231 + x6_1)) (l1.length : Int), t232, t233)) else (spec_l5DrawLeaf.l0 k1 l1 t231 (wrap64 (x6_1 + 1)) s0_0 t232 t233)) = some (r1, r2, r3) := H
    have A7 := Aside0.mk A70
    clear A70
    by_cases c8 : t234 = true
    ·subst c8
     have H1 : (some (Int.tmod (wrap64 (t231 + x6_1)) (l1.length : Int), t232, t233)) = some (r1, r2, r3) := by rw [if_pos rfl] at H; exact H
     clear H
     have H := H1
     clear H1
     simp only [Option.some.injEq, Prod.mk.injEq] at H
     obtain ⟨rfl, rfl, rfl⟩ := H
     go_wp2_with (first | ((with_reducible refine qg0 (f := 165) rfl ?_); refine qt0 (some 26) rfl rfl Try.func165 z7_30 rfl #[.slice A1 l1.length c1, .int .i64 (Int.tmod (wrap64 (t231 + x6_1)) (l1.length : Int))] rfl z7_4 ?_; (with_reducible refine (spec_Leaf.calls k1 _ _ l1 (Int.tmod (wrap64 (t231 + x6_1)) (l1.length : Int)) true _ ?side1 ?side2 A7.out).mono ?_); (case side1 => exact Kd.C_foot_now HR1.out z7_10); (case side2 => exact HC1.out); rintro e w9 ⟨rfl, hb⟩; refine ⟨_, rfl, ?_⟩; have n0_ := Aside0.mk (IsS186.below z7_11 hb); have n1_ := Aside0.mk (qc0.trans z7_10 (qc0.of_below hb g none) (.inl rfl)); have n2_ := Aside0.mk (ql0 z7_14 hb); clear HI0; clear HK; clear HB; have HI0 := n0_; have HK := n1_; have HB := n2_; clear n0_ n1_ n2_; (try clear hb); (try clear hb2); (try clear hk); (try clear hi)))
     go_ret
     exact ⟨z7_20, z7_11, z7_14, z7_10⟩
    replace c8 := Bool.eq_false_iff.mpr c8
    subst c8
    have H1 : (spec_l5DrawLeaf.l0 k1 l1 t231 (wrap64 (x6_1 + 1)) s0_0 t232 t233) = some (r1, r2, r3) := by rw [if_neg (show ¬ (false = true) from z7_27)] at H; exact H
    clear H
    have H := H1
    clear H1
    have H' := Aside0.mk H
    clear H
    go_wp2_with (first | ((with_reducible refine qg0 (f := 165) rfl ?_); refine qt0 (some 26) rfl rfl Try.func165 z7_30 rfl #[.slice A1 l1.length c1, .int .i64 (Int.tmod (wrap64 (t231 + x6_1)) (l1.length : Int))] rfl z7_4 ?_; (with_reducible refine (spec_Leaf.calls k1 _ _ l1 (Int.tmod (wrap64 (t231 + x6_1)) (l1.length : Int)) false _ ?side1 ?side2 A7.out).mono ?_); (case side1 => exact Kd.C_foot_now HR1.out z7_10); (case side2 => exact HC1.out); rintro e w10 ⟨rfl, hb⟩; refine ⟨_, rfl, ?_⟩; have n0_ := Aside0.mk (IsS186.below z7_11 hb); have n1_ := Aside0.mk (qc0.trans z7_10 (qc0.of_below hb g none) (.inl rfl)); have n2_ := Aside0.mk (ql0 z7_14 hb); clear HI0; clear HK; clear HB; have HI0 := n0_; have HK := n1_; have HB := n2_; clear n0_ n1_ n2_; (try clear hb); (try clear hb2); (try clear hk); (try clear hi)))
    go_roundg k1
    case measure => have := HK1.out; omega
    case rel => exact ⟨(wrap64 (x6_1 + 1)), z7_22, H', ⟨by have := HK1.out; omega⟩, ⟨z7_11⟩, ⟨z7_10⟩, ⟨z7_14⟩⟩
   rw [if_neg c5] at H
   have c5b0 : decide (x6_1 < (l1.length : Int)) = false := decide_eq_false c5
   clear c5
   simp only [Option.some.injEq, Prod.mk.injEq] at H
   obtain ⟨rfl, rfl, rfl⟩ := H
   go_wp2
   go_ret
   exact ⟨z7_20, z7_11, z7_14, z7_10⟩

/-! ### spec_l5DrawEntry: function 155 -/
mutual
def spec_l5DrawEntry.l0 : Nat → Int → List Int → Int → Int → List (S209) → Int → Int → Int → Int → ByteArray → List (S100) → Option (Int × Int × ByteArray × (List (S100)) × Int × Int)
 | 0, _, _, _, _, _, _, _, _, _, _, _ => none
 | k + 1, x6, x1000, x1001, x1002, x236000, x236001, x236002, x250000, x250001, x250002, x250003 => if x6 > 0 then ((spec_l1Below.f x1000 x1001 x1002 x236002).bind fun bt253 => ((spec_l1Below.f x1000 bt253.2.1 bt253.2.2 x236001).bind fun bt256 => ((spec_l1Below.f x1000 bt256.2.1 bt256.2.2 20000).bind fun bt259 => (if bt253.1 = 0 then (spec_l5DrawEntry.j1 k x6 bt253.1 bt256.1 (wrap64 (bt259.1 - 10000)) (wrap64 (bt259.1 - 10000)) x1000 bt259.2.1 bt259.2.2 x236000 x236001 x236002 x250000 x250001 x250002 x250003) else ((spec_l1Below.f x1000 bt259.2.1 bt259.2.2 100).bind fun bt262 => ((spec_l1Below.f x1000 bt262.2.1 bt262.2.2 3).bind fun bt265 => (spec_l5DrawEntry.j1 k x6 bt253.1 bt256.1 (wrap64 (bt259.1 - 10000)) (wrap64 ((wrap64 (Int.tdiv (wrap64 ((wrap64 (bt259.1 - 10000)) * (wrap64 (50 + bt262.1)))) 100)) + bt265.1)) x1000 bt265.2.1 bt265.2.2 x236000 x236001 x236002 x250000 x250001 x250002 x250003))))))) else (some (x250000, x250001, x250002, x250003, x1001, x1002))
def spec_l5DrawEntry.j1 : Nat → Int → Int → Int → Int → Int → List Int → Int → Int → List (S209) → Int → Int → Int → Int → ByteArray → List (S100) → Option (Int × Int × ByteArray × (List (S100)) × Int × Int)
 | 0, _, _, _, _, _, _, _, _, _, _, _, _, _, _, _ => none
 | k + 1, x6, x7, x8, x9, x10, x1000, x1001, x1002, x236000, x236001, x236002, x250000, x250001, x250002, x250003 => (spec_l5DrawLeaf.f k x1000 x1001 x1002 x236000).bind fun bt268 => ((spec_l5DrawLeaf.f k x1000 bt268.2.1 bt268.2.2 x236000).bind fun bt271 => (if x250003.length < 3518437208883 then ((some (x250003 ++ [(⟨bt268.1, x8, x7, x9, x10⟩ : S100)] : List (S100))).bind fun y274 => ((spec_l1Once.f x1000 bt271.2.1 bt271.2.2 3).bind fun bt277 => (if bt277.1 = true then ((spec_l1Below.f x1000 bt277.2.1 bt277.2.2 200).bind fun bt280 => (if x7 = 0 then (if y274.length < 3518437208883 then ((some (y274 ++ [(⟨bt271.1, x8, x7, wrap64 (-bt280.1), wrap64 (-bt280.1)⟩ : S100)] : List (S100))).bind fun y283 => (if y283.length < 3518437208883 then (spec_l5DrawEntry.l0 k (wrap64 (x6 - 1)) x1000 bt280.2.1 bt280.2.2 x236000 x236001 x236002 x250000 x250001 x250002 (y283 ++ [(⟨bt271.1, x8, x7, wrap64 (-(wrap64 (x9 - bt280.1))), wrap64 (-(wrap64 (x10 - bt280.1)))⟩ : S100)])) else (none))) else (none)) else ((spec_l1Below.f x1000 bt280.2.1 bt280.2.2 100).bind fun bt289 => (if y274.length < 3518437208883 then ((some (y274 ++ [(⟨bt271.1, x8, x7, wrap64 (-bt280.1), wrap64 (-bt289.1)⟩ : S100)] : List (S100))).bind fun y292 => (if y292.length < 3518437208883 then (spec_l5DrawEntry.l0 k (wrap64 (x6 - 1)) x1000 bt289.2.1 bt289.2.2 x236000 x236001 x236002 x250000 x250001 x250002 (y292 ++ [(⟨bt271.1, x8, x7, wrap64 (-(wrap64 (x9 - bt280.1))), wrap64 (-(wrap64 (x10 - bt289.1)))⟩ : S100)])) else (none))) else (none))))) else (if y274.length < 3518437208883 then (spec_l5DrawEntry.l0 k (wrap64 (x6 - 1)) x1000 bt277.2.1 bt277.2.2 x236000 x236001 x236002 x250000 x250001 x250002 (y274 ++ [(⟨bt271.1, x8, x7, wrap64 (-x9), wrap64 (-x10)⟩ : S100)])) else (none))))) else (none)))
end
def spec_l5DrawEntry.f (k : Nat) (s0_0 : List Int) (s0_1 : Int) (s0_2 : Int) (l1_0 : List (S209)) (a1_1 : Int) (a1_2 : Int) : Option (Int × Int × ByteArray × (List (S100)) × Int × Int) := (spec_l1Below.f s0_0 s0_1 s0_2 800).bind fun bt237 => ((spec_l1Below.f s0_0 bt237.2.1 bt237.2.2 3).bind fun bt240 => ((spec_l1Pick.f s0_0 bt240.2.1 bt240.2.2 (([(⟨#[]⟩ : ByteArray), (⟨#[103, 111, 111, 100, 115]⟩ : ByteArray), (⟨#[119, 97, 103, 101, 115, 32, 51]⟩ : ByteArray), (⟨#[97, 32, 98, 32, 99]⟩ : ByteArray)] : List ByteArray))).bind fun bt246 => ((spec_l1Below.f s0_0 bt246.2.1 bt246.2.2 3).bind fun bt250 => (spec_l5DrawEntry.l0 k (wrap64 (1 + bt250.1)) s0_0 bt250.2.1 bt250.2.2 l1_0 a1_1 a1_2 bt237.1 bt240.1 bt246.1 ([] : List (S100))))))
theorem spec_l5DrawEntry.mono_l : ∀ k, (∀ y0 y1 y2 y3 y4 y5 y6 y7 y8 y9 y10, LeO (spec_l5DrawEntry.l0 k y0 y1 y2 y3 y4 y5 y6 y7 y8 y9 y10) (spec_l5DrawEntry.l0 (k + 1) y0 y1 y2 y3 y4 y5 y6 y7 y8 y9 y10)) ∧ (∀ y0 y1 y2 y3 y4 y5 y6 y7 y8 y9 y10 y11 y12 y13 y14, LeO (spec_l5DrawEntry.j1 k y0 y1 y2 y3 y4 y5 y6 y7 y8 y9 y10 y11 y12 y13 y14) (spec_l5DrawEntry.j1 (k + 1) y0 y1 y2 y3 y4 y5 y6 y7 y8 y9 y10 y11 y12 y13 y14))
 | 0 => ⟨fun _ _ _ _ _ _ _ _ _ _ _ r h => by simp [spec_l5DrawEntry.l0] at h, fun _ _ _ _ _ _ _ _ _ _ _ _ _ _ _ r h => by simp [spec_l5DrawEntry.j1] at h⟩
 | k + 1 => by
  obtain ⟨ih0, ih1⟩ := spec_l5DrawEntry.mono_l k
  refine ⟨?_, ?_⟩
  ·intro y0 y1 y2 y3 y4 y5 y6 y7 y8 y9 y10
   unfold spec_l5DrawEntry.l0
   repeat' first
   | (with_reducible exact ih0 _ _ _ _ _ _ _ _ _ _ _)
   | (with_reducible exact ih1 _ _ _ _ _ _ _ _ _ _ _ _ _ _ _)
   | (with_reducible exact spec_l5DrawLeaf.mono _ _ _ _ _)
   | (with_reducible exact LeO.refl _)
   | (with_reducible exact LeO.none _)
   | (with_reducible refine LeO.ite ?_ ?_)
   | (with_reducible refine LeO.bind ?_ (fun _ => ?_))
   | exact ih0 _ _ _ _ _ _ _ _ _ _ _
   | exact ih1 _ _ _ _ _ _ _ _ _ _ _ _ _ _ _
   | exact spec_l5DrawLeaf.mono _ _ _ _ _
   | exact LeO.none _
   | refine LeO.ite ?_ ?_
   | refine LeO.bind ?_ (fun _ => ?_)
  ·intro y0 y1 y2 y3 y4 y5 y6 y7 y8 y9 y10 y11 y12 y13 y14
   unfold spec_l5DrawEntry.j1
   repeat' first
   | (with_reducible exact ih0 _ _ _ _ _ _ _ _ _ _ _)
   | (with_reducible exact ih1 _ _ _ _ _ _ _ _ _ _ _ _ _ _ _)
   | (with_reducible exact spec_l5DrawLeaf.mono _ _ _ _ _)
   | (with_reducible exact LeO.refl _)
   | (with_reducible exact LeO.none _)
   | (with_reducible refine LeO.ite ?_ ?_)
   | (with_reducible refine LeO.bind ?_ (fun _ => ?_))
   | exact ih0 _ _ _ _ _ _ _ _ _ _ _
   | exact ih1 _ _ _ _ _ _ _ _ _ _ _ _ _ _ _
   | exact spec_l5DrawLeaf.mono _ _ _ _ _
   | exact LeO.none _
   | refine LeO.ite ?_ ?_
   | refine LeO.bind ?_ (fun _ => ?_)
theorem spec_l5DrawEntry.mono : ∀ a0 a1 a2 a3 a4 a5 k, LeO (spec_l5DrawEntry.f k a0 a1 a2 a3 a4 a5) (spec_l5DrawEntry.f (k + 1) a0 a1 a2 a3 a4 a5) := by
 intro a0 a1 a2 a3 a4 a5 k
 obtain ⟨ih0, ih1⟩ := spec_l5DrawEntry.mono_l k
 unfold spec_l5DrawEntry.f
 repeat' first
   | (with_reducible exact ih0 _ _ _ _ _ _ _ _ _ _ _)
   | (with_reducible exact ih1 _ _ _ _ _ _ _ _ _ _ _ _ _ _ _)
   | (with_reducible exact spec_l5DrawLeaf.mono _ _ _ _ _)
   | (with_reducible exact LeO.refl _)
   | (with_reducible exact LeO.none _)
   | (with_reducible refine LeO.ite ?_ ?_)
   | (with_reducible refine LeO.bind ?_ (fun _ => ?_))
   | exact ih0 _ _ _ _ _ _ _ _ _ _ _
   | exact ih1 _ _ _ _ _ _ _ _ _ _ _ _ _ _ _
   | exact spec_l5DrawLeaf.mono _ _ _ _ _
   | exact LeO.none _
   | refine LeO.ite ?_ ?_
   | refine LeO.bind ?_ (fun _ => ?_)
set_option maxHeartbeats 8000000 in
set_option maxRecDepth 100000 in
theorem spec_l5DrawEntry.calls (k : Nat) (g : Nat) (s0_0 : List Int) (s0_1 : Int) (s0_2 : Int) (A1_0 : Option Addr) (c1_0 : Nat) (l1_0 : List (S209)) (a1_1 : Int) (a1_2 : Int) (r1 : Int) (r2 : Int) (r3 : ByteArray) (r4 : List (S100)) (r5 : Int) (r6 : Int) (w0 w : World) (hI : IsS186 w0 w g s0_0 s0_1 s0_2) (hB : Below w0.heap.size w0 w) (hr1_0 : ∀ W_, qc0 w W_ g none → Kd.C k209 W_ A1_0 l1_0.length l1_0) (hc1_0 : l1_0.length ≤ c1_0) (h : spec_l5DrawEntry.f k s0_0 s0_1 s0_2 l1_0 a1_1 a1_2 = some (r1, r2, r3, r4, r5, r6)) :
  Calls Try.prog 155 #[.pointer (some ⟨g, 0, none⟩), .agg #[.slice A1_0 l1_0.length c1_0, .int .i64 a1_1, .int .i64 a1_2]] w fun e w' => ∃ v3_ : Value, e = .returned (.agg #[.int .i64 r1, .int .i64 r2, .string r3, v3_]) ∧ Kd.R k100 100 w' w.heap.size (fun _ => True) v3_ r4 ∧ IsS186 w0 w' g s0_0 r5 r6 ∧ Below w0.heap.size w0 w' ∧ qc0 w w' g none := by
 have hu174 := Try.underlying174
 have hu98 := Try.underlying98
 have hu100 := Try.underlying100
 have HR1_0 := Aside0.mk hr1_0
 have HC1_0 := Aside0.mk hc1_0
 clear hr1_0 hc1_0
 have HI0 := Aside0.mk hI
 have HK := Aside0.mk (qc0.refl w g none)
 have HL := Aside0.mk hB.size
 clear hI
 have HW0 := Aside0.mk hB.size
 have HB := Aside0.mk hB
 clear hB
 have H : ((spec_l1Below.f s0_0 s0_1 s0_2 800).bind fun bt237 => ((spec_l1Below.f s0_0 bt237.2.1 bt237.2.2 3).bind fun bt240 => ((spec_l1Pick.f s0_0 bt240.2.1 bt240.2.2 (([(⟨#[]⟩ : ByteArray), (⟨#[103, 111, 111, 100, 115]⟩ : ByteArray), (⟨#[119, 97, 103, 101, 115, 32, 51]⟩ : ByteArray), (⟨#[97, 32, 98, 32, 99]⟩ : ByteArray)] : List ByteArray))).bind fun bt246 => ((spec_l1Below.f s0_0 bt246.2.1 bt246.2.2 3).bind fun bt250 => (spec_l5DrawEntry.l0 k (wrap64 (1 + bt250.1)) s0_0 bt250.2.1 bt250.2.2 l1_0 a1_1 a1_2 bt237.1 bt240.1 bt246.1 ([] : List (S100))))))) = some (r1, r2, r3, r4, r5, r6) := h
 clear h
 replace H := Option.bind_eq_some_iff.mp H
 obtain ⟨⟨t237, t238, t239⟩, A30, H⟩ := H
 replace H : ((spec_l1Below.f s0_0 t238 t239 3).bind fun bt240 => ((spec_l1Pick.f s0_0 bt240.2.1 bt240.2.2 (([(⟨#[]⟩ : ByteArray), (⟨#[103, 111, 111, 100, 115]⟩ : ByteArray), (⟨#[119, 97, 103, 101, 115, 32, 51]⟩ : ByteArray), (⟨#[97, 32, 98, 32, 99]⟩ : ByteArray)] : List ByteArray))).bind fun bt246 => ((spec_l1Below.f s0_0 bt246.2.1 bt246.2.2 3).bind fun bt250 => (spec_l5DrawEntry.l0 k (wrap64 (1 + bt250.1)) s0_0 bt250.2.1 bt250.2.2 l1_0 a1_1 a1_2 t237 bt240.1 bt246.1 ([] : List (S100)))))) = some (r1, r2, r3, r4, r5, r6) := H
 have A3 := Aside0.mk A30
 clear A30
 replace H := Option.bind_eq_some_iff.mp H
 obtain ⟨⟨t240, t241, t242⟩, A40, H⟩ := H
 replace H : ((spec_l1Pick.f s0_0 t241 t242 (([(⟨#[]⟩ : ByteArray), (⟨#[103, 111, 111, 100, 115]⟩ : ByteArray), (⟨#[119, 97, 103, 101, 115, 32, 51]⟩ : ByteArray), (⟨#[97, 32, 98, 32, 99]⟩ : ByteArray)] : List ByteArray))).bind fun bt246 => ((spec_l1Below.f s0_0 bt246.2.1 bt246.2.2 3).bind fun bt250 => (spec_l5DrawEntry.l0 k (wrap64 (1 + bt250.1)) s0_0 bt250.2.1 bt250.2.2 l1_0 a1_1 a1_2 t237 t240 bt246.1 ([] : List (S100))))) = some (r1, r2, r3, r4, r5, r6) := H
 have A4 := Aside0.mk A40
 clear A40
 obtain ⟨y243, hy243⟩ : ∃ y_ : List ByteArray, y_ = (([(⟨#[]⟩ : ByteArray), (⟨#[103, 111, 111, 100, 115]⟩ : ByteArray), (⟨#[119, 97, 103, 101, 115, 32, 51]⟩ : ByteArray), (⟨#[97, 32, 98, 32, 99]⟩ : ByteArray)] : List ByteArray)) := ⟨_, rfl⟩
 replace H : ((spec_l1Pick.f s0_0 t241 t242 y243).bind fun bt246 => ((spec_l1Below.f s0_0 bt246.2.1 bt246.2.2 3).bind fun bt250 => (spec_l5DrawEntry.l0 k (wrap64 (1 + bt250.1)) s0_0 bt250.2.1 bt250.2.2 l1_0 a1_1 a1_2 t237 t240 bt246.1 ([] : List (S100))))) = some (r1, r2, r3, r4, r5, r6) := by first | (rw [hy243]; with_reducible exact H) | (have H2_ := (Option.bind_some _ _).symm.trans H; rw [hy243]; with_reducible exact H2_) | (have H2_ := (Option.bind_some _ _).symm.trans H; with_reducible exact H2_) | with_reducible exact H | (rw [hy243]; exact H) | exact H
 have Ny243 := Aside0.mk hy243
 clear hy243
 replace H := Option.bind_eq_some_iff.mp H
 obtain ⟨⟨t246, t247, t248⟩, A50, H⟩ := H
 replace H : ((spec_l1Below.f s0_0 t247 t248 3).bind fun bt250 => (spec_l5DrawEntry.l0 k (wrap64 (1 + bt250.1)) s0_0 bt250.2.1 bt250.2.2 l1_0 a1_1 a1_2 t237 t240 t246 ([] : List (S100)))) = some (r1, r2, r3, r4, r5, r6) := H
 have A5 := Aside0.mk A50
 clear A50
 replace H := Option.bind_eq_some_iff.mp H
 obtain ⟨⟨t250, t251, t252⟩, A60, H⟩ := H
 replace H : (spec_l5DrawEntry.l0 k (wrap64 (1 + t250)) s0_0 t251 t252 l1_0 a1_1 a1_2 t237 t240 t246 ([] : List (S100))) = some (r1, r2, r3, r4, r5, r6) := H
 have A6 := Aside0.mk A60
 clear A60
 have H' := Aside0.mk H
 clear H
 go_enter Try.func155, Try.ntmps155
 go_wp2_with (first | ((with_reducible refine qa1 (N := 3) rfl ?_); refine qe1 ?hg (N := 3) ?hd (cs := #[.slice A1_0 l1_0.length c1_0, .int .i64 a1_1, .int .i64 a1_2]) (t := 174) ?hr ?_; (case hd => rfl); (case hg => rfl); (case hr => exact z7_31); intro gb235 hg w7 hbox hb; have n0_ := Aside0.mk (IsS186.below z7_11 hb); have n1_ := Aside0.mk (qc0.trans z7_10 (qc0.of_below hb g none) (.inl rfl)); have n2_ := Aside0.mk (ql0 z7_14 hb); have n3_ := Aside0.mk (hbox); have n4_ := Aside0.mk ((z7_28 : w.heap.size ≤ gb235)); have n5_ := Aside0.mk ((Nat.le_trans HW0.out (z7_28 : w.heap.size ≤ gb235) : w0.heap.size ≤ gb235)); have n6_ := Aside0.mk ((by rw [hg]; exact Nat.ne_of_lt (IsS186.lt (show IsS186 w0 _ g s0_0 s0_1 s0_2 from z7_11)) : g ≠ gb235)); have n7_ := Aside0.mk ((by rw [hg]; exact Nat.ne_of_gt (IsS186.lt (show IsS186 w0 _ g s0_0 s0_1 s0_2 from z7_11)) : gb235 ≠ g)); clear HI0; clear HK; clear HB; have HI0 := n0_; have HK := n1_; have HB := n2_; have BK235 := n3_; have GW235 := n4_; have GE235 := n5_; have NB0_235 := n6_; have NB235_0 := n7_; clear n0_ n1_ n2_ n3_ n4_ n5_ n6_ n7_; clear hb hbox hg) | ((with_reducible refine qa1 (N := 4) rfl ?_); refine qe1 ?hg (N := 4) ?hd (cs := #[.int .i64 0, .int .i64 0, .string (⟨#[]⟩ : ByteArray), .slice none 0 0]) (t := 98) ?hr ?_; (case hd => rfl); (case hg => rfl); (case hr => exact z7_31); intro gb236 hg w8 hbox hb; have n0_ := Aside0.mk (IsS186.below z7_18 hb); have n1_ := Aside0.mk (qz0 (g := gb235) (o := .cells #[.slice A1_0 l1_0.length c1_0, .int .i64 a1_1, .int .i64 a1_2] 174 (0, 0)) z7_3 hb); have n2_ := Aside0.mk (qc0.trans z7_23 (qc0.of_below hb g none) (.inl rfl)); have n3_ := Aside0.mk (ql0 (by repeat (first | (with_reducible first | exact HB.out | apply qj0 | apply qh0 | apply qi0 | refine qk0 ?_ (IsS186.ge HI0.out) | refine qk0 ?_ GE235.out) | exact HB.out)) hb); have n4_ := Aside0.mk (hbox); have n5_ := Aside0.mk ((z7_26 : w.heap.size ≤ gb236)); have n6_ := Aside0.mk ((Nat.le_trans HW0.out (z7_26 : w.heap.size ≤ gb236) : w0.heap.size ≤ gb236)); have n7_ := Aside0.mk ((z7_24 : gb235 ≠ gb236)); have n8_ := Aside0.mk ((z7_25 : gb236 ≠ gb235)); have n9_ := Aside0.mk ((by rw [hg]; exact Nat.ne_of_lt (IsS186.lt (show IsS186 w0 _ g s0_0 s0_1 s0_2 from z7_18)) : g ≠ gb236)); have n10_ := Aside0.mk ((by rw [hg]; exact Nat.ne_of_gt (IsS186.lt (show IsS186 w0 _ g s0_0 s0_1 s0_2 from z7_18)) : gb236 ≠ g)); clear HI0; clear BK235; clear HK; clear HB; have HI0 := n0_; have BK235 := n1_; have HK := n2_; have HB := n3_; have BK236 := n4_; have GW236 := n5_; have GE236 := n6_; have NB235_236 := n7_; have NB236_235 := n8_; have NB0_236 := n9_; have NB236_0 := n10_; clear n0_ n1_ n2_ n3_ n4_ n5_ n6_ n7_ n8_ n9_ n10_; clear hb hbox hg) | ((with_reducible refine qg0 (f := 61) rfl ?_); refine qt0 (some 16) rfl rfl Try.func61 z7_30 rfl #[.pointer (some ⟨g, 0, none⟩), .int .i64 800] rfl z7_4 ?_; (with_reducible refine (spec_l1Below.calls g s0_0 s0_1 s0_2 800 t237 t238 t239 w0 _ ?side1 ?side2 A3.out).mono ?_); (case side1 => exact z7_9); (case side2 => exact z7_15); rintro e w9 ⟨rfl, hi, hb, hk⟩; refine ⟨_, rfl, ?_⟩; have n0_ := Aside0.mk (qc0.blk hk (g' := gb235) (o := .cells #[.slice A1_0 l1_0.length c1_0, .int .i64 a1_1, .int .i64 a1_2] 174 (0, 0)) z7_3 NB235_0.out (by simp)); have n1_ := Aside0.mk (qc0.blk hk (g' := gb236) (o := .cells #[.int .i64 0, .int .i64 0, .string (⟨#[]⟩ : ByteArray), .slice none 0 0] 98 (0, 0)) z7_5 NB236_0.out (by simp)); have n2_ := Aside0.mk (qc0.trans z7_13 hk (.inl rfl)); have n3_ := Aside0.mk (hb); have n4_ := Aside0.mk (hi); clear BK235; clear BK236; clear HK; clear HB; clear HI0; have BK235 := n0_; have BK236 := n1_; have HK := n2_; have HB := n3_; have HI0 := n4_; clear n0_ n1_ n2_ n3_ n4_; (try clear hb); (try clear hb2); (try clear hk); (try clear hi)) | ((with_reducible refine qg0 (f := 61) rfl ?_); refine qt0 (some 18) rfl rfl Try.func61 z7_30 rfl #[.pointer (some ⟨g, 0, none⟩), .int .i64 3] rfl z7_4 ?_; (with_reducible refine (spec_l1Below.calls g s0_0 t238 t239 3 t240 t241 t242 w0 _ ?side1 ?side2 A4.out).mono ?_); (case side1 => exact z7_9); (case side2 => exact z7_15); rintro e w10 ⟨rfl, hi, hb, hk⟩; refine ⟨_, rfl, ?_⟩; have n0_ := Aside0.mk (qc0.blk hk (g' := gb235) (o := .cells #[.slice A1_0 l1_0.length c1_0, .int .i64 a1_1, .int .i64 a1_2] 174 (0, 0)) z7_3 NB235_0.out (by simp)); have n1_ := Aside0.mk (qc0.blk hk (g' := gb236) (o := .cells #[.int .i64 0, .int .i64 0, .string (⟨#[]⟩ : ByteArray), .slice none 0 0] 98 (0, 0)) z7_5 NB236_0.out (by simp)); have n2_ := Aside0.mk (qc0.trans z7_13 hk (.inl rfl)); have n3_ := Aside0.mk (hb); have n4_ := Aside0.mk (hi); clear BK235; clear BK236; clear HK; clear HB; clear HI0; have BK235 := n0_; have BK236 := n1_; have HK := n2_; have HB := n3_; have HI0 := n4_; clear n0_ n1_ n2_ n3_ n4_; (try clear hb); (try clear hb2); (try clear hk); (try clear hi)) | ((with_reducible refine qa1 (N := 20) rfl ?_); refine Kd.R_lit Kd.string _ 9 ?hg (N := 20) ?hd (xs := ([(⟨#[]⟩ : ByteArray), (⟨#[103, 111, 111, 100, 115]⟩ : ByteArray), (⟨#[119, 97, 103, 101, 115, 32, 51]⟩ : ByteArray), (⟨#[97, 32, 98, 32, 99]⟩ : ByteArray)] : List ByteArray)) (inner := [.string (⟨#[]⟩ : ByteArray), .string (⟨#[103, 111, 111, 100, 115]⟩ : ByteArray), .string (⟨#[119, 97, 103, 101, 115, 32, 51]⟩ : ByteArray), .string (⟨#[97, 32, 98, 32, 99]⟩ : ByteArray)]) (ok := fun _ => True) (okp := fun _ => True) ?hr ?hp (fun _ hk => hk) trivial (Below.refl _ _) (Nat.le_refl _) (by simp) ?_; (case hd => rfl); (case hg => rfl); (case hr => exact z7_31); (case hp => exact (Reps.one (show Kd.M Kd.string _ _ _ (⟨#[]⟩ : ByteArray) [.string (⟨#[]⟩ : ByteArray)] from rfl) (Reps.one (show Kd.M Kd.string _ _ _ (⟨#[103, 111, 111, 100, 115]⟩ : ByteArray) [.string (⟨#[103, 111, 111, 100, 115]⟩ : ByteArray)] from rfl) (Reps.one (show Kd.M Kd.string _ _ _ (⟨#[119, 97, 103, 101, 115, 32, 51]⟩ : ByteArray) [.string (⟨#[119, 97, 103, 101, 115, 32, 51]⟩ : ByteArray)] from rfl) (Reps.one (show Kd.M Kd.string _ _ _ (⟨#[97, 32, 98, 32, 99]⟩ : ByteArray) [.string (⟨#[97, 32, 98, 32, 99]⟩ : ByteArray)] from rfl) (Reps.none _ _)))))); intro v244 w11 ho12 hb hg_ hnew_; clear hg_ hnew_; (first | rw [← Ny243.out] at ho12 | (simp only [Int.reduceToNat] at ho12; rw [← Ny243.out] at ho12)); have n0_ := Aside0.mk (Kd.qu1 ho12 (qx0 (w := w) (g := g) (row := none) z7_13)); have n1_ := Aside0.mk (IsS186.below z7_9 hb); have n2_ := Aside0.mk (qz0 (g := gb235) (o := .cells #[.slice A1_0 l1_0.length c1_0, .int .i64 a1_1, .int .i64 a1_2] 174 (0, 0)) z7_3 hb); have n3_ := Aside0.mk (qz0 (g := gb236) (o := .cells #[.int .i64 0, .int .i64 0, .string (⟨#[]⟩ : ByteArray), .slice none 0 0] 98 (0, 0)) z7_5 hb); have n4_ := Aside0.mk (qc0.trans z7_13 (qc0.of_below hb g none) (.inl rfl)); have n5_ := Aside0.mk (ql0 z7_15 hb); clear HI0; clear BK235; clear BK236; clear HK; clear HB; have HO245 := n0_; have HI0 := n1_; have BK235 := n2_; have BK236 := n3_; have HK := n4_; have HB := n5_; clear n0_ n1_ n2_ n3_ n4_ n5_; clear hb ho12; obtain ⟨Ao13, co13, eo13⟩ := Kd.qn1 HO245.out; subst eo13) | ((with_reducible refine qg0 (f := 76) rfl ?_); refine qt0 (some 21) rfl rfl Try.func76 z7_30 rfl #[.pointer (some ⟨g, 0, none⟩), .slice Ao13 y243.length co13] rfl z7_4 ?_; (with_reducible refine (spec_l1Pick.calls g s0_0 t241 t242 _ _ y243 t246 t247 t248 w0 _ ?side1 ?side2 ?side3 ?side4 ?side5 A5.out).mono ?_); (case side1 => exact z7_9); (case side2 => exact z7_15); (case side3 => repeat (first | exact (Kd.qn0 HO245.out).2.2 | (with_reducible refine Kd.qx1 ?_ _) | (with_reducible refine Kd.qw1 ?_ _) | (with_reducible refine Kd.qg2 ?_))); (case side4 => exact (Kd.qn0 HO245.out).2.1); (case side5 => exact far_slice (IsS186.own_ne HI0.out HO245.out z7_27)); rintro e w14 ⟨rfl, hi, hb, hk⟩; refine ⟨_, rfl, ?_⟩; have n0_ := Aside0.mk (qc0.blk hk (g' := gb235) (o := .cells #[.slice A1_0 l1_0.length c1_0, .int .i64 a1_1, .int .i64 a1_2] 174 (0, 0)) z7_3 NB235_0.out (by simp)); have n1_ := Aside0.mk (qc0.blk hk (g' := gb236) (o := .cells #[.int .i64 0, .int .i64 0, .string (⟨#[]⟩ : ByteArray), .slice none 0 0] 98 (0, 0)) z7_5 NB236_0.out (by simp)); have n2_ := Aside0.mk (Kd.qm0 (Kd.qy0 (IsS186.apart (show IsS186 w0 _ g s0_0 t241 t242 from z7_9) (by (with_reducible repeat (first | apply Kd.qr0 | apply Kd.qp0 | apply Kd.qu0)); exact HO245.out) z7_27) hk (fun _ h => h.2)) (fun _ h => h.1)); have n3_ := Aside0.mk (qc0.trans z7_13 hk (.inl rfl)); have n4_ := Aside0.mk (hb); have n5_ := Aside0.mk (hi); clear BK235; clear BK236; clear HO245; clear HK; clear HB; clear HI0; have BK235 := n0_; have BK236 := n1_; have HO245 := n2_; have HK := n3_; have HB := n4_; have HI0 := n5_; clear n0_ n1_ n2_ n3_ n4_ n5_; (try clear hb); (try clear hb2); (try clear hk); (try clear hi)) | ((with_reducible refine qa1 (N := 5) rfl ?_); refine qe1 ?hg (N := 5) ?hd (cs := #[.int .i64 0, .int .i64 0, .string (⟨#[]⟩ : ByteArray), .slice none 0 0]) (t := 98) ?hr ?_; (case hd => rfl); (case hg => rfl); (case hr => exact z7_31); intro gb249 hg w15 hbox hb; have n0_ := Aside0.mk (Kd.qy1 (by (with_reducible repeat (first | apply Kd.qr0 | apply Kd.qp0 | apply Kd.qu0)); exact HO245.out) hb); have n1_ := Aside0.mk (IsS186.below z7_9 hb); have n2_ := Aside0.mk (qz0 (g := gb235) (o := .cells #[.slice A1_0 l1_0.length c1_0, .int .i64 a1_1, .int .i64 a1_2] 174 (0, 0)) z7_3 hb); have n3_ := Aside0.mk (qz0 (g := gb236) (o := .cells #[.int .i64 0, .int .i64 0, .string (⟨#[]⟩ : ByteArray), .slice none 0 0] 98 (0, 0)) z7_5 hb); have n4_ := Aside0.mk (qc0.trans z7_13 (qc0.of_below hb g none) (.inl rfl)); have n5_ := Aside0.mk (ql0 z7_15 hb); have n6_ := Aside0.mk (hbox); have n7_ := Aside0.mk ((z7_21 : w.heap.size ≤ gb249)); have n8_ := Aside0.mk ((Nat.le_trans HW0.out (z7_21 : w.heap.size ≤ gb249) : w0.heap.size ≤ gb249)); have n9_ := Aside0.mk ((z7_24 : gb235 ≠ gb249)); have n10_ := Aside0.mk ((z7_25 : gb249 ≠ gb235)); have n11_ := Aside0.mk ((by rw [hg]; exact Nat.ne_of_lt (blk_lt (g := gb236) (o := .cells #[.int .i64 0, .int .i64 0, .string (⟨#[]⟩ : ByteArray), .slice none 0 0] 98 (0, 0)) z7_5) : gb236 ≠ gb249)); have n12_ := Aside0.mk ((by rw [hg]; exact Nat.ne_of_gt (blk_lt (g := gb236) (o := .cells #[.int .i64 0, .int .i64 0, .string (⟨#[]⟩ : ByteArray), .slice none 0 0] 98 (0, 0)) z7_5) : gb249 ≠ gb236)); have n13_ := Aside0.mk ((by rw [hg]; exact Nat.ne_of_lt (IsS186.lt (show IsS186 w0 _ g s0_0 t247 t248 from z7_9)) : g ≠ gb249)); have n14_ := Aside0.mk ((by rw [hg]; exact Nat.ne_of_gt (IsS186.lt (show IsS186 w0 _ g s0_0 t247 t248 from z7_9)) : gb249 ≠ g)); clear HO245; clear HI0; clear BK235; clear BK236; clear HK; clear HB; have HO245 := n0_; have HI0 := n1_; have BK235 := n2_; have BK236 := n3_; have HK := n4_; have HB := n5_; have BK249 := n6_; have GW249 := n7_; have GE249 := n8_; have NB235_249 := n9_; have NB249_235 := n10_; have NB236_249 := n11_; have NB249_236 := n12_; have NB0_249 := n13_; have NB249_0 := n14_; clear n0_ n1_ n2_ n3_ n4_ n5_ n6_ n7_ n8_ n9_ n10_ n11_ n12_ n13_ n14_; clear hb hbox hg; have hnb16 := NB249_235.out; have hnc16 := NB235_249.out; have hnb17 := NB249_236.out; have hnc17 := NB236_249.out; have hnb18 := NB249_0.out; have hnc18 := NB0_249.out; have hcz19_0 : w15.cell? ⟨gb249, 0, none⟩ = some (.int .i64 0) := (qb0 BK249.out 0).trans rfl; have hcz19_1 : w15.cell? ⟨gb249, 1, none⟩ = some (.int .i64 0) := (qb0 BK249.out 1).trans rfl; have hcz19_2 : w15.cell? ⟨gb249, 2, none⟩ = some (.string (⟨#[]⟩ : ByteArray)) := (qb0 BK249.out 2).trans rfl; have hcz19_3 : w15.cell? ⟨gb249, 3, none⟩ = some (.slice none 0 0) := (qb0 BK249.out 3).trans rfl; have hfz19_0 := qa0 BK249.out 0; have hfz19_1 := qa0 BK249.out 1; have hfz19_2 := qa0 BK249.out 2; have hfz19_3 := qa0 BK249.out 3) | ((with_reducible refine qg0 (f := 61) rfl ?_); refine qt0 (some 24) rfl rfl Try.func61 z7_30 rfl #[.pointer (some ⟨g, 0, none⟩), .int .i64 3] rfl z7_4 ?_; (with_reducible refine (spec_l1Below.calls g s0_0 t247 t248 3 t250 t251 t252 w0 _ ?side1 ?side2 A6.out).mono ?_); (case side1 => exact z7_0); (case side2 => exact z7_2); rintro e w20 ⟨rfl, hi, hb, hk⟩; refine ⟨_, rfl, ?_⟩; have n0_ := Aside0.mk (qc0.blk hk (g' := gb235) (o := .cells #[.slice A1_0 l1_0.length c1_0, .int .i64 a1_1, .int .i64 a1_2] 174 (0, 0)) (by (with_reducible repeat (first | refine qe0 ?_ _ | refine qf0 ?_ | refine qd0 ?_ _)); refine blk_far ?_ NB235_249.out _; (with_reducible repeat (first | refine qe0 ?_ _ | refine qf0 ?_ | refine qd0 ?_ _)); refine blk_far ?_ NB235_249.out _; (with_reducible repeat (first | refine qe0 ?_ _ | refine qf0 ?_ | refine qd0 ?_ _)); refine blk_far ?_ NB235_249.out _; (with_reducible repeat (first | refine qe0 ?_ _ | refine qf0 ?_ | refine qd0 ?_ _)); refine blk_far ?_ NB235_249.out _; (with_reducible repeat (first | refine qe0 ?_ _ | refine qf0 ?_ | refine qd0 ?_ _)); exact BK235.out) NB235_0.out (by simp)); have n1_ := Aside0.mk (qc0.blk hk (g' := gb236) (o := .cells #[.int .i64 0, .int .i64 0, .string (⟨#[]⟩ : ByteArray), .slice none 0 0] 98 (0, 0)) (by (with_reducible repeat (first | refine qe0 ?_ _ | refine qf0 ?_ | refine qd0 ?_ _)); refine blk_far ?_ NB236_249.out _; (with_reducible repeat (first | refine qe0 ?_ _ | refine qf0 ?_ | refine qd0 ?_ _)); refine blk_far ?_ NB236_249.out _; (with_reducible repeat (first | refine qe0 ?_ _ | refine qf0 ?_ | refine qd0 ?_ _)); refine blk_far ?_ NB236_249.out _; (with_reducible repeat (first | refine qe0 ?_ _ | refine qf0 ?_ | refine qd0 ?_ _)); refine blk_far ?_ NB236_249.out _; (with_reducible repeat (first | refine qe0 ?_ _ | refine qf0 ?_ | refine qd0 ?_ _)); exact BK236.out) NB236_0.out (by simp)); have n2_ := Aside0.mk (Kd.qm0 (Kd.qy0 (IsS186.apart (show IsS186 w0 _ g s0_0 t247 t248 from z7_0) (by (with_reducible repeat (first | apply Kd.qr0 | apply Kd.qp0 | apply Kd.qu0)); exact (Kd.qm0 (Kd.R_far (p := ⟨gb249, 3, none⟩) (Kd.R_far (p := ⟨gb249, 2, none⟩) (Kd.R_far (p := ⟨gb249, 1, none⟩) (Kd.R_far (p := ⟨gb249, 0, none⟩) (Kd.qi1 HO245.out BK249.out z7_27) (fun _ hk => hk.2) (.int .i64 t237)) (fun _ hk => hk.2) (.int .i64 t240)) (fun _ hk => hk.2) (.string t246)) (fun _ hk => hk.2) (.slice none 0 0)) (fun _ h_ => h_.1))) z7_27) hk (fun _ h => h.2)) (fun _ h => h.1)); have n3_ := Aside0.mk (qc0.blk hk (g' := gb249) (o := .cells #[.int .i64 t237, .int .i64 t240, .string t246, .slice none 0 0] 98 (0, 0)) (by (with_reducible repeat (first | refine qe0 ?_ _ | refine qf0 ?_ | refine qd0 ?_ _)); refine qo0 (cs := #[.int .i64 t237, .int .i64 t240, .string t246, .slice none 0 0]) ?_ 3 _ rfl; (with_reducible repeat (first | refine qe0 ?_ _ | refine qf0 ?_ | refine qd0 ?_ _)); refine qo0 (cs := #[.int .i64 t237, .int .i64 t240, .string (⟨#[]⟩ : ByteArray), .slice none 0 0]) ?_ 2 _ rfl; (with_reducible repeat (first | refine qe0 ?_ _ | refine qf0 ?_ | refine qd0 ?_ _)); refine qo0 (cs := #[.int .i64 t237, .int .i64 0, .string (⟨#[]⟩ : ByteArray), .slice none 0 0]) ?_ 1 _ rfl; (with_reducible repeat (first | refine qe0 ?_ _ | refine qf0 ?_ | refine qd0 ?_ _)); refine qo0 (cs := #[.int .i64 0, .int .i64 0, .string (⟨#[]⟩ : ByteArray), .slice none 0 0]) ?_ 0 _ rfl; (with_reducible repeat (first | refine qe0 ?_ _ | refine qf0 ?_ | refine qd0 ?_ _)); exact BK249.out) NB249_0.out (by simp)); have n4_ := Aside0.mk (qc0.trans z7_1 hk (.inl rfl)); have n5_ := Aside0.mk (hb); have n6_ := Aside0.mk (hi); clear BK235; clear BK236; clear HO245; clear BK249; clear HK; clear HB; clear HI0; have BK235 := n0_; have BK236 := n1_; have HO245 := n2_; have BK249 := n3_; have HK := n4_; have HB := n5_; have HI0 := n6_; clear n0_ n1_ n2_ n3_ n4_ n5_ n6_; (try clear hb); (try clear hb2); (try clear hk); (try clear hi)))
 go_loopg [6] k (fun kq v6 w' => ∃ (x6_1 : Int) (x1001_1 : Int) (x1002_1 : Int) (x250003_1 : List (S100)) (u250003 : Value), v6 = .int .i64 x6_1 ∧ Aside0 (spec_l5DrawEntry.l0 kq x6_1 s0_0 x1001_1 x1002_1 l1_0 a1_1 a1_2 t237 t240 t246 x250003_1 = some (r1, r2, r3, r4, r5, r6)) ∧ Aside0 (kq ≤ k) ∧ Aside0 (Kd.R k100 100 w' w.heap.size (fun _ => True) u250003 x250003_1) ∧ Aside0 (w'.heap[gb235]? = some (.cells #[(.slice A1_0 l1_0.length c1_0), .int .i64 a1_1, .int .i64 a1_2] 174 (0, 0))) ∧ Aside0 (w'.heap[gb236]? = some (.cells #[.int .i64 0, .int .i64 0, .string (⟨#[]⟩ : ByteArray), (.slice none 0 0)] 98 (0, 0))) ∧ Aside0 (w'.heap[gb249]? = some (.cells #[.int .i64 t237, .int .i64 t240, .string t246, u250003] 98 (0, 0))) ∧ Aside0 (IsS186 w0 w' g s0_0 x1001_1 x1002_1) ∧ Aside0 (qc0 w w' g none) ∧ Aside0 (Below w0.heap.size w0 w'))
 case atStart => exact ⟨(wrap64 (1 + t250)), (t251), (t252), (([] : List (S100))), (.slice none 0 0), z7_22, H', ⟨Nat.le_refl _⟩, ⟨by first | exact Kd.R_nil _ _ _ _ _ | exact Kd.N_nil _ _ _ _ _ | exact Kd.V_nil _ _ _ _ _ | exact Kd.Q_nil _ _ _ _ _ | exact Kd.S_nil _ _ _ _ _⟩, ⟨z7_3⟩, ⟨z7_5⟩, ⟨z7_6⟩, ⟨z7_0⟩, ⟨z7_1⟩, ⟨z7_2⟩⟩
 case round =>
  clear H'
  try clear c1
  try clear p2
  try clear c6
  try clear p6
  try clear c7
  try clear c15
  try clear c16
  try clear c17
  try clear c18
  try clear hcz19_0
  try clear hcz19_1
  try clear hcz19_2
  try clear hcz19_3
  try clear hfz19_0
  try clear hfz19_1
  try clear hfz19_2
  try clear hfz19_3
  obtain ⟨x6_1, x1001_1, x1002_1, x250003_1, u250003, rfl, HA, HK1, HO_250003, BK235, BK236, BK249, HI0, HK, HB⟩ := hrel
  cases gk with
  | zero => exact absurd HA.out (by simp [spec_l5DrawEntry.l0])
  | succ k1 =>
   have H := HA.out
   clear HA
   simp only [spec_l5DrawEntry.l0] at H
   by_cases c21 : x6_1 > 0
   ·rw [if_pos c21] at H
    have c21b0 : decide (0 < x6_1) = true := decide_eq_true c21
    clear c21
    replace H := Option.bind_eq_some_iff.mp H
    obtain ⟨⟨t253, t254, t255⟩, A220, H⟩ := H
    replace H : ((spec_l1Below.f s0_0 t254 t255 a1_1).bind fun bt256 => ((spec_l1Below.f s0_0 bt256.2.1 bt256.2.2 20000).bind fun bt259 => (if t253 = 0 then (spec_l5DrawEntry.j1 k1 x6_1 t253 bt256.1 (wrap64 (bt259.1 - 10000)) (wrap64 (bt259.1 - 10000)) s0_0 bt259.2.1 bt259.2.2 l1_0 a1_1 a1_2 t237 t240 t246 x250003_1) else ((spec_l1Below.f s0_0 bt259.2.1 bt259.2.2 100).bind fun bt262 => ((spec_l1Below.f s0_0 bt262.2.1 bt262.2.2 3).bind fun bt265 => (spec_l5DrawEntry.j1 k1 x6_1 t253 bt256.1 (wrap64 (bt259.1 - 10000)) (wrap64 ((wrap64 (Int.tdiv (wrap64 ((wrap64 (bt259.1 - 10000)) * (wrap64 (50 + bt262.1)))) 100)) + bt265.1)) s0_0 bt265.2.1 bt265.2.2 l1_0 a1_1 a1_2 t237 t240 t246 x250003_1)))))) = some (r1, r2, r3, r4, r5, r6) := H
    have A22 := Aside0.mk A220
    clear A220
    replace H := Option.bind_eq_some_iff.mp H
    obtain ⟨⟨t256, t257, t258⟩, A230, H⟩ := H
    replace H : ((spec_l1Below.f s0_0 t257 t258 20000).bind fun bt259 => (if t253 = 0 then (spec_l5DrawEntry.j1 k1 x6_1 t253 t256 (wrap64 (bt259.1 - 10000)) (wrap64 (bt259.1 - 10000)) s0_0 bt259.2.1 bt259.2.2 l1_0 a1_1 a1_2 t237 t240 t246 x250003_1) else ((spec_l1Below.f s0_0 bt259.2.1 bt259.2.2 100).bind fun bt262 => ((spec_l1Below.f s0_0 bt262.2.1 bt262.2.2 3).bind fun bt265 => (spec_l5DrawEntry.j1 k1 x6_1 t253 t256 (wrap64 (bt259.1 - 10000)) (wrap64 ((wrap64 (Int.tdiv (wrap64 ((wrap64 (bt259.1 - 10000)) * (wrap64 (50 + bt262.1)))) 100)) + bt265.1)) s0_0 bt265.2.1 bt265.2.2 l1_0 a1_1 a1_2 t237 t240 t246 x250003_1))))) = some (r1, r2, r3, r4, r5, r6) := H
    have A23 := Aside0.mk A230
    clear A230
    replace H := Option.bind_eq_some_iff.mp H
    obtain ⟨⟨t259, t260, t261⟩, A240, H⟩ := H
    replace H : (if t253 = 0 then (spec_l5DrawEntry.j1 k1 x6_1 t253 t256 (wrap64 (t259 - 10000)) (wrap64 (t259 - 10000)) s0_0 t260 t261 l1_0 a1_1 a1_2 t237 t240 t246 x250003_1) else ((spec_l1Below.f s0_0 t260 t261 100).bind fun bt262 => ((spec_l1Below.f s0_0 bt262.2.1 bt262.2.2 3).bind fun bt265 => (spec_l5DrawEntry.j1 k1 x6_1 t253 t256 (wrap64 (t259 - 10000)) (wrap64 ((wrap64 (Int.tdiv (wrap64 ((wrap64 (t259 - 10000)) * (wrap64 (50 + bt262.1)))) 100)) + bt265.1)) s0_0 bt265.2.1 bt265.2.2 l1_0 a1_1 a1_2 t237 t240 t246 x250003_1)))) = some (r1, r2, r3, r4, r5, r6) := H
    have A24 := Aside0.mk A240
    clear A240
    have HC25 := Aside0.mk H
    clear H
    have hnb26 := NB235_236.out
    have hnc26 := NB236_235.out
    have hnb27 := NB235_249.out
    have hnc27 := NB249_235.out
    have hnb28 := NB235_0.out
    have hnc28 := NB0_235.out
    have hcz29_0 : wr.cell? ⟨gb235, 0, none⟩ = some (.slice A1_0 l1_0.length c1_0) := (qb0 BK235.out 0).trans rfl
    have hcz29_1 : wr.cell? ⟨gb235, 1, none⟩ = some (.int .i64 a1_1) := (qb0 BK235.out 1).trans rfl
    have hcz29_2 : wr.cell? ⟨gb235, 2, none⟩ = some (.int .i64 a1_2) := (qb0 BK235.out 2).trans rfl
    have hfz29_0 := qa0 BK235.out 0
    have hfz29_1 := qa0 BK235.out 1
    have hfz29_2 := qa0 BK235.out 2
    go_upto_if 43 with (first | ((with_reducible refine qg0 (f := 61) rfl ?_); refine qt0 (some 33) rfl rfl Try.func61 z7_30 rfl #[.pointer (some ⟨g, 0, none⟩), .int .i64 a1_2] rfl z7_4 ?_; (with_reducible refine (spec_l1Below.calls g s0_0 x1001_1 x1002_1 a1_2 t253 t254 t255 w0 _ ?side1 ?side2 A22.out).mono ?_); (case side1 => exact z7_0); (case side2 => exact z7_2); rintro e w30 ⟨rfl, hi, hb, hk⟩; refine ⟨_, rfl, ?_⟩; have n0_ := Aside0.mk (Kd.qm0 (Kd.qy0 (IsS186.apart (show IsS186 w0 _ g s0_0 x1001_1 x1002_1 from z7_0) z7_12 z7_27) hk (fun _ h => h.2)) (fun _ h => h.1)); have n1_ := Aside0.mk (qc0.blk hk (g' := gb235) (o := .cells #[.slice A1_0 l1_0.length c1_0, .int .i64 a1_1, .int .i64 a1_2] 174 (0, 0)) z7_3 NB235_0.out (by simp)); have n2_ := Aside0.mk (qc0.blk hk (g' := gb236) (o := .cells #[.int .i64 0, .int .i64 0, .string (⟨#[]⟩ : ByteArray), .slice none 0 0] 98 (0, 0)) z7_5 NB236_0.out (by simp)); have n3_ := Aside0.mk (qc0.blk hk (g' := gb249) (o := .cells #[.int .i64 t237, .int .i64 t240, .string t246, u250003] 98 (0, 0)) z7_6 NB249_0.out (by simp)); have n4_ := Aside0.mk (qc0.trans z7_1 hk (.inl rfl)); have n5_ := Aside0.mk (hb); have n6_ := Aside0.mk (hi); clear HO_250003; clear BK235; clear BK236; clear BK249; clear HK; clear HB; clear HI0; have HO_250003 := n0_; have BK235 := n1_; have BK236 := n2_; have BK249 := n3_; have HK := n4_; have HB := n5_; have HI0 := n6_; clear n0_ n1_ n2_ n3_ n4_ n5_ n6_; (try clear hb); (try clear hb2); (try clear hk); (try clear hi); have hcz31_0 : w30.cell? ⟨gb235, 0, none⟩ = some (.slice A1_0 l1_0.length c1_0) := (qb0 BK235.out 0).trans rfl; have hcz31_1 : w30.cell? ⟨gb235, 1, none⟩ = some (.int .i64 a1_1) := (qb0 BK235.out 1).trans rfl; have hcz31_2 : w30.cell? ⟨gb235, 2, none⟩ = some (.int .i64 a1_2) := (qb0 BK235.out 2).trans rfl; have hfz31_0 := qa0 BK235.out 0; have hfz31_1 := qa0 BK235.out 1; have hfz31_2 := qa0 BK235.out 2) | ((with_reducible refine qg0 (f := 61) rfl ?_); refine qt0 (some 37) rfl rfl Try.func61 z7_30 rfl #[.pointer (some ⟨g, 0, none⟩), .int .i64 a1_1] rfl z7_4 ?_; (with_reducible refine (spec_l1Below.calls g s0_0 t254 t255 a1_1 t256 t257 t258 w0 _ ?side1 ?side2 A23.out).mono ?_); (case side1 => exact z7_0); (case side2 => exact z7_2); rintro e w32 ⟨rfl, hi, hb, hk⟩; refine ⟨_, rfl, ?_⟩; have n0_ := Aside0.mk (Kd.qm0 (Kd.qy0 (IsS186.apart (show IsS186 w0 _ g s0_0 t254 t255 from z7_0) z7_12 z7_27) hk (fun _ h => h.2)) (fun _ h => h.1)); have n1_ := Aside0.mk (qc0.blk hk (g' := gb235) (o := .cells #[.slice A1_0 l1_0.length c1_0, .int .i64 a1_1, .int .i64 a1_2] 174 (0, 0)) z7_3 NB235_0.out (by simp)); have n2_ := Aside0.mk (qc0.blk hk (g' := gb236) (o := .cells #[.int .i64 0, .int .i64 0, .string (⟨#[]⟩ : ByteArray), .slice none 0 0] 98 (0, 0)) z7_5 NB236_0.out (by simp)); have n3_ := Aside0.mk (qc0.blk hk (g' := gb249) (o := .cells #[.int .i64 t237, .int .i64 t240, .string t246, u250003] 98 (0, 0)) z7_6 NB249_0.out (by simp)); have n4_ := Aside0.mk (qc0.trans z7_1 hk (.inl rfl)); have n5_ := Aside0.mk (hb); have n6_ := Aside0.mk (hi); clear HO_250003; clear BK235; clear BK236; clear BK249; clear HK; clear HB; clear HI0; have HO_250003 := n0_; have BK235 := n1_; have BK236 := n2_; have BK249 := n3_; have HK := n4_; have HB := n5_; have HI0 := n6_; clear n0_ n1_ n2_ n3_ n4_ n5_ n6_; (try clear hb); (try clear hb2); (try clear hk); (try clear hi)) | ((with_reducible refine qg0 (f := 61) rfl ?_); refine qt0 (some 39) rfl rfl Try.func61 z7_30 rfl #[.pointer (some ⟨g, 0, none⟩), .int .i64 20000] rfl z7_4 ?_; (with_reducible refine (spec_l1Below.calls g s0_0 t257 t258 20000 t259 t260 t261 w0 _ ?side1 ?side2 A24.out).mono ?_); (case side1 => exact z7_0); (case side2 => exact z7_2); rintro e w33 ⟨rfl, hi, hb, hk⟩; refine ⟨_, rfl, ?_⟩; have n0_ := Aside0.mk (Kd.qm0 (Kd.qy0 (IsS186.apart (show IsS186 w0 _ g s0_0 t257 t258 from z7_0) z7_12 z7_27) hk (fun _ h => h.2)) (fun _ h => h.1)); have n1_ := Aside0.mk (qc0.blk hk (g' := gb235) (o := .cells #[.slice A1_0 l1_0.length c1_0, .int .i64 a1_1, .int .i64 a1_2] 174 (0, 0)) z7_3 NB235_0.out (by simp)); have n2_ := Aside0.mk (qc0.blk hk (g' := gb236) (o := .cells #[.int .i64 0, .int .i64 0, .string (⟨#[]⟩ : ByteArray), .slice none 0 0] 98 (0, 0)) z7_5 NB236_0.out (by simp)); have n3_ := Aside0.mk (qc0.blk hk (g' := gb249) (o := .cells #[.int .i64 t237, .int .i64 t240, .string t246, u250003] 98 (0, 0)) z7_6 NB249_0.out (by simp)); have n4_ := Aside0.mk (qc0.trans z7_1 hk (.inl rfl)); have n5_ := Aside0.mk (hb); have n6_ := Aside0.mk (hi); clear HO_250003; clear BK235; clear BK236; clear BK249; clear HK; clear HB; clear HI0; have HO_250003 := n0_; have BK235 := n1_; have BK236 := n2_; have BK249 := n3_; have HK := n4_; have HB := n5_; have HI0 := n6_; clear n0_ n1_ n2_ n3_ n4_ n5_ n6_; (try clear hb); (try clear hb2); (try clear hk); (try clear hi)))
    (try simp only [Act.put, List.setIfInBounds_toArray, List.set_cons_zero, List.set_cons_succ])
    go_cut [10] (fun v10 wc => ∃ (kq : Nat) (x10_24 : Int) (x1001_24 : Int) (x1002_24 : Int), v10 = .int .i64 x10_24 ∧ Aside0 (spec_l5DrawEntry.j1 kq x6_1 t253 t256 (wrap64 (t259 - 10000)) x10_24 s0_0 x1001_24 x1002_24 l1_0 a1_1 a1_2 t237 t240 t246 x250003_1 = some (r1, r2, r3, r4, r5, r6)) ∧ Aside0 (kq ≤ k1) ∧ Aside0 (Kd.R k100 100 wc w.heap.size (fun _ => True) u250003 x250003_1) ∧ Aside0 (wc.heap[gb235]? = some (.cells #[(.slice A1_0 l1_0.length c1_0), .int .i64 a1_1, .int .i64 a1_2] 174 (0, 0))) ∧ Aside0 (wc.heap[gb236]? = some (.cells #[.int .i64 0, .int .i64 0, .string (⟨#[]⟩ : ByteArray), (.slice none 0 0)] 98 (0, 0))) ∧ Aside0 (wc.heap[gb249]? = some (.cells #[.int .i64 t237, .int .i64 t240, .string t246, u250003] 98 (0, 0))) ∧ Aside0 (IsS186 w0 wc g s0_0 x1001_24 x1002_24) ∧ Aside0 (qc0 w wc g none) ∧ Aside0 (Below w0.heap.size w0 wc))
    case first =>
     have H := HC25.out
     clear HC25
     by_cases c34 : t253 = 0
     ·rw [if_pos c34] at H
      have c34b0 : (t253 == 0) = true := beq_iff_eq.mpr c34
      have c34b1 : (t253 != 0) = false := bne_eq_false_iff_eq.mpr c34
      clear c34
      (first | rw [c34b0] | (simp only [i64_w, i32_w]; rw [c34b0]) | skip)
      have H' := Aside0.mk H
      clear H
      go_wp2
      go_meet
      case rel => exact ⟨_, (wrap64 (t259 - 10000)), (t260), (t261), z7_22, H', ⟨by have := HK1.out; first | omega | exact Nat.le_refl _⟩, ⟨z7_12⟩, ⟨z7_3⟩, ⟨z7_5⟩, ⟨z7_6⟩, ⟨z7_0⟩, ⟨z7_1⟩, ⟨z7_2⟩⟩
     rw [if_neg c34] at H
     have c34b0 : (t253 == 0) = false := beq_eq_false_iff_ne.mpr c34
     have c34b1 : (t253 != 0) = true := bne_iff_ne.mpr c34
     (first | rw [c34b0] | (simp only [i64_w, i32_w]; rw [c34b0]) | skip)
     replace H := Option.bind_eq_some_iff.mp H
     obtain ⟨⟨t262, t263, t264⟩, A350, H⟩ := H
     replace H : ((spec_l1Below.f s0_0 t263 t264 3).bind fun bt265 => (spec_l5DrawEntry.j1 k1 x6_1 t253 t256 (wrap64 (t259 - 10000)) (wrap64 ((wrap64 (Int.tdiv (wrap64 ((wrap64 (t259 - 10000)) * (wrap64 (50 + t262)))) 100)) + bt265.1)) s0_0 bt265.2.1 bt265.2.2 l1_0 a1_1 a1_2 t237 t240 t246 x250003_1)) = some (r1, r2, r3, r4, r5, r6) := H
     have A35 := Aside0.mk A350
     clear A350
     replace H := Option.bind_eq_some_iff.mp H
     obtain ⟨⟨t265, t266, t267⟩, A360, H⟩ := H
     replace H : (spec_l5DrawEntry.j1 k1 x6_1 t253 t256 (wrap64 (t259 - 10000)) (wrap64 ((wrap64 (Int.tdiv (wrap64 ((wrap64 (t259 - 10000)) * (wrap64 (50 + t262)))) 100)) + t265)) s0_0 t266 t267 l1_0 a1_1 a1_2 t237 t240 t246 x250003_1) = some (r1, r2, r3, r4, r5, r6) := H
     have A36 := Aside0.mk A360
     clear A360
     have H' := Aside0.mk H
     clear H
     go_wp2_with (first | ((with_reducible refine qg0 (f := 61) rfl ?_); refine qt0 (some 46) rfl rfl Try.func61 z7_30 rfl #[.pointer (some ⟨g, 0, none⟩), .int .i64 100] rfl z7_4 ?_; (with_reducible refine (spec_l1Below.calls g s0_0 t260 t261 100 t262 t263 t264 w0 _ ?side1 ?side2 A35.out).mono ?_); (case side1 => exact z7_0); (case side2 => exact z7_2); rintro e w37 ⟨rfl, hi, hb, hk⟩; refine ⟨_, rfl, ?_⟩; have n0_ := Aside0.mk (Kd.qm0 (Kd.qy0 (IsS186.apart (show IsS186 w0 _ g s0_0 t260 t261 from z7_0) z7_12 z7_27) hk (fun _ h => h.2)) (fun _ h => h.1)); have n1_ := Aside0.mk (qc0.blk hk (g' := gb235) (o := .cells #[.slice A1_0 l1_0.length c1_0, .int .i64 a1_1, .int .i64 a1_2] 174 (0, 0)) z7_3 NB235_0.out (by simp)); have n2_ := Aside0.mk (qc0.blk hk (g' := gb236) (o := .cells #[.int .i64 0, .int .i64 0, .string (⟨#[]⟩ : ByteArray), .slice none 0 0] 98 (0, 0)) z7_5 NB236_0.out (by simp)); have n3_ := Aside0.mk (qc0.blk hk (g' := gb249) (o := .cells #[.int .i64 t237, .int .i64 t240, .string t246, u250003] 98 (0, 0)) z7_6 NB249_0.out (by simp)); have n4_ := Aside0.mk (qc0.trans z7_1 hk (.inl rfl)); have n5_ := Aside0.mk (hb); have n6_ := Aside0.mk (hi); clear HO_250003; clear BK235; clear BK236; clear BK249; clear HK; clear HB; clear HI0; have HO_250003 := n0_; have BK235 := n1_; have BK236 := n2_; have BK249 := n3_; have HK := n4_; have HB := n5_; have HI0 := n6_; clear n0_ n1_ n2_ n3_ n4_ n5_ n6_; (try clear hb); (try clear hb2); (try clear hk); (try clear hi)) | ((with_reducible refine qg0 (f := 61) rfl ?_); refine qt0 (some 51) rfl rfl Try.func61 z7_30 rfl #[.pointer (some ⟨g, 0, none⟩), .int .i64 3] rfl z7_4 ?_; (with_reducible refine (spec_l1Below.calls g s0_0 t263 t264 3 t265 t266 t267 w0 _ ?side1 ?side2 A36.out).mono ?_); (case side1 => exact z7_0); (case side2 => exact z7_2); rintro e w38 ⟨rfl, hi, hb, hk⟩; refine ⟨_, rfl, ?_⟩; have n0_ := Aside0.mk (Kd.qm0 (Kd.qy0 (IsS186.apart (show IsS186 w0 _ g s0_0 t263 t264 from z7_0) z7_12 z7_27) hk (fun _ h => h.2)) (fun _ h => h.1)); have n1_ := Aside0.mk (qc0.blk hk (g' := gb235) (o := .cells #[.slice A1_0 l1_0.length c1_0, .int .i64 a1_1, .int .i64 a1_2] 174 (0, 0)) z7_3 NB235_0.out (by simp)); have n2_ := Aside0.mk (qc0.blk hk (g' := gb236) (o := .cells #[.int .i64 0, .int .i64 0, .string (⟨#[]⟩ : ByteArray), .slice none 0 0] 98 (0, 0)) z7_5 NB236_0.out (by simp)); have n3_ := Aside0.mk (qc0.blk hk (g' := gb249) (o := .cells #[.int .i64 t237, .int .i64 t240, .string t246, u250003] 98 (0, 0)) z7_6 NB249_0.out (by simp)); have n4_ := Aside0.mk (qc0.trans z7_1 hk (.inl rfl)); have n5_ := Aside0.mk (hb); have n6_ := Aside0.mk (hi); clear HO_250003; clear BK235; clear BK236; clear BK249; clear HK; clear HB; clear HI0; have HO_250003 := n0_; have BK235 := n1_; have BK236 := n2_; have BK249 := n3_; have HK := n4_; have HB := n5_; have HI0 := n6_; clear n0_ n1_ n2_ n3_ n4_ n5_ n6_; (try clear hb); (try clear hb2); (try clear hk); (try clear hi)))
     go_meet
     case rel => exact ⟨_, (wrap64 ((wrap64 (Int.tdiv (wrap64 ((wrap64 (t259 - 10000)) * (wrap64 (50 + t262)))) 100)) + t265)), (t266), (t267), z7_22, H', ⟨by have := HK1.out; first | omega | exact Nat.le_refl _⟩, ⟨z7_12⟩, ⟨z7_3⟩, ⟨z7_5⟩, ⟨z7_6⟩, ⟨z7_0⟩, ⟨z7_1⟩, ⟨z7_2⟩⟩
    case rest =>
     clear HC25
     try clear c1
     try clear c2
     try clear p2
     try clear c3
     try clear c6
     try clear p6
     try clear c7
     try clear c15
     try clear c16
     try clear c17
     try clear c18
     try clear c21
     try clear c21b0
     try clear c26
     try clear c27
     try clear c28
     try clear c34
     try clear c34b0
     try clear c34b1
     try clear hcz19_0
     try clear hcz19_1
     try clear hcz19_2
     try clear hcz19_3
     try clear hcz29_0
     try clear hcz29_1
     try clear hcz29_2
     try clear hcz31_0
     try clear hcz31_1
     try clear hcz31_2
     try clear hfz19_0
     try clear hfz19_1
     try clear hfz19_2
     try clear hfz19_3
     try clear hfz29_0
     try clear hfz29_1
     try clear hfz29_2
     try clear hfz31_0
     try clear hfz31_1
     try clear hfz31_2
     try clear p2
     try clear p6
     obtain ⟨kq, x10_24, x1001_24, x1002_24, rfl, HA, HJ24, HO_250003, BK235, BK236, BK249, HI0, HK, HB⟩ := hcut
     cases kq with
     | zero => exact absurd HA.out (by simp [spec_l5DrawEntry.j1])
     | succ kj24 =>
      have H := HA.out
      clear HA
      simp only [spec_l5DrawEntry.j1] at H
      replace H := Option.bind_eq_some_iff.mp H
      obtain ⟨⟨t268, t269, t270⟩, A390, H⟩ := H
      replace H : ((spec_l5DrawLeaf.f kj24 s0_0 t269 t270 l1_0).bind fun bt271 => (if x250003_1.length < 3518437208883 then ((some (x250003_1 ++ [(⟨t268, t256, t253, (wrap64 (t259 - 10000)), x10_24⟩ : S100)] : List (S100))).bind fun y274 => ((spec_l1Once.f s0_0 bt271.2.1 bt271.2.2 3).bind fun bt277 => (if bt277.1 = true then ((spec_l1Below.f s0_0 bt277.2.1 bt277.2.2 200).bind fun bt280 => (if t253 = 0 then (if y274.length < 3518437208883 then ((some (y274 ++ [(⟨bt271.1, t256, t253, wrap64 (-bt280.1), wrap64 (-bt280.1)⟩ : S100)] : List (S100))).bind fun y283 => (if y283.length < 3518437208883 then (spec_l5DrawEntry.l0 kj24 (wrap64 (x6_1 - 1)) s0_0 bt280.2.1 bt280.2.2 l1_0 a1_1 a1_2 t237 t240 t246 (y283 ++ [(⟨bt271.1, t256, t253, wrap64 (-(wrap64 ((wrap64 (t259 - 10000)) - bt280.1))), wrap64 (-(wrap64 (x10_24 - bt280.1)))⟩ : S100)])) else (none))) else (none)) else ((spec_l1Below.f s0_0 bt280.2.1 bt280.2.2 100).bind fun bt289 => (if y274.length < 3518437208883 then ((some (y274 ++ [(⟨bt271.1, t256, t253, wrap64 (-bt280.1), wrap64 (-bt289.1)⟩ : S100)] : List (S100))).bind fun y292 => (if y292.length < 3518437208883 then (spec_l5DrawEntry.l0 kj24 (wrap64 (x6_1 - 1)) s0_0 bt289.2.1 bt289.2.2 l1_0 a1_1 a1_2 t237 t240 t246 (y292 ++ [(⟨bt271.1, t256, t253, wrap64 (-(wrap64 ((wrap64 (t259 - 10000)) - bt280.1))), wrap64 (-(wrap64 (x10_24 - bt289.1)))⟩ : S100)])) else (none))) else (none))))) else (if y274.length < 3518437208883 then (spec_l5DrawEntry.l0 kj24 (wrap64 (x6_1 - 1)) s0_0 bt277.2.1 bt277.2.2 l1_0 a1_1 a1_2 t237 t240 t246 (y274 ++ [(⟨bt271.1, t256, t253, wrap64 (-(wrap64 (t259 - 10000))), wrap64 (-x10_24)⟩ : S100)])) else (none))))) else (none))) = some (r1, r2, r3, r4, r5, r6) := H
      have A39 := Aside0.mk A390
      clear A390
      replace H := Option.bind_eq_some_iff.mp H
      obtain ⟨⟨t271, t272, t273⟩, A400, H⟩ := H
      replace H : (if x250003_1.length < 3518437208883 then ((some (x250003_1 ++ [(⟨t268, t256, t253, (wrap64 (t259 - 10000)), x10_24⟩ : S100)] : List (S100))).bind fun y274 => ((spec_l1Once.f s0_0 t272 t273 3).bind fun bt277 => (if bt277.1 = true then ((spec_l1Below.f s0_0 bt277.2.1 bt277.2.2 200).bind fun bt280 => (if t253 = 0 then (if y274.length < 3518437208883 then ((some (y274 ++ [(⟨t271, t256, t253, wrap64 (-bt280.1), wrap64 (-bt280.1)⟩ : S100)] : List (S100))).bind fun y283 => (if y283.length < 3518437208883 then (spec_l5DrawEntry.l0 kj24 (wrap64 (x6_1 - 1)) s0_0 bt280.2.1 bt280.2.2 l1_0 a1_1 a1_2 t237 t240 t246 (y283 ++ [(⟨t271, t256, t253, wrap64 (-(wrap64 ((wrap64 (t259 - 10000)) - bt280.1))), wrap64 (-(wrap64 (x10_24 - bt280.1)))⟩ : S100)])) else (none))) else (none)) else ((spec_l1Below.f s0_0 bt280.2.1 bt280.2.2 100).bind fun bt289 => (if y274.length < 3518437208883 then ((some (y274 ++ [(⟨t271, t256, t253, wrap64 (-bt280.1), wrap64 (-bt289.1)⟩ : S100)] : List (S100))).bind fun y292 => (if y292.length < 3518437208883 then (spec_l5DrawEntry.l0 kj24 (wrap64 (x6_1 - 1)) s0_0 bt289.2.1 bt289.2.2 l1_0 a1_1 a1_2 t237 t240 t246 (y292 ++ [(⟨t271, t256, t253, wrap64 (-(wrap64 ((wrap64 (t259 - 10000)) - bt280.1))), wrap64 (-(wrap64 (x10_24 - bt289.1)))⟩ : S100)])) else (none))) else (none))))) else (if y274.length < 3518437208883 then (spec_l5DrawEntry.l0 kj24 (wrap64 (x6_1 - 1)) s0_0 bt277.2.1 bt277.2.2 l1_0 a1_1 a1_2 t237 t240 t246 (y274 ++ [(⟨t271, t256, t253, wrap64 (-(wrap64 (t259 - 10000))), wrap64 (-x10_24)⟩ : S100)])) else (none))))) else (none)) = some (r1, r2, r3, r4, r5, r6) := H
      have A40 := Aside0.mk A400
      clear A400
      by_cases c41 : x250003_1.length < 3518437208883
      case neg => rw [if_neg c41] at H; exact absurd H (by simp)
      rw [if_pos c41] at H
      have LMc41 := Aside0.mk c41
      clear c41
      obtain ⟨y274, hy274⟩ : ∃ y_ : List (S100), y_ = (x250003_1 ++ [(⟨t268, t256, t253, (wrap64 (t259 - 10000)), x10_24⟩ : S100)]) := ⟨_, rfl⟩
      replace H : ((spec_l1Once.f s0_0 t272 t273 3).bind fun bt277 => (if bt277.1 = true then ((spec_l1Below.f s0_0 bt277.2.1 bt277.2.2 200).bind fun bt280 => (if t253 = 0 then (if y274.length < 3518437208883 then ((some (y274 ++ [(⟨t271, t256, t253, wrap64 (-bt280.1), wrap64 (-bt280.1)⟩ : S100)] : List (S100))).bind fun y283 => (if y283.length < 3518437208883 then (spec_l5DrawEntry.l0 kj24 (wrap64 (x6_1 - 1)) s0_0 bt280.2.1 bt280.2.2 l1_0 a1_1 a1_2 t237 t240 t246 (y283 ++ [(⟨t271, t256, t253, wrap64 (-(wrap64 ((wrap64 (t259 - 10000)) - bt280.1))), wrap64 (-(wrap64 (x10_24 - bt280.1)))⟩ : S100)])) else (none))) else (none)) else ((spec_l1Below.f s0_0 bt280.2.1 bt280.2.2 100).bind fun bt289 => (if y274.length < 3518437208883 then ((some (y274 ++ [(⟨t271, t256, t253, wrap64 (-bt280.1), wrap64 (-bt289.1)⟩ : S100)] : List (S100))).bind fun y292 => (if y292.length < 3518437208883 then (spec_l5DrawEntry.l0 kj24 (wrap64 (x6_1 - 1)) s0_0 bt289.2.1 bt289.2.2 l1_0 a1_1 a1_2 t237 t240 t246 (y292 ++ [(⟨t271, t256, t253, wrap64 (-(wrap64 ((wrap64 (t259 - 10000)) - bt280.1))), wrap64 (-(wrap64 (x10_24 - bt289.1)))⟩ : S100)])) else (none))) else (none))))) else (if y274.length < 3518437208883 then (spec_l5DrawEntry.l0 kj24 (wrap64 (x6_1 - 1)) s0_0 bt277.2.1 bt277.2.2 l1_0 a1_1 a1_2 t237 t240 t246 (y274 ++ [(⟨t271, t256, t253, wrap64 (-(wrap64 (t259 - 10000))), wrap64 (-x10_24)⟩ : S100)])) else (none)))) = some (r1, r2, r3, r4, r5, r6) := by first | (rw [hy274]; with_reducible exact H) | (have H2_ := (Option.bind_some _ _).symm.trans H; rw [hy274]; with_reducible exact H2_) | (have H2_ := (Option.bind_some _ _).symm.trans H; with_reducible exact H2_) | with_reducible exact H | (rw [hy274]; exact H) | exact H
      have Ny274 := Aside0.mk hy274
      clear hy274
      replace H := Option.bind_eq_some_iff.mp H
      obtain ⟨⟨t277, t278, t279⟩, A420, H⟩ := H
      replace H : (if t277 = true then ((spec_l1Below.f s0_0 t278 t279 200).bind fun bt280 => (if t253 = 0 then (if y274.length < 3518437208883 then ((some (y274 ++ [(⟨t271, t256, t253, wrap64 (-bt280.1), wrap64 (-bt280.1)⟩ : S100)] : List (S100))).bind fun y283 => (if y283.length < 3518437208883 then (spec_l5DrawEntry.l0 kj24 (wrap64 (x6_1 - 1)) s0_0 bt280.2.1 bt280.2.2 l1_0 a1_1 a1_2 t237 t240 t246 (y283 ++ [(⟨t271, t256, t253, wrap64 (-(wrap64 ((wrap64 (t259 - 10000)) - bt280.1))), wrap64 (-(wrap64 (x10_24 - bt280.1)))⟩ : S100)])) else (none))) else (none)) else ((spec_l1Below.f s0_0 bt280.2.1 bt280.2.2 100).bind fun bt289 => (if y274.length < 3518437208883 then ((some (y274 ++ [(⟨t271, t256, t253, wrap64 (-bt280.1), wrap64 (-bt289.1)⟩ : S100)] : List (S100))).bind fun y292 => (if y292.length < 3518437208883 then (spec_l5DrawEntry.l0 kj24 (wrap64 (x6_1 - 1)) s0_0 bt289.2.1 bt289.2.2 l1_0 a1_1 a1_2 t237 t240 t246 (y292 ++ [(⟨t271, t256, t253, wrap64 (-(wrap64 ((wrap64 (t259 - 10000)) - bt280.1))), wrap64 (-(wrap64 (x10_24 - bt289.1)))⟩ : S100)])) else (none))) else (none))))) else (if y274.length < 3518437208883 then (spec_l5DrawEntry.l0 kj24 (wrap64 (x6_1 - 1)) s0_0 t278 t279 l1_0 a1_1 a1_2 t237 t240 t246 (y274 ++ [(⟨t271, t256, t253, wrap64 (-(wrap64 (t259 - 10000))), wrap64 (-x10_24)⟩ : S100)])) else (none))) = some (r1, r2, r3, r4, r5, r6) := H
      have A42 := Aside0.mk A420
      clear A420
      by_cases c43 : t277 = true
      ·subst c43
       have H1 : ((spec_l1Below.f s0_0 t278 t279 200).bind fun bt280 => (if t253 = 0 then (if y274.length < 3518437208883 then ((some (y274 ++ [(⟨t271, t256, t253, wrap64 (-bt280.1), wrap64 (-bt280.1)⟩ : S100)] : List (S100))).bind fun y283 => (if y283.length < 3518437208883 then (spec_l5DrawEntry.l0 kj24 (wrap64 (x6_1 - 1)) s0_0 bt280.2.1 bt280.2.2 l1_0 a1_1 a1_2 t237 t240 t246 (y283 ++ [(⟨t271, t256, t253, wrap64 (-(wrap64 ((wrap64 (t259 - 10000)) - bt280.1))), wrap64 (-(wrap64 (x10_24 - bt280.1)))⟩ : S100)])) else (none))) else (none)) else ((spec_l1Below.f s0_0 bt280.2.1 bt280.2.2 100).bind fun bt289 => (if y274.length < 3518437208883 then ((some (y274 ++ [(⟨t271, t256, t253, wrap64 (-bt280.1), wrap64 (-bt289.1)⟩ : S100)] : List (S100))).bind fun y292 => (if y292.length < 3518437208883 then (spec_l5DrawEntry.l0 kj24 (wrap64 (x6_1 - 1)) s0_0 bt289.2.1 bt289.2.2 l1_0 a1_1 a1_2 t237 t240 t246 (y292 ++ [(⟨t271, t256, t253, wrap64 (-(wrap64 ((wrap64 (t259 - 10000)) - bt280.1))), wrap64 (-(wrap64 (x10_24 - bt289.1)))⟩ : S100)])) else (none))) else (none))))) = some (r1, r2, r3, r4, r5, r6) := by rw [if_pos rfl] at H; exact H
       clear H
       have H := H1
       clear H1
       replace H := Option.bind_eq_some_iff.mp H
       obtain ⟨⟨t280, t281, t282⟩, A440, H⟩ := H
       replace H : (if t253 = 0 then (if y274.length < 3518437208883 then ((some (y274 ++ [(⟨t271, t256, t253, wrap64 (-t280), wrap64 (-t280)⟩ : S100)] : List (S100))).bind fun y283 => (if y283.length < 3518437208883 then (spec_l5DrawEntry.l0 kj24 (wrap64 (x6_1 - 1)) s0_0 t281 t282 l1_0 a1_1 a1_2 t237 t240 t246 (y283 ++ [(⟨t271, t256, t253, wrap64 (-(wrap64 ((wrap64 (t259 - 10000)) - t280))), wrap64 (-(wrap64 (x10_24 - t280)))⟩ : S100)])) else (none))) else (none)) else ((spec_l1Below.f s0_0 t281 t282 100).bind fun bt289 => (if y274.length < 3518437208883 then ((some (y274 ++ [(⟨t271, t256, t253, wrap64 (-t280), wrap64 (-bt289.1)⟩ : S100)] : List (S100))).bind fun y292 => (if y292.length < 3518437208883 then (spec_l5DrawEntry.l0 kj24 (wrap64 (x6_1 - 1)) s0_0 bt289.2.1 bt289.2.2 l1_0 a1_1 a1_2 t237 t240 t246 (y292 ++ [(⟨t271, t256, t253, wrap64 (-(wrap64 ((wrap64 (t259 - 10000)) - t280))), wrap64 (-(wrap64 (x10_24 - bt289.1)))⟩ : S100)])) else (none))) else (none)))) = some (r1, r2, r3, r4, r5, r6) := H
       have A44 := Aside0.mk A440
       clear A440
       by_cases c45 : t253 = 0
       ·rw [if_pos c45] at H
        have c45b0 : (t253 == 0) = true := beq_iff_eq.mpr c45
        have c45b1 : (t253 != 0) = false := bne_eq_false_iff_eq.mpr c45
        clear c45
        by_cases c46 : y274.length < 3518437208883
        case neg => rw [if_neg c46] at H; exact absurd H (by simp)
        rw [if_pos c46] at H
        have LMc46 := Aside0.mk c46
        clear c46
        obtain ⟨y283, hy283⟩ : ∃ y_ : List (S100), y_ = (y274 ++ [(⟨t271, t256, t253, wrap64 (-t280), wrap64 (-t280)⟩ : S100)]) := ⟨_, rfl⟩
        replace H : (if y283.length < 3518437208883 then (spec_l5DrawEntry.l0 kj24 (wrap64 (x6_1 - 1)) s0_0 t281 t282 l1_0 a1_1 a1_2 t237 t240 t246 (y283 ++ [(⟨t271, t256, t253, wrap64 (-(wrap64 ((wrap64 (t259 - 10000)) - t280))), wrap64 (-(wrap64 (x10_24 - t280)))⟩ : S100)])) else (none)) = some (r1, r2, r3, r4, r5, r6) := by first | (rw [hy283]; with_reducible exact H) | (have H2_ := (Option.bind_some _ _).symm.trans H; rw [hy283]; with_reducible exact H2_) | (have H2_ := (Option.bind_some _ _).symm.trans H; with_reducible exact H2_) | with_reducible exact H | (rw [hy283]; exact H) | exact H
        have Ny283 := Aside0.mk hy283
        clear hy283
        by_cases c47 : y283.length < 3518437208883
        case neg => rw [if_neg c47] at H; exact absurd H (by simp)
        rw [if_pos c47] at H
        have LMc47 := Aside0.mk c47
        clear c47
        obtain ⟨y286, hy286⟩ : ∃ y_ : List (S100), y_ = (y283 ++ [(⟨t271, t256, t253, wrap64 (-(wrap64 ((wrap64 (t259 - 10000)) - t280))), wrap64 (-(wrap64 (x10_24 - t280)))⟩ : S100)]) := ⟨_, rfl⟩
        replace H : (spec_l5DrawEntry.l0 kj24 (wrap64 (x6_1 - 1)) s0_0 t281 t282 l1_0 a1_1 a1_2 t237 t240 t246 y286) = some (r1, r2, r3, r4, r5, r6) := by first | (rw [hy286]; with_reducible exact H) | (have H2_ := (Option.bind_some _ _).symm.trans H; rw [hy286]; with_reducible exact H2_) | (have H2_ := (Option.bind_some _ _).symm.trans H; with_reducible exact H2_) | with_reducible exact H | (rw [hy286]; exact H) | exact H
        have Ny286 := Aside0.mk hy286
        clear hy286
        have H' := Aside0.mk H
        clear H
        have hnb48 := NB235_236.out
        have hnc48 := NB236_235.out
        have hnb49 := NB235_249.out
        have hnc49 := NB249_235.out
        have hnb50 := NB235_0.out
        have hnc50 := NB0_235.out
        have hcz51_0 : wc.cell? ⟨gb235, 0, none⟩ = some (.slice A1_0 l1_0.length c1_0) := (qb0 BK235.out 0).trans rfl
        have hcz51_1 : wc.cell? ⟨gb235, 1, none⟩ = some (.int .i64 a1_1) := (qb0 BK235.out 1).trans rfl
        have hcz51_2 : wc.cell? ⟨gb235, 2, none⟩ = some (.int .i64 a1_2) := (qb0 BK235.out 2).trans rfl
        have hfz51_0 := qa0 BK235.out 0
        have hfz51_1 := qa0 BK235.out 1
        have hfz51_2 := qa0 BK235.out 2
        go_wp2_with (first | ((with_reducible refine qg0 (f := 163) rfl ?_); refine qt0 (some 56) rfl rfl Try.func163 z7_30 rfl #[.pointer (some ⟨g, 0, none⟩), .slice A1_0 l1_0.length c1_0] rfl z7_4 ?_; (with_reducible refine (spec_l5DrawLeaf.calls kj24 g s0_0 x1001_24 x1002_24 _ _ l1_0 t268 t269 t270 w0 _ ?side1 ?side2 ?side3 ?side4 A39.out).mono ?_); (case side1 => exact z7_0); (case side2 => exact z7_2); (case side3 => exact Kd.C_foot_step HR1_0.out z7_1); (case side4 => exact HC1_0.out); rintro e w52 ⟨rfl, hi, hb, hk⟩; refine ⟨_, rfl, ?_⟩; have n0_ := Aside0.mk (Kd.qm0 (Kd.qy0 (IsS186.apart (show IsS186 w0 _ g s0_0 x1001_24 x1002_24 from z7_0) z7_12 z7_27) hk (fun _ h => h.2)) (fun _ h => h.1)); have n1_ := Aside0.mk (qc0.blk hk (g' := gb235) (o := .cells #[.slice A1_0 l1_0.length c1_0, .int .i64 a1_1, .int .i64 a1_2] 174 (0, 0)) z7_3 NB235_0.out (by simp)); have n2_ := Aside0.mk (qc0.blk hk (g' := gb236) (o := .cells #[.int .i64 0, .int .i64 0, .string (⟨#[]⟩ : ByteArray), .slice none 0 0] 98 (0, 0)) z7_5 NB236_0.out (by simp)); have n3_ := Aside0.mk (qc0.blk hk (g' := gb249) (o := .cells #[.int .i64 t237, .int .i64 t240, .string t246, u250003] 98 (0, 0)) z7_6 NB249_0.out (by simp)); have n4_ := Aside0.mk (qc0.trans z7_1 hk (.inl rfl)); have n5_ := Aside0.mk (hb); have n6_ := Aside0.mk (hi); clear HO_250003; clear BK235; clear BK236; clear BK249; clear HK; clear HB; clear HI0; have HO_250003 := n0_; have BK235 := n1_; have BK236 := n2_; have BK249 := n3_; have HK := n4_; have HB := n5_; have HI0 := n6_; clear n0_ n1_ n2_ n3_ n4_ n5_ n6_; (try clear hb); (try clear hb2); (try clear hk); (try clear hi); have hcz53_0 : w52.cell? ⟨gb235, 0, none⟩ = some (.slice A1_0 l1_0.length c1_0) := (qb0 BK235.out 0).trans rfl; have hcz53_1 : w52.cell? ⟨gb235, 1, none⟩ = some (.int .i64 a1_1) := (qb0 BK235.out 1).trans rfl; have hcz53_2 : w52.cell? ⟨gb235, 2, none⟩ = some (.int .i64 a1_2) := (qb0 BK235.out 2).trans rfl; have hfz53_0 := qa0 BK235.out 0; have hfz53_1 := qa0 BK235.out 1; have hfz53_2 := qa0 BK235.out 2) | ((with_reducible refine qg0 (f := 163) rfl ?_); refine qt0 (some 60) rfl rfl Try.func163 z7_30 rfl #[.pointer (some ⟨g, 0, none⟩), .slice A1_0 l1_0.length c1_0] rfl z7_4 ?_; (with_reducible refine (spec_l5DrawLeaf.calls kj24 g s0_0 t269 t270 _ _ l1_0 t271 t272 t273 w0 _ ?side1 ?side2 ?side3 ?side4 A40.out).mono ?_); (case side1 => exact z7_0); (case side2 => exact z7_2); (case side3 => exact Kd.C_foot_step HR1_0.out z7_1); (case side4 => exact HC1_0.out); rintro e w54 ⟨rfl, hi, hb, hk⟩; refine ⟨_, rfl, ?_⟩; have n0_ := Aside0.mk (Kd.qm0 (Kd.qy0 (IsS186.apart (show IsS186 w0 _ g s0_0 t269 t270 from z7_0) z7_12 z7_27) hk (fun _ h => h.2)) (fun _ h => h.1)); have n1_ := Aside0.mk (qc0.blk hk (g' := gb235) (o := .cells #[.slice A1_0 l1_0.length c1_0, .int .i64 a1_1, .int .i64 a1_2] 174 (0, 0)) z7_3 NB235_0.out (by simp)); have n2_ := Aside0.mk (qc0.blk hk (g' := gb236) (o := .cells #[.int .i64 0, .int .i64 0, .string (⟨#[]⟩ : ByteArray), .slice none 0 0] 98 (0, 0)) z7_5 NB236_0.out (by simp)); have n3_ := Aside0.mk (qc0.blk hk (g' := gb249) (o := .cells #[.int .i64 t237, .int .i64 t240, .string t246, u250003] 98 (0, 0)) z7_6 NB249_0.out (by simp)); have n4_ := Aside0.mk (qc0.trans z7_1 hk (.inl rfl)); have n5_ := Aside0.mk (hb); have n6_ := Aside0.mk (hi); clear HO_250003; clear BK235; clear BK236; clear BK249; clear HK; clear HB; clear HI0; have HO_250003 := n0_; have BK235 := n1_; have BK236 := n2_; have BK249 := n3_; have HK := n4_; have HB := n5_; have HI0 := n6_; clear n0_ n1_ n2_ n3_ n4_ n5_ n6_; (try clear hb); (try clear hb2); (try clear hk); (try clear hi); have hnb55 := NB249_236.out; have hnc55 := NB236_249.out; have hnb56 := NB249_0.out; have hnc56 := NB0_249.out; have hcz57_0 : w54.cell? ⟨gb249, 0, none⟩ = some (.int .i64 t237) := (qb0 BK249.out 0).trans rfl; have hcz57_1 : w54.cell? ⟨gb249, 1, none⟩ = some (.int .i64 t240) := (qb0 BK249.out 1).trans rfl; have hcz57_2 : w54.cell? ⟨gb249, 2, none⟩ = some (.string t246) := (qb0 BK249.out 2).trans rfl; have hcz57_3 : w54.cell? ⟨gb249, 3, none⟩ = some (u250003) := (qb0 BK249.out 3).trans rfl; have hfz57_0 := qa0 BK249.out 0; have hfz57_1 := qa0 BK249.out 1; have hfz57_2 := qa0 BK249.out 2; have hfz57_3 := qa0 BK249.out 3) | ((with_reducible refine qw0 (b := .append) (xs := #[.tmp 62, .tmp 69]) rfl ?_); at_builtin; refine Kd.qo1 k100 w.heap.size rfl (.tmp 62) (.tmp 69) 96 100 (.agg #[(.int .i64 0), (.int .i64 0), (.int .i64 0), (.int .i64 0), (.int .i64 0)]) 40 rfl Try.underlying96 info100 rfl z7_27 (by omega) u250003 x250003_1 (⟨t268, t256, t253, (wrap64 (t259 - 10000)), x10_24⟩ : S100) [.int .i64 t268, .int .i64 t256, .int .i64 t253, .int .i64 (wrap64 (t259 - 10000)), .int .i64 x10_24] (fun _ => True) (fun _ => False) rfl rfl ?aP (fun _ hk => hk.elim) ?aF ?aO (Below.refl _ _) ?aS ?aL ?_; (case aP => exact k100_mkM _ _ _ (⟨t268, t256, t253, (wrap64 (t259 - 10000)), x10_24⟩ : S100)); (case aF => exact (fun _ _ => trivial)); (case aO => exact z7_12); (case aS => exact (qx0 (w := w) (g := g) (row := none) z7_1)); (case aL => have := LMc41.out; omega); intro v275 w58 ho hb hg hat; rw [← Ny274.out] at ho; have n0_ := Aside0.mk (qq0 (g := gb235) (o := .cells #[.slice A1_0 l1_0.length c1_0, .int .i64 a1_1, .int .i64 a1_2] 174 (0, 0)) z7_3 hg (Kd.R_ne HO_250003.out BK235.out z7_27)); have n1_ := Aside0.mk (qq0 (g := gb236) (o := .cells #[.int .i64 0, .int .i64 0, .string (⟨#[]⟩ : ByteArray), .slice none 0 0] 98 (0, 0)) z7_5 hg (Kd.R_ne HO_250003.out BK236.out z7_27)); have n2_ := Aside0.mk (qq0 (g := gb249) (o := .cells #[.int .i64 t237, .int .i64 t240, .string t246, u250003] 98 (0, 0)) z7_6 hg (Kd.R_ne HO_250003.out BK249.out z7_27)); have n3_ := Aside0.mk (IsS186.grown (show IsS186 w0 _ g s0_0 t272 t273 from z7_0) hg (IsS186.own_ne HI0.out HO_250003.out z7_27)); have n4_ := Aside0.mk (qb1 z7_2 HL.out hb); have n5_ := Aside0.mk (qc0.trans z7_1 (qc0.qm1 hg g) (Kd.qs1 HO_250003.out)); have n6_ := Aside0.mk (ho); clear BK235; clear BK236; clear BK249; clear HI0; clear HB; clear HK; clear HO_250003; have BK235 := n0_; have BK236 := n1_; have BK249 := n2_; have HI0 := n3_; have HB := n4_; have HK := n5_; have HO276 := n6_; clear n0_ n1_ n2_ n3_ n4_ n5_ n6_; clear ho hb hg hat; obtain ⟨Ao59, co59, eo59⟩ := Kd.qn1 HO276.out; subst eo59; have hcz60_0 : w58.cell? ⟨gb249, 0, none⟩ = some (.int .i64 t237) := (qb0 BK249.out 0).trans rfl; have hcz60_1 : w58.cell? ⟨gb249, 1, none⟩ = some (.int .i64 t240) := (qb0 BK249.out 1).trans rfl; have hcz60_2 : w58.cell? ⟨gb249, 2, none⟩ = some (.string t246) := (qb0 BK249.out 2).trans rfl; have hcz60_3 : w58.cell? ⟨gb249, 3, none⟩ = some (u250003) := (qb0 BK249.out 3).trans rfl; have hfz60_0 := qa0 BK249.out 0; have hfz60_1 := qa0 BK249.out 1; have hfz60_2 := qa0 BK249.out 2; have hfz60_3 := qa0 BK249.out 3) | ((with_reducible refine qg0 (f := 63) rfl ?_); refine qt0 (some 73) rfl rfl Try.func63 z7_30 rfl #[.pointer (some ⟨g, 0, none⟩), .int .i64 3] rfl z7_4 ?_; (with_reducible refine (spec_l1Once.calls g s0_0 t272 t273 3 true t278 t279 w0 _ ?side1 ?side2 A42.out).mono ?_); (case side1 => exact z7_0); (case side2 => exact z7_2); rintro e w61 ⟨rfl, hi, hb, hk⟩; refine ⟨_, rfl, ?_⟩; have n0_ := Aside0.mk (qc0.blk hk (g' := gb235) (o := .cells #[.slice A1_0 l1_0.length c1_0, .int .i64 a1_1, .int .i64 a1_2] 174 (0, 0)) z7_7 NB235_0.out (by simp)); have n1_ := Aside0.mk (qc0.blk hk (g' := gb236) (o := .cells #[.int .i64 0, .int .i64 0, .string (⟨#[]⟩ : ByteArray), .slice none 0 0] 98 (0, 0)) z7_8 NB236_0.out (by simp)); have n2_ := Aside0.mk (qc0.blk hk (g' := gb249) (o := .cells #[.int .i64 t237, .int .i64 t240, .string t246, .slice Ao59 y274.length co59] 98 (0, 0)) z7_17 NB249_0.out (by simp)); have n3_ := Aside0.mk (Kd.qm0 (Kd.qy0 (IsS186.apart (show IsS186 w0 _ g s0_0 t272 t273 from z7_0) (by (with_reducible repeat (first | apply Kd.qr0 | apply Kd.qp0 | apply Kd.qu0)); exact (Kd.qm0 (Kd.R_far (p := ⟨gb249, 3, none⟩) (Kd.qi1 HO276.out BK249.out z7_27) (fun _ hk => hk.2) (.slice Ao59 y274.length co59)) (fun _ h_ => h_.1))) z7_27) hk (fun _ h => h.2)) (fun _ h => h.1)); have n4_ := Aside0.mk (qc0.trans z7_1 hk (.inl rfl)); have n5_ := Aside0.mk (hb); have n6_ := Aside0.mk (hi); clear BK235; clear BK236; clear BK249; clear HO276; clear HK; clear HB; clear HI0; have BK235 := n0_; have BK236 := n1_; have BK249 := n2_; have HO276 := n3_; have HK := n4_; have HB := n5_; have HI0 := n6_; clear n0_ n1_ n2_ n3_ n4_ n5_ n6_; (try clear hb); (try clear hb2); (try clear hk); (try clear hi)) | ((with_reducible refine qg0 (f := 61) rfl ?_); refine qt0 (some 75) rfl rfl Try.func61 z7_30 rfl #[.pointer (some ⟨g, 0, none⟩), .int .i64 200] rfl z7_4 ?_; (with_reducible refine (spec_l1Below.calls g s0_0 t278 t279 200 t280 t281 t282 w0 _ ?side1 ?side2 A44.out).mono ?_); (case side1 => exact z7_0); (case side2 => exact z7_2); rintro e w62 ⟨rfl, hi, hb, hk⟩; refine ⟨_, rfl, ?_⟩; have n0_ := Aside0.mk (qc0.blk hk (g' := gb235) (o := .cells #[.slice A1_0 l1_0.length c1_0, .int .i64 a1_1, .int .i64 a1_2] 174 (0, 0)) z7_3 NB235_0.out (by simp)); have n1_ := Aside0.mk (qc0.blk hk (g' := gb236) (o := .cells #[.int .i64 0, .int .i64 0, .string (⟨#[]⟩ : ByteArray), .slice none 0 0] 98 (0, 0)) z7_5 NB236_0.out (by simp)); have n2_ := Aside0.mk (qc0.blk hk (g' := gb249) (o := .cells #[.int .i64 t237, .int .i64 t240, .string t246, .slice Ao59 y274.length co59] 98 (0, 0)) z7_6 NB249_0.out (by simp)); have n3_ := Aside0.mk (Kd.qm0 (Kd.qy0 (IsS186.apart (show IsS186 w0 _ g s0_0 t278 t279 from z7_0) z7_19 z7_27) hk (fun _ h => h.2)) (fun _ h => h.1)); have n4_ := Aside0.mk (qc0.trans z7_1 hk (.inl rfl)); have n5_ := Aside0.mk (hb); have n6_ := Aside0.mk (hi); clear BK235; clear BK236; clear BK249; clear HO276; clear HK; clear HB; clear HI0; have BK235 := n0_; have BK236 := n1_; have BK249 := n2_; have HO276 := n3_; have HK := n4_; have HB := n5_; have HI0 := n6_; clear n0_ n1_ n2_ n3_ n4_ n5_ n6_; (try clear hb); (try clear hb2); (try clear hk); (try clear hi); have hcz63_0 : w62.cell? ⟨gb249, 0, none⟩ = some (.int .i64 t237) := (qb0 BK249.out 0).trans rfl; have hcz63_1 : w62.cell? ⟨gb249, 1, none⟩ = some (.int .i64 t240) := (qb0 BK249.out 1).trans rfl; have hcz63_2 : w62.cell? ⟨gb249, 2, none⟩ = some (.string t246) := (qb0 BK249.out 2).trans rfl; have hcz63_3 : w62.cell? ⟨gb249, 3, none⟩ = some (.slice Ao59 y274.length co59) := (qb0 BK249.out 3).trans rfl; have hfz63_0 := qa0 BK249.out 0; have hfz63_1 := qa0 BK249.out 1; have hfz63_2 := qa0 BK249.out 2; have hfz63_3 := qa0 BK249.out 3) | ((with_reducible refine qw0 (b := .append) (xs := #[.tmp 82, .tmp 91]) rfl ?_); at_builtin; refine Kd.qo1 k100 w.heap.size rfl (.tmp 82) (.tmp 91) 96 100 (.agg #[(.int .i64 0), (.int .i64 0), (.int .i64 0), (.int .i64 0), (.int .i64 0)]) 40 rfl Try.underlying96 info100 rfl z7_27 (by omega) (.slice Ao59 y274.length co59) y274 (⟨t271, t256, t253, wrap64 (-t280), wrap64 (-t280)⟩ : S100) [.int .i64 t271, .int .i64 t256, .int .i64 t253, .int .i64 (wrap64 (-t280)), .int .i64 (wrap64 (-t280))] (fun _ => True) (fun _ => False) rfl rfl ?aP (fun _ hk => hk.elim) ?aF ?aO (Below.refl _ _) ?aS ?aL ?_; (case aP => exact k100_mkM _ _ _ (⟨t271, t256, t253, wrap64 (-t280), wrap64 (-t280)⟩ : S100)); (case aF => exact (fun _ _ => trivial)); (case aO => exact z7_19); (case aS => exact (qx0 (w := w) (g := g) (row := none) z7_1)); (case aL => have := LMc46.out; omega); intro v284 w64 ho hb hg hat; rw [← Ny283.out] at ho; have n0_ := Aside0.mk (qq0 (g := gb235) (o := .cells #[.slice A1_0 l1_0.length c1_0, .int .i64 a1_1, .int .i64 a1_2] 174 (0, 0)) z7_3 hg (Kd.R_ne HO276.out BK235.out z7_27)); have n1_ := Aside0.mk (qq0 (g := gb236) (o := .cells #[.int .i64 0, .int .i64 0, .string (⟨#[]⟩ : ByteArray), .slice none 0 0] 98 (0, 0)) z7_5 hg (Kd.R_ne HO276.out BK236.out z7_27)); have n2_ := Aside0.mk (qq0 (g := gb249) (o := .cells #[.int .i64 t237, .int .i64 t240, .string t246, .slice Ao59 y274.length co59] 98 (0, 0)) z7_6 hg (Kd.R_ne HO276.out BK249.out z7_27)); have n3_ := Aside0.mk (IsS186.grown (show IsS186 w0 _ g s0_0 t281 t282 from z7_0) hg (IsS186.own_ne HI0.out HO276.out z7_27)); have n4_ := Aside0.mk (qb1 z7_2 HL.out hb); have n5_ := Aside0.mk (qc0.trans z7_1 (qc0.qm1 hg g) (Kd.qs1 HO276.out)); have n6_ := Aside0.mk (ho); clear BK235; clear BK236; clear BK249; clear HI0; clear HB; clear HK; clear HO276; have BK235 := n0_; have BK236 := n1_; have BK249 := n2_; have HI0 := n3_; have HB := n4_; have HK := n5_; have HO285 := n6_; clear n0_ n1_ n2_ n3_ n4_ n5_ n6_; clear ho hb hg hat; obtain ⟨Ao65, co65, eo65⟩ := Kd.qn1 HO285.out; subst eo65; have hcz66_0 : w64.cell? ⟨gb249, 0, none⟩ = some (.int .i64 t237) := (qb0 BK249.out 0).trans rfl; have hcz66_1 : w64.cell? ⟨gb249, 1, none⟩ = some (.int .i64 t240) := (qb0 BK249.out 1).trans rfl; have hcz66_2 : w64.cell? ⟨gb249, 2, none⟩ = some (.string t246) := (qb0 BK249.out 2).trans rfl; have hcz66_3 : w64.cell? ⟨gb249, 3, none⟩ = some (.slice Ao59 y274.length co59) := (qb0 BK249.out 3).trans rfl; have hfz66_0 := qa0 BK249.out 0; have hfz66_1 := qa0 BK249.out 1; have hfz66_2 := qa0 BK249.out 2; have hfz66_3 := qa0 BK249.out 3) | ((with_reducible refine qw0 (b := .append) (xs := #[.tmp 101, .tmp 110]) rfl ?_); at_builtin; refine Kd.qo1 k100 w.heap.size rfl (.tmp 101) (.tmp 110) 96 100 (.agg #[(.int .i64 0), (.int .i64 0), (.int .i64 0), (.int .i64 0), (.int .i64 0)]) 40 rfl Try.underlying96 info100 rfl z7_27 (by omega) (.slice Ao65 y283.length co65) y283 (⟨t271, t256, t253, wrap64 (-(wrap64 ((wrap64 (t259 - 10000)) - t280))), wrap64 (-(wrap64 (x10_24 - t280)))⟩ : S100) [.int .i64 t271, .int .i64 t256, .int .i64 t253, .int .i64 (wrap64 (-(wrap64 ((wrap64 (t259 - 10000)) - t280)))), .int .i64 (wrap64 (-(wrap64 (x10_24 - t280))))] (fun _ => True) (fun _ => False) rfl z7_31 ?aP (fun _ hk => hk.elim) ?aF ?aO (Below.refl _ _) ?aS ?aL ?_; (case aP => exact k100_mkM _ _ _ (⟨t271, t256, t253, wrap64 (-(wrap64 ((wrap64 (t259 - 10000)) - t280))), wrap64 (-(wrap64 (x10_24 - t280)))⟩ : S100)); (case aF => exact (fun _ _ => trivial)); (case aO => exact (by (with_reducible repeat (first | apply Kd.qr0 | apply Kd.qp0 | apply Kd.qu0)); exact Kd.qm0 (Kd.R_far (p := ⟨gb249, 3, none⟩) (Kd.qi1 HO285.out BK249.out z7_27) (fun _ hk => hk.2) (.slice Ao65 y283.length co65)) (fun _ hk => trivial))); (case aS => exact (qx0 (w := w) (g := g) (row := none) z7_1)); (case aL => have := LMc47.out; omega); intro v287 w67 ho hb hg hat; rw [← Ny286.out] at ho; have n0_ := Aside0.mk (qq0 (g := gb235) (o := .cells #[.slice A1_0 l1_0.length c1_0, .int .i64 a1_1, .int .i64 a1_2] 174 (0, 0)) z7_7 hg (Kd.R_ne HO285.out BK235.out z7_27)); have n1_ := Aside0.mk (qq0 (g := gb236) (o := .cells #[.int .i64 0, .int .i64 0, .string (⟨#[]⟩ : ByteArray), .slice none 0 0] 98 (0, 0)) z7_8 hg (Kd.R_ne HO285.out BK236.out z7_27)); have n2_ := Aside0.mk (qq0 (g := gb249) (o := .cells #[.int .i64 t237, .int .i64 t240, .string t246, .slice Ao65 y283.length co65] 98 (0, 0)) (by (with_reducible repeat (first | refine qe0 ?_ _ | refine qf0 ?_ | refine qd0 ?_ _)); refine qo0 (cs := #[.int .i64 t237, .int .i64 t240, .string t246, .slice Ao59 y274.length co59]) ?_ 3 _ rfl; (with_reducible repeat (first | refine qe0 ?_ _ | refine qf0 ?_ | refine qd0 ?_ _)); exact BK249.out) hg (Kd.R_ne HO285.out BK249.out z7_27)); have n3_ := Aside0.mk (IsS186.grown (show IsS186 w0 _ g s0_0 t281 t282 from z7_0) hg (IsS186.own_ne HI0.out HO285.out z7_27)); have n4_ := Aside0.mk (qb1 z7_2 HL.out hb); have n5_ := Aside0.mk (qc0.trans z7_1 (qc0.qm1 hg g) (Kd.qs1 HO285.out)); have n6_ := Aside0.mk (ho); clear BK235; clear BK236; clear BK249; clear HI0; clear HB; clear HK; clear HO285; have BK235 := n0_; have BK236 := n1_; have BK249 := n2_; have HI0 := n3_; have HB := n4_; have HK := n5_; have HO288 := n6_; clear n0_ n1_ n2_ n3_ n4_ n5_ n6_; clear ho hb hg hat; obtain ⟨Ao68, co68, eo68⟩ := Kd.qn1 HO288.out; subst eo68; have hcz69_0 : w67.cell? ⟨gb249, 0, none⟩ = some (.int .i64 t237) := (qb0 BK249.out 0).trans rfl; have hcz69_1 : w67.cell? ⟨gb249, 1, none⟩ = some (.int .i64 t240) := (qb0 BK249.out 1).trans rfl; have hcz69_2 : w67.cell? ⟨gb249, 2, none⟩ = some (.string t246) := (qb0 BK249.out 2).trans rfl; have hcz69_3 : w67.cell? ⟨gb249, 3, none⟩ = some (.slice Ao65 y283.length co65) := (qb0 BK249.out 3).trans rfl; have hfz69_0 := qa0 BK249.out 0; have hfz69_1 := qa0 BK249.out 1; have hfz69_2 := qa0 BK249.out 2; have hfz69_3 := qa0 BK249.out 3))
        go_roundg kj24
        case measure => have := HK1.out; have := HJ24.out; omega
        case rel => exact ⟨(wrap64 (x6_1 - 1)), (t281), (t282), (y286), (.slice Ao68 y286.length co68), z7_22, H', ⟨by have := HK1.out; have := HJ24.out; omega⟩, ⟨by (with_reducible repeat (first | apply Kd.qr0 | apply Kd.qp0 | apply Kd.qu0)); exact Kd.qm0 (Kd.R_far (p := ⟨gb249, 3, none⟩) (Kd.qi1 HO288.out BK249.out z7_27) (fun _ hk => hk.2) (.slice Ao68 y286.length co68)) (fun _ hk => trivial)⟩, ⟨z7_7⟩, ⟨z7_8⟩, ⟨by (with_reducible repeat (first | refine qe0 ?_ _ | refine qf0 ?_ | refine qd0 ?_ _)); refine qo0 (cs := #[.int .i64 t237, .int .i64 t240, .string t246, .slice Ao65 y283.length co65]) ?_ 3 _ rfl; (with_reducible repeat (first | refine qe0 ?_ _ | refine qf0 ?_ | refine qd0 ?_ _)); exact BK249.out⟩, ⟨z7_0⟩, ⟨z7_1⟩, ⟨z7_2⟩⟩
       rw [if_neg c45] at H
       have c45b0 : (t253 == 0) = false := beq_eq_false_iff_ne.mpr c45
       have c45b1 : (t253 != 0) = true := bne_iff_ne.mpr c45
       replace H := Option.bind_eq_some_iff.mp H
       obtain ⟨⟨t289, t290, t291⟩, A700, H⟩ := H
       replace H : (if y274.length < 3518437208883 then ((some (y274 ++ [(⟨t271, t256, t253, wrap64 (-t280), wrap64 (-t289)⟩ : S100)] : List (S100))).bind fun y292 => (if y292.length < 3518437208883 then (spec_l5DrawEntry.l0 kj24 (wrap64 (x6_1 - 1)) s0_0 t290 t291 l1_0 a1_1 a1_2 t237 t240 t246 (y292 ++ [(⟨t271, t256, t253, wrap64 (-(wrap64 ((wrap64 (t259 - 10000)) - t280))), wrap64 (-(wrap64 (x10_24 - t289)))⟩ : S100)])) else (none))) else (none)) = some (r1, r2, r3, r4, r5, r6) := H
       have A70 := Aside0.mk A700
       clear A700
       by_cases c71 : y274.length < 3518437208883
       case neg => rw [if_neg c71] at H; exact absurd H (by simp)
       rw [if_pos c71] at H
       have LMc71 := Aside0.mk c71
       clear c71
       obtain ⟨y292, hy292⟩ : ∃ y_ : List (S100), y_ = (y274 ++ [(⟨t271, t256, t253, wrap64 (-t280), wrap64 (-t289)⟩ : S100)]) := ⟨_, rfl⟩
       replace H : (if y292.length < 3518437208883 then (spec_l5DrawEntry.l0 kj24 (wrap64 (x6_1 - 1)) s0_0 t290 t291 l1_0 a1_1 a1_2 t237 t240 t246 (y292 ++ [(⟨t271, t256, t253, wrap64 (-(wrap64 ((wrap64 (t259 - 10000)) - t280))), wrap64 (-(wrap64 (x10_24 - t289)))⟩ : S100)])) else (none)) = some (r1, r2, r3, r4, r5, r6) := by first | (rw [hy292]; with_reducible exact H) | (have H2_ := (Option.bind_some _ _).symm.trans H; rw [hy292]; with_reducible exact H2_) | (have H2_ := (Option.bind_some _ _).symm.trans H; with_reducible exact H2_) | with_reducible exact H | (rw [hy292]; exact H) | exact H
       have Ny292 := Aside0.mk hy292
       clear hy292
       by_cases c72 : y292.length < 3518437208883
       case neg => rw [if_neg c72] at H; exact absurd H (by simp)
       rw [if_pos c72] at H
       have LMc72 := Aside0.mk c72
       clear c72
       obtain ⟨y295, hy295⟩ : ∃ y_ : List (S100), y_ = (y292 ++ [(⟨t271, t256, t253, wrap64 (-(wrap64 ((wrap64 (t259 - 10000)) - t280))), wrap64 (-(wrap64 (x10_24 - t289)))⟩ : S100)]) := ⟨_, rfl⟩
       replace H : (spec_l5DrawEntry.l0 kj24 (wrap64 (x6_1 - 1)) s0_0 t290 t291 l1_0 a1_1 a1_2 t237 t240 t246 y295) = some (r1, r2, r3, r4, r5, r6) := by first | (rw [hy295]; with_reducible exact H) | (have H2_ := (Option.bind_some _ _).symm.trans H; rw [hy295]; with_reducible exact H2_) | (have H2_ := (Option.bind_some _ _).symm.trans H; with_reducible exact H2_) | with_reducible exact H | (rw [hy295]; exact H) | exact H
       have Ny295 := Aside0.mk hy295
       clear hy295
       have H' := Aside0.mk H
       clear H
       have hnb73 := NB235_236.out
       have hnc73 := NB236_235.out
       have hnb74 := NB235_249.out
       have hnc74 := NB249_235.out
       have hnb75 := NB235_0.out
       have hnc75 := NB0_235.out
       have hcz76_0 : wc.cell? ⟨gb235, 0, none⟩ = some (.slice A1_0 l1_0.length c1_0) := (qb0 BK235.out 0).trans rfl
       have hcz76_1 : wc.cell? ⟨gb235, 1, none⟩ = some (.int .i64 a1_1) := (qb0 BK235.out 1).trans rfl
       have hcz76_2 : wc.cell? ⟨gb235, 2, none⟩ = some (.int .i64 a1_2) := (qb0 BK235.out 2).trans rfl
       have hfz76_0 := qa0 BK235.out 0
       have hfz76_1 := qa0 BK235.out 1
       have hfz76_2 := qa0 BK235.out 2
       go_wp2_with (first | ((with_reducible refine qg0 (f := 163) rfl ?_); refine qt0 (some 56) rfl rfl Try.func163 z7_30 rfl #[.pointer (some ⟨g, 0, none⟩), .slice A1_0 l1_0.length c1_0] rfl z7_4 ?_; (with_reducible refine (spec_l5DrawLeaf.calls kj24 g s0_0 x1001_24 x1002_24 _ _ l1_0 t268 t269 t270 w0 _ ?side1 ?side2 ?side3 ?side4 A39.out).mono ?_); (case side1 => exact z7_0); (case side2 => exact z7_2); (case side3 => exact Kd.C_foot_step HR1_0.out z7_1); (case side4 => exact HC1_0.out); rintro e w77 ⟨rfl, hi, hb, hk⟩; refine ⟨_, rfl, ?_⟩; have n0_ := Aside0.mk (Kd.qm0 (Kd.qy0 (IsS186.apart (show IsS186 w0 _ g s0_0 x1001_24 x1002_24 from z7_0) z7_12 z7_27) hk (fun _ h => h.2)) (fun _ h => h.1)); have n1_ := Aside0.mk (qc0.blk hk (g' := gb235) (o := .cells #[.slice A1_0 l1_0.length c1_0, .int .i64 a1_1, .int .i64 a1_2] 174 (0, 0)) z7_3 NB235_0.out (by simp)); have n2_ := Aside0.mk (qc0.blk hk (g' := gb236) (o := .cells #[.int .i64 0, .int .i64 0, .string (⟨#[]⟩ : ByteArray), .slice none 0 0] 98 (0, 0)) z7_5 NB236_0.out (by simp)); have n3_ := Aside0.mk (qc0.blk hk (g' := gb249) (o := .cells #[.int .i64 t237, .int .i64 t240, .string t246, u250003] 98 (0, 0)) z7_6 NB249_0.out (by simp)); have n4_ := Aside0.mk (qc0.trans z7_1 hk (.inl rfl)); have n5_ := Aside0.mk (hb); have n6_ := Aside0.mk (hi); clear HO_250003; clear BK235; clear BK236; clear BK249; clear HK; clear HB; clear HI0; have HO_250003 := n0_; have BK235 := n1_; have BK236 := n2_; have BK249 := n3_; have HK := n4_; have HB := n5_; have HI0 := n6_; clear n0_ n1_ n2_ n3_ n4_ n5_ n6_; (try clear hb); (try clear hb2); (try clear hk); (try clear hi); have hcz78_0 : w77.cell? ⟨gb235, 0, none⟩ = some (.slice A1_0 l1_0.length c1_0) := (qb0 BK235.out 0).trans rfl; have hcz78_1 : w77.cell? ⟨gb235, 1, none⟩ = some (.int .i64 a1_1) := (qb0 BK235.out 1).trans rfl; have hcz78_2 : w77.cell? ⟨gb235, 2, none⟩ = some (.int .i64 a1_2) := (qb0 BK235.out 2).trans rfl; have hfz78_0 := qa0 BK235.out 0; have hfz78_1 := qa0 BK235.out 1; have hfz78_2 := qa0 BK235.out 2) | ((with_reducible refine qg0 (f := 163) rfl ?_); refine qt0 (some 60) rfl rfl Try.func163 z7_30 rfl #[.pointer (some ⟨g, 0, none⟩), .slice A1_0 l1_0.length c1_0] rfl z7_4 ?_; (with_reducible refine (spec_l5DrawLeaf.calls kj24 g s0_0 t269 t270 _ _ l1_0 t271 t272 t273 w0 _ ?side1 ?side2 ?side3 ?side4 A40.out).mono ?_); (case side1 => exact z7_0); (case side2 => exact z7_2); (case side3 => exact Kd.C_foot_step HR1_0.out z7_1); (case side4 => exact HC1_0.out); rintro e w79 ⟨rfl, hi, hb, hk⟩; refine ⟨_, rfl, ?_⟩; have n0_ := Aside0.mk (Kd.qm0 (Kd.qy0 (IsS186.apart (show IsS186 w0 _ g s0_0 t269 t270 from z7_0) z7_12 z7_27) hk (fun _ h => h.2)) (fun _ h => h.1)); have n1_ := Aside0.mk (qc0.blk hk (g' := gb235) (o := .cells #[.slice A1_0 l1_0.length c1_0, .int .i64 a1_1, .int .i64 a1_2] 174 (0, 0)) z7_3 NB235_0.out (by simp)); have n2_ := Aside0.mk (qc0.blk hk (g' := gb236) (o := .cells #[.int .i64 0, .int .i64 0, .string (⟨#[]⟩ : ByteArray), .slice none 0 0] 98 (0, 0)) z7_5 NB236_0.out (by simp)); have n3_ := Aside0.mk (qc0.blk hk (g' := gb249) (o := .cells #[.int .i64 t237, .int .i64 t240, .string t246, u250003] 98 (0, 0)) z7_6 NB249_0.out (by simp)); have n4_ := Aside0.mk (qc0.trans z7_1 hk (.inl rfl)); have n5_ := Aside0.mk (hb); have n6_ := Aside0.mk (hi); clear HO_250003; clear BK235; clear BK236; clear BK249; clear HK; clear HB; clear HI0; have HO_250003 := n0_; have BK235 := n1_; have BK236 := n2_; have BK249 := n3_; have HK := n4_; have HB := n5_; have HI0 := n6_; clear n0_ n1_ n2_ n3_ n4_ n5_ n6_; (try clear hb); (try clear hb2); (try clear hk); (try clear hi); have hnb80 := NB249_236.out; have hnc80 := NB236_249.out; have hnb81 := NB249_0.out; have hnc81 := NB0_249.out; have hcz82_0 : w79.cell? ⟨gb249, 0, none⟩ = some (.int .i64 t237) := (qb0 BK249.out 0).trans rfl; have hcz82_1 : w79.cell? ⟨gb249, 1, none⟩ = some (.int .i64 t240) := (qb0 BK249.out 1).trans rfl; have hcz82_2 : w79.cell? ⟨gb249, 2, none⟩ = some (.string t246) := (qb0 BK249.out 2).trans rfl; have hcz82_3 : w79.cell? ⟨gb249, 3, none⟩ = some (u250003) := (qb0 BK249.out 3).trans rfl; have hfz82_0 := qa0 BK249.out 0; have hfz82_1 := qa0 BK249.out 1; have hfz82_2 := qa0 BK249.out 2; have hfz82_3 := qa0 BK249.out 3) | ((with_reducible refine qw0 (b := .append) (xs := #[.tmp 62, .tmp 69]) rfl ?_); at_builtin; refine Kd.qo1 k100 w.heap.size rfl (.tmp 62) (.tmp 69) 96 100 (.agg #[(.int .i64 0), (.int .i64 0), (.int .i64 0), (.int .i64 0), (.int .i64 0)]) 40 rfl Try.underlying96 info100 rfl z7_27 (by omega) u250003 x250003_1 (⟨t268, t256, t253, (wrap64 (t259 - 10000)), x10_24⟩ : S100) [.int .i64 t268, .int .i64 t256, .int .i64 t253, .int .i64 (wrap64 (t259 - 10000)), .int .i64 x10_24] (fun _ => True) (fun _ => False) rfl rfl ?aP (fun _ hk => hk.elim) ?aF ?aO (Below.refl _ _) ?aS ?aL ?_; (case aP => exact k100_mkM _ _ _ (⟨t268, t256, t253, (wrap64 (t259 - 10000)), x10_24⟩ : S100)); (case aF => exact (fun _ _ => trivial)); (case aO => exact z7_12); (case aS => exact (qx0 (w := w) (g := g) (row := none) z7_1)); (case aL => have := LMc41.out; omega); intro v275 w83 ho hb hg hat; rw [← Ny274.out] at ho; have n0_ := Aside0.mk (qq0 (g := gb235) (o := .cells #[.slice A1_0 l1_0.length c1_0, .int .i64 a1_1, .int .i64 a1_2] 174 (0, 0)) z7_3 hg (Kd.R_ne HO_250003.out BK235.out z7_27)); have n1_ := Aside0.mk (qq0 (g := gb236) (o := .cells #[.int .i64 0, .int .i64 0, .string (⟨#[]⟩ : ByteArray), .slice none 0 0] 98 (0, 0)) z7_5 hg (Kd.R_ne HO_250003.out BK236.out z7_27)); have n2_ := Aside0.mk (qq0 (g := gb249) (o := .cells #[.int .i64 t237, .int .i64 t240, .string t246, u250003] 98 (0, 0)) z7_6 hg (Kd.R_ne HO_250003.out BK249.out z7_27)); have n3_ := Aside0.mk (IsS186.grown (show IsS186 w0 _ g s0_0 t272 t273 from z7_0) hg (IsS186.own_ne HI0.out HO_250003.out z7_27)); have n4_ := Aside0.mk (qb1 z7_2 HL.out hb); have n5_ := Aside0.mk (qc0.trans z7_1 (qc0.qm1 hg g) (Kd.qs1 HO_250003.out)); have n6_ := Aside0.mk (ho); clear BK235; clear BK236; clear BK249; clear HI0; clear HB; clear HK; clear HO_250003; have BK235 := n0_; have BK236 := n1_; have BK249 := n2_; have HI0 := n3_; have HB := n4_; have HK := n5_; have HO276 := n6_; clear n0_ n1_ n2_ n3_ n4_ n5_ n6_; clear ho hb hg hat; obtain ⟨Ao84, co84, eo84⟩ := Kd.qn1 HO276.out; subst eo84; have hcz85_0 : w83.cell? ⟨gb249, 0, none⟩ = some (.int .i64 t237) := (qb0 BK249.out 0).trans rfl; have hcz85_1 : w83.cell? ⟨gb249, 1, none⟩ = some (.int .i64 t240) := (qb0 BK249.out 1).trans rfl; have hcz85_2 : w83.cell? ⟨gb249, 2, none⟩ = some (.string t246) := (qb0 BK249.out 2).trans rfl; have hcz85_3 : w83.cell? ⟨gb249, 3, none⟩ = some (u250003) := (qb0 BK249.out 3).trans rfl; have hfz85_0 := qa0 BK249.out 0; have hfz85_1 := qa0 BK249.out 1; have hfz85_2 := qa0 BK249.out 2; have hfz85_3 := qa0 BK249.out 3) | ((with_reducible refine qg0 (f := 63) rfl ?_); refine qt0 (some 73) rfl rfl Try.func63 z7_30 rfl #[.pointer (some ⟨g, 0, none⟩), .int .i64 3] rfl z7_4 ?_; (with_reducible refine (spec_l1Once.calls g s0_0 t272 t273 3 true t278 t279 w0 _ ?side1 ?side2 A42.out).mono ?_); (case side1 => exact z7_0); (case side2 => exact z7_2); rintro e w86 ⟨rfl, hi, hb, hk⟩; refine ⟨_, rfl, ?_⟩; have n0_ := Aside0.mk (qc0.blk hk (g' := gb235) (o := .cells #[.slice A1_0 l1_0.length c1_0, .int .i64 a1_1, .int .i64 a1_2] 174 (0, 0)) z7_7 NB235_0.out (by simp)); have n1_ := Aside0.mk (qc0.blk hk (g' := gb236) (o := .cells #[.int .i64 0, .int .i64 0, .string (⟨#[]⟩ : ByteArray), .slice none 0 0] 98 (0, 0)) z7_8 NB236_0.out (by simp)); have n2_ := Aside0.mk (qc0.blk hk (g' := gb249) (o := .cells #[.int .i64 t237, .int .i64 t240, .string t246, .slice Ao84 y274.length co84] 98 (0, 0)) z7_17 NB249_0.out (by simp)); have n3_ := Aside0.mk (Kd.qm0 (Kd.qy0 (IsS186.apart (show IsS186 w0 _ g s0_0 t272 t273 from z7_0) (by (with_reducible repeat (first | apply Kd.qr0 | apply Kd.qp0 | apply Kd.qu0)); exact (Kd.qm0 (Kd.R_far (p := ⟨gb249, 3, none⟩) (Kd.qi1 HO276.out BK249.out z7_27) (fun _ hk => hk.2) (.slice Ao84 y274.length co84)) (fun _ h_ => h_.1))) z7_27) hk (fun _ h => h.2)) (fun _ h => h.1)); have n4_ := Aside0.mk (qc0.trans z7_1 hk (.inl rfl)); have n5_ := Aside0.mk (hb); have n6_ := Aside0.mk (hi); clear BK235; clear BK236; clear BK249; clear HO276; clear HK; clear HB; clear HI0; have BK235 := n0_; have BK236 := n1_; have BK249 := n2_; have HO276 := n3_; have HK := n4_; have HB := n5_; have HI0 := n6_; clear n0_ n1_ n2_ n3_ n4_ n5_ n6_; (try clear hb); (try clear hb2); (try clear hk); (try clear hi)) | ((with_reducible refine qg0 (f := 61) rfl ?_); refine qt0 (some 75) rfl rfl Try.func61 z7_30 rfl #[.pointer (some ⟨g, 0, none⟩), .int .i64 200] rfl z7_4 ?_; (with_reducible refine (spec_l1Below.calls g s0_0 t278 t279 200 t280 t281 t282 w0 _ ?side1 ?side2 A44.out).mono ?_); (case side1 => exact z7_0); (case side2 => exact z7_2); rintro e w87 ⟨rfl, hi, hb, hk⟩; refine ⟨_, rfl, ?_⟩; have n0_ := Aside0.mk (qc0.blk hk (g' := gb235) (o := .cells #[.slice A1_0 l1_0.length c1_0, .int .i64 a1_1, .int .i64 a1_2] 174 (0, 0)) z7_3 NB235_0.out (by simp)); have n1_ := Aside0.mk (qc0.blk hk (g' := gb236) (o := .cells #[.int .i64 0, .int .i64 0, .string (⟨#[]⟩ : ByteArray), .slice none 0 0] 98 (0, 0)) z7_5 NB236_0.out (by simp)); have n2_ := Aside0.mk (qc0.blk hk (g' := gb249) (o := .cells #[.int .i64 t237, .int .i64 t240, .string t246, .slice Ao84 y274.length co84] 98 (0, 0)) z7_6 NB249_0.out (by simp)); have n3_ := Aside0.mk (Kd.qm0 (Kd.qy0 (IsS186.apart (show IsS186 w0 _ g s0_0 t278 t279 from z7_0) z7_19 z7_27) hk (fun _ h => h.2)) (fun _ h => h.1)); have n4_ := Aside0.mk (qc0.trans z7_1 hk (.inl rfl)); have n5_ := Aside0.mk (hb); have n6_ := Aside0.mk (hi); clear BK235; clear BK236; clear BK249; clear HO276; clear HK; clear HB; clear HI0; have BK235 := n0_; have BK236 := n1_; have BK249 := n2_; have HO276 := n3_; have HK := n4_; have HB := n5_; have HI0 := n6_; clear n0_ n1_ n2_ n3_ n4_ n5_ n6_; (try clear hb); (try clear hb2); (try clear hk); (try clear hi)) | ((with_reducible refine qg0 (f := 61) rfl ?_); refine qt0 (some 80) rfl rfl Try.func61 z7_30 rfl #[.pointer (some ⟨g, 0, none⟩), .int .i64 100] rfl z7_4 ?_; (with_reducible refine (spec_l1Below.calls g s0_0 t281 t282 100 t289 t290 t291 w0 _ ?side1 ?side2 A70.out).mono ?_); (case side1 => exact z7_0); (case side2 => exact z7_2); rintro e w88 ⟨rfl, hi, hb, hk⟩; refine ⟨_, rfl, ?_⟩; have n0_ := Aside0.mk (qc0.blk hk (g' := gb235) (o := .cells #[.slice A1_0 l1_0.length c1_0, .int .i64 a1_1, .int .i64 a1_2] 174 (0, 0)) z7_3 NB235_0.out (by simp)); have n1_ := Aside0.mk (qc0.blk hk (g' := gb236) (o := .cells #[.int .i64 0, .int .i64 0, .string (⟨#[]⟩ : ByteArray), .slice none 0 0] 98 (0, 0)) z7_5 NB236_0.out (by simp)); have n2_ := Aside0.mk (qc0.blk hk (g' := gb249) (o := .cells #[.int .i64 t237, .int .i64 t240, .string t246, .slice Ao84 y274.length co84] 98 (0, 0)) z7_6 NB249_0.out (by simp)); have n3_ := Aside0.mk (Kd.qm0 (Kd.qy0 (IsS186.apart (show IsS186 w0 _ g s0_0 t281 t282 from z7_0) z7_19 z7_27) hk (fun _ h => h.2)) (fun _ h => h.1)); have n4_ := Aside0.mk (qc0.trans z7_1 hk (.inl rfl)); have n5_ := Aside0.mk (hb); have n6_ := Aside0.mk (hi); clear BK235; clear BK236; clear BK249; clear HO276; clear HK; clear HB; clear HI0; have BK235 := n0_; have BK236 := n1_; have BK249 := n2_; have HO276 := n3_; have HK := n4_; have HB := n5_; have HI0 := n6_; clear n0_ n1_ n2_ n3_ n4_ n5_ n6_; (try clear hb); (try clear hb2); (try clear hk); (try clear hi); have hcz89_0 : w88.cell? ⟨gb249, 0, none⟩ = some (.int .i64 t237) := (qb0 BK249.out 0).trans rfl; have hcz89_1 : w88.cell? ⟨gb249, 1, none⟩ = some (.int .i64 t240) := (qb0 BK249.out 1).trans rfl; have hcz89_2 : w88.cell? ⟨gb249, 2, none⟩ = some (.string t246) := (qb0 BK249.out 2).trans rfl; have hcz89_3 : w88.cell? ⟨gb249, 3, none⟩ = some (.slice Ao84 y274.length co84) := (qb0 BK249.out 3).trans rfl; have hfz89_0 := qa0 BK249.out 0; have hfz89_1 := qa0 BK249.out 1; have hfz89_2 := qa0 BK249.out 2; have hfz89_3 := qa0 BK249.out 3) | ((with_reducible refine qw0 (b := .append) (xs := #[.tmp 82, .tmp 91]) rfl ?_); at_builtin; refine Kd.qo1 k100 w.heap.size rfl (.tmp 82) (.tmp 91) 96 100 (.agg #[(.int .i64 0), (.int .i64 0), (.int .i64 0), (.int .i64 0), (.int .i64 0)]) 40 rfl Try.underlying96 info100 rfl z7_27 (by omega) (.slice Ao84 y274.length co84) y274 (⟨t271, t256, t253, wrap64 (-t280), wrap64 (-t289)⟩ : S100) [.int .i64 t271, .int .i64 t256, .int .i64 t253, .int .i64 (wrap64 (-t280)), .int .i64 (wrap64 (-t289))] (fun _ => True) (fun _ => False) rfl rfl ?aP (fun _ hk => hk.elim) ?aF ?aO (Below.refl _ _) ?aS ?aL ?_; (case aP => exact k100_mkM _ _ _ (⟨t271, t256, t253, wrap64 (-t280), wrap64 (-t289)⟩ : S100)); (case aF => exact (fun _ _ => trivial)); (case aO => exact z7_19); (case aS => exact (qx0 (w := w) (g := g) (row := none) z7_1)); (case aL => have := LMc71.out; omega); intro v293 w90 ho hb hg hat; rw [← Ny292.out] at ho; have n0_ := Aside0.mk (qq0 (g := gb235) (o := .cells #[.slice A1_0 l1_0.length c1_0, .int .i64 a1_1, .int .i64 a1_2] 174 (0, 0)) z7_3 hg (Kd.R_ne HO276.out BK235.out z7_27)); have n1_ := Aside0.mk (qq0 (g := gb236) (o := .cells #[.int .i64 0, .int .i64 0, .string (⟨#[]⟩ : ByteArray), .slice none 0 0] 98 (0, 0)) z7_5 hg (Kd.R_ne HO276.out BK236.out z7_27)); have n2_ := Aside0.mk (qq0 (g := gb249) (o := .cells #[.int .i64 t237, .int .i64 t240, .string t246, .slice Ao84 y274.length co84] 98 (0, 0)) z7_6 hg (Kd.R_ne HO276.out BK249.out z7_27)); have n3_ := Aside0.mk (IsS186.grown (show IsS186 w0 _ g s0_0 t290 t291 from z7_0) hg (IsS186.own_ne HI0.out HO276.out z7_27)); have n4_ := Aside0.mk (qb1 z7_2 HL.out hb); have n5_ := Aside0.mk (qc0.trans z7_1 (qc0.qm1 hg g) (Kd.qs1 HO276.out)); have n6_ := Aside0.mk (ho); clear BK235; clear BK236; clear BK249; clear HI0; clear HB; clear HK; clear HO276; have BK235 := n0_; have BK236 := n1_; have BK249 := n2_; have HI0 := n3_; have HB := n4_; have HK := n5_; have HO294 := n6_; clear n0_ n1_ n2_ n3_ n4_ n5_ n6_; clear ho hb hg hat; obtain ⟨Ao91, co91, eo91⟩ := Kd.qn1 HO294.out; subst eo91; have hcz92_0 : w90.cell? ⟨gb249, 0, none⟩ = some (.int .i64 t237) := (qb0 BK249.out 0).trans rfl; have hcz92_1 : w90.cell? ⟨gb249, 1, none⟩ = some (.int .i64 t240) := (qb0 BK249.out 1).trans rfl; have hcz92_2 : w90.cell? ⟨gb249, 2, none⟩ = some (.string t246) := (qb0 BK249.out 2).trans rfl; have hcz92_3 : w90.cell? ⟨gb249, 3, none⟩ = some (.slice Ao84 y274.length co84) := (qb0 BK249.out 3).trans rfl; have hfz92_0 := qa0 BK249.out 0; have hfz92_1 := qa0 BK249.out 1; have hfz92_2 := qa0 BK249.out 2; have hfz92_3 := qa0 BK249.out 3) | ((with_reducible refine qw0 (b := .append) (xs := #[.tmp 101, .tmp 110]) rfl ?_); at_builtin; refine Kd.qo1 k100 w.heap.size rfl (.tmp 101) (.tmp 110) 96 100 (.agg #[(.int .i64 0), (.int .i64 0), (.int .i64 0), (.int .i64 0), (.int .i64 0)]) 40 rfl Try.underlying96 info100 rfl z7_27 (by omega) (.slice Ao91 y292.length co91) y292 (⟨t271, t256, t253, wrap64 (-(wrap64 ((wrap64 (t259 - 10000)) - t280))), wrap64 (-(wrap64 (x10_24 - t289)))⟩ : S100) [.int .i64 t271, .int .i64 t256, .int .i64 t253, .int .i64 (wrap64 (-(wrap64 ((wrap64 (t259 - 10000)) - t280)))), .int .i64 (wrap64 (-(wrap64 (x10_24 - t289))))] (fun _ => True) (fun _ => False) rfl z7_31 ?aP (fun _ hk => hk.elim) ?aF ?aO (Below.refl _ _) ?aS ?aL ?_; (case aP => exact k100_mkM _ _ _ (⟨t271, t256, t253, wrap64 (-(wrap64 ((wrap64 (t259 - 10000)) - t280))), wrap64 (-(wrap64 (x10_24 - t289)))⟩ : S100)); (case aF => exact (fun _ _ => trivial)); (case aO => exact (by (with_reducible repeat (first | apply Kd.qr0 | apply Kd.qp0 | apply Kd.qu0)); exact Kd.qm0 (Kd.R_far (p := ⟨gb249, 3, none⟩) (Kd.qi1 HO294.out BK249.out z7_27) (fun _ hk => hk.2) (.slice Ao91 y292.length co91)) (fun _ hk => trivial))); (case aS => exact (qx0 (w := w) (g := g) (row := none) z7_1)); (case aL => have := LMc72.out; omega); intro v296 w93 ho hb hg hat; rw [← Ny295.out] at ho; have n0_ := Aside0.mk (qq0 (g := gb235) (o := .cells #[.slice A1_0 l1_0.length c1_0, .int .i64 a1_1, .int .i64 a1_2] 174 (0, 0)) z7_7 hg (Kd.R_ne HO294.out BK235.out z7_27)); have n1_ := Aside0.mk (qq0 (g := gb236) (o := .cells #[.int .i64 0, .int .i64 0, .string (⟨#[]⟩ : ByteArray), .slice none 0 0] 98 (0, 0)) z7_8 hg (Kd.R_ne HO294.out BK236.out z7_27)); have n2_ := Aside0.mk (qq0 (g := gb249) (o := .cells #[.int .i64 t237, .int .i64 t240, .string t246, .slice Ao91 y292.length co91] 98 (0, 0)) (by (with_reducible repeat (first | refine qe0 ?_ _ | refine qf0 ?_ | refine qd0 ?_ _)); refine qo0 (cs := #[.int .i64 t237, .int .i64 t240, .string t246, .slice Ao84 y274.length co84]) ?_ 3 _ rfl; (with_reducible repeat (first | refine qe0 ?_ _ | refine qf0 ?_ | refine qd0 ?_ _)); exact BK249.out) hg (Kd.R_ne HO294.out BK249.out z7_27)); have n3_ := Aside0.mk (IsS186.grown (show IsS186 w0 _ g s0_0 t290 t291 from z7_0) hg (IsS186.own_ne HI0.out HO294.out z7_27)); have n4_ := Aside0.mk (qb1 z7_2 HL.out hb); have n5_ := Aside0.mk (qc0.trans z7_1 (qc0.qm1 hg g) (Kd.qs1 HO294.out)); have n6_ := Aside0.mk (ho); clear BK235; clear BK236; clear BK249; clear HI0; clear HB; clear HK; clear HO294; have BK235 := n0_; have BK236 := n1_; have BK249 := n2_; have HI0 := n3_; have HB := n4_; have HK := n5_; have HO297 := n6_; clear n0_ n1_ n2_ n3_ n4_ n5_ n6_; clear ho hb hg hat; obtain ⟨Ao94, co94, eo94⟩ := Kd.qn1 HO297.out; subst eo94; have hcz95_0 : w93.cell? ⟨gb249, 0, none⟩ = some (.int .i64 t237) := (qb0 BK249.out 0).trans rfl; have hcz95_1 : w93.cell? ⟨gb249, 1, none⟩ = some (.int .i64 t240) := (qb0 BK249.out 1).trans rfl; have hcz95_2 : w93.cell? ⟨gb249, 2, none⟩ = some (.string t246) := (qb0 BK249.out 2).trans rfl; have hcz95_3 : w93.cell? ⟨gb249, 3, none⟩ = some (.slice Ao91 y292.length co91) := (qb0 BK249.out 3).trans rfl; have hfz95_0 := qa0 BK249.out 0; have hfz95_1 := qa0 BK249.out 1; have hfz95_2 := qa0 BK249.out 2; have hfz95_3 := qa0 BK249.out 3))
       go_roundg kj24
       case measure => have := HK1.out; have := HJ24.out; omega
       case rel => exact ⟨(wrap64 (x6_1 - 1)), (t290), (t291), (y295), (.slice Ao94 y295.length co94), z7_22, H', ⟨by have := HK1.out; have := HJ24.out; omega⟩, ⟨by (with_reducible repeat (first | apply Kd.qr0 | apply Kd.qp0 | apply Kd.qu0)); exact Kd.qm0 (Kd.R_far (p := ⟨gb249, 3, none⟩) (Kd.qi1 HO297.out BK249.out z7_27) (fun _ hk => hk.2) (.slice Ao94 y295.length co94)) (fun _ hk => trivial)⟩, ⟨z7_7⟩, ⟨z7_8⟩, ⟨by (with_reducible repeat (first | refine qe0 ?_ _ | refine qf0 ?_ | refine qd0 ?_ _)); refine qo0 (cs := #[.int .i64 t237, .int .i64 t240, .string t246, .slice Ao91 y292.length co91]) ?_ 3 _ rfl; (with_reducible repeat (first | refine qe0 ?_ _ | refine qf0 ?_ | refine qd0 ?_ _)); exact BK249.out⟩, ⟨z7_0⟩, ⟨z7_1⟩, ⟨z7_2⟩⟩
      replace c43 := Bool.eq_false_iff.mpr c43
      subst c43
      have H1 : (if y274.length < 3518437208883 then (spec_l5DrawEntry.l0 kj24 (wrap64 (x6_1 - 1)) s0_0 t278 t279 l1_0 a1_1 a1_2 t237 t240 t246 (y274 ++ [(⟨t271, t256, t253, wrap64 (-(wrap64 (t259 - 10000))), wrap64 (-x10_24)⟩ : S100)])) else (none)) = some (r1, r2, r3, r4, r5, r6) := by rw [if_neg (show ¬ (false = true) from z7_27)] at H; exact H
      clear H
      have H := H1
      clear H1
      by_cases c96 : y274.length < 3518437208883
      case neg => rw [if_neg c96] at H; exact absurd H (by simp)
      rw [if_pos c96] at H
      have LMc96 := Aside0.mk c96
      clear c96
      obtain ⟨y298, hy298⟩ : ∃ y_ : List (S100), y_ = (y274 ++ [(⟨t271, t256, t253, wrap64 (-(wrap64 (t259 - 10000))), wrap64 (-x10_24)⟩ : S100)]) := ⟨_, rfl⟩
      replace H : (spec_l5DrawEntry.l0 kj24 (wrap64 (x6_1 - 1)) s0_0 t278 t279 l1_0 a1_1 a1_2 t237 t240 t246 y298) = some (r1, r2, r3, r4, r5, r6) := by first | (rw [hy298]; with_reducible exact H) | (have H2_ := (Option.bind_some _ _).symm.trans H; rw [hy298]; with_reducible exact H2_) | (have H2_ := (Option.bind_some _ _).symm.trans H; with_reducible exact H2_) | with_reducible exact H | (rw [hy298]; exact H) | exact H
      have Ny298 := Aside0.mk hy298
      clear hy298
      have H' := Aside0.mk H
      clear H
      have hnb97 := NB235_236.out
      have hnc97 := NB236_235.out
      have hnb98 := NB235_249.out
      have hnc98 := NB249_235.out
      have hnb99 := NB235_0.out
      have hnc99 := NB0_235.out
      have hcz100_0 : wc.cell? ⟨gb235, 0, none⟩ = some (.slice A1_0 l1_0.length c1_0) := (qb0 BK235.out 0).trans rfl
      have hcz100_1 : wc.cell? ⟨gb235, 1, none⟩ = some (.int .i64 a1_1) := (qb0 BK235.out 1).trans rfl
      have hcz100_2 : wc.cell? ⟨gb235, 2, none⟩ = some (.int .i64 a1_2) := (qb0 BK235.out 2).trans rfl
      have hfz100_0 := qa0 BK235.out 0
      have hfz100_1 := qa0 BK235.out 1
      have hfz100_2 := qa0 BK235.out 2
      go_wp2_with (first | ((with_reducible refine qg0 (f := 163) rfl ?_); refine qt0 (some 56) rfl rfl Try.func163 z7_30 rfl #[.pointer (some ⟨g, 0, none⟩), .slice A1_0 l1_0.length c1_0] rfl z7_4 ?_; (with_reducible refine (spec_l5DrawLeaf.calls kj24 g s0_0 x1001_24 x1002_24 _ _ l1_0 t268 t269 t270 w0 _ ?side1 ?side2 ?side3 ?side4 A39.out).mono ?_); (case side1 => exact z7_0); (case side2 => exact z7_2); (case side3 => exact Kd.C_foot_step HR1_0.out z7_1); (case side4 => exact HC1_0.out); rintro e w101 ⟨rfl, hi, hb, hk⟩; refine ⟨_, rfl, ?_⟩; have n0_ := Aside0.mk (Kd.qm0 (Kd.qy0 (IsS186.apart (show IsS186 w0 _ g s0_0 x1001_24 x1002_24 from z7_0) z7_12 z7_27) hk (fun _ h => h.2)) (fun _ h => h.1)); have n1_ := Aside0.mk (qc0.blk hk (g' := gb235) (o := .cells #[.slice A1_0 l1_0.length c1_0, .int .i64 a1_1, .int .i64 a1_2] 174 (0, 0)) z7_3 NB235_0.out (by simp)); have n2_ := Aside0.mk (qc0.blk hk (g' := gb236) (o := .cells #[.int .i64 0, .int .i64 0, .string (⟨#[]⟩ : ByteArray), .slice none 0 0] 98 (0, 0)) z7_5 NB236_0.out (by simp)); have n3_ := Aside0.mk (qc0.blk hk (g' := gb249) (o := .cells #[.int .i64 t237, .int .i64 t240, .string t246, u250003] 98 (0, 0)) z7_6 NB249_0.out (by simp)); have n4_ := Aside0.mk (qc0.trans z7_1 hk (.inl rfl)); have n5_ := Aside0.mk (hb); have n6_ := Aside0.mk (hi); clear HO_250003; clear BK235; clear BK236; clear BK249; clear HK; clear HB; clear HI0; have HO_250003 := n0_; have BK235 := n1_; have BK236 := n2_; have BK249 := n3_; have HK := n4_; have HB := n5_; have HI0 := n6_; clear n0_ n1_ n2_ n3_ n4_ n5_ n6_; (try clear hb); (try clear hb2); (try clear hk); (try clear hi); have hcz102_0 : w101.cell? ⟨gb235, 0, none⟩ = some (.slice A1_0 l1_0.length c1_0) := (qb0 BK235.out 0).trans rfl; have hcz102_1 : w101.cell? ⟨gb235, 1, none⟩ = some (.int .i64 a1_1) := (qb0 BK235.out 1).trans rfl; have hcz102_2 : w101.cell? ⟨gb235, 2, none⟩ = some (.int .i64 a1_2) := (qb0 BK235.out 2).trans rfl; have hfz102_0 := qa0 BK235.out 0; have hfz102_1 := qa0 BK235.out 1; have hfz102_2 := qa0 BK235.out 2) | ((with_reducible refine qg0 (f := 163) rfl ?_); refine qt0 (some 60) rfl rfl Try.func163 z7_30 rfl #[.pointer (some ⟨g, 0, none⟩), .slice A1_0 l1_0.length c1_0] rfl z7_4 ?_; (with_reducible refine (spec_l5DrawLeaf.calls kj24 g s0_0 t269 t270 _ _ l1_0 t271 t272 t273 w0 _ ?side1 ?side2 ?side3 ?side4 A40.out).mono ?_); (case side1 => exact z7_0); (case side2 => exact z7_2); (case side3 => exact Kd.C_foot_step HR1_0.out z7_1); (case side4 => exact HC1_0.out); rintro e w103 ⟨rfl, hi, hb, hk⟩; refine ⟨_, rfl, ?_⟩; have n0_ := Aside0.mk (Kd.qm0 (Kd.qy0 (IsS186.apart (show IsS186 w0 _ g s0_0 t269 t270 from z7_0) z7_12 z7_27) hk (fun _ h => h.2)) (fun _ h => h.1)); have n1_ := Aside0.mk (qc0.blk hk (g' := gb235) (o := .cells #[.slice A1_0 l1_0.length c1_0, .int .i64 a1_1, .int .i64 a1_2] 174 (0, 0)) z7_3 NB235_0.out (by simp)); have n2_ := Aside0.mk (qc0.blk hk (g' := gb236) (o := .cells #[.int .i64 0, .int .i64 0, .string (⟨#[]⟩ : ByteArray), .slice none 0 0] 98 (0, 0)) z7_5 NB236_0.out (by simp)); have n3_ := Aside0.mk (qc0.blk hk (g' := gb249) (o := .cells #[.int .i64 t237, .int .i64 t240, .string t246, u250003] 98 (0, 0)) z7_6 NB249_0.out (by simp)); have n4_ := Aside0.mk (qc0.trans z7_1 hk (.inl rfl)); have n5_ := Aside0.mk (hb); have n6_ := Aside0.mk (hi); clear HO_250003; clear BK235; clear BK236; clear BK249; clear HK; clear HB; clear HI0; have HO_250003 := n0_; have BK235 := n1_; have BK236 := n2_; have BK249 := n3_; have HK := n4_; have HB := n5_; have HI0 := n6_; clear n0_ n1_ n2_ n3_ n4_ n5_ n6_; (try clear hb); (try clear hb2); (try clear hk); (try clear hi); have hnb104 := NB249_236.out; have hnc104 := NB236_249.out; have hnb105 := NB249_0.out; have hnc105 := NB0_249.out; have hcz106_0 : w103.cell? ⟨gb249, 0, none⟩ = some (.int .i64 t237) := (qb0 BK249.out 0).trans rfl; have hcz106_1 : w103.cell? ⟨gb249, 1, none⟩ = some (.int .i64 t240) := (qb0 BK249.out 1).trans rfl; have hcz106_2 : w103.cell? ⟨gb249, 2, none⟩ = some (.string t246) := (qb0 BK249.out 2).trans rfl; have hcz106_3 : w103.cell? ⟨gb249, 3, none⟩ = some (u250003) := (qb0 BK249.out 3).trans rfl; have hfz106_0 := qa0 BK249.out 0; have hfz106_1 := qa0 BK249.out 1; have hfz106_2 := qa0 BK249.out 2; have hfz106_3 := qa0 BK249.out 3) | ((with_reducible refine qw0 (b := .append) (xs := #[.tmp 62, .tmp 69]) rfl ?_); at_builtin; refine Kd.qo1 k100 w.heap.size rfl (.tmp 62) (.tmp 69) 96 100 (.agg #[(.int .i64 0), (.int .i64 0), (.int .i64 0), (.int .i64 0), (.int .i64 0)]) 40 rfl Try.underlying96 info100 rfl z7_27 (by omega) u250003 x250003_1 (⟨t268, t256, t253, (wrap64 (t259 - 10000)), x10_24⟩ : S100) [.int .i64 t268, .int .i64 t256, .int .i64 t253, .int .i64 (wrap64 (t259 - 10000)), .int .i64 x10_24] (fun _ => True) (fun _ => False) rfl rfl ?aP (fun _ hk => hk.elim) ?aF ?aO (Below.refl _ _) ?aS ?aL ?_; (case aP => exact k100_mkM _ _ _ (⟨t268, t256, t253, (wrap64 (t259 - 10000)), x10_24⟩ : S100)); (case aF => exact (fun _ _ => trivial)); (case aO => exact z7_12); (case aS => exact (qx0 (w := w) (g := g) (row := none) z7_1)); (case aL => have := LMc41.out; omega); intro v275 w107 ho hb hg hat; rw [← Ny274.out] at ho; have n0_ := Aside0.mk (qq0 (g := gb235) (o := .cells #[.slice A1_0 l1_0.length c1_0, .int .i64 a1_1, .int .i64 a1_2] 174 (0, 0)) z7_3 hg (Kd.R_ne HO_250003.out BK235.out z7_27)); have n1_ := Aside0.mk (qq0 (g := gb236) (o := .cells #[.int .i64 0, .int .i64 0, .string (⟨#[]⟩ : ByteArray), .slice none 0 0] 98 (0, 0)) z7_5 hg (Kd.R_ne HO_250003.out BK236.out z7_27)); have n2_ := Aside0.mk (qq0 (g := gb249) (o := .cells #[.int .i64 t237, .int .i64 t240, .string t246, u250003] 98 (0, 0)) z7_6 hg (Kd.R_ne HO_250003.out BK249.out z7_27)); have n3_ := Aside0.mk (IsS186.grown (show IsS186 w0 _ g s0_0 t272 t273 from z7_0) hg (IsS186.own_ne HI0.out HO_250003.out z7_27)); have n4_ := Aside0.mk (qb1 z7_2 HL.out hb); have n5_ := Aside0.mk (qc0.trans z7_1 (qc0.qm1 hg g) (Kd.qs1 HO_250003.out)); have n6_ := Aside0.mk (ho); clear BK235; clear BK236; clear BK249; clear HI0; clear HB; clear HK; clear HO_250003; have BK235 := n0_; have BK236 := n1_; have BK249 := n2_; have HI0 := n3_; have HB := n4_; have HK := n5_; have HO276 := n6_; clear n0_ n1_ n2_ n3_ n4_ n5_ n6_; clear ho hb hg hat; obtain ⟨Ao108, co108, eo108⟩ := Kd.qn1 HO276.out; subst eo108; have hcz109_0 : w107.cell? ⟨gb249, 0, none⟩ = some (.int .i64 t237) := (qb0 BK249.out 0).trans rfl; have hcz109_1 : w107.cell? ⟨gb249, 1, none⟩ = some (.int .i64 t240) := (qb0 BK249.out 1).trans rfl; have hcz109_2 : w107.cell? ⟨gb249, 2, none⟩ = some (.string t246) := (qb0 BK249.out 2).trans rfl; have hcz109_3 : w107.cell? ⟨gb249, 3, none⟩ = some (u250003) := (qb0 BK249.out 3).trans rfl; have hfz109_0 := qa0 BK249.out 0; have hfz109_1 := qa0 BK249.out 1; have hfz109_2 := qa0 BK249.out 2; have hfz109_3 := qa0 BK249.out 3) | ((with_reducible refine qg0 (f := 63) rfl ?_); refine qt0 (some 73) rfl rfl Try.func63 z7_30 rfl #[.pointer (some ⟨g, 0, none⟩), .int .i64 3] rfl z7_4 ?_; (with_reducible refine (spec_l1Once.calls g s0_0 t272 t273 3 false t278 t279 w0 _ ?side1 ?side2 A42.out).mono ?_); (case side1 => exact z7_0); (case side2 => exact z7_2); rintro e w110 ⟨rfl, hi, hb, hk⟩; refine ⟨_, rfl, ?_⟩; have n0_ := Aside0.mk (qc0.blk hk (g' := gb235) (o := .cells #[.slice A1_0 l1_0.length c1_0, .int .i64 a1_1, .int .i64 a1_2] 174 (0, 0)) z7_7 NB235_0.out (by simp)); have n1_ := Aside0.mk (qc0.blk hk (g' := gb236) (o := .cells #[.int .i64 0, .int .i64 0, .string (⟨#[]⟩ : ByteArray), .slice none 0 0] 98 (0, 0)) z7_8 NB236_0.out (by simp)); have n2_ := Aside0.mk (qc0.blk hk (g' := gb249) (o := .cells #[.int .i64 t237, .int .i64 t240, .string t246, .slice Ao108 y274.length co108] 98 (0, 0)) z7_17 NB249_0.out (by simp)); have n3_ := Aside0.mk (Kd.qm0 (Kd.qy0 (IsS186.apart (show IsS186 w0 _ g s0_0 t272 t273 from z7_0) (by (with_reducible repeat (first | apply Kd.qr0 | apply Kd.qp0 | apply Kd.qu0)); exact (Kd.qm0 (Kd.R_far (p := ⟨gb249, 3, none⟩) (Kd.qi1 HO276.out BK249.out z7_27) (fun _ hk => hk.2) (.slice Ao108 y274.length co108)) (fun _ h_ => h_.1))) z7_27) hk (fun _ h => h.2)) (fun _ h => h.1)); have n4_ := Aside0.mk (qc0.trans z7_1 hk (.inl rfl)); have n5_ := Aside0.mk (hb); have n6_ := Aside0.mk (hi); clear BK235; clear BK236; clear BK249; clear HO276; clear HK; clear HB; clear HI0; have BK235 := n0_; have BK236 := n1_; have BK249 := n2_; have HO276 := n3_; have HK := n4_; have HB := n5_; have HI0 := n6_; clear n0_ n1_ n2_ n3_ n4_ n5_ n6_; (try clear hb); (try clear hb2); (try clear hk); (try clear hi); have hcz111_0 : w110.cell? ⟨gb249, 0, none⟩ = some (.int .i64 t237) := (qb0 BK249.out 0).trans rfl; have hcz111_1 : w110.cell? ⟨gb249, 1, none⟩ = some (.int .i64 t240) := (qb0 BK249.out 1).trans rfl; have hcz111_2 : w110.cell? ⟨gb249, 2, none⟩ = some (.string t246) := (qb0 BK249.out 2).trans rfl; have hcz111_3 : w110.cell? ⟨gb249, 3, none⟩ = some (.slice Ao108 y274.length co108) := (qb0 BK249.out 3).trans rfl; have hfz111_0 := qa0 BK249.out 0; have hfz111_1 := qa0 BK249.out 1; have hfz111_2 := qa0 BK249.out 2; have hfz111_3 := qa0 BK249.out 3) | ((with_reducible refine qw0 (b := .append) (xs := #[.tmp 101, .tmp 110]) rfl ?_); at_builtin; refine Kd.qo1 k100 w.heap.size rfl (.tmp 101) (.tmp 110) 96 100 (.agg #[(.int .i64 0), (.int .i64 0), (.int .i64 0), (.int .i64 0), (.int .i64 0)]) 40 rfl Try.underlying96 info100 rfl z7_27 (by omega) (.slice Ao108 y274.length co108) y274 (⟨t271, t256, t253, wrap64 (-(wrap64 (t259 - 10000))), wrap64 (-x10_24)⟩ : S100) [.int .i64 t271, .int .i64 t256, .int .i64 t253, .int .i64 (wrap64 (-(wrap64 (t259 - 10000)))), .int .i64 (wrap64 (-x10_24))] (fun _ => True) (fun _ => False) rfl rfl ?aP (fun _ hk => hk.elim) ?aF ?aO (Below.refl _ _) ?aS ?aL ?_; (case aP => exact k100_mkM _ _ _ (⟨t271, t256, t253, wrap64 (-(wrap64 (t259 - 10000))), wrap64 (-x10_24)⟩ : S100)); (case aF => exact (fun _ _ => trivial)); (case aO => exact z7_19); (case aS => exact (qx0 (w := w) (g := g) (row := none) z7_1)); (case aL => have := LMc96.out; omega); intro v299 w112 ho hb hg hat; rw [← Ny298.out] at ho; have n0_ := Aside0.mk (qq0 (g := gb235) (o := .cells #[.slice A1_0 l1_0.length c1_0, .int .i64 a1_1, .int .i64 a1_2] 174 (0, 0)) z7_3 hg (Kd.R_ne HO276.out BK235.out z7_27)); have n1_ := Aside0.mk (qq0 (g := gb236) (o := .cells #[.int .i64 0, .int .i64 0, .string (⟨#[]⟩ : ByteArray), .slice none 0 0] 98 (0, 0)) z7_5 hg (Kd.R_ne HO276.out BK236.out z7_27)); have n2_ := Aside0.mk (qq0 (g := gb249) (o := .cells #[.int .i64 t237, .int .i64 t240, .string t246, .slice Ao108 y274.length co108] 98 (0, 0)) z7_6 hg (Kd.R_ne HO276.out BK249.out z7_27)); have n3_ := Aside0.mk (IsS186.grown (show IsS186 w0 _ g s0_0 t278 t279 from z7_0) hg (IsS186.own_ne HI0.out HO276.out z7_27)); have n4_ := Aside0.mk (qb1 z7_2 HL.out hb); have n5_ := Aside0.mk (qc0.trans z7_1 (qc0.qm1 hg g) (Kd.qs1 HO276.out)); have n6_ := Aside0.mk (ho); clear BK235; clear BK236; clear BK249; clear HI0; clear HB; clear HK; clear HO276; have BK235 := n0_; have BK236 := n1_; have BK249 := n2_; have HI0 := n3_; have HB := n4_; have HK := n5_; have HO300 := n6_; clear n0_ n1_ n2_ n3_ n4_ n5_ n6_; clear ho hb hg hat; obtain ⟨Ao113, co113, eo113⟩ := Kd.qn1 HO300.out; subst eo113; have hcz114_0 : w112.cell? ⟨gb249, 0, none⟩ = some (.int .i64 t237) := (qb0 BK249.out 0).trans rfl; have hcz114_1 : w112.cell? ⟨gb249, 1, none⟩ = some (.int .i64 t240) := (qb0 BK249.out 1).trans rfl; have hcz114_2 : w112.cell? ⟨gb249, 2, none⟩ = some (.string t246) := (qb0 BK249.out 2).trans rfl; have hcz114_3 : w112.cell? ⟨gb249, 3, none⟩ = some (.slice Ao108 y274.length co108) := (qb0 BK249.out 3).trans rfl; have hfz114_0 := qa0 BK249.out 0; have hfz114_1 := qa0 BK249.out 1; have hfz114_2 := qa0 BK249.out 2; have hfz114_3 := qa0 BK249.out 3))
      go_roundg kj24
      case measure => have := HK1.out; have := HJ24.out; omega
      case rel => exact ⟨(wrap64 (x6_1 - 1)), (t278), (t279), (y298), (.slice Ao113 y298.length co113), z7_22, H', ⟨by have := HK1.out; have := HJ24.out; omega⟩, ⟨by (with_reducible repeat (first | apply Kd.qr0 | apply Kd.qp0 | apply Kd.qu0)); exact Kd.qm0 (Kd.R_far (p := ⟨gb249, 3, none⟩) (Kd.qi1 HO300.out BK249.out z7_27) (fun _ hk => hk.2) (.slice Ao113 y298.length co113)) (fun _ hk => trivial)⟩, ⟨z7_7⟩, ⟨z7_8⟩, ⟨by (with_reducible repeat (first | refine qe0 ?_ _ | refine qf0 ?_ | refine qd0 ?_ _)); refine qo0 (cs := #[.int .i64 t237, .int .i64 t240, .string t246, .slice Ao108 y274.length co108]) ?_ 3 _ rfl; (with_reducible repeat (first | refine qe0 ?_ _ | refine qf0 ?_ | refine qd0 ?_ _)); exact BK249.out⟩, ⟨z7_0⟩, ⟨z7_1⟩, ⟨z7_2⟩⟩
   rw [if_neg c21] at H
   have c21b0 : decide (0 < x6_1) = false := decide_eq_false c21
   clear c21
   simp only [Option.some.injEq, Prod.mk.injEq] at H
   obtain ⟨rfl, rfl, rfl, rfl, rfl, rfl⟩ := H
   have hnb115 := NB249_235.out
   have hnc115 := NB235_249.out
   have hnb116 := NB249_236.out
   have hnc116 := NB236_249.out
   have hnb117 := NB249_0.out
   have hnc117 := NB0_249.out
   have hcz118_0 : wr.cell? ⟨gb249, 0, none⟩ = some (.int .i64 t237) := (qb0 BK249.out 0).trans rfl
   have hcz118_1 : wr.cell? ⟨gb249, 1, none⟩ = some (.int .i64 t240) := (qb0 BK249.out 1).trans rfl
   have hcz118_2 : wr.cell? ⟨gb249, 2, none⟩ = some (.string t246) := (qb0 BK249.out 2).trans rfl
   have hcz118_3 : wr.cell? ⟨gb249, 3, none⟩ = some (u250003) := (qb0 BK249.out 3).trans rfl
   have hfz118_0 := qa0 BK249.out 0
   have hfz118_1 := qa0 BK249.out 1
   have hfz118_2 := qa0 BK249.out 2
   have hfz118_3 := qa0 BK249.out 3
   have hnb119 := NB236_235.out
   have hnc119 := NB235_236.out
   have hnb120 := NB236_0.out
   have hnc120 := NB0_236.out
   have hcz121_0 : wr.cell? ⟨gb236, 0, none⟩ = some (.int .i64 0) := (qb0 BK236.out 0).trans rfl
   have hcz121_1 : wr.cell? ⟨gb236, 1, none⟩ = some (.int .i64 0) := (qb0 BK236.out 1).trans rfl
   have hcz121_2 : wr.cell? ⟨gb236, 2, none⟩ = some (.string (⟨#[]⟩ : ByteArray)) := (qb0 BK236.out 2).trans rfl
   have hcz121_3 : wr.cell? ⟨gb236, 3, none⟩ = some (.slice none 0 0) := (qb0 BK236.out 3).trans rfl
   have hfz121_0 := qa0 BK236.out 0
   have hfz121_1 := qa0 BK236.out 1
   have hfz121_2 := qa0 BK236.out 2
   have hfz121_3 := qa0 BK236.out 3
   obtain ⟨Ao122, co122, eo122⟩ := Kd.qn1 HO_250003.out
   subst eo122
   go_wp2
   refine bodyPost_ret (results_cell_row rfl _ _ gb236 98 #[.int .i64 t237, .int .i64 t240, .string t246, .slice Ao122 x250003_1.length co122] (0, 0) _ rfl (by (with_reducible repeat (first | refine qe0 ?_ _ | refine qf0 ?_ | refine qd0 ?_ _)); refine qo0 (cs := #[.int .i64 t237, .int .i64 t240, .string t246, .slice none 0 0]) ?_ 3 _ rfl; (with_reducible repeat (first | refine qe0 ?_ _ | refine qf0 ?_ | refine qd0 ?_ _)); refine qo0 (cs := #[.int .i64 t237, .int .i64 t240, .string (⟨#[]⟩ : ByteArray), .slice none 0 0]) ?_ 2 _ rfl; (with_reducible repeat (first | refine qe0 ?_ _ | refine qf0 ?_ | refine qd0 ?_ _)); refine qo0 (cs := #[.int .i64 t237, .int .i64 0, .string (⟨#[]⟩ : ByteArray), .slice none 0 0]) ?_ 1 _ rfl; (with_reducible repeat (first | refine qe0 ?_ _ | refine qf0 ?_ | refine qd0 ?_ _)); refine qo0 (cs := #[.int .i64 0, .int .i64 0, .string (⟨#[]⟩ : ByteArray), .slice none 0 0]) ?_ 0 _ rfl; (with_reducible repeat (first | refine qe0 ?_ _ | refine qf0 ?_ | refine qd0 ?_ _)); exact BK236.out) Try.underlying98 rfl z7_30) rfl ?_
   exact ⟨_, z7_20, by (with_reducible repeat (first | apply Kd.qr0 | apply Kd.qp0 | apply Kd.qu0)); exact Kd.qm0 (Kd.R_far (p := ⟨gb236, 3, none⟩) (Kd.R_far (p := ⟨gb236, 2, none⟩) (Kd.R_far (p := ⟨gb236, 1, none⟩) (Kd.R_far (p := ⟨gb236, 0, none⟩) (Kd.qi1 HO_250003.out BK236.out z7_27) (fun _ hk => hk.2) (.int .i64 t237)) (fun _ hk => hk.2) (.int .i64 t240)) (fun _ hk => hk.2) (.string t246)) (fun _ hk => hk.2) (.slice Ao122 x250003_1.length co122)) (fun _ hk => trivial), z7_0, z7_2, z7_1⟩

end Go.Proofs.Ytkkdmmefnicmaaa.PFnChained
