/- Lines by a program (a changed copy of the kit's print: this repo's wip/tools): Go functions as Lean functions, and proofs that the calls answer so. -/
import Derived.Test.YtdnhpicgjkddbaaZPFnExactStepDownx0
import Derived.Test.YtdnhpicgjkddbaaZPFnExactStepDownx5
import Derived.Test.YtdnhpicgjkddbaaZPFnExactStepDownx8
import Derived.Test.YtdnhpicgjkddbaaZPFnExactStepDownx9
namespace Go.Proofs.Ytdnhpicgjkddbaa.PFnExactStepDown
open Go.RowKit Go.Proofs.YtdnhpicgjkddbaaW.PrintWords Go.Proofs.YtdnhpicgjkddbaaW.PrintLast Go.Proofs.YtdnhpicgjkddbaaW.PrintMore
attribute [local go_sem] max2_int min2_int max_two min_two max_three min_three max_four min_four   -- for this text's walks alone
set_option linter.unusedVariables false
set_option linter.unusedSimpArgs false

/-! ### impl_StepDown: function 48 -/
mutual
def impl_StepDown.j0 : Nat → List Int → List (S152) → Bool → Option (List Int × Bool)
 | 0, _, _, _ => none
 | k + 1, x0, x1, x23 => if x23 = true then (some (([] : List Int), false)) else ((some (([] : List Int) : List Int)).bind fun y265 => (if y265.length + x0.length < 17592186044416 then (impl_StepDown.l0 k (y265 ++ x0) (([] : List (Int × Bool))) x1 (x1.length : Int) 0) else (none)))
def impl_StepDown.l0 : Nat → List Int → List (Int × Bool) → List (S152) → Int → Int → Option (List Int × Bool)
 | 0, _, _, _, _, _ => none
 | k + 1, x6, x7, x28, x29, x30 => if x30 < x29 then (if 0 ≤ x30 then (if x30 < (x28.length : Int) then (if ((rd_T152 x28 x30).f0) < 0 then (impl_StepDown.j2 k x6 x7 x28 x29 x30 true ((rd_T152 x28 x30).f0) ((rd_T152 x28 x30).f1) ((rd_T152 x28 x30).f2)) else (if ((rd_T152 x28 x30).f0) ≥ (x6.length : Int) then (impl_StepDown.j2 k x6 x7 x28 x29 x30 true ((rd_T152 x28 x30).f0) ((rd_T152 x28 x30).f1) ((rd_T152 x28 x30).f2)) else (if (-9223372036854775808) ≤ ((rd_T152 x28 x30).f0) then (if ((rd_T152 x28 x30).f0) ≤ 9223372036854775807 then (if (mget x7 ((rd_T152 x28 x30).f0)).getD false = true then (impl_StepDown.j2 k x6 x7 x28 x29 x30 true ((rd_T152 x28 x30).f0) ((rd_T152 x28 x30).f1) ((rd_T152 x28 x30).f2)) else (if (((rd_T152 x28 x30).f1).length : Int) < 1 then (impl_StepDown.j2 k x6 x7 x28 x29 x30 true ((rd_T152 x28 x30).f0) ((rd_T152 x28 x30).f1) ((rd_T152 x28 x30).f2)) else (if (((rd_T152 x28 x30).f1).length : Int) > 200 then (impl_StepDown.j2 k x6 x7 x28 x29 x30 true ((rd_T152 x28 x30).f0) ((rd_T152 x28 x30).f1) ((rd_T152 x28 x30).f2)) else (impl_StepDown.j2 k x6 x7 x28 x29 x30 ((((rd_T152 x28 x30).f2).length : Int) != (((rd_T152 x28 x30).f1).length : Int)) ((rd_T152 x28 x30).f0) ((rd_T152 x28 x30).f1) ((rd_T152 x28 x30).f2))))) else (none)) else (none)))) else (none)) else (none)) else (some (x6, true))
def impl_StepDown.j2 : Nat → List Int → List (Int × Bool) → List (S152) → Int → Int → Bool → Int → List Int → List Int → Option (List Int × Bool)
 | 0, _, _, _, _, _, _, _, _, _ => none
 | k + 1, x6, x7, x28, x29, x30, x70, x277000, x277001, x277002 => if x70 = true then (some (([] : List Int), false)) else (if (-9223372036854775808) ≤ x277000 then (if x277000 ≤ 9223372036854775807 then (impl_StepDown.l1 k x6 (mset x7 x277000 true) (([] : List (Int × Bool))) x28 x29 x30 x277001 (x277001.length : Int) 0 x277000 x277001 x277002) else (none)) else (none))
def impl_StepDown.l1 : Nat → List Int → List (Int × Bool) → List (Int × Bool) → List (S152) → Int → Int → List Int → Int → Int → Int → List Int → List Int → Option (List Int × Bool)
 | 0, _, _, _, _, _, _, _, _, _, _, _, _ => none
 | k + 1, x6, x7, x10, x28, x29, x30, x76, x77, x78, x277000, x277001, x277002 => if x78 < x77 then (if 0 ≤ x78 then (if x78 < (x76.length : Int) then (if (rd x76 x78) < 0 then (some (([] : List Int), false)) else (if (rd x76 x78) ≥ (x6.length : Int) then (some (([] : List Int), false)) else (if (-9223372036854775808) ≤ (rd x76 x78) then (if (rd x76 x78) ≤ 9223372036854775807 then (if (mget x10 (rd x76 x78)).getD false = true then (some (([] : List Int), false)) else (if (mget x7 (rd x76 x78)).getD false = true then (some (([] : List Int), false)) else (impl_StepDown.l1 k x6 x7 (mset x10 (rd x76 x78) true) x28 x29 x30 x76 x77 (wrap64 (x78 + 1)) x277000 x277001 x277002))) else (none)) else (none)))) else (none)) else (none)) else (if 0 ≤ x277000 then (if x277000 < (x6.length : Int) then ((impl_Shares.f k (rd x6 x277000) x277002).bind fun t285 => (if (t285.length : Int) = 0 then (some (([] : List Int), false)) else (impl_StepDown.l2 k (x6.set (x277000 : Int).toNat 0) x7 t285 x28 x29 x30 x277001 (x277001.length : Int) 0))) else (none)) else (none))
def impl_StepDown.l2 : Nat → List Int → List (Int × Bool) → List Int → List (S152) → Int → Int → List Int → Int → Int → Option (List Int × Bool)
 | 0, _, _, _, _, _, _, _, _, _ => none
 | k + 1, x6, x7, x13, x28, x29, x30, x119, x120, x121 => if x121 < x120 then (if 0 ≤ x121 then (if x121 < (x119.length : Int) then (if 0 ≤ (rd x119 x121) then (if (rd x119 x121) < (x6.length : Int) then (if x121 < (x13.length : Int) then ((impl_amount.f (wrap64 ((rd x6 (rd x119 x121)) + (rd x13 x121)))).bind fun t294 => (if t294 = true then (impl_StepDown.l2 k (x6.set ((rd x119 x121) : Int).toNat (wrap64 ((rd x6 (rd x119 x121)) + (rd x13 x121)))) x7 x13 x28 x29 x30 x119 x120 (wrap64 (x121 + 1))) else (some (([] : List Int), false)))) else (none)) else (none)) else (none)) else (none)) else (none)) else (impl_StepDown.l0 k x6 x7 x28 x29 (wrap64 (x30 + 1)))
end
def impl_StepDown.f (k : Nat) (l0 : List Int) (l1 : List (S152)) : Option (List Int × Bool) := (impl_costsOk.f k l0).bind fun t264 => (if t264 = true then (impl_StepDown.j0 k l0 l1 (decide ((l1.length : Int) > 40))) else (impl_StepDown.j0 k l0 l1 true))
theorem impl_StepDown.mono_l : ∀ k, (∀ y0 y1 y2, LeO (impl_StepDown.j0 k y0 y1 y2) (impl_StepDown.j0 (k + 1) y0 y1 y2)) ∧ (∀ y0 y1 y2 y3 y4, LeO (impl_StepDown.l0 k y0 y1 y2 y3 y4) (impl_StepDown.l0 (k + 1) y0 y1 y2 y3 y4)) ∧ (∀ y0 y1 y2 y3 y4 y5 y6 y7 y8, LeO (impl_StepDown.j2 k y0 y1 y2 y3 y4 y5 y6 y7 y8) (impl_StepDown.j2 (k + 1) y0 y1 y2 y3 y4 y5 y6 y7 y8)) ∧ (∀ y0 y1 y2 y3 y4 y5 y6 y7 y8 y9 y10 y11, LeO (impl_StepDown.l1 k y0 y1 y2 y3 y4 y5 y6 y7 y8 y9 y10 y11) (impl_StepDown.l1 (k + 1) y0 y1 y2 y3 y4 y5 y6 y7 y8 y9 y10 y11)) ∧ (∀ y0 y1 y2 y3 y4 y5 y6 y7 y8, LeO (impl_StepDown.l2 k y0 y1 y2 y3 y4 y5 y6 y7 y8) (impl_StepDown.l2 (k + 1) y0 y1 y2 y3 y4 y5 y6 y7 y8))
 | 0 => ⟨fun _ _ _ r h => by simp [impl_StepDown.j0] at h, fun _ _ _ _ _ r h => by simp [impl_StepDown.l0] at h, fun _ _ _ _ _ _ _ _ _ r h => by simp [impl_StepDown.j2] at h, fun _ _ _ _ _ _ _ _ _ _ _ _ r h => by simp [impl_StepDown.l1] at h, fun _ _ _ _ _ _ _ _ _ r h => by simp [impl_StepDown.l2] at h⟩
 | k + 1 => by
  obtain ⟨ih0, ih1, ih2, ih3, ih4⟩ := impl_StepDown.mono_l k
  refine ⟨?_, ?_, ?_, ?_, ?_⟩
  ·intro y0 y1 y2
   unfold impl_StepDown.j0
   repeat' first
   | (with_reducible exact ih0 _ _ _)
   | (with_reducible exact ih1 _ _ _ _ _)
   | (with_reducible exact ih2 _ _ _ _ _ _ _ _ _)
   | (with_reducible exact ih3 _ _ _ _ _ _ _ _ _ _ _ _)
   | (with_reducible exact ih4 _ _ _ _ _ _ _ _ _)
   | (with_reducible exact impl_Shares.mono _ _ _)
   | (with_reducible exact impl_costsOk.mono _ _)
   | (with_reducible exact LeO.refl _)
   | (with_reducible exact LeO.none _)
   | (with_reducible refine LeO.ite ?_ ?_)
   | (with_reducible refine LeO.bind ?_ (fun _ => ?_))
   | exact ih0 _ _ _
   | exact ih1 _ _ _ _ _
   | exact ih2 _ _ _ _ _ _ _ _ _
   | exact ih3 _ _ _ _ _ _ _ _ _ _ _ _
   | exact ih4 _ _ _ _ _ _ _ _ _
   | exact impl_Shares.mono _ _ _
   | exact impl_costsOk.mono _ _
   | exact LeO.none _
   | refine LeO.ite ?_ ?_
   | refine LeO.bind ?_ (fun _ => ?_)
  ·intro y0 y1 y2 y3 y4
   unfold impl_StepDown.l0
   repeat' first
   | (with_reducible exact ih0 _ _ _)
   | (with_reducible exact ih1 _ _ _ _ _)
   | (with_reducible exact ih2 _ _ _ _ _ _ _ _ _)
   | (with_reducible exact ih3 _ _ _ _ _ _ _ _ _ _ _ _)
   | (with_reducible exact ih4 _ _ _ _ _ _ _ _ _)
   | (with_reducible exact impl_Shares.mono _ _ _)
   | (with_reducible exact impl_costsOk.mono _ _)
   | (with_reducible exact LeO.refl _)
   | (with_reducible exact LeO.none _)
   | (with_reducible refine LeO.ite ?_ ?_)
   | (with_reducible refine LeO.bind ?_ (fun _ => ?_))
   | exact ih0 _ _ _
   | exact ih1 _ _ _ _ _
   | exact ih2 _ _ _ _ _ _ _ _ _
   | exact ih3 _ _ _ _ _ _ _ _ _ _ _ _
   | exact ih4 _ _ _ _ _ _ _ _ _
   | exact impl_Shares.mono _ _ _
   | exact impl_costsOk.mono _ _
   | exact LeO.none _
   | refine LeO.ite ?_ ?_
   | refine LeO.bind ?_ (fun _ => ?_)
  ·intro y0 y1 y2 y3 y4 y5 y6 y7 y8
   unfold impl_StepDown.j2
   repeat' first
   | (with_reducible exact ih0 _ _ _)
   | (with_reducible exact ih1 _ _ _ _ _)
   | (with_reducible exact ih2 _ _ _ _ _ _ _ _ _)
   | (with_reducible exact ih3 _ _ _ _ _ _ _ _ _ _ _ _)
   | (with_reducible exact ih4 _ _ _ _ _ _ _ _ _)
   | (with_reducible exact impl_Shares.mono _ _ _)
   | (with_reducible exact impl_costsOk.mono _ _)
   | (with_reducible exact LeO.refl _)
   | (with_reducible exact LeO.none _)
   | (with_reducible refine LeO.ite ?_ ?_)
   | (with_reducible refine LeO.bind ?_ (fun _ => ?_))
   | exact ih0 _ _ _
   | exact ih1 _ _ _ _ _
   | exact ih2 _ _ _ _ _ _ _ _ _
   | exact ih3 _ _ _ _ _ _ _ _ _ _ _ _
   | exact ih4 _ _ _ _ _ _ _ _ _
   | exact impl_Shares.mono _ _ _
   | exact impl_costsOk.mono _ _
   | exact LeO.none _
   | refine LeO.ite ?_ ?_
   | refine LeO.bind ?_ (fun _ => ?_)
  ·intro y0 y1 y2 y3 y4 y5 y6 y7 y8 y9 y10 y11
   unfold impl_StepDown.l1
   repeat' first
   | (with_reducible exact ih0 _ _ _)
   | (with_reducible exact ih1 _ _ _ _ _)
   | (with_reducible exact ih2 _ _ _ _ _ _ _ _ _)
   | (with_reducible exact ih3 _ _ _ _ _ _ _ _ _ _ _ _)
   | (with_reducible exact ih4 _ _ _ _ _ _ _ _ _)
   | (with_reducible exact impl_Shares.mono _ _ _)
   | (with_reducible exact impl_costsOk.mono _ _)
   | (with_reducible exact LeO.refl _)
   | (with_reducible exact LeO.none _)
   | (with_reducible refine LeO.ite ?_ ?_)
   | (with_reducible refine LeO.bind ?_ (fun _ => ?_))
   | exact ih0 _ _ _
   | exact ih1 _ _ _ _ _
   | exact ih2 _ _ _ _ _ _ _ _ _
   | exact ih3 _ _ _ _ _ _ _ _ _ _ _ _
   | exact ih4 _ _ _ _ _ _ _ _ _
   | exact impl_Shares.mono _ _ _
   | exact impl_costsOk.mono _ _
   | exact LeO.none _
   | refine LeO.ite ?_ ?_
   | refine LeO.bind ?_ (fun _ => ?_)
  ·intro y0 y1 y2 y3 y4 y5 y6 y7 y8
   unfold impl_StepDown.l2
   repeat' first
   | (with_reducible exact ih0 _ _ _)
   | (with_reducible exact ih1 _ _ _ _ _)
   | (with_reducible exact ih2 _ _ _ _ _ _ _ _ _)
   | (with_reducible exact ih3 _ _ _ _ _ _ _ _ _ _ _ _)
   | (with_reducible exact ih4 _ _ _ _ _ _ _ _ _)
   | (with_reducible exact impl_Shares.mono _ _ _)
   | (with_reducible exact impl_costsOk.mono _ _)
   | (with_reducible exact LeO.refl _)
   | (with_reducible exact LeO.none _)
   | (with_reducible refine LeO.ite ?_ ?_)
   | (with_reducible refine LeO.bind ?_ (fun _ => ?_))
   | exact ih0 _ _ _
   | exact ih1 _ _ _ _ _
   | exact ih2 _ _ _ _ _ _ _ _ _
   | exact ih3 _ _ _ _ _ _ _ _ _ _ _ _
   | exact ih4 _ _ _ _ _ _ _ _ _
   | exact impl_Shares.mono _ _ _
   | exact impl_costsOk.mono _ _
   | exact LeO.none _
   | refine LeO.ite ?_ ?_
   | refine LeO.bind ?_ (fun _ => ?_)
theorem impl_StepDown.mono : ∀ a0 a1 k, LeO (impl_StepDown.f k a0 a1) (impl_StepDown.f (k + 1) a0 a1) := by
 intro a0 a1 k
 obtain ⟨ih0, ih1, ih2, ih3, ih4⟩ := impl_StepDown.mono_l k
 unfold impl_StepDown.f
 repeat' first
   | (with_reducible exact ih0 _ _ _)
   | (with_reducible exact ih1 _ _ _ _ _)
   | (with_reducible exact ih2 _ _ _ _ _ _ _ _ _)
   | (with_reducible exact ih3 _ _ _ _ _ _ _ _ _ _ _ _)
   | (with_reducible exact ih4 _ _ _ _ _ _ _ _ _)
   | (with_reducible exact impl_Shares.mono _ _ _)
   | (with_reducible exact impl_costsOk.mono _ _)
   | (with_reducible exact LeO.refl _)
   | (with_reducible exact LeO.none _)
   | (with_reducible refine LeO.ite ?_ ?_)
   | (with_reducible refine LeO.bind ?_ (fun _ => ?_))
   | exact ih0 _ _ _
   | exact ih1 _ _ _ _ _
   | exact ih2 _ _ _ _ _ _ _ _ _
   | exact ih3 _ _ _ _ _ _ _ _ _ _ _ _
   | exact ih4 _ _ _ _ _ _ _ _ _
   | exact impl_Shares.mono _ _ _
   | exact impl_costsOk.mono _ _
   | exact LeO.none _
   | refine LeO.ite ?_ ?_
   | refine LeO.bind ?_ (fun _ => ?_)
def impl_StepDown.T19 : Bool × List (List Nat × List Nat) := (true, [([], []), ([], []), ([1], [1]), ([0, 2], [0, 2]), ([3], [3]), ([], []), ([5], [5]), ([4, 6], [4, 6]), ([7, 7, 0, 1, 2, 3, 4, 5, 6, 7], [7])])
def impl_StepDown.B19 : List Nat := [0, 0, 2, 7, 15, 0, 32, 127, 255]
theorem impl_StepDown.tab19 : rtab .any (opsOf Try.f48 19) = impl_StepDown.T19 := by kernel_rfl
theorem impl_StepDown.bits19 : waitsOk impl_StepDown.T19.2 impl_StepDown.B19 = true := by kernel_rfl
def impl_StepDown.T26 : Bool × List (List Nat × List Nat) := (true, [([], []), ([], []), ([0, 1], [0, 1]), ([2], [2]), ([], []), ([], []), ([4, 5], [4, 5]), ([6], [6]), ([3, 7], [3, 7]), ([0, 1, 0, 1, 2, 3, 4, 5, 6, 7, 8], [0, 1]), ([9, 8, 0, 1, 2, 3, 4, 5, 6, 7, 8], [8, 9])])
def impl_StepDown.B26 : List Nat := [0, 0, 3, 7, 0, 0, 48, 112, 255, 511, 1023]
theorem impl_StepDown.tab26 : rtab .any (opsOf Try.f48 26) = impl_StepDown.T26 := by kernel_rfl
theorem impl_StepDown.bits26 : waitsOk impl_StepDown.T26.2 impl_StepDown.B26 = true := by kernel_rfl
set_option maxHeartbeats 8000000 in
set_option maxRecDepth 100000 in
theorem impl_StepDown.calls (k : Nat) (A0 : Option Addr) (c0 : Nat) (l0 : List Int) (A1 : Option Addr) (c1 : Nat) (l1 : List (S152)) (r1 : List Int) (r2 : Bool) (w : World) (hr0 : Kd.C (Kd.int .i64) w A0 l0.length l0) (hc0 : l0.length ≤ c0) (hr1 : Kd.C k152 w A1 l1.length l1) (hc1 : l1.length ≤ c1) (h : impl_StepDown.f k l0 l1 = some (r1, r2)) :
  Calls Try.prog 48 #[.slice A0 l0.length c0, .slice A1 l1.length c1] w fun e w' => ∃ v0_ : Value, e = .returned (.tuple #[v0_, .bool r2]) ∧ Kd.R (Kd.int .i64) 3 w' w.heap.size (fun _ => True) v0_ r1 ∧ Below w.heap.size w w' := by
 have hu152 := Try.underlying152
 have HR0 := Aside0.mk hr0
 have HC0 := Aside0.mk hc0
 clear hr0 hc0
 have HR1 := Aside0.mk hr1
 have HC1 := Aside0.mk hc1
 clear hr1 hc1
 have HB := Aside0.mk (Below.refl w.heap.size w)
 have H : ((impl_costsOk.f k l0).bind fun t264 => (if t264 = true then (impl_StepDown.j0 k l0 l1 (decide ((l1.length : Int) > 40))) else (impl_StepDown.j0 k l0 l1 true))) = some (r1, r2) := h
 clear h
 have HC3 := Aside0.mk H
 clear H
 go_enter Try.func48, Try.ntmps48
 go_upto_region 1 with (fail)
 go_cut [23] (fun v23 wc => ∃ (kq : Nat) (x23_2 : Bool), v23 = .bool x23_2 ∧ Aside0 (impl_StepDown.j0 kq l0 l1 x23_2 = some (r1, r2)) ∧ Aside0 (kq ≤ k) ∧ Aside0 (Below w.heap.size w wc))
 case first =>
  have H := HC3.out
  clear HC3
  replace H := Option.bind_eq_some_iff.mp H
  obtain ⟨t264, A40, H⟩ := H
  replace H : (if t264 = true then (impl_StepDown.j0 k l0 l1 (decide ((l1.length : Int) > 40))) else (impl_StepDown.j0 k l0 l1 true)) = some (r1, r2) := H
  have A4 := Aside0.mk A40
  clear A40
  by_cases c5 : t264 = true
  ·subst c5
   have H1 : (impl_StepDown.j0 k l0 l1 (decide ((l1.length : Int) > 40))) = some (r1, r2) := by rw [if_pos rfl] at H; exact H
   clear H
   have H := H1
   clear H1
   have H' := Aside0.mk H
   clear H
   go_wp2_with (first | ((with_reducible refine ql0 (f := 110) rfl ?_); refine qx0 (some 17) rfl rfl Try.func110 (by kernel_rfl) rfl #[.slice A0 l0.length c0] rfl (by (try simp only [List.map_toArray, List.map_cons, List.map_nil]); first | done | rfl | (simp only [List.length_drop, List.length_take]; rfl)) ?_; (with_reducible refine (impl_costsOk.calls k _ _ l0 true _ ?side1 ?side2 A4.out).mono ?_); (case side1 => repeat (first | exact (Kd.qz0 HR0.out HB.out) | (with_reducible refine Kd.qt0 ?_ _) | (with_reducible refine Kd.qs0 ?_ _) | (with_reducible refine Kd.qu0 ?_))); (case side2 => exact HC0.out); rintro e w' ⟨rfl, ⟨nd, rfl⟩⟩; refine ⟨_, rfl, ?_⟩))
   go_meet
   case rel => exact ⟨_, (decide ((l1.length : Int) > 40)), (by first | rfl | (simp; done) | (simp [*]; done)), H', ⟨by first | omega | exact Nat.le_refl _⟩, ⟨by repeat (first | (with_reducible first | exact HB.out | apply qc0 | apply qa0 | apply qb0) | exact HB.out)⟩⟩
  replace c5 := Bool.eq_false_iff.mpr c5
  subst c5
  have H1 : (impl_StepDown.j0 k l0 l1 true) = some (r1, r2) := by rw [if_neg (show ¬ (false = true) by decide)] at H; exact H
  clear H
  have H := H1
  clear H1
  have H' := Aside0.mk H
  clear H
  go_wp2_with (first | ((with_reducible refine ql0 (f := 110) rfl ?_); refine qx0 (some 17) rfl rfl Try.func110 (by kernel_rfl) rfl #[.slice A0 l0.length c0] rfl (by (try simp only [List.map_toArray, List.map_cons, List.map_nil]); first | done | rfl | (simp only [List.length_drop, List.length_take]; rfl)) ?_; (with_reducible refine (impl_costsOk.calls k _ _ l0 false _ ?side1 ?side2 A4.out).mono ?_); (case side1 => repeat (first | exact (Kd.qz0 HR0.out HB.out) | (with_reducible refine Kd.qt0 ?_ _) | (with_reducible refine Kd.qs0 ?_ _) | (with_reducible refine Kd.qu0 ?_))); (case side2 => exact HC0.out); rintro e w' ⟨rfl, ⟨nd, rfl⟩⟩; refine ⟨_, rfl, ?_⟩))
  go_meet
  case rel => exact ⟨_, (true), (by first | rfl | (simp; done) | (simp [*]; done)), H', ⟨by first | omega | exact Nat.le_refl _⟩, ⟨by repeat (first | (with_reducible first | exact HB.out | apply qc0 | apply qa0 | apply qb0) | exact HB.out)⟩⟩
 case rest =>
  clear HC3
  try clear c1
  try clear p2
  try clear c4
  try clear c5
  obtain ⟨kq, x23_2, rfl, HA, HJ2, HB⟩ := hcut
  cases kq with
  | zero => exact absurd HA.out (by simp [impl_StepDown.j0])
  | succ kj2 =>
   have H := HA.out
   clear HA
   simp only [impl_StepDown.j0] at H
   by_cases c6 : x23_2 = true
   ·subst c6
    have H1 : (some (([] : List Int), false)) = some (r1, r2) := by rw [if_pos rfl] at H; exact H
    clear H
    have H := H1
    clear H1
    simp only [Option.some.injEq, Prod.mk.injEq] at H
    obtain ⟨rfl, rfl⟩ := H
    go_wp2
    go_ret2
    exact ⟨_, by first | rfl | (simp [errW_none, errW_some] <;> rfl) | (simp [*, errW_none, errW_some] <;> rfl), by first | exact Kd.R_nil _ _ _ _ _ | exact Kd.N_nil _ _ _ _ _ | exact Kd.V_nil _ _ _ _ _ | exact Kd.Q_nil _ _ _ _ _ | exact Kd.S_nil _ _ _ _ _, by repeat (first | (with_reducible first | exact HB.out | apply qc0 | apply qa0 | apply qb0) | exact HB.out)⟩
   replace c6 := Bool.eq_false_iff.mpr c6
   subst c6
   have H1 : ((some (([] : List Int) : List Int)).bind fun y265 => (if y265.length + l0.length < 17592186044416 then (impl_StepDown.l0 kj2 (y265 ++ l0) (([] : List (Int × Bool))) l1 (l1.length : Int) 0) else (none))) = some (r1, r2) := by rw [if_neg (show ¬ (false = true) by decide)] at H; exact H
   clear H
   have H := H1
   clear H1
   obtain ⟨y265, hy265⟩ : ∃ y_ : List Int, y_ = (([] : List Int)) := ⟨_, rfl⟩
   replace H : (if y265.length + l0.length < 17592186044416 then (impl_StepDown.l0 kj2 (y265 ++ l0) (([] : List (Int × Bool))) l1 (l1.length : Int) 0) else (none)) = some (r1, r2) := by first | (rw [hy265]; with_reducible exact H) | (have H2_ := (Option.bind_some _ _).symm.trans H; rw [hy265]; with_reducible exact H2_) | (have H2_ := (Option.bind_some _ _).symm.trans H; with_reducible exact H2_) | with_reducible exact H | (rw [hy265]; exact H) | exact H
   have Ny265 := Aside0.mk hy265
   clear hy265
   by_cases c7 : y265.length + l0.length < 17592186044416
   case neg => rw [if_neg c7] at H; exact absurd H (by simp)
   rw [if_pos c7] at H
   have LMc7 := Aside0.mk c7
   clear c7
   obtain ⟨y268, hy268⟩ : ∃ y_ : List Int, y_ = (y265 ++ l0) := ⟨_, rfl⟩
   replace H : (impl_StepDown.l0 kj2 y268 (([] : List (Int × Bool))) l1 (l1.length : Int) 0) = some (r1, r2) := by first | (rw [hy268]; with_reducible exact H) | (have H2_ := (Option.bind_some _ _).symm.trans H; rw [hy268]; with_reducible exact H2_) | (have H2_ := (Option.bind_some _ _).symm.trans H; with_reducible exact H2_) | with_reducible exact H | (rw [hy268]; exact H) | exact H
   have Ny268 := Aside0.mk hy268
   clear hy268
   obtain ⟨y271, hy271⟩ : ∃ y_ : List (Int × Bool), y_ = (([] : List (Int × Bool))) := ⟨_, rfl⟩
   replace H : (impl_StepDown.l0 kj2 y268 y271 l1 (l1.length : Int) 0) = some (r1, r2) := by first | (rw [hy271]; with_reducible exact H) | (have H2_ := (Option.bind_some _ _).symm.trans H; rw [hy271]; with_reducible exact H2_) | (have H2_ := (Option.bind_some _ _).symm.trans H; with_reducible exact H2_) | with_reducible exact H | (rw [hy271]; exact H) | exact H
   have Ny271 := Aside0.mk hy271
   clear hy271
   have H' := Aside0.mk H
   clear H
   go_wp2_with (first | ((with_reducible refine qa1 (N := 24) rfl ?_); (try (refine qw0 (by rfl) ?_; dsimp only)); refine Kd.R_lit (Kd.int .i64) _ 3 ?hg (N := 24) ?hd (xs := ([] : List Int)) (inner := []) (ok := fun _ => True) (okp := fun _ => True) ?hr ?hp (fun _ hk => hk) trivial (Below.refl _ _) (Nat.le_refl _) (by simp) ?_; (case hd => rfl); (case hg => rfl); (case hr => first | (go_simp; done) | (go_simp; rfl)); (case hp => exact (Reps.none _ _)); intro v266 w8 ho9 hb hg_ hnew_; clear hg_ hnew_; (first | rw [← Ny265.out] at ho9 | (simp only [Int.reduceToNat] at ho9; rw [← Ny265.out] at ho9)); have n0_ := Aside0.mk (Kd.qj1 ho9 (qm0 (by repeat (first | (with_reducible first | exact HB.out | apply qc0 | apply qa0 | apply qb0) | exact HB.out)))); have n1_ := Aside0.mk (qr0 (by repeat (first | (with_reducible first | exact HB.out | apply qc0 | apply qa0 | apply qb0) | exact HB.out)) hb); clear HB; have HO267 := n0_; have HB := n1_; clear n0_ n1_; clear hb ho9) | ((with_reducible refine gate_builtin (b := .append) (xs := #[.tmp 24, .tmp 25]) rfl ?_); (try (refine qw0 (by rfl) ?_; dsimp only)); at_builtin; refine Kd.R_append_rows (Kd.int .i64) (w0 := w) w.heap.size rfl (.tmp 24) (.tmp 25) 25 3 (.int .i64 0) 8 rfl Try.underlying25 info3 rfl (by decide) (by omega) v266 y265 l0 _ _ _ (fun _ => True) (fun _ => False) rfl rfl ?aO ?aR (fun _ _ h => h) (fun _ h => h.elim) ?aF ?aB ?aS ?aL ?_; (case aR => repeat (first | exact (Kd.qz0 HR0.out HB.out) | (with_reducible refine Kd.qt0 ?_ _) | (with_reducible refine Kd.qs0 ?_ _) | (with_reducible refine Kd.qu0 ?_))); (case aB => exact (by repeat (first | (with_reducible first | exact HB.out | apply qc0 | apply qa0 | apply qb0) | exact HB.out))); (case aF => exact (fun _ _ => trivial)); (case aO => exact (by (with_reducible repeat (first | apply Kd.qe0 | apply Kd.qd0 | apply Kd.qf0)); exact HO267.out)); (case aS => exact (qm0 (by repeat (first | (with_reducible first | exact HB.out | apply qc0 | apply qa0 | apply qb0) | exact HB.out)))); (case aL => have := LMc7.out; omega); intro v269 w10 ho hb hg hat; rw [← Ny268.out] at ho; have n0_ := Aside0.mk (hb); have n1_ := Aside0.mk (ho); clear HB; clear HO267; have HB := n0_; have HO270 := n1_; clear n0_ n1_; clear ho hb hg hat) | ((with_reducible refine qa1 (N := 27) rfl ?_); (try (refine qw0 (by rfl) ?_; dsimp only)); refine Kd.Z_make_op kz155 155 (ok := fun _ => True) rfl (N := 27) rfl rfl trivial ?_; intro mb274 hq_ w11 ho12 hb; rw [← Ny271.out] at ho12; have n0_ := Aside0.mk (Kd.qf1 (by (with_reducible repeat (first | apply Kd.qe0 | apply Kd.qd0 | apply Kd.qf0)); exact HO270.out) hb); have n1_ := Aside0.mk (qr0 (by repeat (first | (with_reducible first | exact HB.out | apply qc0 | apply qa0 | apply qb0) | exact HB.out)) hb); have n2_ := Aside0.mk (Kd.Z_lower ho12 (qm0 (by repeat (first | (with_reducible first | exact HB.out | apply qc0 | apply qa0 | apply qb0) | exact HB.out)))); clear HO270; clear HB; have HO270 := n0_; have HB := n1_; have HO273 := n2_; clear n0_ n1_ n2_; clear hb ho12 hq_))
   (try simp only [add_plain])
   go_loopg [30] kj2 (fun kq v30 w' => ∃ (x6_2 : List Int) (x7_2 : List (Int × Bool)) (x30_2 : Int), v30 = .int .i64 x30_2 ∧ Aside0 (impl_StepDown.l0 kq x6_2 x7_2 l1 (l1.length : Int) x30_2 = some (r1, r2)) ∧ Aside0 (kq ≤ kj2) ∧ Aside0 (Kd.R (Kd.int .i64) 3 w' w.heap.size (fun _ => True) v269 x6_2) ∧ Aside0 (Kd.Z kz155 155 w' w.heap.size (fun _ => True) (.map (some mb274)) x7_2) ∧ Aside0 (Below w.heap.size w w'))
   case atStart => exact ⟨(y268), (y271), (0), (by first | rfl | (simp; done) | (simp [*]; done)), H', ⟨Nat.le_refl _⟩, ⟨by (with_reducible repeat (first | apply Kd.qe0 | apply Kd.qd0 | apply Kd.qf0)); exact HO270.out⟩, ⟨by (with_reducible repeat (first | apply Kd.Z_alloc | apply Kd.Z_drewN | apply Kd.Z_drew)); exact HO273.out⟩, ⟨by repeat (first | (with_reducible first | exact HB.out | apply qc0 | apply qa0 | apply qb0) | exact HB.out)⟩⟩
   case round =>
    clear H'
    try clear c1
    try clear p2
    try clear c4
    try clear c5
    try clear c6
    try clear c7
    try clear c11
    try clear p2
    obtain ⟨x6_2, x7_2, x30_2, rfl, HA, HK2, HO_6, HO_7, HB⟩ := hrel
    cases gk with
    | zero => exact absurd HA.out (by simp [impl_StepDown.l0])
    | succ k2 =>
     have H := HA.out
     clear HA
     simp only [impl_StepDown.l0] at H
     by_cases c13 : x30_2 < (l1.length : Int)
     ·rw [if_pos c13] at H
      have c13b0 : decide (x30_2 < (l1.length : Int)) = true := decide_eq_true c13
      clear c13
      by_cases c14 : 0 ≤ x30_2
      case neg => rw [if_neg c14] at H; exact absurd H (by simp)
      rw [if_pos c14] at H
      have c14b0 : decide (0 ≤ x30_2) = true := decide_eq_true c14
      clear c14
      by_cases c15 : x30_2 < (l1.length : Int)
      case neg => rw [if_neg c15] at H; exact absurd H (by simp)
      rw [if_pos c15] at H
      have c15b0 : decide (x30_2 < (l1.length : Int)) = true := decide_eq_true c15
      clear c15
      have HC16 := Aside0.mk H
      clear H
      have p275 : 0 ≤ (x30_2 : Int) := of_decide_eq_true (by first | (with_reducible assumption) | assumption)
      have q275 : x30_2 < (l1.length : Int) := of_decide_eq_true (by first | (with_reducible assumption) | assumption)
      obtain ⟨ad275, A275_1, c275_1, A275_2, c275_2, e275, hx275_0, hx275_1, hx275_2, hl275_1, hi275_1, hl275_2, hi275_2⟩ := at_T152 HR1.out x30_2 p275 q275
      cases e275
      replace hx275_0 := (HB.out.cell (World.block_lt_of_cell? w _ hx275_0)).trans hx275_0
      replace hx275_1 := (HB.out.cell (World.block_lt_of_cell? w _ hx275_1)).trans hx275_1
      replace hx275_2 := (HB.out.cell (World.block_lt_of_cell? w _ hx275_2)).trans hx275_2
      have HR275_1 := Aside0.mk hi275_1
      have HC275_1 := Aside0.mk hl275_1
      clear hi275_1 hl275_1
      have HR275_2 := Aside0.mk hi275_2
      have HC275_2 := Aside0.mk hl275_2
      clear hi275_2 hl275_2
      replace p275 := eq_true p275
      replace q275 := eq_true q275
      go_upto_region 8 with (first | ((with_reducible refine qa1 (N := 9) rfl ?_); (try (refine qw0 (by rfl) ?_; dsimp only)); refine box_event ?hg (N := 9) ?hd (cs := #[.int .i64 0, .slice none 0 0, .slice none 0 0]) (t := 152) ?hr ?_; (case hd => rfl); (case hg => rfl); (case hr => first | (go_simp; done) | (go_simp; rfl)); intro gb276 hg w17 hbox hb; have n0_ := Aside0.mk (Kd.qf1 (by (with_reducible repeat (first | apply Kd.qe0 | apply Kd.qd0 | apply Kd.qf0)); exact HO_6.out) hb); have n1_ := Aside0.mk (Kd.Z_below (by (with_reducible repeat (first | apply Kd.Z_alloc | apply Kd.Z_drewN | apply Kd.Z_drew)); exact HO_7.out) hb); have n2_ := Aside0.mk (qr0 (by repeat (first | (with_reducible first | exact HB.out | apply qc0 | apply qa0 | apply qb0) | exact HB.out)) hb); have n3_ := Aside0.mk (hbox); have n4_ := Aside0.mk ((by rw [hg]; exact (qm0 (by repeat (first | (with_reducible first | exact HB.out | apply qc0 | apply qa0 | apply qb0) | exact HB.out))) : w.heap.size ≤ gb276)); have n5_ := Aside0.mk ((by rw [hg]; exact (qm0 (by repeat (first | (with_reducible first | exact HB.out | apply qc0 | apply qa0 | apply qb0) | exact HB.out))) : w.heap.size ≤ gb276)); clear HO_6; clear HO_7; clear HB; have HO_6 := n0_; have HO_7 := n1_; have HB := n2_; have BK276 := n3_; have GW276 := n4_; have GE276 := n5_; clear n0_ n1_ n2_ n3_ n4_ n5_; clear hb hbox hg; have hcz18_0 : w17.cell? ⟨gb276, 0, none⟩ = some (.int .i64 0) := (qg0 BK276.out 0).trans rfl; have hcz18_1 : w17.cell? ⟨gb276, 1, none⟩ = some (.slice none 0 0) := (qg0 BK276.out 1).trans rfl; have hcz18_2 : w17.cell? ⟨gb276, 2, none⟩ = some (.slice none 0 0) := (qg0 BK276.out 2).trans rfl; have hfz18_0 := qh0 BK276.out 0; have hfz18_1 := qh0 BK276.out 1; have hfz18_2 := qh0 BK276.out 2))
      (try simp only [Act.put, List.setIfInBounds_toArray, List.set_cons_zero, List.set_cons_succ])
      go_cut [70] (fun v70 wc => ∃ (kq : Nat) (x70_15 : Bool), v70 = .bool x70_15 ∧ Aside0 (impl_StepDown.j2 kq x6_2 x7_2 l1 (l1.length : Int) x30_2 x70_15 ((rd_T152 l1 x30_2).f0) ((rd_T152 l1 x30_2).f1) ((rd_T152 l1 x30_2).f2) = some (r1, r2)) ∧ Aside0 (kq ≤ k2) ∧ Aside0 (Kd.R (Kd.int .i64) 3 wc w.heap.size (fun _ => True) v269 x6_2) ∧ Aside0 (Kd.Z kz155 155 wc w.heap.size (fun _ => True) (.map (some mb274)) x7_2) ∧ Aside0 (wc.heap[gb276]? = some (.cells #[.int .i64 ((rd_T152 l1 x30_2).f0), (.slice A275_1 ((rd_T152 l1 x30_2).f1).length c275_1), (.slice A275_2 ((rd_T152 l1 x30_2).f2).length c275_2)] 152 (0, 0))) ∧ Aside0 (Below w.heap.size w wc))
      case first =>
       have H := HC16.out
       clear HC16
       by_cases c19 : ((rd_T152 l1 x30_2).f0) < 0
       ·rw [if_pos c19] at H
        have c19b0 : decide (((rd_T152 l1 x30_2).f0) < 0) = true := decide_eq_true c19
        clear c19
        (first | rw [c19b0] | (simp only [i64_w, i32_w]; rw [c19b0]) | skip)
        have H' := Aside0.mk H
        clear H
        have hcz20_0 : w17.cell? ⟨gb276, 0, none⟩ = some (.int .i64 0) := (qg0 BK276.out 0).trans rfl
        have hcz20_1 : w17.cell? ⟨gb276, 1, none⟩ = some (.slice none 0 0) := (qg0 BK276.out 1).trans rfl
        have hcz20_2 : w17.cell? ⟨gb276, 2, none⟩ = some (.slice none 0 0) := (qg0 BK276.out 2).trans rfl
        have hfz20_0 := qh0 BK276.out 0
        have hfz20_1 := qh0 BK276.out 1
        have hfz20_2 := qh0 BK276.out 2
        go_wp2
        go_meet
        case rel => exact ⟨_, (true), (by first | rfl | (simp; done) | (simp [*]; done)), H', ⟨by have := HJ2.out; have := HK2.out; first | omega | exact Nat.le_refl _⟩, ⟨by (with_reducible repeat (first | apply Kd.qe0 | apply Kd.qd0 | apply Kd.qf0)); exact Kd.qq0 (Kd.R_far (p := ⟨gb276, 2, none⟩) (Kd.R_far (p := ⟨gb276, 1, none⟩) (Kd.R_far (p := ⟨gb276, 0, none⟩) (Kd.qp1 HO_6.out BK276.out (by decide)) (fun _ hk => hk.2) (.int .i64 ((rd_T152 l1 x30_2).f0))) (fun _ hk => hk.2) (.slice A275_1 ((rd_T152 l1 x30_2).f1).length c275_1)) (fun _ hk => hk.2) (.slice A275_2 ((rd_T152 l1 x30_2).f2).length c275_2)) (fun _ hk => trivial)⟩, ⟨by (with_reducible repeat (first | apply Kd.Z_alloc | apply Kd.Z_drewN | apply Kd.Z_drew)); exact Kd.Z_mono (Kd.Z_far (p := ⟨gb276, 2, none⟩) (Kd.Z_far (p := ⟨gb276, 1, none⟩) (Kd.Z_far (p := ⟨gb276, 0, none⟩) (Kd.Z_types HO_7.out BK276.out (by decide)) (fun _ hk => hk.2) (.int .i64 ((rd_T152 l1 x30_2).f0))) (fun _ hk => hk.2) (.slice A275_1 ((rd_T152 l1 x30_2).f1).length c275_1)) (fun _ hk => hk.2) (.slice A275_2 ((rd_T152 l1 x30_2).f2).length c275_2)) (fun _ hk => trivial)⟩, ⟨by (with_reducible repeat (first | refine qn0 ?_ _ | refine qp0 ?_ | refine qo0 ?_ _)); refine qi1 (cs := #[.int .i64 ((rd_T152 l1 x30_2).f0), .slice A275_1 ((rd_T152 l1 x30_2).f1).length c275_1, .slice none 0 0]) ?_ 2 _ rfl; (with_reducible repeat (first | refine qn0 ?_ _ | refine qp0 ?_ | refine qo0 ?_ _)); refine qi1 (cs := #[.int .i64 ((rd_T152 l1 x30_2).f0), .slice none 0 0, .slice none 0 0]) ?_ 1 _ rfl; (with_reducible repeat (first | refine qn0 ?_ _ | refine qp0 ?_ | refine qo0 ?_ _)); refine qi1 (cs := #[.int .i64 0, .slice none 0 0, .slice none 0 0]) ?_ 0 _ rfl; (with_reducible repeat (first | refine qn0 ?_ _ | refine qp0 ?_ | refine qo0 ?_ _)); exact BK276.out⟩, ⟨by repeat (first | (with_reducible first | exact HB.out | apply qc0 | apply qa0 | apply qb0 | refine qi0 ?_ GE276.out) | exact HB.out)⟩⟩
       rw [if_neg c19] at H
       have c19b0 : decide (((rd_T152 l1 x30_2).f0) < 0) = false := decide_eq_false c19
       clear c19
       (first | rw [c19b0] | (simp only [i64_w, i32_w]; rw [c19b0]) | skip)
       by_cases c21 : ((rd_T152 l1 x30_2).f0) ≥ (x6_2.length : Int)
       ·rw [if_pos c21] at H
        have c21b0 : decide ((x6_2.length : Int) ≤ ((rd_T152 l1 x30_2).f0)) = true := decide_eq_true c21
        clear c21
        have H' := Aside0.mk H
        clear H
        have hcz22_0 : w17.cell? ⟨gb276, 0, none⟩ = some (.int .i64 0) := (qg0 BK276.out 0).trans rfl
        have hcz22_1 : w17.cell? ⟨gb276, 1, none⟩ = some (.slice none 0 0) := (qg0 BK276.out 1).trans rfl
        have hcz22_2 : w17.cell? ⟨gb276, 2, none⟩ = some (.slice none 0 0) := (qg0 BK276.out 2).trans rfl
        have hfz22_0 := qh0 BK276.out 0
        have hfz22_1 := qh0 BK276.out 1
        have hfz22_2 := qh0 BK276.out 2
        obtain ⟨Ao23, co23, eo23⟩ := Kd.qy0 HO_6.out
        subst eo23
        go_wp2
        go_meet
        case rel => exact ⟨_, (true), (by first | rfl | (simp; done) | (simp [*]; done)), H', ⟨by have := HJ2.out; have := HK2.out; first | omega | exact Nat.le_refl _⟩, ⟨by (with_reducible repeat (first | apply Kd.qe0 | apply Kd.qd0 | apply Kd.qf0)); exact Kd.qq0 (Kd.R_far (p := ⟨gb276, 2, none⟩) (Kd.R_far (p := ⟨gb276, 1, none⟩) (Kd.R_far (p := ⟨gb276, 0, none⟩) (Kd.qp1 HO_6.out BK276.out (by decide)) (fun _ hk => hk.2) (.int .i64 ((rd_T152 l1 x30_2).f0))) (fun _ hk => hk.2) (.slice A275_1 ((rd_T152 l1 x30_2).f1).length c275_1)) (fun _ hk => hk.2) (.slice A275_2 ((rd_T152 l1 x30_2).f2).length c275_2)) (fun _ hk => trivial)⟩, ⟨by (with_reducible repeat (first | apply Kd.Z_alloc | apply Kd.Z_drewN | apply Kd.Z_drew)); exact Kd.Z_mono (Kd.Z_far (p := ⟨gb276, 2, none⟩) (Kd.Z_far (p := ⟨gb276, 1, none⟩) (Kd.Z_far (p := ⟨gb276, 0, none⟩) (Kd.Z_types HO_7.out BK276.out (by decide)) (fun _ hk => hk.2) (.int .i64 ((rd_T152 l1 x30_2).f0))) (fun _ hk => hk.2) (.slice A275_1 ((rd_T152 l1 x30_2).f1).length c275_1)) (fun _ hk => hk.2) (.slice A275_2 ((rd_T152 l1 x30_2).f2).length c275_2)) (fun _ hk => trivial)⟩, ⟨by (with_reducible repeat (first | refine qn0 ?_ _ | refine qp0 ?_ | refine qo0 ?_ _)); refine qi1 (cs := #[.int .i64 ((rd_T152 l1 x30_2).f0), .slice A275_1 ((rd_T152 l1 x30_2).f1).length c275_1, .slice none 0 0]) ?_ 2 _ rfl; (with_reducible repeat (first | refine qn0 ?_ _ | refine qp0 ?_ | refine qo0 ?_ _)); refine qi1 (cs := #[.int .i64 ((rd_T152 l1 x30_2).f0), .slice none 0 0, .slice none 0 0]) ?_ 1 _ rfl; (with_reducible repeat (first | refine qn0 ?_ _ | refine qp0 ?_ | refine qo0 ?_ _)); refine qi1 (cs := #[.int .i64 0, .slice none 0 0, .slice none 0 0]) ?_ 0 _ rfl; (with_reducible repeat (first | refine qn0 ?_ _ | refine qp0 ?_ | refine qo0 ?_ _)); exact BK276.out⟩, ⟨by repeat (first | (with_reducible first | exact HB.out | apply qc0 | apply qa0 | apply qb0 | refine qi0 ?_ GE276.out) | exact HB.out)⟩⟩
       rw [if_neg c21] at H
       have c21b0 : decide ((x6_2.length : Int) ≤ ((rd_T152 l1 x30_2).f0)) = false := decide_eq_false c21
       clear c21
       by_cases c24 : (-9223372036854775808) ≤ ((rd_T152 l1 x30_2).f0)
       case neg => rw [if_neg c24] at H; exact absurd H (by simp)
       rw [if_pos c24] at H
       have LMc24 := Aside0.mk c24
       clear c24
       by_cases c25 : ((rd_T152 l1 x30_2).f0) ≤ 9223372036854775807
       case neg => rw [if_neg c25] at H; exact absurd H (by simp)
       rw [if_pos c25] at H
       have LMc25 := Aside0.mk c25
       clear c25
       by_cases c26 : (mget x7_2 ((rd_T152 l1 x30_2).f0)).getD false = true
       ·rw [if_pos c26] at H
        have c26b0 : (mget x7_2 ((rd_T152 l1 x30_2).f0)).getD false = true := c26
        clear c26
        have H' := Aside0.mk H
        clear H
        have hcz27_0 : w17.cell? ⟨gb276, 0, none⟩ = some (.int .i64 0) := (qg0 BK276.out 0).trans rfl
        have hcz27_1 : w17.cell? ⟨gb276, 1, none⟩ = some (.slice none 0 0) := (qg0 BK276.out 1).trans rfl
        have hcz27_2 : w17.cell? ⟨gb276, 2, none⟩ = some (.slice none 0 0) := (qg0 BK276.out 2).trans rfl
        have hfz27_0 := qh0 BK276.out 0
        have hfz27_1 := qh0 BK276.out 1
        have hfz27_2 := qh0 BK276.out 2
        obtain ⟨Ao28, co28, eo28⟩ := Kd.qy0 HO_6.out
        subst eo28
        go_wp2_with (first | ((with_reducible refine qa1 (N := 48) rfl ?_); (try (refine qw0 (by rfl) ?_; dsimp only)); refine Kd.Z_look_op (base := w.heap.size) (ok := fun _ => True) kz155 155 rfl rfl _ _ 155 rfl kz155_K kz155_inj kz155_t false kz155_z mb274 x7_2 ((rd_T152 l1 x30_2).f0) rfl rfl (kz155_key ((rd_T152 l1 x30_2).f0) LMc24.out LMc25.out) ?aO (.bool ((mget x7_2 ((rd_T152 l1 x30_2).f0)).getD false)) rfl ?_; (case aO => exact (by (with_reducible repeat (first | apply Kd.Z_alloc | apply Kd.Z_drewN | apply Kd.Z_drew)); exact (Kd.Z_mono (Kd.Z_far (p := ⟨gb276, 2, none⟩) (Kd.Z_far (p := ⟨gb276, 1, none⟩) (Kd.Z_far (p := ⟨gb276, 0, none⟩) (Kd.Z_types HO_7.out BK276.out (by decide)) (fun _ hk => hk.2) (.int .i64 ((rd_T152 l1 x30_2).f0))) (fun _ hk => hk.2) (.slice A275_1 ((rd_T152 l1 x30_2).f1).length c275_1)) (fun _ hk => hk.2) (.slice A275_2 ((rd_T152 l1 x30_2).f2).length c275_2)) (fun _ h_ => h_.1))))))
        go_meet
        case rel => exact ⟨_, (true), (by first | rfl | (simp; done) | (simp [*]; done)), H', ⟨by have := HJ2.out; have := HK2.out; first | omega | exact Nat.le_refl _⟩, ⟨by (with_reducible repeat (first | apply Kd.qe0 | apply Kd.qd0 | apply Kd.qf0)); exact Kd.qq0 (Kd.R_far (p := ⟨gb276, 2, none⟩) (Kd.R_far (p := ⟨gb276, 1, none⟩) (Kd.R_far (p := ⟨gb276, 0, none⟩) (Kd.qp1 HO_6.out BK276.out (by decide)) (fun _ hk => hk.2) (.int .i64 ((rd_T152 l1 x30_2).f0))) (fun _ hk => hk.2) (.slice A275_1 ((rd_T152 l1 x30_2).f1).length c275_1)) (fun _ hk => hk.2) (.slice A275_2 ((rd_T152 l1 x30_2).f2).length c275_2)) (fun _ hk => trivial)⟩, ⟨by (with_reducible repeat (first | apply Kd.Z_alloc | apply Kd.Z_drewN | apply Kd.Z_drew)); exact Kd.Z_mono (Kd.Z_far (p := ⟨gb276, 2, none⟩) (Kd.Z_far (p := ⟨gb276, 1, none⟩) (Kd.Z_far (p := ⟨gb276, 0, none⟩) (Kd.Z_types HO_7.out BK276.out (by decide)) (fun _ hk => hk.2) (.int .i64 ((rd_T152 l1 x30_2).f0))) (fun _ hk => hk.2) (.slice A275_1 ((rd_T152 l1 x30_2).f1).length c275_1)) (fun _ hk => hk.2) (.slice A275_2 ((rd_T152 l1 x30_2).f2).length c275_2)) (fun _ hk => trivial)⟩, ⟨by (with_reducible repeat (first | refine qn0 ?_ _ | refine qp0 ?_ | refine qo0 ?_ _)); refine qi1 (cs := #[.int .i64 ((rd_T152 l1 x30_2).f0), .slice A275_1 ((rd_T152 l1 x30_2).f1).length c275_1, .slice none 0 0]) ?_ 2 _ rfl; (with_reducible repeat (first | refine qn0 ?_ _ | refine qp0 ?_ | refine qo0 ?_ _)); refine qi1 (cs := #[.int .i64 ((rd_T152 l1 x30_2).f0), .slice none 0 0, .slice none 0 0]) ?_ 1 _ rfl; (with_reducible repeat (first | refine qn0 ?_ _ | refine qp0 ?_ | refine qo0 ?_ _)); refine qi1 (cs := #[.int .i64 0, .slice none 0 0, .slice none 0 0]) ?_ 0 _ rfl; (with_reducible repeat (first | refine qn0 ?_ _ | refine qp0 ?_ | refine qo0 ?_ _)); exact BK276.out⟩, ⟨by repeat (first | (with_reducible first | exact HB.out | apply qc0 | apply qa0 | apply qb0 | refine qi0 ?_ GE276.out) | exact HB.out)⟩⟩
       rw [if_neg c26] at H
       have c26b0 : (mget x7_2 ((rd_T152 l1 x30_2).f0)).getD false = false := by simpa using c26
       clear c26
       by_cases c29 : (((rd_T152 l1 x30_2).f1).length : Int) < 1
       ·rw [if_pos c29] at H
        have c29b0 : decide ((((rd_T152 l1 x30_2).f1).length : Int) < 1) = true := decide_eq_true c29
        have c29b1 : decide (((rd_T152 l1 x30_2).f1).length < 1) = true := decide_eq_true (by omega)
        clear c29
        have H' := Aside0.mk H
        clear H
        have hcz30_0 : w17.cell? ⟨gb276, 0, none⟩ = some (.int .i64 0) := (qg0 BK276.out 0).trans rfl
        have hcz30_1 : w17.cell? ⟨gb276, 1, none⟩ = some (.slice none 0 0) := (qg0 BK276.out 1).trans rfl
        have hcz30_2 : w17.cell? ⟨gb276, 2, none⟩ = some (.slice none 0 0) := (qg0 BK276.out 2).trans rfl
        have hfz30_0 := qh0 BK276.out 0
        have hfz30_1 := qh0 BK276.out 1
        have hfz30_2 := qh0 BK276.out 2
        obtain ⟨Ao31, co31, eo31⟩ := Kd.qy0 HO_6.out
        subst eo31
        go_wp2_with (first | ((with_reducible refine qa1 (N := 48) rfl ?_); (try (refine qw0 (by rfl) ?_; dsimp only)); refine Kd.Z_look_op (base := w.heap.size) (ok := fun _ => True) kz155 155 rfl rfl _ _ 155 rfl kz155_K kz155_inj kz155_t false kz155_z mb274 x7_2 ((rd_T152 l1 x30_2).f0) rfl rfl (kz155_key ((rd_T152 l1 x30_2).f0) LMc24.out LMc25.out) ?aO (.bool ((mget x7_2 ((rd_T152 l1 x30_2).f0)).getD false)) rfl ?_; (case aO => exact (by (with_reducible repeat (first | apply Kd.Z_alloc | apply Kd.Z_drewN | apply Kd.Z_drew)); exact (Kd.Z_mono (Kd.Z_far (p := ⟨gb276, 2, none⟩) (Kd.Z_far (p := ⟨gb276, 1, none⟩) (Kd.Z_far (p := ⟨gb276, 0, none⟩) (Kd.Z_types HO_7.out BK276.out (by decide)) (fun _ hk => hk.2) (.int .i64 ((rd_T152 l1 x30_2).f0))) (fun _ hk => hk.2) (.slice A275_1 ((rd_T152 l1 x30_2).f1).length c275_1)) (fun _ hk => hk.2) (.slice A275_2 ((rd_T152 l1 x30_2).f2).length c275_2)) (fun _ h_ => h_.1))))))
        go_meet
        case rel => exact ⟨_, (true), (by first | rfl | (simp; done) | (simp [*]; done)), H', ⟨by have := HJ2.out; have := HK2.out; first | omega | exact Nat.le_refl _⟩, ⟨by (with_reducible repeat (first | apply Kd.qe0 | apply Kd.qd0 | apply Kd.qf0)); exact Kd.qq0 (Kd.R_far (p := ⟨gb276, 2, none⟩) (Kd.R_far (p := ⟨gb276, 1, none⟩) (Kd.R_far (p := ⟨gb276, 0, none⟩) (Kd.qp1 HO_6.out BK276.out (by decide)) (fun _ hk => hk.2) (.int .i64 ((rd_T152 l1 x30_2).f0))) (fun _ hk => hk.2) (.slice A275_1 ((rd_T152 l1 x30_2).f1).length c275_1)) (fun _ hk => hk.2) (.slice A275_2 ((rd_T152 l1 x30_2).f2).length c275_2)) (fun _ hk => trivial)⟩, ⟨by (with_reducible repeat (first | apply Kd.Z_alloc | apply Kd.Z_drewN | apply Kd.Z_drew)); exact Kd.Z_mono (Kd.Z_far (p := ⟨gb276, 2, none⟩) (Kd.Z_far (p := ⟨gb276, 1, none⟩) (Kd.Z_far (p := ⟨gb276, 0, none⟩) (Kd.Z_types HO_7.out BK276.out (by decide)) (fun _ hk => hk.2) (.int .i64 ((rd_T152 l1 x30_2).f0))) (fun _ hk => hk.2) (.slice A275_1 ((rd_T152 l1 x30_2).f1).length c275_1)) (fun _ hk => hk.2) (.slice A275_2 ((rd_T152 l1 x30_2).f2).length c275_2)) (fun _ hk => trivial)⟩, ⟨by (with_reducible repeat (first | refine qn0 ?_ _ | refine qp0 ?_ | refine qo0 ?_ _)); refine qi1 (cs := #[.int .i64 ((rd_T152 l1 x30_2).f0), .slice A275_1 ((rd_T152 l1 x30_2).f1).length c275_1, .slice none 0 0]) ?_ 2 _ rfl; (with_reducible repeat (first | refine qn0 ?_ _ | refine qp0 ?_ | refine qo0 ?_ _)); refine qi1 (cs := #[.int .i64 ((rd_T152 l1 x30_2).f0), .slice none 0 0, .slice none 0 0]) ?_ 1 _ rfl; (with_reducible repeat (first | refine qn0 ?_ _ | refine qp0 ?_ | refine qo0 ?_ _)); refine qi1 (cs := #[.int .i64 0, .slice none 0 0, .slice none 0 0]) ?_ 0 _ rfl; (with_reducible repeat (first | refine qn0 ?_ _ | refine qp0 ?_ | refine qo0 ?_ _)); exact BK276.out⟩, ⟨by repeat (first | (with_reducible first | exact HB.out | apply qc0 | apply qa0 | apply qb0 | refine qi0 ?_ GE276.out) | exact HB.out)⟩⟩
       rw [if_neg c29] at H
       have c29b0 : decide ((((rd_T152 l1 x30_2).f1).length : Int) < 1) = false := decide_eq_false c29
       have c29b1 : decide (((rd_T152 l1 x30_2).f1).length < 1) = false := decide_eq_false (by omega)
       clear c29
       by_cases c32 : (((rd_T152 l1 x30_2).f1).length : Int) > 200
       ·rw [if_pos c32] at H
        have c32b0 : decide (200 < (((rd_T152 l1 x30_2).f1).length : Int)) = true := decide_eq_true c32
        have c32b1 : decide (200 < ((rd_T152 l1 x30_2).f1).length) = true := decide_eq_true (by omega)
        clear c32
        have H' := Aside0.mk H
        clear H
        have hcz33_0 : w17.cell? ⟨gb276, 0, none⟩ = some (.int .i64 0) := (qg0 BK276.out 0).trans rfl
        have hcz33_1 : w17.cell? ⟨gb276, 1, none⟩ = some (.slice none 0 0) := (qg0 BK276.out 1).trans rfl
        have hcz33_2 : w17.cell? ⟨gb276, 2, none⟩ = some (.slice none 0 0) := (qg0 BK276.out 2).trans rfl
        have hfz33_0 := qh0 BK276.out 0
        have hfz33_1 := qh0 BK276.out 1
        have hfz33_2 := qh0 BK276.out 2
        obtain ⟨Ao34, co34, eo34⟩ := Kd.qy0 HO_6.out
        subst eo34
        go_wp2_with (first | ((with_reducible refine qa1 (N := 48) rfl ?_); (try (refine qw0 (by rfl) ?_; dsimp only)); refine Kd.Z_look_op (base := w.heap.size) (ok := fun _ => True) kz155 155 rfl rfl _ _ 155 rfl kz155_K kz155_inj kz155_t false kz155_z mb274 x7_2 ((rd_T152 l1 x30_2).f0) rfl rfl (kz155_key ((rd_T152 l1 x30_2).f0) LMc24.out LMc25.out) ?aO (.bool ((mget x7_2 ((rd_T152 l1 x30_2).f0)).getD false)) rfl ?_; (case aO => exact (by (with_reducible repeat (first | apply Kd.Z_alloc | apply Kd.Z_drewN | apply Kd.Z_drew)); exact (Kd.Z_mono (Kd.Z_far (p := ⟨gb276, 2, none⟩) (Kd.Z_far (p := ⟨gb276, 1, none⟩) (Kd.Z_far (p := ⟨gb276, 0, none⟩) (Kd.Z_types HO_7.out BK276.out (by decide)) (fun _ hk => hk.2) (.int .i64 ((rd_T152 l1 x30_2).f0))) (fun _ hk => hk.2) (.slice A275_1 ((rd_T152 l1 x30_2).f1).length c275_1)) (fun _ hk => hk.2) (.slice A275_2 ((rd_T152 l1 x30_2).f2).length c275_2)) (fun _ h_ => h_.1))))))
        go_meet
        case rel => exact ⟨_, (true), (by first | rfl | (simp; done) | (simp [*]; done)), H', ⟨by have := HJ2.out; have := HK2.out; first | omega | exact Nat.le_refl _⟩, ⟨by (with_reducible repeat (first | apply Kd.qe0 | apply Kd.qd0 | apply Kd.qf0)); exact Kd.qq0 (Kd.R_far (p := ⟨gb276, 2, none⟩) (Kd.R_far (p := ⟨gb276, 1, none⟩) (Kd.R_far (p := ⟨gb276, 0, none⟩) (Kd.qp1 HO_6.out BK276.out (by decide)) (fun _ hk => hk.2) (.int .i64 ((rd_T152 l1 x30_2).f0))) (fun _ hk => hk.2) (.slice A275_1 ((rd_T152 l1 x30_2).f1).length c275_1)) (fun _ hk => hk.2) (.slice A275_2 ((rd_T152 l1 x30_2).f2).length c275_2)) (fun _ hk => trivial)⟩, ⟨by (with_reducible repeat (first | apply Kd.Z_alloc | apply Kd.Z_drewN | apply Kd.Z_drew)); exact Kd.Z_mono (Kd.Z_far (p := ⟨gb276, 2, none⟩) (Kd.Z_far (p := ⟨gb276, 1, none⟩) (Kd.Z_far (p := ⟨gb276, 0, none⟩) (Kd.Z_types HO_7.out BK276.out (by decide)) (fun _ hk => hk.2) (.int .i64 ((rd_T152 l1 x30_2).f0))) (fun _ hk => hk.2) (.slice A275_1 ((rd_T152 l1 x30_2).f1).length c275_1)) (fun _ hk => hk.2) (.slice A275_2 ((rd_T152 l1 x30_2).f2).length c275_2)) (fun _ hk => trivial)⟩, ⟨by (with_reducible repeat (first | refine qn0 ?_ _ | refine qp0 ?_ | refine qo0 ?_ _)); refine qi1 (cs := #[.int .i64 ((rd_T152 l1 x30_2).f0), .slice A275_1 ((rd_T152 l1 x30_2).f1).length c275_1, .slice none 0 0]) ?_ 2 _ rfl; (with_reducible repeat (first | refine qn0 ?_ _ | refine qp0 ?_ | refine qo0 ?_ _)); refine qi1 (cs := #[.int .i64 ((rd_T152 l1 x30_2).f0), .slice none 0 0, .slice none 0 0]) ?_ 1 _ rfl; (with_reducible repeat (first | refine qn0 ?_ _ | refine qp0 ?_ | refine qo0 ?_ _)); refine qi1 (cs := #[.int .i64 0, .slice none 0 0, .slice none 0 0]) ?_ 0 _ rfl; (with_reducible repeat (first | refine qn0 ?_ _ | refine qp0 ?_ | refine qo0 ?_ _)); exact BK276.out⟩, ⟨by repeat (first | (with_reducible first | exact HB.out | apply qc0 | apply qa0 | apply qb0 | refine qi0 ?_ GE276.out) | exact HB.out)⟩⟩
       rw [if_neg c32] at H
       have c32b0 : decide (200 < (((rd_T152 l1 x30_2).f1).length : Int)) = false := decide_eq_false c32
       have c32b1 : decide (200 < ((rd_T152 l1 x30_2).f1).length) = false := decide_eq_false (by omega)
       clear c32
       have H' := Aside0.mk H
       clear H
       have hcz35_0 : w17.cell? ⟨gb276, 0, none⟩ = some (.int .i64 0) := (qg0 BK276.out 0).trans rfl
       have hcz35_1 : w17.cell? ⟨gb276, 1, none⟩ = some (.slice none 0 0) := (qg0 BK276.out 1).trans rfl
       have hcz35_2 : w17.cell? ⟨gb276, 2, none⟩ = some (.slice none 0 0) := (qg0 BK276.out 2).trans rfl
       have hfz35_0 := qh0 BK276.out 0
       have hfz35_1 := qh0 BK276.out 1
       have hfz35_2 := qh0 BK276.out 2
       obtain ⟨Ao36, co36, eo36⟩ := Kd.qy0 HO_6.out
       subst eo36
       go_wp2_with (first | ((with_reducible refine qa1 (N := 48) rfl ?_); (try (refine qw0 (by rfl) ?_; dsimp only)); refine Kd.Z_look_op (base := w.heap.size) (ok := fun _ => True) kz155 155 rfl rfl _ _ 155 rfl kz155_K kz155_inj kz155_t false kz155_z mb274 x7_2 ((rd_T152 l1 x30_2).f0) rfl rfl (kz155_key ((rd_T152 l1 x30_2).f0) LMc24.out LMc25.out) ?aO (.bool ((mget x7_2 ((rd_T152 l1 x30_2).f0)).getD false)) rfl ?_; (case aO => exact (by (with_reducible repeat (first | apply Kd.Z_alloc | apply Kd.Z_drewN | apply Kd.Z_drew)); exact (Kd.Z_mono (Kd.Z_far (p := ⟨gb276, 2, none⟩) (Kd.Z_far (p := ⟨gb276, 1, none⟩) (Kd.Z_far (p := ⟨gb276, 0, none⟩) (Kd.Z_types HO_7.out BK276.out (by decide)) (fun _ hk => hk.2) (.int .i64 ((rd_T152 l1 x30_2).f0))) (fun _ hk => hk.2) (.slice A275_1 ((rd_T152 l1 x30_2).f1).length c275_1)) (fun _ hk => hk.2) (.slice A275_2 ((rd_T152 l1 x30_2).f2).length c275_2)) (fun _ h_ => h_.1))))))
       go_meet
       case rel => exact ⟨_, (((((rd_T152 l1 x30_2).f2).length : Int) != (((rd_T152 l1 x30_2).f1).length : Int))), (by first | rfl | (simp; done) | (simp [*]; done)), H', ⟨by have := HJ2.out; have := HK2.out; first | omega | exact Nat.le_refl _⟩, ⟨by (with_reducible repeat (first | apply Kd.qe0 | apply Kd.qd0 | apply Kd.qf0)); exact Kd.qq0 (Kd.R_far (p := ⟨gb276, 2, none⟩) (Kd.R_far (p := ⟨gb276, 1, none⟩) (Kd.R_far (p := ⟨gb276, 0, none⟩) (Kd.qp1 HO_6.out BK276.out (by decide)) (fun _ hk => hk.2) (.int .i64 ((rd_T152 l1 x30_2).f0))) (fun _ hk => hk.2) (.slice A275_1 ((rd_T152 l1 x30_2).f1).length c275_1)) (fun _ hk => hk.2) (.slice A275_2 ((rd_T152 l1 x30_2).f2).length c275_2)) (fun _ hk => trivial)⟩, ⟨by (with_reducible repeat (first | apply Kd.Z_alloc | apply Kd.Z_drewN | apply Kd.Z_drew)); exact Kd.Z_mono (Kd.Z_far (p := ⟨gb276, 2, none⟩) (Kd.Z_far (p := ⟨gb276, 1, none⟩) (Kd.Z_far (p := ⟨gb276, 0, none⟩) (Kd.Z_types HO_7.out BK276.out (by decide)) (fun _ hk => hk.2) (.int .i64 ((rd_T152 l1 x30_2).f0))) (fun _ hk => hk.2) (.slice A275_1 ((rd_T152 l1 x30_2).f1).length c275_1)) (fun _ hk => hk.2) (.slice A275_2 ((rd_T152 l1 x30_2).f2).length c275_2)) (fun _ hk => trivial)⟩, ⟨by (with_reducible repeat (first | refine qn0 ?_ _ | refine qp0 ?_ | refine qo0 ?_ _)); refine qi1 (cs := #[.int .i64 ((rd_T152 l1 x30_2).f0), .slice A275_1 ((rd_T152 l1 x30_2).f1).length c275_1, .slice none 0 0]) ?_ 2 _ rfl; (with_reducible repeat (first | refine qn0 ?_ _ | refine qp0 ?_ | refine qo0 ?_ _)); refine qi1 (cs := #[.int .i64 ((rd_T152 l1 x30_2).f0), .slice none 0 0, .slice none 0 0]) ?_ 1 _ rfl; (with_reducible repeat (first | refine qn0 ?_ _ | refine qp0 ?_ | refine qo0 ?_ _)); refine qi1 (cs := #[.int .i64 0, .slice none 0 0, .slice none 0 0]) ?_ 0 _ rfl; (with_reducible repeat (first | refine qn0 ?_ _ | refine qp0 ?_ | refine qo0 ?_ _)); exact BK276.out⟩, ⟨by repeat (first | (with_reducible first | exact HB.out | apply qc0 | apply qa0 | apply qb0 | refine qi0 ?_ GE276.out) | exact HB.out)⟩⟩
      case rest =>
       clear HC16
       try clear c1
       try clear c2
       try clear p2
       try clear q2
       try clear hx2
       try clear c3
       try clear c4
       try clear c5
       try clear c6
       try clear c7
       try clear c11
       try clear c13
       try clear c13b0
       try clear c14
       try clear c14b0
       try clear c15
       try clear c15b0
       try clear c19
       try clear c19b0
       try clear c21
       try clear c21b0
       try clear c24
       try clear c25
       try clear c26
       try clear c26b0
       try clear c27
       try clear p27
       try clear q27
       try clear hx27
       try clear c29
       try clear c29b0
       try clear c29b1
       try clear c32
       try clear c32b0
       try clear c32b1
       try clear hcz18_0
       try clear hcz18_1
       try clear hcz18_2
       try clear hcz20_0
       try clear hcz20_1
       try clear hcz20_2
       try clear hcz22_0
       try clear hcz22_1
       try clear hcz22_2
       try clear hcz27_0
       try clear hcz27_1
       try clear hcz27_2
       try clear hcz30_0
       try clear hcz30_1
       try clear hcz30_2
       try clear hcz33_0
       try clear hcz33_1
       try clear hcz33_2
       try clear hcz35_0
       try clear hcz35_1
       try clear hcz35_2
       try clear hfz18_0
       try clear hfz18_1
       try clear hfz18_2
       try clear hfz20_0
       try clear hfz20_1
       try clear hfz20_2
       try clear hfz22_0
       try clear hfz22_1
       try clear hfz22_2
       try clear hfz27_0
       try clear hfz27_1
       try clear hfz27_2
       try clear hfz30_0
       try clear hfz30_1
       try clear hfz30_2
       try clear hfz33_0
       try clear hfz33_1
       try clear hfz33_2
       try clear hfz35_0
       try clear hfz35_1
       try clear hfz35_2
       try clear hx275_0
       try clear hx275_1
       try clear hx275_2
       try clear p2
       try clear p275
       try clear q275
       obtain ⟨kq, x70_15, rfl, HA, HJ15, HO_6, HO_7, BK276, HB⟩ := hcut
       cases kq with
       | zero => exact absurd HA.out (by simp [impl_StepDown.j2])
       | succ kj15 =>
        have H := HA.out
        clear HA
        simp only [impl_StepDown.j2] at H
        by_cases c37 : x70_15 = true
        ·subst c37
         have H1 : (some (([] : List Int), false)) = some (r1, r2) := by rw [if_pos rfl] at H; exact H
         clear H
         have H := H1
         clear H1
         simp only [Option.some.injEq, Prod.mk.injEq] at H
         obtain ⟨rfl, rfl⟩ := H
         go_wp2
         go_ret2
         exact ⟨_, by first | rfl | (simp [errW_none, errW_some] <;> rfl) | (simp [*, errW_none, errW_some] <;> rfl), by first | exact Kd.R_nil _ _ _ _ _ | exact Kd.N_nil _ _ _ _ _ | exact Kd.V_nil _ _ _ _ _ | exact Kd.Q_nil _ _ _ _ _ | exact Kd.S_nil _ _ _ _ _, by repeat (first | (with_reducible first | exact HB.out | apply qc0 | apply qa0 | apply qb0 | refine qi0 ?_ GE276.out) | exact HB.out)⟩
        replace c37 := Bool.eq_false_iff.mpr c37
        subst c37
        have H1 : (if (-9223372036854775808) ≤ ((rd_T152 l1 x30_2).f0) then (if ((rd_T152 l1 x30_2).f0) ≤ 9223372036854775807 then (impl_StepDown.l1 kj15 x6_2 (mset x7_2 ((rd_T152 l1 x30_2).f0) true) (([] : List (Int × Bool))) l1 (l1.length : Int) x30_2 ((rd_T152 l1 x30_2).f1) (((rd_T152 l1 x30_2).f1).length : Int) 0 ((rd_T152 l1 x30_2).f0) ((rd_T152 l1 x30_2).f1) ((rd_T152 l1 x30_2).f2)) else (none)) else (none)) = some (r1, r2) := by rw [if_neg (show ¬ (false = true) by decide)] at H; exact H
        clear H
        have H := H1
        clear H1
        by_cases c38 : (-9223372036854775808) ≤ ((rd_T152 l1 x30_2).f0)
        case neg => rw [if_neg c38] at H; exact absurd H (by simp)
        rw [if_pos c38] at H
        have LMc38 := Aside0.mk c38
        clear c38
        by_cases c39 : ((rd_T152 l1 x30_2).f0) ≤ 9223372036854775807
        case neg => rw [if_neg c39] at H; exact absurd H (by simp)
        rw [if_pos c39] at H
        have LMc39 := Aside0.mk c39
        clear c39
        obtain ⟨y277, hy277⟩ : ∃ y_ : List (Int × Bool), y_ = (mset x7_2 ((rd_T152 l1 x30_2).f0) true) := ⟨_, rfl⟩
        replace H : (impl_StepDown.l1 kj15 x6_2 y277 (([] : List (Int × Bool))) l1 (l1.length : Int) x30_2 ((rd_T152 l1 x30_2).f1) (((rd_T152 l1 x30_2).f1).length : Int) 0 ((rd_T152 l1 x30_2).f0) ((rd_T152 l1 x30_2).f1) ((rd_T152 l1 x30_2).f2)) = some (r1, r2) := by first | (rw [hy277]; with_reducible exact H) | (have H2_ := (Option.bind_some _ _).symm.trans H; rw [hy277]; with_reducible exact H2_) | (have H2_ := (Option.bind_some _ _).symm.trans H; with_reducible exact H2_) | with_reducible exact H | (rw [hy277]; exact H) | exact H
        have Ny277 := Aside0.mk hy277
        clear hy277
        obtain ⟨y278, hy278⟩ : ∃ y_ : List (Int × Bool), y_ = (([] : List (Int × Bool))) := ⟨_, rfl⟩
        replace H : (impl_StepDown.l1 kj15 x6_2 y277 y278 l1 (l1.length : Int) x30_2 ((rd_T152 l1 x30_2).f1) (((rd_T152 l1 x30_2).f1).length : Int) 0 ((rd_T152 l1 x30_2).f0) ((rd_T152 l1 x30_2).f1) ((rd_T152 l1 x30_2).f2)) = some (r1, r2) := by first | (rw [hy278]; with_reducible exact H) | (have H2_ := (Option.bind_some _ _).symm.trans H; rw [hy278]; with_reducible exact H2_) | (have H2_ := (Option.bind_some _ _).symm.trans H; with_reducible exact H2_) | with_reducible exact H | (rw [hy278]; exact H) | exact H
        have Ny278 := Aside0.mk hy278
        clear hy278
        have H' := Aside0.mk H
        clear H
        have hcz40_0 : wc.cell? ⟨gb276, 0, none⟩ = some (.int .i64 ((rd_T152 l1 x30_2).f0)) := (qg0 BK276.out 0).trans rfl
        have hcz40_1 : wc.cell? ⟨gb276, 1, none⟩ = some (.slice A275_1 ((rd_T152 l1 x30_2).f1).length c275_1) := (qg0 BK276.out 1).trans rfl
        have hcz40_2 : wc.cell? ⟨gb276, 2, none⟩ = some (.slice A275_2 ((rd_T152 l1 x30_2).f2).length c275_2) := (qg0 BK276.out 2).trans rfl
        have hfz40_0 := qh0 BK276.out 0
        have hfz40_1 := qh0 BK276.out 1
        have hfz40_2 := qh0 BK276.out 2
        go_wp2_with (first | ((with_reducible refine gate_mapset (t := 155) rfl ?_); refine Kd.Z_set_op (base := w.heap.size) (ok := fun _ => True) kz155 155 rfl rfl _ _ _ 155 rfl rfl kz155_K kz155_inj kz155_t mb274 x7_2 ((rd_T152 l1 x30_2).f0) true rfl rfl rfl (kz155_key ((rd_T152 l1 x30_2).f0) LMc38.out LMc39.out) ?aO ?_; (case aO => exact (by (with_reducible repeat (first | apply Kd.Z_alloc | apply Kd.Z_drewN | apply Kd.Z_drew)); exact HO_7.out)); intro w41 ho_ hg hbb_ hz_; rw [← Ny277.out] at ho_; have n0_ := Aside0.mk (Kd.R_overZ (by (with_reducible repeat (first | apply Kd.qe0 | apply Kd.qd0 | apply Kd.qf0)); exact HO_6.out) hz_ hg); have n1_ := Aside0.mk (ho_); have n2_ := Aside0.mk (blk_grown (g := gb276) (o := .cells #[.int .i64 ((rd_T152 l1 x30_2).f0), .slice A275_1 ((rd_T152 l1 x30_2).f1).length c275_1, .slice A275_2 ((rd_T152 l1 x30_2).f2).length c275_2] 152 (0, 0)) (by (with_reducible repeat (first | refine qn0 ?_ _ | refine qp0 ?_ | refine qo0 ?_ _)); exact BK276.out) hg (blk_neZ (by (with_reducible repeat (first | refine qn0 ?_ _ | refine qp0 ?_ | refine qo0 ?_ _)); exact BK276.out) hz_)); have n3_ := Aside0.mk (pw_below_grown (by repeat (first | (with_reducible first | exact HB.out | apply qc0 | apply qa0 | apply qb0 | refine qi0 ?_ GE276.out) | exact HB.out)) (some mb274) (qm0 (by repeat (first | (with_reducible first | exact HB.out | apply qc0 | apply qa0 | apply qb0 | refine qi0 ?_ GE276.out) | exact HB.out))) hg (fun k_ e_ => by cases e_; exact hbb_)); clear HO_6; clear HO_7; clear BK276; clear HB; have HO_6 := n0_; have HO_7 := n1_; have BK276 := n2_; have HB := n3_; clear n0_ n1_ n2_ n3_; clear ho_ hg hbb_ hz_) | ((with_reducible refine qa1 (N := 74) rfl ?_); (try (refine qw0 (by rfl) ?_; dsimp only)); refine Kd.Z_make_op kz155 155 (ok := fun _ => True) rfl (N := 74) rfl rfl trivial ?_; intro mb281 hq_ w42 ho43 hb; rw [← Ny278.out] at ho43; have n0_ := Aside0.mk (Kd.qf1 (by (with_reducible repeat (first | apply Kd.qe0 | apply Kd.qd0 | apply Kd.qf0)); exact HO_6.out) hb); have n1_ := Aside0.mk (Kd.Z_below (by (with_reducible repeat (first | apply Kd.Z_alloc | apply Kd.Z_drewN | apply Kd.Z_drew)); exact HO_7.out) hb); have n2_ := Aside0.mk (blk_below (g := gb276) (o := .cells #[.int .i64 ((rd_T152 l1 x30_2).f0), .slice A275_1 ((rd_T152 l1 x30_2).f1).length c275_1, .slice A275_2 ((rd_T152 l1 x30_2).f2).length c275_2] 152 (0, 0)) (by (with_reducible repeat (first | refine qn0 ?_ _ | refine qp0 ?_ | refine qo0 ?_ _)); exact BK276.out) hb); have n3_ := Aside0.mk (qr0 (by repeat (first | (with_reducible first | exact HB.out | apply qc0 | apply qa0 | apply qb0 | refine qi0 ?_ GE276.out) | exact HB.out)) hb); have n4_ := Aside0.mk (Kd.Z_lower ho43 (qm0 (by repeat (first | (with_reducible first | exact HB.out | apply qc0 | apply qa0 | apply qb0 | refine qi0 ?_ GE276.out) | exact HB.out)))); have n5_ := Aside0.mk ((by rw [hq_]; exact Nat.ne_of_lt (Kd.Z_lt (show Kd.Z kz155 155 _ _ _ (.map (some mb274)) y277 from by (with_reducible repeat (first | apply Kd.Z_alloc | apply Kd.Z_drewN | apply Kd.Z_drew)); exact HO_7.out)) : mb274 ≠ mb281)); have n6_ := Aside0.mk ((by rw [hq_]; exact Nat.ne_of_gt (Kd.Z_lt (show Kd.Z kz155 155 _ _ _ (.map (some mb274)) y277 from by (with_reducible repeat (first | apply Kd.Z_alloc | apply Kd.Z_drewN | apply Kd.Z_drew)); exact HO_7.out)) : mb281 ≠ mb274)); clear HO_6; clear HO_7; clear BK276; clear HB; have HO_6 := n0_; have HO_7 := n1_; have BK276 := n2_; have HB := n3_; have HO280 := n4_; have HZmb274_mb281 := n5_; have HZmb281_mb274 := n6_; clear n0_ n1_ n2_ n3_ n4_ n5_ n6_; clear hb ho43 hq_; have hcz44_0 : w42.cell? ⟨gb276, 0, none⟩ = some (.int .i64 ((rd_T152 l1 x30_2).f0)) := (qg0 BK276.out 0).trans rfl; have hcz44_1 : w42.cell? ⟨gb276, 1, none⟩ = some (.slice A275_1 ((rd_T152 l1 x30_2).f1).length c275_1) := (qg0 BK276.out 1).trans rfl; have hcz44_2 : w42.cell? ⟨gb276, 2, none⟩ = some (.slice A275_2 ((rd_T152 l1 x30_2).f2).length c275_2) := (qg0 BK276.out 2).trans rfl; have hfz44_0 := qh0 BK276.out 0; have hfz44_1 := qh0 BK276.out 1; have hfz44_2 := qh0 BK276.out 2))
        (try simp only [add_plain])
        go_loopg [78] kj15 (fun kq v78 w' => ∃ (x10_4 : List (Int × Bool)) (x78_4 : Int), v78 = .int .i64 x78_4 ∧ Aside0 (impl_StepDown.l1 kq x6_2 y277 x10_4 l1 (l1.length : Int) x30_2 ((rd_T152 l1 x30_2).f1) (((rd_T152 l1 x30_2).f1).length : Int) x78_4 ((rd_T152 l1 x30_2).f0) ((rd_T152 l1 x30_2).f1) ((rd_T152 l1 x30_2).f2) = some (r1, r2)) ∧ Aside0 (kq ≤ kj15) ∧ Aside0 (Kd.R (Kd.int .i64) 3 w' w.heap.size (fun _ => True) v269 x6_2) ∧ Aside0 (Kd.Z kz155 155 w' w.heap.size (fun _ => True) (.map (some mb274)) y277) ∧ Aside0 (Kd.Z kz155 155 w' w.heap.size (fun _ => True) (.map (some mb281)) x10_4) ∧ Aside0 (w'.heap[gb276]? = some (.cells #[.int .i64 ((rd_T152 l1 x30_2).f0), (.slice A275_1 ((rd_T152 l1 x30_2).f1).length c275_1), (.slice A275_2 ((rd_T152 l1 x30_2).f2).length c275_2)] 152 (0, 0))) ∧ Aside0 (Below w.heap.size w w'))
        case atStart => exact ⟨(y278), (0), (by first | rfl | (simp; done) | (simp [*]; done)), H', ⟨Nat.le_refl _⟩, ⟨by (with_reducible repeat (first | apply Kd.qe0 | apply Kd.qd0 | apply Kd.qf0)); exact HO_6.out⟩, ⟨by (with_reducible repeat (first | apply Kd.Z_alloc | apply Kd.Z_drewN | apply Kd.Z_drew)); exact HO_7.out⟩, ⟨by (with_reducible repeat (first | apply Kd.Z_alloc | apply Kd.Z_drewN | apply Kd.Z_drew)); exact HO280.out⟩, ⟨by (with_reducible repeat (first | refine qn0 ?_ _ | refine qp0 ?_ | refine qo0 ?_ _)); exact BK276.out⟩, ⟨by repeat (first | (with_reducible first | exact HB.out | apply qc0 | apply qa0 | apply qb0 | refine qi0 ?_ GE276.out) | exact HB.out)⟩⟩
        case round =>
         clear H'
         try clear c1
         try clear c2
         try clear p2
         try clear q2
         try clear hx2
         try clear c3
         try clear c4
         try clear c5
         try clear c6
         try clear c7
         try clear c11
         try clear c13
         try clear c13b0
         try clear c14
         try clear c14b0
         try clear c15
         try clear c15b0
         try clear c19
         try clear c19b0
         try clear c21
         try clear c21b0
         try clear c24
         try clear c25
         try clear c26
         try clear c26b0
         try clear c27
         try clear p27
         try clear q27
         try clear hx27
         try clear c29
         try clear c29b0
         try clear c29b1
         try clear c32
         try clear c32b0
         try clear c32b1
         try clear c37
         try clear c38
         try clear c39
         try clear hcz18_0
         try clear hcz18_1
         try clear hcz18_2
         try clear hcz20_0
         try clear hcz20_1
         try clear hcz20_2
         try clear hcz22_0
         try clear hcz22_1
         try clear hcz22_2
         try clear hcz27_0
         try clear hcz27_1
         try clear hcz27_2
         try clear hcz30_0
         try clear hcz30_1
         try clear hcz30_2
         try clear hcz33_0
         try clear hcz33_1
         try clear hcz33_2
         try clear hcz35_0
         try clear hcz35_1
         try clear hcz35_2
         try clear hcz40_0
         try clear hcz40_1
         try clear hcz40_2
         try clear hcz44_0
         try clear hcz44_1
         try clear hcz44_2
         try clear hfz18_0
         try clear hfz18_1
         try clear hfz18_2
         try clear hfz20_0
         try clear hfz20_1
         try clear hfz20_2
         try clear hfz22_0
         try clear hfz22_1
         try clear hfz22_2
         try clear hfz27_0
         try clear hfz27_1
         try clear hfz27_2
         try clear hfz30_0
         try clear hfz30_1
         try clear hfz30_2
         try clear hfz33_0
         try clear hfz33_1
         try clear hfz33_2
         try clear hfz35_0
         try clear hfz35_1
         try clear hfz35_2
         try clear hfz40_0
         try clear hfz40_1
         try clear hfz40_2
         try clear hfz44_0
         try clear hfz44_1
         try clear hfz44_2
         try clear hx275_0
         try clear hx275_1
         try clear hx275_2
         try clear p2
         try clear p27
         try clear p275
         try clear q2
         try clear q27
         try clear q275
         obtain ⟨x10_4, x78_4, rfl, HA, HK4, HO_6, HO_7, HO_10, BK276, HB⟩ := hrel
         cases gk with
         | zero => exact absurd HA.out (by simp [impl_StepDown.l1])
         | succ k4 =>
          have H := HA.out
          clear HA
          simp only [impl_StepDown.l1] at H
          by_cases c45 : x78_4 < (((rd_T152 l1 x30_2).f1).length : Int)
          ·rw [if_pos c45] at H
           have c45b0 : decide (x78_4 < (((rd_T152 l1 x30_2).f1).length : Int)) = true := decide_eq_true c45
           clear c45
           by_cases c46 : 0 ≤ x78_4
           case neg => rw [if_neg c46] at H; exact absurd H (by simp)
           rw [if_pos c46] at H
           have c46b0 : decide (0 ≤ x78_4) = true := decide_eq_true c46
           clear c46
           by_cases c47 : x78_4 < (((rd_T152 l1 x30_2).f1).length : Int)
           case neg => rw [if_neg c47] at H; exact absurd H (by simp)
           rw [if_pos c47] at H
           have c47b0 : decide (x78_4 < (((rd_T152 l1 x30_2).f1).length : Int)) = true := decide_eq_true c47
           clear c47
           by_cases c48 : (rd ((rd_T152 l1 x30_2).f1) x78_4) < 0
           ·rw [if_pos c48] at H
            have c48b0 : decide ((rd ((rd_T152 l1 x30_2).f1) x78_4) < 0) = true := decide_eq_true c48
            clear c48
            simp only [Option.some.injEq, Prod.mk.injEq] at H
            obtain ⟨rfl, rfl⟩ := H
            have p282 : 0 ≤ (x78_4 : Int) := of_decide_eq_true (by first | (with_reducible assumption) | assumption)
            have q282 : x78_4 < (((rd_T152 l1 x30_2).f1).length : Int) := of_decide_eq_true (by first | (with_reducible assumption) | assumption)
            obtain ⟨ad282, e282, hx282_0⟩ := Kd.at_int HR275_1.out x78_4 p282 q282
            cases e282
            replace hx282_0 := (HB.out.cell (World.block_lt_of_cell? w _ hx282_0)).trans hx282_0
            replace p282 := eq_true p282
            replace q282 := eq_true q282
            go_wp2
            go_ret2
            exact ⟨_, by first | rfl | (simp [errW_none, errW_some] <;> rfl) | (simp [*, errW_none, errW_some] <;> rfl), by first | exact Kd.R_nil _ _ _ _ _ | exact Kd.N_nil _ _ _ _ _ | exact Kd.V_nil _ _ _ _ _ | exact Kd.Q_nil _ _ _ _ _ | exact Kd.S_nil _ _ _ _ _, by repeat (first | (with_reducible first | exact HB.out | apply qc0 | apply qa0 | apply qb0 | refine qi0 ?_ GE276.out) | exact HB.out)⟩
           rw [if_neg c48] at H
           have c48b0 : decide ((rd ((rd_T152 l1 x30_2).f1) x78_4) < 0) = false := decide_eq_false c48
           clear c48
           by_cases c49 : (rd ((rd_T152 l1 x30_2).f1) x78_4) ≥ (x6_2.length : Int)
           ·rw [if_pos c49] at H
            have c49b0 : decide ((x6_2.length : Int) ≤ (rd ((rd_T152 l1 x30_2).f1) x78_4)) = true := decide_eq_true c49
            clear c49
            simp only [Option.some.injEq, Prod.mk.injEq] at H
            obtain ⟨rfl, rfl⟩ := H
            have p282 : 0 ≤ (x78_4 : Int) := of_decide_eq_true (by first | (with_reducible assumption) | assumption)
            have q282 : x78_4 < (((rd_T152 l1 x30_2).f1).length : Int) := of_decide_eq_true (by first | (with_reducible assumption) | assumption)
            obtain ⟨ad282, e282, hx282_0⟩ := Kd.at_int HR275_1.out x78_4 p282 q282
            cases e282
            replace hx282_0 := (HB.out.cell (World.block_lt_of_cell? w _ hx282_0)).trans hx282_0
            replace p282 := eq_true p282
            replace q282 := eq_true q282
            obtain ⟨Ao50, co50, eo50⟩ := Kd.qy0 HO_6.out
            subst eo50
            go_wp2
            go_ret2
            exact ⟨_, by first | rfl | (simp [errW_none, errW_some] <;> rfl) | (simp [*, errW_none, errW_some] <;> rfl), by first | exact Kd.R_nil _ _ _ _ _ | exact Kd.N_nil _ _ _ _ _ | exact Kd.V_nil _ _ _ _ _ | exact Kd.Q_nil _ _ _ _ _ | exact Kd.S_nil _ _ _ _ _, by repeat (first | (with_reducible first | exact HB.out | apply qc0 | apply qa0 | apply qb0 | refine qi0 ?_ GE276.out) | exact HB.out)⟩
           rw [if_neg c49] at H
           have c49b0 : decide ((x6_2.length : Int) ≤ (rd ((rd_T152 l1 x30_2).f1) x78_4)) = false := decide_eq_false c49
           clear c49
           by_cases c51 : (-9223372036854775808) ≤ (rd ((rd_T152 l1 x30_2).f1) x78_4)
           case neg => rw [if_neg c51] at H; exact absurd H (by simp)
           rw [if_pos c51] at H
           have LMc51 := Aside0.mk c51
           clear c51
           by_cases c52 : (rd ((rd_T152 l1 x30_2).f1) x78_4) ≤ 9223372036854775807
           case neg => rw [if_neg c52] at H; exact absurd H (by simp)
           rw [if_pos c52] at H
           have LMc52 := Aside0.mk c52
           clear c52
           by_cases c53 : (mget x10_4 (rd ((rd_T152 l1 x30_2).f1) x78_4)).getD false = true
           ·rw [if_pos c53] at H
            have c53b0 : (mget x10_4 (rd ((rd_T152 l1 x30_2).f1) x78_4)).getD false = true := c53
            clear c53
            simp only [Option.some.injEq, Prod.mk.injEq] at H
            obtain ⟨rfl, rfl⟩ := H
            have p282 : 0 ≤ (x78_4 : Int) := of_decide_eq_true (by first | (with_reducible assumption) | assumption)
            have q282 : x78_4 < (((rd_T152 l1 x30_2).f1).length : Int) := of_decide_eq_true (by first | (with_reducible assumption) | assumption)
            obtain ⟨ad282, e282, hx282_0⟩ := Kd.at_int HR275_1.out x78_4 p282 q282
            cases e282
            replace hx282_0 := (HB.out.cell (World.block_lt_of_cell? w _ hx282_0)).trans hx282_0
            replace p282 := eq_true p282
            replace q282 := eq_true q282
            obtain ⟨Ao54, co54, eo54⟩ := Kd.qy0 HO_6.out
            subst eo54
            go_wp2_with (first | ((with_reducible refine qa1 (N := 93) rfl ?_); (try (refine qw0 (by rfl) ?_; dsimp only)); refine Kd.Z_look_op (base := w.heap.size) (ok := fun _ => True) kz155 155 rfl rfl _ _ 155 rfl kz155_K kz155_inj kz155_t false kz155_z mb281 x10_4 (rd ((rd_T152 l1 x30_2).f1) x78_4) rfl rfl (kz155_key (rd ((rd_T152 l1 x30_2).f1) x78_4) LMc51.out LMc52.out) ?aO (.bool ((mget x10_4 (rd ((rd_T152 l1 x30_2).f1) x78_4)).getD false)) rfl ?_; (case aO => exact (by (with_reducible repeat (first | apply Kd.Z_alloc | apply Kd.Z_drewN | apply Kd.Z_drew)); exact HO_10.out))))
            go_ret2
            exact ⟨_, by first | rfl | (simp [errW_none, errW_some] <;> rfl) | (simp [*, errW_none, errW_some] <;> rfl), by first | exact Kd.R_nil _ _ _ _ _ | exact Kd.N_nil _ _ _ _ _ | exact Kd.V_nil _ _ _ _ _ | exact Kd.Q_nil _ _ _ _ _ | exact Kd.S_nil _ _ _ _ _, by repeat (first | (with_reducible first | exact HB.out | apply qc0 | apply qa0 | apply qb0 | refine qi0 ?_ GE276.out) | exact HB.out)⟩
           rw [if_neg c53] at H
           have c53b0 : (mget x10_4 (rd ((rd_T152 l1 x30_2).f1) x78_4)).getD false = false := by simpa using c53
           clear c53
           by_cases c55 : (mget y277 (rd ((rd_T152 l1 x30_2).f1) x78_4)).getD false = true
           ·rw [if_pos c55] at H
            have c55b0 : (mget y277 (rd ((rd_T152 l1 x30_2).f1) x78_4)).getD false = true := c55
            clear c55
            simp only [Option.some.injEq, Prod.mk.injEq] at H
            obtain ⟨rfl, rfl⟩ := H
            have p282 : 0 ≤ (x78_4 : Int) := of_decide_eq_true (by first | (with_reducible assumption) | assumption)
            have q282 : x78_4 < (((rd_T152 l1 x30_2).f1).length : Int) := of_decide_eq_true (by first | (with_reducible assumption) | assumption)
            obtain ⟨ad282, e282, hx282_0⟩ := Kd.at_int HR275_1.out x78_4 p282 q282
            cases e282
            replace hx282_0 := (HB.out.cell (World.block_lt_of_cell? w _ hx282_0)).trans hx282_0
            replace p282 := eq_true p282
            replace q282 := eq_true q282
            obtain ⟨Ao56, co56, eo56⟩ := Kd.qy0 HO_6.out
            subst eo56
            go_wp2_with (first | ((with_reducible refine qa1 (N := 93) rfl ?_); (try (refine qw0 (by rfl) ?_; dsimp only)); refine Kd.Z_look_op (base := w.heap.size) (ok := fun _ => True) kz155 155 rfl rfl _ _ 155 rfl kz155_K kz155_inj kz155_t false kz155_z mb281 x10_4 (rd ((rd_T152 l1 x30_2).f1) x78_4) rfl rfl (kz155_key (rd ((rd_T152 l1 x30_2).f1) x78_4) LMc51.out LMc52.out) ?aO (.bool ((mget x10_4 (rd ((rd_T152 l1 x30_2).f1) x78_4)).getD false)) rfl ?_; (case aO => exact (by (with_reducible repeat (first | apply Kd.Z_alloc | apply Kd.Z_drewN | apply Kd.Z_drew)); exact HO_10.out))) | ((with_reducible refine qa1 (N := 98) rfl ?_); (try (refine qw0 (by rfl) ?_; dsimp only)); refine Kd.Z_look_op (base := w.heap.size) (ok := fun _ => True) kz155 155 rfl rfl _ _ 155 rfl kz155_K kz155_inj kz155_t false kz155_z mb274 y277 (rd ((rd_T152 l1 x30_2).f1) x78_4) rfl rfl (kz155_key (rd ((rd_T152 l1 x30_2).f1) x78_4) LMc51.out LMc52.out) ?aO (.bool ((mget y277 (rd ((rd_T152 l1 x30_2).f1) x78_4)).getD false)) rfl ?_; (case aO => exact (by (with_reducible repeat (first | apply Kd.Z_alloc | apply Kd.Z_drewN | apply Kd.Z_drew)); exact HO_7.out))))
            go_ret2
            exact ⟨_, by first | rfl | (simp [errW_none, errW_some] <;> rfl) | (simp [*, errW_none, errW_some] <;> rfl), by first | exact Kd.R_nil _ _ _ _ _ | exact Kd.N_nil _ _ _ _ _ | exact Kd.V_nil _ _ _ _ _ | exact Kd.Q_nil _ _ _ _ _ | exact Kd.S_nil _ _ _ _ _, by repeat (first | (with_reducible first | exact HB.out | apply qc0 | apply qa0 | apply qb0 | refine qi0 ?_ GE276.out) | exact HB.out)⟩
           rw [if_neg c55] at H
           have c55b0 : (mget y277 (rd ((rd_T152 l1 x30_2).f1) x78_4)).getD false = false := by simpa using c55
           clear c55
           obtain ⟨y283, hy283⟩ : ∃ y_ : List (Int × Bool), y_ = (mset x10_4 (rd ((rd_T152 l1 x30_2).f1) x78_4) true) := ⟨_, rfl⟩
           replace H : (impl_StepDown.l1 k4 x6_2 y277 y283 l1 (l1.length : Int) x30_2 ((rd_T152 l1 x30_2).f1) (((rd_T152 l1 x30_2).f1).length : Int) (wrap64 (x78_4 + 1)) ((rd_T152 l1 x30_2).f0) ((rd_T152 l1 x30_2).f1) ((rd_T152 l1 x30_2).f2)) = some (r1, r2) := by first | (rw [hy283]; with_reducible exact H) | (have H2_ := (Option.bind_some _ _).symm.trans H; rw [hy283]; with_reducible exact H2_) | (have H2_ := (Option.bind_some _ _).symm.trans H; with_reducible exact H2_) | with_reducible exact H | (rw [hy283]; exact H) | exact H
           have Ny283 := Aside0.mk hy283
           clear hy283
           have H' := Aside0.mk H
           clear H
           have p282 : 0 ≤ (x78_4 : Int) := of_decide_eq_true (by first | (with_reducible assumption) | assumption)
           have q282 : x78_4 < (((rd_T152 l1 x30_2).f1).length : Int) := of_decide_eq_true (by first | (with_reducible assumption) | assumption)
           obtain ⟨ad282, e282, hx282_0⟩ := Kd.at_int HR275_1.out x78_4 p282 q282
           cases e282
           replace hx282_0 := (HB.out.cell (World.block_lt_of_cell? w _ hx282_0)).trans hx282_0
           replace p282 := eq_true p282
           replace q282 := eq_true q282
           obtain ⟨Ao57, co57, eo57⟩ := Kd.qy0 HO_6.out
           subst eo57
           go_wp2_with (first | ((with_reducible refine qa1 (N := 93) rfl ?_); (try (refine qw0 (by rfl) ?_; dsimp only)); refine Kd.Z_look_op (base := w.heap.size) (ok := fun _ => True) kz155 155 rfl rfl _ _ 155 rfl kz155_K kz155_inj kz155_t false kz155_z mb281 x10_4 (rd ((rd_T152 l1 x30_2).f1) x78_4) rfl rfl (kz155_key (rd ((rd_T152 l1 x30_2).f1) x78_4) LMc51.out LMc52.out) ?aO (.bool ((mget x10_4 (rd ((rd_T152 l1 x30_2).f1) x78_4)).getD false)) rfl ?_; (case aO => exact (by (with_reducible repeat (first | apply Kd.Z_alloc | apply Kd.Z_drewN | apply Kd.Z_drew)); exact HO_10.out))) | ((with_reducible refine qa1 (N := 98) rfl ?_); (try (refine qw0 (by rfl) ?_; dsimp only)); refine Kd.Z_look_op (base := w.heap.size) (ok := fun _ => True) kz155 155 rfl rfl _ _ 155 rfl kz155_K kz155_inj kz155_t false kz155_z mb274 y277 (rd ((rd_T152 l1 x30_2).f1) x78_4) rfl rfl (kz155_key (rd ((rd_T152 l1 x30_2).f1) x78_4) LMc51.out LMc52.out) ?aO (.bool ((mget y277 (rd ((rd_T152 l1 x30_2).f1) x78_4)).getD false)) rfl ?_; (case aO => exact (by (with_reducible repeat (first | apply Kd.Z_alloc | apply Kd.Z_drewN | apply Kd.Z_drew)); exact HO_7.out))) | ((with_reducible refine gate_mapset (t := 155) rfl ?_); refine Kd.Z_set_op (base := w.heap.size) (ok := fun _ => True) kz155 155 rfl rfl _ _ _ 155 rfl rfl kz155_K kz155_inj kz155_t mb281 x10_4 (rd ((rd_T152 l1 x30_2).f1) x78_4) true rfl rfl rfl (kz155_key (rd ((rd_T152 l1 x30_2).f1) x78_4) LMc51.out LMc52.out) ?aO ?_; (case aO => exact (by (with_reducible repeat (first | apply Kd.Z_alloc | apply Kd.Z_drewN | apply Kd.Z_drew)); exact HO_10.out)); intro w58 ho_ hg hbb_ hz_; rw [← Ny283.out] at ho_; have n0_ := Aside0.mk (Kd.R_overZ (by (with_reducible repeat (first | apply Kd.qe0 | apply Kd.qd0 | apply Kd.qf0)); exact HO_6.out) hz_ hg); have n1_ := Aside0.mk (Kd.Z_overZ (by (with_reducible repeat (first | apply Kd.Z_alloc | apply Kd.Z_drewN | apply Kd.Z_drew)); exact HO_7.out) HZmb274_mb281.out hg); have n2_ := Aside0.mk (ho_); have n3_ := Aside0.mk (blk_grown (g := gb276) (o := .cells #[.int .i64 ((rd_T152 l1 x30_2).f0), .slice (some ad282) ((rd_T152 l1 x30_2).f1).length c275_1, .slice A275_2 ((rd_T152 l1 x30_2).f2).length c275_2] 152 (0, 0)) (by (with_reducible repeat (first | refine qn0 ?_ _ | refine qp0 ?_ | refine qo0 ?_ _)); exact BK276.out) hg (blk_neZ (by (with_reducible repeat (first | refine qn0 ?_ _ | refine qp0 ?_ | refine qo0 ?_ _)); exact BK276.out) hz_)); have n4_ := Aside0.mk (pw_below_grown (by repeat (first | (with_reducible first | exact HB.out | apply qc0 | apply qa0 | apply qb0 | refine qi0 ?_ GE276.out) | exact HB.out)) (some mb281) (qm0 (by repeat (first | (with_reducible first | exact HB.out | apply qc0 | apply qa0 | apply qb0 | refine qi0 ?_ GE276.out) | exact HB.out))) hg (fun k_ e_ => by cases e_; exact hbb_)); clear HO_6; clear HO_7; clear HO_10; clear BK276; clear HB; have HO_6 := n0_; have HO_7 := n1_; have HO_10 := n2_; have BK276 := n3_; have HB := n4_; clear n0_ n1_ n2_ n3_ n4_; clear ho_ hg hbb_ hz_))
           go_roundg k4
           case measure => have := HJ2.out; have := HK2.out; have := HJ15.out; have := HK4.out; omega
           case rel => exact ⟨(y283), (wrap64 (x78_4 + 1)), (by first | rfl | (simp; done) | (simp [*]; done)), H', ⟨by have := HJ2.out; have := HK2.out; have := HJ15.out; have := HK4.out; omega⟩, ⟨by (with_reducible repeat (first | apply Kd.qe0 | apply Kd.qd0 | apply Kd.qf0)); exact HO_6.out⟩, ⟨by (with_reducible repeat (first | apply Kd.Z_alloc | apply Kd.Z_drewN | apply Kd.Z_drew)); exact HO_7.out⟩, ⟨by (with_reducible repeat (first | apply Kd.Z_alloc | apply Kd.Z_drewN | apply Kd.Z_drew)); exact HO_10.out⟩, ⟨by (with_reducible repeat (first | refine qn0 ?_ _ | refine qp0 ?_ | refine qo0 ?_ _)); exact BK276.out⟩, ⟨by repeat (first | (with_reducible first | exact HB.out | apply qc0 | apply qa0 | apply qb0 | refine qi0 ?_ GE276.out) | exact HB.out)⟩⟩
          rw [if_neg c45] at H
          have c45b0 : decide (x78_4 < (((rd_T152 l1 x30_2).f1).length : Int)) = false := decide_eq_false c45
          clear c45
          by_cases c59 : 0 ≤ ((rd_T152 l1 x30_2).f0)
          case neg => rw [if_neg c59] at H; exact absurd H (by simp)
          rw [if_pos c59] at H
          have c59b0 : decide (0 ≤ ((rd_T152 l1 x30_2).f0)) = true := decide_eq_true c59
          clear c59
          by_cases c60 : ((rd_T152 l1 x30_2).f0) < (x6_2.length : Int)
          case neg => rw [if_neg c60] at H; exact absurd H (by simp)
          rw [if_pos c60] at H
          have c60b0 : decide (((rd_T152 l1 x30_2).f0) < (x6_2.length : Int)) = true := decide_eq_true c60
          clear c60
          replace H := Option.bind_eq_some_iff.mp H
          obtain ⟨t285, A610, H⟩ := H
          replace H : (if (t285.length : Int) = 0 then (some (([] : List Int), false)) else (impl_StepDown.l2 k4 (x6_2.set (((rd_T152 l1 x30_2).f0) : Int).toNat 0) y277 t285 l1 (l1.length : Int) x30_2 ((rd_T152 l1 x30_2).f1) (((rd_T152 l1 x30_2).f1).length : Int) 0)) = some (r1, r2) := H
          have A61 := Aside0.mk A610
          clear A610
          by_cases c62 : (t285.length : Int) = 0
          ·rw [if_pos c62] at H
           have c62b0 : ((t285.length : Int) == 0) = true := beq_iff_eq.mpr c62
           have c62b1 : ((t285.length : Int) != 0) = false := bne_eq_false_iff_eq.mpr c62
           clear c62
           simp only [Option.some.injEq, Prod.mk.injEq] at H
           obtain ⟨rfl, rfl⟩ := H
           try go_wp2
           have n0_ := Aside0.mk (Kd.qf0 HO_6.out)
           have n1_ := Aside0.mk (Kd.Z_drew HO_7.out)
           have n2_ := Aside0.mk (Kd.Z_drew HO_10.out)
           have n3_ := Aside0.mk (qp0 BK276.out)
           have n4_ := Aside0.mk (qb0 HB.out)
           clear HO_6
           clear HO_7
           clear HO_10
           clear BK276
           clear HB
           have HO_6 := n0_
           have HO_7 := n1_
           have HO_10 := n2_
           have BK276 := n3_
           have HB := n4_
           clear n0_ n1_ n2_ n3_ n4_
           obtain ⟨Ao64, co64, eo64⟩ := Kd.qy0 HO_6.out
           (first | subst eo64 | (injection eo64 with f1_ f2_ f3_; have f4_ := f1_.symm; have f5_ := f3_.symm; clear f1_ f2_ f3_; subst f4_; subst f5_))
           have p284 : 0 ≤ (((rd_T152 l1 x30_2).f0) : Int) := of_decide_eq_true (by first | (with_reducible assumption) | assumption)
           have q284 : ((rd_T152 l1 x30_2).f0) < (x6_2.length : Int) := of_decide_eq_true (by first | (with_reducible assumption) | assumption)
           obtain ⟨ad284, e284, hx284_0⟩ := Kd.at_int (Kd.qk0 HO_6.out).2.2 ((rd_T152 l1 x30_2).f0) p284 q284
           cases e284
           replace p284 := eq_true p284
           replace q284 := eq_true q284
           refine start_ (n := 9) (S := fun w' => w'.cell? ⟨gb276, 0, none⟩ = some (.int .i64 ((rd_T152 l1 x30_2).f0)) ∧ w'.cell? ⟨gb276, 1, none⟩ = some (.slice A275_1 ((rd_T152 l1 x30_2).f1).length c275_1) ∧ w'.cell? ⟨gb276, 2, none⟩ = some (.slice A275_2 ((rd_T152 l1 x30_2).f2).length c275_2) ∧ w'.cell? (ad284.add (((rd_T152 l1 x30_2).f0)).toNat) = some (.int .i64 (rd x6_2 ((rd_T152 l1 x30_2).f0)))) (ds := []) #[false, false, false, false, false, false, false, false, false] (by kernel_rfl) rfl rfl ⟨(qg0 BK276.out 0).trans rfl, (qg0 BK276.out 1).trans rfl, (qg0 BK276.out 2).trans rfl, hx284_0⟩ (fun hHeld => ?_); refine with_tabW impl_StepDown.tab19 impl_StepDown.bits19 (fun HT_ HW_ => ?_)
           generalize wr.drew = w63 at HO_6 HO_7 HO_10 BK276 HB hx284_0 hHeld ⊢
           refine pure_ (i := 0) (N := some 103) (v := ?_) (a' := ?_) #[true, false, false, false, false, false, false, false, false] rfl rfl (qj0 HT_.out (by kernel_rfl)) (fun _ _ _ h => h) (Or.inl ⟨by rfl, ?_⟩) ?_ ?_
           rotate_left
           ·intro w'
            go_simp
            with_reducible rfl
           rotate_left
           ·simp only [Act.put, List.setIfInBounds_toArray, List.set_cons_zero, List.set_cons_succ, i64_w, i32_w]
            rfl
           refine pure_ (i := 1) (N := some 104) (v := ?_) (a' := ?_) #[true, true, false, false, false, false, false, false, false] rfl rfl (qj0 HT_.out (by kernel_rfl)) (fun _ _ _ h => h) (Or.inl ⟨by rfl, ?_⟩) ?_ ?_
           rotate_left
           ·intro w'
            go_simp
            with_reducible rfl
           rotate_left
           ·simp only [Act.put, List.setIfInBounds_toArray, List.set_cons_zero, List.set_cons_succ, i64_w, i32_w]
            rfl
           refine pure_ (i := 5) (N := some 108) (v := ?_) (a' := ?_) #[true, true, false, false, false, true, false, false, false] rfl rfl (qj0 HT_.out (by kernel_rfl)) (fun _ _ _ h => h) (Or.inl ⟨by rfl, ?_⟩) ?_ ?_
           rotate_left
           ·intro w'
            go_simp
            with_reducible rfl
           rotate_left
           ·simp only [Act.put, List.setIfInBounds_toArray, List.set_cons_zero, List.set_cons_succ, i64_w, i32_w]
            rfl
           refine take_ (i := 2) (N := some 105) (v := ?_) (a' := ?_) #[true, true, true, false, false, true, false, false, false] rfl rfl (qv0 HT_.out HW_.out (by kernel_rfl)) (fun _ _ _ h => h) (Or.inl ⟨by rfl, ?_⟩) hHeld ?_ ?_
           rotate_left
           ·rintro w' ⟨s0, s1, s2, s3⟩
            go_simp
            with_reducible rfl
           rotate_left
           ·simp only [Act.put, List.setIfInBounds_toArray, List.set_cons_zero, List.set_cons_succ, i64_w, i32_w]
            rfl
           refine pure_ (i := 3) (N := some 106) (v := ?_) (a' := ?_) #[true, true, true, true, false, true, false, false, false] rfl rfl (qj0 HT_.out (by kernel_rfl)) (fun _ _ _ h => h) (Or.inl ⟨by rfl, ?_⟩) ?_ ?_
           rotate_left
           ·intro w'
            go_simp
            with_reducible rfl
           rotate_left
           ·simp only [Act.put, List.setIfInBounds_toArray, List.set_cons_zero, List.set_cons_succ, i64_w, i32_w]
            rfl
           refine take_ (i := 4) (N := some 107) (v := ?_) (a' := ?_) #[true, true, true, true, true, true, false, false, false] rfl rfl (qv0 HT_.out HW_.out (by kernel_rfl)) (fun _ _ _ h => h) (Or.inl ⟨by rfl, ?_⟩) hHeld ?_ ?_
           rotate_left
           ·rintro w' ⟨s0, s1, s2, s3⟩
            go_simp
            with_reducible rfl
           rotate_left
           ·simp only [Act.put, List.setIfInBounds_toArray, List.set_cons_zero, List.set_cons_succ, i64_w, i32_w]
            rfl
           refine take_ (i := 6) (N := some 109) (v := ?_) (a' := ?_) #[true, true, true, true, true, true, true, false, false] rfl rfl (qv0 HT_.out HW_.out (by kernel_rfl)) (fun _ _ _ h => h) (Or.inl ⟨by rfl, ?_⟩) hHeld ?_ ?_
           rotate_left
           ·rintro w' ⟨s0, s1, s2, s3⟩
            go_simp
            with_reducible rfl
           rotate_left
           ·simp only [Act.put, List.setIfInBounds_toArray, List.set_cons_zero, List.set_cons_succ, i64_w, i32_w]
            rfl
           refine one_ (i := 7) (N := some 110) #[true, true, true, true, true, true, true, true, false] rfl rfl (qw1 HT_.out (by kernel_rfl)) (by decide) (fun K hK => ?_)
           refine goes_ Try.func102 (by kernel_rfl) rfl #[.int .i64 (rd x6_2 ((rd_T152 l1 x30_2).f0)), .slice A275_2 ((rd_T152 l1 x30_2).f2).length c275_2] (by rfl) rfl rfl (by (try simp only [List.map_toArray, List.map_cons, List.map_nil]); first | done | rfl | (simp only [List.length_drop, List.length_take]; rfl)) ?_
           with_reducible refine (impl_Shares.calls k4 (rd x6_2 ((rd_T152 l1 x30_2).f0)) _ _ ((rd_T152 l1 x30_2).f2) t285 _ ?side1 ?side2 A61.out).mono ?_
           (case side1 => repeat (first | exact (Kd.qz0 HR275_2.out HB.out) | (with_reducible refine Kd.qt0 ?_ _) | (with_reducible refine Kd.qs0 ?_ _) | (with_reducible refine Kd.qu0 ?_)))
           (case side2 => exact HC275_2.out)
           rintro e w65 ⟨v286, rfl, ho0, hb⟩
           have HS3_ := (hb.cell (World.block_lt_of_cell? _ _ (hHeld.2.2.2))).trans (hHeld.2.2.2)
           refine ⟨_, rfl, ?_⟩
           have n0_ := Aside0.mk (Kd.qb1 (by (with_reducible repeat (first | apply Kd.qe0 | apply Kd.qd0 | apply Kd.qf0)); exact HO_6.out) (Kd.qg1 ho0) hb)
           have n1_ := Aside0.mk (Kd.Z_below (by (with_reducible repeat (first | apply Kd.Z_alloc | apply Kd.Z_drewN | apply Kd.Z_drew)); exact HO_7.out) hb)
           have n2_ := Aside0.mk (Kd.Z_below (by (with_reducible repeat (first | apply Kd.Z_alloc | apply Kd.Z_drewN | apply Kd.Z_drew)); exact HO_10.out) hb)
           have n3_ := Aside0.mk (Kd.qj1 (Kd.ql1 ho0 (Kd.R_lt (by (with_reducible repeat (first | apply Kd.qe0 | apply Kd.qd0 | apply Kd.qf0)); exact HO_6.out))) (qm0 (by repeat (first | (with_reducible first | exact HB.out | apply qc0 | apply qa0 | apply qb0 | refine qi0 ?_ GE276.out) | exact HB.out))))
           have n4_ := Aside0.mk (blk_below (g := gb276) (o := .cells #[.int .i64 ((rd_T152 l1 x30_2).f0), .slice A275_1 ((rd_T152 l1 x30_2).f1).length c275_1, .slice A275_2 ((rd_T152 l1 x30_2).f2).length c275_2] 152 (0, 0)) (by (with_reducible repeat (first | refine qn0 ?_ _ | refine qp0 ?_ | refine qo0 ?_ _)); exact BK276.out) hb)
           have n5_ := Aside0.mk (qr0 (by repeat (first | (with_reducible first | exact HB.out | apply qc0 | apply qa0 | apply qb0 | refine qi0 ?_ GE276.out) | exact HB.out)) hb)
           clear HO_6
           clear HO_7
           clear HO_10
           clear BK276
           clear HB
           have HO_6 := n0_
           have HO_7 := n1_
           have HO_10 := n2_
           have HO287 := n3_
           have BK276 := n4_
           have HB := n5_
           clear n0_ n1_ n2_ n3_ n4_ n5_
           (try clear hb)
           (try clear hb2)
           (try clear hk)
           (try clear hi)
           (try clear ho0)
           refine hK.out _ _ ⟨(qg0 BK276.out 0).trans rfl, (qg0 BK276.out 1).trans rfl, (qg0 BK276.out 2).trans rfl, HS3_⟩ (fun hHeld => ?_)
           clear hK K
           refine norm_ (a' := ?_) ?_ ?_
           rotate_left
           ·show Act.put _ (some 110) _ = _
            simp only [Act.put, List.setIfInBounds_toArray, List.set_cons_zero, List.set_cons_succ, i64_w, i32_w]
            rfl
           refine pure_ (i := 8) (N := some 13) (v := ?_) (a' := ?_) #[true, true, true, true, true, true, true, true, true] rfl rfl (qj0 HT_.out (by kernel_rfl)) (fun _ _ _ h => h) (Or.inl ⟨by rfl, ?_⟩) ?_ ?_
           rotate_left
           ·intro w'
            go_simp
            with_reducible rfl
           rotate_left
           ·simp only [Act.put, List.setIfInBounds_toArray, List.set_cons_zero, List.set_cons_succ, i64_w, i32_w]
            rfl
           refine done_ (done_of HT_.out (by kernel_rfl)) ?_
           obtain ⟨Ao66, co66, eo66⟩ := Kd.qy0 HO287.out
           subst eo66
           try go_wp2
           go_ret2
           exact ⟨_, by first | rfl | (simp [errW_none, errW_some] <;> rfl) | (simp [*, errW_none, errW_some] <;> rfl), by first | exact Kd.R_nil _ _ _ _ _ | exact Kd.N_nil _ _ _ _ _ | exact Kd.V_nil _ _ _ _ _ | exact Kd.Q_nil _ _ _ _ _ | exact Kd.S_nil _ _ _ _ _, by repeat (first | (with_reducible first | exact HB.out | apply qc0 | apply qa0 | apply qb0 | refine qi0 ?_ GE276.out) | exact HB.out)⟩
          rw [if_neg c62] at H
          have c62b0 : ((t285.length : Int) == 0) = false := beq_eq_false_iff_ne.mpr c62
          have c62b1 : ((t285.length : Int) != 0) = true := bne_iff_ne.mpr c62
          have c62b2 : ¬ (t285 = []) := fun h_ => c62 (by rw [h_]; rfl)
          obtain ⟨y288, hy288⟩ : ∃ y_ : List Int, y_ = (x6_2.set (((rd_T152 l1 x30_2).f0) : Int).toNat 0) := ⟨_, rfl⟩
          replace H : (impl_StepDown.l2 k4 y288 y277 t285 l1 (l1.length : Int) x30_2 ((rd_T152 l1 x30_2).f1) (((rd_T152 l1 x30_2).f1).length : Int) 0) = some (r1, r2) := by first | (rw [hy288]; with_reducible exact H) | (have H2_ := (Option.bind_some _ _).symm.trans H; rw [hy288]; with_reducible exact H2_) | (have H2_ := (Option.bind_some _ _).symm.trans H; with_reducible exact H2_) | with_reducible exact H | (rw [hy288]; exact H) | exact H
          have Ny288 := Aside0.mk hy288
          clear hy288
          have H' := Aside0.mk H
          clear H
          try go_wp2
          have n0_ := Aside0.mk (Kd.qf0 HO_6.out)
          have n1_ := Aside0.mk (Kd.Z_drew HO_7.out)
          have n2_ := Aside0.mk (Kd.Z_drew HO_10.out)
          have n3_ := Aside0.mk (qp0 BK276.out)
          have n4_ := Aside0.mk (qb0 HB.out)
          clear HO_6
          clear HO_7
          clear HO_10
          clear BK276
          clear HB
          have HO_6 := n0_
          have HO_7 := n1_
          have HO_10 := n2_
          have BK276 := n3_
          have HB := n4_
          clear n0_ n1_ n2_ n3_ n4_
          obtain ⟨Ao69, co69, eo69⟩ := Kd.qy0 HO_6.out
          (first | subst eo69 | (injection eo69 with f1_ f2_ f3_; have f4_ := f1_.symm; have f5_ := f3_.symm; clear f1_ f2_ f3_; subst f4_; subst f5_))
          have p284 : 0 ≤ (((rd_T152 l1 x30_2).f0) : Int) := of_decide_eq_true (by first | (with_reducible assumption) | assumption)
          have q284 : ((rd_T152 l1 x30_2).f0) < (x6_2.length : Int) := of_decide_eq_true (by first | (with_reducible assumption) | assumption)
          obtain ⟨ad284, e284, hx284_0⟩ := Kd.at_int (Kd.qk0 HO_6.out).2.2 ((rd_T152 l1 x30_2).f0) p284 q284
          cases e284
          replace p284 := eq_true p284
          replace q284 := eq_true q284
          refine start_ (n := 9) (S := fun w' => w'.cell? ⟨gb276, 0, none⟩ = some (.int .i64 ((rd_T152 l1 x30_2).f0)) ∧ w'.cell? ⟨gb276, 1, none⟩ = some (.slice A275_1 ((rd_T152 l1 x30_2).f1).length c275_1) ∧ w'.cell? ⟨gb276, 2, none⟩ = some (.slice A275_2 ((rd_T152 l1 x30_2).f2).length c275_2) ∧ w'.cell? (ad284.add (((rd_T152 l1 x30_2).f0)).toNat) = some (.int .i64 (rd x6_2 ((rd_T152 l1 x30_2).f0)))) (ds := []) #[false, false, false, false, false, false, false, false, false] (by kernel_rfl) rfl rfl ⟨(qg0 BK276.out 0).trans rfl, (qg0 BK276.out 1).trans rfl, (qg0 BK276.out 2).trans rfl, hx284_0⟩ (fun hHeld => ?_); refine with_tabW impl_StepDown.tab19 impl_StepDown.bits19 (fun HT_ HW_ => ?_)
          generalize wr.drew = w68 at HO_6 HO_7 HO_10 BK276 HB hx284_0 hHeld ⊢
          refine pure_ (i := 0) (N := some 103) (v := ?_) (a' := ?_) #[true, false, false, false, false, false, false, false, false] rfl rfl (qj0 HT_.out (by kernel_rfl)) (fun _ _ _ h => h) (Or.inl ⟨by rfl, ?_⟩) ?_ ?_
          rotate_left
          ·intro w'
           go_simp
           with_reducible rfl
          rotate_left
          ·simp only [Act.put, List.setIfInBounds_toArray, List.set_cons_zero, List.set_cons_succ, i64_w, i32_w]
           rfl
          refine pure_ (i := 1) (N := some 104) (v := ?_) (a' := ?_) #[true, true, false, false, false, false, false, false, false] rfl rfl (qj0 HT_.out (by kernel_rfl)) (fun _ _ _ h => h) (Or.inl ⟨by rfl, ?_⟩) ?_ ?_
          rotate_left
          ·intro w'
           go_simp
           with_reducible rfl
          rotate_left
          ·simp only [Act.put, List.setIfInBounds_toArray, List.set_cons_zero, List.set_cons_succ, i64_w, i32_w]
           rfl
          refine pure_ (i := 5) (N := some 108) (v := ?_) (a' := ?_) #[true, true, false, false, false, true, false, false, false] rfl rfl (qj0 HT_.out (by kernel_rfl)) (fun _ _ _ h => h) (Or.inl ⟨by rfl, ?_⟩) ?_ ?_
          rotate_left
          ·intro w'
           go_simp
           with_reducible rfl
          rotate_left
          ·simp only [Act.put, List.setIfInBounds_toArray, List.set_cons_zero, List.set_cons_succ, i64_w, i32_w]
           rfl
          refine take_ (i := 2) (N := some 105) (v := ?_) (a' := ?_) #[true, true, true, false, false, true, false, false, false] rfl rfl (qv0 HT_.out HW_.out (by kernel_rfl)) (fun _ _ _ h => h) (Or.inl ⟨by rfl, ?_⟩) hHeld ?_ ?_
          rotate_left
          ·rintro w' ⟨s0, s1, s2, s3⟩
           go_simp
           with_reducible rfl
          rotate_left
          ·simp only [Act.put, List.setIfInBounds_toArray, List.set_cons_zero, List.set_cons_succ, i64_w, i32_w]
           rfl
          refine pure_ (i := 3) (N := some 106) (v := ?_) (a' := ?_) #[true, true, true, true, false, true, false, false, false] rfl rfl (qj0 HT_.out (by kernel_rfl)) (fun _ _ _ h => h) (Or.inl ⟨by rfl, ?_⟩) ?_ ?_
          rotate_left
          ·intro w'
           go_simp
           with_reducible rfl
          rotate_left
          ·simp only [Act.put, List.setIfInBounds_toArray, List.set_cons_zero, List.set_cons_succ, i64_w, i32_w]
           rfl
          refine take_ (i := 4) (N := some 107) (v := ?_) (a' := ?_) #[true, true, true, true, true, true, false, false, false] rfl rfl (qv0 HT_.out HW_.out (by kernel_rfl)) (fun _ _ _ h => h) (Or.inl ⟨by rfl, ?_⟩) hHeld ?_ ?_
          rotate_left
          ·rintro w' ⟨s0, s1, s2, s3⟩
           go_simp
           with_reducible rfl
          rotate_left
          ·simp only [Act.put, List.setIfInBounds_toArray, List.set_cons_zero, List.set_cons_succ, i64_w, i32_w]
           rfl
          refine take_ (i := 6) (N := some 109) (v := ?_) (a' := ?_) #[true, true, true, true, true, true, true, false, false] rfl rfl (qv0 HT_.out HW_.out (by kernel_rfl)) (fun _ _ _ h => h) (Or.inl ⟨by rfl, ?_⟩) hHeld ?_ ?_
          rotate_left
          ·rintro w' ⟨s0, s1, s2, s3⟩
           go_simp
           with_reducible rfl
          rotate_left
          ·simp only [Act.put, List.setIfInBounds_toArray, List.set_cons_zero, List.set_cons_succ, i64_w, i32_w]
           rfl
          refine one_ (i := 7) (N := some 110) #[true, true, true, true, true, true, true, true, false] rfl rfl (qw1 HT_.out (by kernel_rfl)) (by decide) (fun K hK => ?_)
          refine goes_ Try.func102 (by kernel_rfl) rfl #[.int .i64 (rd x6_2 ((rd_T152 l1 x30_2).f0)), .slice A275_2 ((rd_T152 l1 x30_2).f2).length c275_2] (by rfl) rfl rfl (by (try simp only [List.map_toArray, List.map_cons, List.map_nil]); first | done | rfl | (simp only [List.length_drop, List.length_take]; rfl)) ?_
          with_reducible refine (impl_Shares.calls k4 (rd x6_2 ((rd_T152 l1 x30_2).f0)) _ _ ((rd_T152 l1 x30_2).f2) t285 _ ?side1 ?side2 A61.out).mono ?_
          (case side1 => repeat (first | exact (Kd.qz0 HR275_2.out HB.out) | (with_reducible refine Kd.qt0 ?_ _) | (with_reducible refine Kd.qs0 ?_ _) | (with_reducible refine Kd.qu0 ?_)))
          (case side2 => exact HC275_2.out)
          rintro e w70 ⟨v286, rfl, ho0, hb⟩
          have HS3_ := (hb.cell (World.block_lt_of_cell? _ _ (hHeld.2.2.2))).trans (hHeld.2.2.2)
          refine ⟨_, rfl, ?_⟩
          have n0_ := Aside0.mk (Kd.qb1 (by (with_reducible repeat (first | apply Kd.qe0 | apply Kd.qd0 | apply Kd.qf0)); exact HO_6.out) (Kd.qg1 ho0) hb)
          have n1_ := Aside0.mk (Kd.Z_below (by (with_reducible repeat (first | apply Kd.Z_alloc | apply Kd.Z_drewN | apply Kd.Z_drew)); exact HO_7.out) hb)
          have n2_ := Aside0.mk (Kd.Z_below (by (with_reducible repeat (first | apply Kd.Z_alloc | apply Kd.Z_drewN | apply Kd.Z_drew)); exact HO_10.out) hb)
          have n3_ := Aside0.mk (Kd.qj1 (Kd.ql1 ho0 (Kd.R_lt (by (with_reducible repeat (first | apply Kd.qe0 | apply Kd.qd0 | apply Kd.qf0)); exact HO_6.out))) (qm0 (by repeat (first | (with_reducible first | exact HB.out | apply qc0 | apply qa0 | apply qb0 | refine qi0 ?_ GE276.out) | exact HB.out))))
          have n4_ := Aside0.mk (blk_below (g := gb276) (o := .cells #[.int .i64 ((rd_T152 l1 x30_2).f0), .slice A275_1 ((rd_T152 l1 x30_2).f1).length c275_1, .slice A275_2 ((rd_T152 l1 x30_2).f2).length c275_2] 152 (0, 0)) (by (with_reducible repeat (first | refine qn0 ?_ _ | refine qp0 ?_ | refine qo0 ?_ _)); exact BK276.out) hb)
          have n5_ := Aside0.mk (qr0 (by repeat (first | (with_reducible first | exact HB.out | apply qc0 | apply qa0 | apply qb0 | refine qi0 ?_ GE276.out) | exact HB.out)) hb)
          clear HO_6
          clear HO_7
          clear HO_10
          clear BK276
          clear HB
          have HO_6 := n0_
          have HO_7 := n1_
          have HO_10 := n2_
          have HO287 := n3_
          have BK276 := n4_
          have HB := n5_
          clear n0_ n1_ n2_ n3_ n4_ n5_
          (try clear hb)
          (try clear hb2)
          (try clear hk)
          (try clear hi)
          (try clear ho0)
          refine hK.out _ _ ⟨(qg0 BK276.out 0).trans rfl, (qg0 BK276.out 1).trans rfl, (qg0 BK276.out 2).trans rfl, HS3_⟩ (fun hHeld => ?_)
          clear hK K
          refine norm_ (a' := ?_) ?_ ?_
          rotate_left
          ·show Act.put _ (some 110) _ = _
           simp only [Act.put, List.setIfInBounds_toArray, List.set_cons_zero, List.set_cons_succ, i64_w, i32_w]
           rfl
          refine pure_ (i := 8) (N := some 13) (v := ?_) (a' := ?_) #[true, true, true, true, true, true, true, true, true] rfl rfl (qj0 HT_.out (by kernel_rfl)) (fun _ _ _ h => h) (Or.inl ⟨by rfl, ?_⟩) ?_ ?_
          rotate_left
          ·intro w'
           go_simp
           with_reducible rfl
          rotate_left
          ·simp only [Act.put, List.setIfInBounds_toArray, List.set_cons_zero, List.set_cons_succ, i64_w, i32_w]
           rfl
          refine done_ (done_of HT_.out (by kernel_rfl)) ?_
          obtain ⟨Ao71, co71, eo71⟩ := Kd.qy0 HO287.out
          subst eo71
          have hcz72_0 : w70.cell? ⟨gb276, 0, none⟩ = some (.int .i64 ((rd_T152 l1 x30_2).f0)) := (qg0 BK276.out 0).trans rfl
          have hcz72_1 : w70.cell? ⟨gb276, 1, none⟩ = some (.slice A275_1 ((rd_T152 l1 x30_2).f1).length c275_1) := (qg0 BK276.out 1).trans rfl
          have hcz72_2 : w70.cell? ⟨gb276, 2, none⟩ = some (.slice A275_2 ((rd_T152 l1 x30_2).f2).length c275_2) := (qg0 BK276.out 2).trans rfl
          have hfz72_0 := qh0 BK276.out 0
          have hfz72_1 := qh0 BK276.out 1
          have hfz72_2 := qh0 BK276.out 2
          have p67 : 0 ≤ (((rd_T152 l1 x30_2).f0) : Int) := of_decide_eq_true (by first | (with_reducible assumption) | assumption)
          have q67 : (((rd_T152 l1 x30_2).f0) : Int) < ((x6_2.length : Int) : Int) := of_decide_eq_true (by first | (with_reducible assumption) | assumption)
          obtain ⟨go67, co67, eo67, gb67, gl67, cl67, HG67⟩ := Kd.R_form HO_6.out (by omega)
          (first | cases eo67 | (injection eo67 with ea_ en_ ec_; (first | subst ea_ | (injection ea_ with ea_; subst ea_)); subst ec_; clear en_))
          have GB67 := Aside0.mk gb67
          have GG67 := Aside0.mk HG67
          clear gb67 gl67 HG67
          (first | simp only [add_plain] at hx284_0 | skip)
          obtain ⟨hx67_0, hf67_0⟩ := Kd.qm1 0 HO_6.out (((rd_T152 l1 x30_2).f0) : Int) p67 q67
          replace p67 := eq_true p67
          replace q67 := eq_true q67
          have n_ := Aside0.mk (Kd.qq0 (ok' := (fun k_ => some k_ ≠ (.slice Ao71 t285.length co71 : Value).ownBlock)) HO_6.out (fun k_ hk => hk.2))
          clear HO_6
          have HO_6 := n_
          clear n_
          obtain ⟨hy73_, hz73_⟩ := Kd.qm1 0 HO_6.out (((rd_T152 l1 x30_2).f0) : Int) (of_decide_eq_true (by first | (with_reducible assumption) | assumption)) (of_decide_eq_true (by first | (with_reducible assumption) | assumption))
          have HP73 := Kd.R_putg HO_6.out (((rd_T152 l1 x30_2).f0) : Int) 0
          try go_wp2_with (first | ((with_reducible refine qh1 (t := 3) (p := 117) rfl ?_); refine qe1 (t := 3) (p := 117) (v := ?vo_w74) (w1 := (w70.setCell ⟨go67, (((rd_T152 l1 x30_2).f0) : Int).toNat, none⟩ (.int .i64 0))) ?hg ?ho ?hn ?hr ?_; (case ho => rfl); (case hg => rfl); (case hn => rfl); (case hr => first | (go_simp; done) | (go_simp; rfl)); intro w74 hw; have hg : w70.grownBy w74 (some go67) := (by rw [hw]; exact HP73.2); have hp_ : Kd.R (Kd.int .i64) 3 w74 w.heap.size (fun k_ => some k_ ≠ (.slice Ao71 t285.length co71 : Value).ownBlock) (.slice (some ⟨go67, 0, none⟩) x6_2.length co69) y288 := (by rw [hw, Ny288.out]; exact HP73.1); clear HP73; have n0_ := Aside0.mk (hp_); have n1_ := Aside0.mk (Kd.Z_over' (v := (.slice (some ⟨go67, 0, none⟩) x6_2.length co69)) (by (with_reducible repeat (first | apply Kd.Z_alloc | apply Kd.Z_drewN | apply Kd.Z_drew)); exact HO_7.out) (Kd.R_typed HO_6.out) (by decide) hg); have n2_ := Aside0.mk (Kd.Z_over' (v := (.slice (some ⟨go67, 0, none⟩) x6_2.length co69)) (by (with_reducible repeat (first | apply Kd.Z_alloc | apply Kd.Z_drewN | apply Kd.Z_drew)); exact HO_10.out) (Kd.R_typed HO_6.out) (by decide) hg); have n3_ := Aside0.mk (blk_grown (g := gb276) (o := .cells #[.int .i64 ((rd_T152 l1 x30_2).f0), .slice A275_1 ((rd_T152 l1 x30_2).f1).length c275_1, .slice A275_2 ((rd_T152 l1 x30_2).f2).length c275_2] 152 (0, 0)) (by (with_reducible repeat (first | refine qn0 ?_ _ | refine qp0 ?_ | refine qo0 ?_ _)); exact BK276.out) hg (Kd.R_ne HO_6.out BK276.out (by decide))); have n4_ := Aside0.mk (Kd.qk1 (v := (.slice (some ⟨go67, 0, none⟩) x6_2.length co69)) (v1 := (.slice (some ⟨go67, 0, none⟩) x6_2.length co69)) (ok := (fun _ => True)) (by (with_reducible repeat (first | apply Kd.qe0 | apply Kd.qd0 | apply Kd.qf0)); exact HO287.out) hg (.inl rfl)); have n5_ := Aside0.mk ((by rw [hw]; exact qi0 (HB.out) GB67.out : Below w.heap.size w w74)); clear HO_6; clear HO_7; clear HO_10; clear BK276; clear HO287; clear HB; have HO_6 := n0_; have HO_7 := n1_; have HO_10 := n2_; have BK276 := n3_; have HO287 := n4_; have HB := n5_; clear n0_ n1_ n2_ n3_ n4_ n5_; clear hg hw hp_; have hcz75_0 : w74.cell? ⟨gb276, 0, none⟩ = some (.int .i64 ((rd_T152 l1 x30_2).f0)) := (qg0 BK276.out 0).trans rfl; have hcz75_1 : w74.cell? ⟨gb276, 1, none⟩ = some (.slice A275_1 ((rd_T152 l1 x30_2).f1).length c275_1) := (qg0 BK276.out 1).trans rfl; have hcz75_2 : w74.cell? ⟨gb276, 2, none⟩ = some (.slice A275_2 ((rd_T152 l1 x30_2).f2).length c275_2) := (qg0 BK276.out 2).trans rfl; have hfz75_0 := qh0 BK276.out 0; have hfz75_1 := qh0 BK276.out 1; have hfz75_2 := qh0 BK276.out 2))
          (try simp only [add_plain])
          go_loopg [121] k4 (fun kq v121 w' => ∃ (x6_5 : List Int) (x121_5 : Int), v121 = .int .i64 x121_5 ∧ Aside0 (impl_StepDown.l2 kq x6_5 y277 t285 l1 (l1.length : Int) x30_2 ((rd_T152 l1 x30_2).f1) (((rd_T152 l1 x30_2).f1).length : Int) x121_5 = some (r1, r2)) ∧ Aside0 (kq ≤ k4) ∧ Aside0 (Kd.R (Kd.int .i64) 3 w' w.heap.size (fun k_ => some k_ ≠ ((.slice Ao71 t285.length co71) : Value).ownBlock) (.slice (some ⟨go67, 0, none⟩) x6_2.length co69) x6_5) ∧ Aside0 (Kd.Z kz155 155 w' w.heap.size (fun _ => True) (.map (some mb274)) y277) ∧ Aside0 (Kd.R (Kd.int .i64) 3 w' w.heap.size (fun k_ => some k_ ≠ ((.slice (some ⟨go67, 0, none⟩) x6_2.length co69) : Value).ownBlock) (.slice Ao71 t285.length co71) t285) ∧ Aside0 (w'.heap[gb276]? = some (.cells #[.int .i64 ((rd_T152 l1 x30_2).f0), (.slice A275_1 ((rd_T152 l1 x30_2).f1).length c275_1), (.slice A275_2 ((rd_T152 l1 x30_2).f2).length c275_2)] 152 (0, 0))) ∧ Aside0 (Below w.heap.size w w'))
          case atStart => exact ⟨(y288), (0), (by first | rfl | (simp; done) | (simp [*]; done)), H', ⟨Nat.le_refl _⟩, ⟨by (with_reducible repeat (first | apply Kd.qe0 | apply Kd.qd0 | apply Kd.qf0)); exact HO_6.out⟩, ⟨by (with_reducible repeat (first | apply Kd.Z_alloc | apply Kd.Z_drewN | apply Kd.Z_drew)); exact HO_7.out⟩, ⟨by (with_reducible repeat (first | apply Kd.qe0 | apply Kd.qd0 | apply Kd.qf0)); exact Kd.qq0 HO287.out (fun _ hk => hk.2)⟩, ⟨by (with_reducible repeat (first | refine qn0 ?_ _ | refine qp0 ?_ | refine qo0 ?_ _)); exact BK276.out⟩, ⟨by repeat (first | (with_reducible first | exact HB.out | apply qc0 | apply qa0 | apply qb0 | refine qi0 ?_ GE276.out) | exact HB.out)⟩⟩
          case round =>
           clear H'
           try clear c1
           try clear c2
           try clear p2
           try clear q2
           try clear hx2
           try clear c3
           try clear c4
           try clear c5
           try clear c6
           try clear p6
           try clear q6
           try clear hx6
           try clear hf6
           try clear c7
           try clear c10
           try clear c11
           try clear c13
           try clear c13b0
           try clear c14
           try clear c14b0
           try clear c15
           try clear c15b0
           try clear c19
           try clear c19b0
           try clear c21
           try clear c21b0
           try clear c24
           try clear c25
           try clear c26
           try clear c26b0
           try clear c27
           try clear p27
           try clear q27
           try clear hx27
           try clear p28
           try clear q28
           try clear hx28
           try clear c29
           try clear c29b0
           try clear c29b1
           try clear c32
           try clear c32b0
           try clear c32b1
           try clear c37
           try clear c38
           try clear c39
           try clear c45
           try clear c45b0
           try clear c46
           try clear c46b0
           try clear c47
           try clear c47b0
           try clear c48
           try clear c48b0
           try clear c49
           try clear c49b0
           try clear c51
           try clear c52
           try clear c53
           try clear c53b0
           try clear c55
           try clear c55b0
           try clear c59
           try clear c59b0
           try clear c60
           try clear c60b0
           try clear c62
           try clear c62b0
           try clear c62b1
           try clear c62b2
           try clear p64
           try clear p67
           try clear q67
           try clear hx67
           try clear hf67
           try clear hcz18_0
           try clear hcz18_1
           try clear hcz18_2
           try clear hcz20_0
           try clear hcz20_1
           try clear hcz20_2
           try clear hcz22_0
           try clear hcz22_1
           try clear hcz22_2
           try clear hcz27_0
           try clear hcz27_1
           try clear hcz27_2
           try clear hcz30_0
           try clear hcz30_1
           try clear hcz30_2
           try clear hcz33_0
           try clear hcz33_1
           try clear hcz33_2
           try clear hcz35_0
           try clear hcz35_1
           try clear hcz35_2
           try clear hcz40_0
           try clear hcz40_1
           try clear hcz40_2
           try clear hcz44_0
           try clear hcz44_1
           try clear hcz44_2
           try clear hcz72_0
           try clear hcz72_1
           try clear hcz72_2
           try clear hcz75_0
           try clear hcz75_1
           try clear hcz75_2
           try clear hfz18_0
           try clear hfz18_1
           try clear hfz18_2
           try clear hfz20_0
           try clear hfz20_1
           try clear hfz20_2
           try clear hfz22_0
           try clear hfz22_1
           try clear hfz22_2
           try clear hfz27_0
           try clear hfz27_1
           try clear hfz27_2
           try clear hfz30_0
           try clear hfz30_1
           try clear hfz30_2
           try clear hfz33_0
           try clear hfz33_1
           try clear hfz33_2
           try clear hfz35_0
           try clear hfz35_1
           try clear hfz35_2
           try clear hfz40_0
           try clear hfz40_1
           try clear hfz40_2
           try clear hfz44_0
           try clear hfz44_1
           try clear hfz44_2
           try clear hfz72_0
           try clear hfz72_1
           try clear hfz72_2
           try clear hfz75_0
           try clear hfz75_1
           try clear hfz75_2
           try clear hx275_0
           try clear hx275_1
           try clear hx275_2
           try clear hx282_0
           try clear hx284_0
           try clear hx67_0
           try clear p2
           try clear p27
           try clear p275
           try clear p282
           try clear p284
           try clear p67
           try clear q2
           try clear q27
           try clear q275
           try clear q282
           try clear q284
           try clear q67
           obtain ⟨x6_5, x121_5, rfl, HA, HK5, HO_6, HO_7, HO_13, BK276, HB⟩ := hrel
           have hl6_5 := (Kd.qk0 HO_6.out).1
           rw [hl6_5] at HO_6
           (try simp only [hl6_5])
           (try simp only [hl6_5] at BK276)
           (try simp only [hl6_5] at HO_7)
           (try simp only [hl6_5] at HO_13)
           cases gk with
           | zero => exact absurd HA.out (by simp [impl_StepDown.l2])
           | succ k5 =>
            have H := HA.out
            clear HA
            simp only [impl_StepDown.l2] at H
            by_cases c76 : x121_5 < (((rd_T152 l1 x30_2).f1).length : Int)
            ·rw [if_pos c76] at H
             have c76b0 : decide (x121_5 < (((rd_T152 l1 x30_2).f1).length : Int)) = true := decide_eq_true c76
             clear c76
             by_cases c77 : 0 ≤ x121_5
             case neg => rw [if_neg c77] at H; exact absurd H (by simp)
             rw [if_pos c77] at H
             have c77b0 : decide (0 ≤ x121_5) = true := decide_eq_true c77
             clear c77
             by_cases c78 : x121_5 < (((rd_T152 l1 x30_2).f1).length : Int)
             case neg => rw [if_neg c78] at H; exact absurd H (by simp)
             rw [if_pos c78] at H
             have c78b0 : decide (x121_5 < (((rd_T152 l1 x30_2).f1).length : Int)) = true := decide_eq_true c78
             clear c78
             by_cases c79 : 0 ≤ (rd ((rd_T152 l1 x30_2).f1) x121_5)
             case neg => rw [if_neg c79] at H; exact absurd H (by simp)
             rw [if_pos c79] at H
             have c79b0 : decide (0 ≤ (rd ((rd_T152 l1 x30_2).f1) x121_5)) = true := decide_eq_true c79
             clear c79
             by_cases c80 : (rd ((rd_T152 l1 x30_2).f1) x121_5) < (x6_5.length : Int)
             case neg => rw [if_neg c80] at H; exact absurd H (by simp)
             rw [if_pos c80] at H
             have c80b0 : decide ((rd ((rd_T152 l1 x30_2).f1) x121_5) < (x6_5.length : Int)) = true := decide_eq_true c80
             clear c80
             by_cases c81 : x121_5 < (t285.length : Int)
             case neg => rw [if_neg c81] at H; exact absurd H (by simp)
             rw [if_pos c81] at H
             have c81b0 : decide (x121_5 < (t285.length : Int)) = true := decide_eq_true c81
             clear c81
             obtain ⟨y292, hy292⟩ : ∃ y_ : List Int, y_ = (x6_5.set ((rd ((rd_T152 l1 x30_2).f1) x121_5) : Int).toNat (wrap64 ((rd x6_5 (rd ((rd_T152 l1 x30_2).f1) x121_5)) + (rd t285 x121_5)))) := ⟨_, rfl⟩
             replace H : ((impl_amount.f (wrap64 ((rd x6_5 (rd ((rd_T152 l1 x30_2).f1) x121_5)) + (rd t285 x121_5)))).bind fun t294 => (if t294 = true then (impl_StepDown.l2 k5 y292 y277 t285 l1 (l1.length : Int) x30_2 ((rd_T152 l1 x30_2).f1) (((rd_T152 l1 x30_2).f1).length : Int) (wrap64 (x121_5 + 1))) else (some (([] : List Int), false)))) = some (r1, r2) := by first | (rw [hy292]; with_reducible exact H) | (have H2_ := (Option.bind_some _ _).symm.trans H; rw [hy292]; with_reducible exact H2_) | (have H2_ := (Option.bind_some _ _).symm.trans H; with_reducible exact H2_) | with_reducible exact H | (rw [hy292]; exact H) | exact H
             have Ny292 := Aside0.mk hy292
             clear hy292
             replace H := Option.bind_eq_some_iff.mp H
             obtain ⟨t294, A840, H⟩ := H
             replace H : (if t294 = true then (impl_StepDown.l2 k5 y292 y277 t285 l1 (l1.length : Int) x30_2 ((rd_T152 l1 x30_2).f1) (((rd_T152 l1 x30_2).f1).length : Int) (wrap64 (x121_5 + 1))) else (some (([] : List Int), false))) = some (r1, r2) := H
             have A84 := Aside0.mk A840
             clear A840
             by_cases c85 : t294 = true
             ·subst c85
              have H1 : (impl_StepDown.l2 k5 y292 y277 t285 l1 (l1.length : Int) x30_2 ((rd_T152 l1 x30_2).f1) (((rd_T152 l1 x30_2).f1).length : Int) (wrap64 (x121_5 + 1))) = some (r1, r2) := by rw [if_pos rfl] at H; exact H
              clear H
              have H := H1
              clear H1
              have H' := Aside0.mk H
              clear H
              have p289 : 0 ≤ (x121_5 : Int) := of_decide_eq_true (by first | (with_reducible assumption) | assumption)
              have q289 : x121_5 < (((rd_T152 l1 x30_2).f1).length : Int) := of_decide_eq_true (by first | (with_reducible assumption) | assumption)
              obtain ⟨ad289, e289, hx289_0⟩ := Kd.at_int HR275_1.out x121_5 p289 q289
              cases e289
              replace hx289_0 := (HB.out.cell (World.block_lt_of_cell? w _ hx289_0)).trans hx289_0
              replace p289 := eq_true p289
              replace q289 := eq_true q289
              try go_wp2
              have n0_ := Aside0.mk (Kd.qf0 HO_6.out)
              have n1_ := Aside0.mk (Kd.Z_drew HO_7.out)
              have n2_ := Aside0.mk (Kd.qf0 HO_13.out)
              have n3_ := Aside0.mk (qp0 BK276.out)
              have n4_ := Aside0.mk (qb0 HB.out)
              clear HO_6
              clear HO_7
              clear HO_13
              clear BK276
              clear HB
              have HO_6 := n0_
              have HO_7 := n1_
              have HO_13 := n2_
              have BK276 := n3_
              have HB := n4_
              clear n0_ n1_ n2_ n3_ n4_
              have p290 : 0 ≤ ((rd ((rd_T152 l1 x30_2).f1) x121_5) : Int) := of_decide_eq_true (by first | (with_reducible assumption) | assumption)
              have q290 : (rd ((rd_T152 l1 x30_2).f1) x121_5) < (x6_5.length : Int) := of_decide_eq_true (by first | (with_reducible assumption) | assumption)
              obtain ⟨ad290, e290, hx290_0⟩ := Kd.at_int (Kd.qk0 HO_6.out).2.2 (rd ((rd_T152 l1 x30_2).f1) x121_5) p290 q290
              obtain rfl : (⟨go67, 0, none⟩ : Addr) = ad290 := (by injection e290)
              (first | simp only [add_plain] at hx290_0 | simp only [add_at] at hx290_0 | simp only [Addr.add, Nat.zero_add] at hx290_0 | skip)
              replace p290 := eq_true p290
              replace q290 := eq_true q290
              have p291 : 0 ≤ (x121_5 : Int) := of_decide_eq_true (by first | (with_reducible assumption) | assumption)
              have q291 : x121_5 < (t285.length : Int) := of_decide_eq_true (by first | (with_reducible assumption) | assumption)
              obtain ⟨ad291, e291, hx291_0⟩ := Kd.at_int (Kd.qk0 HO_13.out).2.2 x121_5 p291 q291
              cases e291
              replace p291 := eq_true p291
              replace q291 := eq_true q291
              have p82 : 0 ≤ ((rd ((rd_T152 l1 x30_2).f1) x121_5) : Int) := of_decide_eq_true (by first | (with_reducible assumption) | assumption)
              have q82 : ((rd ((rd_T152 l1 x30_2).f1) x121_5) : Int) < ((x6_5.length : Int) : Int) := of_decide_eq_true (by first | (with_reducible assumption) | assumption)
              obtain ⟨hx82_0, hf82_0⟩ := Kd.qm1 0 HO_6.out ((rd ((rd_T152 l1 x30_2).f1) x121_5) : Int) p82 q82
              replace p82 := eq_true p82
              replace q82 := eq_true q82
              have HP87 := Kd.R_putn HO_6.out ((rd ((rd_T152 l1 x30_2).f1) x121_5) : Int) (wrap64 ((rd x6_5 (rd ((rd_T152 l1 x30_2).f1) x121_5)) + (rd t285 x121_5)))
              rw [← Ny292.out] at HP87
              have HQ87 := Aside0.mk HP87
              clear HP87
              refine start_ (n := 11) (S := fun w' => w'.cell? ⟨go67, ((rd ((rd_T152 l1 x30_2).f1) x121_5)).toNat, none⟩ = some (.int .i64 (rd x6_5 (rd ((rd_T152 l1 x30_2).f1) x121_5))) ∧ w'.cell? (ad291.add (x121_5).toNat) = some (.int .i64 (rd t285 x121_5))) (ds := [10]) #[false, false, false, false, false, false, false, false, false, false, false] (by kernel_rfl) rfl rfl ⟨hx290_0, hx291_0⟩ (fun hHeld => ?_); refine with_tabW impl_StepDown.tab26 impl_StepDown.bits26 (fun HT_ HW_ => ?_)
              generalize wr.drew = w86 at HO_6 HO_7 HO_13 BK276 HB HQ87 hf82_0 hx290_0 hx291_0 hx82_0 hHeld ⊢
              refine pure_ (i := 0) (N := some 126) (v := ?_) (a' := ?_) #[true, false, false, false, false, false, false, false, false, false, false] rfl rfl (qj0 HT_.out (by kernel_rfl)) (fun _ _ _ h => h) (Or.inl ⟨by rfl, ?_⟩) ?_ ?_
              rotate_left
              ·intro w'
               go_simp
               with_reducible rfl
              rotate_left
              ·simp only [Act.put, List.setIfInBounds_toArray, List.set_cons_zero, List.set_cons_succ, i64_w, i32_w]
               rfl
              refine pure_ (i := 1) (N := some 127) (v := ?_) (a' := ?_) #[true, true, false, false, false, false, false, false, false, false, false] rfl rfl (qj0 HT_.out (by kernel_rfl)) (fun _ _ _ h => h) (Or.inl ⟨by rfl, ?_⟩) ?_ ?_
              rotate_left
              ·intro w'
               go_simp
               with_reducible rfl
              rotate_left
              ·simp only [Act.put, List.setIfInBounds_toArray, List.set_cons_zero, List.set_cons_succ, i64_w, i32_w]
               rfl
              refine pure_ (i := 2) (N := some 128) (v := ?_) (a' := ?_) #[true, true, true, false, false, false, false, false, false, false, false] rfl rfl (qj0 HT_.out (by kernel_rfl)) (fun _ _ _ h => h) (Or.inl ⟨by rfl, ?_⟩) ?_ ?_
              rotate_left
              ·intro w'
               go_simp
               with_reducible rfl
              rotate_left
              ·simp only [Act.put, List.setIfInBounds_toArray, List.set_cons_zero, List.set_cons_succ, i64_w, i32_w]
               rfl
              refine pure_ (i := 4) (N := some 130) (v := ?_) (a' := ?_) #[true, true, true, false, true, false, false, false, false, false, false] rfl rfl (qj0 HT_.out (by kernel_rfl)) (fun _ _ _ h => h) (Or.inl ⟨by rfl, ?_⟩) ?_ ?_
              rotate_left
              ·intro w'
               go_simp
               with_reducible rfl
              rotate_left
              ·simp only [Act.put, List.setIfInBounds_toArray, List.set_cons_zero, List.set_cons_succ, i64_w, i32_w]
               rfl
              refine pure_ (i := 5) (N := some 131) (v := ?_) (a' := ?_) #[true, true, true, false, true, true, false, false, false, false, false] rfl rfl (qj0 HT_.out (by kernel_rfl)) (fun _ _ _ h => h) (Or.inl ⟨by rfl, ?_⟩) ?_ ?_
              rotate_left
              ·intro w'
               go_simp
               with_reducible rfl
              rotate_left
              ·simp only [Act.put, List.setIfInBounds_toArray, List.set_cons_zero, List.set_cons_succ, i64_w, i32_w]
               rfl
              refine pure_ (i := 6) (N := some 132) (v := ?_) (a' := ?_) #[true, true, true, false, true, true, true, false, false, false, false] rfl rfl (qj0 HT_.out (by kernel_rfl)) (fun _ _ _ h => h) (Or.inl ⟨by rfl, ?_⟩) ?_ ?_
              rotate_left
              ·intro w'
               go_simp
               with_reducible rfl
              rotate_left
              ·simp only [Act.put, List.setIfInBounds_toArray, List.set_cons_zero, List.set_cons_succ, i64_w, i32_w]
               rfl
              refine take_ (i := 3) (N := some 129) (v := ?_) (a' := ?_) #[true, true, true, true, true, true, true, false, false, false, false] rfl rfl (qv0 HT_.out HW_.out (by kernel_rfl)) (fun _ _ _ h => h) (Or.inl ⟨by rfl, ?_⟩) hHeld ?_ ?_
              rotate_left
              ·rintro w' ⟨s0, s1⟩
               go_simp
               with_reducible rfl
              rotate_left
              ·simp only [Act.put, List.setIfInBounds_toArray, List.set_cons_zero, List.set_cons_succ, i64_w, i32_w]
               rfl
              refine take_ (i := 7) (N := some 133) (v := ?_) (a' := ?_) #[true, true, true, true, true, true, true, true, false, false, false] rfl rfl (qv0 HT_.out HW_.out (by kernel_rfl)) (fun _ _ _ h => h) (Or.inl ⟨by rfl, ?_⟩) hHeld ?_ ?_
              rotate_left
              ·rintro w' ⟨s0, s1⟩
               go_simp
               with_reducible rfl
              rotate_left
              ·simp only [Act.put, List.setIfInBounds_toArray, List.set_cons_zero, List.set_cons_succ, i64_w, i32_w]
               rfl
              refine pure_ (i := 8) (N := some 134) (v := ?_) (a' := ?_) #[true, true, true, true, true, true, true, true, true, false, false] rfl rfl (qj0 HT_.out (by kernel_rfl)) (fun _ _ _ h => h) (Or.inl ⟨by rfl, ?_⟩) ?_ ?_
              rotate_left
              ·intro w'
               go_simp
               with_reducible rfl
              rotate_left
              ·simp only [Act.put, List.setIfInBounds_toArray, List.set_cons_zero, List.set_cons_succ, i64_w, i32_w]
               rfl
              refine pure_ (i := 9) (N := some 135) (v := ?_) (a' := ?_) #[true, true, true, true, true, true, true, true, true, true, false] rfl rfl (qj0 HT_.out (by kernel_rfl)) (fun _ _ _ h => h) (Or.inl ⟨by rfl, ?_⟩) ?_ ?_
              rotate_left
              ·intro w'
               go_simp
               with_reducible rfl
              rotate_left
              ·simp only [Act.put, List.setIfInBounds_toArray, List.set_cons_zero, List.set_cons_succ, i64_w, i32_w]
               rfl
              refine last_ (i := 10) (N := none) #[true, true, true, true, true, true, true, true, true, true, true] rfl rfl (qw1 HT_.out (by kernel_rfl)) (by decide) (fun K hK => ?_)
              refine skip_ (w1 := ?_) (by rfl) rfl ?_ ?_
              rotate_left
              ·go_simp
               rfl
              refine hK.out _ _ ?_
              clear hK K
              refine done_ (done_of HT_.out (by kernel_rfl)) ?_
              have p83 : 0 ≤ ((rd ((rd_T152 l1 x30_2).f1) x121_5) : Int) := of_decide_eq_true (by first | (with_reducible assumption) | assumption)
              have q83 : ((rd ((rd_T152 l1 x30_2).f1) x121_5) : Int) < ((x6_5.length : Int) : Int) := of_decide_eq_true (by first | (with_reducible assumption) | assumption)
              replace p83 := eq_true p83
              replace q83 := eq_true q83
              try go_wp2_with (first | ((with_reducible refine ql0 (f := 111) rfl ?_); refine qx0 (some 140) rfl rfl Try.func111 (by kernel_rfl) rfl #[.int .i64 (wrap64 ((rd x6_5 (rd ((rd_T152 l1 x30_2).f1) x121_5)) + (rd t285 x121_5)))] rfl (by (try simp only [List.map_toArray, List.map_cons, List.map_nil]); first | done | rfl | (simp only [List.length_drop, List.length_take]; rfl)) ?_; (with_reducible refine (impl_amount.calls (wrap64 ((rd x6_5 (rd ((rd_T152 l1 x30_2).f1) x121_5)) + (rd t285 x121_5))) true _ A84.out).mono ?_); rintro e w' ⟨rfl, ⟨nd, rfl⟩⟩; refine ⟨_, rfl, ?_⟩))
              (try simp only [← hl6_5])
              go_roundg k5
              case measure => have := HJ2.out; have := HK2.out; have := HJ15.out; have := HK4.out; have := HK5.out; omega
              case rel => exact ⟨(y292), (wrap64 (x121_5 + 1)), (by first | rfl | (simp; done) | (simp [*]; done)), H', ⟨by have := HJ2.out; have := HK2.out; have := HJ15.out; have := HK4.out; have := HK5.out; omega⟩, ⟨by (try simp only [hl6_5]); (with_reducible repeat (first | apply Kd.qe0 | apply Kd.qd0 | apply Kd.qf0)); exact HQ87.out⟩, ⟨by (try simp only [hl6_5]); (with_reducible repeat (first | apply Kd.Z_alloc | apply Kd.Z_drewN | apply Kd.Z_drew)); exact Kd.Z_mono (Kd.Z_far (p := ⟨go67, ((rd ((rd_T152 l1 x30_2).f1) x121_5) : Int).toNat, none⟩) (Kd.Z_types (g := go67) (t := 3) HO_7.out (Classical.choose_spec (show ∃ a_, (_ : World).heap[go67]? = some (.cells a_ 3 (0, 0)) from (by obtain ⟨g_, c_, e_, b_, l_, a_, H_⟩ := Kd.R_form HO_6.out (by have h1_ := of_eq_true p83; have h2_ := of_eq_true q83; omega); (first | cases e_ | (injection e_ with ea_ en_ ec_; (first | subst ea_ | (injection ea_ with ea_; subst ea_)))); exact ⟨a_, H_⟩))) (by decide)) (fun _ hk => hk.2) (.int .i64 (wrap64 ((rd x6_5 (rd ((rd_T152 l1 x30_2).f1) x121_5)) + (rd t285 x121_5))))) (fun _ hk => trivial)⟩, ⟨by (try simp only [hl6_5]); (with_reducible repeat (first | apply Kd.qe0 | apply Kd.qd0 | apply Kd.qf0)); exact Kd.qq0 (Kd.R_far (p := ⟨go67, ((rd ((rd_T152 l1 x30_2).f1) x121_5) : Int).toNat, none⟩) (Kd.qq0 HO_13.out (fun k_ hk => (⟨hk, fun e_ => hk (by rw [e_]; rfl)⟩ : _ ∧ k_ ≠ go67))) (fun _ hk => hk.2) (.int .i64 (wrap64 ((rd x6_5 (rd ((rd_T152 l1 x30_2).f1) x121_5)) + (rd t285 x121_5))))) (fun _ hk => hk.1)⟩, ⟨by (try simp only [hl6_5]); (with_reducible repeat (first | refine qn0 ?_ _ | refine qp0 ?_ | refine qo0 ?_ _)); refine blk_far ?_ (by have h_ := Kd.R_ne HO_6.out BK276.out (by decide); intro e_; exact h_ (by rw [e_]; rfl)) _; (with_reducible repeat (first | refine qn0 ?_ _ | refine qp0 ?_ | refine qo0 ?_ _)); exact BK276.out⟩, ⟨by repeat (first | (with_reducible first | exact HB.out | apply qc0 | apply qa0 | apply qb0 | refine qi0 ?_ GB67.out | refine qi0 ?_ GE276.out) | exact HB.out)⟩⟩
             replace c85 := Bool.eq_false_iff.mpr c85
             subst c85
             have H1 : (some (([] : List Int), false)) = some (r1, r2) := by rw [if_neg (show ¬ (false = true) by decide)] at H; exact H
             clear H
             have H := H1
             clear H1
             simp only [Option.some.injEq, Prod.mk.injEq] at H
             obtain ⟨rfl, rfl⟩ := H
             have p289 : 0 ≤ (x121_5 : Int) := of_decide_eq_true (by first | (with_reducible assumption) | assumption)
             have q289 : x121_5 < (((rd_T152 l1 x30_2).f1).length : Int) := of_decide_eq_true (by first | (with_reducible assumption) | assumption)
             obtain ⟨ad289, e289, hx289_0⟩ := Kd.at_int HR275_1.out x121_5 p289 q289
             cases e289
             replace hx289_0 := (HB.out.cell (World.block_lt_of_cell? w _ hx289_0)).trans hx289_0
             replace p289 := eq_true p289
             replace q289 := eq_true q289
             try go_wp2
             have n0_ := Aside0.mk (Kd.qf0 HO_6.out)
             have n1_ := Aside0.mk (Kd.Z_drew HO_7.out)
             have n2_ := Aside0.mk (Kd.qf0 HO_13.out)
             have n3_ := Aside0.mk (qp0 BK276.out)
             have n4_ := Aside0.mk (qb0 HB.out)
             clear HO_6
             clear HO_7
             clear HO_13
             clear BK276
             clear HB
             have HO_6 := n0_
             have HO_7 := n1_
             have HO_13 := n2_
             have BK276 := n3_
             have HB := n4_
             clear n0_ n1_ n2_ n3_ n4_
             have p290 : 0 ≤ ((rd ((rd_T152 l1 x30_2).f1) x121_5) : Int) := of_decide_eq_true (by first | (with_reducible assumption) | assumption)
             have q290 : (rd ((rd_T152 l1 x30_2).f1) x121_5) < (x6_5.length : Int) := of_decide_eq_true (by first | (with_reducible assumption) | assumption)
             obtain ⟨ad290, e290, hx290_0⟩ := Kd.at_int (Kd.qk0 HO_6.out).2.2 (rd ((rd_T152 l1 x30_2).f1) x121_5) p290 q290
             obtain rfl : (⟨go67, 0, none⟩ : Addr) = ad290 := (by injection e290)
             (first | simp only [add_plain] at hx290_0 | simp only [add_at] at hx290_0 | simp only [Addr.add, Nat.zero_add] at hx290_0 | skip)
             replace p290 := eq_true p290
             replace q290 := eq_true q290
             have p291 : 0 ≤ (x121_5 : Int) := of_decide_eq_true (by first | (with_reducible assumption) | assumption)
             have q291 : x121_5 < (t285.length : Int) := of_decide_eq_true (by first | (with_reducible assumption) | assumption)
             obtain ⟨ad291, e291, hx291_0⟩ := Kd.at_int (Kd.qk0 HO_13.out).2.2 x121_5 p291 q291
             cases e291
             replace p291 := eq_true p291
             replace q291 := eq_true q291
             have p82 : 0 ≤ ((rd ((rd_T152 l1 x30_2).f1) x121_5) : Int) := of_decide_eq_true (by first | (with_reducible assumption) | assumption)
             have q82 : ((rd ((rd_T152 l1 x30_2).f1) x121_5) : Int) < ((x6_5.length : Int) : Int) := of_decide_eq_true (by first | (with_reducible assumption) | assumption)
             obtain ⟨hx82_0, hf82_0⟩ := Kd.qm1 0 HO_6.out ((rd ((rd_T152 l1 x30_2).f1) x121_5) : Int) p82 q82
             replace p82 := eq_true p82
             replace q82 := eq_true q82
             have HP89 := Kd.R_putn HO_6.out ((rd ((rd_T152 l1 x30_2).f1) x121_5) : Int) (wrap64 ((rd x6_5 (rd ((rd_T152 l1 x30_2).f1) x121_5)) + (rd t285 x121_5)))
             rw [← Ny292.out] at HP89
             have HQ89 := Aside0.mk HP89
             clear HP89
             refine start_ (n := 11) (S := fun w' => w'.cell? ⟨go67, ((rd ((rd_T152 l1 x30_2).f1) x121_5)).toNat, none⟩ = some (.int .i64 (rd x6_5 (rd ((rd_T152 l1 x30_2).f1) x121_5))) ∧ w'.cell? (ad291.add (x121_5).toNat) = some (.int .i64 (rd t285 x121_5))) (ds := [10]) #[false, false, false, false, false, false, false, false, false, false, false] (by kernel_rfl) rfl rfl ⟨hx290_0, hx291_0⟩ (fun hHeld => ?_); refine with_tabW impl_StepDown.tab26 impl_StepDown.bits26 (fun HT_ HW_ => ?_)
             generalize wr.drew = w88 at HO_6 HO_7 HO_13 BK276 HB HQ89 hf82_0 hx290_0 hx291_0 hx82_0 hHeld ⊢
             refine pure_ (i := 0) (N := some 126) (v := ?_) (a' := ?_) #[true, false, false, false, false, false, false, false, false, false, false] rfl rfl (qj0 HT_.out (by kernel_rfl)) (fun _ _ _ h => h) (Or.inl ⟨by rfl, ?_⟩) ?_ ?_
             rotate_left
             ·intro w'
              go_simp
              with_reducible rfl
             rotate_left
             ·simp only [Act.put, List.setIfInBounds_toArray, List.set_cons_zero, List.set_cons_succ, i64_w, i32_w]
              rfl
             refine pure_ (i := 1) (N := some 127) (v := ?_) (a' := ?_) #[true, true, false, false, false, false, false, false, false, false, false] rfl rfl (qj0 HT_.out (by kernel_rfl)) (fun _ _ _ h => h) (Or.inl ⟨by rfl, ?_⟩) ?_ ?_
             rotate_left
             ·intro w'
              go_simp
              with_reducible rfl
             rotate_left
             ·simp only [Act.put, List.setIfInBounds_toArray, List.set_cons_zero, List.set_cons_succ, i64_w, i32_w]
              rfl
             refine pure_ (i := 2) (N := some 128) (v := ?_) (a' := ?_) #[true, true, true, false, false, false, false, false, false, false, false] rfl rfl (qj0 HT_.out (by kernel_rfl)) (fun _ _ _ h => h) (Or.inl ⟨by rfl, ?_⟩) ?_ ?_
             rotate_left
             ·intro w'
              go_simp
              with_reducible rfl
             rotate_left
             ·simp only [Act.put, List.setIfInBounds_toArray, List.set_cons_zero, List.set_cons_succ, i64_w, i32_w]
              rfl
             refine pure_ (i := 4) (N := some 130) (v := ?_) (a' := ?_) #[true, true, true, false, true, false, false, false, false, false, false] rfl rfl (qj0 HT_.out (by kernel_rfl)) (fun _ _ _ h => h) (Or.inl ⟨by rfl, ?_⟩) ?_ ?_
             rotate_left
             ·intro w'
              go_simp
              with_reducible rfl
             rotate_left
             ·simp only [Act.put, List.setIfInBounds_toArray, List.set_cons_zero, List.set_cons_succ, i64_w, i32_w]
              rfl
             refine pure_ (i := 5) (N := some 131) (v := ?_) (a' := ?_) #[true, true, true, false, true, true, false, false, false, false, false] rfl rfl (qj0 HT_.out (by kernel_rfl)) (fun _ _ _ h => h) (Or.inl ⟨by rfl, ?_⟩) ?_ ?_
             rotate_left
             ·intro w'
              go_simp
              with_reducible rfl
             rotate_left
             ·simp only [Act.put, List.setIfInBounds_toArray, List.set_cons_zero, List.set_cons_succ, i64_w, i32_w]
              rfl
             refine pure_ (i := 6) (N := some 132) (v := ?_) (a' := ?_) #[true, true, true, false, true, true, true, false, false, false, false] rfl rfl (qj0 HT_.out (by kernel_rfl)) (fun _ _ _ h => h) (Or.inl ⟨by rfl, ?_⟩) ?_ ?_
             rotate_left
             ·intro w'
              go_simp
              with_reducible rfl
             rotate_left
             ·simp only [Act.put, List.setIfInBounds_toArray, List.set_cons_zero, List.set_cons_succ, i64_w, i32_w]
              rfl
             refine take_ (i := 3) (N := some 129) (v := ?_) (a' := ?_) #[true, true, true, true, true, true, true, false, false, false, false] rfl rfl (qv0 HT_.out HW_.out (by kernel_rfl)) (fun _ _ _ h => h) (Or.inl ⟨by rfl, ?_⟩) hHeld ?_ ?_
             rotate_left
             ·rintro w' ⟨s0, s1⟩
              go_simp
              with_reducible rfl
             rotate_left
             ·simp only [Act.put, List.setIfInBounds_toArray, List.set_cons_zero, List.set_cons_succ, i64_w, i32_w]
              rfl
             refine take_ (i := 7) (N := some 133) (v := ?_) (a' := ?_) #[true, true, true, true, true, true, true, true, false, false, false] rfl rfl (qv0 HT_.out HW_.out (by kernel_rfl)) (fun _ _ _ h => h) (Or.inl ⟨by rfl, ?_⟩) hHeld ?_ ?_
             rotate_left
             ·rintro w' ⟨s0, s1⟩
              go_simp
              with_reducible rfl
             rotate_left
             ·simp only [Act.put, List.setIfInBounds_toArray, List.set_cons_zero, List.set_cons_succ, i64_w, i32_w]
              rfl
             refine pure_ (i := 8) (N := some 134) (v := ?_) (a' := ?_) #[true, true, true, true, true, true, true, true, true, false, false] rfl rfl (qj0 HT_.out (by kernel_rfl)) (fun _ _ _ h => h) (Or.inl ⟨by rfl, ?_⟩) ?_ ?_
             rotate_left
             ·intro w'
              go_simp
              with_reducible rfl
             rotate_left
             ·simp only [Act.put, List.setIfInBounds_toArray, List.set_cons_zero, List.set_cons_succ, i64_w, i32_w]
              rfl
             refine pure_ (i := 9) (N := some 135) (v := ?_) (a' := ?_) #[true, true, true, true, true, true, true, true, true, true, false] rfl rfl (qj0 HT_.out (by kernel_rfl)) (fun _ _ _ h => h) (Or.inl ⟨by rfl, ?_⟩) ?_ ?_
             rotate_left
             ·intro w'
              go_simp
              with_reducible rfl
             rotate_left
             ·simp only [Act.put, List.setIfInBounds_toArray, List.set_cons_zero, List.set_cons_succ, i64_w, i32_w]
              rfl
             refine last_ (i := 10) (N := none) #[true, true, true, true, true, true, true, true, true, true, true] rfl rfl (qw1 HT_.out (by kernel_rfl)) (by decide) (fun K hK => ?_)
             refine skip_ (w1 := ?_) (by rfl) rfl ?_ ?_
             rotate_left
             ·go_simp
              rfl
             refine hK.out _ _ ?_
             clear hK K
             refine done_ (done_of HT_.out (by kernel_rfl)) ?_
             have p83 : 0 ≤ ((rd ((rd_T152 l1 x30_2).f1) x121_5) : Int) := of_decide_eq_true (by first | (with_reducible assumption) | assumption)
             have q83 : ((rd ((rd_T152 l1 x30_2).f1) x121_5) : Int) < ((x6_5.length : Int) : Int) := of_decide_eq_true (by first | (with_reducible assumption) | assumption)
             replace p83 := eq_true p83
             replace q83 := eq_true q83
             try go_wp2_with (first | ((with_reducible refine ql0 (f := 111) rfl ?_); refine qx0 (some 140) rfl rfl Try.func111 (by kernel_rfl) rfl #[.int .i64 (wrap64 ((rd x6_5 (rd ((rd_T152 l1 x30_2).f1) x121_5)) + (rd t285 x121_5)))] rfl (by (try simp only [List.map_toArray, List.map_cons, List.map_nil]); first | done | rfl | (simp only [List.length_drop, List.length_take]; rfl)) ?_; (with_reducible refine (impl_amount.calls (wrap64 ((rd x6_5 (rd ((rd_T152 l1 x30_2).f1) x121_5)) + (rd t285 x121_5))) false _ A84.out).mono ?_); rintro e w' ⟨rfl, ⟨nd, rfl⟩⟩; refine ⟨_, rfl, ?_⟩))
             go_ret2
             exact ⟨_, by first | rfl | (simp [errW_none, errW_some] <;> rfl) | (simp [*, errW_none, errW_some] <;> rfl), by first | exact Kd.R_nil _ _ _ _ _ | exact Kd.N_nil _ _ _ _ _ | exact Kd.V_nil _ _ _ _ _ | exact Kd.Q_nil _ _ _ _ _ | exact Kd.S_nil _ _ _ _ _, by repeat (first | (with_reducible first | exact HB.out | apply qc0 | apply qa0 | apply qb0 | refine qi0 ?_ GB67.out | refine qi0 ?_ GE276.out) | exact HB.out)⟩
            rw [if_neg c76] at H
            have c76b0 : decide (x121_5 < (((rd_T152 l1 x30_2).f1).length : Int)) = false := decide_eq_false c76
            clear c76
            have H' := Aside0.mk H
            clear H
            go_wp2
            (try simp only [← hl6_5])
            go_roundg k5
            case measure => have := HJ2.out; have := HK2.out; have := HJ15.out; have := HK4.out; have := HK5.out; omega
            case rel => exact ⟨(x6_5), (y277), (wrap64 (x30_2 + 1)), (by first | rfl | (simp; done) | (simp [*]; done)), H', ⟨by have := HJ2.out; have := HK2.out; have := HJ15.out; have := HK4.out; have := HK5.out; omega⟩, ⟨by (try simp only [hl6_5]); (with_reducible repeat (first | apply Kd.qe0 | apply Kd.qd0 | apply Kd.qf0)); exact Kd.qq0 HO_6.out (fun _ hk => trivial)⟩, ⟨by (try simp only [hl6_5]); (with_reducible repeat (first | apply Kd.Z_alloc | apply Kd.Z_drewN | apply Kd.Z_drew)); exact HO_7.out⟩, ⟨by repeat (first | (with_reducible first | exact HB.out | apply qc0 | apply qa0 | apply qb0 | refine qi0 ?_ GE276.out) | exact HB.out)⟩⟩
     rw [if_neg c13] at H
     have c13b0 : decide (x30_2 < (l1.length : Int)) = false := decide_eq_false c13
     clear c13
     simp only [Option.some.injEq, Prod.mk.injEq] at H
     obtain ⟨rfl, rfl⟩ := H
     go_wp2
     go_ret2
     exact ⟨_, by first | rfl | (simp [errW_none, errW_some] <;> rfl) | (simp [*, errW_none, errW_some] <;> rfl), by (with_reducible repeat (first | apply Kd.qe0 | apply Kd.qd0 | apply Kd.qf0)); exact HO_6.out, by repeat (first | (with_reducible first | exact HB.out | apply qc0 | apply qa0 | apply qb0) | exact HB.out)⟩

end Go.Proofs.Ytdnhpicgjkddbaa.PFnExactStepDown
