/- Lines by a program (a changed copy of the kit's print: this repo's wip/tools): Go functions as Lean functions, and proofs that the calls answer so. -/
import Derived.Test.YtdnhpicgjkddbaaZPFnExactStepDownx0
import Derived.Test.YtdnhpicgjkddbaaZPFnExactStepDownx1
import Derived.Test.YtdnhpicgjkddbaaZPFnExactStepDownx2
import Derived.Test.YtdnhpicgjkddbaaZPFnExactStepDownx3
namespace Go.Proofs.Ytdnhpicgjkddbaa.PFnExactStepDown
open Go.RowKit Go.Proofs.YtdnhpicgjkddbaaW.PrintWords Go.Proofs.YtdnhpicgjkddbaaW.PrintLast Go.Proofs.YtdnhpicgjkddbaaW.PrintMore
/-- Runs of true and false, by turns. -/
def rb4l : Bool → List Nat → List Bool
 | _, [] => []
 | b, n :: r => List.replicate n b ++ rb4l (!b) r
def rb4 (l : List Nat) : Array Bool := (rb4l true l).toArray
attribute [local go_sem] max2_int min2_int max_two min_two max_three min_three max_four min_four   -- for this text's walks alone
set_option linter.unusedVariables false
set_option linter.unusedSimpArgs false

/-! ### spec_StepDown: function 45 -/
mutual
def spec_StepDown.j0 : Nat → List Int → List (S152) → List Int → Bool → Option (List Int × Bool)
 | 0, _, _, _, _ => none
 | k + 1, x0, x1, x6, x22 => if x22 = true then (some (x6, false)) else ((some (([] : List Int) : List Int)).bind fun y143 => (if y143.length + x0.length < 17592186044416 then (spec_StepDown.l0 k x0 x1 x6 (y143 ++ x0) (([] : List Int)) 0) else (none)))
def spec_StepDown.l0 : Nat → List Int → List (S152) → List Int → List Int → List Int → Int → Option (List Int × Bool)
 | 0, _, _, _, _, _, _ => none
 | k + 1, x0, x1, x6, x7, x8, x9 => if x9 < (x1.length : Int) then (if 0 ≤ x9 then ((spec_l1In.f ((rd_T152 x1 x9).f0) 0 (wrap64 ((x0.length : Int) - 1))).bind fun t154 => (if t154 = true then ((spec_l7Has.f k x8 ((rd_T152 x1 x9).f0)).bind fun t155 => (if t155 = true then (spec_StepDown.j2 k x0 x1 x6 x7 x8 x9 true ((rd_T152 x1 x9).f0) ((rd_T152 x1 x9).f1) ((rd_T152 x1 x9).f2)) else (if (((rd_T152 x1 x9).f1).length : Int) = (((rd_T152 x1 x9).f2).length : Int) then (spec_StepDown.j2 k x0 x1 x6 x7 x8 x9 (decide ((((rd_T152 x1 x9).f1).length : Int) > 200)) ((rd_T152 x1 x9).f0) ((rd_T152 x1 x9).f1) ((rd_T152 x1 x9).f2)) else (spec_StepDown.j2 k x0 x1 x6 x7 x8 x9 true ((rd_T152 x1 x9).f0) ((rd_T152 x1 x9).f1) ((rd_T152 x1 x9).f2))))) else (spec_StepDown.j2 k x0 x1 x6 x7 x8 x9 true ((rd_T152 x1 x9).f0) ((rd_T152 x1 x9).f1) ((rd_T152 x1 x9).f2)))) else (none)) else (some (x7, true))
def spec_StepDown.j2 : Nat → List Int → List (S152) → List Int → List Int → List Int → Int → Bool → Int → List Int → List Int → Option (List Int × Bool)
 | 0, _, _, _, _, _, _, _, _, _, _ => none
 | k + 1, x0, x1, x6, x7, x8, x9, x65, x154000, x154001, x154002 => if x65 = true then (some (x6, false)) else (if x8.length < 17592186044416 then (spec_StepDown.l1 k x0 x1 x6 x7 (x8 ++ [x154000]) x9 0 x154000 x154001 x154002) else (none))
def spec_StepDown.l1 : Nat → List Int → List (S152) → List Int → List Int → List Int → Int → Int → Int → List Int → List Int → Option (List Int × Bool)
 | 0, _, _, _, _, _, _, _, _, _, _ => none
 | k + 1, x0, x1, x6, x7, x8, x9, x11, x154000, x154001, x154002 => if x11 < (x154001.length : Int) then (if 0 ≤ x11 then ((spec_l1In.f (rd x154001 x11) 0 (wrap64 ((x0.length : Int) - 1))).bind fun t160 => (if t160 = true then ((spec_l7Has.f k x8 (rd x154001 x11)).bind fun t162 => (if t162 = true then (some (x6, false)) else (if x11 ≤ (x154001.length : Int) then ((spec_l7Has.f k (x154001.take (x11 : Int).toNat) (rd x154001 x11)).bind fun t165 => (if t165 = true then (some (x6, false)) else (spec_StepDown.l1 k x0 x1 x6 x7 x8 x9 (wrap64 (x11 + 1)) x154000 x154001 x154002))) else (none)))) else (some (x6, false)))) else (none)) else (if 0 ≤ x154000 then (if x154000 < (x7.length : Int) then ((spec_Shares.f k (rd x7 x154000) x154002).bind fun t167 => (if (t167.length : Int) = 0 then (some (x6, false)) else (spec_StepDown.l2 k x0 x1 x6 (x7.set (x154000 : Int).toNat 0) x8 x9 t167 0 x154000 x154001 x154002))) else (none)) else (none))
def spec_StepDown.l2 : Nat → List Int → List (S152) → List Int → List Int → List Int → Int → List Int → Int → Int → List Int → List Int → Option (List Int × Bool)
 | 0, _, _, _, _, _, _, _, _, _, _, _ => none
 | k + 1, x0, x1, x6, x7, x8, x9, x12, x13, x154000, x154001, x154002 => if x13 < (x12.length : Int) then (if 0 ≤ x13 then (if x13 < (x154001.length : Int) then (if 0 ≤ (rd x154001 x13) then (if (rd x154001 x13) < (x7.length : Int) then ((spec_l1Amount.f (wrap64 ((rd x7 (rd x154001 x13)) + (rd x12 x13)))).bind fun t178 => (if t178 = true then (spec_StepDown.l2 k x0 x1 x6 (x7.set ((rd x154001 x13) : Int).toNat (wrap64 ((rd x7 (rd x154001 x13)) + (rd x12 x13)))) x8 x9 x12 (wrap64 (x13 + 1)) x154000 x154001 x154002) else (some (x6, false)))) else (none)) else (none)) else (none)) else (none)) else (spec_StepDown.l0 k x0 x1 x6 x7 x8 (wrap64 (x9 + 1)))
end
def spec_StepDown.f (k : Nat) (l0 : List Int) (l1 : List (S152)) : Option (List Int × Bool) := (some (([] : List Int) : List Int)).bind fun y139 => ((spec_l7Costs.f k l0).bind fun t142 => (if t142 = true then (spec_StepDown.j0 k l0 l1 y139 (decide ((l1.length : Int) > 40))) else (spec_StepDown.j0 k l0 l1 y139 true)))
theorem spec_StepDown.mono_l : ∀ k, (∀ y0 y1 y2 y3, LeO (spec_StepDown.j0 k y0 y1 y2 y3) (spec_StepDown.j0 (k + 1) y0 y1 y2 y3)) ∧ (∀ y0 y1 y2 y3 y4 y5, LeO (spec_StepDown.l0 k y0 y1 y2 y3 y4 y5) (spec_StepDown.l0 (k + 1) y0 y1 y2 y3 y4 y5)) ∧ (∀ y0 y1 y2 y3 y4 y5 y6 y7 y8 y9, LeO (spec_StepDown.j2 k y0 y1 y2 y3 y4 y5 y6 y7 y8 y9) (spec_StepDown.j2 (k + 1) y0 y1 y2 y3 y4 y5 y6 y7 y8 y9)) ∧ (∀ y0 y1 y2 y3 y4 y5 y6 y7 y8 y9, LeO (spec_StepDown.l1 k y0 y1 y2 y3 y4 y5 y6 y7 y8 y9) (spec_StepDown.l1 (k + 1) y0 y1 y2 y3 y4 y5 y6 y7 y8 y9)) ∧ (∀ y0 y1 y2 y3 y4 y5 y6 y7 y8 y9 y10, LeO (spec_StepDown.l2 k y0 y1 y2 y3 y4 y5 y6 y7 y8 y9 y10) (spec_StepDown.l2 (k + 1) y0 y1 y2 y3 y4 y5 y6 y7 y8 y9 y10))
 | 0 => ⟨fun _ _ _ _ r h => by simp [spec_StepDown.j0] at h, fun _ _ _ _ _ _ r h => by simp [spec_StepDown.l0] at h, fun _ _ _ _ _ _ _ _ _ _ r h => by simp [spec_StepDown.j2] at h, fun _ _ _ _ _ _ _ _ _ _ r h => by simp [spec_StepDown.l1] at h, fun _ _ _ _ _ _ _ _ _ _ _ r h => by simp [spec_StepDown.l2] at h⟩
 | k + 1 => by
  obtain ⟨ih0, ih1, ih2, ih3, ih4⟩ := spec_StepDown.mono_l k
  refine ⟨?_, ?_, ?_, ?_, ?_⟩
  ·intro y0 y1 y2 y3
   unfold spec_StepDown.j0
   repeat' first
   | (with_reducible exact ih0 _ _ _ _)
   | (with_reducible exact ih1 _ _ _ _ _ _)
   | (with_reducible exact ih2 _ _ _ _ _ _ _ _ _ _)
   | (with_reducible exact ih3 _ _ _ _ _ _ _ _ _ _)
   | (with_reducible exact ih4 _ _ _ _ _ _ _ _ _ _ _)
   | (with_reducible exact spec_Shares.mono _ _ _)
   | (with_reducible exact spec_l7Costs.mono _ _)
   | (with_reducible exact spec_l7Has.mono _ _ _)
   | (with_reducible exact LeO.refl _)
   | (with_reducible exact LeO.none _)
   | (with_reducible refine LeO.ite ?_ ?_)
   | (with_reducible refine LeO.bind ?_ (fun _ => ?_))
   | exact ih0 _ _ _ _
   | exact ih1 _ _ _ _ _ _
   | exact ih2 _ _ _ _ _ _ _ _ _ _
   | exact ih3 _ _ _ _ _ _ _ _ _ _
   | exact ih4 _ _ _ _ _ _ _ _ _ _ _
   | exact spec_Shares.mono _ _ _
   | exact spec_l7Costs.mono _ _
   | exact spec_l7Has.mono _ _ _
   | exact LeO.none _
   | refine LeO.ite ?_ ?_
   | refine LeO.bind ?_ (fun _ => ?_)
  ·intro y0 y1 y2 y3 y4 y5
   unfold spec_StepDown.l0
   repeat' first
   | (with_reducible exact ih0 _ _ _ _)
   | (with_reducible exact ih1 _ _ _ _ _ _)
   | (with_reducible exact ih2 _ _ _ _ _ _ _ _ _ _)
   | (with_reducible exact ih3 _ _ _ _ _ _ _ _ _ _)
   | (with_reducible exact ih4 _ _ _ _ _ _ _ _ _ _ _)
   | (with_reducible exact spec_Shares.mono _ _ _)
   | (with_reducible exact spec_l7Costs.mono _ _)
   | (with_reducible exact spec_l7Has.mono _ _ _)
   | (with_reducible exact LeO.refl _)
   | (with_reducible exact LeO.none _)
   | (with_reducible refine LeO.ite ?_ ?_)
   | (with_reducible refine LeO.bind ?_ (fun _ => ?_))
   | exact ih0 _ _ _ _
   | exact ih1 _ _ _ _ _ _
   | exact ih2 _ _ _ _ _ _ _ _ _ _
   | exact ih3 _ _ _ _ _ _ _ _ _ _
   | exact ih4 _ _ _ _ _ _ _ _ _ _ _
   | exact spec_Shares.mono _ _ _
   | exact spec_l7Costs.mono _ _
   | exact spec_l7Has.mono _ _ _
   | exact LeO.none _
   | refine LeO.ite ?_ ?_
   | refine LeO.bind ?_ (fun _ => ?_)
  ·intro y0 y1 y2 y3 y4 y5 y6 y7 y8 y9
   unfold spec_StepDown.j2
   repeat' first
   | (with_reducible exact ih0 _ _ _ _)
   | (with_reducible exact ih1 _ _ _ _ _ _)
   | (with_reducible exact ih2 _ _ _ _ _ _ _ _ _ _)
   | (with_reducible exact ih3 _ _ _ _ _ _ _ _ _ _)
   | (with_reducible exact ih4 _ _ _ _ _ _ _ _ _ _ _)
   | (with_reducible exact spec_Shares.mono _ _ _)
   | (with_reducible exact spec_l7Costs.mono _ _)
   | (with_reducible exact spec_l7Has.mono _ _ _)
   | (with_reducible exact LeO.refl _)
   | (with_reducible exact LeO.none _)
   | (with_reducible refine LeO.ite ?_ ?_)
   | (with_reducible refine LeO.bind ?_ (fun _ => ?_))
   | exact ih0 _ _ _ _
   | exact ih1 _ _ _ _ _ _
   | exact ih2 _ _ _ _ _ _ _ _ _ _
   | exact ih3 _ _ _ _ _ _ _ _ _ _
   | exact ih4 _ _ _ _ _ _ _ _ _ _ _
   | exact spec_Shares.mono _ _ _
   | exact spec_l7Costs.mono _ _
   | exact spec_l7Has.mono _ _ _
   | exact LeO.none _
   | refine LeO.ite ?_ ?_
   | refine LeO.bind ?_ (fun _ => ?_)
  ·intro y0 y1 y2 y3 y4 y5 y6 y7 y8 y9
   unfold spec_StepDown.l1
   repeat' first
   | (with_reducible exact ih0 _ _ _ _)
   | (with_reducible exact ih1 _ _ _ _ _ _)
   | (with_reducible exact ih2 _ _ _ _ _ _ _ _ _ _)
   | (with_reducible exact ih3 _ _ _ _ _ _ _ _ _ _)
   | (with_reducible exact ih4 _ _ _ _ _ _ _ _ _ _ _)
   | (with_reducible exact spec_Shares.mono _ _ _)
   | (with_reducible exact spec_l7Costs.mono _ _)
   | (with_reducible exact spec_l7Has.mono _ _ _)
   | (with_reducible exact LeO.refl _)
   | (with_reducible exact LeO.none _)
   | (with_reducible refine LeO.ite ?_ ?_)
   | (with_reducible refine LeO.bind ?_ (fun _ => ?_))
   | exact ih0 _ _ _ _
   | exact ih1 _ _ _ _ _ _
   | exact ih2 _ _ _ _ _ _ _ _ _ _
   | exact ih3 _ _ _ _ _ _ _ _ _ _
   | exact ih4 _ _ _ _ _ _ _ _ _ _ _
   | exact spec_Shares.mono _ _ _
   | exact spec_l7Costs.mono _ _
   | exact spec_l7Has.mono _ _ _
   | exact LeO.none _
   | refine LeO.ite ?_ ?_
   | refine LeO.bind ?_ (fun _ => ?_)
  ·intro y0 y1 y2 y3 y4 y5 y6 y7 y8 y9 y10
   unfold spec_StepDown.l2
   repeat' first
   | (with_reducible exact ih0 _ _ _ _)
   | (with_reducible exact ih1 _ _ _ _ _ _)
   | (with_reducible exact ih2 _ _ _ _ _ _ _ _ _ _)
   | (with_reducible exact ih3 _ _ _ _ _ _ _ _ _ _)
   | (with_reducible exact ih4 _ _ _ _ _ _ _ _ _ _ _)
   | (with_reducible exact spec_Shares.mono _ _ _)
   | (with_reducible exact spec_l7Costs.mono _ _)
   | (with_reducible exact spec_l7Has.mono _ _ _)
   | (with_reducible exact LeO.refl _)
   | (with_reducible exact LeO.none _)
   | (with_reducible refine LeO.ite ?_ ?_)
   | (with_reducible refine LeO.bind ?_ (fun _ => ?_))
   | exact ih0 _ _ _ _
   | exact ih1 _ _ _ _ _ _
   | exact ih2 _ _ _ _ _ _ _ _ _ _
   | exact ih3 _ _ _ _ _ _ _ _ _ _
   | exact ih4 _ _ _ _ _ _ _ _ _ _ _
   | exact spec_Shares.mono _ _ _
   | exact spec_l7Costs.mono _ _
   | exact spec_l7Has.mono _ _ _
   | exact LeO.none _
   | refine LeO.ite ?_ ?_
   | refine LeO.bind ?_ (fun _ => ?_)
theorem spec_StepDown.mono : ∀ a0 a1 k, LeO (spec_StepDown.f k a0 a1) (spec_StepDown.f (k + 1) a0 a1) := by
 intro a0 a1 k
 obtain ⟨ih0, ih1, ih2, ih3, ih4⟩ := spec_StepDown.mono_l k
 unfold spec_StepDown.f
 repeat' first
   | (with_reducible exact ih0 _ _ _ _)
   | (with_reducible exact ih1 _ _ _ _ _ _)
   | (with_reducible exact ih2 _ _ _ _ _ _ _ _ _ _)
   | (with_reducible exact ih3 _ _ _ _ _ _ _ _ _ _)
   | (with_reducible exact ih4 _ _ _ _ _ _ _ _ _ _ _)
   | (with_reducible exact spec_Shares.mono _ _ _)
   | (with_reducible exact spec_l7Costs.mono _ _)
   | (with_reducible exact spec_l7Has.mono _ _ _)
   | (with_reducible exact LeO.refl _)
   | (with_reducible exact LeO.none _)
   | (with_reducible refine LeO.ite ?_ ?_)
   | (with_reducible refine LeO.bind ?_ (fun _ => ?_))
   | exact ih0 _ _ _ _
   | exact ih1 _ _ _ _ _ _
   | exact ih2 _ _ _ _ _ _ _ _ _ _
   | exact ih3 _ _ _ _ _ _ _ _ _ _
   | exact ih4 _ _ _ _ _ _ _ _ _ _ _
   | exact spec_Shares.mono _ _ _
   | exact spec_l7Costs.mono _ _
   | exact spec_l7Has.mono _ _ _
   | exact LeO.none _
   | refine LeO.ite ?_ ?_
   | refine LeO.bind ?_ (fun _ => ?_)
def spec_StepDown.T16 : Bool × List (List Nat × List Nat) := (true, [([], []), ([0], [0]), ([], []), ([1, 2], [1, 2]), ([3], [3]), ([], []), ([5], [5]), ([6], [6]), ([4, 7], [4, 7]), ([8], [8]), ([9, 8], [9]), ([10], [10]), ([10], [10]), ([12, 10], [10, 12]), ([10], [10]), ([13, 14, 10], [10, 13, 14]), ([15, 10], [10, 15]), ([11, 16, 10, 10], [10, 11, 16]), ([10, 17], [10, 17]), ([18, 17], [18]), ([19], [19]), ([20, 19], [19, 20]), ([19], [19]), ([21, 22, 19], [19, 21, 22]), ([19], [19]), ([24, 19], [19, 24]), ([19], [19]), ([25, 26, 19], [19, 25, 26]), ([27, 19], [19, 27]), ([23, 28, 19, 19], [19, 23, 28]), ([19, 29], [19, 29])])
def spec_StepDown.B16 : List Nat := [0, 1, 0, 7, 15, 0, 32, 96, 255, 511, 1023, 2047, 2047, 6143, 2047, 30719, 63487, 131071, 262143, 524287, 1048575, 2097151, 1048575, 8388607, 1048575, 17825791, 1048575, 118489087, 252706815, 536870911, 1073741823]
theorem spec_StepDown.tab16 : rtab .any (opsOf Try.f45 16) = spec_StepDown.T16 := by kernel_rfl
theorem spec_StepDown.bits16 : waitsOk spec_StepDown.T16.2 spec_StepDown.B16 = true := by kernel_rfl
def spec_StepDown.T18 : Bool × List (List Nat × List Nat) := (true, [([], []), ([], []), ([1], [1]), ([0, 2], [0, 2]), ([3], [3]), ([], []), ([5], [5]), ([4, 6], [4, 6]), ([7, 7, 0, 1, 2, 3, 4, 5, 6, 7], [7])])
def spec_StepDown.B18 : List Nat := [0, 0, 2, 7, 15, 0, 32, 127, 255]
theorem spec_StepDown.tab18 : rtab .any (opsOf Try.f45 18) = spec_StepDown.T18 := by kernel_rfl
theorem spec_StepDown.bits18 : waitsOk spec_StepDown.T18.2 spec_StepDown.B18 = true := by kernel_rfl
def spec_StepDown.T25 : Bool × List (List Nat × List Nat) := (true, [([], []), ([], []), ([1], [1]), ([], []), ([2, 3], [2, 3]), ([4], [4]), ([], []), ([], []), ([7], [7]), ([], []), ([8, 9], [8, 9]), ([10], [10]), ([6, 11], [6, 11]), ([12], [12]), ([], []), ([], []), ([14, 15], [14, 15]), ([16], [16]), ([13, 17], [13, 17]), ([0, 5, 0, 1, 2, 3, 4, 5, 6, 7, 8, 9, 10, 11, 12, 13, 14, 15, 16, 17, 18], [0, 5]), ([19, 18, 0, 1, 2, 3, 4, 5, 6, 7, 8, 9, 10, 11, 12, 13, 14, 15, 16, 17, 18], [18, 19])])
def spec_StepDown.B25 : List Nat := [0, 0, 2, 0, 14, 30, 0, 0, 128, 0, 896, 1920, 4032, 8128, 0, 0, 49152, 114688, 262080, 524287, 1048575]
theorem spec_StepDown.tab25 : rtab .any (opsOf Try.f45 25) = spec_StepDown.T25 := by kernel_rfl
theorem spec_StepDown.bits25 : waitsOk spec_StepDown.T25.2 spec_StepDown.B25 = true := by kernel_rfl
set_option maxHeartbeats 8000000 in
set_option maxRecDepth 100000 in
theorem spec_StepDown.calls (k : Nat) (A0 : Option Addr) (c0 : Nat) (l0 : List Int) (A1 : Option Addr) (c1 : Nat) (l1 : List (S152)) (r1 : List Int) (r2 : Bool) (w : World) (hr0 : Kd.C (Kd.int .i64) w A0 l0.length l0) (hc0 : l0.length ≤ c0) (hr1 : Kd.C k152 w A1 l1.length l1) (hc1 : l1.length ≤ c1) (h : spec_StepDown.f k l0 l1 = some (r1, r2)) :
  Calls Try.prog 45 #[.slice A0 l0.length c0, .slice A1 l1.length c1] w fun e w' => ∃ v0_ : Value, e = .returned (.tuple #[v0_, .bool r2]) ∧ Kd.R (Kd.int .i64) 3 w' w.heap.size (fun _ => True) v0_ r1 ∧ Below w.heap.size w w' := by
 have hu152 := Try.underlying152
 have HR0 := Aside0.mk hr0
 have HC0 := Aside0.mk hc0
 clear hr0 hc0
 have HR1 := Aside0.mk hr1
 have HC1 := Aside0.mk hc1
 clear hr1 hc1
 have HB := Aside0.mk (Below.refl w.heap.size w)
 have H : ((some (([] : List Int) : List Int)).bind fun y139 => ((spec_l7Costs.f k l0).bind fun t142 => (if t142 = true then (spec_StepDown.j0 k l0 l1 y139 (decide ((l1.length : Int) > 40))) else (spec_StepDown.j0 k l0 l1 y139 true)))) = some (r1, r2) := h
 clear h
 obtain ⟨y139, hy139⟩ : ∃ y_ : List Int, y_ = (([] : List Int)) := ⟨_, rfl⟩
 replace H : ((spec_l7Costs.f k l0).bind fun t142 => (if t142 = true then (spec_StepDown.j0 k l0 l1 y139 (decide ((l1.length : Int) > 40))) else (spec_StepDown.j0 k l0 l1 y139 true))) = some (r1, r2) := by first | (rw [hy139]; with_reducible exact H) | (have H2_ := (Option.bind_some _ _).symm.trans H; rw [hy139]; with_reducible exact H2_) | (have H2_ := (Option.bind_some _ _).symm.trans H; with_reducible exact H2_) | with_reducible exact H | (rw [hy139]; exact H) | exact H
 have Ny139 := Aside0.mk hy139
 clear hy139
 have HC3 := Aside0.mk H
 clear H
 go_enter Try.func45, Try.ntmps45
 go_upto_region 2 with (first | ((with_reducible refine qa1 (N := 14) rfl ?_); (try (refine qw0 (by rfl) ?_; dsimp only)); refine Kd.R_lit (Kd.int .i64) _ 3 ?hg (N := 14) ?hd (xs := ([] : List Int)) (inner := []) (ok := fun _ => True) (okp := fun _ => True) ?hr ?hp (fun _ hk => hk) trivial (Below.refl _ _) (Nat.le_refl _) (by simp) ?_; (case hd => rfl); (case hg => rfl); (case hr => first | (go_simp; done) | (go_simp; rfl)); (case hp => exact (Reps.none _ _)); intro v140 w4 ho5 hb hg_ hnew_; clear hg_ hnew_; (first | rw [← Ny139.out] at ho5 | (simp only [Int.reduceToNat] at ho5; rw [← Ny139.out] at ho5)); have n0_ := Aside0.mk (Kd.qj1 ho5 (qm0 (by repeat (first | (with_reducible first | exact HB.out | apply qc0 | apply qa0 | apply qb0) | exact HB.out)))); have n1_ := Aside0.mk (qr0 (by repeat (first | (with_reducible first | exact HB.out | apply qc0 | apply qa0 | apply qb0) | exact HB.out)) hb); clear HB; have HO141 := n0_; have HB := n1_; clear n0_ n1_; clear hb ho5))
 (try simp only [Act.put, List.setIfInBounds_toArray, List.set_cons_zero, List.set_cons_succ])
 go_cut [22] (fun v22 wc => ∃ (kq : Nat) (x22_2 : Bool), v22 = .bool x22_2 ∧ Aside0 (spec_StepDown.j0 kq l0 l1 y139 x22_2 = some (r1, r2)) ∧ Aside0 (kq ≤ k) ∧ Aside0 (Kd.R (Kd.int .i64) 3 wc w.heap.size (fun _ => True) v140 y139) ∧ Aside0 (Below w.heap.size w wc))
 case first =>
  have H := HC3.out
  clear HC3
  replace H := Option.bind_eq_some_iff.mp H
  obtain ⟨t142, A60, H⟩ := H
  replace H : (if t142 = true then (spec_StepDown.j0 k l0 l1 y139 (decide ((l1.length : Int) > 40))) else (spec_StepDown.j0 k l0 l1 y139 true)) = some (r1, r2) := H
  have A6 := Aside0.mk A60
  clear A60
  by_cases c7 : t142 = true
  ·subst c7
   have H1 : (spec_StepDown.j0 k l0 l1 y139 (decide ((l1.length : Int) > 40))) = some (r1, r2) := by rw [if_pos rfl] at H; exact H
   clear H
   have H := H1
   clear H1
   have H' := Aside0.mk H
   clear H
   go_wp2_with (first | ((with_reducible refine ql0 (f := 106) rfl ?_); refine qx0 (some 16) rfl rfl Try.func106 (by kernel_rfl) rfl #[.slice A0 l0.length c0] rfl (by (try simp only [List.map_toArray, List.map_cons, List.map_nil]); first | done | rfl | (simp only [List.length_drop, List.length_take]; rfl)) ?_; (with_reducible refine (spec_l7Costs.calls k _ _ l0 true _ ?side1 ?side2 A6.out).mono ?_); (case side1 => repeat (first | exact (Kd.qz0 HR0.out HB.out) | (with_reducible refine Kd.qt0 ?_ _) | (with_reducible refine Kd.qs0 ?_ _) | (with_reducible refine Kd.qu0 ?_))); (case side2 => exact HC0.out); rintro e w' ⟨rfl, ⟨nd, rfl⟩⟩; refine ⟨_, rfl, ?_⟩))
   go_meet
   case rel => exact ⟨_, (decide ((l1.length : Int) > 40)), (by first | rfl | (simp; done) | (simp [*]; done)), H', ⟨by first | omega | exact Nat.le_refl _⟩, ⟨by (with_reducible repeat (first | apply Kd.qe0 | apply Kd.qd0 | apply Kd.qf0)); exact HO141.out⟩, ⟨by repeat (first | (with_reducible first | exact HB.out | apply qc0 | apply qa0 | apply qb0) | exact HB.out)⟩⟩
  replace c7 := Bool.eq_false_iff.mpr c7
  subst c7
  have H1 : (spec_StepDown.j0 k l0 l1 y139 true) = some (r1, r2) := by rw [if_neg (show ¬ (false = true) by decide)] at H; exact H
  clear H
  have H := H1
  clear H1
  have H' := Aside0.mk H
  clear H
  go_wp2_with (first | ((with_reducible refine ql0 (f := 106) rfl ?_); refine qx0 (some 16) rfl rfl Try.func106 (by kernel_rfl) rfl #[.slice A0 l0.length c0] rfl (by (try simp only [List.map_toArray, List.map_cons, List.map_nil]); first | done | rfl | (simp only [List.length_drop, List.length_take]; rfl)) ?_; (with_reducible refine (spec_l7Costs.calls k _ _ l0 false _ ?side1 ?side2 A6.out).mono ?_); (case side1 => repeat (first | exact (Kd.qz0 HR0.out HB.out) | (with_reducible refine Kd.qt0 ?_ _) | (with_reducible refine Kd.qs0 ?_ _) | (with_reducible refine Kd.qu0 ?_))); (case side2 => exact HC0.out); rintro e w' ⟨rfl, ⟨nd, rfl⟩⟩; refine ⟨_, rfl, ?_⟩))
  go_meet
  case rel => exact ⟨_, (true), (by first | rfl | (simp; done) | (simp [*]; done)), H', ⟨by first | omega | exact Nat.le_refl _⟩, ⟨by (with_reducible repeat (first | apply Kd.qe0 | apply Kd.qd0 | apply Kd.qf0)); exact HO141.out⟩, ⟨by repeat (first | (with_reducible first | exact HB.out | apply qc0 | apply qa0 | apply qb0) | exact HB.out)⟩⟩
 case rest =>
  clear HC3
  try clear c1
  try clear p2
  try clear c4
  try clear c7
  obtain ⟨kq, x22_2, rfl, HA, HJ2, HO_6, HB⟩ := hcut
  cases kq with
  | zero => exact absurd HA.out (by simp [spec_StepDown.j0])
  | succ kj2 =>
   have H := HA.out
   clear HA
   simp only [spec_StepDown.j0] at H
   by_cases c8 : x22_2 = true
   ·subst c8
    have H1 : (some (y139, false)) = some (r1, r2) := by rw [if_pos rfl] at H; exact H
    clear H
    have H := H1
    clear H1
    simp only [Option.some.injEq, Prod.mk.injEq] at H
    obtain ⟨rfl, rfl⟩ := H
    go_wp2
    go_ret2
    exact ⟨_, by first | rfl | (simp [errW_none, errW_some] <;> rfl) | (simp [*, errW_none, errW_some] <;> rfl), by (with_reducible repeat (first | apply Kd.qe0 | apply Kd.qd0 | apply Kd.qf0)); exact HO_6.out, by repeat (first | (with_reducible first | exact HB.out | apply qc0 | apply qa0 | apply qb0) | exact HB.out)⟩
   replace c8 := Bool.eq_false_iff.mpr c8
   subst c8
   have H1 : ((some (([] : List Int) : List Int)).bind fun y143 => (if y143.length + l0.length < 17592186044416 then (spec_StepDown.l0 kj2 l0 l1 y139 (y143 ++ l0) (([] : List Int)) 0) else (none))) = some (r1, r2) := by rw [if_neg (show ¬ (false = true) by decide)] at H; exact H
   clear H
   have H := H1
   clear H1
   obtain ⟨y143, hy143⟩ : ∃ y_ : List Int, y_ = (([] : List Int)) := ⟨_, rfl⟩
   replace H : (if y143.length + l0.length < 17592186044416 then (spec_StepDown.l0 kj2 l0 l1 y139 (y143 ++ l0) (([] : List Int)) 0) else (none)) = some (r1, r2) := by first | (rw [hy143]; with_reducible exact H) | (have H2_ := (Option.bind_some _ _).symm.trans H; rw [hy143]; with_reducible exact H2_) | (have H2_ := (Option.bind_some _ _).symm.trans H; with_reducible exact H2_) | with_reducible exact H | (rw [hy143]; exact H) | exact H
   have Ny143 := Aside0.mk hy143
   clear hy143
   by_cases c9 : y143.length + l0.length < 17592186044416
   case neg => rw [if_neg c9] at H; exact absurd H (by simp)
   rw [if_pos c9] at H
   have LMc9 := Aside0.mk c9
   clear c9
   obtain ⟨y146, hy146⟩ : ∃ y_ : List Int, y_ = (y143 ++ l0) := ⟨_, rfl⟩
   replace H : (spec_StepDown.l0 kj2 l0 l1 y139 y146 (([] : List Int)) 0) = some (r1, r2) := by first | (rw [hy146]; with_reducible exact H) | (have H2_ := (Option.bind_some _ _).symm.trans H; rw [hy146]; with_reducible exact H2_) | (have H2_ := (Option.bind_some _ _).symm.trans H; with_reducible exact H2_) | with_reducible exact H | (rw [hy146]; exact H) | exact H
   have Ny146 := Aside0.mk hy146
   clear hy146
   obtain ⟨y149, hy149⟩ : ∃ y_ : List Int, y_ = (([] : List Int)) := ⟨_, rfl⟩
   replace H : (spec_StepDown.l0 kj2 l0 l1 y139 y146 y149 0) = some (r1, r2) := by first | (rw [hy149]; with_reducible exact H) | (have H2_ := (Option.bind_some _ _).symm.trans H; rw [hy149]; with_reducible exact H2_) | (have H2_ := (Option.bind_some _ _).symm.trans H; with_reducible exact H2_) | with_reducible exact H | (rw [hy149]; exact H) | exact H
   have Ny149 := Aside0.mk hy149
   clear hy149
   have H' := Aside0.mk H
   clear H
   go_wp2_with (first | ((with_reducible refine qa1 (N := 24) rfl ?_); (try (refine qw0 (by rfl) ?_; dsimp only)); refine Kd.R_lit (Kd.int .i64) _ 3 ?hg (N := 24) ?hd (xs := ([] : List Int)) (inner := []) (ok := fun _ => True) (okp := fun _ => True) ?hr ?hp (fun _ hk => hk) trivial (Below.refl _ _) (Nat.le_refl _) (by simp) ?_; (case hd => rfl); (case hg => rfl); (case hr => first | (go_simp; done) | (go_simp; rfl)); (case hp => exact (Reps.none _ _)); intro v144 w10 ho11 hb hg_ hnew_; clear hg_ hnew_; (first | rw [← Ny143.out] at ho11 | (simp only [Int.reduceToNat] at ho11; rw [← Ny143.out] at ho11)); have n0_ := Aside0.mk (Kd.qb1 (by (with_reducible repeat (first | apply Kd.qe0 | apply Kd.qd0 | apply Kd.qf0)); exact HO_6.out) (Kd.qg1 ho11) hb); have n1_ := Aside0.mk (Kd.qj1 (Kd.ql1 ho11 (Kd.R_lt (by (with_reducible repeat (first | apply Kd.qe0 | apply Kd.qd0 | apply Kd.qf0)); exact HO_6.out))) (qm0 (by repeat (first | (with_reducible first | exact HB.out | apply qc0 | apply qa0 | apply qb0) | exact HB.out)))); have n2_ := Aside0.mk (qr0 (by repeat (first | (with_reducible first | exact HB.out | apply qc0 | apply qa0 | apply qb0) | exact HB.out)) hb); clear HO_6; clear HB; have HO_6 := n0_; have HO145 := n1_; have HB := n2_; clear n0_ n1_ n2_; clear hb ho11) | ((with_reducible refine gate_builtin (b := .append) (xs := #[.tmp 24, .tmp 25]) rfl ?_); (try (refine qw0 (by rfl) ?_; dsimp only)); at_builtin; refine Kd.R_append_rows (Kd.int .i64) (w0 := w) w.heap.size rfl (.tmp 24) (.tmp 25) 25 3 (.int .i64 0) 8 rfl Try.underlying25 info3 rfl (by decide) (by omega) v144 y143 l0 _ _ _ (fun k_ => some k_ ≠ (v140 : Value).ownBlock) (fun _ => False) rfl rfl ?aO ?aR (fun _ _ h => h) (fun _ h => h.elim) ?aF ?aB ?aS ?aL ?_; (case aR => repeat (first | exact (Kd.qz0 HR0.out HB.out) | (with_reducible refine Kd.qt0 ?_ _) | (with_reducible refine Kd.qs0 ?_ _) | (with_reducible refine Kd.qu0 ?_))); (case aB => exact (by repeat (first | (with_reducible first | exact HB.out | apply qc0 | apply qa0 | apply qb0) | exact HB.out))); (case aF => exact (fun k_ hk => Kd.fresh' (Kd.R_lt (by (with_reducible repeat (first | apply Kd.qe0 | apply Kd.qd0 | apply Kd.qf0)); exact HO_6.out)) k_ hk)); (case aO => exact (by (with_reducible repeat (first | apply Kd.qe0 | apply Kd.qd0 | apply Kd.qf0)); exact Kd.qq0 HO145.out (fun _ hk => hk.2))); (case aS => exact (qm0 (by repeat (first | (with_reducible first | exact HB.out | apply qc0 | apply qa0 | apply qb0) | exact HB.out)))); (case aL => have := LMc9.out; omega); intro v147 w12 ho hb hg hat; rw [← Ny146.out] at ho; have n0_ := Aside0.mk (Kd.qk1 (ok := (fun _ => True)) (by (with_reducible repeat (first | apply Kd.qe0 | apply Kd.qd0 | apply Kd.qf0)); exact HO_6.out) hg hat); have n1_ := Aside0.mk (hb); have n2_ := Aside0.mk (ho); clear HO_6; clear HB; clear HO145; have HO_6 := n0_; have HB := n1_; have HO148 := n2_; clear n0_ n1_ n2_; clear ho hb hg hat) | ((with_reducible refine qa1 (N := 27) rfl ?_); (try (refine qw0 (by rfl) ?_; dsimp only)); refine Kd.R_lit (Kd.int .i64) _ 3 ?hg (N := 27) ?hd (xs := ([] : List Int)) (inner := []) (ok := fun _ => True) (okp := fun _ => True) ?hr ?hp (fun _ hk => hk) trivial (Below.refl _ _) (Nat.le_refl _) (by simp) ?_; (case hd => rfl); (case hg => rfl); (case hr => first | (go_simp; done) | (go_simp; rfl)); (case hp => exact (Reps.none _ _)); intro v150 w13 ho14 hb hg_ hnew_; clear hg_ hnew_; (first | rw [← Ny149.out] at ho14 | (simp only [Int.reduceToNat] at ho14; rw [← Ny149.out] at ho14)); have n0_ := Aside0.mk (Kd.qb1 (by (with_reducible repeat (first | apply Kd.qe0 | apply Kd.qd0 | apply Kd.qf0)); exact HO_6.out) (Kd.qg1 ho14) hb); have n1_ := Aside0.mk (Kd.qb1 (by (with_reducible repeat (first | apply Kd.qe0 | apply Kd.qd0 | apply Kd.qf0)); exact HO148.out) (Kd.qg1 ho14) hb); have n2_ := Aside0.mk (Kd.qj1 (Kd.ql1 (Kd.ql1 ho14 (Kd.R_lt (by (with_reducible repeat (first | apply Kd.qe0 | apply Kd.qd0 | apply Kd.qf0)); exact HO_6.out))) (Kd.R_lt (by (with_reducible repeat (first | apply Kd.qe0 | apply Kd.qd0 | apply Kd.qf0)); exact HO148.out))) (qm0 (by repeat (first | (with_reducible first | exact HB.out | apply qc0 | apply qa0 | apply qb0) | exact HB.out)))); have n3_ := Aside0.mk (qr0 (by repeat (first | (with_reducible first | exact HB.out | apply qc0 | apply qa0 | apply qb0) | exact HB.out)) hb); clear HO_6; clear HO148; clear HB; have HO_6 := n0_; have HO148 := n1_; have HO151 := n2_; have HB := n3_; clear n0_ n1_ n2_ n3_; clear hb ho14))
   (try simp only [add_plain])
   go_loopg [8, 9] kj2 (fun kq v8 v9 w' => ∃ (x7_2 : List Int) (x8_2 : List Int) (x9_2 : Int), v9 = .int .i64 x9_2 ∧ Aside0 (spec_StepDown.l0 kq l0 l1 y139 x7_2 x8_2 x9_2 = some (r1, r2)) ∧ Aside0 (kq ≤ kj2) ∧ Aside0 (Kd.R (Kd.int .i64) 3 w' w.heap.size (fun k_ => some k_ ≠ (v147 : Value).ownBlock ∧ some k_ ≠ (v8 : Value).ownBlock) v140 y139) ∧ Aside0 (Kd.R (Kd.int .i64) 3 w' w.heap.size (fun k_ => some k_ ≠ (v140 : Value).ownBlock ∧ some k_ ≠ (v8 : Value).ownBlock) v147 x7_2) ∧ Aside0 (Kd.R (Kd.int .i64) 3 w' w.heap.size (fun k_ => some k_ ≠ (v140 : Value).ownBlock ∧ some k_ ≠ (v147 : Value).ownBlock) v8 x8_2) ∧ Aside0 (Below w.heap.size w w'))
   case atStart => exact ⟨(y146), (y149), (0), (by first | rfl | (simp; done) | (simp [*]; done)), H', ⟨Nat.le_refl _⟩, ⟨by (with_reducible repeat (first | apply Kd.qe0 | apply Kd.qd0 | apply Kd.qf0)); exact Kd.qq0 HO_6.out (fun _ hk => ⟨hk.1.2, hk.2⟩)⟩, ⟨by (with_reducible repeat (first | apply Kd.qe0 | apply Kd.qd0 | apply Kd.qf0)); exact HO148.out⟩, ⟨by (with_reducible repeat (first | apply Kd.qe0 | apply Kd.qd0 | apply Kd.qf0)); exact Kd.qq0 HO151.out (fun _ hk => ⟨hk.1.2, hk.2⟩)⟩, ⟨by repeat (first | (with_reducible first | exact HB.out | apply qc0 | apply qa0 | apply qb0) | exact HB.out)⟩⟩
   case round =>
    clear H'
    try clear c1
    try clear p2
    try clear c4
    try clear c7
    try clear c8
    try clear c9
    try clear c10
    try clear p2
    obtain ⟨x7_2, x8_2, x9_2, rfl, HA, HK2, HO_6, HO_7, HO_8, HB⟩ := hrel
    cases gk with
    | zero => exact absurd HA.out (by simp [spec_StepDown.l0])
    | succ k2 =>
     have H := HA.out
     clear HA
     simp only [spec_StepDown.l0] at H
     by_cases c15 : x9_2 < (l1.length : Int)
     ·rw [if_pos c15] at H
      have c15b0 : decide (x9_2 < (l1.length : Int)) = true := decide_eq_true c15
      clear c15
      by_cases c16 : 0 ≤ x9_2
      case neg => rw [if_neg c16] at H; exact absurd H (by simp)
      rw [if_pos c16] at H
      have c16b0 : decide (0 ≤ x9_2) = true := decide_eq_true c16
      clear c16
      have HC17 := Aside0.mk H
      clear H
      have p152 : 0 ≤ (x9_2 : Int) := of_decide_eq_true (by first | (with_reducible assumption) | assumption)
      have q152 : x9_2 < (l1.length : Int) := of_decide_eq_true (by first | (with_reducible assumption) | assumption)
      obtain ⟨ad152, A152_1, c152_1, A152_2, c152_2, e152, hx152_0, hx152_1, hx152_2, hl152_1, hi152_1, hl152_2, hi152_2⟩ := at_T152 HR1.out x9_2 p152 q152
      cases e152
      replace hx152_0 := (HB.out.cell (World.block_lt_of_cell? w _ hx152_0)).trans hx152_0
      replace hx152_1 := (HB.out.cell (World.block_lt_of_cell? w _ hx152_1)).trans hx152_1
      replace hx152_2 := (HB.out.cell (World.block_lt_of_cell? w _ hx152_2)).trans hx152_2
      have HR152_1 := Aside0.mk hi152_1
      have HC152_1 := Aside0.mk hl152_1
      clear hi152_1 hl152_1
      have HR152_2 := Aside0.mk hi152_2
      have HC152_2 := Aside0.mk hl152_2
      clear hi152_2 hl152_2
      replace p152 := eq_true p152
      replace q152 := eq_true q152
      go_upto_region 10 with (first | ((with_reducible refine qa1 (N := 10) rfl ?_); (try (refine qw0 (by rfl) ?_; dsimp only)); refine box_event ?hg (N := 10) ?hd (cs := #[.int .i64 0, .slice none 0 0, .slice none 0 0]) (t := 152) ?hr ?_; (case hd => rfl); (case hg => rfl); (case hr => first | (go_simp; done) | (go_simp; rfl)); intro gb153 hg w18 hbox hb; have n0_ := Aside0.mk (Kd.qf1 (by (with_reducible repeat (first | apply Kd.qe0 | apply Kd.qd0 | apply Kd.qf0)); exact HO_6.out) hb); have n1_ := Aside0.mk (Kd.qf1 (by (with_reducible repeat (first | apply Kd.qe0 | apply Kd.qd0 | apply Kd.qf0)); exact HO_7.out) hb); have n2_ := Aside0.mk (Kd.qf1 (by (with_reducible repeat (first | apply Kd.qe0 | apply Kd.qd0 | apply Kd.qf0)); exact HO_8.out) hb); have n3_ := Aside0.mk (qr0 (by repeat (first | (with_reducible first | exact HB.out | apply qc0 | apply qa0 | apply qb0) | exact HB.out)) hb); have n4_ := Aside0.mk (hbox); have n5_ := Aside0.mk ((by rw [hg]; exact (qm0 (by repeat (first | (with_reducible first | exact HB.out | apply qc0 | apply qa0 | apply qb0) | exact HB.out))) : w.heap.size ≤ gb153)); have n6_ := Aside0.mk ((by rw [hg]; exact (qm0 (by repeat (first | (with_reducible first | exact HB.out | apply qc0 | apply qa0 | apply qb0) | exact HB.out))) : w.heap.size ≤ gb153)); clear HO_6; clear HO_7; clear HO_8; clear HB; have HO_6 := n0_; have HO_7 := n1_; have HO_8 := n2_; have HB := n3_; have BK153 := n4_; have GW153 := n5_; have GE153 := n6_; clear n0_ n1_ n2_ n3_ n4_ n5_ n6_; clear hb hbox hg; have hcz19_0 : w18.cell? ⟨gb153, 0, none⟩ = some (.int .i64 0) := (qg0 BK153.out 0).trans rfl; have hcz19_1 : w18.cell? ⟨gb153, 1, none⟩ = some (.slice none 0 0) := (qg0 BK153.out 1).trans rfl; have hcz19_2 : w18.cell? ⟨gb153, 2, none⟩ = some (.slice none 0 0) := (qg0 BK153.out 2).trans rfl; have hfz19_0 := qh0 BK153.out 0; have hfz19_1 := qh0 BK153.out 1; have hfz19_2 := qh0 BK153.out 2))
      (try simp only [Act.put, List.setIfInBounds_toArray, List.set_cons_zero, List.set_cons_succ])
      go_cut [65] (fun v65 wc => ∃ (kq : Nat) (x65_16 : Bool), v65 = .bool x65_16 ∧ Aside0 (spec_StepDown.j2 kq l0 l1 y139 x7_2 x8_2 x9_2 x65_16 ((rd_T152 l1 x9_2).f0) ((rd_T152 l1 x9_2).f1) ((rd_T152 l1 x9_2).f2) = some (r1, r2)) ∧ Aside0 (kq ≤ k2) ∧ Aside0 (Kd.R (Kd.int .i64) 3 wc w.heap.size (fun k_ => some k_ ≠ (v147 : Value).ownBlock ∧ some k_ ≠ (u8 : Value).ownBlock) v140 y139) ∧ Aside0 (Kd.R (Kd.int .i64) 3 wc w.heap.size (fun k_ => some k_ ≠ (v140 : Value).ownBlock ∧ some k_ ≠ (u8 : Value).ownBlock) v147 x7_2) ∧ Aside0 (Kd.R (Kd.int .i64) 3 wc w.heap.size (fun k_ => some k_ ≠ (v140 : Value).ownBlock ∧ some k_ ≠ (v147 : Value).ownBlock) u8 x8_2) ∧ Aside0 (wc.heap[gb153]? = some (.cells #[.int .i64 ((rd_T152 l1 x9_2).f0), (.slice A152_1 ((rd_T152 l1 x9_2).f1).length c152_1), (.slice A152_2 ((rd_T152 l1 x9_2).f2).length c152_2)] 152 (0, 0))) ∧ Aside0 (Below w.heap.size w wc))
      case first =>
       have H := HC17.out
       clear HC17
       replace H := Option.bind_eq_some_iff.mp H
       obtain ⟨t154, A200, H⟩ := H
       replace H : (if t154 = true then ((spec_l7Has.f k2 x8_2 ((rd_T152 l1 x9_2).f0)).bind fun t155 => (if t155 = true then (spec_StepDown.j2 k2 l0 l1 y139 x7_2 x8_2 x9_2 true ((rd_T152 l1 x9_2).f0) ((rd_T152 l1 x9_2).f1) ((rd_T152 l1 x9_2).f2)) else (if (((rd_T152 l1 x9_2).f1).length : Int) = (((rd_T152 l1 x9_2).f2).length : Int) then (spec_StepDown.j2 k2 l0 l1 y139 x7_2 x8_2 x9_2 (decide ((((rd_T152 l1 x9_2).f1).length : Int) > 200)) ((rd_T152 l1 x9_2).f0) ((rd_T152 l1 x9_2).f1) ((rd_T152 l1 x9_2).f2)) else (spec_StepDown.j2 k2 l0 l1 y139 x7_2 x8_2 x9_2 true ((rd_T152 l1 x9_2).f0) ((rd_T152 l1 x9_2).f1) ((rd_T152 l1 x9_2).f2))))) else (spec_StepDown.j2 k2 l0 l1 y139 x7_2 x8_2 x9_2 true ((rd_T152 l1 x9_2).f0) ((rd_T152 l1 x9_2).f1) ((rd_T152 l1 x9_2).f2))) = some (r1, r2) := H
       have A20 := Aside0.mk A200
       clear A200
       by_cases c21 : t154 = true
       ·subst c21
        have H1 : ((spec_l7Has.f k2 x8_2 ((rd_T152 l1 x9_2).f0)).bind fun t155 => (if t155 = true then (spec_StepDown.j2 k2 l0 l1 y139 x7_2 x8_2 x9_2 true ((rd_T152 l1 x9_2).f0) ((rd_T152 l1 x9_2).f1) ((rd_T152 l1 x9_2).f2)) else (if (((rd_T152 l1 x9_2).f1).length : Int) = (((rd_T152 l1 x9_2).f2).length : Int) then (spec_StepDown.j2 k2 l0 l1 y139 x7_2 x8_2 x9_2 (decide ((((rd_T152 l1 x9_2).f1).length : Int) > 200)) ((rd_T152 l1 x9_2).f0) ((rd_T152 l1 x9_2).f1) ((rd_T152 l1 x9_2).f2)) else (spec_StepDown.j2 k2 l0 l1 y139 x7_2 x8_2 x9_2 true ((rd_T152 l1 x9_2).f0) ((rd_T152 l1 x9_2).f1) ((rd_T152 l1 x9_2).f2))))) = some (r1, r2) := by rw [if_pos rfl] at H; exact H
        clear H
        have H := H1
        clear H1
        replace H := Option.bind_eq_some_iff.mp H
        obtain ⟨t155, A220, H⟩ := H
        replace H : (if t155 = true then (spec_StepDown.j2 k2 l0 l1 y139 x7_2 x8_2 x9_2 true ((rd_T152 l1 x9_2).f0) ((rd_T152 l1 x9_2).f1) ((rd_T152 l1 x9_2).f2)) else (if (((rd_T152 l1 x9_2).f1).length : Int) = (((rd_T152 l1 x9_2).f2).length : Int) then (spec_StepDown.j2 k2 l0 l1 y139 x7_2 x8_2 x9_2 (decide ((((rd_T152 l1 x9_2).f1).length : Int) > 200)) ((rd_T152 l1 x9_2).f0) ((rd_T152 l1 x9_2).f1) ((rd_T152 l1 x9_2).f2)) else (spec_StepDown.j2 k2 l0 l1 y139 x7_2 x8_2 x9_2 true ((rd_T152 l1 x9_2).f0) ((rd_T152 l1 x9_2).f1) ((rd_T152 l1 x9_2).f2)))) = some (r1, r2) := H
        have A22 := Aside0.mk A220
        clear A220
        by_cases c23 : t155 = true
        ·subst c23
         have H1 : (spec_StepDown.j2 k2 l0 l1 y139 x7_2 x8_2 x9_2 true ((rd_T152 l1 x9_2).f0) ((rd_T152 l1 x9_2).f1) ((rd_T152 l1 x9_2).f2)) = some (r1, r2) := by rw [if_pos rfl] at H; exact H
         clear H
         have H := H1
         clear H1
         have H' := Aside0.mk H
         clear H
         have hcz24_0 : w18.cell? ⟨gb153, 0, none⟩ = some (.int .i64 0) := (qg0 BK153.out 0).trans rfl
         have hcz24_1 : w18.cell? ⟨gb153, 1, none⟩ = some (.slice none 0 0) := (qg0 BK153.out 1).trans rfl
         have hcz24_2 : w18.cell? ⟨gb153, 2, none⟩ = some (.slice none 0 0) := (qg0 BK153.out 2).trans rfl
         have hfz24_0 := qh0 BK153.out 0
         have hfz24_1 := qh0 BK153.out 1
         have hfz24_2 := qh0 BK153.out 2
         go_wp2_with (first | ((with_reducible refine ql0 (f := 76) rfl ?_); refine qx0 (some 43) rfl rfl Try.func76 (by kernel_rfl) rfl #[.int .i64 ((rd_T152 l1 x9_2).f0), .int .i64 0, .int .i64 (wrap64 ((l0.length : Int) - 1))] rfl (by (try simp only [List.map_toArray, List.map_cons, List.map_nil]); first | done | rfl | (simp only [List.length_drop, List.length_take]; rfl)) ?_; (with_reducible refine (spec_l1In.calls ((rd_T152 l1 x9_2).f0) 0 (wrap64 ((l0.length : Int) - 1)) true _ A20.out).mono ?_); rintro e w' ⟨rfl, ⟨nd, rfl⟩⟩; refine ⟨_, rfl, ?_⟩; obtain ⟨Ao25, co25, eo25⟩ := Kd.qy0 HO_8.out; subst eo25) | (go_at_call 107; (with_reducible refine (spec_l7Has.calls k2 _ _ x8_2 ((rd_T152 l1 x9_2).f0) true _ ?side1 ?side2 A22.out).mono ?_); (case side1 => refine (Kd.qk0 (e := 3) (base := w.heap.size) (ok := fun k_ => (some k_ ≠ (v140 : Value).ownBlock ∧ some k_ ≠ (v147 : Value).ownBlock)) (n := x8_2.length) (c := co25) ?_).2.2; exact (by (with_reducible repeat (first | apply Kd.qe0 | apply Kd.qd0 | apply Kd.qf0)); exact (Kd.qq0 (Kd.R_far (p := ⟨gb153, 2, none⟩) (Kd.R_far (p := ⟨gb153, 1, none⟩) (Kd.R_far (p := ⟨gb153, 0, none⟩) (Kd.qp1 HO_8.out BK153.out (by decide)) (fun _ hk => hk.2) (.int .i64 ((rd_T152 l1 x9_2).f0))) (fun _ hk => hk.2) (.slice A152_1 ((rd_T152 l1 x9_2).f1).length c152_1)) (fun _ hk => hk.2) (.slice A152_2 ((rd_T152 l1 x9_2).f2).length c152_2)) (fun _ h_ => h_.1)))); (case side2 => exact (Kd.qk0 HO_8.out).2.1); rintro e w' ⟨rfl, ⟨nd, rfl⟩⟩))
         go_meet
         case rel => exact ⟨_, (true), (by first | rfl | (simp; done) | (simp [*]; done)), H', ⟨by have := HJ2.out; have := HK2.out; first | omega | exact Nat.le_refl _⟩, ⟨by (with_reducible repeat (first | apply Kd.qe0 | apply Kd.qd0 | apply Kd.qf0)); exact Kd.qq0 (Kd.R_far (p := ⟨gb153, 2, none⟩) (Kd.R_far (p := ⟨gb153, 1, none⟩) (Kd.R_far (p := ⟨gb153, 0, none⟩) (Kd.qp1 HO_6.out BK153.out (by decide)) (fun _ hk => hk.2) (.int .i64 ((rd_T152 l1 x9_2).f0))) (fun _ hk => hk.2) (.slice A152_1 ((rd_T152 l1 x9_2).f1).length c152_1)) (fun _ hk => hk.2) (.slice A152_2 ((rd_T152 l1 x9_2).f2).length c152_2)) (fun _ hk => ⟨hk.1.1, hk.1.2⟩)⟩, ⟨by (with_reducible repeat (first | apply Kd.qe0 | apply Kd.qd0 | apply Kd.qf0)); exact Kd.qq0 (Kd.R_far (p := ⟨gb153, 2, none⟩) (Kd.R_far (p := ⟨gb153, 1, none⟩) (Kd.R_far (p := ⟨gb153, 0, none⟩) (Kd.qp1 HO_7.out BK153.out (by decide)) (fun _ hk => hk.2) (.int .i64 ((rd_T152 l1 x9_2).f0))) (fun _ hk => hk.2) (.slice A152_1 ((rd_T152 l1 x9_2).f1).length c152_1)) (fun _ hk => hk.2) (.slice A152_2 ((rd_T152 l1 x9_2).f2).length c152_2)) (fun _ hk => ⟨hk.1.1, hk.1.2⟩)⟩, ⟨by (with_reducible repeat (first | apply Kd.qe0 | apply Kd.qd0 | apply Kd.qf0)); exact Kd.qq0 (Kd.R_far (p := ⟨gb153, 2, none⟩) (Kd.R_far (p := ⟨gb153, 1, none⟩) (Kd.R_far (p := ⟨gb153, 0, none⟩) (Kd.qp1 HO_8.out BK153.out (by decide)) (fun _ hk => hk.2) (.int .i64 ((rd_T152 l1 x9_2).f0))) (fun _ hk => hk.2) (.slice A152_1 ((rd_T152 l1 x9_2).f1).length c152_1)) (fun _ hk => hk.2) (.slice A152_2 ((rd_T152 l1 x9_2).f2).length c152_2)) (fun _ hk => ⟨hk.1.1, hk.1.2⟩)⟩, ⟨by (with_reducible repeat (first | refine qn0 ?_ _ | refine qp0 ?_ | refine qo0 ?_ _)); refine qi1 (cs := #[.int .i64 ((rd_T152 l1 x9_2).f0), .slice A152_1 ((rd_T152 l1 x9_2).f1).length c152_1, .slice none 0 0]) ?_ 2 _ rfl; (with_reducible repeat (first | refine qn0 ?_ _ | refine qp0 ?_ | refine qo0 ?_ _)); refine qi1 (cs := #[.int .i64 ((rd_T152 l1 x9_2).f0), .slice none 0 0, .slice none 0 0]) ?_ 1 _ rfl; (with_reducible repeat (first | refine qn0 ?_ _ | refine qp0 ?_ | refine qo0 ?_ _)); refine qi1 (cs := #[.int .i64 0, .slice none 0 0, .slice none 0 0]) ?_ 0 _ rfl; (with_reducible repeat (first | refine qn0 ?_ _ | refine qp0 ?_ | refine qo0 ?_ _)); exact BK153.out⟩, ⟨by repeat (first | (with_reducible first | exact HB.out | apply qc0 | apply qa0 | apply qb0 | refine qi0 ?_ GE153.out) | exact HB.out)⟩⟩
        replace c23 := Bool.eq_false_iff.mpr c23
        subst c23
        have H1 : (if (((rd_T152 l1 x9_2).f1).length : Int) = (((rd_T152 l1 x9_2).f2).length : Int) then (spec_StepDown.j2 k2 l0 l1 y139 x7_2 x8_2 x9_2 (decide ((((rd_T152 l1 x9_2).f1).length : Int) > 200)) ((rd_T152 l1 x9_2).f0) ((rd_T152 l1 x9_2).f1) ((rd_T152 l1 x9_2).f2)) else (spec_StepDown.j2 k2 l0 l1 y139 x7_2 x8_2 x9_2 true ((rd_T152 l1 x9_2).f0) ((rd_T152 l1 x9_2).f1) ((rd_T152 l1 x9_2).f2))) = some (r1, r2) := by rw [if_neg (show ¬ (false = true) by decide)] at H; exact H
        clear H
        have H := H1
        clear H1
        by_cases c26 : (((rd_T152 l1 x9_2).f1).length : Int) = (((rd_T152 l1 x9_2).f2).length : Int)
        ·rw [if_pos c26] at H
         have c26b0 : ((((rd_T152 l1 x9_2).f1).length : Int) == (((rd_T152 l1 x9_2).f2).length : Int)) = true := beq_iff_eq.mpr c26
         have c26b1 : ((((rd_T152 l1 x9_2).f1).length : Int) != (((rd_T152 l1 x9_2).f2).length : Int)) = false := bne_eq_false_iff_eq.mpr c26
         have c26b2 : (((rd_T152 l1 x9_2).f1).length == ((rd_T152 l1 x9_2).f2).length) = true := by first | simpa using c26 | (simp at c26 ⊢; omega)
         clear c26
         (first | rw [c26b0] | (simp only [i64_w, i32_w]; rw [c26b0]) | skip)
         have H' := Aside0.mk H
         clear H
         have hcz27_0 : w18.cell? ⟨gb153, 0, none⟩ = some (.int .i64 0) := (qg0 BK153.out 0).trans rfl
         have hcz27_1 : w18.cell? ⟨gb153, 1, none⟩ = some (.slice none 0 0) := (qg0 BK153.out 1).trans rfl
         have hcz27_2 : w18.cell? ⟨gb153, 2, none⟩ = some (.slice none 0 0) := (qg0 BK153.out 2).trans rfl
         have hfz27_0 := qh0 BK153.out 0
         have hfz27_1 := qh0 BK153.out 1
         have hfz27_2 := qh0 BK153.out 2
         go_wp2_with (first | ((with_reducible refine ql0 (f := 76) rfl ?_); refine qx0 (some 43) rfl rfl Try.func76 (by kernel_rfl) rfl #[.int .i64 ((rd_T152 l1 x9_2).f0), .int .i64 0, .int .i64 (wrap64 ((l0.length : Int) - 1))] rfl (by (try simp only [List.map_toArray, List.map_cons, List.map_nil]); first | done | rfl | (simp only [List.length_drop, List.length_take]; rfl)) ?_; (with_reducible refine (spec_l1In.calls ((rd_T152 l1 x9_2).f0) 0 (wrap64 ((l0.length : Int) - 1)) true _ A20.out).mono ?_); rintro e w' ⟨rfl, ⟨nd, rfl⟩⟩; refine ⟨_, rfl, ?_⟩; obtain ⟨Ao28, co28, eo28⟩ := Kd.qy0 HO_8.out; subst eo28) | (go_at_call 107; (with_reducible refine (spec_l7Has.calls k2 _ _ x8_2 ((rd_T152 l1 x9_2).f0) false _ ?side1 ?side2 A22.out).mono ?_); (case side1 => refine (Kd.qk0 (e := 3) (base := w.heap.size) (ok := fun k_ => (some k_ ≠ (v140 : Value).ownBlock ∧ some k_ ≠ (v147 : Value).ownBlock)) (n := x8_2.length) (c := co28) ?_).2.2; exact (by (with_reducible repeat (first | apply Kd.qe0 | apply Kd.qd0 | apply Kd.qf0)); exact (Kd.qq0 (Kd.R_far (p := ⟨gb153, 2, none⟩) (Kd.R_far (p := ⟨gb153, 1, none⟩) (Kd.R_far (p := ⟨gb153, 0, none⟩) (Kd.qp1 HO_8.out BK153.out (by decide)) (fun _ hk => hk.2) (.int .i64 ((rd_T152 l1 x9_2).f0))) (fun _ hk => hk.2) (.slice A152_1 ((rd_T152 l1 x9_2).f1).length c152_1)) (fun _ hk => hk.2) (.slice A152_2 ((rd_T152 l1 x9_2).f2).length c152_2)) (fun _ h_ => h_.1)))); (case side2 => exact (Kd.qk0 HO_8.out).2.1); rintro e w' ⟨rfl, ⟨nd, rfl⟩⟩))
         go_meet
         case rel => exact ⟨_, (decide ((((rd_T152 l1 x9_2).f1).length : Int) > 200)), (by first | rfl | (simp; done) | (simp [*]; done)), H', ⟨by have := HJ2.out; have := HK2.out; first | omega | exact Nat.le_refl _⟩, ⟨by (with_reducible repeat (first | apply Kd.qe0 | apply Kd.qd0 | apply Kd.qf0)); exact Kd.qq0 (Kd.R_far (p := ⟨gb153, 2, none⟩) (Kd.R_far (p := ⟨gb153, 1, none⟩) (Kd.R_far (p := ⟨gb153, 0, none⟩) (Kd.qp1 HO_6.out BK153.out (by decide)) (fun _ hk => hk.2) (.int .i64 ((rd_T152 l1 x9_2).f0))) (fun _ hk => hk.2) (.slice A152_1 ((rd_T152 l1 x9_2).f1).length c152_1)) (fun _ hk => hk.2) (.slice A152_2 ((rd_T152 l1 x9_2).f2).length c152_2)) (fun _ hk => ⟨hk.1.1, hk.1.2⟩)⟩, ⟨by (with_reducible repeat (first | apply Kd.qe0 | apply Kd.qd0 | apply Kd.qf0)); exact Kd.qq0 (Kd.R_far (p := ⟨gb153, 2, none⟩) (Kd.R_far (p := ⟨gb153, 1, none⟩) (Kd.R_far (p := ⟨gb153, 0, none⟩) (Kd.qp1 HO_7.out BK153.out (by decide)) (fun _ hk => hk.2) (.int .i64 ((rd_T152 l1 x9_2).f0))) (fun _ hk => hk.2) (.slice A152_1 ((rd_T152 l1 x9_2).f1).length c152_1)) (fun _ hk => hk.2) (.slice A152_2 ((rd_T152 l1 x9_2).f2).length c152_2)) (fun _ hk => ⟨hk.1.1, hk.1.2⟩)⟩, ⟨by (with_reducible repeat (first | apply Kd.qe0 | apply Kd.qd0 | apply Kd.qf0)); exact Kd.qq0 (Kd.R_far (p := ⟨gb153, 2, none⟩) (Kd.R_far (p := ⟨gb153, 1, none⟩) (Kd.R_far (p := ⟨gb153, 0, none⟩) (Kd.qp1 HO_8.out BK153.out (by decide)) (fun _ hk => hk.2) (.int .i64 ((rd_T152 l1 x9_2).f0))) (fun _ hk => hk.2) (.slice A152_1 ((rd_T152 l1 x9_2).f1).length c152_1)) (fun _ hk => hk.2) (.slice A152_2 ((rd_T152 l1 x9_2).f2).length c152_2)) (fun _ hk => ⟨hk.1.1, hk.1.2⟩)⟩, ⟨by (with_reducible repeat (first | refine qn0 ?_ _ | refine qp0 ?_ | refine qo0 ?_ _)); refine qi1 (cs := #[.int .i64 ((rd_T152 l1 x9_2).f0), .slice A152_1 ((rd_T152 l1 x9_2).f1).length c152_1, .slice none 0 0]) ?_ 2 _ rfl; (with_reducible repeat (first | refine qn0 ?_ _ | refine qp0 ?_ | refine qo0 ?_ _)); refine qi1 (cs := #[.int .i64 ((rd_T152 l1 x9_2).f0), .slice none 0 0, .slice none 0 0]) ?_ 1 _ rfl; (with_reducible repeat (first | refine qn0 ?_ _ | refine qp0 ?_ | refine qo0 ?_ _)); refine qi1 (cs := #[.int .i64 0, .slice none 0 0, .slice none 0 0]) ?_ 0 _ rfl; (with_reducible repeat (first | refine qn0 ?_ _ | refine qp0 ?_ | refine qo0 ?_ _)); exact BK153.out⟩, ⟨by repeat (first | (with_reducible first | exact HB.out | apply qc0 | apply qa0 | apply qb0 | refine qi0 ?_ GE153.out) | exact HB.out)⟩⟩
        rw [if_neg c26] at H
        have c26b0 : ((((rd_T152 l1 x9_2).f1).length : Int) == (((rd_T152 l1 x9_2).f2).length : Int)) = false := beq_eq_false_iff_ne.mpr c26
        have c26b1 : ((((rd_T152 l1 x9_2).f1).length : Int) != (((rd_T152 l1 x9_2).f2).length : Int)) = true := bne_iff_ne.mpr c26
        have c26b2 : (((rd_T152 l1 x9_2).f1).length == ((rd_T152 l1 x9_2).f2).length) = false := by first | simpa using c26 | (simp at c26 ⊢; omega)
        (first | rw [c26b0] | (simp only [i64_w, i32_w]; rw [c26b0]) | skip)
        have H' := Aside0.mk H
        clear H
        have hcz29_0 : w18.cell? ⟨gb153, 0, none⟩ = some (.int .i64 0) := (qg0 BK153.out 0).trans rfl
        have hcz29_1 : w18.cell? ⟨gb153, 1, none⟩ = some (.slice none 0 0) := (qg0 BK153.out 1).trans rfl
        have hcz29_2 : w18.cell? ⟨gb153, 2, none⟩ = some (.slice none 0 0) := (qg0 BK153.out 2).trans rfl
        have hfz29_0 := qh0 BK153.out 0
        have hfz29_1 := qh0 BK153.out 1
        have hfz29_2 := qh0 BK153.out 2
        go_wp2_with (first | ((with_reducible refine ql0 (f := 76) rfl ?_); refine qx0 (some 43) rfl rfl Try.func76 (by kernel_rfl) rfl #[.int .i64 ((rd_T152 l1 x9_2).f0), .int .i64 0, .int .i64 (wrap64 ((l0.length : Int) - 1))] rfl (by (try simp only [List.map_toArray, List.map_cons, List.map_nil]); first | done | rfl | (simp only [List.length_drop, List.length_take]; rfl)) ?_; (with_reducible refine (spec_l1In.calls ((rd_T152 l1 x9_2).f0) 0 (wrap64 ((l0.length : Int) - 1)) true _ A20.out).mono ?_); rintro e w' ⟨rfl, ⟨nd, rfl⟩⟩; refine ⟨_, rfl, ?_⟩; obtain ⟨Ao30, co30, eo30⟩ := Kd.qy0 HO_8.out; subst eo30) | (go_at_call 107; (with_reducible refine (spec_l7Has.calls k2 _ _ x8_2 ((rd_T152 l1 x9_2).f0) false _ ?side1 ?side2 A22.out).mono ?_); (case side1 => refine (Kd.qk0 (e := 3) (base := w.heap.size) (ok := fun k_ => (some k_ ≠ (v140 : Value).ownBlock ∧ some k_ ≠ (v147 : Value).ownBlock)) (n := x8_2.length) (c := co30) ?_).2.2; exact (by (with_reducible repeat (first | apply Kd.qe0 | apply Kd.qd0 | apply Kd.qf0)); exact (Kd.qq0 (Kd.R_far (p := ⟨gb153, 2, none⟩) (Kd.R_far (p := ⟨gb153, 1, none⟩) (Kd.R_far (p := ⟨gb153, 0, none⟩) (Kd.qp1 HO_8.out BK153.out (by decide)) (fun _ hk => hk.2) (.int .i64 ((rd_T152 l1 x9_2).f0))) (fun _ hk => hk.2) (.slice A152_1 ((rd_T152 l1 x9_2).f1).length c152_1)) (fun _ hk => hk.2) (.slice A152_2 ((rd_T152 l1 x9_2).f2).length c152_2)) (fun _ h_ => h_.1)))); (case side2 => exact (Kd.qk0 HO_8.out).2.1); rintro e w' ⟨rfl, ⟨nd, rfl⟩⟩))
        go_meet
        case rel => exact ⟨_, (true), (by first | rfl | (simp; done) | (simp [*]; done)), H', ⟨by have := HJ2.out; have := HK2.out; first | omega | exact Nat.le_refl _⟩, ⟨by (with_reducible repeat (first | apply Kd.qe0 | apply Kd.qd0 | apply Kd.qf0)); exact Kd.qq0 (Kd.R_far (p := ⟨gb153, 2, none⟩) (Kd.R_far (p := ⟨gb153, 1, none⟩) (Kd.R_far (p := ⟨gb153, 0, none⟩) (Kd.qp1 HO_6.out BK153.out (by decide)) (fun _ hk => hk.2) (.int .i64 ((rd_T152 l1 x9_2).f0))) (fun _ hk => hk.2) (.slice A152_1 ((rd_T152 l1 x9_2).f1).length c152_1)) (fun _ hk => hk.2) (.slice A152_2 ((rd_T152 l1 x9_2).f2).length c152_2)) (fun _ hk => ⟨hk.1.1, hk.1.2⟩)⟩, ⟨by (with_reducible repeat (first | apply Kd.qe0 | apply Kd.qd0 | apply Kd.qf0)); exact Kd.qq0 (Kd.R_far (p := ⟨gb153, 2, none⟩) (Kd.R_far (p := ⟨gb153, 1, none⟩) (Kd.R_far (p := ⟨gb153, 0, none⟩) (Kd.qp1 HO_7.out BK153.out (by decide)) (fun _ hk => hk.2) (.int .i64 ((rd_T152 l1 x9_2).f0))) (fun _ hk => hk.2) (.slice A152_1 ((rd_T152 l1 x9_2).f1).length c152_1)) (fun _ hk => hk.2) (.slice A152_2 ((rd_T152 l1 x9_2).f2).length c152_2)) (fun _ hk => ⟨hk.1.1, hk.1.2⟩)⟩, ⟨by (with_reducible repeat (first | apply Kd.qe0 | apply Kd.qd0 | apply Kd.qf0)); exact Kd.qq0 (Kd.R_far (p := ⟨gb153, 2, none⟩) (Kd.R_far (p := ⟨gb153, 1, none⟩) (Kd.R_far (p := ⟨gb153, 0, none⟩) (Kd.qp1 HO_8.out BK153.out (by decide)) (fun _ hk => hk.2) (.int .i64 ((rd_T152 l1 x9_2).f0))) (fun _ hk => hk.2) (.slice A152_1 ((rd_T152 l1 x9_2).f1).length c152_1)) (fun _ hk => hk.2) (.slice A152_2 ((rd_T152 l1 x9_2).f2).length c152_2)) (fun _ hk => ⟨hk.1.1, hk.1.2⟩)⟩, ⟨by (with_reducible repeat (first | refine qn0 ?_ _ | refine qp0 ?_ | refine qo0 ?_ _)); refine qi1 (cs := #[.int .i64 ((rd_T152 l1 x9_2).f0), .slice A152_1 ((rd_T152 l1 x9_2).f1).length c152_1, .slice none 0 0]) ?_ 2 _ rfl; (with_reducible repeat (first | refine qn0 ?_ _ | refine qp0 ?_ | refine qo0 ?_ _)); refine qi1 (cs := #[.int .i64 ((rd_T152 l1 x9_2).f0), .slice none 0 0, .slice none 0 0]) ?_ 1 _ rfl; (with_reducible repeat (first | refine qn0 ?_ _ | refine qp0 ?_ | refine qo0 ?_ _)); refine qi1 (cs := #[.int .i64 0, .slice none 0 0, .slice none 0 0]) ?_ 0 _ rfl; (with_reducible repeat (first | refine qn0 ?_ _ | refine qp0 ?_ | refine qo0 ?_ _)); exact BK153.out⟩, ⟨by repeat (first | (with_reducible first | exact HB.out | apply qc0 | apply qa0 | apply qb0 | refine qi0 ?_ GE153.out) | exact HB.out)⟩⟩
       replace c21 := Bool.eq_false_iff.mpr c21
       subst c21
       have H1 : (spec_StepDown.j2 k2 l0 l1 y139 x7_2 x8_2 x9_2 true ((rd_T152 l1 x9_2).f0) ((rd_T152 l1 x9_2).f1) ((rd_T152 l1 x9_2).f2)) = some (r1, r2) := by rw [if_neg (show ¬ (false = true) by decide)] at H; exact H
       clear H
       have H := H1
       clear H1
       have H' := Aside0.mk H
       clear H
       have hcz31_0 : w18.cell? ⟨gb153, 0, none⟩ = some (.int .i64 0) := (qg0 BK153.out 0).trans rfl
       have hcz31_1 : w18.cell? ⟨gb153, 1, none⟩ = some (.slice none 0 0) := (qg0 BK153.out 1).trans rfl
       have hcz31_2 : w18.cell? ⟨gb153, 2, none⟩ = some (.slice none 0 0) := (qg0 BK153.out 2).trans rfl
       have hfz31_0 := qh0 BK153.out 0
       have hfz31_1 := qh0 BK153.out 1
       have hfz31_2 := qh0 BK153.out 2
       go_wp2_with (first | ((with_reducible refine ql0 (f := 76) rfl ?_); refine qx0 (some 43) rfl rfl Try.func76 (by kernel_rfl) rfl #[.int .i64 ((rd_T152 l1 x9_2).f0), .int .i64 0, .int .i64 (wrap64 ((l0.length : Int) - 1))] rfl (by (try simp only [List.map_toArray, List.map_cons, List.map_nil]); first | done | rfl | (simp only [List.length_drop, List.length_take]; rfl)) ?_; (with_reducible refine (spec_l1In.calls ((rd_T152 l1 x9_2).f0) 0 (wrap64 ((l0.length : Int) - 1)) false _ A20.out).mono ?_); rintro e w' ⟨rfl, ⟨nd, rfl⟩⟩; refine ⟨_, rfl, ?_⟩))
       go_meet
       case rel => exact ⟨_, (true), (by first | rfl | (simp; done) | (simp [*]; done)), H', ⟨by have := HJ2.out; have := HK2.out; first | omega | exact Nat.le_refl _⟩, ⟨by (with_reducible repeat (first | apply Kd.qe0 | apply Kd.qd0 | apply Kd.qf0)); exact Kd.qq0 (Kd.R_far (p := ⟨gb153, 2, none⟩) (Kd.R_far (p := ⟨gb153, 1, none⟩) (Kd.R_far (p := ⟨gb153, 0, none⟩) (Kd.qp1 HO_6.out BK153.out (by decide)) (fun _ hk => hk.2) (.int .i64 ((rd_T152 l1 x9_2).f0))) (fun _ hk => hk.2) (.slice A152_1 ((rd_T152 l1 x9_2).f1).length c152_1)) (fun _ hk => hk.2) (.slice A152_2 ((rd_T152 l1 x9_2).f2).length c152_2)) (fun _ hk => ⟨hk.1.1, hk.1.2⟩)⟩, ⟨by (with_reducible repeat (first | apply Kd.qe0 | apply Kd.qd0 | apply Kd.qf0)); exact Kd.qq0 (Kd.R_far (p := ⟨gb153, 2, none⟩) (Kd.R_far (p := ⟨gb153, 1, none⟩) (Kd.R_far (p := ⟨gb153, 0, none⟩) (Kd.qp1 HO_7.out BK153.out (by decide)) (fun _ hk => hk.2) (.int .i64 ((rd_T152 l1 x9_2).f0))) (fun _ hk => hk.2) (.slice A152_1 ((rd_T152 l1 x9_2).f1).length c152_1)) (fun _ hk => hk.2) (.slice A152_2 ((rd_T152 l1 x9_2).f2).length c152_2)) (fun _ hk => ⟨hk.1.1, hk.1.2⟩)⟩, ⟨by (with_reducible repeat (first | apply Kd.qe0 | apply Kd.qd0 | apply Kd.qf0)); exact Kd.qq0 (Kd.R_far (p := ⟨gb153, 2, none⟩) (Kd.R_far (p := ⟨gb153, 1, none⟩) (Kd.R_far (p := ⟨gb153, 0, none⟩) (Kd.qp1 HO_8.out BK153.out (by decide)) (fun _ hk => hk.2) (.int .i64 ((rd_T152 l1 x9_2).f0))) (fun _ hk => hk.2) (.slice A152_1 ((rd_T152 l1 x9_2).f1).length c152_1)) (fun _ hk => hk.2) (.slice A152_2 ((rd_T152 l1 x9_2).f2).length c152_2)) (fun _ hk => ⟨hk.1.1, hk.1.2⟩)⟩, ⟨by (with_reducible repeat (first | refine qn0 ?_ _ | refine qp0 ?_ | refine qo0 ?_ _)); refine qi1 (cs := #[.int .i64 ((rd_T152 l1 x9_2).f0), .slice A152_1 ((rd_T152 l1 x9_2).f1).length c152_1, .slice none 0 0]) ?_ 2 _ rfl; (with_reducible repeat (first | refine qn0 ?_ _ | refine qp0 ?_ | refine qo0 ?_ _)); refine qi1 (cs := #[.int .i64 ((rd_T152 l1 x9_2).f0), .slice none 0 0, .slice none 0 0]) ?_ 1 _ rfl; (with_reducible repeat (first | refine qn0 ?_ _ | refine qp0 ?_ | refine qo0 ?_ _)); refine qi1 (cs := #[.int .i64 0, .slice none 0 0, .slice none 0 0]) ?_ 0 _ rfl; (with_reducible repeat (first | refine qn0 ?_ _ | refine qp0 ?_ | refine qo0 ?_ _)); exact BK153.out⟩, ⟨by repeat (first | (with_reducible first | exact HB.out | apply qc0 | apply qa0 | apply qb0 | refine qi0 ?_ GE153.out) | exact HB.out)⟩⟩
      case rest =>
       clear HC17
       try clear c1
       try clear p1
       try clear q1
       try clear hx1
       try clear c2
       try clear p2
       try clear c4
       try clear p6
       try clear c7
       try clear c8
       try clear c9
       try clear c10
       try clear c15
       try clear c15b0
       try clear p15
       try clear q15
       try clear hx15
       try clear c16
       try clear c16b0
       try clear c21
       try clear c23
       try clear c26
       try clear c26b0
       try clear c26b1
       try clear c26b2
       try clear hcz19_0
       try clear hcz19_1
       try clear hcz19_2
       try clear hcz24_0
       try clear hcz24_1
       try clear hcz24_2
       try clear hcz27_0
       try clear hcz27_1
       try clear hcz27_2
       try clear hcz29_0
       try clear hcz29_1
       try clear hcz29_2
       try clear hcz31_0
       try clear hcz31_1
       try clear hcz31_2
       try clear hfz19_0
       try clear hfz19_1
       try clear hfz19_2
       try clear hfz24_0
       try clear hfz24_1
       try clear hfz24_2
       try clear hfz27_0
       try clear hfz27_1
       try clear hfz27_2
       try clear hfz29_0
       try clear hfz29_1
       try clear hfz29_2
       try clear hfz31_0
       try clear hfz31_1
       try clear hfz31_2
       try clear hx152_0
       try clear hx152_1
       try clear hx152_2
       try clear p152
       try clear p2
       try clear q152
       obtain ⟨kq, x65_16, rfl, HA, HJ16, HO_6, HO_7, HO_8, BK153, HB⟩ := hcut
       cases kq with
       | zero => exact absurd HA.out (by simp [spec_StepDown.j2])
       | succ kj16 =>
        have H := HA.out
        clear HA
        simp only [spec_StepDown.j2] at H
        by_cases c32 : x65_16 = true
        ·subst c32
         have H1 : (some (y139, false)) = some (r1, r2) := by rw [if_pos rfl] at H; exact H
         clear H
         have H := H1
         clear H1
         simp only [Option.some.injEq, Prod.mk.injEq] at H
         obtain ⟨rfl, rfl⟩ := H
         go_wp2
         go_ret2
         exact ⟨_, by first | rfl | (simp [errW_none, errW_some] <;> rfl) | (simp [*, errW_none, errW_some] <;> rfl), by (with_reducible repeat (first | apply Kd.qe0 | apply Kd.qd0 | apply Kd.qf0)); exact Kd.qq0 HO_6.out (fun _ hk => trivial), by repeat (first | (with_reducible first | exact HB.out | apply qc0 | apply qa0 | apply qb0 | refine qi0 ?_ GE153.out) | exact HB.out)⟩
        replace c32 := Bool.eq_false_iff.mpr c32
        subst c32
        have H1 : (if x8_2.length < 17592186044416 then (spec_StepDown.l1 kj16 l0 l1 y139 x7_2 (x8_2 ++ [((rd_T152 l1 x9_2).f0)]) x9_2 0 ((rd_T152 l1 x9_2).f0) ((rd_T152 l1 x9_2).f1) ((rd_T152 l1 x9_2).f2)) else (none)) = some (r1, r2) := by rw [if_neg (show ¬ (false = true) by decide)] at H; exact H
        clear H
        have H := H1
        clear H1
        by_cases c33 : x8_2.length < 17592186044416
        case neg => rw [if_neg c33] at H; exact absurd H (by simp)
        rw [if_pos c33] at H
        have LMc33 := Aside0.mk c33
        clear c33
        obtain ⟨y156, hy156⟩ : ∃ y_ : List Int, y_ = (x8_2 ++ [((rd_T152 l1 x9_2).f0)]) := ⟨_, rfl⟩
        replace H : (spec_StepDown.l1 kj16 l0 l1 y139 x7_2 y156 x9_2 0 ((rd_T152 l1 x9_2).f0) ((rd_T152 l1 x9_2).f1) ((rd_T152 l1 x9_2).f2)) = some (r1, r2) := by first | (rw [hy156]; with_reducible exact H) | (have H2_ := (Option.bind_some _ _).symm.trans H; rw [hy156]; with_reducible exact H2_) | (have H2_ := (Option.bind_some _ _).symm.trans H; with_reducible exact H2_) | with_reducible exact H | (rw [hy156]; exact H) | exact H
        have Ny156 := Aside0.mk hy156
        clear hy156
        have H' := Aside0.mk H
        clear H
        have hcz34_0 : wc.cell? ⟨gb153, 0, none⟩ = some (.int .i64 ((rd_T152 l1 x9_2).f0)) := (qg0 BK153.out 0).trans rfl
        have hcz34_1 : wc.cell? ⟨gb153, 1, none⟩ = some (.slice A152_1 ((rd_T152 l1 x9_2).f1).length c152_1) := (qg0 BK153.out 1).trans rfl
        have hcz34_2 : wc.cell? ⟨gb153, 2, none⟩ = some (.slice A152_2 ((rd_T152 l1 x9_2).f2).length c152_2) := (qg0 BK153.out 2).trans rfl
        have hfz34_0 := qh0 BK153.out 0
        have hfz34_1 := qh0 BK153.out 1
        have hfz34_2 := qh0 BK153.out 2
        go_wp2_with (first | ((with_reducible refine gate_builtin (b := .append) (xs := #[.tmp 67, .tmp 70]) rfl ?_); (try (refine qw0 (by rfl) ?_; dsimp only)); at_builtin; refine Kd.R_append (Kd.int .i64) (w0 := w) w.heap.size rfl (.tmp 67) (.tmp 70) 25 3 (.int .i64 0) 8 rfl Try.underlying25 info3 rfl (by decide) (by omega) u8 x8_2 ((rd_T152 l1 x9_2).f0) [.int .i64 ((rd_T152 l1 x9_2).f0)] (fun k_ => some k_ ≠ (v140 : Value).ownBlock ∧ some k_ ≠ (v147 : Value).ownBlock) (fun _ => False) rfl rfl ?aP (fun _ hk => hk.elim) ?aF ?aO ?aB ?aS ?aL ?_; (case aP => exact rfl); (case aB => exact (by repeat (first | (with_reducible first | exact HB.out | apply qc0 | apply qa0 | apply qb0 | refine qi0 ?_ GE153.out) | exact HB.out))); (case aF => exact (fun k_ hk => ⟨Kd.fresh' (Kd.R_lt (by (with_reducible repeat (first | apply Kd.qe0 | apply Kd.qd0 | apply Kd.qf0)); exact HO_6.out)) k_ hk, Kd.fresh' (Kd.R_lt (by (with_reducible repeat (first | apply Kd.qe0 | apply Kd.qd0 | apply Kd.qf0)); exact HO_7.out)) k_ hk⟩)); (case aO => exact (by (with_reducible repeat (first | apply Kd.qe0 | apply Kd.qd0 | apply Kd.qf0)); exact HO_8.out)); (case aS => exact (qm0 (by repeat (first | (with_reducible first | exact HB.out | apply qc0 | apply qa0 | apply qb0 | refine qi0 ?_ GE153.out) | exact HB.out)))); (case aL => have := LMc33.out; omega); intro v157 w35 ho hb hg hat; rw [← Ny156.out] at ho; have n0_ := Aside0.mk (Kd.qk1 (ok := (fun k_ => some k_ ≠ (v147 : Value).ownBlock)) (by (with_reducible repeat (first | apply Kd.qe0 | apply Kd.qd0 | apply Kd.qf0)); exact HO_6.out) hg hat); have n1_ := Aside0.mk (Kd.qk1 (ok := (fun k_ => some k_ ≠ (v140 : Value).ownBlock)) (by (with_reducible repeat (first | apply Kd.qe0 | apply Kd.qd0 | apply Kd.qf0)); exact HO_7.out) hg hat); have n2_ := Aside0.mk (blk_grown (g := gb153) (o := .cells #[.int .i64 ((rd_T152 l1 x9_2).f0), .slice A152_1 ((rd_T152 l1 x9_2).f1).length c152_1, .slice A152_2 ((rd_T152 l1 x9_2).f2).length c152_2] 152 (0, 0)) (by (with_reducible repeat (first | refine qn0 ?_ _ | refine qp0 ?_ | refine qo0 ?_ _)); exact BK153.out) hg (Kd.R_ne HO_8.out BK153.out (by decide))); have n3_ := Aside0.mk (hb); have n4_ := Aside0.mk (ho); clear HO_6; clear HO_7; clear BK153; clear HB; clear HO_8; have HO_6 := n0_; have HO_7 := n1_; have BK153 := n2_; have HB := n3_; have HO158 := n4_; clear n0_ n1_ n2_ n3_ n4_; clear ho hb hg hat))
        (try simp only [add_plain])
        go_loopg [11] kj16 (fun kq v11 w' => ∃ (x11_4 : Int), v11 = .int .i64 x11_4 ∧ Aside0 (spec_StepDown.l1 kq l0 l1 y139 x7_2 y156 x9_2 x11_4 ((rd_T152 l1 x9_2).f0) ((rd_T152 l1 x9_2).f1) ((rd_T152 l1 x9_2).f2) = some (r1, r2)) ∧ Aside0 (kq ≤ kj16) ∧ Aside0 (Kd.R (Kd.int .i64) 3 w' w.heap.size (fun k_ => some k_ ≠ (v147 : Value).ownBlock ∧ some k_ ≠ (v157 : Value).ownBlock) v140 y139) ∧ Aside0 (Kd.R (Kd.int .i64) 3 w' w.heap.size (fun k_ => some k_ ≠ (v140 : Value).ownBlock ∧ some k_ ≠ (v157 : Value).ownBlock) v147 x7_2) ∧ Aside0 (Kd.R (Kd.int .i64) 3 w' w.heap.size (fun k_ => some k_ ≠ (v140 : Value).ownBlock ∧ some k_ ≠ (v147 : Value).ownBlock) v157 y156) ∧ Aside0 (w'.heap[gb153]? = some (.cells #[.int .i64 ((rd_T152 l1 x9_2).f0), (.slice A152_1 ((rd_T152 l1 x9_2).f1).length c152_1), (.slice A152_2 ((rd_T152 l1 x9_2).f2).length c152_2)] 152 (0, 0))) ∧ Aside0 (Below w.heap.size w w'))
        case atStart => exact ⟨(0), (by first | rfl | (simp; done) | (simp [*]; done)), H', ⟨Nat.le_refl _⟩, ⟨by (with_reducible repeat (first | apply Kd.qe0 | apply Kd.qd0 | apply Kd.qf0)); exact HO_6.out⟩, ⟨by (with_reducible repeat (first | apply Kd.qe0 | apply Kd.qd0 | apply Kd.qf0)); exact HO_7.out⟩, ⟨by (with_reducible repeat (first | apply Kd.qe0 | apply Kd.qd0 | apply Kd.qf0)); exact HO158.out⟩, ⟨by (with_reducible repeat (first | refine qn0 ?_ _ | refine qp0 ?_ | refine qo0 ?_ _)); exact BK153.out⟩, ⟨by repeat (first | (with_reducible first | exact HB.out | apply qc0 | apply qa0 | apply qb0 | refine qi0 ?_ GE153.out) | exact HB.out)⟩⟩
        case round =>
         clear H'
         try clear c1
         try clear p1
         try clear q1
         try clear hx1
         try clear c2
         try clear p2
         try clear c3
         try clear c4
         try clear p6
         try clear c7
         try clear c8
         try clear c9
         try clear c10
         try clear c15
         try clear c15b0
         try clear p15
         try clear q15
         try clear hx15
         try clear c16
         try clear c16b0
         try clear c21
         try clear c23
         try clear c26
         try clear c26b0
         try clear c26b1
         try clear c26b2
         try clear c32
         try clear c33
         try clear hcz19_0
         try clear hcz19_1
         try clear hcz19_2
         try clear hcz24_0
         try clear hcz24_1
         try clear hcz24_2
         try clear hcz27_0
         try clear hcz27_1
         try clear hcz27_2
         try clear hcz29_0
         try clear hcz29_1
         try clear hcz29_2
         try clear hcz31_0
         try clear hcz31_1
         try clear hcz31_2
         try clear hcz34_0
         try clear hcz34_1
         try clear hcz34_2
         try clear hfz19_0
         try clear hfz19_1
         try clear hfz19_2
         try clear hfz24_0
         try clear hfz24_1
         try clear hfz24_2
         try clear hfz27_0
         try clear hfz27_1
         try clear hfz27_2
         try clear hfz29_0
         try clear hfz29_1
         try clear hfz29_2
         try clear hfz31_0
         try clear hfz31_1
         try clear hfz31_2
         try clear hfz34_0
         try clear hfz34_1
         try clear hfz34_2
         try clear hx152_0
         try clear hx152_1
         try clear hx152_2
         try clear p1
         try clear p15
         try clear p152
         try clear p2
         try clear p6
         try clear q1
         try clear q15
         try clear q152
         obtain ⟨x11_4, rfl, HA, HK4, HO_6, HO_7, HO_8, BK153, HB⟩ := hrel
         cases gk with
         | zero => exact absurd HA.out (by simp [spec_StepDown.l1])
         | succ k4 =>
          have H := HA.out
          clear HA
          simp only [spec_StepDown.l1] at H
          by_cases c36 : x11_4 < (((rd_T152 l1 x9_2).f1).length : Int)
          ·rw [if_pos c36] at H
           have c36b0 : decide (x11_4 < (((rd_T152 l1 x9_2).f1).length : Int)) = true := decide_eq_true c36
           clear c36
           by_cases c37 : 0 ≤ x11_4
           case neg => rw [if_neg c37] at H; exact absurd H (by simp)
           rw [if_pos c37] at H
           have c37b0 : decide (0 ≤ x11_4) = true := decide_eq_true c37
           clear c37
           replace H := Option.bind_eq_some_iff.mp H
           obtain ⟨t160, A380, H⟩ := H
           replace H : (if t160 = true then ((spec_l7Has.f k4 y156 (rd ((rd_T152 l1 x9_2).f1) x11_4)).bind fun t162 => (if t162 = true then (some (y139, false)) else (if x11_4 ≤ (((rd_T152 l1 x9_2).f1).length : Int) then ((spec_l7Has.f k4 (((rd_T152 l1 x9_2).f1).take (x11_4 : Int).toNat) (rd ((rd_T152 l1 x9_2).f1) x11_4)).bind fun t165 => (if t165 = true then (some (y139, false)) else (spec_StepDown.l1 k4 l0 l1 y139 x7_2 y156 x9_2 (wrap64 (x11_4 + 1)) ((rd_T152 l1 x9_2).f0) ((rd_T152 l1 x9_2).f1) ((rd_T152 l1 x9_2).f2)))) else (none)))) else (some (y139, false))) = some (r1, r2) := H
           have A38 := Aside0.mk A380
           clear A380
           by_cases c39 : t160 = true
           ·subst c39
            have H1 : ((spec_l7Has.f k4 y156 (rd ((rd_T152 l1 x9_2).f1) x11_4)).bind fun t162 => (if t162 = true then (some (y139, false)) else (if x11_4 ≤ (((rd_T152 l1 x9_2).f1).length : Int) then ((spec_l7Has.f k4 (((rd_T152 l1 x9_2).f1).take (x11_4 : Int).toNat) (rd ((rd_T152 l1 x9_2).f1) x11_4)).bind fun t165 => (if t165 = true then (some (y139, false)) else (spec_StepDown.l1 k4 l0 l1 y139 x7_2 y156 x9_2 (wrap64 (x11_4 + 1)) ((rd_T152 l1 x9_2).f0) ((rd_T152 l1 x9_2).f1) ((rd_T152 l1 x9_2).f2)))) else (none)))) = some (r1, r2) := by rw [if_pos rfl] at H; exact H
            clear H
            have H := H1
            clear H1
            replace H := Option.bind_eq_some_iff.mp H
            obtain ⟨t162, A400, H⟩ := H
            replace H : (if t162 = true then (some (y139, false)) else (if x11_4 ≤ (((rd_T152 l1 x9_2).f1).length : Int) then ((spec_l7Has.f k4 (((rd_T152 l1 x9_2).f1).take (x11_4 : Int).toNat) (rd ((rd_T152 l1 x9_2).f1) x11_4)).bind fun t165 => (if t165 = true then (some (y139, false)) else (spec_StepDown.l1 k4 l0 l1 y139 x7_2 y156 x9_2 (wrap64 (x11_4 + 1)) ((rd_T152 l1 x9_2).f0) ((rd_T152 l1 x9_2).f1) ((rd_T152 l1 x9_2).f2)))) else (none))) = some (r1, r2) := H
            have A40 := Aside0.mk A400
            clear A400
            by_cases c41 : t162 = true
            ·subst c41
             have H1 : (some (y139, false)) = some (r1, r2) := by rw [if_pos rfl] at H; exact H
             clear H
             have H := H1
             clear H1
             simp only [Option.some.injEq, Prod.mk.injEq] at H
             obtain ⟨rfl, rfl⟩ := H
             have hcz42_0 : wr.cell? ⟨gb153, 0, none⟩ = some (.int .i64 ((rd_T152 l1 x9_2).f0)) := (qg0 BK153.out 0).trans rfl
             have hcz42_1 : wr.cell? ⟨gb153, 1, none⟩ = some (.slice A152_1 ((rd_T152 l1 x9_2).f1).length c152_1) := (qg0 BK153.out 1).trans rfl
             have hcz42_2 : wr.cell? ⟨gb153, 2, none⟩ = some (.slice A152_2 ((rd_T152 l1 x9_2).f2).length c152_2) := (qg0 BK153.out 2).trans rfl
             have hfz42_0 := qh0 BK153.out 0
             have hfz42_1 := qh0 BK153.out 1
             have hfz42_2 := qh0 BK153.out 2
             try go_wp2
             have n0_ := Aside0.mk (Kd.qf0 HO_6.out)
             have n1_ := Aside0.mk (Kd.qf0 HO_7.out)
             have n2_ := Aside0.mk (Kd.qf0 HO_8.out)
             have n3_ := Aside0.mk (qp0 BK153.out)
             have n4_ := Aside0.mk (qb0 HB.out)
             clear HO_6
             clear HO_7
             clear HO_8
             clear BK153
             clear HB
             have HO_6 := n0_
             have HO_7 := n1_
             have HO_8 := n2_
             have BK153 := n3_
             have HB := n4_
             clear n0_ n1_ n2_ n3_ n4_
             have p159 : 0 ≤ (x11_4 : Int) := of_decide_eq_true (by first | (with_reducible assumption) | assumption)
             have q159 : x11_4 < (((rd_T152 l1 x9_2).f1).length : Int) := of_decide_eq_true (by first | (with_reducible assumption) | assumption)
             obtain ⟨ad159, e159, hx159_0⟩ := Kd.at_int HR152_1.out x11_4 p159 q159
             have hw159_0 := hx159_0
             cases e159
             replace hx159_0 := (HB.out.cell (World.block_lt_of_cell? w _ hx159_0)).trans hx159_0
             replace p159 := eq_true p159
             replace q159 := eq_true q159
             have p161 : 0 ≤ (x11_4 : Int) := of_decide_eq_true (by first | (with_reducible assumption) | assumption)
             have q161 : x11_4 < (((rd_T152 l1 x9_2).f1).length : Int) := of_decide_eq_true (by first | (with_reducible assumption) | assumption)
             obtain ⟨ad161, e161, hx161_0⟩ := Kd.at_int HR152_1.out x11_4 p161 q161
             have hw161_0 := hx161_0
             obtain rfl : ad159 = ad161 := (by injection e161)
             replace hx161_0 := (HB.out.cell (World.block_lt_of_cell? w _ hx161_0)).trans hx161_0
             replace p161 := eq_true p161
             replace q161 := eq_true q161
             refine start_ (n := 31) (S := fun w' => w'.cell? ⟨gb153, 0, none⟩ = some (.int .i64 ((rd_T152 l1 x9_2).f0)) ∧ w'.cell? ⟨gb153, 1, none⟩ = some (.slice (some ad159) ((rd_T152 l1 x9_2).f1).length c152_1) ∧ w'.cell? ⟨gb153, 2, none⟩ = some (.slice A152_2 ((rd_T152 l1 x9_2).f2).length c152_2) ∧ w'.cell? (ad159.add (x11_4).toNat) = some (.int .i64 (rd ((rd_T152 l1 x9_2).f1) x11_4)) ∧ w'.cell? (ad159.add (x11_4).toNat) = some (.int .i64 (rd ((rd_T152 l1 x9_2).f1) x11_4))) (ds := []) (rb4 [0, 31]) (by kernel_rfl) rfl rfl ⟨(qg0 BK153.out 0).trans rfl, (qg0 BK153.out 1).trans rfl, (qg0 BK153.out 2).trans rfl, ((HB.out.cell (World.block_lt_of_cell? w _ hw159_0)).trans hw159_0), ((HB.out.cell (World.block_lt_of_cell? w _ hw161_0)).trans hw161_0)⟩ (fun hHeld => ?_); refine with_tabW spec_StepDown.tab16 spec_StepDown.bits16 (fun HT_ HW_ => ?_)
             generalize wr.drew = w43 at HO_6 HO_7 HO_8 BK153 HB hx159_0 hx161_0 hHeld ⊢
             refine pure_ (i := 0) (N := some 79) (v := ?_) (a' := ?_) (rb4 [1, 30]) rfl rfl (qj0 HT_.out (by kernel_rfl)) (fun _ _ _ h => h) (Or.inl ⟨by rfl, ?_⟩) ?_ ?_
             rotate_left
             ·intro w'
              go_simp
              with_reducible rfl
             rotate_left
             ·simp only [Act.put, List.setIfInBounds_toArray, List.set_cons_zero, List.set_cons_succ, i64_w, i32_w]
              rfl
             refine pure_ (i := 2) (N := some 81) (v := ?_) (a' := ?_) (rb4 [1, 1, 1, 28]) rfl rfl (qj0 HT_.out (by kernel_rfl)) (fun _ _ _ h => h) (Or.inl ⟨by rfl, ?_⟩) ?_ ?_
             rotate_left
             ·intro w'
              go_simp
              with_reducible rfl
             rotate_left
             ·simp only [Act.put, List.setIfInBounds_toArray, List.set_cons_zero, List.set_cons_succ, i64_w, i32_w]
              rfl
             refine pure_ (i := 5) (N := some 84) (v := ?_) (a' := ?_) (rb4 [1, 1, 1, 2, 1, 25]) rfl rfl (qj0 HT_.out (by kernel_rfl)) (fun _ _ _ h => h) (Or.inl ⟨by rfl, ?_⟩) ?_ ?_
             rotate_left
             ·intro w'
              go_simp
              with_reducible rfl
             rotate_left
             ·simp only [Act.put, List.setIfInBounds_toArray, List.set_cons_zero, List.set_cons_succ, i64_w, i32_w]
              rfl
             refine pure_ (i := 6) (N := some 85) (v := ?_) (a' := ?_) (rb4 [1, 1, 1, 2, 2, 24]) rfl rfl (qj0 HT_.out (by kernel_rfl)) (fun _ _ _ h => h) (Or.inl ⟨by rfl, ?_⟩) ?_ ?_
             rotate_left
             ·intro w'
              go_simp
              with_reducible rfl
             rotate_left
             ·simp only [Act.put, List.setIfInBounds_toArray, List.set_cons_zero, List.set_cons_succ, i64_w, i32_w]
              rfl
             refine pure_ (i := 7) (N := some 86) (v := ?_) (a' := ?_) (rb4 [1, 1, 1, 2, 3, 23]) rfl rfl (qj0 HT_.out (by kernel_rfl)) (fun _ _ _ h => h) (Or.inl ⟨by rfl, ?_⟩) ?_ ?_
             rotate_left
             ·intro w'
              go_simp
              with_reducible rfl
             rotate_left
             ·simp only [Act.put, List.setIfInBounds_toArray, List.set_cons_zero, List.set_cons_succ, i64_w, i32_w]
              rfl
             refine take_ (i := 1) (N := some 80) (v := ?_) (a' := ?_) (rb4 [3, 2, 3, 23]) rfl rfl (qv0 HT_.out HW_.out (by kernel_rfl)) (fun _ _ _ h => h) (Or.inl ⟨by rfl, ?_⟩) hHeld ?_ ?_
             rotate_left
             ·rintro w' ⟨s0, s1, s2, s3, s4⟩
              go_simp
              with_reducible rfl
             rotate_left
             ·simp only [Act.put, List.setIfInBounds_toArray, List.set_cons_zero, List.set_cons_succ, i64_w, i32_w]
              rfl
             refine pure_ (i := 3) (N := some 82) (v := ?_) (a' := ?_) (rb4 [4, 1, 3, 23]) rfl rfl (qj0 HT_.out (by kernel_rfl)) (fun _ _ _ h => h) (Or.inl ⟨by rfl, ?_⟩) ?_ ?_
             rotate_left
             ·intro w'
              go_simp
              with_reducible rfl
             rotate_left
             ·simp only [Act.put, List.setIfInBounds_toArray, List.set_cons_zero, List.set_cons_succ, i64_w, i32_w]
              rfl
             refine take_ (i := 4) (N := some 83) (v := ?_) (a' := ?_) (rb4 [8, 23]) rfl rfl (qv0 HT_.out HW_.out (by kernel_rfl)) (fun _ _ _ h => h) (Or.inl ⟨by rfl, ?_⟩) hHeld ?_ ?_
             rotate_left
             ·rintro w' ⟨s0, s1, s2, s3, s4⟩
              go_simp
              with_reducible rfl
             rotate_left
             ·simp only [Act.put, List.setIfInBounds_toArray, List.set_cons_zero, List.set_cons_succ, i64_w, i32_w]
              rfl
             refine one_ (i := 8) (N := some 87) (rb4 [9, 22]) rfl rfl (qw1 HT_.out (by kernel_rfl)) (by decide) (fun K hK => ?_)
             refine goes_ Try.func76 (by kernel_rfl) rfl #[.int .i64 (rd ((rd_T152 l1 x9_2).f1) x11_4), .int .i64 0, .int .i64 (wrap64 ((l0.length : Int) - 1))] (by rfl) rfl rfl (by (try simp only [List.map_toArray, List.map_cons, List.map_nil]); first | done | rfl | (simp only [List.length_drop, List.length_take]; rfl)) ?_
             with_reducible refine (spec_l1In.calls (rd ((rd_T152 l1 x9_2).f1) x11_4) 0 (wrap64 ((l0.length : Int) - 1)) true _ A38.out).mono ?_
             rintro e w' ⟨rfl, ⟨nd, rfl⟩⟩
             refine ⟨_, rfl, ?_⟩
             obtain ⟨Ao44, co44, eo44⟩ := Kd.qy0 HO_8.out
             (first | subst eo44 | (injection eo44 with f1_ f2_ f3_; have f4_ := f1_.symm; have f5_ := f3_.symm; clear f1_ f2_ f3_; subst f4_; subst f5_))
             refine hK.out _ _ ⟨(qg0 BK153.out 0).trans rfl, (qg0 BK153.out 1).trans rfl, (qg0 BK153.out 2).trans rfl, ((HB.out.cell (World.block_lt_of_cell? w _ hw159_0)).trans hw159_0), ((HB.out.cell (World.block_lt_of_cell? w _ hw161_0)).trans hw161_0)⟩ (fun hHeld => ?_)
             clear hK K
             refine norm_ (a' := ?_) ?_ ?_
             rotate_left
             ·show Act.put _ (some 87) _ = _
              simp only [Act.put, List.setIfInBounds_toArray, List.set_cons_zero, List.set_cons_succ, i64_w, i32_w]
              rfl
             refine pure_ (i := 9) (N := some 88) (v := ?_) (a' := ?_) (rb4 [10, 21]) rfl rfl (qj0 HT_.out (by kernel_rfl)) (fun _ _ _ h => h) (Or.inl ⟨by rfl, ?_⟩) ?_ ?_
             rotate_left
             ·intro w'
              go_simp
              with_reducible rfl
             rotate_left
             ·simp only [Act.put, List.setIfInBounds_toArray, List.set_cons_zero, List.set_cons_succ, i64_w, i32_w]
              rfl
             refine pure_ (i := 10) (N := some 89) (v := ?_) (a' := ?_) (rb4 [11, 20]) rfl rfl (qj0 HT_.out (by kernel_rfl)) (fun _ _ _ h => h) (Or.inl ⟨by rfl, ?_⟩) ?_ ?_
             rotate_left
             ·intro w'
              go_simp
              with_reducible rfl
             rotate_left
             ·simp only [Act.put, List.setIfInBounds_toArray, List.set_cons_zero, List.set_cons_succ, i64_w, i32_w]
              rfl
             refine pure_ (i := 11) (N := some 90) (v := ?_) (a' := ?_) (rb4 [12, 19]) rfl rfl (qj0 HT_.out (by kernel_rfl)) (fun _ _ _ h => h) (Or.inl ⟨by rfl, ?_⟩) ?_ ?_
             rotate_left
             ·intro w'
              go_simp
              with_reducible rfl
             rotate_left
             ·simp only [Act.put, List.setIfInBounds_toArray, List.set_cons_zero, List.set_cons_succ, i64_w, i32_w]
              rfl
             refine pure_ (i := 12) (N := some 91) (v := ?_) (a' := ?_) (rb4 [13, 18]) rfl rfl (qj0 HT_.out (by kernel_rfl)) (fun _ _ _ h => h) (Or.inl ⟨by rfl, ?_⟩) ?_ ?_
             rotate_left
             ·intro w'
              go_simp
              with_reducible rfl
             rotate_left
             ·simp only [Act.put, List.setIfInBounds_toArray, List.set_cons_zero, List.set_cons_succ, i64_w, i32_w]
              rfl
             refine pure_ (i := 14) (N := some 93) (v := ?_) (a' := ?_) (rb4 [13, 1, 1, 16]) rfl rfl (qj0 HT_.out (by kernel_rfl)) (fun _ _ _ h => h) (Or.inl ⟨by rfl, ?_⟩) ?_ ?_
             rotate_left
             ·intro w'
              go_simp
              with_reducible rfl
             rotate_left
             ·simp only [Act.put, List.setIfInBounds_toArray, List.set_cons_zero, List.set_cons_succ, i64_w, i32_w]
              rfl
             refine take_ (i := 13) (N := some 92) (v := ?_) (a' := ?_) (rb4 [15, 16]) rfl rfl (qv0 HT_.out HW_.out (by kernel_rfl)) (fun _ _ _ h => h) (Or.inl ⟨by rfl, ?_⟩) hHeld ?_ ?_
             rotate_left
             ·rintro w' ⟨s0, s1, s2, s3, s4⟩
              go_simp
              with_reducible rfl
             rotate_left
             ·simp only [Act.put, List.setIfInBounds_toArray, List.set_cons_zero, List.set_cons_succ, i64_w, i32_w]
              rfl
             refine pure_ (i := 15) (N := some 94) (v := ?_) (a' := ?_) (rb4 [16, 15]) rfl rfl (qj0 HT_.out (by kernel_rfl)) (fun _ _ _ h => h) (Or.inl ⟨by rfl, ?_⟩) ?_ ?_
             rotate_left
             ·intro w'
              go_simp
              with_reducible rfl
             rotate_left
             ·simp only [Act.put, List.setIfInBounds_toArray, List.set_cons_zero, List.set_cons_succ, i64_w, i32_w]
              rfl
             refine take_ (i := 16) (N := some 95) (v := ?_) (a' := ?_) (rb4 [17, 14]) rfl rfl (qv0 HT_.out HW_.out (by kernel_rfl)) (fun _ _ _ h => h) (Or.inl ⟨by rfl, ?_⟩) hHeld ?_ ?_
             rotate_left
             ·rintro w' ⟨s0, s1, s2, s3, s4⟩
              go_simp
              with_reducible rfl
             rotate_left
             ·simp only [Act.put, List.setIfInBounds_toArray, List.set_cons_zero, List.set_cons_succ, i64_w, i32_w]
              rfl
             refine one_ (i := 17) (N := some 96) (rb4 [18, 13]) rfl rfl (qw1 HT_.out (by kernel_rfl)) (by decide) (fun K hK => ?_)
             refine goes_ Try.func107 (by kernel_rfl) rfl #[.slice Ao44 y156.length co44, .int .i64 (rd ((rd_T152 l1 x9_2).f1) x11_4)] (by rfl) rfl rfl (by (try simp only [List.map_toArray, List.map_cons, List.map_nil]); first | done | rfl | (simp only [List.length_drop, List.length_take]; rfl)) ?_
             with_reducible refine (spec_l7Has.calls k4 _ _ y156 (rd ((rd_T152 l1 x9_2).f1) x11_4) true _ ?side1 ?side2 A40.out).mono ?_
             (case side1 => repeat (first | exact (Kd.qk0 HO_8.out).2.2 | (with_reducible refine Kd.qt0 ?_ _) | (with_reducible refine Kd.qs0 ?_ _) | (with_reducible refine Kd.qu0 ?_)))
             (case side2 => exact (Kd.qk0 HO_8.out).2.1)
             rintro e w' ⟨rfl, ⟨nd, rfl⟩⟩
             refine ⟨_, rfl, ?_⟩
             refine hK.out _ _ ⟨(qg0 BK153.out 0).trans rfl, (qg0 BK153.out 1).trans rfl, (qg0 BK153.out 2).trans rfl, ((HB.out.cell (World.block_lt_of_cell? w _ hw159_0)).trans hw159_0), ((HB.out.cell (World.block_lt_of_cell? w _ hw161_0)).trans hw161_0)⟩ (fun hHeld => ?_)
             clear hK K
             refine norm_ (a' := ?_) ?_ ?_
             rotate_left
             ·show Act.put _ (some 96) _ = _
              simp only [Act.put, List.setIfInBounds_toArray, List.set_cons_zero, List.set_cons_succ, i64_w, i32_w]
              rfl
             refine pure_ (i := 18) (N := some 97) (v := ?_) (a' := ?_) (rb4 [19, 12]) rfl rfl (qj0 HT_.out (by kernel_rfl)) (fun _ _ _ h => h) (Or.inl ⟨by rfl, ?_⟩) ?_ ?_
             rotate_left
             ·intro w'
              go_simp
              with_reducible rfl
             rotate_left
             ·simp only [Act.put, List.setIfInBounds_toArray, List.set_cons_zero, List.set_cons_succ, i64_w, i32_w]
              rfl
             refine pure_ (i := 19) (N := some 98) (v := ?_) (a' := ?_) (rb4 [20, 11]) rfl rfl (qj0 HT_.out (by kernel_rfl)) (fun _ _ _ h => h) (Or.inl ⟨by rfl, ?_⟩) ?_ ?_
             rotate_left
             ·intro w'
              go_simp
              with_reducible rfl
             rotate_left
             ·simp only [Act.put, List.setIfInBounds_toArray, List.set_cons_zero, List.set_cons_succ, i64_w, i32_w]
              rfl
             refine pure_ (i := 20) (N := some 99) (v := undef) (a' := ?_) (rb4 [21, 10]) rfl rfl (qj0 HT_.out (by kernel_rfl)) (fun _ _ _ h => h) (Or.inr ⟨by rfl, rfl⟩) ?_ ?_
             rotate_left
             ·simp only [Act.put, List.setIfInBounds_toArray, List.set_cons_zero, List.set_cons_succ, i64_w, i32_w]
              rfl
             refine pure_ (i := 21) (N := some 100) (v := undef) (a' := ?_) (rb4 [22, 9]) rfl rfl (qj0 HT_.out (by kernel_rfl)) (fun _ _ _ h => h) (Or.inr ⟨by rfl, rfl⟩) ?_ ?_
             rotate_left
             ·simp only [Act.put, List.setIfInBounds_toArray, List.set_cons_zero, List.set_cons_succ, i64_w, i32_w]
              rfl
             refine pure_ (i := 22) (N := some 101) (v := undef) (a' := ?_) (rb4 [23, 8]) rfl rfl (qj0 HT_.out (by kernel_rfl)) (fun _ _ _ h => h) (Or.inr ⟨by rfl, rfl⟩) ?_ ?_
             rotate_left
             ·simp only [Act.put, List.setIfInBounds_toArray, List.set_cons_zero, List.set_cons_succ, i64_w, i32_w]
              rfl
             refine pure_ (i := 23) (N := some 102) (v := undef) (a' := ?_) (rb4 [24, 7]) rfl rfl (qj0 HT_.out (by kernel_rfl)) (fun _ _ _ h => h) (Or.inr ⟨by rfl, rfl⟩) ?_ ?_
             rotate_left
             ·simp only [Act.put, List.setIfInBounds_toArray, List.set_cons_zero, List.set_cons_succ, i64_w, i32_w]
              rfl
             refine pure_ (i := 24) (N := some 103) (v := undef) (a' := ?_) (rb4 [25, 6]) rfl rfl (qj0 HT_.out (by kernel_rfl)) (fun _ _ _ h => h) (Or.inr ⟨by rfl, rfl⟩) ?_ ?_
             rotate_left
             ·simp only [Act.put, List.setIfInBounds_toArray, List.set_cons_zero, List.set_cons_succ, i64_w, i32_w]
              rfl
             refine pure_ (i := 25) (N := some 104) (v := undef) (a' := ?_) (rb4 [26, 5]) rfl rfl (qj0 HT_.out (by kernel_rfl)) (fun _ _ _ h => h) (Or.inr ⟨by rfl, rfl⟩) ?_ ?_
             rotate_left
             ·simp only [Act.put, List.setIfInBounds_toArray, List.set_cons_zero, List.set_cons_succ, i64_w, i32_w]
              rfl
             refine pure_ (i := 26) (N := some 105) (v := undef) (a' := ?_) (rb4 [27, 4]) rfl rfl (qj0 HT_.out (by kernel_rfl)) (fun _ _ _ h => h) (Or.inr ⟨by rfl, rfl⟩) ?_ ?_
             rotate_left
             ·simp only [Act.put, List.setIfInBounds_toArray, List.set_cons_zero, List.set_cons_succ, i64_w, i32_w]
              rfl
             refine pure_ (i := 27) (N := some 106) (v := undef) (a' := ?_) (rb4 [28, 3]) rfl rfl (qj0 HT_.out (by kernel_rfl)) (fun _ _ _ h => h) (Or.inr ⟨by rfl, rfl⟩) ?_ ?_
             rotate_left
             ·simp only [Act.put, List.setIfInBounds_toArray, List.set_cons_zero, List.set_cons_succ, i64_w, i32_w]
              rfl
             refine pure_ (i := 28) (N := some 107) (v := undef) (a' := ?_) (rb4 [29, 2]) rfl rfl (qj0 HT_.out (by kernel_rfl)) (fun _ _ _ h => h) (Or.inr ⟨by rfl, rfl⟩) ?_ ?_
             rotate_left
             ·simp only [Act.put, List.setIfInBounds_toArray, List.set_cons_zero, List.set_cons_succ, i64_w, i32_w]
              rfl
             refine pure_ (i := 29) (N := some 108) (v := undef) (a' := ?_) (rb4 [30, 1]) rfl rfl (qj0 HT_.out (by kernel_rfl)) (fun _ _ _ h => h) (Or.inr ⟨by rfl, rfl⟩) ?_ ?_
             rotate_left
             ·simp only [Act.put, List.setIfInBounds_toArray, List.set_cons_zero, List.set_cons_succ, i64_w, i32_w]
              rfl
             refine pure_ (i := 30) (N := some 109) (v := ?_) (a' := ?_) (rb4 [31]) rfl rfl (qj0 HT_.out (by kernel_rfl)) (fun _ _ _ h => h) (Or.inl ⟨by rfl, ?_⟩) ?_ ?_
             rotate_left
             ·intro w'
              go_simp
              with_reducible rfl
             rotate_left
             ·simp only [Act.put, List.setIfInBounds_toArray, List.set_cons_zero, List.set_cons_succ, i64_w, i32_w]
              rfl
             refine done_ (done_of HT_.out (by kernel_rfl)) ?_
             try go_wp2
             go_ret2
             exact ⟨_, by first | rfl | (simp [errW_none, errW_some] <;> rfl) | (simp [*, errW_none, errW_some] <;> rfl), by (with_reducible repeat (first | apply Kd.qe0 | apply Kd.qd0 | apply Kd.qf0)); exact Kd.qq0 HO_6.out (fun _ hk => trivial), by repeat (first | (with_reducible first | exact HB.out | apply qc0 | apply qa0 | apply qb0 | refine qi0 ?_ GE153.out) | exact HB.out)⟩
            replace c41 := Bool.eq_false_iff.mpr c41
            subst c41
            have H1 : (if x11_4 ≤ (((rd_T152 l1 x9_2).f1).length : Int) then ((spec_l7Has.f k4 (((rd_T152 l1 x9_2).f1).take (x11_4 : Int).toNat) (rd ((rd_T152 l1 x9_2).f1) x11_4)).bind fun t165 => (if t165 = true then (some (y139, false)) else (spec_StepDown.l1 k4 l0 l1 y139 x7_2 y156 x9_2 (wrap64 (x11_4 + 1)) ((rd_T152 l1 x9_2).f0) ((rd_T152 l1 x9_2).f1) ((rd_T152 l1 x9_2).f2)))) else (none)) = some (r1, r2) := by rw [if_neg (show ¬ (false = true) by decide)] at H; exact H
            clear H
            have H := H1
            clear H1
            have c45b0 := eq_true (of_decide_eq_true (by first | (with_reducible assumption) | assumption) : 0 ≤ x11_4)
            by_cases c46 : x11_4 ≤ (((rd_T152 l1 x9_2).f1).length : Int)
            case neg => rw [if_neg c46] at H; exact absurd H (by simp)
            rw [if_pos c46] at H
            have c46b0 := eq_true c46
            have c46b1 : decide (x11_4 ≤ (((rd_T152 l1 x9_2).f1).length : Int)) = true := decide_eq_true c46
            clear c46
            replace H := Option.bind_eq_some_iff.mp H
            obtain ⟨t165, A470, H⟩ := H
            replace H : (if t165 = true then (some (y139, false)) else (spec_StepDown.l1 k4 l0 l1 y139 x7_2 y156 x9_2 (wrap64 (x11_4 + 1)) ((rd_T152 l1 x9_2).f0) ((rd_T152 l1 x9_2).f1) ((rd_T152 l1 x9_2).f2))) = some (r1, r2) := H
            have A47 := Aside0.mk A470
            clear A470
            by_cases c48 : t165 = true
            ·subst c48
             have H1 : (some (y139, false)) = some (r1, r2) := by rw [if_pos rfl] at H; exact H
             clear H
             have H := H1
             clear H1
             simp only [Option.some.injEq, Prod.mk.injEq] at H
             obtain ⟨rfl, rfl⟩ := H
             have hcz49_0 : wr.cell? ⟨gb153, 0, none⟩ = some (.int .i64 ((rd_T152 l1 x9_2).f0)) := (qg0 BK153.out 0).trans rfl
             have hcz49_1 : wr.cell? ⟨gb153, 1, none⟩ = some (.slice A152_1 ((rd_T152 l1 x9_2).f1).length c152_1) := (qg0 BK153.out 1).trans rfl
             have hcz49_2 : wr.cell? ⟨gb153, 2, none⟩ = some (.slice A152_2 ((rd_T152 l1 x9_2).f2).length c152_2) := (qg0 BK153.out 2).trans rfl
             have hfz49_0 := qh0 BK153.out 0
             have hfz49_1 := qh0 BK153.out 1
             have hfz49_2 := qh0 BK153.out 2
             try go_wp2
             have n0_ := Aside0.mk (Kd.qf0 HO_6.out)
             have n1_ := Aside0.mk (Kd.qf0 HO_7.out)
             have n2_ := Aside0.mk (Kd.qf0 HO_8.out)
             have n3_ := Aside0.mk (qp0 BK153.out)
             have n4_ := Aside0.mk (qb0 HB.out)
             clear HO_6
             clear HO_7
             clear HO_8
             clear BK153
             clear HB
             have HO_6 := n0_
             have HO_7 := n1_
             have HO_8 := n2_
             have BK153 := n3_
             have HB := n4_
             clear n0_ n1_ n2_ n3_ n4_
             have p159 : 0 ≤ (x11_4 : Int) := of_decide_eq_true (by first | (with_reducible assumption) | assumption)
             have q159 : x11_4 < (((rd_T152 l1 x9_2).f1).length : Int) := of_decide_eq_true (by first | (with_reducible assumption) | assumption)
             obtain ⟨ad159, e159, hx159_0⟩ := Kd.at_int HR152_1.out x11_4 p159 q159
             have hw159_0 := hx159_0
             cases e159
             replace hx159_0 := (HB.out.cell (World.block_lt_of_cell? w _ hx159_0)).trans hx159_0
             replace p159 := eq_true p159
             replace q159 := eq_true q159
             have p161 : 0 ≤ (x11_4 : Int) := of_decide_eq_true (by first | (with_reducible assumption) | assumption)
             have q161 : x11_4 < (((rd_T152 l1 x9_2).f1).length : Int) := of_decide_eq_true (by first | (with_reducible assumption) | assumption)
             obtain ⟨ad161, e161, hx161_0⟩ := Kd.at_int HR152_1.out x11_4 p161 q161
             have hw161_0 := hx161_0
             obtain rfl : ad159 = ad161 := (by injection e161)
             replace hx161_0 := (HB.out.cell (World.block_lt_of_cell? w _ hx161_0)).trans hx161_0
             replace p161 := eq_true p161
             replace q161 := eq_true q161
             have p164 : 0 ≤ (x11_4 : Int) := of_decide_eq_true (by first | (with_reducible assumption) | assumption)
             have q164 : x11_4 < (((rd_T152 l1 x9_2).f1).length : Int) := of_decide_eq_true (by first | (with_reducible assumption) | assumption)
             obtain ⟨ad164, e164, hx164_0⟩ := Kd.at_int HR152_1.out x11_4 p164 q164
             have hw164_0 := hx164_0
             obtain rfl : ad159 = ad164 := (by injection e164)
             replace hx164_0 := (HB.out.cell (World.block_lt_of_cell? w _ hx164_0)).trans hx164_0
             replace p164 := eq_true p164
             replace q164 := eq_true q164
             refine start_ (n := 31) (S := fun w' => w'.cell? ⟨gb153, 0, none⟩ = some (.int .i64 ((rd_T152 l1 x9_2).f0)) ∧ w'.cell? ⟨gb153, 1, none⟩ = some (.slice (some ad159) ((rd_T152 l1 x9_2).f1).length c152_1) ∧ w'.cell? ⟨gb153, 2, none⟩ = some (.slice A152_2 ((rd_T152 l1 x9_2).f2).length c152_2) ∧ w'.cell? (ad159.add (x11_4).toNat) = some (.int .i64 (rd ((rd_T152 l1 x9_2).f1) x11_4)) ∧ w'.cell? (ad159.add (x11_4).toNat) = some (.int .i64 (rd ((rd_T152 l1 x9_2).f1) x11_4)) ∧ w'.cell? (ad159.add (x11_4).toNat) = some (.int .i64 (rd ((rd_T152 l1 x9_2).f1) x11_4))) (ds := []) (rb4 [0, 31]) (by kernel_rfl) rfl rfl ⟨(qg0 BK153.out 0).trans rfl, (qg0 BK153.out 1).trans rfl, (qg0 BK153.out 2).trans rfl, ((HB.out.cell (World.block_lt_of_cell? w _ hw159_0)).trans hw159_0), ((HB.out.cell (World.block_lt_of_cell? w _ hw161_0)).trans hw161_0), ((HB.out.cell (World.block_lt_of_cell? w _ hw164_0)).trans hw164_0)⟩ (fun hHeld => ?_); refine with_tabW spec_StepDown.tab16 spec_StepDown.bits16 (fun HT_ HW_ => ?_)
             generalize wr.drew = w50 at HO_6 HO_7 HO_8 BK153 HB hx159_0 hx161_0 hx164_0 hHeld ⊢
             refine pure_ (i := 0) (N := some 79) (v := ?_) (a' := ?_) (rb4 [1, 30]) rfl rfl (qj0 HT_.out (by kernel_rfl)) (fun _ _ _ h => h) (Or.inl ⟨by rfl, ?_⟩) ?_ ?_
             rotate_left
             ·intro w'
              go_simp
              with_reducible rfl
             rotate_left
             ·simp only [Act.put, List.setIfInBounds_toArray, List.set_cons_zero, List.set_cons_succ, i64_w, i32_w]
              rfl
             refine pure_ (i := 2) (N := some 81) (v := ?_) (a' := ?_) (rb4 [1, 1, 1, 28]) rfl rfl (qj0 HT_.out (by kernel_rfl)) (fun _ _ _ h => h) (Or.inl ⟨by rfl, ?_⟩) ?_ ?_
             rotate_left
             ·intro w'
              go_simp
              with_reducible rfl
             rotate_left
             ·simp only [Act.put, List.setIfInBounds_toArray, List.set_cons_zero, List.set_cons_succ, i64_w, i32_w]
              rfl
             refine pure_ (i := 5) (N := some 84) (v := ?_) (a' := ?_) (rb4 [1, 1, 1, 2, 1, 25]) rfl rfl (qj0 HT_.out (by kernel_rfl)) (fun _ _ _ h => h) (Or.inl ⟨by rfl, ?_⟩) ?_ ?_
             rotate_left
             ·intro w'
              go_simp
              with_reducible rfl
             rotate_left
             ·simp only [Act.put, List.setIfInBounds_toArray, List.set_cons_zero, List.set_cons_succ, i64_w, i32_w]
              rfl
             refine pure_ (i := 6) (N := some 85) (v := ?_) (a' := ?_) (rb4 [1, 1, 1, 2, 2, 24]) rfl rfl (qj0 HT_.out (by kernel_rfl)) (fun _ _ _ h => h) (Or.inl ⟨by rfl, ?_⟩) ?_ ?_
             rotate_left
             ·intro w'
              go_simp
              with_reducible rfl
             rotate_left
             ·simp only [Act.put, List.setIfInBounds_toArray, List.set_cons_zero, List.set_cons_succ, i64_w, i32_w]
              rfl
             refine pure_ (i := 7) (N := some 86) (v := ?_) (a' := ?_) (rb4 [1, 1, 1, 2, 3, 23]) rfl rfl (qj0 HT_.out (by kernel_rfl)) (fun _ _ _ h => h) (Or.inl ⟨by rfl, ?_⟩) ?_ ?_
             rotate_left
             ·intro w'
              go_simp
              with_reducible rfl
             rotate_left
             ·simp only [Act.put, List.setIfInBounds_toArray, List.set_cons_zero, List.set_cons_succ, i64_w, i32_w]
              rfl
             refine take_ (i := 1) (N := some 80) (v := ?_) (a' := ?_) (rb4 [3, 2, 3, 23]) rfl rfl (qv0 HT_.out HW_.out (by kernel_rfl)) (fun _ _ _ h => h) (Or.inl ⟨by rfl, ?_⟩) hHeld ?_ ?_
             rotate_left
             ·rintro w' ⟨s0, s1, s2, s3, s4, s5⟩
              go_simp
              with_reducible rfl
             rotate_left
             ·simp only [Act.put, List.setIfInBounds_toArray, List.set_cons_zero, List.set_cons_succ, i64_w, i32_w]
              rfl
             refine pure_ (i := 3) (N := some 82) (v := ?_) (a' := ?_) (rb4 [4, 1, 3, 23]) rfl rfl (qj0 HT_.out (by kernel_rfl)) (fun _ _ _ h => h) (Or.inl ⟨by rfl, ?_⟩) ?_ ?_
             rotate_left
             ·intro w'
              go_simp
              with_reducible rfl
             rotate_left
             ·simp only [Act.put, List.setIfInBounds_toArray, List.set_cons_zero, List.set_cons_succ, i64_w, i32_w]
              rfl
             refine take_ (i := 4) (N := some 83) (v := ?_) (a' := ?_) (rb4 [8, 23]) rfl rfl (qv0 HT_.out HW_.out (by kernel_rfl)) (fun _ _ _ h => h) (Or.inl ⟨by rfl, ?_⟩) hHeld ?_ ?_
             rotate_left
             ·rintro w' ⟨s0, s1, s2, s3, s4, s5⟩
              go_simp
              with_reducible rfl
             rotate_left
             ·simp only [Act.put, List.setIfInBounds_toArray, List.set_cons_zero, List.set_cons_succ, i64_w, i32_w]
              rfl
             refine one_ (i := 8) (N := some 87) (rb4 [9, 22]) rfl rfl (qw1 HT_.out (by kernel_rfl)) (by decide) (fun K hK => ?_)
             refine goes_ Try.func76 (by kernel_rfl) rfl #[.int .i64 (rd ((rd_T152 l1 x9_2).f1) x11_4), .int .i64 0, .int .i64 (wrap64 ((l0.length : Int) - 1))] (by rfl) rfl rfl (by (try simp only [List.map_toArray, List.map_cons, List.map_nil]); first | done | rfl | (simp only [List.length_drop, List.length_take]; rfl)) ?_
             with_reducible refine (spec_l1In.calls (rd ((rd_T152 l1 x9_2).f1) x11_4) 0 (wrap64 ((l0.length : Int) - 1)) true _ A38.out).mono ?_
             rintro e w' ⟨rfl, ⟨nd, rfl⟩⟩
             refine ⟨_, rfl, ?_⟩
             obtain ⟨Ao51, co51, eo51⟩ := Kd.qy0 HO_8.out
             (first | subst eo51 | (injection eo51 with f1_ f2_ f3_; have f4_ := f1_.symm; have f5_ := f3_.symm; clear f1_ f2_ f3_; subst f4_; subst f5_))
             refine hK.out _ _ ⟨(qg0 BK153.out 0).trans rfl, (qg0 BK153.out 1).trans rfl, (qg0 BK153.out 2).trans rfl, ((HB.out.cell (World.block_lt_of_cell? w _ hw159_0)).trans hw159_0), ((HB.out.cell (World.block_lt_of_cell? w _ hw161_0)).trans hw161_0), ((HB.out.cell (World.block_lt_of_cell? w _ hw164_0)).trans hw164_0)⟩ (fun hHeld => ?_)
             clear hK K
             refine norm_ (a' := ?_) ?_ ?_
             rotate_left
             ·show Act.put _ (some 87) _ = _
              simp only [Act.put, List.setIfInBounds_toArray, List.set_cons_zero, List.set_cons_succ, i64_w, i32_w]
              rfl
             refine pure_ (i := 9) (N := some 88) (v := ?_) (a' := ?_) (rb4 [10, 21]) rfl rfl (qj0 HT_.out (by kernel_rfl)) (fun _ _ _ h => h) (Or.inl ⟨by rfl, ?_⟩) ?_ ?_
             rotate_left
             ·intro w'
              go_simp
              with_reducible rfl
             rotate_left
             ·simp only [Act.put, List.setIfInBounds_toArray, List.set_cons_zero, List.set_cons_succ, i64_w, i32_w]
              rfl
             refine pure_ (i := 10) (N := some 89) (v := ?_) (a' := ?_) (rb4 [11, 20]) rfl rfl (qj0 HT_.out (by kernel_rfl)) (fun _ _ _ h => h) (Or.inl ⟨by rfl, ?_⟩) ?_ ?_
             rotate_left
             ·intro w'
              go_simp
              with_reducible rfl
             rotate_left
             ·simp only [Act.put, List.setIfInBounds_toArray, List.set_cons_zero, List.set_cons_succ, i64_w, i32_w]
              rfl
             refine pure_ (i := 11) (N := some 90) (v := ?_) (a' := ?_) (rb4 [12, 19]) rfl rfl (qj0 HT_.out (by kernel_rfl)) (fun _ _ _ h => h) (Or.inl ⟨by rfl, ?_⟩) ?_ ?_
             rotate_left
             ·intro w'
              go_simp
              with_reducible rfl
             rotate_left
             ·simp only [Act.put, List.setIfInBounds_toArray, List.set_cons_zero, List.set_cons_succ, i64_w, i32_w]
              rfl
             refine pure_ (i := 12) (N := some 91) (v := ?_) (a' := ?_) (rb4 [13, 18]) rfl rfl (qj0 HT_.out (by kernel_rfl)) (fun _ _ _ h => h) (Or.inl ⟨by rfl, ?_⟩) ?_ ?_
             rotate_left
             ·intro w'
              go_simp
              with_reducible rfl
             rotate_left
             ·simp only [Act.put, List.setIfInBounds_toArray, List.set_cons_zero, List.set_cons_succ, i64_w, i32_w]
              rfl
             refine pure_ (i := 14) (N := some 93) (v := ?_) (a' := ?_) (rb4 [13, 1, 1, 16]) rfl rfl (qj0 HT_.out (by kernel_rfl)) (fun _ _ _ h => h) (Or.inl ⟨by rfl, ?_⟩) ?_ ?_
             rotate_left
             ·intro w'
              go_simp
              with_reducible rfl
             rotate_left
             ·simp only [Act.put, List.setIfInBounds_toArray, List.set_cons_zero, List.set_cons_succ, i64_w, i32_w]
              rfl
             refine take_ (i := 13) (N := some 92) (v := ?_) (a' := ?_) (rb4 [15, 16]) rfl rfl (qv0 HT_.out HW_.out (by kernel_rfl)) (fun _ _ _ h => h) (Or.inl ⟨by rfl, ?_⟩) hHeld ?_ ?_
             rotate_left
             ·rintro w' ⟨s0, s1, s2, s3, s4, s5⟩
              go_simp
              with_reducible rfl
             rotate_left
             ·simp only [Act.put, List.setIfInBounds_toArray, List.set_cons_zero, List.set_cons_succ, i64_w, i32_w]
              rfl
             refine pure_ (i := 15) (N := some 94) (v := ?_) (a' := ?_) (rb4 [16, 15]) rfl rfl (qj0 HT_.out (by kernel_rfl)) (fun _ _ _ h => h) (Or.inl ⟨by rfl, ?_⟩) ?_ ?_
             rotate_left
             ·intro w'
              go_simp
              with_reducible rfl
             rotate_left
             ·simp only [Act.put, List.setIfInBounds_toArray, List.set_cons_zero, List.set_cons_succ, i64_w, i32_w]
              rfl
             refine take_ (i := 16) (N := some 95) (v := ?_) (a' := ?_) (rb4 [17, 14]) rfl rfl (qv0 HT_.out HW_.out (by kernel_rfl)) (fun _ _ _ h => h) (Or.inl ⟨by rfl, ?_⟩) hHeld ?_ ?_
             rotate_left
             ·rintro w' ⟨s0, s1, s2, s3, s4, s5⟩
              go_simp
              with_reducible rfl
             rotate_left
             ·simp only [Act.put, List.setIfInBounds_toArray, List.set_cons_zero, List.set_cons_succ, i64_w, i32_w]
              rfl
             refine one_ (i := 17) (N := some 96) (rb4 [18, 13]) rfl rfl (qw1 HT_.out (by kernel_rfl)) (by decide) (fun K hK => ?_)
             refine goes_ Try.func107 (by kernel_rfl) rfl #[.slice Ao51 y156.length co51, .int .i64 (rd ((rd_T152 l1 x9_2).f1) x11_4)] (by rfl) rfl rfl (by (try simp only [List.map_toArray, List.map_cons, List.map_nil]); first | done | rfl | (simp only [List.length_drop, List.length_take]; rfl)) ?_
             with_reducible refine (spec_l7Has.calls k4 _ _ y156 (rd ((rd_T152 l1 x9_2).f1) x11_4) false _ ?side1 ?side2 A40.out).mono ?_
             (case side1 => repeat (first | exact (Kd.qk0 HO_8.out).2.2 | (with_reducible refine Kd.qt0 ?_ _) | (with_reducible refine Kd.qs0 ?_ _) | (with_reducible refine Kd.qu0 ?_)))
             (case side2 => exact (Kd.qk0 HO_8.out).2.1)
             rintro e w' ⟨rfl, ⟨nd, rfl⟩⟩
             refine ⟨_, rfl, ?_⟩
             obtain ⟨i052, hi052, _, hsz52, _⟩ := info_parts info3
             obtain ⟨hcut52, hA52, hC52⟩ := print_take_of (P := Try.prog) (Value.int .i64) 0 25 3 .i64 Try.underlying25 hi052 hsz52 (some ad159) c152_1 ((rd_T152 l1 x9_2).f1) x11_4 (of_decide_eq_true (by first | (with_reducible assumption) | assumption)) (of_decide_eq_true (by first | (with_reducible assumption) | assumption)) HC152_1.out
             have HR163 := Aside0.mk (Kd.C_of_reads (h1 := fun _ => rfl) (hA52 _ (Kd.reads_of_C HR152_1.out)))
             have HC163 := Aside0.mk hC52
             clear hA52 hC52 hi052 hsz52
             refine hK.out _ _ ⟨(qg0 BK153.out 0).trans rfl, (qg0 BK153.out 1).trans rfl, (qg0 BK153.out 2).trans rfl, ((HB.out.cell (World.block_lt_of_cell? w _ hw159_0)).trans hw159_0), ((HB.out.cell (World.block_lt_of_cell? w _ hw161_0)).trans hw161_0), ((HB.out.cell (World.block_lt_of_cell? w _ hw164_0)).trans hw164_0)⟩ (fun hHeld => ?_)
             clear hK K
             refine norm_ (a' := ?_) ?_ ?_
             rotate_left
             ·show Act.put _ (some 96) _ = _
              simp only [Act.put, List.setIfInBounds_toArray, List.set_cons_zero, List.set_cons_succ, i64_w, i32_w]
              rfl
             refine pure_ (i := 18) (N := some 97) (v := ?_) (a' := ?_) (rb4 [19, 12]) rfl rfl (qj0 HT_.out (by kernel_rfl)) (fun _ _ _ h => h) (Or.inl ⟨by rfl, ?_⟩) ?_ ?_
             rotate_left
             ·intro w'
              go_simp
              with_reducible rfl
             rotate_left
             ·simp only [Act.put, List.setIfInBounds_toArray, List.set_cons_zero, List.set_cons_succ, i64_w, i32_w]
              rfl
             refine pure_ (i := 19) (N := some 98) (v := ?_) (a' := ?_) (rb4 [20, 11]) rfl rfl (qj0 HT_.out (by kernel_rfl)) (fun _ _ _ h => h) (Or.inl ⟨by rfl, ?_⟩) ?_ ?_
             rotate_left
             ·intro w'
              go_simp
              with_reducible rfl
             rotate_left
             ·simp only [Act.put, List.setIfInBounds_toArray, List.set_cons_zero, List.set_cons_succ, i64_w, i32_w]
              rfl
             refine pure_ (i := 20) (N := some 99) (v := ?_) (a' := ?_) (rb4 [21, 10]) rfl rfl (qj0 HT_.out (by kernel_rfl)) (fun _ _ _ h => h) (Or.inl ⟨by rfl, ?_⟩) ?_ ?_
             rotate_left
             ·intro w'
              go_simp
              with_reducible rfl
             rotate_left
             ·simp only [Act.put, List.setIfInBounds_toArray, List.set_cons_zero, List.set_cons_succ, i64_w, i32_w]
              rfl
             refine pure_ (i := 22) (N := some 101) (v := ?_) (a' := ?_) (rb4 [21, 1, 1, 8]) rfl rfl (qj0 HT_.out (by kernel_rfl)) (fun _ _ _ h => h) (Or.inl ⟨by rfl, ?_⟩) ?_ ?_
             rotate_left
             ·intro w'
              go_simp
              with_reducible rfl
             rotate_left
             ·simp only [Act.put, List.setIfInBounds_toArray, List.set_cons_zero, List.set_cons_succ, i64_w, i32_w]
              rfl
             refine pure_ (i := 24) (N := some 103) (v := ?_) (a' := ?_) (rb4 [21, 1, 1, 1, 1, 6]) rfl rfl (qj0 HT_.out (by kernel_rfl)) (fun _ _ _ h => h) (Or.inl ⟨by rfl, ?_⟩) ?_ ?_
             rotate_left
             ·intro w'
              go_simp
              with_reducible rfl
             rotate_left
             ·simp only [Act.put, List.setIfInBounds_toArray, List.set_cons_zero, List.set_cons_succ, i64_w, i32_w]
              rfl
             refine pure_ (i := 26) (N := some 105) (v := ?_) (a' := ?_) (rb4 [21, 1, 1, 1, 1, 1, 1, 4]) rfl rfl (qj0 HT_.out (by kernel_rfl)) (fun _ _ _ h => h) (Or.inl ⟨by rfl, ?_⟩) ?_ ?_
             rotate_left
             ·intro w'
              go_simp
              with_reducible rfl
             rotate_left
             ·simp only [Act.put, List.setIfInBounds_toArray, List.set_cons_zero, List.set_cons_succ, i64_w, i32_w]
              rfl
             refine take_ (i := 21) (N := some 100) (v := ?_) (a' := ?_) (rb4 [23, 1, 1, 1, 1, 4]) rfl rfl (qv0 HT_.out HW_.out (by kernel_rfl)) (fun _ _ _ h => h) (Or.inl ⟨by rfl, ?_⟩) hHeld ?_ ?_
             rotate_left
             ·rintro w' ⟨s0, s1, s2, s3, s4, s5⟩
              go_simp
              with_reducible rfl
             rotate_left
             ·simp only [Act.put, List.setIfInBounds_toArray, List.set_cons_zero, List.set_cons_succ, i64_w, i32_w]
              rfl
             refine pure_ (i := 23) (N := some 102) (v := ?_) (a' := ?_) (rb4 [25, 1, 1, 4]) rfl rfl (qj0 HT_.out (by kernel_rfl)) (fun _ _ _ h => h) (Or.inl ⟨by rfl, ?_⟩) ?_ ?_
             rotate_left
             ·intro w'
              go_simp
              with_reducible rfl
             rotate_left
             ·simp only [Act.put, List.setIfInBounds_toArray, List.set_cons_zero, List.set_cons_succ, i64_w, i32_w]
              rfl
             refine take_ (i := 25) (N := some 104) (v := ?_) (a' := ?_) (rb4 [27, 4]) rfl rfl (qv0 HT_.out HW_.out (by kernel_rfl)) (fun _ _ _ h => h) (Or.inl ⟨by rfl, ?_⟩) hHeld ?_ ?_
             rotate_left
             ·rintro w' ⟨s0, s1, s2, s3, s4, s5⟩
              go_simp
              with_reducible rfl
             rotate_left
             ·simp only [Act.put, List.setIfInBounds_toArray, List.set_cons_zero, List.set_cons_succ, i64_w, i32_w]
              rfl
             refine pure_ (i := 27) (N := some 106) (v := ?_) (a' := ?_) (rb4 [28, 3]) rfl rfl (qj0 HT_.out (by kernel_rfl)) (fun _ _ _ h => h) (Or.inl ⟨by rfl, ?_⟩) ?_ ?_
             rotate_left
             ·intro w'
              go_simp
              with_reducible rfl
             rotate_left
             ·simp only [Act.put, List.setIfInBounds_toArray, List.set_cons_zero, List.set_cons_succ, i64_w, i32_w]
              rfl
             refine take_ (i := 28) (N := some 107) (v := ?_) (a' := ?_) (rb4 [29, 2]) rfl rfl (qv0 HT_.out HW_.out (by kernel_rfl)) (fun _ _ _ h => h) (Or.inl ⟨by rfl, ?_⟩) hHeld ?_ ?_
             rotate_left
             ·rintro w' ⟨s0, s1, s2, s3, s4, s5⟩
              go_simp
              with_reducible rfl
             rotate_left
             ·simp only [Act.put, List.setIfInBounds_toArray, List.set_cons_zero, List.set_cons_succ, i64_w, i32_w]
              rfl
             refine one_ (i := 29) (N := some 108) (rb4 [30, 1]) rfl rfl (qw1 HT_.out (by kernel_rfl)) (by decide) (fun K hK => ?_)
             refine goes_ Try.func107 (by kernel_rfl) rfl #[.slice (some ad159) (((rd_T152 l1 x9_2).f1).take (x11_4 : Int).toNat).length c152_1, .int .i64 (rd ((rd_T152 l1 x9_2).f1) x11_4)] (by rfl) rfl rfl (by (try simp only [List.map_toArray, List.map_cons, List.map_nil]); first | done | (rw [show (((rd_T152 l1 x9_2).f1).take (x11_4 : Int).toNat).length = x11_4.toNat from (by rw [List.length_take]; have h_ : (x11_4 : Int) ≤ (((rd_T152 l1 x9_2).f1).length : Int) := of_decide_eq_true (by first | (with_reducible assumption) | assumption); omega)] <;> rfl) | rfl | (simp only [List.length_drop, List.length_take]; rfl)) ?_
             with_reducible refine (spec_l7Has.calls k4 _ _ (((rd_T152 l1 x9_2).f1).take (x11_4 : Int).toNat) (rd ((rd_T152 l1 x9_2).f1) x11_4) true _ ?side1 ?side2 A47.out).mono ?_
             (case side1 => repeat (first | exact (Kd.qz0 HR163.out (by repeat (first | (with_reducible first | exact HB.out | apply qc0 | apply qa0 | apply qb0 | refine qi0 ?_ GE153.out) | exact HB.out))) | (with_reducible refine Kd.qt0 ?_ _) | (with_reducible refine Kd.qs0 ?_ _) | (with_reducible refine Kd.qu0 ?_)))
             (case side2 => exact HC163.out)
             rintro e w' ⟨rfl, ⟨nd, rfl⟩⟩
             refine ⟨_, rfl, ?_⟩
             refine hK.out _ _ ⟨(qg0 BK153.out 0).trans rfl, (qg0 BK153.out 1).trans rfl, (qg0 BK153.out 2).trans rfl, ((HB.out.cell (World.block_lt_of_cell? w _ hw159_0)).trans hw159_0), ((HB.out.cell (World.block_lt_of_cell? w _ hw161_0)).trans hw161_0), ((HB.out.cell (World.block_lt_of_cell? w _ hw164_0)).trans hw164_0)⟩ (fun hHeld => ?_)
             clear hK K
             refine norm_ (a' := ?_) ?_ ?_
             rotate_left
             ·show Act.put _ (some 108) _ = _
              simp only [Act.put, List.setIfInBounds_toArray, List.set_cons_zero, List.set_cons_succ, i64_w, i32_w]
              rfl
             refine pure_ (i := 30) (N := some 109) (v := ?_) (a' := ?_) (rb4 [31]) rfl rfl (qj0 HT_.out (by kernel_rfl)) (fun _ _ _ h => h) (Or.inl ⟨by rfl, ?_⟩) ?_ ?_
             rotate_left
             ·intro w'
              go_simp
              with_reducible rfl
             rotate_left
             ·simp only [Act.put, List.setIfInBounds_toArray, List.set_cons_zero, List.set_cons_succ, i64_w, i32_w]
              rfl
             refine done_ (done_of HT_.out (by kernel_rfl)) ?_
             try go_wp2
             go_ret2
             exact ⟨_, by first | rfl | (simp [errW_none, errW_some] <;> rfl) | (simp [*, errW_none, errW_some] <;> rfl), by (with_reducible repeat (first | apply Kd.qe0 | apply Kd.qd0 | apply Kd.qf0)); exact Kd.qq0 HO_6.out (fun _ hk => trivial), by repeat (first | (with_reducible first | exact HB.out | apply qc0 | apply qa0 | apply qb0 | refine qi0 ?_ GE153.out) | exact HB.out)⟩
            replace c48 := Bool.eq_false_iff.mpr c48
            subst c48
            have H1 : (spec_StepDown.l1 k4 l0 l1 y139 x7_2 y156 x9_2 (wrap64 (x11_4 + 1)) ((rd_T152 l1 x9_2).f0) ((rd_T152 l1 x9_2).f1) ((rd_T152 l1 x9_2).f2)) = some (r1, r2) := by rw [if_neg (show ¬ (false = true) by decide)] at H; exact H
            clear H
            have H := H1
            clear H1
            have H' := Aside0.mk H
            clear H
            have hcz53_0 : wr.cell? ⟨gb153, 0, none⟩ = some (.int .i64 ((rd_T152 l1 x9_2).f0)) := (qg0 BK153.out 0).trans rfl
            have hcz53_1 : wr.cell? ⟨gb153, 1, none⟩ = some (.slice A152_1 ((rd_T152 l1 x9_2).f1).length c152_1) := (qg0 BK153.out 1).trans rfl
            have hcz53_2 : wr.cell? ⟨gb153, 2, none⟩ = some (.slice A152_2 ((rd_T152 l1 x9_2).f2).length c152_2) := (qg0 BK153.out 2).trans rfl
            have hfz53_0 := qh0 BK153.out 0
            have hfz53_1 := qh0 BK153.out 1
            have hfz53_2 := qh0 BK153.out 2
            try go_wp2
            have n0_ := Aside0.mk (Kd.qf0 HO_6.out)
            have n1_ := Aside0.mk (Kd.qf0 HO_7.out)
            have n2_ := Aside0.mk (Kd.qf0 HO_8.out)
            have n3_ := Aside0.mk (qp0 BK153.out)
            have n4_ := Aside0.mk (qb0 HB.out)
            clear HO_6
            clear HO_7
            clear HO_8
            clear BK153
            clear HB
            have HO_6 := n0_
            have HO_7 := n1_
            have HO_8 := n2_
            have BK153 := n3_
            have HB := n4_
            clear n0_ n1_ n2_ n3_ n4_
            have p159 : 0 ≤ (x11_4 : Int) := of_decide_eq_true (by first | (with_reducible assumption) | assumption)
            have q159 : x11_4 < (((rd_T152 l1 x9_2).f1).length : Int) := of_decide_eq_true (by first | (with_reducible assumption) | assumption)
            obtain ⟨ad159, e159, hx159_0⟩ := Kd.at_int HR152_1.out x11_4 p159 q159
            have hw159_0 := hx159_0
            cases e159
            replace hx159_0 := (HB.out.cell (World.block_lt_of_cell? w _ hx159_0)).trans hx159_0
            replace p159 := eq_true p159
            replace q159 := eq_true q159
            have p161 : 0 ≤ (x11_4 : Int) := of_decide_eq_true (by first | (with_reducible assumption) | assumption)
            have q161 : x11_4 < (((rd_T152 l1 x9_2).f1).length : Int) := of_decide_eq_true (by first | (with_reducible assumption) | assumption)
            obtain ⟨ad161, e161, hx161_0⟩ := Kd.at_int HR152_1.out x11_4 p161 q161
            have hw161_0 := hx161_0
            obtain rfl : ad159 = ad161 := (by injection e161)
            replace hx161_0 := (HB.out.cell (World.block_lt_of_cell? w _ hx161_0)).trans hx161_0
            replace p161 := eq_true p161
            replace q161 := eq_true q161
            have p164 : 0 ≤ (x11_4 : Int) := of_decide_eq_true (by first | (with_reducible assumption) | assumption)
            have q164 : x11_4 < (((rd_T152 l1 x9_2).f1).length : Int) := of_decide_eq_true (by first | (with_reducible assumption) | assumption)
            obtain ⟨ad164, e164, hx164_0⟩ := Kd.at_int HR152_1.out x11_4 p164 q164
            have hw164_0 := hx164_0
            obtain rfl : ad159 = ad164 := (by injection e164)
            replace hx164_0 := (HB.out.cell (World.block_lt_of_cell? w _ hx164_0)).trans hx164_0
            replace p164 := eq_true p164
            replace q164 := eq_true q164
            refine start_ (n := 31) (S := fun w' => w'.cell? ⟨gb153, 0, none⟩ = some (.int .i64 ((rd_T152 l1 x9_2).f0)) ∧ w'.cell? ⟨gb153, 1, none⟩ = some (.slice (some ad159) ((rd_T152 l1 x9_2).f1).length c152_1) ∧ w'.cell? ⟨gb153, 2, none⟩ = some (.slice A152_2 ((rd_T152 l1 x9_2).f2).length c152_2) ∧ w'.cell? (ad159.add (x11_4).toNat) = some (.int .i64 (rd ((rd_T152 l1 x9_2).f1) x11_4)) ∧ w'.cell? (ad159.add (x11_4).toNat) = some (.int .i64 (rd ((rd_T152 l1 x9_2).f1) x11_4)) ∧ w'.cell? (ad159.add (x11_4).toNat) = some (.int .i64 (rd ((rd_T152 l1 x9_2).f1) x11_4))) (ds := []) (rb4 [0, 31]) (by kernel_rfl) rfl rfl ⟨(qg0 BK153.out 0).trans rfl, (qg0 BK153.out 1).trans rfl, (qg0 BK153.out 2).trans rfl, ((HB.out.cell (World.block_lt_of_cell? w _ hw159_0)).trans hw159_0), ((HB.out.cell (World.block_lt_of_cell? w _ hw161_0)).trans hw161_0), ((HB.out.cell (World.block_lt_of_cell? w _ hw164_0)).trans hw164_0)⟩ (fun hHeld => ?_); refine with_tabW spec_StepDown.tab16 spec_StepDown.bits16 (fun HT_ HW_ => ?_)
            generalize wr.drew = w54 at HO_6 HO_7 HO_8 BK153 HB hx159_0 hx161_0 hx164_0 hHeld ⊢
            refine pure_ (i := 0) (N := some 79) (v := ?_) (a' := ?_) (rb4 [1, 30]) rfl rfl (qj0 HT_.out (by kernel_rfl)) (fun _ _ _ h => h) (Or.inl ⟨by rfl, ?_⟩) ?_ ?_
            rotate_left
            ·intro w'
             go_simp
             with_reducible rfl
            rotate_left
            ·simp only [Act.put, List.setIfInBounds_toArray, List.set_cons_zero, List.set_cons_succ, i64_w, i32_w]
             rfl
            refine pure_ (i := 2) (N := some 81) (v := ?_) (a' := ?_) (rb4 [1, 1, 1, 28]) rfl rfl (qj0 HT_.out (by kernel_rfl)) (fun _ _ _ h => h) (Or.inl ⟨by rfl, ?_⟩) ?_ ?_
            rotate_left
            ·intro w'
             go_simp
             with_reducible rfl
            rotate_left
            ·simp only [Act.put, List.setIfInBounds_toArray, List.set_cons_zero, List.set_cons_succ, i64_w, i32_w]
             rfl
            refine pure_ (i := 5) (N := some 84) (v := ?_) (a' := ?_) (rb4 [1, 1, 1, 2, 1, 25]) rfl rfl (qj0 HT_.out (by kernel_rfl)) (fun _ _ _ h => h) (Or.inl ⟨by rfl, ?_⟩) ?_ ?_
            rotate_left
            ·intro w'
             go_simp
             with_reducible rfl
            rotate_left
            ·simp only [Act.put, List.setIfInBounds_toArray, List.set_cons_zero, List.set_cons_succ, i64_w, i32_w]
             rfl
            refine pure_ (i := 6) (N := some 85) (v := ?_) (a' := ?_) (rb4 [1, 1, 1, 2, 2, 24]) rfl rfl (qj0 HT_.out (by kernel_rfl)) (fun _ _ _ h => h) (Or.inl ⟨by rfl, ?_⟩) ?_ ?_
            rotate_left
            ·intro w'
             go_simp
             with_reducible rfl
            rotate_left
            ·simp only [Act.put, List.setIfInBounds_toArray, List.set_cons_zero, List.set_cons_succ, i64_w, i32_w]
             rfl
            refine pure_ (i := 7) (N := some 86) (v := ?_) (a' := ?_) (rb4 [1, 1, 1, 2, 3, 23]) rfl rfl (qj0 HT_.out (by kernel_rfl)) (fun _ _ _ h => h) (Or.inl ⟨by rfl, ?_⟩) ?_ ?_
            rotate_left
            ·intro w'
             go_simp
             with_reducible rfl
            rotate_left
            ·simp only [Act.put, List.setIfInBounds_toArray, List.set_cons_zero, List.set_cons_succ, i64_w, i32_w]
             rfl
            refine take_ (i := 1) (N := some 80) (v := ?_) (a' := ?_) (rb4 [3, 2, 3, 23]) rfl rfl (qv0 HT_.out HW_.out (by kernel_rfl)) (fun _ _ _ h => h) (Or.inl ⟨by rfl, ?_⟩) hHeld ?_ ?_
            rotate_left
            ·rintro w' ⟨s0, s1, s2, s3, s4, s5⟩
             go_simp
             with_reducible rfl
            rotate_left
            ·simp only [Act.put, List.setIfInBounds_toArray, List.set_cons_zero, List.set_cons_succ, i64_w, i32_w]
             rfl
            refine pure_ (i := 3) (N := some 82) (v := ?_) (a' := ?_) (rb4 [4, 1, 3, 23]) rfl rfl (qj0 HT_.out (by kernel_rfl)) (fun _ _ _ h => h) (Or.inl ⟨by rfl, ?_⟩) ?_ ?_
            rotate_left
            ·intro w'
             go_simp
             with_reducible rfl
            rotate_left
            ·simp only [Act.put, List.setIfInBounds_toArray, List.set_cons_zero, List.set_cons_succ, i64_w, i32_w]
             rfl
            refine take_ (i := 4) (N := some 83) (v := ?_) (a' := ?_) (rb4 [8, 23]) rfl rfl (qv0 HT_.out HW_.out (by kernel_rfl)) (fun _ _ _ h => h) (Or.inl ⟨by rfl, ?_⟩) hHeld ?_ ?_
            rotate_left
            ·rintro w' ⟨s0, s1, s2, s3, s4, s5⟩
             go_simp
             with_reducible rfl
            rotate_left
            ·simp only [Act.put, List.setIfInBounds_toArray, List.set_cons_zero, List.set_cons_succ, i64_w, i32_w]
             rfl
            refine one_ (i := 8) (N := some 87) (rb4 [9, 22]) rfl rfl (qw1 HT_.out (by kernel_rfl)) (by decide) (fun K hK => ?_)
            refine goes_ Try.func76 (by kernel_rfl) rfl #[.int .i64 (rd ((rd_T152 l1 x9_2).f1) x11_4), .int .i64 0, .int .i64 (wrap64 ((l0.length : Int) - 1))] (by rfl) rfl rfl (by (try simp only [List.map_toArray, List.map_cons, List.map_nil]); first | done | rfl | (simp only [List.length_drop, List.length_take]; rfl)) ?_
            with_reducible refine (spec_l1In.calls (rd ((rd_T152 l1 x9_2).f1) x11_4) 0 (wrap64 ((l0.length : Int) - 1)) true _ A38.out).mono ?_
            rintro e w' ⟨rfl, ⟨nd, rfl⟩⟩
            refine ⟨_, rfl, ?_⟩
            obtain ⟨Ao55, co55, eo55⟩ := Kd.qy0 HO_8.out
            (first | subst eo55 | (injection eo55 with f1_ f2_ f3_; have f4_ := f1_.symm; have f5_ := f3_.symm; clear f1_ f2_ f3_; subst f4_; subst f5_))
            refine hK.out _ _ ⟨(qg0 BK153.out 0).trans rfl, (qg0 BK153.out 1).trans rfl, (qg0 BK153.out 2).trans rfl, ((HB.out.cell (World.block_lt_of_cell? w _ hw159_0)).trans hw159_0), ((HB.out.cell (World.block_lt_of_cell? w _ hw161_0)).trans hw161_0), ((HB.out.cell (World.block_lt_of_cell? w _ hw164_0)).trans hw164_0)⟩ (fun hHeld => ?_)
            clear hK K
            refine norm_ (a' := ?_) ?_ ?_
            rotate_left
            ·show Act.put _ (some 87) _ = _
             simp only [Act.put, List.setIfInBounds_toArray, List.set_cons_zero, List.set_cons_succ, i64_w, i32_w]
             rfl
            refine pure_ (i := 9) (N := some 88) (v := ?_) (a' := ?_) (rb4 [10, 21]) rfl rfl (qj0 HT_.out (by kernel_rfl)) (fun _ _ _ h => h) (Or.inl ⟨by rfl, ?_⟩) ?_ ?_
            rotate_left
            ·intro w'
             go_simp
             with_reducible rfl
            rotate_left
            ·simp only [Act.put, List.setIfInBounds_toArray, List.set_cons_zero, List.set_cons_succ, i64_w, i32_w]
             rfl
            refine pure_ (i := 10) (N := some 89) (v := ?_) (a' := ?_) (rb4 [11, 20]) rfl rfl (qj0 HT_.out (by kernel_rfl)) (fun _ _ _ h => h) (Or.inl ⟨by rfl, ?_⟩) ?_ ?_
            rotate_left
            ·intro w'
             go_simp
             with_reducible rfl
            rotate_left
            ·simp only [Act.put, List.setIfInBounds_toArray, List.set_cons_zero, List.set_cons_succ, i64_w, i32_w]
             rfl
            refine pure_ (i := 11) (N := some 90) (v := ?_) (a' := ?_) (rb4 [12, 19]) rfl rfl (qj0 HT_.out (by kernel_rfl)) (fun _ _ _ h => h) (Or.inl ⟨by rfl, ?_⟩) ?_ ?_
            rotate_left
            ·intro w'
             go_simp
             with_reducible rfl
            rotate_left
            ·simp only [Act.put, List.setIfInBounds_toArray, List.set_cons_zero, List.set_cons_succ, i64_w, i32_w]
             rfl
            refine pure_ (i := 12) (N := some 91) (v := ?_) (a' := ?_) (rb4 [13, 18]) rfl rfl (qj0 HT_.out (by kernel_rfl)) (fun _ _ _ h => h) (Or.inl ⟨by rfl, ?_⟩) ?_ ?_
            rotate_left
            ·intro w'
             go_simp
             with_reducible rfl
            rotate_left
            ·simp only [Act.put, List.setIfInBounds_toArray, List.set_cons_zero, List.set_cons_succ, i64_w, i32_w]
             rfl
            refine pure_ (i := 14) (N := some 93) (v := ?_) (a' := ?_) (rb4 [13, 1, 1, 16]) rfl rfl (qj0 HT_.out (by kernel_rfl)) (fun _ _ _ h => h) (Or.inl ⟨by rfl, ?_⟩) ?_ ?_
            rotate_left
            ·intro w'
             go_simp
             with_reducible rfl
            rotate_left
            ·simp only [Act.put, List.setIfInBounds_toArray, List.set_cons_zero, List.set_cons_succ, i64_w, i32_w]
             rfl
            refine take_ (i := 13) (N := some 92) (v := ?_) (a' := ?_) (rb4 [15, 16]) rfl rfl (qv0 HT_.out HW_.out (by kernel_rfl)) (fun _ _ _ h => h) (Or.inl ⟨by rfl, ?_⟩) hHeld ?_ ?_
            rotate_left
            ·rintro w' ⟨s0, s1, s2, s3, s4, s5⟩
             go_simp
             with_reducible rfl
            rotate_left
            ·simp only [Act.put, List.setIfInBounds_toArray, List.set_cons_zero, List.set_cons_succ, i64_w, i32_w]
             rfl
            refine pure_ (i := 15) (N := some 94) (v := ?_) (a' := ?_) (rb4 [16, 15]) rfl rfl (qj0 HT_.out (by kernel_rfl)) (fun _ _ _ h => h) (Or.inl ⟨by rfl, ?_⟩) ?_ ?_
            rotate_left
            ·intro w'
             go_simp
             with_reducible rfl
            rotate_left
            ·simp only [Act.put, List.setIfInBounds_toArray, List.set_cons_zero, List.set_cons_succ, i64_w, i32_w]
             rfl
            refine take_ (i := 16) (N := some 95) (v := ?_) (a' := ?_) (rb4 [17, 14]) rfl rfl (qv0 HT_.out HW_.out (by kernel_rfl)) (fun _ _ _ h => h) (Or.inl ⟨by rfl, ?_⟩) hHeld ?_ ?_
            rotate_left
            ·rintro w' ⟨s0, s1, s2, s3, s4, s5⟩
             go_simp
             with_reducible rfl
            rotate_left
            ·simp only [Act.put, List.setIfInBounds_toArray, List.set_cons_zero, List.set_cons_succ, i64_w, i32_w]
             rfl
            refine one_ (i := 17) (N := some 96) (rb4 [18, 13]) rfl rfl (qw1 HT_.out (by kernel_rfl)) (by decide) (fun K hK => ?_)
            refine goes_ Try.func107 (by kernel_rfl) rfl #[.slice Ao55 y156.length co55, .int .i64 (rd ((rd_T152 l1 x9_2).f1) x11_4)] (by rfl) rfl rfl (by (try simp only [List.map_toArray, List.map_cons, List.map_nil]); first | done | rfl | (simp only [List.length_drop, List.length_take]; rfl)) ?_
            with_reducible refine (spec_l7Has.calls k4 _ _ y156 (rd ((rd_T152 l1 x9_2).f1) x11_4) false _ ?side1 ?side2 A40.out).mono ?_
            (case side1 => repeat (first | exact (Kd.qk0 HO_8.out).2.2 | (with_reducible refine Kd.qt0 ?_ _) | (with_reducible refine Kd.qs0 ?_ _) | (with_reducible refine Kd.qu0 ?_)))
            (case side2 => exact (Kd.qk0 HO_8.out).2.1)
            rintro e w' ⟨rfl, ⟨nd, rfl⟩⟩
            refine ⟨_, rfl, ?_⟩
            obtain ⟨i056, hi056, _, hsz56, _⟩ := info_parts info3
            obtain ⟨hcut56, hA56, hC56⟩ := print_take_of (P := Try.prog) (Value.int .i64) 0 25 3 .i64 Try.underlying25 hi056 hsz56 (some ad159) c152_1 ((rd_T152 l1 x9_2).f1) x11_4 (of_decide_eq_true (by first | (with_reducible assumption) | assumption)) (of_decide_eq_true (by first | (with_reducible assumption) | assumption)) HC152_1.out
            have HR163 := Aside0.mk (Kd.C_of_reads (h1 := fun _ => rfl) (hA56 _ (Kd.reads_of_C HR152_1.out)))
            have HC163 := Aside0.mk hC56
            clear hA56 hC56 hi056 hsz56
            refine hK.out _ _ ⟨(qg0 BK153.out 0).trans rfl, (qg0 BK153.out 1).trans rfl, (qg0 BK153.out 2).trans rfl, ((HB.out.cell (World.block_lt_of_cell? w _ hw159_0)).trans hw159_0), ((HB.out.cell (World.block_lt_of_cell? w _ hw161_0)).trans hw161_0), ((HB.out.cell (World.block_lt_of_cell? w _ hw164_0)).trans hw164_0)⟩ (fun hHeld => ?_)
            clear hK K
            refine norm_ (a' := ?_) ?_ ?_
            rotate_left
            ·show Act.put _ (some 96) _ = _
             simp only [Act.put, List.setIfInBounds_toArray, List.set_cons_zero, List.set_cons_succ, i64_w, i32_w]
             rfl
            refine pure_ (i := 18) (N := some 97) (v := ?_) (a' := ?_) (rb4 [19, 12]) rfl rfl (qj0 HT_.out (by kernel_rfl)) (fun _ _ _ h => h) (Or.inl ⟨by rfl, ?_⟩) ?_ ?_
            rotate_left
            ·intro w'
             go_simp
             with_reducible rfl
            rotate_left
            ·simp only [Act.put, List.setIfInBounds_toArray, List.set_cons_zero, List.set_cons_succ, i64_w, i32_w]
             rfl
            refine pure_ (i := 19) (N := some 98) (v := ?_) (a' := ?_) (rb4 [20, 11]) rfl rfl (qj0 HT_.out (by kernel_rfl)) (fun _ _ _ h => h) (Or.inl ⟨by rfl, ?_⟩) ?_ ?_
            rotate_left
            ·intro w'
             go_simp
             with_reducible rfl
            rotate_left
            ·simp only [Act.put, List.setIfInBounds_toArray, List.set_cons_zero, List.set_cons_succ, i64_w, i32_w]
             rfl
            refine pure_ (i := 20) (N := some 99) (v := ?_) (a' := ?_) (rb4 [21, 10]) rfl rfl (qj0 HT_.out (by kernel_rfl)) (fun _ _ _ h => h) (Or.inl ⟨by rfl, ?_⟩) ?_ ?_
            rotate_left
            ·intro w'
             go_simp
             with_reducible rfl
            rotate_left
            ·simp only [Act.put, List.setIfInBounds_toArray, List.set_cons_zero, List.set_cons_succ, i64_w, i32_w]
             rfl
            refine pure_ (i := 22) (N := some 101) (v := ?_) (a' := ?_) (rb4 [21, 1, 1, 8]) rfl rfl (qj0 HT_.out (by kernel_rfl)) (fun _ _ _ h => h) (Or.inl ⟨by rfl, ?_⟩) ?_ ?_
            rotate_left
            ·intro w'
             go_simp
             with_reducible rfl
            rotate_left
            ·simp only [Act.put, List.setIfInBounds_toArray, List.set_cons_zero, List.set_cons_succ, i64_w, i32_w]
             rfl
            refine pure_ (i := 24) (N := some 103) (v := ?_) (a' := ?_) (rb4 [21, 1, 1, 1, 1, 6]) rfl rfl (qj0 HT_.out (by kernel_rfl)) (fun _ _ _ h => h) (Or.inl ⟨by rfl, ?_⟩) ?_ ?_
            rotate_left
            ·intro w'
             go_simp
             with_reducible rfl
            rotate_left
            ·simp only [Act.put, List.setIfInBounds_toArray, List.set_cons_zero, List.set_cons_succ, i64_w, i32_w]
             rfl
            refine pure_ (i := 26) (N := some 105) (v := ?_) (a' := ?_) (rb4 [21, 1, 1, 1, 1, 1, 1, 4]) rfl rfl (qj0 HT_.out (by kernel_rfl)) (fun _ _ _ h => h) (Or.inl ⟨by rfl, ?_⟩) ?_ ?_
            rotate_left
            ·intro w'
             go_simp
             with_reducible rfl
            rotate_left
            ·simp only [Act.put, List.setIfInBounds_toArray, List.set_cons_zero, List.set_cons_succ, i64_w, i32_w]
             rfl
            refine take_ (i := 21) (N := some 100) (v := ?_) (a' := ?_) (rb4 [23, 1, 1, 1, 1, 4]) rfl rfl (qv0 HT_.out HW_.out (by kernel_rfl)) (fun _ _ _ h => h) (Or.inl ⟨by rfl, ?_⟩) hHeld ?_ ?_
            rotate_left
            ·rintro w' ⟨s0, s1, s2, s3, s4, s5⟩
             go_simp
             with_reducible rfl
            rotate_left
            ·simp only [Act.put, List.setIfInBounds_toArray, List.set_cons_zero, List.set_cons_succ, i64_w, i32_w]
             rfl
            refine pure_ (i := 23) (N := some 102) (v := ?_) (a' := ?_) (rb4 [25, 1, 1, 4]) rfl rfl (qj0 HT_.out (by kernel_rfl)) (fun _ _ _ h => h) (Or.inl ⟨by rfl, ?_⟩) ?_ ?_
            rotate_left
            ·intro w'
             go_simp
             with_reducible rfl
            rotate_left
            ·simp only [Act.put, List.setIfInBounds_toArray, List.set_cons_zero, List.set_cons_succ, i64_w, i32_w]
             rfl
            refine take_ (i := 25) (N := some 104) (v := ?_) (a' := ?_) (rb4 [27, 4]) rfl rfl (qv0 HT_.out HW_.out (by kernel_rfl)) (fun _ _ _ h => h) (Or.inl ⟨by rfl, ?_⟩) hHeld ?_ ?_
            rotate_left
            ·rintro w' ⟨s0, s1, s2, s3, s4, s5⟩
             go_simp
             with_reducible rfl
            rotate_left
            ·simp only [Act.put, List.setIfInBounds_toArray, List.set_cons_zero, List.set_cons_succ, i64_w, i32_w]
             rfl
            refine pure_ (i := 27) (N := some 106) (v := ?_) (a' := ?_) (rb4 [28, 3]) rfl rfl (qj0 HT_.out (by kernel_rfl)) (fun _ _ _ h => h) (Or.inl ⟨by rfl, ?_⟩) ?_ ?_
            rotate_left
            ·intro w'
             go_simp
             with_reducible rfl
            rotate_left
            ·simp only [Act.put, List.setIfInBounds_toArray, List.set_cons_zero, List.set_cons_succ, i64_w, i32_w]
             rfl
            refine take_ (i := 28) (N := some 107) (v := ?_) (a' := ?_) (rb4 [29, 2]) rfl rfl (qv0 HT_.out HW_.out (by kernel_rfl)) (fun _ _ _ h => h) (Or.inl ⟨by rfl, ?_⟩) hHeld ?_ ?_
            rotate_left
            ·rintro w' ⟨s0, s1, s2, s3, s4, s5⟩
             go_simp
             with_reducible rfl
            rotate_left
            ·simp only [Act.put, List.setIfInBounds_toArray, List.set_cons_zero, List.set_cons_succ, i64_w, i32_w]
             rfl
            refine one_ (i := 29) (N := some 108) (rb4 [30, 1]) rfl rfl (qw1 HT_.out (by kernel_rfl)) (by decide) (fun K hK => ?_)
            refine goes_ Try.func107 (by kernel_rfl) rfl #[.slice (some ad159) (((rd_T152 l1 x9_2).f1).take (x11_4 : Int).toNat).length c152_1, .int .i64 (rd ((rd_T152 l1 x9_2).f1) x11_4)] (by rfl) rfl rfl (by (try simp only [List.map_toArray, List.map_cons, List.map_nil]); first | done | (rw [show (((rd_T152 l1 x9_2).f1).take (x11_4 : Int).toNat).length = x11_4.toNat from (by rw [List.length_take]; have h_ : (x11_4 : Int) ≤ (((rd_T152 l1 x9_2).f1).length : Int) := of_decide_eq_true (by first | (with_reducible assumption) | assumption); omega)] <;> rfl) | rfl | (simp only [List.length_drop, List.length_take]; rfl)) ?_
            with_reducible refine (spec_l7Has.calls k4 _ _ (((rd_T152 l1 x9_2).f1).take (x11_4 : Int).toNat) (rd ((rd_T152 l1 x9_2).f1) x11_4) false _ ?side1 ?side2 A47.out).mono ?_
            (case side1 => repeat (first | exact (Kd.qz0 HR163.out (by repeat (first | (with_reducible first | exact HB.out | apply qc0 | apply qa0 | apply qb0 | refine qi0 ?_ GE153.out) | exact HB.out))) | (with_reducible refine Kd.qt0 ?_ _) | (with_reducible refine Kd.qs0 ?_ _) | (with_reducible refine Kd.qu0 ?_)))
            (case side2 => exact HC163.out)
            rintro e w' ⟨rfl, ⟨nd, rfl⟩⟩
            refine ⟨_, rfl, ?_⟩
            refine hK.out _ _ ⟨(qg0 BK153.out 0).trans rfl, (qg0 BK153.out 1).trans rfl, (qg0 BK153.out 2).trans rfl, ((HB.out.cell (World.block_lt_of_cell? w _ hw159_0)).trans hw159_0), ((HB.out.cell (World.block_lt_of_cell? w _ hw161_0)).trans hw161_0), ((HB.out.cell (World.block_lt_of_cell? w _ hw164_0)).trans hw164_0)⟩ (fun hHeld => ?_)
            clear hK K
            refine norm_ (a' := ?_) ?_ ?_
            rotate_left
            ·show Act.put _ (some 108) _ = _
             simp only [Act.put, List.setIfInBounds_toArray, List.set_cons_zero, List.set_cons_succ, i64_w, i32_w]
             rfl
            refine pure_ (i := 30) (N := some 109) (v := ?_) (a' := ?_) (rb4 [31]) rfl rfl (qj0 HT_.out (by kernel_rfl)) (fun _ _ _ h => h) (Or.inl ⟨by rfl, ?_⟩) ?_ ?_
            rotate_left
            ·intro w'
             go_simp
             with_reducible rfl
            rotate_left
            ·simp only [Act.put, List.setIfInBounds_toArray, List.set_cons_zero, List.set_cons_succ, i64_w, i32_w]
             rfl
            refine done_ (done_of HT_.out (by kernel_rfl)) ?_
            try go_wp2
            go_roundg k4
            case measure => have := HJ2.out; have := HK2.out; have := HJ16.out; have := HK4.out; omega
            case rel => exact ⟨(wrap64 (x11_4 + 1)), (by first | rfl | (simp; done) | (simp [*]; done)), H', ⟨by have := HJ2.out; have := HK2.out; have := HJ16.out; have := HK4.out; omega⟩, ⟨by (with_reducible repeat (first | apply Kd.qe0 | apply Kd.qd0 | apply Kd.qf0)); exact HO_6.out⟩, ⟨by (with_reducible repeat (first | apply Kd.qe0 | apply Kd.qd0 | apply Kd.qf0)); exact HO_7.out⟩, ⟨by (with_reducible repeat (first | apply Kd.qe0 | apply Kd.qd0 | apply Kd.qf0)); exact HO_8.out⟩, ⟨by (with_reducible repeat (first | refine qn0 ?_ _ | refine qp0 ?_ | refine qo0 ?_ _)); exact BK153.out⟩, ⟨by repeat (first | (with_reducible first | exact HB.out | apply qc0 | apply qa0 | apply qb0 | refine qi0 ?_ GE153.out) | exact HB.out)⟩⟩
           replace c39 := Bool.eq_false_iff.mpr c39
           subst c39
           have H1 : (some (y139, false)) = some (r1, r2) := by rw [if_neg (show ¬ (false = true) by decide)] at H; exact H
           clear H
           have H := H1
           clear H1
           simp only [Option.some.injEq, Prod.mk.injEq] at H
           obtain ⟨rfl, rfl⟩ := H
           have hcz57_0 : wr.cell? ⟨gb153, 0, none⟩ = some (.int .i64 ((rd_T152 l1 x9_2).f0)) := (qg0 BK153.out 0).trans rfl
           have hcz57_1 : wr.cell? ⟨gb153, 1, none⟩ = some (.slice A152_1 ((rd_T152 l1 x9_2).f1).length c152_1) := (qg0 BK153.out 1).trans rfl
           have hcz57_2 : wr.cell? ⟨gb153, 2, none⟩ = some (.slice A152_2 ((rd_T152 l1 x9_2).f2).length c152_2) := (qg0 BK153.out 2).trans rfl
           have hfz57_0 := qh0 BK153.out 0
           have hfz57_1 := qh0 BK153.out 1
           have hfz57_2 := qh0 BK153.out 2
           try go_wp2
           have n0_ := Aside0.mk (Kd.qf0 HO_6.out)
           have n1_ := Aside0.mk (Kd.qf0 HO_7.out)
           have n2_ := Aside0.mk (Kd.qf0 HO_8.out)
           have n3_ := Aside0.mk (qp0 BK153.out)
           have n4_ := Aside0.mk (qb0 HB.out)
           clear HO_6
           clear HO_7
           clear HO_8
           clear BK153
           clear HB
           have HO_6 := n0_
           have HO_7 := n1_
           have HO_8 := n2_
           have BK153 := n3_
           have HB := n4_
           clear n0_ n1_ n2_ n3_ n4_
           have p159 : 0 ≤ (x11_4 : Int) := of_decide_eq_true (by first | (with_reducible assumption) | assumption)
           have q159 : x11_4 < (((rd_T152 l1 x9_2).f1).length : Int) := of_decide_eq_true (by first | (with_reducible assumption) | assumption)
           obtain ⟨ad159, e159, hx159_0⟩ := Kd.at_int HR152_1.out x11_4 p159 q159
           have hw159_0 := hx159_0
           cases e159
           replace hx159_0 := (HB.out.cell (World.block_lt_of_cell? w _ hx159_0)).trans hx159_0
           replace p159 := eq_true p159
           replace q159 := eq_true q159
           refine start_ (n := 31) (S := fun w' => w'.cell? ⟨gb153, 0, none⟩ = some (.int .i64 ((rd_T152 l1 x9_2).f0)) ∧ w'.cell? ⟨gb153, 1, none⟩ = some (.slice (some ad159) ((rd_T152 l1 x9_2).f1).length c152_1) ∧ w'.cell? ⟨gb153, 2, none⟩ = some (.slice A152_2 ((rd_T152 l1 x9_2).f2).length c152_2) ∧ w'.cell? (ad159.add (x11_4).toNat) = some (.int .i64 (rd ((rd_T152 l1 x9_2).f1) x11_4))) (ds := []) (rb4 [0, 31]) (by kernel_rfl) rfl rfl ⟨(qg0 BK153.out 0).trans rfl, (qg0 BK153.out 1).trans rfl, (qg0 BK153.out 2).trans rfl, ((HB.out.cell (World.block_lt_of_cell? w _ hw159_0)).trans hw159_0)⟩ (fun hHeld => ?_); refine with_tabW spec_StepDown.tab16 spec_StepDown.bits16 (fun HT_ HW_ => ?_)
           generalize wr.drew = w58 at HO_6 HO_7 HO_8 BK153 HB hx159_0 hHeld ⊢
           refine pure_ (i := 0) (N := some 79) (v := ?_) (a' := ?_) (rb4 [1, 30]) rfl rfl (qj0 HT_.out (by kernel_rfl)) (fun _ _ _ h => h) (Or.inl ⟨by rfl, ?_⟩) ?_ ?_
           rotate_left
           ·intro w'
            go_simp
            with_reducible rfl
           rotate_left
           ·simp only [Act.put, List.setIfInBounds_toArray, List.set_cons_zero, List.set_cons_succ, i64_w, i32_w]
            rfl
           refine pure_ (i := 2) (N := some 81) (v := ?_) (a' := ?_) (rb4 [1, 1, 1, 28]) rfl rfl (qj0 HT_.out (by kernel_rfl)) (fun _ _ _ h => h) (Or.inl ⟨by rfl, ?_⟩) ?_ ?_
           rotate_left
           ·intro w'
            go_simp
            with_reducible rfl
           rotate_left
           ·simp only [Act.put, List.setIfInBounds_toArray, List.set_cons_zero, List.set_cons_succ, i64_w, i32_w]
            rfl
           refine pure_ (i := 5) (N := some 84) (v := ?_) (a' := ?_) (rb4 [1, 1, 1, 2, 1, 25]) rfl rfl (qj0 HT_.out (by kernel_rfl)) (fun _ _ _ h => h) (Or.inl ⟨by rfl, ?_⟩) ?_ ?_
           rotate_left
           ·intro w'
            go_simp
            with_reducible rfl
           rotate_left
           ·simp only [Act.put, List.setIfInBounds_toArray, List.set_cons_zero, List.set_cons_succ, i64_w, i32_w]
            rfl
           refine pure_ (i := 6) (N := some 85) (v := ?_) (a' := ?_) (rb4 [1, 1, 1, 2, 2, 24]) rfl rfl (qj0 HT_.out (by kernel_rfl)) (fun _ _ _ h => h) (Or.inl ⟨by rfl, ?_⟩) ?_ ?_
           rotate_left
           ·intro w'
            go_simp
            with_reducible rfl
           rotate_left
           ·simp only [Act.put, List.setIfInBounds_toArray, List.set_cons_zero, List.set_cons_succ, i64_w, i32_w]
            rfl
           refine pure_ (i := 7) (N := some 86) (v := ?_) (a' := ?_) (rb4 [1, 1, 1, 2, 3, 23]) rfl rfl (qj0 HT_.out (by kernel_rfl)) (fun _ _ _ h => h) (Or.inl ⟨by rfl, ?_⟩) ?_ ?_
           rotate_left
           ·intro w'
            go_simp
            with_reducible rfl
           rotate_left
           ·simp only [Act.put, List.setIfInBounds_toArray, List.set_cons_zero, List.set_cons_succ, i64_w, i32_w]
            rfl
           refine take_ (i := 1) (N := some 80) (v := ?_) (a' := ?_) (rb4 [3, 2, 3, 23]) rfl rfl (qv0 HT_.out HW_.out (by kernel_rfl)) (fun _ _ _ h => h) (Or.inl ⟨by rfl, ?_⟩) hHeld ?_ ?_
           rotate_left
           ·rintro w' ⟨s0, s1, s2, s3⟩
            go_simp
            with_reducible rfl
           rotate_left
           ·simp only [Act.put, List.setIfInBounds_toArray, List.set_cons_zero, List.set_cons_succ, i64_w, i32_w]
            rfl
           refine pure_ (i := 3) (N := some 82) (v := ?_) (a' := ?_) (rb4 [4, 1, 3, 23]) rfl rfl (qj0 HT_.out (by kernel_rfl)) (fun _ _ _ h => h) (Or.inl ⟨by rfl, ?_⟩) ?_ ?_
           rotate_left
           ·intro w'
            go_simp
            with_reducible rfl
           rotate_left
           ·simp only [Act.put, List.setIfInBounds_toArray, List.set_cons_zero, List.set_cons_succ, i64_w, i32_w]
            rfl
           refine take_ (i := 4) (N := some 83) (v := ?_) (a' := ?_) (rb4 [8, 23]) rfl rfl (qv0 HT_.out HW_.out (by kernel_rfl)) (fun _ _ _ h => h) (Or.inl ⟨by rfl, ?_⟩) hHeld ?_ ?_
           rotate_left
           ·rintro w' ⟨s0, s1, s2, s3⟩
            go_simp
            with_reducible rfl
           rotate_left
           ·simp only [Act.put, List.setIfInBounds_toArray, List.set_cons_zero, List.set_cons_succ, i64_w, i32_w]
            rfl
           refine one_ (i := 8) (N := some 87) (rb4 [9, 22]) rfl rfl (qw1 HT_.out (by kernel_rfl)) (by decide) (fun K hK => ?_)
           refine goes_ Try.func76 (by kernel_rfl) rfl #[.int .i64 (rd ((rd_T152 l1 x9_2).f1) x11_4), .int .i64 0, .int .i64 (wrap64 ((l0.length : Int) - 1))] (by rfl) rfl rfl (by (try simp only [List.map_toArray, List.map_cons, List.map_nil]); first | done | rfl | (simp only [List.length_drop, List.length_take]; rfl)) ?_
           with_reducible refine (spec_l1In.calls (rd ((rd_T152 l1 x9_2).f1) x11_4) 0 (wrap64 ((l0.length : Int) - 1)) false _ A38.out).mono ?_
           rintro e w' ⟨rfl, ⟨nd, rfl⟩⟩
           refine ⟨_, rfl, ?_⟩
           refine hK.out _ _ ⟨(qg0 BK153.out 0).trans rfl, (qg0 BK153.out 1).trans rfl, (qg0 BK153.out 2).trans rfl, ((HB.out.cell (World.block_lt_of_cell? w _ hw159_0)).trans hw159_0)⟩ (fun hHeld => ?_)
           clear hK K
           refine norm_ (a' := ?_) ?_ ?_
           rotate_left
           ·show Act.put _ (some 87) _ = _
            simp only [Act.put, List.setIfInBounds_toArray, List.set_cons_zero, List.set_cons_succ, i64_w, i32_w]
            rfl
           refine pure_ (i := 9) (N := some 88) (v := ?_) (a' := ?_) (rb4 [10, 21]) rfl rfl (qj0 HT_.out (by kernel_rfl)) (fun _ _ _ h => h) (Or.inl ⟨by rfl, ?_⟩) ?_ ?_
           rotate_left
           ·intro w'
            go_simp
            with_reducible rfl
           rotate_left
           ·simp only [Act.put, List.setIfInBounds_toArray, List.set_cons_zero, List.set_cons_succ, i64_w, i32_w]
            rfl
           refine pure_ (i := 10) (N := some 89) (v := ?_) (a' := ?_) (rb4 [11, 20]) rfl rfl (qj0 HT_.out (by kernel_rfl)) (fun _ _ _ h => h) (Or.inl ⟨by rfl, ?_⟩) ?_ ?_
           rotate_left
           ·intro w'
            go_simp
            with_reducible rfl
           rotate_left
           ·simp only [Act.put, List.setIfInBounds_toArray, List.set_cons_zero, List.set_cons_succ, i64_w, i32_w]
            rfl
           refine pure_ (i := 11) (N := some 90) (v := undef) (a' := ?_) (rb4 [12, 19]) rfl rfl (qj0 HT_.out (by kernel_rfl)) (fun _ _ _ h => h) (Or.inr ⟨by rfl, rfl⟩) ?_ ?_
           rotate_left
           ·simp only [Act.put, List.setIfInBounds_toArray, List.set_cons_zero, List.set_cons_succ, i64_w, i32_w]
            rfl
           refine pure_ (i := 12) (N := some 91) (v := undef) (a' := ?_) (rb4 [13, 18]) rfl rfl (qj0 HT_.out (by kernel_rfl)) (fun _ _ _ h => h) (Or.inr ⟨by rfl, rfl⟩) ?_ ?_
           rotate_left
           ·simp only [Act.put, List.setIfInBounds_toArray, List.set_cons_zero, List.set_cons_succ, i64_w, i32_w]
            rfl
           refine pure_ (i := 13) (N := some 92) (v := undef) (a' := ?_) (rb4 [14, 17]) rfl rfl (qj0 HT_.out (by kernel_rfl)) (fun _ _ _ h => h) (Or.inr ⟨by rfl, rfl⟩) ?_ ?_
           rotate_left
           ·simp only [Act.put, List.setIfInBounds_toArray, List.set_cons_zero, List.set_cons_succ, i64_w, i32_w]
            rfl
           refine pure_ (i := 14) (N := some 93) (v := undef) (a' := ?_) (rb4 [15, 16]) rfl rfl (qj0 HT_.out (by kernel_rfl)) (fun _ _ _ h => h) (Or.inr ⟨by rfl, rfl⟩) ?_ ?_
           rotate_left
           ·simp only [Act.put, List.setIfInBounds_toArray, List.set_cons_zero, List.set_cons_succ, i64_w, i32_w]
            rfl
           refine pure_ (i := 15) (N := some 94) (v := undef) (a' := ?_) (rb4 [16, 15]) rfl rfl (qj0 HT_.out (by kernel_rfl)) (fun _ _ _ h => h) (Or.inr ⟨by rfl, rfl⟩) ?_ ?_
           rotate_left
           ·simp only [Act.put, List.setIfInBounds_toArray, List.set_cons_zero, List.set_cons_succ, i64_w, i32_w]
            rfl
           refine pure_ (i := 16) (N := some 95) (v := undef) (a' := ?_) (rb4 [17, 14]) rfl rfl (qj0 HT_.out (by kernel_rfl)) (fun _ _ _ h => h) (Or.inr ⟨by rfl, rfl⟩) ?_ ?_
           rotate_left
           ·simp only [Act.put, List.setIfInBounds_toArray, List.set_cons_zero, List.set_cons_succ, i64_w, i32_w]
            rfl
           refine pure_ (i := 17) (N := some 96) (v := undef) (a' := ?_) (rb4 [18, 13]) rfl rfl (qj0 HT_.out (by kernel_rfl)) (fun _ _ _ h => h) (Or.inr ⟨by rfl, rfl⟩) ?_ ?_
           rotate_left
           ·simp only [Act.put, List.setIfInBounds_toArray, List.set_cons_zero, List.set_cons_succ, i64_w, i32_w]
            rfl
           refine pure_ (i := 18) (N := some 97) (v := ?_) (a' := ?_) (rb4 [19, 12]) rfl rfl (qj0 HT_.out (by kernel_rfl)) (fun _ _ _ h => h) (Or.inl ⟨by rfl, ?_⟩) ?_ ?_
           rotate_left
           ·intro w'
            go_simp
            with_reducible rfl
           rotate_left
           ·simp only [Act.put, List.setIfInBounds_toArray, List.set_cons_zero, List.set_cons_succ, i64_w, i32_w]
            rfl
           refine pure_ (i := 19) (N := some 98) (v := ?_) (a' := ?_) (rb4 [20, 11]) rfl rfl (qj0 HT_.out (by kernel_rfl)) (fun _ _ _ h => h) (Or.inl ⟨by rfl, ?_⟩) ?_ ?_
           rotate_left
           ·intro w'
            go_simp
            with_reducible rfl
           rotate_left
           ·simp only [Act.put, List.setIfInBounds_toArray, List.set_cons_zero, List.set_cons_succ, i64_w, i32_w]
            rfl
           refine pure_ (i := 20) (N := some 99) (v := undef) (a' := ?_) (rb4 [21, 10]) rfl rfl (qj0 HT_.out (by kernel_rfl)) (fun _ _ _ h => h) (Or.inr ⟨by rfl, rfl⟩) ?_ ?_
           rotate_left
           ·simp only [Act.put, List.setIfInBounds_toArray, List.set_cons_zero, List.set_cons_succ, i64_w, i32_w]
            rfl
           refine pure_ (i := 21) (N := some 100) (v := undef) (a' := ?_) (rb4 [22, 9]) rfl rfl (qj0 HT_.out (by kernel_rfl)) (fun _ _ _ h => h) (Or.inr ⟨by rfl, rfl⟩) ?_ ?_
           rotate_left
           ·simp only [Act.put, List.setIfInBounds_toArray, List.set_cons_zero, List.set_cons_succ, i64_w, i32_w]
            rfl
           refine pure_ (i := 22) (N := some 101) (v := undef) (a' := ?_) (rb4 [23, 8]) rfl rfl (qj0 HT_.out (by kernel_rfl)) (fun _ _ _ h => h) (Or.inr ⟨by rfl, rfl⟩) ?_ ?_
           rotate_left
           ·simp only [Act.put, List.setIfInBounds_toArray, List.set_cons_zero, List.set_cons_succ, i64_w, i32_w]
            rfl
           refine pure_ (i := 23) (N := some 102) (v := undef) (a' := ?_) (rb4 [24, 7]) rfl rfl (qj0 HT_.out (by kernel_rfl)) (fun _ _ _ h => h) (Or.inr ⟨by rfl, rfl⟩) ?_ ?_
           rotate_left
           ·simp only [Act.put, List.setIfInBounds_toArray, List.set_cons_zero, List.set_cons_succ, i64_w, i32_w]
            rfl
           refine pure_ (i := 24) (N := some 103) (v := undef) (a' := ?_) (rb4 [25, 6]) rfl rfl (qj0 HT_.out (by kernel_rfl)) (fun _ _ _ h => h) (Or.inr ⟨by rfl, rfl⟩) ?_ ?_
           rotate_left
           ·simp only [Act.put, List.setIfInBounds_toArray, List.set_cons_zero, List.set_cons_succ, i64_w, i32_w]
            rfl
           refine pure_ (i := 25) (N := some 104) (v := undef) (a' := ?_) (rb4 [26, 5]) rfl rfl (qj0 HT_.out (by kernel_rfl)) (fun _ _ _ h => h) (Or.inr ⟨by rfl, rfl⟩) ?_ ?_
           rotate_left
           ·simp only [Act.put, List.setIfInBounds_toArray, List.set_cons_zero, List.set_cons_succ, i64_w, i32_w]
            rfl
           refine pure_ (i := 26) (N := some 105) (v := undef) (a' := ?_) (rb4 [27, 4]) rfl rfl (qj0 HT_.out (by kernel_rfl)) (fun _ _ _ h => h) (Or.inr ⟨by rfl, rfl⟩) ?_ ?_
           rotate_left
           ·simp only [Act.put, List.setIfInBounds_toArray, List.set_cons_zero, List.set_cons_succ, i64_w, i32_w]
            rfl
           refine pure_ (i := 27) (N := some 106) (v := undef) (a' := ?_) (rb4 [28, 3]) rfl rfl (qj0 HT_.out (by kernel_rfl)) (fun _ _ _ h => h) (Or.inr ⟨by rfl, rfl⟩) ?_ ?_
           rotate_left
           ·simp only [Act.put, List.setIfInBounds_toArray, List.set_cons_zero, List.set_cons_succ, i64_w, i32_w]
            rfl
           refine pure_ (i := 28) (N := some 107) (v := undef) (a' := ?_) (rb4 [29, 2]) rfl rfl (qj0 HT_.out (by kernel_rfl)) (fun _ _ _ h => h) (Or.inr ⟨by rfl, rfl⟩) ?_ ?_
           rotate_left
           ·simp only [Act.put, List.setIfInBounds_toArray, List.set_cons_zero, List.set_cons_succ, i64_w, i32_w]
            rfl
           refine pure_ (i := 29) (N := some 108) (v := undef) (a' := ?_) (rb4 [30, 1]) rfl rfl (qj0 HT_.out (by kernel_rfl)) (fun _ _ _ h => h) (Or.inr ⟨by rfl, rfl⟩) ?_ ?_
           rotate_left
           ·simp only [Act.put, List.setIfInBounds_toArray, List.set_cons_zero, List.set_cons_succ, i64_w, i32_w]
            rfl
           refine pure_ (i := 30) (N := some 109) (v := ?_) (a' := ?_) (rb4 [31]) rfl rfl (qj0 HT_.out (by kernel_rfl)) (fun _ _ _ h => h) (Or.inl ⟨by rfl, ?_⟩) ?_ ?_
           rotate_left
           ·intro w'
            go_simp
            with_reducible rfl
           rotate_left
           ·simp only [Act.put, List.setIfInBounds_toArray, List.set_cons_zero, List.set_cons_succ, i64_w, i32_w]
            rfl
           refine done_ (done_of HT_.out (by kernel_rfl)) ?_
           try go_wp2
           go_ret2
           exact ⟨_, by first | rfl | (simp [errW_none, errW_some] <;> rfl) | (simp [*, errW_none, errW_some] <;> rfl), by (with_reducible repeat (first | apply Kd.qe0 | apply Kd.qd0 | apply Kd.qf0)); exact Kd.qq0 HO_6.out (fun _ hk => trivial), by repeat (first | (with_reducible first | exact HB.out | apply qc0 | apply qa0 | apply qb0 | refine qi0 ?_ GE153.out) | exact HB.out)⟩
          rw [if_neg c36] at H
          have c36b0 : decide (x11_4 < (((rd_T152 l1 x9_2).f1).length : Int)) = false := decide_eq_false c36
          clear c36
          by_cases c59 : 0 ≤ ((rd_T152 l1 x9_2).f0)
          case neg => rw [if_neg c59] at H; exact absurd H (by simp)
          rw [if_pos c59] at H
          have c59b0 : decide (0 ≤ ((rd_T152 l1 x9_2).f0)) = true := decide_eq_true c59
          clear c59
          by_cases c60 : ((rd_T152 l1 x9_2).f0) < (x7_2.length : Int)
          case neg => rw [if_neg c60] at H; exact absurd H (by simp)
          rw [if_pos c60] at H
          have c60b0 : decide (((rd_T152 l1 x9_2).f0) < (x7_2.length : Int)) = true := decide_eq_true c60
          clear c60
          replace H := Option.bind_eq_some_iff.mp H
          obtain ⟨t167, A610, H⟩ := H
          replace H : (if (t167.length : Int) = 0 then (some (y139, false)) else (spec_StepDown.l2 k4 l0 l1 y139 (x7_2.set (((rd_T152 l1 x9_2).f0) : Int).toNat 0) y156 x9_2 t167 0 ((rd_T152 l1 x9_2).f0) ((rd_T152 l1 x9_2).f1) ((rd_T152 l1 x9_2).f2))) = some (r1, r2) := H
          have A61 := Aside0.mk A610
          clear A610
          by_cases c62 : (t167.length : Int) = 0
          ·rw [if_pos c62] at H
           have c62b0 : ((t167.length : Int) == 0) = true := beq_iff_eq.mpr c62
           have c62b1 : ((t167.length : Int) != 0) = false := bne_eq_false_iff_eq.mpr c62
           clear c62
           simp only [Option.some.injEq, Prod.mk.injEq] at H
           obtain ⟨rfl, rfl⟩ := H
           have hcz63_0 : wr.cell? ⟨gb153, 0, none⟩ = some (.int .i64 ((rd_T152 l1 x9_2).f0)) := (qg0 BK153.out 0).trans rfl
           have hcz63_1 : wr.cell? ⟨gb153, 1, none⟩ = some (.slice A152_1 ((rd_T152 l1 x9_2).f1).length c152_1) := (qg0 BK153.out 1).trans rfl
           have hcz63_2 : wr.cell? ⟨gb153, 2, none⟩ = some (.slice A152_2 ((rd_T152 l1 x9_2).f2).length c152_2) := (qg0 BK153.out 2).trans rfl
           have hfz63_0 := qh0 BK153.out 0
           have hfz63_1 := qh0 BK153.out 1
           have hfz63_2 := qh0 BK153.out 2
           try go_wp2
           have n0_ := Aside0.mk (Kd.qf0 HO_6.out)
           have n1_ := Aside0.mk (Kd.qf0 HO_7.out)
           have n2_ := Aside0.mk (Kd.qf0 HO_8.out)
           have n3_ := Aside0.mk (qp0 BK153.out)
           have n4_ := Aside0.mk (qb0 HB.out)
           clear HO_6
           clear HO_7
           clear HO_8
           clear BK153
           clear HB
           have HO_6 := n0_
           have HO_7 := n1_
           have HO_8 := n2_
           have BK153 := n3_
           have HB := n4_
           clear n0_ n1_ n2_ n3_ n4_
           obtain ⟨Ao65, co65, eo65⟩ := Kd.qy0 HO_7.out
           (first | subst eo65 | (injection eo65 with f1_ f2_ f3_; have f4_ := f1_.symm; have f5_ := f3_.symm; clear f1_ f2_ f3_; subst f4_; subst f5_))
           have p166 : 0 ≤ (((rd_T152 l1 x9_2).f0) : Int) := of_decide_eq_true (by first | (with_reducible assumption) | assumption)
           have q166 : ((rd_T152 l1 x9_2).f0) < (x7_2.length : Int) := of_decide_eq_true (by first | (with_reducible assumption) | assumption)
           obtain ⟨ad166, e166, hx166_0⟩ := Kd.at_int (Kd.qk0 HO_7.out).2.2 ((rd_T152 l1 x9_2).f0) p166 q166
           cases e166
           replace p166 := eq_true p166
           replace q166 := eq_true q166
           refine start_ (n := 9) (S := fun w' => w'.cell? ⟨gb153, 0, none⟩ = some (.int .i64 ((rd_T152 l1 x9_2).f0)) ∧ w'.cell? ⟨gb153, 1, none⟩ = some (.slice A152_1 ((rd_T152 l1 x9_2).f1).length c152_1) ∧ w'.cell? ⟨gb153, 2, none⟩ = some (.slice A152_2 ((rd_T152 l1 x9_2).f2).length c152_2) ∧ w'.cell? (ad166.add (((rd_T152 l1 x9_2).f0)).toNat) = some (.int .i64 (rd x7_2 ((rd_T152 l1 x9_2).f0)))) (ds := []) #[false, false, false, false, false, false, false, false, false] (by kernel_rfl) rfl rfl ⟨(qg0 BK153.out 0).trans rfl, (qg0 BK153.out 1).trans rfl, (qg0 BK153.out 2).trans rfl, hx166_0⟩ (fun hHeld => ?_); refine with_tabW spec_StepDown.tab18 spec_StepDown.bits18 (fun HT_ HW_ => ?_)
           generalize wr.drew = w64 at HO_6 HO_7 HO_8 BK153 HB hx166_0 hHeld ⊢
           refine pure_ (i := 0) (N := some 111) (v := ?_) (a' := ?_) #[true, false, false, false, false, false, false, false, false] rfl rfl (qj0 HT_.out (by kernel_rfl)) (fun _ _ _ h => h) (Or.inl ⟨by rfl, ?_⟩) ?_ ?_
           rotate_left
           ·intro w'
            go_simp
            with_reducible rfl
           rotate_left
           ·simp only [Act.put, List.setIfInBounds_toArray, List.set_cons_zero, List.set_cons_succ, i64_w, i32_w]
            rfl
           refine pure_ (i := 1) (N := some 112) (v := ?_) (a' := ?_) #[true, true, false, false, false, false, false, false, false] rfl rfl (qj0 HT_.out (by kernel_rfl)) (fun _ _ _ h => h) (Or.inl ⟨by rfl, ?_⟩) ?_ ?_
           rotate_left
           ·intro w'
            go_simp
            with_reducible rfl
           rotate_left
           ·simp only [Act.put, List.setIfInBounds_toArray, List.set_cons_zero, List.set_cons_succ, i64_w, i32_w]
            rfl
           refine pure_ (i := 5) (N := some 116) (v := ?_) (a' := ?_) #[true, true, false, false, false, true, false, false, false] rfl rfl (qj0 HT_.out (by kernel_rfl)) (fun _ _ _ h => h) (Or.inl ⟨by rfl, ?_⟩) ?_ ?_
           rotate_left
           ·intro w'
            go_simp
            with_reducible rfl
           rotate_left
           ·simp only [Act.put, List.setIfInBounds_toArray, List.set_cons_zero, List.set_cons_succ, i64_w, i32_w]
            rfl
           refine take_ (i := 2) (N := some 113) (v := ?_) (a' := ?_) #[true, true, true, false, false, true, false, false, false] rfl rfl (qv0 HT_.out HW_.out (by kernel_rfl)) (fun _ _ _ h => h) (Or.inl ⟨by rfl, ?_⟩) hHeld ?_ ?_
           rotate_left
           ·rintro w' ⟨s0, s1, s2, s3⟩
            go_simp
            with_reducible rfl
           rotate_left
           ·simp only [Act.put, List.setIfInBounds_toArray, List.set_cons_zero, List.set_cons_succ, i64_w, i32_w]
            rfl
           refine pure_ (i := 3) (N := some 114) (v := ?_) (a' := ?_) #[true, true, true, true, false, true, false, false, false] rfl rfl (qj0 HT_.out (by kernel_rfl)) (fun _ _ _ h => h) (Or.inl ⟨by rfl, ?_⟩) ?_ ?_
           rotate_left
           ·intro w'
            go_simp
            with_reducible rfl
           rotate_left
           ·simp only [Act.put, List.setIfInBounds_toArray, List.set_cons_zero, List.set_cons_succ, i64_w, i32_w]
            rfl
           refine take_ (i := 4) (N := some 115) (v := ?_) (a' := ?_) #[true, true, true, true, true, true, false, false, false] rfl rfl (qv0 HT_.out HW_.out (by kernel_rfl)) (fun _ _ _ h => h) (Or.inl ⟨by rfl, ?_⟩) hHeld ?_ ?_
           rotate_left
           ·rintro w' ⟨s0, s1, s2, s3⟩
            go_simp
            with_reducible rfl
           rotate_left
           ·simp only [Act.put, List.setIfInBounds_toArray, List.set_cons_zero, List.set_cons_succ, i64_w, i32_w]
            rfl
           refine take_ (i := 6) (N := some 117) (v := ?_) (a' := ?_) #[true, true, true, true, true, true, true, false, false] rfl rfl (qv0 HT_.out HW_.out (by kernel_rfl)) (fun _ _ _ h => h) (Or.inl ⟨by rfl, ?_⟩) hHeld ?_ ?_
           rotate_left
           ·rintro w' ⟨s0, s1, s2, s3⟩
            go_simp
            with_reducible rfl
           rotate_left
           ·simp only [Act.put, List.setIfInBounds_toArray, List.set_cons_zero, List.set_cons_succ, i64_w, i32_w]
            rfl
           refine one_ (i := 7) (N := some 118) #[true, true, true, true, true, true, true, true, false] rfl rfl (qw1 HT_.out (by kernel_rfl)) (by decide) (fun K hK => ?_)
           refine goes_ Try.func99 (by kernel_rfl) rfl #[.int .i64 (rd x7_2 ((rd_T152 l1 x9_2).f0)), .slice A152_2 ((rd_T152 l1 x9_2).f2).length c152_2] (by rfl) rfl rfl (by (try simp only [List.map_toArray, List.map_cons, List.map_nil]); first | done | rfl | (simp only [List.length_drop, List.length_take]; rfl)) ?_
           with_reducible refine (spec_Shares.calls k4 (rd x7_2 ((rd_T152 l1 x9_2).f0)) _ _ ((rd_T152 l1 x9_2).f2) t167 _ ?side1 ?side2 A61.out).mono ?_
           (case side1 => repeat (first | exact (Kd.qz0 HR152_2.out HB.out) | (with_reducible refine Kd.qt0 ?_ _) | (with_reducible refine Kd.qs0 ?_ _) | (with_reducible refine Kd.qu0 ?_)))
           (case side2 => exact HC152_2.out)
           rintro e w66 ⟨v168, rfl, ho0, hb⟩
           have HS3_ := (hb.cell (World.block_lt_of_cell? _ _ (hHeld.2.2.2))).trans (hHeld.2.2.2)
           refine ⟨_, rfl, ?_⟩
           have n0_ := Aside0.mk (Kd.qb1 (by (with_reducible repeat (first | apply Kd.qe0 | apply Kd.qd0 | apply Kd.qf0)); exact HO_6.out) (Kd.qg1 ho0) hb)
           have n1_ := Aside0.mk (Kd.qb1 (by (with_reducible repeat (first | apply Kd.qe0 | apply Kd.qd0 | apply Kd.qf0)); exact HO_7.out) (Kd.qg1 ho0) hb)
           have n2_ := Aside0.mk (Kd.qb1 (by (with_reducible repeat (first | apply Kd.qe0 | apply Kd.qd0 | apply Kd.qf0)); exact HO_8.out) (Kd.qg1 ho0) hb)
           have n3_ := Aside0.mk (Kd.qj1 (Kd.ql1 (Kd.ql1 (Kd.ql1 ho0 (Kd.R_lt (by (with_reducible repeat (first | apply Kd.qe0 | apply Kd.qd0 | apply Kd.qf0)); exact HO_6.out))) (Kd.R_lt (by (with_reducible repeat (first | apply Kd.qe0 | apply Kd.qd0 | apply Kd.qf0)); exact HO_7.out))) (Kd.R_lt (by (with_reducible repeat (first | apply Kd.qe0 | apply Kd.qd0 | apply Kd.qf0)); exact HO_8.out))) (qm0 (by repeat (first | (with_reducible first | exact HB.out | apply qc0 | apply qa0 | apply qb0 | refine qi0 ?_ GE153.out) | exact HB.out))))
           have n4_ := Aside0.mk (blk_below (g := gb153) (o := .cells #[.int .i64 ((rd_T152 l1 x9_2).f0), .slice A152_1 ((rd_T152 l1 x9_2).f1).length c152_1, .slice A152_2 ((rd_T152 l1 x9_2).f2).length c152_2] 152 (0, 0)) (by (with_reducible repeat (first | refine qn0 ?_ _ | refine qp0 ?_ | refine qo0 ?_ _)); exact BK153.out) hb)
           have n5_ := Aside0.mk (qr0 (by repeat (first | (with_reducible first | exact HB.out | apply qc0 | apply qa0 | apply qb0 | refine qi0 ?_ GE153.out) | exact HB.out)) hb)
           clear HO_6
           clear HO_7
           clear HO_8
           clear BK153
           clear HB
           have HO_6 := n0_
           have HO_7 := n1_
           have HO_8 := n2_
           have HO169 := n3_
           have BK153 := n4_
           have HB := n5_
           clear n0_ n1_ n2_ n3_ n4_ n5_
           (try clear hb)
           (try clear hb2)
           (try clear hk)
           (try clear hi)
           (try clear ho0)
           refine hK.out _ _ ⟨(qg0 BK153.out 0).trans rfl, (qg0 BK153.out 1).trans rfl, (qg0 BK153.out 2).trans rfl, HS3_⟩ (fun hHeld => ?_)
           clear hK K
           refine norm_ (a' := ?_) ?_ ?_
           rotate_left
           ·show Act.put _ (some 118) _ = _
            simp only [Act.put, List.setIfInBounds_toArray, List.set_cons_zero, List.set_cons_succ, i64_w, i32_w]
            rfl
           refine pure_ (i := 8) (N := some 12) (v := ?_) (a' := ?_) #[true, true, true, true, true, true, true, true, true] rfl rfl (qj0 HT_.out (by kernel_rfl)) (fun _ _ _ h => h) (Or.inl ⟨by rfl, ?_⟩) ?_ ?_
           rotate_left
           ·intro w'
            go_simp
            with_reducible rfl
           rotate_left
           ·simp only [Act.put, List.setIfInBounds_toArray, List.set_cons_zero, List.set_cons_succ, i64_w, i32_w]
            rfl
           refine done_ (done_of HT_.out (by kernel_rfl)) ?_
           obtain ⟨Ao67, co67, eo67⟩ := Kd.qy0 HO169.out
           subst eo67
           try go_wp2
           go_ret2
           exact ⟨_, by first | rfl | (simp [errW_none, errW_some] <;> rfl) | (simp [*, errW_none, errW_some] <;> rfl), by (with_reducible repeat (first | apply Kd.qe0 | apply Kd.qd0 | apply Kd.qf0)); exact Kd.qq0 HO_6.out (fun _ hk => trivial), by repeat (first | (with_reducible first | exact HB.out | apply qc0 | apply qa0 | apply qb0 | refine qi0 ?_ GE153.out) | exact HB.out)⟩
          rw [if_neg c62] at H
          have c62b0 : ((t167.length : Int) == 0) = false := beq_eq_false_iff_ne.mpr c62
          have c62b1 : ((t167.length : Int) != 0) = true := bne_iff_ne.mpr c62
          have c62b2 : ¬ (t167 = []) := fun h_ => c62 (by rw [h_]; rfl)
          obtain ⟨y170, hy170⟩ : ∃ y_ : List Int, y_ = (x7_2.set (((rd_T152 l1 x9_2).f0) : Int).toNat 0) := ⟨_, rfl⟩
          replace H : (spec_StepDown.l2 k4 l0 l1 y139 y170 y156 x9_2 t167 0 ((rd_T152 l1 x9_2).f0) ((rd_T152 l1 x9_2).f1) ((rd_T152 l1 x9_2).f2)) = some (r1, r2) := by first | (rw [hy170]; with_reducible exact H) | (have H2_ := (Option.bind_some _ _).symm.trans H; rw [hy170]; with_reducible exact H2_) | (have H2_ := (Option.bind_some _ _).symm.trans H; with_reducible exact H2_) | with_reducible exact H | (rw [hy170]; exact H) | exact H
          have Ny170 := Aside0.mk hy170
          clear hy170
          have H' := Aside0.mk H
          clear H
          have hcz69_0 : wr.cell? ⟨gb153, 0, none⟩ = some (.int .i64 ((rd_T152 l1 x9_2).f0)) := (qg0 BK153.out 0).trans rfl
          have hcz69_1 : wr.cell? ⟨gb153, 1, none⟩ = some (.slice A152_1 ((rd_T152 l1 x9_2).f1).length c152_1) := (qg0 BK153.out 1).trans rfl
          have hcz69_2 : wr.cell? ⟨gb153, 2, none⟩ = some (.slice A152_2 ((rd_T152 l1 x9_2).f2).length c152_2) := (qg0 BK153.out 2).trans rfl
          have hfz69_0 := qh0 BK153.out 0
          have hfz69_1 := qh0 BK153.out 1
          have hfz69_2 := qh0 BK153.out 2
          try go_wp2
          have n0_ := Aside0.mk (Kd.qf0 HO_6.out)
          have n1_ := Aside0.mk (Kd.qf0 HO_7.out)
          have n2_ := Aside0.mk (Kd.qf0 HO_8.out)
          have n3_ := Aside0.mk (qp0 BK153.out)
          have n4_ := Aside0.mk (qb0 HB.out)
          clear HO_6
          clear HO_7
          clear HO_8
          clear BK153
          clear HB
          have HO_6 := n0_
          have HO_7 := n1_
          have HO_8 := n2_
          have BK153 := n3_
          have HB := n4_
          clear n0_ n1_ n2_ n3_ n4_
          obtain ⟨Ao71, co71, eo71⟩ := Kd.qy0 HO_7.out
          (first | subst eo71 | (injection eo71 with f1_ f2_ f3_; have f4_ := f1_.symm; have f5_ := f3_.symm; clear f1_ f2_ f3_; subst f4_; subst f5_))
          have p166 : 0 ≤ (((rd_T152 l1 x9_2).f0) : Int) := of_decide_eq_true (by first | (with_reducible assumption) | assumption)
          have q166 : ((rd_T152 l1 x9_2).f0) < (x7_2.length : Int) := of_decide_eq_true (by first | (with_reducible assumption) | assumption)
          obtain ⟨ad166, e166, hx166_0⟩ := Kd.at_int (Kd.qk0 HO_7.out).2.2 ((rd_T152 l1 x9_2).f0) p166 q166
          cases e166
          replace p166 := eq_true p166
          replace q166 := eq_true q166
          refine start_ (n := 9) (S := fun w' => w'.cell? ⟨gb153, 0, none⟩ = some (.int .i64 ((rd_T152 l1 x9_2).f0)) ∧ w'.cell? ⟨gb153, 1, none⟩ = some (.slice A152_1 ((rd_T152 l1 x9_2).f1).length c152_1) ∧ w'.cell? ⟨gb153, 2, none⟩ = some (.slice A152_2 ((rd_T152 l1 x9_2).f2).length c152_2) ∧ w'.cell? (ad166.add (((rd_T152 l1 x9_2).f0)).toNat) = some (.int .i64 (rd x7_2 ((rd_T152 l1 x9_2).f0)))) (ds := []) #[false, false, false, false, false, false, false, false, false] (by kernel_rfl) rfl rfl ⟨(qg0 BK153.out 0).trans rfl, (qg0 BK153.out 1).trans rfl, (qg0 BK153.out 2).trans rfl, hx166_0⟩ (fun hHeld => ?_); refine with_tabW spec_StepDown.tab18 spec_StepDown.bits18 (fun HT_ HW_ => ?_)
          generalize wr.drew = w70 at HO_6 HO_7 HO_8 BK153 HB hx166_0 hHeld ⊢
          refine pure_ (i := 0) (N := some 111) (v := ?_) (a' := ?_) #[true, false, false, false, false, false, false, false, false] rfl rfl (qj0 HT_.out (by kernel_rfl)) (fun _ _ _ h => h) (Or.inl ⟨by rfl, ?_⟩) ?_ ?_
          rotate_left
          ·intro w'
           go_simp
           with_reducible rfl
          rotate_left
          ·simp only [Act.put, List.setIfInBounds_toArray, List.set_cons_zero, List.set_cons_succ, i64_w, i32_w]
           rfl
          refine pure_ (i := 1) (N := some 112) (v := ?_) (a' := ?_) #[true, true, false, false, false, false, false, false, false] rfl rfl (qj0 HT_.out (by kernel_rfl)) (fun _ _ _ h => h) (Or.inl ⟨by rfl, ?_⟩) ?_ ?_
          rotate_left
          ·intro w'
           go_simp
           with_reducible rfl
          rotate_left
          ·simp only [Act.put, List.setIfInBounds_toArray, List.set_cons_zero, List.set_cons_succ, i64_w, i32_w]
           rfl
          refine pure_ (i := 5) (N := some 116) (v := ?_) (a' := ?_) #[true, true, false, false, false, true, false, false, false] rfl rfl (qj0 HT_.out (by kernel_rfl)) (fun _ _ _ h => h) (Or.inl ⟨by rfl, ?_⟩) ?_ ?_
          rotate_left
          ·intro w'
           go_simp
           with_reducible rfl
          rotate_left
          ·simp only [Act.put, List.setIfInBounds_toArray, List.set_cons_zero, List.set_cons_succ, i64_w, i32_w]
           rfl
          refine take_ (i := 2) (N := some 113) (v := ?_) (a' := ?_) #[true, true, true, false, false, true, false, false, false] rfl rfl (qv0 HT_.out HW_.out (by kernel_rfl)) (fun _ _ _ h => h) (Or.inl ⟨by rfl, ?_⟩) hHeld ?_ ?_
          rotate_left
          ·rintro w' ⟨s0, s1, s2, s3⟩
           go_simp
           with_reducible rfl
          rotate_left
          ·simp only [Act.put, List.setIfInBounds_toArray, List.set_cons_zero, List.set_cons_succ, i64_w, i32_w]
           rfl
          refine pure_ (i := 3) (N := some 114) (v := ?_) (a' := ?_) #[true, true, true, true, false, true, false, false, false] rfl rfl (qj0 HT_.out (by kernel_rfl)) (fun _ _ _ h => h) (Or.inl ⟨by rfl, ?_⟩) ?_ ?_
          rotate_left
          ·intro w'
           go_simp
           with_reducible rfl
          rotate_left
          ·simp only [Act.put, List.setIfInBounds_toArray, List.set_cons_zero, List.set_cons_succ, i64_w, i32_w]
           rfl
          refine take_ (i := 4) (N := some 115) (v := ?_) (a' := ?_) #[true, true, true, true, true, true, false, false, false] rfl rfl (qv0 HT_.out HW_.out (by kernel_rfl)) (fun _ _ _ h => h) (Or.inl ⟨by rfl, ?_⟩) hHeld ?_ ?_
          rotate_left
          ·rintro w' ⟨s0, s1, s2, s3⟩
           go_simp
           with_reducible rfl
          rotate_left
          ·simp only [Act.put, List.setIfInBounds_toArray, List.set_cons_zero, List.set_cons_succ, i64_w, i32_w]
           rfl
          refine take_ (i := 6) (N := some 117) (v := ?_) (a' := ?_) #[true, true, true, true, true, true, true, false, false] rfl rfl (qv0 HT_.out HW_.out (by kernel_rfl)) (fun _ _ _ h => h) (Or.inl ⟨by rfl, ?_⟩) hHeld ?_ ?_
          rotate_left
          ·rintro w' ⟨s0, s1, s2, s3⟩
           go_simp
           with_reducible rfl
          rotate_left
          ·simp only [Act.put, List.setIfInBounds_toArray, List.set_cons_zero, List.set_cons_succ, i64_w, i32_w]
           rfl
          refine one_ (i := 7) (N := some 118) #[true, true, true, true, true, true, true, true, false] rfl rfl (qw1 HT_.out (by kernel_rfl)) (by decide) (fun K hK => ?_)
          refine goes_ Try.func99 (by kernel_rfl) rfl #[.int .i64 (rd x7_2 ((rd_T152 l1 x9_2).f0)), .slice A152_2 ((rd_T152 l1 x9_2).f2).length c152_2] (by rfl) rfl rfl (by (try simp only [List.map_toArray, List.map_cons, List.map_nil]); first | done | rfl | (simp only [List.length_drop, List.length_take]; rfl)) ?_
          with_reducible refine (spec_Shares.calls k4 (rd x7_2 ((rd_T152 l1 x9_2).f0)) _ _ ((rd_T152 l1 x9_2).f2) t167 _ ?side1 ?side2 A61.out).mono ?_
          (case side1 => repeat (first | exact (Kd.qz0 HR152_2.out HB.out) | (with_reducible refine Kd.qt0 ?_ _) | (with_reducible refine Kd.qs0 ?_ _) | (with_reducible refine Kd.qu0 ?_)))
          (case side2 => exact HC152_2.out)
          rintro e w72 ⟨v168, rfl, ho0, hb⟩
          have HS3_ := (hb.cell (World.block_lt_of_cell? _ _ (hHeld.2.2.2))).trans (hHeld.2.2.2)
          refine ⟨_, rfl, ?_⟩
          have n0_ := Aside0.mk (Kd.qb1 (by (with_reducible repeat (first | apply Kd.qe0 | apply Kd.qd0 | apply Kd.qf0)); exact HO_6.out) (Kd.qg1 ho0) hb)
          have n1_ := Aside0.mk (Kd.qb1 (by (with_reducible repeat (first | apply Kd.qe0 | apply Kd.qd0 | apply Kd.qf0)); exact HO_7.out) (Kd.qg1 ho0) hb)
          have n2_ := Aside0.mk (Kd.qb1 (by (with_reducible repeat (first | apply Kd.qe0 | apply Kd.qd0 | apply Kd.qf0)); exact HO_8.out) (Kd.qg1 ho0) hb)
          have n3_ := Aside0.mk (Kd.qj1 (Kd.ql1 (Kd.ql1 (Kd.ql1 ho0 (Kd.R_lt (by (with_reducible repeat (first | apply Kd.qe0 | apply Kd.qd0 | apply Kd.qf0)); exact HO_6.out))) (Kd.R_lt (by (with_reducible repeat (first | apply Kd.qe0 | apply Kd.qd0 | apply Kd.qf0)); exact HO_7.out))) (Kd.R_lt (by (with_reducible repeat (first | apply Kd.qe0 | apply Kd.qd0 | apply Kd.qf0)); exact HO_8.out))) (qm0 (by repeat (first | (with_reducible first | exact HB.out | apply qc0 | apply qa0 | apply qb0 | refine qi0 ?_ GE153.out) | exact HB.out))))
          have n4_ := Aside0.mk (blk_below (g := gb153) (o := .cells #[.int .i64 ((rd_T152 l1 x9_2).f0), .slice A152_1 ((rd_T152 l1 x9_2).f1).length c152_1, .slice A152_2 ((rd_T152 l1 x9_2).f2).length c152_2] 152 (0, 0)) (by (with_reducible repeat (first | refine qn0 ?_ _ | refine qp0 ?_ | refine qo0 ?_ _)); exact BK153.out) hb)
          have n5_ := Aside0.mk (qr0 (by repeat (first | (with_reducible first | exact HB.out | apply qc0 | apply qa0 | apply qb0 | refine qi0 ?_ GE153.out) | exact HB.out)) hb)
          clear HO_6
          clear HO_7
          clear HO_8
          clear BK153
          clear HB
          have HO_6 := n0_
          have HO_7 := n1_
          have HO_8 := n2_
          have HO169 := n3_
          have BK153 := n4_
          have HB := n5_
          clear n0_ n1_ n2_ n3_ n4_ n5_
          (try clear hb)
          (try clear hb2)
          (try clear hk)
          (try clear hi)
          (try clear ho0)
          refine hK.out _ _ ⟨(qg0 BK153.out 0).trans rfl, (qg0 BK153.out 1).trans rfl, (qg0 BK153.out 2).trans rfl, HS3_⟩ (fun hHeld => ?_)
          clear hK K
          refine norm_ (a' := ?_) ?_ ?_
          rotate_left
          ·show Act.put _ (some 118) _ = _
           simp only [Act.put, List.setIfInBounds_toArray, List.set_cons_zero, List.set_cons_succ, i64_w, i32_w]
           rfl
          refine pure_ (i := 8) (N := some 12) (v := ?_) (a' := ?_) #[true, true, true, true, true, true, true, true, true] rfl rfl (qj0 HT_.out (by kernel_rfl)) (fun _ _ _ h => h) (Or.inl ⟨by rfl, ?_⟩) ?_ ?_
          rotate_left
          ·intro w'
           go_simp
           with_reducible rfl
          rotate_left
          ·simp only [Act.put, List.setIfInBounds_toArray, List.set_cons_zero, List.set_cons_succ, i64_w, i32_w]
           rfl
          refine done_ (done_of HT_.out (by kernel_rfl)) ?_
          obtain ⟨Ao73, co73, eo73⟩ := Kd.qy0 HO169.out
          subst eo73
          have hcz74_0 : w72.cell? ⟨gb153, 0, none⟩ = some (.int .i64 ((rd_T152 l1 x9_2).f0)) := (qg0 BK153.out 0).trans rfl
          have hcz74_1 : w72.cell? ⟨gb153, 1, none⟩ = some (.slice A152_1 ((rd_T152 l1 x9_2).f1).length c152_1) := (qg0 BK153.out 1).trans rfl
          have hcz74_2 : w72.cell? ⟨gb153, 2, none⟩ = some (.slice A152_2 ((rd_T152 l1 x9_2).f2).length c152_2) := (qg0 BK153.out 2).trans rfl
          have hfz74_0 := qh0 BK153.out 0
          have hfz74_1 := qh0 BK153.out 1
          have hfz74_2 := qh0 BK153.out 2
          have p68 : 0 ≤ (((rd_T152 l1 x9_2).f0) : Int) := of_decide_eq_true (by first | (with_reducible assumption) | assumption)
          have q68 : (((rd_T152 l1 x9_2).f0) : Int) < ((x7_2.length : Int) : Int) := of_decide_eq_true (by first | (with_reducible assumption) | assumption)
          obtain ⟨go68, co68, eo68, gb68, gl68, cl68, HG68⟩ := Kd.R_form HO_7.out (by omega)
          (first | cases eo68 | (injection eo68 with ea_ en_ ec_; (first | subst ea_ | (injection ea_ with ea_; subst ea_)); subst ec_; clear en_))
          have GB68 := Aside0.mk gb68
          have GG68 := Aside0.mk HG68
          clear gb68 gl68 HG68
          (first | simp only [add_plain] at hx166_0 | skip)
          obtain ⟨hx68_0, hf68_0⟩ := Kd.qm1 0 HO_7.out (((rd_T152 l1 x9_2).f0) : Int) p68 q68
          replace p68 := eq_true p68
          replace q68 := eq_true q68
          have n_ := Aside0.mk (Kd.qq0 (ok' := (fun k_ => some k_ ≠ (v140 : Value).ownBlock ∧ some k_ ≠ (v157 : Value).ownBlock ∧ some k_ ≠ (.slice Ao73 t167.length co73 : Value).ownBlock)) HO_7.out (fun k_ hk => ⟨hk.1.1, ⟨hk.1.2, hk.2⟩⟩))
          clear HO_7
          have HO_7 := n_
          clear n_
          obtain ⟨hy75_, hz75_⟩ := Kd.qm1 0 HO_7.out (((rd_T152 l1 x9_2).f0) : Int) (of_decide_eq_true (by first | (with_reducible assumption) | assumption)) (of_decide_eq_true (by first | (with_reducible assumption) | assumption))
          have HP75 := Kd.R_putg HO_7.out (((rd_T152 l1 x9_2).f0) : Int) 0
          try go_wp2_with (first | ((with_reducible refine qh1 (t := 3) (p := 126) rfl ?_); refine qe1 (t := 3) (p := 126) (v := ?vo_w76) (w1 := (w72.setCell ⟨go68, (((rd_T152 l1 x9_2).f0) : Int).toNat, none⟩ (.int .i64 0))) ?hg ?ho ?hn ?hr ?_; (case ho => rfl); (case hg => rfl); (case hn => rfl); (case hr => first | (go_simp; done) | (go_simp; rfl)); intro w76 hw; have hg : w72.grownBy w76 (some go68) := (by rw [hw]; exact HP75.2); have hp_ : Kd.R (Kd.int .i64) 3 w76 w.heap.size (fun k_ => some k_ ≠ (v140 : Value).ownBlock ∧ some k_ ≠ (v157 : Value).ownBlock ∧ some k_ ≠ (.slice Ao73 t167.length co73 : Value).ownBlock) (.slice (some ⟨go68, 0, none⟩) x7_2.length co71) y170 := (by rw [hw, Ny170.out]; exact HP75.1); clear HP75; have n0_ := Aside0.mk (Kd.qk1 (v := (.slice (some ⟨go68, 0, none⟩) x7_2.length co71)) (v1 := (.slice (some ⟨go68, 0, none⟩) x7_2.length co71)) (ok := (fun k_ => some k_ ≠ (v157 : Value).ownBlock ∧ some k_ ≠ (.slice Ao73 t167.length co73 : Value).ownBlock)) (by (with_reducible repeat (first | apply Kd.qe0 | apply Kd.qd0 | apply Kd.qf0)); exact Kd.qq0 HO_6.out (fun _ hk => ⟨⟨hk.1.2, hk.2⟩, hk.1.1⟩)) hg (.inl rfl)); have n1_ := Aside0.mk (hp_); have n2_ := Aside0.mk (Kd.qk1 (v := (.slice (some ⟨go68, 0, none⟩) x7_2.length co71)) (v1 := (.slice (some ⟨go68, 0, none⟩) x7_2.length co71)) (ok := (fun k_ => some k_ ≠ (v140 : Value).ownBlock ∧ some k_ ≠ (.slice Ao73 t167.length co73 : Value).ownBlock)) (by (with_reducible repeat (first | apply Kd.qe0 | apply Kd.qd0 | apply Kd.qf0)); exact Kd.qq0 HO_8.out (fun _ hk => ⟨⟨hk.1.1, hk.2⟩, hk.1.2⟩)) hg (.inl rfl)); have n3_ := Aside0.mk (blk_grown (g := gb153) (o := .cells #[.int .i64 ((rd_T152 l1 x9_2).f0), .slice A152_1 ((rd_T152 l1 x9_2).f1).length c152_1, .slice A152_2 ((rd_T152 l1 x9_2).f2).length c152_2] 152 (0, 0)) (by (with_reducible repeat (first | refine qn0 ?_ _ | refine qp0 ?_ | refine qo0 ?_ _)); exact BK153.out) hg (Kd.R_ne HO_7.out BK153.out (by decide))); have n4_ := Aside0.mk (Kd.qk1 (v := (.slice (some ⟨go68, 0, none⟩) x7_2.length co71)) (v1 := (.slice (some ⟨go68, 0, none⟩) x7_2.length co71)) (ok := (fun k_ => some k_ ≠ (v140 : Value).ownBlock ∧ some k_ ≠ (v157 : Value).ownBlock)) (by (with_reducible repeat (first | apply Kd.qe0 | apply Kd.qd0 | apply Kd.qf0)); exact Kd.qq0 HO169.out (fun _ hk => ⟨⟨hk.1.1.2, hk.2⟩, hk.1.2⟩)) hg (.inl rfl)); have n5_ := Aside0.mk ((by rw [hw]; exact qi0 (HB.out) GB68.out : Below w.heap.size w w76)); clear HO_6; clear HO_7; clear HO_8; clear BK153; clear HO169; clear HB; have HO_6 := n0_; have HO_7 := n1_; have HO_8 := n2_; have BK153 := n3_; have HO169 := n4_; have HB := n5_; clear n0_ n1_ n2_ n3_ n4_ n5_; clear hg hw hp_))
          (try simp only [add_plain])
          go_loopg [13] k4 (fun kq v13 w' => ∃ (x7_5 : List Int) (x13_5 : Int), v13 = .int .i64 x13_5 ∧ Aside0 (spec_StepDown.l2 kq l0 l1 y139 x7_5 y156 x9_2 t167 x13_5 ((rd_T152 l1 x9_2).f0) ((rd_T152 l1 x9_2).f1) ((rd_T152 l1 x9_2).f2) = some (r1, r2)) ∧ Aside0 (kq ≤ k4) ∧ Aside0 (Kd.R (Kd.int .i64) 3 w' w.heap.size (fun k_ => some k_ ≠ ((.slice (some ⟨go68, 0, none⟩) x7_2.length co71) : Value).ownBlock ∧ some k_ ≠ (v157 : Value).ownBlock ∧ some k_ ≠ ((.slice Ao73 t167.length co73) : Value).ownBlock) v140 y139) ∧ Aside0 (Kd.R (Kd.int .i64) 3 w' w.heap.size (fun k_ => some k_ ≠ (v140 : Value).ownBlock ∧ some k_ ≠ (v157 : Value).ownBlock ∧ some k_ ≠ ((.slice Ao73 t167.length co73) : Value).ownBlock) (.slice (some ⟨go68, 0, none⟩) x7_2.length co71) x7_5) ∧ Aside0 (Kd.R (Kd.int .i64) 3 w' w.heap.size (fun k_ => some k_ ≠ (v140 : Value).ownBlock ∧ some k_ ≠ ((.slice (some ⟨go68, 0, none⟩) x7_2.length co71) : Value).ownBlock ∧ some k_ ≠ ((.slice Ao73 t167.length co73) : Value).ownBlock) v157 y156) ∧ Aside0 (Kd.R (Kd.int .i64) 3 w' w.heap.size (fun k_ => some k_ ≠ (v140 : Value).ownBlock ∧ some k_ ≠ ((.slice (some ⟨go68, 0, none⟩) x7_2.length co71) : Value).ownBlock ∧ some k_ ≠ (v157 : Value).ownBlock) (.slice Ao73 t167.length co73) t167) ∧ Aside0 (w'.heap[gb153]? = some (.cells #[.int .i64 ((rd_T152 l1 x9_2).f0), (.slice A152_1 ((rd_T152 l1 x9_2).f1).length c152_1), (.slice A152_2 ((rd_T152 l1 x9_2).f2).length c152_2)] 152 (0, 0))) ∧ Aside0 (Below w.heap.size w w'))
          case atStart => exact ⟨(y170), (0), (by first | rfl | (simp; done) | (simp [*]; done)), H', ⟨Nat.le_refl _⟩, ⟨by (with_reducible repeat (first | apply Kd.qe0 | apply Kd.qd0 | apply Kd.qf0)); exact Kd.qq0 HO_6.out (fun _ hk => ⟨hk.2, ⟨hk.1.1, hk.1.2⟩⟩)⟩, ⟨by (with_reducible repeat (first | apply Kd.qe0 | apply Kd.qd0 | apply Kd.qf0)); exact HO_7.out⟩, ⟨by (with_reducible repeat (first | apply Kd.qe0 | apply Kd.qd0 | apply Kd.qf0)); exact Kd.qq0 HO_8.out (fun _ hk => ⟨hk.1.1, ⟨hk.2, hk.1.2⟩⟩)⟩, ⟨by (with_reducible repeat (first | apply Kd.qe0 | apply Kd.qd0 | apply Kd.qf0)); exact Kd.qq0 HO169.out (fun _ hk => ⟨hk.1.1, ⟨hk.2, hk.1.2⟩⟩)⟩, ⟨by (with_reducible repeat (first | refine qn0 ?_ _ | refine qp0 ?_ | refine qo0 ?_ _)); exact BK153.out⟩, ⟨by repeat (first | (with_reducible first | exact HB.out | apply qc0 | apply qa0 | apply qb0 | refine qi0 ?_ GE153.out) | exact HB.out)⟩⟩
          case round =>
           clear H'
           try clear c1
           try clear p1
           try clear q1
           try clear hx1
           try clear p2
           try clear c3
           try clear c5
           try clear c6
           try clear p6
           try clear q6
           try clear hx6
           try clear hf6
           try clear c7
           try clear c9
           try clear c10
           try clear c15
           try clear p15
           try clear q15
           try clear hx15
           try clear p16
           try clear q16
           try clear hx16
           try clear c36
           try clear c36b0
           try clear c39
           try clear c59
           try clear c59b0
           try clear c60
           try clear c60b0
           try clear c62
           try clear c62b0
           try clear c62b1
           try clear c62b2
           try clear p64
           try clear p68
           try clear q68
           try clear hx68
           try clear hf68
           try clear c76
           try clear hcz57_0
           try clear hcz57_1
           try clear hcz57_2
           try clear hcz63_0
           try clear hcz63_1
           try clear hcz63_2
           try clear hcz69_0
           try clear hcz69_1
           try clear hcz69_2
           try clear hcz74_0
           try clear hcz74_1
           try clear hcz74_2
           try clear hfz57_0
           try clear hfz57_1
           try clear hfz57_2
           try clear hfz63_0
           try clear hfz63_1
           try clear hfz63_2
           try clear hfz69_0
           try clear hfz69_1
           try clear hfz69_2
           try clear hfz74_0
           try clear hfz74_1
           try clear hfz74_2
           try clear hx159_0
           try clear hx166_0
           try clear hx68_0
           try clear p159
           try clear p166
           try clear p68
           try clear q159
           try clear q166
           try clear q68
           obtain ⟨x7_5, x13_5, rfl, HA, HK5, HO_6, HO_7, HO_8, HO_12, BK153, HB⟩ := hrel
           have hl7_5 := (Kd.qk0 HO_7.out).1
           rw [hl7_5] at HO_7
           (try simp only [hl7_5])
           (try simp only [hl7_5] at BK153)
           (try simp only [hl7_5] at HO_6)
           (try simp only [hl7_5] at HO_8)
           (try simp only [hl7_5] at HO_12)
           cases gk with
           | zero => exact absurd HA.out (by simp [spec_StepDown.l2])
           | succ k5 =>
            have H := HA.out
            clear HA
            simp only [spec_StepDown.l2] at H
            by_cases c77 : x13_5 < (t167.length : Int)
            ·rw [if_pos c77] at H
             have c77b0 : decide (x13_5 < (t167.length : Int)) = true := decide_eq_true c77
             clear c77
             by_cases c78 : 0 ≤ x13_5
             case neg => rw [if_neg c78] at H; exact absurd H (by simp)
             rw [if_pos c78] at H
             have c78b0 : decide (0 ≤ x13_5) = true := decide_eq_true c78
             clear c78
             by_cases c79 : x13_5 < (((rd_T152 l1 x9_2).f1).length : Int)
             case neg => rw [if_neg c79] at H; exact absurd H (by simp)
             rw [if_pos c79] at H
             have c79b0 : decide (x13_5 < (((rd_T152 l1 x9_2).f1).length : Int)) = true := decide_eq_true c79
             clear c79
             by_cases c80 : 0 ≤ (rd ((rd_T152 l1 x9_2).f1) x13_5)
             case neg => rw [if_neg c80] at H; exact absurd H (by simp)
             rw [if_pos c80] at H
             have c80b0 : decide (0 ≤ (rd ((rd_T152 l1 x9_2).f1) x13_5)) = true := decide_eq_true c80
             clear c80
             by_cases c81 : (rd ((rd_T152 l1 x9_2).f1) x13_5) < (x7_5.length : Int)
             case neg => rw [if_neg c81] at H; exact absurd H (by simp)
             rw [if_pos c81] at H
             have c81b0 : decide ((rd ((rd_T152 l1 x9_2).f1) x13_5) < (x7_5.length : Int)) = true := decide_eq_true c81
             clear c81
             obtain ⟨y175, hy175⟩ : ∃ y_ : List Int, y_ = (x7_5.set ((rd ((rd_T152 l1 x9_2).f1) x13_5) : Int).toNat (wrap64 ((rd x7_5 (rd ((rd_T152 l1 x9_2).f1) x13_5)) + (rd t167 x13_5)))) := ⟨_, rfl⟩
             replace H : ((spec_l1Amount.f (wrap64 ((rd x7_5 (rd ((rd_T152 l1 x9_2).f1) x13_5)) + (rd t167 x13_5)))).bind fun t178 => (if t178 = true then (spec_StepDown.l2 k5 l0 l1 y139 y175 y156 x9_2 t167 (wrap64 (x13_5 + 1)) ((rd_T152 l1 x9_2).f0) ((rd_T152 l1 x9_2).f1) ((rd_T152 l1 x9_2).f2)) else (some (y139, false)))) = some (r1, r2) := by first | (rw [hy175]; with_reducible exact H) | (have H2_ := (Option.bind_some _ _).symm.trans H; rw [hy175]; with_reducible exact H2_) | (have H2_ := (Option.bind_some _ _).symm.trans H; with_reducible exact H2_) | with_reducible exact H | (rw [hy175]; exact H) | exact H
             have Ny175 := Aside0.mk hy175
             clear hy175
             replace H := Option.bind_eq_some_iff.mp H
             obtain ⟨t178, A840, H⟩ := H
             replace H : (if t178 = true then (spec_StepDown.l2 k5 l0 l1 y139 y175 y156 x9_2 t167 (wrap64 (x13_5 + 1)) ((rd_T152 l1 x9_2).f0) ((rd_T152 l1 x9_2).f1) ((rd_T152 l1 x9_2).f2)) else (some (y139, false))) = some (r1, r2) := H
             have A84 := Aside0.mk A840
             clear A840
             by_cases c85 : t178 = true
             ·subst c85
              have H1 : (spec_StepDown.l2 k5 l0 l1 y139 y175 y156 x9_2 t167 (wrap64 (x13_5 + 1)) ((rd_T152 l1 x9_2).f0) ((rd_T152 l1 x9_2).f1) ((rd_T152 l1 x9_2).f2)) = some (r1, r2) := by rw [if_pos rfl] at H; exact H
              clear H
              have H := H1
              clear H1
              have H' := Aside0.mk H
              clear H
              try go_wp2
              have n0_ := Aside0.mk (Kd.qf0 HO_6.out)
              have n1_ := Aside0.mk (Kd.qf0 HO_7.out)
              have n2_ := Aside0.mk (Kd.qf0 HO_8.out)
              have n3_ := Aside0.mk (Kd.qf0 HO_12.out)
              have n4_ := Aside0.mk (qp0 BK153.out)
              have n5_ := Aside0.mk (qb0 HB.out)
              clear HO_6
              clear HO_7
              clear HO_8
              clear HO_12
              clear BK153
              clear HB
              have HO_6 := n0_
              have HO_7 := n1_
              have HO_8 := n2_
              have HO_12 := n3_
              have BK153 := n4_
              have HB := n5_
              clear n0_ n1_ n2_ n3_ n4_ n5_
              have p171 : 0 ≤ (x13_5 : Int) := of_decide_eq_true (by first | (with_reducible assumption) | assumption)
              have q171 : x13_5 < (((rd_T152 l1 x9_2).f1).length : Int) := of_decide_eq_true (by first | (with_reducible assumption) | assumption)
              obtain ⟨ad171, e171, hx171_0⟩ := Kd.at_int HR152_1.out x13_5 p171 q171
              have hw171_0 := hx171_0
              cases e171
              replace hx171_0 := (HB.out.cell (World.block_lt_of_cell? w _ hx171_0)).trans hx171_0
              replace p171 := eq_true p171
              replace q171 := eq_true q171
              have p172 : 0 ≤ (x13_5 : Int) := of_decide_eq_true (by first | (with_reducible assumption) | assumption)
              have q172 : x13_5 < (((rd_T152 l1 x9_2).f1).length : Int) := of_decide_eq_true (by first | (with_reducible assumption) | assumption)
              obtain ⟨ad172, e172, hx172_0⟩ := Kd.at_int HR152_1.out x13_5 p172 q172
              have hw172_0 := hx172_0
              obtain rfl : ad171 = ad172 := (by injection e172)
              replace hx172_0 := (HB.out.cell (World.block_lt_of_cell? w _ hx172_0)).trans hx172_0
              replace p172 := eq_true p172
              replace q172 := eq_true q172
              have p173 : 0 ≤ ((rd ((rd_T152 l1 x9_2).f1) x13_5) : Int) := of_decide_eq_true (by first | (with_reducible assumption) | assumption)
              have q173 : (rd ((rd_T152 l1 x9_2).f1) x13_5) < (x7_5.length : Int) := of_decide_eq_true (by first | (with_reducible assumption) | assumption)
              obtain ⟨ad173, e173, hx173_0⟩ := Kd.at_int (Kd.qk0 HO_7.out).2.2 (rd ((rd_T152 l1 x9_2).f1) x13_5) p173 q173
              obtain rfl : (⟨go68, 0, none⟩ : Addr) = ad173 := (by injection e173)
              (first | simp only [add_plain] at hx173_0 | simp only [add_at] at hx173_0 | simp only [Addr.add, Nat.zero_add] at hx173_0 | skip)
              replace p173 := eq_true p173
              replace q173 := eq_true q173
              have p174 : 0 ≤ (x13_5 : Int) := of_decide_eq_true (by first | (with_reducible assumption) | assumption)
              have q174 : x13_5 < (t167.length : Int) := of_decide_eq_true (by first | (with_reducible assumption) | assumption)
              obtain ⟨ad174, e174, hx174_0⟩ := Kd.at_int (Kd.qk0 HO_12.out).2.2 x13_5 p174 q174
              cases e174
              replace p174 := eq_true p174
              replace q174 := eq_true q174
              have p82 : 0 ≤ ((rd ((rd_T152 l1 x9_2).f1) x13_5) : Int) := of_decide_eq_true (by first | (with_reducible assumption) | assumption)
              have q82 : ((rd ((rd_T152 l1 x9_2).f1) x13_5) : Int) < ((x7_5.length : Int) : Int) := of_decide_eq_true (by first | (with_reducible assumption) | assumption)
              obtain ⟨hx82_0, hf82_0⟩ := Kd.qm1 0 HO_7.out ((rd ((rd_T152 l1 x9_2).f1) x13_5) : Int) p82 q82
              replace p82 := eq_true p82
              replace q82 := eq_true q82
              have HP87 := Kd.R_putn HO_7.out ((rd ((rd_T152 l1 x9_2).f1) x13_5) : Int) (wrap64 ((rd x7_5 (rd ((rd_T152 l1 x9_2).f1) x13_5)) + (rd t167 x13_5)))
              rw [← Ny175.out] at HP87
              have HQ87 := Aside0.mk HP87
              clear HP87
              refine start_ (n := 21) (S := fun w' => w'.cell? ⟨gb153, 0, none⟩ = some (.int .i64 ((rd_T152 l1 x9_2).f0)) ∧ w'.cell? ⟨gb153, 1, none⟩ = some (.slice (some ad171) ((rd_T152 l1 x9_2).f1).length c152_1) ∧ w'.cell? ⟨gb153, 2, none⟩ = some (.slice A152_2 ((rd_T152 l1 x9_2).f2).length c152_2) ∧ w'.cell? (ad171.add (x13_5).toNat) = some (.int .i64 (rd ((rd_T152 l1 x9_2).f1) x13_5)) ∧ w'.cell? (ad171.add (x13_5).toNat) = some (.int .i64 (rd ((rd_T152 l1 x9_2).f1) x13_5)) ∧ w'.cell? ⟨go68, ((rd ((rd_T152 l1 x9_2).f1) x13_5)).toNat, none⟩ = some (.int .i64 (rd x7_5 (rd ((rd_T152 l1 x9_2).f1) x13_5))) ∧ w'.cell? (ad174.add (x13_5).toNat) = some (.int .i64 (rd t167 x13_5))) (ds := [20]) (rb4 [0, 21]) (by kernel_rfl) rfl rfl ⟨(qg0 BK153.out 0).trans rfl, (qg0 BK153.out 1).trans rfl, (qg0 BK153.out 2).trans rfl, ((HB.out.cell (World.block_lt_of_cell? w _ hw171_0)).trans hw171_0), ((HB.out.cell (World.block_lt_of_cell? w _ hw172_0)).trans hw172_0), hx173_0, hx174_0⟩ (fun hHeld => ?_); refine with_tabW spec_StepDown.tab25 spec_StepDown.bits25 (fun HT_ HW_ => ?_)
              generalize wr.drew = w86 at HO_6 HO_7 HO_8 HO_12 BK153 HB HQ87 hf82_0 hx171_0 hx172_0 hx173_0 hx174_0 hx82_0 hHeld ⊢
              refine pure_ (i := 0) (N := some 133) (v := ?_) (a' := ?_) (rb4 [1, 20]) rfl rfl (qj0 HT_.out (by kernel_rfl)) (fun _ _ _ h => h) (Or.inl ⟨by rfl, ?_⟩) ?_ ?_
              rotate_left
              ·intro w'
               go_simp
               with_reducible rfl
              rotate_left
              ·simp only [Act.put, List.setIfInBounds_toArray, List.set_cons_zero, List.set_cons_succ, i64_w, i32_w]
               rfl
              refine pure_ (i := 1) (N := some 134) (v := ?_) (a' := ?_) (rb4 [2, 19]) rfl rfl (qj0 HT_.out (by kernel_rfl)) (fun _ _ _ h => h) (Or.inl ⟨by rfl, ?_⟩) ?_ ?_
              rotate_left
              ·intro w'
               go_simp
               with_reducible rfl
              rotate_left
              ·simp only [Act.put, List.setIfInBounds_toArray, List.set_cons_zero, List.set_cons_succ, i64_w, i32_w]
               rfl
              refine pure_ (i := 3) (N := some 136) (v := ?_) (a' := ?_) (rb4 [2, 1, 1, 17]) rfl rfl (qj0 HT_.out (by kernel_rfl)) (fun _ _ _ h => h) (Or.inl ⟨by rfl, ?_⟩) ?_ ?_
              rotate_left
              ·intro w'
               go_simp
               with_reducible rfl
              rotate_left
              ·simp only [Act.put, List.setIfInBounds_toArray, List.set_cons_zero, List.set_cons_succ, i64_w, i32_w]
               rfl
              refine pure_ (i := 6) (N := some 139) (v := ?_) (a' := ?_) (rb4 [2, 1, 1, 2, 1, 14]) rfl rfl (qj0 HT_.out (by kernel_rfl)) (fun _ _ _ h => h) (Or.inl ⟨by rfl, ?_⟩) ?_ ?_
              rotate_left
              ·intro w'
               go_simp
               with_reducible rfl
              rotate_left
              ·simp only [Act.put, List.setIfInBounds_toArray, List.set_cons_zero, List.set_cons_succ, i64_w, i32_w]
               rfl
              refine pure_ (i := 7) (N := some 140) (v := ?_) (a' := ?_) (rb4 [2, 1, 1, 2, 2, 13]) rfl rfl (qj0 HT_.out (by kernel_rfl)) (fun _ _ _ h => h) (Or.inl ⟨by rfl, ?_⟩) ?_ ?_
              rotate_left
              ·intro w'
               go_simp
               with_reducible rfl
              rotate_left
              ·simp only [Act.put, List.setIfInBounds_toArray, List.set_cons_zero, List.set_cons_succ, i64_w, i32_w]
               rfl
              refine pure_ (i := 9) (N := some 142) (v := ?_) (a' := ?_) (rb4 [2, 1, 1, 2, 2, 1, 1, 11]) rfl rfl (qj0 HT_.out (by kernel_rfl)) (fun _ _ _ h => h) (Or.inl ⟨by rfl, ?_⟩) ?_ ?_
              rotate_left
              ·intro w'
               go_simp
               with_reducible rfl
              rotate_left
              ·simp only [Act.put, List.setIfInBounds_toArray, List.set_cons_zero, List.set_cons_succ, i64_w, i32_w]
               rfl
              refine pure_ (i := 14) (N := some 147) (v := ?_) (a' := ?_) (rb4 [2, 1, 1, 2, 2, 1, 1, 4, 1, 6]) rfl rfl (qj0 HT_.out (by kernel_rfl)) (fun _ _ _ h => h) (Or.inl ⟨by rfl, ?_⟩) ?_ ?_
              rotate_left
              ·intro w'
               go_simp
               with_reducible rfl
              rotate_left
              ·simp only [Act.put, List.setIfInBounds_toArray, List.set_cons_zero, List.set_cons_succ, i64_w, i32_w]
               rfl
              refine pure_ (i := 15) (N := some 148) (v := ?_) (a' := ?_) (rb4 [2, 1, 1, 2, 2, 1, 1, 4, 2, 5]) rfl rfl (qj0 HT_.out (by kernel_rfl)) (fun _ _ _ h => h) (Or.inl ⟨by rfl, ?_⟩) ?_ ?_
              rotate_left
              ·intro w'
               go_simp
               with_reducible rfl
              rotate_left
              ·simp only [Act.put, List.setIfInBounds_toArray, List.set_cons_zero, List.set_cons_succ, i64_w, i32_w]
               rfl
              refine pure_ (i := 16) (N := some 149) (v := ?_) (a' := ?_) (rb4 [2, 1, 1, 2, 2, 1, 1, 4, 3, 4]) rfl rfl (qj0 HT_.out (by kernel_rfl)) (fun _ _ _ h => h) (Or.inl ⟨by rfl, ?_⟩) ?_ ?_
              rotate_left
              ·intro w'
               go_simp
               with_reducible rfl
              rotate_left
              ·simp only [Act.put, List.setIfInBounds_toArray, List.set_cons_zero, List.set_cons_succ, i64_w, i32_w]
               rfl
              refine take_ (i := 2) (N := some 135) (v := ?_) (a' := ?_) (rb4 [4, 2, 2, 1, 1, 4, 3, 4]) rfl rfl (qv0 HT_.out HW_.out (by kernel_rfl)) (fun _ _ _ h => h) (Or.inl ⟨by rfl, ?_⟩) hHeld ?_ ?_
              rotate_left
              ·rintro w' ⟨s0, s1, s2, s3, s4, s5, s6⟩
               go_simp
               with_reducible rfl
              rotate_left
              ·simp only [Act.put, List.setIfInBounds_toArray, List.set_cons_zero, List.set_cons_succ, i64_w, i32_w]
               rfl
              refine pure_ (i := 4) (N := some 137) (v := ?_) (a' := ?_) (rb4 [5, 1, 2, 1, 1, 4, 3, 4]) rfl rfl (qj0 HT_.out (by kernel_rfl)) (fun _ _ _ h => h) (Or.inl ⟨by rfl, ?_⟩) ?_ ?_
              rotate_left
              ·intro w'
               go_simp
               with_reducible rfl
              rotate_left
              ·simp only [Act.put, List.setIfInBounds_toArray, List.set_cons_zero, List.set_cons_succ, i64_w, i32_w]
               rfl
              refine take_ (i := 5) (N := some 138) (v := ?_) (a' := ?_) (rb4 [8, 1, 1, 4, 3, 4]) rfl rfl (qv0 HT_.out HW_.out (by kernel_rfl)) (fun _ _ _ h => h) (Or.inl ⟨by rfl, ?_⟩) hHeld ?_ ?_
              rotate_left
              ·rintro w' ⟨s0, s1, s2, s3, s4, s5, s6⟩
               go_simp
               with_reducible rfl
              rotate_left
              ·simp only [Act.put, List.setIfInBounds_toArray, List.set_cons_zero, List.set_cons_succ, i64_w, i32_w]
               rfl
              refine take_ (i := 8) (N := some 141) (v := ?_) (a' := ?_) (rb4 [10, 4, 3, 4]) rfl rfl (qv0 HT_.out HW_.out (by kernel_rfl)) (fun _ _ _ h => h) (Or.inl ⟨by rfl, ?_⟩) hHeld ?_ ?_
              rotate_left
              ·rintro w' ⟨s0, s1, s2, s3, s4, s5, s6⟩
               go_simp
               with_reducible rfl
              rotate_left
              ·simp only [Act.put, List.setIfInBounds_toArray, List.set_cons_zero, List.set_cons_succ, i64_w, i32_w]
               rfl
              refine pure_ (i := 10) (N := some 143) (v := ?_) (a' := ?_) (rb4 [11, 3, 3, 4]) rfl rfl (qj0 HT_.out (by kernel_rfl)) (fun _ _ _ h => h) (Or.inl ⟨by rfl, ?_⟩) ?_ ?_
              rotate_left
              ·intro w'
               go_simp
               with_reducible rfl
              rotate_left
              ·simp only [Act.put, List.setIfInBounds_toArray, List.set_cons_zero, List.set_cons_succ, i64_w, i32_w]
               rfl
              refine take_ (i := 11) (N := some 144) (v := ?_) (a' := ?_) (rb4 [12, 2, 3, 4]) rfl rfl (qv0 HT_.out HW_.out (by kernel_rfl)) (fun _ _ _ h => h) (Or.inl ⟨by rfl, ?_⟩) hHeld ?_ ?_
              rotate_left
              ·rintro w' ⟨s0, s1, s2, s3, s4, s5, s6⟩
               go_simp
               with_reducible rfl
              rotate_left
              ·simp only [Act.put, List.setIfInBounds_toArray, List.set_cons_zero, List.set_cons_succ, i64_w, i32_w]
               rfl
              refine pure_ (i := 12) (N := some 145) (v := ?_) (a' := ?_) (rb4 [13, 1, 3, 4]) rfl rfl (qj0 HT_.out (by kernel_rfl)) (fun _ _ _ h => h) (Or.inl ⟨by rfl, ?_⟩) ?_ ?_
              rotate_left
              ·intro w'
               go_simp
               with_reducible rfl
              rotate_left
              ·simp only [Act.put, List.setIfInBounds_toArray, List.set_cons_zero, List.set_cons_succ, i64_w, i32_w]
               rfl
              refine take_ (i := 13) (N := some 146) (v := ?_) (a' := ?_) (rb4 [17, 4]) rfl rfl (qv0 HT_.out HW_.out (by kernel_rfl)) (fun _ _ _ h => h) (Or.inl ⟨by rfl, ?_⟩) hHeld ?_ ?_
              rotate_left
              ·rintro w' ⟨s0, s1, s2, s3, s4, s5, s6⟩
               go_simp
               with_reducible rfl
              rotate_left
              ·simp only [Act.put, List.setIfInBounds_toArray, List.set_cons_zero, List.set_cons_succ, i64_w, i32_w]
               rfl
              refine take_ (i := 17) (N := some 150) (v := ?_) (a' := ?_) (rb4 [18, 3]) rfl rfl (qv0 HT_.out HW_.out (by kernel_rfl)) (fun _ _ _ h => h) (Or.inl ⟨by rfl, ?_⟩) hHeld ?_ ?_
              rotate_left
              ·rintro w' ⟨s0, s1, s2, s3, s4, s5, s6⟩
               go_simp
               with_reducible rfl
              rotate_left
              ·simp only [Act.put, List.setIfInBounds_toArray, List.set_cons_zero, List.set_cons_succ, i64_w, i32_w]
               rfl
              refine pure_ (i := 18) (N := some 151) (v := ?_) (a' := ?_) (rb4 [19, 2]) rfl rfl (qj0 HT_.out (by kernel_rfl)) (fun _ _ _ h => h) (Or.inl ⟨by rfl, ?_⟩) ?_ ?_
              rotate_left
              ·intro w'
               go_simp
               with_reducible rfl
              rotate_left
              ·simp only [Act.put, List.setIfInBounds_toArray, List.set_cons_zero, List.set_cons_succ, i64_w, i32_w]
               rfl
              refine pure_ (i := 19) (N := some 152) (v := ?_) (a' := ?_) (rb4 [20, 1]) rfl rfl (qj0 HT_.out (by kernel_rfl)) (fun _ _ _ h => h) (Or.inl ⟨by rfl, ?_⟩) ?_ ?_
              rotate_left
              ·intro w'
               go_simp
               with_reducible rfl
              rotate_left
              ·simp only [Act.put, List.setIfInBounds_toArray, List.set_cons_zero, List.set_cons_succ, i64_w, i32_w]
               rfl
              refine last_ (i := 20) (N := none) (rb4 [21]) rfl rfl (qw1 HT_.out (by kernel_rfl)) (by decide) (fun K hK => ?_)
              refine skip_ (w1 := ?_) (by rfl) rfl ?_ ?_
              rotate_left
              ·go_simp
               rfl
              refine hK.out _ _ ?_
              clear hK K
              refine done_ (done_of HT_.out (by kernel_rfl)) ?_
              have hcz88_0 : w86.cell? ⟨gb153, 0, none⟩ = some (.int .i64 ((rd_T152 l1 x9_2).f0)) := (qg0 BK153.out 0).trans rfl
              have hcz88_1 : w86.cell? ⟨gb153, 1, none⟩ = some (.slice (some ad171) ((rd_T152 l1 x9_2).f1).length c152_1) := (qg0 BK153.out 1).trans rfl
              have hcz88_2 : w86.cell? ⟨gb153, 2, none⟩ = some (.slice A152_2 ((rd_T152 l1 x9_2).f2).length c152_2) := (qg0 BK153.out 2).trans rfl
              have hfz88_0 := qh0 BK153.out 0
              have hfz88_1 := qh0 BK153.out 1
              have hfz88_2 := qh0 BK153.out 2
              have p176 : 0 ≤ (x13_5 : Int) := of_decide_eq_true (by first | (with_reducible assumption) | assumption)
              have q176 : x13_5 < (((rd_T152 l1 x9_2).f1).length : Int) := of_decide_eq_true (by first | (with_reducible assumption) | assumption)
              obtain ⟨ad176, e176, hx176_0⟩ := Kd.at_int HR152_1.out x13_5 p176 q176
              obtain rfl : ad171 = ad176 := (by injection e176)
              have hn176_0 : ad171.block ≠ go68 := Nat.ne_of_lt (Nat.lt_of_lt_of_le (by have := World.block_lt_of_cell? _ _ hx176_0; first | rwa [add_block] at this | exact this) GB68.out)
              replace hx176_0 := (HB.out.cell (World.block_lt_of_cell? w _ hx176_0)).trans hx176_0
              replace hx176_0 := (cell_far (p := ⟨go68, ((rd ((rd_T152 l1 x9_2).f1) x13_5) : Int).toNat, none⟩) (by first | (rw [add_block]; exact hn176_0) | (show (Addr.add _ _).block ≠ _; rw [add_block]; exact hn176_0) | exact hn176_0) (.int .i64 (wrap64 ((rd x7_5 (rd ((rd_T152 l1 x9_2).f1) x13_5)) + (rd t167 x13_5))))).trans hx176_0
              have hz_ : gb153 ≠ go68 := (by have h_ := Kd.R_ne HO_7.out BK153.out (by decide); intro e_; exact h_ (by rw [e_]; rfl))
              replace hcz88_0 := (cell_far (p := ⟨go68, ((rd ((rd_T152 l1 x9_2).f1) x13_5) : Int).toNat, none⟩) (a := ⟨gb153, 0, none⟩) hz_ (.int .i64 (wrap64 ((rd x7_5 (rd ((rd_T152 l1 x9_2).f1) x13_5)) + (rd t167 x13_5))))).trans hcz88_0
              replace hcz88_1 := (cell_far (p := ⟨go68, ((rd ((rd_T152 l1 x9_2).f1) x13_5) : Int).toNat, none⟩) (a := ⟨gb153, 1, none⟩) hz_ (.int .i64 (wrap64 ((rd x7_5 (rd ((rd_T152 l1 x9_2).f1) x13_5)) + (rd t167 x13_5))))).trans hcz88_1
              replace hcz88_2 := (cell_far (p := ⟨go68, ((rd ((rd_T152 l1 x9_2).f1) x13_5) : Int).toNat, none⟩) (a := ⟨gb153, 2, none⟩) hz_ (.int .i64 (wrap64 ((rd x7_5 (rd ((rd_T152 l1 x9_2).f1) x13_5)) + (rd t167 x13_5))))).trans hcz88_2
              clear hn176_0
              replace p176 := eq_true p176
              replace q176 := eq_true q176
              have p83 : 0 ≤ ((rd ((rd_T152 l1 x9_2).f1) x13_5) : Int) := of_decide_eq_true (by first | (with_reducible assumption) | assumption)
              have q83 : ((rd ((rd_T152 l1 x9_2).f1) x13_5) : Int) < ((x7_5.length : Int) : Int) := of_decide_eq_true (by first | (with_reducible assumption) | assumption)
              replace p83 := eq_true p83
              replace q83 := eq_true q83
              try go_wp2_with (first | ((with_reducible refine ql0 (f := 108) rfl ?_); refine qx0 (some 161) rfl rfl Try.func108 (by kernel_rfl) rfl #[.int .i64 (wrap64 ((rd x7_5 (rd ((rd_T152 l1 x9_2).f1) x13_5)) + (rd t167 x13_5)))] rfl (by (try simp only [List.map_toArray, List.map_cons, List.map_nil]); first | done | rfl | (simp only [List.length_drop, List.length_take]; rfl)) ?_; (with_reducible refine (spec_l1Amount.calls (wrap64 ((rd x7_5 (rd ((rd_T152 l1 x9_2).f1) x13_5)) + (rd t167 x13_5))) true _ A84.out).mono ?_); rintro e w' ⟨rfl, ⟨nd, rfl⟩⟩; refine ⟨_, rfl, ?_⟩))
              (try simp only [← hl7_5])
              go_roundg k5
              case measure => have := HJ2.out; have := HK2.out; have := HJ16.out; have := HK4.out; have := HK5.out; omega
              case rel => exact ⟨(y175), (wrap64 (x13_5 + 1)), (by first | rfl | (simp; done) | (simp [*]; done)), H', ⟨by have := HJ2.out; have := HK2.out; have := HJ16.out; have := HK4.out; have := HK5.out; omega⟩, ⟨by (try simp only [hl7_5]); (with_reducible repeat (first | apply Kd.qe0 | apply Kd.qd0 | apply Kd.qf0)); exact Kd.qq0 (Kd.R_far (p := ⟨go68, ((rd ((rd_T152 l1 x9_2).f1) x13_5) : Int).toNat, none⟩) (Kd.qq0 HO_6.out (fun k_ hk => (⟨hk, fun e_ => hk.1 (by rw [e_]; rfl)⟩ : _ ∧ k_ ≠ go68))) (fun _ hk => hk.2) (.int .i64 (wrap64 ((rd x7_5 (rd ((rd_T152 l1 x9_2).f1) x13_5)) + (rd t167 x13_5))))) (fun _ hk => ⟨hk.1.1, ⟨hk.1.2.1, hk.1.2.2⟩⟩)⟩, ⟨by (try simp only [hl7_5]); (with_reducible repeat (first | apply Kd.qe0 | apply Kd.qd0 | apply Kd.qf0)); exact HQ87.out⟩, ⟨by (try simp only [hl7_5]); (with_reducible repeat (first | apply Kd.qe0 | apply Kd.qd0 | apply Kd.qf0)); exact Kd.qq0 (Kd.R_far (p := ⟨go68, ((rd ((rd_T152 l1 x9_2).f1) x13_5) : Int).toNat, none⟩) (Kd.qq0 HO_8.out (fun k_ hk => (⟨hk, fun e_ => hk.2.1 (by rw [e_]; rfl)⟩ : _ ∧ k_ ≠ go68))) (fun _ hk => hk.2) (.int .i64 (wrap64 ((rd x7_5 (rd ((rd_T152 l1 x9_2).f1) x13_5)) + (rd t167 x13_5))))) (fun _ hk => ⟨hk.1.1, ⟨hk.1.2.1, hk.1.2.2⟩⟩)⟩, ⟨by (try simp only [hl7_5]); (with_reducible repeat (first | apply Kd.qe0 | apply Kd.qd0 | apply Kd.qf0)); exact Kd.qq0 (Kd.R_far (p := ⟨go68, ((rd ((rd_T152 l1 x9_2).f1) x13_5) : Int).toNat, none⟩) (Kd.qq0 HO_12.out (fun k_ hk => (⟨hk, fun e_ => hk.2.1 (by rw [e_]; rfl)⟩ : _ ∧ k_ ≠ go68))) (fun _ hk => hk.2) (.int .i64 (wrap64 ((rd x7_5 (rd ((rd_T152 l1 x9_2).f1) x13_5)) + (rd t167 x13_5))))) (fun _ hk => ⟨hk.1.1, ⟨hk.1.2.1, hk.1.2.2⟩⟩)⟩, ⟨by (try simp only [hl7_5]); (with_reducible repeat (first | refine qn0 ?_ _ | refine qp0 ?_ | refine qo0 ?_ _)); refine blk_far ?_ (by have h_ := Kd.R_ne HO_7.out BK153.out (by decide); intro e_; exact h_ (by rw [e_]; rfl)) _; (with_reducible repeat (first | refine qn0 ?_ _ | refine qp0 ?_ | refine qo0 ?_ _)); exact BK153.out⟩, ⟨by repeat (first | (with_reducible first | exact HB.out | apply qc0 | apply qa0 | apply qb0 | refine qi0 ?_ GB68.out | refine qi0 ?_ GE153.out) | exact HB.out)⟩⟩
             replace c85 := Bool.eq_false_iff.mpr c85
             subst c85
             have H1 : (some (y139, false)) = some (r1, r2) := by rw [if_neg (show ¬ (false = true) by decide)] at H; exact H
             clear H
             have H := H1
             clear H1
             simp only [Option.some.injEq, Prod.mk.injEq] at H
             obtain ⟨rfl, rfl⟩ := H
             try go_wp2
             have n0_ := Aside0.mk (Kd.qf0 HO_6.out)
             have n1_ := Aside0.mk (Kd.qf0 HO_7.out)
             have n2_ := Aside0.mk (Kd.qf0 HO_8.out)
             have n3_ := Aside0.mk (Kd.qf0 HO_12.out)
             have n4_ := Aside0.mk (qp0 BK153.out)
             have n5_ := Aside0.mk (qb0 HB.out)
             clear HO_6
             clear HO_7
             clear HO_8
             clear HO_12
             clear BK153
             clear HB
             have HO_6 := n0_
             have HO_7 := n1_
             have HO_8 := n2_
             have HO_12 := n3_
             have BK153 := n4_
             have HB := n5_
             clear n0_ n1_ n2_ n3_ n4_ n5_
             have p171 : 0 ≤ (x13_5 : Int) := of_decide_eq_true (by first | (with_reducible assumption) | assumption)
             have q171 : x13_5 < (((rd_T152 l1 x9_2).f1).length : Int) := of_decide_eq_true (by first | (with_reducible assumption) | assumption)
             obtain ⟨ad171, e171, hx171_0⟩ := Kd.at_int HR152_1.out x13_5 p171 q171
             have hw171_0 := hx171_0
             cases e171
             replace hx171_0 := (HB.out.cell (World.block_lt_of_cell? w _ hx171_0)).trans hx171_0
             replace p171 := eq_true p171
             replace q171 := eq_true q171
             have p172 : 0 ≤ (x13_5 : Int) := of_decide_eq_true (by first | (with_reducible assumption) | assumption)
             have q172 : x13_5 < (((rd_T152 l1 x9_2).f1).length : Int) := of_decide_eq_true (by first | (with_reducible assumption) | assumption)
             obtain ⟨ad172, e172, hx172_0⟩ := Kd.at_int HR152_1.out x13_5 p172 q172
             have hw172_0 := hx172_0
             obtain rfl : ad171 = ad172 := (by injection e172)
             replace hx172_0 := (HB.out.cell (World.block_lt_of_cell? w _ hx172_0)).trans hx172_0
             replace p172 := eq_true p172
             replace q172 := eq_true q172
             have p173 : 0 ≤ ((rd ((rd_T152 l1 x9_2).f1) x13_5) : Int) := of_decide_eq_true (by first | (with_reducible assumption) | assumption)
             have q173 : (rd ((rd_T152 l1 x9_2).f1) x13_5) < (x7_5.length : Int) := of_decide_eq_true (by first | (with_reducible assumption) | assumption)
             obtain ⟨ad173, e173, hx173_0⟩ := Kd.at_int (Kd.qk0 HO_7.out).2.2 (rd ((rd_T152 l1 x9_2).f1) x13_5) p173 q173
             obtain rfl : (⟨go68, 0, none⟩ : Addr) = ad173 := (by injection e173)
             (first | simp only [add_plain] at hx173_0 | simp only [add_at] at hx173_0 | simp only [Addr.add, Nat.zero_add] at hx173_0 | skip)
             replace p173 := eq_true p173
             replace q173 := eq_true q173
             have p174 : 0 ≤ (x13_5 : Int) := of_decide_eq_true (by first | (with_reducible assumption) | assumption)
             have q174 : x13_5 < (t167.length : Int) := of_decide_eq_true (by first | (with_reducible assumption) | assumption)
             obtain ⟨ad174, e174, hx174_0⟩ := Kd.at_int (Kd.qk0 HO_12.out).2.2 x13_5 p174 q174
             cases e174
             replace p174 := eq_true p174
             replace q174 := eq_true q174
             have p82 : 0 ≤ ((rd ((rd_T152 l1 x9_2).f1) x13_5) : Int) := of_decide_eq_true (by first | (with_reducible assumption) | assumption)
             have q82 : ((rd ((rd_T152 l1 x9_2).f1) x13_5) : Int) < ((x7_5.length : Int) : Int) := of_decide_eq_true (by first | (with_reducible assumption) | assumption)
             obtain ⟨hx82_0, hf82_0⟩ := Kd.qm1 0 HO_7.out ((rd ((rd_T152 l1 x9_2).f1) x13_5) : Int) p82 q82
             replace p82 := eq_true p82
             replace q82 := eq_true q82
             have HP90 := Kd.R_putn HO_7.out ((rd ((rd_T152 l1 x9_2).f1) x13_5) : Int) (wrap64 ((rd x7_5 (rd ((rd_T152 l1 x9_2).f1) x13_5)) + (rd t167 x13_5)))
             rw [← Ny175.out] at HP90
             have HQ90 := Aside0.mk HP90
             clear HP90
             refine start_ (n := 21) (S := fun w' => w'.cell? ⟨gb153, 0, none⟩ = some (.int .i64 ((rd_T152 l1 x9_2).f0)) ∧ w'.cell? ⟨gb153, 1, none⟩ = some (.slice (some ad171) ((rd_T152 l1 x9_2).f1).length c152_1) ∧ w'.cell? ⟨gb153, 2, none⟩ = some (.slice A152_2 ((rd_T152 l1 x9_2).f2).length c152_2) ∧ w'.cell? (ad171.add (x13_5).toNat) = some (.int .i64 (rd ((rd_T152 l1 x9_2).f1) x13_5)) ∧ w'.cell? (ad171.add (x13_5).toNat) = some (.int .i64 (rd ((rd_T152 l1 x9_2).f1) x13_5)) ∧ w'.cell? ⟨go68, ((rd ((rd_T152 l1 x9_2).f1) x13_5)).toNat, none⟩ = some (.int .i64 (rd x7_5 (rd ((rd_T152 l1 x9_2).f1) x13_5))) ∧ w'.cell? (ad174.add (x13_5).toNat) = some (.int .i64 (rd t167 x13_5))) (ds := [20]) (rb4 [0, 21]) (by kernel_rfl) rfl rfl ⟨(qg0 BK153.out 0).trans rfl, (qg0 BK153.out 1).trans rfl, (qg0 BK153.out 2).trans rfl, ((HB.out.cell (World.block_lt_of_cell? w _ hw171_0)).trans hw171_0), ((HB.out.cell (World.block_lt_of_cell? w _ hw172_0)).trans hw172_0), hx173_0, hx174_0⟩ (fun hHeld => ?_); refine with_tabW spec_StepDown.tab25 spec_StepDown.bits25 (fun HT_ HW_ => ?_)
             generalize wr.drew = w89 at HO_6 HO_7 HO_8 HO_12 BK153 HB HQ90 hf82_0 hx171_0 hx172_0 hx173_0 hx174_0 hx82_0 hHeld ⊢
             refine pure_ (i := 0) (N := some 133) (v := ?_) (a' := ?_) (rb4 [1, 20]) rfl rfl (qj0 HT_.out (by kernel_rfl)) (fun _ _ _ h => h) (Or.inl ⟨by rfl, ?_⟩) ?_ ?_
             rotate_left
             ·intro w'
              go_simp
              with_reducible rfl
             rotate_left
             ·simp only [Act.put, List.setIfInBounds_toArray, List.set_cons_zero, List.set_cons_succ, i64_w, i32_w]
              rfl
             refine pure_ (i := 1) (N := some 134) (v := ?_) (a' := ?_) (rb4 [2, 19]) rfl rfl (qj0 HT_.out (by kernel_rfl)) (fun _ _ _ h => h) (Or.inl ⟨by rfl, ?_⟩) ?_ ?_
             rotate_left
             ·intro w'
              go_simp
              with_reducible rfl
             rotate_left
             ·simp only [Act.put, List.setIfInBounds_toArray, List.set_cons_zero, List.set_cons_succ, i64_w, i32_w]
              rfl
             refine pure_ (i := 3) (N := some 136) (v := ?_) (a' := ?_) (rb4 [2, 1, 1, 17]) rfl rfl (qj0 HT_.out (by kernel_rfl)) (fun _ _ _ h => h) (Or.inl ⟨by rfl, ?_⟩) ?_ ?_
             rotate_left
             ·intro w'
              go_simp
              with_reducible rfl
             rotate_left
             ·simp only [Act.put, List.setIfInBounds_toArray, List.set_cons_zero, List.set_cons_succ, i64_w, i32_w]
              rfl
             refine pure_ (i := 6) (N := some 139) (v := ?_) (a' := ?_) (rb4 [2, 1, 1, 2, 1, 14]) rfl rfl (qj0 HT_.out (by kernel_rfl)) (fun _ _ _ h => h) (Or.inl ⟨by rfl, ?_⟩) ?_ ?_
             rotate_left
             ·intro w'
              go_simp
              with_reducible rfl
             rotate_left
             ·simp only [Act.put, List.setIfInBounds_toArray, List.set_cons_zero, List.set_cons_succ, i64_w, i32_w]
              rfl
             refine pure_ (i := 7) (N := some 140) (v := ?_) (a' := ?_) (rb4 [2, 1, 1, 2, 2, 13]) rfl rfl (qj0 HT_.out (by kernel_rfl)) (fun _ _ _ h => h) (Or.inl ⟨by rfl, ?_⟩) ?_ ?_
             rotate_left
             ·intro w'
              go_simp
              with_reducible rfl
             rotate_left
             ·simp only [Act.put, List.setIfInBounds_toArray, List.set_cons_zero, List.set_cons_succ, i64_w, i32_w]
              rfl
             refine pure_ (i := 9) (N := some 142) (v := ?_) (a' := ?_) (rb4 [2, 1, 1, 2, 2, 1, 1, 11]) rfl rfl (qj0 HT_.out (by kernel_rfl)) (fun _ _ _ h => h) (Or.inl ⟨by rfl, ?_⟩) ?_ ?_
             rotate_left
             ·intro w'
              go_simp
              with_reducible rfl
             rotate_left
             ·simp only [Act.put, List.setIfInBounds_toArray, List.set_cons_zero, List.set_cons_succ, i64_w, i32_w]
              rfl
             refine pure_ (i := 14) (N := some 147) (v := ?_) (a' := ?_) (rb4 [2, 1, 1, 2, 2, 1, 1, 4, 1, 6]) rfl rfl (qj0 HT_.out (by kernel_rfl)) (fun _ _ _ h => h) (Or.inl ⟨by rfl, ?_⟩) ?_ ?_
             rotate_left
             ·intro w'
              go_simp
              with_reducible rfl
             rotate_left
             ·simp only [Act.put, List.setIfInBounds_toArray, List.set_cons_zero, List.set_cons_succ, i64_w, i32_w]
              rfl
             refine pure_ (i := 15) (N := some 148) (v := ?_) (a' := ?_) (rb4 [2, 1, 1, 2, 2, 1, 1, 4, 2, 5]) rfl rfl (qj0 HT_.out (by kernel_rfl)) (fun _ _ _ h => h) (Or.inl ⟨by rfl, ?_⟩) ?_ ?_
             rotate_left
             ·intro w'
              go_simp
              with_reducible rfl
             rotate_left
             ·simp only [Act.put, List.setIfInBounds_toArray, List.set_cons_zero, List.set_cons_succ, i64_w, i32_w]
              rfl
             refine pure_ (i := 16) (N := some 149) (v := ?_) (a' := ?_) (rb4 [2, 1, 1, 2, 2, 1, 1, 4, 3, 4]) rfl rfl (qj0 HT_.out (by kernel_rfl)) (fun _ _ _ h => h) (Or.inl ⟨by rfl, ?_⟩) ?_ ?_
             rotate_left
             ·intro w'
              go_simp
              with_reducible rfl
             rotate_left
             ·simp only [Act.put, List.setIfInBounds_toArray, List.set_cons_zero, List.set_cons_succ, i64_w, i32_w]
              rfl
             refine take_ (i := 2) (N := some 135) (v := ?_) (a' := ?_) (rb4 [4, 2, 2, 1, 1, 4, 3, 4]) rfl rfl (qv0 HT_.out HW_.out (by kernel_rfl)) (fun _ _ _ h => h) (Or.inl ⟨by rfl, ?_⟩) hHeld ?_ ?_
             rotate_left
             ·rintro w' ⟨s0, s1, s2, s3, s4, s5, s6⟩
              go_simp
              with_reducible rfl
             rotate_left
             ·simp only [Act.put, List.setIfInBounds_toArray, List.set_cons_zero, List.set_cons_succ, i64_w, i32_w]
              rfl
             refine pure_ (i := 4) (N := some 137) (v := ?_) (a' := ?_) (rb4 [5, 1, 2, 1, 1, 4, 3, 4]) rfl rfl (qj0 HT_.out (by kernel_rfl)) (fun _ _ _ h => h) (Or.inl ⟨by rfl, ?_⟩) ?_ ?_
             rotate_left
             ·intro w'
              go_simp
              with_reducible rfl
             rotate_left
             ·simp only [Act.put, List.setIfInBounds_toArray, List.set_cons_zero, List.set_cons_succ, i64_w, i32_w]
              rfl
             refine take_ (i := 5) (N := some 138) (v := ?_) (a' := ?_) (rb4 [8, 1, 1, 4, 3, 4]) rfl rfl (qv0 HT_.out HW_.out (by kernel_rfl)) (fun _ _ _ h => h) (Or.inl ⟨by rfl, ?_⟩) hHeld ?_ ?_
             rotate_left
             ·rintro w' ⟨s0, s1, s2, s3, s4, s5, s6⟩
              go_simp
              with_reducible rfl
             rotate_left
             ·simp only [Act.put, List.setIfInBounds_toArray, List.set_cons_zero, List.set_cons_succ, i64_w, i32_w]
              rfl
             refine take_ (i := 8) (N := some 141) (v := ?_) (a' := ?_) (rb4 [10, 4, 3, 4]) rfl rfl (qv0 HT_.out HW_.out (by kernel_rfl)) (fun _ _ _ h => h) (Or.inl ⟨by rfl, ?_⟩) hHeld ?_ ?_
             rotate_left
             ·rintro w' ⟨s0, s1, s2, s3, s4, s5, s6⟩
              go_simp
              with_reducible rfl
             rotate_left
             ·simp only [Act.put, List.setIfInBounds_toArray, List.set_cons_zero, List.set_cons_succ, i64_w, i32_w]
              rfl
             refine pure_ (i := 10) (N := some 143) (v := ?_) (a' := ?_) (rb4 [11, 3, 3, 4]) rfl rfl (qj0 HT_.out (by kernel_rfl)) (fun _ _ _ h => h) (Or.inl ⟨by rfl, ?_⟩) ?_ ?_
             rotate_left
             ·intro w'
              go_simp
              with_reducible rfl
             rotate_left
             ·simp only [Act.put, List.setIfInBounds_toArray, List.set_cons_zero, List.set_cons_succ, i64_w, i32_w]
              rfl
             refine take_ (i := 11) (N := some 144) (v := ?_) (a' := ?_) (rb4 [12, 2, 3, 4]) rfl rfl (qv0 HT_.out HW_.out (by kernel_rfl)) (fun _ _ _ h => h) (Or.inl ⟨by rfl, ?_⟩) hHeld ?_ ?_
             rotate_left
             ·rintro w' ⟨s0, s1, s2, s3, s4, s5, s6⟩
              go_simp
              with_reducible rfl
             rotate_left
             ·simp only [Act.put, List.setIfInBounds_toArray, List.set_cons_zero, List.set_cons_succ, i64_w, i32_w]
              rfl
             refine pure_ (i := 12) (N := some 145) (v := ?_) (a' := ?_) (rb4 [13, 1, 3, 4]) rfl rfl (qj0 HT_.out (by kernel_rfl)) (fun _ _ _ h => h) (Or.inl ⟨by rfl, ?_⟩) ?_ ?_
             rotate_left
             ·intro w'
              go_simp
              with_reducible rfl
             rotate_left
             ·simp only [Act.put, List.setIfInBounds_toArray, List.set_cons_zero, List.set_cons_succ, i64_w, i32_w]
              rfl
             refine take_ (i := 13) (N := some 146) (v := ?_) (a' := ?_) (rb4 [17, 4]) rfl rfl (qv0 HT_.out HW_.out (by kernel_rfl)) (fun _ _ _ h => h) (Or.inl ⟨by rfl, ?_⟩) hHeld ?_ ?_
             rotate_left
             ·rintro w' ⟨s0, s1, s2, s3, s4, s5, s6⟩
              go_simp
              with_reducible rfl
             rotate_left
             ·simp only [Act.put, List.setIfInBounds_toArray, List.set_cons_zero, List.set_cons_succ, i64_w, i32_w]
              rfl
             refine take_ (i := 17) (N := some 150) (v := ?_) (a' := ?_) (rb4 [18, 3]) rfl rfl (qv0 HT_.out HW_.out (by kernel_rfl)) (fun _ _ _ h => h) (Or.inl ⟨by rfl, ?_⟩) hHeld ?_ ?_
             rotate_left
             ·rintro w' ⟨s0, s1, s2, s3, s4, s5, s6⟩
              go_simp
              with_reducible rfl
             rotate_left
             ·simp only [Act.put, List.setIfInBounds_toArray, List.set_cons_zero, List.set_cons_succ, i64_w, i32_w]
              rfl
             refine pure_ (i := 18) (N := some 151) (v := ?_) (a' := ?_) (rb4 [19, 2]) rfl rfl (qj0 HT_.out (by kernel_rfl)) (fun _ _ _ h => h) (Or.inl ⟨by rfl, ?_⟩) ?_ ?_
             rotate_left
             ·intro w'
              go_simp
              with_reducible rfl
             rotate_left
             ·simp only [Act.put, List.setIfInBounds_toArray, List.set_cons_zero, List.set_cons_succ, i64_w, i32_w]
              rfl
             refine pure_ (i := 19) (N := some 152) (v := ?_) (a' := ?_) (rb4 [20, 1]) rfl rfl (qj0 HT_.out (by kernel_rfl)) (fun _ _ _ h => h) (Or.inl ⟨by rfl, ?_⟩) ?_ ?_
             rotate_left
             ·intro w'
              go_simp
              with_reducible rfl
             rotate_left
             ·simp only [Act.put, List.setIfInBounds_toArray, List.set_cons_zero, List.set_cons_succ, i64_w, i32_w]
              rfl
             refine last_ (i := 20) (N := none) (rb4 [21]) rfl rfl (qw1 HT_.out (by kernel_rfl)) (by decide) (fun K hK => ?_)
             refine skip_ (w1 := ?_) (by rfl) rfl ?_ ?_
             rotate_left
             ·go_simp
              rfl
             refine hK.out _ _ ?_
             clear hK K
             refine done_ (done_of HT_.out (by kernel_rfl)) ?_
             have hcz91_0 : w89.cell? ⟨gb153, 0, none⟩ = some (.int .i64 ((rd_T152 l1 x9_2).f0)) := (qg0 BK153.out 0).trans rfl
             have hcz91_1 : w89.cell? ⟨gb153, 1, none⟩ = some (.slice (some ad171) ((rd_T152 l1 x9_2).f1).length c152_1) := (qg0 BK153.out 1).trans rfl
             have hcz91_2 : w89.cell? ⟨gb153, 2, none⟩ = some (.slice A152_2 ((rd_T152 l1 x9_2).f2).length c152_2) := (qg0 BK153.out 2).trans rfl
             have hfz91_0 := qh0 BK153.out 0
             have hfz91_1 := qh0 BK153.out 1
             have hfz91_2 := qh0 BK153.out 2
             have p176 : 0 ≤ (x13_5 : Int) := of_decide_eq_true (by first | (with_reducible assumption) | assumption)
             have q176 : x13_5 < (((rd_T152 l1 x9_2).f1).length : Int) := of_decide_eq_true (by first | (with_reducible assumption) | assumption)
             obtain ⟨ad176, e176, hx176_0⟩ := Kd.at_int HR152_1.out x13_5 p176 q176
             obtain rfl : ad171 = ad176 := (by injection e176)
             have hn176_0 : ad171.block ≠ go68 := Nat.ne_of_lt (Nat.lt_of_lt_of_le (by have := World.block_lt_of_cell? _ _ hx176_0; first | rwa [add_block] at this | exact this) GB68.out)
             replace hx176_0 := (HB.out.cell (World.block_lt_of_cell? w _ hx176_0)).trans hx176_0
             replace hx176_0 := (cell_far (p := ⟨go68, ((rd ((rd_T152 l1 x9_2).f1) x13_5) : Int).toNat, none⟩) (by first | (rw [add_block]; exact hn176_0) | (show (Addr.add _ _).block ≠ _; rw [add_block]; exact hn176_0) | exact hn176_0) (.int .i64 (wrap64 ((rd x7_5 (rd ((rd_T152 l1 x9_2).f1) x13_5)) + (rd t167 x13_5))))).trans hx176_0
             have hz_ : gb153 ≠ go68 := (by have h_ := Kd.R_ne HO_7.out BK153.out (by decide); intro e_; exact h_ (by rw [e_]; rfl))
             replace hcz91_0 := (cell_far (p := ⟨go68, ((rd ((rd_T152 l1 x9_2).f1) x13_5) : Int).toNat, none⟩) (a := ⟨gb153, 0, none⟩) hz_ (.int .i64 (wrap64 ((rd x7_5 (rd ((rd_T152 l1 x9_2).f1) x13_5)) + (rd t167 x13_5))))).trans hcz91_0
             replace hcz91_1 := (cell_far (p := ⟨go68, ((rd ((rd_T152 l1 x9_2).f1) x13_5) : Int).toNat, none⟩) (a := ⟨gb153, 1, none⟩) hz_ (.int .i64 (wrap64 ((rd x7_5 (rd ((rd_T152 l1 x9_2).f1) x13_5)) + (rd t167 x13_5))))).trans hcz91_1
             replace hcz91_2 := (cell_far (p := ⟨go68, ((rd ((rd_T152 l1 x9_2).f1) x13_5) : Int).toNat, none⟩) (a := ⟨gb153, 2, none⟩) hz_ (.int .i64 (wrap64 ((rd x7_5 (rd ((rd_T152 l1 x9_2).f1) x13_5)) + (rd t167 x13_5))))).trans hcz91_2
             clear hn176_0
             replace p176 := eq_true p176
             replace q176 := eq_true q176
             have p83 : 0 ≤ ((rd ((rd_T152 l1 x9_2).f1) x13_5) : Int) := of_decide_eq_true (by first | (with_reducible assumption) | assumption)
             have q83 : ((rd ((rd_T152 l1 x9_2).f1) x13_5) : Int) < ((x7_5.length : Int) : Int) := of_decide_eq_true (by first | (with_reducible assumption) | assumption)
             replace p83 := eq_true p83
             replace q83 := eq_true q83
             try go_wp2_with (first | ((with_reducible refine ql0 (f := 108) rfl ?_); refine qx0 (some 161) rfl rfl Try.func108 (by kernel_rfl) rfl #[.int .i64 (wrap64 ((rd x7_5 (rd ((rd_T152 l1 x9_2).f1) x13_5)) + (rd t167 x13_5)))] rfl (by (try simp only [List.map_toArray, List.map_cons, List.map_nil]); first | done | rfl | (simp only [List.length_drop, List.length_take]; rfl)) ?_; (with_reducible refine (spec_l1Amount.calls (wrap64 ((rd x7_5 (rd ((rd_T152 l1 x9_2).f1) x13_5)) + (rd t167 x13_5))) false _ A84.out).mono ?_); rintro e w' ⟨rfl, ⟨nd, rfl⟩⟩; refine ⟨_, rfl, ?_⟩))
             go_ret2
             exact ⟨_, by first | rfl | (simp [errW_none, errW_some] <;> rfl) | (simp [*, errW_none, errW_some] <;> rfl), by (with_reducible repeat (first | apply Kd.qe0 | apply Kd.qd0 | apply Kd.qf0)); exact Kd.qq0 (Kd.R_far (p := ⟨go68, ((rd ((rd_T152 l1 x9_2).f1) x13_5) : Int).toNat, none⟩) (Kd.qq0 HO_6.out (fun k_ hk => (⟨hk, fun e_ => hk.1 (by rw [e_]; rfl)⟩ : _ ∧ k_ ≠ go68))) (fun _ hk => hk.2) (.int .i64 (wrap64 ((rd x7_5 (rd ((rd_T152 l1 x9_2).f1) x13_5)) + (rd t167 x13_5))))) (fun _ hk => trivial), by repeat (first | (with_reducible first | exact HB.out | apply qc0 | apply qa0 | apply qb0 | refine qi0 ?_ GB68.out | refine qi0 ?_ GE153.out) | exact HB.out)⟩
            rw [if_neg c77] at H
            have c77b0 : decide (x13_5 < (t167.length : Int)) = false := decide_eq_false c77
            clear c77
            have H' := Aside0.mk H
            clear H
            go_wp2
            (try simp only [← hl7_5])
            go_roundg k5
            case measure => have := HJ2.out; have := HK2.out; have := HJ16.out; have := HK4.out; have := HK5.out; omega
            case rel => exact ⟨(x7_5), (y156), (wrap64 (x9_2 + 1)), (by first | rfl | (simp; done) | (simp [*]; done)), H', ⟨by have := HJ2.out; have := HK2.out; have := HJ16.out; have := HK4.out; have := HK5.out; omega⟩, ⟨by (try simp only [hl7_5]); (with_reducible repeat (first | apply Kd.qe0 | apply Kd.qd0 | apply Kd.qf0)); exact Kd.qq0 HO_6.out (fun _ hk => ⟨hk.1, hk.2.1⟩)⟩, ⟨by (try simp only [hl7_5]); (with_reducible repeat (first | apply Kd.qe0 | apply Kd.qd0 | apply Kd.qf0)); exact Kd.qq0 HO_7.out (fun _ hk => ⟨hk.1, hk.2.1⟩)⟩, ⟨by (try simp only [hl7_5]); (with_reducible repeat (first | apply Kd.qe0 | apply Kd.qd0 | apply Kd.qf0)); exact Kd.qq0 HO_8.out (fun _ hk => ⟨hk.1, hk.2.1⟩)⟩, ⟨by repeat (first | (with_reducible first | exact HB.out | apply qc0 | apply qa0 | apply qb0 | refine qi0 ?_ GE153.out) | exact HB.out)⟩⟩
     rw [if_neg c15] at H
     have c15b0 : decide (x9_2 < (l1.length : Int)) = false := decide_eq_false c15
     clear c15
     simp only [Option.some.injEq, Prod.mk.injEq] at H
     obtain ⟨rfl, rfl⟩ := H
     go_wp2
     go_ret2
     exact ⟨_, by first | rfl | (simp [errW_none, errW_some] <;> rfl) | (simp [*, errW_none, errW_some] <;> rfl), by (with_reducible repeat (first | apply Kd.qe0 | apply Kd.qd0 | apply Kd.qf0)); exact Kd.qq0 HO_7.out (fun _ hk => trivial), by repeat (first | (with_reducible first | exact HB.out | apply qc0 | apply qa0 | apply qb0) | exact HB.out)⟩

end Go.Proofs.Ytdnhpicgjkddbaa.PFnExactStepDown
