/- Lines by a program (a changed copy of the kit's print: this repo's wip/tools): Go functions as Lean functions, and proofs that the calls answer so. -/
import Derived.Test.YtlodndejipjceaaZPFnSettledx0
import Derived.Test.YtlodndejipjceaaZPFnSettledx1
import Derived.Test.YtlodndejipjceaaZPFnSettledx4
import Derived.Test.YtlodndejipjceaaZPFnSettledx5
import Derived.Test.YtlodndejipjceaaZPFnSettledx6
import Derived.Test.YtlodndejipjceaaZPFnSettledx7
namespace Go.Proofs.Ytlodndejipjceaa.PFnSettled
open Go.RowKit Go.Proofs.YtlodndejipjceaaW.PrintWords Go.Proofs.YtlodndejipjceaaW.PrintLast Go.Proofs.YtlodndejipjceaaW.PrintMore
/-- Runs of true and false, by turns. -/
def rb8l : Bool → List Nat → List Bool
 | _, [] => []
 | b, n :: r => List.replicate n b ++ rb8l (!b) r
def rb8 (l : List Nat) : Array Bool := (rb8l true l).toArray
attribute [local go_sem] max2_int min2_int max_two min_two max_three min_three max_four min_four   -- for this text's walks alone
set_option linter.unusedVariables false
set_option linter.unusedSimpArgs false

/-! ### laws_FnSettled: function 3 -/
mutual
def laws_FnSettled.j0 : Nat → List Int → Bool → Option (Bool)
 | 0, _, _ => none
 | k + 1, x0, x45 => if x45 = true then (some false) else ((spec_DrawSettle.f k x0).bind fun bt309 => ((spec_Settle.f k bt309.1 bt309.2).bind fun t315 => ((impl_Settle.f k bt309.1 bt309.2).bind fun t318 => (if (t318.length : Int) = (t315.length : Int) then (if (t318.length : Int) = 0 then (some true) else (if 0 ≤ (bt309.1.length : Int) then (if ((bt309.1.length : Int) : Int).toNat ≤ 35184372088832 then (if 0 ≤ (bt309.2.length : Int) then (if ((bt309.2.length : Int) : Int).toNat ≤ 35184372088832 then (laws_FnSettled.l0 k bt309.1 bt309.2 t318 (List.replicate ((bt309.1.length : Int) : Int).toNat 0) (List.replicate ((bt309.2.length : Int) : Int).toNat 0) 0) else (none)) else (none)) else (none)) else (none))) else (some false)))))
def laws_FnSettled.l0 : Nat → List (S27) → List (S27) → List (S30) → List Int → List Int → Int → Option (Bool)
 | 0, _, _, _, _, _, _ => none
 | k + 1, x4, x5, x7, x8, x9, x10 => if x10 < (x4.length : Int) then (if 0 ≤ x10 then (if x10 < (x8.length : Int) then (laws_FnSettled.l0 k x4 x5 x7 (x8.set (x10 : Int).toNat ((rd_T27 x4 x10).f1)) x9 (wrap64 (x10 + 1))) else (none)) else (none)) else (laws_FnSettled.l1 k x4 x5 x7 x8 x9 0)
def laws_FnSettled.l1 : Nat → List (S27) → List (S27) → List (S30) → List Int → List Int → Int → Option (Bool)
 | 0, _, _, _, _, _, _ => none
 | k + 1, x4, x5, x7, x8, x9, x11 => if x11 < (x5.length : Int) then (if 0 ≤ x11 then (if x11 < (x9.length : Int) then (laws_FnSettled.l1 k x4 x5 x7 x8 (x9.set (x11 : Int).toNat ((rd_T27 x5 x11).f1)) (wrap64 (x11 + 1))) else (none)) else (none)) else (laws_FnSettled.l2 k x4 x5 x7 x8 x9 0)
def laws_FnSettled.l2 : Nat → List (S27) → List (S27) → List (S30) → List Int → List Int → Int → Option (Bool)
 | 0, _, _, _, _, _, _ => none
 | k + 1, x4, x5, x7, x8, x9, x12 => if x12 < (x7.length : Int) then (if 0 ≤ x12 then (if ((rd_T30 x7 x12).f0) < 0 then (laws_FnSettled.j4 k x4 x5 x7 x8 x9 x12 true ((rd_T30 x7 x12).f0) ((rd_T30 x7 x12).f1) ((rd_T30 x7 x12).f2)) else (if ((rd_T30 x7 x12).f0) ≥ (x8.length : Int) then (laws_FnSettled.j4 k x4 x5 x7 x8 x9 x12 true ((rd_T30 x7 x12).f0) ((rd_T30 x7 x12).f1) ((rd_T30 x7 x12).f2)) else (if ((rd_T30 x7 x12).f1) < 0 then (laws_FnSettled.j4 k x4 x5 x7 x8 x9 x12 true ((rd_T30 x7 x12).f0) ((rd_T30 x7 x12).f1) ((rd_T30 x7 x12).f2)) else (if ((rd_T30 x7 x12).f1) ≥ (x9.length : Int) then (laws_FnSettled.j4 k x4 x5 x7 x8 x9 x12 true ((rd_T30 x7 x12).f0) ((rd_T30 x7 x12).f1) ((rd_T30 x7 x12).f2)) else (laws_FnSettled.j4 k x4 x5 x7 x8 x9 x12 (decide (((rd_T30 x7 x12).f2) ≤ 0)) ((rd_T30 x7 x12).f0) ((rd_T30 x7 x12).f1) ((rd_T30 x7 x12).f2)))))) else (none)) else ((laws_sum.f k x8).bind fun t345 => (if t345 = 0 then (some true) else ((laws_sum.f k x9).bind fun t346 => (some (t346 == 0)))))
def laws_FnSettled.j4 : Nat → List (S27) → List (S27) → List (S30) → List Int → List Int → Int → Bool → Int → Int → Int → Option (Bool)
 | 0, _, _, _, _, _, _, _, _, _, _ => none
 | k + 1, x4, x5, x7, x8, x9, x12, x135, x333000, x333001, x333002 => if x135 = true then (some false) else (if x12 > 0 then (if 0 ≤ x333000 then (if x333000 < (x4.length : Int) then (if 0 ≤ (wrap64 (x12 - 1)) then (if (wrap64 (x12 - 1)) < (x7.length : Int) then (if 0 ≤ ((rd_T30 x7 (wrap64 (x12 - 1))).f0) then (if ((rd_T30 x7 (wrap64 (x12 - 1))).f0) < (x4.length : Int) then (if ((rd_T27 x4 x333000).f0) < ((rd_T27 x4 ((rd_T30 x7 (wrap64 (x12 - 1))).f0)).f0) then (laws_FnSettled.j5 k x4 x5 x7 x8 x9 x12 true x333000 x333001 x333002) else (if 0 ≤ x333001 then (if x333001 < (x5.length : Int) then (if 0 ≤ ((rd_T30 x7 (wrap64 (x12 - 1))).f1) then (if ((rd_T30 x7 (wrap64 (x12 - 1))).f1) < (x5.length : Int) then (laws_FnSettled.j5 k x4 x5 x7 x8 x9 x12 (decide (((rd_T27 x5 x333001).f0) < ((rd_T27 x5 ((rd_T30 x7 (wrap64 (x12 - 1))).f1)).f0))) x333000 x333001 x333002) else (none)) else (none)) else (none)) else (none))) else (none)) else (none)) else (none)) else (none)) else (none)) else (none)) else (laws_FnSettled.j5 k x4 x5 x7 x8 x9 x12 false x333000 x333001 x333002))
def laws_FnSettled.j5 : Nat → List (S27) → List (S27) → List (S30) → List Int → List Int → Int → Bool → Int → Int → Int → Option (Bool)
 | 0, _, _, _, _, _, _, _, _, _, _ => none
 | k + 1, x4, x5, x7, x8, x9, x12, x175, x333000, x333001, x333002 => if x175 = true then (some false) else (if 0 ≤ x333000 then (if x333000 < (x8.length : Int) then ((some (x8.set (x333000 : Int).toNat (wrap64 ((rd x8 x333000) - x333002)) : List Int)).bind fun y340 => (if 0 ≤ x333001 then (if x333001 < (x9.length : Int) then ((some (x9.set (x333001 : Int).toNat (wrap64 ((rd x9 x333001) - x333002)) : List Int)).bind fun y342 => (if (rd y340 x333000) < 0 then (laws_FnSettled.j6 k x4 x5 x7 y340 y342 x12 true) else (laws_FnSettled.j6 k x4 x5 x7 y340 y342 x12 (decide ((wrap64 ((rd x9 x333001) - x333002)) < 0))))) else (none)) else (none))) else (none)) else (none))
def laws_FnSettled.j6 : Nat → List (S27) → List (S27) → List (S30) → List Int → List Int → Int → Bool → Option (Bool)
 | 0, _, _, _, _, _, _, _ => none
 | k + 1, x4, x5, x7, x8, x9, x12, x213 => if x213 = true then (some false) else (laws_FnSettled.l2 k x4 x5 x7 x8 x9 (wrap64 (x12 + 1)))
end
def laws_FnSettled.f (k : Nat) (l0 : List Int) : Option (Bool) := (laws_big.f l0).bind fun t296 => (if t296 = true then (some true) else ((impl_Settle.f k (([(⟨4, 5⟩ : S27)] : List (S27))) (([(⟨9, 2⟩ : S27), (⟨8, 4⟩ : S27)] : List (S27)))).bind fun t303 => (if (t303.length : Int) = 2 then (if 0 < (t303.length : Int) then (if ((rd_T30 t303 0).f1) = 1 then (if ((rd_T30 t303 0).f2) = 4 then (if 1 < (t303.length : Int) then (laws_FnSettled.j0 k l0 (((rd_T30 t303 1).f2) != 1)) else (none)) else (laws_FnSettled.j0 k l0 true)) else (laws_FnSettled.j0 k l0 true)) else (none)) else (laws_FnSettled.j0 k l0 true))))
theorem laws_FnSettled.mono_l : ∀ k, (∀ y0 y1, LeO (laws_FnSettled.j0 k y0 y1) (laws_FnSettled.j0 (k + 1) y0 y1)) ∧ (∀ y0 y1 y2 y3 y4 y5, LeO (laws_FnSettled.l0 k y0 y1 y2 y3 y4 y5) (laws_FnSettled.l0 (k + 1) y0 y1 y2 y3 y4 y5)) ∧ (∀ y0 y1 y2 y3 y4 y5, LeO (laws_FnSettled.l1 k y0 y1 y2 y3 y4 y5) (laws_FnSettled.l1 (k + 1) y0 y1 y2 y3 y4 y5)) ∧ (∀ y0 y1 y2 y3 y4 y5, LeO (laws_FnSettled.l2 k y0 y1 y2 y3 y4 y5) (laws_FnSettled.l2 (k + 1) y0 y1 y2 y3 y4 y5)) ∧ (∀ y0 y1 y2 y3 y4 y5 y6 y7 y8 y9, LeO (laws_FnSettled.j4 k y0 y1 y2 y3 y4 y5 y6 y7 y8 y9) (laws_FnSettled.j4 (k + 1) y0 y1 y2 y3 y4 y5 y6 y7 y8 y9)) ∧ (∀ y0 y1 y2 y3 y4 y5 y6 y7 y8 y9, LeO (laws_FnSettled.j5 k y0 y1 y2 y3 y4 y5 y6 y7 y8 y9) (laws_FnSettled.j5 (k + 1) y0 y1 y2 y3 y4 y5 y6 y7 y8 y9)) ∧ (∀ y0 y1 y2 y3 y4 y5 y6, LeO (laws_FnSettled.j6 k y0 y1 y2 y3 y4 y5 y6) (laws_FnSettled.j6 (k + 1) y0 y1 y2 y3 y4 y5 y6))
 | 0 => ⟨fun _ _ r h => by simp [laws_FnSettled.j0] at h, fun _ _ _ _ _ _ r h => by simp [laws_FnSettled.l0] at h, fun _ _ _ _ _ _ r h => by simp [laws_FnSettled.l1] at h, fun _ _ _ _ _ _ r h => by simp [laws_FnSettled.l2] at h, fun _ _ _ _ _ _ _ _ _ _ r h => by simp [laws_FnSettled.j4] at h, fun _ _ _ _ _ _ _ _ _ _ r h => by simp [laws_FnSettled.j5] at h, fun _ _ _ _ _ _ _ r h => by simp [laws_FnSettled.j6] at h⟩
 | k + 1 => by
  obtain ⟨ih0, ih1, ih2, ih3, ih4, ih5, ih6⟩ := laws_FnSettled.mono_l k
  refine ⟨?_, ?_, ?_, ?_, ?_, ?_, ?_⟩
  ·intro y0 y1
   unfold laws_FnSettled.j0
   repeat' first
   | (with_reducible exact ih0 _ _)
   | (with_reducible exact ih1 _ _ _ _ _ _)
   | (with_reducible exact ih2 _ _ _ _ _ _)
   | (with_reducible exact ih3 _ _ _ _ _ _)
   | (with_reducible exact ih4 _ _ _ _ _ _ _ _ _ _)
   | (with_reducible exact ih5 _ _ _ _ _ _ _ _ _ _)
   | (with_reducible exact ih6 _ _ _ _ _ _ _)
   | (with_reducible exact impl_Settle.mono _ _ _)
   | (with_reducible exact laws_sum.mono _ _)
   | (with_reducible exact spec_DrawSettle.mono _ _)
   | (with_reducible exact spec_Settle.mono _ _ _)
   | (with_reducible exact LeO.refl _)
   | (with_reducible exact LeO.none _)
   | (with_reducible refine LeO.ite ?_ ?_)
   | (with_reducible refine LeO.bind ?_ (fun _ => ?_))
   | exact ih0 _ _
   | exact ih1 _ _ _ _ _ _
   | exact ih2 _ _ _ _ _ _
   | exact ih3 _ _ _ _ _ _
   | exact ih4 _ _ _ _ _ _ _ _ _ _
   | exact ih5 _ _ _ _ _ _ _ _ _ _
   | exact ih6 _ _ _ _ _ _ _
   | exact impl_Settle.mono _ _ _
   | exact laws_sum.mono _ _
   | exact spec_DrawSettle.mono _ _
   | exact spec_Settle.mono _ _ _
   | exact LeO.none _
   | refine LeO.ite ?_ ?_
   | refine LeO.bind ?_ (fun _ => ?_)
  ·intro y0 y1 y2 y3 y4 y5
   unfold laws_FnSettled.l0
   repeat' first
   | (with_reducible exact ih0 _ _)
   | (with_reducible exact ih1 _ _ _ _ _ _)
   | (with_reducible exact ih2 _ _ _ _ _ _)
   | (with_reducible exact ih3 _ _ _ _ _ _)
   | (with_reducible exact ih4 _ _ _ _ _ _ _ _ _ _)
   | (with_reducible exact ih5 _ _ _ _ _ _ _ _ _ _)
   | (with_reducible exact ih6 _ _ _ _ _ _ _)
   | (with_reducible exact impl_Settle.mono _ _ _)
   | (with_reducible exact laws_sum.mono _ _)
   | (with_reducible exact spec_DrawSettle.mono _ _)
   | (with_reducible exact spec_Settle.mono _ _ _)
   | (with_reducible exact LeO.refl _)
   | (with_reducible exact LeO.none _)
   | (with_reducible refine LeO.ite ?_ ?_)
   | (with_reducible refine LeO.bind ?_ (fun _ => ?_))
   | exact ih0 _ _
   | exact ih1 _ _ _ _ _ _
   | exact ih2 _ _ _ _ _ _
   | exact ih3 _ _ _ _ _ _
   | exact ih4 _ _ _ _ _ _ _ _ _ _
   | exact ih5 _ _ _ _ _ _ _ _ _ _
   | exact ih6 _ _ _ _ _ _ _
   | exact impl_Settle.mono _ _ _
   | exact laws_sum.mono _ _
   | exact spec_DrawSettle.mono _ _
   | exact spec_Settle.mono _ _ _
   | exact LeO.none _
   | refine LeO.ite ?_ ?_
   | refine LeO.bind ?_ (fun _ => ?_)
  ·intro y0 y1 y2 y3 y4 y5
   unfold laws_FnSettled.l1
   repeat' first
   | (with_reducible exact ih0 _ _)
   | (with_reducible exact ih1 _ _ _ _ _ _)
   | (with_reducible exact ih2 _ _ _ _ _ _)
   | (with_reducible exact ih3 _ _ _ _ _ _)
   | (with_reducible exact ih4 _ _ _ _ _ _ _ _ _ _)
   | (with_reducible exact ih5 _ _ _ _ _ _ _ _ _ _)
   | (with_reducible exact ih6 _ _ _ _ _ _ _)
   | (with_reducible exact impl_Settle.mono _ _ _)
   | (with_reducible exact laws_sum.mono _ _)
   | (with_reducible exact spec_DrawSettle.mono _ _)
   | (with_reducible exact spec_Settle.mono _ _ _)
   | (with_reducible exact LeO.refl _)
   | (with_reducible exact LeO.none _)
   | (with_reducible refine LeO.ite ?_ ?_)
   | (with_reducible refine LeO.bind ?_ (fun _ => ?_))
   | exact ih0 _ _
   | exact ih1 _ _ _ _ _ _
   | exact ih2 _ _ _ _ _ _
   | exact ih3 _ _ _ _ _ _
   | exact ih4 _ _ _ _ _ _ _ _ _ _
   | exact ih5 _ _ _ _ _ _ _ _ _ _
   | exact ih6 _ _ _ _ _ _ _
   | exact impl_Settle.mono _ _ _
   | exact laws_sum.mono _ _
   | exact spec_DrawSettle.mono _ _
   | exact spec_Settle.mono _ _ _
   | exact LeO.none _
   | refine LeO.ite ?_ ?_
   | refine LeO.bind ?_ (fun _ => ?_)
  ·intro y0 y1 y2 y3 y4 y5
   unfold laws_FnSettled.l2
   repeat' first
   | (with_reducible exact ih0 _ _)
   | (with_reducible exact ih1 _ _ _ _ _ _)
   | (with_reducible exact ih2 _ _ _ _ _ _)
   | (with_reducible exact ih3 _ _ _ _ _ _)
   | (with_reducible exact ih4 _ _ _ _ _ _ _ _ _ _)
   | (with_reducible exact ih5 _ _ _ _ _ _ _ _ _ _)
   | (with_reducible exact ih6 _ _ _ _ _ _ _)
   | (with_reducible exact impl_Settle.mono _ _ _)
   | (with_reducible exact laws_sum.mono _ _)
   | (with_reducible exact spec_DrawSettle.mono _ _)
   | (with_reducible exact spec_Settle.mono _ _ _)
   | (with_reducible exact LeO.refl _)
   | (with_reducible exact LeO.none _)
   | (with_reducible refine LeO.ite ?_ ?_)
   | (with_reducible refine LeO.bind ?_ (fun _ => ?_))
   | exact ih0 _ _
   | exact ih1 _ _ _ _ _ _
   | exact ih2 _ _ _ _ _ _
   | exact ih3 _ _ _ _ _ _
   | exact ih4 _ _ _ _ _ _ _ _ _ _
   | exact ih5 _ _ _ _ _ _ _ _ _ _
   | exact ih6 _ _ _ _ _ _ _
   | exact impl_Settle.mono _ _ _
   | exact laws_sum.mono _ _
   | exact spec_DrawSettle.mono _ _
   | exact spec_Settle.mono _ _ _
   | exact LeO.none _
   | refine LeO.ite ?_ ?_
   | refine LeO.bind ?_ (fun _ => ?_)
  ·intro y0 y1 y2 y3 y4 y5 y6 y7 y8 y9
   unfold laws_FnSettled.j4
   repeat' first
   | (with_reducible exact ih0 _ _)
   | (with_reducible exact ih1 _ _ _ _ _ _)
   | (with_reducible exact ih2 _ _ _ _ _ _)
   | (with_reducible exact ih3 _ _ _ _ _ _)
   | (with_reducible exact ih4 _ _ _ _ _ _ _ _ _ _)
   | (with_reducible exact ih5 _ _ _ _ _ _ _ _ _ _)
   | (with_reducible exact ih6 _ _ _ _ _ _ _)
   | (with_reducible exact impl_Settle.mono _ _ _)
   | (with_reducible exact laws_sum.mono _ _)
   | (with_reducible exact spec_DrawSettle.mono _ _)
   | (with_reducible exact spec_Settle.mono _ _ _)
   | (with_reducible exact LeO.refl _)
   | (with_reducible exact LeO.none _)
   | (with_reducible refine LeO.ite ?_ ?_)
   | (with_reducible refine LeO.bind ?_ (fun _ => ?_))
   | exact ih0 _ _
   | exact ih1 _ _ _ _ _ _
   | exact ih2 _ _ _ _ _ _
   | exact ih3 _ _ _ _ _ _
   | exact ih4 _ _ _ _ _ _ _ _ _ _
   | exact ih5 _ _ _ _ _ _ _ _ _ _
   | exact ih6 _ _ _ _ _ _ _
   | exact impl_Settle.mono _ _ _
   | exact laws_sum.mono _ _
   | exact spec_DrawSettle.mono _ _
   | exact spec_Settle.mono _ _ _
   | exact LeO.none _
   | refine LeO.ite ?_ ?_
   | refine LeO.bind ?_ (fun _ => ?_)
  ·intro y0 y1 y2 y3 y4 y5 y6 y7 y8 y9
   unfold laws_FnSettled.j5
   repeat' first
   | (with_reducible exact ih0 _ _)
   | (with_reducible exact ih1 _ _ _ _ _ _)
   | (with_reducible exact ih2 _ _ _ _ _ _)
   | (with_reducible exact ih3 _ _ _ _ _ _)
   | (with_reducible exact ih4 _ _ _ _ _ _ _ _ _ _)
   | (with_reducible exact ih5 _ _ _ _ _ _ _ _ _ _)
   | (with_reducible exact ih6 _ _ _ _ _ _ _)
   | (with_reducible exact impl_Settle.mono _ _ _)
   | (with_reducible exact laws_sum.mono _ _)
   | (with_reducible exact spec_DrawSettle.mono _ _)
   | (with_reducible exact spec_Settle.mono _ _ _)
   | (with_reducible exact LeO.refl _)
   | (with_reducible exact LeO.none _)
   | (with_reducible refine LeO.ite ?_ ?_)
   | (with_reducible refine LeO.bind ?_ (fun _ => ?_))
   | exact ih0 _ _
   | exact ih1 _ _ _ _ _ _
   | exact ih2 _ _ _ _ _ _
   | exact ih3 _ _ _ _ _ _
   | exact ih4 _ _ _ _ _ _ _ _ _ _
   | exact ih5 _ _ _ _ _ _ _ _ _ _
   | exact ih6 _ _ _ _ _ _ _
   | exact impl_Settle.mono _ _ _
   | exact laws_sum.mono _ _
   | exact spec_DrawSettle.mono _ _
   | exact spec_Settle.mono _ _ _
   | exact LeO.none _
   | refine LeO.ite ?_ ?_
   | refine LeO.bind ?_ (fun _ => ?_)
  ·intro y0 y1 y2 y3 y4 y5 y6
   unfold laws_FnSettled.j6
   repeat' first
   | (with_reducible exact ih0 _ _)
   | (with_reducible exact ih1 _ _ _ _ _ _)
   | (with_reducible exact ih2 _ _ _ _ _ _)
   | (with_reducible exact ih3 _ _ _ _ _ _)
   | (with_reducible exact ih4 _ _ _ _ _ _ _ _ _ _)
   | (with_reducible exact ih5 _ _ _ _ _ _ _ _ _ _)
   | (with_reducible exact ih6 _ _ _ _ _ _ _)
   | (with_reducible exact impl_Settle.mono _ _ _)
   | (with_reducible exact laws_sum.mono _ _)
   | (with_reducible exact spec_DrawSettle.mono _ _)
   | (with_reducible exact spec_Settle.mono _ _ _)
   | (with_reducible exact LeO.refl _)
   | (with_reducible exact LeO.none _)
   | (with_reducible refine LeO.ite ?_ ?_)
   | (with_reducible refine LeO.bind ?_ (fun _ => ?_))
   | exact ih0 _ _
   | exact ih1 _ _ _ _ _ _
   | exact ih2 _ _ _ _ _ _
   | exact ih3 _ _ _ _ _ _
   | exact ih4 _ _ _ _ _ _ _ _ _ _
   | exact ih5 _ _ _ _ _ _ _ _ _ _
   | exact ih6 _ _ _ _ _ _ _
   | exact impl_Settle.mono _ _ _
   | exact laws_sum.mono _ _
   | exact spec_DrawSettle.mono _ _
   | exact spec_Settle.mono _ _ _
   | exact LeO.none _
   | refine LeO.ite ?_ ?_
   | refine LeO.bind ?_ (fun _ => ?_)
theorem laws_FnSettled.mono : ∀ a0 k, LeO (laws_FnSettled.f k a0) (laws_FnSettled.f (k + 1) a0) := by
 intro a0 k
 obtain ⟨ih0, ih1, ih2, ih3, ih4, ih5, ih6⟩ := laws_FnSettled.mono_l k
 unfold laws_FnSettled.f
 repeat' first
   | (with_reducible exact ih0 _ _)
   | (with_reducible exact ih1 _ _ _ _ _ _)
   | (with_reducible exact ih2 _ _ _ _ _ _)
   | (with_reducible exact ih3 _ _ _ _ _ _)
   | (with_reducible exact ih4 _ _ _ _ _ _ _ _ _ _)
   | (with_reducible exact ih5 _ _ _ _ _ _ _ _ _ _)
   | (with_reducible exact ih6 _ _ _ _ _ _ _)
   | (with_reducible exact impl_Settle.mono _ _ _)
   | (with_reducible exact laws_sum.mono _ _)
   | (with_reducible exact spec_DrawSettle.mono _ _)
   | (with_reducible exact spec_Settle.mono _ _ _)
   | (with_reducible exact LeO.refl _)
   | (with_reducible exact LeO.none _)
   | (with_reducible refine LeO.ite ?_ ?_)
   | (with_reducible refine LeO.bind ?_ (fun _ => ?_))
   | exact ih0 _ _
   | exact ih1 _ _ _ _ _ _
   | exact ih2 _ _ _ _ _ _
   | exact ih3 _ _ _ _ _ _
   | exact ih4 _ _ _ _ _ _ _ _ _ _
   | exact ih5 _ _ _ _ _ _ _ _ _ _
   | exact ih6 _ _ _ _ _ _ _
   | exact impl_Settle.mono _ _ _
   | exact laws_sum.mono _ _
   | exact spec_DrawSettle.mono _ _
   | exact spec_Settle.mono _ _ _
   | exact LeO.none _
   | refine LeO.ite ?_ ?_
   | refine LeO.bind ?_ (fun _ => ?_)
def laws_FnSettled.T29 : Bool × List (List Nat × List Nat) := (true, [([], []), ([0], [0]), ([1], [1]), ([2], [2]), ([2], [2]), ([4, 2], [2, 4]), ([3, 5, 2], [2, 3, 5]), ([6, 2], [2, 6]), ([7, 2], [2, 7]), ([2], [2]), ([2], [2]), ([2], [2]), ([11, 2], [2, 11]), ([10, 12, 2], [2, 10, 12]), ([13, 2], [2, 13]), ([14, 2], [2, 14]), ([9, 15, 2], [2, 9, 15]), ([16, 2], [2, 16]), ([17, 2], [2, 17]), ([8, 18, 2], [2, 8, 18]), ([19, 2, 2], [2, 19]), ([20], [20]), ([20], [20]), ([22, 20], [20, 22]), ([21, 23, 20], [20, 21, 23]), ([24, 20], [20, 24]), ([25, 20], [20, 25]), ([20], [20]), ([20], [20]), ([20], [20]), ([29, 20], [20, 29]), ([28, 30, 20], [20, 28, 30]), ([31, 20], [20, 31]), ([32, 20], [20, 32]), ([27, 33, 20], [20, 27, 33]), ([34, 20], [20, 34]), ([35, 20], [20, 35]), ([26, 36, 20], [20, 26, 36]), ([20, 37, 2], [2, 20, 37]), ([2, 38], [2, 38])])
def laws_FnSettled.B29 : List Nat := [0, 1, 3, 7, 7, 23, 63, 127, 255, 7, 7, 7, 2055, 7175, 15367, 31751, 65031, 130567, 261639, 524287, 1048575, 2097151, 2097151, 6291455, 16777215, 33554431, 67108863, 2097151, 2097151, 2097151, 538968063, 1881145343, 4028628991, 8323596287, 17047748607, 34227617791, 68587356159, 137438953471, 274877906943, 549755813887]
theorem laws_FnSettled.tab29 : rtab .any (opsOf Try.f3 29) = laws_FnSettled.T29 := by kernel_rfl
theorem laws_FnSettled.bits29 : waitsOk laws_FnSettled.T29.2 laws_FnSettled.B29 = true := by kernel_rfl
def laws_FnSettled.T31 : Bool × List (List Nat × List Nat) := (true, [([], []), ([], []), ([1], [1]), ([], []), ([], []), ([4], [4]), ([3, 5], [3, 5]), ([6], [6]), ([], []), ([8], [8]), ([7, 9], [7, 9]), ([0, 2, 0, 1, 2, 3, 4, 5, 6, 7, 8, 9, 10], [0, 2]), ([11, 10, 0, 1, 2, 3, 4, 5, 6, 7, 8, 9, 10], [10, 11])])
def laws_FnSettled.B31 : List Nat := [0, 0, 2, 0, 0, 16, 56, 120, 0, 256, 1016, 2047, 4095]
theorem laws_FnSettled.tab31 : rtab .any (opsOf Try.f3 31) = laws_FnSettled.T31 := by kernel_rfl
theorem laws_FnSettled.bits31 : waitsOk laws_FnSettled.T31.2 laws_FnSettled.B31 = true := by kernel_rfl
def laws_FnSettled.T32 : Bool × List (List Nat × List Nat) := (true, [([], []), ([], []), ([1], [1]), ([], []), ([], []), ([4], [4]), ([3, 5], [3, 5]), ([6], [6]), ([], []), ([8], [8]), ([7, 9], [7, 9]), ([0, 2, 0, 1, 2, 3, 4, 5, 6, 7, 8, 9, 10], [0, 2]), ([11, 10, 0, 1, 2, 3, 4, 5, 6, 7, 8, 9, 10], [10, 11])])
def laws_FnSettled.B32 : List Nat := [0, 0, 2, 0, 0, 16, 56, 120, 0, 256, 1016, 2047, 4095]
theorem laws_FnSettled.tab32 : rtab .any (opsOf Try.f3 32) = laws_FnSettled.T32 := by kernel_rfl
theorem laws_FnSettled.bits32 : waitsOk laws_FnSettled.T32.2 laws_FnSettled.B32 = true := by kernel_rfl
set_option maxHeartbeats 8000000 in
set_option maxRecDepth 100000 in
theorem laws_FnSettled.calls (k : Nat) (A0 : Option Addr) (c0 : Nat) (l0 : List Int) (r : Bool) (w : World) (hr0 : Kd.C (Kd.int .u8) w A0 l0.length l0) (hc0 : l0.length ≤ c0) (h : laws_FnSettled.f k l0 = some r) :
  Calls Try.prog 3 #[.slice A0 l0.length c0] w fun e w' => e = .returned (.bool r) ∧ Below w.heap.size w w' := by
 have hu27 := Try.underlying27
 have hu30 := Try.underlying30
 have HR0 := Aside0.mk hr0
 have HC0 := Aside0.mk hc0
 clear hr0 hc0
 have HB := Aside0.mk (Below.refl w.heap.size w)
 have H : ((laws_big.f l0).bind fun t296 => (if t296 = true then (some true) else ((impl_Settle.f k (([(⟨4, 5⟩ : S27)] : List (S27))) (([(⟨9, 2⟩ : S27), (⟨8, 4⟩ : S27)] : List (S27)))).bind fun t303 => (if (t303.length : Int) = 2 then (if 0 < (t303.length : Int) then (if ((rd_T30 t303 0).f1) = 1 then (if ((rd_T30 t303 0).f2) = 4 then (if 1 < (t303.length : Int) then (laws_FnSettled.j0 k l0 (((rd_T30 t303 1).f2) != 1)) else (none)) else (laws_FnSettled.j0 k l0 true)) else (laws_FnSettled.j0 k l0 true)) else (none)) else (laws_FnSettled.j0 k l0 true))))) = some r := h
 clear h
 replace H := Option.bind_eq_some_iff.mp H
 obtain ⟨t296, A20, H⟩ := H
 replace H : (if t296 = true then (some true) else ((impl_Settle.f k (([(⟨4, 5⟩ : S27)] : List (S27))) (([(⟨9, 2⟩ : S27), (⟨8, 4⟩ : S27)] : List (S27)))).bind fun t303 => (if (t303.length : Int) = 2 then (if 0 < (t303.length : Int) then (if ((rd_T30 t303 0).f1) = 1 then (if ((rd_T30 t303 0).f2) = 4 then (if 1 < (t303.length : Int) then (laws_FnSettled.j0 k l0 (((rd_T30 t303 1).f2) != 1)) else (none)) else (laws_FnSettled.j0 k l0 true)) else (laws_FnSettled.j0 k l0 true)) else (none)) else (laws_FnSettled.j0 k l0 true)))) = some r := H
 have A2 := Aside0.mk A20
 clear A20
 by_cases c3 : t296 = true
 ·subst c3
  have H1 : (some true) = some r := by rw [if_pos rfl] at H; exact H
  clear H
  have H := H1
  clear H1
  obtain rfl := Option.some.inj H
  go_enter Try.func3, Try.ntmps3
  go_wp2_with (first | ((with_reducible refine qj0 (f := 15) rfl ?_); refine qz0 (some 15) rfl rfl Try.func15 (by kernel_rfl) rfl #[.slice A0 l0.length c0] rfl (by (try simp only [List.map_toArray, List.map_cons, List.map_nil]); first | done | rfl | (simp only [List.length_drop, List.length_take]; rfl)) ?_; (with_reducible refine (laws_big.calls _ _ l0 true _ ?side1 ?side2 A2.out).mono ?_); (case side1 => repeat (first | exact HR0.out | (with_reducible refine Kd.qb1 ?_ _) | (with_reducible refine Kd.qa1 ?_ _) | (with_reducible refine Kd.qg1 ?_))); (case side2 => exact HC0.out); rintro e w' ⟨rfl, ⟨nd, rfl⟩⟩; refine ⟨_, rfl, ?_⟩))
  go_ret
  exact ⟨by first | rfl | (simp [errW_none, errW_some] <;> rfl) | (simp [*, errW_none, errW_some] <;> rfl), by repeat (first | (with_reducible first | exact HB.out | apply qc0 | apply qa0 | apply qb0) | exact HB.out)⟩
 replace c3 := Bool.eq_false_iff.mpr c3
 subst c3
 have H1 : ((impl_Settle.f k (([(⟨4, 5⟩ : S27)] : List (S27))) (([(⟨9, 2⟩ : S27), (⟨8, 4⟩ : S27)] : List (S27)))).bind fun t303 => (if (t303.length : Int) = 2 then (if 0 < (t303.length : Int) then (if ((rd_T30 t303 0).f1) = 1 then (if ((rd_T30 t303 0).f2) = 4 then (if 1 < (t303.length : Int) then (laws_FnSettled.j0 k l0 (((rd_T30 t303 1).f2) != 1)) else (none)) else (laws_FnSettled.j0 k l0 true)) else (laws_FnSettled.j0 k l0 true)) else (none)) else (laws_FnSettled.j0 k l0 true))) = some r := by rw [if_neg (show ¬ (false = true) by decide)] at H; exact H
 clear H
 have H := H1
 clear H1
 obtain ⟨y297, hy297⟩ : ∃ y_ : List (S27), y_ = (([(⟨4, 5⟩ : S27)] : List (S27))) := ⟨_, rfl⟩
 replace H : ((impl_Settle.f k y297 (([(⟨9, 2⟩ : S27), (⟨8, 4⟩ : S27)] : List (S27)))).bind fun t303 => (if (t303.length : Int) = 2 then (if 0 < (t303.length : Int) then (if ((rd_T30 t303 0).f1) = 1 then (if ((rd_T30 t303 0).f2) = 4 then (if 1 < (t303.length : Int) then (laws_FnSettled.j0 k l0 (((rd_T30 t303 1).f2) != 1)) else (none)) else (laws_FnSettled.j0 k l0 true)) else (laws_FnSettled.j0 k l0 true)) else (none)) else (laws_FnSettled.j0 k l0 true))) = some r := by first | (rw [hy297]; with_reducible exact H) | (have H2_ := (Option.bind_some _ _).symm.trans H; rw [hy297]; with_reducible exact H2_) | (have H2_ := (Option.bind_some _ _).symm.trans H; with_reducible exact H2_) | with_reducible exact H | (rw [hy297]; exact H) | exact H
 have Ny297 := Aside0.mk hy297
 clear hy297
 obtain ⟨y300, hy300⟩ : ∃ y_ : List (S27), y_ = (([(⟨9, 2⟩ : S27), (⟨8, 4⟩ : S27)] : List (S27))) := ⟨_, rfl⟩
 replace H : ((impl_Settle.f k y297 y300).bind fun t303 => (if (t303.length : Int) = 2 then (if 0 < (t303.length : Int) then (if ((rd_T30 t303 0).f1) = 1 then (if ((rd_T30 t303 0).f2) = 4 then (if 1 < (t303.length : Int) then (laws_FnSettled.j0 k l0 (((rd_T30 t303 1).f2) != 1)) else (none)) else (laws_FnSettled.j0 k l0 true)) else (laws_FnSettled.j0 k l0 true)) else (none)) else (laws_FnSettled.j0 k l0 true))) = some r := by first | (rw [hy300]; with_reducible exact H) | (have H2_ := (Option.bind_some _ _).symm.trans H; rw [hy300]; with_reducible exact H2_) | (have H2_ := (Option.bind_some _ _).symm.trans H; with_reducible exact H2_) | with_reducible exact H | (rw [hy300]; exact H) | exact H
 have Ny300 := Aside0.mk hy300
 clear hy300
 replace H := Option.bind_eq_some_iff.mp H
 obtain ⟨t303, A40, H⟩ := H
 replace H : (if (t303.length : Int) = 2 then (if 0 < (t303.length : Int) then (if ((rd_T30 t303 0).f1) = 1 then (if ((rd_T30 t303 0).f2) = 4 then (if 1 < (t303.length : Int) then (laws_FnSettled.j0 k l0 (((rd_T30 t303 1).f2) != 1)) else (none)) else (laws_FnSettled.j0 k l0 true)) else (laws_FnSettled.j0 k l0 true)) else (none)) else (laws_FnSettled.j0 k l0 true)) = some r := H
 have A4 := Aside0.mk A40
 clear A40
 have HC5 := Aside0.mk H
 clear H
 go_enter Try.func3, Try.ntmps3
 go_upto_region 4 with (first | ((with_reducible refine qj0 (f := 15) rfl ?_); refine qz0 (some 15) rfl rfl Try.func15 (by kernel_rfl) rfl #[.slice A0 l0.length c0] rfl (by (try simp only [List.map_toArray, List.map_cons, List.map_nil]); first | done | rfl | (simp only [List.length_drop, List.length_take]; rfl)) ?_; (with_reducible refine (laws_big.calls _ _ l0 false _ ?side1 ?side2 A2.out).mono ?_); (case side1 => repeat (first | exact HR0.out | (with_reducible refine Kd.qb1 ?_ _) | (with_reducible refine Kd.qa1 ?_ _) | (with_reducible refine Kd.qg1 ?_))); (case side2 => exact HC0.out); rintro e w' ⟨rfl, ⟨nd, rfl⟩⟩; refine ⟨_, rfl, ?_⟩) | ((with_reducible refine qi1 (N := 17) rfl ?_); (try (refine gate_guard (by rfl) ?_; dsimp only)); refine Kd.R_lit k27 _ 27 ?hg (N := 17) ?hd (xs := ([(⟨4, 5⟩ : S27)] : List (S27))) (inner := [.int .i64 4, .int .i64 5]) (ok := fun _ => True) (okp := fun _ => True) ?hr ?hp (fun _ hk => hk) trivial (Below.refl _ _) (Nat.le_refl _) (by simp) ?_; (case hd => rfl); (case hg => rfl); (case hr => first | (go_simp; done) | (go_simp; rfl)); (case hp => exact (Reps.c2 (show Kd.M k27 _ _ _ (⟨4, 5⟩ : S27) [.int .i64 4, .int .i64 5] from (k27_mkM _ _ _ (⟨4, 5⟩ : S27) )) (Reps.none _ _))); intro v298 w6 ho7 hb hg_ hnew_; clear hg_ hnew_; (first | rw [← Ny297.out] at ho7 | (simp only [Int.reduceToNat] at ho7; rw [← Ny297.out] at ho7)); have n0_ := Aside0.mk (Kd.qe1 ho7 (ql0 (by repeat (first | (with_reducible first | exact HB.out | apply qc0 | apply qa0 | apply qb0) | exact HB.out)))); have n1_ := Aside0.mk (qq0 (by repeat (first | (with_reducible first | exact HB.out | apply qc0 | apply qa0 | apply qb0) | exact HB.out)) hb); clear HB; have HO299 := n0_; have HB := n1_; clear n0_ n1_; clear hb ho7) | ((with_reducible refine qi1 (N := 20) rfl ?_); (try (refine gate_guard (by rfl) ?_; dsimp only)); refine Kd.R_lit k27 _ 27 ?hg (N := 20) ?hd (xs := ([(⟨9, 2⟩ : S27), (⟨8, 4⟩ : S27)] : List (S27))) (inner := [.int .i64 9, .int .i64 2, .int .i64 8, .int .i64 4]) (ok := fun _ => True) (okp := fun _ => True) ?hr ?hp (fun _ hk => hk) trivial (Below.refl _ _) (Nat.le_refl _) (by simp) ?_; (case hd => rfl); (case hg => rfl); (case hr => first | (go_simp; done) | (go_simp; rfl)); (case hp => exact (Reps.c2 (show Kd.M k27 _ _ _ (⟨9, 2⟩ : S27) [.int .i64 9, .int .i64 2] from (k27_mkM _ _ _ (⟨9, 2⟩ : S27) )) (Reps.c2 (show Kd.M k27 _ _ _ (⟨8, 4⟩ : S27) [.int .i64 8, .int .i64 4] from (k27_mkM _ _ _ (⟨8, 4⟩ : S27) )) (Reps.none _ _)))); intro v301 w8 ho9 hb hg_ hnew_; clear hg_ hnew_; (first | rw [← Ny300.out] at ho9 | (simp only [Int.reduceToNat] at ho9; rw [← Ny300.out] at ho9)); have n0_ := Aside0.mk (Kd.R_elder' (by (with_reducible repeat (first | apply Kd.qe0 | apply Kd.qd0 | apply Kd.qf0)); exact HO299.out) (Kd.R_base ho9) hb); have n1_ := Aside0.mk (Kd.qe1 (Kd.R_new' ho9 (Kd.R_lt (by (with_reducible repeat (first | apply Kd.qe0 | apply Kd.qd0 | apply Kd.qf0)); exact HO299.out))) (ql0 (by repeat (first | (with_reducible first | exact HB.out | apply qc0 | apply qa0 | apply qb0) | exact HB.out)))); have n2_ := Aside0.mk (qq0 (by repeat (first | (with_reducible first | exact HB.out | apply qc0 | apply qa0 | apply qb0) | exact HB.out)) hb); clear HO299; clear HB; have HO299 := n0_; have HO302 := n1_; have HB := n2_; clear n0_ n1_ n2_; clear hb ho9; obtain ⟨Ao10, co10, eo10⟩ := Kd.qw0 HO299.out; subst eo10; obtain ⟨Ao11, co11, eo11⟩ := Kd.qw0 HO302.out; subst eo11) | ((with_reducible refine qj0 (f := 16) rfl ?_); refine qz0 (some 21) rfl rfl Try.func16 (by kernel_rfl) rfl #[.slice Ao10 y297.length co10, .slice Ao11 y300.length co11] rfl (by (try simp only [List.map_toArray, List.map_cons, List.map_nil]); first | done | rfl | (simp only [List.length_drop, List.length_take]; rfl)) ?_; (with_reducible refine (impl_Settle.calls k _ _ y297 _ _ y300 t303 _ ?side1 ?side2 ?side3 ?side4 A4.out).mono ?_); (case side1 => repeat (first | exact (Kd.qi0 HO299.out).2.2 | (with_reducible refine Kd.qb1 ?_ _) | (with_reducible refine Kd.qa1 ?_ _) | (with_reducible refine Kd.qg1 ?_))); (case side2 => exact (Kd.qi0 HO299.out).2.1); (case side3 => repeat (first | exact (Kd.qi0 HO302.out).2.2 | (with_reducible refine Kd.qb1 ?_ _) | (with_reducible refine Kd.qa1 ?_ _) | (with_reducible refine Kd.qg1 ?_))); (case side4 => exact (Kd.qi0 HO302.out).2.1); rintro e w12 ⟨v304, rfl, ho0, hb⟩; refine ⟨_, rfl, ?_⟩; have n0_ := Aside0.mk (Kd.qx0 (by (with_reducible repeat (first | apply Kd.qe0 | apply Kd.qd0 | apply Kd.qf0)); exact HO299.out) hb); have n1_ := Aside0.mk (Kd.qx0 (by (with_reducible repeat (first | apply Kd.qe0 | apply Kd.qd0 | apply Kd.qf0)); exact HO302.out) hb); have n2_ := Aside0.mk (Kd.qe1 ho0 (ql0 (by repeat (first | (with_reducible first | exact HB.out | apply qc0 | apply qa0 | apply qb0) | exact HB.out)))); have n3_ := Aside0.mk (qq0 (by repeat (first | (with_reducible first | exact HB.out | apply qc0 | apply qa0 | apply qb0) | exact HB.out)) hb); clear HO299; clear HO302; clear HB; have HO299 := n0_; have HO302 := n1_; have HO305 := n2_; have HB := n3_; clear n0_ n1_ n2_ n3_; (try clear hb); (try clear hb2); (try clear hk); (try clear hi); (try clear ho0)))
 (try simp only [Act.put, List.setIfInBounds_toArray, List.set_cons_zero, List.set_cons_succ])
 go_cut [45] (fun v45 wc => ∃ (kq : Nat) (x45_4 : Bool), v45 = .bool x45_4 ∧ Aside0 (laws_FnSettled.j0 kq l0 x45_4 = some r) ∧ Aside0 (kq ≤ k) ∧ Aside0 (Below w.heap.size w wc))
 case first => as_aux_lemma =>
  have H := HC5.out
  clear HC5
  by_cases c13 : (t303.length : Int) = 2
  ·rw [if_pos c13] at H
   have c13b0 : ((t303.length : Int) == 2) = true := beq_iff_eq.mpr c13
   have c13b1 : ((t303.length : Int) != 2) = false := bne_eq_false_iff_eq.mpr c13
   clear c13
   (first | rw [c13b0] | (simp only [i64_w, i32_w]; rw [c13b0]) | skip)
   by_cases c14 : 0 < (t303.length : Int)
   case neg => rw [if_neg c14] at H; exact absurd H (by simp)
   rw [if_pos c14] at H
   have c14b0 : decide (0 < (t303.length : Int)) = true := decide_eq_true c14
   have c14b1 : decide (0 < t303.length) = true := decide_eq_true (by omega)
   clear c14
   by_cases c15 : ((rd_T30 t303 0).f1) = 1
   ·rw [if_pos c15] at H
    have c15b0 : (((rd_T30 t303 0).f1) == 1) = true := beq_iff_eq.mpr c15
    have c15b1 : (((rd_T30 t303 0).f1) != 1) = false := bne_eq_false_iff_eq.mpr c15
    clear c15
    by_cases c16 : ((rd_T30 t303 0).f2) = 4
    ·rw [if_pos c16] at H
     have c16b0 : (((rd_T30 t303 0).f2) == 4) = true := beq_iff_eq.mpr c16
     have c16b1 : (((rd_T30 t303 0).f2) != 4) = false := bne_eq_false_iff_eq.mpr c16
     clear c16
     by_cases c17 : 1 < (t303.length : Int)
     case neg => rw [if_neg c17] at H; exact absurd H (by simp)
     rw [if_pos c17] at H
     have c17b0 : decide (1 < (t303.length : Int)) = true := decide_eq_true c17
     have c17b1 : decide (1 < t303.length) = true := decide_eq_true (by omega)
     clear c17
     have H' := Aside0.mk H
     clear H
     obtain ⟨Ao18, co18, eo18⟩ := Kd.qw0 HO305.out
     subst eo18
     have p306 : 0 ≤ (0 : Int) := (by omega)
     have q306 : 0 < (t303.length : Int) := of_decide_eq_true (by first | (with_reducible assumption) | assumption)
     obtain ⟨ad306, e306, hx306_0, hx306_1, hx306_2⟩ := at_T30 (Kd.qi0 HO305.out).2.2 0 p306 q306
     cases e306
     have qi306 : (0 < t303.length) = True := eq_true (by omega)
     (try rw [show ((0 : Int)).toNat = 0 from rfl] at hx306_0)
     (try rw [show 0 * 3 = 0 from rfl] at hx306_0)
     (try rw [Addr.add_zero'] at hx306_0)
     (try rw [show ((0 : Int)).toNat = 0 from rfl] at hx306_1)
     (try rw [show 0 * 3 = 0 from rfl] at hx306_1)
     (try rw [Addr.add_zero'] at hx306_1)
     (try rw [show ((0 : Int)).toNat = 0 from rfl] at hx306_2)
     (try rw [show 0 * 3 = 0 from rfl] at hx306_2)
     (try rw [Addr.add_zero'] at hx306_2)
     replace p306 := eq_true p306
     replace q306 := eq_true q306
     have p307 : 0 ≤ (0 : Int) := (by omega)
     have q307 : 0 < (t303.length : Int) := of_decide_eq_true (by first | (with_reducible assumption) | assumption)
     obtain ⟨ad307, e307, hx307_0, hx307_1, hx307_2⟩ := at_T30 (Kd.qi0 HO305.out).2.2 0 p307 q307
     obtain rfl : ad306 = ad307 := (by injection e307)
     have qi307 : (0 < t303.length) = True := eq_true (by omega)
     (try rw [show ((0 : Int)).toNat = 0 from rfl] at hx307_0)
     (try rw [show 0 * 3 = 0 from rfl] at hx307_0)
     (try rw [Addr.add_zero'] at hx307_0)
     (try rw [show ((0 : Int)).toNat = 0 from rfl] at hx307_1)
     (try rw [show 0 * 3 = 0 from rfl] at hx307_1)
     (try rw [Addr.add_zero'] at hx307_1)
     (try rw [show ((0 : Int)).toNat = 0 from rfl] at hx307_2)
     (try rw [show 0 * 3 = 0 from rfl] at hx307_2)
     (try rw [Addr.add_zero'] at hx307_2)
     replace p307 := eq_true p307
     replace q307 := eq_true q307
     have p308 : 0 ≤ (1 : Int) := (by omega)
     have q308 : 1 < (t303.length : Int) := of_decide_eq_true (by first | (with_reducible assumption) | assumption)
     obtain ⟨ad308, e308, hx308_0, hx308_1, hx308_2⟩ := at_T30 (Kd.qi0 HO305.out).2.2 1 p308 q308
     obtain rfl : ad306 = ad308 := (by injection e308)
     (try simp only [show (1 : Int).toNat = 1 from rfl, Nat.reduceMul, Nat.reduceEqDiff, Go.Addr.add, ↓reduceIte] at hx308_0)
     (try simp only [show (1 : Int).toNat = 1 from rfl, Nat.reduceMul, Nat.reduceEqDiff, Go.Addr.add, ↓reduceIte] at hx308_1)
     (try simp only [show (1 : Int).toNat = 1 from rfl, Nat.reduceMul, Nat.reduceEqDiff, Go.Addr.add, ↓reduceIte] at hx308_2)
     have qi308 : (1 < t303.length) = True := eq_true (by omega)
     (try rw [show ((1 : Int)).toNat = 1 from rfl] at hx308_0)
     (try rw [show 1 * 3 = 3 from rfl] at hx308_0)
     (try rw [show ((1 : Int)).toNat = 1 from rfl] at hx308_1)
     (try rw [show 1 * 3 = 3 from rfl] at hx308_1)
     (try rw [show ((1 : Int)).toNat = 1 from rfl] at hx308_2)
     (try rw [show 1 * 3 = 3 from rfl] at hx308_2)
     replace p308 := eq_true p308
     replace q308 := eq_true q308
     go_wp2
     go_meet
     case rel => exact ⟨_, ((((rd_T30 t303 1).f2) != 1)), (by first | rfl | (simp; done) | (simp [*]; done)), H', ⟨by first | omega | exact Nat.le_refl _⟩, ⟨by repeat (first | (with_reducible first | exact HB.out | apply qc0 | apply qa0 | apply qb0) | exact HB.out)⟩⟩
    rw [if_neg c16] at H
    have c16b0 : (((rd_T30 t303 0).f2) == 4) = false := beq_eq_false_iff_ne.mpr c16
    have c16b1 : (((rd_T30 t303 0).f2) != 4) = true := bne_iff_ne.mpr c16
    have H' := Aside0.mk H
    clear H
    obtain ⟨Ao19, co19, eo19⟩ := Kd.qw0 HO305.out
    subst eo19
    have p306 : 0 ≤ (0 : Int) := (by omega)
    have q306 : 0 < (t303.length : Int) := of_decide_eq_true (by first | (with_reducible assumption) | assumption)
    obtain ⟨ad306, e306, hx306_0, hx306_1, hx306_2⟩ := at_T30 (Kd.qi0 HO305.out).2.2 0 p306 q306
    cases e306
    have qi306 : (0 < t303.length) = True := eq_true (by omega)
    (try rw [show ((0 : Int)).toNat = 0 from rfl] at hx306_0)
    (try rw [show 0 * 3 = 0 from rfl] at hx306_0)
    (try rw [Addr.add_zero'] at hx306_0)
    (try rw [show ((0 : Int)).toNat = 0 from rfl] at hx306_1)
    (try rw [show 0 * 3 = 0 from rfl] at hx306_1)
    (try rw [Addr.add_zero'] at hx306_1)
    (try rw [show ((0 : Int)).toNat = 0 from rfl] at hx306_2)
    (try rw [show 0 * 3 = 0 from rfl] at hx306_2)
    (try rw [Addr.add_zero'] at hx306_2)
    replace p306 := eq_true p306
    replace q306 := eq_true q306
    have p307 : 0 ≤ (0 : Int) := (by omega)
    have q307 : 0 < (t303.length : Int) := of_decide_eq_true (by first | (with_reducible assumption) | assumption)
    obtain ⟨ad307, e307, hx307_0, hx307_1, hx307_2⟩ := at_T30 (Kd.qi0 HO305.out).2.2 0 p307 q307
    obtain rfl : ad306 = ad307 := (by injection e307)
    have qi307 : (0 < t303.length) = True := eq_true (by omega)
    (try rw [show ((0 : Int)).toNat = 0 from rfl] at hx307_0)
    (try rw [show 0 * 3 = 0 from rfl] at hx307_0)
    (try rw [Addr.add_zero'] at hx307_0)
    (try rw [show ((0 : Int)).toNat = 0 from rfl] at hx307_1)
    (try rw [show 0 * 3 = 0 from rfl] at hx307_1)
    (try rw [Addr.add_zero'] at hx307_1)
    (try rw [show ((0 : Int)).toNat = 0 from rfl] at hx307_2)
    (try rw [show 0 * 3 = 0 from rfl] at hx307_2)
    (try rw [Addr.add_zero'] at hx307_2)
    replace p307 := eq_true p307
    replace q307 := eq_true q307
    go_wp2
    go_meet
    case rel => exact ⟨_, (true), (by first | rfl | (simp; done) | (simp [*]; done)), H', ⟨by first | omega | exact Nat.le_refl _⟩, ⟨by repeat (first | (with_reducible first | exact HB.out | apply qc0 | apply qa0 | apply qb0) | exact HB.out)⟩⟩
   rw [if_neg c15] at H
   have c15b0 : (((rd_T30 t303 0).f1) == 1) = false := beq_eq_false_iff_ne.mpr c15
   have c15b1 : (((rd_T30 t303 0).f1) != 1) = true := bne_iff_ne.mpr c15
   have H' := Aside0.mk H
   clear H
   obtain ⟨Ao20, co20, eo20⟩ := Kd.qw0 HO305.out
   subst eo20
   have p306 : 0 ≤ (0 : Int) := (by omega)
   have q306 : 0 < (t303.length : Int) := of_decide_eq_true (by first | (with_reducible assumption) | assumption)
   obtain ⟨ad306, e306, hx306_0, hx306_1, hx306_2⟩ := at_T30 (Kd.qi0 HO305.out).2.2 0 p306 q306
   cases e306
   have qi306 : (0 < t303.length) = True := eq_true (by omega)
   (try rw [show ((0 : Int)).toNat = 0 from rfl] at hx306_0)
   (try rw [show 0 * 3 = 0 from rfl] at hx306_0)
   (try rw [Addr.add_zero'] at hx306_0)
   (try rw [show ((0 : Int)).toNat = 0 from rfl] at hx306_1)
   (try rw [show 0 * 3 = 0 from rfl] at hx306_1)
   (try rw [Addr.add_zero'] at hx306_1)
   (try rw [show ((0 : Int)).toNat = 0 from rfl] at hx306_2)
   (try rw [show 0 * 3 = 0 from rfl] at hx306_2)
   (try rw [Addr.add_zero'] at hx306_2)
   replace p306 := eq_true p306
   replace q306 := eq_true q306
   go_wp2
   go_meet
   case rel => exact ⟨_, (true), (by first | rfl | (simp; done) | (simp [*]; done)), H', ⟨by first | omega | exact Nat.le_refl _⟩, ⟨by repeat (first | (with_reducible first | exact HB.out | apply qc0 | apply qa0 | apply qb0) | exact HB.out)⟩⟩
  rw [if_neg c13] at H
  have c13b0 : ((t303.length : Int) == 2) = false := beq_eq_false_iff_ne.mpr c13
  have c13b1 : ((t303.length : Int) != 2) = true := bne_iff_ne.mpr c13
  (first | rw [c13b0] | (simp only [i64_w, i32_w]; rw [c13b0]) | skip)
  have H' := Aside0.mk H
  clear H
  obtain ⟨Ao21, co21, eo21⟩ := Kd.qw0 HO305.out
  subst eo21
  go_wp2
  go_meet
  case rel => exact ⟨_, (true), (by first | rfl | (simp; done) | (simp [*]; done)), H', ⟨by first | omega | exact Nat.le_refl _⟩, ⟨by repeat (first | (with_reducible first | exact HB.out | apply qc0 | apply qa0 | apply qb0) | exact HB.out)⟩⟩
 case rest => as_aux_lemma =>
  clear HC5
  try clear c1
  try clear c2
  try clear p2
  try clear c3
  try clear p3
  try clear q3
  try clear hx3
  try clear qi3
  try clear c13
  try clear c13b0
  try clear c13b1
  try clear c14
  try clear c14b0
  try clear c14b1
  try clear c15
  try clear c15b0
  try clear c15b1
  try clear c16
  try clear c16b0
  try clear c16b1
  try clear c17
  try clear c17b0
  try clear c17b1
  try clear hx306_0
  try clear hx306_1
  try clear hx306_2
  try clear hx307_0
  try clear hx307_1
  try clear hx307_2
  try clear hx308_0
  try clear hx308_1
  try clear hx308_2
  try clear p306
  try clear p307
  try clear p308
  try clear q306
  try clear q307
  try clear q308
  obtain ⟨kq, x45_4, rfl, HA, HJ4, HB⟩ := hcut
  cases kq with
  | zero => exact absurd HA.out (by simp [laws_FnSettled.j0])
  | succ kj4 =>
   have H := HA.out
   clear HA
   simp only [laws_FnSettled.j0] at H
   by_cases c22 : x45_4 = true
   ·subst c22
    have H1 : (some false) = some r := by rw [if_pos rfl] at H; exact H
    clear H
    have H := H1
    clear H1
    obtain rfl := Option.some.inj H
    go_wp2
    go_ret
    exact ⟨by first | rfl | (simp [errW_none, errW_some] <;> rfl) | (simp [*, errW_none, errW_some] <;> rfl), by repeat (first | (with_reducible first | exact HB.out | apply qc0 | apply qa0 | apply qb0) | exact HB.out)⟩
   replace c22 := Bool.eq_false_iff.mpr c22
   subst c22
   have H1 : ((spec_DrawSettle.f kj4 l0).bind fun bt309 => ((spec_Settle.f kj4 bt309.1 bt309.2).bind fun t315 => ((impl_Settle.f kj4 bt309.1 bt309.2).bind fun t318 => (if (t318.length : Int) = (t315.length : Int) then (if (t318.length : Int) = 0 then (some true) else (if 0 ≤ (bt309.1.length : Int) then (if ((bt309.1.length : Int) : Int).toNat ≤ 35184372088832 then (if 0 ≤ (bt309.2.length : Int) then (if ((bt309.2.length : Int) : Int).toNat ≤ 35184372088832 then (laws_FnSettled.l0 kj4 bt309.1 bt309.2 t318 (List.replicate ((bt309.1.length : Int) : Int).toNat 0) (List.replicate ((bt309.2.length : Int) : Int).toNat 0) 0) else (none)) else (none)) else (none)) else (none))) else (some false))))) = some r := by rw [if_neg (show ¬ (false = true) by decide)] at H; exact H
   clear H
   have H := H1
   clear H1
   replace H := Option.bind_eq_some_iff.mp H
   obtain ⟨⟨t309, t310⟩, A230, H⟩ := H
   replace H : ((spec_Settle.f kj4 t309 t310).bind fun t315 => ((impl_Settle.f kj4 t309 t310).bind fun t318 => (if (t318.length : Int) = (t315.length : Int) then (if (t318.length : Int) = 0 then (some true) else (if 0 ≤ (t309.length : Int) then (if ((t309.length : Int) : Int).toNat ≤ 35184372088832 then (if 0 ≤ (t310.length : Int) then (if ((t310.length : Int) : Int).toNat ≤ 35184372088832 then (laws_FnSettled.l0 kj4 t309 t310 t318 (List.replicate ((t309.length : Int) : Int).toNat 0) (List.replicate ((t310.length : Int) : Int).toNat 0) 0) else (none)) else (none)) else (none)) else (none))) else (some false)))) = some r := H
   have A23 := Aside0.mk A230
   clear A230
   replace H := Option.bind_eq_some_iff.mp H
   obtain ⟨t315, A240, H⟩ := H
   replace H : ((impl_Settle.f kj4 t309 t310).bind fun t318 => (if (t318.length : Int) = (t315.length : Int) then (if (t318.length : Int) = 0 then (some true) else (if 0 ≤ (t309.length : Int) then (if ((t309.length : Int) : Int).toNat ≤ 35184372088832 then (if 0 ≤ (t310.length : Int) then (if ((t310.length : Int) : Int).toNat ≤ 35184372088832 then (laws_FnSettled.l0 kj4 t309 t310 t318 (List.replicate ((t309.length : Int) : Int).toNat 0) (List.replicate ((t310.length : Int) : Int).toNat 0) 0) else (none)) else (none)) else (none)) else (none))) else (some false))) = some r := H
   have A24 := Aside0.mk A240
   clear A240
   replace H := Option.bind_eq_some_iff.mp H
   obtain ⟨t318, A250, H⟩ := H
   replace H : (if (t318.length : Int) = (t315.length : Int) then (if (t318.length : Int) = 0 then (some true) else (if 0 ≤ (t309.length : Int) then (if ((t309.length : Int) : Int).toNat ≤ 35184372088832 then (if 0 ≤ (t310.length : Int) then (if ((t310.length : Int) : Int).toNat ≤ 35184372088832 then (laws_FnSettled.l0 kj4 t309 t310 t318 (List.replicate ((t309.length : Int) : Int).toNat 0) (List.replicate ((t310.length : Int) : Int).toNat 0) 0) else (none)) else (none)) else (none)) else (none))) else (some false)) = some r := H
   have A25 := Aside0.mk A250
   clear A250
   by_cases c26 : (t318.length : Int) = (t315.length : Int)
   ·rw [if_pos c26] at H
    have c26b0 : ((t318.length : Int) == (t315.length : Int)) = true := beq_iff_eq.mpr c26
    have c26b1 : ((t318.length : Int) != (t315.length : Int)) = false := bne_eq_false_iff_eq.mpr c26
    have c26b2 : (t318.length == t315.length) = true := by first | simpa using c26 | (simp at c26 ⊢; omega)
    clear c26
    by_cases c27 : (t318.length : Int) = 0
    ·rw [if_pos c27] at H
     have c27b0 : ((t318.length : Int) == 0) = true := beq_iff_eq.mpr c27
     have c27b1 : ((t318.length : Int) != 0) = false := bne_eq_false_iff_eq.mpr c27
     clear c27
     obtain rfl := Option.some.inj H
     go_wp2_with (first | ((with_reducible refine qj0 (f := 17) rfl ?_); refine qz0 (some 48) rfl rfl Try.func17 (by kernel_rfl) rfl #[.slice A0 l0.length c0] rfl (by (try simp only [List.map_toArray, List.map_cons, List.map_nil]); first | done | rfl | (simp only [List.length_drop, List.length_take]; rfl)) ?_; (with_reducible refine (spec_DrawSettle.calls kj4 _ _ l0 t309 t310 _ ?side1 ?side2 A23.out).mono ?_); (case side1 => repeat (first | exact (Kd.C_below HR0.out HB.out) | (with_reducible refine Kd.qb1 ?_ _) | (with_reducible refine Kd.qa1 ?_ _) | (with_reducible refine Kd.qg1 ?_))); (case side2 => exact HC0.out); rintro e w28 ⟨v311, v313, rfl, ho0, ho1, hb⟩; refine ⟨_, rfl, ?_⟩; have n0_ := Aside0.mk (Kd.qe1 ho0 (ql0 (by repeat (first | (with_reducible first | exact HB.out | apply qc0 | apply qa0 | apply qb0) | exact HB.out)))); have n1_ := Aside0.mk (Kd.qe1 ho1 (ql0 (by repeat (first | (with_reducible first | exact HB.out | apply qc0 | apply qa0 | apply qb0) | exact HB.out)))); have n2_ := Aside0.mk (qq0 (by repeat (first | (with_reducible first | exact HB.out | apply qc0 | apply qa0 | apply qb0) | exact HB.out)) hb); clear HB; have HO312 := n0_; have HO314 := n1_; have HB := n2_; clear n0_ n1_ n2_; (try clear hb); (try clear hb2); (try clear hk); (try clear hi); (try clear ho0); (try clear ho1); obtain ⟨Ao29, co29, eo29⟩ := Kd.qw0 HO312.out; subst eo29; obtain ⟨Ao30, co30, eo30⟩ := Kd.qw0 HO314.out; subst eo30) | ((with_reducible refine qj0 (f := 18) rfl ?_); refine qz0 (some 53) rfl rfl Try.func18 (by kernel_rfl) rfl #[.slice Ao29 t309.length co29, .slice Ao30 t310.length co30] rfl (by (try simp only [List.map_toArray, List.map_cons, List.map_nil]); first | done | rfl | (simp only [List.length_drop, List.length_take]; rfl)) ?_; (with_reducible refine (spec_Settle.calls kj4 _ _ t309 _ _ t310 t315 _ ?side1 ?side2 ?side3 ?side4 A24.out).mono ?_); (case side1 => repeat (first | exact (Kd.qi0 HO312.out).2.2 | (with_reducible refine Kd.qb1 ?_ _) | (with_reducible refine Kd.qa1 ?_ _) | (with_reducible refine Kd.qg1 ?_))); (case side2 => exact (Kd.qi0 HO312.out).2.1); (case side3 => repeat (first | exact (Kd.qi0 HO314.out).2.2 | (with_reducible refine Kd.qb1 ?_ _) | (with_reducible refine Kd.qa1 ?_ _) | (with_reducible refine Kd.qg1 ?_))); (case side4 => exact (Kd.qi0 HO314.out).2.1); rintro e w31 ⟨v316, rfl, ho0, hb⟩; refine ⟨_, rfl, ?_⟩; have n0_ := Aside0.mk (Kd.qx0 (by (with_reducible repeat (first | apply Kd.qe0 | apply Kd.qd0 | apply Kd.qf0)); exact HO312.out) hb); have n1_ := Aside0.mk (Kd.qx0 (by (with_reducible repeat (first | apply Kd.qe0 | apply Kd.qd0 | apply Kd.qf0)); exact HO314.out) hb); have n2_ := Aside0.mk (Kd.qe1 ho0 (ql0 (by repeat (first | (with_reducible first | exact HB.out | apply qc0 | apply qa0 | apply qb0) | exact HB.out)))); have n3_ := Aside0.mk (qq0 (by repeat (first | (with_reducible first | exact HB.out | apply qc0 | apply qa0 | apply qb0) | exact HB.out)) hb); clear HO312; clear HO314; clear HB; have HO312 := n0_; have HO314 := n1_; have HO317 := n2_; have HB := n3_; clear n0_ n1_ n2_ n3_; (try clear hb); (try clear hb2); (try clear hk); (try clear hi); (try clear ho0)) | ((with_reducible refine qj0 (f := 16) rfl ?_); refine qz0 (some 56) rfl rfl Try.func16 (by kernel_rfl) rfl #[.slice Ao29 t309.length co29, .slice Ao30 t310.length co30] rfl (by (try simp only [List.map_toArray, List.map_cons, List.map_nil]); first | done | rfl | (simp only [List.length_drop, List.length_take]; rfl)) ?_; (with_reducible refine (impl_Settle.calls kj4 _ _ t309 _ _ t310 t318 _ ?side1 ?side2 ?side3 ?side4 A25.out).mono ?_); (case side1 => repeat (first | exact (Kd.qi0 HO312.out).2.2 | (with_reducible refine Kd.qb1 ?_ _) | (with_reducible refine Kd.qa1 ?_ _) | (with_reducible refine Kd.qg1 ?_))); (case side2 => exact (Kd.qi0 HO312.out).2.1); (case side3 => repeat (first | exact (Kd.qi0 HO314.out).2.2 | (with_reducible refine Kd.qb1 ?_ _) | (with_reducible refine Kd.qa1 ?_ _) | (with_reducible refine Kd.qg1 ?_))); (case side4 => exact (Kd.qi0 HO314.out).2.1); rintro e w32 ⟨v319, rfl, ho0, hb⟩; refine ⟨_, rfl, ?_⟩; have n0_ := Aside0.mk (Kd.qx0 (by (with_reducible repeat (first | apply Kd.qe0 | apply Kd.qd0 | apply Kd.qf0)); exact HO312.out) hb); have n1_ := Aside0.mk (Kd.qx0 (by (with_reducible repeat (first | apply Kd.qe0 | apply Kd.qd0 | apply Kd.qf0)); exact HO314.out) hb); have n2_ := Aside0.mk (Kd.R_elder' (by (with_reducible repeat (first | apply Kd.qe0 | apply Kd.qd0 | apply Kd.qf0)); exact HO317.out) (Kd.R_base ho0) hb); have n3_ := Aside0.mk (Kd.qe1 (Kd.R_new' ho0 (Kd.R_lt (by (with_reducible repeat (first | apply Kd.qe0 | apply Kd.qd0 | apply Kd.qf0)); exact HO317.out))) (ql0 (by repeat (first | (with_reducible first | exact HB.out | apply qc0 | apply qa0 | apply qb0) | exact HB.out)))); have n4_ := Aside0.mk (qq0 (by repeat (first | (with_reducible first | exact HB.out | apply qc0 | apply qa0 | apply qb0) | exact HB.out)) hb); clear HO312; clear HO314; clear HO317; clear HB; have HO312 := n0_; have HO314 := n1_; have HO317 := n2_; have HO320 := n3_; have HB := n4_; clear n0_ n1_ n2_ n3_ n4_; (try clear hb); (try clear hb2); (try clear hk); (try clear hi); (try clear ho0); obtain ⟨Ao33, co33, eo33⟩ := Kd.qw0 HO320.out; subst eo33; obtain ⟨Ao34, co34, eo34⟩ := Kd.qw0 HO317.out; subst eo34))
     go_ret
     exact ⟨by first | rfl | (simp [errW_none, errW_some] <;> rfl) | (simp [*, errW_none, errW_some] <;> rfl), by repeat (first | (with_reducible first | exact HB.out | apply qc0 | apply qa0 | apply qb0) | exact HB.out)⟩
    rw [if_neg c27] at H
    have c27b0 : ((t318.length : Int) == 0) = false := beq_eq_false_iff_ne.mpr c27
    have c27b1 : ((t318.length : Int) != 0) = true := bne_iff_ne.mpr c27
    have c27b2 : ¬ (t318 = []) := fun h_ => c27 (by rw [h_]; rfl)
    by_cases c35 : 0 ≤ (t309.length : Int)
    case neg => rw [if_neg c35] at H; exact absurd H (by simp)
    rw [if_pos c35] at H
    have c35b0 := eq_true c35
    have c35b1 : decide (0 ≤ (t309.length : Int)) = true := decide_eq_true c35
    clear c35
    by_cases c36 : ((t309.length : Int) : Int).toNat ≤ 35184372088832
    case neg => rw [if_neg c36] at H; exact absurd H (by simp)
    rw [if_pos c36] at H
    have c36b0 := eq_true c36
    have c36b1 : decide (((t309.length : Int) : Int).toNat ≤ 35184372088832) = true := decide_eq_true c36
    clear c36
    obtain ⟨y321, hy321⟩ : ∃ y_ : List Int, y_ = (List.replicate ((t309.length : Int) : Int).toNat 0) := ⟨_, rfl⟩
    replace H : (if 0 ≤ (t310.length : Int) then (if ((t310.length : Int) : Int).toNat ≤ 35184372088832 then (laws_FnSettled.l0 kj4 t309 t310 t318 y321 (List.replicate ((t310.length : Int) : Int).toNat 0) 0) else (none)) else (none)) = some r := by first | (rw [hy321]; with_reducible exact H) | (have H2_ := (Option.bind_some _ _).symm.trans H; rw [hy321]; with_reducible exact H2_) | (have H2_ := (Option.bind_some _ _).symm.trans H; with_reducible exact H2_) | with_reducible exact H | (rw [hy321]; exact H) | exact H
    have Ny321 := Aside0.mk hy321
    clear hy321
    by_cases c37 : 0 ≤ (t310.length : Int)
    case neg => rw [if_neg c37] at H; exact absurd H (by simp)
    rw [if_pos c37] at H
    have c37b0 := eq_true c37
    have c37b1 : decide (0 ≤ (t310.length : Int)) = true := decide_eq_true c37
    clear c37
    by_cases c38 : ((t310.length : Int) : Int).toNat ≤ 35184372088832
    case neg => rw [if_neg c38] at H; exact absurd H (by simp)
    rw [if_pos c38] at H
    have c38b0 := eq_true c38
    have c38b1 : decide (((t310.length : Int) : Int).toNat ≤ 35184372088832) = true := decide_eq_true c38
    clear c38
    obtain ⟨y324, hy324⟩ : ∃ y_ : List Int, y_ = (List.replicate ((t310.length : Int) : Int).toNat 0) := ⟨_, rfl⟩
    replace H : (laws_FnSettled.l0 kj4 t309 t310 t318 y321 y324 0) = some r := by first | (rw [hy324]; with_reducible exact H) | (have H2_ := (Option.bind_some _ _).symm.trans H; rw [hy324]; with_reducible exact H2_) | (have H2_ := (Option.bind_some _ _).symm.trans H; with_reducible exact H2_) | with_reducible exact H | (rw [hy324]; exact H) | exact H
    have Ny324 := Aside0.mk hy324
    clear hy324
    have H' := Aside0.mk H
    clear H
    go_wp2_with (first | ((with_reducible refine qj0 (f := 17) rfl ?_); refine qz0 (some 48) rfl rfl Try.func17 (by kernel_rfl) rfl #[.slice A0 l0.length c0] rfl (by (try simp only [List.map_toArray, List.map_cons, List.map_nil]); first | done | rfl | (simp only [List.length_drop, List.length_take]; rfl)) ?_; (with_reducible refine (spec_DrawSettle.calls kj4 _ _ l0 t309 t310 _ ?side1 ?side2 A23.out).mono ?_); (case side1 => repeat (first | exact (Kd.C_below HR0.out HB.out) | (with_reducible refine Kd.qb1 ?_ _) | (with_reducible refine Kd.qa1 ?_ _) | (with_reducible refine Kd.qg1 ?_))); (case side2 => exact HC0.out); rintro e w39 ⟨v311, v313, rfl, ho0, ho1, hb⟩; refine ⟨_, rfl, ?_⟩; have n0_ := Aside0.mk (Kd.qe1 ho0 (ql0 (by repeat (first | (with_reducible first | exact HB.out | apply qc0 | apply qa0 | apply qb0) | exact HB.out)))); have n1_ := Aside0.mk (Kd.qe1 ho1 (ql0 (by repeat (first | (with_reducible first | exact HB.out | apply qc0 | apply qa0 | apply qb0) | exact HB.out)))); have n2_ := Aside0.mk (qq0 (by repeat (first | (with_reducible first | exact HB.out | apply qc0 | apply qa0 | apply qb0) | exact HB.out)) hb); clear HB; have HO312 := n0_; have HO314 := n1_; have HB := n2_; clear n0_ n1_ n2_; (try clear hb); (try clear hb2); (try clear hk); (try clear hi); (try clear ho0); (try clear ho1); obtain ⟨Ao40, co40, eo40⟩ := Kd.qw0 HO312.out; subst eo40; obtain ⟨Ao41, co41, eo41⟩ := Kd.qw0 HO314.out; subst eo41) | ((with_reducible refine qj0 (f := 18) rfl ?_); refine qz0 (some 53) rfl rfl Try.func18 (by kernel_rfl) rfl #[.slice Ao40 t309.length co40, .slice Ao41 t310.length co41] rfl (by (try simp only [List.map_toArray, List.map_cons, List.map_nil]); first | done | rfl | (simp only [List.length_drop, List.length_take]; rfl)) ?_; (with_reducible refine (spec_Settle.calls kj4 _ _ t309 _ _ t310 t315 _ ?side1 ?side2 ?side3 ?side4 A24.out).mono ?_); (case side1 => repeat (first | exact (Kd.qi0 HO312.out).2.2 | (with_reducible refine Kd.qb1 ?_ _) | (with_reducible refine Kd.qa1 ?_ _) | (with_reducible refine Kd.qg1 ?_))); (case side2 => exact (Kd.qi0 HO312.out).2.1); (case side3 => repeat (first | exact (Kd.qi0 HO314.out).2.2 | (with_reducible refine Kd.qb1 ?_ _) | (with_reducible refine Kd.qa1 ?_ _) | (with_reducible refine Kd.qg1 ?_))); (case side4 => exact (Kd.qi0 HO314.out).2.1); rintro e w42 ⟨v316, rfl, ho0, hb⟩; refine ⟨_, rfl, ?_⟩; have n0_ := Aside0.mk (Kd.qx0 (by (with_reducible repeat (first | apply Kd.qe0 | apply Kd.qd0 | apply Kd.qf0)); exact HO312.out) hb); have n1_ := Aside0.mk (Kd.qx0 (by (with_reducible repeat (first | apply Kd.qe0 | apply Kd.qd0 | apply Kd.qf0)); exact HO314.out) hb); have n2_ := Aside0.mk (Kd.qe1 ho0 (ql0 (by repeat (first | (with_reducible first | exact HB.out | apply qc0 | apply qa0 | apply qb0) | exact HB.out)))); have n3_ := Aside0.mk (qq0 (by repeat (first | (with_reducible first | exact HB.out | apply qc0 | apply qa0 | apply qb0) | exact HB.out)) hb); clear HO312; clear HO314; clear HB; have HO312 := n0_; have HO314 := n1_; have HO317 := n2_; have HB := n3_; clear n0_ n1_ n2_ n3_; (try clear hb); (try clear hb2); (try clear hk); (try clear hi); (try clear ho0)) | ((with_reducible refine qj0 (f := 16) rfl ?_); refine qz0 (some 56) rfl rfl Try.func16 (by kernel_rfl) rfl #[.slice Ao40 t309.length co40, .slice Ao41 t310.length co41] rfl (by (try simp only [List.map_toArray, List.map_cons, List.map_nil]); first | done | rfl | (simp only [List.length_drop, List.length_take]; rfl)) ?_; (with_reducible refine (impl_Settle.calls kj4 _ _ t309 _ _ t310 t318 _ ?side1 ?side2 ?side3 ?side4 A25.out).mono ?_); (case side1 => repeat (first | exact (Kd.qi0 HO312.out).2.2 | (with_reducible refine Kd.qb1 ?_ _) | (with_reducible refine Kd.qa1 ?_ _) | (with_reducible refine Kd.qg1 ?_))); (case side2 => exact (Kd.qi0 HO312.out).2.1); (case side3 => repeat (first | exact (Kd.qi0 HO314.out).2.2 | (with_reducible refine Kd.qb1 ?_ _) | (with_reducible refine Kd.qa1 ?_ _) | (with_reducible refine Kd.qg1 ?_))); (case side4 => exact (Kd.qi0 HO314.out).2.1); rintro e w43 ⟨v319, rfl, ho0, hb⟩; refine ⟨_, rfl, ?_⟩; have n0_ := Aside0.mk (Kd.qx0 (by (with_reducible repeat (first | apply Kd.qe0 | apply Kd.qd0 | apply Kd.qf0)); exact HO312.out) hb); have n1_ := Aside0.mk (Kd.qx0 (by (with_reducible repeat (first | apply Kd.qe0 | apply Kd.qd0 | apply Kd.qf0)); exact HO314.out) hb); have n2_ := Aside0.mk (Kd.R_elder' (by (with_reducible repeat (first | apply Kd.qe0 | apply Kd.qd0 | apply Kd.qf0)); exact HO317.out) (Kd.R_base ho0) hb); have n3_ := Aside0.mk (Kd.qe1 (Kd.R_new' ho0 (Kd.R_lt (by (with_reducible repeat (first | apply Kd.qe0 | apply Kd.qd0 | apply Kd.qf0)); exact HO317.out))) (ql0 (by repeat (first | (with_reducible first | exact HB.out | apply qc0 | apply qa0 | apply qb0) | exact HB.out)))); have n4_ := Aside0.mk (qq0 (by repeat (first | (with_reducible first | exact HB.out | apply qc0 | apply qa0 | apply qb0) | exact HB.out)) hb); clear HO312; clear HO314; clear HO317; clear HB; have HO312 := n0_; have HO314 := n1_; have HO317 := n2_; have HO320 := n3_; have HB := n4_; clear n0_ n1_ n2_ n3_ n4_; (try clear hb); (try clear hb2); (try clear hk); (try clear hi); (try clear ho0); obtain ⟨Ao44, co44, eo44⟩ := Kd.qw0 HO320.out; subst eo44; obtain ⟨Ao45, co45, eo45⟩ := Kd.qw0 HO317.out; subst eo45) | ((with_reducible refine qi1 (N := 67) rfl ?_); (try (refine gate_guard (by rfl) ?_; dsimp only)); refine Kd.R_make (Kd.int .i64) _ 3 rfl (N := 67) rfl 33 _ _ rfl (t309.length : Int) rfl rfl Try.underlying33 (.int .i64 0) 8 info3 rfl (by decide) (by omega) 0 (ok := fun _ => True) (okp := fun _ => True) rfl (fun _ hk => hk) trivial (of_decide_eq_true (by first | (with_reducible assumption) | assumption)) (Nat.le_trans (Nat.mul_le_mul_right _ (of_decide_eq_true (by first | (with_reducible assumption) | assumption) : (t309.length : Int).toNat ≤ 35184372088832)) (by omega)) (Below.refl _ _) (Nat.le_refl _) ?_; intro v322 w46 ho47 hb hg_ hnew_; clear hg_ hnew_; (first | rw [← Ny321.out] at ho47 | (simp only [Int.reduceToNat] at ho47; rw [← Ny321.out] at ho47)); have n0_ := Aside0.mk (Kd.qx0 (by (with_reducible repeat (first | apply Kd.qe0 | apply Kd.qd0 | apply Kd.qf0)); exact HO312.out) hb); have n1_ := Aside0.mk (Kd.qx0 (by (with_reducible repeat (first | apply Kd.qe0 | apply Kd.qd0 | apply Kd.qf0)); exact HO314.out) hb); have n2_ := Aside0.mk (Kd.qx0 (by (with_reducible repeat (first | apply Kd.qe0 | apply Kd.qd0 | apply Kd.qf0)); exact HO317.out) hb); have n3_ := Aside0.mk (Kd.qx0 (by (with_reducible repeat (first | apply Kd.qe0 | apply Kd.qd0 | apply Kd.qf0)); exact HO320.out) hb); have n4_ := Aside0.mk (Kd.qe1 ho47 (ql0 (by repeat (first | (with_reducible first | exact HB.out | apply qc0 | apply qa0 | apply qb0) | exact HB.out)))); have n5_ := Aside0.mk (qq0 (by repeat (first | (with_reducible first | exact HB.out | apply qc0 | apply qa0 | apply qb0) | exact HB.out)) hb); clear HO312; clear HO314; clear HO317; clear HO320; clear HB; have HO312 := n0_; have HO314 := n1_; have HO317 := n2_; have HO320 := n3_; have HO323 := n4_; have HB := n5_; clear n0_ n1_ n2_ n3_ n4_ n5_; clear hb ho47) | ((with_reducible refine qi1 (N := 70) rfl ?_); (try (refine gate_guard (by rfl) ?_; dsimp only)); refine Kd.R_make (Kd.int .i64) _ 3 rfl (N := 70) rfl 33 _ _ rfl (t310.length : Int) rfl rfl Try.underlying33 (.int .i64 0) 8 info3 rfl (by decide) (by omega) 0 (ok := fun _ => True) (okp := fun _ => True) rfl (fun _ hk => hk) trivial (of_decide_eq_true (by first | (with_reducible assumption) | assumption)) (Nat.le_trans (Nat.mul_le_mul_right _ (of_decide_eq_true (by first | (with_reducible assumption) | assumption) : (t310.length : Int).toNat ≤ 35184372088832)) (by omega)) (Below.refl _ _) (Nat.le_refl _) ?_; intro v325 w48 ho49 hb hg_ hnew_; clear hg_ hnew_; (first | rw [← Ny324.out] at ho49 | (simp only [Int.reduceToNat] at ho49; rw [← Ny324.out] at ho49)); have n0_ := Aside0.mk (Kd.qx0 (by (with_reducible repeat (first | apply Kd.qe0 | apply Kd.qd0 | apply Kd.qf0)); exact HO312.out) hb); have n1_ := Aside0.mk (Kd.qx0 (by (with_reducible repeat (first | apply Kd.qe0 | apply Kd.qd0 | apply Kd.qf0)); exact HO314.out) hb); have n2_ := Aside0.mk (Kd.qx0 (by (with_reducible repeat (first | apply Kd.qe0 | apply Kd.qd0 | apply Kd.qf0)); exact HO317.out) hb); have n3_ := Aside0.mk (Kd.qx0 (by (with_reducible repeat (first | apply Kd.qe0 | apply Kd.qd0 | apply Kd.qf0)); exact HO320.out) hb); have n4_ := Aside0.mk (Kd.R_elder' (by (with_reducible repeat (first | apply Kd.qe0 | apply Kd.qd0 | apply Kd.qf0)); exact HO323.out) (Kd.R_base ho49) hb); have n5_ := Aside0.mk (Kd.qe1 (Kd.R_new' ho49 (Kd.R_lt (by (with_reducible repeat (first | apply Kd.qe0 | apply Kd.qd0 | apply Kd.qf0)); exact HO323.out))) (ql0 (by repeat (first | (with_reducible first | exact HB.out | apply qc0 | apply qa0 | apply qb0) | exact HB.out)))); have n6_ := Aside0.mk (qq0 (by repeat (first | (with_reducible first | exact HB.out | apply qc0 | apply qa0 | apply qb0) | exact HB.out)) hb); clear HO312; clear HO314; clear HO317; clear HO320; clear HO323; clear HB; have HO312 := n0_; have HO314 := n1_; have HO317 := n2_; have HO320 := n3_; have HO323 := n4_; have HO326 := n5_; have HB := n6_; clear n0_ n1_ n2_ n3_ n4_ n5_ n6_; clear hb ho49))
    go_loopg [10] kj4 (fun kq v10 w' => ∃ (x8_2 : List Int) (x10_2 : Int), v10 = .int .i64 x10_2 ∧ Aside0 (laws_FnSettled.l0 kq t309 t310 t318 x8_2 y324 x10_2 = some r) ∧ Aside0 (kq ≤ kj4) ∧ Aside0 (Kd.R k27 27 w' w.heap.size (fun k_ => some k_ ≠ ((.slice Ao41 t310.length co41) : Value).ownBlock) (.slice Ao40 t309.length co40) t309) ∧ Aside0 (Kd.R k27 27 w' w.heap.size (fun k_ => some k_ ≠ ((.slice Ao40 t309.length co40) : Value).ownBlock) (.slice Ao41 t310.length co41) t310) ∧ Aside0 (Kd.R k30 30 w' w.heap.size (fun _ => True) (.slice Ao44 t318.length co44) t318) ∧ Aside0 (Kd.R (Kd.int .i64) 3 w' w.heap.size (fun k_ => some k_ ≠ (v325 : Value).ownBlock) v322 x8_2) ∧ Aside0 (Kd.R (Kd.int .i64) 3 w' w.heap.size (fun k_ => some k_ ≠ (v322 : Value).ownBlock) v325 y324) ∧ Aside0 (Below w.heap.size w w'))
    case atStart => exact ⟨(y321), (0), (by first | rfl | (simp; done) | (simp [*]; done)), H', ⟨Nat.le_refl _⟩, ⟨by (with_reducible repeat (first | apply Kd.qe0 | apply Kd.qd0 | apply Kd.qf0)); exact HO312.out⟩, ⟨by (with_reducible repeat (first | apply Kd.qe0 | apply Kd.qd0 | apply Kd.qf0)); exact HO314.out⟩, ⟨by (with_reducible repeat (first | apply Kd.qe0 | apply Kd.qd0 | apply Kd.qf0)); exact Kd.qm0 HO320.out (fun _ hk => trivial)⟩, ⟨by (with_reducible repeat (first | apply Kd.qe0 | apply Kd.qd0 | apply Kd.qf0)); exact Kd.qm0 HO323.out (fun _ hk => hk.2)⟩, ⟨by (with_reducible repeat (first | apply Kd.qe0 | apply Kd.qd0 | apply Kd.qf0)); exact Kd.qm0 HO326.out (fun _ hk => hk.2)⟩, ⟨by repeat (first | (with_reducible first | exact HB.out | apply qc0 | apply qa0 | apply qb0) | exact HB.out)⟩⟩
    case round => as_aux_lemma =>
     clear H'
     try clear c1
     try clear c2
     try clear p2
     try clear c3
     try clear p3
     try clear q3
     try clear hx3
     try clear qi3
     try clear c13
     try clear c13b0
     try clear c13b1
     try clear c14
     try clear c14b0
     try clear c14b1
     try clear c15
     try clear c15b0
     try clear c15b1
     try clear c16
     try clear c16b0
     try clear c16b1
     try clear c17
     try clear c17b0
     try clear c17b1
     try clear c18
     try clear c22
     try clear c26
     try clear c26b0
     try clear c26b1
     try clear c26b2
     try clear c27
     try clear c27b0
     try clear c27b1
     try clear c27b2
     try clear p30
     try clear q30
     try clear hx30
     try clear qi30
     try clear c35
     try clear c35b0
     try clear c35b1
     try clear c36
     try clear c36b0
     try clear c36b1
     try clear c37
     try clear c37b0
     try clear c37b1
     try clear c38
     try clear c38b0
     try clear c38b1
     try clear hx306_0
     try clear hx306_1
     try clear hx306_2
     try clear hx307_0
     try clear hx307_1
     try clear hx307_2
     try clear hx308_0
     try clear hx308_1
     try clear hx308_2
     try clear p2
     try clear p3
     try clear p306
     try clear p307
     try clear p308
     try clear q3
     try clear q306
     try clear q307
     try clear q308
     obtain ⟨x8_2, x10_2, rfl, HA, HK2, HO_4, HO_5, HO_7, HO_8, HO_9, HB⟩ := hrel
     cases gk with
     | zero => exact absurd HA.out (by simp [laws_FnSettled.l0])
     | succ k2 =>
      have H := HA.out
      clear HA
      simp only [laws_FnSettled.l0] at H
      by_cases c50 : x10_2 < (t309.length : Int)
      ·rw [if_pos c50] at H
       have c50b0 : decide (x10_2 < (t309.length : Int)) = true := decide_eq_true c50
       clear c50
       by_cases c51 : 0 ≤ x10_2
       case neg => rw [if_neg c51] at H; exact absurd H (by simp)
       rw [if_pos c51] at H
       have c51b0 : decide (0 ≤ x10_2) = true := decide_eq_true c51
       clear c51
       by_cases c52 : x10_2 < (x8_2.length : Int)
       case neg => rw [if_neg c52] at H; exact absurd H (by simp)
       rw [if_pos c52] at H
       have c52b0 : decide (x10_2 < (x8_2.length : Int)) = true := decide_eq_true c52
       clear c52
       obtain ⟨y328, hy328⟩ : ∃ y_ : List Int, y_ = (x8_2.set (x10_2 : Int).toNat ((rd_T27 t309 x10_2).f1)) := ⟨_, rfl⟩
       replace H : (laws_FnSettled.l0 k2 t309 t310 t318 y328 y324 (wrap64 (x10_2 + 1))) = some r := by first | (rw [hy328]; with_reducible exact H) | (have H2_ := (Option.bind_some _ _).symm.trans H; rw [hy328]; with_reducible exact H2_) | (have H2_ := (Option.bind_some _ _).symm.trans H; with_reducible exact H2_) | with_reducible exact H | (rw [hy328]; exact H) | exact H
       have Ny328 := Aside0.mk hy328
       clear hy328
       have H' := Aside0.mk H
       clear H
       have p327 : 0 ≤ (x10_2 : Int) := of_decide_eq_true (by first | (with_reducible assumption) | assumption)
       have q327 : x10_2 < (t309.length : Int) := of_decide_eq_true (by first | (with_reducible assumption) | assumption)
       obtain ⟨ad327, e327, hx327_0, hx327_1⟩ := at_T27 (Kd.qi0 HO_4.out).2.2 x10_2 p327 q327
       cases e327
       replace p327 := eq_true p327
       replace q327 := eq_true q327
       have p53 : 0 ≤ (x10_2 : Int) := of_decide_eq_true (by first | (with_reducible assumption) | assumption)
       have q53 : (x10_2 : Int) < ((x8_2.length : Int) : Int) := of_decide_eq_true (by first | (with_reducible assumption) | assumption)
       obtain ⟨go53, co53, eo53, gb53, gl53, cl53, HG53⟩ := Kd.R_form HO_8.out (by omega)
       (first | cases eo53 | (injection eo53 with ea_ en_ ec_; (first | subst ea_ | (injection ea_ with ea_; subst ea_)); subst ec_; clear en_))
       have GB53 := Aside0.mk gb53
       have GG53 := Aside0.mk HG53
       clear gb53 gl53 HG53
       obtain ⟨hx53_0, hf53_0⟩ := Kd.R_celln 0 HO_8.out (x10_2 : Int) p53 q53
       replace p53 := eq_true p53
       replace q53 := eq_true q53
       have HP54 := Kd.R_putg HO_8.out (x10_2 : Int) ((rd_T27 t309 x10_2).f1)
       go_wp2_with (first | ((with_reducible refine gate_store (t := 3) (p := 84) rfl ?_); refine store_event (t := 3) (p := 84) (v := ?vo_w55) (w1 := (wr.setCell ⟨go53, (x10_2 : Int).toNat, none⟩ (.int .i64 ((rd_T27 t309 x10_2).f1)))) ?hg ?ho ?hn ?hr ?_; (case ho => rfl); (case hg => rfl); (case hn => rfl); (case hr => first | (go_simp; done) | (go_simp; rfl)); intro w55 hw; have hg : wr.grownBy w55 (some go53) := (by rw [hw]; exact HP54.2); have hp_ : Kd.R (Kd.int .i64) 3 w55 w.heap.size (fun k_ => some k_ ≠ (v325 : Value).ownBlock) (.slice (some ⟨go53, 0, none⟩) x8_2.length co53) y328 := (by rw [hw, Ny328.out]; exact HP54.1); clear HP54; have n0_ := Aside0.mk (Kd.ql1 (v := (.slice (some ⟨go53, 0, none⟩) x8_2.length co53)) (by (with_reducible repeat (first | apply Kd.qe0 | apply Kd.qd0 | apply Kd.qf0)); exact HO_4.out) (Kd.qk1 HO_8.out) (by decide) hg); have n1_ := Aside0.mk (Kd.ql1 (v := (.slice (some ⟨go53, 0, none⟩) x8_2.length co53)) (by (with_reducible repeat (first | apply Kd.qe0 | apply Kd.qd0 | apply Kd.qf0)); exact HO_5.out) (Kd.qk1 HO_8.out) (by decide) hg); have n2_ := Aside0.mk (Kd.ql1 (v := (.slice (some ⟨go53, 0, none⟩) x8_2.length co53)) (by (with_reducible repeat (first | apply Kd.qe0 | apply Kd.qd0 | apply Kd.qf0)); exact HO_7.out) (Kd.qk1 HO_8.out) (by decide) hg); have n3_ := Aside0.mk (hp_); have n4_ := Aside0.mk (Kd.qm1 (v := (.slice (some ⟨go53, 0, none⟩) x8_2.length co53)) (v1 := (.slice (some ⟨go53, 0, none⟩) x8_2.length co53)) (ok := (fun _ => True)) (by (with_reducible repeat (first | apply Kd.qe0 | apply Kd.qd0 | apply Kd.qf0)); exact Kd.qm0 HO_9.out (fun _ hk => ⟨trivial, hk⟩)) hg (.inl rfl)); have n5_ := Aside0.mk ((by rw [hw]; exact qh0 (HB.out) GB53.out : Below w.heap.size w w55)); clear HO_4; clear HO_5; clear HO_7; clear HO_8; clear HO_9; clear HB; have HO_4 := n0_; have HO_5 := n1_; have HO_7 := n2_; have HO_8 := n3_; have HO_9 := n4_; have HB := n5_; clear n0_ n1_ n2_ n3_ n4_ n5_; clear hg hw hp_))
       go_roundg k2
       case measure => have := HJ4.out; have := HK2.out; omega
       case rel => exact ⟨(y328), (wrap64 (x10_2 + 1)), (by first | rfl | (simp; done) | (simp [*]; done)), H', ⟨by have := HJ4.out; have := HK2.out; omega⟩, ⟨by (with_reducible repeat (first | apply Kd.qe0 | apply Kd.qd0 | apply Kd.qf0)); exact HO_4.out⟩, ⟨by (with_reducible repeat (first | apply Kd.qe0 | apply Kd.qd0 | apply Kd.qf0)); exact HO_5.out⟩, ⟨by (with_reducible repeat (first | apply Kd.qe0 | apply Kd.qd0 | apply Kd.qf0)); exact HO_7.out⟩, ⟨by (with_reducible repeat (first | apply Kd.qe0 | apply Kd.qd0 | apply Kd.qf0)); exact HO_8.out⟩, ⟨by (with_reducible repeat (first | apply Kd.qe0 | apply Kd.qd0 | apply Kd.qf0)); exact Kd.qm0 HO_9.out (fun _ hk => hk.2)⟩, ⟨by repeat (first | (with_reducible first | exact HB.out | apply qc0 | apply qa0 | apply qb0) | exact HB.out)⟩⟩
      rw [if_neg c50] at H
      have c50b0 : decide (x10_2 < (t309.length : Int)) = false := decide_eq_false c50
      clear c50
      have H' := Aside0.mk H
      clear H
      go_wp2
      go_loopg [11] k2 (fun kq v11 w' => ∃ (x9_3 : List Int) (x11_3 : Int), v11 = .int .i64 x11_3 ∧ Aside0 (laws_FnSettled.l1 kq t309 t310 t318 x8_2 x9_3 x11_3 = some r) ∧ Aside0 (kq ≤ k2) ∧ Aside0 (Kd.R k27 27 w' w.heap.size (fun k_ => some k_ ≠ ((.slice Ao41 t310.length co41) : Value).ownBlock) (.slice Ao40 t309.length co40) t309) ∧ Aside0 (Kd.R k27 27 w' w.heap.size (fun k_ => some k_ ≠ ((.slice Ao40 t309.length co40) : Value).ownBlock) (.slice Ao41 t310.length co41) t310) ∧ Aside0 (Kd.R k30 30 w' w.heap.size (fun _ => True) (.slice Ao44 t318.length co44) t318) ∧ Aside0 (Kd.R (Kd.int .i64) 3 w' w.heap.size (fun k_ => some k_ ≠ (v325 : Value).ownBlock) v322 x8_2) ∧ Aside0 (Kd.R (Kd.int .i64) 3 w' w.heap.size (fun k_ => some k_ ≠ (v322 : Value).ownBlock) v325 x9_3) ∧ Aside0 (Below w.heap.size w w'))
      case atStart => exact ⟨(y324), (0), (by first | rfl | (simp; done) | (simp [*]; done)), H', ⟨Nat.le_refl _⟩, ⟨by (with_reducible repeat (first | apply Kd.qe0 | apply Kd.qd0 | apply Kd.qf0)); exact HO_4.out⟩, ⟨by (with_reducible repeat (first | apply Kd.qe0 | apply Kd.qd0 | apply Kd.qf0)); exact HO_5.out⟩, ⟨by (with_reducible repeat (first | apply Kd.qe0 | apply Kd.qd0 | apply Kd.qf0)); exact HO_7.out⟩, ⟨by (with_reducible repeat (first | apply Kd.qe0 | apply Kd.qd0 | apply Kd.qf0)); exact HO_8.out⟩, ⟨by (with_reducible repeat (first | apply Kd.qe0 | apply Kd.qd0 | apply Kd.qf0)); exact HO_9.out⟩, ⟨by repeat (first | (with_reducible first | exact HB.out | apply qc0 | apply qa0 | apply qb0) | exact HB.out)⟩⟩
      case round => as_aux_lemma =>
       clear H'
       try clear c1
       try clear c2
       try clear p2
       try clear c3
       try clear p3
       try clear q3
       try clear hx3
       try clear qi3
       try clear c5
       try clear p5
       try clear q5
       try clear hx5
       try clear hf5
       try clear p6
       try clear c13
       try clear c13b0
       try clear c13b1
       try clear c14
       try clear c14b0
       try clear c14b1
       try clear c15
       try clear c15b0
       try clear c15b1
       try clear c16
       try clear c16b0
       try clear c16b1
       try clear c17
       try clear c17b0
       try clear c17b1
       try clear c18
       try clear c22
       try clear c26
       try clear c26b0
       try clear c26b1
       try clear c26b2
       try clear c27
       try clear c27b0
       try clear c27b1
       try clear c27b2
       try clear p30
       try clear q30
       try clear hx30
       try clear qi30
       try clear p32
       try clear q32
       try clear hx32
       try clear c35
       try clear c35b0
       try clear c35b1
       try clear c36
       try clear c36b0
       try clear c36b1
       try clear c37
       try clear c37b0
       try clear c37b1
       try clear c38
       try clear c38b0
       try clear c38b1
       try clear c50
       try clear c50b0
       try clear c51
       try clear c51b0
       try clear c52
       try clear c52b0
       try clear p53
       try clear q53
       try clear hx53
       try clear hf53
       try clear hx306_0
       try clear hx306_1
       try clear hx306_2
       try clear hx307_0
       try clear hx307_1
       try clear hx307_2
       try clear hx308_0
       try clear hx308_1
       try clear hx308_2
       try clear hx327_0
       try clear hx327_1
       try clear hx53_0
       try clear p2
       try clear p3
       try clear p30
       try clear p306
       try clear p307
       try clear p308
       try clear p327
       try clear p53
       try clear q3
       try clear q30
       try clear q306
       try clear q307
       try clear q308
       try clear q327
       try clear q53
       obtain ⟨x9_3, x11_3, rfl, HA, HK3, HO_4, HO_5, HO_7, HO_8, HO_9, HB⟩ := hrel
       cases gk with
       | zero => exact absurd HA.out (by simp [laws_FnSettled.l1])
       | succ k3 =>
        have H := HA.out
        clear HA
        simp only [laws_FnSettled.l1] at H
        by_cases c56 : x11_3 < (t310.length : Int)
        ·rw [if_pos c56] at H
         have c56b0 : decide (x11_3 < (t310.length : Int)) = true := decide_eq_true c56
         clear c56
         by_cases c57 : 0 ≤ x11_3
         case neg => rw [if_neg c57] at H; exact absurd H (by simp)
         rw [if_pos c57] at H
         have c57b0 : decide (0 ≤ x11_3) = true := decide_eq_true c57
         clear c57
         by_cases c58 : x11_3 < (x9_3.length : Int)
         case neg => rw [if_neg c58] at H; exact absurd H (by simp)
         rw [if_pos c58] at H
         have c58b0 : decide (x11_3 < (x9_3.length : Int)) = true := decide_eq_true c58
         clear c58
         obtain ⟨y330, hy330⟩ : ∃ y_ : List Int, y_ = (x9_3.set (x11_3 : Int).toNat ((rd_T27 t310 x11_3).f1)) := ⟨_, rfl⟩
         replace H : (laws_FnSettled.l1 k3 t309 t310 t318 x8_2 y330 (wrap64 (x11_3 + 1))) = some r := by first | (rw [hy330]; with_reducible exact H) | (have H2_ := (Option.bind_some _ _).symm.trans H; rw [hy330]; with_reducible exact H2_) | (have H2_ := (Option.bind_some _ _).symm.trans H; with_reducible exact H2_) | with_reducible exact H | (rw [hy330]; exact H) | exact H
         have Ny330 := Aside0.mk hy330
         clear hy330
         have H' := Aside0.mk H
         clear H
         have p329 : 0 ≤ (x11_3 : Int) := of_decide_eq_true (by first | (with_reducible assumption) | assumption)
         have q329 : x11_3 < (t310.length : Int) := of_decide_eq_true (by first | (with_reducible assumption) | assumption)
         obtain ⟨ad329, e329, hx329_0, hx329_1⟩ := at_T27 (Kd.qi0 HO_5.out).2.2 x11_3 p329 q329
         cases e329
         replace p329 := eq_true p329
         replace q329 := eq_true q329
         have p59 : 0 ≤ (x11_3 : Int) := of_decide_eq_true (by first | (with_reducible assumption) | assumption)
         have q59 : (x11_3 : Int) < ((x9_3.length : Int) : Int) := of_decide_eq_true (by first | (with_reducible assumption) | assumption)
         obtain ⟨go59, co59, eo59, gb59, gl59, cl59, HG59⟩ := Kd.R_form HO_9.out (by omega)
         (first | cases eo59 | (injection eo59 with ea_ en_ ec_; (first | subst ea_ | (injection ea_ with ea_; subst ea_)); subst ec_; clear en_))
         have GB59 := Aside0.mk gb59
         have GG59 := Aside0.mk HG59
         clear gb59 gl59 HG59
         obtain ⟨hx59_0, hf59_0⟩ := Kd.R_celln 0 HO_9.out (x11_3 : Int) p59 q59
         replace p59 := eq_true p59
         replace q59 := eq_true q59
         have HP60 := Kd.R_putg HO_9.out (x11_3 : Int) ((rd_T27 t310 x11_3).f1)
         go_wp2_with (first | ((with_reducible refine gate_store (t := 3) (p := 98) rfl ?_); refine store_event (t := 3) (p := 98) (v := ?vo_w61) (w1 := (wr.setCell ⟨go59, (x11_3 : Int).toNat, none⟩ (.int .i64 ((rd_T27 t310 x11_3).f1)))) ?hg ?ho ?hn ?hr ?_; (case ho => rfl); (case hg => rfl); (case hn => rfl); (case hr => first | (go_simp; done) | (go_simp; rfl)); intro w61 hw; have hg : wr.grownBy w61 (some go59) := (by rw [hw]; exact HP60.2); have hp_ : Kd.R (Kd.int .i64) 3 w61 w.heap.size (fun k_ => some k_ ≠ (v322 : Value).ownBlock) (.slice (some ⟨go59, 0, none⟩) x9_3.length co59) y330 := (by rw [hw, Ny330.out]; exact HP60.1); clear HP60; have n0_ := Aside0.mk (Kd.ql1 (v := (.slice (some ⟨go59, 0, none⟩) x9_3.length co59)) (by (with_reducible repeat (first | apply Kd.qe0 | apply Kd.qd0 | apply Kd.qf0)); exact HO_4.out) (Kd.qk1 HO_9.out) (by decide) hg); have n1_ := Aside0.mk (Kd.ql1 (v := (.slice (some ⟨go59, 0, none⟩) x9_3.length co59)) (by (with_reducible repeat (first | apply Kd.qe0 | apply Kd.qd0 | apply Kd.qf0)); exact HO_5.out) (Kd.qk1 HO_9.out) (by decide) hg); have n2_ := Aside0.mk (Kd.ql1 (v := (.slice (some ⟨go59, 0, none⟩) x9_3.length co59)) (by (with_reducible repeat (first | apply Kd.qe0 | apply Kd.qd0 | apply Kd.qf0)); exact HO_7.out) (Kd.qk1 HO_9.out) (by decide) hg); have n3_ := Aside0.mk (Kd.qm1 (v := (.slice (some ⟨go59, 0, none⟩) x9_3.length co59)) (v1 := (.slice (some ⟨go59, 0, none⟩) x9_3.length co59)) (ok := (fun _ => True)) (by (with_reducible repeat (first | apply Kd.qe0 | apply Kd.qd0 | apply Kd.qf0)); exact Kd.qm0 HO_8.out (fun _ hk => ⟨trivial, hk⟩)) hg (.inl rfl)); have n4_ := Aside0.mk (hp_); have n5_ := Aside0.mk ((by rw [hw]; exact qh0 (HB.out) GB59.out : Below w.heap.size w w61)); clear HO_4; clear HO_5; clear HO_7; clear HO_8; clear HO_9; clear HB; have HO_4 := n0_; have HO_5 := n1_; have HO_7 := n2_; have HO_8 := n3_; have HO_9 := n4_; have HB := n5_; clear n0_ n1_ n2_ n3_ n4_ n5_; clear hg hw hp_))
         go_roundg k3
         case measure => have := HJ4.out; have := HK2.out; have := HK3.out; omega
         case rel => exact ⟨(y330), (wrap64 (x11_3 + 1)), (by first | rfl | (simp; done) | (simp [*]; done)), H', ⟨by have := HJ4.out; have := HK2.out; have := HK3.out; omega⟩, ⟨by (with_reducible repeat (first | apply Kd.qe0 | apply Kd.qd0 | apply Kd.qf0)); exact HO_4.out⟩, ⟨by (with_reducible repeat (first | apply Kd.qe0 | apply Kd.qd0 | apply Kd.qf0)); exact HO_5.out⟩, ⟨by (with_reducible repeat (first | apply Kd.qe0 | apply Kd.qd0 | apply Kd.qf0)); exact HO_7.out⟩, ⟨by (with_reducible repeat (first | apply Kd.qe0 | apply Kd.qd0 | apply Kd.qf0)); exact Kd.qm0 HO_8.out (fun _ hk => hk.2)⟩, ⟨by (with_reducible repeat (first | apply Kd.qe0 | apply Kd.qd0 | apply Kd.qf0)); exact HO_9.out⟩, ⟨by repeat (first | (with_reducible first | exact HB.out | apply qc0 | apply qa0 | apply qb0) | exact HB.out)⟩⟩
        rw [if_neg c56] at H
        have c56b0 : decide (x11_3 < (t310.length : Int)) = false := decide_eq_false c56
        clear c56
        have H' := Aside0.mk H
        clear H
        go_wp2
        go_loopg [12] k3 (fun kq v12 w' => ∃ (x8_4 : List Int) (x9_4 : List Int) (x12_4 : Int), v12 = .int .i64 x12_4 ∧ Aside0 (laws_FnSettled.l2 kq t309 t310 t318 x8_4 x9_4 x12_4 = some r) ∧ Aside0 (kq ≤ k3) ∧ Aside0 (Kd.R k27 27 w' w.heap.size (fun k_ => some k_ ≠ ((.slice Ao41 t310.length co41) : Value).ownBlock) (.slice Ao40 t309.length co40) t309) ∧ Aside0 (Kd.R k27 27 w' w.heap.size (fun k_ => some k_ ≠ ((.slice Ao40 t309.length co40) : Value).ownBlock) (.slice Ao41 t310.length co41) t310) ∧ Aside0 (Kd.R k30 30 w' w.heap.size (fun _ => True) (.slice Ao44 t318.length co44) t318) ∧ Aside0 (Kd.R (Kd.int .i64) 3 w' w.heap.size (fun k_ => some k_ ≠ (v325 : Value).ownBlock) v322 x8_4) ∧ Aside0 (Kd.R (Kd.int .i64) 3 w' w.heap.size (fun k_ => some k_ ≠ (v322 : Value).ownBlock) v325 x9_4) ∧ Aside0 (Below w.heap.size w w'))
        case atStart => exact ⟨(x8_2), (x9_3), (0), (by first | rfl | (simp; done) | (simp [*]; done)), H', ⟨Nat.le_refl _⟩, ⟨by (with_reducible repeat (first | apply Kd.qe0 | apply Kd.qd0 | apply Kd.qf0)); exact HO_4.out⟩, ⟨by (with_reducible repeat (first | apply Kd.qe0 | apply Kd.qd0 | apply Kd.qf0)); exact HO_5.out⟩, ⟨by (with_reducible repeat (first | apply Kd.qe0 | apply Kd.qd0 | apply Kd.qf0)); exact HO_7.out⟩, ⟨by (with_reducible repeat (first | apply Kd.qe0 | apply Kd.qd0 | apply Kd.qf0)); exact HO_8.out⟩, ⟨by (with_reducible repeat (first | apply Kd.qe0 | apply Kd.qd0 | apply Kd.qf0)); exact HO_9.out⟩, ⟨by repeat (first | (with_reducible first | exact HB.out | apply qc0 | apply qa0 | apply qb0) | exact HB.out)⟩⟩
        case round => as_aux_lemma =>
         clear H'
         try clear c1
         try clear c2
         try clear p2
         try clear c3
         try clear p3
         try clear q3
         try clear hx3
         try clear qi3
         try clear c5
         try clear p5
         try clear q5
         try clear hx5
         try clear hf5
         try clear p6
         try clear c13
         try clear c13b0
         try clear c13b1
         try clear c14
         try clear c14b0
         try clear c14b1
         try clear c15
         try clear c15b0
         try clear c15b1
         try clear c16
         try clear c16b0
         try clear c16b1
         try clear c17
         try clear c17b0
         try clear c17b1
         try clear c18
         try clear c22
         try clear c26
         try clear c26b0
         try clear c26b1
         try clear c26b2
         try clear c27
         try clear c27b0
         try clear c27b1
         try clear c27b2
         try clear p30
         try clear q30
         try clear hx30
         try clear qi30
         try clear p32
         try clear q32
         try clear hx32
         try clear c35
         try clear c35b0
         try clear c35b1
         try clear c36
         try clear c36b0
         try clear c36b1
         try clear c37
         try clear c37b0
         try clear c37b1
         try clear c38
         try clear c38b0
         try clear c38b1
         try clear c50
         try clear c50b0
         try clear c51
         try clear c51b0
         try clear c52
         try clear c52b0
         try clear p53
         try clear q53
         try clear hx53
         try clear hf53
         try clear c56
         try clear c56b0
         try clear c57
         try clear c57b0
         try clear c58
         try clear c58b0
         try clear p59
         try clear q59
         try clear hx59
         try clear hf59
         try clear hx306_0
         try clear hx306_1
         try clear hx306_2
         try clear hx307_0
         try clear hx307_1
         try clear hx307_2
         try clear hx308_0
         try clear hx308_1
         try clear hx308_2
         try clear hx327_0
         try clear hx327_1
         try clear hx329_0
         try clear hx329_1
         try clear hx53_0
         try clear hx59_0
         try clear p2
         try clear p3
         try clear p30
         try clear p306
         try clear p307
         try clear p308
         try clear p32
         try clear p327
         try clear p329
         try clear p5
         try clear p53
         try clear p59
         try clear p6
         try clear q3
         try clear q30
         try clear q306
         try clear q307
         try clear q308
         try clear q32
         try clear q327
         try clear q329
         try clear q5
         try clear q53
         try clear q59
         obtain ⟨x8_4, x9_4, x12_4, rfl, HA, HK4, HO_4, HO_5, HO_7, HO_8, HO_9, HB⟩ := hrel
         cases gk with
         | zero => exact absurd HA.out (by simp [laws_FnSettled.l2])
         | succ k4 =>
          have H := HA.out
          clear HA
          simp only [laws_FnSettled.l2] at H
          by_cases c62 : x12_4 < (t318.length : Int)
          ·rw [if_pos c62] at H
           have c62b0 : decide (x12_4 < (t318.length : Int)) = true := decide_eq_true c62
           clear c62
           by_cases c63 : 0 ≤ x12_4
           case neg => rw [if_neg c63] at H; exact absurd H (by simp)
           rw [if_pos c63] at H
           have c63b0 : decide (0 ≤ x12_4) = true := decide_eq_true c63
           clear c63
           have HC64 := Aside0.mk H
           clear H
           have p331 : 0 ≤ (x12_4 : Int) := of_decide_eq_true (by first | (with_reducible assumption) | assumption)
           have q331 : x12_4 < (t318.length : Int) := of_decide_eq_true (by first | (with_reducible assumption) | assumption)
           obtain ⟨ad331, e331, hx331_0, hx331_1, hx331_2⟩ := at_T30 (Kd.qi0 HO_7.out).2.2 x12_4 p331 q331
           cases e331
           replace p331 := eq_true p331
           replace q331 := eq_true q331
           go_upto_region 27 with (first | ((with_reducible refine qi1 (N := 13) rfl ?_); (try (refine gate_guard (by rfl) ?_; dsimp only)); refine box_event ?hg (N := 13) ?hd (cs := #[.int .i64 0, .int .i64 0, .int .i64 0]) (t := 30) ?hr ?_; (case hd => rfl); (case hg => rfl); (case hr => first | (go_simp; done) | (go_simp; rfl)); intro gb332 hg w65 hbox hb; have n0_ := Aside0.mk (Kd.qx0 (by (with_reducible repeat (first | apply Kd.qe0 | apply Kd.qd0 | apply Kd.qf0)); exact HO_4.out) hb); have n1_ := Aside0.mk (Kd.qx0 (by (with_reducible repeat (first | apply Kd.qe0 | apply Kd.qd0 | apply Kd.qf0)); exact HO_5.out) hb); have n2_ := Aside0.mk (Kd.qx0 (Kd.R_elderB (by (with_reducible repeat (first | apply Kd.qe0 | apply Kd.qd0 | apply Kd.qf0)); exact HO_7.out) gb332 (Nat.le_of_eq hg.symm)) hb); have n3_ := Aside0.mk (Kd.qx0 (by (with_reducible repeat (first | apply Kd.qe0 | apply Kd.qd0 | apply Kd.qf0)); exact HO_8.out) hb); have n4_ := Aside0.mk (Kd.qx0 (by (with_reducible repeat (first | apply Kd.qe0 | apply Kd.qd0 | apply Kd.qf0)); exact HO_9.out) hb); have n5_ := Aside0.mk (qq0 (by repeat (first | (with_reducible first | exact HB.out | apply qc0 | apply qa0 | apply qb0) | exact HB.out)) hb); have n6_ := Aside0.mk (hbox); have n7_ := Aside0.mk ((by rw [hg]; exact (ql0 (by repeat (first | (with_reducible first | exact HB.out | apply qc0 | apply qa0 | apply qb0) | exact HB.out))) : w.heap.size ≤ gb332)); have n8_ := Aside0.mk ((by rw [hg]; exact (ql0 (by repeat (first | (with_reducible first | exact HB.out | apply qc0 | apply qa0 | apply qb0) | exact HB.out))) : w.heap.size ≤ gb332)); clear HO_4; clear HO_5; clear HO_7; clear HO_8; clear HO_9; clear HB; have HO_4 := n0_; have HO_5 := n1_; have HO_7 := n2_; have HO_8 := n3_; have HO_9 := n4_; have HB := n5_; have BK332 := n6_; have GW332 := n7_; have GE332 := n8_; clear n0_ n1_ n2_ n3_ n4_ n5_ n6_ n7_ n8_; clear hb hbox hg; have hcz66_0 : w65.cell? ⟨gb332, 0, none⟩ = some (.int .i64 0) := (qu0 BK332.out 0).trans rfl; have hcz66_1 : w65.cell? ⟨gb332, 1, none⟩ = some (.int .i64 0) := (qu0 BK332.out 1).trans rfl; have hcz66_2 : w65.cell? ⟨gb332, 2, none⟩ = some (.int .i64 0) := (qu0 BK332.out 2).trans rfl; have hfz66_0 := qt0 BK332.out 0; have hfz66_1 := qt0 BK332.out 1; have hfz66_2 := qt0 BK332.out 2))
           (try simp only [Act.put, List.setIfInBounds_toArray, List.set_cons_zero, List.set_cons_succ])
           go_cut [135] (fun v135 wc => ∃ (kq : Nat) (x135_63 : Bool), v135 = .bool x135_63 ∧ Aside0 (laws_FnSettled.j4 kq t309 t310 t318 x8_4 x9_4 x12_4 x135_63 ((rd_T30 t318 x12_4).f0) ((rd_T30 t318 x12_4).f1) ((rd_T30 t318 x12_4).f2) = some r) ∧ Aside0 (kq ≤ k4) ∧ Aside0 (Kd.R k27 27 wc w.heap.size (fun k_ => some k_ ≠ ((.slice Ao41 t310.length co41) : Value).ownBlock) (.slice Ao40 t309.length co40) t309) ∧ Aside0 (Kd.R k27 27 wc w.heap.size (fun k_ => some k_ ≠ ((.slice Ao40 t309.length co40) : Value).ownBlock) (.slice Ao41 t310.length co41) t310) ∧ Aside0 (Kd.R k30 30 wc w.heap.size (fun k_ => k_ ≠ gb332) (.slice (some ad331) t318.length co44) t318) ∧ Aside0 (Kd.R (Kd.int .i64) 3 wc w.heap.size (fun k_ => some k_ ≠ (v325 : Value).ownBlock) v322 x8_4) ∧ Aside0 (Kd.R (Kd.int .i64) 3 wc w.heap.size (fun k_ => some k_ ≠ (v322 : Value).ownBlock) v325 x9_4) ∧ Aside0 (wc.heap[gb332]? = some (.cells #[.int .i64 ((rd_T30 t318 x12_4).f0), .int .i64 ((rd_T30 t318 x12_4).f1), .int .i64 ((rd_T30 t318 x12_4).f2)] 30 (0, 0))) ∧ Aside0 (Below w.heap.size w wc))
           case first => as_aux_lemma =>
            have H := HC64.out
            clear HC64
            by_cases c67 : ((rd_T30 t318 x12_4).f0) < 0
            ·rw [if_pos c67] at H
             have c67b0 : decide (((rd_T30 t318 x12_4).f0) < 0) = true := decide_eq_true c67
             clear c67
             (first | rw [c67b0] | (simp only [i64_w, i32_w]; rw [c67b0]) | skip)
             have H' := Aside0.mk H
             clear H
             have hcz68_0 : w65.cell? ⟨gb332, 0, none⟩ = some (.int .i64 0) := (qu0 BK332.out 0).trans rfl
             have hcz68_1 : w65.cell? ⟨gb332, 1, none⟩ = some (.int .i64 0) := (qu0 BK332.out 1).trans rfl
             have hcz68_2 : w65.cell? ⟨gb332, 2, none⟩ = some (.int .i64 0) := (qu0 BK332.out 2).trans rfl
             have hfz68_0 := qt0 BK332.out 0
             have hfz68_1 := qt0 BK332.out 1
             have hfz68_2 := qt0 BK332.out 2
             go_wp2
             go_meet
             case rel => exact ⟨_, (true), (by first | rfl | (simp; done) | (simp [*]; done)), H', ⟨by have := HJ4.out; have := HK2.out; have := HK3.out; have := HK4.out; first | omega | exact Nat.le_refl _⟩, ⟨by (with_reducible repeat (first | apply Kd.qe0 | apply Kd.qd0 | apply Kd.qf0)); exact Kd.qm0 (Kd.R_far (p := ⟨gb332, 2, none⟩) (Kd.R_far (p := ⟨gb332, 1, none⟩) (Kd.R_far (p := ⟨gb332, 0, none⟩) (Kd.qf1 HO_4.out BK332.out (by decide)) (fun _ hk => hk.2) (.int .i64 ((rd_T30 t318 x12_4).f0))) (fun _ hk => hk.2) (.int .i64 ((rd_T30 t318 x12_4).f1))) (fun _ hk => hk.2) (.int .i64 ((rd_T30 t318 x12_4).f2))) (fun _ hk => hk.1)⟩, ⟨by (with_reducible repeat (first | apply Kd.qe0 | apply Kd.qd0 | apply Kd.qf0)); exact Kd.qm0 (Kd.R_far (p := ⟨gb332, 2, none⟩) (Kd.R_far (p := ⟨gb332, 1, none⟩) (Kd.R_far (p := ⟨gb332, 0, none⟩) (Kd.qf1 HO_5.out BK332.out (by decide)) (fun _ hk => hk.2) (.int .i64 ((rd_T30 t318 x12_4).f0))) (fun _ hk => hk.2) (.int .i64 ((rd_T30 t318 x12_4).f1))) (fun _ hk => hk.2) (.int .i64 ((rd_T30 t318 x12_4).f2))) (fun _ hk => hk.1)⟩, ⟨by (with_reducible repeat (first | apply Kd.qe0 | apply Kd.qd0 | apply Kd.qf0)); exact Kd.qm0 (Kd.R_far (p := ⟨gb332, 2, none⟩) (Kd.R_far (p := ⟨gb332, 1, none⟩) (Kd.R_far (p := ⟨gb332, 0, none⟩) (Kd.qm0 HO_7.out (fun k_ hk => (⟨hk, hk.2⟩ : _ ∧ k_ ≠ gb332))) (fun _ hk => hk.2) (.int .i64 ((rd_T30 t318 x12_4).f0))) (fun _ hk => hk.2) (.int .i64 ((rd_T30 t318 x12_4).f1))) (fun _ hk => hk.2) (.int .i64 ((rd_T30 t318 x12_4).f2))) (fun _ hk => hk.1.2)⟩, ⟨by (with_reducible repeat (first | apply Kd.qe0 | apply Kd.qd0 | apply Kd.qf0)); exact Kd.qm0 (Kd.R_far (p := ⟨gb332, 2, none⟩) (Kd.R_far (p := ⟨gb332, 1, none⟩) (Kd.R_far (p := ⟨gb332, 0, none⟩) (Kd.qf1 HO_8.out BK332.out (by decide)) (fun _ hk => hk.2) (.int .i64 ((rd_T30 t318 x12_4).f0))) (fun _ hk => hk.2) (.int .i64 ((rd_T30 t318 x12_4).f1))) (fun _ hk => hk.2) (.int .i64 ((rd_T30 t318 x12_4).f2))) (fun _ hk => hk.1)⟩, ⟨by (with_reducible repeat (first | apply Kd.qe0 | apply Kd.qd0 | apply Kd.qf0)); exact Kd.qm0 (Kd.R_far (p := ⟨gb332, 2, none⟩) (Kd.R_far (p := ⟨gb332, 1, none⟩) (Kd.R_far (p := ⟨gb332, 0, none⟩) (Kd.qf1 HO_9.out BK332.out (by decide)) (fun _ hk => hk.2) (.int .i64 ((rd_T30 t318 x12_4).f0))) (fun _ hk => hk.2) (.int .i64 ((rd_T30 t318 x12_4).f1))) (fun _ hk => hk.2) (.int .i64 ((rd_T30 t318 x12_4).f2))) (fun _ hk => hk.1)⟩, ⟨by (with_reducible repeat (first | refine qn0 ?_ _ | refine qp0 ?_ | refine qo0 ?_ _)); refine blk_put (cs := #[.int .i64 ((rd_T30 t318 x12_4).f0), .int .i64 ((rd_T30 t318 x12_4).f1), .int .i64 0]) ?_ 2 _ rfl; (with_reducible repeat (first | refine qn0 ?_ _ | refine qp0 ?_ | refine qo0 ?_ _)); refine blk_put (cs := #[.int .i64 ((rd_T30 t318 x12_4).f0), .int .i64 0, .int .i64 0]) ?_ 1 _ rfl; (with_reducible repeat (first | refine qn0 ?_ _ | refine qp0 ?_ | refine qo0 ?_ _)); refine blk_put (cs := #[.int .i64 0, .int .i64 0, .int .i64 0]) ?_ 0 _ rfl; (with_reducible repeat (first | refine qn0 ?_ _ | refine qp0 ?_ | refine qo0 ?_ _)); exact BK332.out⟩, ⟨by repeat (first | (with_reducible first | exact HB.out | apply qc0 | apply qa0 | apply qb0 | refine qh0 ?_ GE332.out) | exact HB.out)⟩⟩
            rw [if_neg c67] at H
            have c67b0 : decide (((rd_T30 t318 x12_4).f0) < 0) = false := decide_eq_false c67
            clear c67
            (first | rw [c67b0] | (simp only [i64_w, i32_w]; rw [c67b0]) | skip)
            by_cases c69 : ((rd_T30 t318 x12_4).f0) ≥ (x8_4.length : Int)
            ·rw [if_pos c69] at H
             have c69b0 : decide ((x8_4.length : Int) ≤ ((rd_T30 t318 x12_4).f0)) = true := decide_eq_true c69
             clear c69
             have H' := Aside0.mk H
             clear H
             have hcz70_0 : w65.cell? ⟨gb332, 0, none⟩ = some (.int .i64 0) := (qu0 BK332.out 0).trans rfl
             have hcz70_1 : w65.cell? ⟨gb332, 1, none⟩ = some (.int .i64 0) := (qu0 BK332.out 1).trans rfl
             have hcz70_2 : w65.cell? ⟨gb332, 2, none⟩ = some (.int .i64 0) := (qu0 BK332.out 2).trans rfl
             have hfz70_0 := qt0 BK332.out 0
             have hfz70_1 := qt0 BK332.out 1
             have hfz70_2 := qt0 BK332.out 2
             obtain ⟨Ao71, co71, eo71⟩ := Kd.qw0 HO_8.out
             subst eo71
             go_wp2
             go_meet
             case rel => exact ⟨_, (true), (by first | rfl | (simp; done) | (simp [*]; done)), H', ⟨by have := HJ4.out; have := HK2.out; have := HK3.out; have := HK4.out; first | omega | exact Nat.le_refl _⟩, ⟨by (with_reducible repeat (first | apply Kd.qe0 | apply Kd.qd0 | apply Kd.qf0)); exact Kd.qm0 (Kd.R_far (p := ⟨gb332, 2, none⟩) (Kd.R_far (p := ⟨gb332, 1, none⟩) (Kd.R_far (p := ⟨gb332, 0, none⟩) (Kd.qf1 HO_4.out BK332.out (by decide)) (fun _ hk => hk.2) (.int .i64 ((rd_T30 t318 x12_4).f0))) (fun _ hk => hk.2) (.int .i64 ((rd_T30 t318 x12_4).f1))) (fun _ hk => hk.2) (.int .i64 ((rd_T30 t318 x12_4).f2))) (fun _ hk => hk.1)⟩, ⟨by (with_reducible repeat (first | apply Kd.qe0 | apply Kd.qd0 | apply Kd.qf0)); exact Kd.qm0 (Kd.R_far (p := ⟨gb332, 2, none⟩) (Kd.R_far (p := ⟨gb332, 1, none⟩) (Kd.R_far (p := ⟨gb332, 0, none⟩) (Kd.qf1 HO_5.out BK332.out (by decide)) (fun _ hk => hk.2) (.int .i64 ((rd_T30 t318 x12_4).f0))) (fun _ hk => hk.2) (.int .i64 ((rd_T30 t318 x12_4).f1))) (fun _ hk => hk.2) (.int .i64 ((rd_T30 t318 x12_4).f2))) (fun _ hk => hk.1)⟩, ⟨by (with_reducible repeat (first | apply Kd.qe0 | apply Kd.qd0 | apply Kd.qf0)); exact Kd.qm0 (Kd.R_far (p := ⟨gb332, 2, none⟩) (Kd.R_far (p := ⟨gb332, 1, none⟩) (Kd.R_far (p := ⟨gb332, 0, none⟩) (Kd.qm0 HO_7.out (fun k_ hk => (⟨hk, hk.2⟩ : _ ∧ k_ ≠ gb332))) (fun _ hk => hk.2) (.int .i64 ((rd_T30 t318 x12_4).f0))) (fun _ hk => hk.2) (.int .i64 ((rd_T30 t318 x12_4).f1))) (fun _ hk => hk.2) (.int .i64 ((rd_T30 t318 x12_4).f2))) (fun _ hk => hk.1.2)⟩, ⟨by (with_reducible repeat (first | apply Kd.qe0 | apply Kd.qd0 | apply Kd.qf0)); exact Kd.qm0 (Kd.R_far (p := ⟨gb332, 2, none⟩) (Kd.R_far (p := ⟨gb332, 1, none⟩) (Kd.R_far (p := ⟨gb332, 0, none⟩) (Kd.qf1 HO_8.out BK332.out (by decide)) (fun _ hk => hk.2) (.int .i64 ((rd_T30 t318 x12_4).f0))) (fun _ hk => hk.2) (.int .i64 ((rd_T30 t318 x12_4).f1))) (fun _ hk => hk.2) (.int .i64 ((rd_T30 t318 x12_4).f2))) (fun _ hk => hk.1)⟩, ⟨by (with_reducible repeat (first | apply Kd.qe0 | apply Kd.qd0 | apply Kd.qf0)); exact Kd.qm0 (Kd.R_far (p := ⟨gb332, 2, none⟩) (Kd.R_far (p := ⟨gb332, 1, none⟩) (Kd.R_far (p := ⟨gb332, 0, none⟩) (Kd.qf1 HO_9.out BK332.out (by decide)) (fun _ hk => hk.2) (.int .i64 ((rd_T30 t318 x12_4).f0))) (fun _ hk => hk.2) (.int .i64 ((rd_T30 t318 x12_4).f1))) (fun _ hk => hk.2) (.int .i64 ((rd_T30 t318 x12_4).f2))) (fun _ hk => hk.1)⟩, ⟨by (with_reducible repeat (first | refine qn0 ?_ _ | refine qp0 ?_ | refine qo0 ?_ _)); refine blk_put (cs := #[.int .i64 ((rd_T30 t318 x12_4).f0), .int .i64 ((rd_T30 t318 x12_4).f1), .int .i64 0]) ?_ 2 _ rfl; (with_reducible repeat (first | refine qn0 ?_ _ | refine qp0 ?_ | refine qo0 ?_ _)); refine blk_put (cs := #[.int .i64 ((rd_T30 t318 x12_4).f0), .int .i64 0, .int .i64 0]) ?_ 1 _ rfl; (with_reducible repeat (first | refine qn0 ?_ _ | refine qp0 ?_ | refine qo0 ?_ _)); refine blk_put (cs := #[.int .i64 0, .int .i64 0, .int .i64 0]) ?_ 0 _ rfl; (with_reducible repeat (first | refine qn0 ?_ _ | refine qp0 ?_ | refine qo0 ?_ _)); exact BK332.out⟩, ⟨by repeat (first | (with_reducible first | exact HB.out | apply qc0 | apply qa0 | apply qb0 | refine qh0 ?_ GE332.out) | exact HB.out)⟩⟩
            rw [if_neg c69] at H
            have c69b0 : decide ((x8_4.length : Int) ≤ ((rd_T30 t318 x12_4).f0)) = false := decide_eq_false c69
            clear c69
            by_cases c72 : ((rd_T30 t318 x12_4).f1) < 0
            ·rw [if_pos c72] at H
             have c72b0 : decide (((rd_T30 t318 x12_4).f1) < 0) = true := decide_eq_true c72
             clear c72
             have H' := Aside0.mk H
             clear H
             have hcz73_0 : w65.cell? ⟨gb332, 0, none⟩ = some (.int .i64 0) := (qu0 BK332.out 0).trans rfl
             have hcz73_1 : w65.cell? ⟨gb332, 1, none⟩ = some (.int .i64 0) := (qu0 BK332.out 1).trans rfl
             have hcz73_2 : w65.cell? ⟨gb332, 2, none⟩ = some (.int .i64 0) := (qu0 BK332.out 2).trans rfl
             have hfz73_0 := qt0 BK332.out 0
             have hfz73_1 := qt0 BK332.out 1
             have hfz73_2 := qt0 BK332.out 2
             obtain ⟨Ao74, co74, eo74⟩ := Kd.qw0 HO_8.out
             subst eo74
             go_wp2
             go_meet
             case rel => exact ⟨_, (true), (by first | rfl | (simp; done) | (simp [*]; done)), H', ⟨by have := HJ4.out; have := HK2.out; have := HK3.out; have := HK4.out; first | omega | exact Nat.le_refl _⟩, ⟨by (with_reducible repeat (first | apply Kd.qe0 | apply Kd.qd0 | apply Kd.qf0)); exact Kd.qm0 (Kd.R_far (p := ⟨gb332, 2, none⟩) (Kd.R_far (p := ⟨gb332, 1, none⟩) (Kd.R_far (p := ⟨gb332, 0, none⟩) (Kd.qf1 HO_4.out BK332.out (by decide)) (fun _ hk => hk.2) (.int .i64 ((rd_T30 t318 x12_4).f0))) (fun _ hk => hk.2) (.int .i64 ((rd_T30 t318 x12_4).f1))) (fun _ hk => hk.2) (.int .i64 ((rd_T30 t318 x12_4).f2))) (fun _ hk => hk.1)⟩, ⟨by (with_reducible repeat (first | apply Kd.qe0 | apply Kd.qd0 | apply Kd.qf0)); exact Kd.qm0 (Kd.R_far (p := ⟨gb332, 2, none⟩) (Kd.R_far (p := ⟨gb332, 1, none⟩) (Kd.R_far (p := ⟨gb332, 0, none⟩) (Kd.qf1 HO_5.out BK332.out (by decide)) (fun _ hk => hk.2) (.int .i64 ((rd_T30 t318 x12_4).f0))) (fun _ hk => hk.2) (.int .i64 ((rd_T30 t318 x12_4).f1))) (fun _ hk => hk.2) (.int .i64 ((rd_T30 t318 x12_4).f2))) (fun _ hk => hk.1)⟩, ⟨by (with_reducible repeat (first | apply Kd.qe0 | apply Kd.qd0 | apply Kd.qf0)); exact Kd.qm0 (Kd.R_far (p := ⟨gb332, 2, none⟩) (Kd.R_far (p := ⟨gb332, 1, none⟩) (Kd.R_far (p := ⟨gb332, 0, none⟩) (Kd.qm0 HO_7.out (fun k_ hk => (⟨hk, hk.2⟩ : _ ∧ k_ ≠ gb332))) (fun _ hk => hk.2) (.int .i64 ((rd_T30 t318 x12_4).f0))) (fun _ hk => hk.2) (.int .i64 ((rd_T30 t318 x12_4).f1))) (fun _ hk => hk.2) (.int .i64 ((rd_T30 t318 x12_4).f2))) (fun _ hk => hk.1.2)⟩, ⟨by (with_reducible repeat (first | apply Kd.qe0 | apply Kd.qd0 | apply Kd.qf0)); exact Kd.qm0 (Kd.R_far (p := ⟨gb332, 2, none⟩) (Kd.R_far (p := ⟨gb332, 1, none⟩) (Kd.R_far (p := ⟨gb332, 0, none⟩) (Kd.qf1 HO_8.out BK332.out (by decide)) (fun _ hk => hk.2) (.int .i64 ((rd_T30 t318 x12_4).f0))) (fun _ hk => hk.2) (.int .i64 ((rd_T30 t318 x12_4).f1))) (fun _ hk => hk.2) (.int .i64 ((rd_T30 t318 x12_4).f2))) (fun _ hk => hk.1)⟩, ⟨by (with_reducible repeat (first | apply Kd.qe0 | apply Kd.qd0 | apply Kd.qf0)); exact Kd.qm0 (Kd.R_far (p := ⟨gb332, 2, none⟩) (Kd.R_far (p := ⟨gb332, 1, none⟩) (Kd.R_far (p := ⟨gb332, 0, none⟩) (Kd.qf1 HO_9.out BK332.out (by decide)) (fun _ hk => hk.2) (.int .i64 ((rd_T30 t318 x12_4).f0))) (fun _ hk => hk.2) (.int .i64 ((rd_T30 t318 x12_4).f1))) (fun _ hk => hk.2) (.int .i64 ((rd_T30 t318 x12_4).f2))) (fun _ hk => hk.1)⟩, ⟨by (with_reducible repeat (first | refine qn0 ?_ _ | refine qp0 ?_ | refine qo0 ?_ _)); refine blk_put (cs := #[.int .i64 ((rd_T30 t318 x12_4).f0), .int .i64 ((rd_T30 t318 x12_4).f1), .int .i64 0]) ?_ 2 _ rfl; (with_reducible repeat (first | refine qn0 ?_ _ | refine qp0 ?_ | refine qo0 ?_ _)); refine blk_put (cs := #[.int .i64 ((rd_T30 t318 x12_4).f0), .int .i64 0, .int .i64 0]) ?_ 1 _ rfl; (with_reducible repeat (first | refine qn0 ?_ _ | refine qp0 ?_ | refine qo0 ?_ _)); refine blk_put (cs := #[.int .i64 0, .int .i64 0, .int .i64 0]) ?_ 0 _ rfl; (with_reducible repeat (first | refine qn0 ?_ _ | refine qp0 ?_ | refine qo0 ?_ _)); exact BK332.out⟩, ⟨by repeat (first | (with_reducible first | exact HB.out | apply qc0 | apply qa0 | apply qb0 | refine qh0 ?_ GE332.out) | exact HB.out)⟩⟩
            rw [if_neg c72] at H
            have c72b0 : decide (((rd_T30 t318 x12_4).f1) < 0) = false := decide_eq_false c72
            clear c72
            by_cases c75 : ((rd_T30 t318 x12_4).f1) ≥ (x9_4.length : Int)
            ·rw [if_pos c75] at H
             have c75b0 : decide ((x9_4.length : Int) ≤ ((rd_T30 t318 x12_4).f1)) = true := decide_eq_true c75
             clear c75
             have H' := Aside0.mk H
             clear H
             have hcz76_0 : w65.cell? ⟨gb332, 0, none⟩ = some (.int .i64 0) := (qu0 BK332.out 0).trans rfl
             have hcz76_1 : w65.cell? ⟨gb332, 1, none⟩ = some (.int .i64 0) := (qu0 BK332.out 1).trans rfl
             have hcz76_2 : w65.cell? ⟨gb332, 2, none⟩ = some (.int .i64 0) := (qu0 BK332.out 2).trans rfl
             have hfz76_0 := qt0 BK332.out 0
             have hfz76_1 := qt0 BK332.out 1
             have hfz76_2 := qt0 BK332.out 2
             obtain ⟨Ao77, co77, eo77⟩ := Kd.qw0 HO_8.out
             subst eo77
             obtain ⟨Ao78, co78, eo78⟩ := Kd.qw0 HO_9.out
             subst eo78
             go_wp2
             go_meet
             case rel => exact ⟨_, (true), (by first | rfl | (simp; done) | (simp [*]; done)), H', ⟨by have := HJ4.out; have := HK2.out; have := HK3.out; have := HK4.out; first | omega | exact Nat.le_refl _⟩, ⟨by (with_reducible repeat (first | apply Kd.qe0 | apply Kd.qd0 | apply Kd.qf0)); exact Kd.qm0 (Kd.R_far (p := ⟨gb332, 2, none⟩) (Kd.R_far (p := ⟨gb332, 1, none⟩) (Kd.R_far (p := ⟨gb332, 0, none⟩) (Kd.qf1 HO_4.out BK332.out (by decide)) (fun _ hk => hk.2) (.int .i64 ((rd_T30 t318 x12_4).f0))) (fun _ hk => hk.2) (.int .i64 ((rd_T30 t318 x12_4).f1))) (fun _ hk => hk.2) (.int .i64 ((rd_T30 t318 x12_4).f2))) (fun _ hk => hk.1)⟩, ⟨by (with_reducible repeat (first | apply Kd.qe0 | apply Kd.qd0 | apply Kd.qf0)); exact Kd.qm0 (Kd.R_far (p := ⟨gb332, 2, none⟩) (Kd.R_far (p := ⟨gb332, 1, none⟩) (Kd.R_far (p := ⟨gb332, 0, none⟩) (Kd.qf1 HO_5.out BK332.out (by decide)) (fun _ hk => hk.2) (.int .i64 ((rd_T30 t318 x12_4).f0))) (fun _ hk => hk.2) (.int .i64 ((rd_T30 t318 x12_4).f1))) (fun _ hk => hk.2) (.int .i64 ((rd_T30 t318 x12_4).f2))) (fun _ hk => hk.1)⟩, ⟨by (with_reducible repeat (first | apply Kd.qe0 | apply Kd.qd0 | apply Kd.qf0)); exact Kd.qm0 (Kd.R_far (p := ⟨gb332, 2, none⟩) (Kd.R_far (p := ⟨gb332, 1, none⟩) (Kd.R_far (p := ⟨gb332, 0, none⟩) (Kd.qm0 HO_7.out (fun k_ hk => (⟨hk, hk.2⟩ : _ ∧ k_ ≠ gb332))) (fun _ hk => hk.2) (.int .i64 ((rd_T30 t318 x12_4).f0))) (fun _ hk => hk.2) (.int .i64 ((rd_T30 t318 x12_4).f1))) (fun _ hk => hk.2) (.int .i64 ((rd_T30 t318 x12_4).f2))) (fun _ hk => hk.1.2)⟩, ⟨by (with_reducible repeat (first | apply Kd.qe0 | apply Kd.qd0 | apply Kd.qf0)); exact Kd.qm0 (Kd.R_far (p := ⟨gb332, 2, none⟩) (Kd.R_far (p := ⟨gb332, 1, none⟩) (Kd.R_far (p := ⟨gb332, 0, none⟩) (Kd.qf1 HO_8.out BK332.out (by decide)) (fun _ hk => hk.2) (.int .i64 ((rd_T30 t318 x12_4).f0))) (fun _ hk => hk.2) (.int .i64 ((rd_T30 t318 x12_4).f1))) (fun _ hk => hk.2) (.int .i64 ((rd_T30 t318 x12_4).f2))) (fun _ hk => hk.1)⟩, ⟨by (with_reducible repeat (first | apply Kd.qe0 | apply Kd.qd0 | apply Kd.qf0)); exact Kd.qm0 (Kd.R_far (p := ⟨gb332, 2, none⟩) (Kd.R_far (p := ⟨gb332, 1, none⟩) (Kd.R_far (p := ⟨gb332, 0, none⟩) (Kd.qf1 HO_9.out BK332.out (by decide)) (fun _ hk => hk.2) (.int .i64 ((rd_T30 t318 x12_4).f0))) (fun _ hk => hk.2) (.int .i64 ((rd_T30 t318 x12_4).f1))) (fun _ hk => hk.2) (.int .i64 ((rd_T30 t318 x12_4).f2))) (fun _ hk => hk.1)⟩, ⟨by (with_reducible repeat (first | refine qn0 ?_ _ | refine qp0 ?_ | refine qo0 ?_ _)); refine blk_put (cs := #[.int .i64 ((rd_T30 t318 x12_4).f0), .int .i64 ((rd_T30 t318 x12_4).f1), .int .i64 0]) ?_ 2 _ rfl; (with_reducible repeat (first | refine qn0 ?_ _ | refine qp0 ?_ | refine qo0 ?_ _)); refine blk_put (cs := #[.int .i64 ((rd_T30 t318 x12_4).f0), .int .i64 0, .int .i64 0]) ?_ 1 _ rfl; (with_reducible repeat (first | refine qn0 ?_ _ | refine qp0 ?_ | refine qo0 ?_ _)); refine blk_put (cs := #[.int .i64 0, .int .i64 0, .int .i64 0]) ?_ 0 _ rfl; (with_reducible repeat (first | refine qn0 ?_ _ | refine qp0 ?_ | refine qo0 ?_ _)); exact BK332.out⟩, ⟨by repeat (first | (with_reducible first | exact HB.out | apply qc0 | apply qa0 | apply qb0 | refine qh0 ?_ GE332.out) | exact HB.out)⟩⟩
            rw [if_neg c75] at H
            have c75b0 : decide ((x9_4.length : Int) ≤ ((rd_T30 t318 x12_4).f1)) = false := decide_eq_false c75
            clear c75
            have H' := Aside0.mk H
            clear H
            have hcz79_0 : w65.cell? ⟨gb332, 0, none⟩ = some (.int .i64 0) := (qu0 BK332.out 0).trans rfl
            have hcz79_1 : w65.cell? ⟨gb332, 1, none⟩ = some (.int .i64 0) := (qu0 BK332.out 1).trans rfl
            have hcz79_2 : w65.cell? ⟨gb332, 2, none⟩ = some (.int .i64 0) := (qu0 BK332.out 2).trans rfl
            have hfz79_0 := qt0 BK332.out 0
            have hfz79_1 := qt0 BK332.out 1
            have hfz79_2 := qt0 BK332.out 2
            obtain ⟨Ao80, co80, eo80⟩ := Kd.qw0 HO_8.out
            subst eo80
            obtain ⟨Ao81, co81, eo81⟩ := Kd.qw0 HO_9.out
            subst eo81
            go_wp2
            go_meet
            case rel => exact ⟨_, (decide (((rd_T30 t318 x12_4).f2) ≤ 0)), (by first | rfl | (simp; done) | (simp [*]; done)), H', ⟨by have := HJ4.out; have := HK2.out; have := HK3.out; have := HK4.out; first | omega | exact Nat.le_refl _⟩, ⟨by (with_reducible repeat (first | apply Kd.qe0 | apply Kd.qd0 | apply Kd.qf0)); exact Kd.qm0 (Kd.R_far (p := ⟨gb332, 2, none⟩) (Kd.R_far (p := ⟨gb332, 1, none⟩) (Kd.R_far (p := ⟨gb332, 0, none⟩) (Kd.qf1 HO_4.out BK332.out (by decide)) (fun _ hk => hk.2) (.int .i64 ((rd_T30 t318 x12_4).f0))) (fun _ hk => hk.2) (.int .i64 ((rd_T30 t318 x12_4).f1))) (fun _ hk => hk.2) (.int .i64 ((rd_T30 t318 x12_4).f2))) (fun _ hk => hk.1)⟩, ⟨by (with_reducible repeat (first | apply Kd.qe0 | apply Kd.qd0 | apply Kd.qf0)); exact Kd.qm0 (Kd.R_far (p := ⟨gb332, 2, none⟩) (Kd.R_far (p := ⟨gb332, 1, none⟩) (Kd.R_far (p := ⟨gb332, 0, none⟩) (Kd.qf1 HO_5.out BK332.out (by decide)) (fun _ hk => hk.2) (.int .i64 ((rd_T30 t318 x12_4).f0))) (fun _ hk => hk.2) (.int .i64 ((rd_T30 t318 x12_4).f1))) (fun _ hk => hk.2) (.int .i64 ((rd_T30 t318 x12_4).f2))) (fun _ hk => hk.1)⟩, ⟨by (with_reducible repeat (first | apply Kd.qe0 | apply Kd.qd0 | apply Kd.qf0)); exact Kd.qm0 (Kd.R_far (p := ⟨gb332, 2, none⟩) (Kd.R_far (p := ⟨gb332, 1, none⟩) (Kd.R_far (p := ⟨gb332, 0, none⟩) (Kd.qm0 HO_7.out (fun k_ hk => (⟨hk, hk.2⟩ : _ ∧ k_ ≠ gb332))) (fun _ hk => hk.2) (.int .i64 ((rd_T30 t318 x12_4).f0))) (fun _ hk => hk.2) (.int .i64 ((rd_T30 t318 x12_4).f1))) (fun _ hk => hk.2) (.int .i64 ((rd_T30 t318 x12_4).f2))) (fun _ hk => hk.1.2)⟩, ⟨by (with_reducible repeat (first | apply Kd.qe0 | apply Kd.qd0 | apply Kd.qf0)); exact Kd.qm0 (Kd.R_far (p := ⟨gb332, 2, none⟩) (Kd.R_far (p := ⟨gb332, 1, none⟩) (Kd.R_far (p := ⟨gb332, 0, none⟩) (Kd.qf1 HO_8.out BK332.out (by decide)) (fun _ hk => hk.2) (.int .i64 ((rd_T30 t318 x12_4).f0))) (fun _ hk => hk.2) (.int .i64 ((rd_T30 t318 x12_4).f1))) (fun _ hk => hk.2) (.int .i64 ((rd_T30 t318 x12_4).f2))) (fun _ hk => hk.1)⟩, ⟨by (with_reducible repeat (first | apply Kd.qe0 | apply Kd.qd0 | apply Kd.qf0)); exact Kd.qm0 (Kd.R_far (p := ⟨gb332, 2, none⟩) (Kd.R_far (p := ⟨gb332, 1, none⟩) (Kd.R_far (p := ⟨gb332, 0, none⟩) (Kd.qf1 HO_9.out BK332.out (by decide)) (fun _ hk => hk.2) (.int .i64 ((rd_T30 t318 x12_4).f0))) (fun _ hk => hk.2) (.int .i64 ((rd_T30 t318 x12_4).f1))) (fun _ hk => hk.2) (.int .i64 ((rd_T30 t318 x12_4).f2))) (fun _ hk => hk.1)⟩, ⟨by (with_reducible repeat (first | refine qn0 ?_ _ | refine qp0 ?_ | refine qo0 ?_ _)); refine blk_put (cs := #[.int .i64 ((rd_T30 t318 x12_4).f0), .int .i64 ((rd_T30 t318 x12_4).f1), .int .i64 0]) ?_ 2 _ rfl; (with_reducible repeat (first | refine qn0 ?_ _ | refine qp0 ?_ | refine qo0 ?_ _)); refine blk_put (cs := #[.int .i64 ((rd_T30 t318 x12_4).f0), .int .i64 0, .int .i64 0]) ?_ 1 _ rfl; (with_reducible repeat (first | refine qn0 ?_ _ | refine qp0 ?_ | refine qo0 ?_ _)); refine blk_put (cs := #[.int .i64 0, .int .i64 0, .int .i64 0]) ?_ 0 _ rfl; (with_reducible repeat (first | refine qn0 ?_ _ | refine qp0 ?_ | refine qo0 ?_ _)); exact BK332.out⟩, ⟨by repeat (first | (with_reducible first | exact HB.out | apply qc0 | apply qa0 | apply qb0 | refine qh0 ?_ GE332.out) | exact HB.out)⟩⟩
           case rest => as_aux_lemma =>
            clear HC64
            try clear c1
            try clear c2
            try clear p2
            try clear c3
            try clear p3
            try clear q3
            try clear hx3
            try clear qi3
            try clear c5
            try clear p5
            try clear q5
            try clear hx5
            try clear hf5
            try clear c6
            try clear p6
            try clear c7
            try clear c13
            try clear c13b0
            try clear c13b1
            try clear c14
            try clear c14b0
            try clear c14b1
            try clear c15
            try clear c15b0
            try clear c15b1
            try clear c16
            try clear c16b0
            try clear c16b1
            try clear c17
            try clear c17b0
            try clear c17b1
            try clear c18
            try clear c22
            try clear c26
            try clear c26b0
            try clear c26b1
            try clear c26b2
            try clear c27
            try clear c27b0
            try clear c27b1
            try clear c27b2
            try clear p30
            try clear q30
            try clear hx30
            try clear qi30
            try clear p32
            try clear q32
            try clear hx32
            try clear p33
            try clear q33
            try clear hx33
            try clear c35
            try clear c35b0
            try clear c35b1
            try clear c36
            try clear c36b0
            try clear c36b1
            try clear c37
            try clear c37b0
            try clear c37b1
            try clear c38
            try clear c38b0
            try clear c38b1
            try clear c50
            try clear c50b0
            try clear c51
            try clear c51b0
            try clear c52
            try clear c52b0
            try clear p53
            try clear q53
            try clear hx53
            try clear hf53
            try clear c56
            try clear c56b0
            try clear c57
            try clear c57b0
            try clear c58
            try clear c58b0
            try clear p59
            try clear q59
            try clear hx59
            try clear hf59
            try clear c62
            try clear c62b0
            try clear c63
            try clear c63b0
            try clear p64
            try clear c67
            try clear c67b0
            try clear c69
            try clear c69b0
            try clear c72
            try clear c72b0
            try clear c75
            try clear c75b0
            try clear hcz66_0
            try clear hcz66_1
            try clear hcz66_2
            try clear hcz68_0
            try clear hcz68_1
            try clear hcz68_2
            try clear hcz70_0
            try clear hcz70_1
            try clear hcz70_2
            try clear hcz73_0
            try clear hcz73_1
            try clear hcz73_2
            try clear hcz76_0
            try clear hcz76_1
            try clear hcz76_2
            try clear hcz79_0
            try clear hcz79_1
            try clear hcz79_2
            try clear hfz66_0
            try clear hfz66_1
            try clear hfz66_2
            try clear hfz68_0
            try clear hfz68_1
            try clear hfz68_2
            try clear hfz70_0
            try clear hfz70_1
            try clear hfz70_2
            try clear hfz73_0
            try clear hfz73_1
            try clear hfz73_2
            try clear hfz76_0
            try clear hfz76_1
            try clear hfz76_2
            try clear hfz79_0
            try clear hfz79_1
            try clear hfz79_2
            try clear hx306_0
            try clear hx306_1
            try clear hx306_2
            try clear hx307_0
            try clear hx307_1
            try clear hx307_2
            try clear hx308_0
            try clear hx308_1
            try clear hx308_2
            try clear hx327_0
            try clear hx327_1
            try clear hx329_0
            try clear hx329_1
            try clear hx331_0
            try clear hx331_1
            try clear hx331_2
            try clear hx53_0
            try clear hx59_0
            try clear p2
            try clear p3
            try clear p30
            try clear p306
            try clear p307
            try clear p308
            try clear p32
            try clear p327
            try clear p329
            try clear p331
            try clear p5
            try clear p53
            try clear p59
            try clear p6
            try clear q3
            try clear q30
            try clear q306
            try clear q307
            try clear q308
            try clear q32
            try clear q327
            try clear q329
            try clear q331
            try clear q5
            try clear q53
            try clear q59
            obtain ⟨kq, x135_63, rfl, HA, HJ63, HO_4, HO_5, HO_7, HO_8, HO_9, BK332, HB⟩ := hcut
            cases kq with
            | zero => exact absurd HA.out (by simp [laws_FnSettled.j4])
            | succ kj63 =>
             have H := HA.out
             clear HA
             simp only [laws_FnSettled.j4] at H
             by_cases c82 : x135_63 = true
             ·subst c82
              have H1 : (some false) = some r := by rw [if_pos rfl] at H; exact H
              clear H
              have H := H1
              clear H1
              obtain rfl := Option.some.inj H
              go_wp2
              go_ret
              exact ⟨by first | rfl | (simp [errW_none, errW_some] <;> rfl) | (simp [*, errW_none, errW_some] <;> rfl), by repeat (first | (with_reducible first | exact HB.out | apply qc0 | apply qa0 | apply qb0 | refine qh0 ?_ GE332.out) | exact HB.out)⟩
             replace c82 := Bool.eq_false_iff.mpr c82
             subst c82
             have H1 : (if x12_4 > 0 then (if 0 ≤ ((rd_T30 t318 x12_4).f0) then (if ((rd_T30 t318 x12_4).f0) < (t309.length : Int) then (if 0 ≤ (wrap64 (x12_4 - 1)) then (if (wrap64 (x12_4 - 1)) < (t318.length : Int) then (if 0 ≤ ((rd_T30 t318 (wrap64 (x12_4 - 1))).f0) then (if ((rd_T30 t318 (wrap64 (x12_4 - 1))).f0) < (t309.length : Int) then (if ((rd_T27 t309 ((rd_T30 t318 x12_4).f0)).f0) < ((rd_T27 t309 ((rd_T30 t318 (wrap64 (x12_4 - 1))).f0)).f0) then (laws_FnSettled.j5 kj63 t309 t310 t318 x8_4 x9_4 x12_4 true ((rd_T30 t318 x12_4).f0) ((rd_T30 t318 x12_4).f1) ((rd_T30 t318 x12_4).f2)) else (if 0 ≤ ((rd_T30 t318 x12_4).f1) then (if ((rd_T30 t318 x12_4).f1) < (t310.length : Int) then (if 0 ≤ ((rd_T30 t318 (wrap64 (x12_4 - 1))).f1) then (if ((rd_T30 t318 (wrap64 (x12_4 - 1))).f1) < (t310.length : Int) then (laws_FnSettled.j5 kj63 t309 t310 t318 x8_4 x9_4 x12_4 (decide (((rd_T27 t310 ((rd_T30 t318 x12_4).f1)).f0) < ((rd_T27 t310 ((rd_T30 t318 (wrap64 (x12_4 - 1))).f1)).f0))) ((rd_T30 t318 x12_4).f0) ((rd_T30 t318 x12_4).f1) ((rd_T30 t318 x12_4).f2)) else (none)) else (none)) else (none)) else (none))) else (none)) else (none)) else (none)) else (none)) else (none)) else (none)) else (laws_FnSettled.j5 kj63 t309 t310 t318 x8_4 x9_4 x12_4 false ((rd_T30 t318 x12_4).f0) ((rd_T30 t318 x12_4).f1) ((rd_T30 t318 x12_4).f2))) = some r := by rw [if_neg (show ¬ (false = true) by decide)] at H; exact H
             clear H
             have H := H1
             clear H1
             have HC83 := Aside0.mk H
             clear H
             go_upto_region 29 with (fail)
             go_cut [175] (fun v175 wc => ∃ (kq : Nat) (x175_82 : Bool), v175 = .bool x175_82 ∧ Aside0 (laws_FnSettled.j5 kq t309 t310 t318 x8_4 x9_4 x12_4 x175_82 ((rd_T30 t318 x12_4).f0) ((rd_T30 t318 x12_4).f1) ((rd_T30 t318 x12_4).f2) = some r) ∧ Aside0 (kq ≤ kj63) ∧ Aside0 (Kd.R k27 27 wc w.heap.size (fun k_ => some k_ ≠ ((.slice Ao41 t310.length co41) : Value).ownBlock) (.slice Ao40 t309.length co40) t309) ∧ Aside0 (Kd.R k27 27 wc w.heap.size (fun k_ => some k_ ≠ ((.slice Ao40 t309.length co40) : Value).ownBlock) (.slice Ao41 t310.length co41) t310) ∧ Aside0 (Kd.R k30 30 wc w.heap.size (fun k_ => k_ ≠ gb332) (.slice (some ad331) t318.length co44) t318) ∧ Aside0 (Kd.R (Kd.int .i64) 3 wc w.heap.size (fun k_ => some k_ ≠ (v325 : Value).ownBlock) v322 x8_4) ∧ Aside0 (Kd.R (Kd.int .i64) 3 wc w.heap.size (fun k_ => some k_ ≠ (v322 : Value).ownBlock) v325 x9_4) ∧ Aside0 (wc.heap[gb332]? = some (.cells #[.int .i64 ((rd_T30 t318 x12_4).f0), .int .i64 ((rd_T30 t318 x12_4).f1), .int .i64 ((rd_T30 t318 x12_4).f2)] 30 (0, 0))) ∧ Aside0 (Below w.heap.size w wc))
             case first => as_aux_lemma =>
              have H := HC83.out
              clear HC83
              by_cases c84 : x12_4 > 0
              ·rw [if_pos c84] at H
               have c84b0 : decide (0 < x12_4) = true := decide_eq_true c84
               clear c84
               (first | rw [c84b0] | (simp only [i64_w, i32_w]; rw [c84b0]) | skip)
               by_cases c85 : 0 ≤ ((rd_T30 t318 x12_4).f0)
               case neg => rw [if_neg c85] at H; exact absurd H (by simp)
               rw [if_pos c85] at H
               have c85b0 : decide (0 ≤ ((rd_T30 t318 x12_4).f0)) = true := decide_eq_true c85
               clear c85
               by_cases c86 : ((rd_T30 t318 x12_4).f0) < (t309.length : Int)
               case neg => rw [if_neg c86] at H; exact absurd H (by simp)
               rw [if_pos c86] at H
               have c86b0 : decide (((rd_T30 t318 x12_4).f0) < (t309.length : Int)) = true := decide_eq_true c86
               clear c86
               obtain ⟨ji87, hji87⟩ : ∃ j_ : Int, (wrap64 (x12_4 - 1)) = j_ := ⟨_, rfl⟩
               replace H : (if 0 ≤ (ji87) then (if (ji87) < (t318.length : Int) then (if 0 ≤ ((rd_T30 t318 (ji87)).f0) then (if ((rd_T30 t318 (ji87)).f0) < (t309.length : Int) then (if ((rd_T27 t309 ((rd_T30 t318 x12_4).f0)).f0) < ((rd_T27 t309 ((rd_T30 t318 (ji87)).f0)).f0) then (laws_FnSettled.j5 kj63 t309 t310 t318 x8_4 x9_4 x12_4 true ((rd_T30 t318 x12_4).f0) ((rd_T30 t318 x12_4).f1) ((rd_T30 t318 x12_4).f2)) else (if 0 ≤ ((rd_T30 t318 x12_4).f1) then (if ((rd_T30 t318 x12_4).f1) < (t310.length : Int) then (if 0 ≤ ((rd_T30 t318 (ji87)).f1) then (if ((rd_T30 t318 (ji87)).f1) < (t310.length : Int) then (laws_FnSettled.j5 kj63 t309 t310 t318 x8_4 x9_4 x12_4 (decide (((rd_T27 t310 ((rd_T30 t318 x12_4).f1)).f0) < ((rd_T27 t310 ((rd_T30 t318 (ji87)).f1)).f0))) ((rd_T30 t318 x12_4).f0) ((rd_T30 t318 x12_4).f1) ((rd_T30 t318 x12_4).f2)) else (none)) else (none)) else (none)) else (none))) else (none)) else (none)) else (none)) else (none)) = some r := by first | (rw [hji87] at H; exact H) | (simp only [hji87] at H ⊢; exact H)
               have hji87w : (IntKind.i64.wrap (x12_4 - 1)) = ji87 := (i64_w _).trans hji87
               by_cases c88 : 0 ≤ (ji87)
               case neg => rw [if_neg c88] at H; exact absurd H (by simp)
               rw [if_pos c88] at H
               have c88b0 : decide (0 ≤ (ji87)) = true := decide_eq_true c88
               clear c88
               by_cases c89 : (ji87) < (t318.length : Int)
               case neg => rw [if_neg c89] at H; exact absurd H (by simp)
               rw [if_pos c89] at H
               have c89b0 : decide ((ji87) < (t318.length : Int)) = true := decide_eq_true c89
               clear c89
               by_cases c90 : 0 ≤ ((rd_T30 t318 (ji87)).f0)
               case neg => rw [if_neg c90] at H; exact absurd H (by simp)
               rw [if_pos c90] at H
               have c90b0 : decide (0 ≤ ((rd_T30 t318 (ji87)).f0)) = true := decide_eq_true c90
               clear c90
               by_cases c91 : ((rd_T30 t318 (ji87)).f0) < (t309.length : Int)
               case neg => rw [if_neg c91] at H; exact absurd H (by simp)
               rw [if_pos c91] at H
               have c91b0 : decide (((rd_T30 t318 (ji87)).f0) < (t309.length : Int)) = true := decide_eq_true c91
               clear c91
               by_cases c92 : ((rd_T27 t309 ((rd_T30 t318 x12_4).f0)).f0) < ((rd_T27 t309 ((rd_T30 t318 (ji87)).f0)).f0)
               ·rw [if_pos c92] at H
                have c92b0 : decide (((rd_T27 t309 ((rd_T30 t318 x12_4).f0)).f0) < ((rd_T27 t309 ((rd_T30 t318 (ji87)).f0)).f0)) = true := decide_eq_true c92
                clear c92
                have H' := Aside0.mk H
                clear H
                try go_wp2
                have n0_ := Aside0.mk (Kd.qf0 HO_4.out)
                have n1_ := Aside0.mk (Kd.qf0 HO_5.out)
                have n2_ := Aside0.mk (Kd.qf0 HO_7.out)
                have n3_ := Aside0.mk (Kd.qf0 HO_8.out)
                have n4_ := Aside0.mk (Kd.qf0 HO_9.out)
                have n5_ := Aside0.mk (qp0 BK332.out)
                have n6_ := Aside0.mk (qb0 HB.out)
                clear HO_4
                clear HO_5
                clear HO_7
                clear HO_8
                clear HO_9
                clear BK332
                clear HB
                have HO_4 := n0_
                have HO_5 := n1_
                have HO_7 := n2_
                have HO_8 := n3_
                have HO_9 := n4_
                have BK332 := n5_
                have HB := n6_
                clear n0_ n1_ n2_ n3_ n4_ n5_ n6_
                have p333 : 0 ≤ (((rd_T30 t318 x12_4).f0) : Int) := of_decide_eq_true (by first | (with_reducible assumption) | assumption)
                have q333 : ((rd_T30 t318 x12_4).f0) < (t309.length : Int) := of_decide_eq_true (by first | (with_reducible assumption) | assumption)
                obtain ⟨ad333, e333, hx333_0, hx333_1⟩ := at_T27 (Kd.qi0 HO_4.out).2.2 ((rd_T30 t318 x12_4).f0) p333 q333
                cases e333
                replace p333 := eq_true p333
                replace q333 := eq_true q333
                have p334 : 0 ≤ ((ji87) : Int) := of_decide_eq_true (by first | (with_reducible assumption) | assumption)
                have q334 : (ji87) < (t318.length : Int) := of_decide_eq_true (by first | (with_reducible assumption) | assumption)
                obtain ⟨ad334, e334, hx334_0, hx334_1, hx334_2⟩ := at_T30 (Kd.qi0 HO_7.out).2.2 (ji87) p334 q334
                obtain rfl : ad331 = ad334 := (by injection e334)
                replace p334 := eq_true p334
                replace q334 := eq_true q334
                have p335 : 0 ≤ (((rd_T30 t318 (ji87)).f0) : Int) := of_decide_eq_true (by first | (with_reducible assumption) | assumption)
                have q335 : ((rd_T30 t318 (ji87)).f0) < (t309.length : Int) := of_decide_eq_true (by first | (with_reducible assumption) | assumption)
                obtain ⟨ad335, e335, hx335_0, hx335_1⟩ := at_T27 (Kd.qi0 HO_4.out).2.2 ((rd_T30 t318 (ji87)).f0) p335 q335
                obtain rfl : ad333 = ad335 := (by injection e335)
                replace p335 := eq_true p335
                replace q335 := eq_true q335
                refine start_ (n := 40) (S := fun w' => w'.cell? ⟨gb332, 0, none⟩ = some (.int .i64 ((rd_T30 t318 x12_4).f0)) ∧ w'.cell? ⟨gb332, 1, none⟩ = some (.int .i64 ((rd_T30 t318 x12_4).f1)) ∧ w'.cell? ⟨gb332, 2, none⟩ = some (.int .i64 ((rd_T30 t318 x12_4).f2)) ∧ w'.cell? (ad333.add ((((rd_T30 t318 x12_4).f0)).toNat * 2)) = some (.int .i64 ((rd_T27 t309 ((rd_T30 t318 x12_4).f0)).f0)) ∧ w'.cell? ⟨(ad333.add ((((rd_T30 t318 x12_4).f0)).toNat * 2)).block, (ad333.add ((((rd_T30 t318 x12_4).f0)).toNat * 2)).off + 1, none⟩ = some (.int .i64 ((rd_T27 t309 ((rd_T30 t318 x12_4).f0)).f1)) ∧ w'.cell? (ad331.add (((ji87)).toNat * 3)) = some (.int .i64 ((rd_T30 t318 (ji87)).f0)) ∧ w'.cell? ⟨(ad331.add (((ji87)).toNat * 3)).block, (ad331.add (((ji87)).toNat * 3)).off + 1, none⟩ = some (.int .i64 ((rd_T30 t318 (ji87)).f1)) ∧ w'.cell? ⟨(ad331.add (((ji87)).toNat * 3)).block, (ad331.add (((ji87)).toNat * 3)).off + 2, none⟩ = some (.int .i64 ((rd_T30 t318 (ji87)).f2)) ∧ w'.cell? (ad333.add ((((rd_T30 t318 (ji87)).f0)).toNat * 2)) = some (.int .i64 ((rd_T27 t309 ((rd_T30 t318 (ji87)).f0)).f0)) ∧ w'.cell? ⟨(ad333.add ((((rd_T30 t318 (ji87)).f0)).toNat * 2)).block, (ad333.add ((((rd_T30 t318 (ji87)).f0)).toNat * 2)).off + 1, none⟩ = some (.int .i64 ((rd_T27 t309 ((rd_T30 t318 (ji87)).f0)).f1))) (ds := []) (rb8 [0, 40]) (by kernel_rfl) rfl rfl ⟨(qu0 BK332.out 0).trans rfl, (qu0 BK332.out 1).trans rfl, (qu0 BK332.out 2).trans rfl, hx333_0, hx333_1, hx334_0, hx334_1, hx334_2, hx335_0, hx335_1⟩ (fun hHeld => ?_); refine with_tabW laws_FnSettled.tab29 laws_FnSettled.bits29 (fun HT_ HW_ => ?_)
                generalize wc.drew = w93 at HO_4 HO_5 HO_7 HO_8 HO_9 BK332 HB hx333_0 hx333_1 hx334_0 hx334_1 hx334_2 hx335_0 hx335_1 hHeld ⊢
                refine pure_ (i := 0) (N := some 136) (v := ?_) (a' := ?_) (rb8 [1, 39]) rfl rfl (qg0 HT_.out (by kernel_rfl)) (fun _ _ _ h => h) (Or.inl ⟨by rfl, ?_⟩) ?_ ?_
                rotate_left
                ·intro w'
                 go_simp
                 with_reducible rfl
                rotate_left
                ·simp only [Act.put, List.setIfInBounds_toArray, List.set_cons_zero, List.set_cons_succ, i64_w, i32_w]
                 rfl
                refine pure_ (i := 1) (N := some 137) (v := ?_) (a' := ?_) (rb8 [2, 38]) rfl rfl (qg0 HT_.out (by kernel_rfl)) (fun _ _ _ h => h) (Or.inl ⟨by rfl, ?_⟩) ?_ ?_
                rotate_left
                ·intro w'
                 go_simp
                 with_reducible rfl
                rotate_left
                ·simp only [Act.put, List.setIfInBounds_toArray, List.set_cons_zero, List.set_cons_succ, i64_w, i32_w]
                 rfl
                refine pure_ (i := 2) (N := some 138) (v := ?_) (a' := ?_) (rb8 [3, 37]) rfl rfl (qg0 HT_.out (by kernel_rfl)) (fun _ _ _ h => h) (Or.inl ⟨by rfl, ?_⟩) ?_ ?_
                rotate_left
                ·intro w'
                 go_simp
                 with_reducible rfl
                rotate_left
                ·simp only [Act.put, List.setIfInBounds_toArray, List.set_cons_zero, List.set_cons_succ, i64_w, i32_w]
                 rfl
                refine pure_ (i := 3) (N := some 139) (v := ?_) (a' := ?_) (rb8 [4, 36]) rfl rfl (qg0 HT_.out (by kernel_rfl)) (fun _ _ _ h => h) (Or.inl ⟨by rfl, ?_⟩) ?_ ?_
                rotate_left
                ·intro w'
                 go_simp
                 with_reducible rfl
                rotate_left
                ·simp only [Act.put, List.setIfInBounds_toArray, List.set_cons_zero, List.set_cons_succ, i64_w, i32_w]
                 rfl
                refine pure_ (i := 4) (N := some 140) (v := ?_) (a' := ?_) (rb8 [5, 35]) rfl rfl (qg0 HT_.out (by kernel_rfl)) (fun _ _ _ h => h) (Or.inl ⟨by rfl, ?_⟩) ?_ ?_
                rotate_left
                ·intro w'
                 go_simp
                 with_reducible rfl
                rotate_left
                ·simp only [Act.put, List.setIfInBounds_toArray, List.set_cons_zero, List.set_cons_succ, i64_w, i32_w]
                 rfl
                refine pure_ (i := 9) (N := some 145) (v := ?_) (a' := ?_) (rb8 [5, 4, 1, 30]) rfl rfl (qg0 HT_.out (by kernel_rfl)) (fun _ _ _ h => h) (Or.inl ⟨by rfl, ?_⟩) ?_ ?_
                rotate_left
                ·intro w'
                 go_simp
                 with_reducible rfl
                rotate_left
                ·simp only [Act.put, List.setIfInBounds_toArray, List.set_cons_zero, List.set_cons_succ, i64_w, i32_w]
                 rfl
                refine pure_ (i := 10) (N := some 146) (v := ?_) (a' := ?_) (rb8 [5, 4, 2, 29]) rfl rfl (qg0 HT_.out (by kernel_rfl)) (fun _ _ _ h => h) (Or.inl ⟨by rfl, ?_⟩) ?_ ?_
                rotate_left
                ·intro w'
                 go_simp
                 with_reducible rfl
                rotate_left
                ·simp only [Act.put, List.setIfInBounds_toArray, List.set_cons_zero, List.set_cons_succ, i64_w, i32_w]
                 rfl
                refine pure_ (i := 11) (N := some 147) (v := ?_) (a' := ?_) (rb8 [5, 4, 3, 28]) rfl rfl (qg0 HT_.out (by kernel_rfl)) (fun _ _ _ h => h) (Or.inl ⟨by rfl, ?_⟩) ?_ ?_
                rotate_left
                ·intro w'
                 go_simp
                 with_reducible rfl
                rotate_left
                ·simp only [Act.put, List.setIfInBounds_toArray, List.set_cons_zero, List.set_cons_succ, i64_w, i32_w]
                 rfl
                refine pure_ (i := 12) (N := some 148) (v := ?_) (a' := ?_) (rb8 [5, 4, 4, 27]) rfl rfl (qg0 HT_.out (by kernel_rfl)) (fun _ _ _ h => h) (Or.inl ⟨by rfl, ?_⟩) ?_ ?_
                rotate_left
                ·intro w'
                 go_simp
                 with_reducible rfl
                rotate_left
                ·simp only [Act.put, List.setIfInBounds_toArray, List.set_cons_zero, List.set_cons_succ, i64_w, i32_w]
                 rfl
                refine pure_ (i := 13) (N := some 149) (v := ?_) (a' := ?_) (rb8 [5, 4, 5, 26]) rfl rfl (qg0 HT_.out (by kernel_rfl)) (fun _ _ _ h => h) (Or.inl ⟨by rfl, ?_⟩) ?_ ?_
                rotate_left
                ·intro w'
                 go_simp
                 with_reducible rfl
                rotate_left
                ·simp only [Act.put, List.setIfInBounds_toArray, List.set_cons_zero, List.set_cons_succ, i64_w, i32_w]
                 rfl
                refine pure_ (i := 14) (N := some 150) (v := ?_) (a' := ?_) (rb8 [5, 4, 6, 25]) rfl rfl (qg0 HT_.out (by kernel_rfl)) (fun _ _ _ h => h) (Or.inl ⟨by rfl, ?_⟩) ?_ ?_
                rotate_left
                ·intro w'
                 go_simp
                 with_reducible rfl
                rotate_left
                ·simp only [Act.put, List.setIfInBounds_toArray, List.set_cons_zero, List.set_cons_succ, i64_w, i32_w]
                 rfl
                refine take_ (i := 5) (N := some 141) (v := ?_) (a' := ?_) (rb8 [6, 3, 6, 25]) rfl rfl (take_ofW HT_.out HW_.out (by kernel_rfl)) (fun _ _ _ h => h) (Or.inl ⟨by rfl, ?_⟩) hHeld ?_ ?_
                rotate_left
                ·rintro w' ⟨s0, s1, s2, s3, s4, s5, s6, s7, s8, s9⟩
                 go_simp
                 with_reducible rfl
                rotate_left
                ·simp only [Act.put, List.setIfInBounds_toArray, List.set_cons_zero, List.set_cons_succ, i64_w, i32_w]
                 rfl
                refine pure_ (i := 6) (N := some 142) (v := ?_) (a' := ?_) (rb8 [7, 2, 6, 25]) rfl rfl (qg0 HT_.out (by kernel_rfl)) (fun _ _ _ h => h) (Or.inl ⟨by rfl, ?_⟩) ?_ ?_
                rotate_left
                ·intro w'
                 go_simp
                 with_reducible rfl
                rotate_left
                ·simp only [Act.put, List.setIfInBounds_toArray, List.set_cons_zero, List.set_cons_succ, i64_w, i32_w]
                 rfl
                refine pure_ (i := 7) (N := some 143) (v := ?_) (a' := ?_) (rb8 [8, 1, 6, 25]) rfl rfl (qg0 HT_.out (by kernel_rfl)) (fun _ _ _ h => h) (Or.inl ⟨by rfl, ?_⟩) ?_ ?_
                rotate_left
                ·intro w'
                 go_simp
                 with_reducible rfl
                rotate_left
                ·simp only [Act.put, List.setIfInBounds_toArray, List.set_cons_zero, List.set_cons_succ, i64_w, i32_w]
                 rfl
                refine take_ (i := 8) (N := some 144) (v := ?_) (a' := ?_) (rb8 [15, 25]) rfl rfl (take_ofW HT_.out HW_.out (by kernel_rfl)) (fun _ _ _ h => h) (Or.inl ⟨by rfl, ?_⟩) hHeld ?_ ?_
                rotate_left
                ·rintro w' ⟨s0, s1, s2, s3, s4, s5, s6, s7, s8, s9⟩
                 go_simp
                 with_reducible rfl
                rotate_left
                ·simp only [Act.put, List.setIfInBounds_toArray, List.set_cons_zero, List.set_cons_succ, i64_w, i32_w]
                 rfl
                refine take_ (i := 15) (N := some 151) (v := ?_) (a' := ?_) (rb8 [16, 24]) rfl rfl (take_ofW HT_.out HW_.out (by kernel_rfl)) (fun _ _ _ h => h) (Or.inl ⟨by rfl, ?_⟩) hHeld ?_ ?_
                rotate_left
                ·rintro w' ⟨s0, s1, s2, s3, s4, s5, s6, s7, s8, s9⟩
                 go_simp
                 with_reducible rfl
                rotate_left
                ·simp only [Act.put, List.setIfInBounds_toArray, List.set_cons_zero, List.set_cons_succ, i64_w, i32_w]
                 rfl
                refine pure_ (i := 16) (N := some 152) (v := ?_) (a' := ?_) (rb8 [17, 23]) rfl rfl (qg0 HT_.out (by kernel_rfl)) (fun _ _ _ h => h) (Or.inl ⟨by rfl, ?_⟩) ?_ ?_
                rotate_left
                ·intro w'
                 go_simp
                 with_reducible rfl
                rotate_left
                ·simp only [Act.put, List.setIfInBounds_toArray, List.set_cons_zero, List.set_cons_succ, i64_w, i32_w]
                 rfl
                refine pure_ (i := 17) (N := some 153) (v := ?_) (a' := ?_) (rb8 [18, 22]) rfl rfl (qg0 HT_.out (by kernel_rfl)) (fun _ _ _ h => h) (Or.inl ⟨by rfl, ?_⟩) ?_ ?_
                rotate_left
                ·intro w'
                 go_simp
                 with_reducible rfl
                rotate_left
                ·simp only [Act.put, List.setIfInBounds_toArray, List.set_cons_zero, List.set_cons_succ, i64_w, i32_w]
                 rfl
                refine take_ (i := 18) (N := some 154) (v := ?_) (a' := ?_) (rb8 [19, 21]) rfl rfl (take_ofW HT_.out HW_.out (by kernel_rfl)) (fun _ _ _ h => h) (Or.inl ⟨by rfl, ?_⟩) hHeld ?_ ?_
                rotate_left
                ·rintro w' ⟨s0, s1, s2, s3, s4, s5, s6, s7, s8, s9⟩
                 go_simp
                 with_reducible rfl
                rotate_left
                ·simp only [Act.put, List.setIfInBounds_toArray, List.set_cons_zero, List.set_cons_succ, i64_w, i32_w]
                 rfl
                refine pure_ (i := 19) (N := some 155) (v := ?_) (a' := ?_) (rb8 [20, 20]) rfl rfl (qg0 HT_.out (by kernel_rfl)) (fun _ _ _ h => h) (Or.inl ⟨by rfl, ?_⟩) ?_ ?_
                rotate_left
                ·intro w'
                 go_simp
                 with_reducible rfl
                rotate_left
                ·simp only [Act.put, List.setIfInBounds_toArray, List.set_cons_zero, List.set_cons_succ, i64_w, i32_w]
                 rfl
                refine pure_ (i := 20) (N := some 156) (v := ?_) (a' := ?_) (rb8 [21, 19]) rfl rfl (qg0 HT_.out (by kernel_rfl)) (fun _ _ _ h => h) (Or.inl ⟨by rfl, ?_⟩) ?_ ?_
                rotate_left
                ·intro w'
                 go_simp
                 with_reducible rfl
                rotate_left
                ·simp only [Act.put, List.setIfInBounds_toArray, List.set_cons_zero, List.set_cons_succ, i64_w, i32_w]
                 rfl
                refine pure_ (i := 21) (N := some 157) (v := undef) (a' := ?_) (rb8 [22, 18]) rfl rfl (qg0 HT_.out (by kernel_rfl)) (fun _ _ _ h => h) (Or.inr ⟨by rfl, rfl⟩) ?_ ?_
                rotate_left
                ·simp only [Act.put, List.setIfInBounds_toArray, List.set_cons_zero, List.set_cons_succ, i64_w, i32_w]
                 rfl
                refine pure_ (i := 22) (N := some 158) (v := undef) (a' := ?_) (rb8 [23, 17]) rfl rfl (qg0 HT_.out (by kernel_rfl)) (fun _ _ _ h => h) (Or.inr ⟨by rfl, rfl⟩) ?_ ?_
                rotate_left
                ·simp only [Act.put, List.setIfInBounds_toArray, List.set_cons_zero, List.set_cons_succ, i64_w, i32_w]
                 rfl
                refine pure_ (i := 23) (N := some 159) (v := undef) (a' := ?_) (rb8 [24, 16]) rfl rfl (qg0 HT_.out (by kernel_rfl)) (fun _ _ _ h => h) (Or.inr ⟨by rfl, rfl⟩) ?_ ?_
                rotate_left
                ·simp only [Act.put, List.setIfInBounds_toArray, List.set_cons_zero, List.set_cons_succ, i64_w, i32_w]
                 rfl
                refine pure_ (i := 24) (N := some 160) (v := undef) (a' := ?_) (rb8 [25, 15]) rfl rfl (qg0 HT_.out (by kernel_rfl)) (fun _ _ _ h => h) (Or.inr ⟨by rfl, rfl⟩) ?_ ?_
                rotate_left
                ·simp only [Act.put, List.setIfInBounds_toArray, List.set_cons_zero, List.set_cons_succ, i64_w, i32_w]
                 rfl
                refine pure_ (i := 25) (N := some 161) (v := undef) (a' := ?_) (rb8 [26, 14]) rfl rfl (qg0 HT_.out (by kernel_rfl)) (fun _ _ _ h => h) (Or.inr ⟨by rfl, rfl⟩) ?_ ?_
                rotate_left
                ·simp only [Act.put, List.setIfInBounds_toArray, List.set_cons_zero, List.set_cons_succ, i64_w, i32_w]
                 rfl
                refine pure_ (i := 26) (N := some 162) (v := undef) (a' := ?_) (rb8 [27, 13]) rfl rfl (qg0 HT_.out (by kernel_rfl)) (fun _ _ _ h => h) (Or.inr ⟨by rfl, rfl⟩) ?_ ?_
                rotate_left
                ·simp only [Act.put, List.setIfInBounds_toArray, List.set_cons_zero, List.set_cons_succ, i64_w, i32_w]
                 rfl
                refine pure_ (i := 27) (N := some 163) (v := undef) (a' := ?_) (rb8 [28, 12]) rfl rfl (qg0 HT_.out (by kernel_rfl)) (fun _ _ _ h => h) (Or.inr ⟨by rfl, rfl⟩) ?_ ?_
                rotate_left
                ·simp only [Act.put, List.setIfInBounds_toArray, List.set_cons_zero, List.set_cons_succ, i64_w, i32_w]
                 rfl
                refine pure_ (i := 28) (N := some 164) (v := undef) (a' := ?_) (rb8 [29, 11]) rfl rfl (qg0 HT_.out (by kernel_rfl)) (fun _ _ _ h => h) (Or.inr ⟨by rfl, rfl⟩) ?_ ?_
                rotate_left
                ·simp only [Act.put, List.setIfInBounds_toArray, List.set_cons_zero, List.set_cons_succ, i64_w, i32_w]
                 rfl
                refine pure_ (i := 29) (N := some 165) (v := undef) (a' := ?_) (rb8 [30, 10]) rfl rfl (qg0 HT_.out (by kernel_rfl)) (fun _ _ _ h => h) (Or.inr ⟨by rfl, rfl⟩) ?_ ?_
                rotate_left
                ·simp only [Act.put, List.setIfInBounds_toArray, List.set_cons_zero, List.set_cons_succ, i64_w, i32_w]
                 rfl
                refine pure_ (i := 30) (N := some 166) (v := undef) (a' := ?_) (rb8 [31, 9]) rfl rfl (qg0 HT_.out (by kernel_rfl)) (fun _ _ _ h => h) (Or.inr ⟨by rfl, rfl⟩) ?_ ?_
                rotate_left
                ·simp only [Act.put, List.setIfInBounds_toArray, List.set_cons_zero, List.set_cons_succ, i64_w, i32_w]
                 rfl
                refine pure_ (i := 31) (N := some 167) (v := undef) (a' := ?_) (rb8 [32, 8]) rfl rfl (qg0 HT_.out (by kernel_rfl)) (fun _ _ _ h => h) (Or.inr ⟨by rfl, rfl⟩) ?_ ?_
                rotate_left
                ·simp only [Act.put, List.setIfInBounds_toArray, List.set_cons_zero, List.set_cons_succ, i64_w, i32_w]
                 rfl
                refine pure_ (i := 32) (N := some 168) (v := undef) (a' := ?_) (rb8 [33, 7]) rfl rfl (qg0 HT_.out (by kernel_rfl)) (fun _ _ _ h => h) (Or.inr ⟨by rfl, rfl⟩) ?_ ?_
                rotate_left
                ·simp only [Act.put, List.setIfInBounds_toArray, List.set_cons_zero, List.set_cons_succ, i64_w, i32_w]
                 rfl
                refine pure_ (i := 33) (N := some 169) (v := undef) (a' := ?_) (rb8 [34, 6]) rfl rfl (qg0 HT_.out (by kernel_rfl)) (fun _ _ _ h => h) (Or.inr ⟨by rfl, rfl⟩) ?_ ?_
                rotate_left
                ·simp only [Act.put, List.setIfInBounds_toArray, List.set_cons_zero, List.set_cons_succ, i64_w, i32_w]
                 rfl
                refine pure_ (i := 34) (N := some 170) (v := undef) (a' := ?_) (rb8 [35, 5]) rfl rfl (qg0 HT_.out (by kernel_rfl)) (fun _ _ _ h => h) (Or.inr ⟨by rfl, rfl⟩) ?_ ?_
                rotate_left
                ·simp only [Act.put, List.setIfInBounds_toArray, List.set_cons_zero, List.set_cons_succ, i64_w, i32_w]
                 rfl
                refine pure_ (i := 35) (N := some 171) (v := undef) (a' := ?_) (rb8 [36, 4]) rfl rfl (qg0 HT_.out (by kernel_rfl)) (fun _ _ _ h => h) (Or.inr ⟨by rfl, rfl⟩) ?_ ?_
                rotate_left
                ·simp only [Act.put, List.setIfInBounds_toArray, List.set_cons_zero, List.set_cons_succ, i64_w, i32_w]
                 rfl
                refine pure_ (i := 36) (N := some 172) (v := undef) (a' := ?_) (rb8 [37, 3]) rfl rfl (qg0 HT_.out (by kernel_rfl)) (fun _ _ _ h => h) (Or.inr ⟨by rfl, rfl⟩) ?_ ?_
                rotate_left
                ·simp only [Act.put, List.setIfInBounds_toArray, List.set_cons_zero, List.set_cons_succ, i64_w, i32_w]
                 rfl
                refine pure_ (i := 37) (N := some 173) (v := undef) (a' := ?_) (rb8 [38, 2]) rfl rfl (qg0 HT_.out (by kernel_rfl)) (fun _ _ _ h => h) (Or.inr ⟨by rfl, rfl⟩) ?_ ?_
                rotate_left
                ·simp only [Act.put, List.setIfInBounds_toArray, List.set_cons_zero, List.set_cons_succ, i64_w, i32_w]
                 rfl
                refine pure_ (i := 38) (N := some 174) (v := ?_) (a' := ?_) (rb8 [39, 1]) rfl rfl (qg0 HT_.out (by kernel_rfl)) (fun _ _ _ h => h) (Or.inl ⟨by rfl, ?_⟩) ?_ ?_
                rotate_left
                ·intro w'
                 go_simp
                 with_reducible rfl
                rotate_left
                ·simp only [Act.put, List.setIfInBounds_toArray, List.set_cons_zero, List.set_cons_succ, i64_w, i32_w]
                 rfl
                refine pure_ (i := 39) (N := some 175) (v := ?_) (a' := ?_) (rb8 [40]) rfl rfl (qg0 HT_.out (by kernel_rfl)) (fun _ _ _ h => h) (Or.inl ⟨by rfl, ?_⟩) ?_ ?_
                rotate_left
                ·intro w'
                 go_simp
                 with_reducible rfl
                rotate_left
                ·simp only [Act.put, List.setIfInBounds_toArray, List.set_cons_zero, List.set_cons_succ, i64_w, i32_w]
                 rfl
                refine done_ (done_of HT_.out (by kernel_rfl)) ?_
                try go_wp2
                go_meet
                case rel => exact ⟨_, (true), (by first | rfl | (simp; done) | (simp [*]; done)), H', ⟨by have := HJ4.out; have := HK2.out; have := HK3.out; have := HK4.out; have := HJ63.out; first | omega | exact Nat.le_refl _⟩, ⟨by (with_reducible repeat (first | apply Kd.qe0 | apply Kd.qd0 | apply Kd.qf0)); exact HO_4.out⟩, ⟨by (with_reducible repeat (first | apply Kd.qe0 | apply Kd.qd0 | apply Kd.qf0)); exact HO_5.out⟩, ⟨by (with_reducible repeat (first | apply Kd.qe0 | apply Kd.qd0 | apply Kd.qf0)); exact HO_7.out⟩, ⟨by (with_reducible repeat (first | apply Kd.qe0 | apply Kd.qd0 | apply Kd.qf0)); exact HO_8.out⟩, ⟨by (with_reducible repeat (first | apply Kd.qe0 | apply Kd.qd0 | apply Kd.qf0)); exact HO_9.out⟩, ⟨by (with_reducible repeat (first | refine qn0 ?_ _ | refine qp0 ?_ | refine qo0 ?_ _)); exact BK332.out⟩, ⟨by repeat (first | (with_reducible first | exact HB.out | apply qc0 | apply qa0 | apply qb0 | refine qh0 ?_ GE332.out) | exact HB.out)⟩⟩
               rw [if_neg c92] at H
               have c92b0 : decide (((rd_T27 t309 ((rd_T30 t318 x12_4).f0)).f0) < ((rd_T27 t309 ((rd_T30 t318 (ji87)).f0)).f0)) = false := decide_eq_false c92
               clear c92
               by_cases c94 : 0 ≤ ((rd_T30 t318 x12_4).f1)
               case neg => rw [if_neg c94] at H; exact absurd H (by simp)
               rw [if_pos c94] at H
               have c94b0 : decide (0 ≤ ((rd_T30 t318 x12_4).f1)) = true := decide_eq_true c94
               clear c94
               by_cases c95 : ((rd_T30 t318 x12_4).f1) < (t310.length : Int)
               case neg => rw [if_neg c95] at H; exact absurd H (by simp)
               rw [if_pos c95] at H
               have c95b0 : decide (((rd_T30 t318 x12_4).f1) < (t310.length : Int)) = true := decide_eq_true c95
               clear c95
               by_cases c96 : 0 ≤ ((rd_T30 t318 (ji87)).f1)
               case neg => rw [if_neg c96] at H; exact absurd H (by simp)
               rw [if_pos c96] at H
               have c96b0 : decide (0 ≤ ((rd_T30 t318 (ji87)).f1)) = true := decide_eq_true c96
               clear c96
               by_cases c97 : ((rd_T30 t318 (ji87)).f1) < (t310.length : Int)
               case neg => rw [if_neg c97] at H; exact absurd H (by simp)
               rw [if_pos c97] at H
               have c97b0 : decide (((rd_T30 t318 (ji87)).f1) < (t310.length : Int)) = true := decide_eq_true c97
               clear c97
               have H' := Aside0.mk H
               clear H
               try go_wp2
               have n0_ := Aside0.mk (Kd.qf0 HO_4.out)
               have n1_ := Aside0.mk (Kd.qf0 HO_5.out)
               have n2_ := Aside0.mk (Kd.qf0 HO_7.out)
               have n3_ := Aside0.mk (Kd.qf0 HO_8.out)
               have n4_ := Aside0.mk (Kd.qf0 HO_9.out)
               have n5_ := Aside0.mk (qp0 BK332.out)
               have n6_ := Aside0.mk (qb0 HB.out)
               clear HO_4
               clear HO_5
               clear HO_7
               clear HO_8
               clear HO_9
               clear BK332
               clear HB
               have HO_4 := n0_
               have HO_5 := n1_
               have HO_7 := n2_
               have HO_8 := n3_
               have HO_9 := n4_
               have BK332 := n5_
               have HB := n6_
               clear n0_ n1_ n2_ n3_ n4_ n5_ n6_
               have p333 : 0 ≤ (((rd_T30 t318 x12_4).f0) : Int) := of_decide_eq_true (by first | (with_reducible assumption) | assumption)
               have q333 : ((rd_T30 t318 x12_4).f0) < (t309.length : Int) := of_decide_eq_true (by first | (with_reducible assumption) | assumption)
               obtain ⟨ad333, e333, hx333_0, hx333_1⟩ := at_T27 (Kd.qi0 HO_4.out).2.2 ((rd_T30 t318 x12_4).f0) p333 q333
               cases e333
               replace p333 := eq_true p333
               replace q333 := eq_true q333
               have p334 : 0 ≤ ((ji87) : Int) := of_decide_eq_true (by first | (with_reducible assumption) | assumption)
               have q334 : (ji87) < (t318.length : Int) := of_decide_eq_true (by first | (with_reducible assumption) | assumption)
               obtain ⟨ad334, e334, hx334_0, hx334_1, hx334_2⟩ := at_T30 (Kd.qi0 HO_7.out).2.2 (ji87) p334 q334
               obtain rfl : ad331 = ad334 := (by injection e334)
               replace p334 := eq_true p334
               replace q334 := eq_true q334
               have p335 : 0 ≤ (((rd_T30 t318 (ji87)).f0) : Int) := of_decide_eq_true (by first | (with_reducible assumption) | assumption)
               have q335 : ((rd_T30 t318 (ji87)).f0) < (t309.length : Int) := of_decide_eq_true (by first | (with_reducible assumption) | assumption)
               obtain ⟨ad335, e335, hx335_0, hx335_1⟩ := at_T27 (Kd.qi0 HO_4.out).2.2 ((rd_T30 t318 (ji87)).f0) p335 q335
               obtain rfl : ad333 = ad335 := (by injection e335)
               replace p335 := eq_true p335
               replace q335 := eq_true q335
               have p336 : 0 ≤ (((rd_T30 t318 x12_4).f1) : Int) := of_decide_eq_true (by first | (with_reducible assumption) | assumption)
               have q336 : ((rd_T30 t318 x12_4).f1) < (t310.length : Int) := of_decide_eq_true (by first | (with_reducible assumption) | assumption)
               obtain ⟨ad336, e336, hx336_0, hx336_1⟩ := at_T27 (Kd.qi0 HO_5.out).2.2 ((rd_T30 t318 x12_4).f1) p336 q336
               cases e336
               replace p336 := eq_true p336
               replace q336 := eq_true q336
               have p337 : 0 ≤ ((ji87) : Int) := of_decide_eq_true (by first | (with_reducible assumption) | assumption)
               have q337 : (ji87) < (t318.length : Int) := of_decide_eq_true (by first | (with_reducible assumption) | assumption)
               obtain ⟨ad337, e337, hx337_0, hx337_1, hx337_2⟩ := at_T30 (Kd.qi0 HO_7.out).2.2 (ji87) p337 q337
               obtain rfl : ad331 = ad337 := (by injection e337)
               replace p337 := eq_true p337
               replace q337 := eq_true q337
               have p338 : 0 ≤ (((rd_T30 t318 (ji87)).f1) : Int) := of_decide_eq_true (by first | (with_reducible assumption) | assumption)
               have q338 : ((rd_T30 t318 (ji87)).f1) < (t310.length : Int) := of_decide_eq_true (by first | (with_reducible assumption) | assumption)
               obtain ⟨ad338, e338, hx338_0, hx338_1⟩ := at_T27 (Kd.qi0 HO_5.out).2.2 ((rd_T30 t318 (ji87)).f1) p338 q338
               obtain rfl : ad336 = ad338 := (by injection e338)
               replace p338 := eq_true p338
               replace q338 := eq_true q338
               refine start_ (n := 40) (S := fun w' => w'.cell? ⟨gb332, 0, none⟩ = some (.int .i64 ((rd_T30 t318 x12_4).f0)) ∧ w'.cell? ⟨gb332, 1, none⟩ = some (.int .i64 ((rd_T30 t318 x12_4).f1)) ∧ w'.cell? ⟨gb332, 2, none⟩ = some (.int .i64 ((rd_T30 t318 x12_4).f2)) ∧ w'.cell? (ad333.add ((((rd_T30 t318 x12_4).f0)).toNat * 2)) = some (.int .i64 ((rd_T27 t309 ((rd_T30 t318 x12_4).f0)).f0)) ∧ w'.cell? ⟨(ad333.add ((((rd_T30 t318 x12_4).f0)).toNat * 2)).block, (ad333.add ((((rd_T30 t318 x12_4).f0)).toNat * 2)).off + 1, none⟩ = some (.int .i64 ((rd_T27 t309 ((rd_T30 t318 x12_4).f0)).f1)) ∧ w'.cell? (ad331.add (((ji87)).toNat * 3)) = some (.int .i64 ((rd_T30 t318 (ji87)).f0)) ∧ w'.cell? ⟨(ad331.add (((ji87)).toNat * 3)).block, (ad331.add (((ji87)).toNat * 3)).off + 1, none⟩ = some (.int .i64 ((rd_T30 t318 (ji87)).f1)) ∧ w'.cell? ⟨(ad331.add (((ji87)).toNat * 3)).block, (ad331.add (((ji87)).toNat * 3)).off + 2, none⟩ = some (.int .i64 ((rd_T30 t318 (ji87)).f2)) ∧ w'.cell? (ad333.add ((((rd_T30 t318 (ji87)).f0)).toNat * 2)) = some (.int .i64 ((rd_T27 t309 ((rd_T30 t318 (ji87)).f0)).f0)) ∧ w'.cell? ⟨(ad333.add ((((rd_T30 t318 (ji87)).f0)).toNat * 2)).block, (ad333.add ((((rd_T30 t318 (ji87)).f0)).toNat * 2)).off + 1, none⟩ = some (.int .i64 ((rd_T27 t309 ((rd_T30 t318 (ji87)).f0)).f1)) ∧ w'.cell? (ad336.add ((((rd_T30 t318 x12_4).f1)).toNat * 2)) = some (.int .i64 ((rd_T27 t310 ((rd_T30 t318 x12_4).f1)).f0)) ∧ w'.cell? ⟨(ad336.add ((((rd_T30 t318 x12_4).f1)).toNat * 2)).block, (ad336.add ((((rd_T30 t318 x12_4).f1)).toNat * 2)).off + 1, none⟩ = some (.int .i64 ((rd_T27 t310 ((rd_T30 t318 x12_4).f1)).f1)) ∧ w'.cell? (ad331.add (((ji87)).toNat * 3)) = some (.int .i64 ((rd_T30 t318 (ji87)).f0)) ∧ w'.cell? ⟨(ad331.add (((ji87)).toNat * 3)).block, (ad331.add (((ji87)).toNat * 3)).off + 1, none⟩ = some (.int .i64 ((rd_T30 t318 (ji87)).f1)) ∧ w'.cell? ⟨(ad331.add (((ji87)).toNat * 3)).block, (ad331.add (((ji87)).toNat * 3)).off + 2, none⟩ = some (.int .i64 ((rd_T30 t318 (ji87)).f2)) ∧ w'.cell? (ad336.add ((((rd_T30 t318 (ji87)).f1)).toNat * 2)) = some (.int .i64 ((rd_T27 t310 ((rd_T30 t318 (ji87)).f1)).f0)) ∧ w'.cell? ⟨(ad336.add ((((rd_T30 t318 (ji87)).f1)).toNat * 2)).block, (ad336.add ((((rd_T30 t318 (ji87)).f1)).toNat * 2)).off + 1, none⟩ = some (.int .i64 ((rd_T27 t310 ((rd_T30 t318 (ji87)).f1)).f1))) (ds := []) (rb8 [0, 40]) (by kernel_rfl) rfl rfl ⟨(qu0 BK332.out 0).trans rfl, (qu0 BK332.out 1).trans rfl, (qu0 BK332.out 2).trans rfl, hx333_0, hx333_1, hx334_0, hx334_1, hx334_2, hx335_0, hx335_1, hx336_0, hx336_1, hx337_0, hx337_1, hx337_2, hx338_0, hx338_1⟩ (fun hHeld => ?_); refine with_tabW laws_FnSettled.tab29 laws_FnSettled.bits29 (fun HT_ HW_ => ?_)
               generalize wc.drew = w98 at HO_4 HO_5 HO_7 HO_8 HO_9 BK332 HB hx333_0 hx333_1 hx334_0 hx334_1 hx334_2 hx335_0 hx335_1 hx336_0 hx336_1 hx337_0 hx337_1 hx337_2 hx338_0 hx338_1 hHeld ⊢
               refine pure_ (i := 0) (N := some 136) (v := ?_) (a' := ?_) (rb8 [1, 39]) rfl rfl (qg0 HT_.out (by kernel_rfl)) (fun _ _ _ h => h) (Or.inl ⟨by rfl, ?_⟩) ?_ ?_
               rotate_left
               ·intro w'
                go_simp
                with_reducible rfl
               rotate_left
               ·simp only [Act.put, List.setIfInBounds_toArray, List.set_cons_zero, List.set_cons_succ, i64_w, i32_w]
                rfl
               refine pure_ (i := 1) (N := some 137) (v := ?_) (a' := ?_) (rb8 [2, 38]) rfl rfl (qg0 HT_.out (by kernel_rfl)) (fun _ _ _ h => h) (Or.inl ⟨by rfl, ?_⟩) ?_ ?_
               rotate_left
               ·intro w'
                go_simp
                with_reducible rfl
               rotate_left
               ·simp only [Act.put, List.setIfInBounds_toArray, List.set_cons_zero, List.set_cons_succ, i64_w, i32_w]
                rfl
               refine pure_ (i := 2) (N := some 138) (v := ?_) (a' := ?_) (rb8 [3, 37]) rfl rfl (qg0 HT_.out (by kernel_rfl)) (fun _ _ _ h => h) (Or.inl ⟨by rfl, ?_⟩) ?_ ?_
               rotate_left
               ·intro w'
                go_simp
                with_reducible rfl
               rotate_left
               ·simp only [Act.put, List.setIfInBounds_toArray, List.set_cons_zero, List.set_cons_succ, i64_w, i32_w]
                rfl
               refine pure_ (i := 3) (N := some 139) (v := ?_) (a' := ?_) (rb8 [4, 36]) rfl rfl (qg0 HT_.out (by kernel_rfl)) (fun _ _ _ h => h) (Or.inl ⟨by rfl, ?_⟩) ?_ ?_
               rotate_left
               ·intro w'
                go_simp
                with_reducible rfl
               rotate_left
               ·simp only [Act.put, List.setIfInBounds_toArray, List.set_cons_zero, List.set_cons_succ, i64_w, i32_w]
                rfl
               refine pure_ (i := 4) (N := some 140) (v := ?_) (a' := ?_) (rb8 [5, 35]) rfl rfl (qg0 HT_.out (by kernel_rfl)) (fun _ _ _ h => h) (Or.inl ⟨by rfl, ?_⟩) ?_ ?_
               rotate_left
               ·intro w'
                go_simp
                with_reducible rfl
               rotate_left
               ·simp only [Act.put, List.setIfInBounds_toArray, List.set_cons_zero, List.set_cons_succ, i64_w, i32_w]
                rfl
               refine pure_ (i := 9) (N := some 145) (v := ?_) (a' := ?_) (rb8 [5, 4, 1, 30]) rfl rfl (qg0 HT_.out (by kernel_rfl)) (fun _ _ _ h => h) (Or.inl ⟨by rfl, ?_⟩) ?_ ?_
               rotate_left
               ·intro w'
                go_simp
                with_reducible rfl
               rotate_left
               ·simp only [Act.put, List.setIfInBounds_toArray, List.set_cons_zero, List.set_cons_succ, i64_w, i32_w]
                rfl
               refine pure_ (i := 10) (N := some 146) (v := ?_) (a' := ?_) (rb8 [5, 4, 2, 29]) rfl rfl (qg0 HT_.out (by kernel_rfl)) (fun _ _ _ h => h) (Or.inl ⟨by rfl, ?_⟩) ?_ ?_
               rotate_left
               ·intro w'
                go_simp
                with_reducible rfl
               rotate_left
               ·simp only [Act.put, List.setIfInBounds_toArray, List.set_cons_zero, List.set_cons_succ, i64_w, i32_w]
                rfl
               refine pure_ (i := 11) (N := some 147) (v := ?_) (a' := ?_) (rb8 [5, 4, 3, 28]) rfl rfl (qg0 HT_.out (by kernel_rfl)) (fun _ _ _ h => h) (Or.inl ⟨by rfl, ?_⟩) ?_ ?_
               rotate_left
               ·intro w'
                go_simp
                with_reducible rfl
               rotate_left
               ·simp only [Act.put, List.setIfInBounds_toArray, List.set_cons_zero, List.set_cons_succ, i64_w, i32_w]
                rfl
               refine pure_ (i := 12) (N := some 148) (v := ?_) (a' := ?_) (rb8 [5, 4, 4, 27]) rfl rfl (qg0 HT_.out (by kernel_rfl)) (fun _ _ _ h => h) (Or.inl ⟨by rfl, ?_⟩) ?_ ?_
               rotate_left
               ·intro w'
                go_simp
                with_reducible rfl
               rotate_left
               ·simp only [Act.put, List.setIfInBounds_toArray, List.set_cons_zero, List.set_cons_succ, i64_w, i32_w]
                rfl
               refine pure_ (i := 13) (N := some 149) (v := ?_) (a' := ?_) (rb8 [5, 4, 5, 26]) rfl rfl (qg0 HT_.out (by kernel_rfl)) (fun _ _ _ h => h) (Or.inl ⟨by rfl, ?_⟩) ?_ ?_
               rotate_left
               ·intro w'
                go_simp
                with_reducible rfl
               rotate_left
               ·simp only [Act.put, List.setIfInBounds_toArray, List.set_cons_zero, List.set_cons_succ, i64_w, i32_w]
                rfl
               refine pure_ (i := 14) (N := some 150) (v := ?_) (a' := ?_) (rb8 [5, 4, 6, 25]) rfl rfl (qg0 HT_.out (by kernel_rfl)) (fun _ _ _ h => h) (Or.inl ⟨by rfl, ?_⟩) ?_ ?_
               rotate_left
               ·intro w'
                go_simp
                with_reducible rfl
               rotate_left
               ·simp only [Act.put, List.setIfInBounds_toArray, List.set_cons_zero, List.set_cons_succ, i64_w, i32_w]
                rfl
               refine take_ (i := 5) (N := some 141) (v := ?_) (a' := ?_) (rb8 [6, 3, 6, 25]) rfl rfl (take_ofW HT_.out HW_.out (by kernel_rfl)) (fun _ _ _ h => h) (Or.inl ⟨by rfl, ?_⟩) hHeld ?_ ?_
               rotate_left
               ·rintro w' ⟨s0, s1, s2, s3, s4, s5, s6, s7, s8, s9, s10, s11, s12, s13, s14, s15, s16⟩
                go_simp
                with_reducible rfl
               rotate_left
               ·simp only [Act.put, List.setIfInBounds_toArray, List.set_cons_zero, List.set_cons_succ, i64_w, i32_w]
                rfl
               refine pure_ (i := 6) (N := some 142) (v := ?_) (a' := ?_) (rb8 [7, 2, 6, 25]) rfl rfl (qg0 HT_.out (by kernel_rfl)) (fun _ _ _ h => h) (Or.inl ⟨by rfl, ?_⟩) ?_ ?_
               rotate_left
               ·intro w'
                go_simp
                with_reducible rfl
               rotate_left
               ·simp only [Act.put, List.setIfInBounds_toArray, List.set_cons_zero, List.set_cons_succ, i64_w, i32_w]
                rfl
               refine pure_ (i := 7) (N := some 143) (v := ?_) (a' := ?_) (rb8 [8, 1, 6, 25]) rfl rfl (qg0 HT_.out (by kernel_rfl)) (fun _ _ _ h => h) (Or.inl ⟨by rfl, ?_⟩) ?_ ?_
               rotate_left
               ·intro w'
                go_simp
                with_reducible rfl
               rotate_left
               ·simp only [Act.put, List.setIfInBounds_toArray, List.set_cons_zero, List.set_cons_succ, i64_w, i32_w]
                rfl
               refine take_ (i := 8) (N := some 144) (v := ?_) (a' := ?_) (rb8 [15, 25]) rfl rfl (take_ofW HT_.out HW_.out (by kernel_rfl)) (fun _ _ _ h => h) (Or.inl ⟨by rfl, ?_⟩) hHeld ?_ ?_
               rotate_left
               ·rintro w' ⟨s0, s1, s2, s3, s4, s5, s6, s7, s8, s9, s10, s11, s12, s13, s14, s15, s16⟩
                go_simp
                with_reducible rfl
               rotate_left
               ·simp only [Act.put, List.setIfInBounds_toArray, List.set_cons_zero, List.set_cons_succ, i64_w, i32_w]
                rfl
               refine take_ (i := 15) (N := some 151) (v := ?_) (a' := ?_) (rb8 [16, 24]) rfl rfl (take_ofW HT_.out HW_.out (by kernel_rfl)) (fun _ _ _ h => h) (Or.inl ⟨by rfl, ?_⟩) hHeld ?_ ?_
               rotate_left
               ·rintro w' ⟨s0, s1, s2, s3, s4, s5, s6, s7, s8, s9, s10, s11, s12, s13, s14, s15, s16⟩
                go_simp
                with_reducible rfl
               rotate_left
               ·simp only [Act.put, List.setIfInBounds_toArray, List.set_cons_zero, List.set_cons_succ, i64_w, i32_w]
                rfl
               refine pure_ (i := 16) (N := some 152) (v := ?_) (a' := ?_) (rb8 [17, 23]) rfl rfl (qg0 HT_.out (by kernel_rfl)) (fun _ _ _ h => h) (Or.inl ⟨by rfl, ?_⟩) ?_ ?_
               rotate_left
               ·intro w'
                go_simp
                with_reducible rfl
               rotate_left
               ·simp only [Act.put, List.setIfInBounds_toArray, List.set_cons_zero, List.set_cons_succ, i64_w, i32_w]
                rfl
               refine pure_ (i := 17) (N := some 153) (v := ?_) (a' := ?_) (rb8 [18, 22]) rfl rfl (qg0 HT_.out (by kernel_rfl)) (fun _ _ _ h => h) (Or.inl ⟨by rfl, ?_⟩) ?_ ?_
               rotate_left
               ·intro w'
                go_simp
                with_reducible rfl
               rotate_left
               ·simp only [Act.put, List.setIfInBounds_toArray, List.set_cons_zero, List.set_cons_succ, i64_w, i32_w]
                rfl
               refine take_ (i := 18) (N := some 154) (v := ?_) (a' := ?_) (rb8 [19, 21]) rfl rfl (take_ofW HT_.out HW_.out (by kernel_rfl)) (fun _ _ _ h => h) (Or.inl ⟨by rfl, ?_⟩) hHeld ?_ ?_
               rotate_left
               ·rintro w' ⟨s0, s1, s2, s3, s4, s5, s6, s7, s8, s9, s10, s11, s12, s13, s14, s15, s16⟩
                go_simp
                with_reducible rfl
               rotate_left
               ·simp only [Act.put, List.setIfInBounds_toArray, List.set_cons_zero, List.set_cons_succ, i64_w, i32_w]
                rfl
               refine pure_ (i := 19) (N := some 155) (v := ?_) (a' := ?_) (rb8 [20, 20]) rfl rfl (qg0 HT_.out (by kernel_rfl)) (fun _ _ _ h => h) (Or.inl ⟨by rfl, ?_⟩) ?_ ?_
               rotate_left
               ·intro w'
                go_simp
                with_reducible rfl
               rotate_left
               ·simp only [Act.put, List.setIfInBounds_toArray, List.set_cons_zero, List.set_cons_succ, i64_w, i32_w]
                rfl
               refine pure_ (i := 20) (N := some 156) (v := ?_) (a' := ?_) (rb8 [21, 19]) rfl rfl (qg0 HT_.out (by kernel_rfl)) (fun _ _ _ h => h) (Or.inl ⟨by rfl, ?_⟩) ?_ ?_
               rotate_left
               ·intro w'
                go_simp
                with_reducible rfl
               rotate_left
               ·simp only [Act.put, List.setIfInBounds_toArray, List.set_cons_zero, List.set_cons_succ, i64_w, i32_w]
                rfl
               refine pure_ (i := 21) (N := some 157) (v := ?_) (a' := ?_) (rb8 [22, 18]) rfl rfl (qg0 HT_.out (by kernel_rfl)) (fun _ _ _ h => h) (Or.inl ⟨by rfl, ?_⟩) ?_ ?_
               rotate_left
               ·intro w'
                go_simp
                with_reducible rfl
               rotate_left
               ·simp only [Act.put, List.setIfInBounds_toArray, List.set_cons_zero, List.set_cons_succ, i64_w, i32_w]
                rfl
               refine pure_ (i := 22) (N := some 158) (v := ?_) (a' := ?_) (rb8 [23, 17]) rfl rfl (qg0 HT_.out (by kernel_rfl)) (fun _ _ _ h => h) (Or.inl ⟨by rfl, ?_⟩) ?_ ?_
               rotate_left
               ·intro w'
                go_simp
                with_reducible rfl
               rotate_left
               ·simp only [Act.put, List.setIfInBounds_toArray, List.set_cons_zero, List.set_cons_succ, i64_w, i32_w]
                rfl
               refine pure_ (i := 27) (N := some 163) (v := ?_) (a' := ?_) (rb8 [23, 4, 1, 12]) rfl rfl (qg0 HT_.out (by kernel_rfl)) (fun _ _ _ h => h) (Or.inl ⟨by rfl, ?_⟩) ?_ ?_
               rotate_left
               ·intro w'
                go_simp
                with_reducible rfl
               rotate_left
               ·simp only [Act.put, List.setIfInBounds_toArray, List.set_cons_zero, List.set_cons_succ, i64_w, i32_w]
                rfl
               refine pure_ (i := 28) (N := some 164) (v := ?_) (a' := ?_) (rb8 [23, 4, 2, 11]) rfl rfl (qg0 HT_.out (by kernel_rfl)) (fun _ _ _ h => h) (Or.inl ⟨by rfl, ?_⟩) ?_ ?_
               rotate_left
               ·intro w'
                go_simp
                with_reducible rfl
               rotate_left
               ·simp only [Act.put, List.setIfInBounds_toArray, List.set_cons_zero, List.set_cons_succ, i64_w, i32_w]
                rfl
               refine pure_ (i := 29) (N := some 165) (v := ?_) (a' := ?_) (rb8 [23, 4, 3, 10]) rfl rfl (qg0 HT_.out (by kernel_rfl)) (fun _ _ _ h => h) (Or.inl ⟨by rfl, ?_⟩) ?_ ?_
               rotate_left
               ·intro w'
                go_simp
                with_reducible rfl
               rotate_left
               ·simp only [Act.put, List.setIfInBounds_toArray, List.set_cons_zero, List.set_cons_succ, i64_w, i32_w]
                rfl
               refine pure_ (i := 30) (N := some 166) (v := ?_) (a' := ?_) (rb8 [23, 4, 4, 9]) rfl rfl (qg0 HT_.out (by kernel_rfl)) (fun _ _ _ h => h) (Or.inl ⟨by rfl, ?_⟩) ?_ ?_
               rotate_left
               ·intro w'
                go_simp
                with_reducible rfl
               rotate_left
               ·simp only [Act.put, List.setIfInBounds_toArray, List.set_cons_zero, List.set_cons_succ, i64_w, i32_w]
                rfl
               refine pure_ (i := 31) (N := some 167) (v := ?_) (a' := ?_) (rb8 [23, 4, 5, 8]) rfl rfl (qg0 HT_.out (by kernel_rfl)) (fun _ _ _ h => h) (Or.inl ⟨by rfl, ?_⟩) ?_ ?_
               rotate_left
               ·intro w'
                go_simp
                with_reducible rfl
               rotate_left
               ·simp only [Act.put, List.setIfInBounds_toArray, List.set_cons_zero, List.set_cons_succ, i64_w, i32_w]
                rfl
               refine pure_ (i := 32) (N := some 168) (v := ?_) (a' := ?_) (rb8 [23, 4, 6, 7]) rfl rfl (qg0 HT_.out (by kernel_rfl)) (fun _ _ _ h => h) (Or.inl ⟨by rfl, ?_⟩) ?_ ?_
               rotate_left
               ·intro w'
                go_simp
                with_reducible rfl
               rotate_left
               ·simp only [Act.put, List.setIfInBounds_toArray, List.set_cons_zero, List.set_cons_succ, i64_w, i32_w]
                rfl
               refine take_ (i := 23) (N := some 159) (v := ?_) (a' := ?_) (rb8 [24, 3, 6, 7]) rfl rfl (take_ofW HT_.out HW_.out (by kernel_rfl)) (fun _ _ _ h => h) (Or.inl ⟨by rfl, ?_⟩) hHeld ?_ ?_
               rotate_left
               ·rintro w' ⟨s0, s1, s2, s3, s4, s5, s6, s7, s8, s9, s10, s11, s12, s13, s14, s15, s16⟩
                go_simp
                with_reducible rfl
               rotate_left
               ·simp only [Act.put, List.setIfInBounds_toArray, List.set_cons_zero, List.set_cons_succ, i64_w, i32_w]
                rfl
               refine pure_ (i := 24) (N := some 160) (v := ?_) (a' := ?_) (rb8 [25, 2, 6, 7]) rfl rfl (qg0 HT_.out (by kernel_rfl)) (fun _ _ _ h => h) (Or.inl ⟨by rfl, ?_⟩) ?_ ?_
               rotate_left
               ·intro w'
                go_simp
                with_reducible rfl
               rotate_left
               ·simp only [Act.put, List.setIfInBounds_toArray, List.set_cons_zero, List.set_cons_succ, i64_w, i32_w]
                rfl
               refine pure_ (i := 25) (N := some 161) (v := ?_) (a' := ?_) (rb8 [26, 1, 6, 7]) rfl rfl (qg0 HT_.out (by kernel_rfl)) (fun _ _ _ h => h) (Or.inl ⟨by rfl, ?_⟩) ?_ ?_
               rotate_left
               ·intro w'
                go_simp
                with_reducible rfl
               rotate_left
               ·simp only [Act.put, List.setIfInBounds_toArray, List.set_cons_zero, List.set_cons_succ, i64_w, i32_w]
                rfl
               refine take_ (i := 26) (N := some 162) (v := ?_) (a' := ?_) (rb8 [33, 7]) rfl rfl (take_ofW HT_.out HW_.out (by kernel_rfl)) (fun _ _ _ h => h) (Or.inl ⟨by rfl, ?_⟩) hHeld ?_ ?_
               rotate_left
               ·rintro w' ⟨s0, s1, s2, s3, s4, s5, s6, s7, s8, s9, s10, s11, s12, s13, s14, s15, s16⟩
                go_simp
                with_reducible rfl
               rotate_left
               ·simp only [Act.put, List.setIfInBounds_toArray, List.set_cons_zero, List.set_cons_succ, i64_w, i32_w]
                rfl
               refine take_ (i := 33) (N := some 169) (v := ?_) (a' := ?_) (rb8 [34, 6]) rfl rfl (take_ofW HT_.out HW_.out (by kernel_rfl)) (fun _ _ _ h => h) (Or.inl ⟨by rfl, ?_⟩) hHeld ?_ ?_
               rotate_left
               ·rintro w' ⟨s0, s1, s2, s3, s4, s5, s6, s7, s8, s9, s10, s11, s12, s13, s14, s15, s16⟩
                go_simp
                with_reducible rfl
               rotate_left
               ·simp only [Act.put, List.setIfInBounds_toArray, List.set_cons_zero, List.set_cons_succ, i64_w, i32_w]
                rfl
               refine pure_ (i := 34) (N := some 170) (v := ?_) (a' := ?_) (rb8 [35, 5]) rfl rfl (qg0 HT_.out (by kernel_rfl)) (fun _ _ _ h => h) (Or.inl ⟨by rfl, ?_⟩) ?_ ?_
               rotate_left
               ·intro w'
                go_simp
                with_reducible rfl
               rotate_left
               ·simp only [Act.put, List.setIfInBounds_toArray, List.set_cons_zero, List.set_cons_succ, i64_w, i32_w]
                rfl
               refine pure_ (i := 35) (N := some 171) (v := ?_) (a' := ?_) (rb8 [36, 4]) rfl rfl (qg0 HT_.out (by kernel_rfl)) (fun _ _ _ h => h) (Or.inl ⟨by rfl, ?_⟩) ?_ ?_
               rotate_left
               ·intro w'
                go_simp
                with_reducible rfl
               rotate_left
               ·simp only [Act.put, List.setIfInBounds_toArray, List.set_cons_zero, List.set_cons_succ, i64_w, i32_w]
                rfl
               refine take_ (i := 36) (N := some 172) (v := ?_) (a' := ?_) (rb8 [37, 3]) rfl rfl (take_ofW HT_.out HW_.out (by kernel_rfl)) (fun _ _ _ h => h) (Or.inl ⟨by rfl, ?_⟩) hHeld ?_ ?_
               rotate_left
               ·rintro w' ⟨s0, s1, s2, s3, s4, s5, s6, s7, s8, s9, s10, s11, s12, s13, s14, s15, s16⟩
                go_simp
                with_reducible rfl
               rotate_left
               ·simp only [Act.put, List.setIfInBounds_toArray, List.set_cons_zero, List.set_cons_succ, i64_w, i32_w]
                rfl
               refine pure_ (i := 37) (N := some 173) (v := ?_) (a' := ?_) (rb8 [38, 2]) rfl rfl (qg0 HT_.out (by kernel_rfl)) (fun _ _ _ h => h) (Or.inl ⟨by rfl, ?_⟩) ?_ ?_
               rotate_left
               ·intro w'
                go_simp
                with_reducible rfl
               rotate_left
               ·simp only [Act.put, List.setIfInBounds_toArray, List.set_cons_zero, List.set_cons_succ, i64_w, i32_w]
                rfl
               refine pure_ (i := 38) (N := some 174) (v := ?_) (a' := ?_) (rb8 [39, 1]) rfl rfl (qg0 HT_.out (by kernel_rfl)) (fun _ _ _ h => h) (Or.inl ⟨by rfl, ?_⟩) ?_ ?_
               rotate_left
               ·intro w'
                go_simp
                with_reducible rfl
               rotate_left
               ·simp only [Act.put, List.setIfInBounds_toArray, List.set_cons_zero, List.set_cons_succ, i64_w, i32_w]
                rfl
               refine pure_ (i := 39) (N := some 175) (v := ?_) (a' := ?_) (rb8 [40]) rfl rfl (qg0 HT_.out (by kernel_rfl)) (fun _ _ _ h => h) (Or.inl ⟨by rfl, ?_⟩) ?_ ?_
               rotate_left
               ·intro w'
                go_simp
                with_reducible rfl
               rotate_left
               ·simp only [Act.put, List.setIfInBounds_toArray, List.set_cons_zero, List.set_cons_succ, i64_w, i32_w]
                rfl
               refine done_ (done_of HT_.out (by kernel_rfl)) ?_
               try go_wp2
               go_meet
               case rel => exact ⟨_, (decide (((rd_T27 t310 ((rd_T30 t318 x12_4).f1)).f0) < ((rd_T27 t310 ((rd_T30 t318 (ji87)).f1)).f0))), (by first | rfl | (simp; done) | (simp only [← hji87] <;> (first | rfl | simp)) | (simp [*]; done)), H', ⟨by have := HJ4.out; have := HK2.out; have := HK3.out; have := HK4.out; have := HJ63.out; first | omega | exact Nat.le_refl _⟩, ⟨by (with_reducible repeat (first | apply Kd.qe0 | apply Kd.qd0 | apply Kd.qf0)); exact HO_4.out⟩, ⟨by (with_reducible repeat (first | apply Kd.qe0 | apply Kd.qd0 | apply Kd.qf0)); exact HO_5.out⟩, ⟨by (with_reducible repeat (first | apply Kd.qe0 | apply Kd.qd0 | apply Kd.qf0)); exact HO_7.out⟩, ⟨by (with_reducible repeat (first | apply Kd.qe0 | apply Kd.qd0 | apply Kd.qf0)); exact HO_8.out⟩, ⟨by (with_reducible repeat (first | apply Kd.qe0 | apply Kd.qd0 | apply Kd.qf0)); exact HO_9.out⟩, ⟨by (with_reducible repeat (first | refine qn0 ?_ _ | refine qp0 ?_ | refine qo0 ?_ _)); exact BK332.out⟩, ⟨by repeat (first | (with_reducible first | exact HB.out | apply qc0 | apply qa0 | apply qb0 | refine qh0 ?_ GE332.out) | exact HB.out)⟩⟩
              rw [if_neg c84] at H
              have c84b0 : decide (0 < x12_4) = false := decide_eq_false c84
              clear c84
              (first | rw [c84b0] | (simp only [i64_w, i32_w]; rw [c84b0]) | skip)
              have H' := Aside0.mk H
              clear H
              try go_wp2
              have n0_ := Aside0.mk (Kd.qf0 HO_4.out)
              have n1_ := Aside0.mk (Kd.qf0 HO_5.out)
              have n2_ := Aside0.mk (Kd.qf0 HO_7.out)
              have n3_ := Aside0.mk (Kd.qf0 HO_8.out)
              have n4_ := Aside0.mk (Kd.qf0 HO_9.out)
              have n5_ := Aside0.mk (qp0 BK332.out)
              have n6_ := Aside0.mk (qb0 HB.out)
              clear HO_4
              clear HO_5
              clear HO_7
              clear HO_8
              clear HO_9
              clear BK332
              clear HB
              have HO_4 := n0_
              have HO_5 := n1_
              have HO_7 := n2_
              have HO_8 := n3_
              have HO_9 := n4_
              have BK332 := n5_
              have HB := n6_
              clear n0_ n1_ n2_ n3_ n4_ n5_ n6_
              refine start_ (n := 40) (S := fun w' => True) (ds := []) (rb8 [0, 40]) (by kernel_rfl) rfl rfl trivial (fun hHeld => ?_); refine with_tabW laws_FnSettled.tab29 laws_FnSettled.bits29 (fun HT_ HW_ => ?_)
              generalize wc.drew = w99 at HO_4 HO_5 HO_7 HO_8 HO_9 BK332 HB hHeld ⊢
              refine pure_ (i := 0) (N := some 136) (v := ?_) (a' := ?_) (rb8 [1, 39]) rfl rfl (qg0 HT_.out (by kernel_rfl)) (fun _ _ _ h => h) (Or.inl ⟨by rfl, ?_⟩) ?_ ?_
              rotate_left
              ·intro w'
               go_simp
               with_reducible rfl
              rotate_left
              ·simp only [Act.put, List.setIfInBounds_toArray, List.set_cons_zero, List.set_cons_succ, i64_w, i32_w]
               rfl
              refine pure_ (i := 1) (N := some 137) (v := ?_) (a' := ?_) (rb8 [2, 38]) rfl rfl (qg0 HT_.out (by kernel_rfl)) (fun _ _ _ h => h) (Or.inl ⟨by rfl, ?_⟩) ?_ ?_
              rotate_left
              ·intro w'
               go_simp
               with_reducible rfl
              rotate_left
              ·simp only [Act.put, List.setIfInBounds_toArray, List.set_cons_zero, List.set_cons_succ, i64_w, i32_w]
               rfl
              refine pure_ (i := 2) (N := some 138) (v := ?_) (a' := ?_) (rb8 [3, 37]) rfl rfl (qg0 HT_.out (by kernel_rfl)) (fun _ _ _ h => h) (Or.inl ⟨by rfl, ?_⟩) ?_ ?_
              rotate_left
              ·intro w'
               go_simp
               with_reducible rfl
              rotate_left
              ·simp only [Act.put, List.setIfInBounds_toArray, List.set_cons_zero, List.set_cons_succ, i64_w, i32_w]
               rfl
              refine pure_ (i := 3) (N := some 139) (v := undef) (a' := ?_) (rb8 [4, 36]) rfl rfl (qg0 HT_.out (by kernel_rfl)) (fun _ _ _ h => h) (Or.inr ⟨by rfl, rfl⟩) ?_ ?_
              rotate_left
              ·simp only [Act.put, List.setIfInBounds_toArray, List.set_cons_zero, List.set_cons_succ, i64_w, i32_w]
               rfl
              refine pure_ (i := 4) (N := some 140) (v := undef) (a' := ?_) (rb8 [5, 35]) rfl rfl (qg0 HT_.out (by kernel_rfl)) (fun _ _ _ h => h) (Or.inr ⟨by rfl, rfl⟩) ?_ ?_
              rotate_left
              ·simp only [Act.put, List.setIfInBounds_toArray, List.set_cons_zero, List.set_cons_succ, i64_w, i32_w]
               rfl
              refine pure_ (i := 5) (N := some 141) (v := undef) (a' := ?_) (rb8 [6, 34]) rfl rfl (qg0 HT_.out (by kernel_rfl)) (fun _ _ _ h => h) (Or.inr ⟨by rfl, rfl⟩) ?_ ?_
              rotate_left
              ·simp only [Act.put, List.setIfInBounds_toArray, List.set_cons_zero, List.set_cons_succ, i64_w, i32_w]
               rfl
              refine pure_ (i := 6) (N := some 142) (v := undef) (a' := ?_) (rb8 [7, 33]) rfl rfl (qg0 HT_.out (by kernel_rfl)) (fun _ _ _ h => h) (Or.inr ⟨by rfl, rfl⟩) ?_ ?_
              rotate_left
              ·simp only [Act.put, List.setIfInBounds_toArray, List.set_cons_zero, List.set_cons_succ, i64_w, i32_w]
               rfl
              refine pure_ (i := 7) (N := some 143) (v := undef) (a' := ?_) (rb8 [8, 32]) rfl rfl (qg0 HT_.out (by kernel_rfl)) (fun _ _ _ h => h) (Or.inr ⟨by rfl, rfl⟩) ?_ ?_
              rotate_left
              ·simp only [Act.put, List.setIfInBounds_toArray, List.set_cons_zero, List.set_cons_succ, i64_w, i32_w]
               rfl
              refine pure_ (i := 8) (N := some 144) (v := undef) (a' := ?_) (rb8 [9, 31]) rfl rfl (qg0 HT_.out (by kernel_rfl)) (fun _ _ _ h => h) (Or.inr ⟨by rfl, rfl⟩) ?_ ?_
              rotate_left
              ·simp only [Act.put, List.setIfInBounds_toArray, List.set_cons_zero, List.set_cons_succ, i64_w, i32_w]
               rfl
              refine pure_ (i := 9) (N := some 145) (v := undef) (a' := ?_) (rb8 [10, 30]) rfl rfl (qg0 HT_.out (by kernel_rfl)) (fun _ _ _ h => h) (Or.inr ⟨by rfl, rfl⟩) ?_ ?_
              rotate_left
              ·simp only [Act.put, List.setIfInBounds_toArray, List.set_cons_zero, List.set_cons_succ, i64_w, i32_w]
               rfl
              refine pure_ (i := 10) (N := some 146) (v := undef) (a' := ?_) (rb8 [11, 29]) rfl rfl (qg0 HT_.out (by kernel_rfl)) (fun _ _ _ h => h) (Or.inr ⟨by rfl, rfl⟩) ?_ ?_
              rotate_left
              ·simp only [Act.put, List.setIfInBounds_toArray, List.set_cons_zero, List.set_cons_succ, i64_w, i32_w]
               rfl
              refine pure_ (i := 11) (N := some 147) (v := undef) (a' := ?_) (rb8 [12, 28]) rfl rfl (qg0 HT_.out (by kernel_rfl)) (fun _ _ _ h => h) (Or.inr ⟨by rfl, rfl⟩) ?_ ?_
              rotate_left
              ·simp only [Act.put, List.setIfInBounds_toArray, List.set_cons_zero, List.set_cons_succ, i64_w, i32_w]
               rfl
              refine pure_ (i := 12) (N := some 148) (v := undef) (a' := ?_) (rb8 [13, 27]) rfl rfl (qg0 HT_.out (by kernel_rfl)) (fun _ _ _ h => h) (Or.inr ⟨by rfl, rfl⟩) ?_ ?_
              rotate_left
              ·simp only [Act.put, List.setIfInBounds_toArray, List.set_cons_zero, List.set_cons_succ, i64_w, i32_w]
               rfl
              refine pure_ (i := 13) (N := some 149) (v := undef) (a' := ?_) (rb8 [14, 26]) rfl rfl (qg0 HT_.out (by kernel_rfl)) (fun _ _ _ h => h) (Or.inr ⟨by rfl, rfl⟩) ?_ ?_
              rotate_left
              ·simp only [Act.put, List.setIfInBounds_toArray, List.set_cons_zero, List.set_cons_succ, i64_w, i32_w]
               rfl
              refine pure_ (i := 14) (N := some 150) (v := undef) (a' := ?_) (rb8 [15, 25]) rfl rfl (qg0 HT_.out (by kernel_rfl)) (fun _ _ _ h => h) (Or.inr ⟨by rfl, rfl⟩) ?_ ?_
              rotate_left
              ·simp only [Act.put, List.setIfInBounds_toArray, List.set_cons_zero, List.set_cons_succ, i64_w, i32_w]
               rfl
              refine pure_ (i := 15) (N := some 151) (v := undef) (a' := ?_) (rb8 [16, 24]) rfl rfl (qg0 HT_.out (by kernel_rfl)) (fun _ _ _ h => h) (Or.inr ⟨by rfl, rfl⟩) ?_ ?_
              rotate_left
              ·simp only [Act.put, List.setIfInBounds_toArray, List.set_cons_zero, List.set_cons_succ, i64_w, i32_w]
               rfl
              refine pure_ (i := 16) (N := some 152) (v := undef) (a' := ?_) (rb8 [17, 23]) rfl rfl (qg0 HT_.out (by kernel_rfl)) (fun _ _ _ h => h) (Or.inr ⟨by rfl, rfl⟩) ?_ ?_
              rotate_left
              ·simp only [Act.put, List.setIfInBounds_toArray, List.set_cons_zero, List.set_cons_succ, i64_w, i32_w]
               rfl
              refine pure_ (i := 17) (N := some 153) (v := undef) (a' := ?_) (rb8 [18, 22]) rfl rfl (qg0 HT_.out (by kernel_rfl)) (fun _ _ _ h => h) (Or.inr ⟨by rfl, rfl⟩) ?_ ?_
              rotate_left
              ·simp only [Act.put, List.setIfInBounds_toArray, List.set_cons_zero, List.set_cons_succ, i64_w, i32_w]
               rfl
              refine pure_ (i := 18) (N := some 154) (v := undef) (a' := ?_) (rb8 [19, 21]) rfl rfl (qg0 HT_.out (by kernel_rfl)) (fun _ _ _ h => h) (Or.inr ⟨by rfl, rfl⟩) ?_ ?_
              rotate_left
              ·simp only [Act.put, List.setIfInBounds_toArray, List.set_cons_zero, List.set_cons_succ, i64_w, i32_w]
               rfl
              refine pure_ (i := 19) (N := some 155) (v := undef) (a' := ?_) (rb8 [20, 20]) rfl rfl (qg0 HT_.out (by kernel_rfl)) (fun _ _ _ h => h) (Or.inr ⟨by rfl, rfl⟩) ?_ ?_
              rotate_left
              ·simp only [Act.put, List.setIfInBounds_toArray, List.set_cons_zero, List.set_cons_succ, i64_w, i32_w]
               rfl
              refine pure_ (i := 20) (N := some 156) (v := undef) (a' := ?_) (rb8 [21, 19]) rfl rfl (qg0 HT_.out (by kernel_rfl)) (fun _ _ _ h => h) (Or.inr ⟨by rfl, rfl⟩) ?_ ?_
              rotate_left
              ·simp only [Act.put, List.setIfInBounds_toArray, List.set_cons_zero, List.set_cons_succ, i64_w, i32_w]
               rfl
              refine pure_ (i := 21) (N := some 157) (v := undef) (a' := ?_) (rb8 [22, 18]) rfl rfl (qg0 HT_.out (by kernel_rfl)) (fun _ _ _ h => h) (Or.inr ⟨by rfl, rfl⟩) ?_ ?_
              rotate_left
              ·simp only [Act.put, List.setIfInBounds_toArray, List.set_cons_zero, List.set_cons_succ, i64_w, i32_w]
               rfl
              refine pure_ (i := 22) (N := some 158) (v := undef) (a' := ?_) (rb8 [23, 17]) rfl rfl (qg0 HT_.out (by kernel_rfl)) (fun _ _ _ h => h) (Or.inr ⟨by rfl, rfl⟩) ?_ ?_
              rotate_left
              ·simp only [Act.put, List.setIfInBounds_toArray, List.set_cons_zero, List.set_cons_succ, i64_w, i32_w]
               rfl
              refine pure_ (i := 23) (N := some 159) (v := undef) (a' := ?_) (rb8 [24, 16]) rfl rfl (qg0 HT_.out (by kernel_rfl)) (fun _ _ _ h => h) (Or.inr ⟨by rfl, rfl⟩) ?_ ?_
              rotate_left
              ·simp only [Act.put, List.setIfInBounds_toArray, List.set_cons_zero, List.set_cons_succ, i64_w, i32_w]
               rfl
              refine pure_ (i := 24) (N := some 160) (v := undef) (a' := ?_) (rb8 [25, 15]) rfl rfl (qg0 HT_.out (by kernel_rfl)) (fun _ _ _ h => h) (Or.inr ⟨by rfl, rfl⟩) ?_ ?_
              rotate_left
              ·simp only [Act.put, List.setIfInBounds_toArray, List.set_cons_zero, List.set_cons_succ, i64_w, i32_w]
               rfl
              refine pure_ (i := 25) (N := some 161) (v := undef) (a' := ?_) (rb8 [26, 14]) rfl rfl (qg0 HT_.out (by kernel_rfl)) (fun _ _ _ h => h) (Or.inr ⟨by rfl, rfl⟩) ?_ ?_
              rotate_left
              ·simp only [Act.put, List.setIfInBounds_toArray, List.set_cons_zero, List.set_cons_succ, i64_w, i32_w]
               rfl
              refine pure_ (i := 26) (N := some 162) (v := undef) (a' := ?_) (rb8 [27, 13]) rfl rfl (qg0 HT_.out (by kernel_rfl)) (fun _ _ _ h => h) (Or.inr ⟨by rfl, rfl⟩) ?_ ?_
              rotate_left
              ·simp only [Act.put, List.setIfInBounds_toArray, List.set_cons_zero, List.set_cons_succ, i64_w, i32_w]
               rfl
              refine pure_ (i := 27) (N := some 163) (v := undef) (a' := ?_) (rb8 [28, 12]) rfl rfl (qg0 HT_.out (by kernel_rfl)) (fun _ _ _ h => h) (Or.inr ⟨by rfl, rfl⟩) ?_ ?_
              rotate_left
              ·simp only [Act.put, List.setIfInBounds_toArray, List.set_cons_zero, List.set_cons_succ, i64_w, i32_w]
               rfl
              refine pure_ (i := 28) (N := some 164) (v := undef) (a' := ?_) (rb8 [29, 11]) rfl rfl (qg0 HT_.out (by kernel_rfl)) (fun _ _ _ h => h) (Or.inr ⟨by rfl, rfl⟩) ?_ ?_
              rotate_left
              ·simp only [Act.put, List.setIfInBounds_toArray, List.set_cons_zero, List.set_cons_succ, i64_w, i32_w]
               rfl
              refine pure_ (i := 29) (N := some 165) (v := undef) (a' := ?_) (rb8 [30, 10]) rfl rfl (qg0 HT_.out (by kernel_rfl)) (fun _ _ _ h => h) (Or.inr ⟨by rfl, rfl⟩) ?_ ?_
              rotate_left
              ·simp only [Act.put, List.setIfInBounds_toArray, List.set_cons_zero, List.set_cons_succ, i64_w, i32_w]
               rfl
              refine pure_ (i := 30) (N := some 166) (v := undef) (a' := ?_) (rb8 [31, 9]) rfl rfl (qg0 HT_.out (by kernel_rfl)) (fun _ _ _ h => h) (Or.inr ⟨by rfl, rfl⟩) ?_ ?_
              rotate_left
              ·simp only [Act.put, List.setIfInBounds_toArray, List.set_cons_zero, List.set_cons_succ, i64_w, i32_w]
               rfl
              refine pure_ (i := 31) (N := some 167) (v := undef) (a' := ?_) (rb8 [32, 8]) rfl rfl (qg0 HT_.out (by kernel_rfl)) (fun _ _ _ h => h) (Or.inr ⟨by rfl, rfl⟩) ?_ ?_
              rotate_left
              ·simp only [Act.put, List.setIfInBounds_toArray, List.set_cons_zero, List.set_cons_succ, i64_w, i32_w]
               rfl
              refine pure_ (i := 32) (N := some 168) (v := undef) (a' := ?_) (rb8 [33, 7]) rfl rfl (qg0 HT_.out (by kernel_rfl)) (fun _ _ _ h => h) (Or.inr ⟨by rfl, rfl⟩) ?_ ?_
              rotate_left
              ·simp only [Act.put, List.setIfInBounds_toArray, List.set_cons_zero, List.set_cons_succ, i64_w, i32_w]
               rfl
              refine pure_ (i := 33) (N := some 169) (v := undef) (a' := ?_) (rb8 [34, 6]) rfl rfl (qg0 HT_.out (by kernel_rfl)) (fun _ _ _ h => h) (Or.inr ⟨by rfl, rfl⟩) ?_ ?_
              rotate_left
              ·simp only [Act.put, List.setIfInBounds_toArray, List.set_cons_zero, List.set_cons_succ, i64_w, i32_w]
               rfl
              refine pure_ (i := 34) (N := some 170) (v := undef) (a' := ?_) (rb8 [35, 5]) rfl rfl (qg0 HT_.out (by kernel_rfl)) (fun _ _ _ h => h) (Or.inr ⟨by rfl, rfl⟩) ?_ ?_
              rotate_left
              ·simp only [Act.put, List.setIfInBounds_toArray, List.set_cons_zero, List.set_cons_succ, i64_w, i32_w]
               rfl
              refine pure_ (i := 35) (N := some 171) (v := undef) (a' := ?_) (rb8 [36, 4]) rfl rfl (qg0 HT_.out (by kernel_rfl)) (fun _ _ _ h => h) (Or.inr ⟨by rfl, rfl⟩) ?_ ?_
              rotate_left
              ·simp only [Act.put, List.setIfInBounds_toArray, List.set_cons_zero, List.set_cons_succ, i64_w, i32_w]
               rfl
              refine pure_ (i := 36) (N := some 172) (v := undef) (a' := ?_) (rb8 [37, 3]) rfl rfl (qg0 HT_.out (by kernel_rfl)) (fun _ _ _ h => h) (Or.inr ⟨by rfl, rfl⟩) ?_ ?_
              rotate_left
              ·simp only [Act.put, List.setIfInBounds_toArray, List.set_cons_zero, List.set_cons_succ, i64_w, i32_w]
               rfl
              refine pure_ (i := 37) (N := some 173) (v := undef) (a' := ?_) (rb8 [38, 2]) rfl rfl (qg0 HT_.out (by kernel_rfl)) (fun _ _ _ h => h) (Or.inr ⟨by rfl, rfl⟩) ?_ ?_
              rotate_left
              ·simp only [Act.put, List.setIfInBounds_toArray, List.set_cons_zero, List.set_cons_succ, i64_w, i32_w]
               rfl
              refine pure_ (i := 38) (N := some 174) (v := undef) (a' := ?_) (rb8 [39, 1]) rfl rfl (qg0 HT_.out (by kernel_rfl)) (fun _ _ _ h => h) (Or.inr ⟨by rfl, rfl⟩) ?_ ?_
              rotate_left
              ·simp only [Act.put, List.setIfInBounds_toArray, List.set_cons_zero, List.set_cons_succ, i64_w, i32_w]
               rfl
              refine pure_ (i := 39) (N := some 175) (v := ?_) (a' := ?_) (rb8 [40]) rfl rfl (qg0 HT_.out (by kernel_rfl)) (fun _ _ _ h => h) (Or.inl ⟨by rfl, ?_⟩) ?_ ?_
              rotate_left
              ·intro w'
               go_simp
               with_reducible rfl
              rotate_left
              ·simp only [Act.put, List.setIfInBounds_toArray, List.set_cons_zero, List.set_cons_succ, i64_w, i32_w]
               rfl
              refine done_ (done_of HT_.out (by kernel_rfl)) ?_
              try go_wp2
              go_meet
              case rel => exact ⟨_, (false), (by first | rfl | (simp; done) | (simp [*]; done)), H', ⟨by have := HJ4.out; have := HK2.out; have := HK3.out; have := HK4.out; have := HJ63.out; first | omega | exact Nat.le_refl _⟩, ⟨by (with_reducible repeat (first | apply Kd.qe0 | apply Kd.qd0 | apply Kd.qf0)); exact HO_4.out⟩, ⟨by (with_reducible repeat (first | apply Kd.qe0 | apply Kd.qd0 | apply Kd.qf0)); exact HO_5.out⟩, ⟨by (with_reducible repeat (first | apply Kd.qe0 | apply Kd.qd0 | apply Kd.qf0)); exact HO_7.out⟩, ⟨by (with_reducible repeat (first | apply Kd.qe0 | apply Kd.qd0 | apply Kd.qf0)); exact HO_8.out⟩, ⟨by (with_reducible repeat (first | apply Kd.qe0 | apply Kd.qd0 | apply Kd.qf0)); exact HO_9.out⟩, ⟨by (with_reducible repeat (first | refine qn0 ?_ _ | refine qp0 ?_ | refine qo0 ?_ _)); exact BK332.out⟩, ⟨by repeat (first | (with_reducible first | exact HB.out | apply qc0 | apply qa0 | apply qb0 | refine qh0 ?_ GE332.out) | exact HB.out)⟩⟩
             case rest => as_aux_lemma =>
              clear HC83
              try clear p2
              try clear p3
              try clear q3
              try clear hx3
              try clear c8
              try clear p33
              try clear q33
              try clear hx33
              try clear c84
              try clear c84b0
              try clear hx333_0
              try clear hx333_1
              try clear hx334_0
              try clear hx334_1
              try clear hx334_2
              try clear hx335_0
              try clear hx335_1
              try clear hx336_0
              try clear hx336_1
              try clear hx337_0
              try clear hx337_1
              try clear hx337_2
              try clear hx338_0
              try clear hx338_1
              try clear p333
              try clear p334
              try clear p335
              try clear p336
              try clear p337
              try clear p338
              try clear q333
              try clear q334
              try clear q335
              try clear q336
              try clear q337
              try clear q338
              obtain ⟨kq, x175_82, rfl, HA, HJ82, HO_4, HO_5, HO_7, HO_8, HO_9, BK332, HB⟩ := hcut
              cases kq with
              | zero => exact absurd HA.out (by simp [laws_FnSettled.j5])
              | succ kj82 =>
               have H := HA.out
               clear HA
               simp only [laws_FnSettled.j5] at H
               by_cases c100 : x175_82 = true
               ·subst c100
                have H1 : (some false) = some r := by rw [if_pos rfl] at H; exact H
                clear H
                have H := H1
                clear H1
                obtain rfl := Option.some.inj H
                go_wp2
                go_ret
                exact ⟨by first | rfl | (simp [errW_none, errW_some] <;> rfl) | (simp [*, errW_none, errW_some] <;> rfl), by repeat (first | (with_reducible first | exact HB.out | apply qc0 | apply qa0 | apply qb0 | refine qh0 ?_ GE332.out) | exact HB.out)⟩
               replace c100 := Bool.eq_false_iff.mpr c100
               subst c100
               have H1 : (if 0 ≤ ((rd_T30 t318 x12_4).f0) then (if ((rd_T30 t318 x12_4).f0) < (x8_4.length : Int) then ((some (x8_4.set (((rd_T30 t318 x12_4).f0) : Int).toNat (wrap64 ((rd x8_4 ((rd_T30 t318 x12_4).f0)) - ((rd_T30 t318 x12_4).f2))) : List Int)).bind fun y340 => (if 0 ≤ ((rd_T30 t318 x12_4).f1) then (if ((rd_T30 t318 x12_4).f1) < (x9_4.length : Int) then ((some (x9_4.set (((rd_T30 t318 x12_4).f1) : Int).toNat (wrap64 ((rd x9_4 ((rd_T30 t318 x12_4).f1)) - ((rd_T30 t318 x12_4).f2))) : List Int)).bind fun y342 => (if (rd y340 ((rd_T30 t318 x12_4).f0)) < 0 then (laws_FnSettled.j6 kj82 t309 t310 t318 y340 y342 x12_4 true) else (laws_FnSettled.j6 kj82 t309 t310 t318 y340 y342 x12_4 (decide ((wrap64 ((rd x9_4 ((rd_T30 t318 x12_4).f1)) - ((rd_T30 t318 x12_4).f2))) < 0))))) else (none)) else (none))) else (none)) else (none)) = some r := by rw [if_neg (show ¬ (false = true) by decide)] at H; exact H
               clear H
               have H := H1
               clear H1
               by_cases c101 : 0 ≤ ((rd_T30 t318 x12_4).f0)
               case neg => rw [if_neg c101] at H; exact absurd H (by simp)
               rw [if_pos c101] at H
               have c101b0 : decide (0 ≤ ((rd_T30 t318 x12_4).f0)) = true := decide_eq_true c101
               clear c101
               by_cases c102 : ((rd_T30 t318 x12_4).f0) < (x8_4.length : Int)
               case neg => rw [if_neg c102] at H; exact absurd H (by simp)
               rw [if_pos c102] at H
               have c102b0 : decide (((rd_T30 t318 x12_4).f0) < (x8_4.length : Int)) = true := decide_eq_true c102
               clear c102
               obtain ⟨y340, hy340⟩ : ∃ y_ : List Int, y_ = (x8_4.set (((rd_T30 t318 x12_4).f0) : Int).toNat (wrap64 ((rd x8_4 ((rd_T30 t318 x12_4).f0)) - ((rd_T30 t318 x12_4).f2)))) := ⟨_, rfl⟩
               replace H : (if 0 ≤ ((rd_T30 t318 x12_4).f1) then (if ((rd_T30 t318 x12_4).f1) < (x9_4.length : Int) then ((some (x9_4.set (((rd_T30 t318 x12_4).f1) : Int).toNat (wrap64 ((rd x9_4 ((rd_T30 t318 x12_4).f1)) - ((rd_T30 t318 x12_4).f2))) : List Int)).bind fun y342 => (if (rd y340 ((rd_T30 t318 x12_4).f0)) < 0 then (laws_FnSettled.j6 kj82 t309 t310 t318 y340 y342 x12_4 true) else (laws_FnSettled.j6 kj82 t309 t310 t318 y340 y342 x12_4 (decide ((wrap64 ((rd x9_4 ((rd_T30 t318 x12_4).f1)) - ((rd_T30 t318 x12_4).f2))) < 0))))) else (none)) else (none)) = some r := by first | (rw [hy340]; with_reducible exact H) | (have H2_ := (Option.bind_some _ _).symm.trans H; rw [hy340]; with_reducible exact H2_) | (have H2_ := (Option.bind_some _ _).symm.trans H; with_reducible exact H2_) | with_reducible exact H | (rw [hy340]; exact H) | exact H
               have Ny340 := Aside0.mk hy340
               clear hy340
               by_cases c104 : 0 ≤ ((rd_T30 t318 x12_4).f1)
               case neg => rw [if_neg c104] at H; exact absurd H (by simp)
               rw [if_pos c104] at H
               have c104b0 : decide (0 ≤ ((rd_T30 t318 x12_4).f1)) = true := decide_eq_true c104
               clear c104
               by_cases c105 : ((rd_T30 t318 x12_4).f1) < (x9_4.length : Int)
               case neg => rw [if_neg c105] at H; exact absurd H (by simp)
               rw [if_pos c105] at H
               have c105b0 : decide (((rd_T30 t318 x12_4).f1) < (x9_4.length : Int)) = true := decide_eq_true c105
               clear c105
               obtain ⟨y342, hy342⟩ : ∃ y_ : List Int, y_ = (x9_4.set (((rd_T30 t318 x12_4).f1) : Int).toNat (wrap64 ((rd x9_4 ((rd_T30 t318 x12_4).f1)) - ((rd_T30 t318 x12_4).f2)))) := ⟨_, rfl⟩
               replace H : (if (rd y340 ((rd_T30 t318 x12_4).f0)) < 0 then (laws_FnSettled.j6 kj82 t309 t310 t318 y340 y342 x12_4 true) else (laws_FnSettled.j6 kj82 t309 t310 t318 y340 y342 x12_4 (decide ((wrap64 ((rd x9_4 ((rd_T30 t318 x12_4).f1)) - ((rd_T30 t318 x12_4).f2))) < 0)))) = some r := by first | (rw [hy342]; with_reducible exact H) | (have H2_ := (Option.bind_some _ _).symm.trans H; rw [hy342]; with_reducible exact H2_) | (have H2_ := (Option.bind_some _ _).symm.trans H; with_reducible exact H2_) | with_reducible exact H | (rw [hy342]; exact H) | exact H
               have Ny342 := Aside0.mk hy342
               clear hy342
               have HC107 := Aside0.mk H
               clear H
               try go_wp2
               have n0_ := Aside0.mk (Kd.qf0 HO_4.out)
               have n1_ := Aside0.mk (Kd.qf0 HO_5.out)
               have n2_ := Aside0.mk (Kd.qf0 HO_7.out)
               have n3_ := Aside0.mk (Kd.qf0 HO_8.out)
               have n4_ := Aside0.mk (Kd.qf0 HO_9.out)
               have n5_ := Aside0.mk (qp0 BK332.out)
               have n6_ := Aside0.mk (qb0 HB.out)
               clear HO_4
               clear HO_5
               clear HO_7
               clear HO_8
               clear HO_9
               clear BK332
               clear HB
               have HO_4 := n0_
               have HO_5 := n1_
               have HO_7 := n2_
               have HO_8 := n3_
               have HO_9 := n4_
               have BK332 := n5_
               have HB := n6_
               clear n0_ n1_ n2_ n3_ n4_ n5_ n6_
               obtain ⟨Ao109, co109, eo109⟩ := Kd.qw0 HO_8.out
               (first | subst eo109 | (injection eo109 with f1_ f2_ f3_; have f4_ := f1_.symm; have f5_ := f3_.symm; clear f1_ f2_ f3_; subst f4_; subst f5_))
               have p339 : 0 ≤ (((rd_T30 t318 x12_4).f0) : Int) := of_decide_eq_true (by first | (with_reducible assumption) | assumption)
               have q339 : ((rd_T30 t318 x12_4).f0) < (x8_4.length : Int) := of_decide_eq_true (by first | (with_reducible assumption) | assumption)
               obtain ⟨ad339, e339, hx339_0⟩ := Kd.qh1 (Kd.qi0 HO_8.out).2.2 ((rd_T30 t318 x12_4).f0) p339 q339
               cases e339
               replace p339 := eq_true p339
               replace q339 := eq_true q339
               have p103 : 0 ≤ (((rd_T30 t318 x12_4).f0) : Int) := of_decide_eq_true (by first | (with_reducible assumption) | assumption)
               have q103 : (((rd_T30 t318 x12_4).f0) : Int) < ((x8_4.length : Int) : Int) := of_decide_eq_true (by first | (with_reducible assumption) | assumption)
               obtain ⟨go103, co103, eo103, gb103, gl103, cl103, HG103⟩ := Kd.R_form HO_8.out (by omega)
               (first | cases eo103 | (injection eo103 with ea_ en_ ec_; (first | subst ea_ | (injection ea_ with ea_; subst ea_)); subst ec_; clear en_))
               have GB103 := Aside0.mk gb103
               have GG103 := Aside0.mk HG103
               clear gb103 gl103 HG103
               (first | simp only [add_plain] at hx339_0 | skip)
               obtain ⟨hx103_0, hf103_0⟩ := Kd.R_celln 0 HO_8.out (((rd_T30 t318 x12_4).f0) : Int) p103 q103
               replace p103 := eq_true p103
               replace q103 := eq_true q103
               have HP110 := Kd.R_putn HO_8.out (((rd_T30 t318 x12_4).f0) : Int) (wrap64 ((rd x8_4 ((rd_T30 t318 x12_4).f0)) - ((rd_T30 t318 x12_4).f2)))
               rw [← Ny340.out] at HP110
               have HQ110 := Aside0.mk HP110
               clear HP110
               refine start_ (n := 13) (S := fun w' => w'.cell? ⟨gb332, 0, none⟩ = some (.int .i64 ((rd_T30 t318 x12_4).f0)) ∧ w'.cell? ⟨gb332, 1, none⟩ = some (.int .i64 ((rd_T30 t318 x12_4).f1)) ∧ w'.cell? ⟨gb332, 2, none⟩ = some (.int .i64 ((rd_T30 t318 x12_4).f2)) ∧ w'.cell? (⟨go103, (((rd_T30 t318 x12_4).f0)).toNat, none⟩ : Addr) = some (.int .i64 (rd x8_4 ((rd_T30 t318 x12_4).f0)))) (ds := [12]) (rb8 [0, 13]) (by kernel_rfl) rfl rfl ⟨(qu0 BK332.out 0).trans rfl, (qu0 BK332.out 1).trans rfl, (qu0 BK332.out 2).trans rfl, hx339_0⟩ (fun hHeld => ?_); refine with_tabW laws_FnSettled.tab31 laws_FnSettled.bits31 (fun HT_ HW_ => ?_)
               generalize wc.drew = w108 at HO_4 HO_5 HO_7 HO_8 HO_9 BK332 HB GG103 HQ110 hf103_0 hx103_0 hx339_0 hHeld ⊢
               refine pure_ (i := 0) (N := some 176) (v := ?_) (a' := ?_) (rb8 [1, 12]) rfl rfl (qg0 HT_.out (by kernel_rfl)) (fun _ _ _ h => h) (Or.inl ⟨by rfl, ?_⟩) ?_ ?_
               rotate_left
               ·intro w'
                go_simp
                with_reducible rfl
               rotate_left
               ·simp only [Act.put, List.setIfInBounds_toArray, List.set_cons_zero, List.set_cons_succ, i64_w, i32_w]
                rfl
               refine pure_ (i := 1) (N := some 177) (v := ?_) (a' := ?_) (rb8 [2, 11]) rfl rfl (qg0 HT_.out (by kernel_rfl)) (fun _ _ _ h => h) (Or.inl ⟨by rfl, ?_⟩) ?_ ?_
               rotate_left
               ·intro w'
                go_simp
                with_reducible rfl
               rotate_left
               ·simp only [Act.put, List.setIfInBounds_toArray, List.set_cons_zero, List.set_cons_succ, i64_w, i32_w]
                rfl
               refine pure_ (i := 3) (N := some 179) (v := ?_) (a' := ?_) (rb8 [2, 1, 1, 9]) rfl rfl (qg0 HT_.out (by kernel_rfl)) (fun _ _ _ h => h) (Or.inl ⟨by rfl, ?_⟩) ?_ ?_
               rotate_left
               ·intro w'
                go_simp
                with_reducible rfl
               rotate_left
               ·simp only [Act.put, List.setIfInBounds_toArray, List.set_cons_zero, List.set_cons_succ, i64_w, i32_w]
                rfl
               refine pure_ (i := 4) (N := some 180) (v := ?_) (a' := ?_) (rb8 [2, 1, 2, 8]) rfl rfl (qg0 HT_.out (by kernel_rfl)) (fun _ _ _ h => h) (Or.inl ⟨by rfl, ?_⟩) ?_ ?_
               rotate_left
               ·intro w'
                go_simp
                with_reducible rfl
               rotate_left
               ·simp only [Act.put, List.setIfInBounds_toArray, List.set_cons_zero, List.set_cons_succ, i64_w, i32_w]
                rfl
               refine pure_ (i := 8) (N := some 184) (v := ?_) (a' := ?_) (rb8 [2, 1, 2, 3, 1, 4]) rfl rfl (qg0 HT_.out (by kernel_rfl)) (fun _ _ _ h => h) (Or.inl ⟨by rfl, ?_⟩) ?_ ?_
               rotate_left
               ·intro w'
                go_simp
                with_reducible rfl
               rotate_left
               ·simp only [Act.put, List.setIfInBounds_toArray, List.set_cons_zero, List.set_cons_succ, i64_w, i32_w]
                rfl
               refine take_ (i := 2) (N := some 178) (v := ?_) (a' := ?_) (rb8 [5, 3, 1, 4]) rfl rfl (take_ofW HT_.out HW_.out (by kernel_rfl)) (fun _ _ _ h => h) (Or.inl ⟨by rfl, ?_⟩) hHeld ?_ ?_
               rotate_left
               ·rintro w' ⟨s0, s1, s2, s3⟩
                go_simp
                with_reducible rfl
               rotate_left
               ·simp only [Act.put, List.setIfInBounds_toArray, List.set_cons_zero, List.set_cons_succ, i64_w, i32_w]
                rfl
               refine take_ (i := 5) (N := some 181) (v := ?_) (a' := ?_) (rb8 [6, 2, 1, 4]) rfl rfl (take_ofW HT_.out HW_.out (by kernel_rfl)) (fun _ _ _ h => h) (Or.inl ⟨by rfl, ?_⟩) hHeld ?_ ?_
               rotate_left
               ·rintro w' ⟨s0, s1, s2, s3⟩
                go_simp
                with_reducible rfl
               rotate_left
               ·simp only [Act.put, List.setIfInBounds_toArray, List.set_cons_zero, List.set_cons_succ, i64_w, i32_w]
                rfl
               refine pure_ (i := 6) (N := some 182) (v := ?_) (a' := ?_) (rb8 [7, 1, 1, 4]) rfl rfl (qg0 HT_.out (by kernel_rfl)) (fun _ _ _ h => h) (Or.inl ⟨by rfl, ?_⟩) ?_ ?_
               rotate_left
               ·intro w'
                go_simp
                with_reducible rfl
               rotate_left
               ·simp only [Act.put, List.setIfInBounds_toArray, List.set_cons_zero, List.set_cons_succ, i64_w, i32_w]
                rfl
               refine take_ (i := 7) (N := some 183) (v := ?_) (a' := ?_) (rb8 [9, 4]) rfl rfl (take_ofW HT_.out HW_.out (by kernel_rfl)) (fun _ _ _ h => h) (Or.inl ⟨by rfl, ?_⟩) hHeld ?_ ?_
               rotate_left
               ·rintro w' ⟨s0, s1, s2, s3⟩
                go_simp
                with_reducible rfl
               rotate_left
               ·simp only [Act.put, List.setIfInBounds_toArray, List.set_cons_zero, List.set_cons_succ, i64_w, i32_w]
                rfl
               refine take_ (i := 9) (N := some 185) (v := ?_) (a' := ?_) (rb8 [10, 3]) rfl rfl (take_ofW HT_.out HW_.out (by kernel_rfl)) (fun _ _ _ h => h) (Or.inl ⟨by rfl, ?_⟩) hHeld ?_ ?_
               rotate_left
               ·rintro w' ⟨s0, s1, s2, s3⟩
                go_simp
                with_reducible rfl
               rotate_left
               ·simp only [Act.put, List.setIfInBounds_toArray, List.set_cons_zero, List.set_cons_succ, i64_w, i32_w]
                rfl
               refine pure_ (i := 10) (N := some 186) (v := ?_) (a' := ?_) (rb8 [11, 2]) rfl rfl (qg0 HT_.out (by kernel_rfl)) (fun _ _ _ h => h) (Or.inl ⟨by rfl, ?_⟩) ?_ ?_
               rotate_left
               ·intro w'
                go_simp
                with_reducible rfl
               rotate_left
               ·simp only [Act.put, List.setIfInBounds_toArray, List.set_cons_zero, List.set_cons_succ, i64_w, i32_w]
                rfl
               refine pure_ (i := 11) (N := some 187) (v := ?_) (a' := ?_) (rb8 [12, 1]) rfl rfl (qg0 HT_.out (by kernel_rfl)) (fun _ _ _ h => h) (Or.inl ⟨by rfl, ?_⟩) ?_ ?_
               rotate_left
               ·intro w'
                go_simp
                with_reducible rfl
               rotate_left
               ·simp only [Act.put, List.setIfInBounds_toArray, List.set_cons_zero, List.set_cons_succ, i64_w, i32_w]
                rfl
               refine last_ (i := 12) (N := none) (rb8 [13]) rfl rfl (one_of HT_.out (by kernel_rfl)) (by decide) (fun K hK => ?_)
               refine skip_ (w1 := ?_) (by rfl) rfl ?_ ?_
               rotate_left
               ·go_simp
                rfl
               refine hK.out _ _ ?_
               clear hK K
               refine done_ (done_of HT_.out (by kernel_rfl)) ?_
               try go_wp2
               have n0_ : Aside0 (Kd.R k27 27 (w108.setCell ⟨go103, (((rd_T30 t318 x12_4).f0) : Int).toNat, none⟩ (.int .i64 (wrap64 ((rd x8_4 ((rd_T30 t318 x12_4).f0)) - ((rd_T30 t318 x12_4).f2))))) w.heap.size (fun k_ => some k_ ≠ (.slice Ao41 t310.length co41 : Value).ownBlock) (.slice Ao40 t309.length co40) t309) := ⟨by (with_reducible repeat (first | apply Kd.qe0 | apply Kd.qd0 | apply Kd.qf0)); exact Kd.qm0 (Kd.R_far (p := ⟨go103, (((rd_T30 t318 x12_4).f0) : Int).toNat, none⟩) (Kd.qf1 HO_4.out GG103.out (by decide)) (fun _ hk => hk.2) (.int .i64 (wrap64 ((rd x8_4 ((rd_T30 t318 x12_4).f0)) - ((rd_T30 t318 x12_4).f2))))) (fun _ hk => hk.1)⟩
               have n1_ : Aside0 (Kd.R k27 27 (w108.setCell ⟨go103, (((rd_T30 t318 x12_4).f0) : Int).toNat, none⟩ (.int .i64 (wrap64 ((rd x8_4 ((rd_T30 t318 x12_4).f0)) - ((rd_T30 t318 x12_4).f2))))) w.heap.size (fun k_ => some k_ ≠ (.slice Ao40 t309.length co40 : Value).ownBlock) (.slice Ao41 t310.length co41) t310) := ⟨by (with_reducible repeat (first | apply Kd.qe0 | apply Kd.qd0 | apply Kd.qf0)); exact Kd.qm0 (Kd.R_far (p := ⟨go103, (((rd_T30 t318 x12_4).f0) : Int).toNat, none⟩) (Kd.qf1 HO_5.out GG103.out (by decide)) (fun _ hk => hk.2) (.int .i64 (wrap64 ((rd x8_4 ((rd_T30 t318 x12_4).f0)) - ((rd_T30 t318 x12_4).f2))))) (fun _ hk => hk.1)⟩
               have n2_ : Aside0 (Kd.R k30 30 (w108.setCell ⟨go103, (((rd_T30 t318 x12_4).f0) : Int).toNat, none⟩ (.int .i64 (wrap64 ((rd x8_4 ((rd_T30 t318 x12_4).f0)) - ((rd_T30 t318 x12_4).f2))))) w.heap.size (fun k_ => k_ ≠ gb332) (.slice (some ad331) t318.length co44) t318) := ⟨by (with_reducible repeat (first | apply Kd.qe0 | apply Kd.qd0 | apply Kd.qf0)); exact Kd.qm0 (Kd.R_far (p := ⟨go103, (((rd_T30 t318 x12_4).f0) : Int).toNat, none⟩) (Kd.qf1 HO_7.out GG103.out (by decide)) (fun _ hk => hk.2) (.int .i64 (wrap64 ((rd x8_4 ((rd_T30 t318 x12_4).f0)) - ((rd_T30 t318 x12_4).f2))))) (fun _ hk => hk.1)⟩
               have n3_ : Aside0 (Kd.R (Kd.int .i64) 3 (w108.setCell ⟨go103, (((rd_T30 t318 x12_4).f0) : Int).toNat, none⟩ (.int .i64 (wrap64 ((rd x8_4 ((rd_T30 t318 x12_4).f0)) - ((rd_T30 t318 x12_4).f2))))) w.heap.size (fun k_ => some k_ ≠ (v325 : Value).ownBlock) (.slice (some ⟨go103, 0, none⟩) x8_4.length co109) y340) := ⟨by (with_reducible repeat (first | apply Kd.qe0 | apply Kd.qd0 | apply Kd.qf0)); exact HQ110.out⟩
               have n4_ : Aside0 (Kd.R (Kd.int .i64) 3 (w108.setCell ⟨go103, (((rd_T30 t318 x12_4).f0) : Int).toNat, none⟩ (.int .i64 (wrap64 ((rd x8_4 ((rd_T30 t318 x12_4).f0)) - ((rd_T30 t318 x12_4).f2))))) w.heap.size (fun k_ => some k_ ≠ (.slice (some ⟨go103, 0, none⟩) x8_4.length co109 : Value).ownBlock) v325 x9_4) := ⟨by (with_reducible repeat (first | apply Kd.qe0 | apply Kd.qd0 | apply Kd.qf0)); exact Kd.qm0 (Kd.R_far (p := ⟨go103, (((rd_T30 t318 x12_4).f0) : Int).toNat, none⟩) (Kd.qm0 HO_9.out (fun k_ hk => (⟨hk, fun e_ => hk (by rw [e_]; rfl)⟩ : _ ∧ k_ ≠ go103))) (fun _ hk => hk.2) (.int .i64 (wrap64 ((rd x8_4 ((rd_T30 t318 x12_4).f0)) - ((rd_T30 t318 x12_4).f2))))) (fun _ hk => hk.1)⟩
               have n5_ : Aside0 ((w108.setCell ⟨go103, (((rd_T30 t318 x12_4).f0) : Int).toNat, none⟩ (.int .i64 (wrap64 ((rd x8_4 ((rd_T30 t318 x12_4).f0)) - ((rd_T30 t318 x12_4).f2))))).heap[gb332]? = some (.cells #[.int .i64 ((rd_T30 t318 x12_4).f0), .int .i64 ((rd_T30 t318 x12_4).f1), .int .i64 ((rd_T30 t318 x12_4).f2)] 30 (0, 0))) := ⟨by (with_reducible repeat (first | refine qn0 ?_ _ | refine qp0 ?_ | refine qo0 ?_ _)); refine blk_far ?_ (by have h_ := Kd.R_ne HO_8.out BK332.out (by decide); intro e_; exact h_ (by rw [e_]; rfl)) _; (with_reducible repeat (first | refine qn0 ?_ _ | refine qp0 ?_ | refine qo0 ?_ _)); exact BK332.out⟩
               have n6_ : Aside0 (Below w.heap.size w (w108.setCell ⟨go103, (((rd_T30 t318 x12_4).f0) : Int).toNat, none⟩ (.int .i64 (wrap64 ((rd x8_4 ((rd_T30 t318 x12_4).f0)) - ((rd_T30 t318 x12_4).f2)))))) := ⟨by repeat (first | (with_reducible first | exact HB.out | apply qc0 | apply qa0 | apply qb0 | refine qh0 ?_ GB103.out | refine qh0 ?_ GE332.out) | exact HB.out)⟩
               (try clear HO_4)
               (try clear HO_5)
               (try clear HO_7)
               (try clear HO_8)
               (try clear HO_9)
               (try clear BK332)
               (try clear HB)
               generalize (w108.setCell ⟨go103, (((rd_T30 t318 x12_4).f0) : Int).toNat, none⟩ (.int .i64 (wrap64 ((rd x8_4 ((rd_T30 t318 x12_4).f0)) - ((rd_T30 t318 x12_4).f2))))) = w111 at n0_ n1_ n2_ n3_ n4_ n5_ n6_ ⊢
               have HO_4 := n0_
               have HO_5 := n1_
               have HO_7 := n2_
               have HO_8 := n3_
               have HO_9 := n4_
               have BK332 := n5_
               have HB := n6_
               clear n0_ n1_ n2_ n3_ n4_ n5_ n6_
               have n0_ := Aside0.mk (Kd.qf0 HO_4.out)
               have n1_ := Aside0.mk (Kd.qf0 HO_5.out)
               have n2_ := Aside0.mk (Kd.qf0 HO_7.out)
               have n3_ := Aside0.mk (Kd.qf0 HO_8.out)
               have n4_ := Aside0.mk (Kd.qf0 HO_9.out)
               have n5_ := Aside0.mk (qp0 BK332.out)
               have n6_ := Aside0.mk (qb0 HB.out)
               clear HO_4
               clear HO_5
               clear HO_7
               clear HO_8
               clear HO_9
               clear BK332
               clear HB
               have HO_4 := n0_
               have HO_5 := n1_
               have HO_7 := n2_
               have HO_8 := n3_
               have HO_9 := n4_
               have BK332 := n5_
               have HB := n6_
               clear n0_ n1_ n2_ n3_ n4_ n5_ n6_
               obtain ⟨Ao113, co113, eo113⟩ := Kd.qw0 HO_9.out
               (first | subst eo113 | (injection eo113 with f1_ f2_ f3_; have f4_ := f1_.symm; have f5_ := f3_.symm; clear f1_ f2_ f3_; subst f4_; subst f5_))
               have p341 : 0 ≤ (((rd_T30 t318 x12_4).f1) : Int) := of_decide_eq_true (by first | (with_reducible assumption) | assumption)
               have q341 : ((rd_T30 t318 x12_4).f1) < (x9_4.length : Int) := of_decide_eq_true (by first | (with_reducible assumption) | assumption)
               obtain ⟨ad341, e341, hx341_0⟩ := Kd.qh1 (Kd.qi0 HO_9.out).2.2 ((rd_T30 t318 x12_4).f1) p341 q341
               cases e341
               replace p341 := eq_true p341
               replace q341 := eq_true q341
               have p106 : 0 ≤ (((rd_T30 t318 x12_4).f1) : Int) := of_decide_eq_true (by first | (with_reducible assumption) | assumption)
               have q106 : (((rd_T30 t318 x12_4).f1) : Int) < ((x9_4.length : Int) : Int) := of_decide_eq_true (by first | (with_reducible assumption) | assumption)
               obtain ⟨go106, co106, eo106, gb106, gl106, cl106, HG106⟩ := Kd.R_form HO_9.out (by omega)
               (first | cases eo106 | (injection eo106 with ea_ en_ ec_; (first | subst ea_ | (injection ea_ with ea_; subst ea_)); subst ec_; clear en_))
               have GB106 := Aside0.mk gb106
               have GG106 := Aside0.mk HG106
               clear gb106 gl106 HG106
               (first | simp only [add_plain] at hx341_0 | skip)
               obtain ⟨hx106_0, hf106_0⟩ := Kd.R_celln 0 HO_9.out (((rd_T30 t318 x12_4).f1) : Int) p106 q106
               replace p106 := eq_true p106
               replace q106 := eq_true q106
               have HP114 := Kd.R_putn HO_9.out (((rd_T30 t318 x12_4).f1) : Int) (wrap64 ((rd x9_4 ((rd_T30 t318 x12_4).f1)) - ((rd_T30 t318 x12_4).f2)))
               rw [← Ny342.out] at HP114
               have HQ114 := Aside0.mk HP114
               clear HP114
               refine start_ (n := 13) (S := fun w' => w'.cell? ⟨gb332, 0, none⟩ = some (.int .i64 ((rd_T30 t318 x12_4).f0)) ∧ w'.cell? ⟨gb332, 1, none⟩ = some (.int .i64 ((rd_T30 t318 x12_4).f1)) ∧ w'.cell? ⟨gb332, 2, none⟩ = some (.int .i64 ((rd_T30 t318 x12_4).f2)) ∧ w'.cell? (⟨go106, (((rd_T30 t318 x12_4).f1)).toNat, none⟩ : Addr) = some (.int .i64 (rd x9_4 ((rd_T30 t318 x12_4).f1)))) (ds := [12]) (rb8 [0, 13]) (by kernel_rfl) rfl rfl ⟨(qu0 BK332.out 0).trans rfl, (qu0 BK332.out 1).trans rfl, (qu0 BK332.out 2).trans rfl, hx341_0⟩ (fun hHeld => ?_); refine with_tabW laws_FnSettled.tab32 laws_FnSettled.bits32 (fun HT_ HW_ => ?_)
               generalize w111.drew = w112 at HO_4 HO_5 HO_7 HO_8 HO_9 BK332 HB GG106 HQ110 HQ114 hf106_0 hx106_0 hx341_0 hHeld ⊢
               refine pure_ (i := 0) (N := some 188) (v := ?_) (a' := ?_) (rb8 [1, 12]) rfl rfl (qg0 HT_.out (by kernel_rfl)) (fun _ _ _ h => h) (Or.inl ⟨by rfl, ?_⟩) ?_ ?_
               rotate_left
               ·intro w'
                go_simp
                with_reducible rfl
               rotate_left
               ·simp only [Act.put, List.setIfInBounds_toArray, List.set_cons_zero, List.set_cons_succ, i64_w, i32_w]
                rfl
               refine pure_ (i := 1) (N := some 189) (v := ?_) (a' := ?_) (rb8 [2, 11]) rfl rfl (qg0 HT_.out (by kernel_rfl)) (fun _ _ _ h => h) (Or.inl ⟨by rfl, ?_⟩) ?_ ?_
               rotate_left
               ·intro w'
                go_simp
                with_reducible rfl
               rotate_left
               ·simp only [Act.put, List.setIfInBounds_toArray, List.set_cons_zero, List.set_cons_succ, i64_w, i32_w]
                rfl
               refine pure_ (i := 3) (N := some 191) (v := ?_) (a' := ?_) (rb8 [2, 1, 1, 9]) rfl rfl (qg0 HT_.out (by kernel_rfl)) (fun _ _ _ h => h) (Or.inl ⟨by rfl, ?_⟩) ?_ ?_
               rotate_left
               ·intro w'
                go_simp
                with_reducible rfl
               rotate_left
               ·simp only [Act.put, List.setIfInBounds_toArray, List.set_cons_zero, List.set_cons_succ, i64_w, i32_w]
                rfl
               refine pure_ (i := 4) (N := some 192) (v := ?_) (a' := ?_) (rb8 [2, 1, 2, 8]) rfl rfl (qg0 HT_.out (by kernel_rfl)) (fun _ _ _ h => h) (Or.inl ⟨by rfl, ?_⟩) ?_ ?_
               rotate_left
               ·intro w'
                go_simp
                with_reducible rfl
               rotate_left
               ·simp only [Act.put, List.setIfInBounds_toArray, List.set_cons_zero, List.set_cons_succ, i64_w, i32_w]
                rfl
               refine pure_ (i := 8) (N := some 196) (v := ?_) (a' := ?_) (rb8 [2, 1, 2, 3, 1, 4]) rfl rfl (qg0 HT_.out (by kernel_rfl)) (fun _ _ _ h => h) (Or.inl ⟨by rfl, ?_⟩) ?_ ?_
               rotate_left
               ·intro w'
                go_simp
                with_reducible rfl
               rotate_left
               ·simp only [Act.put, List.setIfInBounds_toArray, List.set_cons_zero, List.set_cons_succ, i64_w, i32_w]
                rfl
               refine take_ (i := 2) (N := some 190) (v := ?_) (a' := ?_) (rb8 [5, 3, 1, 4]) rfl rfl (take_ofW HT_.out HW_.out (by kernel_rfl)) (fun _ _ _ h => h) (Or.inl ⟨by rfl, ?_⟩) hHeld ?_ ?_
               rotate_left
               ·rintro w' ⟨s0, s1, s2, s3⟩
                go_simp
                with_reducible rfl
               rotate_left
               ·simp only [Act.put, List.setIfInBounds_toArray, List.set_cons_zero, List.set_cons_succ, i64_w, i32_w]
                rfl
               refine take_ (i := 5) (N := some 193) (v := ?_) (a' := ?_) (rb8 [6, 2, 1, 4]) rfl rfl (take_ofW HT_.out HW_.out (by kernel_rfl)) (fun _ _ _ h => h) (Or.inl ⟨by rfl, ?_⟩) hHeld ?_ ?_
               rotate_left
               ·rintro w' ⟨s0, s1, s2, s3⟩
                go_simp
                with_reducible rfl
               rotate_left
               ·simp only [Act.put, List.setIfInBounds_toArray, List.set_cons_zero, List.set_cons_succ, i64_w, i32_w]
                rfl
               refine pure_ (i := 6) (N := some 194) (v := ?_) (a' := ?_) (rb8 [7, 1, 1, 4]) rfl rfl (qg0 HT_.out (by kernel_rfl)) (fun _ _ _ h => h) (Or.inl ⟨by rfl, ?_⟩) ?_ ?_
               rotate_left
               ·intro w'
                go_simp
                with_reducible rfl
               rotate_left
               ·simp only [Act.put, List.setIfInBounds_toArray, List.set_cons_zero, List.set_cons_succ, i64_w, i32_w]
                rfl
               refine take_ (i := 7) (N := some 195) (v := ?_) (a' := ?_) (rb8 [9, 4]) rfl rfl (take_ofW HT_.out HW_.out (by kernel_rfl)) (fun _ _ _ h => h) (Or.inl ⟨by rfl, ?_⟩) hHeld ?_ ?_
               rotate_left
               ·rintro w' ⟨s0, s1, s2, s3⟩
                go_simp
                with_reducible rfl
               rotate_left
               ·simp only [Act.put, List.setIfInBounds_toArray, List.set_cons_zero, List.set_cons_succ, i64_w, i32_w]
                rfl
               refine take_ (i := 9) (N := some 197) (v := ?_) (a' := ?_) (rb8 [10, 3]) rfl rfl (take_ofW HT_.out HW_.out (by kernel_rfl)) (fun _ _ _ h => h) (Or.inl ⟨by rfl, ?_⟩) hHeld ?_ ?_
               rotate_left
               ·rintro w' ⟨s0, s1, s2, s3⟩
                go_simp
                with_reducible rfl
               rotate_left
               ·simp only [Act.put, List.setIfInBounds_toArray, List.set_cons_zero, List.set_cons_succ, i64_w, i32_w]
                rfl
               refine pure_ (i := 10) (N := some 198) (v := ?_) (a' := ?_) (rb8 [11, 2]) rfl rfl (qg0 HT_.out (by kernel_rfl)) (fun _ _ _ h => h) (Or.inl ⟨by rfl, ?_⟩) ?_ ?_
               rotate_left
               ·intro w'
                go_simp
                with_reducible rfl
               rotate_left
               ·simp only [Act.put, List.setIfInBounds_toArray, List.set_cons_zero, List.set_cons_succ, i64_w, i32_w]
                rfl
               refine pure_ (i := 11) (N := some 199) (v := ?_) (a' := ?_) (rb8 [12, 1]) rfl rfl (qg0 HT_.out (by kernel_rfl)) (fun _ _ _ h => h) (Or.inl ⟨by rfl, ?_⟩) ?_ ?_
               rotate_left
               ·intro w'
                go_simp
                with_reducible rfl
               rotate_left
               ·simp only [Act.put, List.setIfInBounds_toArray, List.set_cons_zero, List.set_cons_succ, i64_w, i32_w]
                rfl
               refine last_ (i := 12) (N := none) (rb8 [13]) rfl rfl (one_of HT_.out (by kernel_rfl)) (by decide) (fun K hK => ?_)
               refine skip_ (w1 := ?_) (by rfl) rfl ?_ ?_
               rotate_left
               ·go_simp
                rfl
               refine hK.out _ _ ?_
               clear hK K
               refine done_ (done_of HT_.out (by kernel_rfl)) ?_
               go_upto_region 33 with (fail)
               go_cut [213] (fun v213 wc => ∃ (kq : Nat) (x213_106 : Bool), v213 = .bool x213_106 ∧ Aside0 (laws_FnSettled.j6 kq t309 t310 t318 y340 y342 x12_4 x213_106 = some r) ∧ Aside0 (kq ≤ kj82) ∧ Aside0 (Kd.R k27 27 wc w.heap.size (fun k_ => some k_ ≠ ((.slice Ao41 t310.length co41) : Value).ownBlock) (.slice Ao40 t309.length co40) t309) ∧ Aside0 (Kd.R k27 27 wc w.heap.size (fun k_ => some k_ ≠ ((.slice Ao40 t309.length co40) : Value).ownBlock) (.slice Ao41 t310.length co41) t310) ∧ Aside0 (Kd.R k30 30 wc w.heap.size (fun k_ => k_ ≠ gb332) (.slice (some ad331) t318.length co44) t318) ∧ Aside0 (Kd.R (Kd.int .i64) 3 wc w.heap.size (fun k_ => some k_ ≠ ((.slice (some ⟨go106, 0, none⟩) x9_4.length co113) : Value).ownBlock) (.slice (some ⟨go103, 0, none⟩) x8_4.length co109) y340) ∧ Aside0 (Kd.R (Kd.int .i64) 3 wc w.heap.size (fun k_ => some k_ ≠ ((.slice (some ⟨go103, 0, none⟩) x8_4.length co109) : Value).ownBlock) (.slice (some ⟨go106, 0, none⟩) x9_4.length co113) y342) ∧ Aside0 (wc.heap[gb332]? = some (.cells #[.int .i64 ((rd_T30 t318 x12_4).f0), .int .i64 ((rd_T30 t318 x12_4).f1), .int .i64 ((rd_T30 t318 x12_4).f2)] 30 (0, 0))) ∧ Aside0 (Below w.heap.size w wc))
               case first => as_aux_lemma =>
                have H := HC107.out
                clear HC107
                by_cases c115 : (rd y340 ((rd_T30 t318 x12_4).f0)) < 0
                ·rw [if_pos c115] at H
                 have c115b0 : decide ((rd y340 ((rd_T30 t318 x12_4).f0)) < 0) = true := decide_eq_true c115
                 clear c115
                 (first | rw [c115b0] | (simp only [i64_w, i32_w]; rw [c115b0]) | skip)
                 have H' := Aside0.mk H
                 clear H
                 have hcz116_0 : w112.cell? ⟨gb332, 0, none⟩ = some (.int .i64 ((rd_T30 t318 x12_4).f0)) := (qu0 BK332.out 0).trans rfl
                 have hcz116_1 : w112.cell? ⟨gb332, 1, none⟩ = some (.int .i64 ((rd_T30 t318 x12_4).f1)) := (qu0 BK332.out 1).trans rfl
                 have hcz116_2 : w112.cell? ⟨gb332, 2, none⟩ = some (.int .i64 ((rd_T30 t318 x12_4).f2)) := (qu0 BK332.out 2).trans rfl
                 have hfz116_0 := qt0 BK332.out 0
                 have hfz116_1 := qt0 BK332.out 1
                 have hfz116_2 := qt0 BK332.out 2
                 have hz332_116 : gb332 ≠ go106 := (by have h_ := Kd.R_ne HO_9.out BK332.out (by decide); intro e_; exact h_ (by rw [e_]; rfl))
                 replace hcz116_0 := (cell_far (p := ⟨go106, (((rd_T30 t318 x12_4).f1) : Int).toNat, none⟩) (a := ⟨gb332, 0, none⟩) hz332_116 (.int .i64 (wrap64 ((rd x9_4 ((rd_T30 t318 x12_4).f1)) - ((rd_T30 t318 x12_4).f2))))).trans hcz116_0
                 replace hcz116_1 := (cell_far (p := ⟨go106, (((rd_T30 t318 x12_4).f1) : Int).toNat, none⟩) (a := ⟨gb332, 1, none⟩) hz332_116 (.int .i64 (wrap64 ((rd x9_4 ((rd_T30 t318 x12_4).f1)) - ((rd_T30 t318 x12_4).f2))))).trans hcz116_1
                 replace hcz116_2 := (cell_far (p := ⟨go106, (((rd_T30 t318 x12_4).f1) : Int).toNat, none⟩) (a := ⟨gb332, 2, none⟩) hz332_116 (.int .i64 (wrap64 ((rd x9_4 ((rd_T30 t318 x12_4).f1)) - ((rd_T30 t318 x12_4).f2))))).trans hcz116_2
                 have p343 : 0 ≤ (((rd_T30 t318 x12_4).f0) : Int) := of_decide_eq_true (by first | (with_reducible assumption) | assumption)
                 have q343 : ((rd_T30 t318 x12_4).f0) < (y340.length : Int) := (by have h_ : (((rd_T30 t318 x12_4).f0) : Int) < ((x8_4.length : Int) : Int) := of_decide_eq_true (by first | (with_reducible assumption) | assumption); first | (have e_ := (Kd.qi0 HO_8.out).1; omega) | simpa only [Ny340.out, List.length_set] using h_)
                 have ql343 : ((((rd_T30 t318 x12_4).f0) : Int) < ((x8_4.length : Int) : Int)) = True := eq_true (of_decide_eq_true (by first | (with_reducible assumption) | assumption))
                 obtain ⟨ad343, e343, hx343_0⟩ := Kd.qh1 (Kd.qi0 HO_8.out).2.2 ((rd_T30 t318 x12_4).f0) p343 q343
                 obtain rfl : (⟨go103, 0, none⟩ : Addr) = ad343 := (by injection e343)
                 (first | simp only [add_plain] at hx343_0 | simp only [add_at] at hx343_0 | simp only [Addr.add, Nat.zero_add] at hx343_0 | skip)
                 have hn343_0 : go103 ≠ go106 := (by first | (intro e_; exact HO_8.out.1 _ rfl (by rw [e_]; rfl)) | (intro e_; exact HO_9.out.1 _ rfl (by rw [← e_]; rfl)) | (intro e_; exact HO_8.out.1 _ rfl (by rw [← e_]; rfl)) | (intro e_; exact HO_9.out.1 _ rfl (by rw [e_]; rfl)))
                 replace hx343_0 := (cell_far (p := ⟨go106, (((rd_T30 t318 x12_4).f1) : Int).toNat, none⟩) (by first | (rw [add_block]; exact hn343_0) | (show (Addr.add _ _).block ≠ _; rw [add_block]; exact hn343_0) | exact hn343_0) (.int .i64 (wrap64 ((rd x9_4 ((rd_T30 t318 x12_4).f1)) - ((rd_T30 t318 x12_4).f2))))).trans hx343_0
                 clear hn343_0
                 replace p343 := eq_true p343
                 replace q343 := eq_true q343
                 go_wp2
                 go_meet
                 case rel => exact ⟨_, (true), (by first | rfl | (simp; done) | (simp [*]; done)), H', ⟨by have := HJ4.out; have := HK2.out; have := HK3.out; have := HK4.out; have := HJ63.out; have := HJ82.out; first | omega | exact Nat.le_refl _⟩, ⟨by (with_reducible repeat (first | apply Kd.qe0 | apply Kd.qd0 | apply Kd.qf0)); exact Kd.qm0 (Kd.R_far (p := ⟨go106, (((rd_T30 t318 x12_4).f1) : Int).toNat, none⟩) (Kd.qf1 HO_4.out GG106.out (by decide)) (fun _ hk => hk.2) (.int .i64 (wrap64 ((rd x9_4 ((rd_T30 t318 x12_4).f1)) - ((rd_T30 t318 x12_4).f2))))) (fun _ hk => hk.1)⟩, ⟨by (with_reducible repeat (first | apply Kd.qe0 | apply Kd.qd0 | apply Kd.qf0)); exact Kd.qm0 (Kd.R_far (p := ⟨go106, (((rd_T30 t318 x12_4).f1) : Int).toNat, none⟩) (Kd.qf1 HO_5.out GG106.out (by decide)) (fun _ hk => hk.2) (.int .i64 (wrap64 ((rd x9_4 ((rd_T30 t318 x12_4).f1)) - ((rd_T30 t318 x12_4).f2))))) (fun _ hk => hk.1)⟩, ⟨by (with_reducible repeat (first | apply Kd.qe0 | apply Kd.qd0 | apply Kd.qf0)); exact Kd.qm0 (Kd.R_far (p := ⟨go106, (((rd_T30 t318 x12_4).f1) : Int).toNat, none⟩) (Kd.qf1 HO_7.out GG106.out (by decide)) (fun _ hk => hk.2) (.int .i64 (wrap64 ((rd x9_4 ((rd_T30 t318 x12_4).f1)) - ((rd_T30 t318 x12_4).f2))))) (fun _ hk => hk.1)⟩, ⟨by (with_reducible repeat (first | apply Kd.qe0 | apply Kd.qd0 | apply Kd.qf0)); exact Kd.qm0 (Kd.R_far (p := ⟨go106, (((rd_T30 t318 x12_4).f1) : Int).toNat, none⟩) (Kd.qm0 HO_8.out (fun k_ hk => (⟨hk, fun e_ => hk (by rw [e_]; rfl)⟩ : _ ∧ k_ ≠ go106))) (fun _ hk => hk.2) (.int .i64 (wrap64 ((rd x9_4 ((rd_T30 t318 x12_4).f1)) - ((rd_T30 t318 x12_4).f2))))) (fun _ hk => hk.1)⟩, ⟨by (with_reducible repeat (first | apply Kd.qe0 | apply Kd.qd0 | apply Kd.qf0)); exact HQ114.out⟩, ⟨by (with_reducible repeat (first | refine qn0 ?_ _ | refine qp0 ?_ | refine qo0 ?_ _)); refine blk_far ?_ (by have h_ := Kd.R_ne HO_9.out BK332.out (by decide); intro e_; exact h_ (by rw [e_]; rfl)) _; (with_reducible repeat (first | refine qn0 ?_ _ | refine qp0 ?_ | refine qo0 ?_ _)); exact BK332.out⟩, ⟨by repeat (first | (with_reducible first | exact HB.out | apply qc0 | apply qa0 | apply qb0 | refine qh0 ?_ GB106.out | refine qh0 ?_ GE332.out) | exact HB.out)⟩⟩
                rw [if_neg c115] at H
                have c115b0 : decide ((rd y340 ((rd_T30 t318 x12_4).f0)) < 0) = false := decide_eq_false c115
                clear c115
                (first | rw [c115b0] | (simp only [i64_w, i32_w]; rw [c115b0]) | skip)
                have H' := Aside0.mk H
                clear H
                have hcz118_0 : w112.cell? ⟨gb332, 0, none⟩ = some (.int .i64 ((rd_T30 t318 x12_4).f0)) := (qu0 BK332.out 0).trans rfl
                have hcz118_1 : w112.cell? ⟨gb332, 1, none⟩ = some (.int .i64 ((rd_T30 t318 x12_4).f1)) := (qu0 BK332.out 1).trans rfl
                have hcz118_2 : w112.cell? ⟨gb332, 2, none⟩ = some (.int .i64 ((rd_T30 t318 x12_4).f2)) := (qu0 BK332.out 2).trans rfl
                have hfz118_0 := qt0 BK332.out 0
                have hfz118_1 := qt0 BK332.out 1
                have hfz118_2 := qt0 BK332.out 2
                have hz332_118 : gb332 ≠ go106 := (by have h_ := Kd.R_ne HO_9.out BK332.out (by decide); intro e_; exact h_ (by rw [e_]; rfl))
                replace hcz118_0 := (cell_far (p := ⟨go106, (((rd_T30 t318 x12_4).f1) : Int).toNat, none⟩) (a := ⟨gb332, 0, none⟩) hz332_118 (.int .i64 (wrap64 ((rd x9_4 ((rd_T30 t318 x12_4).f1)) - ((rd_T30 t318 x12_4).f2))))).trans hcz118_0
                replace hcz118_1 := (cell_far (p := ⟨go106, (((rd_T30 t318 x12_4).f1) : Int).toNat, none⟩) (a := ⟨gb332, 1, none⟩) hz332_118 (.int .i64 (wrap64 ((rd x9_4 ((rd_T30 t318 x12_4).f1)) - ((rd_T30 t318 x12_4).f2))))).trans hcz118_1
                replace hcz118_2 := (cell_far (p := ⟨go106, (((rd_T30 t318 x12_4).f1) : Int).toNat, none⟩) (a := ⟨gb332, 2, none⟩) hz332_118 (.int .i64 (wrap64 ((rd x9_4 ((rd_T30 t318 x12_4).f1)) - ((rd_T30 t318 x12_4).f2))))).trans hcz118_2
                have p343 : 0 ≤ (((rd_T30 t318 x12_4).f0) : Int) := of_decide_eq_true (by first | (with_reducible assumption) | assumption)
                have q343 : ((rd_T30 t318 x12_4).f0) < (y340.length : Int) := (by have h_ : (((rd_T30 t318 x12_4).f0) : Int) < ((x8_4.length : Int) : Int) := of_decide_eq_true (by first | (with_reducible assumption) | assumption); first | (have e_ := (Kd.qi0 HO_8.out).1; omega) | simpa only [Ny340.out, List.length_set] using h_)
                have ql343 : ((((rd_T30 t318 x12_4).f0) : Int) < ((x8_4.length : Int) : Int)) = True := eq_true (of_decide_eq_true (by first | (with_reducible assumption) | assumption))
                obtain ⟨ad343, e343, hx343_0⟩ := Kd.qh1 (Kd.qi0 HO_8.out).2.2 ((rd_T30 t318 x12_4).f0) p343 q343
                obtain rfl : (⟨go103, 0, none⟩ : Addr) = ad343 := (by injection e343)
                (first | simp only [add_plain] at hx343_0 | simp only [add_at] at hx343_0 | simp only [Addr.add, Nat.zero_add] at hx343_0 | skip)
                have hn343_0 : go103 ≠ go106 := (by first | (intro e_; exact HO_8.out.1 _ rfl (by rw [e_]; rfl)) | (intro e_; exact HO_9.out.1 _ rfl (by rw [← e_]; rfl)) | (intro e_; exact HO_8.out.1 _ rfl (by rw [← e_]; rfl)) | (intro e_; exact HO_9.out.1 _ rfl (by rw [e_]; rfl)))
                replace hx343_0 := (cell_far (p := ⟨go106, (((rd_T30 t318 x12_4).f1) : Int).toNat, none⟩) (by first | (rw [add_block]; exact hn343_0) | (show (Addr.add _ _).block ≠ _; rw [add_block]; exact hn343_0) | exact hn343_0) (.int .i64 (wrap64 ((rd x9_4 ((rd_T30 t318 x12_4).f1)) - ((rd_T30 t318 x12_4).f2))))).trans hx343_0
                clear hn343_0
                replace p343 := eq_true p343
                replace q343 := eq_true q343
                have p117 : 0 ≤ (((rd_T30 t318 x12_4).f1) : Int) := of_decide_eq_true (by first | (with_reducible assumption) | assumption)
                have q117 : (((rd_T30 t318 x12_4).f1) : Int) < ((x9_4.length : Int) : Int) := of_decide_eq_true (by first | (with_reducible assumption) | assumption)
                replace p117 := eq_true p117
                replace q117 := eq_true q117
                go_wp2
                go_meet
                case rel => exact ⟨_, (decide ((wrap64 ((rd x9_4 ((rd_T30 t318 x12_4).f1)) - ((rd_T30 t318 x12_4).f2))) < 0)), (by first | rfl | (simp; done) | (simp [*]; done)), H', ⟨by have := HJ4.out; have := HK2.out; have := HK3.out; have := HK4.out; have := HJ63.out; have := HJ82.out; first | omega | exact Nat.le_refl _⟩, ⟨by (with_reducible repeat (first | apply Kd.qe0 | apply Kd.qd0 | apply Kd.qf0)); exact Kd.qm0 (Kd.R_far (p := ⟨go106, (((rd_T30 t318 x12_4).f1) : Int).toNat, none⟩) (Kd.qf1 HO_4.out GG106.out (by decide)) (fun _ hk => hk.2) (.int .i64 (wrap64 ((rd x9_4 ((rd_T30 t318 x12_4).f1)) - ((rd_T30 t318 x12_4).f2))))) (fun _ hk => hk.1)⟩, ⟨by (with_reducible repeat (first | apply Kd.qe0 | apply Kd.qd0 | apply Kd.qf0)); exact Kd.qm0 (Kd.R_far (p := ⟨go106, (((rd_T30 t318 x12_4).f1) : Int).toNat, none⟩) (Kd.qf1 HO_5.out GG106.out (by decide)) (fun _ hk => hk.2) (.int .i64 (wrap64 ((rd x9_4 ((rd_T30 t318 x12_4).f1)) - ((rd_T30 t318 x12_4).f2))))) (fun _ hk => hk.1)⟩, ⟨by (with_reducible repeat (first | apply Kd.qe0 | apply Kd.qd0 | apply Kd.qf0)); exact Kd.qm0 (Kd.R_far (p := ⟨go106, (((rd_T30 t318 x12_4).f1) : Int).toNat, none⟩) (Kd.qf1 HO_7.out GG106.out (by decide)) (fun _ hk => hk.2) (.int .i64 (wrap64 ((rd x9_4 ((rd_T30 t318 x12_4).f1)) - ((rd_T30 t318 x12_4).f2))))) (fun _ hk => hk.1)⟩, ⟨by (with_reducible repeat (first | apply Kd.qe0 | apply Kd.qd0 | apply Kd.qf0)); exact Kd.qm0 (Kd.R_far (p := ⟨go106, (((rd_T30 t318 x12_4).f1) : Int).toNat, none⟩) (Kd.qm0 HO_8.out (fun k_ hk => (⟨hk, fun e_ => hk (by rw [e_]; rfl)⟩ : _ ∧ k_ ≠ go106))) (fun _ hk => hk.2) (.int .i64 (wrap64 ((rd x9_4 ((rd_T30 t318 x12_4).f1)) - ((rd_T30 t318 x12_4).f2))))) (fun _ hk => hk.1)⟩, ⟨by (with_reducible repeat (first | apply Kd.qe0 | apply Kd.qd0 | apply Kd.qf0)); exact HQ114.out⟩, ⟨by (with_reducible repeat (first | refine qn0 ?_ _ | refine qp0 ?_ | refine qo0 ?_ _)); refine blk_far ?_ (by have h_ := Kd.R_ne HO_9.out BK332.out (by decide); intro e_; exact h_ (by rw [e_]; rfl)) _; (with_reducible repeat (first | refine qn0 ?_ _ | refine qp0 ?_ | refine qo0 ?_ _)); exact BK332.out⟩, ⟨by repeat (first | (with_reducible first | exact HB.out | apply qc0 | apply qa0 | apply qb0 | refine qh0 ?_ GB106.out | refine qh0 ?_ GE332.out) | exact HB.out)⟩⟩
               case rest => as_aux_lemma =>
                clear HC107
                try clear c1
                try clear p1
                try clear q1
                try clear hx1
                try clear hf1
                try clear p2
                try clear p3
                try clear q3
                try clear hx3
                try clear p6
                try clear c8
                try clear c10
                try clear p10
                try clear q10
                try clear hx10
                try clear hf10
                try clear c11
                try clear p11
                try clear q11
                try clear p33
                try clear q33
                try clear hx33
                try clear p34
                try clear q34
                try clear hx34
                try clear p64
                try clear c84
                try clear c84b0
                try clear c100
                try clear c101
                try clear c101b0
                try clear c102
                try clear c102b0
                try clear p103
                try clear q103
                try clear hx103
                try clear hf103
                try clear c104
                try clear c104b0
                try clear c105
                try clear c105b0
                try clear p106
                try clear q106
                try clear hx106
                try clear hf106
                try clear c115
                try clear c115b0
                try clear p117
                try clear q117
                try clear hcz116_0
                try clear hcz116_1
                try clear hcz116_2
                try clear hcz118_0
                try clear hcz118_1
                try clear hcz118_2
                try clear hfz116_0
                try clear hfz116_1
                try clear hfz116_2
                try clear hfz118_0
                try clear hfz118_1
                try clear hfz118_2
                try clear hx103_0
                try clear hx106_0
                try clear hx333_0
                try clear hx333_1
                try clear hx334_0
                try clear hx334_1
                try clear hx334_2
                try clear hx335_0
                try clear hx335_1
                try clear hx336_0
                try clear hx336_1
                try clear hx337_0
                try clear hx337_1
                try clear hx337_2
                try clear hx338_0
                try clear hx338_1
                try clear hx339_0
                try clear hx341_0
                try clear hx343_0
                try clear p103
                try clear p106
                try clear p117
                try clear p2
                try clear p3
                try clear p33
                try clear p333
                try clear p334
                try clear p335
                try clear p336
                try clear p337
                try clear p338
                try clear p339
                try clear p341
                try clear p343
                try clear q103
                try clear q106
                try clear q117
                try clear q3
                try clear q33
                try clear q333
                try clear q334
                try clear q335
                try clear q336
                try clear q337
                try clear q338
                try clear q339
                try clear q341
                try clear q343
                obtain ⟨kq, x213_106, rfl, HA, HJ106, HO_4, HO_5, HO_7, HO_8, HO_9, BK332, HB⟩ := hcut
                have hl8_106 := (Kd.qi0 HO_8.out).1
                rw [hl8_106] at HO_8
                (try simp only [hl8_106])
                (try simp only [hl8_106] at BK332)
                (try simp only [hl8_106] at HO_4)
                (try simp only [hl8_106] at HO_5)
                (try simp only [hl8_106] at HO_7)
                (try simp only [hl8_106] at HO_9)
                have hl9_106 := (Kd.qi0 HO_9.out).1
                rw [hl9_106] at HO_9
                (try simp only [hl9_106])
                (try simp only [hl9_106] at BK332)
                (try simp only [hl9_106] at HO_4)
                (try simp only [hl9_106] at HO_5)
                (try simp only [hl9_106] at HO_7)
                (try simp only [hl9_106] at HO_8)
                cases kq with
                | zero => exact absurd HA.out (by simp [laws_FnSettled.j6])
                | succ kj106 =>
                 have H := HA.out
                 clear HA
                 simp only [laws_FnSettled.j6] at H
                 by_cases c119 : x213_106 = true
                 ·subst c119
                  have H1 : (some false) = some r := by rw [if_pos rfl] at H; exact H
                  clear H
                  have H := H1
                  clear H1
                  obtain rfl := Option.some.inj H
                  go_wp2
                  go_ret
                  exact ⟨by first | rfl | (simp [errW_none, errW_some] <;> rfl) | (simp [*, errW_none, errW_some] <;> rfl), by repeat (first | (with_reducible first | exact HB.out | apply qc0 | apply qa0 | apply qb0 | refine qh0 ?_ GE332.out) | exact HB.out)⟩
                 replace c119 := Bool.eq_false_iff.mpr c119
                 subst c119
                 have H1 : (laws_FnSettled.l2 kj106 t309 t310 t318 y340 y342 (wrap64 (x12_4 + 1))) = some r := by rw [if_neg (show ¬ (false = true) by decide)] at H; exact H
                 clear H
                 have H := H1
                 clear H1
                 have H' := Aside0.mk H
                 clear H
                 go_wp2
                 (try simp only [← hl8_106, ← hl9_106])
                 go_roundg kj106
                 case measure => have := HJ4.out; have := HK2.out; have := HK3.out; have := HK4.out; have := HJ63.out; have := HJ82.out; have := HJ106.out; omega
                 case rel => exact ⟨(y340), (y342), (wrap64 (x12_4 + 1)), (by first | rfl | (simp; done) | (simp [*]; done)), H', ⟨by have := HJ4.out; have := HK2.out; have := HK3.out; have := HK4.out; have := HJ63.out; have := HJ82.out; have := HJ106.out; omega⟩, ⟨by (try simp only [hl8_106]); (try simp only [hl9_106]); (with_reducible repeat (first | apply Kd.qe0 | apply Kd.qd0 | apply Kd.qf0)); exact HO_4.out⟩, ⟨by (try simp only [hl8_106]); (try simp only [hl9_106]); (with_reducible repeat (first | apply Kd.qe0 | apply Kd.qd0 | apply Kd.qf0)); exact HO_5.out⟩, ⟨by (try simp only [hl8_106]); (try simp only [hl9_106]); (with_reducible repeat (first | apply Kd.qe0 | apply Kd.qd0 | apply Kd.qf0)); exact Kd.qm0 HO_7.out (fun _ hk => trivial)⟩, ⟨by (try simp only [hl8_106]); (try simp only [hl9_106]); (with_reducible repeat (first | apply Kd.qe0 | apply Kd.qd0 | apply Kd.qf0)); exact HO_8.out⟩, ⟨by (try simp only [hl8_106]); (try simp only [hl9_106]); (with_reducible repeat (first | apply Kd.qe0 | apply Kd.qd0 | apply Kd.qf0)); exact HO_9.out⟩, ⟨by repeat (first | (with_reducible first | exact HB.out | apply qc0 | apply qa0 | apply qb0 | refine qh0 ?_ GE332.out) | exact HB.out)⟩⟩
          rw [if_neg c62] at H
          have c62b0 : decide (x12_4 < (t318.length : Int)) = false := decide_eq_false c62
          clear c62
          replace H := Option.bind_eq_some_iff.mp H
          obtain ⟨t345, A1200, H⟩ := H
          replace H : (if t345 = 0 then (some true) else ((laws_sum.f k4 x9_4).bind fun t346 => (some (t346 == 0)))) = some r := H
          have A120 := Aside0.mk A1200
          clear A1200
          by_cases c121 : t345 = 0
          ·rw [if_pos c121] at H
           have c121b0 : (t345 == 0) = true := beq_iff_eq.mpr c121
           have c121b1 : (t345 != 0) = false := bne_eq_false_iff_eq.mpr c121
           clear c121
           obtain rfl := Option.some.inj H
           obtain ⟨Ao122, co122, eo122⟩ := Kd.qw0 HO_8.out
           subst eo122
           go_wp2_with (first | ((with_reducible refine qj0 (f := 19) rfl ?_); refine qz0 (some 215) rfl rfl Try.func19 (by kernel_rfl) rfl #[.slice Ao122 x8_4.length co122] rfl (by (try simp only [List.map_toArray, List.map_cons, List.map_nil]); first | done | rfl | (simp only [List.length_drop, List.length_take]; rfl)) ?_; (with_reducible refine (laws_sum.calls k4 _ _ x8_4 t345 _ ?side1 ?side2 A120.out).mono ?_); (case side1 => repeat (first | exact (Kd.qi0 HO_8.out).2.2 | (with_reducible refine Kd.qb1 ?_ _) | (with_reducible refine Kd.qa1 ?_ _) | (with_reducible refine Kd.qg1 ?_))); (case side2 => exact (Kd.qi0 HO_8.out).2.1); rintro e w' ⟨rfl, ⟨nd, rfl⟩⟩; refine ⟨_, rfl, ?_⟩))
           go_ret
           exact ⟨by first | rfl | (simp [errW_none, errW_some] <;> rfl) | (simp [*, errW_none, errW_some] <;> rfl), by repeat (first | (with_reducible first | exact HB.out | apply qc0 | apply qa0 | apply qb0) | exact HB.out)⟩
          rw [if_neg c121] at H
          have c121b0 : (t345 == 0) = false := beq_eq_false_iff_ne.mpr c121
          have c121b1 : (t345 != 0) = true := bne_iff_ne.mpr c121
          replace H := Option.bind_eq_some_iff.mp H
          obtain ⟨t346, A1230, H⟩ := H
          replace H : (some (t346 == 0)) = some r := H
          have A123 := Aside0.mk A1230
          clear A1230
          obtain rfl := Option.some.inj H
          obtain ⟨Ao124, co124, eo124⟩ := Kd.qw0 HO_8.out
          subst eo124
          go_wp2_with (first | ((with_reducible refine qj0 (f := 19) rfl ?_); refine qz0 (some 215) rfl rfl Try.func19 (by kernel_rfl) rfl #[.slice Ao124 x8_4.length co124] rfl (by (try simp only [List.map_toArray, List.map_cons, List.map_nil]); first | done | rfl | (simp only [List.length_drop, List.length_take]; rfl)) ?_; (with_reducible refine (laws_sum.calls k4 _ _ x8_4 t345 _ ?side1 ?side2 A120.out).mono ?_); (case side1 => repeat (first | exact (Kd.qi0 HO_8.out).2.2 | (with_reducible refine Kd.qb1 ?_ _) | (with_reducible refine Kd.qa1 ?_ _) | (with_reducible refine Kd.qg1 ?_))); (case side2 => exact (Kd.qi0 HO_8.out).2.1); rintro e w' ⟨rfl, ⟨nd, rfl⟩⟩; refine ⟨_, rfl, ?_⟩; obtain ⟨Ao125, co125, eo125⟩ := Kd.qw0 HO_9.out; subst eo125) | (go_at_call 19; (with_reducible refine (laws_sum.calls k4 _ _ x9_4 t346 _ ?side1 ?side2 A123.out).mono ?_); (case side1 => repeat (first | exact (Kd.qi0 HO_9.out).2.2 | (with_reducible refine Kd.qb1 ?_ _) | (with_reducible refine Kd.qa1 ?_ _) | (with_reducible refine Kd.qg1 ?_))); (case side2 => exact (Kd.qi0 HO_9.out).2.1); rintro e w' ⟨rfl, ⟨nd, rfl⟩⟩))
          go_ret
          exact ⟨by first | rfl | (simp [errW_none, errW_some] <;> rfl) | (simp [*, errW_none, errW_some] <;> rfl), by repeat (first | (with_reducible first | exact HB.out | apply qc0 | apply qa0 | apply qb0) | exact HB.out)⟩
   rw [if_neg c26] at H
   have c26b0 : ((t318.length : Int) == (t315.length : Int)) = false := beq_eq_false_iff_ne.mpr c26
   have c26b1 : ((t318.length : Int) != (t315.length : Int)) = true := bne_iff_ne.mpr c26
   have c26b2 : (t318.length == t315.length) = false := by first | simpa using c26 | (simp at c26 ⊢; omega)
   obtain rfl := Option.some.inj H
   go_wp2_with (first | ((with_reducible refine qj0 (f := 17) rfl ?_); refine qz0 (some 48) rfl rfl Try.func17 (by kernel_rfl) rfl #[.slice A0 l0.length c0] rfl (by (try simp only [List.map_toArray, List.map_cons, List.map_nil]); first | done | rfl | (simp only [List.length_drop, List.length_take]; rfl)) ?_; (with_reducible refine (spec_DrawSettle.calls kj4 _ _ l0 t309 t310 _ ?side1 ?side2 A23.out).mono ?_); (case side1 => repeat (first | exact (Kd.C_below HR0.out HB.out) | (with_reducible refine Kd.qb1 ?_ _) | (with_reducible refine Kd.qa1 ?_ _) | (with_reducible refine Kd.qg1 ?_))); (case side2 => exact HC0.out); rintro e w126 ⟨v311, v313, rfl, ho0, ho1, hb⟩; refine ⟨_, rfl, ?_⟩; have n0_ := Aside0.mk (Kd.qe1 ho0 (ql0 (by repeat (first | (with_reducible first | exact HB.out | apply qc0 | apply qa0 | apply qb0) | exact HB.out)))); have n1_ := Aside0.mk (Kd.qe1 ho1 (ql0 (by repeat (first | (with_reducible first | exact HB.out | apply qc0 | apply qa0 | apply qb0) | exact HB.out)))); have n2_ := Aside0.mk (qq0 (by repeat (first | (with_reducible first | exact HB.out | apply qc0 | apply qa0 | apply qb0) | exact HB.out)) hb); clear HB; have HO312 := n0_; have HO314 := n1_; have HB := n2_; clear n0_ n1_ n2_; (try clear hb); (try clear hb2); (try clear hk); (try clear hi); (try clear ho0); (try clear ho1); obtain ⟨Ao127, co127, eo127⟩ := Kd.qw0 HO312.out; subst eo127; obtain ⟨Ao128, co128, eo128⟩ := Kd.qw0 HO314.out; subst eo128) | ((with_reducible refine qj0 (f := 18) rfl ?_); refine qz0 (some 53) rfl rfl Try.func18 (by kernel_rfl) rfl #[.slice Ao127 t309.length co127, .slice Ao128 t310.length co128] rfl (by (try simp only [List.map_toArray, List.map_cons, List.map_nil]); first | done | rfl | (simp only [List.length_drop, List.length_take]; rfl)) ?_; (with_reducible refine (spec_Settle.calls kj4 _ _ t309 _ _ t310 t315 _ ?side1 ?side2 ?side3 ?side4 A24.out).mono ?_); (case side1 => repeat (first | exact (Kd.qi0 HO312.out).2.2 | (with_reducible refine Kd.qb1 ?_ _) | (with_reducible refine Kd.qa1 ?_ _) | (with_reducible refine Kd.qg1 ?_))); (case side2 => exact (Kd.qi0 HO312.out).2.1); (case side3 => repeat (first | exact (Kd.qi0 HO314.out).2.2 | (with_reducible refine Kd.qb1 ?_ _) | (with_reducible refine Kd.qa1 ?_ _) | (with_reducible refine Kd.qg1 ?_))); (case side4 => exact (Kd.qi0 HO314.out).2.1); rintro e w129 ⟨v316, rfl, ho0, hb⟩; refine ⟨_, rfl, ?_⟩; have n0_ := Aside0.mk (Kd.qx0 (by (with_reducible repeat (first | apply Kd.qe0 | apply Kd.qd0 | apply Kd.qf0)); exact HO312.out) hb); have n1_ := Aside0.mk (Kd.qx0 (by (with_reducible repeat (first | apply Kd.qe0 | apply Kd.qd0 | apply Kd.qf0)); exact HO314.out) hb); have n2_ := Aside0.mk (Kd.qe1 ho0 (ql0 (by repeat (first | (with_reducible first | exact HB.out | apply qc0 | apply qa0 | apply qb0) | exact HB.out)))); have n3_ := Aside0.mk (qq0 (by repeat (first | (with_reducible first | exact HB.out | apply qc0 | apply qa0 | apply qb0) | exact HB.out)) hb); clear HO312; clear HO314; clear HB; have HO312 := n0_; have HO314 := n1_; have HO317 := n2_; have HB := n3_; clear n0_ n1_ n2_ n3_; (try clear hb); (try clear hb2); (try clear hk); (try clear hi); (try clear ho0)) | ((with_reducible refine qj0 (f := 16) rfl ?_); refine qz0 (some 56) rfl rfl Try.func16 (by kernel_rfl) rfl #[.slice Ao127 t309.length co127, .slice Ao128 t310.length co128] rfl (by (try simp only [List.map_toArray, List.map_cons, List.map_nil]); first | done | rfl | (simp only [List.length_drop, List.length_take]; rfl)) ?_; (with_reducible refine (impl_Settle.calls kj4 _ _ t309 _ _ t310 t318 _ ?side1 ?side2 ?side3 ?side4 A25.out).mono ?_); (case side1 => repeat (first | exact (Kd.qi0 HO312.out).2.2 | (with_reducible refine Kd.qb1 ?_ _) | (with_reducible refine Kd.qa1 ?_ _) | (with_reducible refine Kd.qg1 ?_))); (case side2 => exact (Kd.qi0 HO312.out).2.1); (case side3 => repeat (first | exact (Kd.qi0 HO314.out).2.2 | (with_reducible refine Kd.qb1 ?_ _) | (with_reducible refine Kd.qa1 ?_ _) | (with_reducible refine Kd.qg1 ?_))); (case side4 => exact (Kd.qi0 HO314.out).2.1); rintro e w130 ⟨v319, rfl, ho0, hb⟩; refine ⟨_, rfl, ?_⟩; have n0_ := Aside0.mk (Kd.qx0 (by (with_reducible repeat (first | apply Kd.qe0 | apply Kd.qd0 | apply Kd.qf0)); exact HO312.out) hb); have n1_ := Aside0.mk (Kd.qx0 (by (with_reducible repeat (first | apply Kd.qe0 | apply Kd.qd0 | apply Kd.qf0)); exact HO314.out) hb); have n2_ := Aside0.mk (Kd.R_elder' (by (with_reducible repeat (first | apply Kd.qe0 | apply Kd.qd0 | apply Kd.qf0)); exact HO317.out) (Kd.R_base ho0) hb); have n3_ := Aside0.mk (Kd.qe1 (Kd.R_new' ho0 (Kd.R_lt (by (with_reducible repeat (first | apply Kd.qe0 | apply Kd.qd0 | apply Kd.qf0)); exact HO317.out))) (ql0 (by repeat (first | (with_reducible first | exact HB.out | apply qc0 | apply qa0 | apply qb0) | exact HB.out)))); have n4_ := Aside0.mk (qq0 (by repeat (first | (with_reducible first | exact HB.out | apply qc0 | apply qa0 | apply qb0) | exact HB.out)) hb); clear HO312; clear HO314; clear HO317; clear HB; have HO312 := n0_; have HO314 := n1_; have HO317 := n2_; have HO320 := n3_; have HB := n4_; clear n0_ n1_ n2_ n3_ n4_; (try clear hb); (try clear hb2); (try clear hk); (try clear hi); (try clear ho0); obtain ⟨Ao131, co131, eo131⟩ := Kd.qw0 HO320.out; subst eo131; obtain ⟨Ao132, co132, eo132⟩ := Kd.qw0 HO317.out; subst eo132))
   go_ret
   exact ⟨by first | rfl | (simp [errW_none, errW_some] <;> rfl) | (simp [*, errW_none, errW_some] <;> rfl), by repeat (first | (with_reducible first | exact HB.out | apply qc0 | apply qa0 | apply qb0) | exact HB.out)⟩

/-- THE ONE PURE STATEMENT of laws_FnSettled: yours. -/
def laws_FnSettled.Pure : Prop := ∀ (l0 : List Int), l0.length ≤ maxLen → l0.length * 1 ≤ 140737488351232 → (∀ x ∈ l0, (Lit.int .u8 x).wf = true) → ∃ k, laws_FnSettled.f k l0 = some true
theorem laws_FnSettled.walk (P : laws_FnSettled.Pure) (a0 : Option Addr) (len0 cap0 : Nat) (z0 : List Int) (w : World) (w0 : (a0 = none ∧ len0 = 0 ∧ cap0 = 0 ∧ z0 = []) ∨ ∃ x, a0 = some x ∧ len0 ≤ cap0 ∧ cap0 ≤ maxLen ∧ z0.length = cap0 ∧ (∀ i, i < z0.length → w.cell? (x.add i) = some (.int .u8 (z0.getD i 0))) ∧ ∀ n ∈ z0, (Lit.int .u8 n).wf = true) (y0 : len0 * 1 ≤ 140737488351232) :
  Calls Try.prog 3 #[.slice a0 len0 cap0] w fun e w' => e = .returned (.bool true) ∧ Below w.heap.size w w' := by
 obtain ⟨l0, rfl, hr0, hm0, hw0, hc0⟩ := qd1.ofRowC w0
 obtain ⟨k, h⟩ := P l0 hm0 y0 hw0
 refine (laws_FnSettled.calls k _ _ l0 true w (Kd.C_of_reads (d := (0 : Int)) (h1 := fun _ => rfl) hr0) hc0 h).mono ?_
 rintro e w' ⟨rfl, hd⟩
 exact ⟨rfl, hd⟩

end Go.Proofs.Ytlodndejipjceaa.PFnSettled
