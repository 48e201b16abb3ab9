/- Lines by a program (a changed copy of the kit's print: this repo's wip/tools): Go functions as Lean functions, and proofs that the calls answer so. -/
import Derived.Test.YtkkdmmefnicmaaaZPFnUnitsx0
import Derived.Test.YtkkdmmefnicmaaaZPFnUnitsx5
import Derived.Test.YtkkdmmefnicmaaaZPFnUnitsx6
import Derived.Test.YtkkdmmefnicmaaaZPFnUnitsx7
namespace Go.Proofs.Ytkkdmmefnicmaaa.PFnUnits
open Go.RowKit Go.Proofs.YtkkdmmefnicmaaaW.PrintWords Go.Proofs.YtkkdmmefnicmaaaW.PrintLast Go.Proofs.YtkkdmmefnicmaaaW.PrintMore
attribute [local go_sem] max2_int min2_int max_two min_two max_three min_three max_four min_four   -- for this text's walks alone
set_option linter.unusedVariables false
set_option linter.unusedSimpArgs false

/-! ### spec_QtyIn: function 19 -/
mutual
def spec_QtyIn.j0 : Nat → List (S35) → Int → ByteArray → ByteArray → Bool → Option (Int × Bool)
 | 0, _, _, _, _, _ => none
 | k + 1, x0, x1, x2, x3, x38 => if x38 = true then (some (0, false)) else (spec_QtyIn.l0 k x0 x1 x2 x3 0)
def spec_QtyIn.l0 : Nat → List (S35) → Int → ByteArray → ByteArray → Int → Option (Int × Bool)
 | 0, _, _, _, _, _ => none
 | k + 1, x0, x1, x2, x3, x10 => if x10 < (x0.length : Int) then (if 0 ≤ x10 then ((spec_NameOk.f k ((rd_T35 x0 x10).f0)).bind fun t270 => (if t270 = true then ((spec_NameOk.f k ((rd_T35 x0 x10).f1)).bind fun t271 => (if t271 = true then (if ((rd_T35 x0 x10).f0).toList = ((rd_T35 x0 x10).f1).toList then (some (0, false)) else ((spec_l1In.f ((rd_T35 x0 x10).f2) 1 10000).bind fun t272 => (if t272 = true then ((spec_l1In.f ((rd_T35 x0 x10).f3) 1 10000).bind fun t273 => (if t273 = true then (spec_QtyIn.l0 k x0 x1 x2 x3 (wrap64 (x10 + 1))) else (some (0, false)))) else (some (0, false))))) else (some (0, false)))) else (some (0, false)))) else (none)) else (spec_QtyIn.l1 k x0 x1 x3 (([(⟨x2, 1, 1, 0⟩ : S127)] : List (S127))) 0)
def spec_QtyIn.l1 : Nat → List (S35) → Int → ByteArray → List (S127) → Int → Option (Int × Bool)
 | 0, _, _, _, _, _ => none
 | k + 1, x0, x1, x3, x12, x13 => if x13 < (x12.length : Int) then (if 0 ≤ x13 then (spec_QtyIn.l2 k x0 x1 x3 x12 x13 0 ((rd_T127 x12 x13).f0) ((rd_T127 x12 x13).f1) ((rd_T127 x12 x13).f2) ((rd_T127 x12 x13).f3)) else (none)) else (spec_QtyIn.l4 k x1 x3 x12 0)
def spec_QtyIn.l2 : Nat → List (S35) → Int → ByteArray → List (S127) → Int → Int → ByteArray → Int → Int → Int → Option (Int × Bool)
 | 0, _, _, _, _, _, _, _, _, _, _ => none
 | k + 1, x0, x1, x3, x12, x13, x15, x279000, x279001, x279002, x279003 => if x15 < (x0.length : Int) then (spec_QtyIn.j4 k x0 x1 x3 x12 x13 x15 (decide (x279003 < 4)) x279000 x279001 x279002 x279003) else (spec_QtyIn.j4 k x0 x1 x3 x12 x13 x15 false x279000 x279001 x279002 x279003)
def spec_QtyIn.j4 : Nat → List (S35) → Int → ByteArray → List (S127) → Int → Int → Bool → ByteArray → Int → Int → Int → Option (Int × Bool)
 | 0, _, _, _, _, _, _, _, _, _, _, _ => none
 | k + 1, x0, x1, x3, x12, x13, x15, x99, x279000, x279001, x279002, x279003 => if x99 = true then (if 0 ≤ x15 then (if x15 < (x0.length : Int) then (if x279000.toList = ((rd_T35 x0 x15).f0).toList then (spec_QtyIn.j5 k x0 x1 x3 x12 x13 x15 x279000 x279001 x279002 x279003 ((rd_T35 x0 x15).f1) (wrap64 (x279001 * ((rd_T35 x0 x15).f2))) (wrap64 (x279002 * ((rd_T35 x0 x15).f3))) (wrap64 (x279003 + 1))) else (if x279000.toList = ((rd_T35 x0 x15).f1).toList then (spec_QtyIn.j5 k x0 x1 x3 x12 x13 x15 x279000 x279001 x279002 x279003 ((rd_T35 x0 x15).f0) (wrap64 (x279001 * ((rd_T35 x0 x15).f3))) (wrap64 (x279002 * ((rd_T35 x0 x15).f2))) (wrap64 (x279003 + 1))) else (spec_QtyIn.l2 k x0 x1 x3 x12 x13 (wrap64 (x15 + 1)) x279000 x279001 x279002 x279003))) else (none)) else (none)) else (spec_QtyIn.l1 k x0 x1 x3 x12 (wrap64 (x13 + 1)))
def spec_QtyIn.j5 : Nat → List (S35) → Int → ByteArray → List (S127) → Int → Int → ByteArray → Int → Int → Int → ByteArray → Int → Int → Int → Option (Int × Bool)
 | 0, _, _, _, _, _, _, _, _, _, _, _, _, _, _ => none
 | k + 1, x0, x1, x3, x12, x13, x15, x279000, x279001, x279002, x279003, x282000, x282001, x282002, x282003 => spec_QtyIn.l3 k x0 x1 x3 x12 x13 x15 false 0 x279000 x279001 x279002 x279003 x282000 x282001 x282002 x282003
def spec_QtyIn.l3 : Nat → List (S35) → Int → ByteArray → List (S127) → Int → Int → Bool → Int → ByteArray → Int → Int → Int → ByteArray → Int → Int → Int → Option (Int × Bool)
 | 0, _, _, _, _, _, _, _, _, _, _, _, _, _, _, _, _ => none
 | k + 1, x0, x1, x3, x12, x13, x15, x18, x19, x279000, x279001, x279002, x279003, x282000, x282001, x282002, x282003 => if x19 < (x12.length : Int) then (if 0 ≤ x19 then (if ((rd_T127 x12 x19).f0).toList = x282000.toList then (spec_QtyIn.l3 k x0 x1 x3 x12 x13 x15 true (wrap64 (x19 + 1)) x279000 x279001 x279002 x279003 x282000 x282001 x282002 x282003) else (spec_QtyIn.l3 k x0 x1 x3 x12 x13 x15 x18 (wrap64 (x19 + 1)) x279000 x279001 x279002 x279003 x282000 x282001 x282002 x282003)) else (none)) else (if x18 = true then (spec_QtyIn.l2 k x0 x1 x3 x12 x13 (wrap64 (x15 + 1)) x279000 x279001 x279002 x279003) else (if x12.length < 3518437208883 then (spec_QtyIn.l2 k x0 x1 x3 (x12 ++ [(⟨x282000, x282001, x282002, x282003⟩ : S127)]) x13 (wrap64 (x15 + 1)) x279000 x279001 x279002 x279003) else (none)))
def spec_QtyIn.l4 : Nat → Int → ByteArray → List (S127) → Int → Option (Int × Bool)
 | 0, _, _, _, _ => none
 | k + 1, x1, x3, x12, x20 => if x20 < (x12.length : Int) then (if 0 ≤ x20 then (if ((rd_T127 x12 x20).f0).toList = x3.toList then ((spec_l15By.f k x1 ((rd_T127 x12 x20).f1) ((rd_T127 x12 x20).f2)).bind fun bt289 => (some (bt289.1, bt289.2))) else (spec_QtyIn.l4 k x1 x3 x12 (wrap64 (x20 + 1)))) else (none)) else (some (0, false))
end
def spec_QtyIn.f (k : Nat) (l0 : List (S35)) (a1 : Int) (a2 : ByteArray) (a3 : ByteArray) : Option (Int × Bool) := if (l0.length : Int) > 40 then (spec_QtyIn.j0 k l0 a1 a2 a3 true) else ((spec_l12Qty.f a1).bind fun t265 => (if t265 = true then ((spec_NameOk.f k a2).bind fun t266 => (if t266 = true then ((spec_NameOk.f k a3).bind fun t267 => (spec_QtyIn.j0 k l0 a1 a2 a3 (!t267))) else (spec_QtyIn.j0 k l0 a1 a2 a3 true))) else (spec_QtyIn.j0 k l0 a1 a2 a3 true)))
theorem spec_QtyIn.mono_l : ∀ k, (∀ y0 y1 y2 y3 y4, LeO (spec_QtyIn.j0 k y0 y1 y2 y3 y4) (spec_QtyIn.j0 (k + 1) y0 y1 y2 y3 y4)) ∧ (∀ y0 y1 y2 y3 y4, LeO (spec_QtyIn.l0 k y0 y1 y2 y3 y4) (spec_QtyIn.l0 (k + 1) y0 y1 y2 y3 y4)) ∧ (∀ y0 y1 y2 y3 y4, LeO (spec_QtyIn.l1 k y0 y1 y2 y3 y4) (spec_QtyIn.l1 (k + 1) y0 y1 y2 y3 y4)) ∧ (∀ y0 y1 y2 y3 y4 y5 y6 y7 y8 y9, LeO (spec_QtyIn.l2 k y0 y1 y2 y3 y4 y5 y6 y7 y8 y9) (spec_QtyIn.l2 (k + 1) y0 y1 y2 y3 y4 y5 y6 y7 y8 y9)) ∧ (∀ y0 y1 y2 y3 y4 y5 y6 y7 y8 y9 y10, LeO (spec_QtyIn.j4 k y0 y1 y2 y3 y4 y5 y6 y7 y8 y9 y10) (spec_QtyIn.j4 (k + 1) y0 y1 y2 y3 y4 y5 y6 y7 y8 y9 y10)) ∧ (∀ y0 y1 y2 y3 y4 y5 y6 y7 y8 y9 y10 y11 y12 y13, LeO (spec_QtyIn.j5 k y0 y1 y2 y3 y4 y5 y6 y7 y8 y9 y10 y11 y12 y13) (spec_QtyIn.j5 (k + 1) y0 y1 y2 y3 y4 y5 y6 y7 y8 y9 y10 y11 y12 y13)) ∧ (∀ y0 y1 y2 y3 y4 y5 y6 y7 y8 y9 y10 y11 y12 y13 y14 y15, LeO (spec_QtyIn.l3 k y0 y1 y2 y3 y4 y5 y6 y7 y8 y9 y10 y11 y12 y13 y14 y15) (spec_QtyIn.l3 (k + 1) y0 y1 y2 y3 y4 y5 y6 y7 y8 y9 y10 y11 y12 y13 y14 y15)) ∧ (∀ y0 y1 y2 y3, LeO (spec_QtyIn.l4 k y0 y1 y2 y3) (spec_QtyIn.l4 (k + 1) y0 y1 y2 y3))
 | 0 => ⟨fun _ _ _ _ _ r h => by simp [spec_QtyIn.j0] at h, fun _ _ _ _ _ r h => by simp [spec_QtyIn.l0] at h, fun _ _ _ _ _ r h => by simp [spec_QtyIn.l1] at h, fun _ _ _ _ _ _ _ _ _ _ r h => by simp [spec_QtyIn.l2] at h, fun _ _ _ _ _ _ _ _ _ _ _ r h => by simp [spec_QtyIn.j4] at h, fun _ _ _ _ _ _ _ _ _ _ _ _ _ _ r h => by simp [spec_QtyIn.j5] at h, fun _ _ _ _ _ _ _ _ _ _ _ _ _ _ _ _ r h => by simp [spec_QtyIn.l3] at h, fun _ _ _ _ r h => by simp [spec_QtyIn.l4] at h⟩
 | k + 1 => by
  obtain ⟨ih0, ih1, ih2, ih3, ih4, ih5, ih6, ih7⟩ := spec_QtyIn.mono_l k
  refine ⟨?_, ?_, ?_, ?_, ?_, ?_, ?_, ?_⟩
  ·intro y0 y1 y2 y3 y4
   unfold spec_QtyIn.j0
   repeat' first
   | (with_reducible exact ih0 _ _ _ _ _)
   | (with_reducible exact ih1 _ _ _ _ _)
   | (with_reducible exact ih2 _ _ _ _ _)
   | (with_reducible exact ih3 _ _ _ _ _ _ _ _ _ _)
   | (with_reducible exact ih4 _ _ _ _ _ _ _ _ _ _ _)
   | (with_reducible exact ih5 _ _ _ _ _ _ _ _ _ _ _ _ _ _)
   | (with_reducible exact ih6 _ _ _ _ _ _ _ _ _ _ _ _ _ _ _ _)
   | (with_reducible exact ih7 _ _ _ _)
   | (with_reducible exact spec_NameOk.mono _ _)
   | (with_reducible exact spec_l15By.mono _ _ _ _)
   | (with_reducible exact LeO.refl _)
   | (with_reducible exact LeO.none _)
   | (with_reducible refine LeO.ite ?_ ?_)
   | (with_reducible refine LeO.bind ?_ (fun _ => ?_))
   | exact ih0 _ _ _ _ _
   | exact ih1 _ _ _ _ _
   | exact ih2 _ _ _ _ _
   | exact ih3 _ _ _ _ _ _ _ _ _ _
   | exact ih4 _ _ _ _ _ _ _ _ _ _ _
   | exact ih5 _ _ _ _ _ _ _ _ _ _ _ _ _ _
   | exact ih6 _ _ _ _ _ _ _ _ _ _ _ _ _ _ _ _
   | exact ih7 _ _ _ _
   | exact spec_NameOk.mono _ _
   | exact spec_l15By.mono _ _ _ _
   | exact LeO.none _
   | refine LeO.ite ?_ ?_
   | refine LeO.bind ?_ (fun _ => ?_)
  ·intro y0 y1 y2 y3 y4
   unfold spec_QtyIn.l0
   repeat' first
   | (with_reducible exact ih0 _ _ _ _ _)
   | (with_reducible exact ih1 _ _ _ _ _)
   | (with_reducible exact ih2 _ _ _ _ _)
   | (with_reducible exact ih3 _ _ _ _ _ _ _ _ _ _)
   | (with_reducible exact ih4 _ _ _ _ _ _ _ _ _ _ _)
   | (with_reducible exact ih5 _ _ _ _ _ _ _ _ _ _ _ _ _ _)
   | (with_reducible exact ih6 _ _ _ _ _ _ _ _ _ _ _ _ _ _ _ _)
   | (with_reducible exact ih7 _ _ _ _)
   | (with_reducible exact spec_NameOk.mono _ _)
   | (with_reducible exact spec_l15By.mono _ _ _ _)
   | (with_reducible exact LeO.refl _)
   | (with_reducible exact LeO.none _)
   | (with_reducible refine LeO.ite ?_ ?_)
   | (with_reducible refine LeO.bind ?_ (fun _ => ?_))
   | exact ih0 _ _ _ _ _
   | exact ih1 _ _ _ _ _
   | exact ih2 _ _ _ _ _
   | exact ih3 _ _ _ _ _ _ _ _ _ _
   | exact ih4 _ _ _ _ _ _ _ _ _ _ _
   | exact ih5 _ _ _ _ _ _ _ _ _ _ _ _ _ _
   | exact ih6 _ _ _ _ _ _ _ _ _ _ _ _ _ _ _ _
   | exact ih7 _ _ _ _
   | exact spec_NameOk.mono _ _
   | exact spec_l15By.mono _ _ _ _
   | exact LeO.none _
   | refine LeO.ite ?_ ?_
   | refine LeO.bind ?_ (fun _ => ?_)
  ·intro y0 y1 y2 y3 y4
   unfold spec_QtyIn.l1
   repeat' first
   | (with_reducible exact ih0 _ _ _ _ _)
   | (with_reducible exact ih1 _ _ _ _ _)
   | (with_reducible exact ih2 _ _ _ _ _)
   | (with_reducible exact ih3 _ _ _ _ _ _ _ _ _ _)
   | (with_reducible exact ih4 _ _ _ _ _ _ _ _ _ _ _)
   | (with_reducible exact ih5 _ _ _ _ _ _ _ _ _ _ _ _ _ _)
   | (with_reducible exact ih6 _ _ _ _ _ _ _ _ _ _ _ _ _ _ _ _)
   | (with_reducible exact ih7 _ _ _ _)
   | (with_reducible exact spec_NameOk.mono _ _)
   | (with_reducible exact spec_l15By.mono _ _ _ _)
   | (with_reducible exact LeO.refl _)
   | (with_reducible exact LeO.none _)
   | (with_reducible refine LeO.ite ?_ ?_)
   | (with_reducible refine LeO.bind ?_ (fun _ => ?_))
   | exact ih0 _ _ _ _ _
   | exact ih1 _ _ _ _ _
   | exact ih2 _ _ _ _ _
   | exact ih3 _ _ _ _ _ _ _ _ _ _
   | exact ih4 _ _ _ _ _ _ _ _ _ _ _
   | exact ih5 _ _ _ _ _ _ _ _ _ _ _ _ _ _
   | exact ih6 _ _ _ _ _ _ _ _ _ _ _ _ _ _ _ _
   | exact ih7 _ _ _ _
   | exact spec_NameOk.mono _ _
   | exact spec_l15By.mono _ _ _ _
   | exact LeO.none _
   | refine LeO.ite ?_ ?_
   | refine LeO.bind ?_ (fun _ => ?_)
  ·intro y0 y1 y2 y3 y4 y5 y6 y7 y8 y9
   unfold spec_QtyIn.l2
   repeat' first
   | (with_reducible exact ih0 _ _ _ _ _)
   | (with_reducible exact ih1 _ _ _ _ _)
   | (with_reducible exact ih2 _ _ _ _ _)
   | (with_reducible exact ih3 _ _ _ _ _ _ _ _ _ _)
   | (with_reducible exact ih4 _ _ _ _ _ _ _ _ _ _ _)
   | (with_reducible exact ih5 _ _ _ _ _ _ _ _ _ _ _ _ _ _)
   | (with_reducible exact ih6 _ _ _ _ _ _ _ _ _ _ _ _ _ _ _ _)
   | (with_reducible exact ih7 _ _ _ _)
   | (with_reducible exact spec_NameOk.mono _ _)
   | (with_reducible exact spec_l15By.mono _ _ _ _)
   | (with_reducible exact LeO.refl _)
   | (with_reducible exact LeO.none _)
   | (with_reducible refine LeO.ite ?_ ?_)
   | (with_reducible refine LeO.bind ?_ (fun _ => ?_))
   | exact ih0 _ _ _ _ _
   | exact ih1 _ _ _ _ _
   | exact ih2 _ _ _ _ _
   | exact ih3 _ _ _ _ _ _ _ _ _ _
   | exact ih4 _ _ _ _ _ _ _ _ _ _ _
   | exact ih5 _ _ _ _ _ _ _ _ _ _ _ _ _ _
   | exact ih6 _ _ _ _ _ _ _ _ _ _ _ _ _ _ _ _
   | exact ih7 _ _ _ _
   | exact spec_NameOk.mono _ _
   | exact spec_l15By.mono _ _ _ _
   | exact LeO.none _
   | refine LeO.ite ?_ ?_
   | refine LeO.bind ?_ (fun _ => ?_)
  ·intro y0 y1 y2 y3 y4 y5 y6 y7 y8 y9 y10
   unfold spec_QtyIn.j4
   repeat' first
   | (with_reducible exact ih0 _ _ _ _ _)
   | (with_reducible exact ih1 _ _ _ _ _)
   | (with_reducible exact ih2 _ _ _ _ _)
   | (with_reducible exact ih3 _ _ _ _ _ _ _ _ _ _)
   | (with_reducible exact ih4 _ _ _ _ _ _ _ _ _ _ _)
   | (with_reducible exact ih5 _ _ _ _ _ _ _ _ _ _ _ _ _ _)
   | (with_reducible exact ih6 _ _ _ _ _ _ _ _ _ _ _ _ _ _ _ _)
   | (with_reducible exact ih7 _ _ _ _)
   | (with_reducible exact spec_NameOk.mono _ _)
   | (with_reducible exact spec_l15By.mono _ _ _ _)
   | (with_reducible exact LeO.refl _)
   | (with_reducible exact LeO.none _)
   | (with_reducible refine LeO.ite ?_ ?_)
   | (with_reducible refine LeO.bind ?_ (fun _ => ?_))
   | exact ih0 _ _ _ _ _
   | exact ih1 _ _ _ _ _
   | exact ih2 _ _ _ _ _
   | exact ih3 _ _ _ _ _ _ _ _ _ _
   | exact ih4 _ _ _ _ _ _ _ _ _ _ _
   | exact ih5 _ _ _ _ _ _ _ _ _ _ _ _ _ _
   | exact ih6 _ _ _ _ _ _ _ _ _ _ _ _ _ _ _ _
   | exact ih7 _ _ _ _
   | exact spec_NameOk.mono _ _
   | exact spec_l15By.mono _ _ _ _
   | exact LeO.none _
   | refine LeO.ite ?_ ?_
   | refine LeO.bind ?_ (fun _ => ?_)
  ·intro y0 y1 y2 y3 y4 y5 y6 y7 y8 y9 y10 y11 y12 y13
   unfold spec_QtyIn.j5
   repeat' first
   | (with_reducible exact ih0 _ _ _ _ _)
   | (with_reducible exact ih1 _ _ _ _ _)
   | (with_reducible exact ih2 _ _ _ _ _)
   | (with_reducible exact ih3 _ _ _ _ _ _ _ _ _ _)
   | (with_reducible exact ih4 _ _ _ _ _ _ _ _ _ _ _)
   | (with_reducible exact ih5 _ _ _ _ _ _ _ _ _ _ _ _ _ _)
   | (with_reducible exact ih6 _ _ _ _ _ _ _ _ _ _ _ _ _ _ _ _)
   | (with_reducible exact ih7 _ _ _ _)
   | (with_reducible exact spec_NameOk.mono _ _)
   | (with_reducible exact spec_l15By.mono _ _ _ _)
   | (with_reducible exact LeO.refl _)
   | (with_reducible exact LeO.none _)
   | (with_reducible refine LeO.ite ?_ ?_)
   | (with_reducible refine LeO.bind ?_ (fun _ => ?_))
   | exact ih0 _ _ _ _ _
   | exact ih1 _ _ _ _ _
   | exact ih2 _ _ _ _ _
   | exact ih3 _ _ _ _ _ _ _ _ _ _
   | exact ih4 _ _ _ _ _ _ _ _ _ _ _
   | exact ih5 _ _ _ _ _ _ _ _ _ _ _ _ _ _
   | exact ih6 _ _ _ _ _ _ _ _ _ _ _ _ _ _ _ _
   | exact ih7 _ _ _ _
   | exact spec_NameOk.mono _ _
   | exact spec_l15By.mono _ _ _ _
   | exact LeO.none _
   | refine LeO.ite ?_ ?_
   | refine LeO.bind ?_ (fun _ => ?_)
  ·intro y0 y1 y2 y3 y4 y5 y6 y7 y8 y9 y10 y11 y12 y13 y14 y15
   unfold spec_QtyIn.l3
   repeat' first
   | (with_reducible exact ih0 _ _ _ _ _)
   | (with_reducible exact ih1 _ _ _ _ _)
   | (with_reducible exact ih2 _ _ _ _ _)
   | (with_reducible exact ih3 _ _ _ _ _ _ _ _ _ _)
   | (with_reducible exact ih4 _ _ _ _ _ _ _ _ _ _ _)
   | (with_reducible exact ih5 _ _ _ _ _ _ _ _ _ _ _ _ _ _)
   | (with_reducible exact ih6 _ _ _ _ _ _ _ _ _ _ _ _ _ _ _ _)
   | (with_reducible exact ih7 _ _ _ _)
   | (with_reducible exact spec_NameOk.mono _ _)
   | (with_reducible exact spec_l15By.mono _ _ _ _)
   | (with_reducible exact LeO.refl _)
   | (with_reducible exact LeO.none _)
   | (with_reducible refine LeO.ite ?_ ?_)
   | (with_reducible refine LeO.bind ?_ (fun _ => ?_))
   | exact ih0 _ _ _ _ _
   | exact ih1 _ _ _ _ _
   | exact ih2 _ _ _ _ _
   | exact ih3 _ _ _ _ _ _ _ _ _ _
   | exact ih4 _ _ _ _ _ _ _ _ _ _ _
   | exact ih5 _ _ _ _ _ _ _ _ _ _ _ _ _ _
   | exact ih6 _ _ _ _ _ _ _ _ _ _ _ _ _ _ _ _
   | exact ih7 _ _ _ _
   | exact spec_NameOk.mono _ _
   | exact spec_l15By.mono _ _ _ _
   | exact LeO.none _
   | refine LeO.ite ?_ ?_
   | refine LeO.bind ?_ (fun _ => ?_)
  ·intro y0 y1 y2 y3
   unfold spec_QtyIn.l4
   repeat' first
   | (with_reducible exact ih0 _ _ _ _ _)
   | (with_reducible exact ih1 _ _ _ _ _)
   | (with_reducible exact ih2 _ _ _ _ _)
   | (with_reducible exact ih3 _ _ _ _ _ _ _ _ _ _)
   | (with_reducible exact ih4 _ _ _ _ _ _ _ _ _ _ _)
   | (with_reducible exact ih5 _ _ _ _ _ _ _ _ _ _ _ _ _ _)
   | (with_reducible exact ih6 _ _ _ _ _ _ _ _ _ _ _ _ _ _ _ _)
   | (with_reducible exact ih7 _ _ _ _)
   | (with_reducible exact spec_NameOk.mono _ _)
   | (with_reducible exact spec_l15By.mono _ _ _ _)
   | (with_reducible exact LeO.refl _)
   | (with_reducible exact LeO.none _)
   | (with_reducible refine LeO.ite ?_ ?_)
   | (with_reducible refine LeO.bind ?_ (fun _ => ?_))
   | exact ih0 _ _ _ _ _
   | exact ih1 _ _ _ _ _
   | exact ih2 _ _ _ _ _
   | exact ih3 _ _ _ _ _ _ _ _ _ _
   | exact ih4 _ _ _ _ _ _ _ _ _ _ _
   | exact ih5 _ _ _ _ _ _ _ _ _ _ _ _ _ _
   | exact ih6 _ _ _ _ _ _ _ _ _ _ _ _ _ _ _ _
   | exact ih7 _ _ _ _
   | exact spec_NameOk.mono _ _
   | exact spec_l15By.mono _ _ _ _
   | exact LeO.none _
   | refine LeO.ite ?_ ?_
   | refine LeO.bind ?_ (fun _ => ?_)
theorem spec_QtyIn.mono : ∀ a0 a1 a2 a3 k, LeO (spec_QtyIn.f k a0 a1 a2 a3) (spec_QtyIn.f (k + 1) a0 a1 a2 a3) := by
 intro a0 a1 a2 a3 k
 obtain ⟨ih0, ih1, ih2, ih3, ih4, ih5, ih6, ih7⟩ := spec_QtyIn.mono_l k
 unfold spec_QtyIn.f
 repeat' first
   | (with_reducible exact ih0 _ _ _ _ _)
   | (with_reducible exact ih1 _ _ _ _ _)
   | (with_reducible exact ih2 _ _ _ _ _)
   | (with_reducible exact ih3 _ _ _ _ _ _ _ _ _ _)
   | (with_reducible exact ih4 _ _ _ _ _ _ _ _ _ _ _)
   | (with_reducible exact ih5 _ _ _ _ _ _ _ _ _ _ _ _ _ _)
   | (with_reducible exact ih6 _ _ _ _ _ _ _ _ _ _ _ _ _ _ _ _)
   | (with_reducible exact ih7 _ _ _ _)
   | (with_reducible exact spec_NameOk.mono _ _)
   | (with_reducible exact spec_l15By.mono _ _ _ _)
   | (with_reducible exact LeO.refl _)
   | (with_reducible exact LeO.none _)
   | (with_reducible refine LeO.ite ?_ ?_)
   | (with_reducible refine LeO.bind ?_ (fun _ => ?_))
   | exact ih0 _ _ _ _ _
   | exact ih1 _ _ _ _ _
   | exact ih2 _ _ _ _ _
   | exact ih3 _ _ _ _ _ _ _ _ _ _
   | exact ih4 _ _ _ _ _ _ _ _ _ _ _
   | exact ih5 _ _ _ _ _ _ _ _ _ _ _ _ _ _
   | exact ih6 _ _ _ _ _ _ _ _ _ _ _ _ _ _ _ _
   | exact ih7 _ _ _ _
   | exact spec_NameOk.mono _ _
   | exact spec_l15By.mono _ _ _ _
   | exact LeO.none _
   | refine LeO.ite ?_ ?_
   | refine LeO.bind ?_ (fun _ => ?_)
set_option maxHeartbeats 8000000 in
set_option maxRecDepth 100000 in
theorem spec_QtyIn.calls (k : Nat) (A0 : Option Addr) (c0 : Nat) (l0 : List (S35)) (a1 : Int) (a2 : ByteArray) (a3 : ByteArray) (r1 : Int) (r2 : Bool) (w : World) (hr0 : Kd.C k35 w A0 l0.length l0) (hc0 : l0.length ≤ c0) (h : spec_QtyIn.f k l0 a1 a2 a3 = some (r1, r2)) :
  Calls Try.prog 19 #[.slice A0 l0.length c0, .int .i64 a1, .string a2, .string a3] w fun e w' => e = .returned (.tuple #[.int .i64 r1, .bool r2]) ∧ Below w.heap.size w w' := by
 have hu35 := Try.underlying35
 have hu127 := Try.underlying127
 have HR0 := Aside0.mk hr0
 have HC0 := Aside0.mk hc0
 clear hr0 hc0
 have HB := Aside0.mk (Below.refl w.heap.size w)
 have H : (if (l0.length : Int) > 40 then (spec_QtyIn.j0 k l0 a1 a2 a3 true) else ((spec_l12Qty.f a1).bind fun t265 => (if t265 = true then ((spec_NameOk.f k a2).bind fun t266 => (if t266 = true then ((spec_NameOk.f k a3).bind fun t267 => (spec_QtyIn.j0 k l0 a1 a2 a3 (!t267))) else (spec_QtyIn.j0 k l0 a1 a2 a3 true))) else (spec_QtyIn.j0 k l0 a1 a2 a3 true)))) = some (r1, r2) := h
 clear h
 have HC5 := Aside0.mk H
 clear H
 go_enter Try.func19, Try.ntmps19
 go_upto_region 1 with (fail)
 repeat (go_quiet (fail); go_upto_region 1 with (fail))
 go_cut [38] (fun v38 wc => ∃ (kq : Nat) (x38_4 : Bool), v38 = .bool x38_4 ∧ Aside0 (spec_QtyIn.j0 kq l0 a1 a2 a3 x38_4 = some (r1, r2)) ∧ Aside0 (kq ≤ k) ∧ Aside0 (Below w.heap.size w wc))
 case first =>
  have H := HC5.out
  clear HC5
  by_cases c6 : (l0.length : Int) > 40
  ·rw [if_pos c6] at H
   have c6b0 : decide (40 < (l0.length : Int)) = true := decide_eq_true c6
   have c6b1 : decide (40 < l0.length) = true := decide_eq_true (by omega)
   clear c6
   (first | rw [c6b0] | (simp only [i64_w, i32_w]; rw [c6b0]) | skip)
   have H' := Aside0.mk H
   clear H
   go_wp2
   repeat (go_quiet (fail); try go_wp2)
   go_meet
   case rel => exact ⟨_, (true), (by first | rfl | (simp; done) | (simp [*]; done)), H', ⟨by first | omega | exact Nat.le_refl _⟩, ⟨by repeat (first | (with_reducible first | exact HB.out | apply qc0 | apply qa0 | apply qd0) | exact HB.out)⟩⟩
  rw [if_neg c6] at H
  have c6b0 : decide (40 < (l0.length : Int)) = false := decide_eq_false c6
  have c6b1 : decide (40 < l0.length) = false := decide_eq_false (by omega)
  clear c6
  (first | rw [c6b0] | (simp only [i64_w, i32_w]; rw [c6b0]) | skip)
  replace H := Option.bind_eq_some_iff.mp H
  obtain ⟨t265, A70, H⟩ := H
  replace H : (if t265 = true then ((spec_NameOk.f k a2).bind fun t266 => (if t266 = true then ((spec_NameOk.f k a3).bind fun t267 => (spec_QtyIn.j0 k l0 a1 a2 a3 (!t267))) else (spec_QtyIn.j0 k l0 a1 a2 a3 true))) else (spec_QtyIn.j0 k l0 a1 a2 a3 true)) = some (r1, r2) := H
  have A7 := Aside0.mk A70
  clear A70
  by_cases c8 : t265 = true
  ·subst c8
   have H1 : ((spec_NameOk.f k a2).bind fun t266 => (if t266 = true then ((spec_NameOk.f k a3).bind fun t267 => (spec_QtyIn.j0 k l0 a1 a2 a3 (!t267))) else (spec_QtyIn.j0 k l0 a1 a2 a3 true))) = some (r1, r2) := by rw [if_pos rfl] at H; exact H
   clear H
   have H := H1
   clear H1
   replace H := Option.bind_eq_some_iff.mp H
   obtain ⟨t266, A90, H⟩ := H
   replace H : (if t266 = true then ((spec_NameOk.f k a3).bind fun t267 => (spec_QtyIn.j0 k l0 a1 a2 a3 (!t267))) else (spec_QtyIn.j0 k l0 a1 a2 a3 true)) = some (r1, r2) := H
   have A9 := Aside0.mk A90
   clear A90
   by_cases c10 : t266 = true
   ·subst c10
    have H1 : ((spec_NameOk.f k a3).bind fun t267 => (spec_QtyIn.j0 k l0 a1 a2 a3 (!t267))) = some (r1, r2) := by rw [if_pos rfl] at H; exact H
    clear H
    have H := H1
    clear H1
    replace H := Option.bind_eq_some_iff.mp H
    obtain ⟨t267, A110, H⟩ := H
    replace H : (spec_QtyIn.j0 k l0 a1 a2 a3 (!t267)) = some (r1, r2) := H
    have A11 := Aside0.mk A110
    clear A110
    have H' := Aside0.mk H
    clear H
    go_wp2_with (first | (go_at_call 77; (with_reducible refine (spec_l12Qty.calls a1 true _ A7.out).mono ?_); rintro e w' ⟨rfl, ⟨nd, rfl⟩⟩; (try first | exact ⟨rfl, _, World.drewN_drewN _ _ _⟩ | exact ⟨rfl, _, Eq.trans (World.drewN_drewN _ _ _) (congrArg (World.drewN _) (Nat.add_assoc _ _ _))⟩)) | (go_at_call 78; (with_reducible refine (spec_NameOk.calls k a2 true _ A9.out).mono ?_); rintro e w' ⟨rfl, ⟨nd, rfl⟩⟩; (try first | exact ⟨rfl, _, World.drewN_drewN _ _ _⟩ | exact ⟨rfl, _, Eq.trans (World.drewN_drewN _ _ _) (congrArg (World.drewN _) (Nat.add_assoc _ _ _))⟩)) | (go_at_call 78; (with_reducible refine (spec_NameOk.calls k a3 t267 _ A11.out).mono ?_); rintro e w' ⟨rfl, ⟨nd, rfl⟩⟩; (try first | exact ⟨rfl, _, World.drewN_drewN _ _ _⟩ | exact ⟨rfl, _, Eq.trans (World.drewN_drewN _ _ _) (congrArg (World.drewN _) (Nat.add_assoc _ _ _))⟩)))
    repeat (go_quiet (first | (go_at_call 77; (with_reducible refine (spec_l12Qty.calls a1 true _ A7.out).mono ?_); rintro e w' ⟨rfl, ⟨nd, rfl⟩⟩; (try first | exact ⟨rfl, _, World.drewN_drewN _ _ _⟩ | exact ⟨rfl, _, Eq.trans (World.drewN_drewN _ _ _) (congrArg (World.drewN _) (Nat.add_assoc _ _ _))⟩)) | (go_at_call 78; (with_reducible refine (spec_NameOk.calls k a2 true _ A9.out).mono ?_); rintro e w' ⟨rfl, ⟨nd, rfl⟩⟩; (try first | exact ⟨rfl, _, World.drewN_drewN _ _ _⟩ | exact ⟨rfl, _, Eq.trans (World.drewN_drewN _ _ _) (congrArg (World.drewN _) (Nat.add_assoc _ _ _))⟩)) | (go_at_call 78; (with_reducible refine (spec_NameOk.calls k a3 t267 _ A11.out).mono ?_); rintro e w' ⟨rfl, ⟨nd, rfl⟩⟩; (try first | exact ⟨rfl, _, World.drewN_drewN _ _ _⟩ | exact ⟨rfl, _, Eq.trans (World.drewN_drewN _ _ _) (congrArg (World.drewN _) (Nat.add_assoc _ _ _))⟩))); try go_wp2_with (first | (go_at_call 77; (with_reducible refine (spec_l12Qty.calls a1 true _ A7.out).mono ?_); rintro e w' ⟨rfl, ⟨nd, rfl⟩⟩; (try first | exact ⟨rfl, _, World.drewN_drewN _ _ _⟩ | exact ⟨rfl, _, Eq.trans (World.drewN_drewN _ _ _) (congrArg (World.drewN _) (Nat.add_assoc _ _ _))⟩)) | (go_at_call 78; (with_reducible refine (spec_NameOk.calls k a2 true _ A9.out).mono ?_); rintro e w' ⟨rfl, ⟨nd, rfl⟩⟩; (try first | exact ⟨rfl, _, World.drewN_drewN _ _ _⟩ | exact ⟨rfl, _, Eq.trans (World.drewN_drewN _ _ _) (congrArg (World.drewN _) (Nat.add_assoc _ _ _))⟩)) | (go_at_call 78; (with_reducible refine (spec_NameOk.calls k a3 t267 _ A11.out).mono ?_); rintro e w' ⟨rfl, ⟨nd, rfl⟩⟩; (try first | exact ⟨rfl, _, World.drewN_drewN _ _ _⟩ | exact ⟨rfl, _, Eq.trans (World.drewN_drewN _ _ _) (congrArg (World.drewN _) (Nat.add_assoc _ _ _))⟩))))
    go_meet
    case rel => exact ⟨_, (!t267), (by first | rfl | (simp; done) | (simp [*]; done)), H', ⟨by first | omega | exact Nat.le_refl _⟩, ⟨by repeat (first | (with_reducible first | exact HB.out | apply qc0 | apply qa0 | apply qd0) | exact HB.out)⟩⟩
   replace c10 := Bool.eq_false_iff.mpr c10
   subst c10
   have H1 : (spec_QtyIn.j0 k l0 a1 a2 a3 true) = some (r1, r2) := by rw [if_neg (show ¬ (false = true) by decide)] at H; exact H
   clear H
   have H := H1
   clear H1
   have H' := Aside0.mk H
   clear H
   go_wp2_with (first | (go_at_call 77; (with_reducible refine (spec_l12Qty.calls a1 true _ A7.out).mono ?_); rintro e w' ⟨rfl, ⟨nd, rfl⟩⟩; (try first | exact ⟨rfl, _, World.drewN_drewN _ _ _⟩ | exact ⟨rfl, _, Eq.trans (World.drewN_drewN _ _ _) (congrArg (World.drewN _) (Nat.add_assoc _ _ _))⟩)) | (go_at_call 78; (with_reducible refine (spec_NameOk.calls k a2 false _ A9.out).mono ?_); rintro e w' ⟨rfl, ⟨nd, rfl⟩⟩; (try first | exact ⟨rfl, _, World.drewN_drewN _ _ _⟩ | exact ⟨rfl, _, Eq.trans (World.drewN_drewN _ _ _) (congrArg (World.drewN _) (Nat.add_assoc _ _ _))⟩)))
   repeat (go_quiet (first | (go_at_call 77; (with_reducible refine (spec_l12Qty.calls a1 true _ A7.out).mono ?_); rintro e w' ⟨rfl, ⟨nd, rfl⟩⟩; (try first | exact ⟨rfl, _, World.drewN_drewN _ _ _⟩ | exact ⟨rfl, _, Eq.trans (World.drewN_drewN _ _ _) (congrArg (World.drewN _) (Nat.add_assoc _ _ _))⟩)) | (go_at_call 78; (with_reducible refine (spec_NameOk.calls k a2 false _ A9.out).mono ?_); rintro e w' ⟨rfl, ⟨nd, rfl⟩⟩; (try first | exact ⟨rfl, _, World.drewN_drewN _ _ _⟩ | exact ⟨rfl, _, Eq.trans (World.drewN_drewN _ _ _) (congrArg (World.drewN _) (Nat.add_assoc _ _ _))⟩))); try go_wp2_with (first | (go_at_call 77; (with_reducible refine (spec_l12Qty.calls a1 true _ A7.out).mono ?_); rintro e w' ⟨rfl, ⟨nd, rfl⟩⟩; (try first | exact ⟨rfl, _, World.drewN_drewN _ _ _⟩ | exact ⟨rfl, _, Eq.trans (World.drewN_drewN _ _ _) (congrArg (World.drewN _) (Nat.add_assoc _ _ _))⟩)) | (go_at_call 78; (with_reducible refine (spec_NameOk.calls k a2 false _ A9.out).mono ?_); rintro e w' ⟨rfl, ⟨nd, rfl⟩⟩; (try first | exact ⟨rfl, _, World.drewN_drewN _ _ _⟩ | exact ⟨rfl, _, Eq.trans (World.drewN_drewN _ _ _) (congrArg (World.drewN _) (Nat.add_assoc _ _ _))⟩))))
   go_meet
   case rel => exact ⟨_, (true), (by first | rfl | (simp; done) | (simp [*]; done)), H', ⟨by first | omega | exact Nat.le_refl _⟩, ⟨by repeat (first | (with_reducible first | exact HB.out | apply qc0 | apply qa0 | apply qd0) | exact HB.out)⟩⟩
  replace c8 := Bool.eq_false_iff.mpr c8
  subst c8
  have H1 : (spec_QtyIn.j0 k l0 a1 a2 a3 true) = some (r1, r2) := by rw [if_neg (show ¬ (false = true) by decide)] at H; exact H
  clear H
  have H := H1
  clear H1
  have H' := Aside0.mk H
  clear H
  go_wp2_with (first | (go_at_call 77; (with_reducible refine (spec_l12Qty.calls a1 false _ A7.out).mono ?_); rintro e w' ⟨rfl, ⟨nd, rfl⟩⟩; (try first | exact ⟨rfl, _, World.drewN_drewN _ _ _⟩ | exact ⟨rfl, _, Eq.trans (World.drewN_drewN _ _ _) (congrArg (World.drewN _) (Nat.add_assoc _ _ _))⟩)))
  repeat (go_quiet (first | (go_at_call 77; (with_reducible refine (spec_l12Qty.calls a1 false _ A7.out).mono ?_); rintro e w' ⟨rfl, ⟨nd, rfl⟩⟩; (try first | exact ⟨rfl, _, World.drewN_drewN _ _ _⟩ | exact ⟨rfl, _, Eq.trans (World.drewN_drewN _ _ _) (congrArg (World.drewN _) (Nat.add_assoc _ _ _))⟩))); try go_wp2_with (first | (go_at_call 77; (with_reducible refine (spec_l12Qty.calls a1 false _ A7.out).mono ?_); rintro e w' ⟨rfl, ⟨nd, rfl⟩⟩; (try first | exact ⟨rfl, _, World.drewN_drewN _ _ _⟩ | exact ⟨rfl, _, Eq.trans (World.drewN_drewN _ _ _) (congrArg (World.drewN _) (Nat.add_assoc _ _ _))⟩))))
  go_meet
  case rel => exact ⟨_, (true), (by first | rfl | (simp; done) | (simp [*]; done)), H', ⟨by first | omega | exact Nat.le_refl _⟩, ⟨by repeat (first | (with_reducible first | exact HB.out | apply qc0 | apply qa0 | apply qd0) | exact HB.out)⟩⟩
 case rest =>
  clear HC5
  try clear c1
  try clear p2
  try clear c6
  try clear c6b0
  try clear c6b1
  try clear c8
  try clear c10
  obtain ⟨kq, x38_4, rfl, HA, HJ4, HB⟩ := hcut
  cases kq with
  | zero => exact absurd HA.out (by simp [spec_QtyIn.j0])
  | succ kj4 =>
   have H := HA.out
   clear HA
   simp only [spec_QtyIn.j0] at H
   by_cases c12 : x38_4 = true
   ·subst c12
    have H1 : (some (0, false)) = some (r1, r2) := by rw [if_pos rfl] at H; exact H
    clear H
    have H := H1
    clear H1
    simp only [Option.some.injEq, Prod.mk.injEq] at H
    obtain ⟨rfl, rfl⟩ := H
    go_wp2
    repeat (go_quiet (fail); try go_wp2)
    go_ret2
    exact ⟨by first | rfl | (simp [errW_none, errW_some] <;> rfl) | (simp [*, errW_none, errW_some] <;> rfl), by repeat (first | (with_reducible first | exact HB.out | apply qc0 | apply qa0 | apply qd0) | exact HB.out)⟩
   replace c12 := Bool.eq_false_iff.mpr c12
   subst c12
   have H1 : (spec_QtyIn.l0 kj4 l0 a1 a2 a3 0) = some (r1, r2) := by rw [if_neg (show ¬ (false = true) by decide)] at H; exact H
   clear H
   have H := H1
   clear H1
   have H' := Aside0.mk H
   clear H
   go_wp2
   repeat (go_quiet (fail); try go_wp2)
   go_loopg [10] kj4 (fun kq v10 w' => ∃ (x10_2 : Int), v10 = .int .i64 x10_2 ∧ Aside0 (spec_QtyIn.l0 kq l0 a1 a2 a3 x10_2 = some (r1, r2)) ∧ Aside0 (kq ≤ kj4) ∧ Aside0 (Below w.heap.size w w'))
   case atStart => exact ⟨(0), (by first | rfl | (simp; done) | (simp [*]; done)), H', ⟨Nat.le_refl _⟩, ⟨by repeat (first | (with_reducible first | exact HB.out | apply qc0 | apply qa0 | apply qd0) | exact HB.out)⟩⟩
   case round =>
    clear H'
    try clear c1
    try clear p2
    try clear c6
    try clear c6b0
    try clear c6b1
    try clear c8
    try clear c10
    try clear c12
    try clear p2
    obtain ⟨x10_2, rfl, HA, HK2, HB⟩ := hrel
    cases gk with
    | zero => exact absurd HA.out (by simp [spec_QtyIn.l0])
    | succ k2 =>
     have H := HA.out
     clear HA
     simp only [spec_QtyIn.l0] at H
     by_cases c13 : x10_2 < (l0.length : Int)
     ·rw [if_pos c13] at H
      have c13b0 : decide (x10_2 < (l0.length : Int)) = true := decide_eq_true c13
      clear c13
      by_cases c14 : 0 ≤ x10_2
      case neg => rw [if_neg c14] at H; exact absurd H (by simp)
      rw [if_pos c14] at H
      have c14b0 : decide (0 ≤ x10_2) = true := decide_eq_true c14
      clear c14
      replace H := Option.bind_eq_some_iff.mp H
      obtain ⟨t270, A150, H⟩ := H
      replace H : (if t270 = true then ((spec_NameOk.f k2 ((rd_T35 l0 x10_2).f1)).bind fun t271 => (if t271 = true then (if ((rd_T35 l0 x10_2).f0).toList = ((rd_T35 l0 x10_2).f1).toList then (some (0, false)) else ((spec_l1In.f ((rd_T35 l0 x10_2).f2) 1 10000).bind fun t272 => (if t272 = true then ((spec_l1In.f ((rd_T35 l0 x10_2).f3) 1 10000).bind fun t273 => (if t273 = true then (spec_QtyIn.l0 k2 l0 a1 a2 a3 (wrap64 (x10_2 + 1))) else (some (0, false)))) else (some (0, false))))) else (some (0, false)))) else (some (0, false))) = some (r1, r2) := H
      have A15 := Aside0.mk A150
      clear A150
      by_cases c16 : t270 = true
      ·subst c16
       have H1 : ((spec_NameOk.f k2 ((rd_T35 l0 x10_2).f1)).bind fun t271 => (if t271 = true then (if ((rd_T35 l0 x10_2).f0).toList = ((rd_T35 l0 x10_2).f1).toList then (some (0, false)) else ((spec_l1In.f ((rd_T35 l0 x10_2).f2) 1 10000).bind fun t272 => (if t272 = true then ((spec_l1In.f ((rd_T35 l0 x10_2).f3) 1 10000).bind fun t273 => (if t273 = true then (spec_QtyIn.l0 k2 l0 a1 a2 a3 (wrap64 (x10_2 + 1))) else (some (0, false)))) else (some (0, false))))) else (some (0, false)))) = some (r1, r2) := by rw [if_pos rfl] at H; exact H
       clear H
       have H := H1
       clear H1
       replace H := Option.bind_eq_some_iff.mp H
       obtain ⟨t271, A170, H⟩ := H
       replace H : (if t271 = true then (if ((rd_T35 l0 x10_2).f0).toList = ((rd_T35 l0 x10_2).f1).toList then (some (0, false)) else ((spec_l1In.f ((rd_T35 l0 x10_2).f2) 1 10000).bind fun t272 => (if t272 = true then ((spec_l1In.f ((rd_T35 l0 x10_2).f3) 1 10000).bind fun t273 => (if t273 = true then (spec_QtyIn.l0 k2 l0 a1 a2 a3 (wrap64 (x10_2 + 1))) else (some (0, false)))) else (some (0, false))))) else (some (0, false))) = some (r1, r2) := H
       have A17 := Aside0.mk A170
       clear A170
       by_cases c18 : t271 = true
       ·subst c18
        have H1 : (if ((rd_T35 l0 x10_2).f0).toList = ((rd_T35 l0 x10_2).f1).toList then (some (0, false)) else ((spec_l1In.f ((rd_T35 l0 x10_2).f2) 1 10000).bind fun t272 => (if t272 = true then ((spec_l1In.f ((rd_T35 l0 x10_2).f3) 1 10000).bind fun t273 => (if t273 = true then (spec_QtyIn.l0 k2 l0 a1 a2 a3 (wrap64 (x10_2 + 1))) else (some (0, false)))) else (some (0, false))))) = some (r1, r2) := by rw [if_pos rfl] at H; exact H
        clear H
        have H := H1
        clear H1
        by_cases c19 : ((rd_T35 l0 x10_2).f0).toList = ((rd_T35 l0 x10_2).f1).toList
        ·rw [if_pos c19] at H
         have c19b0 : (((rd_T35 l0 x10_2).f0).toList == ((rd_T35 l0 x10_2).f1).toList) = true := beq_iff_eq.mpr c19
         have c19b1 : (((rd_T35 l0 x10_2).f0).toList != ((rd_T35 l0 x10_2).f1).toList) = false := bne_eq_false_iff_eq.mpr c19
         clear c19
         simp only [Option.some.injEq, Prod.mk.injEq] at H
         obtain ⟨rfl, rfl⟩ := H
         have p268 : 0 ≤ (x10_2 : Int) := of_decide_eq_true (by first | (with_reducible assumption) | assumption)
         have q268 : x10_2 < (l0.length : Int) := of_decide_eq_true (by first | (with_reducible assumption) | assumption)
         obtain ⟨ad268, e268, hx268_0, hx268_1, hx268_2, hx268_3⟩ := at_T35 HR0.out x10_2 p268 q268
         cases e268
         replace hx268_0 := (HB.out.cell (World.block_lt_of_cell? w _ hx268_0)).trans hx268_0
         replace hx268_1 := (HB.out.cell (World.block_lt_of_cell? w _ hx268_1)).trans hx268_1
         replace hx268_2 := (HB.out.cell (World.block_lt_of_cell? w _ hx268_2)).trans hx268_2
         replace hx268_3 := (HB.out.cell (World.block_lt_of_cell? w _ hx268_3)).trans hx268_3
         replace p268 := eq_true p268
         replace q268 := eq_true q268
         go_wp2_with (first | ((with_reducible refine qv0 (N := 11) rfl ?_); refine qb1 ?hg (N := 11) ?hd (cs := #[.string (⟨#[]⟩ : ByteArray), .string (⟨#[]⟩ : ByteArray), .int .i64 0, .int .i64 0]) (t := 35) ?hr ?_; (case hd => rfl); (case hg => rfl); (case hr => first | (go_simp; done) | (go_simp; rfl)); intro gb269 hg w20 hbox hb; have n0_ := Aside0.mk (qo0 (by repeat (first | (with_reducible first | exact HB.out | apply qc0 | apply qa0 | apply qd0) | exact HB.out)) hb); have n1_ := Aside0.mk (hbox); have n2_ := Aside0.mk ((by rw [hg]; exact (ql0 (by repeat (first | (with_reducible first | exact HB.out | apply qc0 | apply qa0 | apply qd0) | exact HB.out))) : w.heap.size ≤ gb269)); have n3_ := Aside0.mk ((by rw [hg]; exact (ql0 (by repeat (first | (with_reducible first | exact HB.out | apply qc0 | apply qa0 | apply qd0) | exact HB.out))) : w.heap.size ≤ gb269)); clear HB; have HB := n0_; have BK269 := n1_; have GW269 := n2_; have GE269 := n3_; clear n0_ n1_ n2_ n3_; clear hb hbox hg; have hcz21_0 : w20.cell? ⟨gb269, 0, none⟩ = some (.string (⟨#[]⟩ : ByteArray)) := (qh0 BK269.out 0).trans rfl; have hcz21_1 : w20.cell? ⟨gb269, 1, none⟩ = some (.string (⟨#[]⟩ : ByteArray)) := (qh0 BK269.out 1).trans rfl; have hcz21_2 : w20.cell? ⟨gb269, 2, none⟩ = some (.int .i64 0) := (qh0 BK269.out 2).trans rfl; have hcz21_3 : w20.cell? ⟨gb269, 3, none⟩ = some (.int .i64 0) := (qh0 BK269.out 3).trans rfl; have hfz21_0 := qb0 BK269.out 0; have hfz21_1 := qb0 BK269.out 1; have hfz21_2 := qb0 BK269.out 2; have hfz21_3 := qb0 BK269.out 3) | (go_at_call 78; (with_reducible refine (spec_NameOk.calls k2 ((rd_T35 l0 x10_2).f0) true _ A15.out).mono ?_); rintro e w' ⟨rfl, ⟨nd, rfl⟩⟩; (try first | exact ⟨rfl, _, World.drewN_drewN _ _ _⟩ | exact ⟨rfl, _, Eq.trans (World.drewN_drewN _ _ _) (congrArg (World.drewN _) (Nat.add_assoc _ _ _))⟩)) | (go_at_call 78; (with_reducible refine (spec_NameOk.calls k2 ((rd_T35 l0 x10_2).f1) true _ A17.out).mono ?_); rintro e w' ⟨rfl, ⟨nd, rfl⟩⟩; (try first | exact ⟨rfl, _, World.drewN_drewN _ _ _⟩ | exact ⟨rfl, _, Eq.trans (World.drewN_drewN _ _ _) (congrArg (World.drewN _) (Nat.add_assoc _ _ _))⟩)))
         repeat (go_quiet (first | ((with_reducible refine qv0 (N := 11) rfl ?_); refine qb1 ?hg (N := 11) ?hd (cs := #[.string (⟨#[]⟩ : ByteArray), .string (⟨#[]⟩ : ByteArray), .int .i64 0, .int .i64 0]) (t := 35) ?hr ?_; (case hd => rfl); (case hg => rfl); (case hr => first | (go_simp; done) | (go_simp; rfl)); intro gb269 hg w20 hbox hb; have n0_ := Aside0.mk (qo0 (by repeat (first | (with_reducible first | exact HB.out | apply qc0 | apply qa0 | apply qd0) | exact HB.out)) hb); have n1_ := Aside0.mk (hbox); have n2_ := Aside0.mk ((by rw [hg]; exact (ql0 (by repeat (first | (with_reducible first | exact HB.out | apply qc0 | apply qa0 | apply qd0) | exact HB.out))) : w.heap.size ≤ gb269)); have n3_ := Aside0.mk ((by rw [hg]; exact (ql0 (by repeat (first | (with_reducible first | exact HB.out | apply qc0 | apply qa0 | apply qd0) | exact HB.out))) : w.heap.size ≤ gb269)); clear HB; have HB := n0_; have BK269 := n1_; have GW269 := n2_; have GE269 := n3_; clear n0_ n1_ n2_ n3_; clear hb hbox hg; have hcz21_0 : w20.cell? ⟨gb269, 0, none⟩ = some (.string (⟨#[]⟩ : ByteArray)) := (qh0 BK269.out 0).trans rfl; have hcz21_1 : w20.cell? ⟨gb269, 1, none⟩ = some (.string (⟨#[]⟩ : ByteArray)) := (qh0 BK269.out 1).trans rfl; have hcz21_2 : w20.cell? ⟨gb269, 2, none⟩ = some (.int .i64 0) := (qh0 BK269.out 2).trans rfl; have hcz21_3 : w20.cell? ⟨gb269, 3, none⟩ = some (.int .i64 0) := (qh0 BK269.out 3).trans rfl; have hfz21_0 := qb0 BK269.out 0; have hfz21_1 := qb0 BK269.out 1; have hfz21_2 := qb0 BK269.out 2; have hfz21_3 := qb0 BK269.out 3) | (go_at_call 78; (with_reducible refine (spec_NameOk.calls k2 ((rd_T35 l0 x10_2).f0) true _ A15.out).mono ?_); rintro e w' ⟨rfl, ⟨nd, rfl⟩⟩; (try first | exact ⟨rfl, _, World.drewN_drewN _ _ _⟩ | exact ⟨rfl, _, Eq.trans (World.drewN_drewN _ _ _) (congrArg (World.drewN _) (Nat.add_assoc _ _ _))⟩)) | (go_at_call 78; (with_reducible refine (spec_NameOk.calls k2 ((rd_T35 l0 x10_2).f1) true _ A17.out).mono ?_); rintro e w' ⟨rfl, ⟨nd, rfl⟩⟩; (try first | exact ⟨rfl, _, World.drewN_drewN _ _ _⟩ | exact ⟨rfl, _, Eq.trans (World.drewN_drewN _ _ _) (congrArg (World.drewN _) (Nat.add_assoc _ _ _))⟩))); try go_wp2_with (first | ((with_reducible refine qv0 (N := 11) rfl ?_); refine qb1 ?hg (N := 11) ?hd (cs := #[.string (⟨#[]⟩ : ByteArray), .string (⟨#[]⟩ : ByteArray), .int .i64 0, .int .i64 0]) (t := 35) ?hr ?_; (case hd => rfl); (case hg => rfl); (case hr => first | (go_simp; done) | (go_simp; rfl)); intro gb269 hg w20 hbox hb; have n0_ := Aside0.mk (qo0 (by repeat (first | (with_reducible first | exact HB.out | apply qc0 | apply qa0 | apply qd0) | exact HB.out)) hb); have n1_ := Aside0.mk (hbox); have n2_ := Aside0.mk ((by rw [hg]; exact (ql0 (by repeat (first | (with_reducible first | exact HB.out | apply qc0 | apply qa0 | apply qd0) | exact HB.out))) : w.heap.size ≤ gb269)); have n3_ := Aside0.mk ((by rw [hg]; exact (ql0 (by repeat (first | (with_reducible first | exact HB.out | apply qc0 | apply qa0 | apply qd0) | exact HB.out))) : w.heap.size ≤ gb269)); clear HB; have HB := n0_; have BK269 := n1_; have GW269 := n2_; have GE269 := n3_; clear n0_ n1_ n2_ n3_; clear hb hbox hg; have hcz21_0 : w20.cell? ⟨gb269, 0, none⟩ = some (.string (⟨#[]⟩ : ByteArray)) := (qh0 BK269.out 0).trans rfl; have hcz21_1 : w20.cell? ⟨gb269, 1, none⟩ = some (.string (⟨#[]⟩ : ByteArray)) := (qh0 BK269.out 1).trans rfl; have hcz21_2 : w20.cell? ⟨gb269, 2, none⟩ = some (.int .i64 0) := (qh0 BK269.out 2).trans rfl; have hcz21_3 : w20.cell? ⟨gb269, 3, none⟩ = some (.int .i64 0) := (qh0 BK269.out 3).trans rfl; have hfz21_0 := qb0 BK269.out 0; have hfz21_1 := qb0 BK269.out 1; have hfz21_2 := qb0 BK269.out 2; have hfz21_3 := qb0 BK269.out 3) | (go_at_call 78; (with_reducible refine (spec_NameOk.calls k2 ((rd_T35 l0 x10_2).f0) true _ A15.out).mono ?_); rintro e w' ⟨rfl, ⟨nd, rfl⟩⟩; (try first | exact ⟨rfl, _, World.drewN_drewN _ _ _⟩ | exact ⟨rfl, _, Eq.trans (World.drewN_drewN _ _ _) (congrArg (World.drewN _) (Nat.add_assoc _ _ _))⟩)) | (go_at_call 78; (with_reducible refine (spec_NameOk.calls k2 ((rd_T35 l0 x10_2).f1) true _ A17.out).mono ?_); rintro e w' ⟨rfl, ⟨nd, rfl⟩⟩; (try first | exact ⟨rfl, _, World.drewN_drewN _ _ _⟩ | exact ⟨rfl, _, Eq.trans (World.drewN_drewN _ _ _) (congrArg (World.drewN _) (Nat.add_assoc _ _ _))⟩))))
         go_ret2
         exact ⟨by first | rfl | (simp [errW_none, errW_some] <;> rfl) | (simp [*, errW_none, errW_some] <;> rfl), by repeat (first | (with_reducible first | exact HB.out | apply qc0 | apply qa0 | apply qd0 | refine qi0 ?_ GE269.out) | exact HB.out)⟩
        rw [if_neg c19] at H
        have c19b0 : (((rd_T35 l0 x10_2).f0).toList == ((rd_T35 l0 x10_2).f1).toList) = false := beq_eq_false_iff_ne.mpr c19
        have c19b1 : (((rd_T35 l0 x10_2).f0).toList != ((rd_T35 l0 x10_2).f1).toList) = true := bne_iff_ne.mpr c19
        replace H := Option.bind_eq_some_iff.mp H
        obtain ⟨t272, A220, H⟩ := H
        replace H : (if t272 = true then ((spec_l1In.f ((rd_T35 l0 x10_2).f3) 1 10000).bind fun t273 => (if t273 = true then (spec_QtyIn.l0 k2 l0 a1 a2 a3 (wrap64 (x10_2 + 1))) else (some (0, false)))) else (some (0, false))) = some (r1, r2) := H
        have A22 := Aside0.mk A220
        clear A220
        by_cases c23 : t272 = true
        ·subst c23
         have H1 : ((spec_l1In.f ((rd_T35 l0 x10_2).f3) 1 10000).bind fun t273 => (if t273 = true then (spec_QtyIn.l0 k2 l0 a1 a2 a3 (wrap64 (x10_2 + 1))) else (some (0, false)))) = some (r1, r2) := by rw [if_pos rfl] at H; exact H
         clear H
         have H := H1
         clear H1
         replace H := Option.bind_eq_some_iff.mp H
         obtain ⟨t273, A240, H⟩ := H
         replace H : (if t273 = true then (spec_QtyIn.l0 k2 l0 a1 a2 a3 (wrap64 (x10_2 + 1))) else (some (0, false))) = some (r1, r2) := H
         have A24 := Aside0.mk A240
         clear A240
         by_cases c25 : t273 = true
         ·subst c25
          have H1 : (spec_QtyIn.l0 k2 l0 a1 a2 a3 (wrap64 (x10_2 + 1))) = some (r1, r2) := by rw [if_pos rfl] at H; exact H
          clear H
          have H := H1
          clear H1
          have H' := Aside0.mk H
          clear H
          have p268 : 0 ≤ (x10_2 : Int) := of_decide_eq_true (by first | (with_reducible assumption) | assumption)
          have q268 : x10_2 < (l0.length : Int) := of_decide_eq_true (by first | (with_reducible assumption) | assumption)
          obtain ⟨ad268, e268, hx268_0, hx268_1, hx268_2, hx268_3⟩ := at_T35 HR0.out x10_2 p268 q268
          cases e268
          replace hx268_0 := (HB.out.cell (World.block_lt_of_cell? w _ hx268_0)).trans hx268_0
          replace hx268_1 := (HB.out.cell (World.block_lt_of_cell? w _ hx268_1)).trans hx268_1
          replace hx268_2 := (HB.out.cell (World.block_lt_of_cell? w _ hx268_2)).trans hx268_2
          replace hx268_3 := (HB.out.cell (World.block_lt_of_cell? w _ hx268_3)).trans hx268_3
          replace p268 := eq_true p268
          replace q268 := eq_true q268
          go_wp2_with (first | ((with_reducible refine qv0 (N := 11) rfl ?_); refine qb1 ?hg (N := 11) ?hd (cs := #[.string (⟨#[]⟩ : ByteArray), .string (⟨#[]⟩ : ByteArray), .int .i64 0, .int .i64 0]) (t := 35) ?hr ?_; (case hd => rfl); (case hg => rfl); (case hr => first | (go_simp; done) | (go_simp; rfl)); intro gb269 hg w26 hbox hb; have n0_ := Aside0.mk (qo0 (by repeat (first | (with_reducible first | exact HB.out | apply qc0 | apply qa0 | apply qd0) | exact HB.out)) hb); have n1_ := Aside0.mk (hbox); have n2_ := Aside0.mk ((by rw [hg]; exact (ql0 (by repeat (first | (with_reducible first | exact HB.out | apply qc0 | apply qa0 | apply qd0) | exact HB.out))) : w.heap.size ≤ gb269)); have n3_ := Aside0.mk ((by rw [hg]; exact (ql0 (by repeat (first | (with_reducible first | exact HB.out | apply qc0 | apply qa0 | apply qd0) | exact HB.out))) : w.heap.size ≤ gb269)); clear HB; have HB := n0_; have BK269 := n1_; have GW269 := n2_; have GE269 := n3_; clear n0_ n1_ n2_ n3_; clear hb hbox hg; have hcz27_0 : w26.cell? ⟨gb269, 0, none⟩ = some (.string (⟨#[]⟩ : ByteArray)) := (qh0 BK269.out 0).trans rfl; have hcz27_1 : w26.cell? ⟨gb269, 1, none⟩ = some (.string (⟨#[]⟩ : ByteArray)) := (qh0 BK269.out 1).trans rfl; have hcz27_2 : w26.cell? ⟨gb269, 2, none⟩ = some (.int .i64 0) := (qh0 BK269.out 2).trans rfl; have hcz27_3 : w26.cell? ⟨gb269, 3, none⟩ = some (.int .i64 0) := (qh0 BK269.out 3).trans rfl; have hfz27_0 := qb0 BK269.out 0; have hfz27_1 := qb0 BK269.out 1; have hfz27_2 := qb0 BK269.out 2; have hfz27_3 := qb0 BK269.out 3) | (go_at_call 78; (with_reducible refine (spec_NameOk.calls k2 ((rd_T35 l0 x10_2).f0) true _ A15.out).mono ?_); rintro e w' ⟨rfl, ⟨nd, rfl⟩⟩; (try first | exact ⟨rfl, _, World.drewN_drewN _ _ _⟩ | exact ⟨rfl, _, Eq.trans (World.drewN_drewN _ _ _) (congrArg (World.drewN _) (Nat.add_assoc _ _ _))⟩)) | (go_at_call 78; (with_reducible refine (spec_NameOk.calls k2 ((rd_T35 l0 x10_2).f1) true _ A17.out).mono ?_); rintro e w' ⟨rfl, ⟨nd, rfl⟩⟩; (try first | exact ⟨rfl, _, World.drewN_drewN _ _ _⟩ | exact ⟨rfl, _, Eq.trans (World.drewN_drewN _ _ _) (congrArg (World.drewN _) (Nat.add_assoc _ _ _))⟩)) | (go_at_call 79; (with_reducible refine (spec_l1In.calls ((rd_T35 l0 x10_2).f2) 1 10000 true _ A22.out).mono ?_); rintro e w' ⟨rfl, ⟨nd, rfl⟩⟩; (try first | exact ⟨rfl, _, World.drewN_drewN _ _ _⟩ | exact ⟨rfl, _, Eq.trans (World.drewN_drewN _ _ _) (congrArg (World.drewN _) (Nat.add_assoc _ _ _))⟩)) | (go_at_call 79; (with_reducible refine (spec_l1In.calls ((rd_T35 l0 x10_2).f3) 1 10000 true _ A24.out).mono ?_); rintro e w' ⟨rfl, ⟨nd, rfl⟩⟩; (try first | exact ⟨rfl, _, World.drewN_drewN _ _ _⟩ | exact ⟨rfl, _, Eq.trans (World.drewN_drewN _ _ _) (congrArg (World.drewN _) (Nat.add_assoc _ _ _))⟩)))
          repeat (go_quiet (first | ((with_reducible refine qv0 (N := 11) rfl ?_); refine qb1 ?hg (N := 11) ?hd (cs := #[.string (⟨#[]⟩ : ByteArray), .string (⟨#[]⟩ : ByteArray), .int .i64 0, .int .i64 0]) (t := 35) ?hr ?_; (case hd => rfl); (case hg => rfl); (case hr => first | (go_simp; done) | (go_simp; rfl)); intro gb269 hg w26 hbox hb; have n0_ := Aside0.mk (qo0 (by repeat (first | (with_reducible first | exact HB.out | apply qc0 | apply qa0 | apply qd0) | exact HB.out)) hb); have n1_ := Aside0.mk (hbox); have n2_ := Aside0.mk ((by rw [hg]; exact (ql0 (by repeat (first | (with_reducible first | exact HB.out | apply qc0 | apply qa0 | apply qd0) | exact HB.out))) : w.heap.size ≤ gb269)); have n3_ := Aside0.mk ((by rw [hg]; exact (ql0 (by repeat (first | (with_reducible first | exact HB.out | apply qc0 | apply qa0 | apply qd0) | exact HB.out))) : w.heap.size ≤ gb269)); clear HB; have HB := n0_; have BK269 := n1_; have GW269 := n2_; have GE269 := n3_; clear n0_ n1_ n2_ n3_; clear hb hbox hg; have hcz27_0 : w26.cell? ⟨gb269, 0, none⟩ = some (.string (⟨#[]⟩ : ByteArray)) := (qh0 BK269.out 0).trans rfl; have hcz27_1 : w26.cell? ⟨gb269, 1, none⟩ = some (.string (⟨#[]⟩ : ByteArray)) := (qh0 BK269.out 1).trans rfl; have hcz27_2 : w26.cell? ⟨gb269, 2, none⟩ = some (.int .i64 0) := (qh0 BK269.out 2).trans rfl; have hcz27_3 : w26.cell? ⟨gb269, 3, none⟩ = some (.int .i64 0) := (qh0 BK269.out 3).trans rfl; have hfz27_0 := qb0 BK269.out 0; have hfz27_1 := qb0 BK269.out 1; have hfz27_2 := qb0 BK269.out 2; have hfz27_3 := qb0 BK269.out 3) | (go_at_call 78; (with_reducible refine (spec_NameOk.calls k2 ((rd_T35 l0 x10_2).f0) true _ A15.out).mono ?_); rintro e w' ⟨rfl, ⟨nd, rfl⟩⟩; (try first | exact ⟨rfl, _, World.drewN_drewN _ _ _⟩ | exact ⟨rfl, _, Eq.trans (World.drewN_drewN _ _ _) (congrArg (World.drewN _) (Nat.add_assoc _ _ _))⟩)) | (go_at_call 78; (with_reducible refine (spec_NameOk.calls k2 ((rd_T35 l0 x10_2).f1) true _ A17.out).mono ?_); rintro e w' ⟨rfl, ⟨nd, rfl⟩⟩; (try first | exact ⟨rfl, _, World.drewN_drewN _ _ _⟩ | exact ⟨rfl, _, Eq.trans (World.drewN_drewN _ _ _) (congrArg (World.drewN _) (Nat.add_assoc _ _ _))⟩)) | (go_at_call 79; (with_reducible refine (spec_l1In.calls ((rd_T35 l0 x10_2).f2) 1 10000 true _ A22.out).mono ?_); rintro e w' ⟨rfl, ⟨nd, rfl⟩⟩; (try first | exact ⟨rfl, _, World.drewN_drewN _ _ _⟩ | exact ⟨rfl, _, Eq.trans (World.drewN_drewN _ _ _) (congrArg (World.drewN _) (Nat.add_assoc _ _ _))⟩)) | (go_at_call 79; (with_reducible refine (spec_l1In.calls ((rd_T35 l0 x10_2).f3) 1 10000 true _ A24.out).mono ?_); rintro e w' ⟨rfl, ⟨nd, rfl⟩⟩; (try first | exact ⟨rfl, _, World.drewN_drewN _ _ _⟩ | exact ⟨rfl, _, Eq.trans (World.drewN_drewN _ _ _) (congrArg (World.drewN _) (Nat.add_assoc _ _ _))⟩))); try go_wp2_with (first | ((with_reducible refine qv0 (N := 11) rfl ?_); refine qb1 ?hg (N := 11) ?hd (cs := #[.string (⟨#[]⟩ : ByteArray), .string (⟨#[]⟩ : ByteArray), .int .i64 0, .int .i64 0]) (t := 35) ?hr ?_; (case hd => rfl); (case hg => rfl); (case hr => first | (go_simp; done) | (go_simp; rfl)); intro gb269 hg w26 hbox hb; have n0_ := Aside0.mk (qo0 (by repeat (first | (with_reducible first | exact HB.out | apply qc0 | apply qa0 | apply qd0) | exact HB.out)) hb); have n1_ := Aside0.mk (hbox); have n2_ := Aside0.mk ((by rw [hg]; exact (ql0 (by repeat (first | (with_reducible first | exact HB.out | apply qc0 | apply qa0 | apply qd0) | exact HB.out))) : w.heap.size ≤ gb269)); have n3_ := Aside0.mk ((by rw [hg]; exact (ql0 (by repeat (first | (with_reducible first | exact HB.out | apply qc0 | apply qa0 | apply qd0) | exact HB.out))) : w.heap.size ≤ gb269)); clear HB; have HB := n0_; have BK269 := n1_; have GW269 := n2_; have GE269 := n3_; clear n0_ n1_ n2_ n3_; clear hb hbox hg; have hcz27_0 : w26.cell? ⟨gb269, 0, none⟩ = some (.string (⟨#[]⟩ : ByteArray)) := (qh0 BK269.out 0).trans rfl; have hcz27_1 : w26.cell? ⟨gb269, 1, none⟩ = some (.string (⟨#[]⟩ : ByteArray)) := (qh0 BK269.out 1).trans rfl; have hcz27_2 : w26.cell? ⟨gb269, 2, none⟩ = some (.int .i64 0) := (qh0 BK269.out 2).trans rfl; have hcz27_3 : w26.cell? ⟨gb269, 3, none⟩ = some (.int .i64 0) := (qh0 BK269.out 3).trans rfl; have hfz27_0 := qb0 BK269.out 0; have hfz27_1 := qb0 BK269.out 1; have hfz27_2 := qb0 BK269.out 2; have hfz27_3 := qb0 BK269.out 3) | (go_at_call 78; (with_reducible refine (spec_NameOk.calls k2 ((rd_T35 l0 x10_2).f0) true _ A15.out).mono ?_); rintro e w' ⟨rfl, ⟨nd, rfl⟩⟩; (try first | exact ⟨rfl, _, World.drewN_drewN _ _ _⟩ | exact ⟨rfl, _, Eq.trans (World.drewN_drewN _ _ _) (congrArg (World.drewN _) (Nat.add_assoc _ _ _))⟩)) | (go_at_call 78; (with_reducible refine (spec_NameOk.calls k2 ((rd_T35 l0 x10_2).f1) true _ A17.out).mono ?_); rintro e w' ⟨rfl, ⟨nd, rfl⟩⟩; (try first | exact ⟨rfl, _, World.drewN_drewN _ _ _⟩ | exact ⟨rfl, _, Eq.trans (World.drewN_drewN _ _ _) (congrArg (World.drewN _) (Nat.add_assoc _ _ _))⟩)) | (go_at_call 79; (with_reducible refine (spec_l1In.calls ((rd_T35 l0 x10_2).f2) 1 10000 true _ A22.out).mono ?_); rintro e w' ⟨rfl, ⟨nd, rfl⟩⟩; (try first | exact ⟨rfl, _, World.drewN_drewN _ _ _⟩ | exact ⟨rfl, _, Eq.trans (World.drewN_drewN _ _ _) (congrArg (World.drewN _) (Nat.add_assoc _ _ _))⟩)) | (go_at_call 79; (with_reducible refine (spec_l1In.calls ((rd_T35 l0 x10_2).f3) 1 10000 true _ A24.out).mono ?_); rintro e w' ⟨rfl, ⟨nd, rfl⟩⟩; (try first | exact ⟨rfl, _, World.drewN_drewN _ _ _⟩ | exact ⟨rfl, _, Eq.trans (World.drewN_drewN _ _ _) (congrArg (World.drewN _) (Nat.add_assoc _ _ _))⟩))))
          go_roundg k2
          case measure => have := HJ4.out; have := HK2.out; omega
          case rel => exact ⟨(wrap64 (x10_2 + 1)), (by first | rfl | (simp; done) | (simp [*]; done)), H', ⟨by have := HJ4.out; have := HK2.out; omega⟩, ⟨by repeat (first | (with_reducible first | exact HB.out | apply qc0 | apply qa0 | apply qd0 | refine qi0 ?_ GE269.out) | exact HB.out)⟩⟩
         replace c25 := Bool.eq_false_iff.mpr c25
         subst c25
         have H1 : (some (0, false)) = some (r1, r2) := by rw [if_neg (show ¬ (false = true) by decide)] at H; exact H
         clear H
         have H := H1
         clear H1
         simp only [Option.some.injEq, Prod.mk.injEq] at H
         obtain ⟨rfl, rfl⟩ := H
         have p268 : 0 ≤ (x10_2 : Int) := of_decide_eq_true (by first | (with_reducible assumption) | assumption)
         have q268 : x10_2 < (l0.length : Int) := of_decide_eq_true (by first | (with_reducible assumption) | assumption)
         obtain ⟨ad268, e268, hx268_0, hx268_1, hx268_2, hx268_3⟩ := at_T35 HR0.out x10_2 p268 q268
         cases e268
         replace hx268_0 := (HB.out.cell (World.block_lt_of_cell? w _ hx268_0)).trans hx268_0
         replace hx268_1 := (HB.out.cell (World.block_lt_of_cell? w _ hx268_1)).trans hx268_1
         replace hx268_2 := (HB.out.cell (World.block_lt_of_cell? w _ hx268_2)).trans hx268_2
         replace hx268_3 := (HB.out.cell (World.block_lt_of_cell? w _ hx268_3)).trans hx268_3
         replace p268 := eq_true p268
         replace q268 := eq_true q268
         go_wp2_with (first | ((with_reducible refine qv0 (N := 11) rfl ?_); refine qb1 ?hg (N := 11) ?hd (cs := #[.string (⟨#[]⟩ : ByteArray), .string (⟨#[]⟩ : ByteArray), .int .i64 0, .int .i64 0]) (t := 35) ?hr ?_; (case hd => rfl); (case hg => rfl); (case hr => first | (go_simp; done) | (go_simp; rfl)); intro gb269 hg w28 hbox hb; have n0_ := Aside0.mk (qo0 (by repeat (first | (with_reducible first | exact HB.out | apply qc0 | apply qa0 | apply qd0) | exact HB.out)) hb); have n1_ := Aside0.mk (hbox); have n2_ := Aside0.mk ((by rw [hg]; exact (ql0 (by repeat (first | (with_reducible first | exact HB.out | apply qc0 | apply qa0 | apply qd0) | exact HB.out))) : w.heap.size ≤ gb269)); have n3_ := Aside0.mk ((by rw [hg]; exact (ql0 (by repeat (first | (with_reducible first | exact HB.out | apply qc0 | apply qa0 | apply qd0) | exact HB.out))) : w.heap.size ≤ gb269)); clear HB; have HB := n0_; have BK269 := n1_; have GW269 := n2_; have GE269 := n3_; clear n0_ n1_ n2_ n3_; clear hb hbox hg; have hcz29_0 : w28.cell? ⟨gb269, 0, none⟩ = some (.string (⟨#[]⟩ : ByteArray)) := (qh0 BK269.out 0).trans rfl; have hcz29_1 : w28.cell? ⟨gb269, 1, none⟩ = some (.string (⟨#[]⟩ : ByteArray)) := (qh0 BK269.out 1).trans rfl; have hcz29_2 : w28.cell? ⟨gb269, 2, none⟩ = some (.int .i64 0) := (qh0 BK269.out 2).trans rfl; have hcz29_3 : w28.cell? ⟨gb269, 3, none⟩ = some (.int .i64 0) := (qh0 BK269.out 3).trans rfl; have hfz29_0 := qb0 BK269.out 0; have hfz29_1 := qb0 BK269.out 1; have hfz29_2 := qb0 BK269.out 2; have hfz29_3 := qb0 BK269.out 3) | (go_at_call 78; (with_reducible refine (spec_NameOk.calls k2 ((rd_T35 l0 x10_2).f0) true _ A15.out).mono ?_); rintro e w' ⟨rfl, ⟨nd, rfl⟩⟩; (try first | exact ⟨rfl, _, World.drewN_drewN _ _ _⟩ | exact ⟨rfl, _, Eq.trans (World.drewN_drewN _ _ _) (congrArg (World.drewN _) (Nat.add_assoc _ _ _))⟩)) | (go_at_call 78; (with_reducible refine (spec_NameOk.calls k2 ((rd_T35 l0 x10_2).f1) true _ A17.out).mono ?_); rintro e w' ⟨rfl, ⟨nd, rfl⟩⟩; (try first | exact ⟨rfl, _, World.drewN_drewN _ _ _⟩ | exact ⟨rfl, _, Eq.trans (World.drewN_drewN _ _ _) (congrArg (World.drewN _) (Nat.add_assoc _ _ _))⟩)) | (go_at_call 79; (with_reducible refine (spec_l1In.calls ((rd_T35 l0 x10_2).f2) 1 10000 true _ A22.out).mono ?_); rintro e w' ⟨rfl, ⟨nd, rfl⟩⟩; (try first | exact ⟨rfl, _, World.drewN_drewN _ _ _⟩ | exact ⟨rfl, _, Eq.trans (World.drewN_drewN _ _ _) (congrArg (World.drewN _) (Nat.add_assoc _ _ _))⟩)) | (go_at_call 79; (with_reducible refine (spec_l1In.calls ((rd_T35 l0 x10_2).f3) 1 10000 false _ A24.out).mono ?_); rintro e w' ⟨rfl, ⟨nd, rfl⟩⟩; (try first | exact ⟨rfl, _, World.drewN_drewN _ _ _⟩ | exact ⟨rfl, _, Eq.trans (World.drewN_drewN _ _ _) (congrArg (World.drewN _) (Nat.add_assoc _ _ _))⟩)))
         repeat (go_quiet (first | ((with_reducible refine qv0 (N := 11) rfl ?_); refine qb1 ?hg (N := 11) ?hd (cs := #[.string (⟨#[]⟩ : ByteArray), .string (⟨#[]⟩ : ByteArray), .int .i64 0, .int .i64 0]) (t := 35) ?hr ?_; (case hd => rfl); (case hg => rfl); (case hr => first | (go_simp; done) | (go_simp; rfl)); intro gb269 hg w28 hbox hb; have n0_ := Aside0.mk (qo0 (by repeat (first | (with_reducible first | exact HB.out | apply qc0 | apply qa0 | apply qd0) | exact HB.out)) hb); have n1_ := Aside0.mk (hbox); have n2_ := Aside0.mk ((by rw [hg]; exact (ql0 (by repeat (first | (with_reducible first | exact HB.out | apply qc0 | apply qa0 | apply qd0) | exact HB.out))) : w.heap.size ≤ gb269)); have n3_ := Aside0.mk ((by rw [hg]; exact (ql0 (by repeat (first | (with_reducible first | exact HB.out | apply qc0 | apply qa0 | apply qd0) | exact HB.out))) : w.heap.size ≤ gb269)); clear HB; have HB := n0_; have BK269 := n1_; have GW269 := n2_; have GE269 := n3_; clear n0_ n1_ n2_ n3_; clear hb hbox hg; have hcz29_0 : w28.cell? ⟨gb269, 0, none⟩ = some (.string (⟨#[]⟩ : ByteArray)) := (qh0 BK269.out 0).trans rfl; have hcz29_1 : w28.cell? ⟨gb269, 1, none⟩ = some (.string (⟨#[]⟩ : ByteArray)) := (qh0 BK269.out 1).trans rfl; have hcz29_2 : w28.cell? ⟨gb269, 2, none⟩ = some (.int .i64 0) := (qh0 BK269.out 2).trans rfl; have hcz29_3 : w28.cell? ⟨gb269, 3, none⟩ = some (.int .i64 0) := (qh0 BK269.out 3).trans rfl; have hfz29_0 := qb0 BK269.out 0; have hfz29_1 := qb0 BK269.out 1; have hfz29_2 := qb0 BK269.out 2; have hfz29_3 := qb0 BK269.out 3) | (go_at_call 78; (with_reducible refine (spec_NameOk.calls k2 ((rd_T35 l0 x10_2).f0) true _ A15.out).mono ?_); rintro e w' ⟨rfl, ⟨nd, rfl⟩⟩; (try first | exact ⟨rfl, _, World.drewN_drewN _ _ _⟩ | exact ⟨rfl, _, Eq.trans (World.drewN_drewN _ _ _) (congrArg (World.drewN _) (Nat.add_assoc _ _ _))⟩)) | (go_at_call 78; (with_reducible refine (spec_NameOk.calls k2 ((rd_T35 l0 x10_2).f1) true _ A17.out).mono ?_); rintro e w' ⟨rfl, ⟨nd, rfl⟩⟩; (try first | exact ⟨rfl, _, World.drewN_drewN _ _ _⟩ | exact ⟨rfl, _, Eq.trans (World.drewN_drewN _ _ _) (congrArg (World.drewN _) (Nat.add_assoc _ _ _))⟩)) | (go_at_call 79; (with_reducible refine (spec_l1In.calls ((rd_T35 l0 x10_2).f2) 1 10000 true _ A22.out).mono ?_); rintro e w' ⟨rfl, ⟨nd, rfl⟩⟩; (try first | exact ⟨rfl, _, World.drewN_drewN _ _ _⟩ | exact ⟨rfl, _, Eq.trans (World.drewN_drewN _ _ _) (congrArg (World.drewN _) (Nat.add_assoc _ _ _))⟩)) | (go_at_call 79; (with_reducible refine (spec_l1In.calls ((rd_T35 l0 x10_2).f3) 1 10000 false _ A24.out).mono ?_); rintro e w' ⟨rfl, ⟨nd, rfl⟩⟩; (try first | exact ⟨rfl, _, World.drewN_drewN _ _ _⟩ | exact ⟨rfl, _, Eq.trans (World.drewN_drewN _ _ _) (congrArg (World.drewN _) (Nat.add_assoc _ _ _))⟩))); try go_wp2_with (first | ((with_reducible refine qv0 (N := 11) rfl ?_); refine qb1 ?hg (N := 11) ?hd (cs := #[.string (⟨#[]⟩ : ByteArray), .string (⟨#[]⟩ : ByteArray), .int .i64 0, .int .i64 0]) (t := 35) ?hr ?_; (case hd => rfl); (case hg => rfl); (case hr => first | (go_simp; done) | (go_simp; rfl)); intro gb269 hg w28 hbox hb; have n0_ := Aside0.mk (qo0 (by repeat (first | (with_reducible first | exact HB.out | apply qc0 | apply qa0 | apply qd0) | exact HB.out)) hb); have n1_ := Aside0.mk (hbox); have n2_ := Aside0.mk ((by rw [hg]; exact (ql0 (by repeat (first | (with_reducible first | exact HB.out | apply qc0 | apply qa0 | apply qd0) | exact HB.out))) : w.heap.size ≤ gb269)); have n3_ := Aside0.mk ((by rw [hg]; exact (ql0 (by repeat (first | (with_reducible first | exact HB.out | apply qc0 | apply qa0 | apply qd0) | exact HB.out))) : w.heap.size ≤ gb269)); clear HB; have HB := n0_; have BK269 := n1_; have GW269 := n2_; have GE269 := n3_; clear n0_ n1_ n2_ n3_; clear hb hbox hg; have hcz29_0 : w28.cell? ⟨gb269, 0, none⟩ = some (.string (⟨#[]⟩ : ByteArray)) := (qh0 BK269.out 0).trans rfl; have hcz29_1 : w28.cell? ⟨gb269, 1, none⟩ = some (.string (⟨#[]⟩ : ByteArray)) := (qh0 BK269.out 1).trans rfl; have hcz29_2 : w28.cell? ⟨gb269, 2, none⟩ = some (.int .i64 0) := (qh0 BK269.out 2).trans rfl; have hcz29_3 : w28.cell? ⟨gb269, 3, none⟩ = some (.int .i64 0) := (qh0 BK269.out 3).trans rfl; have hfz29_0 := qb0 BK269.out 0; have hfz29_1 := qb0 BK269.out 1; have hfz29_2 := qb0 BK269.out 2; have hfz29_3 := qb0 BK269.out 3) | (go_at_call 78; (with_reducible refine (spec_NameOk.calls k2 ((rd_T35 l0 x10_2).f0) true _ A15.out).mono ?_); rintro e w' ⟨rfl, ⟨nd, rfl⟩⟩; (try first | exact ⟨rfl, _, World.drewN_drewN _ _ _⟩ | exact ⟨rfl, _, Eq.trans (World.drewN_drewN _ _ _) (congrArg (World.drewN _) (Nat.add_assoc _ _ _))⟩)) | (go_at_call 78; (with_reducible refine (spec_NameOk.calls k2 ((rd_T35 l0 x10_2).f1) true _ A17.out).mono ?_); rintro e w' ⟨rfl, ⟨nd, rfl⟩⟩; (try first | exact ⟨rfl, _, World.drewN_drewN _ _ _⟩ | exact ⟨rfl, _, Eq.trans (World.drewN_drewN _ _ _) (congrArg (World.drewN _) (Nat.add_assoc _ _ _))⟩)) | (go_at_call 79; (with_reducible refine (spec_l1In.calls ((rd_T35 l0 x10_2).f2) 1 10000 true _ A22.out).mono ?_); rintro e w' ⟨rfl, ⟨nd, rfl⟩⟩; (try first | exact ⟨rfl, _, World.drewN_drewN _ _ _⟩ | exact ⟨rfl, _, Eq.trans (World.drewN_drewN _ _ _) (congrArg (World.drewN _) (Nat.add_assoc _ _ _))⟩)) | (go_at_call 79; (with_reducible refine (spec_l1In.calls ((rd_T35 l0 x10_2).f3) 1 10000 false _ A24.out).mono ?_); rintro e w' ⟨rfl, ⟨nd, rfl⟩⟩; (try first | exact ⟨rfl, _, World.drewN_drewN _ _ _⟩ | exact ⟨rfl, _, Eq.trans (World.drewN_drewN _ _ _) (congrArg (World.drewN _) (Nat.add_assoc _ _ _))⟩))))
         go_ret2
         exact ⟨by first | rfl | (simp [errW_none, errW_some] <;> rfl) | (simp [*, errW_none, errW_some] <;> rfl), by repeat (first | (with_reducible first | exact HB.out | apply qc0 | apply qa0 | apply qd0 | refine qi0 ?_ GE269.out) | exact HB.out)⟩
        replace c23 := Bool.eq_false_iff.mpr c23
        subst c23
        have H1 : (some (0, false)) = some (r1, r2) := by rw [if_neg (show ¬ (false = true) by decide)] at H; exact H
        clear H
        have H := H1
        clear H1
        simp only [Option.some.injEq, Prod.mk.injEq] at H
        obtain ⟨rfl, rfl⟩ := H
        have p268 : 0 ≤ (x10_2 : Int) := of_decide_eq_true (by first | (with_reducible assumption) | assumption)
        have q268 : x10_2 < (l0.length : Int) := of_decide_eq_true (by first | (with_reducible assumption) | assumption)
        obtain ⟨ad268, e268, hx268_0, hx268_1, hx268_2, hx268_3⟩ := at_T35 HR0.out x10_2 p268 q268
        cases e268
        replace hx268_0 := (HB.out.cell (World.block_lt_of_cell? w _ hx268_0)).trans hx268_0
        replace hx268_1 := (HB.out.cell (World.block_lt_of_cell? w _ hx268_1)).trans hx268_1
        replace hx268_2 := (HB.out.cell (World.block_lt_of_cell? w _ hx268_2)).trans hx268_2
        replace hx268_3 := (HB.out.cell (World.block_lt_of_cell? w _ hx268_3)).trans hx268_3
        replace p268 := eq_true p268
        replace q268 := eq_true q268
        go_wp2_with (first | ((with_reducible refine qv0 (N := 11) rfl ?_); refine qb1 ?hg (N := 11) ?hd (cs := #[.string (⟨#[]⟩ : ByteArray), .string (⟨#[]⟩ : ByteArray), .int .i64 0, .int .i64 0]) (t := 35) ?hr ?_; (case hd => rfl); (case hg => rfl); (case hr => first | (go_simp; done) | (go_simp; rfl)); intro gb269 hg w30 hbox hb; have n0_ := Aside0.mk (qo0 (by repeat (first | (with_reducible first | exact HB.out | apply qc0 | apply qa0 | apply qd0) | exact HB.out)) hb); have n1_ := Aside0.mk (hbox); have n2_ := Aside0.mk ((by rw [hg]; exact (ql0 (by repeat (first | (with_reducible first | exact HB.out | apply qc0 | apply qa0 | apply qd0) | exact HB.out))) : w.heap.size ≤ gb269)); have n3_ := Aside0.mk ((by rw [hg]; exact (ql0 (by repeat (first | (with_reducible first | exact HB.out | apply qc0 | apply qa0 | apply qd0) | exact HB.out))) : w.heap.size ≤ gb269)); clear HB; have HB := n0_; have BK269 := n1_; have GW269 := n2_; have GE269 := n3_; clear n0_ n1_ n2_ n3_; clear hb hbox hg; have hcz31_0 : w30.cell? ⟨gb269, 0, none⟩ = some (.string (⟨#[]⟩ : ByteArray)) := (qh0 BK269.out 0).trans rfl; have hcz31_1 : w30.cell? ⟨gb269, 1, none⟩ = some (.string (⟨#[]⟩ : ByteArray)) := (qh0 BK269.out 1).trans rfl; have hcz31_2 : w30.cell? ⟨gb269, 2, none⟩ = some (.int .i64 0) := (qh0 BK269.out 2).trans rfl; have hcz31_3 : w30.cell? ⟨gb269, 3, none⟩ = some (.int .i64 0) := (qh0 BK269.out 3).trans rfl; have hfz31_0 := qb0 BK269.out 0; have hfz31_1 := qb0 BK269.out 1; have hfz31_2 := qb0 BK269.out 2; have hfz31_3 := qb0 BK269.out 3) | (go_at_call 78; (with_reducible refine (spec_NameOk.calls k2 ((rd_T35 l0 x10_2).f0) true _ A15.out).mono ?_); rintro e w' ⟨rfl, ⟨nd, rfl⟩⟩; (try first | exact ⟨rfl, _, World.drewN_drewN _ _ _⟩ | exact ⟨rfl, _, Eq.trans (World.drewN_drewN _ _ _) (congrArg (World.drewN _) (Nat.add_assoc _ _ _))⟩)) | (go_at_call 78; (with_reducible refine (spec_NameOk.calls k2 ((rd_T35 l0 x10_2).f1) true _ A17.out).mono ?_); rintro e w' ⟨rfl, ⟨nd, rfl⟩⟩; (try first | exact ⟨rfl, _, World.drewN_drewN _ _ _⟩ | exact ⟨rfl, _, Eq.trans (World.drewN_drewN _ _ _) (congrArg (World.drewN _) (Nat.add_assoc _ _ _))⟩)) | (go_at_call 79; (with_reducible refine (spec_l1In.calls ((rd_T35 l0 x10_2).f2) 1 10000 false _ A22.out).mono ?_); rintro e w' ⟨rfl, ⟨nd, rfl⟩⟩; (try first | exact ⟨rfl, _, World.drewN_drewN _ _ _⟩ | exact ⟨rfl, _, Eq.trans (World.drewN_drewN _ _ _) (congrArg (World.drewN _) (Nat.add_assoc _ _ _))⟩)))
        repeat (go_quiet (first | ((with_reducible refine qv0 (N := 11) rfl ?_); refine qb1 ?hg (N := 11) ?hd (cs := #[.string (⟨#[]⟩ : ByteArray), .string (⟨#[]⟩ : ByteArray), .int .i64 0, .int .i64 0]) (t := 35) ?hr ?_; (case hd => rfl); (case hg => rfl); (case hr => first | (go_simp; done) | (go_simp; rfl)); intro gb269 hg w30 hbox hb; have n0_ := Aside0.mk (qo0 (by repeat (first | (with_reducible first | exact HB.out | apply qc0 | apply qa0 | apply qd0) | exact HB.out)) hb); have n1_ := Aside0.mk (hbox); have n2_ := Aside0.mk ((by rw [hg]; exact (ql0 (by repeat (first | (with_reducible first | exact HB.out | apply qc0 | apply qa0 | apply qd0) | exact HB.out))) : w.heap.size ≤ gb269)); have n3_ := Aside0.mk ((by rw [hg]; exact (ql0 (by repeat (first | (with_reducible first | exact HB.out | apply qc0 | apply qa0 | apply qd0) | exact HB.out))) : w.heap.size ≤ gb269)); clear HB; have HB := n0_; have BK269 := n1_; have GW269 := n2_; have GE269 := n3_; clear n0_ n1_ n2_ n3_; clear hb hbox hg; have hcz31_0 : w30.cell? ⟨gb269, 0, none⟩ = some (.string (⟨#[]⟩ : ByteArray)) := (qh0 BK269.out 0).trans rfl; have hcz31_1 : w30.cell? ⟨gb269, 1, none⟩ = some (.string (⟨#[]⟩ : ByteArray)) := (qh0 BK269.out 1).trans rfl; have hcz31_2 : w30.cell? ⟨gb269, 2, none⟩ = some (.int .i64 0) := (qh0 BK269.out 2).trans rfl; have hcz31_3 : w30.cell? ⟨gb269, 3, none⟩ = some (.int .i64 0) := (qh0 BK269.out 3).trans rfl; have hfz31_0 := qb0 BK269.out 0; have hfz31_1 := qb0 BK269.out 1; have hfz31_2 := qb0 BK269.out 2; have hfz31_3 := qb0 BK269.out 3) | (go_at_call 78; (with_reducible refine (spec_NameOk.calls k2 ((rd_T35 l0 x10_2).f0) true _ A15.out).mono ?_); rintro e w' ⟨rfl, ⟨nd, rfl⟩⟩; (try first | exact ⟨rfl, _, World.drewN_drewN _ _ _⟩ | exact ⟨rfl, _, Eq.trans (World.drewN_drewN _ _ _) (congrArg (World.drewN _) (Nat.add_assoc _ _ _))⟩)) | (go_at_call 78; (with_reducible refine (spec_NameOk.calls k2 ((rd_T35 l0 x10_2).f1) true _ A17.out).mono ?_); rintro e w' ⟨rfl, ⟨nd, rfl⟩⟩; (try first | exact ⟨rfl, _, World.drewN_drewN _ _ _⟩ | exact ⟨rfl, _, Eq.trans (World.drewN_drewN _ _ _) (congrArg (World.drewN _) (Nat.add_assoc _ _ _))⟩)) | (go_at_call 79; (with_reducible refine (spec_l1In.calls ((rd_T35 l0 x10_2).f2) 1 10000 false _ A22.out).mono ?_); rintro e w' ⟨rfl, ⟨nd, rfl⟩⟩; (try first | exact ⟨rfl, _, World.drewN_drewN _ _ _⟩ | exact ⟨rfl, _, Eq.trans (World.drewN_drewN _ _ _) (congrArg (World.drewN _) (Nat.add_assoc _ _ _))⟩))); try go_wp2_with (first | ((with_reducible refine qv0 (N := 11) rfl ?_); refine qb1 ?hg (N := 11) ?hd (cs := #[.string (⟨#[]⟩ : ByteArray), .string (⟨#[]⟩ : ByteArray), .int .i64 0, .int .i64 0]) (t := 35) ?hr ?_; (case hd => rfl); (case hg => rfl); (case hr => first | (go_simp; done) | (go_simp; rfl)); intro gb269 hg w30 hbox hb; have n0_ := Aside0.mk (qo0 (by repeat (first | (with_reducible first | exact HB.out | apply qc0 | apply qa0 | apply qd0) | exact HB.out)) hb); have n1_ := Aside0.mk (hbox); have n2_ := Aside0.mk ((by rw [hg]; exact (ql0 (by repeat (first | (with_reducible first | exact HB.out | apply qc0 | apply qa0 | apply qd0) | exact HB.out))) : w.heap.size ≤ gb269)); have n3_ := Aside0.mk ((by rw [hg]; exact (ql0 (by repeat (first | (with_reducible first | exact HB.out | apply qc0 | apply qa0 | apply qd0) | exact HB.out))) : w.heap.size ≤ gb269)); clear HB; have HB := n0_; have BK269 := n1_; have GW269 := n2_; have GE269 := n3_; clear n0_ n1_ n2_ n3_; clear hb hbox hg; have hcz31_0 : w30.cell? ⟨gb269, 0, none⟩ = some (.string (⟨#[]⟩ : ByteArray)) := (qh0 BK269.out 0).trans rfl; have hcz31_1 : w30.cell? ⟨gb269, 1, none⟩ = some (.string (⟨#[]⟩ : ByteArray)) := (qh0 BK269.out 1).trans rfl; have hcz31_2 : w30.cell? ⟨gb269, 2, none⟩ = some (.int .i64 0) := (qh0 BK269.out 2).trans rfl; have hcz31_3 : w30.cell? ⟨gb269, 3, none⟩ = some (.int .i64 0) := (qh0 BK269.out 3).trans rfl; have hfz31_0 := qb0 BK269.out 0; have hfz31_1 := qb0 BK269.out 1; have hfz31_2 := qb0 BK269.out 2; have hfz31_3 := qb0 BK269.out 3) | (go_at_call 78; (with_reducible refine (spec_NameOk.calls k2 ((rd_T35 l0 x10_2).f0) true _ A15.out).mono ?_); rintro e w' ⟨rfl, ⟨nd, rfl⟩⟩; (try first | exact ⟨rfl, _, World.drewN_drewN _ _ _⟩ | exact ⟨rfl, _, Eq.trans (World.drewN_drewN _ _ _) (congrArg (World.drewN _) (Nat.add_assoc _ _ _))⟩)) | (go_at_call 78; (with_reducible refine (spec_NameOk.calls k2 ((rd_T35 l0 x10_2).f1) true _ A17.out).mono ?_); rintro e w' ⟨rfl, ⟨nd, rfl⟩⟩; (try first | exact ⟨rfl, _, World.drewN_drewN _ _ _⟩ | exact ⟨rfl, _, Eq.trans (World.drewN_drewN _ _ _) (congrArg (World.drewN _) (Nat.add_assoc _ _ _))⟩)) | (go_at_call 79; (with_reducible refine (spec_l1In.calls ((rd_T35 l0 x10_2).f2) 1 10000 false _ A22.out).mono ?_); rintro e w' ⟨rfl, ⟨nd, rfl⟩⟩; (try first | exact ⟨rfl, _, World.drewN_drewN _ _ _⟩ | exact ⟨rfl, _, Eq.trans (World.drewN_drewN _ _ _) (congrArg (World.drewN _) (Nat.add_assoc _ _ _))⟩))))
        go_ret2
        exact ⟨by first | rfl | (simp [errW_none, errW_some] <;> rfl) | (simp [*, errW_none, errW_some] <;> rfl), by repeat (first | (with_reducible first | exact HB.out | apply qc0 | apply qa0 | apply qd0 | refine qi0 ?_ GE269.out) | exact HB.out)⟩
       replace c18 := Bool.eq_false_iff.mpr c18
       subst c18
       have H1 : (some (0, false)) = some (r1, r2) := by rw [if_neg (show ¬ (false = true) by decide)] at H; exact H
       clear H
       have H := H1
       clear H1
       simp only [Option.some.injEq, Prod.mk.injEq] at H
       obtain ⟨rfl, rfl⟩ := H
       have p268 : 0 ≤ (x10_2 : Int) := of_decide_eq_true (by first | (with_reducible assumption) | assumption)
       have q268 : x10_2 < (l0.length : Int) := of_decide_eq_true (by first | (with_reducible assumption) | assumption)
       obtain ⟨ad268, e268, hx268_0, hx268_1, hx268_2, hx268_3⟩ := at_T35 HR0.out x10_2 p268 q268
       cases e268
       replace hx268_0 := (HB.out.cell (World.block_lt_of_cell? w _ hx268_0)).trans hx268_0
       replace hx268_1 := (HB.out.cell (World.block_lt_of_cell? w _ hx268_1)).trans hx268_1
       replace hx268_2 := (HB.out.cell (World.block_lt_of_cell? w _ hx268_2)).trans hx268_2
       replace hx268_3 := (HB.out.cell (World.block_lt_of_cell? w _ hx268_3)).trans hx268_3
       replace p268 := eq_true p268
       replace q268 := eq_true q268
       go_wp2_with (first | ((with_reducible refine qv0 (N := 11) rfl ?_); refine qb1 ?hg (N := 11) ?hd (cs := #[.string (⟨#[]⟩ : ByteArray), .string (⟨#[]⟩ : ByteArray), .int .i64 0, .int .i64 0]) (t := 35) ?hr ?_; (case hd => rfl); (case hg => rfl); (case hr => first | (go_simp; done) | (go_simp; rfl)); intro gb269 hg w32 hbox hb; have n0_ := Aside0.mk (qo0 (by repeat (first | (with_reducible first | exact HB.out | apply qc0 | apply qa0 | apply qd0) | exact HB.out)) hb); have n1_ := Aside0.mk (hbox); have n2_ := Aside0.mk ((by rw [hg]; exact (ql0 (by repeat (first | (with_reducible first | exact HB.out | apply qc0 | apply qa0 | apply qd0) | exact HB.out))) : w.heap.size ≤ gb269)); have n3_ := Aside0.mk ((by rw [hg]; exact (ql0 (by repeat (first | (with_reducible first | exact HB.out | apply qc0 | apply qa0 | apply qd0) | exact HB.out))) : w.heap.size ≤ gb269)); clear HB; have HB := n0_; have BK269 := n1_; have GW269 := n2_; have GE269 := n3_; clear n0_ n1_ n2_ n3_; clear hb hbox hg; have hcz33_0 : w32.cell? ⟨gb269, 0, none⟩ = some (.string (⟨#[]⟩ : ByteArray)) := (qh0 BK269.out 0).trans rfl; have hcz33_1 : w32.cell? ⟨gb269, 1, none⟩ = some (.string (⟨#[]⟩ : ByteArray)) := (qh0 BK269.out 1).trans rfl; have hcz33_2 : w32.cell? ⟨gb269, 2, none⟩ = some (.int .i64 0) := (qh0 BK269.out 2).trans rfl; have hcz33_3 : w32.cell? ⟨gb269, 3, none⟩ = some (.int .i64 0) := (qh0 BK269.out 3).trans rfl; have hfz33_0 := qb0 BK269.out 0; have hfz33_1 := qb0 BK269.out 1; have hfz33_2 := qb0 BK269.out 2; have hfz33_3 := qb0 BK269.out 3) | (go_at_call 78; (with_reducible refine (spec_NameOk.calls k2 ((rd_T35 l0 x10_2).f0) true _ A15.out).mono ?_); rintro e w' ⟨rfl, ⟨nd, rfl⟩⟩; (try first | exact ⟨rfl, _, World.drewN_drewN _ _ _⟩ | exact ⟨rfl, _, Eq.trans (World.drewN_drewN _ _ _) (congrArg (World.drewN _) (Nat.add_assoc _ _ _))⟩)) | (go_at_call 78; (with_reducible refine (spec_NameOk.calls k2 ((rd_T35 l0 x10_2).f1) false _ A17.out).mono ?_); rintro e w' ⟨rfl, ⟨nd, rfl⟩⟩; (try first | exact ⟨rfl, _, World.drewN_drewN _ _ _⟩ | exact ⟨rfl, _, Eq.trans (World.drewN_drewN _ _ _) (congrArg (World.drewN _) (Nat.add_assoc _ _ _))⟩)))
       repeat (go_quiet (first | ((with_reducible refine qv0 (N := 11) rfl ?_); refine qb1 ?hg (N := 11) ?hd (cs := #[.string (⟨#[]⟩ : ByteArray), .string (⟨#[]⟩ : ByteArray), .int .i64 0, .int .i64 0]) (t := 35) ?hr ?_; (case hd => rfl); (case hg => rfl); (case hr => first | (go_simp; done) | (go_simp; rfl)); intro gb269 hg w32 hbox hb; have n0_ := Aside0.mk (qo0 (by repeat (first | (with_reducible first | exact HB.out | apply qc0 | apply qa0 | apply qd0) | exact HB.out)) hb); have n1_ := Aside0.mk (hbox); have n2_ := Aside0.mk ((by rw [hg]; exact (ql0 (by repeat (first | (with_reducible first | exact HB.out | apply qc0 | apply qa0 | apply qd0) | exact HB.out))) : w.heap.size ≤ gb269)); have n3_ := Aside0.mk ((by rw [hg]; exact (ql0 (by repeat (first | (with_reducible first | exact HB.out | apply qc0 | apply qa0 | apply qd0) | exact HB.out))) : w.heap.size ≤ gb269)); clear HB; have HB := n0_; have BK269 := n1_; have GW269 := n2_; have GE269 := n3_; clear n0_ n1_ n2_ n3_; clear hb hbox hg; have hcz33_0 : w32.cell? ⟨gb269, 0, none⟩ = some (.string (⟨#[]⟩ : ByteArray)) := (qh0 BK269.out 0).trans rfl; have hcz33_1 : w32.cell? ⟨gb269, 1, none⟩ = some (.string (⟨#[]⟩ : ByteArray)) := (qh0 BK269.out 1).trans rfl; have hcz33_2 : w32.cell? ⟨gb269, 2, none⟩ = some (.int .i64 0) := (qh0 BK269.out 2).trans rfl; have hcz33_3 : w32.cell? ⟨gb269, 3, none⟩ = some (.int .i64 0) := (qh0 BK269.out 3).trans rfl; have hfz33_0 := qb0 BK269.out 0; have hfz33_1 := qb0 BK269.out 1; have hfz33_2 := qb0 BK269.out 2; have hfz33_3 := qb0 BK269.out 3) | (go_at_call 78; (with_reducible refine (spec_NameOk.calls k2 ((rd_T35 l0 x10_2).f0) true _ A15.out).mono ?_); rintro e w' ⟨rfl, ⟨nd, rfl⟩⟩; (try first | exact ⟨rfl, _, World.drewN_drewN _ _ _⟩ | exact ⟨rfl, _, Eq.trans (World.drewN_drewN _ _ _) (congrArg (World.drewN _) (Nat.add_assoc _ _ _))⟩)) | (go_at_call 78; (with_reducible refine (spec_NameOk.calls k2 ((rd_T35 l0 x10_2).f1) false _ A17.out).mono ?_); rintro e w' ⟨rfl, ⟨nd, rfl⟩⟩; (try first | exact ⟨rfl, _, World.drewN_drewN _ _ _⟩ | exact ⟨rfl, _, Eq.trans (World.drewN_drewN _ _ _) (congrArg (World.drewN _) (Nat.add_assoc _ _ _))⟩))); try go_wp2_with (first | ((with_reducible refine qv0 (N := 11) rfl ?_); refine qb1 ?hg (N := 11) ?hd (cs := #[.string (⟨#[]⟩ : ByteArray), .string (⟨#[]⟩ : ByteArray), .int .i64 0, .int .i64 0]) (t := 35) ?hr ?_; (case hd => rfl); (case hg => rfl); (case hr => first | (go_simp; done) | (go_simp; rfl)); intro gb269 hg w32 hbox hb; have n0_ := Aside0.mk (qo0 (by repeat (first | (with_reducible first | exact HB.out | apply qc0 | apply qa0 | apply qd0) | exact HB.out)) hb); have n1_ := Aside0.mk (hbox); have n2_ := Aside0.mk ((by rw [hg]; exact (ql0 (by repeat (first | (with_reducible first | exact HB.out | apply qc0 | apply qa0 | apply qd0) | exact HB.out))) : w.heap.size ≤ gb269)); have n3_ := Aside0.mk ((by rw [hg]; exact (ql0 (by repeat (first | (with_reducible first | exact HB.out | apply qc0 | apply qa0 | apply qd0) | exact HB.out))) : w.heap.size ≤ gb269)); clear HB; have HB := n0_; have BK269 := n1_; have GW269 := n2_; have GE269 := n3_; clear n0_ n1_ n2_ n3_; clear hb hbox hg; have hcz33_0 : w32.cell? ⟨gb269, 0, none⟩ = some (.string (⟨#[]⟩ : ByteArray)) := (qh0 BK269.out 0).trans rfl; have hcz33_1 : w32.cell? ⟨gb269, 1, none⟩ = some (.string (⟨#[]⟩ : ByteArray)) := (qh0 BK269.out 1).trans rfl; have hcz33_2 : w32.cell? ⟨gb269, 2, none⟩ = some (.int .i64 0) := (qh0 BK269.out 2).trans rfl; have hcz33_3 : w32.cell? ⟨gb269, 3, none⟩ = some (.int .i64 0) := (qh0 BK269.out 3).trans rfl; have hfz33_0 := qb0 BK269.out 0; have hfz33_1 := qb0 BK269.out 1; have hfz33_2 := qb0 BK269.out 2; have hfz33_3 := qb0 BK269.out 3) | (go_at_call 78; (with_reducible refine (spec_NameOk.calls k2 ((rd_T35 l0 x10_2).f0) true _ A15.out).mono ?_); rintro e w' ⟨rfl, ⟨nd, rfl⟩⟩; (try first | exact ⟨rfl, _, World.drewN_drewN _ _ _⟩ | exact ⟨rfl, _, Eq.trans (World.drewN_drewN _ _ _) (congrArg (World.drewN _) (Nat.add_assoc _ _ _))⟩)) | (go_at_call 78; (with_reducible refine (spec_NameOk.calls k2 ((rd_T35 l0 x10_2).f1) false _ A17.out).mono ?_); rintro e w' ⟨rfl, ⟨nd, rfl⟩⟩; (try first | exact ⟨rfl, _, World.drewN_drewN _ _ _⟩ | exact ⟨rfl, _, Eq.trans (World.drewN_drewN _ _ _) (congrArg (World.drewN _) (Nat.add_assoc _ _ _))⟩))))
       go_ret2
       exact ⟨by first | rfl | (simp [errW_none, errW_some] <;> rfl) | (simp [*, errW_none, errW_some] <;> rfl), by repeat (first | (with_reducible first | exact HB.out | apply qc0 | apply qa0 | apply qd0 | refine qi0 ?_ GE269.out) | exact HB.out)⟩
      replace c16 := Bool.eq_false_iff.mpr c16
      subst c16
      have H1 : (some (0, false)) = some (r1, r2) := by rw [if_neg (show ¬ (false = true) by decide)] at H; exact H
      clear H
      have H := H1
      clear H1
      simp only [Option.some.injEq, Prod.mk.injEq] at H
      obtain ⟨rfl, rfl⟩ := H
      have p268 : 0 ≤ (x10_2 : Int) := of_decide_eq_true (by first | (with_reducible assumption) | assumption)
      have q268 : x10_2 < (l0.length : Int) := of_decide_eq_true (by first | (with_reducible assumption) | assumption)
      obtain ⟨ad268, e268, hx268_0, hx268_1, hx268_2, hx268_3⟩ := at_T35 HR0.out x10_2 p268 q268
      cases e268
      replace hx268_0 := (HB.out.cell (World.block_lt_of_cell? w _ hx268_0)).trans hx268_0
      replace hx268_1 := (HB.out.cell (World.block_lt_of_cell? w _ hx268_1)).trans hx268_1
      replace hx268_2 := (HB.out.cell (World.block_lt_of_cell? w _ hx268_2)).trans hx268_2
      replace hx268_3 := (HB.out.cell (World.block_lt_of_cell? w _ hx268_3)).trans hx268_3
      replace p268 := eq_true p268
      replace q268 := eq_true q268
      go_wp2_with (first | ((with_reducible refine qv0 (N := 11) rfl ?_); refine qb1 ?hg (N := 11) ?hd (cs := #[.string (⟨#[]⟩ : ByteArray), .string (⟨#[]⟩ : ByteArray), .int .i64 0, .int .i64 0]) (t := 35) ?hr ?_; (case hd => rfl); (case hg => rfl); (case hr => first | (go_simp; done) | (go_simp; rfl)); intro gb269 hg w34 hbox hb; have n0_ := Aside0.mk (qo0 (by repeat (first | (with_reducible first | exact HB.out | apply qc0 | apply qa0 | apply qd0) | exact HB.out)) hb); have n1_ := Aside0.mk (hbox); have n2_ := Aside0.mk ((by rw [hg]; exact (ql0 (by repeat (first | (with_reducible first | exact HB.out | apply qc0 | apply qa0 | apply qd0) | exact HB.out))) : w.heap.size ≤ gb269)); have n3_ := Aside0.mk ((by rw [hg]; exact (ql0 (by repeat (first | (with_reducible first | exact HB.out | apply qc0 | apply qa0 | apply qd0) | exact HB.out))) : w.heap.size ≤ gb269)); clear HB; have HB := n0_; have BK269 := n1_; have GW269 := n2_; have GE269 := n3_; clear n0_ n1_ n2_ n3_; clear hb hbox hg; have hcz35_0 : w34.cell? ⟨gb269, 0, none⟩ = some (.string (⟨#[]⟩ : ByteArray)) := (qh0 BK269.out 0).trans rfl; have hcz35_1 : w34.cell? ⟨gb269, 1, none⟩ = some (.string (⟨#[]⟩ : ByteArray)) := (qh0 BK269.out 1).trans rfl; have hcz35_2 : w34.cell? ⟨gb269, 2, none⟩ = some (.int .i64 0) := (qh0 BK269.out 2).trans rfl; have hcz35_3 : w34.cell? ⟨gb269, 3, none⟩ = some (.int .i64 0) := (qh0 BK269.out 3).trans rfl; have hfz35_0 := qb0 BK269.out 0; have hfz35_1 := qb0 BK269.out 1; have hfz35_2 := qb0 BK269.out 2; have hfz35_3 := qb0 BK269.out 3) | (go_at_call 78; (with_reducible refine (spec_NameOk.calls k2 ((rd_T35 l0 x10_2).f0) false _ A15.out).mono ?_); rintro e w' ⟨rfl, ⟨nd, rfl⟩⟩; (try first | exact ⟨rfl, _, World.drewN_drewN _ _ _⟩ | exact ⟨rfl, _, Eq.trans (World.drewN_drewN _ _ _) (congrArg (World.drewN _) (Nat.add_assoc _ _ _))⟩)))
      repeat (go_quiet (first | ((with_reducible refine qv0 (N := 11) rfl ?_); refine qb1 ?hg (N := 11) ?hd (cs := #[.string (⟨#[]⟩ : ByteArray), .string (⟨#[]⟩ : ByteArray), .int .i64 0, .int .i64 0]) (t := 35) ?hr ?_; (case hd => rfl); (case hg => rfl); (case hr => first | (go_simp; done) | (go_simp; rfl)); intro gb269 hg w34 hbox hb; have n0_ := Aside0.mk (qo0 (by repeat (first | (with_reducible first | exact HB.out | apply qc0 | apply qa0 | apply qd0) | exact HB.out)) hb); have n1_ := Aside0.mk (hbox); have n2_ := Aside0.mk ((by rw [hg]; exact (ql0 (by repeat (first | (with_reducible first | exact HB.out | apply qc0 | apply qa0 | apply qd0) | exact HB.out))) : w.heap.size ≤ gb269)); have n3_ := Aside0.mk ((by rw [hg]; exact (ql0 (by repeat (first | (with_reducible first | exact HB.out | apply qc0 | apply qa0 | apply qd0) | exact HB.out))) : w.heap.size ≤ gb269)); clear HB; have HB := n0_; have BK269 := n1_; have GW269 := n2_; have GE269 := n3_; clear n0_ n1_ n2_ n3_; clear hb hbox hg; have hcz35_0 : w34.cell? ⟨gb269, 0, none⟩ = some (.string (⟨#[]⟩ : ByteArray)) := (qh0 BK269.out 0).trans rfl; have hcz35_1 : w34.cell? ⟨gb269, 1, none⟩ = some (.string (⟨#[]⟩ : ByteArray)) := (qh0 BK269.out 1).trans rfl; have hcz35_2 : w34.cell? ⟨gb269, 2, none⟩ = some (.int .i64 0) := (qh0 BK269.out 2).trans rfl; have hcz35_3 : w34.cell? ⟨gb269, 3, none⟩ = some (.int .i64 0) := (qh0 BK269.out 3).trans rfl; have hfz35_0 := qb0 BK269.out 0; have hfz35_1 := qb0 BK269.out 1; have hfz35_2 := qb0 BK269.out 2; have hfz35_3 := qb0 BK269.out 3) | (go_at_call 78; (with_reducible refine (spec_NameOk.calls k2 ((rd_T35 l0 x10_2).f0) false _ A15.out).mono ?_); rintro e w' ⟨rfl, ⟨nd, rfl⟩⟩; (try first | exact ⟨rfl, _, World.drewN_drewN _ _ _⟩ | exact ⟨rfl, _, Eq.trans (World.drewN_drewN _ _ _) (congrArg (World.drewN _) (Nat.add_assoc _ _ _))⟩))); try go_wp2_with (first | ((with_reducible refine qv0 (N := 11) rfl ?_); refine qb1 ?hg (N := 11) ?hd (cs := #[.string (⟨#[]⟩ : ByteArray), .string (⟨#[]⟩ : ByteArray), .int .i64 0, .int .i64 0]) (t := 35) ?hr ?_; (case hd => rfl); (case hg => rfl); (case hr => first | (go_simp; done) | (go_simp; rfl)); intro gb269 hg w34 hbox hb; have n0_ := Aside0.mk (qo0 (by repeat (first | (with_reducible first | exact HB.out | apply qc0 | apply qa0 | apply qd0) | exact HB.out)) hb); have n1_ := Aside0.mk (hbox); have n2_ := Aside0.mk ((by rw [hg]; exact (ql0 (by repeat (first | (with_reducible first | exact HB.out | apply qc0 | apply qa0 | apply qd0) | exact HB.out))) : w.heap.size ≤ gb269)); have n3_ := Aside0.mk ((by rw [hg]; exact (ql0 (by repeat (first | (with_reducible first | exact HB.out | apply qc0 | apply qa0 | apply qd0) | exact HB.out))) : w.heap.size ≤ gb269)); clear HB; have HB := n0_; have BK269 := n1_; have GW269 := n2_; have GE269 := n3_; clear n0_ n1_ n2_ n3_; clear hb hbox hg; have hcz35_0 : w34.cell? ⟨gb269, 0, none⟩ = some (.string (⟨#[]⟩ : ByteArray)) := (qh0 BK269.out 0).trans rfl; have hcz35_1 : w34.cell? ⟨gb269, 1, none⟩ = some (.string (⟨#[]⟩ : ByteArray)) := (qh0 BK269.out 1).trans rfl; have hcz35_2 : w34.cell? ⟨gb269, 2, none⟩ = some (.int .i64 0) := (qh0 BK269.out 2).trans rfl; have hcz35_3 : w34.cell? ⟨gb269, 3, none⟩ = some (.int .i64 0) := (qh0 BK269.out 3).trans rfl; have hfz35_0 := qb0 BK269.out 0; have hfz35_1 := qb0 BK269.out 1; have hfz35_2 := qb0 BK269.out 2; have hfz35_3 := qb0 BK269.out 3) | (go_at_call 78; (with_reducible refine (spec_NameOk.calls k2 ((rd_T35 l0 x10_2).f0) false _ A15.out).mono ?_); rintro e w' ⟨rfl, ⟨nd, rfl⟩⟩; (try first | exact ⟨rfl, _, World.drewN_drewN _ _ _⟩ | exact ⟨rfl, _, Eq.trans (World.drewN_drewN _ _ _) (congrArg (World.drewN _) (Nat.add_assoc _ _ _))⟩))))
      go_ret2
      exact ⟨by first | rfl | (simp [errW_none, errW_some] <;> rfl) | (simp [*, errW_none, errW_some] <;> rfl), by repeat (first | (with_reducible first | exact HB.out | apply qc0 | apply qa0 | apply qd0 | refine qi0 ?_ GE269.out) | exact HB.out)⟩
     rw [if_neg c13] at H
     have c13b0 : decide (x10_2 < (l0.length : Int)) = false := decide_eq_false c13
     clear c13
     obtain ⟨y274, hy274⟩ : ∃ y_ : List (S127), y_ = (([(⟨a2, 1, 1, 0⟩ : S127)] : List (S127))) := ⟨_, rfl⟩
     replace H : (spec_QtyIn.l1 k2 l0 a1 a3 y274 0) = some (r1, r2) := by first | (rw [hy274]; with_reducible exact H) | (have H2_ := (Option.bind_some _ _).symm.trans H; rw [hy274]; with_reducible exact H2_) | (have H2_ := (Option.bind_some _ _).symm.trans H; with_reducible exact H2_) | with_reducible exact H | (rw [hy274]; exact H) | exact H
     have Ny274 := Aside0.mk hy274
     clear hy274
     have H' := Aside0.mk H
     clear H
     go_wp2_with (first | ((with_reducible refine qv0 (N := 80) rfl ?_); refine Kd.R_lit k127 _ 127 ?hg (N := 80) ?hd (xs := ([(⟨a2, 1, 1, 0⟩ : S127)] : List (S127))) (inner := [.string a2, .int .i64 1, .int .i64 1, .int .i64 0]) (ok := fun _ => True) (okp := fun _ => True) ?hr ?hp (fun _ hk => hk) trivial (Below.refl _ _) (Nat.le_refl _) (by simp) ?_; (case hd => rfl); (case hg => rfl); (case hr => first | (go_simp; done) | (go_simp; rfl)); (case hp => exact (Reps.c4 (show Kd.M k127 _ _ _ (⟨a2, 1, 1, 0⟩ : S127) [.string a2, .int .i64 1, .int .i64 1, .int .i64 0] from (k127_mkM _ _ _ (⟨a2, 1, 1, 0⟩ : S127) )) (Reps.none _ _))); intro v275 w36 ho37 hb hg_ hnew_; clear hg_ hnew_; (first | rw [← Ny274.out] at ho37 | (simp only [Int.reduceToNat] at ho37; rw [← Ny274.out] at ho37)); have n0_ := Aside0.mk (Kd.qp1 ho37 (ql0 (by repeat (first | (with_reducible first | exact HB.out | apply qc0 | apply qa0 | apply qd0) | exact HB.out)))); have n1_ := Aside0.mk (qo0 (by repeat (first | (with_reducible first | exact HB.out | apply qc0 | apply qa0 | apply qd0) | exact HB.out)) hb); clear HB; have HO276 := n0_; have HB := n1_; clear n0_ n1_; clear hb ho37))
     repeat (go_quiet (first | ((with_reducible refine qv0 (N := 80) rfl ?_); refine Kd.R_lit k127 _ 127 ?hg (N := 80) ?hd (xs := ([(⟨a2, 1, 1, 0⟩ : S127)] : List (S127))) (inner := [.string a2, .int .i64 1, .int .i64 1, .int .i64 0]) (ok := fun _ => True) (okp := fun _ => True) ?hr ?hp (fun _ hk => hk) trivial (Below.refl _ _) (Nat.le_refl _) (by simp) ?_; (case hd => rfl); (case hg => rfl); (case hr => first | (go_simp; done) | (go_simp; rfl)); (case hp => exact (Reps.c4 (show Kd.M k127 _ _ _ (⟨a2, 1, 1, 0⟩ : S127) [.string a2, .int .i64 1, .int .i64 1, .int .i64 0] from (k127_mkM _ _ _ (⟨a2, 1, 1, 0⟩ : S127) )) (Reps.none _ _))); intro v275 w36 ho37 hb hg_ hnew_; clear hg_ hnew_; (first | rw [← Ny274.out] at ho37 | (simp only [Int.reduceToNat] at ho37; rw [← Ny274.out] at ho37)); have n0_ := Aside0.mk (Kd.qp1 ho37 (ql0 (by repeat (first | (with_reducible first | exact HB.out | apply qc0 | apply qa0 | apply qd0) | exact HB.out)))); have n1_ := Aside0.mk (qo0 (by repeat (first | (with_reducible first | exact HB.out | apply qc0 | apply qa0 | apply qd0) | exact HB.out)) hb); clear HB; have HO276 := n0_; have HB := n1_; clear n0_ n1_; clear hb ho37)); try go_wp2_with (first | ((with_reducible refine qv0 (N := 80) rfl ?_); refine Kd.R_lit k127 _ 127 ?hg (N := 80) ?hd (xs := ([(⟨a2, 1, 1, 0⟩ : S127)] : List (S127))) (inner := [.string a2, .int .i64 1, .int .i64 1, .int .i64 0]) (ok := fun _ => True) (okp := fun _ => True) ?hr ?hp (fun _ hk => hk) trivial (Below.refl _ _) (Nat.le_refl _) (by simp) ?_; (case hd => rfl); (case hg => rfl); (case hr => first | (go_simp; done) | (go_simp; rfl)); (case hp => exact (Reps.c4 (show Kd.M k127 _ _ _ (⟨a2, 1, 1, 0⟩ : S127) [.string a2, .int .i64 1, .int .i64 1, .int .i64 0] from (k127_mkM _ _ _ (⟨a2, 1, 1, 0⟩ : S127) )) (Reps.none _ _))); intro v275 w36 ho37 hb hg_ hnew_; clear hg_ hnew_; (first | rw [← Ny274.out] at ho37 | (simp only [Int.reduceToNat] at ho37; rw [← Ny274.out] at ho37)); have n0_ := Aside0.mk (Kd.qp1 ho37 (ql0 (by repeat (first | (with_reducible first | exact HB.out | apply qc0 | apply qa0 | apply qd0) | exact HB.out)))); have n1_ := Aside0.mk (qo0 (by repeat (first | (with_reducible first | exact HB.out | apply qc0 | apply qa0 | apply qd0) | exact HB.out)) hb); clear HB; have HO276 := n0_; have HB := n1_; clear n0_ n1_; clear hb ho37)))
     go_loopg [12, 13] k2 (fun kq v12 v13 w' => ∃ (x12_3 : List (S127)) (x13_3 : Int), v13 = .int .i64 x13_3 ∧ Aside0 (spec_QtyIn.l1 kq l0 a1 a3 x12_3 x13_3 = some (r1, r2)) ∧ Aside0 (kq ≤ k2) ∧ Aside0 (Kd.R k127 127 w' w.heap.size (fun _ => True) v12 x12_3) ∧ Aside0 (Below w.heap.size w w'))
     case atStart => exact ⟨(y274), (0), (by first | rfl | (simp; done) | (simp [*]; done)), H', ⟨Nat.le_refl _⟩, ⟨by (with_reducible repeat (first | apply Kd.qk0 | apply Kd.qj0 | apply Kd.qm0)); exact HO276.out⟩, ⟨by repeat (first | (with_reducible first | exact HB.out | apply qc0 | apply qa0 | apply qd0) | exact HB.out)⟩⟩
     case round =>
      clear H'
      try clear c1
      try clear c2
      try clear p2
      try clear q2
      try clear hx2
      try clear c4
      try clear c6
      try clear c6b0
      try clear c6b1
      try clear p6
      try clear c8
      try clear c10
      try clear c12
      try clear c13
      try clear c13b0
      try clear c14
      try clear c14b0
      try clear c16
      try clear c18
      try clear c19
      try clear c19b0
      try clear c19b1
      try clear c23
      try clear c25
      try clear p26
      try clear q26
      try clear hx26
      try clear hcz21_0
      try clear hcz21_1
      try clear hcz21_2
      try clear hcz21_3
      try clear hcz27_0
      try clear hcz27_1
      try clear hcz27_2
      try clear hcz27_3
      try clear hcz29_0
      try clear hcz29_1
      try clear hcz29_2
      try clear hcz29_3
      try clear hcz31_0
      try clear hcz31_1
      try clear hcz31_2
      try clear hcz31_3
      try clear hcz33_0
      try clear hcz33_1
      try clear hcz33_2
      try clear hcz33_3
      try clear hcz35_0
      try clear hcz35_1
      try clear hcz35_2
      try clear hcz35_3
      try clear hfz21_0
      try clear hfz21_1
      try clear hfz21_2
      try clear hfz21_3
      try clear hfz27_0
      try clear hfz27_1
      try clear hfz27_2
      try clear hfz27_3
      try clear hfz29_0
      try clear hfz29_1
      try clear hfz29_2
      try clear hfz29_3
      try clear hfz31_0
      try clear hfz31_1
      try clear hfz31_2
      try clear hfz31_3
      try clear hfz33_0
      try clear hfz33_1
      try clear hfz33_2
      try clear hfz33_3
      try clear hfz35_0
      try clear hfz35_1
      try clear hfz35_2
      try clear hfz35_3
      try clear hx268_0
      try clear hx268_1
      try clear hx268_2
      try clear hx268_3
      try clear p2
      try clear p268
      try clear q268
      obtain ⟨x12_3, x13_3, rfl, HA, HK3, HO_12, HB⟩ := hrel
      cases gk with
      | zero => exact absurd HA.out (by simp [spec_QtyIn.l1])
      | succ k3 =>
       have H := HA.out
       clear HA
       simp only [spec_QtyIn.l1] at H
       by_cases c38 : x13_3 < (x12_3.length : Int)
       ·rw [if_pos c38] at H
        have c38b0 : decide (x13_3 < (x12_3.length : Int)) = true := decide_eq_true c38
        clear c38
        by_cases c39 : 0 ≤ x13_3
        case neg => rw [if_neg c39] at H; exact absurd H (by simp)
        rw [if_pos c39] at H
        have c39b0 : decide (0 ≤ x13_3) = true := decide_eq_true c39
        clear c39
        have H' := Aside0.mk H
        clear H
        obtain ⟨Ao40, co40, eo40⟩ := Kd.qo1 HO_12.out
        subst eo40
        have p277 : 0 ≤ (x13_3 : Int) := of_decide_eq_true (by first | (with_reducible assumption) | assumption)
        have q277 : x13_3 < (x12_3.length : Int) := of_decide_eq_true (by first | (with_reducible assumption) | assumption)
        obtain ⟨ad277, e277, hx277_0, hx277_1, hx277_2, hx277_3⟩ := at_T127 (Kd.R_reads' HO_12.out).2.2 x13_3 p277 q277
        cases e277
        replace p277 := eq_true p277
        replace q277 := eq_true q277
        go_wp2_with (first | ((with_reducible refine qv0 (N := 14) rfl ?_); refine qb1 ?hg (N := 14) ?hd (cs := #[.string (⟨#[]⟩ : ByteArray), .int .i64 0, .int .i64 0, .int .i64 0]) (t := 127) ?hr ?_; (case hd => rfl); (case hg => rfl); (case hr => first | (go_simp; done) | (go_simp; rfl)); intro gb278 hg w41 hbox hb; have n0_ := Aside0.mk (Kd.qy0 (Kd.R_elderB (by (with_reducible repeat (first | apply Kd.qk0 | apply Kd.qj0 | apply Kd.qm0)); exact HO_12.out) gb278 (Nat.le_of_eq hg.symm)) hb); have n1_ := Aside0.mk (qo0 (by repeat (first | (with_reducible first | exact HB.out | apply qc0 | apply qa0 | apply qd0) | exact HB.out)) hb); have n2_ := Aside0.mk (hbox); have n3_ := Aside0.mk ((by rw [hg]; exact (ql0 (by repeat (first | (with_reducible first | exact HB.out | apply qc0 | apply qa0 | apply qd0) | exact HB.out))) : w.heap.size ≤ gb278)); have n4_ := Aside0.mk ((by rw [hg]; exact (ql0 (by repeat (first | (with_reducible first | exact HB.out | apply qc0 | apply qa0 | apply qd0) | exact HB.out))) : w.heap.size ≤ gb278)); clear HO_12; clear HB; have HO_12 := n0_; have HB := n1_; have BK278 := n2_; have GW278 := n3_; have GE278 := n4_; clear n0_ n1_ n2_ n3_ n4_; clear hb hbox hg; have hcz42_0 : w41.cell? ⟨gb278, 0, none⟩ = some (.string (⟨#[]⟩ : ByteArray)) := (qh0 BK278.out 0).trans rfl; have hcz42_1 : w41.cell? ⟨gb278, 1, none⟩ = some (.int .i64 0) := (qh0 BK278.out 1).trans rfl; have hcz42_2 : w41.cell? ⟨gb278, 2, none⟩ = some (.int .i64 0) := (qh0 BK278.out 2).trans rfl; have hcz42_3 : w41.cell? ⟨gb278, 3, none⟩ = some (.int .i64 0) := (qh0 BK278.out 3).trans rfl; have hfz42_0 := qb0 BK278.out 0; have hfz42_1 := qb0 BK278.out 1; have hfz42_2 := qb0 BK278.out 2; have hfz42_3 := qb0 BK278.out 3))
        repeat (go_quiet (first | ((with_reducible refine qv0 (N := 14) rfl ?_); refine qb1 ?hg (N := 14) ?hd (cs := #[.string (⟨#[]⟩ : ByteArray), .int .i64 0, .int .i64 0, .int .i64 0]) (t := 127) ?hr ?_; (case hd => rfl); (case hg => rfl); (case hr => first | (go_simp; done) | (go_simp; rfl)); intro gb278 hg w41 hbox hb; have n0_ := Aside0.mk (Kd.qy0 (Kd.R_elderB (by (with_reducible repeat (first | apply Kd.qk0 | apply Kd.qj0 | apply Kd.qm0)); exact HO_12.out) gb278 (Nat.le_of_eq hg.symm)) hb); have n1_ := Aside0.mk (qo0 (by repeat (first | (with_reducible first | exact HB.out | apply qc0 | apply qa0 | apply qd0) | exact HB.out)) hb); have n2_ := Aside0.mk (hbox); have n3_ := Aside0.mk ((by rw [hg]; exact (ql0 (by repeat (first | (with_reducible first | exact HB.out | apply qc0 | apply qa0 | apply qd0) | exact HB.out))) : w.heap.size ≤ gb278)); have n4_ := Aside0.mk ((by rw [hg]; exact (ql0 (by repeat (first | (with_reducible first | exact HB.out | apply qc0 | apply qa0 | apply qd0) | exact HB.out))) : w.heap.size ≤ gb278)); clear HO_12; clear HB; have HO_12 := n0_; have HB := n1_; have BK278 := n2_; have GW278 := n3_; have GE278 := n4_; clear n0_ n1_ n2_ n3_ n4_; clear hb hbox hg; have hcz42_0 : w41.cell? ⟨gb278, 0, none⟩ = some (.string (⟨#[]⟩ : ByteArray)) := (qh0 BK278.out 0).trans rfl; have hcz42_1 : w41.cell? ⟨gb278, 1, none⟩ = some (.int .i64 0) := (qh0 BK278.out 1).trans rfl; have hcz42_2 : w41.cell? ⟨gb278, 2, none⟩ = some (.int .i64 0) := (qh0 BK278.out 2).trans rfl; have hcz42_3 : w41.cell? ⟨gb278, 3, none⟩ = some (.int .i64 0) := (qh0 BK278.out 3).trans rfl; have hfz42_0 := qb0 BK278.out 0; have hfz42_1 := qb0 BK278.out 1; have hfz42_2 := qb0 BK278.out 2; have hfz42_3 := qb0 BK278.out 3)); try go_wp2_with (first | ((with_reducible refine qv0 (N := 14) rfl ?_); refine qb1 ?hg (N := 14) ?hd (cs := #[.string (⟨#[]⟩ : ByteArray), .int .i64 0, .int .i64 0, .int .i64 0]) (t := 127) ?hr ?_; (case hd => rfl); (case hg => rfl); (case hr => first | (go_simp; done) | (go_simp; rfl)); intro gb278 hg w41 hbox hb; have n0_ := Aside0.mk (Kd.qy0 (Kd.R_elderB (by (with_reducible repeat (first | apply Kd.qk0 | apply Kd.qj0 | apply Kd.qm0)); exact HO_12.out) gb278 (Nat.le_of_eq hg.symm)) hb); have n1_ := Aside0.mk (qo0 (by repeat (first | (with_reducible first | exact HB.out | apply qc0 | apply qa0 | apply qd0) | exact HB.out)) hb); have n2_ := Aside0.mk (hbox); have n3_ := Aside0.mk ((by rw [hg]; exact (ql0 (by repeat (first | (with_reducible first | exact HB.out | apply qc0 | apply qa0 | apply qd0) | exact HB.out))) : w.heap.size ≤ gb278)); have n4_ := Aside0.mk ((by rw [hg]; exact (ql0 (by repeat (first | (with_reducible first | exact HB.out | apply qc0 | apply qa0 | apply qd0) | exact HB.out))) : w.heap.size ≤ gb278)); clear HO_12; clear HB; have HO_12 := n0_; have HB := n1_; have BK278 := n2_; have GW278 := n3_; have GE278 := n4_; clear n0_ n1_ n2_ n3_ n4_; clear hb hbox hg; have hcz42_0 : w41.cell? ⟨gb278, 0, none⟩ = some (.string (⟨#[]⟩ : ByteArray)) := (qh0 BK278.out 0).trans rfl; have hcz42_1 : w41.cell? ⟨gb278, 1, none⟩ = some (.int .i64 0) := (qh0 BK278.out 1).trans rfl; have hcz42_2 : w41.cell? ⟨gb278, 2, none⟩ = some (.int .i64 0) := (qh0 BK278.out 2).trans rfl; have hcz42_3 : w41.cell? ⟨gb278, 3, none⟩ = some (.int .i64 0) := (qh0 BK278.out 3).trans rfl; have hfz42_0 := qb0 BK278.out 0; have hfz42_1 := qb0 BK278.out 1; have hfz42_2 := qb0 BK278.out 2; have hfz42_3 := qb0 BK278.out 3)))
        go_loopg [12, 15] k3 (fun kq v12 v15 w' => ∃ (x12_4 : List (S127)) (x15_4 : Int), v15 = .int .i64 x15_4 ∧ Aside0 (spec_QtyIn.l2 kq l0 a1 a3 x12_4 x13_3 x15_4 ((rd_T127 x12_3 x13_3).f0) ((rd_T127 x12_3 x13_3).f1) ((rd_T127 x12_3 x13_3).f2) ((rd_T127 x12_3 x13_3).f3) = some (r1, r2)) ∧ Aside0 (kq ≤ k3) ∧ Aside0 (Kd.R k127 127 w' w.heap.size (fun k_ => k_ ≠ gb278) v12 x12_4) ∧ Aside0 (w'.heap[gb278]? = some (.cells #[.string ((rd_T127 x12_3 x13_3).f0), .int .i64 ((rd_T127 x12_3 x13_3).f1), .int .i64 ((rd_T127 x12_3 x13_3).f2), .int .i64 ((rd_T127 x12_3 x13_3).f3)] 127 (0, 0))) ∧ Aside0 (Below w.heap.size w w'))
        case atStart => exact ⟨(x12_3), (0), (by first | rfl | (simp; done) | (simp [*]; done)), H', ⟨Nat.le_refl _⟩, ⟨by (with_reducible repeat (first | apply Kd.qk0 | apply Kd.qj0 | apply Kd.qm0)); exact Kd.qz0 (Kd.R_far (p := ⟨gb278, 3, none⟩) (Kd.R_far (p := ⟨gb278, 2, none⟩) (Kd.R_far (p := ⟨gb278, 1, none⟩) (Kd.R_far (p := ⟨gb278, 0, none⟩) (Kd.qz0 HO_12.out (fun k_ hk => (⟨hk, hk.2⟩ : _ ∧ k_ ≠ gb278))) (fun _ hk => hk.2) (.string ((rd_T127 x12_3 x13_3).f0))) (fun _ hk => hk.2) (.int .i64 ((rd_T127 x12_3 x13_3).f1))) (fun _ hk => hk.2) (.int .i64 ((rd_T127 x12_3 x13_3).f2))) (fun _ hk => hk.2) (.int .i64 ((rd_T127 x12_3 x13_3).f3))) (fun _ hk => hk.1.2)⟩, ⟨by (with_reducible repeat (first | refine qe0 ?_ _ | refine qg0 ?_ | refine qf0 ?_ _)); refine qp0 (cs := #[.string ((rd_T127 x12_3 x13_3).f0), .int .i64 ((rd_T127 x12_3 x13_3).f1), .int .i64 ((rd_T127 x12_3 x13_3).f2), .int .i64 0]) ?_ 3 _ rfl; (with_reducible repeat (first | refine qe0 ?_ _ | refine qg0 ?_ | refine qf0 ?_ _)); refine qp0 (cs := #[.string ((rd_T127 x12_3 x13_3).f0), .int .i64 ((rd_T127 x12_3 x13_3).f1), .int .i64 0, .int .i64 0]) ?_ 2 _ rfl; (with_reducible repeat (first | refine qe0 ?_ _ | refine qg0 ?_ | refine qf0 ?_ _)); refine qp0 (cs := #[.string ((rd_T127 x12_3 x13_3).f0), .int .i64 0, .int .i64 0, .int .i64 0]) ?_ 1 _ rfl; (with_reducible repeat (first | refine qe0 ?_ _ | refine qg0 ?_ | refine qf0 ?_ _)); refine qp0 (cs := #[.string (⟨#[]⟩ : ByteArray), .int .i64 0, .int .i64 0, .int .i64 0]) ?_ 0 _ rfl; (with_reducible repeat (first | refine qe0 ?_ _ | refine qg0 ?_ | refine qf0 ?_ _)); exact BK278.out⟩, ⟨by repeat (first | (with_reducible first | exact HB.out | apply qc0 | apply qa0 | apply qd0 | refine qi0 ?_ GE278.out) | exact HB.out)⟩⟩
        case round =>
         clear H'
         try clear c1
         try clear c2
         try clear p2
         try clear q2
         try clear hx2
         try clear c3
         try clear c4
         try clear c6
         try clear c6b0
         try clear c6b1
         try clear p6
         try clear c8
         try clear c10
         try clear c12
         try clear c13
         try clear c13b0
         try clear c14
         try clear c14b0
         try clear c16
         try clear c18
         try clear c19
         try clear c19b0
         try clear c19b1
         try clear c23
         try clear c25
         try clear p26
         try clear q26
         try clear hx26
         try clear p27
         try clear q27
         try clear hx27
         try clear c38
         try clear c38b0
         try clear c39
         try clear c39b0
         try clear hcz21_0
         try clear hcz21_1
         try clear hcz21_2
         try clear hcz21_3
         try clear hcz27_0
         try clear hcz27_1
         try clear hcz27_2
         try clear hcz27_3
         try clear hcz29_0
         try clear hcz29_1
         try clear hcz29_2
         try clear hcz29_3
         try clear hcz31_0
         try clear hcz31_1
         try clear hcz31_2
         try clear hcz31_3
         try clear hcz33_0
         try clear hcz33_1
         try clear hcz33_2
         try clear hcz33_3
         try clear hcz35_0
         try clear hcz35_1
         try clear hcz35_2
         try clear hcz35_3
         try clear hcz42_0
         try clear hcz42_1
         try clear hcz42_2
         try clear hcz42_3
         try clear hfz21_0
         try clear hfz21_1
         try clear hfz21_2
         try clear hfz21_3
         try clear hfz27_0
         try clear hfz27_1
         try clear hfz27_2
         try clear hfz27_3
         try clear hfz29_0
         try clear hfz29_1
         try clear hfz29_2
         try clear hfz29_3
         try clear hfz31_0
         try clear hfz31_1
         try clear hfz31_2
         try clear hfz31_3
         try clear hfz33_0
         try clear hfz33_1
         try clear hfz33_2
         try clear hfz33_3
         try clear hfz35_0
         try clear hfz35_1
         try clear hfz35_2
         try clear hfz35_3
         try clear hfz42_0
         try clear hfz42_1
         try clear hfz42_2
         try clear hfz42_3
         try clear hx268_0
         try clear hx268_1
         try clear hx268_2
         try clear hx268_3
         try clear hx277_0
         try clear hx277_1
         try clear hx277_2
         try clear hx277_3
         try clear p2
         try clear p26
         try clear p268
         try clear p277
         try clear p6
         try clear q2
         try clear q26
         try clear q268
         try clear q277
         obtain ⟨x12_4, x15_4, rfl, HA, HK4, HO_12, BK278, HB⟩ := hrel
         cases gk with
         | zero => exact absurd HA.out (by simp [spec_QtyIn.l2])
         | succ k4 =>
          have H := HA.out
          clear HA
          simp only [spec_QtyIn.l2] at H
          have HC43 := Aside0.mk H
          clear H
          go_upto_region 15 with (fail)
          repeat (go_quiet (fail); go_upto_region 15 with (fail))
          go_cut [99] (fun v99 wc => ∃ (kq : Nat) (x99_42 : Bool), v99 = .bool x99_42 ∧ Aside0 (spec_QtyIn.j4 kq l0 a1 a3 x12_4 x13_3 x15_4 x99_42 ((rd_T127 x12_3 x13_3).f0) ((rd_T127 x12_3 x13_3).f1) ((rd_T127 x12_3 x13_3).f2) ((rd_T127 x12_3 x13_3).f3) = some (r1, r2)) ∧ Aside0 (kq ≤ k4) ∧ Aside0 (Kd.R k127 127 wc w.heap.size (fun k_ => k_ ≠ gb278) u12 x12_4) ∧ Aside0 (wc.heap[gb278]? = some (.cells #[.string ((rd_T127 x12_3 x13_3).f0), .int .i64 ((rd_T127 x12_3 x13_3).f1), .int .i64 ((rd_T127 x12_3 x13_3).f2), .int .i64 ((rd_T127 x12_3 x13_3).f3)] 127 (0, 0))) ∧ Aside0 (Below w.heap.size w wc))
          case first =>
           have H := HC43.out
           clear HC43
           by_cases c44 : x15_4 < (l0.length : Int)
           ·rw [if_pos c44] at H
            have c44b0 : decide (x15_4 < (l0.length : Int)) = true := decide_eq_true c44
            clear c44
            (first | rw [c44b0] | (simp only [i64_w, i32_w]; rw [c44b0]) | skip)
            have H' := Aside0.mk H
            clear H
            have hcz45_0 : wr.cell? ⟨gb278, 0, none⟩ = some (.string ((rd_T127 x12_3 x13_3).f0)) := (qh0 BK278.out 0).trans rfl
            have hcz45_1 : wr.cell? ⟨gb278, 1, none⟩ = some (.int .i64 ((rd_T127 x12_3 x13_3).f1)) := (qh0 BK278.out 1).trans rfl
            have hcz45_2 : wr.cell? ⟨gb278, 2, none⟩ = some (.int .i64 ((rd_T127 x12_3 x13_3).f2)) := (qh0 BK278.out 2).trans rfl
            have hcz45_3 : wr.cell? ⟨gb278, 3, none⟩ = some (.int .i64 ((rd_T127 x12_3 x13_3).f3)) := (qh0 BK278.out 3).trans rfl
            have hfz45_0 := qb0 BK278.out 0
            have hfz45_1 := qb0 BK278.out 1
            have hfz45_2 := qb0 BK278.out 2
            have hfz45_3 := qb0 BK278.out 3
            go_wp2
            repeat (go_quiet (fail); try go_wp2)
            go_meet
            case rel => exact ⟨_, (decide (((rd_T127 x12_3 x13_3).f3) < 4)), (by first | rfl | (simp; done) | (simp [*]; done)), H', ⟨by have := HJ4.out; have := HK2.out; have := HK3.out; have := HK4.out; first | omega | exact Nat.le_refl _⟩, ⟨by (with_reducible repeat (first | apply Kd.qk0 | apply Kd.qj0 | apply Kd.qm0)); exact HO_12.out⟩, ⟨by (with_reducible repeat (first | refine qe0 ?_ _ | refine qg0 ?_ | refine qf0 ?_ _)); exact BK278.out⟩, ⟨by repeat (first | (with_reducible first | exact HB.out | apply qc0 | apply qa0 | apply qd0 | refine qi0 ?_ GE278.out) | exact HB.out)⟩⟩
           rw [if_neg c44] at H
           have c44b0 : decide (x15_4 < (l0.length : Int)) = false := decide_eq_false c44
           clear c44
           (first | rw [c44b0] | (simp only [i64_w, i32_w]; rw [c44b0]) | skip)
           have H' := Aside0.mk H
           clear H
           go_wp2
           repeat (go_quiet (fail); try go_wp2)
           go_meet
           case rel => exact ⟨_, (false), (by first | rfl | (simp; done) | (simp [*]; done)), H', ⟨by have := HJ4.out; have := HK2.out; have := HK3.out; have := HK4.out; first | omega | exact Nat.le_refl _⟩, ⟨by (with_reducible repeat (first | apply Kd.qk0 | apply Kd.qj0 | apply Kd.qm0)); exact HO_12.out⟩, ⟨by (with_reducible repeat (first | refine qe0 ?_ _ | refine qg0 ?_ | refine qf0 ?_ _)); exact BK278.out⟩, ⟨by repeat (first | (with_reducible first | exact HB.out | apply qc0 | apply qa0 | apply qd0 | refine qi0 ?_ GE278.out) | exact HB.out)⟩⟩
          case rest =>
           clear HC43
           try clear c1
           try clear c2
           try clear p2
           try clear q2
           try clear hx2
           try clear c3
           try clear c4
           try clear c6
           try clear c6b0
           try clear c6b1
           try clear p6
           try clear c8
           try clear c10
           try clear c12
           try clear c13
           try clear c13b0
           try clear c14
           try clear c14b0
           try clear c16
           try clear c18
           try clear c19
           try clear c19b0
           try clear c19b1
           try clear c23
           try clear c25
           try clear p26
           try clear q26
           try clear hx26
           try clear p27
           try clear q27
           try clear hx27
           try clear c38
           try clear c38b0
           try clear c39
           try clear c39b0
           try clear c44
           try clear c44b0
           try clear hcz21_0
           try clear hcz21_1
           try clear hcz21_2
           try clear hcz21_3
           try clear hcz27_0
           try clear hcz27_1
           try clear hcz27_2
           try clear hcz27_3
           try clear hcz29_0
           try clear hcz29_1
           try clear hcz29_2
           try clear hcz29_3
           try clear hcz31_0
           try clear hcz31_1
           try clear hcz31_2
           try clear hcz31_3
           try clear hcz33_0
           try clear hcz33_1
           try clear hcz33_2
           try clear hcz33_3
           try clear hcz35_0
           try clear hcz35_1
           try clear hcz35_2
           try clear hcz35_3
           try clear hcz42_0
           try clear hcz42_1
           try clear hcz42_2
           try clear hcz42_3
           try clear hcz45_0
           try clear hcz45_1
           try clear hcz45_2
           try clear hcz45_3
           try clear hfz21_0
           try clear hfz21_1
           try clear hfz21_2
           try clear hfz21_3
           try clear hfz27_0
           try clear hfz27_1
           try clear hfz27_2
           try clear hfz27_3
           try clear hfz29_0
           try clear hfz29_1
           try clear hfz29_2
           try clear hfz29_3
           try clear hfz31_0
           try clear hfz31_1
           try clear hfz31_2
           try clear hfz31_3
           try clear hfz33_0
           try clear hfz33_1
           try clear hfz33_2
           try clear hfz33_3
           try clear hfz35_0
           try clear hfz35_1
           try clear hfz35_2
           try clear hfz35_3
           try clear hfz42_0
           try clear hfz42_1
           try clear hfz42_2
           try clear hfz42_3
           try clear hfz45_0
           try clear hfz45_1
           try clear hfz45_2
           try clear hfz45_3
           try clear hx268_0
           try clear hx268_1
           try clear hx268_2
           try clear hx268_3
           try clear hx277_0
           try clear hx277_1
           try clear hx277_2
           try clear hx277_3
           try clear p2
           try clear p26
           try clear p268
           try clear p27
           try clear p277
           try clear p6
           try clear q2
           try clear q26
           try clear q268
           try clear q27
           try clear q277
           obtain ⟨kq, x99_42, rfl, HA, HJ42, HO_12, BK278, HB⟩ := hcut
           cases kq with
           | zero => exact absurd HA.out (by simp [spec_QtyIn.j4])
           | succ kj42 =>
            have H := HA.out
            clear HA
            simp only [spec_QtyIn.j4] at H
            by_cases c46 : x99_42 = true
            ·subst c46
             have H1 : (if 0 ≤ x15_4 then (if x15_4 < (l0.length : Int) then (if ((rd_T127 x12_3 x13_3).f0).toList = ((rd_T35 l0 x15_4).f0).toList then (spec_QtyIn.j5 kj42 l0 a1 a3 x12_4 x13_3 x15_4 ((rd_T127 x12_3 x13_3).f0) ((rd_T127 x12_3 x13_3).f1) ((rd_T127 x12_3 x13_3).f2) ((rd_T127 x12_3 x13_3).f3) ((rd_T35 l0 x15_4).f1) (wrap64 (((rd_T127 x12_3 x13_3).f1) * ((rd_T35 l0 x15_4).f2))) (wrap64 (((rd_T127 x12_3 x13_3).f2) * ((rd_T35 l0 x15_4).f3))) (wrap64 (((rd_T127 x12_3 x13_3).f3) + 1))) else (if ((rd_T127 x12_3 x13_3).f0).toList = ((rd_T35 l0 x15_4).f1).toList then (spec_QtyIn.j5 kj42 l0 a1 a3 x12_4 x13_3 x15_4 ((rd_T127 x12_3 x13_3).f0) ((rd_T127 x12_3 x13_3).f1) ((rd_T127 x12_3 x13_3).f2) ((rd_T127 x12_3 x13_3).f3) ((rd_T35 l0 x15_4).f0) (wrap64 (((rd_T127 x12_3 x13_3).f1) * ((rd_T35 l0 x15_4).f3))) (wrap64 (((rd_T127 x12_3 x13_3).f2) * ((rd_T35 l0 x15_4).f2))) (wrap64 (((rd_T127 x12_3 x13_3).f3) + 1))) else (spec_QtyIn.l2 kj42 l0 a1 a3 x12_4 x13_3 (wrap64 (x15_4 + 1)) ((rd_T127 x12_3 x13_3).f0) ((rd_T127 x12_3 x13_3).f1) ((rd_T127 x12_3 x13_3).f2) ((rd_T127 x12_3 x13_3).f3)))) else (none)) else (none)) = some (r1, r2) := by rw [if_pos rfl] at H; exact H
             clear H
             have H := H1
             clear H1
             by_cases c47 : 0 ≤ x15_4
             case neg => rw [if_neg c47] at H; exact absurd H (by simp)
             rw [if_pos c47] at H
             have c47b0 : decide (0 ≤ x15_4) = true := decide_eq_true c47
             clear c47
             by_cases c48 : x15_4 < (l0.length : Int)
             case neg => rw [if_neg c48] at H; exact absurd H (by simp)
             rw [if_pos c48] at H
             have c48b0 : decide (x15_4 < (l0.length : Int)) = true := decide_eq_true c48
             clear c48
             have HC49 := Aside0.mk H
             clear H
             have p279 : 0 ≤ (x15_4 : Int) := of_decide_eq_true (by first | (with_reducible assumption) | assumption)
             have q279 : x15_4 < (l0.length : Int) := of_decide_eq_true (by first | (with_reducible assumption) | assumption)
             obtain ⟨ad279, e279, hx279_0, hx279_1, hx279_2, hx279_3⟩ := at_T35 HR0.out x15_4 p279 q279
             cases e279
             replace hx279_0 := (HB.out.cell (World.block_lt_of_cell? w _ hx279_0)).trans hx279_0
             replace hx279_1 := (HB.out.cell (World.block_lt_of_cell? w _ hx279_1)).trans hx279_1
             replace hx279_2 := (HB.out.cell (World.block_lt_of_cell? w _ hx279_2)).trans hx279_2
             replace hx279_3 := (HB.out.cell (World.block_lt_of_cell? w _ hx279_3)).trans hx279_3
             replace p279 := eq_true p279
             replace q279 := eq_true q279
             go_upto_block 6 with (first | ((with_reducible refine qv0 (N := 16) rfl ?_); refine qb1 ?hg (N := 16) ?hd (cs := #[.string (⟨#[]⟩ : ByteArray), .string (⟨#[]⟩ : ByteArray), .int .i64 0, .int .i64 0]) (t := 35) ?hr ?_; (case hd => rfl); (case hg => rfl); (case hr => first | (go_simp; done) | (go_simp; rfl)); intro gb280 hg w50 hbox hb; have n0_ := Aside0.mk (Kd.qy0 (by (with_reducible repeat (first | apply Kd.qk0 | apply Kd.qj0 | apply Kd.qm0)); exact HO_12.out) hb); have n1_ := Aside0.mk (qa1 (g := gb278) (o := .cells #[.string ((rd_T127 x12_3 x13_3).f0), .int .i64 ((rd_T127 x12_3 x13_3).f1), .int .i64 ((rd_T127 x12_3 x13_3).f2), .int .i64 ((rd_T127 x12_3 x13_3).f3)] 127 (0, 0)) (by (with_reducible repeat (first | refine qe0 ?_ _ | refine qg0 ?_ | refine qf0 ?_ _)); exact BK278.out) hb); have n2_ := Aside0.mk (qo0 (by repeat (first | (with_reducible first | exact HB.out | apply qc0 | apply qa0 | apply qd0 | refine qi0 ?_ GE278.out) | exact HB.out)) hb); have n3_ := Aside0.mk (hbox); have n4_ := Aside0.mk ((by rw [hg]; exact (ql0 (by repeat (first | (with_reducible first | exact HB.out | apply qc0 | apply qa0 | apply qd0 | refine qi0 ?_ GE278.out) | exact HB.out))) : w.heap.size ≤ gb280)); have n5_ := Aside0.mk ((by rw [hg]; exact (ql0 (by repeat (first | (with_reducible first | exact HB.out | apply qc0 | apply qa0 | apply qd0 | refine qi0 ?_ GE278.out) | exact HB.out))) : w.heap.size ≤ gb280)); have n6_ := Aside0.mk ((by rw [hg]; exact Nat.ne_of_lt (qt1 (g := gb278) (o := .cells #[.string ((rd_T127 x12_3 x13_3).f0), .int .i64 ((rd_T127 x12_3 x13_3).f1), .int .i64 ((rd_T127 x12_3 x13_3).f2), .int .i64 ((rd_T127 x12_3 x13_3).f3)] 127 (0, 0)) (by (with_reducible repeat (first | refine qe0 ?_ _ | refine qg0 ?_ | refine qf0 ?_ _)); exact BK278.out)) : gb278 ≠ gb280)); have n7_ := Aside0.mk ((by rw [hg]; exact Nat.ne_of_gt (qt1 (g := gb278) (o := .cells #[.string ((rd_T127 x12_3 x13_3).f0), .int .i64 ((rd_T127 x12_3 x13_3).f1), .int .i64 ((rd_T127 x12_3 x13_3).f2), .int .i64 ((rd_T127 x12_3 x13_3).f3)] 127 (0, 0)) (by (with_reducible repeat (first | refine qe0 ?_ _ | refine qg0 ?_ | refine qf0 ?_ _)); exact BK278.out)) : gb280 ≠ gb278)); clear HO_12; clear BK278; clear HB; have HO_12 := n0_; have BK278 := n1_; have HB := n2_; have BK280 := n3_; have GW280 := n4_; have GE280 := n5_; have NB278_280 := n6_; have NB280_278 := n7_; clear n0_ n1_ n2_ n3_ n4_ n5_ n6_ n7_; clear hb hbox hg; have hnb51 := NB280_278.out; have hnc51 := NB278_280.out; have hcz52_0 : w50.cell? ⟨gb280, 0, none⟩ = some (.string (⟨#[]⟩ : ByteArray)) := (qh0 BK280.out 0).trans rfl; have hcz52_1 : w50.cell? ⟨gb280, 1, none⟩ = some (.string (⟨#[]⟩ : ByteArray)) := (qh0 BK280.out 1).trans rfl; have hcz52_2 : w50.cell? ⟨gb280, 2, none⟩ = some (.int .i64 0) := (qh0 BK280.out 2).trans rfl; have hcz52_3 : w50.cell? ⟨gb280, 3, none⟩ = some (.int .i64 0) := (qh0 BK280.out 3).trans rfl; have hfz52_0 := qb0 BK280.out 0; have hfz52_1 := qb0 BK280.out 1; have hfz52_2 := qb0 BK280.out 2; have hfz52_3 := qb0 BK280.out 3; have hcz53_0 : w50.cell? ⟨gb278, 0, none⟩ = some (.string ((rd_T127 x12_3 x13_3).f0)) := (qh0 BK278.out 0).trans rfl; have hcz53_1 : w50.cell? ⟨gb278, 1, none⟩ = some (.int .i64 ((rd_T127 x12_3 x13_3).f1)) := (qh0 BK278.out 1).trans rfl; have hcz53_2 : w50.cell? ⟨gb278, 2, none⟩ = some (.int .i64 ((rd_T127 x12_3 x13_3).f2)) := (qh0 BK278.out 2).trans rfl; have hcz53_3 : w50.cell? ⟨gb278, 3, none⟩ = some (.int .i64 ((rd_T127 x12_3 x13_3).f3)) := (qh0 BK278.out 3).trans rfl; have hfz53_0 := qb0 BK278.out 0; have hfz53_1 := qb0 BK278.out 1; have hfz53_2 := qb0 BK278.out 2; have hfz53_3 := qb0 BK278.out 3) | ((with_reducible refine qv0 (N := 17) rfl ?_); refine qb1 ?hg (N := 17) ?hd (cs := #[.string (⟨#[]⟩ : ByteArray), .int .i64 0, .int .i64 0, .int .i64 0]) (t := 127) ?hr ?_; (case hd => rfl); (case hg => rfl); (case hr => first | (go_simp; done) | (go_simp; rfl)); intro gb281 hg w54 hbox hb; have n0_ := Aside0.mk (Kd.qy0 (Kd.R_elderB (by (with_reducible repeat (first | apply Kd.qk0 | apply Kd.qj0 | apply Kd.qm0)); exact (Kd.qz0 (Kd.R_far (p := ⟨gb280, 3, none⟩) (Kd.R_far (p := ⟨gb280, 2, none⟩) (Kd.R_far (p := ⟨gb280, 1, none⟩) (Kd.R_far (p := ⟨gb280, 0, none⟩) (Kd.R_types HO_12.out BK280.out (by decide)) (fun _ hk => hk.2) (.string ((rd_T35 l0 x15_4).f0))) (fun _ hk => hk.2) (.string ((rd_T35 l0 x15_4).f1))) (fun _ hk => hk.2) (.int .i64 ((rd_T35 l0 x15_4).f2))) (fun _ hk => hk.2) (.int .i64 ((rd_T35 l0 x15_4).f3))) (fun _ h_ => h_.1))) gb281 (Nat.le_of_eq hg.symm)) hb); have n1_ := Aside0.mk (qa1 (g := gb278) (o := .cells #[.string ((rd_T127 x12_3 x13_3).f0), .int .i64 ((rd_T127 x12_3 x13_3).f1), .int .i64 ((rd_T127 x12_3 x13_3).f2), .int .i64 ((rd_T127 x12_3 x13_3).f3)] 127 (0, 0)) (by (with_reducible repeat (first | refine qe0 ?_ _ | refine qg0 ?_ | refine qf0 ?_ _)); refine qu0 ?_ NB278_280.out _; (with_reducible repeat (first | refine qe0 ?_ _ | refine qg0 ?_ | refine qf0 ?_ _)); refine qu0 ?_ NB278_280.out _; (with_reducible repeat (first | refine qe0 ?_ _ | refine qg0 ?_ | refine qf0 ?_ _)); refine qu0 ?_ NB278_280.out _; (with_reducible repeat (first | refine qe0 ?_ _ | refine qg0 ?_ | refine qf0 ?_ _)); refine qu0 ?_ NB278_280.out _; (with_reducible repeat (first | refine qe0 ?_ _ | refine qg0 ?_ | refine qf0 ?_ _)); exact BK278.out) hb); have n2_ := Aside0.mk (qa1 (g := gb280) (o := .cells #[.string ((rd_T35 l0 x15_4).f0), .string ((rd_T35 l0 x15_4).f1), .int .i64 ((rd_T35 l0 x15_4).f2), .int .i64 ((rd_T35 l0 x15_4).f3)] 35 (0, 0)) (by (with_reducible repeat (first | refine qe0 ?_ _ | refine qg0 ?_ | refine qf0 ?_ _)); refine qp0 (cs := #[.string ((rd_T35 l0 x15_4).f0), .string ((rd_T35 l0 x15_4).f1), .int .i64 ((rd_T35 l0 x15_4).f2), .int .i64 0]) ?_ 3 _ rfl; (with_reducible repeat (first | refine qe0 ?_ _ | refine qg0 ?_ | refine qf0 ?_ _)); refine qp0 (cs := #[.string ((rd_T35 l0 x15_4).f0), .string ((rd_T35 l0 x15_4).f1), .int .i64 0, .int .i64 0]) ?_ 2 _ rfl; (with_reducible repeat (first | refine qe0 ?_ _ | refine qg0 ?_ | refine qf0 ?_ _)); refine qp0 (cs := #[.string ((rd_T35 l0 x15_4).f0), .string (⟨#[]⟩ : ByteArray), .int .i64 0, .int .i64 0]) ?_ 1 _ rfl; (with_reducible repeat (first | refine qe0 ?_ _ | refine qg0 ?_ | refine qf0 ?_ _)); refine qp0 (cs := #[.string (⟨#[]⟩ : ByteArray), .string (⟨#[]⟩ : ByteArray), .int .i64 0, .int .i64 0]) ?_ 0 _ rfl; (with_reducible repeat (first | refine qe0 ?_ _ | refine qg0 ?_ | refine qf0 ?_ _)); exact BK280.out) hb); have n3_ := Aside0.mk (qo0 (by repeat (first | (with_reducible first | exact HB.out | apply qc0 | apply qa0 | apply qd0 | refine qi0 ?_ GE278.out | refine qi0 ?_ GE280.out) | exact HB.out)) hb); have n4_ := Aside0.mk (hbox); have n5_ := Aside0.mk ((by rw [hg]; exact (ql0 (by repeat (first | (with_reducible first | exact HB.out | apply qc0 | apply qa0 | apply qd0 | refine qi0 ?_ GE278.out | refine qi0 ?_ GE280.out) | exact HB.out))) : w.heap.size ≤ gb281)); have n6_ := Aside0.mk ((by rw [hg]; exact (ql0 (by repeat (first | (with_reducible first | exact HB.out | apply qc0 | apply qa0 | apply qd0 | refine qi0 ?_ GE278.out | refine qi0 ?_ GE280.out) | exact HB.out))) : w.heap.size ≤ gb281)); have n7_ := Aside0.mk ((by rw [hg]; exact Nat.ne_of_lt (qt1 (g := gb278) (o := .cells #[.string ((rd_T127 x12_3 x13_3).f0), .int .i64 ((rd_T127 x12_3 x13_3).f1), .int .i64 ((rd_T127 x12_3 x13_3).f2), .int .i64 ((rd_T127 x12_3 x13_3).f3)] 127 (0, 0)) (by (with_reducible repeat (first | refine qe0 ?_ _ | refine qg0 ?_ | refine qf0 ?_ _)); refine qu0 ?_ NB278_280.out _; (with_reducible repeat (first | refine qe0 ?_ _ | refine qg0 ?_ | refine qf0 ?_ _)); refine qu0 ?_ NB278_280.out _; (with_reducible repeat (first | refine qe0 ?_ _ | refine qg0 ?_ | refine qf0 ?_ _)); refine qu0 ?_ NB278_280.out _; (with_reducible repeat (first | refine qe0 ?_ _ | refine qg0 ?_ | refine qf0 ?_ _)); refine qu0 ?_ NB278_280.out _; (with_reducible repeat (first | refine qe0 ?_ _ | refine qg0 ?_ | refine qf0 ?_ _)); exact BK278.out)) : gb278 ≠ gb281)); have n8_ := Aside0.mk ((by rw [hg]; exact Nat.ne_of_gt (qt1 (g := gb278) (o := .cells #[.string ((rd_T127 x12_3 x13_3).f0), .int .i64 ((rd_T127 x12_3 x13_3).f1), .int .i64 ((rd_T127 x12_3 x13_3).f2), .int .i64 ((rd_T127 x12_3 x13_3).f3)] 127 (0, 0)) (by (with_reducible repeat (first | refine qe0 ?_ _ | refine qg0 ?_ | refine qf0 ?_ _)); refine qu0 ?_ NB278_280.out _; (with_reducible repeat (first | refine qe0 ?_ _ | refine qg0 ?_ | refine qf0 ?_ _)); refine qu0 ?_ NB278_280.out _; (with_reducible repeat (first | refine qe0 ?_ _ | refine qg0 ?_ | refine qf0 ?_ _)); refine qu0 ?_ NB278_280.out _; (with_reducible repeat (first | refine qe0 ?_ _ | refine qg0 ?_ | refine qf0 ?_ _)); refine qu0 ?_ NB278_280.out _; (with_reducible repeat (first | refine qe0 ?_ _ | refine qg0 ?_ | refine qf0 ?_ _)); exact BK278.out)) : gb281 ≠ gb278)); have n9_ := Aside0.mk ((by rw [hg]; exact Nat.ne_of_lt (qt1 (g := gb280) (o := .cells #[.string ((rd_T35 l0 x15_4).f0), .string ((rd_T35 l0 x15_4).f1), .int .i64 ((rd_T35 l0 x15_4).f2), .int .i64 ((rd_T35 l0 x15_4).f3)] 35 (0, 0)) (by (with_reducible repeat (first | refine qe0 ?_ _ | refine qg0 ?_ | refine qf0 ?_ _)); refine qp0 (cs := #[.string ((rd_T35 l0 x15_4).f0), .string ((rd_T35 l0 x15_4).f1), .int .i64 ((rd_T35 l0 x15_4).f2), .int .i64 0]) ?_ 3 _ rfl; (with_reducible repeat (first | refine qe0 ?_ _ | refine qg0 ?_ | refine qf0 ?_ _)); refine qp0 (cs := #[.string ((rd_T35 l0 x15_4).f0), .string ((rd_T35 l0 x15_4).f1), .int .i64 0, .int .i64 0]) ?_ 2 _ rfl; (with_reducible repeat (first | refine qe0 ?_ _ | refine qg0 ?_ | refine qf0 ?_ _)); refine qp0 (cs := #[.string ((rd_T35 l0 x15_4).f0), .string (⟨#[]⟩ : ByteArray), .int .i64 0, .int .i64 0]) ?_ 1 _ rfl; (with_reducible repeat (first | refine qe0 ?_ _ | refine qg0 ?_ | refine qf0 ?_ _)); refine qp0 (cs := #[.string (⟨#[]⟩ : ByteArray), .string (⟨#[]⟩ : ByteArray), .int .i64 0, .int .i64 0]) ?_ 0 _ rfl; (with_reducible repeat (first | refine qe0 ?_ _ | refine qg0 ?_ | refine qf0 ?_ _)); exact BK280.out)) : gb280 ≠ gb281)); have n10_ := Aside0.mk ((by rw [hg]; exact Nat.ne_of_gt (qt1 (g := gb280) (o := .cells #[.string ((rd_T35 l0 x15_4).f0), .string ((rd_T35 l0 x15_4).f1), .int .i64 ((rd_T35 l0 x15_4).f2), .int .i64 ((rd_T35 l0 x15_4).f3)] 35 (0, 0)) (by (with_reducible repeat (first | refine qe0 ?_ _ | refine qg0 ?_ | refine qf0 ?_ _)); refine qp0 (cs := #[.string ((rd_T35 l0 x15_4).f0), .string ((rd_T35 l0 x15_4).f1), .int .i64 ((rd_T35 l0 x15_4).f2), .int .i64 0]) ?_ 3 _ rfl; (with_reducible repeat (first | refine qe0 ?_ _ | refine qg0 ?_ | refine qf0 ?_ _)); refine qp0 (cs := #[.string ((rd_T35 l0 x15_4).f0), .string ((rd_T35 l0 x15_4).f1), .int .i64 0, .int .i64 0]) ?_ 2 _ rfl; (with_reducible repeat (first | refine qe0 ?_ _ | refine qg0 ?_ | refine qf0 ?_ _)); refine qp0 (cs := #[.string ((rd_T35 l0 x15_4).f0), .string (⟨#[]⟩ : ByteArray), .int .i64 0, .int .i64 0]) ?_ 1 _ rfl; (with_reducible repeat (first | refine qe0 ?_ _ | refine qg0 ?_ | refine qf0 ?_ _)); refine qp0 (cs := #[.string (⟨#[]⟩ : ByteArray), .string (⟨#[]⟩ : ByteArray), .int .i64 0, .int .i64 0]) ?_ 0 _ rfl; (with_reducible repeat (first | refine qe0 ?_ _ | refine qg0 ?_ | refine qf0 ?_ _)); exact BK280.out)) : gb281 ≠ gb280)); clear HO_12; clear BK278; clear BK280; clear HB; have HO_12 := n0_; have BK278 := n1_; have BK280 := n2_; have HB := n3_; have BK281 := n4_; have GW281 := n5_; have GE281 := n6_; have NB278_281 := n7_; have NB281_278 := n8_; have NB280_281 := n9_; have NB281_280 := n10_; clear n0_ n1_ n2_ n3_ n4_ n5_ n6_ n7_ n8_ n9_ n10_; clear hb hbox hg; have hnb55 := NB281_278.out; have hnc55 := NB278_281.out; have hnb56 := NB281_280.out; have hnc56 := NB280_281.out; have hcz57_0 : w54.cell? ⟨gb281, 0, none⟩ = some (.string (⟨#[]⟩ : ByteArray)) := (qh0 BK281.out 0).trans rfl; have hcz57_1 : w54.cell? ⟨gb281, 1, none⟩ = some (.int .i64 0) := (qh0 BK281.out 1).trans rfl; have hcz57_2 : w54.cell? ⟨gb281, 2, none⟩ = some (.int .i64 0) := (qh0 BK281.out 2).trans rfl; have hcz57_3 : w54.cell? ⟨gb281, 3, none⟩ = some (.int .i64 0) := (qh0 BK281.out 3).trans rfl; have hfz57_0 := qb0 BK281.out 0; have hfz57_1 := qb0 BK281.out 1; have hfz57_2 := qb0 BK281.out 2; have hfz57_3 := qb0 BK281.out 3; have hcz58_0 : w54.cell? ⟨gb278, 0, none⟩ = some (.string ((rd_T127 x12_3 x13_3).f0)) := (qh0 BK278.out 0).trans rfl; have hcz58_1 : w54.cell? ⟨gb278, 1, none⟩ = some (.int .i64 ((rd_T127 x12_3 x13_3).f1)) := (qh0 BK278.out 1).trans rfl; have hcz58_2 : w54.cell? ⟨gb278, 2, none⟩ = some (.int .i64 ((rd_T127 x12_3 x13_3).f2)) := (qh0 BK278.out 2).trans rfl; have hcz58_3 : w54.cell? ⟨gb278, 3, none⟩ = some (.int .i64 ((rd_T127 x12_3 x13_3).f3)) := (qh0 BK278.out 3).trans rfl; have hfz58_0 := qb0 BK278.out 0; have hfz58_1 := qb0 BK278.out 1; have hfz58_2 := qb0 BK278.out 2; have hfz58_3 := qb0 BK278.out 3))
             repeat (go_quiet (first | ((with_reducible refine qv0 (N := 16) rfl ?_); refine qb1 ?hg (N := 16) ?hd (cs := #[.string (⟨#[]⟩ : ByteArray), .string (⟨#[]⟩ : ByteArray), .int .i64 0, .int .i64 0]) (t := 35) ?hr ?_; (case hd => rfl); (case hg => rfl); (case hr => first | (go_simp; done) | (go_simp; rfl)); intro gb280 hg w50 hbox hb; have n0_ := Aside0.mk (Kd.qy0 (by (with_reducible repeat (first | apply Kd.qk0 | apply Kd.qj0 | apply Kd.qm0)); exact HO_12.out) hb); have n1_ := Aside0.mk (qa1 (g := gb278) (o := .cells #[.string ((rd_T127 x12_3 x13_3).f0), .int .i64 ((rd_T127 x12_3 x13_3).f1), .int .i64 ((rd_T127 x12_3 x13_3).f2), .int .i64 ((rd_T127 x12_3 x13_3).f3)] 127 (0, 0)) (by (with_reducible repeat (first | refine qe0 ?_ _ | refine qg0 ?_ | refine qf0 ?_ _)); exact BK278.out) hb); have n2_ := Aside0.mk (qo0 (by repeat (first | (with_reducible first | exact HB.out | apply qc0 | apply qa0 | apply qd0 | refine qi0 ?_ GE278.out) | exact HB.out)) hb); have n3_ := Aside0.mk (hbox); have n4_ := Aside0.mk ((by rw [hg]; exact (ql0 (by repeat (first | (with_reducible first | exact HB.out | apply qc0 | apply qa0 | apply qd0 | refine qi0 ?_ GE278.out) | exact HB.out))) : w.heap.size ≤ gb280)); have n5_ := Aside0.mk ((by rw [hg]; exact (ql0 (by repeat (first | (with_reducible first | exact HB.out | apply qc0 | apply qa0 | apply qd0 | refine qi0 ?_ GE278.out) | exact HB.out))) : w.heap.size ≤ gb280)); have n6_ := Aside0.mk ((by rw [hg]; exact Nat.ne_of_lt (qt1 (g := gb278) (o := .cells #[.string ((rd_T127 x12_3 x13_3).f0), .int .i64 ((rd_T127 x12_3 x13_3).f1), .int .i64 ((rd_T127 x12_3 x13_3).f2), .int .i64 ((rd_T127 x12_3 x13_3).f3)] 127 (0, 0)) (by (with_reducible repeat (first | refine qe0 ?_ _ | refine qg0 ?_ | refine qf0 ?_ _)); exact BK278.out)) : gb278 ≠ gb280)); have n7_ := Aside0.mk ((by rw [hg]; exact Nat.ne_of_gt (qt1 (g := gb278) (o := .cells #[.string ((rd_T127 x12_3 x13_3).f0), .int .i64 ((rd_T127 x12_3 x13_3).f1), .int .i64 ((rd_T127 x12_3 x13_3).f2), .int .i64 ((rd_T127 x12_3 x13_3).f3)] 127 (0, 0)) (by (with_reducible repeat (first | refine qe0 ?_ _ | refine qg0 ?_ | refine qf0 ?_ _)); exact BK278.out)) : gb280 ≠ gb278)); clear HO_12; clear BK278; clear HB; have HO_12 := n0_; have BK278 := n1_; have HB := n2_; have BK280 := n3_; have GW280 := n4_; have GE280 := n5_; have NB278_280 := n6_; have NB280_278 := n7_; clear n0_ n1_ n2_ n3_ n4_ n5_ n6_ n7_; clear hb hbox hg; have hnb51 := NB280_278.out; have hnc51 := NB278_280.out; have hcz52_0 : w50.cell? ⟨gb280, 0, none⟩ = some (.string (⟨#[]⟩ : ByteArray)) := (qh0 BK280.out 0).trans rfl; have hcz52_1 : w50.cell? ⟨gb280, 1, none⟩ = some (.string (⟨#[]⟩ : ByteArray)) := (qh0 BK280.out 1).trans rfl; have hcz52_2 : w50.cell? ⟨gb280, 2, none⟩ = some (.int .i64 0) := (qh0 BK280.out 2).trans rfl; have hcz52_3 : w50.cell? ⟨gb280, 3, none⟩ = some (.int .i64 0) := (qh0 BK280.out 3).trans rfl; have hfz52_0 := qb0 BK280.out 0; have hfz52_1 := qb0 BK280.out 1; have hfz52_2 := qb0 BK280.out 2; have hfz52_3 := qb0 BK280.out 3; have hcz53_0 : w50.cell? ⟨gb278, 0, none⟩ = some (.string ((rd_T127 x12_3 x13_3).f0)) := (qh0 BK278.out 0).trans rfl; have hcz53_1 : w50.cell? ⟨gb278, 1, none⟩ = some (.int .i64 ((rd_T127 x12_3 x13_3).f1)) := (qh0 BK278.out 1).trans rfl; have hcz53_2 : w50.cell? ⟨gb278, 2, none⟩ = some (.int .i64 ((rd_T127 x12_3 x13_3).f2)) := (qh0 BK278.out 2).trans rfl; have hcz53_3 : w50.cell? ⟨gb278, 3, none⟩ = some (.int .i64 ((rd_T127 x12_3 x13_3).f3)) := (qh0 BK278.out 3).trans rfl; have hfz53_0 := qb0 BK278.out 0; have hfz53_1 := qb0 BK278.out 1; have hfz53_2 := qb0 BK278.out 2; have hfz53_3 := qb0 BK278.out 3) | ((with_reducible refine qv0 (N := 17) rfl ?_); refine qb1 ?hg (N := 17) ?hd (cs := #[.string (⟨#[]⟩ : ByteArray), .int .i64 0, .int .i64 0, .int .i64 0]) (t := 127) ?hr ?_; (case hd => rfl); (case hg => rfl); (case hr => first | (go_simp; done) | (go_simp; rfl)); intro gb281 hg w54 hbox hb; have n0_ := Aside0.mk (Kd.qy0 (Kd.R_elderB (by (with_reducible repeat (first | apply Kd.qk0 | apply Kd.qj0 | apply Kd.qm0)); exact (Kd.qz0 (Kd.R_far (p := ⟨gb280, 3, none⟩) (Kd.R_far (p := ⟨gb280, 2, none⟩) (Kd.R_far (p := ⟨gb280, 1, none⟩) (Kd.R_far (p := ⟨gb280, 0, none⟩) (Kd.R_types HO_12.out BK280.out (by decide)) (fun _ hk => hk.2) (.string ((rd_T35 l0 x15_4).f0))) (fun _ hk => hk.2) (.string ((rd_T35 l0 x15_4).f1))) (fun _ hk => hk.2) (.int .i64 ((rd_T35 l0 x15_4).f2))) (fun _ hk => hk.2) (.int .i64 ((rd_T35 l0 x15_4).f3))) (fun _ h_ => h_.1))) gb281 (Nat.le_of_eq hg.symm)) hb); have n1_ := Aside0.mk (qa1 (g := gb278) (o := .cells #[.string ((rd_T127 x12_3 x13_3).f0), .int .i64 ((rd_T127 x12_3 x13_3).f1), .int .i64 ((rd_T127 x12_3 x13_3).f2), .int .i64 ((rd_T127 x12_3 x13_3).f3)] 127 (0, 0)) (by (with_reducible repeat (first | refine qe0 ?_ _ | refine qg0 ?_ | refine qf0 ?_ _)); refine qu0 ?_ NB278_280.out _; (with_reducible repeat (first | refine qe0 ?_ _ | refine qg0 ?_ | refine qf0 ?_ _)); refine qu0 ?_ NB278_280.out _; (with_reducible repeat (first | refine qe0 ?_ _ | refine qg0 ?_ | refine qf0 ?_ _)); refine qu0 ?_ NB278_280.out _; (with_reducible repeat (first | refine qe0 ?_ _ | refine qg0 ?_ | refine qf0 ?_ _)); refine qu0 ?_ NB278_280.out _; (with_reducible repeat (first | refine qe0 ?_ _ | refine qg0 ?_ | refine qf0 ?_ _)); exact BK278.out) hb); have n2_ := Aside0.mk (qa1 (g := gb280) (o := .cells #[.string ((rd_T35 l0 x15_4).f0), .string ((rd_T35 l0 x15_4).f1), .int .i64 ((rd_T35 l0 x15_4).f2), .int .i64 ((rd_T35 l0 x15_4).f3)] 35 (0, 0)) (by (with_reducible repeat (first | refine qe0 ?_ _ | refine qg0 ?_ | refine qf0 ?_ _)); refine qp0 (cs := #[.string ((rd_T35 l0 x15_4).f0), .string ((rd_T35 l0 x15_4).f1), .int .i64 ((rd_T35 l0 x15_4).f2), .int .i64 0]) ?_ 3 _ rfl; (with_reducible repeat (first | refine qe0 ?_ _ | refine qg0 ?_ | refine qf0 ?_ _)); refine qp0 (cs := #[.string ((rd_T35 l0 x15_4).f0), .string ((rd_T35 l0 x15_4).f1), .int .i64 0, .int .i64 0]) ?_ 2 _ rfl; (with_reducible repeat (first | refine qe0 ?_ _ | refine qg0 ?_ | refine qf0 ?_ _)); refine qp0 (cs := #[.string ((rd_T35 l0 x15_4).f0), .string (⟨#[]⟩ : ByteArray), .int .i64 0, .int .i64 0]) ?_ 1 _ rfl; (with_reducible repeat (first | refine qe0 ?_ _ | refine qg0 ?_ | refine qf0 ?_ _)); refine qp0 (cs := #[.string (⟨#[]⟩ : ByteArray), .string (⟨#[]⟩ : ByteArray), .int .i64 0, .int .i64 0]) ?_ 0 _ rfl; (with_reducible repeat (first | refine qe0 ?_ _ | refine qg0 ?_ | refine qf0 ?_ _)); exact BK280.out) hb); have n3_ := Aside0.mk (qo0 (by repeat (first | (with_reducible first | exact HB.out | apply qc0 | apply qa0 | apply qd0 | refine qi0 ?_ GE278.out | refine qi0 ?_ GE280.out) | exact HB.out)) hb); have n4_ := Aside0.mk (hbox); have n5_ := Aside0.mk ((by rw [hg]; exact (ql0 (by repeat (first | (with_reducible first | exact HB.out | apply qc0 | apply qa0 | apply qd0 | refine qi0 ?_ GE278.out | refine qi0 ?_ GE280.out) | exact HB.out))) : w.heap.size ≤ gb281)); have n6_ := Aside0.mk ((by rw [hg]; exact (ql0 (by repeat (first | (with_reducible first | exact HB.out | apply qc0 | apply qa0 | apply qd0 | refine qi0 ?_ GE278.out | refine qi0 ?_ GE280.out) | exact HB.out))) : w.heap.size ≤ gb281)); have n7_ := Aside0.mk ((by rw [hg]; exact Nat.ne_of_lt (qt1 (g := gb278) (o := .cells #[.string ((rd_T127 x12_3 x13_3).f0), .int .i64 ((rd_T127 x12_3 x13_3).f1), .int .i64 ((rd_T127 x12_3 x13_3).f2), .int .i64 ((rd_T127 x12_3 x13_3).f3)] 127 (0, 0)) (by (with_reducible repeat (first | refine qe0 ?_ _ | refine qg0 ?_ | refine qf0 ?_ _)); refine qu0 ?_ NB278_280.out _; (with_reducible repeat (first | refine qe0 ?_ _ | refine qg0 ?_ | refine qf0 ?_ _)); refine qu0 ?_ NB278_280.out _; (with_reducible repeat (first | refine qe0 ?_ _ | refine qg0 ?_ | refine qf0 ?_ _)); refine qu0 ?_ NB278_280.out _; (with_reducible repeat (first | refine qe0 ?_ _ | refine qg0 ?_ | refine qf0 ?_ _)); refine qu0 ?_ NB278_280.out _; (with_reducible repeat (first | refine qe0 ?_ _ | refine qg0 ?_ | refine qf0 ?_ _)); exact BK278.out)) : gb278 ≠ gb281)); have n8_ := Aside0.mk ((by rw [hg]; exact Nat.ne_of_gt (qt1 (g := gb278) (o := .cells #[.string ((rd_T127 x12_3 x13_3).f0), .int .i64 ((rd_T127 x12_3 x13_3).f1), .int .i64 ((rd_T127 x12_3 x13_3).f2), .int .i64 ((rd_T127 x12_3 x13_3).f3)] 127 (0, 0)) (by (with_reducible repeat (first | refine qe0 ?_ _ | refine qg0 ?_ | refine qf0 ?_ _)); refine qu0 ?_ NB278_280.out _; (with_reducible repeat (first | refine qe0 ?_ _ | refine qg0 ?_ | refine qf0 ?_ _)); refine qu0 ?_ NB278_280.out _; (with_reducible repeat (first | refine qe0 ?_ _ | refine qg0 ?_ | refine qf0 ?_ _)); refine qu0 ?_ NB278_280.out _; (with_reducible repeat (first | refine qe0 ?_ _ | refine qg0 ?_ | refine qf0 ?_ _)); refine qu0 ?_ NB278_280.out _; (with_reducible repeat (first | refine qe0 ?_ _ | refine qg0 ?_ | refine qf0 ?_ _)); exact BK278.out)) : gb281 ≠ gb278)); have n9_ := Aside0.mk ((by rw [hg]; exact Nat.ne_of_lt (qt1 (g := gb280) (o := .cells #[.string ((rd_T35 l0 x15_4).f0), .string ((rd_T35 l0 x15_4).f1), .int .i64 ((rd_T35 l0 x15_4).f2), .int .i64 ((rd_T35 l0 x15_4).f3)] 35 (0, 0)) (by (with_reducible repeat (first | refine qe0 ?_ _ | refine qg0 ?_ | refine qf0 ?_ _)); refine qp0 (cs := #[.string ((rd_T35 l0 x15_4).f0), .string ((rd_T35 l0 x15_4).f1), .int .i64 ((rd_T35 l0 x15_4).f2), .int .i64 0]) ?_ 3 _ rfl; (with_reducible repeat (first | refine qe0 ?_ _ | refine qg0 ?_ | refine qf0 ?_ _)); refine qp0 (cs := #[.string ((rd_T35 l0 x15_4).f0), .string ((rd_T35 l0 x15_4).f1), .int .i64 0, .int .i64 0]) ?_ 2 _ rfl; (with_reducible repeat (first | refine qe0 ?_ _ | refine qg0 ?_ | refine qf0 ?_ _)); refine qp0 (cs := #[.string ((rd_T35 l0 x15_4).f0), .string (⟨#[]⟩ : ByteArray), .int .i64 0, .int .i64 0]) ?_ 1 _ rfl; (with_reducible repeat (first | refine qe0 ?_ _ | refine qg0 ?_ | refine qf0 ?_ _)); refine qp0 (cs := #[.string (⟨#[]⟩ : ByteArray), .string (⟨#[]⟩ : ByteArray), .int .i64 0, .int .i64 0]) ?_ 0 _ rfl; (with_reducible repeat (first | refine qe0 ?_ _ | refine qg0 ?_ | refine qf0 ?_ _)); exact BK280.out)) : gb280 ≠ gb281)); have n10_ := Aside0.mk ((by rw [hg]; exact Nat.ne_of_gt (qt1 (g := gb280) (o := .cells #[.string ((rd_T35 l0 x15_4).f0), .string ((rd_T35 l0 x15_4).f1), .int .i64 ((rd_T35 l0 x15_4).f2), .int .i64 ((rd_T35 l0 x15_4).f3)] 35 (0, 0)) (by (with_reducible repeat (first | refine qe0 ?_ _ | refine qg0 ?_ | refine qf0 ?_ _)); refine qp0 (cs := #[.string ((rd_T35 l0 x15_4).f0), .string ((rd_T35 l0 x15_4).f1), .int .i64 ((rd_T35 l0 x15_4).f2), .int .i64 0]) ?_ 3 _ rfl; (with_reducible repeat (first | refine qe0 ?_ _ | refine qg0 ?_ | refine qf0 ?_ _)); refine qp0 (cs := #[.string ((rd_T35 l0 x15_4).f0), .string ((rd_T35 l0 x15_4).f1), .int .i64 0, .int .i64 0]) ?_ 2 _ rfl; (with_reducible repeat (first | refine qe0 ?_ _ | refine qg0 ?_ | refine qf0 ?_ _)); refine qp0 (cs := #[.string ((rd_T35 l0 x15_4).f0), .string (⟨#[]⟩ : ByteArray), .int .i64 0, .int .i64 0]) ?_ 1 _ rfl; (with_reducible repeat (first | refine qe0 ?_ _ | refine qg0 ?_ | refine qf0 ?_ _)); refine qp0 (cs := #[.string (⟨#[]⟩ : ByteArray), .string (⟨#[]⟩ : ByteArray), .int .i64 0, .int .i64 0]) ?_ 0 _ rfl; (with_reducible repeat (first | refine qe0 ?_ _ | refine qg0 ?_ | refine qf0 ?_ _)); exact BK280.out)) : gb281 ≠ gb280)); clear HO_12; clear BK278; clear BK280; clear HB; have HO_12 := n0_; have BK278 := n1_; have BK280 := n2_; have HB := n3_; have BK281 := n4_; have GW281 := n5_; have GE281 := n6_; have NB278_281 := n7_; have NB281_278 := n8_; have NB280_281 := n9_; have NB281_280 := n10_; clear n0_ n1_ n2_ n3_ n4_ n5_ n6_ n7_ n8_ n9_ n10_; clear hb hbox hg; have hnb55 := NB281_278.out; have hnc55 := NB278_281.out; have hnb56 := NB281_280.out; have hnc56 := NB280_281.out; have hcz57_0 : w54.cell? ⟨gb281, 0, none⟩ = some (.string (⟨#[]⟩ : ByteArray)) := (qh0 BK281.out 0).trans rfl; have hcz57_1 : w54.cell? ⟨gb281, 1, none⟩ = some (.int .i64 0) := (qh0 BK281.out 1).trans rfl; have hcz57_2 : w54.cell? ⟨gb281, 2, none⟩ = some (.int .i64 0) := (qh0 BK281.out 2).trans rfl; have hcz57_3 : w54.cell? ⟨gb281, 3, none⟩ = some (.int .i64 0) := (qh0 BK281.out 3).trans rfl; have hfz57_0 := qb0 BK281.out 0; have hfz57_1 := qb0 BK281.out 1; have hfz57_2 := qb0 BK281.out 2; have hfz57_3 := qb0 BK281.out 3; have hcz58_0 : w54.cell? ⟨gb278, 0, none⟩ = some (.string ((rd_T127 x12_3 x13_3).f0)) := (qh0 BK278.out 0).trans rfl; have hcz58_1 : w54.cell? ⟨gb278, 1, none⟩ = some (.int .i64 ((rd_T127 x12_3 x13_3).f1)) := (qh0 BK278.out 1).trans rfl; have hcz58_2 : w54.cell? ⟨gb278, 2, none⟩ = some (.int .i64 ((rd_T127 x12_3 x13_3).f2)) := (qh0 BK278.out 2).trans rfl; have hcz58_3 : w54.cell? ⟨gb278, 3, none⟩ = some (.int .i64 ((rd_T127 x12_3 x13_3).f3)) := (qh0 BK278.out 3).trans rfl; have hfz58_0 := qb0 BK278.out 0; have hfz58_1 := qb0 BK278.out 1; have hfz58_2 := qb0 BK278.out 2; have hfz58_3 := qb0 BK278.out 3)); go_upto_block 6 with (first | ((with_reducible refine qv0 (N := 16) rfl ?_); refine qb1 ?hg (N := 16) ?hd (cs := #[.string (⟨#[]⟩ : ByteArray), .string (⟨#[]⟩ : ByteArray), .int .i64 0, .int .i64 0]) (t := 35) ?hr ?_; (case hd => rfl); (case hg => rfl); (case hr => first | (go_simp; done) | (go_simp; rfl)); intro gb280 hg w50 hbox hb; have n0_ := Aside0.mk (Kd.qy0 (by (with_reducible repeat (first | apply Kd.qk0 | apply Kd.qj0 | apply Kd.qm0)); exact HO_12.out) hb); have n1_ := Aside0.mk (qa1 (g := gb278) (o := .cells #[.string ((rd_T127 x12_3 x13_3).f0), .int .i64 ((rd_T127 x12_3 x13_3).f1), .int .i64 ((rd_T127 x12_3 x13_3).f2), .int .i64 ((rd_T127 x12_3 x13_3).f3)] 127 (0, 0)) (by (with_reducible repeat (first | refine qe0 ?_ _ | refine qg0 ?_ | refine qf0 ?_ _)); exact BK278.out) hb); have n2_ := Aside0.mk (qo0 (by repeat (first | (with_reducible first | exact HB.out | apply qc0 | apply qa0 | apply qd0 | refine qi0 ?_ GE278.out) | exact HB.out)) hb); have n3_ := Aside0.mk (hbox); have n4_ := Aside0.mk ((by rw [hg]; exact (ql0 (by repeat (first | (with_reducible first | exact HB.out | apply qc0 | apply qa0 | apply qd0 | refine qi0 ?_ GE278.out) | exact HB.out))) : w.heap.size ≤ gb280)); have n5_ := Aside0.mk ((by rw [hg]; exact (ql0 (by repeat (first | (with_reducible first | exact HB.out | apply qc0 | apply qa0 | apply qd0 | refine qi0 ?_ GE278.out) | exact HB.out))) : w.heap.size ≤ gb280)); have n6_ := Aside0.mk ((by rw [hg]; exact Nat.ne_of_lt (qt1 (g := gb278) (o := .cells #[.string ((rd_T127 x12_3 x13_3).f0), .int .i64 ((rd_T127 x12_3 x13_3).f1), .int .i64 ((rd_T127 x12_3 x13_3).f2), .int .i64 ((rd_T127 x12_3 x13_3).f3)] 127 (0, 0)) (by (with_reducible repeat (first | refine qe0 ?_ _ | refine qg0 ?_ | refine qf0 ?_ _)); exact BK278.out)) : gb278 ≠ gb280)); have n7_ := Aside0.mk ((by rw [hg]; exact Nat.ne_of_gt (qt1 (g := gb278) (o := .cells #[.string ((rd_T127 x12_3 x13_3).f0), .int .i64 ((rd_T127 x12_3 x13_3).f1), .int .i64 ((rd_T127 x12_3 x13_3).f2), .int .i64 ((rd_T127 x12_3 x13_3).f3)] 127 (0, 0)) (by (with_reducible repeat (first | refine qe0 ?_ _ | refine qg0 ?_ | refine qf0 ?_ _)); exact BK278.out)) : gb280 ≠ gb278)); clear HO_12; clear BK278; clear HB; have HO_12 := n0_; have BK278 := n1_; have HB := n2_; have BK280 := n3_; have GW280 := n4_; have GE280 := n5_; have NB278_280 := n6_; have NB280_278 := n7_; clear n0_ n1_ n2_ n3_ n4_ n5_ n6_ n7_; clear hb hbox hg; have hnb51 := NB280_278.out; have hnc51 := NB278_280.out; have hcz52_0 : w50.cell? ⟨gb280, 0, none⟩ = some (.string (⟨#[]⟩ : ByteArray)) := (qh0 BK280.out 0).trans rfl; have hcz52_1 : w50.cell? ⟨gb280, 1, none⟩ = some (.string (⟨#[]⟩ : ByteArray)) := (qh0 BK280.out 1).trans rfl; have hcz52_2 : w50.cell? ⟨gb280, 2, none⟩ = some (.int .i64 0) := (qh0 BK280.out 2).trans rfl; have hcz52_3 : w50.cell? ⟨gb280, 3, none⟩ = some (.int .i64 0) := (qh0 BK280.out 3).trans rfl; have hfz52_0 := qb0 BK280.out 0; have hfz52_1 := qb0 BK280.out 1; have hfz52_2 := qb0 BK280.out 2; have hfz52_3 := qb0 BK280.out 3; have hcz53_0 : w50.cell? ⟨gb278, 0, none⟩ = some (.string ((rd_T127 x12_3 x13_3).f0)) := (qh0 BK278.out 0).trans rfl; have hcz53_1 : w50.cell? ⟨gb278, 1, none⟩ = some (.int .i64 ((rd_T127 x12_3 x13_3).f1)) := (qh0 BK278.out 1).trans rfl; have hcz53_2 : w50.cell? ⟨gb278, 2, none⟩ = some (.int .i64 ((rd_T127 x12_3 x13_3).f2)) := (qh0 BK278.out 2).trans rfl; have hcz53_3 : w50.cell? ⟨gb278, 3, none⟩ = some (.int .i64 ((rd_T127 x12_3 x13_3).f3)) := (qh0 BK278.out 3).trans rfl; have hfz53_0 := qb0 BK278.out 0; have hfz53_1 := qb0 BK278.out 1; have hfz53_2 := qb0 BK278.out 2; have hfz53_3 := qb0 BK278.out 3) | ((with_reducible refine qv0 (N := 17) rfl ?_); refine qb1 ?hg (N := 17) ?hd (cs := #[.string (⟨#[]⟩ : ByteArray), .int .i64 0, .int .i64 0, .int .i64 0]) (t := 127) ?hr ?_; (case hd => rfl); (case hg => rfl); (case hr => first | (go_simp; done) | (go_simp; rfl)); intro gb281 hg w54 hbox hb; have n0_ := Aside0.mk (Kd.qy0 (Kd.R_elderB (by (with_reducible repeat (first | apply Kd.qk0 | apply Kd.qj0 | apply Kd.qm0)); exact (Kd.qz0 (Kd.R_far (p := ⟨gb280, 3, none⟩) (Kd.R_far (p := ⟨gb280, 2, none⟩) (Kd.R_far (p := ⟨gb280, 1, none⟩) (Kd.R_far (p := ⟨gb280, 0, none⟩) (Kd.R_types HO_12.out BK280.out (by decide)) (fun _ hk => hk.2) (.string ((rd_T35 l0 x15_4).f0))) (fun _ hk => hk.2) (.string ((rd_T35 l0 x15_4).f1))) (fun _ hk => hk.2) (.int .i64 ((rd_T35 l0 x15_4).f2))) (fun _ hk => hk.2) (.int .i64 ((rd_T35 l0 x15_4).f3))) (fun _ h_ => h_.1))) gb281 (Nat.le_of_eq hg.symm)) hb); have n1_ := Aside0.mk (qa1 (g := gb278) (o := .cells #[.string ((rd_T127 x12_3 x13_3).f0), .int .i64 ((rd_T127 x12_3 x13_3).f1), .int .i64 ((rd_T127 x12_3 x13_3).f2), .int .i64 ((rd_T127 x12_3 x13_3).f3)] 127 (0, 0)) (by (with_reducible repeat (first | refine qe0 ?_ _ | refine qg0 ?_ | refine qf0 ?_ _)); refine qu0 ?_ NB278_280.out _; (with_reducible repeat (first | refine qe0 ?_ _ | refine qg0 ?_ | refine qf0 ?_ _)); refine qu0 ?_ NB278_280.out _; (with_reducible repeat (first | refine qe0 ?_ _ | refine qg0 ?_ | refine qf0 ?_ _)); refine qu0 ?_ NB278_280.out _; (with_reducible repeat (first | refine qe0 ?_ _ | refine qg0 ?_ | refine qf0 ?_ _)); refine qu0 ?_ NB278_280.out _; (with_reducible repeat (first | refine qe0 ?_ _ | refine qg0 ?_ | refine qf0 ?_ _)); exact BK278.out) hb); have n2_ := Aside0.mk (qa1 (g := gb280) (o := .cells #[.string ((rd_T35 l0 x15_4).f0), .string ((rd_T35 l0 x15_4).f1), .int .i64 ((rd_T35 l0 x15_4).f2), .int .i64 ((rd_T35 l0 x15_4).f3)] 35 (0, 0)) (by (with_reducible repeat (first | refine qe0 ?_ _ | refine qg0 ?_ | refine qf0 ?_ _)); refine qp0 (cs := #[.string ((rd_T35 l0 x15_4).f0), .string ((rd_T35 l0 x15_4).f1), .int .i64 ((rd_T35 l0 x15_4).f2), .int .i64 0]) ?_ 3 _ rfl; (with_reducible repeat (first | refine qe0 ?_ _ | refine qg0 ?_ | refine qf0 ?_ _)); refine qp0 (cs := #[.string ((rd_T35 l0 x15_4).f0), .string ((rd_T35 l0 x15_4).f1), .int .i64 0, .int .i64 0]) ?_ 2 _ rfl; (with_reducible repeat (first | refine qe0 ?_ _ | refine qg0 ?_ | refine qf0 ?_ _)); refine qp0 (cs := #[.string ((rd_T35 l0 x15_4).f0), .string (⟨#[]⟩ : ByteArray), .int .i64 0, .int .i64 0]) ?_ 1 _ rfl; (with_reducible repeat (first | refine qe0 ?_ _ | refine qg0 ?_ | refine qf0 ?_ _)); refine qp0 (cs := #[.string (⟨#[]⟩ : ByteArray), .string (⟨#[]⟩ : ByteArray), .int .i64 0, .int .i64 0]) ?_ 0 _ rfl; (with_reducible repeat (first | refine qe0 ?_ _ | refine qg0 ?_ | refine qf0 ?_ _)); exact BK280.out) hb); have n3_ := Aside0.mk (qo0 (by repeat (first | (with_reducible first | exact HB.out | apply qc0 | apply qa0 | apply qd0 | refine qi0 ?_ GE278.out | refine qi0 ?_ GE280.out) | exact HB.out)) hb); have n4_ := Aside0.mk (hbox); have n5_ := Aside0.mk ((by rw [hg]; exact (ql0 (by repeat (first | (with_reducible first | exact HB.out | apply qc0 | apply qa0 | apply qd0 | refine qi0 ?_ GE278.out | refine qi0 ?_ GE280.out) | exact HB.out))) : w.heap.size ≤ gb281)); have n6_ := Aside0.mk ((by rw [hg]; exact (ql0 (by repeat (first | (with_reducible first | exact HB.out | apply qc0 | apply qa0 | apply qd0 | refine qi0 ?_ GE278.out | refine qi0 ?_ GE280.out) | exact HB.out))) : w.heap.size ≤ gb281)); have n7_ := Aside0.mk ((by rw [hg]; exact Nat.ne_of_lt (qt1 (g := gb278) (o := .cells #[.string ((rd_T127 x12_3 x13_3).f0), .int .i64 ((rd_T127 x12_3 x13_3).f1), .int .i64 ((rd_T127 x12_3 x13_3).f2), .int .i64 ((rd_T127 x12_3 x13_3).f3)] 127 (0, 0)) (by (with_reducible repeat (first | refine qe0 ?_ _ | refine qg0 ?_ | refine qf0 ?_ _)); refine qu0 ?_ NB278_280.out _; (with_reducible repeat (first | refine qe0 ?_ _ | refine qg0 ?_ | refine qf0 ?_ _)); refine qu0 ?_ NB278_280.out _; (with_reducible repeat (first | refine qe0 ?_ _ | refine qg0 ?_ | refine qf0 ?_ _)); refine qu0 ?_ NB278_280.out _; (with_reducible repeat (first | refine qe0 ?_ _ | refine qg0 ?_ | refine qf0 ?_ _)); refine qu0 ?_ NB278_280.out _; (with_reducible repeat (first | refine qe0 ?_ _ | refine qg0 ?_ | refine qf0 ?_ _)); exact BK278.out)) : gb278 ≠ gb281)); have n8_ := Aside0.mk ((by rw [hg]; exact Nat.ne_of_gt (qt1 (g := gb278) (o := .cells #[.string ((rd_T127 x12_3 x13_3).f0), .int .i64 ((rd_T127 x12_3 x13_3).f1), .int .i64 ((rd_T127 x12_3 x13_3).f2), .int .i64 ((rd_T127 x12_3 x13_3).f3)] 127 (0, 0)) (by (with_reducible repeat (first | refine qe0 ?_ _ | refine qg0 ?_ | refine qf0 ?_ _)); refine qu0 ?_ NB278_280.out _; (with_reducible repeat (first | refine qe0 ?_ _ | refine qg0 ?_ | refine qf0 ?_ _)); refine qu0 ?_ NB278_280.out _; (with_reducible repeat (first | refine qe0 ?_ _ | refine qg0 ?_ | refine qf0 ?_ _)); refine qu0 ?_ NB278_280.out _; (with_reducible repeat (first | refine qe0 ?_ _ | refine qg0 ?_ | refine qf0 ?_ _)); refine qu0 ?_ NB278_280.out _; (with_reducible repeat (first | refine qe0 ?_ _ | refine qg0 ?_ | refine qf0 ?_ _)); exact BK278.out)) : gb281 ≠ gb278)); have n9_ := Aside0.mk ((by rw [hg]; exact Nat.ne_of_lt (qt1 (g := gb280) (o := .cells #[.string ((rd_T35 l0 x15_4).f0), .string ((rd_T35 l0 x15_4).f1), .int .i64 ((rd_T35 l0 x15_4).f2), .int .i64 ((rd_T35 l0 x15_4).f3)] 35 (0, 0)) (by (with_reducible repeat (first | refine qe0 ?_ _ | refine qg0 ?_ | refine qf0 ?_ _)); refine qp0 (cs := #[.string ((rd_T35 l0 x15_4).f0), .string ((rd_T35 l0 x15_4).f1), .int .i64 ((rd_T35 l0 x15_4).f2), .int .i64 0]) ?_ 3 _ rfl; (with_reducible repeat (first | refine qe0 ?_ _ | refine qg0 ?_ | refine qf0 ?_ _)); refine qp0 (cs := #[.string ((rd_T35 l0 x15_4).f0), .string ((rd_T35 l0 x15_4).f1), .int .i64 0, .int .i64 0]) ?_ 2 _ rfl; (with_reducible repeat (first | refine qe0 ?_ _ | refine qg0 ?_ | refine qf0 ?_ _)); refine qp0 (cs := #[.string ((rd_T35 l0 x15_4).f0), .string (⟨#[]⟩ : ByteArray), .int .i64 0, .int .i64 0]) ?_ 1 _ rfl; (with_reducible repeat (first | refine qe0 ?_ _ | refine qg0 ?_ | refine qf0 ?_ _)); refine qp0 (cs := #[.string (⟨#[]⟩ : ByteArray), .string (⟨#[]⟩ : ByteArray), .int .i64 0, .int .i64 0]) ?_ 0 _ rfl; (with_reducible repeat (first | refine qe0 ?_ _ | refine qg0 ?_ | refine qf0 ?_ _)); exact BK280.out)) : gb280 ≠ gb281)); have n10_ := Aside0.mk ((by rw [hg]; exact Nat.ne_of_gt (qt1 (g := gb280) (o := .cells #[.string ((rd_T35 l0 x15_4).f0), .string ((rd_T35 l0 x15_4).f1), .int .i64 ((rd_T35 l0 x15_4).f2), .int .i64 ((rd_T35 l0 x15_4).f3)] 35 (0, 0)) (by (with_reducible repeat (first | refine qe0 ?_ _ | refine qg0 ?_ | refine qf0 ?_ _)); refine qp0 (cs := #[.string ((rd_T35 l0 x15_4).f0), .string ((rd_T35 l0 x15_4).f1), .int .i64 ((rd_T35 l0 x15_4).f2), .int .i64 0]) ?_ 3 _ rfl; (with_reducible repeat (first | refine qe0 ?_ _ | refine qg0 ?_ | refine qf0 ?_ _)); refine qp0 (cs := #[.string ((rd_T35 l0 x15_4).f0), .string ((rd_T35 l0 x15_4).f1), .int .i64 0, .int .i64 0]) ?_ 2 _ rfl; (with_reducible repeat (first | refine qe0 ?_ _ | refine qg0 ?_ | refine qf0 ?_ _)); refine qp0 (cs := #[.string ((rd_T35 l0 x15_4).f0), .string (⟨#[]⟩ : ByteArray), .int .i64 0, .int .i64 0]) ?_ 1 _ rfl; (with_reducible repeat (first | refine qe0 ?_ _ | refine qg0 ?_ | refine qf0 ?_ _)); refine qp0 (cs := #[.string (⟨#[]⟩ : ByteArray), .string (⟨#[]⟩ : ByteArray), .int .i64 0, .int .i64 0]) ?_ 0 _ rfl; (with_reducible repeat (first | refine qe0 ?_ _ | refine qg0 ?_ | refine qf0 ?_ _)); exact BK280.out)) : gb281 ≠ gb280)); clear HO_12; clear BK278; clear BK280; clear HB; have HO_12 := n0_; have BK278 := n1_; have BK280 := n2_; have HB := n3_; have BK281 := n4_; have GW281 := n5_; have GE281 := n6_; have NB278_281 := n7_; have NB281_278 := n8_; have NB280_281 := n9_; have NB281_280 := n10_; clear n0_ n1_ n2_ n3_ n4_ n5_ n6_ n7_ n8_ n9_ n10_; clear hb hbox hg; have hnb55 := NB281_278.out; have hnc55 := NB278_281.out; have hnb56 := NB281_280.out; have hnc56 := NB280_281.out; have hcz57_0 : w54.cell? ⟨gb281, 0, none⟩ = some (.string (⟨#[]⟩ : ByteArray)) := (qh0 BK281.out 0).trans rfl; have hcz57_1 : w54.cell? ⟨gb281, 1, none⟩ = some (.int .i64 0) := (qh0 BK281.out 1).trans rfl; have hcz57_2 : w54.cell? ⟨gb281, 2, none⟩ = some (.int .i64 0) := (qh0 BK281.out 2).trans rfl; have hcz57_3 : w54.cell? ⟨gb281, 3, none⟩ = some (.int .i64 0) := (qh0 BK281.out 3).trans rfl; have hfz57_0 := qb0 BK281.out 0; have hfz57_1 := qb0 BK281.out 1; have hfz57_2 := qb0 BK281.out 2; have hfz57_3 := qb0 BK281.out 3; have hcz58_0 : w54.cell? ⟨gb278, 0, none⟩ = some (.string ((rd_T127 x12_3 x13_3).f0)) := (qh0 BK278.out 0).trans rfl; have hcz58_1 : w54.cell? ⟨gb278, 1, none⟩ = some (.int .i64 ((rd_T127 x12_3 x13_3).f1)) := (qh0 BK278.out 1).trans rfl; have hcz58_2 : w54.cell? ⟨gb278, 2, none⟩ = some (.int .i64 ((rd_T127 x12_3 x13_3).f2)) := (qh0 BK278.out 2).trans rfl; have hcz58_3 : w54.cell? ⟨gb278, 3, none⟩ = some (.int .i64 ((rd_T127 x12_3 x13_3).f3)) := (qh0 BK278.out 3).trans rfl; have hfz58_0 := qb0 BK278.out 0; have hfz58_1 := qb0 BK278.out 1; have hfz58_2 := qb0 BK278.out 2; have hfz58_3 := qb0 BK278.out 3)))
             (try simp only [Act.put, List.setIfInBounds_toArray, List.set_cons_zero, List.set_cons_succ])
             go_cut [] (fun wc => ∃ (kq : Nat) (x282000_48 : ByteArray) (x282001_48 : Int) (x282002_48 : Int), Aside0 (spec_QtyIn.j5 kq l0 a1 a3 x12_4 x13_3 x15_4 ((rd_T127 x12_3 x13_3).f0) ((rd_T127 x12_3 x13_3).f1) ((rd_T127 x12_3 x13_3).f2) ((rd_T127 x12_3 x13_3).f3) x282000_48 x282001_48 x282002_48 (wrap64 (((rd_T127 x12_3 x13_3).f3) + 1)) = some (r1, r2)) ∧ Aside0 (kq ≤ kj42) ∧ Aside0 (Kd.R k127 127 wc w.heap.size (fun k_ => k_ ≠ gb278 ∧ k_ ≠ gb281) u12 x12_4) ∧ Aside0 (wc.heap[gb278]? = some (.cells #[.string ((rd_T127 x12_3 x13_3).f0), .int .i64 ((rd_T127 x12_3 x13_3).f1), .int .i64 ((rd_T127 x12_3 x13_3).f2), .int .i64 ((rd_T127 x12_3 x13_3).f3)] 127 (0, 0))) ∧ Aside0 (wc.heap[gb280]? = some (.cells #[.string ((rd_T35 l0 x15_4).f0), .string ((rd_T35 l0 x15_4).f1), .int .i64 ((rd_T35 l0 x15_4).f2), .int .i64 ((rd_T35 l0 x15_4).f3)] 35 (0, 0))) ∧ Aside0 (wc.heap[gb281]? = some (.cells #[.string x282000_48, .int .i64 x282001_48, .int .i64 x282002_48, .int .i64 (wrap64 (((rd_T127 x12_3 x13_3).f3) + 1))] 127 (0, 0))) ∧ Aside0 (Below w.heap.size w wc))
             case first =>
              have H := HC49.out
              clear HC49
              by_cases c59 : ((rd_T127 x12_3 x13_3).f0).toList = ((rd_T35 l0 x15_4).f0).toList
              ·rw [if_pos c59] at H
               have c59b0 : (((rd_T127 x12_3 x13_3).f0).toList == ((rd_T35 l0 x15_4).f0).toList) = true := beq_iff_eq.mpr c59
               have c59b1 : (((rd_T127 x12_3 x13_3).f0).toList != ((rd_T35 l0 x15_4).f0).toList) = false := bne_eq_false_iff_eq.mpr c59
               clear c59
               (first | rw [c59b0] | (simp only [i64_w, i32_w]; rw [c59b0]) | skip)
               have H' := Aside0.mk H
               clear H
               have hnb60 := NB280_278.out
               have hnc60 := NB278_280.out
               have hnb61 := NB280_281.out
               have hnc61 := NB281_280.out
               have hcz62_0 : w54.cell? ⟨gb280, 0, none⟩ = some (.string ((rd_T35 l0 x15_4).f0)) := (qh0 BK280.out 0).trans rfl
               have hcz62_1 : w54.cell? ⟨gb280, 1, none⟩ = some (.string ((rd_T35 l0 x15_4).f1)) := (qh0 BK280.out 1).trans rfl
               have hcz62_2 : w54.cell? ⟨gb280, 2, none⟩ = some (.int .i64 ((rd_T35 l0 x15_4).f2)) := (qh0 BK280.out 2).trans rfl
               have hcz62_3 : w54.cell? ⟨gb280, 3, none⟩ = some (.int .i64 ((rd_T35 l0 x15_4).f3)) := (qh0 BK280.out 3).trans rfl
               have hfz62_0 := qb0 BK280.out 0
               have hfz62_1 := qb0 BK280.out 1
               have hfz62_2 := qb0 BK280.out 2
               have hfz62_3 := qb0 BK280.out 3
               have hnb63 := NB281_278.out
               have hnc63 := NB278_281.out
               have hcz64_0 : w54.cell? ⟨gb281, 0, none⟩ = some (.string (⟨#[]⟩ : ByteArray)) := (qh0 BK281.out 0).trans rfl
               have hcz64_1 : w54.cell? ⟨gb281, 1, none⟩ = some (.int .i64 0) := (qh0 BK281.out 1).trans rfl
               have hcz64_2 : w54.cell? ⟨gb281, 2, none⟩ = some (.int .i64 0) := (qh0 BK281.out 2).trans rfl
               have hcz64_3 : w54.cell? ⟨gb281, 3, none⟩ = some (.int .i64 0) := (qh0 BK281.out 3).trans rfl
               have hfz64_0 := qb0 BK281.out 0
               have hfz64_1 := qb0 BK281.out 1
               have hfz64_2 := qb0 BK281.out 2
               have hfz64_3 := qb0 BK281.out 3
               have hcz65_0 : w54.cell? ⟨gb278, 0, none⟩ = some (.string ((rd_T127 x12_3 x13_3).f0)) := (qh0 BK278.out 0).trans rfl
               have hcz65_1 : w54.cell? ⟨gb278, 1, none⟩ = some (.int .i64 ((rd_T127 x12_3 x13_3).f1)) := (qh0 BK278.out 1).trans rfl
               have hcz65_2 : w54.cell? ⟨gb278, 2, none⟩ = some (.int .i64 ((rd_T127 x12_3 x13_3).f2)) := (qh0 BK278.out 2).trans rfl
               have hcz65_3 : w54.cell? ⟨gb278, 3, none⟩ = some (.int .i64 ((rd_T127 x12_3 x13_3).f3)) := (qh0 BK278.out 3).trans rfl
               have hfz65_0 := qb0 BK278.out 0
               have hfz65_1 := qb0 BK278.out 1
               have hfz65_2 := qb0 BK278.out 2
               have hfz65_3 := qb0 BK278.out 3
               go_wp2
               repeat (go_quiet (fail); try go_wp2)
               go_meet
               case rel => exact ⟨_, ((rd_T35 l0 x15_4).f1), (wrap64 (((rd_T127 x12_3 x13_3).f1) * ((rd_T35 l0 x15_4).f2))), (wrap64 (((rd_T127 x12_3 x13_3).f2) * ((rd_T35 l0 x15_4).f3))), H', ⟨by have := HJ4.out; have := HK2.out; have := HK3.out; have := HK4.out; have := HJ42.out; first | omega | exact Nat.le_refl _⟩, ⟨by (with_reducible repeat (first | apply Kd.qk0 | apply Kd.qj0 | apply Kd.qm0)); exact Kd.qz0 (Kd.R_far (p := ⟨gb281, 2, none⟩) (Kd.R_far (p := ⟨gb281, 1, none⟩) (Kd.R_far (p := ⟨gb281, 0, none⟩) (Kd.R_far (p := ⟨gb281, 3, none⟩) (Kd.R_far (p := ⟨gb281, 2, none⟩) (Kd.R_far (p := ⟨gb281, 1, none⟩) (Kd.R_far (p := ⟨gb281, 0, none⟩) (Kd.qz0 HO_12.out (fun k_ hk => (⟨hk, hk.2⟩ : _ ∧ k_ ≠ gb281))) (fun _ hk => hk.2) (.string (⟨#[]⟩ : ByteArray))) (fun _ hk => hk.2) (.int .i64 0)) (fun _ hk => hk.2) (.int .i64 0)) (fun _ hk => hk.2) (.int .i64 (wrap64 (((rd_T127 x12_3 x13_3).f3) + 1)))) (fun _ hk => hk.2) (.string ((rd_T35 l0 x15_4).f1))) (fun _ hk => hk.2) (.int .i64 (wrap64 (((rd_T127 x12_3 x13_3).f1) * ((rd_T35 l0 x15_4).f2))))) (fun _ hk => hk.2) (.int .i64 (wrap64 (((rd_T127 x12_3 x13_3).f2) * ((rd_T35 l0 x15_4).f3))))) (fun _ hk => ⟨hk.1.1, hk.1.2⟩)⟩, ⟨by (with_reducible repeat (first | refine qe0 ?_ _ | refine qg0 ?_ | refine qf0 ?_ _)); refine qu0 ?_ NB278_281.out _; (with_reducible repeat (first | refine qe0 ?_ _ | refine qg0 ?_ | refine qf0 ?_ _)); refine qu0 ?_ NB278_281.out _; (with_reducible repeat (first | refine qe0 ?_ _ | refine qg0 ?_ | refine qf0 ?_ _)); refine qu0 ?_ NB278_281.out _; (with_reducible repeat (first | refine qe0 ?_ _ | refine qg0 ?_ | refine qf0 ?_ _)); refine qu0 ?_ NB278_281.out _; (with_reducible repeat (first | refine qe0 ?_ _ | refine qg0 ?_ | refine qf0 ?_ _)); refine qu0 ?_ NB278_281.out _; (with_reducible repeat (first | refine qe0 ?_ _ | refine qg0 ?_ | refine qf0 ?_ _)); refine qu0 ?_ NB278_281.out _; (with_reducible repeat (first | refine qe0 ?_ _ | refine qg0 ?_ | refine qf0 ?_ _)); refine qu0 ?_ NB278_281.out _; (with_reducible repeat (first | refine qe0 ?_ _ | refine qg0 ?_ | refine qf0 ?_ _)); exact BK278.out⟩, ⟨by (with_reducible repeat (first | refine qe0 ?_ _ | refine qg0 ?_ | refine qf0 ?_ _)); refine qu0 ?_ NB280_281.out _; (with_reducible repeat (first | refine qe0 ?_ _ | refine qg0 ?_ | refine qf0 ?_ _)); refine qu0 ?_ NB280_281.out _; (with_reducible repeat (first | refine qe0 ?_ _ | refine qg0 ?_ | refine qf0 ?_ _)); refine qu0 ?_ NB280_281.out _; (with_reducible repeat (first | refine qe0 ?_ _ | refine qg0 ?_ | refine qf0 ?_ _)); refine qu0 ?_ NB280_281.out _; (with_reducible repeat (first | refine qe0 ?_ _ | refine qg0 ?_ | refine qf0 ?_ _)); refine qu0 ?_ NB280_281.out _; (with_reducible repeat (first | refine qe0 ?_ _ | refine qg0 ?_ | refine qf0 ?_ _)); refine qu0 ?_ NB280_281.out _; (with_reducible repeat (first | refine qe0 ?_ _ | refine qg0 ?_ | refine qf0 ?_ _)); refine qu0 ?_ NB280_281.out _; (with_reducible repeat (first | refine qe0 ?_ _ | refine qg0 ?_ | refine qf0 ?_ _)); exact BK280.out⟩, ⟨by (with_reducible repeat (first | refine qe0 ?_ _ | refine qg0 ?_ | refine qf0 ?_ _)); refine qp0 (cs := #[.string ((rd_T35 l0 x15_4).f1), .int .i64 (wrap64 (((rd_T127 x12_3 x13_3).f1) * ((rd_T35 l0 x15_4).f2))), .int .i64 0, .int .i64 (wrap64 (((rd_T127 x12_3 x13_3).f3) + 1))]) ?_ 2 _ rfl; (with_reducible repeat (first | refine qe0 ?_ _ | refine qg0 ?_ | refine qf0 ?_ _)); refine qp0 (cs := #[.string ((rd_T35 l0 x15_4).f1), .int .i64 0, .int .i64 0, .int .i64 (wrap64 (((rd_T127 x12_3 x13_3).f3) + 1))]) ?_ 1 _ rfl; (with_reducible repeat (first | refine qe0 ?_ _ | refine qg0 ?_ | refine qf0 ?_ _)); refine qp0 (cs := #[.string (⟨#[]⟩ : ByteArray), .int .i64 0, .int .i64 0, .int .i64 (wrap64 (((rd_T127 x12_3 x13_3).f3) + 1))]) ?_ 0 _ rfl; (with_reducible repeat (first | refine qe0 ?_ _ | refine qg0 ?_ | refine qf0 ?_ _)); refine qp0 (cs := #[.string (⟨#[]⟩ : ByteArray), .int .i64 0, .int .i64 0, .int .i64 0]) ?_ 3 _ rfl; (with_reducible repeat (first | refine qe0 ?_ _ | refine qg0 ?_ | refine qf0 ?_ _)); refine qp0 (cs := #[.string (⟨#[]⟩ : ByteArray), .int .i64 0, .int .i64 0, .int .i64 0]) ?_ 2 _ rfl; (with_reducible repeat (first | refine qe0 ?_ _ | refine qg0 ?_ | refine qf0 ?_ _)); refine qp0 (cs := #[.string (⟨#[]⟩ : ByteArray), .int .i64 0, .int .i64 0, .int .i64 0]) ?_ 1 _ rfl; (with_reducible repeat (first | refine qe0 ?_ _ | refine qg0 ?_ | refine qf0 ?_ _)); refine qp0 (cs := #[.string (⟨#[]⟩ : ByteArray), .int .i64 0, .int .i64 0, .int .i64 0]) ?_ 0 _ rfl; (with_reducible repeat (first | refine qe0 ?_ _ | refine qg0 ?_ | refine qf0 ?_ _)); exact BK281.out⟩, ⟨by repeat (first | (with_reducible first | exact HB.out | apply qc0 | apply qa0 | apply qd0 | refine qi0 ?_ GE278.out | refine qi0 ?_ GE280.out | refine qi0 ?_ GE281.out) | exact HB.out)⟩⟩
              rw [if_neg c59] at H
              have c59b0 : (((rd_T127 x12_3 x13_3).f0).toList == ((rd_T35 l0 x15_4).f0).toList) = false := beq_eq_false_iff_ne.mpr c59
              have c59b1 : (((rd_T127 x12_3 x13_3).f0).toList != ((rd_T35 l0 x15_4).f0).toList) = true := bne_iff_ne.mpr c59
              (first | rw [c59b0] | (simp only [i64_w, i32_w]; rw [c59b0]) | skip)
              by_cases c66 : ((rd_T127 x12_3 x13_3).f0).toList = ((rd_T35 l0 x15_4).f1).toList
              ·rw [if_pos c66] at H
               have c66b0 : (((rd_T127 x12_3 x13_3).f0).toList == ((rd_T35 l0 x15_4).f1).toList) = true := beq_iff_eq.mpr c66
               have c66b1 : (((rd_T127 x12_3 x13_3).f0).toList != ((rd_T35 l0 x15_4).f1).toList) = false := bne_eq_false_iff_eq.mpr c66
               clear c66
               have H' := Aside0.mk H
               clear H
               have hnb67 := NB280_278.out
               have hnc67 := NB278_280.out
               have hnb68 := NB280_281.out
               have hnc68 := NB281_280.out
               have hcz69_0 : w54.cell? ⟨gb280, 0, none⟩ = some (.string ((rd_T35 l0 x15_4).f0)) := (qh0 BK280.out 0).trans rfl
               have hcz69_1 : w54.cell? ⟨gb280, 1, none⟩ = some (.string ((rd_T35 l0 x15_4).f1)) := (qh0 BK280.out 1).trans rfl
               have hcz69_2 : w54.cell? ⟨gb280, 2, none⟩ = some (.int .i64 ((rd_T35 l0 x15_4).f2)) := (qh0 BK280.out 2).trans rfl
               have hcz69_3 : w54.cell? ⟨gb280, 3, none⟩ = some (.int .i64 ((rd_T35 l0 x15_4).f3)) := (qh0 BK280.out 3).trans rfl
               have hfz69_0 := qb0 BK280.out 0
               have hfz69_1 := qb0 BK280.out 1
               have hfz69_2 := qb0 BK280.out 2
               have hfz69_3 := qb0 BK280.out 3
               have hnb70 := NB281_278.out
               have hnc70 := NB278_281.out
               have hcz71_0 : w54.cell? ⟨gb281, 0, none⟩ = some (.string (⟨#[]⟩ : ByteArray)) := (qh0 BK281.out 0).trans rfl
               have hcz71_1 : w54.cell? ⟨gb281, 1, none⟩ = some (.int .i64 0) := (qh0 BK281.out 1).trans rfl
               have hcz71_2 : w54.cell? ⟨gb281, 2, none⟩ = some (.int .i64 0) := (qh0 BK281.out 2).trans rfl
               have hcz71_3 : w54.cell? ⟨gb281, 3, none⟩ = some (.int .i64 0) := (qh0 BK281.out 3).trans rfl
               have hfz71_0 := qb0 BK281.out 0
               have hfz71_1 := qb0 BK281.out 1
               have hfz71_2 := qb0 BK281.out 2
               have hfz71_3 := qb0 BK281.out 3
               have hcz72_0 : w54.cell? ⟨gb278, 0, none⟩ = some (.string ((rd_T127 x12_3 x13_3).f0)) := (qh0 BK278.out 0).trans rfl
               have hcz72_1 : w54.cell? ⟨gb278, 1, none⟩ = some (.int .i64 ((rd_T127 x12_3 x13_3).f1)) := (qh0 BK278.out 1).trans rfl
               have hcz72_2 : w54.cell? ⟨gb278, 2, none⟩ = some (.int .i64 ((rd_T127 x12_3 x13_3).f2)) := (qh0 BK278.out 2).trans rfl
               have hcz72_3 : w54.cell? ⟨gb278, 3, none⟩ = some (.int .i64 ((rd_T127 x12_3 x13_3).f3)) := (qh0 BK278.out 3).trans rfl
               have hfz72_0 := qb0 BK278.out 0
               have hfz72_1 := qb0 BK278.out 1
               have hfz72_2 := qb0 BK278.out 2
               have hfz72_3 := qb0 BK278.out 3
               go_wp2
               repeat (go_quiet (fail); try go_wp2)
               go_meet
               case rel => exact ⟨_, ((rd_T35 l0 x15_4).f0), (wrap64 (((rd_T127 x12_3 x13_3).f1) * ((rd_T35 l0 x15_4).f3))), (wrap64 (((rd_T127 x12_3 x13_3).f2) * ((rd_T35 l0 x15_4).f2))), H', ⟨by have := HJ4.out; have := HK2.out; have := HK3.out; have := HK4.out; have := HJ42.out; first | omega | exact Nat.le_refl _⟩, ⟨by (with_reducible repeat (first | apply Kd.qk0 | apply Kd.qj0 | apply Kd.qm0)); exact Kd.qz0 (Kd.R_far (p := ⟨gb281, 2, none⟩) (Kd.R_far (p := ⟨gb281, 1, none⟩) (Kd.R_far (p := ⟨gb281, 0, none⟩) (Kd.R_far (p := ⟨gb281, 3, none⟩) (Kd.R_far (p := ⟨gb281, 2, none⟩) (Kd.R_far (p := ⟨gb281, 1, none⟩) (Kd.R_far (p := ⟨gb281, 0, none⟩) (Kd.qz0 HO_12.out (fun k_ hk => (⟨hk, hk.2⟩ : _ ∧ k_ ≠ gb281))) (fun _ hk => hk.2) (.string (⟨#[]⟩ : ByteArray))) (fun _ hk => hk.2) (.int .i64 0)) (fun _ hk => hk.2) (.int .i64 0)) (fun _ hk => hk.2) (.int .i64 (wrap64 (((rd_T127 x12_3 x13_3).f3) + 1)))) (fun _ hk => hk.2) (.string ((rd_T35 l0 x15_4).f0))) (fun _ hk => hk.2) (.int .i64 (wrap64 (((rd_T127 x12_3 x13_3).f1) * ((rd_T35 l0 x15_4).f3))))) (fun _ hk => hk.2) (.int .i64 (wrap64 (((rd_T127 x12_3 x13_3).f2) * ((rd_T35 l0 x15_4).f2))))) (fun _ hk => ⟨hk.1.1, hk.1.2⟩)⟩, ⟨by (with_reducible repeat (first | refine qe0 ?_ _ | refine qg0 ?_ | refine qf0 ?_ _)); refine qu0 ?_ NB278_281.out _; (with_reducible repeat (first | refine qe0 ?_ _ | refine qg0 ?_ | refine qf0 ?_ _)); refine qu0 ?_ NB278_281.out _; (with_reducible repeat (first | refine qe0 ?_ _ | refine qg0 ?_ | refine qf0 ?_ _)); refine qu0 ?_ NB278_281.out _; (with_reducible repeat (first | refine qe0 ?_ _ | refine qg0 ?_ | refine qf0 ?_ _)); refine qu0 ?_ NB278_281.out _; (with_reducible repeat (first | refine qe0 ?_ _ | refine qg0 ?_ | refine qf0 ?_ _)); refine qu0 ?_ NB278_281.out _; (with_reducible repeat (first | refine qe0 ?_ _ | refine qg0 ?_ | refine qf0 ?_ _)); refine qu0 ?_ NB278_281.out _; (with_reducible repeat (first | refine qe0 ?_ _ | refine qg0 ?_ | refine qf0 ?_ _)); refine qu0 ?_ NB278_281.out _; (with_reducible repeat (first | refine qe0 ?_ _ | refine qg0 ?_ | refine qf0 ?_ _)); exact BK278.out⟩, ⟨by (with_reducible repeat (first | refine qe0 ?_ _ | refine qg0 ?_ | refine qf0 ?_ _)); refine qu0 ?_ NB280_281.out _; (with_reducible repeat (first | refine qe0 ?_ _ | refine qg0 ?_ | refine qf0 ?_ _)); refine qu0 ?_ NB280_281.out _; (with_reducible repeat (first | refine qe0 ?_ _ | refine qg0 ?_ | refine qf0 ?_ _)); refine qu0 ?_ NB280_281.out _; (with_reducible repeat (first | refine qe0 ?_ _ | refine qg0 ?_ | refine qf0 ?_ _)); refine qu0 ?_ NB280_281.out _; (with_reducible repeat (first | refine qe0 ?_ _ | refine qg0 ?_ | refine qf0 ?_ _)); refine qu0 ?_ NB280_281.out _; (with_reducible repeat (first | refine qe0 ?_ _ | refine qg0 ?_ | refine qf0 ?_ _)); refine qu0 ?_ NB280_281.out _; (with_reducible repeat (first | refine qe0 ?_ _ | refine qg0 ?_ | refine qf0 ?_ _)); refine qu0 ?_ NB280_281.out _; (with_reducible repeat (first | refine qe0 ?_ _ | refine qg0 ?_ | refine qf0 ?_ _)); exact BK280.out⟩, ⟨by (with_reducible repeat (first | refine qe0 ?_ _ | refine qg0 ?_ | refine qf0 ?_ _)); refine qp0 (cs := #[.string ((rd_T35 l0 x15_4).f0), .int .i64 (wrap64 (((rd_T127 x12_3 x13_3).f1) * ((rd_T35 l0 x15_4).f3))), .int .i64 0, .int .i64 (wrap64 (((rd_T127 x12_3 x13_3).f3) + 1))]) ?_ 2 _ rfl; (with_reducible repeat (first | refine qe0 ?_ _ | refine qg0 ?_ | refine qf0 ?_ _)); refine qp0 (cs := #[.string ((rd_T35 l0 x15_4).f0), .int .i64 0, .int .i64 0, .int .i64 (wrap64 (((rd_T127 x12_3 x13_3).f3) + 1))]) ?_ 1 _ rfl; (with_reducible repeat (first | refine qe0 ?_ _ | refine qg0 ?_ | refine qf0 ?_ _)); refine qp0 (cs := #[.string (⟨#[]⟩ : ByteArray), .int .i64 0, .int .i64 0, .int .i64 (wrap64 (((rd_T127 x12_3 x13_3).f3) + 1))]) ?_ 0 _ rfl; (with_reducible repeat (first | refine qe0 ?_ _ | refine qg0 ?_ | refine qf0 ?_ _)); refine qp0 (cs := #[.string (⟨#[]⟩ : ByteArray), .int .i64 0, .int .i64 0, .int .i64 0]) ?_ 3 _ rfl; (with_reducible repeat (first | refine qe0 ?_ _ | refine qg0 ?_ | refine qf0 ?_ _)); refine qp0 (cs := #[.string (⟨#[]⟩ : ByteArray), .int .i64 0, .int .i64 0, .int .i64 0]) ?_ 2 _ rfl; (with_reducible repeat (first | refine qe0 ?_ _ | refine qg0 ?_ | refine qf0 ?_ _)); refine qp0 (cs := #[.string (⟨#[]⟩ : ByteArray), .int .i64 0, .int .i64 0, .int .i64 0]) ?_ 1 _ rfl; (with_reducible repeat (first | refine qe0 ?_ _ | refine qg0 ?_ | refine qf0 ?_ _)); refine qp0 (cs := #[.string (⟨#[]⟩ : ByteArray), .int .i64 0, .int .i64 0, .int .i64 0]) ?_ 0 _ rfl; (with_reducible repeat (first | refine qe0 ?_ _ | refine qg0 ?_ | refine qf0 ?_ _)); exact BK281.out⟩, ⟨by repeat (first | (with_reducible first | exact HB.out | apply qc0 | apply qa0 | apply qd0 | refine qi0 ?_ GE278.out | refine qi0 ?_ GE280.out | refine qi0 ?_ GE281.out) | exact HB.out)⟩⟩
              rw [if_neg c66] at H
              have c66b0 : (((rd_T127 x12_3 x13_3).f0).toList == ((rd_T35 l0 x15_4).f1).toList) = false := beq_eq_false_iff_ne.mpr c66
              have c66b1 : (((rd_T127 x12_3 x13_3).f0).toList != ((rd_T35 l0 x15_4).f1).toList) = true := bne_iff_ne.mpr c66
              have H' := Aside0.mk H
              clear H
              have hnb73 := NB280_278.out
              have hnc73 := NB278_280.out
              have hnb74 := NB280_281.out
              have hnc74 := NB281_280.out
              have hcz75_0 : w54.cell? ⟨gb280, 0, none⟩ = some (.string ((rd_T35 l0 x15_4).f0)) := (qh0 BK280.out 0).trans rfl
              have hcz75_1 : w54.cell? ⟨gb280, 1, none⟩ = some (.string ((rd_T35 l0 x15_4).f1)) := (qh0 BK280.out 1).trans rfl
              have hcz75_2 : w54.cell? ⟨gb280, 2, none⟩ = some (.int .i64 ((rd_T35 l0 x15_4).f2)) := (qh0 BK280.out 2).trans rfl
              have hcz75_3 : w54.cell? ⟨gb280, 3, none⟩ = some (.int .i64 ((rd_T35 l0 x15_4).f3)) := (qh0 BK280.out 3).trans rfl
              have hfz75_0 := qb0 BK280.out 0
              have hfz75_1 := qb0 BK280.out 1
              have hfz75_2 := qb0 BK280.out 2
              have hfz75_3 := qb0 BK280.out 3
              go_wp2
              repeat (go_quiet (fail); try go_wp2)
              go_roundg kj42
              case measure => have := HJ4.out; have := HK2.out; have := HK3.out; have := HK4.out; have := HJ42.out; omega
              case rel => exact ⟨(x12_4), (wrap64 (x15_4 + 1)), (by first | rfl | (simp; done) | (simp [*]; done)), H', ⟨by have := HJ4.out; have := HK2.out; have := HK3.out; have := HK4.out; have := HJ42.out; omega⟩, ⟨by (with_reducible repeat (first | apply Kd.qk0 | apply Kd.qj0 | apply Kd.qm0)); exact Kd.qz0 (Kd.R_far (p := ⟨gb281, 3, none⟩) (Kd.R_far (p := ⟨gb281, 2, none⟩) (Kd.R_far (p := ⟨gb281, 1, none⟩) (Kd.R_far (p := ⟨gb281, 0, none⟩) (Kd.qz0 HO_12.out (fun k_ hk => (⟨hk, hk.2⟩ : _ ∧ k_ ≠ gb281))) (fun _ hk => hk.2) (.string (⟨#[]⟩ : ByteArray))) (fun _ hk => hk.2) (.int .i64 0)) (fun _ hk => hk.2) (.int .i64 0)) (fun _ hk => hk.2) (.int .i64 (wrap64 (((rd_T127 x12_3 x13_3).f3) + 1)))) (fun _ hk => hk.1.1)⟩, ⟨by (with_reducible repeat (first | refine qe0 ?_ _ | refine qg0 ?_ | refine qf0 ?_ _)); refine qu0 ?_ NB278_281.out _; (with_reducible repeat (first | refine qe0 ?_ _ | refine qg0 ?_ | refine qf0 ?_ _)); refine qu0 ?_ NB278_281.out _; (with_reducible repeat (first | refine qe0 ?_ _ | refine qg0 ?_ | refine qf0 ?_ _)); refine qu0 ?_ NB278_281.out _; (with_reducible repeat (first | refine qe0 ?_ _ | refine qg0 ?_ | refine qf0 ?_ _)); refine qu0 ?_ NB278_281.out _; (with_reducible repeat (first | refine qe0 ?_ _ | refine qg0 ?_ | refine qf0 ?_ _)); exact BK278.out⟩, ⟨by repeat (first | (with_reducible first | exact HB.out | apply qc0 | apply qa0 | apply qd0 | refine qi0 ?_ GE278.out | refine qi0 ?_ GE280.out | refine qi0 ?_ GE281.out) | exact HB.out)⟩⟩
             case rest =>
              clear HC49
              try clear c1
              try clear c2
              try clear p2
              try clear q2
              try clear hx2
              try clear c3
              try clear c4
              try clear c5
              try clear c6
              try clear c6b0
              try clear c6b1
              try clear p6
              try clear c7
              try clear c8
              try clear c10
              try clear c12
              try clear c13
              try clear c13b0
              try clear c14
              try clear c14b0
              try clear c16
              try clear c18
              try clear c19
              try clear c19b0
              try clear c19b1
              try clear c23
              try clear c25
              try clear p26
              try clear q26
              try clear hx26
              try clear p27
              try clear q27
              try clear hx27
              try clear c38
              try clear c38b0
              try clear c39
              try clear c39b0
              try clear c44
              try clear c44b0
              try clear c46
              try clear c47
              try clear c47b0
              try clear c48
              try clear c48b0
              try clear c51
              try clear c55
              try clear c56
              try clear c59
              try clear c59b0
              try clear c59b1
              try clear c60
              try clear c61
              try clear c63
              try clear p64
              try clear c66
              try clear c66b0
              try clear c66b1
              try clear c67
              try clear c68
              try clear c70
              try clear c73
              try clear c74
              try clear hcz21_0
              try clear hcz21_1
              try clear hcz21_2
              try clear hcz21_3
              try clear hcz27_0
              try clear hcz27_1
              try clear hcz27_2
              try clear hcz27_3
              try clear hcz29_0
              try clear hcz29_1
              try clear hcz29_2
              try clear hcz29_3
              try clear hcz31_0
              try clear hcz31_1
              try clear hcz31_2
              try clear hcz31_3
              try clear hcz33_0
              try clear hcz33_1
              try clear hcz33_2
              try clear hcz33_3
              try clear hcz35_0
              try clear hcz35_1
              try clear hcz35_2
              try clear hcz35_3
              try clear hcz42_0
              try clear hcz42_1
              try clear hcz42_2
              try clear hcz42_3
              try clear hcz45_0
              try clear hcz45_1
              try clear hcz45_2
              try clear hcz45_3
              try clear hcz52_0
              try clear hcz52_1
              try clear hcz52_2
              try clear hcz52_3
              try clear hcz53_0
              try clear hcz53_1
              try clear hcz53_2
              try clear hcz53_3
              try clear hcz57_0
              try clear hcz57_1
              try clear hcz57_2
              try clear hcz57_3
              try clear hcz58_0
              try clear hcz58_1
              try clear hcz58_2
              try clear hcz58_3
              try clear hcz62_0
              try clear hcz62_1
              try clear hcz62_2
              try clear hcz62_3
              try clear hcz64_0
              try clear hcz64_1
              try clear hcz64_2
              try clear hcz64_3
              try clear hcz65_0
              try clear hcz65_1
              try clear hcz65_2
              try clear hcz65_3
              try clear hcz69_0
              try clear hcz69_1
              try clear hcz69_2
              try clear hcz69_3
              try clear hcz71_0
              try clear hcz71_1
              try clear hcz71_2
              try clear hcz71_3
              try clear hcz72_0
              try clear hcz72_1
              try clear hcz72_2
              try clear hcz72_3
              try clear hcz75_0
              try clear hcz75_1
              try clear hcz75_2
              try clear hcz75_3
              try clear hfz21_0
              try clear hfz21_1
              try clear hfz21_2
              try clear hfz21_3
              try clear hfz27_0
              try clear hfz27_1
              try clear hfz27_2
              try clear hfz27_3
              try clear hfz29_0
              try clear hfz29_1
              try clear hfz29_2
              try clear hfz29_3
              try clear hfz31_0
              try clear hfz31_1
              try clear hfz31_2
              try clear hfz31_3
              try clear hfz33_0
              try clear hfz33_1
              try clear hfz33_2
              try clear hfz33_3
              try clear hfz35_0
              try clear hfz35_1
              try clear hfz35_2
              try clear hfz35_3
              try clear hfz42_0
              try clear hfz42_1
              try clear hfz42_2
              try clear hfz42_3
              try clear hfz45_0
              try clear hfz45_1
              try clear hfz45_2
              try clear hfz45_3
              try clear hfz52_0
              try clear hfz52_1
              try clear hfz52_2
              try clear hfz52_3
              try clear hfz53_0
              try clear hfz53_1
              try clear hfz53_2
              try clear hfz53_3
              try clear hfz57_0
              try clear hfz57_1
              try clear hfz57_2
              try clear hfz57_3
              try clear hfz58_0
              try clear hfz58_1
              try clear hfz58_2
              try clear hfz58_3
              try clear hfz62_0
              try clear hfz62_1
              try clear hfz62_2
              try clear hfz62_3
              try clear hfz64_0
              try clear hfz64_1
              try clear hfz64_2
              try clear hfz64_3
              try clear hfz65_0
              try clear hfz65_1
              try clear hfz65_2
              try clear hfz65_3
              try clear hfz69_0
              try clear hfz69_1
              try clear hfz69_2
              try clear hfz69_3
              try clear hfz71_0
              try clear hfz71_1
              try clear hfz71_2
              try clear hfz71_3
              try clear hfz72_0
              try clear hfz72_1
              try clear hfz72_2
              try clear hfz72_3
              try clear hfz75_0
              try clear hfz75_1
              try clear hfz75_2
              try clear hfz75_3
              try clear hx268_0
              try clear hx268_1
              try clear hx268_2
              try clear hx268_3
              try clear hx277_0
              try clear hx277_1
              try clear hx277_2
              try clear hx277_3
              try clear hx279_0
              try clear hx279_1
              try clear hx279_2
              try clear hx279_3
              try clear p2
              try clear p26
              try clear p268
              try clear p27
              try clear p277
              try clear p279
              try clear p6
              try clear q2
              try clear q26
              try clear q268
              try clear q27
              try clear q277
              try clear q279
              obtain ⟨kq, x282000_48, x282001_48, x282002_48, HA, HJ48, HO_12, BK278, BK280, BK281, HB⟩ := hcut
              cases kq with
              | zero => exact absurd HA.out (by simp [spec_QtyIn.j5])
              | succ kj48 =>
               have H := HA.out
               clear HA
               simp only [spec_QtyIn.j5] at H
               have H' := Aside0.mk H
               clear H
               go_wp2
               repeat (go_quiet (fail); try go_wp2)
               go_loopg [18, 19] kj48 (fun kq v18 v19 w' => ∃ (x18_7 : Bool) (x19_7 : Int), v18 = .bool x18_7 ∧ v19 = .int .i64 x19_7 ∧ Aside0 (spec_QtyIn.l3 kq l0 a1 a3 x12_4 x13_3 x15_4 x18_7 x19_7 ((rd_T127 x12_3 x13_3).f0) ((rd_T127 x12_3 x13_3).f1) ((rd_T127 x12_3 x13_3).f2) ((rd_T127 x12_3 x13_3).f3) x282000_48 x282001_48 x282002_48 (wrap64 (((rd_T127 x12_3 x13_3).f3) + 1)) = some (r1, r2)) ∧ Aside0 (kq ≤ kj48) ∧ Aside0 (Kd.R k127 127 w' w.heap.size (fun k_ => k_ ≠ gb278 ∧ k_ ≠ gb281) u12 x12_4) ∧ Aside0 (w'.heap[gb278]? = some (.cells #[.string ((rd_T127 x12_3 x13_3).f0), .int .i64 ((rd_T127 x12_3 x13_3).f1), .int .i64 ((rd_T127 x12_3 x13_3).f2), .int .i64 ((rd_T127 x12_3 x13_3).f3)] 127 (0, 0))) ∧ Aside0 (w'.heap[gb280]? = some (.cells #[.string ((rd_T35 l0 x15_4).f0), .string ((rd_T35 l0 x15_4).f1), .int .i64 ((rd_T35 l0 x15_4).f2), .int .i64 ((rd_T35 l0 x15_4).f3)] 35 (0, 0))) ∧ Aside0 (w'.heap[gb281]? = some (.cells #[.string x282000_48, .int .i64 x282001_48, .int .i64 x282002_48, .int .i64 (wrap64 (((rd_T127 x12_3 x13_3).f3) + 1))] 127 (0, 0))) ∧ Aside0 (Below w.heap.size w w'))
               case atStart => exact ⟨(false), (0), (by first | rfl | (simp; done) | (simp [*]; done)), (by first | rfl | (simp; done) | (simp [*]; done)), H', ⟨Nat.le_refl _⟩, ⟨by (with_reducible repeat (first | apply Kd.qk0 | apply Kd.qj0 | apply Kd.qm0)); exact HO_12.out⟩, ⟨by (with_reducible repeat (first | refine qe0 ?_ _ | refine qg0 ?_ | refine qf0 ?_ _)); exact BK278.out⟩, ⟨by (with_reducible repeat (first | refine qe0 ?_ _ | refine qg0 ?_ | refine qf0 ?_ _)); exact BK280.out⟩, ⟨by (with_reducible repeat (first | refine qe0 ?_ _ | refine qg0 ?_ | refine qf0 ?_ _)); exact BK281.out⟩, ⟨by repeat (first | (with_reducible first | exact HB.out | apply qc0 | apply qa0 | apply qd0 | refine qi0 ?_ GE278.out | refine qi0 ?_ GE280.out | refine qi0 ?_ GE281.out) | exact HB.out)⟩⟩
               case round =>
                clear H'
                try clear c1
                try clear c2
                try clear p2
                try clear q2
                try clear hx2
                try clear c3
                try clear c4
                try clear c5
                try clear c6
                try clear c6b0
                try clear c6b1
                try clear p6
                try clear c7
                try clear c8
                try clear c10
                try clear c12
                try clear c13
                try clear c13b0
                try clear c14
                try clear c14b0
                try clear c16
                try clear c18
                try clear c19
                try clear c19b0
                try clear c19b1
                try clear c23
                try clear c25
                try clear p26
                try clear q26
                try clear hx26
                try clear p27
                try clear q27
                try clear hx27
                try clear c38
                try clear c38b0
                try clear c39
                try clear c39b0
                try clear c44
                try clear c44b0
                try clear c46
                try clear c47
                try clear c47b0
                try clear c48
                try clear c48b0
                try clear c51
                try clear c55
                try clear c56
                try clear c59
                try clear c59b0
                try clear c59b1
                try clear c60
                try clear c61
                try clear c63
                try clear p64
                try clear c66
                try clear c66b0
                try clear c66b1
                try clear c67
                try clear c68
                try clear c70
                try clear c73
                try clear c74
                try clear hcz21_0
                try clear hcz21_1
                try clear hcz21_2
                try clear hcz21_3
                try clear hcz27_0
                try clear hcz27_1
                try clear hcz27_2
                try clear hcz27_3
                try clear hcz29_0
                try clear hcz29_1
                try clear hcz29_2
                try clear hcz29_3
                try clear hcz31_0
                try clear hcz31_1
                try clear hcz31_2
                try clear hcz31_3
                try clear hcz33_0
                try clear hcz33_1
                try clear hcz33_2
                try clear hcz33_3
                try clear hcz35_0
                try clear hcz35_1
                try clear hcz35_2
                try clear hcz35_3
                try clear hcz42_0
                try clear hcz42_1
                try clear hcz42_2
                try clear hcz42_3
                try clear hcz45_0
                try clear hcz45_1
                try clear hcz45_2
                try clear hcz45_3
                try clear hcz52_0
                try clear hcz52_1
                try clear hcz52_2
                try clear hcz52_3
                try clear hcz53_0
                try clear hcz53_1
                try clear hcz53_2
                try clear hcz53_3
                try clear hcz57_0
                try clear hcz57_1
                try clear hcz57_2
                try clear hcz57_3
                try clear hcz58_0
                try clear hcz58_1
                try clear hcz58_2
                try clear hcz58_3
                try clear hcz62_0
                try clear hcz62_1
                try clear hcz62_2
                try clear hcz62_3
                try clear hcz64_0
                try clear hcz64_1
                try clear hcz64_2
                try clear hcz64_3
                try clear hcz65_0
                try clear hcz65_1
                try clear hcz65_2
                try clear hcz65_3
                try clear hcz69_0
                try clear hcz69_1
                try clear hcz69_2
                try clear hcz69_3
                try clear hcz71_0
                try clear hcz71_1
                try clear hcz71_2
                try clear hcz71_3
                try clear hcz72_0
                try clear hcz72_1
                try clear hcz72_2
                try clear hcz72_3
                try clear hcz75_0
                try clear hcz75_1
                try clear hcz75_2
                try clear hcz75_3
                try clear hfz21_0
                try clear hfz21_1
                try clear hfz21_2
                try clear hfz21_3
                try clear hfz27_0
                try clear hfz27_1
                try clear hfz27_2
                try clear hfz27_3
                try clear hfz29_0
                try clear hfz29_1
                try clear hfz29_2
                try clear hfz29_3
                try clear hfz31_0
                try clear hfz31_1
                try clear hfz31_2
                try clear hfz31_3
                try clear hfz33_0
                try clear hfz33_1
                try clear hfz33_2
                try clear hfz33_3
                try clear hfz35_0
                try clear hfz35_1
                try clear hfz35_2
                try clear hfz35_3
                try clear hfz42_0
                try clear hfz42_1
                try clear hfz42_2
                try clear hfz42_3
                try clear hfz45_0
                try clear hfz45_1
                try clear hfz45_2
                try clear hfz45_3
                try clear hfz52_0
                try clear hfz52_1
                try clear hfz52_2
                try clear hfz52_3
                try clear hfz53_0
                try clear hfz53_1
                try clear hfz53_2
                try clear hfz53_3
                try clear hfz57_0
                try clear hfz57_1
                try clear hfz57_2
                try clear hfz57_3
                try clear hfz58_0
                try clear hfz58_1
                try clear hfz58_2
                try clear hfz58_3
                try clear hfz62_0
                try clear hfz62_1
                try clear hfz62_2
                try clear hfz62_3
                try clear hfz64_0
                try clear hfz64_1
                try clear hfz64_2
                try clear hfz64_3
                try clear hfz65_0
                try clear hfz65_1
                try clear hfz65_2
                try clear hfz65_3
                try clear hfz69_0
                try clear hfz69_1
                try clear hfz69_2
                try clear hfz69_3
                try clear hfz71_0
                try clear hfz71_1
                try clear hfz71_2
                try clear hfz71_3
                try clear hfz72_0
                try clear hfz72_1
                try clear hfz72_2
                try clear hfz72_3
                try clear hfz75_0
                try clear hfz75_1
                try clear hfz75_2
                try clear hfz75_3
                try clear hx268_0
                try clear hx268_1
                try clear hx268_2
                try clear hx268_3
                try clear hx277_0
                try clear hx277_1
                try clear hx277_2
                try clear hx277_3
                try clear hx279_0
                try clear hx279_1
                try clear hx279_2
                try clear hx279_3
                try clear p2
                try clear p26
                try clear p268
                try clear p27
                try clear p277
                try clear p279
                try clear p6
                try clear p64
                try clear q2
                try clear q26
                try clear q268
                try clear q27
                try clear q277
                try clear q279
                obtain ⟨x18_7, x19_7, rfl, rfl, HA, HK7, HO_12, BK278, BK280, BK281, HB⟩ := hrel
                cases gk with
                | zero => exact absurd HA.out (by simp [spec_QtyIn.l3])
                | succ k7 =>
                 have H := HA.out
                 clear HA
                 simp only [spec_QtyIn.l3] at H
                 by_cases c76 : x19_7 < (x12_4.length : Int)
                 ·rw [if_pos c76] at H
                  have c76b0 : decide (x19_7 < (x12_4.length : Int)) = true := decide_eq_true c76
                  clear c76
                  by_cases c77 : 0 ≤ x19_7
                  case neg => rw [if_neg c77] at H; exact absurd H (by simp)
                  rw [if_pos c77] at H
                  have c77b0 : decide (0 ≤ x19_7) = true := decide_eq_true c77
                  clear c77
                  by_cases c78 : ((rd_T127 x12_4 x19_7).f0).toList = x282000_48.toList
                  ·rw [if_pos c78] at H
                   have c78b0 : (((rd_T127 x12_4 x19_7).f0).toList == x282000_48.toList) = true := beq_iff_eq.mpr c78
                   have c78b1 : (((rd_T127 x12_4 x19_7).f0).toList != x282000_48.toList) = false := bne_eq_false_iff_eq.mpr c78
                   clear c78
                   have H' := Aside0.mk H
                   clear H
                   obtain ⟨Ao79, co79, eo79⟩ := Kd.qo1 HO_12.out
                   subst eo79
                   have p282 : 0 ≤ (x19_7 : Int) := of_decide_eq_true (by first | (with_reducible assumption) | assumption)
                   have q282 : x19_7 < (x12_4.length : Int) := of_decide_eq_true (by first | (with_reducible assumption) | assumption)
                   obtain ⟨ad282, e282, hx282_0, hx282_1, hx282_2, hx282_3⟩ := at_T127 (Kd.R_reads' HO_12.out).2.2 x19_7 p282 q282
                   cases e282
                   replace p282 := eq_true p282
                   replace q282 := eq_true q282
                   have hnb80 := NB281_278.out
                   have hnc80 := NB278_281.out
                   have hnb81 := NB281_280.out
                   have hnc81 := NB280_281.out
                   have hcz82_0 : wr.cell? ⟨gb281, 0, none⟩ = some (.string x282000_48) := (qh0 BK281.out 0).trans rfl
                   have hcz82_1 : wr.cell? ⟨gb281, 1, none⟩ = some (.int .i64 x282001_48) := (qh0 BK281.out 1).trans rfl
                   have hcz82_2 : wr.cell? ⟨gb281, 2, none⟩ = some (.int .i64 x282002_48) := (qh0 BK281.out 2).trans rfl
                   have hcz82_3 : wr.cell? ⟨gb281, 3, none⟩ = some (.int .i64 (wrap64 (((rd_T127 x12_3 x13_3).f3) + 1))) := (qh0 BK281.out 3).trans rfl
                   have hfz82_0 := qb0 BK281.out 0
                   have hfz82_1 := qb0 BK281.out 1
                   have hfz82_2 := qb0 BK281.out 2
                   have hfz82_3 := qb0 BK281.out 3
                   go_wp2
                   repeat (go_quiet (fail); try go_wp2)
                   go_roundg k7
                   case measure => have := HJ4.out; have := HK2.out; have := HK3.out; have := HK4.out; have := HJ42.out; have := HJ48.out; have := HK7.out; omega
                   case rel => exact ⟨(true), (wrap64 (x19_7 + 1)), (by first | rfl | (simp; done) | (simp [*]; done)), (by first | rfl | (simp; done) | (simp [*]; done)), H', ⟨by have := HJ4.out; have := HK2.out; have := HK3.out; have := HK4.out; have := HJ42.out; have := HJ48.out; have := HK7.out; omega⟩, ⟨by (with_reducible repeat (first | apply Kd.qk0 | apply Kd.qj0 | apply Kd.qm0)); exact HO_12.out⟩, ⟨by (with_reducible repeat (first | refine qe0 ?_ _ | refine qg0 ?_ | refine qf0 ?_ _)); exact BK278.out⟩, ⟨by (with_reducible repeat (first | refine qe0 ?_ _ | refine qg0 ?_ | refine qf0 ?_ _)); exact BK280.out⟩, ⟨by (with_reducible repeat (first | refine qe0 ?_ _ | refine qg0 ?_ | refine qf0 ?_ _)); exact BK281.out⟩, ⟨by repeat (first | (with_reducible first | exact HB.out | apply qc0 | apply qa0 | apply qd0 | refine qi0 ?_ GE278.out | refine qi0 ?_ GE280.out | refine qi0 ?_ GE281.out) | exact HB.out)⟩⟩
                  rw [if_neg c78] at H
                  have c78b0 : (((rd_T127 x12_4 x19_7).f0).toList == x282000_48.toList) = false := beq_eq_false_iff_ne.mpr c78
                  have c78b1 : (((rd_T127 x12_4 x19_7).f0).toList != x282000_48.toList) = true := bne_iff_ne.mpr c78
                  have H' := Aside0.mk H
                  clear H
                  obtain ⟨Ao83, co83, eo83⟩ := Kd.qo1 HO_12.out
                  subst eo83
                  have p282 : 0 ≤ (x19_7 : Int) := of_decide_eq_true (by first | (with_reducible assumption) | assumption)
                  have q282 : x19_7 < (x12_4.length : Int) := of_decide_eq_true (by first | (with_reducible assumption) | assumption)
                  obtain ⟨ad282, e282, hx282_0, hx282_1, hx282_2, hx282_3⟩ := at_T127 (Kd.R_reads' HO_12.out).2.2 x19_7 p282 q282
                  cases e282
                  replace p282 := eq_true p282
                  replace q282 := eq_true q282
                  have hnb84 := NB281_278.out
                  have hnc84 := NB278_281.out
                  have hnb85 := NB281_280.out
                  have hnc85 := NB280_281.out
                  have hcz86_0 : wr.cell? ⟨gb281, 0, none⟩ = some (.string x282000_48) := (qh0 BK281.out 0).trans rfl
                  have hcz86_1 : wr.cell? ⟨gb281, 1, none⟩ = some (.int .i64 x282001_48) := (qh0 BK281.out 1).trans rfl
                  have hcz86_2 : wr.cell? ⟨gb281, 2, none⟩ = some (.int .i64 x282002_48) := (qh0 BK281.out 2).trans rfl
                  have hcz86_3 : wr.cell? ⟨gb281, 3, none⟩ = some (.int .i64 (wrap64 (((rd_T127 x12_3 x13_3).f3) + 1))) := (qh0 BK281.out 3).trans rfl
                  have hfz86_0 := qb0 BK281.out 0
                  have hfz86_1 := qb0 BK281.out 1
                  have hfz86_2 := qb0 BK281.out 2
                  have hfz86_3 := qb0 BK281.out 3
                  go_wp2
                  repeat (go_quiet (fail); try go_wp2)
                  go_roundg k7
                  case measure => have := HJ4.out; have := HK2.out; have := HK3.out; have := HK4.out; have := HJ42.out; have := HJ48.out; have := HK7.out; omega
                  case rel => exact ⟨(x18_7), (wrap64 (x19_7 + 1)), (by first | rfl | (simp; done) | (simp [*]; done)), (by first | rfl | (simp; done) | (simp [*]; done)), H', ⟨by have := HJ4.out; have := HK2.out; have := HK3.out; have := HK4.out; have := HJ42.out; have := HJ48.out; have := HK7.out; omega⟩, ⟨by (with_reducible repeat (first | apply Kd.qk0 | apply Kd.qj0 | apply Kd.qm0)); exact HO_12.out⟩, ⟨by (with_reducible repeat (first | refine qe0 ?_ _ | refine qg0 ?_ | refine qf0 ?_ _)); exact BK278.out⟩, ⟨by (with_reducible repeat (first | refine qe0 ?_ _ | refine qg0 ?_ | refine qf0 ?_ _)); exact BK280.out⟩, ⟨by (with_reducible repeat (first | refine qe0 ?_ _ | refine qg0 ?_ | refine qf0 ?_ _)); exact BK281.out⟩, ⟨by repeat (first | (with_reducible first | exact HB.out | apply qc0 | apply qa0 | apply qd0 | refine qi0 ?_ GE278.out | refine qi0 ?_ GE280.out | refine qi0 ?_ GE281.out) | exact HB.out)⟩⟩
                 rw [if_neg c76] at H
                 have c76b0 : decide (x19_7 < (x12_4.length : Int)) = false := decide_eq_false c76
                 clear c76
                 by_cases c87 : x18_7 = true
                 ·subst c87
                  have H1 : (spec_QtyIn.l2 k7 l0 a1 a3 x12_4 x13_3 (wrap64 (x15_4 + 1)) ((rd_T127 x12_3 x13_3).f0) ((rd_T127 x12_3 x13_3).f1) ((rd_T127 x12_3 x13_3).f2) ((rd_T127 x12_3 x13_3).f3)) = some (r1, r2) := by rw [if_pos rfl] at H; exact H
                  clear H
                  have H := H1
                  clear H1
                  have H' := Aside0.mk H
                  clear H
                  obtain ⟨Ao88, co88, eo88⟩ := Kd.qo1 HO_12.out
                  subst eo88
                  go_wp2
                  repeat (go_quiet (fail); try go_wp2)
                  go_roundg k7
                  case measure => have := HJ4.out; have := HK2.out; have := HK3.out; have := HK4.out; have := HJ42.out; have := HJ48.out; have := HK7.out; omega
                  case rel => exact ⟨(x12_4), (wrap64 (x15_4 + 1)), (by first | rfl | (simp; done) | (simp [*]; done)), H', ⟨by have := HJ4.out; have := HK2.out; have := HK3.out; have := HK4.out; have := HJ42.out; have := HJ48.out; have := HK7.out; omega⟩, ⟨by (with_reducible repeat (first | apply Kd.qk0 | apply Kd.qj0 | apply Kd.qm0)); exact Kd.qz0 HO_12.out (fun _ hk => hk.1)⟩, ⟨by (with_reducible repeat (first | refine qe0 ?_ _ | refine qg0 ?_ | refine qf0 ?_ _)); exact BK278.out⟩, ⟨by repeat (first | (with_reducible first | exact HB.out | apply qc0 | apply qa0 | apply qd0 | refine qi0 ?_ GE278.out | refine qi0 ?_ GE280.out | refine qi0 ?_ GE281.out) | exact HB.out)⟩⟩
                 replace c87 := Bool.eq_false_iff.mpr c87
                 subst c87
                 have H1 : (if x12_4.length < 3518437208883 then (spec_QtyIn.l2 k7 l0 a1 a3 (x12_4 ++ [(⟨x282000_48, x282001_48, x282002_48, (wrap64 (((rd_T127 x12_3 x13_3).f3) + 1))⟩ : S127)]) x13_3 (wrap64 (x15_4 + 1)) ((rd_T127 x12_3 x13_3).f0) ((rd_T127 x12_3 x13_3).f1) ((rd_T127 x12_3 x13_3).f2) ((rd_T127 x12_3 x13_3).f3)) else (none)) = some (r1, r2) := by rw [if_neg (show ¬ (false = true) by decide)] at H; exact H
                 clear H
                 have H := H1
                 clear H1
                 by_cases c89 : x12_4.length < 3518437208883
                 case neg => rw [if_neg c89] at H; exact absurd H (by simp)
                 rw [if_pos c89] at H
                 have LMc89 := Aside0.mk c89
                 clear c89
                 obtain ⟨y283, hy283⟩ : ∃ y_ : List (S127), y_ = (x12_4 ++ [(⟨x282000_48, x282001_48, x282002_48, (wrap64 (((rd_T127 x12_3 x13_3).f3) + 1))⟩ : S127)]) := ⟨_, rfl⟩
                 replace H : (spec_QtyIn.l2 k7 l0 a1 a3 y283 x13_3 (wrap64 (x15_4 + 1)) ((rd_T127 x12_3 x13_3).f0) ((rd_T127 x12_3 x13_3).f1) ((rd_T127 x12_3 x13_3).f2) ((rd_T127 x12_3 x13_3).f3)) = some (r1, r2) := by first | (rw [hy283]; with_reducible exact H) | (have H2_ := (Option.bind_some _ _).symm.trans H; rw [hy283]; with_reducible exact H2_) | (have H2_ := (Option.bind_some _ _).symm.trans H; with_reducible exact H2_) | with_reducible exact H | (rw [hy283]; exact H) | exact H
                 have Ny283 := Aside0.mk hy283
                 clear hy283
                 have H' := Aside0.mk H
                 clear H
                 obtain ⟨Ao90, co90, eo90⟩ := Kd.qo1 HO_12.out
                 subst eo90
                 have hnb91 := NB281_278.out
                 have hnc91 := NB278_281.out
                 have hnb92 := NB281_280.out
                 have hnc92 := NB280_281.out
                 have hcz93_0 : wr.cell? ⟨gb281, 0, none⟩ = some (.string x282000_48) := (qh0 BK281.out 0).trans rfl
                 have hcz93_1 : wr.cell? ⟨gb281, 1, none⟩ = some (.int .i64 x282001_48) := (qh0 BK281.out 1).trans rfl
                 have hcz93_2 : wr.cell? ⟨gb281, 2, none⟩ = some (.int .i64 x282002_48) := (qh0 BK281.out 2).trans rfl
                 have hcz93_3 : wr.cell? ⟨gb281, 3, none⟩ = some (.int .i64 (wrap64 (((rd_T127 x12_3 x13_3).f3) + 1))) := (qh0 BK281.out 3).trans rfl
                 have hfz93_0 := qb0 BK281.out 0
                 have hfz93_1 := qb0 BK281.out 1
                 have hfz93_2 := qb0 BK281.out 2
                 have hfz93_3 := qb0 BK281.out 3
                 go_wp2_with (first | ((with_reducible refine qe1 (b := .append) (xs := #[.tmp 166, .tmp 168]) rfl ?_); at_builtin; refine Kd.R_append k127 (w0 := w) w.heap.size rfl (.tmp 166) (.tmp 168) 128 127 (.agg #[(.string ⟨#[]⟩), (.int .i64 0), (.int .i64 0), (.int .i64 0)]) 40 rfl Try.underlying128 info127 rfl (by decide) (by omega) (.slice Ao90 x12_4.length co90) x12_4 (⟨x282000_48, x282001_48, x282002_48, (wrap64 (((rd_T127 x12_3 x13_3).f3) + 1))⟩ : S127) [.string x282000_48, .int .i64 x282001_48, .int .i64 x282002_48, .int .i64 (wrap64 (((rd_T127 x12_3 x13_3).f3) + 1))] (fun k_ => k_ ≠ gb278 ∧ k_ ≠ gb281) (fun _ => False) rfl rfl ?aP (fun _ hk => hk.elim) ?aF ?aO ?aB ?aS ?aL ?_; (case aP => exact k127_mkM _ _ _ (⟨x282000_48, x282001_48, x282002_48, (wrap64 (((rd_T127 x12_3 x13_3).f3) + 1))⟩ : S127)); (case aB => exact (by repeat (first | (with_reducible first | exact HB.out | apply qc0 | apply qa0 | apply qd0 | refine qi0 ?_ GE278.out | refine qi0 ?_ GE280.out | refine qi0 ?_ GE281.out) | exact HB.out))); (case aF => exact (fun k_ hk => ⟨Kd.freshB (g := gb278) (o := .cells #[.string ((rd_T127 x12_3 x13_3).f0), .int .i64 ((rd_T127 x12_3 x13_3).f1), .int .i64 ((rd_T127 x12_3 x13_3).f2), .int .i64 ((rd_T127 x12_3 x13_3).f3)] 127 (0, 0)) (by (with_reducible repeat (first | refine qe0 ?_ _ | refine qg0 ?_ | refine qf0 ?_ _)); exact BK278.out) k_ hk, Kd.freshB (g := gb281) (o := .cells #[.string x282000_48, .int .i64 x282001_48, .int .i64 x282002_48, .int .i64 (wrap64 (((rd_T127 x12_3 x13_3).f3) + 1))] 127 (0, 0)) (by (with_reducible repeat (first | refine qe0 ?_ _ | refine qg0 ?_ | refine qf0 ?_ _)); exact BK281.out) k_ hk⟩)); (case aO => exact (by (with_reducible repeat (first | apply Kd.qk0 | apply Kd.qj0 | apply Kd.qm0)); exact HO_12.out)); (case aS => exact (ql0 (by repeat (first | (with_reducible first | exact HB.out | apply qc0 | apply qa0 | apply qd0 | refine qi0 ?_ GE278.out | refine qi0 ?_ GE280.out | refine qi0 ?_ GE281.out) | exact HB.out)))); (case aL => have := LMc89.out; omega); intro v284 w94 ho hb hg hat; rw [← Ny283.out] at ho; have n0_ := Aside0.mk (qx0 (g := gb278) (o := .cells #[.string ((rd_T127 x12_3 x13_3).f0), .int .i64 ((rd_T127 x12_3 x13_3).f1), .int .i64 ((rd_T127 x12_3 x13_3).f2), .int .i64 ((rd_T127 x12_3 x13_3).f3)] 127 (0, 0)) (by (with_reducible repeat (first | refine qe0 ?_ _ | refine qg0 ?_ | refine qf0 ?_ _)); exact BK278.out) hg (Kd.R_away HO_12.out (fun _ hk => hk.1))); have n1_ := Aside0.mk (qx0 (g := gb280) (o := .cells #[.string ((rd_T35 l0 x15_4).f0), .string ((rd_T35 l0 x15_4).f1), .int .i64 ((rd_T35 l0 x15_4).f2), .int .i64 ((rd_T35 l0 x15_4).f3)] 35 (0, 0)) (by (with_reducible repeat (first | refine qe0 ?_ _ | refine qg0 ?_ | refine qf0 ?_ _)); exact BK280.out) hg (Kd.R_ne HO_12.out BK280.out (by decide))); have n2_ := Aside0.mk (qx0 (g := gb281) (o := .cells #[.string x282000_48, .int .i64 x282001_48, .int .i64 x282002_48, .int .i64 (wrap64 (((rd_T127 x12_3 x13_3).f3) + 1))] 127 (0, 0)) (by (with_reducible repeat (first | refine qe0 ?_ _ | refine qg0 ?_ | refine qf0 ?_ _)); exact BK281.out) hg (Kd.R_away HO_12.out (fun _ hk => hk.2))); have n3_ := Aside0.mk (hb); have n4_ := Aside0.mk (ho); clear BK278; clear BK280; clear BK281; clear HB; clear HO_12; have BK278 := n0_; have BK280 := n1_; have BK281 := n2_; have HB := n3_; have HO285 := n4_; clear n0_ n1_ n2_ n3_ n4_; clear ho hb hg hat))
                 repeat (go_quiet (first | ((with_reducible refine qe1 (b := .append) (xs := #[.tmp 166, .tmp 168]) rfl ?_); at_builtin; refine Kd.R_append k127 (w0 := w) w.heap.size rfl (.tmp 166) (.tmp 168) 128 127 (.agg #[(.string ⟨#[]⟩), (.int .i64 0), (.int .i64 0), (.int .i64 0)]) 40 rfl Try.underlying128 info127 rfl (by decide) (by omega) (.slice Ao90 x12_4.length co90) x12_4 (⟨x282000_48, x282001_48, x282002_48, (wrap64 (((rd_T127 x12_3 x13_3).f3) + 1))⟩ : S127) [.string x282000_48, .int .i64 x282001_48, .int .i64 x282002_48, .int .i64 (wrap64 (((rd_T127 x12_3 x13_3).f3) + 1))] (fun k_ => k_ ≠ gb278 ∧ k_ ≠ gb281) (fun _ => False) rfl rfl ?aP (fun _ hk => hk.elim) ?aF ?aO ?aB ?aS ?aL ?_; (case aP => exact k127_mkM _ _ _ (⟨x282000_48, x282001_48, x282002_48, (wrap64 (((rd_T127 x12_3 x13_3).f3) + 1))⟩ : S127)); (case aB => exact (by repeat (first | (with_reducible first | exact HB.out | apply qc0 | apply qa0 | apply qd0 | refine qi0 ?_ GE278.out | refine qi0 ?_ GE280.out | refine qi0 ?_ GE281.out) | exact HB.out))); (case aF => exact (fun k_ hk => ⟨Kd.freshB (g := gb278) (o := .cells #[.string ((rd_T127 x12_3 x13_3).f0), .int .i64 ((rd_T127 x12_3 x13_3).f1), .int .i64 ((rd_T127 x12_3 x13_3).f2), .int .i64 ((rd_T127 x12_3 x13_3).f3)] 127 (0, 0)) (by (with_reducible repeat (first | refine qe0 ?_ _ | refine qg0 ?_ | refine qf0 ?_ _)); exact BK278.out) k_ hk, Kd.freshB (g := gb281) (o := .cells #[.string x282000_48, .int .i64 x282001_48, .int .i64 x282002_48, .int .i64 (wrap64 (((rd_T127 x12_3 x13_3).f3) + 1))] 127 (0, 0)) (by (with_reducible repeat (first | refine qe0 ?_ _ | refine qg0 ?_ | refine qf0 ?_ _)); exact BK281.out) k_ hk⟩)); (case aO => exact (by (with_reducible repeat (first | apply Kd.qk0 | apply Kd.qj0 | apply Kd.qm0)); exact HO_12.out)); (case aS => exact (ql0 (by repeat (first | (with_reducible first | exact HB.out | apply qc0 | apply qa0 | apply qd0 | refine qi0 ?_ GE278.out | refine qi0 ?_ GE280.out | refine qi0 ?_ GE281.out) | exact HB.out)))); (case aL => have := LMc89.out; omega); intro v284 w94 ho hb hg hat; rw [← Ny283.out] at ho; have n0_ := Aside0.mk (qx0 (g := gb278) (o := .cells #[.string ((rd_T127 x12_3 x13_3).f0), .int .i64 ((rd_T127 x12_3 x13_3).f1), .int .i64 ((rd_T127 x12_3 x13_3).f2), .int .i64 ((rd_T127 x12_3 x13_3).f3)] 127 (0, 0)) (by (with_reducible repeat (first | refine qe0 ?_ _ | refine qg0 ?_ | refine qf0 ?_ _)); exact BK278.out) hg (Kd.R_away HO_12.out (fun _ hk => hk.1))); have n1_ := Aside0.mk (qx0 (g := gb280) (o := .cells #[.string ((rd_T35 l0 x15_4).f0), .string ((rd_T35 l0 x15_4).f1), .int .i64 ((rd_T35 l0 x15_4).f2), .int .i64 ((rd_T35 l0 x15_4).f3)] 35 (0, 0)) (by (with_reducible repeat (first | refine qe0 ?_ _ | refine qg0 ?_ | refine qf0 ?_ _)); exact BK280.out) hg (Kd.R_ne HO_12.out BK280.out (by decide))); have n2_ := Aside0.mk (qx0 (g := gb281) (o := .cells #[.string x282000_48, .int .i64 x282001_48, .int .i64 x282002_48, .int .i64 (wrap64 (((rd_T127 x12_3 x13_3).f3) + 1))] 127 (0, 0)) (by (with_reducible repeat (first | refine qe0 ?_ _ | refine qg0 ?_ | refine qf0 ?_ _)); exact BK281.out) hg (Kd.R_away HO_12.out (fun _ hk => hk.2))); have n3_ := Aside0.mk (hb); have n4_ := Aside0.mk (ho); clear BK278; clear BK280; clear BK281; clear HB; clear HO_12; have BK278 := n0_; have BK280 := n1_; have BK281 := n2_; have HB := n3_; have HO285 := n4_; clear n0_ n1_ n2_ n3_ n4_; clear ho hb hg hat)); try go_wp2_with (first | ((with_reducible refine qe1 (b := .append) (xs := #[.tmp 166, .tmp 168]) rfl ?_); at_builtin; refine Kd.R_append k127 (w0 := w) w.heap.size rfl (.tmp 166) (.tmp 168) 128 127 (.agg #[(.string ⟨#[]⟩), (.int .i64 0), (.int .i64 0), (.int .i64 0)]) 40 rfl Try.underlying128 info127 rfl (by decide) (by omega) (.slice Ao90 x12_4.length co90) x12_4 (⟨x282000_48, x282001_48, x282002_48, (wrap64 (((rd_T127 x12_3 x13_3).f3) + 1))⟩ : S127) [.string x282000_48, .int .i64 x282001_48, .int .i64 x282002_48, .int .i64 (wrap64 (((rd_T127 x12_3 x13_3).f3) + 1))] (fun k_ => k_ ≠ gb278 ∧ k_ ≠ gb281) (fun _ => False) rfl rfl ?aP (fun _ hk => hk.elim) ?aF ?aO ?aB ?aS ?aL ?_; (case aP => exact k127_mkM _ _ _ (⟨x282000_48, x282001_48, x282002_48, (wrap64 (((rd_T127 x12_3 x13_3).f3) + 1))⟩ : S127)); (case aB => exact (by repeat (first | (with_reducible first | exact HB.out | apply qc0 | apply qa0 | apply qd0 | refine qi0 ?_ GE278.out | refine qi0 ?_ GE280.out | refine qi0 ?_ GE281.out) | exact HB.out))); (case aF => exact (fun k_ hk => ⟨Kd.freshB (g := gb278) (o := .cells #[.string ((rd_T127 x12_3 x13_3).f0), .int .i64 ((rd_T127 x12_3 x13_3).f1), .int .i64 ((rd_T127 x12_3 x13_3).f2), .int .i64 ((rd_T127 x12_3 x13_3).f3)] 127 (0, 0)) (by (with_reducible repeat (first | refine qe0 ?_ _ | refine qg0 ?_ | refine qf0 ?_ _)); exact BK278.out) k_ hk, Kd.freshB (g := gb281) (o := .cells #[.string x282000_48, .int .i64 x282001_48, .int .i64 x282002_48, .int .i64 (wrap64 (((rd_T127 x12_3 x13_3).f3) + 1))] 127 (0, 0)) (by (with_reducible repeat (first | refine qe0 ?_ _ | refine qg0 ?_ | refine qf0 ?_ _)); exact BK281.out) k_ hk⟩)); (case aO => exact (by (with_reducible repeat (first | apply Kd.qk0 | apply Kd.qj0 | apply Kd.qm0)); exact HO_12.out)); (case aS => exact (ql0 (by repeat (first | (with_reducible first | exact HB.out | apply qc0 | apply qa0 | apply qd0 | refine qi0 ?_ GE278.out | refine qi0 ?_ GE280.out | refine qi0 ?_ GE281.out) | exact HB.out)))); (case aL => have := LMc89.out; omega); intro v284 w94 ho hb hg hat; rw [← Ny283.out] at ho; have n0_ := Aside0.mk (qx0 (g := gb278) (o := .cells #[.string ((rd_T127 x12_3 x13_3).f0), .int .i64 ((rd_T127 x12_3 x13_3).f1), .int .i64 ((rd_T127 x12_3 x13_3).f2), .int .i64 ((rd_T127 x12_3 x13_3).f3)] 127 (0, 0)) (by (with_reducible repeat (first | refine qe0 ?_ _ | refine qg0 ?_ | refine qf0 ?_ _)); exact BK278.out) hg (Kd.R_away HO_12.out (fun _ hk => hk.1))); have n1_ := Aside0.mk (qx0 (g := gb280) (o := .cells #[.string ((rd_T35 l0 x15_4).f0), .string ((rd_T35 l0 x15_4).f1), .int .i64 ((rd_T35 l0 x15_4).f2), .int .i64 ((rd_T35 l0 x15_4).f3)] 35 (0, 0)) (by (with_reducible repeat (first | refine qe0 ?_ _ | refine qg0 ?_ | refine qf0 ?_ _)); exact BK280.out) hg (Kd.R_ne HO_12.out BK280.out (by decide))); have n2_ := Aside0.mk (qx0 (g := gb281) (o := .cells #[.string x282000_48, .int .i64 x282001_48, .int .i64 x282002_48, .int .i64 (wrap64 (((rd_T127 x12_3 x13_3).f3) + 1))] 127 (0, 0)) (by (with_reducible repeat (first | refine qe0 ?_ _ | refine qg0 ?_ | refine qf0 ?_ _)); exact BK281.out) hg (Kd.R_away HO_12.out (fun _ hk => hk.2))); have n3_ := Aside0.mk (hb); have n4_ := Aside0.mk (ho); clear BK278; clear BK280; clear BK281; clear HB; clear HO_12; have BK278 := n0_; have BK280 := n1_; have BK281 := n2_; have HB := n3_; have HO285 := n4_; clear n0_ n1_ n2_ n3_ n4_; clear ho hb hg hat)))
                 go_roundg k7
                 case measure => have := HJ4.out; have := HK2.out; have := HK3.out; have := HK4.out; have := HJ42.out; have := HJ48.out; have := HK7.out; omega
                 case rel => exact ⟨(y283), (wrap64 (x15_4 + 1)), (by first | rfl | (simp; done) | (simp [*]; done)), H', ⟨by have := HJ4.out; have := HK2.out; have := HK3.out; have := HK4.out; have := HJ42.out; have := HJ48.out; have := HK7.out; omega⟩, ⟨by (with_reducible repeat (first | apply Kd.qk0 | apply Kd.qj0 | apply Kd.qm0)); exact Kd.qz0 HO285.out (fun _ hk => hk.1)⟩, ⟨by (with_reducible repeat (first | refine qe0 ?_ _ | refine qg0 ?_ | refine qf0 ?_ _)); exact BK278.out⟩, ⟨by repeat (first | (with_reducible first | exact HB.out | apply qc0 | apply qa0 | apply qd0 | refine qi0 ?_ GE278.out | refine qi0 ?_ GE280.out | refine qi0 ?_ GE281.out) | exact HB.out)⟩⟩
            replace c46 := Bool.eq_false_iff.mpr c46
            subst c46
            have H1 : (spec_QtyIn.l1 kj42 l0 a1 a3 x12_4 (wrap64 (x13_3 + 1))) = some (r1, r2) := by rw [if_neg (show ¬ (false = true) by decide)] at H; exact H
            clear H
            have H := H1
            clear H1
            have H' := Aside0.mk H
            clear H
            go_wp2
            repeat (go_quiet (fail); try go_wp2)
            go_roundg kj42
            case measure => have := HJ4.out; have := HK2.out; have := HK3.out; have := HK4.out; have := HJ42.out; omega
            case rel => exact ⟨(x12_4), (wrap64 (x13_3 + 1)), (by first | rfl | (simp; done) | (simp [*]; done)), H', ⟨by have := HJ4.out; have := HK2.out; have := HK3.out; have := HK4.out; have := HJ42.out; omega⟩, ⟨by (with_reducible repeat (first | apply Kd.qk0 | apply Kd.qj0 | apply Kd.qm0)); exact Kd.qz0 HO_12.out (fun _ hk => trivial)⟩, ⟨by repeat (first | (with_reducible first | exact HB.out | apply qc0 | apply qa0 | apply qd0 | refine qi0 ?_ GE278.out) | exact HB.out)⟩⟩
       rw [if_neg c38] at H
       have c38b0 : decide (x13_3 < (x12_3.length : Int)) = false := decide_eq_false c38
       clear c38
       have H' := Aside0.mk H
       clear H
       obtain ⟨Ao95, co95, eo95⟩ := Kd.qo1 HO_12.out
       subst eo95
       go_wp2
       repeat (go_quiet (fail); try go_wp2)
       go_loopg [20] k3 (fun kq v20 w' => ∃ (x20_4 : Int), v20 = .int .i64 x20_4 ∧ Aside0 (spec_QtyIn.l4 kq a1 a3 x12_3 x20_4 = some (r1, r2)) ∧ Aside0 (kq ≤ k3) ∧ Aside0 (Kd.R k127 127 w' w.heap.size (fun _ => True) (.slice Ao95 x12_3.length co95) x12_3) ∧ Aside0 (Below w.heap.size w w'))
       case atStart => exact ⟨(0), (by first | rfl | (simp; done) | (simp [*]; done)), H', ⟨Nat.le_refl _⟩, ⟨by (with_reducible repeat (first | apply Kd.qk0 | apply Kd.qj0 | apply Kd.qm0)); exact HO_12.out⟩, ⟨by repeat (first | (with_reducible first | exact HB.out | apply qc0 | apply qa0 | apply qd0) | exact HB.out)⟩⟩
       case round =>
        clear H'
        try clear c1
        try clear c2
        try clear p2
        try clear q2
        try clear hx2
        try clear c3
        try clear c4
        try clear c5
        try clear c6
        try clear c6b0
        try clear c6b1
        try clear p6
        try clear c7
        try clear c8
        try clear c9
        try clear c10
        try clear c12
        try clear c13
        try clear c13b0
        try clear c14
        try clear c14b0
        try clear c16
        try clear c18
        try clear c19
        try clear c19b0
        try clear c19b1
        try clear c23
        try clear c25
        try clear p26
        try clear q26
        try clear hx26
        try clear p27
        try clear q27
        try clear hx27
        try clear p28
        try clear q28
        try clear hx28
        try clear c38
        try clear c38b0
        try clear c39
        try clear c39b0
        try clear c44
        try clear c44b0
        try clear c46
        try clear c47
        try clear c47b0
        try clear c48
        try clear c48b0
        try clear c51
        try clear c55
        try clear c56
        try clear c59
        try clear c59b0
        try clear c59b1
        try clear c60
        try clear c61
        try clear c63
        try clear p64
        try clear c66
        try clear c66b0
        try clear c66b1
        try clear c67
        try clear c68
        try clear c70
        try clear c73
        try clear c74
        try clear c76
        try clear c76b0
        try clear c77
        try clear c77b0
        try clear c78
        try clear c78b0
        try clear c78b1
        try clear c80
        try clear c81
        try clear c84
        try clear c85
        try clear c87
        try clear c89
        try clear c91
        try clear c92
        try clear hcz21_0
        try clear hcz21_1
        try clear hcz21_2
        try clear hcz21_3
        try clear hcz27_0
        try clear hcz27_1
        try clear hcz27_2
        try clear hcz27_3
        try clear hcz29_0
        try clear hcz29_1
        try clear hcz29_2
        try clear hcz29_3
        try clear hcz31_0
        try clear hcz31_1
        try clear hcz31_2
        try clear hcz31_3
        try clear hcz33_0
        try clear hcz33_1
        try clear hcz33_2
        try clear hcz33_3
        try clear hcz35_0
        try clear hcz35_1
        try clear hcz35_2
        try clear hcz35_3
        try clear hcz42_0
        try clear hcz42_1
        try clear hcz42_2
        try clear hcz42_3
        try clear hcz45_0
        try clear hcz45_1
        try clear hcz45_2
        try clear hcz45_3
        try clear hcz52_0
        try clear hcz52_1
        try clear hcz52_2
        try clear hcz52_3
        try clear hcz53_0
        try clear hcz53_1
        try clear hcz53_2
        try clear hcz53_3
        try clear hcz57_0
        try clear hcz57_1
        try clear hcz57_2
        try clear hcz57_3
        try clear hcz58_0
        try clear hcz58_1
        try clear hcz58_2
        try clear hcz58_3
        try clear hcz62_0
        try clear hcz62_1
        try clear hcz62_2
        try clear hcz62_3
        try clear hcz64_0
        try clear hcz64_1
        try clear hcz64_2
        try clear hcz64_3
        try clear hcz65_0
        try clear hcz65_1
        try clear hcz65_2
        try clear hcz65_3
        try clear hcz69_0
        try clear hcz69_1
        try clear hcz69_2
        try clear hcz69_3
        try clear hcz71_0
        try clear hcz71_1
        try clear hcz71_2
        try clear hcz71_3
        try clear hcz72_0
        try clear hcz72_1
        try clear hcz72_2
        try clear hcz72_3
        try clear hcz75_0
        try clear hcz75_1
        try clear hcz75_2
        try clear hcz75_3
        try clear hcz82_0
        try clear hcz82_1
        try clear hcz82_2
        try clear hcz82_3
        try clear hcz86_0
        try clear hcz86_1
        try clear hcz86_2
        try clear hcz86_3
        try clear hcz93_0
        try clear hcz93_1
        try clear hcz93_2
        try clear hcz93_3
        try clear hfz21_0
        try clear hfz21_1
        try clear hfz21_2
        try clear hfz21_3
        try clear hfz27_0
        try clear hfz27_1
        try clear hfz27_2
        try clear hfz27_3
        try clear hfz29_0
        try clear hfz29_1
        try clear hfz29_2
        try clear hfz29_3
        try clear hfz31_0
        try clear hfz31_1
        try clear hfz31_2
        try clear hfz31_3
        try clear hfz33_0
        try clear hfz33_1
        try clear hfz33_2
        try clear hfz33_3
        try clear hfz35_0
        try clear hfz35_1
        try clear hfz35_2
        try clear hfz35_3
        try clear hfz42_0
        try clear hfz42_1
        try clear hfz42_2
        try clear hfz42_3
        try clear hfz45_0
        try clear hfz45_1
        try clear hfz45_2
        try clear hfz45_3
        try clear hfz52_0
        try clear hfz52_1
        try clear hfz52_2
        try clear hfz52_3
        try clear hfz53_0
        try clear hfz53_1
        try clear hfz53_2
        try clear hfz53_3
        try clear hfz57_0
        try clear hfz57_1
        try clear hfz57_2
        try clear hfz57_3
        try clear hfz58_0
        try clear hfz58_1
        try clear hfz58_2
        try clear hfz58_3
        try clear hfz62_0
        try clear hfz62_1
        try clear hfz62_2
        try clear hfz62_3
        try clear hfz64_0
        try clear hfz64_1
        try clear hfz64_2
        try clear hfz64_3
        try clear hfz65_0
        try clear hfz65_1
        try clear hfz65_2
        try clear hfz65_3
        try clear hfz69_0
        try clear hfz69_1
        try clear hfz69_2
        try clear hfz69_3
        try clear hfz71_0
        try clear hfz71_1
        try clear hfz71_2
        try clear hfz71_3
        try clear hfz72_0
        try clear hfz72_1
        try clear hfz72_2
        try clear hfz72_3
        try clear hfz75_0
        try clear hfz75_1
        try clear hfz75_2
        try clear hfz75_3
        try clear hfz82_0
        try clear hfz82_1
        try clear hfz82_2
        try clear hfz82_3
        try clear hfz86_0
        try clear hfz86_1
        try clear hfz86_2
        try clear hfz86_3
        try clear hfz93_0
        try clear hfz93_1
        try clear hfz93_2
        try clear hfz93_3
        try clear hx268_0
        try clear hx268_1
        try clear hx268_2
        try clear hx268_3
        try clear hx277_0
        try clear hx277_1
        try clear hx277_2
        try clear hx277_3
        try clear hx279_0
        try clear hx279_1
        try clear hx279_2
        try clear hx279_3
        try clear hx282_0
        try clear hx282_1
        try clear hx282_2
        try clear hx282_3
        try clear p2
        try clear p26
        try clear p268
        try clear p27
        try clear p277
        try clear p279
        try clear p282
        try clear p6
        try clear p64
        try clear q2
        try clear q26
        try clear q268
        try clear q27
        try clear q277
        try clear q279
        try clear q282
        obtain ⟨x20_4, rfl, HA, HK4, HO_12, HB⟩ := hrel
        cases gk with
        | zero => exact absurd HA.out (by simp [spec_QtyIn.l4])
        | succ k4 =>
         have H := HA.out
         clear HA
         simp only [spec_QtyIn.l4] at H
         by_cases c96 : x20_4 < (x12_3.length : Int)
         ·rw [if_pos c96] at H
          have c96b0 : decide (x20_4 < (x12_3.length : Int)) = true := decide_eq_true c96
          clear c96
          by_cases c97 : 0 ≤ x20_4
          case neg => rw [if_neg c97] at H; exact absurd H (by simp)
          rw [if_pos c97] at H
          have c97b0 : decide (0 ≤ x20_4) = true := decide_eq_true c97
          clear c97
          by_cases c98 : ((rd_T127 x12_3 x20_4).f0).toList = a3.toList
          ·rw [if_pos c98] at H
           have c98b0 : (((rd_T127 x12_3 x20_4).f0).toList == a3.toList) = true := beq_iff_eq.mpr c98
           have c98b1 : (((rd_T127 x12_3 x20_4).f0).toList != a3.toList) = false := bne_eq_false_iff_eq.mpr c98
           clear c98
           replace H := Option.bind_eq_some_iff.mp H
           obtain ⟨⟨t289, t290⟩, A990, H⟩ := H
           replace H : (some (t289, t290)) = some (r1, r2) := H
           have A99 := Aside0.mk A990
           clear A990
           simp only [Option.some.injEq, Prod.mk.injEq] at H
           obtain ⟨rfl, rfl⟩ := H
           have p286 : 0 ≤ (x20_4 : Int) := of_decide_eq_true (by first | (with_reducible assumption) | assumption)
           have q286 : x20_4 < (x12_3.length : Int) := of_decide_eq_true (by first | (with_reducible assumption) | assumption)
           obtain ⟨ad286, e286, hx286_0, hx286_1, hx286_2, hx286_3⟩ := at_T127 (Kd.R_reads' HO_12.out).2.2 x20_4 p286 q286
           cases e286
           replace p286 := eq_true p286
           replace q286 := eq_true q286
           have p287 : 0 ≤ (x20_4 : Int) := of_decide_eq_true (by first | (with_reducible assumption) | assumption)
           have q287 : x20_4 < (x12_3.length : Int) := of_decide_eq_true (by first | (with_reducible assumption) | assumption)
           obtain ⟨ad287, e287, hx287_0, hx287_1, hx287_2, hx287_3⟩ := at_T127 (Kd.R_reads' HO_12.out).2.2 x20_4 p287 q287
           obtain rfl : ad286 = ad287 := (by injection e287)
           replace p287 := eq_true p287
           replace q287 := eq_true q287
           have p288 : 0 ≤ (x20_4 : Int) := of_decide_eq_true (by first | (with_reducible assumption) | assumption)
           have q288 : x20_4 < (x12_3.length : Int) := of_decide_eq_true (by first | (with_reducible assumption) | assumption)
           obtain ⟨ad288, e288, hx288_0, hx288_1, hx288_2, hx288_3⟩ := at_T127 (Kd.R_reads' HO_12.out).2.2 x20_4 p288 q288
           obtain rfl : ad286 = ad288 := (by injection e288)
           replace p288 := eq_true p288
           replace q288 := eq_true q288
           go_wp2_with (first | (go_at_call 80; (with_reducible refine (spec_l15By.calls k4 a1 ((rd_T127 x12_3 x20_4).f1) ((rd_T127 x12_3 x20_4).f2) t289 t290 _ A99.out).mono ?_); rintro e w' ⟨rfl, ⟨nd, rfl⟩⟩; (try first | exact ⟨rfl, _, World.drewN_drewN _ _ _⟩ | exact ⟨rfl, _, Eq.trans (World.drewN_drewN _ _ _) (congrArg (World.drewN _) (Nat.add_assoc _ _ _))⟩)))
           repeat (go_quiet (first | (go_at_call 80; (with_reducible refine (spec_l15By.calls k4 a1 ((rd_T127 x12_3 x20_4).f1) ((rd_T127 x12_3 x20_4).f2) t289 t290 _ A99.out).mono ?_); rintro e w' ⟨rfl, ⟨nd, rfl⟩⟩; (try first | exact ⟨rfl, _, World.drewN_drewN _ _ _⟩ | exact ⟨rfl, _, Eq.trans (World.drewN_drewN _ _ _) (congrArg (World.drewN _) (Nat.add_assoc _ _ _))⟩))); try go_wp2_with (first | (go_at_call 80; (with_reducible refine (spec_l15By.calls k4 a1 ((rd_T127 x12_3 x20_4).f1) ((rd_T127 x12_3 x20_4).f2) t289 t290 _ A99.out).mono ?_); rintro e w' ⟨rfl, ⟨nd, rfl⟩⟩; (try first | exact ⟨rfl, _, World.drewN_drewN _ _ _⟩ | exact ⟨rfl, _, Eq.trans (World.drewN_drewN _ _ _) (congrArg (World.drewN _) (Nat.add_assoc _ _ _))⟩))))
           go_ret2
           exact ⟨by first | rfl | (simp [errW_none, errW_some] <;> rfl) | (simp [*, errW_none, errW_some] <;> rfl), by repeat (first | (with_reducible first | exact HB.out | apply qc0 | apply qa0 | apply qd0) | exact HB.out)⟩
          rw [if_neg c98] at H
          have c98b0 : (((rd_T127 x12_3 x20_4).f0).toList == a3.toList) = false := beq_eq_false_iff_ne.mpr c98
          have c98b1 : (((rd_T127 x12_3 x20_4).f0).toList != a3.toList) = true := bne_iff_ne.mpr c98
          have H' := Aside0.mk H
          clear H
          have p286 : 0 ≤ (x20_4 : Int) := of_decide_eq_true (by first | (with_reducible assumption) | assumption)
          have q286 : x20_4 < (x12_3.length : Int) := of_decide_eq_true (by first | (with_reducible assumption) | assumption)
          obtain ⟨ad286, e286, hx286_0, hx286_1, hx286_2, hx286_3⟩ := at_T127 (Kd.R_reads' HO_12.out).2.2 x20_4 p286 q286
          cases e286
          replace p286 := eq_true p286
          replace q286 := eq_true q286
          go_wp2
          repeat (go_quiet (fail); try go_wp2)
          go_roundg k4
          case measure => have := HJ4.out; have := HK2.out; have := HK3.out; have := HK4.out; omega
          case rel => exact ⟨(wrap64 (x20_4 + 1)), (by first | rfl | (simp; done) | (simp [*]; done)), H', ⟨by have := HJ4.out; have := HK2.out; have := HK3.out; have := HK4.out; omega⟩, ⟨by (with_reducible repeat (first | apply Kd.qk0 | apply Kd.qj0 | apply Kd.qm0)); exact HO_12.out⟩, ⟨by repeat (first | (with_reducible first | exact HB.out | apply qc0 | apply qa0 | apply qd0) | exact HB.out)⟩⟩
         rw [if_neg c96] at H
         have c96b0 : decide (x20_4 < (x12_3.length : Int)) = false := decide_eq_false c96
         clear c96
         simp only [Option.some.injEq, Prod.mk.injEq] at H
         obtain ⟨rfl, rfl⟩ := H
         go_wp2
         repeat (go_quiet (fail); try go_wp2)
         go_ret2
         exact ⟨by first | rfl | (simp [errW_none, errW_some] <;> rfl) | (simp [*, errW_none, errW_some] <;> rfl), by repeat (first | (with_reducible first | exact HB.out | apply qc0 | apply qa0 | apply qd0) | exact HB.out)⟩

end Go.Proofs.Ytkkdmmefnicmaaa.PFnUnits
